/- The reference's Parse: wrong streams, wrong sizes. -/
import Derived.Test.YtkmcakneceagpaaQFieldRef
set_option linter.unusedSimpArgs false
set_option linter.unusedVariables false
set_option maxHeartbeats 8000000
set_option maxRecDepth 100000
namespace Go.Proofs.Ytkmcakneceagpaa
open Go.RowKit
theorem rparseUnknown (T:Nat) (A:Option Addr) (n c:Nat) (l:List UInt8) (most:Int) (w:World) (hr:Rd w A n c l) (hn:n≤281474976710656) (hm:0≤most) (h9:¬ n < 9) (N:Nat) (hN:be (l.take 3)=N) (hb:¬ most < (N:Int)) (hc:¬ n < 9+N) (F S:Nat) (hT:(l.getD 3 0).toNat=T) (hF:(l.getD 4 0).toNat=F) (hS:be ((l.drop 5).take 4) % 2147483648=S) (hkn:knownB (T:Int)=false):Calls Try.prog 101 #[.slice A n c,.int .i64 most] w (ParseR ⟨f0S T F S 0,9+N,false,0,0,0⟩ w):=by
 have HKN:=Lib.hid hkn
 have HR:=Lib.hid hr
 have e:=head_of (l:=l) (by rw [hr.len]; exact h9)
 rw [hN,hT,hF,hS] at e
 have HN2:=Lib.hid (show N < 16777216 by have:=be_take_lt l 3; rw [hN] at this; have e3:(256:Nat) ^ 3=16777216:=(by decide); omega)
 have HH:=Lib.hid e
 clear hr e hT hF hS hN hkn
 go_enter Try.func101,Try.ntmps101
 go_wp2_with fail
 generalize hW:World.alloc _ _=w1
 have K1:Kp [] w w1:=by rw [← hW]; with_reducible (repeat (first|exact Kp.refl _ _|assumption|refine Kp.alloc ?_ _|refine Kp.drew ?_|refine Kp.drewN ?_ _|(refine Kp.setL ?_ ?_ _;focus (simp;done))|(refine Kp.setR ?_ ?_ _;focus (first|(simp;done)|(simp;omega)))))
 have HF:=Lib.hid (show w1.heap[w.heap.size]?=some (.cells #[.int .i64 0,.int .i64 0,.int .i64 0,.slice none 0 0,.int .i64 0,.int .u32 0,.int .i64 0,.int .i64 0,.int .i64 0,.bool false,.int .i64 0,.slice none 0 0] 49) by rw [← hW]; with_reducible (repeat (first|assumption|(refine hp_new _ _ _ ?_;focus (simp;done))|refine hpl ?_|(refine hpf ?_ ?_;focus (first|(simp;done)|(simp;omega)))|refine hpd ?_|refine hpe ?_)))
 have HX:=Lib.hid (show w1.heap[w.heap.size+1]?=some (.cells #[.bool false,.int .i64 0,.int .i64 0] 64) by rw [← hW]; with_reducible (repeat (first|assumption|(refine hp_new _ _ _ ?_;focus (simp;done))|refine hpl ?_|(refine hpf ?_ ?_;focus (first|(simp;done)|(simp;omega)))|refine hpd ?_|refine hpe ?_)))
 clear hW
 refine (refHead_big A n c l w1 hn (HR.out.keep K1 (by simp))).mono ?_
 rintro e w2 ⟨rfl,K2⟩
 rw [HH.out]
 dsimp only
 have HF2:=Lib.hid (K2.heap HF.out (by simp))
 have HX2:=Lib.hid (K2.heap HX.out (by simp))
 have HK2:=Lib.hid (K1.trans K2)
 clear HF HX K1 K2
 obtain ⟨q0,q1,q2,q3,q4,q5,q6,q7,q8,q9,q10,q11,qz,qlt,qlt2⟩:=cellsF HF2.out
 have x0:=cell_of HX2.out 0
 have x1:=cell_of HX2.out 1
 have x2:=cell_of HX2.out 2
 have xz:=frozen_of HX2.out
 have hN2:=HN2.out
 go_wp2_with fail
 generalize hW:World.alloc _ _=w3
 have K3:Kp [] w2 w3:=by rw [← hW]; with_reducible (repeat (first|exact Kp.refl _ _|assumption|refine Kp.alloc ?_ _|refine Kp.drew ?_|refine Kp.drewN ?_ _|(refine Kp.setL ?_ ?_ _;focus (simp;done))|(refine Kp.setR ?_ ?_ _;focus (first|(simp;done)|(simp;omega)))))
 have HB3:=Lib.hid (show w3.heap[w2.heap.size]?=some (.cells #[.int .i64 T,.int .i64 F,.int .i64 S,.slice none 0 0,.int .i64 0,.int .u32 0,.int .i64 0,.int .i64 0,.int .i64 0,.bool false,.int .i64 0,.slice none 0 0] 49) by rw [← hW]; with_reducible (repeat (first|assumption|(refine hp_new _ _ _ ?_;focus (simp;done))|refine hpl ?_|(refine hpf ?_ ?_;focus (first|(simp;done)|(simp;omega)))|refine hpd ?_|refine hpe ?_)))
 have HF3:=Lib.hid (K3.heap HF2.out (by simp))
 have HX3:=Lib.hid (K3.heap HX2.out (by simp))
 have HK3:=Lib.hid (HK2.out.trans K3)
 have hsw:=HK2.out.size
 have hlx:=lt_of_heap HX2.out
 clear hW K3 HF2 HX2 HK2 q0 q1 q2 q3 q4 q5 q6 q7 q8 q9 q10 q11 qz qlt qlt2 x0 x1 x2 xz
 refine (refKnown_any (T:Int) _).mono ?_
 rintro e w4 ⟨rfl,rfl⟩
 rw [HKN.out]
 obtain ⟨q0,q1,q2,q3,q4,q5,q6,q7,q8,q9,q10,q11,qz,qlt,qlt2⟩:=cellsF HF3.out
 obtain ⟨b0,b1,b2,b3,b4,b5,b6,b7,b8,b9,b10,b11,bz,blt,blt2⟩:=cellsF HB3.out
 have x0:=cell_of HX3.out 0
 have x1:=cell_of HX3.out 1
 have x2:=cell_of HX3.out 2
 have xz:=frozen_of HX3.out
 go_wp2
 generalize hW:World.setCell _ _ _=W
 obtain ⟨HF9,HX9,K9⟩:W.heap[w.heap.size]?=some (.cells #[.int .i64 T,.int .i64 F,.int .i64 S,.slice none 0 0,.int .i64 0,.int .u32 0,.int .i64 0,.int .i64 0,.int .i64 0,.bool false,.int .i64 0,.slice none 0 0] 49)∧W.heap[w.heap.size+1]?=some (.cells #[.bool false,.int .i64 0,.int .i64 0] 64)∧Kp [w.heap.size,w.heap.size+1] w3 W:=by rw [← hW]; exact set15 (by omega) HF3.out HX3.out
 refine bodyPost_ret (v:=.tuple #[.agg #[.int .i64 T,.int .i64 F,.int .i64 S,.slice none 0 0,.int .i64 0,.int .u32 0,.int .i64 0,.int .i64 0,.int .i64 0,.bool false,.int .i64 0,.slice none 0 0],.int .i64 (9+(N:Int)),.agg #[.bool false,.int .i64 0,.int .i64 0],.int .i64 0]) (by simp [results,Try.results101,go_sem,cell_of HF9,cell_of HX9]) rfl ⟨(⟨T,F,S,none,0,0,0,0,0,0,0,false,0,none,0,0⟩:Fr),rfl,⟨rfl,Rd.nil _ _ _,Sd.nil _,by simp [ob],by simp [ob]⟩,(HK3.out.then K9 (by simp))⟩
theorem rparseWrong (T:Nat) (A:Option Addr) (n c:Nat) (l:List UInt8) (most:Int) (w:World) (hr:Rd w A n c l) (hn:n≤281474976710656) (hm:0≤most) (h9:¬ n < 9) (N:Nat) (hN:be (l.take 3)=N) (hb:¬ most < (N:Int)) (hc:¬ n < 9+N) (F S:Nat) (hT:(l.getD 3 0).toNat=T) (hF:(l.getD 4 0).toNat=F) (hS:be ((l.drop 5).take 4) % 2147483648=S) (hkn:knownB (T:Int)=true) (hrg:∀ w,Calls Try.prog 153 #[.int .i64 T,.int .i64 S] w (BoolR (rightB T S) w)) (hri:rightB T S=false):Calls Try.prog 101 #[.slice A n c,.int .i64 most] w (ParseR (.bad (9+N) 0 1) w):=by
 have HKN:=Lib.hid hkn
 have HRG:=Lib.hid hrg
 have HRI:=Lib.hid hri
 have HR:=Lib.hid hr
 have e:=head_of (l:=l) (by rw [hr.len]; exact h9)
 rw [hN,hT,hF,hS] at e
 have HN2:=Lib.hid (show N < 16777216 by have:=be_take_lt l 3; rw [hN] at this; have e3:(256:Nat) ^ 3=16777216:=(by decide); omega)
 have HH:=Lib.hid e
 clear hr e hT hF hS hN hkn hrg hri
 go_enter Try.func101,Try.ntmps101
 go_wp2_with fail
 generalize hW:World.alloc _ _=w1
 have K1:Kp [] w w1:=by rw [← hW]; with_reducible (repeat (first|exact Kp.refl _ _|assumption|refine Kp.alloc ?_ _|refine Kp.drew ?_|refine Kp.drewN ?_ _|(refine Kp.setL ?_ ?_ _;focus (simp;done))|(refine Kp.setR ?_ ?_ _;focus (first|(simp;done)|(simp;omega)))))
 have HF:=Lib.hid (show w1.heap[w.heap.size]?=some (.cells #[.int .i64 0,.int .i64 0,.int .i64 0,.slice none 0 0,.int .i64 0,.int .u32 0,.int .i64 0,.int .i64 0,.int .i64 0,.bool false,.int .i64 0,.slice none 0 0] 49) by rw [← hW]; with_reducible (repeat (first|assumption|(refine hp_new _ _ _ ?_;focus (simp;done))|refine hpl ?_|(refine hpf ?_ ?_;focus (first|(simp;done)|(simp;omega)))|refine hpd ?_|refine hpe ?_)))
 have HX:=Lib.hid (show w1.heap[w.heap.size+1]?=some (.cells #[.bool false,.int .i64 0,.int .i64 0] 64) by rw [← hW]; with_reducible (repeat (first|assumption|(refine hp_new _ _ _ ?_;focus (simp;done))|refine hpl ?_|(refine hpf ?_ ?_;focus (first|(simp;done)|(simp;omega)))|refine hpd ?_|refine hpe ?_)))
 clear hW
 refine (refHead_big A n c l w1 hn (HR.out.keep K1 (by simp))).mono ?_
 rintro e w2 ⟨rfl,K2⟩
 rw [HH.out]
 dsimp only
 have HF2:=Lib.hid (K2.heap HF.out (by simp))
 have HX2:=Lib.hid (K2.heap HX.out (by simp))
 have HK2:=Lib.hid (K1.trans K2)
 clear HF HX K1 K2
 obtain ⟨q0,q1,q2,q3,q4,q5,q6,q7,q8,q9,q10,q11,qz,qlt,qlt2⟩:=cellsF HF2.out
 have x0:=cell_of HX2.out 0
 have x1:=cell_of HX2.out 1
 have x2:=cell_of HX2.out 2
 have xz:=frozen_of HX2.out
 have hN2:=HN2.out
 go_wp2_with fail
 generalize hW:World.alloc _ _=w3
 have K3:Kp [] w2 w3:=by rw [← hW]; with_reducible (repeat (first|exact Kp.refl _ _|assumption|refine Kp.alloc ?_ _|refine Kp.drew ?_|refine Kp.drewN ?_ _|(refine Kp.setL ?_ ?_ _;focus (simp;done))|(refine Kp.setR ?_ ?_ _;focus (first|(simp;done)|(simp;omega)))))
 have HB3:=Lib.hid (show w3.heap[w2.heap.size]?=some (.cells #[.int .i64 T,.int .i64 F,.int .i64 S,.slice none 0 0,.int .i64 0,.int .u32 0,.int .i64 0,.int .i64 0,.int .i64 0,.bool false,.int .i64 0,.slice none 0 0] 49) by rw [← hW]; with_reducible (repeat (first|assumption|(refine hp_new _ _ _ ?_;focus (simp;done))|refine hpl ?_|(refine hpf ?_ ?_;focus (first|(simp;done)|(simp;omega)))|refine hpd ?_|refine hpe ?_)))
 have HF3:=Lib.hid (K3.heap HF2.out (by simp))
 have HX3:=Lib.hid (K3.heap HX2.out (by simp))
 have HK3:=Lib.hid (HK2.out.trans K3)
 have hsw:=HK2.out.size
 have hlx:=lt_of_heap HX2.out
 clear hW K3 HF2 HX2 HK2 q0 q1 q2 q3 q4 q5 q6 q7 q8 q9 q10 q11 qz qlt qlt2 x0 x1 x2 xz
 refine (refKnown_any (T:Int) _).mono ?_
 rintro e w4 ⟨rfl,rfl⟩
 rw [HKN.out]
 obtain ⟨q0,q1,q2,q3,q4,q5,q6,q7,q8,q9,q10,q11,qz,qlt,qlt2⟩:=cellsF HF3.out
 obtain ⟨b0,b1,b2,b3,b4,b5,b6,b7,b8,b9,b10,b11,bz,blt,blt2⟩:=cellsF HB3.out
 have x0:=cell_of HX3.out 0
 have x1:=cell_of HX3.out 1
 have x2:=cell_of HX3.out 2
 have xz:=frozen_of HX3.out
 go_wp2_with fail
 refine (HRG.out _).mono ?_
 rintro e w4 ⟨rfl,rfl⟩
 rw [HRI.out]
 go_wp2_with fail
 refine (rfault 1 _).mono ?_
 rintro e w5 ⟨rfl,K5⟩
 have HB5:=Lib.hid (K5.heap HB3.out (by simp))
 have HF5:=Lib.hid (K5.heap HF3.out (by simp))
 have HX5:=Lib.hid (K5.heap HX3.out (by simp))
 have HK5:=Lib.hid (HK3.out.trans K5)
 clear HB3 HF3 HX3 HK3 K5
 clear q0 q1 q2 q3 q4 q5 q6 q7 q8 q9 q10 q11 qz qlt qlt2 b0 b1 b2 b3 b4 b5 b6 b7 b8 b9 b10 b11 bz blt blt2 x0 x1 x2 xz
 obtain ⟨q0,q1,q2,q3,q4,q5,q6,q7,q8,q9,q10,q11,qz,qlt,qlt2⟩:=cellsF HF5.out
 obtain ⟨b0,b1,b2,b3,b4,b5,b6,b7,b8,b9,b10,b11,bz,blt,blt2⟩:=cellsF HB5.out
 have x0:=cell_of HX5.out 0
 have x1:=cell_of HX5.out 1
 have x2:=cell_of HX5.out 2
 have xz:=frozen_of HX5.out
 go_wp2
 generalize hW:World.setCell _ _ _=W
 obtain ⟨HF9,HX9,K9⟩:W.heap[w.heap.size]?=some (.cells #[.int .i64 0,.int .i64 0,.int .i64 0,.slice none 0 0,.int .i64 0,.int .u32 0,.int .i64 0,.int .i64 0,.int .i64 0,.bool false,.int .i64 0,.slice none 0 0] 49)∧W.heap[w.heap.size+1]?=some (.cells #[.bool true,.int .i64 0,.int .i64 1] 64)∧Kp [w.heap.size,w.heap.size+1] w5 W:=by rw [← hW]; exact set15 (by omega) HF5.out HX5.out
 refine bodyPost_ret (v:=.tuple #[.agg #[.int .i64 0,.int .i64 0,.int .i64 0,.slice none 0 0,.int .i64 0,.int .u32 0,.int .i64 0,.int .i64 0,.int .i64 0,.bool false,.int .i64 0,.slice none 0 0],.int .i64 (9+(N:Int)),.agg #[.bool true,.int .i64 0,.int .i64 1],.int .i64 0]) (by simp [results,Try.results101,go_sem,cell_of HF9,cell_of HX9]) rfl ⟨(⟨0,0,0,none,0,0,0,0,0,0,0,false,0,none,0,0⟩:Fr),rfl,FrP.zero _ _,(HK5.out.then K9 (by simp))⟩
theorem rparseSz (T:Nat) (A:Option Addr) (n c:Nat) (l:List UInt8) (most:Int) (w:World) (hr:Rd w A n c l) (hn:n≤281474976710656) (hm:0≤most) (h9:¬ n < 9) (N:Nat) (hN:be (l.take 3)=N) (hb:¬ most < (N:Int)) (hc:¬ n < 9+N) (F S:Nat) (hT:(l.getD 3 0).toNat=T) (hF:(l.getD 4 0).toNat=F) (hS:be ((l.drop 5).take 4) % 2147483648=S) (hkn:knownB (T:Int)=true) (hrg:∀ w,Calls Try.prog 153 #[.int .i64 T,.int .i64 S] w (BoolR (rightB T S) w)) (hri:rightB T S=true) (hsz:∀ w,Calls Try.prog 154 #[.agg #[.int .i64 T,.int .i64 F,.int .i64 S,.slice none 0 0,.int .i64 0,.int .u32 0,.int .i64 0,.int .i64 0,.int .i64 0,.bool false,.int .i64 0,.slice none 0 0],.int .i64 N] w (BoolK (!fitsB T F N) w)) (hft:fitsB T F N=false) (hT2:¬ T=2):Calls Try.prog 101 #[.slice A n c,.int .i64 most] w (ParseR (.bad (9+N) 0 6) w):=by
 have ht2:((T:Int) == 2)=false:=by simp; omega
 have HKN:=Lib.hid hkn
 have HRG:=Lib.hid hrg
 have HRI:=Lib.hid hri
 have HSZ:=Lib.hid hsz
 have HFT:=Lib.hid hft
 have HR:=Lib.hid hr
 have e:=head_of (l:=l) (by rw [hr.len]; exact h9)
 rw [hN,hT,hF,hS] at e
 have HN2:=Lib.hid (show N < 16777216 by have:=be_take_lt l 3; rw [hN] at this; have e3:(256:Nat) ^ 3=16777216:=(by decide); omega)
 have HH:=Lib.hid e
 clear hr e hT hF hS hN hkn hrg hri hsz hft
 go_enter Try.func101,Try.ntmps101
 go_wp2_with fail
 generalize hW:World.alloc _ _=w1
 have K1:Kp [] w w1:=by rw [← hW]; with_reducible (repeat (first|exact Kp.refl _ _|assumption|refine Kp.alloc ?_ _|refine Kp.drew ?_|refine Kp.drewN ?_ _|(refine Kp.setL ?_ ?_ _;focus (simp;done))|(refine Kp.setR ?_ ?_ _;focus (first|(simp;done)|(simp;omega)))))
 have HF:=Lib.hid (show w1.heap[w.heap.size]?=some (.cells #[.int .i64 0,.int .i64 0,.int .i64 0,.slice none 0 0,.int .i64 0,.int .u32 0,.int .i64 0,.int .i64 0,.int .i64 0,.bool false,.int .i64 0,.slice none 0 0] 49) by rw [← hW]; with_reducible (repeat (first|assumption|(refine hp_new _ _ _ ?_;focus (simp;done))|refine hpl ?_|(refine hpf ?_ ?_;focus (first|(simp;done)|(simp;omega)))|refine hpd ?_|refine hpe ?_)))
 have HX:=Lib.hid (show w1.heap[w.heap.size+1]?=some (.cells #[.bool false,.int .i64 0,.int .i64 0] 64) by rw [← hW]; with_reducible (repeat (first|assumption|(refine hp_new _ _ _ ?_;focus (simp;done))|refine hpl ?_|(refine hpf ?_ ?_;focus (first|(simp;done)|(simp;omega)))|refine hpd ?_|refine hpe ?_)))
 clear hW
 refine (refHead_big A n c l w1 hn (HR.out.keep K1 (by simp))).mono ?_
 rintro e w2 ⟨rfl,K2⟩
 rw [HH.out]
 dsimp only
 have HF2:=Lib.hid (K2.heap HF.out (by simp))
 have HX2:=Lib.hid (K2.heap HX.out (by simp))
 have HK2:=Lib.hid (K1.trans K2)
 clear HF HX K1 K2
 obtain ⟨q0,q1,q2,q3,q4,q5,q6,q7,q8,q9,q10,q11,qz,qlt,qlt2⟩:=cellsF HF2.out
 have x0:=cell_of HX2.out 0
 have x1:=cell_of HX2.out 1
 have x2:=cell_of HX2.out 2
 have xz:=frozen_of HX2.out
 have hN2:=HN2.out
 go_wp2_with fail
 generalize hW:World.alloc _ _=w3
 have K3:Kp [] w2 w3:=by rw [← hW]; with_reducible (repeat (first|exact Kp.refl _ _|assumption|refine Kp.alloc ?_ _|refine Kp.drew ?_|refine Kp.drewN ?_ _|(refine Kp.setL ?_ ?_ _;focus (simp;done))|(refine Kp.setR ?_ ?_ _;focus (first|(simp;done)|(simp;omega)))))
 have HB3:=Lib.hid (show w3.heap[w2.heap.size]?=some (.cells #[.int .i64 T,.int .i64 F,.int .i64 S,.slice none 0 0,.int .i64 0,.int .u32 0,.int .i64 0,.int .i64 0,.int .i64 0,.bool false,.int .i64 0,.slice none 0 0] 49) by rw [← hW]; with_reducible (repeat (first|assumption|(refine hp_new _ _ _ ?_;focus (simp;done))|refine hpl ?_|(refine hpf ?_ ?_;focus (first|(simp;done)|(simp;omega)))|refine hpd ?_|refine hpe ?_)))
 have HF3:=Lib.hid (K3.heap HF2.out (by simp))
 have HX3:=Lib.hid (K3.heap HX2.out (by simp))
 have HK3:=Lib.hid (HK2.out.trans K3)
 have hsw:=HK2.out.size
 have hlx:=lt_of_heap HX2.out
 clear hW K3 HF2 HX2 HK2 q0 q1 q2 q3 q4 q5 q6 q7 q8 q9 q10 q11 qz qlt qlt2 x0 x1 x2 xz
 refine (refKnown_any (T:Int) _).mono ?_
 rintro e w4 ⟨rfl,rfl⟩
 rw [HKN.out]
 obtain ⟨q0,q1,q2,q3,q4,q5,q6,q7,q8,q9,q10,q11,qz,qlt,qlt2⟩:=cellsF HF3.out
 obtain ⟨b0,b1,b2,b3,b4,b5,b6,b7,b8,b9,b10,b11,bz,blt,blt2⟩:=cellsF HB3.out
 have x0:=cell_of HX3.out 0
 have x1:=cell_of HX3.out 1
 have x2:=cell_of HX3.out 2
 have xz:=frozen_of HX3.out
 go_wp2_with fail
 refine (HRG.out _).mono ?_
 rintro e w4 ⟨rfl,rfl⟩
 rw [HRI.out]
 go_wp2_with fail
 refine (rfault 6 _).mono ?_
 rintro e w5 ⟨rfl,K5⟩
 have HB5:=Lib.hid (K5.heap HB3.out (by simp))
 have HF5:=Lib.hid (K5.heap HF3.out (by simp))
 have HX5:=Lib.hid (K5.heap HX3.out (by simp))
 have HK5:=Lib.hid (HK3.out.trans K5)
 clear HB3 HF3 HX3 HK3 K5
 clear q0 q1 q2 q3 q4 q5 q6 q7 q8 q9 q10 q11 qz qlt qlt2 b0 b1 b2 b3 b4 b5 b6 b7 b8 b9 b10 b11 bz blt blt2 x0 x1 x2 xz
 obtain ⟨q0,q1,q2,q3,q4,q5,q6,q7,q8,q9,q10,q11,qz,qlt,qlt2⟩:=cellsF HF5.out
 obtain ⟨b0,b1,b2,b3,b4,b5,b6,b7,b8,b9,b10,b11,bz,blt,blt2⟩:=cellsF HB5.out
 have x0:=cell_of HX5.out 0
 have x1:=cell_of HX5.out 1
 have x2:=cell_of HX5.out 2
 have xz:=frozen_of HX5.out
 have hw5:=lt_of_heap HB5.out
 go_wp2_with fail
 generalize hW:World.alloc _ _=w6
 have K6:Kp [] w5 w6:=by rw [← hW]; with_reducible (repeat (first|exact Kp.refl _ _|assumption|refine Kp.alloc ?_ _|refine Kp.drew ?_|refine Kp.drewN ?_ _|(refine Kp.setL ?_ ?_ _;focus (simp;done))|(refine Kp.setR ?_ ?_ _;focus (first|(simp;done)|(simp;omega)))))
 have HT6:=Lib.hid (show w6.heap[w5.heap.size]?=some (.cells #[.bool true,.int .i64 0,.int .i64 6] 64) by rw [← hW]; with_reducible (repeat (first|assumption|(refine hp_new _ _ _ ?_;focus (simp;done))|refine hpl ?_|(refine hpf ?_ ?_;focus (first|(simp;done)|(simp;omega)))|refine hpd ?_|refine hpe ?_)))
 clear hW
 have HB6:=Lib.hid (K6.heap HB5.out (by simp))
 have HF6:=Lib.hid (K6.heap HF5.out (by simp))
 have HX6:=Lib.hid (K6.heap HX5.out (by simp))
 have HK6:=Lib.hid (HK5.out.trans K6)
 clear HB5 HF5 HX5 HK5 K6
 clear q0 q1 q2 q3 q4 q5 q6 q7 q8 q9 q10 q11 qz qlt qlt2 b0 b1 b2 b3 b4 b5 b6 b7 b8 b9 b10 b11 bz blt blt2 x0 x1 x2 xz
 obtain ⟨q0,q1,q2,q3,q4,q5,q6,q7,q8,q9,q10,q11,qz,qlt,qlt2⟩:=cellsF HF6.out
 obtain ⟨b0,b1,b2,b3,b4,b5,b6,b7,b8,b9,b10,b11,bz,blt,blt2⟩:=cellsF HB6.out
 have x0:=cell_of HX6.out 0
 have x1:=cell_of HX6.out 1
 have x2:=cell_of HX6.out 2
 have xz:=frozen_of HX6.out
 refine (HSZ.out _).mono ?_
 rintro e w7 ⟨rfl,K7⟩
 rw [HFT.out]
 have HT7:=Lib.hid (K7.heap HT6.out (by simp))
 clear HT6
 have HB7:=Lib.hid (K7.heap HB6.out (by simp))
 have HF7:=Lib.hid (K7.heap HF6.out (by simp))
 have HX7:=Lib.hid (K7.heap HX6.out (by simp))
 have HK7:=Lib.hid (HK6.out.trans K7)
 clear HB6 HF6 HX6 HK6 K7
 clear q0 q1 q2 q3 q4 q5 q6 q7 q8 q9 q10 q11 qz qlt qlt2 b0 b1 b2 b3 b4 b5 b6 b7 b8 b9 b10 b11 bz blt blt2 x0 x1 x2 xz
 obtain ⟨q0,q1,q2,q3,q4,q5,q6,q7,q8,q9,q10,q11,qz,qlt,qlt2⟩:=cellsF HF7.out
 obtain ⟨b0,b1,b2,b3,b4,b5,b6,b7,b8,b9,b10,b11,bz,blt,blt2⟩:=cellsF HB7.out
 have x0:=cell_of HX7.out 0
 have x1:=cell_of HX7.out 1
 have x2:=cell_of HX7.out 2
 have xz:=frozen_of HX7.out
 have t0:=cell_of HT7.out 0
 have t1:=cell_of HT7.out 1
 have t2:=cell_of HT7.out 2
 have tz:=frozen_of HT7.out
 have tl:=lt_of_heap HT7.out
 go_wp2
 go_region
 go_wp2
 generalize hW:World.setCell _ _ _=W
 obtain ⟨HF9,HX9,K9⟩:W.heap[w.heap.size]?=some (.cells #[.int .i64 0,.int .i64 0,.int .i64 0,.slice none 0 0,.int .i64 0,.int .u32 0,.int .i64 0,.int .i64 0,.int .i64 0,.bool false,.int .i64 0,.slice none 0 0] 49)∧W.heap[w.heap.size+1]?=some (.cells #[.bool true,.int .i64 0,.int .i64 6] 64)∧Kp [w.heap.size,w.heap.size+1] w7 W:=by rw [← hW]; exact set15 (by omega) HF7.out HX7.out
 refine bodyPost_ret (v:=.tuple #[.agg #[.int .i64 0,.int .i64 0,.int .i64 0,.slice none 0 0,.int .i64 0,.int .u32 0,.int .i64 0,.int .i64 0,.int .i64 0,.bool false,.int .i64 0,.slice none 0 0],.int .i64 (9+(N:Int)),.agg #[.bool true,.int .i64 0,.int .i64 6],.int .i64 0]) (by simp [results,Try.results101,go_sem,cell_of HF9,cell_of HX9]) rfl ⟨(⟨0,0,0,none,0,0,0,0,0,0,0,false,0,none,0,0⟩:Fr),rfl,FrP.zero _ _,(HK7.out.then K9 (by simp)).drew⟩
theorem rparseSz2 (T:Nat) (A:Option Addr) (n c:Nat) (l:List UInt8) (most:Int) (w:World) (hr:Rd w A n c l) (hn:n≤281474976710656) (hm:0≤most) (h9:¬ n < 9) (N:Nat) (hN:be (l.take 3)=N) (hb:¬ most < (N:Int)) (hc:¬ n < 9+N) (F S:Nat) (hT:(l.getD 3 0).toNat=T) (hF:(l.getD 4 0).toNat=F) (hS:be ((l.drop 5).take 4) % 2147483648=S) (hkn:knownB (T:Int)=true) (hrg:∀ w,Calls Try.prog 153 #[.int .i64 T,.int .i64 S] w (BoolR (rightB T S) w)) (hri:rightB T S=true) (hsz:∀ w,Calls Try.prog 154 #[.agg #[.int .i64 T,.int .i64 F,.int .i64 S,.slice none 0 0,.int .i64 0,.int .u32 0,.int .i64 0,.int .i64 0,.int .i64 0,.bool false,.int .i64 0,.slice none 0 0],.int .i64 N] w (BoolK (!fitsB T F N) w)) (hft:fitsB T F N=false) (hT2:T=2):Calls Try.prog 101 #[.slice A n c,.int .i64 most] w (ParseR (.bad (9+N) S 6) w):=by
 subst hT2
 have HKN:=Lib.hid hkn
 have HRG:=Lib.hid hrg
 have HRI:=Lib.hid hri
 have HSZ:=Lib.hid hsz
 have HFT:=Lib.hid hft
 have HR:=Lib.hid hr
 have e:=head_of (l:=l) (by rw [hr.len]; exact h9)
 rw [hN,hT,hF,hS] at e
 have HN2:=Lib.hid (show N < 16777216 by have:=be_take_lt l 3; rw [hN] at this; have e3:(256:Nat) ^ 3=16777216:=(by decide); omega)
 have HH:=Lib.hid e
 clear hr e hT hF hS hN hkn hrg hri hsz hft
 go_enter Try.func101,Try.ntmps101
 go_wp2_with fail
 generalize hW:World.alloc _ _=w1
 have K1:Kp [] w w1:=by rw [← hW]; with_reducible (repeat (first|exact Kp.refl _ _|assumption|refine Kp.alloc ?_ _|refine Kp.drew ?_|refine Kp.drewN ?_ _|(refine Kp.setL ?_ ?_ _;focus (simp;done))|(refine Kp.setR ?_ ?_ _;focus (first|(simp;done)|(simp;omega)))))
 have HF:=Lib.hid (show w1.heap[w.heap.size]?=some (.cells #[.int .i64 0,.int .i64 0,.int .i64 0,.slice none 0 0,.int .i64 0,.int .u32 0,.int .i64 0,.int .i64 0,.int .i64 0,.bool false,.int .i64 0,.slice none 0 0] 49) by rw [← hW]; with_reducible (repeat (first|assumption|(refine hp_new _ _ _ ?_;focus (simp;done))|refine hpl ?_|(refine hpf ?_ ?_;focus (first|(simp;done)|(simp;omega)))|refine hpd ?_|refine hpe ?_)))
 have HX:=Lib.hid (show w1.heap[w.heap.size+1]?=some (.cells #[.bool false,.int .i64 0,.int .i64 0] 64) by rw [← hW]; with_reducible (repeat (first|assumption|(refine hp_new _ _ _ ?_;focus (simp;done))|refine hpl ?_|(refine hpf ?_ ?_;focus (first|(simp;done)|(simp;omega)))|refine hpd ?_|refine hpe ?_)))
 clear hW
 refine (refHead_big A n c l w1 hn (HR.out.keep K1 (by simp))).mono ?_
 rintro e w2 ⟨rfl,K2⟩
 rw [HH.out]
 dsimp only
 have HF2:=Lib.hid (K2.heap HF.out (by simp))
 have HX2:=Lib.hid (K2.heap HX.out (by simp))
 have HK2:=Lib.hid (K1.trans K2)
 clear HF HX K1 K2
 obtain ⟨q0,q1,q2,q3,q4,q5,q6,q7,q8,q9,q10,q11,qz,qlt,qlt2⟩:=cellsF HF2.out
 have x0:=cell_of HX2.out 0
 have x1:=cell_of HX2.out 1
 have x2:=cell_of HX2.out 2
 have xz:=frozen_of HX2.out
 have hN2:=HN2.out
 go_wp2_with fail
 generalize hW:World.alloc _ _=w3
 have K3:Kp [] w2 w3:=by rw [← hW]; with_reducible (repeat (first|exact Kp.refl _ _|assumption|refine Kp.alloc ?_ _|refine Kp.drew ?_|refine Kp.drewN ?_ _|(refine Kp.setL ?_ ?_ _;focus (simp;done))|(refine Kp.setR ?_ ?_ _;focus (first|(simp;done)|(simp;omega)))))
 have HB3:=Lib.hid (show w3.heap[w2.heap.size]?=some (.cells #[.int .i64 2,.int .i64 F,.int .i64 S,.slice none 0 0,.int .i64 0,.int .u32 0,.int .i64 0,.int .i64 0,.int .i64 0,.bool false,.int .i64 0,.slice none 0 0] 49) by rw [← hW]; with_reducible (repeat (first|assumption|(refine hp_new _ _ _ ?_;focus (simp;done))|refine hpl ?_|(refine hpf ?_ ?_;focus (first|(simp;done)|(simp;omega)))|refine hpd ?_|refine hpe ?_)))
 have HF3:=Lib.hid (K3.heap HF2.out (by simp))
 have HX3:=Lib.hid (K3.heap HX2.out (by simp))
 have HK3:=Lib.hid (HK2.out.trans K3)
 have hsw:=HK2.out.size
 have hlx:=lt_of_heap HX2.out
 clear hW K3 HF2 HX2 HK2 q0 q1 q2 q3 q4 q5 q6 q7 q8 q9 q10 q11 qz qlt qlt2 x0 x1 x2 xz
 refine (refKnown_any 2 _).mono ?_
 rintro e w4 ⟨rfl,rfl⟩
 rw [show knownB 2=true from rfl]
 obtain ⟨q0,q1,q2,q3,q4,q5,q6,q7,q8,q9,q10,q11,qz,qlt,qlt2⟩:=cellsF HF3.out
 obtain ⟨b0,b1,b2,b3,b4,b5,b6,b7,b8,b9,b10,b11,bz,blt,blt2⟩:=cellsF HB3.out
 have x0:=cell_of HX3.out 0
 have x1:=cell_of HX3.out 1
 have x2:=cell_of HX3.out 2
 have xz:=frozen_of HX3.out
 go_wp2_with fail
 refine (HRG.out _).mono ?_
 rintro e w4 ⟨rfl,rfl⟩
 rw [HRI.out]
 go_wp2_with fail
 refine (rfault 6 _).mono ?_
 rintro e w5 ⟨rfl,K5⟩
 have HB5:=Lib.hid (K5.heap HB3.out (by simp))
 have HF5:=Lib.hid (K5.heap HF3.out (by simp))
 have HX5:=Lib.hid (K5.heap HX3.out (by simp))
 have HK5:=Lib.hid (HK3.out.trans K5)
 clear HB3 HF3 HX3 HK3 K5
 clear q0 q1 q2 q3 q4 q5 q6 q7 q8 q9 q10 q11 qz qlt qlt2 b0 b1 b2 b3 b4 b5 b6 b7 b8 b9 b10 b11 bz blt blt2 x0 x1 x2 xz
 obtain ⟨q0,q1,q2,q3,q4,q5,q6,q7,q8,q9,q10,q11,qz,qlt,qlt2⟩:=cellsF HF5.out
 obtain ⟨b0,b1,b2,b3,b4,b5,b6,b7,b8,b9,b10,b11,bz,blt,blt2⟩:=cellsF HB5.out
 have x0:=cell_of HX5.out 0
 have x1:=cell_of HX5.out 1
 have x2:=cell_of HX5.out 2
 have xz:=frozen_of HX5.out
 have hw5:=lt_of_heap HB5.out
 go_wp2_with fail
 generalize hW:World.alloc _ _=w6
 have K6:Kp [] w5 w6:=by rw [← hW]; with_reducible (repeat (first|exact Kp.refl _ _|assumption|refine Kp.alloc ?_ _|refine Kp.drew ?_|refine Kp.drewN ?_ _|(refine Kp.setL ?_ ?_ _;focus (simp;done))|(refine Kp.setR ?_ ?_ _;focus (first|(simp;done)|(simp;omega)))))
 have HT6:=Lib.hid (show w6.heap[w5.heap.size]?=some (.cells #[.bool true,.int .i64 S,.int .i64 6] 64) by rw [← hW]; with_reducible (repeat (first|assumption|(refine hp_new _ _ _ ?_;focus (simp;done))|refine hpl ?_|(refine hpf ?_ ?_;focus (first|(simp;done)|(simp;omega)))|refine hpd ?_|refine hpe ?_)))
 clear hW
 have HB6:=Lib.hid (K6.heap HB5.out (by simp))
 have HF6:=Lib.hid (K6.heap HF5.out (by simp))
 have HX6:=Lib.hid (K6.heap HX5.out (by simp))
 have HK6:=Lib.hid (HK5.out.trans K6)
 clear HB5 HF5 HX5 HK5 K6
 clear q0 q1 q2 q3 q4 q5 q6 q7 q8 q9 q10 q11 qz qlt qlt2 b0 b1 b2 b3 b4 b5 b6 b7 b8 b9 b10 b11 bz blt blt2 x0 x1 x2 xz
 obtain ⟨q0,q1,q2,q3,q4,q5,q6,q7,q8,q9,q10,q11,qz,qlt,qlt2⟩:=cellsF HF6.out
 obtain ⟨b0,b1,b2,b3,b4,b5,b6,b7,b8,b9,b10,b11,bz,blt,blt2⟩:=cellsF HB6.out
 have x0:=cell_of HX6.out 0
 have x1:=cell_of HX6.out 1
 have x2:=cell_of HX6.out 2
 have xz:=frozen_of HX6.out
 refine (HSZ.out _).mono ?_
 rintro e w7 ⟨rfl,K7⟩
 rw [HFT.out]
 have HT7:=Lib.hid (K7.heap HT6.out (by simp))
 clear HT6
 have HB7:=Lib.hid (K7.heap HB6.out (by simp))
 have HF7:=Lib.hid (K7.heap HF6.out (by simp))
 have HX7:=Lib.hid (K7.heap HX6.out (by simp))
 have HK7:=Lib.hid (HK6.out.trans K7)
 clear HB6 HF6 HX6 HK6 K7
 clear q0 q1 q2 q3 q4 q5 q6 q7 q8 q9 q10 q11 qz qlt qlt2 b0 b1 b2 b3 b4 b5 b6 b7 b8 b9 b10 b11 bz blt blt2 x0 x1 x2 xz
 obtain ⟨q0,q1,q2,q3,q4,q5,q6,q7,q8,q9,q10,q11,qz,qlt,qlt2⟩:=cellsF HF7.out
 obtain ⟨b0,b1,b2,b3,b4,b5,b6,b7,b8,b9,b10,b11,bz,blt,blt2⟩:=cellsF HB7.out
 have x0:=cell_of HX7.out 0
 have x1:=cell_of HX7.out 1
 have x2:=cell_of HX7.out 2
 have xz:=frozen_of HX7.out
 have t0:=cell_of HT7.out 0
 have t1:=cell_of HT7.out 1
 have t2:=cell_of HT7.out 2
 have tz:=frozen_of HT7.out
 have tl:=lt_of_heap HT7.out
 go_wp2
 go_region
 go_wp2
 generalize hW:World.setCell _ _ _=W
 obtain ⟨HF9,HX9,K9⟩:W.heap[w.heap.size]?=some (.cells #[.int .i64 0,.int .i64 0,.int .i64 0,.slice none 0 0,.int .i64 0,.int .u32 0,.int .i64 0,.int .i64 0,.int .i64 0,.bool false,.int .i64 0,.slice none 0 0] 49)∧W.heap[w.heap.size+1]?=some (.cells #[.bool true,.int .i64 S,.int .i64 6] 64)∧Kp [w.heap.size,w.heap.size+1] w7 W:=by rw [← hW]; exact set15 (by omega) HF7.out HX7.out
 refine bodyPost_ret (v:=.tuple #[.agg #[.int .i64 0,.int .i64 0,.int .i64 0,.slice none 0 0,.int .i64 0,.int .u32 0,.int .i64 0,.int .i64 0,.int .i64 0,.bool false,.int .i64 0,.slice none 0 0],.int .i64 (9+(N:Int)),.agg #[.bool true,.int .i64 S,.int .i64 6],.int .i64 0]) (by simp [results,Try.results101,go_sem,cell_of HF9,cell_of HX9]) rfl ⟨(⟨0,0,0,none,0,0,0,0,0,0,0,false,0,none,0,0⟩:Fr),rfl,FrP.zero _ _,(HK7.out.then K9 (by simp)).drew⟩
end Go.Proofs.Ytkmcakneceagpaa
