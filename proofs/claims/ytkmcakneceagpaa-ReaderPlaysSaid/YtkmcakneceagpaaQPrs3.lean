/- frame.Parse: a frame of a known type, whose stream or size is not as its type asks. frame.Parse: a frame of a known type, whose size is not as its type asks. frame.Parse: a frame of a known type, whose padding can't be. -/
import Derived.Test.YtkmcakneceagpaaQPrsV
set_option linter.unusedSimpArgs false
set_option linter.unusedVariables false
set_option maxHeartbeats 8000000
set_option maxRecDepth 100000
namespace Go.Proofs.Ytkmcakneceagpaa
open Go.RowKit
theorem sk0 {w:World} {g:Nat} {a0 a1 a2 a3 a4 a5 a6 b:Value} {t:TypeId} (h:w.heap[g]?=some (.cells #[a0,a1,a2,a3,a4,a5,a6] t)):(w.setCell ⟨g,0,none⟩ b).heap[g]?=some (.cells #[b,a1,a2,a3,a4,a5,a6] t):=hp_set w g 0 b _ t h
theorem sk1 {w:World} {g:Nat} {a0 a1 a2 a3 a4 a5 a6 b:Value} {t:TypeId} (h:w.heap[g]?=some (.cells #[a0,a1,a2,a3,a4,a5,a6] t)):(w.setCell ⟨g,1,none⟩ b).heap[g]?=some (.cells #[a0,b,a2,a3,a4,a5,a6] t):=hp_set w g 1 b _ t h
theorem sk2 {w:World} {g:Nat} {a0 a1 a2 a3 a4 a5 a6 b:Value} {t:TypeId} (h:w.heap[g]?=some (.cells #[a0,a1,a2,a3,a4,a5,a6] t)):(w.setCell ⟨g,2,none⟩ b).heap[g]?=some (.cells #[a0,a1,b,a3,a4,a5,a6] t):=hp_set w g 2 b _ t h
theorem sk3 {w:World} {g:Nat} {a0 a1 a2 a3 a4 a5 a6 b:Value} {t:TypeId} (h:w.heap[g]?=some (.cells #[a0,a1,a2,a3,a4,a5,a6] t)):(w.setCell ⟨g,3,none⟩ b).heap[g]?=some (.cells #[a0,a1,a2,b,a4,a5,a6] t):=hp_set w g 3 b _ t h
theorem sk4 {w:World} {g:Nat} {a0 a1 a2 a3 a4 a5 a6 b:Value} {t:TypeId} (h:w.heap[g]?=some (.cells #[a0,a1,a2,a3,a4,a5,a6] t)):(w.setCell ⟨g,4,none⟩ b).heap[g]?=some (.cells #[a0,a1,a2,a3,b,a5,a6] t):=hp_set w g 4 b _ t h
theorem sk5 {w:World} {g:Nat} {a0 a1 a2 a3 a4 a5 a6 b:Value} {t:TypeId} (h:w.heap[g]?=some (.cells #[a0,a1,a2,a3,a4,a5,a6] t)):(w.setCell ⟨g,5,none⟩ b).heap[g]?=some (.cells #[a0,a1,a2,a3,a4,b,a6] t):=hp_set w g 5 b _ t h
theorem sk6 {w:World} {g:Nat} {a0 a1 a2 a3 a4 a5 a6 b:Value} {t:TypeId} (h:w.heap[g]?=some (.cells #[a0,a1,a2,a3,a4,a5,a6] t)):(w.setCell ⟨g,6,none⟩ b).heap[g]?=some (.cells #[a0,a1,a2,a3,a4,a5,b] t):=hp_set w g 6 b _ t h
theorem set7 {w:World} {g:Nat} {a0 a1 a2 a3 a4 a5 a6 b0 b1 b2 b3 b4 b5 b6:Value} {t:TypeId} (hg:w.heap[g]?=some (.cells #[a0,a1,a2,a3,a4,a5,a6] t)):(World.setCell (World.setCell (World.setCell (World.setCell (World.setCell (World.setCell (World.setCell w ⟨g,0,none⟩ b0) ⟨g,1,none⟩ b1) ⟨g,2,none⟩ b2) ⟨g,3,none⟩ b3) ⟨g,4,none⟩ b4) ⟨g,5,none⟩ b5) ⟨g,6,none⟩ b6).heap[g]?=some (.cells #[b0,b1,b2,b3,b4,b5,b6] t)∧Kp [g] w (World.setCell (World.setCell (World.setCell (World.setCell (World.setCell (World.setCell (World.setCell w ⟨g,0,none⟩ b0) ⟨g,1,none⟩ b1) ⟨g,2,none⟩ b2) ⟨g,3,none⟩ b3) ⟨g,4,none⟩ b4) ⟨g,5,none⟩ b5) ⟨g,6,none⟩ b6):=⟨sk6 (sk5 (sk4 (sk3 (sk2 (sk1 (sk0 (hg))))))),((((((((Kp.refl _ _).setCell (.inl (by simp)) _).setCell (.inl (by simp)) _).setCell (.inl (by simp)) _).setCell (.inl (by simp)) _).setCell (.inl (by simp)) _).setCell (.inl (by simp)) _).setCell (.inl (by simp)) _)⟩
theorem parseWrong (T k1 k2 k3 k4:Nat) (z any pd:Bool) (A:Option Addr) (n c:Nat) (l:List UInt8) (most:Int) (w:World) (hr:Rd w A n c l) (hn:n≤281474976710656) (hm:0≤most) (h9:¬ n < 9) (N:Nat) (hN:be (l.take 3)=N) (hb:¬ most < (N:Int)) (hc:¬ n < 9+N) (F S:Nat) (hT:(l.getD 3 0).toNat=T) (hF:(l.getD 4 0).toNat=F) (hS:be ((l.drop 5).take 4) % 2147483648=S)
  (hkn:knownB (T:Int)=true) (hkd:∀ w,Calls Try.prog 144 #[.int .i64 T] w fun e w'=>e=.returned (.agg #[.bool z,.bool any,.bool pd,Fv k1,Fv k2,Fv k3,Fv k4])∧Kp [] w w') (hri:(any || (z == decide ((S:Int)=0)))=false) :
  Calls Try.prog 100 #[.slice A n c,.int .i64 most] w (ParseR (.bad (9+N) 0 1) w):=by
 have HR:=Lib.hid hr
 have HRI:=Lib.hid hri
 have HKN:=Lib.hid hkn
 have HKD:=Lib.hid hkd
 have e:=head_of (l:=l) (by rw [hr.len]; exact h9)
 rw [hN,hT,hF,hS] at e
 have HN2:=Lib.hid (show N < 16777216 by have:=be_take_lt l 3; rw [hN] at this; have e3:(256:Nat) ^ 3=16777216:=(by decide); omega)
 have HH:=Lib.hid e
 clear hr e hT hF hS hN hri hkn hkd
 go_enter Try.func100,Try.ntmps100
 go_wp2_with fail
 refine wp_scope_once 0 rfl ?_
 go_wp2_with fail
 generalize hW:World.alloc _ _=w1
 have K1:Kp [] w w1:=by rw [← hW]; with_reducible (repeat (first|exact Kp.refl _ _|assumption|refine Kp.alloc ?_ _|refine Kp.drew ?_|refine Kp.drewN ?_ _|(refine Kp.setL ?_ ?_ _;focus (simp;done))|(refine Kp.setR ?_ ?_ _;focus (first|(simp;done)|(simp;omega)))))
 have HF:=Lib.hid (show w1.heap[w.heap.size]?=some (.cells #[.int .i64 0,.int .i64 0,.int .i64 0,.slice none 0 0,.int .i64 0,.int .u32 0,.int .i64 0,.int .i64 0,.int .i64 0,.bool false,.int .i64 0,.slice none 0 0] 49) by rw [← hW]; with_reducible (repeat (first|assumption|(refine hp_new _ _ _ ?_;focus (simp;done))|refine hpl ?_|(refine hpf ?_ ?_;focus (first|(simp;done)|(simp;omega)))|refine hpd ?_|refine hpe ?_)))
 have HX:=Lib.hid (show w1.heap[w.heap.size+1]?=some (.cells #[.bool false,.int .i64 0,.int .i64 0] 64) by rw [← hW]; with_reducible (repeat (first|assumption|(refine hp_new _ _ _ ?_;focus (simp;done))|refine hpl ?_|(refine hpf ?_ ?_;focus (first|(simp;done)|(simp;omega)))|refine hpd ?_|refine hpe ?_)))
 have HK:=Lib.hid (show w1.heap[w.heap.size+1+1]?=some (.cells #[.bool false,.bool false,.bool false,.nilFunc,.nilFunc,.nilFunc,.nilFunc] 185) by rw [← hW]; with_reducible (repeat (first|assumption|(refine hp_new _ _ _ ?_;focus (simp;done))|refine hpl ?_|(refine hpf ?_ ?_;focus (first|(simp;done)|(simp;omega)))|refine hpd ?_|refine hpe ?_)))
 clear hW
 refine (Head_big A n c l w1 hn (HR.out.keep K1 (by simp))).mono ?_
 rintro e w2 ⟨rfl,K2⟩
 rw [HH.out]
 dsimp only
 have HF2:=Lib.hid (K2.heap HF.out (by simp))
 have HX2:=Lib.hid (K2.heap HX.out (by simp))
 have HD2:=Lib.hid (K2.heap HK.out (by simp))
 have HK2:=Lib.hid (K1.trans K2)
 clear HF HX HK K1 K2
 obtain ⟨q0,q1,q2,q3,q4,q5,q6,q7,q8,q9,q10,q11,qz,qlt,qlt2⟩:=cellsF HF2.out
 have x0:=cell_of HX2.out 0
 have x1:=cell_of HX2.out 1
 have x2:=cell_of HX2.out 2
 have xz:=frozen_of HX2.out
 have hN2:N < 16777216:=HN2.out
 go_wp2_with fail
 generalize hW:World.setCell _ _ _=w3
 have HF3:=Lib.hid (show w3.heap[w.heap.size]?=some (.cells #[.int .i64 T,.int .i64 F,.int .i64 S,.slice none 0 0,.int .i64 0,.int .u32 0,.int .i64 0,.int .i64 0,.int .i64 0,.bool false,.int .i64 0,.slice none 0 0] 49) by rw [← hW]; exact sf11 (sf10 (sf9 (sf8 (sf7 (sf6 (sf5 (sf4 (sf3 (sf2 (sf1 (sf0 (HF2.out)))))))))))))
 have K3:Kp [w.heap.size] w2 w3:=by rw [← hW]; exact (((((((((((((Kp.refl _ _).setCell (.inl (by simp)) _).setCell (.inl (by simp)) _).setCell (.inl (by simp)) _).setCell (.inl (by simp)) _).setCell (.inl (by simp)) _).setCell (.inl (by simp)) _).setCell (.inl (by simp)) _).setCell (.inl (by simp)) _).setCell (.inl (by simp)) _).setCell (.inl (by simp)) _).setCell (.inl (by simp)) _).setCell (.inl (by simp)) _)
 have HX3:=Lib.hid (K3.heap HX2.out (by simp))
 have HD3:=Lib.hid (K3.heap HD2.out (by simp; omega))
 have HK3:=Lib.hid (HK2.out.then K3 (by simp))
 clear hW K3 HF2 HX2 HD2 HK2 q0 q1 q2 q3 q4 q5 q6 q7 q8 q9 q10 q11 qz qlt qlt2 x0 x1 x2 xz
 obtain ⟨q0,q1,q2,q3,q4,q5,q6,q7,q8,q9,q10,q11,qz,qlt,qlt2⟩:=cellsF HF3.out
 have x0:=cell_of HX3.out 0
 have x1:=cell_of HX3.out 1
 have x2:=cell_of HX3.out 2
 have xz:=frozen_of HX3.out
 refine (Known_any (T:Int) _).mono ?_
 rintro e w4 ⟨rfl,rfl⟩
 rw [HKN.out]
 go_wp2_with fail
 refine (HKD.out _).mono ?_
 rintro e w5 ⟨rfl,K5⟩
 have HF5:=Lib.hid (K5.heap HF3.out (by simp))
 have HX5:=Lib.hid (K5.heap HX3.out (by simp))
 have HD5:=Lib.hid (K5.heap HD3.out (by simp))
 have HK5:=Lib.hid (HK3.out.trans K5)
 clear HF3 HX3 HD3 HK3 K5 HKD q0 q1 q2 q3 q4 q5 q6 q7 q8 q9 q10 q11 qz qlt qlt2 x0 x1 x2 xz
 have d0:=cell_of HD5.out 0
 have d1:=cell_of HD5.out 1
 have d2:=cell_of HD5.out 2
 have d3:=cell_of HD5.out 3
 have d4:=cell_of HD5.out 4
 have d5:=cell_of HD5.out 5
 have d6:=cell_of HD5.out 6
 have dz:=frozen_of HD5.out
 go_wp2_with fail
 generalize hW:World.setCell _ _ _=w6
 obtain ⟨hd6,K6⟩:w6.heap[w.heap.size+1+1]?=some (.cells #[.bool z,.bool any,.bool pd,Fv k1,Fv k2,Fv k3,Fv k4] 185)∧Kp [w.heap.size+1+1] w5 w6:=by rw [← hW]; exact set7 HD5.out
 have HF6:=Lib.hid (K6.heap HF5.out (by simp; omega))
 have HX6:=Lib.hid (K6.heap HX5.out (by simp))
 have HD6:=Lib.hid hd6
 have HK6:=Lib.hid (HK5.out.then K6 (by simp; omega))
 clear hW hd6 K6 HF5 HX5 HD5 HK5 d0 d1 d2 d3 d4 d5 d6 dz
 refine (rightF z any pd (Fv k1) (Fv k2) (Fv k3) (Fv k4) (S:Int) _ rfl rfl rfl rfl).mono ?_
 rintro e w7 ⟨rfl,K7⟩
 rw [HRI.out]
 have HF7:=Lib.hid (K7.heap HF6.out (by simp))
 have HX7:=Lib.hid (K7.heap HX6.out (by simp))
 have HD7:=Lib.hid (K7.heap HD6.out (by simp))
 have HK7:=Lib.hid (HK6.out.trans K7)
 clear HF6 HX6 HD6 HK6 K7
 obtain ⟨q0,q1,q2,q3,q4,q5,q6,q7,q8,q9,q10,q11,qz,qlt,qlt2⟩:=cellsF HF7.out
 have x0:=cell_of HX7.out 0
 have x1:=cell_of HX7.out 1
 have x2:=cell_of HX7.out 2
 have xz:=frozen_of HX7.out
 have d3:=cell_of HD7.out 3
 have d6:=cell_of HD7.out 6
 go_wp2
 go_step3
 refine And.intro rfl ?_
 go_wp2
 go_region
 go_wp2
 rw [jump_ret]
 generalize hW:World.setCell _ _ _=W
 obtain ⟨HF9,HX9,K9⟩:W.heap[w.heap.size]?=some (.cells #[.int .i64 0,.int .i64 0,.int .i64 0,.slice none 0 0,.int .i64 0,.int .u32 0,.int .i64 0,.int .i64 0,.int .i64 0,.bool false,.int .i64 0,.slice none 0 0] 49)∧W.heap[w.heap.size+1]?=some (.cells #[.bool true,.int .i64 0,.int .i64 1] 64)∧Kp [w.heap.size,w.heap.size+1] (World.setCell (World.setCell w7 ⟨w.heap.size+1,0,none⟩ (.bool true)) ⟨w.heap.size+1,2,none⟩ (.int .i64 1)) W:=by rw [← hW]; exact set15 (by omega) ((hp_far _ _ _ _ (by simp)).trans ((hp_far _ _ _ _ (by simp)).trans HF7.out)) (sx2 (sx0 HX7.out))
 refine bodyPost_ret (v:=.tuple #[.agg #[.int .i64 0,.int .i64 0,.int .i64 0,.slice none 0 0,.int .i64 0,.int .u32 0,.int .i64 0,.int .i64 0,.int .i64 0,.bool false,.int .i64 0,.slice none 0 0],.int .i64 (9+(N:Int)),.agg #[.bool true,.int .i64 0,.int .i64 1],.int .i64 0]) (by simp [results,Try.results100,go_sem,cell_of HF9,cell_of HX9]) rfl ⟨(⟨0,0,0,none,0,0,0,0,0,0,0,false,0,none,0,0⟩:Fr),rfl,FrP.zero _ _,((HK7.out.then (((Kp.refl [w.heap.size+1] w7).setCell (.inl (by simp)) (.bool true)).setCell (.inl (by simp)) (.int .i64 1)) (by simp)).then K9 (by simp)).drew⟩

theorem parseWrongS (T k2 k3 k4:Nat) (kk:Int) (z any pd:Bool) (A:Option Addr) (n c:Nat) (l:List UInt8) (most:Int) (w:World) (hr:Rd w A n c l) (hn:n≤281474976710656) (hm:0≤most) (h9:¬ n < 9) (N:Nat) (hN:be (l.take 3)=N) (hb:¬ most < (N:Int)) (hc:¬ n < 9+N) (F S:Nat) (hT:(l.getD 3 0).toNat=T) (hF:(l.getD 4 0).toNat=F) (hS:be ((l.drop 5).take 4) % 2147483648=S)
  (hkn:knownB (T:Int)=true) (hkd:∀ w,Calls Try.prog 144 #[.int .i64 T] w fun e w'=>∃ bk,e=.returned (.agg #[.bool z,.bool any,.bool pd,Sz bk,Fv k2,Fv k3,Fv k4])∧w'.heap[bk]?=some (.cells #[.int .i64 kk] 3)∧w.heap.size≤bk∧Kp [] w w') (hri:(any || (z == decide ((S:Int)=0)))=false) :
  Calls Try.prog 100 #[.slice A n c,.int .i64 most] w (ParseR (.bad (9+N) 0 1) w):=by
 have HR:=Lib.hid hr
 have HRI:=Lib.hid hri
 have HKN:=Lib.hid hkn
 have HKD:=Lib.hid hkd
 have e:=head_of (l:=l) (by rw [hr.len]; exact h9)
 rw [hN,hT,hF,hS] at e
 have HN2:=Lib.hid (show N < 16777216 by have:=be_take_lt l 3; rw [hN] at this; have e3:(256:Nat) ^ 3=16777216:=(by decide); omega)
 have HH:=Lib.hid e
 clear hr e hT hF hS hN hri hkn hkd
 go_enter Try.func100,Try.ntmps100
 go_wp2_with fail
 refine wp_scope_once 0 rfl ?_
 go_wp2_with fail
 generalize hW:World.alloc _ _=w1
 have K1:Kp [] w w1:=by rw [← hW]; with_reducible (repeat (first|exact Kp.refl _ _|assumption|refine Kp.alloc ?_ _|refine Kp.drew ?_|refine Kp.drewN ?_ _|(refine Kp.setL ?_ ?_ _;focus (simp;done))|(refine Kp.setR ?_ ?_ _;focus (first|(simp;done)|(simp;omega)))))
 have HF:=Lib.hid (show w1.heap[w.heap.size]?=some (.cells #[.int .i64 0,.int .i64 0,.int .i64 0,.slice none 0 0,.int .i64 0,.int .u32 0,.int .i64 0,.int .i64 0,.int .i64 0,.bool false,.int .i64 0,.slice none 0 0] 49) by rw [← hW]; with_reducible (repeat (first|assumption|(refine hp_new _ _ _ ?_;focus (simp;done))|refine hpl ?_|(refine hpf ?_ ?_;focus (first|(simp;done)|(simp;omega)))|refine hpd ?_|refine hpe ?_)))
 have HX:=Lib.hid (show w1.heap[w.heap.size+1]?=some (.cells #[.bool false,.int .i64 0,.int .i64 0] 64) by rw [← hW]; with_reducible (repeat (first|assumption|(refine hp_new _ _ _ ?_;focus (simp;done))|refine hpl ?_|(refine hpf ?_ ?_;focus (first|(simp;done)|(simp;omega)))|refine hpd ?_|refine hpe ?_)))
 have HK:=Lib.hid (show w1.heap[w.heap.size+1+1]?=some (.cells #[.bool false,.bool false,.bool false,.nilFunc,.nilFunc,.nilFunc,.nilFunc] 185) by rw [← hW]; with_reducible (repeat (first|assumption|(refine hp_new _ _ _ ?_;focus (simp;done))|refine hpl ?_|(refine hpf ?_ ?_;focus (first|(simp;done)|(simp;omega)))|refine hpd ?_|refine hpe ?_)))
 clear hW
 refine (Head_big A n c l w1 hn (HR.out.keep K1 (by simp))).mono ?_
 rintro e w2 ⟨rfl,K2⟩
 rw [HH.out]
 dsimp only
 have HF2:=Lib.hid (K2.heap HF.out (by simp))
 have HX2:=Lib.hid (K2.heap HX.out (by simp))
 have HD2:=Lib.hid (K2.heap HK.out (by simp))
 have HK2:=Lib.hid (K1.trans K2)
 clear HF HX HK K1 K2
 obtain ⟨q0,q1,q2,q3,q4,q5,q6,q7,q8,q9,q10,q11,qz,qlt,qlt2⟩:=cellsF HF2.out
 have x0:=cell_of HX2.out 0
 have x1:=cell_of HX2.out 1
 have x2:=cell_of HX2.out 2
 have xz:=frozen_of HX2.out
 have hN2:N < 16777216:=HN2.out
 go_wp2_with fail
 generalize hW:World.setCell _ _ _=w3
 have HF3:=Lib.hid (show w3.heap[w.heap.size]?=some (.cells #[.int .i64 T,.int .i64 F,.int .i64 S,.slice none 0 0,.int .i64 0,.int .u32 0,.int .i64 0,.int .i64 0,.int .i64 0,.bool false,.int .i64 0,.slice none 0 0] 49) by rw [← hW]; exact sf11 (sf10 (sf9 (sf8 (sf7 (sf6 (sf5 (sf4 (sf3 (sf2 (sf1 (sf0 (HF2.out)))))))))))))
 have K3:Kp [w.heap.size] w2 w3:=by rw [← hW]; exact (((((((((((((Kp.refl _ _).setCell (.inl (by simp)) _).setCell (.inl (by simp)) _).setCell (.inl (by simp)) _).setCell (.inl (by simp)) _).setCell (.inl (by simp)) _).setCell (.inl (by simp)) _).setCell (.inl (by simp)) _).setCell (.inl (by simp)) _).setCell (.inl (by simp)) _).setCell (.inl (by simp)) _).setCell (.inl (by simp)) _).setCell (.inl (by simp)) _)
 have HX3:=Lib.hid (K3.heap HX2.out (by simp))
 have HD3:=Lib.hid (K3.heap HD2.out (by simp; omega))
 have HK3:=Lib.hid (HK2.out.then K3 (by simp))
 clear hW K3 HF2 HX2 HD2 HK2 q0 q1 q2 q3 q4 q5 q6 q7 q8 q9 q10 q11 qz qlt qlt2 x0 x1 x2 xz
 obtain ⟨q0,q1,q2,q3,q4,q5,q6,q7,q8,q9,q10,q11,qz,qlt,qlt2⟩:=cellsF HF3.out
 have x0:=cell_of HX3.out 0
 have x1:=cell_of HX3.out 1
 have x2:=cell_of HX3.out 2
 have xz:=frozen_of HX3.out
 refine (Known_any (T:Int) _).mono ?_
 rintro e w4 ⟨rfl,rfl⟩
 rw [HKN.out]
 go_wp2_with fail
 refine (HKD.out _).mono ?_
 rintro e w5 ⟨bk,rfl,hbk,hbk2,K5⟩
 have hdl:=lt_of_heap HD3.out
 have HF5:=Lib.hid (K5.heap HF3.out (by simp))
 have HX5:=Lib.hid (K5.heap HX3.out (by simp))
 have HD5:=Lib.hid (K5.heap HD3.out (by simp))
 have HK5:=Lib.hid (HK3.out.trans K5)
 clear HF3 HX3 HD3 HK3 K5 HKD q0 q1 q2 q3 q4 q5 q6 q7 q8 q9 q10 q11 qz qlt qlt2 x0 x1 x2 xz
 have d0:=cell_of HD5.out 0
 have d1:=cell_of HD5.out 1
 have d2:=cell_of HD5.out 2
 have d3:=cell_of HD5.out 3
 have d4:=cell_of HD5.out 4
 have d5:=cell_of HD5.out 5
 have d6:=cell_of HD5.out 6
 have dz:=frozen_of HD5.out
 go_wp2_with fail
 generalize hW:World.setCell _ _ _=w6
 obtain ⟨hd6,K6⟩:w6.heap[w.heap.size+1+1]?=some (.cells #[.bool z,.bool any,.bool pd,Sz bk,Fv k2,Fv k3,Fv k4] 185)∧Kp [w.heap.size+1+1] w5 w6:=by rw [← hW]; exact set7 HD5.out
 have HF6:=Lib.hid (K6.heap HF5.out (by simp; omega))
 have HX6:=Lib.hid (K6.heap HX5.out (by simp))
 have HD6:=Lib.hid hd6
 have HK6:=Lib.hid (HK5.out.then K6 (by simp; omega))
 have HS6:=Lib.hid (K6.heap hbk (by simp; omega))
 clear hbk hdl
 clear hW hd6 K6 HF5 HX5 HD5 HK5 d0 d1 d2 d3 d4 d5 d6 dz
 refine (rightF z any pd (Sz bk) (Fv k2) (Fv k3) (Fv k4) (S:Int) _ rfl rfl rfl rfl).mono ?_
 rintro e w7 ⟨rfl,K7⟩
 rw [HRI.out]
 have HF7:=Lib.hid (K7.heap HF6.out (by simp))
 have HX7:=Lib.hid (K7.heap HX6.out (by simp))
 have HD7:=Lib.hid (K7.heap HD6.out (by simp))
 have HK7:=Lib.hid (HK6.out.trans K7)
 have HS7:=Lib.hid (K7.heap HS6.out (by simp))
 clear HS6
 clear HF6 HX6 HD6 HK6 K7
 obtain ⟨q0,q1,q2,q3,q4,q5,q6,q7,q8,q9,q10,q11,qz,qlt,qlt2⟩:=cellsF HF7.out
 have x0:=cell_of HX7.out 0
 have x1:=cell_of HX7.out 1
 have x2:=cell_of HX7.out 2
 have xz:=frozen_of HX7.out
 have d3:=cell_of HD7.out 3
 have d6:=cell_of HD7.out 6
 go_wp2
 go_step3
 refine And.intro rfl ?_
 go_wp2
 go_region
 go_wp2
 rw [jump_ret]
 generalize hW:World.setCell _ _ _=W
 obtain ⟨HF9,HX9,K9⟩:W.heap[w.heap.size]?=some (.cells #[.int .i64 0,.int .i64 0,.int .i64 0,.slice none 0 0,.int .i64 0,.int .u32 0,.int .i64 0,.int .i64 0,.int .i64 0,.bool false,.int .i64 0,.slice none 0 0] 49)∧W.heap[w.heap.size+1]?=some (.cells #[.bool true,.int .i64 0,.int .i64 1] 64)∧Kp [w.heap.size,w.heap.size+1] (World.setCell (World.setCell w7 ⟨w.heap.size+1,0,none⟩ (.bool true)) ⟨w.heap.size+1,2,none⟩ (.int .i64 1)) W:=by rw [← hW]; exact set15 (by omega) ((hp_far _ _ _ _ (by simp)).trans ((hp_far _ _ _ _ (by simp)).trans HF7.out)) (sx2 (sx0 HX7.out))
 refine bodyPost_ret (v:=.tuple #[.agg #[.int .i64 0,.int .i64 0,.int .i64 0,.slice none 0 0,.int .i64 0,.int .u32 0,.int .i64 0,.int .i64 0,.int .i64 0,.bool false,.int .i64 0,.slice none 0 0],.int .i64 (9+(N:Int)),.agg #[.bool true,.int .i64 0,.int .i64 1],.int .i64 0]) (by simp [results,Try.results100,go_sem,cell_of HF9,cell_of HX9]) rfl ⟨(⟨0,0,0,none,0,0,0,0,0,0,0,false,0,none,0,0⟩:Fr),rfl,FrP.zero _ _,((HK7.out.then (((Kp.refl [w.heap.size+1] w7).setCell (.inl (by simp)) (.bool true)).setCell (.inl (by simp)) (.int .i64 1)) (by simp)).then K9 (by simp)).drew⟩

end Go.Proofs.Ytkmcakneceagpaa

namespace Go.Proofs.Ytkmcakneceagpaa
open Go.RowKit
theorem callFunc_at {P:Program} {f:FuncId} {fn:Func} (hf:P.funcs[f]?=some fn) (hn:(fn.name == "runtime.NumGoroutine")=false) (hb:fn.body.isNone=false) (args:Array Value) (w:World):Sem.run P (callFunc f args) w=.ok (.enter f args) w:=by
 have hn':¬ fn.name="runtime.NumGoroutine":=by simpa using hn
 have hb':¬ fn.body=none:=fun h=>by rw [h] at hb; cases hb
 simp [callFunc,hf,hn',hb',go_sem]
theorem parseSz (T k1 k2 k3 k4:Nat) (z any pd:Bool) (A:Option Addr) (n c:Nat) (l:List UInt8) (most:Int) (w:World) (hr:Rd w A n c l) (hn:n≤281474976710656) (hm:0≤most) (h9:¬ n < 9) (N:Nat) (hN:be (l.take 3)=N) (hb:¬ most < (N:Int)) (hc:¬ n < 9+N) (F S:Nat) (hT:(l.getD 3 0).toNat=T) (hF:(l.getD 4 0).toNat=F) (hS:be ((l.drop 5).take 4) % 2147483648=S)
  (hkn:knownB (T:Int)=true) (hkd:∀ w,Calls Try.prog 144 #[.int .i64 T] w fun e w'=>e=.returned (.agg #[.bool z,.bool any,.bool pd,Fv k1,Fv k2,Fv k3,Fv k4])∧Kp [] w w') (hri:(any || (z == decide ((S:Int)=0)))=true) (fit:Bool→Bool) (hfc:∀ a w,Calls Try.prog k1 #[.int .i64 N,.bool a] w (BoolR (fit a) w)) (hcf:∀ args w,Sem.run Try.prog (callFunc k1 args) w=.ok (.enter k1 args) w) (hfit:fit (bits .and .i64 (F:Int) 1 != 0)=false) (hT2:¬ T=2) :
  Calls Try.prog 100 #[.slice A n c,.int .i64 most] w (ParseR (.bad (9+N) 0 6) w):=by
 have HCF:=Lib.hid hcf
 clear hcf
 have HFC:=Lib.hid hfc
 have HFIT:=Lib.hid hfit
 clear hfc hfit
 have ht2:((T:Int) == 2)=false:=by simp; omega
 have HR:=Lib.hid hr
 have HRI:=Lib.hid hri
 have HKN:=Lib.hid hkn
 have HKD:=Lib.hid hkd
 have e:=head_of (l:=l) (by rw [hr.len]; exact h9)
 rw [hN,hT,hF,hS] at e
 have HN2:=Lib.hid (show N < 16777216 by have:=be_take_lt l 3; rw [hN] at this; have e3:(256:Nat) ^ 3=16777216:=(by decide); omega)
 have HH:=Lib.hid e
 clear hr e hT hF hS hN hri hkn hkd
 go_enter Try.func100,Try.ntmps100
 go_wp2_with fail
 refine wp_scope_once 0 rfl ?_
 go_wp2_with fail
 generalize hW:World.alloc _ _=w1
 have K1:Kp [] w w1:=by rw [← hW]; with_reducible (repeat (first|exact Kp.refl _ _|assumption|refine Kp.alloc ?_ _|refine Kp.drew ?_|refine Kp.drewN ?_ _|(refine Kp.setL ?_ ?_ _;focus (simp;done))|(refine Kp.setR ?_ ?_ _;focus (first|(simp;done)|(simp;omega)))))
 have HF:=Lib.hid (show w1.heap[w.heap.size]?=some (.cells #[.int .i64 0,.int .i64 0,.int .i64 0,.slice none 0 0,.int .i64 0,.int .u32 0,.int .i64 0,.int .i64 0,.int .i64 0,.bool false,.int .i64 0,.slice none 0 0] 49) by rw [← hW]; with_reducible (repeat (first|assumption|(refine hp_new _ _ _ ?_;focus (simp;done))|refine hpl ?_|(refine hpf ?_ ?_;focus (first|(simp;done)|(simp;omega)))|refine hpd ?_|refine hpe ?_)))
 have HX:=Lib.hid (show w1.heap[w.heap.size+1]?=some (.cells #[.bool false,.int .i64 0,.int .i64 0] 64) by rw [← hW]; with_reducible (repeat (first|assumption|(refine hp_new _ _ _ ?_;focus (simp;done))|refine hpl ?_|(refine hpf ?_ ?_;focus (first|(simp;done)|(simp;omega)))|refine hpd ?_|refine hpe ?_)))
 have HK:=Lib.hid (show w1.heap[w.heap.size+1+1]?=some (.cells #[.bool false,.bool false,.bool false,.nilFunc,.nilFunc,.nilFunc,.nilFunc] 185) by rw [← hW]; with_reducible (repeat (first|assumption|(refine hp_new _ _ _ ?_;focus (simp;done))|refine hpl ?_|(refine hpf ?_ ?_;focus (first|(simp;done)|(simp;omega)))|refine hpd ?_|refine hpe ?_)))
 clear hW
 refine (Head_big A n c l w1 hn (HR.out.keep K1 (by simp))).mono ?_
 rintro e w2 ⟨rfl,K2⟩
 rw [HH.out]
 dsimp only
 have HF2:=Lib.hid (K2.heap HF.out (by simp))
 have HX2:=Lib.hid (K2.heap HX.out (by simp))
 have HD2:=Lib.hid (K2.heap HK.out (by simp))
 have HK2:=Lib.hid (K1.trans K2)
 clear HF HX HK K1 K2
 obtain ⟨q0,q1,q2,q3,q4,q5,q6,q7,q8,q9,q10,q11,qz,qlt,qlt2⟩:=cellsF HF2.out
 have x0:=cell_of HX2.out 0
 have x1:=cell_of HX2.out 1
 have x2:=cell_of HX2.out 2
 have xz:=frozen_of HX2.out
 have hN2:N < 16777216:=HN2.out
 go_wp2_with fail
 generalize hW:World.setCell _ _ _=w3
 have HF3:=Lib.hid (show w3.heap[w.heap.size]?=some (.cells #[.int .i64 T,.int .i64 F,.int .i64 S,.slice none 0 0,.int .i64 0,.int .u32 0,.int .i64 0,.int .i64 0,.int .i64 0,.bool false,.int .i64 0,.slice none 0 0] 49) by rw [← hW]; exact sf11 (sf10 (sf9 (sf8 (sf7 (sf6 (sf5 (sf4 (sf3 (sf2 (sf1 (sf0 (HF2.out)))))))))))))
 have K3:Kp [w.heap.size] w2 w3:=by rw [← hW]; exact (((((((((((((Kp.refl _ _).setCell (.inl (by simp)) _).setCell (.inl (by simp)) _).setCell (.inl (by simp)) _).setCell (.inl (by simp)) _).setCell (.inl (by simp)) _).setCell (.inl (by simp)) _).setCell (.inl (by simp)) _).setCell (.inl (by simp)) _).setCell (.inl (by simp)) _).setCell (.inl (by simp)) _).setCell (.inl (by simp)) _).setCell (.inl (by simp)) _)
 have HX3:=Lib.hid (K3.heap HX2.out (by simp))
 have HD3:=Lib.hid (K3.heap HD2.out (by simp; omega))
 have HK3:=Lib.hid (HK2.out.then K3 (by simp))
 clear hW K3 HF2 HX2 HD2 HK2 q0 q1 q2 q3 q4 q5 q6 q7 q8 q9 q10 q11 qz qlt qlt2 x0 x1 x2 xz
 obtain ⟨q0,q1,q2,q3,q4,q5,q6,q7,q8,q9,q10,q11,qz,qlt,qlt2⟩:=cellsF HF3.out
 have x0:=cell_of HX3.out 0
 have x1:=cell_of HX3.out 1
 have x2:=cell_of HX3.out 2
 have xz:=frozen_of HX3.out
 refine (Known_any (T:Int) _).mono ?_
 rintro e w4 ⟨rfl,rfl⟩
 rw [HKN.out]
 go_wp2_with fail
 refine (HKD.out _).mono ?_
 rintro e w5 ⟨rfl,K5⟩
 have HF5:=Lib.hid (K5.heap HF3.out (by simp))
 have HX5:=Lib.hid (K5.heap HX3.out (by simp))
 have HD5:=Lib.hid (K5.heap HD3.out (by simp))
 have HK5:=Lib.hid (HK3.out.trans K5)
 clear HF3 HX3 HD3 HK3 K5 HKD q0 q1 q2 q3 q4 q5 q6 q7 q8 q9 q10 q11 qz qlt qlt2 x0 x1 x2 xz
 have d0:=cell_of HD5.out 0
 have d1:=cell_of HD5.out 1
 have d2:=cell_of HD5.out 2
 have d3:=cell_of HD5.out 3
 have d4:=cell_of HD5.out 4
 have d5:=cell_of HD5.out 5
 have d6:=cell_of HD5.out 6
 have dz:=frozen_of HD5.out
 go_wp2_with fail
 generalize hW:World.setCell _ _ _=w6
 obtain ⟨hd6,K6⟩:w6.heap[w.heap.size+1+1]?=some (.cells #[.bool z,.bool any,.bool pd,Fv k1,Fv k2,Fv k3,Fv k4] 185)∧Kp [w.heap.size+1+1] w5 w6:=by rw [← hW]; exact set7 HD5.out
 have HF6:=Lib.hid (K6.heap HF5.out (by simp; omega))
 have HX6:=Lib.hid (K6.heap HX5.out (by simp))
 have HD6:=Lib.hid hd6
 have HK6:=Lib.hid (HK5.out.then K6 (by simp; omega))
 clear hW hd6 K6 HF5 HX5 HD5 HK5 d0 d1 d2 d3 d4 d5 d6 dz
 refine (rightF z any pd (Fv k1) (Fv k2) (Fv k3) (Fv k4) (S:Int) _ rfl rfl rfl rfl).mono ?_
 rintro e w7 ⟨rfl,K7⟩
 rw [HRI.out]
 have HF7:=Lib.hid (K7.heap HF6.out (by simp))
 have HX7:=Lib.hid (K7.heap HX6.out (by simp))
 have HD7:=Lib.hid (K7.heap HD6.out (by simp))
 have HK7:=Lib.hid (HK6.out.trans K7)
 clear HF6 HX6 HD6 HK6 K7
 obtain ⟨q0,q1,q2,q3,q4,q5,q6,q7,q8,q9,q10,q11,qz,qlt,qlt2⟩:=cellsF HF7.out
 have x0:=cell_of HX7.out 0
 have x1:=cell_of HX7.out 1
 have x2:=cell_of HX7.out 2
 have xz:=frozen_of HX7.out
 have d3:=cell_of HD7.out 3
 have d6:=cell_of HD7.out 6
 go_wp2_with fail
 rw [HCF.out,Oper.upon_enter]
 refine (HFC.out _ _).mono ?_
 rintro e w8 ⟨rfl,rfl⟩
 rw [HFIT.out]
 go_wp2
 go_step3
 refine And.intro rfl ?_
 go_wp2
 go_region
 go_wp2
 rw [jump_ret]
 generalize hW:World.setCell _ _ _=W
 obtain ⟨HF9,HX9,K9⟩:W.heap[w.heap.size]?=some (.cells #[.int .i64 0,.int .i64 0,.int .i64 0,.slice none 0 0,.int .i64 0,.int .u32 0,.int .i64 0,.int .i64 0,.int .i64 0,.bool false,.int .i64 0,.slice none 0 0] 49)∧W.heap[w.heap.size+1]?=some (.cells #[.bool true,.int .i64 0,.int .i64 6] 64)∧Kp [w.heap.size,w.heap.size+1] (World.setCell (World.setCell w7 ⟨w.heap.size+1,0,none⟩ (.bool true)) ⟨w.heap.size+1,2,none⟩ (.int .i64 6)) W:=by rw [← hW]; exact set15 (by omega) ((hp_far _ _ _ _ (by simp)).trans ((hp_far _ _ _ _ (by simp)).trans HF7.out)) (sx2 (sx0 HX7.out))
 refine bodyPost_ret (v:=.tuple #[.agg #[.int .i64 0,.int .i64 0,.int .i64 0,.slice none 0 0,.int .i64 0,.int .u32 0,.int .i64 0,.int .i64 0,.int .i64 0,.bool false,.int .i64 0,.slice none 0 0],.int .i64 (9+(N:Int)),.agg #[.bool true,.int .i64 0,.int .i64 6],.int .i64 0]) (by simp [results,Try.results100,go_sem,cell_of HF9,cell_of HX9]) rfl ⟨(⟨0,0,0,none,0,0,0,0,0,0,0,false,0,none,0,0⟩:Fr),rfl,FrP.zero _ _,((HK7.out.then (((Kp.refl [w.heap.size+1] w7).setCell (.inl (by simp)) (.bool true)).setCell (.inl (by simp)) (.int .i64 6)) (by simp)).then K9 (by simp)).drew⟩

theorem parseSzS (T k2 k3 k4:Nat) (kk:Int) (z any pd:Bool) (A:Option Addr) (n c:Nat) (l:List UInt8) (most:Int) (w:World) (hr:Rd w A n c l) (hn:n≤281474976710656) (hm:0≤most) (h9:¬ n < 9) (N:Nat) (hN:be (l.take 3)=N) (hb:¬ most < (N:Int)) (hc:¬ n < 9+N) (F S:Nat) (hT:(l.getD 3 0).toNat=T) (hF:(l.getD 4 0).toNat=F) (hS:be ((l.drop 5).take 4) % 2147483648=S)
  (hkn:knownB (T:Int)=true) (hkd:∀ w,Calls Try.prog 144 #[.int .i64 T] w fun e w'=>∃ bk,e=.returned (.agg #[.bool z,.bool any,.bool pd,Sz bk,Fv k2,Fv k3,Fv k4])∧w'.heap[bk]?=some (.cells #[.int .i64 kk] 3)∧w.heap.size≤bk∧Kp [] w w') (hri:(any || (z == decide ((S:Int)=0)))=true) (hfit:decide ((N:Int)=kk)=false) (hT2:¬ T=2) :
  Calls Try.prog 100 #[.slice A n c,.int .i64 most] w (ParseR (.bad (9+N) 0 6) w):=by
 have HFIT:=Lib.hid hfit
 clear hfit
 have ht2:((T:Int) == 2)=false:=by simp; omega
 have HR:=Lib.hid hr
 have HRI:=Lib.hid hri
 have HKN:=Lib.hid hkn
 have HKD:=Lib.hid hkd
 have e:=head_of (l:=l) (by rw [hr.len]; exact h9)
 rw [hN,hT,hF,hS] at e
 have HN2:=Lib.hid (show N < 16777216 by have:=be_take_lt l 3; rw [hN] at this; have e3:(256:Nat) ^ 3=16777216:=(by decide); omega)
 have HH:=Lib.hid e
 clear hr e hT hF hS hN hri hkn hkd
 go_enter Try.func100,Try.ntmps100
 go_wp2_with fail
 refine wp_scope_once 0 rfl ?_
 go_wp2_with fail
 generalize hW:World.alloc _ _=w1
 have K1:Kp [] w w1:=by rw [← hW]; with_reducible (repeat (first|exact Kp.refl _ _|assumption|refine Kp.alloc ?_ _|refine Kp.drew ?_|refine Kp.drewN ?_ _|(refine Kp.setL ?_ ?_ _;focus (simp;done))|(refine Kp.setR ?_ ?_ _;focus (first|(simp;done)|(simp;omega)))))
 have HF:=Lib.hid (show w1.heap[w.heap.size]?=some (.cells #[.int .i64 0,.int .i64 0,.int .i64 0,.slice none 0 0,.int .i64 0,.int .u32 0,.int .i64 0,.int .i64 0,.int .i64 0,.bool false,.int .i64 0,.slice none 0 0] 49) by rw [← hW]; with_reducible (repeat (first|assumption|(refine hp_new _ _ _ ?_;focus (simp;done))|refine hpl ?_|(refine hpf ?_ ?_;focus (first|(simp;done)|(simp;omega)))|refine hpd ?_|refine hpe ?_)))
 have HX:=Lib.hid (show w1.heap[w.heap.size+1]?=some (.cells #[.bool false,.int .i64 0,.int .i64 0] 64) by rw [← hW]; with_reducible (repeat (first|assumption|(refine hp_new _ _ _ ?_;focus (simp;done))|refine hpl ?_|(refine hpf ?_ ?_;focus (first|(simp;done)|(simp;omega)))|refine hpd ?_|refine hpe ?_)))
 have HK:=Lib.hid (show w1.heap[w.heap.size+1+1]?=some (.cells #[.bool false,.bool false,.bool false,.nilFunc,.nilFunc,.nilFunc,.nilFunc] 185) by rw [← hW]; with_reducible (repeat (first|assumption|(refine hp_new _ _ _ ?_;focus (simp;done))|refine hpl ?_|(refine hpf ?_ ?_;focus (first|(simp;done)|(simp;omega)))|refine hpd ?_|refine hpe ?_)))
 clear hW
 refine (Head_big A n c l w1 hn (HR.out.keep K1 (by simp))).mono ?_
 rintro e w2 ⟨rfl,K2⟩
 rw [HH.out]
 dsimp only
 have HF2:=Lib.hid (K2.heap HF.out (by simp))
 have HX2:=Lib.hid (K2.heap HX.out (by simp))
 have HD2:=Lib.hid (K2.heap HK.out (by simp))
 have HK2:=Lib.hid (K1.trans K2)
 clear HF HX HK K1 K2
 obtain ⟨q0,q1,q2,q3,q4,q5,q6,q7,q8,q9,q10,q11,qz,qlt,qlt2⟩:=cellsF HF2.out
 have x0:=cell_of HX2.out 0
 have x1:=cell_of HX2.out 1
 have x2:=cell_of HX2.out 2
 have xz:=frozen_of HX2.out
 have hN2:N < 16777216:=HN2.out
 go_wp2_with fail
 generalize hW:World.setCell _ _ _=w3
 have HF3:=Lib.hid (show w3.heap[w.heap.size]?=some (.cells #[.int .i64 T,.int .i64 F,.int .i64 S,.slice none 0 0,.int .i64 0,.int .u32 0,.int .i64 0,.int .i64 0,.int .i64 0,.bool false,.int .i64 0,.slice none 0 0] 49) by rw [← hW]; exact sf11 (sf10 (sf9 (sf8 (sf7 (sf6 (sf5 (sf4 (sf3 (sf2 (sf1 (sf0 (HF2.out)))))))))))))
 have K3:Kp [w.heap.size] w2 w3:=by rw [← hW]; exact (((((((((((((Kp.refl _ _).setCell (.inl (by simp)) _).setCell (.inl (by simp)) _).setCell (.inl (by simp)) _).setCell (.inl (by simp)) _).setCell (.inl (by simp)) _).setCell (.inl (by simp)) _).setCell (.inl (by simp)) _).setCell (.inl (by simp)) _).setCell (.inl (by simp)) _).setCell (.inl (by simp)) _).setCell (.inl (by simp)) _).setCell (.inl (by simp)) _)
 have HX3:=Lib.hid (K3.heap HX2.out (by simp))
 have HD3:=Lib.hid (K3.heap HD2.out (by simp; omega))
 have HK3:=Lib.hid (HK2.out.then K3 (by simp))
 clear hW K3 HF2 HX2 HD2 HK2 q0 q1 q2 q3 q4 q5 q6 q7 q8 q9 q10 q11 qz qlt qlt2 x0 x1 x2 xz
 obtain ⟨q0,q1,q2,q3,q4,q5,q6,q7,q8,q9,q10,q11,qz,qlt,qlt2⟩:=cellsF HF3.out
 have x0:=cell_of HX3.out 0
 have x1:=cell_of HX3.out 1
 have x2:=cell_of HX3.out 2
 have xz:=frozen_of HX3.out
 refine (Known_any (T:Int) _).mono ?_
 rintro e w4 ⟨rfl,rfl⟩
 rw [HKN.out]
 go_wp2_with fail
 refine (HKD.out _).mono ?_
 rintro e w5 ⟨bk,rfl,hbk,hbk2,K5⟩
 have hdl:=lt_of_heap HD3.out
 have HF5:=Lib.hid (K5.heap HF3.out (by simp))
 have HX5:=Lib.hid (K5.heap HX3.out (by simp))
 have HD5:=Lib.hid (K5.heap HD3.out (by simp))
 have HK5:=Lib.hid (HK3.out.trans K5)
 clear HF3 HX3 HD3 HK3 K5 HKD q0 q1 q2 q3 q4 q5 q6 q7 q8 q9 q10 q11 qz qlt qlt2 x0 x1 x2 xz
 have d0:=cell_of HD5.out 0
 have d1:=cell_of HD5.out 1
 have d2:=cell_of HD5.out 2
 have d3:=cell_of HD5.out 3
 have d4:=cell_of HD5.out 4
 have d5:=cell_of HD5.out 5
 have d6:=cell_of HD5.out 6
 have dz:=frozen_of HD5.out
 go_wp2_with fail
 generalize hW:World.setCell _ _ _=w6
 obtain ⟨hd6,K6⟩:w6.heap[w.heap.size+1+1]?=some (.cells #[.bool z,.bool any,.bool pd,Sz bk,Fv k2,Fv k3,Fv k4] 185)∧Kp [w.heap.size+1+1] w5 w6:=by rw [← hW]; exact set7 HD5.out
 have HF6:=Lib.hid (K6.heap HF5.out (by simp; omega))
 have HX6:=Lib.hid (K6.heap HX5.out (by simp))
 have HD6:=Lib.hid hd6
 have HK6:=Lib.hid (HK5.out.then K6 (by simp; omega))
 have HS6:=Lib.hid (K6.heap hbk (by simp; omega))
 clear hbk hdl
 clear hW hd6 K6 HF5 HX5 HD5 HK5 d0 d1 d2 d3 d4 d5 d6 dz
 refine (rightF z any pd (Sz bk) (Fv k2) (Fv k3) (Fv k4) (S:Int) _ rfl rfl rfl rfl).mono ?_
 rintro e w7 ⟨rfl,K7⟩
 rw [HRI.out]
 have HF7:=Lib.hid (K7.heap HF6.out (by simp))
 have HX7:=Lib.hid (K7.heap HX6.out (by simp))
 have HD7:=Lib.hid (K7.heap HD6.out (by simp))
 have HK7:=Lib.hid (HK6.out.trans K7)
 have HS7:=Lib.hid (K7.heap HS6.out (by simp))
 clear HS6
 clear HF6 HX6 HD6 HK6 K7
 obtain ⟨q0,q1,q2,q3,q4,q5,q6,q7,q8,q9,q10,q11,qz,qlt,qlt2⟩:=cellsF HF7.out
 have x0:=cell_of HX7.out 0
 have x1:=cell_of HX7.out 1
 have x2:=cell_of HX7.out 2
 have xz:=frozen_of HX7.out
 have d3:=cell_of HD7.out 3
 have d6:=cell_of HD7.out 6
 go_wp2_with fail
 refine (fitsSz N _ bk kk _ HS7.out).mono ?_
 rintro e w8 ⟨rfl,rfl⟩
 rw [HFIT.out]
 go_wp2
 go_step3
 refine And.intro rfl ?_
 go_wp2
 go_region
 go_wp2
 rw [jump_ret]
 generalize hW:World.setCell _ _ _=W
 obtain ⟨HF9,HX9,K9⟩:W.heap[w.heap.size]?=some (.cells #[.int .i64 0,.int .i64 0,.int .i64 0,.slice none 0 0,.int .i64 0,.int .u32 0,.int .i64 0,.int .i64 0,.int .i64 0,.bool false,.int .i64 0,.slice none 0 0] 49)∧W.heap[w.heap.size+1]?=some (.cells #[.bool true,.int .i64 0,.int .i64 6] 64)∧Kp [w.heap.size,w.heap.size+1] (World.setCell (World.setCell w7 ⟨w.heap.size+1,0,none⟩ (.bool true)) ⟨w.heap.size+1,2,none⟩ (.int .i64 6)) W:=by rw [← hW]; exact set15 (by omega) ((hp_far _ _ _ _ (by simp)).trans ((hp_far _ _ _ _ (by simp)).trans HF7.out)) (sx2 (sx0 HX7.out))
 refine bodyPost_ret (v:=.tuple #[.agg #[.int .i64 0,.int .i64 0,.int .i64 0,.slice none 0 0,.int .i64 0,.int .u32 0,.int .i64 0,.int .i64 0,.int .i64 0,.bool false,.int .i64 0,.slice none 0 0],.int .i64 (9+(N:Int)),.agg #[.bool true,.int .i64 0,.int .i64 6],.int .i64 0]) (by simp [results,Try.results100,go_sem,cell_of HF9,cell_of HX9]) rfl ⟨(⟨0,0,0,none,0,0,0,0,0,0,0,false,0,none,0,0⟩:Fr),rfl,FrP.zero _ _,((HK7.out.then (((Kp.refl [w.heap.size+1] w7).setCell (.inl (by simp)) (.bool true)).setCell (.inl (by simp)) (.int .i64 6)) (by simp)).then K9 (by simp)).drew⟩

theorem parseSz2 (T k2 k3 k4:Nat) (kk:Int) (z any pd:Bool) (A:Option Addr) (n c:Nat) (l:List UInt8) (most:Int) (w:World) (hr:Rd w A n c l) (hn:n≤281474976710656) (hm:0≤most) (h9:¬ n < 9) (N:Nat) (hN:be (l.take 3)=N) (hb:¬ most < (N:Int)) (hc:¬ n < 9+N) (F S:Nat) (hT:(l.getD 3 0).toNat=T) (hF:(l.getD 4 0).toNat=F) (hS:be ((l.drop 5).take 4) % 2147483648=S)
  (hkn:knownB (T:Int)=true) (hkd:∀ w,Calls Try.prog 144 #[.int .i64 T] w fun e w'=>∃ bk,e=.returned (.agg #[.bool z,.bool any,.bool pd,Sz bk,Fv k2,Fv k3,Fv k4])∧w'.heap[bk]?=some (.cells #[.int .i64 kk] 3)∧w.heap.size≤bk∧Kp [] w w') (hri:(any || (z == decide ((S:Int)=0)))=true) (hfit:decide ((N:Int)=kk)=false) (hT2:T=2) :
  Calls Try.prog 100 #[.slice A n c,.int .i64 most] w (ParseR (.bad (9+N) S 6) w):=by
 have HFIT:=Lib.hid hfit
 clear hfit
 subst hT2
 have HR:=Lib.hid hr
 have HRI:=Lib.hid hri
 have HKN:=Lib.hid hkn
 have HKD:=Lib.hid hkd
 have e:=head_of (l:=l) (by rw [hr.len]; exact h9)
 rw [hN,hT,hF,hS] at e
 have HN2:=Lib.hid (show N < 16777216 by have:=be_take_lt l 3; rw [hN] at this; have e3:(256:Nat) ^ 3=16777216:=(by decide); omega)
 have HH:=Lib.hid e
 clear hr e hT hF hS hN hri hkn hkd
 go_enter Try.func100,Try.ntmps100
 go_wp2_with fail
 refine wp_scope_once 0 rfl ?_
 go_wp2_with fail
 generalize hW:World.alloc _ _=w1
 have K1:Kp [] w w1:=by rw [← hW]; with_reducible (repeat (first|exact Kp.refl _ _|assumption|refine Kp.alloc ?_ _|refine Kp.drew ?_|refine Kp.drewN ?_ _|(refine Kp.setL ?_ ?_ _;focus (simp;done))|(refine Kp.setR ?_ ?_ _;focus (first|(simp;done)|(simp;omega)))))
 have HF:=Lib.hid (show w1.heap[w.heap.size]?=some (.cells #[.int .i64 0,.int .i64 0,.int .i64 0,.slice none 0 0,.int .i64 0,.int .u32 0,.int .i64 0,.int .i64 0,.int .i64 0,.bool false,.int .i64 0,.slice none 0 0] 49) by rw [← hW]; with_reducible (repeat (first|assumption|(refine hp_new _ _ _ ?_;focus (simp;done))|refine hpl ?_|(refine hpf ?_ ?_;focus (first|(simp;done)|(simp;omega)))|refine hpd ?_|refine hpe ?_)))
 have HX:=Lib.hid (show w1.heap[w.heap.size+1]?=some (.cells #[.bool false,.int .i64 0,.int .i64 0] 64) by rw [← hW]; with_reducible (repeat (first|assumption|(refine hp_new _ _ _ ?_;focus (simp;done))|refine hpl ?_|(refine hpf ?_ ?_;focus (first|(simp;done)|(simp;omega)))|refine hpd ?_|refine hpe ?_)))
 have HK:=Lib.hid (show w1.heap[w.heap.size+1+1]?=some (.cells #[.bool false,.bool false,.bool false,.nilFunc,.nilFunc,.nilFunc,.nilFunc] 185) by rw [← hW]; with_reducible (repeat (first|assumption|(refine hp_new _ _ _ ?_;focus (simp;done))|refine hpl ?_|(refine hpf ?_ ?_;focus (first|(simp;done)|(simp;omega)))|refine hpd ?_|refine hpe ?_)))
 clear hW
 refine (Head_big A n c l w1 hn (HR.out.keep K1 (by simp))).mono ?_
 rintro e w2 ⟨rfl,K2⟩
 rw [HH.out]
 dsimp only
 have HF2:=Lib.hid (K2.heap HF.out (by simp))
 have HX2:=Lib.hid (K2.heap HX.out (by simp))
 have HD2:=Lib.hid (K2.heap HK.out (by simp))
 have HK2:=Lib.hid (K1.trans K2)
 clear HF HX HK K1 K2
 obtain ⟨q0,q1,q2,q3,q4,q5,q6,q7,q8,q9,q10,q11,qz,qlt,qlt2⟩:=cellsF HF2.out
 have x0:=cell_of HX2.out 0
 have x1:=cell_of HX2.out 1
 have x2:=cell_of HX2.out 2
 have xz:=frozen_of HX2.out
 have hN2:N < 16777216:=HN2.out
 go_wp2_with fail
 generalize hW:World.setCell _ _ _=w3
 have HF3:=Lib.hid (show w3.heap[w.heap.size]?=some (.cells #[.int .i64 ((2:Nat):Int),.int .i64 F,.int .i64 S,.slice none 0 0,.int .i64 0,.int .u32 0,.int .i64 0,.int .i64 0,.int .i64 0,.bool false,.int .i64 0,.slice none 0 0] 49) by rw [← hW]; exact sf11 (sf10 (sf9 (sf8 (sf7 (sf6 (sf5 (sf4 (sf3 (sf2 (sf1 (sf0 (HF2.out)))))))))))))
 have K3:Kp [w.heap.size] w2 w3:=by rw [← hW]; exact (((((((((((((Kp.refl _ _).setCell (.inl (by simp)) _).setCell (.inl (by simp)) _).setCell (.inl (by simp)) _).setCell (.inl (by simp)) _).setCell (.inl (by simp)) _).setCell (.inl (by simp)) _).setCell (.inl (by simp)) _).setCell (.inl (by simp)) _).setCell (.inl (by simp)) _).setCell (.inl (by simp)) _).setCell (.inl (by simp)) _).setCell (.inl (by simp)) _)
 have HX3:=Lib.hid (K3.heap HX2.out (by simp))
 have HD3:=Lib.hid (K3.heap HD2.out (by simp; omega))
 have HK3:=Lib.hid (HK2.out.then K3 (by simp))
 clear hW K3 HF2 HX2 HD2 HK2 q0 q1 q2 q3 q4 q5 q6 q7 q8 q9 q10 q11 qz qlt qlt2 x0 x1 x2 xz
 obtain ⟨q0,q1,q2,q3,q4,q5,q6,q7,q8,q9,q10,q11,qz,qlt,qlt2⟩:=cellsF HF3.out
 have x0:=cell_of HX3.out 0
 have x1:=cell_of HX3.out 1
 have x2:=cell_of HX3.out 2
 have xz:=frozen_of HX3.out
 refine (Known_any ((2:Nat):Int) _).mono ?_
 rintro e w4 ⟨rfl,rfl⟩
 rw [HKN.out]
 go_wp2_with fail
 refine (HKD.out _).mono ?_
 rintro e w5 ⟨bk,rfl,hbk,hbk2,K5⟩
 have hdl:=lt_of_heap HD3.out
 have HF5:=Lib.hid (K5.heap HF3.out (by simp))
 have HX5:=Lib.hid (K5.heap HX3.out (by simp))
 have HD5:=Lib.hid (K5.heap HD3.out (by simp))
 have HK5:=Lib.hid (HK3.out.trans K5)
 clear HF3 HX3 HD3 HK3 K5 HKD q0 q1 q2 q3 q4 q5 q6 q7 q8 q9 q10 q11 qz qlt qlt2 x0 x1 x2 xz
 have d0:=cell_of HD5.out 0
 have d1:=cell_of HD5.out 1
 have d2:=cell_of HD5.out 2
 have d3:=cell_of HD5.out 3
 have d4:=cell_of HD5.out 4
 have d5:=cell_of HD5.out 5
 have d6:=cell_of HD5.out 6
 have dz:=frozen_of HD5.out
 go_wp2_with fail
 generalize hW:World.setCell _ _ _=w6
 obtain ⟨hd6,K6⟩:w6.heap[w.heap.size+1+1]?=some (.cells #[.bool z,.bool any,.bool pd,Sz bk,Fv k2,Fv k3,Fv k4] 185)∧Kp [w.heap.size+1+1] w5 w6:=by rw [← hW]; exact set7 HD5.out
 have HF6:=Lib.hid (K6.heap HF5.out (by simp; omega))
 have HX6:=Lib.hid (K6.heap HX5.out (by simp))
 have HD6:=Lib.hid hd6
 have HK6:=Lib.hid (HK5.out.then K6 (by simp; omega))
 have HS6:=Lib.hid (K6.heap hbk (by simp; omega))
 clear hbk hdl
 clear hW hd6 K6 HF5 HX5 HD5 HK5 d0 d1 d2 d3 d4 d5 d6 dz
 refine (rightF z any pd (Sz bk) (Fv k2) (Fv k3) (Fv k4) (S:Int) _ rfl rfl rfl rfl).mono ?_
 rintro e w7 ⟨rfl,K7⟩
 rw [HRI.out]
 have HF7:=Lib.hid (K7.heap HF6.out (by simp))
 have HX7:=Lib.hid (K7.heap HX6.out (by simp))
 have HD7:=Lib.hid (K7.heap HD6.out (by simp))
 have HK7:=Lib.hid (HK6.out.trans K7)
 have HS7:=Lib.hid (K7.heap HS6.out (by simp))
 clear HS6
 clear HF6 HX6 HD6 HK6 K7
 obtain ⟨q0,q1,q2,q3,q4,q5,q6,q7,q8,q9,q10,q11,qz,qlt,qlt2⟩:=cellsF HF7.out
 have x0:=cell_of HX7.out 0
 have x1:=cell_of HX7.out 1
 have x2:=cell_of HX7.out 2
 have xz:=frozen_of HX7.out
 have d3:=cell_of HD7.out 3
 have d6:=cell_of HD7.out 6
 go_wp2_with fail
 refine (fitsSz N _ bk kk _ HS7.out).mono ?_
 rintro e w8 ⟨rfl,rfl⟩
 rw [HFIT.out]
 go_wp2
 go_step3
 refine And.intro rfl ?_
 go_wp2
 go_region
 go_wp2
 rw [jump_ret]
 generalize hW:World.setCell _ _ _=W
 obtain ⟨HF9,HX9,K9⟩:W.heap[w.heap.size]?=some (.cells #[.int .i64 0,.int .i64 0,.int .i64 0,.slice none 0 0,.int .i64 0,.int .u32 0,.int .i64 0,.int .i64 0,.int .i64 0,.bool false,.int .i64 0,.slice none 0 0] 49)∧W.heap[w.heap.size+1]?=some (.cells #[.bool true,.int .i64 S,.int .i64 6] 64)∧Kp [w.heap.size,w.heap.size+1] (World.setCell (World.setCell (World.setCell w7 ⟨w.heap.size+1,1,none⟩ (.int .i64 S)) ⟨w.heap.size+1,0,none⟩ (.bool true)) ⟨w.heap.size+1,2,none⟩ (.int .i64 6)) W:=by rw [← hW]; exact set15 (by omega) ((hp_far _ _ _ _ (by simp)).trans ((hp_far _ _ _ _ (by simp)).trans ((hp_far _ _ _ _ (by simp)).trans HF7.out))) (sx2 (sx0 (sx1 HX7.out)))
 refine bodyPost_ret (v:=.tuple #[.agg #[.int .i64 0,.int .i64 0,.int .i64 0,.slice none 0 0,.int .i64 0,.int .u32 0,.int .i64 0,.int .i64 0,.int .i64 0,.bool false,.int .i64 0,.slice none 0 0],.int .i64 (9+(N:Int)),.agg #[.bool true,.int .i64 S,.int .i64 6],.int .i64 0]) (by simp [results,Try.results100,go_sem,cell_of HF9,cell_of HX9]) rfl ⟨(⟨0,0,0,none,0,0,0,0,0,0,0,false,0,none,0,0⟩:Fr),rfl,FrP.zero _ _,((HK7.out.then ((((Kp.refl [w.heap.size+1] w7).setCell (.inl (by simp)) (.int .i64 S)).setCell (.inl (by simp)) (.bool true)).setCell (.inl (by simp)) (.int .i64 6)) (by simp)).then K9 (by simp)).drew⟩

end Go.Proofs.Ytkmcakneceagpaa

namespace Go.Proofs.Ytkmcakneceagpaa
open Go.RowKit
theorem parseUnp (T k1 k2 k3 k4:Nat) (z any pd:Bool) (A:Option Addr) (n c:Nat) (l:List UInt8) (most:Int) (w:World) (hr:Rd w A n c l) (hn:n≤281474976710656) (hm:0≤most) (h9:¬ n < 9) (N:Nat) (hN:be (l.take 3)=N) (hb:¬ most < (N:Int)) (hc:¬ n < 9+N) (F S:Nat) (hT:(l.getD 3 0).toNat=T) (hF:(l.getD 4 0).toNat=F) (hS:be ((l.drop 5).take 4) % 2147483648=S)
  (hkn:knownB (T:Int)=true) (hkd:∀ w,Calls Try.prog 144 #[.int .i64 T] w fun e w'=>e=.returned (.agg #[.bool z,.bool any,.bool pd,Fv k1,Fv k2,Fv k3,Fv k4])∧Kp [] w w') (hri:(any || (z == decide ((S:Int)=0)))=true) (fit:Bool→Bool) (hfc:∀ a w,Calls Try.prog k1 #[.int .i64 N,.bool a] w (BoolR (fit a) w)) (hcf:∀ args w,Sem.run Try.prog (callFunc k1 args) w=.ok (.enter k1 args) w) (hfit:fit (bits .and .i64 (F:Int) 1 != 0)=true) (hun:∀ (k1:Value) (g:Nat) (A:Option Addr) (n c:Nat) (m:List UInt8) (w:World),k1.cells=#[k1]→w.heap[g]?=some (.cells #[.int .i64 T,.int .i64 F,.int .i64 S,.slice none 0 0,.int .i64 0,.int .u32 0,.int .i64 0,.int .i64 0,.int .i64 0,.bool false,.int .i64 0,.slice none 0 0] 49)→Rd w A n c m→g∉ob A→n≤16777216→Calls Try.prog 151 #[.pointer (some ⟨g,0,none⟩),.agg #[.bool z,.bool any,.bool pd,k1,Fv k2,Fv k3,Fv k4],.slice A n c] w (UnR T F S g (unS T F m) w)) (code:Int) (hc0:¬ code=0) (hur:unS T F ((l.drop 9).take N)=.bad code) :
  Calls Try.prog 100 #[.slice A n c,.int .i64 most] w (ParseR (.bad (9+N) 0 code) w):=by
 have HCF:=Lib.hid hcf
 clear hcf
 have HFC:=Lib.hid hfc
 have HFIT:=Lib.hid hfit
 clear hfc hfit
 have HUN:=Lib.hid hun
 have HUR:=Lib.hid hur
 obtain ⟨b,o,hA,hbw,_⟩:=hr.addr (by omega)
 have HGA:=Lib.hid (show w.heap.size∉ob A by rw [hA]; simp [ob]; omega)
 have HA:=Lib.hid hA
 clear hun hur hA hbw
 have HR:=Lib.hid hr
 have HRI:=Lib.hid hri
 have HKN:=Lib.hid hkn
 have HKD:=Lib.hid hkd
 have e:=head_of (l:=l) (by rw [hr.len]; exact h9)
 rw [hN,hT,hF,hS] at e
 have HN2:=Lib.hid (show N < 16777216 by have:=be_take_lt l 3; rw [hN] at this; have e3:(256:Nat) ^ 3=16777216:=(by decide); omega)
 have HH:=Lib.hid e
 clear hr e hT hF hS hN hri hkn hkd
 go_enter Try.func100,Try.ntmps100
 go_wp2_with fail
 refine wp_scope_once 0 rfl ?_
 go_wp2_with fail
 generalize hW:World.alloc _ _=w1
 have K1:Kp [] w w1:=by rw [← hW]; with_reducible (repeat (first|exact Kp.refl _ _|assumption|refine Kp.alloc ?_ _|refine Kp.drew ?_|refine Kp.drewN ?_ _|(refine Kp.setL ?_ ?_ _;focus (simp;done))|(refine Kp.setR ?_ ?_ _;focus (first|(simp;done)|(simp;omega)))))
 have HF:=Lib.hid (show w1.heap[w.heap.size]?=some (.cells #[.int .i64 0,.int .i64 0,.int .i64 0,.slice none 0 0,.int .i64 0,.int .u32 0,.int .i64 0,.int .i64 0,.int .i64 0,.bool false,.int .i64 0,.slice none 0 0] 49) by rw [← hW]; with_reducible (repeat (first|assumption|(refine hp_new _ _ _ ?_;focus (simp;done))|refine hpl ?_|(refine hpf ?_ ?_;focus (first|(simp;done)|(simp;omega)))|refine hpd ?_|refine hpe ?_)))
 have HX:=Lib.hid (show w1.heap[w.heap.size+1]?=some (.cells #[.bool false,.int .i64 0,.int .i64 0] 64) by rw [← hW]; with_reducible (repeat (first|assumption|(refine hp_new _ _ _ ?_;focus (simp;done))|refine hpl ?_|(refine hpf ?_ ?_;focus (first|(simp;done)|(simp;omega)))|refine hpd ?_|refine hpe ?_)))
 have HK:=Lib.hid (show w1.heap[w.heap.size+1+1]?=some (.cells #[.bool false,.bool false,.bool false,.nilFunc,.nilFunc,.nilFunc,.nilFunc] 185) by rw [← hW]; with_reducible (repeat (first|assumption|(refine hp_new _ _ _ ?_;focus (simp;done))|refine hpl ?_|(refine hpf ?_ ?_;focus (first|(simp;done)|(simp;omega)))|refine hpd ?_|refine hpe ?_)))
 clear hW
 refine (Head_big A n c l w1 hn (HR.out.keep K1 (by simp))).mono ?_
 rintro e w2 ⟨rfl,K2⟩
 rw [HH.out]
 dsimp only
 have HF2:=Lib.hid (K2.heap HF.out (by simp))
 have HX2:=Lib.hid (K2.heap HX.out (by simp))
 have HD2:=Lib.hid (K2.heap HK.out (by simp))
 have HK2:=Lib.hid (K1.trans K2)
 clear HF HX HK K1 K2
 obtain ⟨q0,q1,q2,q3,q4,q5,q6,q7,q8,q9,q10,q11,qz,qlt,qlt2⟩:=cellsF HF2.out
 have x0:=cell_of HX2.out 0
 have x1:=cell_of HX2.out 1
 have x2:=cell_of HX2.out 2
 have xz:=frozen_of HX2.out
 have hN2:N < 16777216:=HN2.out
 go_wp2_with fail
 generalize hW:World.setCell _ _ _=w3
 have HF3:=Lib.hid (show w3.heap[w.heap.size]?=some (.cells #[.int .i64 T,.int .i64 F,.int .i64 S,.slice none 0 0,.int .i64 0,.int .u32 0,.int .i64 0,.int .i64 0,.int .i64 0,.bool false,.int .i64 0,.slice none 0 0] 49) by rw [← hW]; exact sf11 (sf10 (sf9 (sf8 (sf7 (sf6 (sf5 (sf4 (sf3 (sf2 (sf1 (sf0 (HF2.out)))))))))))))
 have K3:Kp [w.heap.size] w2 w3:=by rw [← hW]; exact (((((((((((((Kp.refl _ _).setCell (.inl (by simp)) _).setCell (.inl (by simp)) _).setCell (.inl (by simp)) _).setCell (.inl (by simp)) _).setCell (.inl (by simp)) _).setCell (.inl (by simp)) _).setCell (.inl (by simp)) _).setCell (.inl (by simp)) _).setCell (.inl (by simp)) _).setCell (.inl (by simp)) _).setCell (.inl (by simp)) _).setCell (.inl (by simp)) _)
 have HX3:=Lib.hid (K3.heap HX2.out (by simp))
 have HD3:=Lib.hid (K3.heap HD2.out (by simp; omega))
 have HK3:=Lib.hid (HK2.out.then K3 (by simp))
 clear hW K3 HF2 HX2 HD2 HK2 q0 q1 q2 q3 q4 q5 q6 q7 q8 q9 q10 q11 qz qlt qlt2 x0 x1 x2 xz
 obtain ⟨q0,q1,q2,q3,q4,q5,q6,q7,q8,q9,q10,q11,qz,qlt,qlt2⟩:=cellsF HF3.out
 have x0:=cell_of HX3.out 0
 have x1:=cell_of HX3.out 1
 have x2:=cell_of HX3.out 2
 have xz:=frozen_of HX3.out
 refine (Known_any (T:Int) _).mono ?_
 rintro e w4 ⟨rfl,rfl⟩
 rw [HKN.out]
 go_wp2_with fail
 refine (HKD.out _).mono ?_
 rintro e w5 ⟨rfl,K5⟩
 have HF5:=Lib.hid (K5.heap HF3.out (by simp))
 have HX5:=Lib.hid (K5.heap HX3.out (by simp))
 have HD5:=Lib.hid (K5.heap HD3.out (by simp))
 have HK5:=Lib.hid (HK3.out.trans K5)
 clear HF3 HX3 HD3 HK3 K5 HKD q0 q1 q2 q3 q4 q5 q6 q7 q8 q9 q10 q11 qz qlt qlt2 x0 x1 x2 xz
 have d0:=cell_of HD5.out 0
 have d1:=cell_of HD5.out 1
 have d2:=cell_of HD5.out 2
 have d3:=cell_of HD5.out 3
 have d4:=cell_of HD5.out 4
 have d5:=cell_of HD5.out 5
 have d6:=cell_of HD5.out 6
 have dz:=frozen_of HD5.out
 go_wp2_with fail
 generalize hW:World.setCell _ _ _=w6
 obtain ⟨hd6,K6⟩:w6.heap[w.heap.size+1+1]?=some (.cells #[.bool z,.bool any,.bool pd,Fv k1,Fv k2,Fv k3,Fv k4] 185)∧Kp [w.heap.size+1+1] w5 w6:=by rw [← hW]; exact set7 HD5.out
 have HF6:=Lib.hid (K6.heap HF5.out (by simp; omega))
 have HX6:=Lib.hid (K6.heap HX5.out (by simp))
 have HD6:=Lib.hid hd6
 have HK6:=Lib.hid (HK5.out.then K6 (by simp; omega))
 clear hW hd6 K6 HF5 HX5 HD5 HK5 d0 d1 d2 d3 d4 d5 d6 dz
 refine (rightF z any pd (Fv k1) (Fv k2) (Fv k3) (Fv k4) (S:Int) _ rfl rfl rfl rfl).mono ?_
 rintro e w7 ⟨rfl,K7⟩
 rw [HRI.out]
 have HF7:=Lib.hid (K7.heap HF6.out (by simp))
 have HX7:=Lib.hid (K7.heap HX6.out (by simp))
 have HD7:=Lib.hid (K7.heap HD6.out (by simp))
 have HK7:=Lib.hid (HK6.out.trans K7)
 clear HF6 HX6 HD6 HK6 K7
 obtain ⟨q0,q1,q2,q3,q4,q5,q6,q7,q8,q9,q10,q11,qz,qlt,qlt2⟩:=cellsF HF7.out
 have x0:=cell_of HX7.out 0
 have x1:=cell_of HX7.out 1
 have x2:=cell_of HX7.out 2
 have xz:=frozen_of HX7.out
 have d3:=cell_of HD7.out 3
 have d6:=cell_of HD7.out 6
 go_wp2_with fail
 rw [HCF.out,Oper.upon_enter]
 refine (HFC.out _ _).mono ?_
 rintro e w8 ⟨rfl,rfl⟩
 rw [HFIT.out]
 have HR7:=Lib.hid (HR.out.keep HK7.out (by simp))
 clear q0 q1 q2 q3 q4 q5 q6 q7 q8 q9 q10 q11 qz qlt qlt2 x0 x1 x2 xz d3 d6
 go_wp2
 have hgA:=HGA.out
 generalize hg:w.heap.size=g at *
 refine wp_region_st (by kernel_rfl) [fun _ v _=>v=(.agg #[.bool z,.bool any,.bool pd,Fv k1,Fv k2,Fv k3,Fv k4]),
   fun _ v _=>v=(.slice A n c),
   fun _ v _=>v=(.int .i64 (9+(N:Int))),
   fun p v w=>∃ x:Option Addr × Nat × Nat,v=.slice x.1 x.2.1 x.2.2∧0≤p∧(p≤0→Rd w x.1 x.2.1 x.2.2 ((l.drop 9).take N)∧g∉ob x.1∧x.2.1=N),
   fun p v w=>v=.tuple #[.slice none 0 0,.int .i64 code],
   fun _ v _=>v=(.tuple #[(.slice none 0 0),(.int .i64 code)]),
   fun _ v _=>v=(.slice none 0 0),
   fun _ v _=>v=(.int .i64 code),
   fun _ v _=>v=(.slice none 0 0),
   fun _ v _=>v=(.int .i64 code)] (fun p w=>Kp [g] w7 w∧(p≤0→Kp [] w7 w)∧(1≤p→∃ f:Fr,w.heap[g]?=some (.cells #[.int .i64 f.ty,.int .i64 f.fl,.int .i64 f.st,.slice f.pA f.pn f.pc,.int .i64 f.pad,.int .u32 f.code,.int .i64 f.last,.int .i64 f.inc,.int .i64 f.dep,.bool f.only,.int .i64 f.wt,.slice f.sA f.sn f.sc] 49))) (fun _ _ _=>True) (fun w w'=>Kp [] w w') [4] [] (by kernel_rfl) (by kernel_rfl) (by kernel_rfl) (by decide) (by kernel_rfl) ⟨StabAt2.const _,StabAt2.const _,StabAt2.const _,StabAt2.span (f:=fun x:Option Addr × Nat × Nat=>.slice x.1 x.2.1 x.2.2) (by intro p x w w' h1 h2 h3 hR hG; omega) (by intro x w w' hR hG; exact ⟨hG.1.keep hR (by simp),hG.2⟩),StabAt2.const _,StabAt2.const _,StabAt2.const _,StabAt2.const _,StabAt2.const _,StabAt2.const _,trivial⟩ (⟨(Kp.refl _ _).drew,fun _=>(Kp.refl _ _).drew,fun h=>by omega⟩) ⟨?_,?_,?_,?_,?_,?_,?_,?_,?_,?_,trivial⟩ (by kernel_rfl) ?_
 ·intro q9 a w E hC K hK
  have h8:a.tmps[8]?=some (.pointer (some ⟨g+1+1,0,none⟩)):=(E.out 8 (by kernel_rfl)).trans rfl
  refine want_none rfl ?_
  have hd:=hC.1.heap HD7.out (by simp; omega)
  have d0:=cell_of hd 0
  have d1:=cell_of hd 1
  have d2:=cell_of hd 2
  have d3:=cell_of hd 3
  have d4:=cell_of hd 4
  have d5:=cell_of hd 5
  have d6:=cell_of hd 6
  have dl:=lt_of_heap hd
  clear hd
  go_simp
  exact hK _ rfl
 ·intro q9 a w E hC K hK
  have h0:a.tmps[0]?=some (.slice A n c):=(E.out 0 (by kernel_rfl)).trans rfl
  refine want_none rfl ?_
  go_simp
  exact hK _ rfl
 ·intro q9 a w E hC K hK
  have h5:a.tmps[5]?=some (.int .i64 (9+(N:Int))):=(E.out 5 (by kernel_rfl)).trans rfl
  refine want_none rfl ?_
  go_simp
  exact hK _ rfl
 ·intro q9 a w E hC K hK
  obtain ⟨_,h75,rfl⟩:=E.pred 1 _ 75 rfl rfl (by kernel_rfl)
  obtain ⟨_,h76,rfl⟩:=E.pred 2 _ 76 rfl rfl (by kernel_rfl)
  refine want_none rfl ?_
  have hrd:=HR7.out.keep hC.1 (by intro _ t h1 h2; simp at h2; subst h2; exact hgA h1)
  have hcp:=HR7.out.cap
  have hA:=HA.out
  subst hA
  by_cases hc9:c=9
  ·subst hc9
   obtain rfl:N=0:=by omega
   obtain rfl:n=9:=by omega
   go_simp
   exact hK _ ⟨⟨some ⟨b,o,none⟩,0,0⟩,rfl,by omega,fun _=>⟨by have:=hrd.sub 9 9 (by omega) (by omega) (A':=some ⟨b,o,none⟩) (by intro b' o' h1 h2; omega); exact this,hgA,rfl⟩⟩
  ·have i0:(9:Int)≤9+(N:Int):=by omega
   have i1:9+(N:Int)≤(c:Int):=by omega
   have i2:¬ (9:Int)=(c:Int):=by omega
   have i3:¬ (c:Int)=9:=by omega
   go_simp
   have e9:((9:Int)+(N:Int)).toNat - 9=N:=by omega
   rw [e9]
   exact hK _ ⟨⟨some ⟨b,o+9,none⟩,N,c - 9⟩,rfl,by omega,fun _=>⟨by have:=hrd.sub 9 (9+N) (by omega) (by omega) (A':=some ⟨b,o+9,none⟩) (by intro b' o' h1 h2; injection h1 with h1; injection h1 with h1 h3 _; rw [h1,h3]); simpa using this,hgA,rfl⟩⟩
 ·intro a w E hC K hK
  have h4:a.tmps[4]?=some (.pointer (some ⟨g,0,none⟩)):=(E.out 4 (by kernel_rfl)).trans rfl
  obtain ⟨_,h74,rfl⟩:=E.pred 0 _ 74 rfl rfl (by kernel_rfl)
  obtain ⟨v3,h77,V3⟩:=E.pred 3 _ 77 rfl rfl (by kernel_rfl)
  replace V3:(fun p v w=>∃ x:Option Addr × Nat × Nat,v=.slice x.1 x.2.1 x.2.2∧0≤p∧(p≤0→Rd w x.1 x.2.1 x.2.2 ((l.drop 9).take N)∧g∉ob x.1∧x.2.1=N)) 0 v3 w:=V3
  obtain ⟨x3,rfl,_,hG3⟩:=V3
  refine want_none rfl ?_
  have hb:=(hC.2.1 (by omega)).heap HF7.out (by simp)
  have hr3:=(hG3 (by omega)).1
  have hg3:=(hG3 (by omega)).2.1
  have HG3:=Lib.hid hG3
  clear hG3
  go_simp
  refine (HUN.out (Fv k1) g x3.1 x3.2.1 x3.2.2 _ w rfl hb hr3 hg3 (by have:=(HG3.out (by omega)).2.2; have:=HN2.out; omega)).mono ?_
  rw [HUR.out]
  rintro e w2 h2
  obtain ⟨rfl,⟨f',hf'⟩,K2⟩:=h2
  go_simp
  exact hK _ _ rfl ⟨hC.1.trans K2,fun h=>by omega,fun _=>⟨f',hf'⟩⟩ trivial
 ·intro q9 a w E hC K hK
  obtain ⟨v4,h78,V4⟩:=E.pred 4 _ 78 rfl rfl (by kernel_rfl)
  replace V4:(fun p v w=>v=.tuple #[.slice none 0 0,.int .i64 code]) q9 v4 w:=V4
  obtain rfl:=V4
  refine want_none rfl ?_
  go_simp
  exact hK _ rfl
 ·intro q9 a w E hC K hK
  obtain ⟨_,h73,rfl⟩:=E.pred 5 _ 73 rfl rfl (by kernel_rfl)
  refine want_none rfl ?_
  go_simp
  exact hK _ rfl
 ·intro q9 a w E hC K hK
  obtain ⟨_,h73,rfl⟩:=E.pred 5 _ 73 rfl rfl (by kernel_rfl)
  refine want_none rfl ?_
  go_simp
  exact hK _ rfl
 ·intro q9 a w E hC K hK
  obtain ⟨_,h79,rfl⟩:=E.pred 6 _ 79 rfl rfl (by kernel_rfl)
  refine want_none rfl ?_
  go_simp
  exact hK _ rfl
 ·intro q9 a w E hC K hK
  obtain ⟨_,h80,rfl⟩:=E.pred 7 _ 80 rfl rfl (by kernel_rfl)
  refine want_none rfl ?_
  go_simp
  exact hK _ rfl
 intro vs w8 hC hV
 have h8:vs 8=.slice none 0 0:=hV 8 _ rfl (by simp)
 have h9:vs 9=.int .i64 code:=hV 9 _ rfl (by simp)
 have HF8:=Lib.hid (hC.2.2 (Nat.le_refl _))
 have HX8:=Lib.hid (hC.1.heap HX7.out (by simp))
 have HD8:=Lib.hid (hC.1.heap HD7.out (by simp; omega))
 have HK8:=Lib.hid (HK7.out.then hC.1 (by simp; omega))
 clear hV hC HX7 HD7 HF7 HK7 HR7
 simp only [putAll,Act.put,List.setIfInBounds_toArray]
 dsimp only [List.set]
 rw [h8,h9]
 clear h8 h9
 subst hg
 obtain ⟨f8,hf8⟩:=HF8.out
 have HF9:=Lib.hid hf8
 clear hf8 HF8
 obtain ⟨q0,q1,q2,q3,q4,q5,q6,q7,q8,q9,q10,q11,qz,qlt,qlt2⟩:=cellsF HF9.out
 have x0:=cell_of HX8.out 0
 have x1:=cell_of HX8.out 1
 have x2:=cell_of HX8.out 2
 have xz:=frozen_of HX8.out
 have hcz:(code != 0)=true:=by simpa using hc0
 go_wp2
 go_step3
 refine And.intro rfl ?_
 go_wp2
 go_region
 go_wp2
 rw [jump_ret]
 generalize hW:World.setCell _ _ _=W
 obtain ⟨HF9,HX9,K9⟩:W.heap[w.heap.size]?=some (.cells #[.int .i64 0,.int .i64 0,.int .i64 0,.slice none 0 0,.int .i64 0,.int .u32 0,.int .i64 0,.int .i64 0,.int .i64 0,.bool false,.int .i64 0,.slice none 0 0] 49)∧W.heap[w.heap.size+1]?=some (.cells #[.bool true,.int .i64 0,.int .i64 code] 64)∧Kp [w.heap.size,w.heap.size+1] (World.setCell (World.setCell w8 ⟨w.heap.size+1,0,none⟩ (.bool true)) ⟨w.heap.size+1,2,none⟩ (.int .i64 code)) W:=by rw [← hW]; exact set15 (by omega) ((hp_far _ _ _ _ (by simp)).trans ((hp_far _ _ _ _ (by simp)).trans HF9.out)) (sx2 (sx0 HX8.out))
 refine bodyPost_ret (v:=.tuple #[.agg #[.int .i64 0,.int .i64 0,.int .i64 0,.slice none 0 0,.int .i64 0,.int .u32 0,.int .i64 0,.int .i64 0,.int .i64 0,.bool false,.int .i64 0,.slice none 0 0],.int .i64 (9+(N:Int)),.agg #[.bool true,.int .i64 0,.int .i64 code],.int .i64 0]) (by simp [results,Try.results100,go_sem,cell_of HF9,cell_of HX9]) rfl ⟨(⟨0,0,0,none,0,0,0,0,0,0,0,false,0,none,0,0⟩:Fr),rfl,FrP.zero _ _,((HK8.out.then (((Kp.refl [w.heap.size+1] w8).setCell (.inl (by simp)) (.bool true)).setCell (.inl (by simp)) (.int .i64 code)) (by simp)).then K9 (by simp)).drew⟩

end Go.Proofs.Ytkmcakneceagpaa
