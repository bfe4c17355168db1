/- The reference's Parse: frames of known types that are of the right size. The reference's Parse: PRIORITY, told. The reference's Parse: what SETTINGS reads. -/
import Derived.Test.YtkmcakneceagpaaQRpQ
import Derived.Test.YtkmcakneceagpaaQRpC
import Derived.Test.YtkmcakneceagpaaQRpE
import Derived.Test.YtkmcakneceagpaaQRpD
import Derived.Test.YtkmcakneceagpaaQPrs6
import Derived.Test.YtkmcakneceagpaaQReg4
set_option linter.unusedSimpArgs false
set_option linter.unusedVariables false
set_option maxHeartbeats 8000000
set_option maxRecDepth 100000
namespace Go.Proofs.Ytkmcakneceagpaa
open Go.RowKit
theorem rd_ne {w:World} {A:Option Addr} {n c g:Nat} {l:List UInt8} {cs:Array Value} {t:TypeId} (h:Rd w A n c l) (hn:0 < n) (hg:w.heap[g]?=some (.cells cs t (0,0))) (hno:∀ k:Int,Value.int .u8 k∉cs):g∉ob A:=by
 intro hm
 obtain ⟨b,off,hA,hb,hc⟩:=h.addr hn
 rw [hA] at hm
 simp [ob] at hm
 subst hm
 have h1:=hc 0 hn
 rw [cell_of hg] at h1
 exact hno _ (Array.mem_of_getElem? h1)
theorem rparseUnp (T:Nat) (A:Option Addr) (n c:Nat) (l:List UInt8) (most:Int) (w:World) (hr:Rd w A n c l) (hn:n≤281474976710656) (hm:0≤most) (h9:¬ n < 9) (N:Nat) (hN:be (l.take 3)=N) (hb:¬ most < (N:Int)) (hc:¬ n < 9+N) (F S:Nat) (hT:(l.getD 3 0).toNat=T) (hF:(l.getD 4 0).toNat=F) (hS:be ((l.drop 5).take 4) % 2147483648=S) (hkn:knownB (T:Int)=true) (hrg:∀ w,Calls Try.prog 153 #[.int .i64 T,.int .i64 S] w (BoolR (rightB T S) w)) (hri:rightB T S=true) (hsz:∀ w,Calls Try.prog 154 #[.agg #[.int .i64 T,.int .i64 F,.int .i64 S,.slice none 0 0,.int .i64 0,.int .u32 0,.int .i64 0,.int .i64 0,.int .i64 0,.bool false,.int .i64 0,.slice none 0 0],.int .i64 N] w (BoolK (!fitsB T F N) w)) (hft:fitsB T F N=true) (hpt:∀ (A:Option Addr) (n c:Nat) (m:List UInt8) (w:World),Rd w A n c m→n≤16777216→Calls Try.prog 155 #[.agg #[.int .i64 T,.int .i64 F,.int .i64 S,.slice none 0 0,.int .i64 0,.int .u32 0,.int .i64 0,.int .i64 0,.int .i64 0,.bool false,.int .i64 0,.slice none 0 0],.slice A n c] w (PartR T F S (unS T F m) w)) (hT2:¬ T=2) (code:Int) (hur:unS T F ((l.drop 9).take N)=.bad code):Calls Try.prog 101 #[.slice A n c,.int .i64 most] w (ParseR (.bad (9+N) 0 code) w):=by
 have ht2:((T:Int) == 2)=false:=by simp; omega
 obtain ⟨b,o,hA,hbw,_⟩:=hr.addr (by omega)
 have HLT:=Lib.hid (show ∀ t,t∈ob A→t < w.heap.size from fun t ht=>by rw [hA] at ht; simp [ob] at ht; omega)
 have HA:=Lib.hid hA
 clear hA hbw
 have HKN:=Lib.hid hkn
 have HRG:=Lib.hid hrg
 have HRI:=Lib.hid hri
 have HSZ:=Lib.hid hsz
 have HFT:=Lib.hid hft
 have HPT:=Lib.hid hpt
 have HUR:=Lib.hid hur
 have HR:=Lib.hid hr
 have e:=head_of (l:=l) (by rw [hr.len]; exact h9)
 rw [hN,hT,hF,hS] at e
 have HN2:=Lib.hid (show N < 16777216 by have:=be_take_lt l 3; rw [hN] at this; have e3:(256:Nat) ^ 3=16777216:=(by decide); omega)
 have HH:=Lib.hid e
 clear hr e hT hF hS hN hkn hrg hri hsz hft hpt hur
 go_enter Try.func101,Try.ntmps101
 go_wp2_with fail
 generalize hW:World.alloc _ _=w1
 have K1:Kp [] w w1:=by rw [← hW]; with_reducible (repeat (first|exact Kp.refl _ _|assumption|refine Kp.alloc ?_ _|refine Kp.drew ?_|refine Kp.drewN ?_ _|(refine Kp.setL ?_ ?_ _;focus (simp;done))|(refine Kp.setR ?_ ?_ _;focus (first|(simp;done)|(simp;omega)))))
 have HF:=Lib.hid (show w1.heap[w.heap.size]?=some (.cells #[.int .i64 0,.int .i64 0,.int .i64 0,.slice none 0 0,.int .i64 0,.int .u32 0,.int .i64 0,.int .i64 0,.int .i64 0,.bool false,.int .i64 0,.slice none 0 0] 49) by rw [← hW]; with_reducible (repeat (first|assumption|(refine hp_new _ _ _ ?_;focus (simp;done))|refine hpl ?_|(refine hpf ?_ ?_;focus (first|(simp;done)|(simp;omega)))|refine hpd ?_|refine hpe ?_)))
 have HX:=Lib.hid (show w1.heap[w.heap.size+1]?=some (.cells #[.bool false,.int .i64 0,.int .i64 0] 64) by rw [← hW]; with_reducible (repeat (first|assumption|(refine hp_new _ _ _ ?_;focus (simp;done))|refine hpl ?_|(refine hpf ?_ ?_;focus (first|(simp;done)|(simp;omega)))|refine hpd ?_|refine hpe ?_)))
 clear hW
 refine (refHead_big A n c l w1 hn (HR.out.keep K1 (by simp))).mono ?_
 rintro e w2 ⟨rfl,K2⟩
 rw [HH.out]
 dsimp only
 have HF2:=Lib.hid (K2.heap HF.out (by simp))
 have HX2:=Lib.hid (K2.heap HX.out (by simp))
 have HK2:=Lib.hid (K1.trans K2)
 clear HF HX K1 K2
 obtain ⟨q0,q1,q2,q3,q4,q5,q6,q7,q8,q9,q10,q11,qz,qlt,qlt2⟩:=cellsF HF2.out
 have x0:=cell_of HX2.out 0
 have x1:=cell_of HX2.out 1
 have x2:=cell_of HX2.out 2
 have xz:=frozen_of HX2.out
 have hN2:=HN2.out
 go_wp2_with fail
 generalize hW:World.alloc _ _=w3
 have K3:Kp [] w2 w3:=by rw [← hW]; with_reducible (repeat (first|exact Kp.refl _ _|assumption|refine Kp.alloc ?_ _|refine Kp.drew ?_|refine Kp.drewN ?_ _|(refine Kp.setL ?_ ?_ _;focus (simp;done))|(refine Kp.setR ?_ ?_ _;focus (first|(simp;done)|(simp;omega)))))
 have HB3:=Lib.hid (show w3.heap[w2.heap.size]?=some (.cells #[.int .i64 T,.int .i64 F,.int .i64 S,.slice none 0 0,.int .i64 0,.int .u32 0,.int .i64 0,.int .i64 0,.int .i64 0,.bool false,.int .i64 0,.slice none 0 0] 49) by rw [← hW]; with_reducible (repeat (first|assumption|(refine hp_new _ _ _ ?_;focus (simp;done))|refine hpl ?_|(refine hpf ?_ ?_;focus (first|(simp;done)|(simp;omega)))|refine hpd ?_|refine hpe ?_)))
 have HF3:=Lib.hid (K3.heap HF2.out (by simp))
 have HX3:=Lib.hid (K3.heap HX2.out (by simp))
 have HK3:=Lib.hid (HK2.out.trans K3)
 have hsw:=HK2.out.size
 have hlx:=lt_of_heap HX2.out
 clear hW K3 HF2 HX2 HK2 q0 q1 q2 q3 q4 q5 q6 q7 q8 q9 q10 q11 qz qlt qlt2 x0 x1 x2 xz
 refine (refKnown_any (T:Int) _).mono ?_
 rintro e w4 ⟨rfl,rfl⟩
 rw [HKN.out]
 obtain ⟨q0,q1,q2,q3,q4,q5,q6,q7,q8,q9,q10,q11,qz,qlt,qlt2⟩:=cellsF HF3.out
 obtain ⟨b0,b1,b2,b3,b4,b5,b6,b7,b8,b9,b10,b11,bz,blt,blt2⟩:=cellsF HB3.out
 have x0:=cell_of HX3.out 0
 have x1:=cell_of HX3.out 1
 have x2:=cell_of HX3.out 2
 have xz:=frozen_of HX3.out
 go_wp2_with fail
 refine (HRG.out _).mono ?_
 rintro e w4 ⟨rfl,rfl⟩
 rw [HRI.out]
 go_wp2_with fail
 refine (rfault 6 _).mono ?_
 rintro e w5 ⟨rfl,K5⟩
 have HB5:=Lib.hid (K5.heap HB3.out (by simp))
 have HF5:=Lib.hid (K5.heap HF3.out (by simp))
 have HX5:=Lib.hid (K5.heap HX3.out (by simp))
 have HK5:=Lib.hid (HK3.out.trans K5)
 clear HB3 HF3 HX3 HK3 K5
 clear q0 q1 q2 q3 q4 q5 q6 q7 q8 q9 q10 q11 qz qlt qlt2 b0 b1 b2 b3 b4 b5 b6 b7 b8 b9 b10 b11 bz blt blt2 x0 x1 x2 xz
 obtain ⟨q0,q1,q2,q3,q4,q5,q6,q7,q8,q9,q10,q11,qz,qlt,qlt2⟩:=cellsF HF5.out
 obtain ⟨b0,b1,b2,b3,b4,b5,b6,b7,b8,b9,b10,b11,bz,blt,blt2⟩:=cellsF HB5.out
 have x0:=cell_of HX5.out 0
 have x1:=cell_of HX5.out 1
 have x2:=cell_of HX5.out 2
 have xz:=frozen_of HX5.out
 have hw5:=lt_of_heap HB5.out
 go_wp2_with fail
 generalize hW:World.alloc _ _=w6
 have K6:Kp [] w5 w6:=by rw [← hW]; with_reducible (repeat (first|exact Kp.refl _ _|assumption|refine Kp.alloc ?_ _|refine Kp.drew ?_|refine Kp.drewN ?_ _|(refine Kp.setL ?_ ?_ _;focus (simp;done))|(refine Kp.setR ?_ ?_ _;focus (first|(simp;done)|(simp;omega)))))
 have HT6:=Lib.hid (show w6.heap[w5.heap.size]?=some (.cells #[.bool true,.int .i64 0,.int .i64 6] 64) by rw [← hW]; with_reducible (repeat (first|assumption|(refine hp_new _ _ _ ?_;focus (simp;done))|refine hpl ?_|(refine hpf ?_ ?_;focus (first|(simp;done)|(simp;omega)))|refine hpd ?_|refine hpe ?_)))
 clear hW
 have HB6:=Lib.hid (K6.heap HB5.out (by simp))
 have HF6:=Lib.hid (K6.heap HF5.out (by simp))
 have HX6:=Lib.hid (K6.heap HX5.out (by simp))
 have HK6:=Lib.hid (HK5.out.trans K6)
 clear HB5 HF5 HX5 HK5 K6
 clear q0 q1 q2 q3 q4 q5 q6 q7 q8 q9 q10 q11 qz qlt qlt2 b0 b1 b2 b3 b4 b5 b6 b7 b8 b9 b10 b11 bz blt blt2 x0 x1 x2 xz
 obtain ⟨q0,q1,q2,q3,q4,q5,q6,q7,q8,q9,q10,q11,qz,qlt,qlt2⟩:=cellsF HF6.out
 obtain ⟨b0,b1,b2,b3,b4,b5,b6,b7,b8,b9,b10,b11,bz,blt,blt2⟩:=cellsF HB6.out
 have x0:=cell_of HX6.out 0
 have x1:=cell_of HX6.out 1
 have x2:=cell_of HX6.out 2
 have xz:=frozen_of HX6.out
 refine (HSZ.out _).mono ?_
 rintro e w7 ⟨rfl,K7⟩
 rw [HFT.out]
 have HT7:=Lib.hid (K7.heap HT6.out (by simp))
 clear HT6
 have HB7:=Lib.hid (K7.heap HB6.out (by simp))
 have HF7:=Lib.hid (K7.heap HF6.out (by simp))
 have HX7:=Lib.hid (K7.heap HX6.out (by simp))
 have HK7:=Lib.hid (HK6.out.trans K7)
 clear HB6 HF6 HX6 HK6 K7
 clear q0 q1 q2 q3 q4 q5 q6 q7 q8 q9 q10 q11 qz qlt qlt2 b0 b1 b2 b3 b4 b5 b6 b7 b8 b9 b10 b11 bz blt blt2 x0 x1 x2 xz
 obtain ⟨q0,q1,q2,q3,q4,q5,q6,q7,q8,q9,q10,q11,qz,qlt,qlt2⟩:=cellsF HF7.out
 obtain ⟨b0,b1,b2,b3,b4,b5,b6,b7,b8,b9,b10,b11,bz,blt,blt2⟩:=cellsF HB7.out
 have x0:=cell_of HX7.out 0
 have x1:=cell_of HX7.out 1
 have x2:=cell_of HX7.out 2
 have xz:=frozen_of HX7.out
 have t0:=cell_of HT7.out 0
 have t1:=cell_of HT7.out 1
 have t2:=cell_of HT7.out 2
 have tz:=frozen_of HT7.out
 have tl:=lt_of_heap HT7.out
 have HR7:=Lib.hid (HR.out.keep HK7.out (by simp))
 have hlx7:=lt_of_heap HX7.out
 go_wp2
 generalize hhb:w2.heap.size=hb at *
 generalize hhx:w5.heap.size=hx at *
 refine wp_region_st3 (by kernel_rfl) [fun _ v _=>v=(.agg #[.int .i64 T,.int .i64 F,.int .i64 S,.slice none 0 0,.int .i64 0,.int .u32 0,.int .i64 0,.int .i64 0,.int .i64 0,.bool false,.int .i64 0,.slice none 0 0]),
   fun _ v _=>v=(.slice A n c),
   fun _ v _=>v=(.int .i64 (N:Int)),
   fun _ v _=>v=(.int .i64 (9+(N:Int))),
   fun p v w=>∃ x:Option Addr × Nat × Nat,v=.slice x.1 x.2.1 x.2.2∧0≤p∧(p≤0→Rd w x.1 x.2.1 x.2.2 ((l.drop 9).take N)∧x.2.1=N),
   fun _ v _=>∃ x:Fr,v=.tuple #[.agg #[.int .i64 x.ty,.int .i64 x.fl,.int .i64 x.st,.slice x.pA x.pn x.pc,.int .i64 x.pad,.int .u32 x.code,.int .i64 x.last,.int .i64 x.inc,.int .i64 x.dep,.bool x.only,.int .i64 x.wt,.slice x.sA x.sn x.sc],.slice none 0 0,.agg #[.bool true,.int .i64 0,.int .i64 code]],
   fun _ v _=>∃ x:Fr,v=.tuple #[.agg #[.int .i64 x.ty,.int .i64 x.fl,.int .i64 x.st,.slice x.pA x.pn x.pc,.int .i64 x.pad,.int .u32 x.code,.int .i64 x.last,.int .i64 x.inc,.int .i64 x.dep,.bool x.only,.int .i64 x.wt,.slice x.sA x.sn x.sc],.slice none 0 0,.agg #[.bool true,.int .i64 0,.int .i64 code]],
   fun _ v _=>∃ x:Fr,v=.agg #[.int .i64 x.ty,.int .i64 x.fl,.int .i64 x.st,.slice x.pA x.pn x.pc,.int .i64 x.pad,.int .u32 x.code,.int .i64 x.last,.int .i64 x.inc,.int .i64 x.dep,.bool x.only,.int .i64 x.wt,.slice x.sA x.sn x.sc],
   fun _ v _=>v=(.slice none 0 0),
   fun _ v _=>v=(.agg #[.bool true,.int .i64 0,.int .i64 code]),
   fun _ v _=>True,
   fun _ v _=>v=(.slice none 0 0),
   fun _ v _=>True] (fun p w=>Kp [hb,hx] w7 w∧(p≤1→w.heap[hb]?=some (.cells #[.int .i64 T,.int .i64 F,.int .i64 S,.slice none 0 0,.int .i64 0,.int .u32 0,.int .i64 0,.int .i64 0,.int .i64 0,.bool false,.int .i64 0,.slice none 0 0] 49))∧(2≤p→∃ f:Fr,w.heap[hb]?=some (.cells #[.int .i64 f.ty,.int .i64 f.fl,.int .i64 f.st,.slice f.pA f.pn f.pc,.int .i64 f.pad,.int .u32 f.code,.int .i64 f.last,.int .i64 f.inc,.int .i64 f.dep,.bool f.only,.int .i64 f.wt,.slice f.sA f.sn f.sc] 49))∧(p≤2→w.heap[hx]?=some (.cells #[.bool true,.int .i64 0,.int .i64 6] 64))∧(3≤p→w.heap[hx]?=some (.cells #[.bool true,.int .i64 0,.int .i64 code] 64))) (fun _ w w'=>Kp [hb,hx] w w') (fun w w'=>Kp [] w w') [5,10,12] [] (by kernel_rfl) (by kernel_rfl) (by kernel_rfl) (by decide) (by kernel_rfl) ⟨StabAt2.const _,StabAt2.const _,StabAt2.const _,StabAt2.const _,StabAt2.span (f:=fun x:Option Addr × Nat × Nat=>.slice x.1 x.2.1 x.2.2) (by intro p x w w' h1 h2 h3 hR hG; omega) (by intro x w w' hR hG; exact ⟨hG.1.keep hR (by simp),hG.2⟩),StabAt2.const _,StabAt2.const _,StabAt2.const _,StabAt2.const _,StabAt2.const _,StabAt2.const _,StabAt2.const _,StabAt2.const _,trivial⟩ (⟨(Kp.refl _ _).drew,fun _=>HB7.out,fun h=>by omega,fun _=>HT7.out,fun h=>by omega⟩) ⟨?_,?_,?_,?_,?_,?_,?_,?_,?_,?_,?_,?_,?_,trivial⟩ (by kernel_rfl) ?_
 ·intro q9 a w E hC K hK
  have h13:a.tmps[13]?=some (.pointer (some ⟨hb,0,none⟩)):=(E.out 13 (by kernel_rfl)).trans rfl
  refine want_none rfl ?_
  have hk:=E.lim 1 10 _ rfl rfl (by kernel_rfl)
  have hb1:=hC.2.1 (by omega)
  obtain ⟨q0,q1,q2,q3,q4,q5,q6,q7,q8,q9',q10,q11,qz,qlt,qlt2⟩:=cellsF hb1
  clear hb1
  go_simp
  exact hK _ rfl
 ·intro q9 a w E hC K hK
  have h0:a.tmps[0]?=some (.slice A n c):=(E.out 0 (by kernel_rfl)).trans rfl
  refine want_none rfl ?_
  go_simp
  exact hK _ rfl
 ·intro q9 a w E hC K hK
  have h8:a.tmps[8]?=some (.int .i64 (N:Int)):=(E.out 8 (by kernel_rfl)).trans rfl
  refine want_none rfl ?_
  go_simp
  exact hK _ rfl
 ·intro q9 a w E hC K hK
  obtain ⟨_,h78,rfl⟩:=E.pred 2 _ 78 rfl rfl (by kernel_rfl)
  refine want_none rfl ?_
  have hN2':N < 16777216:=HN2.out
  have hwr:IntKind.i64.wrap (9+(N:Int))=9+(N:Int):=IntWalk.i64_in _ (by omega)
  go_simp
  first | exact hK _ rfl | exact hK _ (by rw [hwr]) | exact hK _ (by simp [hwr])
 ·intro q9 a w E hC K hK
  obtain ⟨_,h77,rfl⟩:=E.pred 1 _ 77 rfl rfl (by kernel_rfl)
  obtain ⟨_,h79,rfl⟩:=E.pred 3 _ 79 rfl rfl (by kernel_rfl)
  refine want_none rfl ?_
  have hrd:=HR7.out.keep hC.1 (by intro hn0 t h1 h2; have:=HLT.out t h1; simp at h2; omega)
  have hcp:=HR7.out.cap
  have hA:=HA.out
  subst hA
  by_cases hc9:c=9
  ·subst hc9
   obtain rfl:N=0:=by omega
   obtain rfl:n=9:=by omega
   go_simp
   exact hK _ ⟨⟨some ⟨b,o,none⟩,0,0⟩,rfl,by omega,fun _=>⟨by have:=hrd.sub 9 9 (by omega) (by omega) (A':=some ⟨b,o,none⟩) (by intro b' o' h1 h2; omega); simpa using this,rfl⟩⟩
  ·have i0:(9:Int)≤9+(N:Int):=by omega
   have i1:9+(N:Int)≤(c:Int):=by omega
   have i2:¬ (9:Int)=(c:Int):=by omega
   have i3:¬ (c:Int)=9:=by omega
   go_simp
   have e9:((9:Int)+(N:Int)).toNat - 9=N:=by omega
   rw [e9]
   exact hK _ ⟨⟨some ⟨b,o+9,none⟩,N,c - 9⟩,rfl,by omega,fun _=>⟨by have:=hrd.sub 9 (9+N) (by omega) (by omega) (A':=some ⟨b,o+9,none⟩) (by intro b' o' h1 h2; injection h1 with h1; injection h1 with h1 h3 _; rw [h1,h3]); simpa using this,rfl⟩⟩
 ·intro a w E hC K hK
  obtain ⟨_,h76,rfl⟩:=E.pred 0 _ 76 rfl rfl (by kernel_rfl)
  obtain ⟨v4,h80,V4⟩:=E.pred 4 _ 80 rfl rfl (by kernel_rfl)
  replace V4:(fun p v w=>∃ x:Option Addr × Nat × Nat,v=.slice x.1 x.2.1 x.2.2∧0≤p∧(p≤0→Rd w x.1 x.2.1 x.2.2 ((l.drop 9).take N)∧x.2.1=N)) 0 v4 w:=V4
  obtain ⟨x4,rfl,_,hG4⟩:=V4
  refine want_none rfl ?_
  have hrd:=hG4 (by omega)
  have HG4:=Lib.hid hrd.2
  have hr4:=hrd.1
  clear hrd hG4
  go_simp
  refine (HPT.out x4.1 x4.2.1 x4.2.2 _ w hr4 (by have:=HG4.out; have:=HN2.out; omega)).mono ?_
  rw [HUR.out]
  rintro e w2 h2
  obtain ⟨x,rfl,K2⟩:=h2
  go_simp
  exact hK _ _ ⟨x,rfl⟩ ⟨hC.1.trans K2.nil,fun _=>K2.heap (hC.2.1 (by omega)) (by simp),fun h=>by omega,fun _=>K2.heap (hC.2.2.2.1 (by omega)) (by simp),fun h=>by omega⟩ K2.nil
 ·intro q9 a w E hC K hK
  obtain ⟨v5,h81,V5⟩:=E.pred 5 _ 81 rfl rfl (by kernel_rfl)
  replace V5:(fun _ v _=>∃ x:Fr,v=.tuple #[.agg #[.int .i64 x.ty,.int .i64 x.fl,.int .i64 x.st,.slice x.pA x.pn x.pc,.int .i64 x.pad,.int .u32 x.code,.int .i64 x.last,.int .i64 x.inc,.int .i64 x.dep,.bool x.only,.int .i64 x.wt,.slice x.sA x.sn x.sc],.slice none 0 0,.agg #[.bool true,.int .i64 0,.int .i64 code]]) q9 v5 w:=V5
  obtain ⟨x5,rfl⟩:=V5
  refine want_none rfl ?_
  go_simp
  exact hK _ ⟨x5,rfl⟩
 ·intro q9 a w E hC K hK
  obtain ⟨v6,h75,V6⟩:=E.pred 6 _ 75 rfl rfl (by kernel_rfl)
  replace V6:(fun _ v _=>∃ x:Fr,v=.tuple #[.agg #[.int .i64 x.ty,.int .i64 x.fl,.int .i64 x.st,.slice x.pA x.pn x.pc,.int .i64 x.pad,.int .u32 x.code,.int .i64 x.last,.int .i64 x.inc,.int .i64 x.dep,.bool x.only,.int .i64 x.wt,.slice x.sA x.sn x.sc],.slice none 0 0,.agg #[.bool true,.int .i64 0,.int .i64 code]]) q9 v6 w:=V6
  obtain ⟨x6,rfl⟩:=V6
  refine want_none rfl ?_
  go_simp
  exact hK _ ⟨x6,rfl⟩
 ·intro q9 a w E hC K hK
  obtain ⟨v6,h75,V6⟩:=E.pred 6 _ 75 rfl rfl (by kernel_rfl)
  replace V6:(fun _ v _=>∃ x:Fr,v=.tuple #[.agg #[.int .i64 x.ty,.int .i64 x.fl,.int .i64 x.st,.slice x.pA x.pn x.pc,.int .i64 x.pad,.int .u32 x.code,.int .i64 x.last,.int .i64 x.inc,.int .i64 x.dep,.bool x.only,.int .i64 x.wt,.slice x.sA x.sn x.sc],.slice none 0 0,.agg #[.bool true,.int .i64 0,.int .i64 code]]) q9 v6 w:=V6
  obtain ⟨x6,rfl⟩:=V6
  refine want_none rfl ?_
  go_simp
  exact hK _ rfl
 ·intro q9 a w E hC K hK
  obtain ⟨v6,h75,V6⟩:=E.pred 6 _ 75 rfl rfl (by kernel_rfl)
  replace V6:(fun _ v _=>∃ x:Fr,v=.tuple #[.agg #[.int .i64 x.ty,.int .i64 x.fl,.int .i64 x.st,.slice x.pA x.pn x.pc,.int .i64 x.pad,.int .u32 x.code,.int .i64 x.last,.int .i64 x.inc,.int .i64 x.dep,.bool x.only,.int .i64 x.wt,.slice x.sA x.sn x.sc],.slice none 0 0,.agg #[.bool true,.int .i64 0,.int .i64 code]]) q9 v6 w:=V6
  obtain ⟨x6,rfl⟩:=V6
  refine want_none rfl ?_
  go_simp
  exact hK _ rfl
 ·intro a w E hC K hK
  have h13:a.tmps[13]?=some (.pointer (some ⟨hb,0,none⟩)):=(E.out 13 (by kernel_rfl)).trans rfl
  obtain ⟨v7,h82,V7⟩:=E.pred 7 _ 82 rfl rfl (by kernel_rfl)
  replace V7:(fun _ v _=>∃ x:Fr,v=.agg #[.int .i64 x.ty,.int .i64 x.fl,.int .i64 x.st,.slice x.pA x.pn x.pc,.int .i64 x.pad,.int .u32 x.code,.int .i64 x.last,.int .i64 x.inc,.int .i64 x.dep,.bool x.only,.int .i64 x.wt,.slice x.sA x.sn x.sc]) 1 v7 w:=V7
  obtain ⟨x7,rfl⟩:=V7
  refine want_none rfl ?_
  have hz:=hC.2.1 (by omega)
  have HZ:=Lib.hid hz
  obtain ⟨q0,q1,q2,q3,q4,q5,q6,q7,q8,q9',q10,q11,qz,qlt,qlt2⟩:=cellsF hz
  clear hz
  go_simp
  generalize hW:World.setCell _ _ _=w2
  obtain ⟨hs1,hs2⟩:w2.heap[hb]?=some (.cells #[.int .i64 x7.ty,.int .i64 x7.fl,.int .i64 x7.st,.slice x7.pA x7.pn x7.pc,.int .i64 x7.pad,.int .u32 x7.code,.int .i64 x7.last,.int .i64 x7.inc,.int .i64 x7.dep,.bool x7.only,.int .i64 x7.wt,.slice x7.sA x7.sn x7.sc] 49)∧Kp [hb] w w2:=by rw [← hW]; exact rset12 HZ.out
  exact hK undef _ trivial ⟨hC.1.trans (hs2.mono (by simp)),fun h=>by omega,fun _=>⟨x7,hs1⟩,fun h=>hs2.heap (hC.2.2.2.1 (by omega)) (by simp; omega),fun h=>by omega⟩ (hs2.mono (by simp))
 ·intro q9 a w E hC K hK
  obtain ⟨_,h83,rfl⟩:=E.pred 8 _ 83 rfl rfl (by kernel_rfl)
  refine want_none rfl ?_
  go_simp
  exact hK _ rfl
 ·intro a w E hC K hK
  have h14:a.tmps[14]?=some (.pointer (some ⟨hx,0,none⟩)):=(E.out 14 (by kernel_rfl)).trans rfl
  obtain ⟨_,h84,rfl⟩:=E.pred 9 _ 84 rfl rfl (by kernel_rfl)
  refine want_none rfl ?_
  have hz:=hC.2.2.2.1 (by omega)
  have HZ:=Lib.hid hz
  have x0:=cell_of hz 0
  have x1:=cell_of hz 1
  have x2:=cell_of hz 2
  have xz:=frozen_of hz
  have xl:=lt_of_heap hz
  clear hz
  go_simp
  generalize hW:World.setCell _ _ _=w2
  obtain ⟨hs1,hs2⟩:w2.heap[hx]?=some (.cells #[.bool true,.int .i64 0,.int .i64 code] 64)∧Kp [hx] w w2:=by rw [← hW]; exact rset3 HZ.out
  exact hK undef _ trivial ⟨hC.1.trans (hs2.mono (by simp)),fun h=>by omega,fun _=>(by obtain ⟨f,hf⟩:=hC.2.2.1 (by omega); exact ⟨f,hs2.heap hf (by simp; omega)⟩),fun h=>by omega,fun _=>hs1⟩ (hs2.mono (by simp))
 intro vs w8 hC hV
 have HB8:=Lib.hid (hC.2.2.1 (by simp))
 have HT8:=Lib.hid (hC.2.2.2.2 (by simp))
 have HF8:=Lib.hid (hC.1.heap HF7.out (by simp; omega))
 have HX8:=Lib.hid (hC.1.heap HX7.out (by simp; omega))
 have HK8:=Lib.hid (HK7.out.then hC.1 (by simp; omega))
 clear hV hC HX7 HB7 HF7 HK7 HR7 HT7
 simp only [putAll,Act.put,List.setIfInBounds_toArray]
 dsimp only [List.set]
 obtain ⟨q0,q1,q2,q3,q4,q5,q6,q7,q8,q9,q10,q11,qz,qlt,qlt2⟩:=cellsF HF8.out
 have x0:=cell_of HX8.out 0
 have x1:=cell_of HX8.out 1
 have x2:=cell_of HX8.out 2
 have xz:=frozen_of HX8.out
 have t0:=cell_of HT8.out 0
 have t1:=cell_of HT8.out 1
 have t2:=cell_of HT8.out 2
 have tz:=frozen_of HT8.out
 have tl:=lt_of_heap HT8.out
 go_wp2
 go_region
 go_wp2
 generalize hW:World.setCell _ _ _=W
 obtain ⟨HF9,HX9,K9⟩:W.heap[w.heap.size]?=some (.cells #[.int .i64 0,.int .i64 0,.int .i64 0,.slice none 0 0,.int .i64 0,.int .u32 0,.int .i64 0,.int .i64 0,.int .i64 0,.bool false,.int .i64 0,.slice none 0 0] 49)∧W.heap[w.heap.size+1]?=some (.cells #[.bool true,.int .i64 0,.int .i64 code] 64)∧Kp [w.heap.size,w.heap.size+1] w8 W:=by rw [← hW]; exact set15 (by omega) HF8.out HX8.out
 refine bodyPost_ret (v:=.tuple #[.agg #[.int .i64 0,.int .i64 0,.int .i64 0,.slice none 0 0,.int .i64 0,.int .u32 0,.int .i64 0,.int .i64 0,.int .i64 0,.bool false,.int .i64 0,.slice none 0 0],.int .i64 (9+(N:Int)),.agg #[.bool true,.int .i64 0,.int .i64 code],.int .i64 0]) (by simp [results,Try.results101,go_sem,cell_of HF9,cell_of HX9]) rfl ⟨(⟨0,0,0,none,0,0,0,0,0,0,0,false,0,none,0,0⟩:Fr),rfl,FrP.zero _ _,(HK8.out.then K9 (by simp)).drew⟩
theorem rparseOk (T:Nat) (A:Option Addr) (n c:Nat) (l:List UInt8) (most:Int) (w:World) (hr:Rd w A n c l) (hn:n≤281474976710656) (hm:0≤most) (h9:¬ n < 9) (N:Nat) (hN:be (l.take 3)=N) (hb:¬ most < (N:Int)) (hc:¬ n < 9+N) (F S:Nat) (hT:(l.getD 3 0).toNat=T) (hF:(l.getD 4 0).toNat=F) (hS:be ((l.drop 5).take 4) % 2147483648=S) (hkn:knownB (T:Int)=true) (hrg:∀ w,Calls Try.prog 153 #[.int .i64 T,.int .i64 S] w (BoolR (rightB T S) w)) (hri:rightB T S=true) (hsz:∀ w,Calls Try.prog 154 #[.agg #[.int .i64 T,.int .i64 F,.int .i64 S,.slice none 0 0,.int .i64 0,.int .u32 0,.int .i64 0,.int .i64 0,.int .i64 0,.bool false,.int .i64 0,.slice none 0 0],.int .i64 N] w (BoolK (!fitsB T F N) w)) (hft:fitsB T F N=true) (hpt:∀ (A:Option Addr) (n c:Nat) (m:List UInt8) (w:World),Rd w A n c m→n≤16777216→Calls Try.prog 155 #[.agg #[.int .i64 T,.int .i64 F,.int .i64 S,.slice none 0 0,.int .i64 0,.int .u32 0,.int .i64 0,.int .i64 0,.int .i64 0,.bool false,.int .i64 0,.slice none 0 0],.slice A n c] w (PartR T F S (unS T F m) w)) (hT2:¬ T=2) (pad:Nat) (m:List UInt8) (hur:unS T F ((l.drop 9).take N)=.ok pad m) (hfl:∀ (A:Option Addr) (n c:Nat) (w:World),Rd w A n c m→n≤16777216→Calls Try.prog 156 #[.agg #[.int .i64 T,.int .i64 F,.int .i64 S,.slice none 0 0,.int .i64 (pad:Int),.int .u32 0,.int .i64 0,.int .i64 0,.int .i64 0,.bool false,.int .i64 0,.slice none 0 0],.slice A n c] w (FldR (getS (f0S T F S pad) m) w)):Calls Try.prog 101 #[.slice A n c,.int .i64 most] w (ParseR ⟨getS (f0S T F S pad) m,9+N,false,0,0,0⟩ w):=by
 have ht2:((T:Int) == 2)=false:=by simp; omega
 obtain ⟨b,o,hA,hbw,_⟩:=hr.addr (by omega)
 have HLT:=Lib.hid (show ∀ t,t∈ob A→t < w.heap.size from fun t ht=>by rw [hA] at ht; simp [ob] at ht; omega)
 have HA:=Lib.hid hA
 clear hA hbw
 have HKN:=Lib.hid hkn
 have HRG:=Lib.hid hrg
 have HRI:=Lib.hid hri
 have HSZ:=Lib.hid hsz
 have HFT:=Lib.hid hft
 have HPT:=Lib.hid hpt
 have HUR:=Lib.hid hur
 have HFL:=Lib.hid hfl
 have HR:=Lib.hid hr
 have e:=head_of (l:=l) (by rw [hr.len]; exact h9)
 rw [hN,hT,hF,hS] at e
 have HN2:=Lib.hid (show N < 16777216 by have:=be_take_lt l 3; rw [hN] at this; have e3:(256:Nat) ^ 3=16777216:=(by decide); omega)
 have HH:=Lib.hid e
 have HML:=Lib.hid (show m.length≤16777216 by have h1:=un_le HUR.out; have h2:=HN2.out; have h3:((l.drop 9).take N).length≤N:=(by simp only [List.length_take]; omega); omega)
 clear hr e hT hF hS hN hkn hrg hri hsz hft hpt hur hfl
 go_enter Try.func101,Try.ntmps101
 go_wp2_with fail
 generalize hW:World.alloc _ _=w1
 have K1:Kp [] w w1:=by rw [← hW]; with_reducible (repeat (first|exact Kp.refl _ _|assumption|refine Kp.alloc ?_ _|refine Kp.drew ?_|refine Kp.drewN ?_ _|(refine Kp.setL ?_ ?_ _;focus (simp;done))|(refine Kp.setR ?_ ?_ _;focus (first|(simp;done)|(simp;omega)))))
 have HF:=Lib.hid (show w1.heap[w.heap.size]?=some (.cells #[.int .i64 0,.int .i64 0,.int .i64 0,.slice none 0 0,.int .i64 0,.int .u32 0,.int .i64 0,.int .i64 0,.int .i64 0,.bool false,.int .i64 0,.slice none 0 0] 49) by rw [← hW]; with_reducible (repeat (first|assumption|(refine hp_new _ _ _ ?_;focus (simp;done))|refine hpl ?_|(refine hpf ?_ ?_;focus (first|(simp;done)|(simp;omega)))|refine hpd ?_|refine hpe ?_)))
 have HX:=Lib.hid (show w1.heap[w.heap.size+1]?=some (.cells #[.bool false,.int .i64 0,.int .i64 0] 64) by rw [← hW]; with_reducible (repeat (first|assumption|(refine hp_new _ _ _ ?_;focus (simp;done))|refine hpl ?_|(refine hpf ?_ ?_;focus (first|(simp;done)|(simp;omega)))|refine hpd ?_|refine hpe ?_)))
 clear hW
 refine (refHead_big A n c l w1 hn (HR.out.keep K1 (by simp))).mono ?_
 rintro e w2 ⟨rfl,K2⟩
 rw [HH.out]
 dsimp only
 have HF2:=Lib.hid (K2.heap HF.out (by simp))
 have HX2:=Lib.hid (K2.heap HX.out (by simp))
 have HK2:=Lib.hid (K1.trans K2)
 clear HF HX K1 K2
 obtain ⟨q0,q1,q2,q3,q4,q5,q6,q7,q8,q9,q10,q11,qz,qlt,qlt2⟩:=cellsF HF2.out
 have x0:=cell_of HX2.out 0
 have x1:=cell_of HX2.out 1
 have x2:=cell_of HX2.out 2
 have xz:=frozen_of HX2.out
 have hN2:=HN2.out
 go_wp2_with fail
 generalize hW:World.alloc _ _=w3
 have K3:Kp [] w2 w3:=by rw [← hW]; with_reducible (repeat (first|exact Kp.refl _ _|assumption|refine Kp.alloc ?_ _|refine Kp.drew ?_|refine Kp.drewN ?_ _|(refine Kp.setL ?_ ?_ _;focus (simp;done))|(refine Kp.setR ?_ ?_ _;focus (first|(simp;done)|(simp;omega)))))
 have HB3:=Lib.hid (show w3.heap[w2.heap.size]?=some (.cells #[.int .i64 T,.int .i64 F,.int .i64 S,.slice none 0 0,.int .i64 0,.int .u32 0,.int .i64 0,.int .i64 0,.int .i64 0,.bool false,.int .i64 0,.slice none 0 0] 49) by rw [← hW]; with_reducible (repeat (first|assumption|(refine hp_new _ _ _ ?_;focus (simp;done))|refine hpl ?_|(refine hpf ?_ ?_;focus (first|(simp;done)|(simp;omega)))|refine hpd ?_|refine hpe ?_)))
 have HF3:=Lib.hid (K3.heap HF2.out (by simp))
 have HX3:=Lib.hid (K3.heap HX2.out (by simp))
 have HK3:=Lib.hid (HK2.out.trans K3)
 have hsw:=HK2.out.size
 have hlx:=lt_of_heap HX2.out
 clear hW K3 HF2 HX2 HK2 q0 q1 q2 q3 q4 q5 q6 q7 q8 q9 q10 q11 qz qlt qlt2 x0 x1 x2 xz
 refine (refKnown_any (T:Int) _).mono ?_
 rintro e w4 ⟨rfl,rfl⟩
 rw [HKN.out]
 obtain ⟨q0,q1,q2,q3,q4,q5,q6,q7,q8,q9,q10,q11,qz,qlt,qlt2⟩:=cellsF HF3.out
 obtain ⟨b0,b1,b2,b3,b4,b5,b6,b7,b8,b9,b10,b11,bz,blt,blt2⟩:=cellsF HB3.out
 have x0:=cell_of HX3.out 0
 have x1:=cell_of HX3.out 1
 have x2:=cell_of HX3.out 2
 have xz:=frozen_of HX3.out
 go_wp2_with fail
 refine (HRG.out _).mono ?_
 rintro e w4 ⟨rfl,rfl⟩
 rw [HRI.out]
 go_wp2_with fail
 refine (rfault 6 _).mono ?_
 rintro e w5 ⟨rfl,K5⟩
 have HB5:=Lib.hid (K5.heap HB3.out (by simp))
 have HF5:=Lib.hid (K5.heap HF3.out (by simp))
 have HX5:=Lib.hid (K5.heap HX3.out (by simp))
 have HK5:=Lib.hid (HK3.out.trans K5)
 clear HB3 HF3 HX3 HK3 K5
 clear q0 q1 q2 q3 q4 q5 q6 q7 q8 q9 q10 q11 qz qlt qlt2 b0 b1 b2 b3 b4 b5 b6 b7 b8 b9 b10 b11 bz blt blt2 x0 x1 x2 xz
 obtain ⟨q0,q1,q2,q3,q4,q5,q6,q7,q8,q9,q10,q11,qz,qlt,qlt2⟩:=cellsF HF5.out
 obtain ⟨b0,b1,b2,b3,b4,b5,b6,b7,b8,b9,b10,b11,bz,blt,blt2⟩:=cellsF HB5.out
 have x0:=cell_of HX5.out 0
 have x1:=cell_of HX5.out 1
 have x2:=cell_of HX5.out 2
 have xz:=frozen_of HX5.out
 have hw5:=lt_of_heap HB5.out
 go_wp2_with fail
 generalize hW:World.alloc _ _=w6
 have K6:Kp [] w5 w6:=by rw [← hW]; with_reducible (repeat (first|exact Kp.refl _ _|assumption|refine Kp.alloc ?_ _|refine Kp.drew ?_|refine Kp.drewN ?_ _|(refine Kp.setL ?_ ?_ _;focus (simp;done))|(refine Kp.setR ?_ ?_ _;focus (first|(simp;done)|(simp;omega)))))
 have HT6:=Lib.hid (show w6.heap[w5.heap.size]?=some (.cells #[.bool true,.int .i64 0,.int .i64 6] 64) by rw [← hW]; with_reducible (repeat (first|assumption|(refine hp_new _ _ _ ?_;focus (simp;done))|refine hpl ?_|(refine hpf ?_ ?_;focus (first|(simp;done)|(simp;omega)))|refine hpd ?_|refine hpe ?_)))
 clear hW
 have HB6:=Lib.hid (K6.heap HB5.out (by simp))
 have HF6:=Lib.hid (K6.heap HF5.out (by simp))
 have HX6:=Lib.hid (K6.heap HX5.out (by simp))
 have HK6:=Lib.hid (HK5.out.trans K6)
 clear HB5 HF5 HX5 HK5 K6
 clear q0 q1 q2 q3 q4 q5 q6 q7 q8 q9 q10 q11 qz qlt qlt2 b0 b1 b2 b3 b4 b5 b6 b7 b8 b9 b10 b11 bz blt blt2 x0 x1 x2 xz
 obtain ⟨q0,q1,q2,q3,q4,q5,q6,q7,q8,q9,q10,q11,qz,qlt,qlt2⟩:=cellsF HF6.out
 obtain ⟨b0,b1,b2,b3,b4,b5,b6,b7,b8,b9,b10,b11,bz,blt,blt2⟩:=cellsF HB6.out
 have x0:=cell_of HX6.out 0
 have x1:=cell_of HX6.out 1
 have x2:=cell_of HX6.out 2
 have xz:=frozen_of HX6.out
 refine (HSZ.out _).mono ?_
 rintro e w7 ⟨rfl,K7⟩
 rw [HFT.out]
 have HT7:=Lib.hid (K7.heap HT6.out (by simp))
 clear HT6
 have HB7:=Lib.hid (K7.heap HB6.out (by simp))
 have HF7:=Lib.hid (K7.heap HF6.out (by simp))
 have HX7:=Lib.hid (K7.heap HX6.out (by simp))
 have HK7:=Lib.hid (HK6.out.trans K7)
 clear HB6 HF6 HX6 HK6 K7
 clear q0 q1 q2 q3 q4 q5 q6 q7 q8 q9 q10 q11 qz qlt qlt2 b0 b1 b2 b3 b4 b5 b6 b7 b8 b9 b10 b11 bz blt blt2 x0 x1 x2 xz
 obtain ⟨q0,q1,q2,q3,q4,q5,q6,q7,q8,q9,q10,q11,qz,qlt,qlt2⟩:=cellsF HF7.out
 obtain ⟨b0,b1,b2,b3,b4,b5,b6,b7,b8,b9,b10,b11,bz,blt,blt2⟩:=cellsF HB7.out
 have x0:=cell_of HX7.out 0
 have x1:=cell_of HX7.out 1
 have x2:=cell_of HX7.out 2
 have xz:=frozen_of HX7.out
 have t0:=cell_of HT7.out 0
 have t1:=cell_of HT7.out 1
 have t2:=cell_of HT7.out 2
 have tz:=frozen_of HT7.out
 have tl:=lt_of_heap HT7.out
 have HR7:=Lib.hid (HR.out.keep HK7.out (by simp))
 have hlx7:=lt_of_heap HX7.out
 go_wp2
 generalize hhb:w2.heap.size=hb at *
 generalize hhx:w5.heap.size=hx at *
 refine wp_region_st3 (by kernel_rfl) [fun _ v _=>v=(.agg #[.int .i64 T,.int .i64 F,.int .i64 S,.slice none 0 0,.int .i64 0,.int .u32 0,.int .i64 0,.int .i64 0,.int .i64 0,.bool false,.int .i64 0,.slice none 0 0]),
   fun _ v _=>v=(.slice A n c),
   fun _ v _=>v=(.int .i64 (N:Int)),
   fun _ v _=>v=(.int .i64 (9+(N:Int))),
   fun p v w=>∃ x:Option Addr × Nat × Nat,v=.slice x.1 x.2.1 x.2.2∧0≤p∧(p≤0→Rd w x.1 x.2.1 x.2.2 ((l.drop 9).take N)∧x.2.1=N),
   fun p v w=>∃ x:Option Addr × Nat × Nat,v=.tuple #[.agg #[.int .i64 T,.int .i64 F,.int .i64 S,.slice none 0 0,.int .i64 (pad:Int),.int .u32 0,.int .i64 0,.int .i64 0,.int .i64 0,.bool false,.int .i64 0,.slice none 0 0],.slice x.1 x.2.1 x.2.2,.agg #[.bool false,.int .i64 0,.int .i64 0]]∧1≤p∧(p≤3→Rd w x.1 x.2.1 x.2.2 m∧(0 < x.2.1→∀ t,t∈ob x.1→¬ t=hb∧¬ t=hx)),
   fun p v w=>∃ x:Option Addr × Nat × Nat,v=.tuple #[.agg #[.int .i64 T,.int .i64 F,.int .i64 S,.slice none 0 0,.int .i64 (pad:Int),.int .u32 0,.int .i64 0,.int .i64 0,.int .i64 0,.bool false,.int .i64 0,.slice none 0 0],.slice x.1 x.2.1 x.2.2,.agg #[.bool false,.int .i64 0,.int .i64 0]]∧1≤p∧(p≤3→Rd w x.1 x.2.1 x.2.2 m∧(0 < x.2.1→∀ t,t∈ob x.1→¬ t=hb∧¬ t=hx)),
   fun _ v _=>v=(.agg #[.int .i64 T,.int .i64 F,.int .i64 S,.slice none 0 0,.int .i64 (pad:Int),.int .u32 0,.int .i64 0,.int .i64 0,.int .i64 0,.bool false,.int .i64 0,.slice none 0 0]),
   fun p v w=>∃ x:Option Addr × Nat × Nat,v=.slice x.1 x.2.1 x.2.2∧1≤p∧(p≤3→Rd w x.1 x.2.1 x.2.2 m∧(0 < x.2.1→∀ t,t∈ob x.1→¬ t=hb∧¬ t=hx)),
   fun _ v _=>v=(.agg #[.bool false,.int .i64 0,.int .i64 0]),
   fun _ v _=>True,
   fun p v w=>∃ x:Option Addr × Nat × Nat,v=.slice x.1 x.2.1 x.2.2∧1≤p∧(p≤3→Rd w x.1 x.2.1 x.2.2 m∧(0 < x.2.1→∀ t,t∈ob x.1→¬ t=hb∧¬ t=hx)),
   fun _ v _=>True] (fun p w=>Kp [hb,hx] w7 w∧(p≤1→w.heap[hb]?=some (.cells #[.int .i64 T,.int .i64 F,.int .i64 S,.slice none 0 0,.int .i64 0,.int .u32 0,.int .i64 0,.int .i64 0,.int .i64 0,.bool false,.int .i64 0,.slice none 0 0] 49))∧(2≤p→w.heap[hb]?=some (.cells #[.int .i64 T,.int .i64 F,.int .i64 S,.slice none 0 0,.int .i64 (pad:Int),.int .u32 0,.int .i64 0,.int .i64 0,.int .i64 0,.bool false,.int .i64 0,.slice none 0 0] 49))∧(p≤2→w.heap[hx]?=some (.cells #[.bool true,.int .i64 0,.int .i64 6] 64))∧(3≤p→w.heap[hx]?=some (.cells #[.bool false,.int .i64 0,.int .i64 0] 64))) (fun _ w w'=>Kp [hb,hx] w w') (fun w w'=>Kp [] w w') [5,10,12] [] (by kernel_rfl) (by kernel_rfl) (by kernel_rfl) (by decide) (by kernel_rfl) ⟨StabAt2.const _,StabAt2.const _,StabAt2.const _,StabAt2.const _,StabAt2.span (f:=fun x:Option Addr × Nat × Nat=>.slice x.1 x.2.1 x.2.2) (by intro p x w w' h1 h2 h3 hR hG; omega) (by intro x w w' hR hG; exact ⟨hG.1.keep hR (by simp),hG.2⟩),StabAt2.span (f:=fun x:Option Addr × Nat × Nat=>.tuple #[.agg #[.int .i64 T,.int .i64 F,.int .i64 S,.slice none 0 0,.int .i64 (pad:Int),.int .u32 0,.int .i64 0,.int .i64 0,.int .i64 0,.bool false,.int .i64 0,.slice none 0 0],.slice x.1 x.2.1 x.2.2,.agg #[.bool false,.int .i64 0,.int .i64 0]]) (by intro p x w w' h1 h2 h3 hR hG; exact ⟨hG.1.keep hR (by intro hn t ht hs; have:=hG.2 hn t ht; simp at hs; omega),hG.2⟩) (by intro x w w' hR hG; exact ⟨hG.1.keep hR (by simp),hG.2⟩),StabAt2.span (f:=fun x:Option Addr × Nat × Nat=>.tuple #[.agg #[.int .i64 T,.int .i64 F,.int .i64 S,.slice none 0 0,.int .i64 (pad:Int),.int .u32 0,.int .i64 0,.int .i64 0,.int .i64 0,.bool false,.int .i64 0,.slice none 0 0],.slice x.1 x.2.1 x.2.2,.agg #[.bool false,.int .i64 0,.int .i64 0]]) (by intro p x w w' h1 h2 h3 hR hG; exact ⟨hG.1.keep hR (by intro hn t ht hs; have:=hG.2 hn t ht; simp at hs; omega),hG.2⟩) (by intro x w w' hR hG; exact ⟨hG.1.keep hR (by simp),hG.2⟩),StabAt2.const _,StabAt2.span (f:=fun x:Option Addr × Nat × Nat=>.slice x.1 x.2.1 x.2.2) (by intro p x w w' h1 h2 h3 hR hG; exact ⟨hG.1.keep hR (by intro hn t ht hs; have:=hG.2 hn t ht; simp at hs; omega),hG.2⟩) (by intro x w w' hR hG; exact ⟨hG.1.keep hR (by simp),hG.2⟩),StabAt2.const _,StabAt2.const _,StabAt2.span (f:=fun x:Option Addr × Nat × Nat=>.slice x.1 x.2.1 x.2.2) (by intro p x w w' h1 h2 h3 hR hG; exact ⟨hG.1.keep hR (by intro hn t ht hs; have:=hG.2 hn t ht; simp at hs; omega),hG.2⟩) (by intro x w w' hR hG; exact ⟨hG.1.keep hR (by simp),hG.2⟩),StabAt2.const _,trivial⟩ (⟨(Kp.refl _ _).drew,fun _=>HB7.out,fun h=>by omega,fun _=>HT7.out,fun h=>by omega⟩) ⟨?_,?_,?_,?_,?_,?_,?_,?_,?_,?_,?_,?_,?_,trivial⟩ (by kernel_rfl) ?_
 ·intro q9 a w E hC K hK
  have h13:a.tmps[13]?=some (.pointer (some ⟨hb,0,none⟩)):=(E.out 13 (by kernel_rfl)).trans rfl
  refine want_none rfl ?_
  have hk:=E.lim 1 10 _ rfl rfl (by kernel_rfl)
  have hb1:=hC.2.1 (by omega)
  obtain ⟨q0,q1,q2,q3,q4,q5,q6,q7,q8,q9',q10,q11,qz,qlt,qlt2⟩:=cellsF hb1
  clear hb1
  go_simp
  exact hK _ rfl
 ·intro q9 a w E hC K hK
  have h0:a.tmps[0]?=some (.slice A n c):=(E.out 0 (by kernel_rfl)).trans rfl
  refine want_none rfl ?_
  go_simp
  exact hK _ rfl
 ·intro q9 a w E hC K hK
  have h8:a.tmps[8]?=some (.int .i64 (N:Int)):=(E.out 8 (by kernel_rfl)).trans rfl
  refine want_none rfl ?_
  go_simp
  exact hK _ rfl
 ·intro q9 a w E hC K hK
  obtain ⟨_,h78,rfl⟩:=E.pred 2 _ 78 rfl rfl (by kernel_rfl)
  refine want_none rfl ?_
  have hN2':N < 16777216:=HN2.out
  have hwr:IntKind.i64.wrap (9+(N:Int))=9+(N:Int):=IntWalk.i64_in _ (by omega)
  go_simp
  first | exact hK _ rfl | exact hK _ (by rw [hwr]) | exact hK _ (by simp [hwr])
 ·intro q9 a w E hC K hK
  obtain ⟨_,h77,rfl⟩:=E.pred 1 _ 77 rfl rfl (by kernel_rfl)
  obtain ⟨_,h79,rfl⟩:=E.pred 3 _ 79 rfl rfl (by kernel_rfl)
  refine want_none rfl ?_
  have hrd:=HR7.out.keep hC.1 (by intro hn0 t h1 h2; have:=HLT.out t h1; simp at h2; omega)
  have hcp:=HR7.out.cap
  have hA:=HA.out
  subst hA
  by_cases hc9:c=9
  ·subst hc9
   obtain rfl:N=0:=by omega
   obtain rfl:n=9:=by omega
   go_simp
   exact hK _ ⟨⟨some ⟨b,o,none⟩,0,0⟩,rfl,by omega,fun _=>⟨by have:=hrd.sub 9 9 (by omega) (by omega) (A':=some ⟨b,o,none⟩) (by intro b' o' h1 h2; omega); simpa using this,rfl⟩⟩
  ·have i0:(9:Int)≤9+(N:Int):=by omega
   have i1:9+(N:Int)≤(c:Int):=by omega
   have i2:¬ (9:Int)=(c:Int):=by omega
   have i3:¬ (c:Int)=9:=by omega
   go_simp
   have e9:((9:Int)+(N:Int)).toNat - 9=N:=by omega
   rw [e9]
   exact hK _ ⟨⟨some ⟨b,o+9,none⟩,N,c - 9⟩,rfl,by omega,fun _=>⟨by have:=hrd.sub 9 (9+N) (by omega) (by omega) (A':=some ⟨b,o+9,none⟩) (by intro b' o' h1 h2; injection h1 with h1; injection h1 with h1 h3 _; rw [h1,h3]); simpa using this,rfl⟩⟩
 ·intro a w E hC K hK
  obtain ⟨_,h76,rfl⟩:=E.pred 0 _ 76 rfl rfl (by kernel_rfl)
  obtain ⟨v4,h80,V4⟩:=E.pred 4 _ 80 rfl rfl (by kernel_rfl)
  replace V4:(fun p v w=>∃ x:Option Addr × Nat × Nat,v=.slice x.1 x.2.1 x.2.2∧0≤p∧(p≤0→Rd w x.1 x.2.1 x.2.2 ((l.drop 9).take N)∧x.2.1=N)) 0 v4 w:=V4
  obtain ⟨x4,rfl,_,hG4⟩:=V4
  refine want_none rfl ?_
  have hrd:=hG4 (by omega)
  have HG4:=Lib.hid hrd.2
  have hr4:=hrd.1
  clear hrd hG4
  go_simp
  refine (HPT.out x4.1 x4.2.1 x4.2.2 _ w hr4 (by have:=HG4.out; have:=HN2.out; omega)).mono ?_
  rw [HUR.out]
  rintro e w2 h2
  obtain ⟨A',n',c',rfl,hr',K2⟩:=h2
  have hz1:=K2.heap (hC.2.1 (by omega)) (by simp)
  have hz2:=K2.heap (hC.2.2.2.1 (by omega)) (by simp)
  have hne:0 < n'→∀ t,t∈ob A'→¬ t=hb∧¬ t=hx:=fun hn t ht=>⟨fun e=>by subst e; exact rd_ne hr' hn hz1 (by simp) ht,fun e=>by subst e; exact rd_ne hr' hn hz2 (by simp) ht⟩
  go_simp
  exact hK _ _ ⟨⟨A',n',c'⟩,rfl,by omega,fun _=>⟨hr',hne⟩⟩ ⟨hC.1.trans K2.nil,fun _=>hz1,fun h=>by omega,fun _=>hz2,fun h=>by omega⟩ K2.nil
 ·intro q9 a w E hC K hK
  obtain ⟨v5,h81,V5⟩:=E.pred 5 _ 81 rfl rfl (by kernel_rfl)
  replace V5:(fun p v w=>∃ x:Option Addr × Nat × Nat,v=.tuple #[.agg #[.int .i64 T,.int .i64 F,.int .i64 S,.slice none 0 0,.int .i64 (pad:Int),.int .u32 0,.int .i64 0,.int .i64 0,.int .i64 0,.bool false,.int .i64 0,.slice none 0 0],.slice x.1 x.2.1 x.2.2,.agg #[.bool false,.int .i64 0,.int .i64 0]]∧1≤p∧(p≤3→Rd w x.1 x.2.1 x.2.2 m∧(0 < x.2.1→∀ t,t∈ob x.1→¬ t=hb∧¬ t=hx))) q9 v5 w:=V5
  obtain ⟨x5,rfl,hl5,hG5⟩:=V5
  refine want_none rfl ?_
  go_simp
  exact hK _ ⟨x5,rfl,hl5,hG5⟩
 ·intro q9 a w E hC K hK
  obtain ⟨v6,h75,V6⟩:=E.pred 6 _ 75 rfl rfl (by kernel_rfl)
  replace V6:(fun p v w=>∃ x:Option Addr × Nat × Nat,v=.tuple #[.agg #[.int .i64 T,.int .i64 F,.int .i64 S,.slice none 0 0,.int .i64 (pad:Int),.int .u32 0,.int .i64 0,.int .i64 0,.int .i64 0,.bool false,.int .i64 0,.slice none 0 0],.slice x.1 x.2.1 x.2.2,.agg #[.bool false,.int .i64 0,.int .i64 0]]∧1≤p∧(p≤3→Rd w x.1 x.2.1 x.2.2 m∧(0 < x.2.1→∀ t,t∈ob x.1→¬ t=hb∧¬ t=hx))) q9 v6 w:=V6
  obtain ⟨x6,rfl,hl6,hG6⟩:=V6
  refine want_none rfl ?_
  go_simp
  exact hK _ rfl
 ·intro q9 a w E hC K hK
  obtain ⟨v6,h75,V6⟩:=E.pred 6 _ 75 rfl rfl (by kernel_rfl)
  replace V6:(fun p v w=>∃ x:Option Addr × Nat × Nat,v=.tuple #[.agg #[.int .i64 T,.int .i64 F,.int .i64 S,.slice none 0 0,.int .i64 (pad:Int),.int .u32 0,.int .i64 0,.int .i64 0,.int .i64 0,.bool false,.int .i64 0,.slice none 0 0],.slice x.1 x.2.1 x.2.2,.agg #[.bool false,.int .i64 0,.int .i64 0]]∧1≤p∧(p≤3→Rd w x.1 x.2.1 x.2.2 m∧(0 < x.2.1→∀ t,t∈ob x.1→¬ t=hb∧¬ t=hx))) q9 v6 w:=V6
  obtain ⟨x6,rfl,hl6,hG6⟩:=V6
  refine want_none rfl ?_
  go_simp
  exact hK _ ⟨x6,rfl,hl6,hG6⟩
 ·intro q9 a w E hC K hK
  obtain ⟨v6,h75,V6⟩:=E.pred 6 _ 75 rfl rfl (by kernel_rfl)
  replace V6:(fun p v w=>∃ x:Option Addr × Nat × Nat,v=.tuple #[.agg #[.int .i64 T,.int .i64 F,.int .i64 S,.slice none 0 0,.int .i64 (pad:Int),.int .u32 0,.int .i64 0,.int .i64 0,.int .i64 0,.bool false,.int .i64 0,.slice none 0 0],.slice x.1 x.2.1 x.2.2,.agg #[.bool false,.int .i64 0,.int .i64 0]]∧1≤p∧(p≤3→Rd w x.1 x.2.1 x.2.2 m∧(0 < x.2.1→∀ t,t∈ob x.1→¬ t=hb∧¬ t=hx))) q9 v6 w:=V6
  obtain ⟨x6,rfl,hl6,hG6⟩:=V6
  refine want_none rfl ?_
  go_simp
  exact hK _ rfl
 ·intro a w E hC K hK
  have h13:a.tmps[13]?=some (.pointer (some ⟨hb,0,none⟩)):=(E.out 13 (by kernel_rfl)).trans rfl
  obtain ⟨_,h82,rfl⟩:=E.pred 7 _ 82 rfl rfl (by kernel_rfl)
  refine want_none rfl ?_
  have hz:=hC.2.1 (by omega)
  have HZ:=Lib.hid hz
  obtain ⟨q0,q1,q2,q3,q4,q5,q6,q7,q8,q9',q10,q11,qz,qlt,qlt2⟩:=cellsF hz
  clear hz
  go_simp
  generalize hW:World.setCell _ _ _=w2
  obtain ⟨hs1,hs2⟩:w2.heap[hb]?=some (.cells #[.int .i64 T,.int .i64 F,.int .i64 S,.slice none 0 0,.int .i64 (pad:Int),.int .u32 0,.int .i64 0,.int .i64 0,.int .i64 0,.bool false,.int .i64 0,.slice none 0 0] 49)∧Kp [hb] w w2:=by rw [← hW]; exact rset12 HZ.out
  exact hK undef _ trivial ⟨hC.1.trans (hs2.mono (by simp)),fun h=>by omega,fun _=>hs1,fun h=>hs2.heap (hC.2.2.2.1 (by omega)) (by simp; omega),fun h=>by omega⟩ (hs2.mono (by simp))
 ·intro q9 a w E hC K hK
  obtain ⟨v8,h83,V8⟩:=E.pred 8 _ 83 rfl rfl (by kernel_rfl)
  replace V8:(fun p v w=>∃ x:Option Addr × Nat × Nat,v=.slice x.1 x.2.1 x.2.2∧1≤p∧(p≤3→Rd w x.1 x.2.1 x.2.2 m∧(0 < x.2.1→∀ t,t∈ob x.1→¬ t=hb∧¬ t=hx))) q9 v8 w:=V8
  obtain ⟨x8,rfl,hl8,hG8⟩:=V8
  refine want_none rfl ?_
  go_simp
  exact hK _ ⟨x8,rfl,hl8,hG8⟩
 ·intro a w E hC K hK
  have h14:a.tmps[14]?=some (.pointer (some ⟨hx,0,none⟩)):=(E.out 14 (by kernel_rfl)).trans rfl
  obtain ⟨_,h84,rfl⟩:=E.pred 9 _ 84 rfl rfl (by kernel_rfl)
  refine want_none rfl ?_
  have hz:=hC.2.2.2.1 (by omega)
  have HZ:=Lib.hid hz
  have x0:=cell_of hz 0
  have x1:=cell_of hz 1
  have x2:=cell_of hz 2
  have xz:=frozen_of hz
  have xl:=lt_of_heap hz
  clear hz
  go_simp
  generalize hW:World.setCell _ _ _=w2
  obtain ⟨hs1,hs2⟩:w2.heap[hx]?=some (.cells #[.bool false,.int .i64 0,.int .i64 0] 64)∧Kp [hx] w w2:=by rw [← hW]; exact rset3 HZ.out
  exact hK undef _ trivial ⟨hC.1.trans (hs2.mono (by simp)),fun h=>by omega,fun _=>(hs2.heap (hC.2.2.1 (by omega)) (by simp; omega)),fun h=>by omega,fun _=>hs1⟩ (hs2.mono (by simp))
 intro vs w8 hC hV
 obtain ⟨⟨A8,n8,c8⟩,h11,_,hG8⟩:=hV 11 _ rfl (by simp)
 obtain ⟨hr8,_⟩:=hG8 (by simp)
 dsimp only at hr8
 have HR8:=Lib.hid hr8
 clear hr8 hG8
 have HB8:=Lib.hid (hC.2.2.1 (by simp))
 have HT8:=Lib.hid (hC.2.2.2.2 (by simp))
 have HF8:=Lib.hid (hC.1.heap HF7.out (by simp; omega))
 have HX8:=Lib.hid (hC.1.heap HX7.out (by simp; omega))
 have HK8:=Lib.hid (HK7.out.then hC.1 (by simp; omega))
 clear hV hC HX7 HB7 HF7 HK7 HR7 HT7
 simp only [putAll,Act.put,List.setIfInBounds_toArray]
 dsimp only [List.set]
 obtain ⟨q0,q1,q2,q3,q4,q5,q6,q7,q8,q9,q10,q11,qz,qlt,qlt2⟩:=cellsF HF8.out
 have x0:=cell_of HX8.out 0
 have x1:=cell_of HX8.out 1
 have x2:=cell_of HX8.out 2
 have xz:=frozen_of HX8.out
 have t0:=cell_of HT8.out 0
 have t1:=cell_of HT8.out 1
 have t2:=cell_of HT8.out 2
 have tz:=frozen_of HT8.out
 have tl:=lt_of_heap HT8.out
 obtain ⟨b0,b1,b2,b3,b4,b5,b6,b7,b8,b9,b10,b11,bz,blt,blt2⟩:=cellsF HB8.out
 go_wp2_with fail
 refine (HFL.out A8 n8 c8 w8 HR8.out (by have:=HR8.out.len; have:=HML.out; omega)).mono ?_
 rintro e w9 hf9
 obtain ⟨f9,rfl,hp9,K9⟩:=hf9
 have HP9:=Lib.hid hp9
 have hs8:=HK8.out.size
 have hbl:=lt_of_heap HB8.out
 have hxl:=lt_of_heap HT8.out
 clear hp9
 have HF9:=Lib.hid (K9.heap HF8.out (by simp))
 have HX9:=Lib.hid (K9.heap HX8.out (by simp))
 have HB9:=Lib.hid (K9.heap HB8.out (by simp))
 have HT9:=Lib.hid (K9.heap HT8.out (by simp))
 have HK9:=Lib.hid (HK8.out.trans K9)
 clear K9 HF8 HX8 HB8 HT8 HK8 HR8 q0 q1 q2 q3 q4 q5 q6 q7 q8 q9 q10 q11 qz qlt qlt2 x0 x1 x2 xz t0 t1 t2 tz tl b0 b1 b2 b3 b4 b5 b6 b7 b8 b9 b10 b11 bz blt blt2
 obtain ⟨q0,q1,q2,q3,q4,q5,q6,q7,q8,q9,q10,q11,qz,qlt,qlt2⟩:=cellsF HF9.out
 have x0:=cell_of HX9.out 0
 have x1:=cell_of HX9.out 1
 have x2:=cell_of HX9.out 2
 have xz:=frozen_of HX9.out
 have t0:=cell_of HT9.out 0
 have t1:=cell_of HT9.out 1
 have t2:=cell_of HT9.out 2
 have tz:=frozen_of HT9.out
 have tl:=lt_of_heap HT9.out
 obtain ⟨b0,b1,b2,b3,b4,b5,b6,b7,b8,b9,b10,b11,bz,blt,blt2⟩:=cellsF HB9.out
 go_wp2
 obtain ⟨h15a,h15b,Kst⟩:=set15 (g:=hb) (h:=hx) (w:=w9) (b0:=.int .i64 f9.ty) (b1:=.int .i64 f9.fl) (b2:=.int .i64 f9.st) (b3:=.slice f9.pA f9.pn f9.pc) (b4:=.int .i64 f9.pad) (b5:=.int .u32 f9.code) (b6:=.int .i64 f9.last) (b7:=.int .i64 f9.inc) (b8:=.int .i64 f9.dep) (b9:=.bool f9.only) (b10:=.int .i64 f9.wt) (b11:=.slice f9.sA f9.sn f9.sc) (y0:=.bool false) (y1:=.int .i64 0) (y2:=.int .i64 0) (by omega) HB9.out HT9.out
 have HF:=Lib.hid (Kst.heap HF9.out (by simp; omega))
 have HX:=Lib.hid (Kst.heap HX9.out (by simp; omega))
 generalize hW:World.setCell _ _ _=W
 obtain ⟨HF9,HX9,K9⟩:W.heap[w.heap.size]?=some (.cells #[.int .i64 f9.ty,.int .i64 f9.fl,.int .i64 f9.st,.slice f9.pA f9.pn f9.pc,.int .i64 f9.pad,.int .u32 f9.code,.int .i64 f9.last,.int .i64 f9.inc,.int .i64 f9.dep,.bool f9.only,.int .i64 f9.wt,.slice f9.sA f9.sn f9.sc] 49)∧W.heap[w.heap.size+1]?=some (.cells #[.bool false,.int .i64 0,.int .i64 0] 64)∧Kp [w.heap.size,w.heap.size+1] (World.setCell (World.setCell (World.setCell (World.setCell (World.setCell (World.setCell (World.setCell (World.setCell (World.setCell (World.setCell (World.setCell (World.setCell (World.setCell (World.setCell (World.setCell w9 ⟨hb,0,none⟩ (.int .i64 f9.ty)) ⟨hb,1,none⟩ (.int .i64 f9.fl)) ⟨hb,2,none⟩ (.int .i64 f9.st)) ⟨hb,3,none⟩ (.slice f9.pA f9.pn f9.pc)) ⟨hb,4,none⟩ (.int .i64 f9.pad)) ⟨hb,5,none⟩ (.int .u32 f9.code)) ⟨hb,6,none⟩ (.int .i64 f9.last)) ⟨hb,7,none⟩ (.int .i64 f9.inc)) ⟨hb,8,none⟩ (.int .i64 f9.dep)) ⟨hb,9,none⟩ (.bool f9.only)) ⟨hb,10,none⟩ (.int .i64 f9.wt)) ⟨hb,11,none⟩ (.slice f9.sA f9.sn f9.sc)) ⟨hx,0,none⟩ (.bool false)) ⟨hx,1,none⟩ (.int .i64 0)) ⟨hx,2,none⟩ (.int .i64 0)) W:=by rw [← hW]; exact set15 (by omega) HF.out HX.out
 refine bodyPost_ret (v:=.tuple #[.agg #[.int .i64 f9.ty,.int .i64 f9.fl,.int .i64 f9.st,.slice f9.pA f9.pn f9.pc,.int .i64 f9.pad,.int .u32 f9.code,.int .i64 f9.last,.int .i64 f9.inc,.int .i64 f9.dep,.bool f9.only,.int .i64 f9.wt,.slice f9.sA f9.sn f9.sc],.int .i64 (9+(N:Int)),.agg #[.bool false,.int .i64 0,.int .i64 0],.int .i64 0]) (by simp [results,Try.results101,go_sem,cell_of HF9,cell_of HX9]) rfl ⟨f9,rfl,HP9.out.low ((Kst.mono (T:=[hb,hx,w.heap.size,w.heap.size+1]) (by simp)).trans (K9.mono (by simp))) (by simp; omega) (by omega),((HK9.out.then Kst (by simp; omega)).then K9 (by simp))⟩
theorem rparseWin (T:Nat) (A:Option Addr) (n c:Nat) (l:List UInt8) (most:Int) (w:World) (hr:Rd w A n c l) (hn:n≤281474976710656) (hm:0≤most) (h9:¬ n < 9) (N:Nat) (hN:be (l.take 3)=N) (hb:¬ most < (N:Int)) (hc:¬ n < 9+N) (F S:Nat) (hT:(l.getD 3 0).toNat=T) (hF:(l.getD 4 0).toNat=F) (hS:be ((l.drop 5).take 4) % 2147483648=S) (hkn:knownB (T:Int)=true) (hrg:∀ w,Calls Try.prog 153 #[.int .i64 T,.int .i64 S] w (BoolR (rightB T S) w)) (hri:rightB T S=true) (hsz:∀ w,Calls Try.prog 154 #[.agg #[.int .i64 T,.int .i64 F,.int .i64 S,.slice none 0 0,.int .i64 0,.int .u32 0,.int .i64 0,.int .i64 0,.int .i64 0,.bool false,.int .i64 0,.slice none 0 0],.int .i64 N] w (BoolK (!fitsB T F N) w)) (hft:fitsB T F N=true) (hpt:∀ (A:Option Addr) (n c:Nat) (m:List UInt8) (w:World),Rd w A n c m→n≤16777216→Calls Try.prog 155 #[.agg #[.int .i64 T,.int .i64 F,.int .i64 S,.slice none 0 0,.int .i64 0,.int .u32 0,.int .i64 0,.int .i64 0,.int .i64 0,.bool false,.int .i64 0,.slice none 0 0],.slice A n c] w (PartR T F S (unS T F m) w)) (hT2:¬ T=2) (pad:Nat) (m:List UInt8) (hur:unS T F ((l.drop 9).take N)=.ok pad m) (hfl:∀ (A:Option Addr) (n c:Nat) (w:World),Rd w A n c m→n≤16777216→Calls Try.prog 156 #[.agg #[.int .i64 T,.int .i64 F,.int .i64 S,.slice none 0 0,.int .i64 (pad:Int),.int .u32 0,.int .i64 0,.int .i64 0,.int .i64 0,.bool false,.int .i64 0,.slice none 0 0],.slice A n c] w (FldX S w)):Calls Try.prog 101 #[.slice A n c,.int .i64 most] w (ParseR (.bad (9+N) S 1) w):=by
 have ht2:((T:Int) == 2)=false:=by simp; omega
 obtain ⟨b,o,hA,hbw,_⟩:=hr.addr (by omega)
 have HLT:=Lib.hid (show ∀ t,t∈ob A→t < w.heap.size from fun t ht=>by rw [hA] at ht; simp [ob] at ht; omega)
 have HA:=Lib.hid hA
 clear hA hbw
 have HKN:=Lib.hid hkn
 have HRG:=Lib.hid hrg
 have HRI:=Lib.hid hri
 have HSZ:=Lib.hid hsz
 have HFT:=Lib.hid hft
 have HPT:=Lib.hid hpt
 have HUR:=Lib.hid hur
 have HFL:=Lib.hid hfl
 have HR:=Lib.hid hr
 have e:=head_of (l:=l) (by rw [hr.len]; exact h9)
 rw [hN,hT,hF,hS] at e
 have HN2:=Lib.hid (show N < 16777216 by have:=be_take_lt l 3; rw [hN] at this; have e3:(256:Nat) ^ 3=16777216:=(by decide); omega)
 have HH:=Lib.hid e
 have HML:=Lib.hid (show m.length≤16777216 by have h1:=un_le HUR.out; have h2:=HN2.out; have h3:((l.drop 9).take N).length≤N:=(by simp only [List.length_take]; omega); omega)
 clear hr e hT hF hS hN hkn hrg hri hsz hft hpt hur hfl
 go_enter Try.func101,Try.ntmps101
 go_wp2_with fail
 generalize hW:World.alloc _ _=w1
 have K1:Kp [] w w1:=by rw [← hW]; with_reducible (repeat (first|exact Kp.refl _ _|assumption|refine Kp.alloc ?_ _|refine Kp.drew ?_|refine Kp.drewN ?_ _|(refine Kp.setL ?_ ?_ _;focus (simp;done))|(refine Kp.setR ?_ ?_ _;focus (first|(simp;done)|(simp;omega)))))
 have HF:=Lib.hid (show w1.heap[w.heap.size]?=some (.cells #[.int .i64 0,.int .i64 0,.int .i64 0,.slice none 0 0,.int .i64 0,.int .u32 0,.int .i64 0,.int .i64 0,.int .i64 0,.bool false,.int .i64 0,.slice none 0 0] 49) by rw [← hW]; with_reducible (repeat (first|assumption|(refine hp_new _ _ _ ?_;focus (simp;done))|refine hpl ?_|(refine hpf ?_ ?_;focus (first|(simp;done)|(simp;omega)))|refine hpd ?_|refine hpe ?_)))
 have HX:=Lib.hid (show w1.heap[w.heap.size+1]?=some (.cells #[.bool false,.int .i64 0,.int .i64 0] 64) by rw [← hW]; with_reducible (repeat (first|assumption|(refine hp_new _ _ _ ?_;focus (simp;done))|refine hpl ?_|(refine hpf ?_ ?_;focus (first|(simp;done)|(simp;omega)))|refine hpd ?_|refine hpe ?_)))
 clear hW
 refine (refHead_big A n c l w1 hn (HR.out.keep K1 (by simp))).mono ?_
 rintro e w2 ⟨rfl,K2⟩
 rw [HH.out]
 dsimp only
 have HF2:=Lib.hid (K2.heap HF.out (by simp))
 have HX2:=Lib.hid (K2.heap HX.out (by simp))
 have HK2:=Lib.hid (K1.trans K2)
 clear HF HX K1 K2
 obtain ⟨q0,q1,q2,q3,q4,q5,q6,q7,q8,q9,q10,q11,qz,qlt,qlt2⟩:=cellsF HF2.out
 have x0:=cell_of HX2.out 0
 have x1:=cell_of HX2.out 1
 have x2:=cell_of HX2.out 2
 have xz:=frozen_of HX2.out
 have hN2:=HN2.out
 go_wp2_with fail
 generalize hW:World.alloc _ _=w3
 have K3:Kp [] w2 w3:=by rw [← hW]; with_reducible (repeat (first|exact Kp.refl _ _|assumption|refine Kp.alloc ?_ _|refine Kp.drew ?_|refine Kp.drewN ?_ _|(refine Kp.setL ?_ ?_ _;focus (simp;done))|(refine Kp.setR ?_ ?_ _;focus (first|(simp;done)|(simp;omega)))))
 have HB3:=Lib.hid (show w3.heap[w2.heap.size]?=some (.cells #[.int .i64 T,.int .i64 F,.int .i64 S,.slice none 0 0,.int .i64 0,.int .u32 0,.int .i64 0,.int .i64 0,.int .i64 0,.bool false,.int .i64 0,.slice none 0 0] 49) by rw [← hW]; with_reducible (repeat (first|assumption|(refine hp_new _ _ _ ?_;focus (simp;done))|refine hpl ?_|(refine hpf ?_ ?_;focus (first|(simp;done)|(simp;omega)))|refine hpd ?_|refine hpe ?_)))
 have HF3:=Lib.hid (K3.heap HF2.out (by simp))
 have HX3:=Lib.hid (K3.heap HX2.out (by simp))
 have HK3:=Lib.hid (HK2.out.trans K3)
 have hsw:=HK2.out.size
 have hlx:=lt_of_heap HX2.out
 clear hW K3 HF2 HX2 HK2 q0 q1 q2 q3 q4 q5 q6 q7 q8 q9 q10 q11 qz qlt qlt2 x0 x1 x2 xz
 refine (refKnown_any (T:Int) _).mono ?_
 rintro e w4 ⟨rfl,rfl⟩
 rw [HKN.out]
 obtain ⟨q0,q1,q2,q3,q4,q5,q6,q7,q8,q9,q10,q11,qz,qlt,qlt2⟩:=cellsF HF3.out
 obtain ⟨b0,b1,b2,b3,b4,b5,b6,b7,b8,b9,b10,b11,bz,blt,blt2⟩:=cellsF HB3.out
 have x0:=cell_of HX3.out 0
 have x1:=cell_of HX3.out 1
 have x2:=cell_of HX3.out 2
 have xz:=frozen_of HX3.out
 go_wp2_with fail
 refine (HRG.out _).mono ?_
 rintro e w4 ⟨rfl,rfl⟩
 rw [HRI.out]
 go_wp2_with fail
 refine (rfault 6 _).mono ?_
 rintro e w5 ⟨rfl,K5⟩
 have HB5:=Lib.hid (K5.heap HB3.out (by simp))
 have HF5:=Lib.hid (K5.heap HF3.out (by simp))
 have HX5:=Lib.hid (K5.heap HX3.out (by simp))
 have HK5:=Lib.hid (HK3.out.trans K5)
 clear HB3 HF3 HX3 HK3 K5
 clear q0 q1 q2 q3 q4 q5 q6 q7 q8 q9 q10 q11 qz qlt qlt2 b0 b1 b2 b3 b4 b5 b6 b7 b8 b9 b10 b11 bz blt blt2 x0 x1 x2 xz
 obtain ⟨q0,q1,q2,q3,q4,q5,q6,q7,q8,q9,q10,q11,qz,qlt,qlt2⟩:=cellsF HF5.out
 obtain ⟨b0,b1,b2,b3,b4,b5,b6,b7,b8,b9,b10,b11,bz,blt,blt2⟩:=cellsF HB5.out
 have x0:=cell_of HX5.out 0
 have x1:=cell_of HX5.out 1
 have x2:=cell_of HX5.out 2
 have xz:=frozen_of HX5.out
 have hw5:=lt_of_heap HB5.out
 go_wp2_with fail
 generalize hW:World.alloc _ _=w6
 have K6:Kp [] w5 w6:=by rw [← hW]; with_reducible (repeat (first|exact Kp.refl _ _|assumption|refine Kp.alloc ?_ _|refine Kp.drew ?_|refine Kp.drewN ?_ _|(refine Kp.setL ?_ ?_ _;focus (simp;done))|(refine Kp.setR ?_ ?_ _;focus (first|(simp;done)|(simp;omega)))))
 have HT6:=Lib.hid (show w6.heap[w5.heap.size]?=some (.cells #[.bool true,.int .i64 0,.int .i64 6] 64) by rw [← hW]; with_reducible (repeat (first|assumption|(refine hp_new _ _ _ ?_;focus (simp;done))|refine hpl ?_|(refine hpf ?_ ?_;focus (first|(simp;done)|(simp;omega)))|refine hpd ?_|refine hpe ?_)))
 clear hW
 have HB6:=Lib.hid (K6.heap HB5.out (by simp))
 have HF6:=Lib.hid (K6.heap HF5.out (by simp))
 have HX6:=Lib.hid (K6.heap HX5.out (by simp))
 have HK6:=Lib.hid (HK5.out.trans K6)
 clear HB5 HF5 HX5 HK5 K6
 clear q0 q1 q2 q3 q4 q5 q6 q7 q8 q9 q10 q11 qz qlt qlt2 b0 b1 b2 b3 b4 b5 b6 b7 b8 b9 b10 b11 bz blt blt2 x0 x1 x2 xz
 obtain ⟨q0,q1,q2,q3,q4,q5,q6,q7,q8,q9,q10,q11,qz,qlt,qlt2⟩:=cellsF HF6.out
 obtain ⟨b0,b1,b2,b3,b4,b5,b6,b7,b8,b9,b10,b11,bz,blt,blt2⟩:=cellsF HB6.out
 have x0:=cell_of HX6.out 0
 have x1:=cell_of HX6.out 1
 have x2:=cell_of HX6.out 2
 have xz:=frozen_of HX6.out
 refine (HSZ.out _).mono ?_
 rintro e w7 ⟨rfl,K7⟩
 rw [HFT.out]
 have HT7:=Lib.hid (K7.heap HT6.out (by simp))
 clear HT6
 have HB7:=Lib.hid (K7.heap HB6.out (by simp))
 have HF7:=Lib.hid (K7.heap HF6.out (by simp))
 have HX7:=Lib.hid (K7.heap HX6.out (by simp))
 have HK7:=Lib.hid (HK6.out.trans K7)
 clear HB6 HF6 HX6 HK6 K7
 clear q0 q1 q2 q3 q4 q5 q6 q7 q8 q9 q10 q11 qz qlt qlt2 b0 b1 b2 b3 b4 b5 b6 b7 b8 b9 b10 b11 bz blt blt2 x0 x1 x2 xz
 obtain ⟨q0,q1,q2,q3,q4,q5,q6,q7,q8,q9,q10,q11,qz,qlt,qlt2⟩:=cellsF HF7.out
 obtain ⟨b0,b1,b2,b3,b4,b5,b6,b7,b8,b9,b10,b11,bz,blt,blt2⟩:=cellsF HB7.out
 have x0:=cell_of HX7.out 0
 have x1:=cell_of HX7.out 1
 have x2:=cell_of HX7.out 2
 have xz:=frozen_of HX7.out
 have t0:=cell_of HT7.out 0
 have t1:=cell_of HT7.out 1
 have t2:=cell_of HT7.out 2
 have tz:=frozen_of HT7.out
 have tl:=lt_of_heap HT7.out
 have HR7:=Lib.hid (HR.out.keep HK7.out (by simp))
 have hlx7:=lt_of_heap HX7.out
 go_wp2
 generalize hhb:w2.heap.size=hb at *
 generalize hhx:w5.heap.size=hx at *
 refine wp_region_st3 (by kernel_rfl) [fun _ v _=>v=(.agg #[.int .i64 T,.int .i64 F,.int .i64 S,.slice none 0 0,.int .i64 0,.int .u32 0,.int .i64 0,.int .i64 0,.int .i64 0,.bool false,.int .i64 0,.slice none 0 0]),
   fun _ v _=>v=(.slice A n c),
   fun _ v _=>v=(.int .i64 (N:Int)),
   fun _ v _=>v=(.int .i64 (9+(N:Int))),
   fun p v w=>∃ x:Option Addr × Nat × Nat,v=.slice x.1 x.2.1 x.2.2∧0≤p∧(p≤0→Rd w x.1 x.2.1 x.2.2 ((l.drop 9).take N)∧x.2.1=N),
   fun p v w=>∃ x:Option Addr × Nat × Nat,v=.tuple #[.agg #[.int .i64 T,.int .i64 F,.int .i64 S,.slice none 0 0,.int .i64 (pad:Int),.int .u32 0,.int .i64 0,.int .i64 0,.int .i64 0,.bool false,.int .i64 0,.slice none 0 0],.slice x.1 x.2.1 x.2.2,.agg #[.bool false,.int .i64 0,.int .i64 0]]∧1≤p∧(p≤3→Rd w x.1 x.2.1 x.2.2 m∧(0 < x.2.1→∀ t,t∈ob x.1→¬ t=hb∧¬ t=hx)),
   fun p v w=>∃ x:Option Addr × Nat × Nat,v=.tuple #[.agg #[.int .i64 T,.int .i64 F,.int .i64 S,.slice none 0 0,.int .i64 (pad:Int),.int .u32 0,.int .i64 0,.int .i64 0,.int .i64 0,.bool false,.int .i64 0,.slice none 0 0],.slice x.1 x.2.1 x.2.2,.agg #[.bool false,.int .i64 0,.int .i64 0]]∧1≤p∧(p≤3→Rd w x.1 x.2.1 x.2.2 m∧(0 < x.2.1→∀ t,t∈ob x.1→¬ t=hb∧¬ t=hx)),
   fun _ v _=>v=(.agg #[.int .i64 T,.int .i64 F,.int .i64 S,.slice none 0 0,.int .i64 (pad:Int),.int .u32 0,.int .i64 0,.int .i64 0,.int .i64 0,.bool false,.int .i64 0,.slice none 0 0]),
   fun p v w=>∃ x:Option Addr × Nat × Nat,v=.slice x.1 x.2.1 x.2.2∧1≤p∧(p≤3→Rd w x.1 x.2.1 x.2.2 m∧(0 < x.2.1→∀ t,t∈ob x.1→¬ t=hb∧¬ t=hx)),
   fun _ v _=>v=(.agg #[.bool false,.int .i64 0,.int .i64 0]),
   fun _ v _=>True,
   fun p v w=>∃ x:Option Addr × Nat × Nat,v=.slice x.1 x.2.1 x.2.2∧1≤p∧(p≤3→Rd w x.1 x.2.1 x.2.2 m∧(0 < x.2.1→∀ t,t∈ob x.1→¬ t=hb∧¬ t=hx)),
   fun _ v _=>True] (fun p w=>Kp [hb,hx] w7 w∧(p≤1→w.heap[hb]?=some (.cells #[.int .i64 T,.int .i64 F,.int .i64 S,.slice none 0 0,.int .i64 0,.int .u32 0,.int .i64 0,.int .i64 0,.int .i64 0,.bool false,.int .i64 0,.slice none 0 0] 49))∧(2≤p→w.heap[hb]?=some (.cells #[.int .i64 T,.int .i64 F,.int .i64 S,.slice none 0 0,.int .i64 (pad:Int),.int .u32 0,.int .i64 0,.int .i64 0,.int .i64 0,.bool false,.int .i64 0,.slice none 0 0] 49))∧(p≤2→w.heap[hx]?=some (.cells #[.bool true,.int .i64 0,.int .i64 6] 64))∧(3≤p→w.heap[hx]?=some (.cells #[.bool false,.int .i64 0,.int .i64 0] 64))) (fun _ w w'=>Kp [hb,hx] w w') (fun w w'=>Kp [] w w') [5,10,12] [] (by kernel_rfl) (by kernel_rfl) (by kernel_rfl) (by decide) (by kernel_rfl) ⟨StabAt2.const _,StabAt2.const _,StabAt2.const _,StabAt2.const _,StabAt2.span (f:=fun x:Option Addr × Nat × Nat=>.slice x.1 x.2.1 x.2.2) (by intro p x w w' h1 h2 h3 hR hG; omega) (by intro x w w' hR hG; exact ⟨hG.1.keep hR (by simp),hG.2⟩),StabAt2.span (f:=fun x:Option Addr × Nat × Nat=>.tuple #[.agg #[.int .i64 T,.int .i64 F,.int .i64 S,.slice none 0 0,.int .i64 (pad:Int),.int .u32 0,.int .i64 0,.int .i64 0,.int .i64 0,.bool false,.int .i64 0,.slice none 0 0],.slice x.1 x.2.1 x.2.2,.agg #[.bool false,.int .i64 0,.int .i64 0]]) (by intro p x w w' h1 h2 h3 hR hG; exact ⟨hG.1.keep hR (by intro hn t ht hs; have:=hG.2 hn t ht; simp at hs; omega),hG.2⟩) (by intro x w w' hR hG; exact ⟨hG.1.keep hR (by simp),hG.2⟩),StabAt2.span (f:=fun x:Option Addr × Nat × Nat=>.tuple #[.agg #[.int .i64 T,.int .i64 F,.int .i64 S,.slice none 0 0,.int .i64 (pad:Int),.int .u32 0,.int .i64 0,.int .i64 0,.int .i64 0,.bool false,.int .i64 0,.slice none 0 0],.slice x.1 x.2.1 x.2.2,.agg #[.bool false,.int .i64 0,.int .i64 0]]) (by intro p x w w' h1 h2 h3 hR hG; exact ⟨hG.1.keep hR (by intro hn t ht hs; have:=hG.2 hn t ht; simp at hs; omega),hG.2⟩) (by intro x w w' hR hG; exact ⟨hG.1.keep hR (by simp),hG.2⟩),StabAt2.const _,StabAt2.span (f:=fun x:Option Addr × Nat × Nat=>.slice x.1 x.2.1 x.2.2) (by intro p x w w' h1 h2 h3 hR hG; exact ⟨hG.1.keep hR (by intro hn t ht hs; have:=hG.2 hn t ht; simp at hs; omega),hG.2⟩) (by intro x w w' hR hG; exact ⟨hG.1.keep hR (by simp),hG.2⟩),StabAt2.const _,StabAt2.const _,StabAt2.span (f:=fun x:Option Addr × Nat × Nat=>.slice x.1 x.2.1 x.2.2) (by intro p x w w' h1 h2 h3 hR hG; exact ⟨hG.1.keep hR (by intro hn t ht hs; have:=hG.2 hn t ht; simp at hs; omega),hG.2⟩) (by intro x w w' hR hG; exact ⟨hG.1.keep hR (by simp),hG.2⟩),StabAt2.const _,trivial⟩ (⟨(Kp.refl _ _).drew,fun _=>HB7.out,fun h=>by omega,fun _=>HT7.out,fun h=>by omega⟩) ⟨?_,?_,?_,?_,?_,?_,?_,?_,?_,?_,?_,?_,?_,trivial⟩ (by kernel_rfl) ?_
 ·intro q9 a w E hC K hK
  have h13:a.tmps[13]?=some (.pointer (some ⟨hb,0,none⟩)):=(E.out 13 (by kernel_rfl)).trans rfl
  refine want_none rfl ?_
  have hk:=E.lim 1 10 _ rfl rfl (by kernel_rfl)
  have hb1:=hC.2.1 (by omega)
  obtain ⟨q0,q1,q2,q3,q4,q5,q6,q7,q8,q9',q10,q11,qz,qlt,qlt2⟩:=cellsF hb1
  clear hb1
  go_simp
  exact hK _ rfl
 ·intro q9 a w E hC K hK
  have h0:a.tmps[0]?=some (.slice A n c):=(E.out 0 (by kernel_rfl)).trans rfl
  refine want_none rfl ?_
  go_simp
  exact hK _ rfl
 ·intro q9 a w E hC K hK
  have h8:a.tmps[8]?=some (.int .i64 (N:Int)):=(E.out 8 (by kernel_rfl)).trans rfl
  refine want_none rfl ?_
  go_simp
  exact hK _ rfl
 ·intro q9 a w E hC K hK
  obtain ⟨_,h78,rfl⟩:=E.pred 2 _ 78 rfl rfl (by kernel_rfl)
  refine want_none rfl ?_
  have hN2':N < 16777216:=HN2.out
  have hwr:IntKind.i64.wrap (9+(N:Int))=9+(N:Int):=IntWalk.i64_in _ (by omega)
  go_simp
  first | exact hK _ rfl | exact hK _ (by rw [hwr]) | exact hK _ (by simp [hwr])
 ·intro q9 a w E hC K hK
  obtain ⟨_,h77,rfl⟩:=E.pred 1 _ 77 rfl rfl (by kernel_rfl)
  obtain ⟨_,h79,rfl⟩:=E.pred 3 _ 79 rfl rfl (by kernel_rfl)
  refine want_none rfl ?_
  have hrd:=HR7.out.keep hC.1 (by intro hn0 t h1 h2; have:=HLT.out t h1; simp at h2; omega)
  have hcp:=HR7.out.cap
  have hA:=HA.out
  subst hA
  by_cases hc9:c=9
  ·subst hc9
   obtain rfl:N=0:=by omega
   obtain rfl:n=9:=by omega
   go_simp
   exact hK _ ⟨⟨some ⟨b,o,none⟩,0,0⟩,rfl,by omega,fun _=>⟨by have:=hrd.sub 9 9 (by omega) (by omega) (A':=some ⟨b,o,none⟩) (by intro b' o' h1 h2; omega); simpa using this,rfl⟩⟩
  ·have i0:(9:Int)≤9+(N:Int):=by omega
   have i1:9+(N:Int)≤(c:Int):=by omega
   have i2:¬ (9:Int)=(c:Int):=by omega
   have i3:¬ (c:Int)=9:=by omega
   go_simp
   have e9:((9:Int)+(N:Int)).toNat - 9=N:=by omega
   rw [e9]
   exact hK _ ⟨⟨some ⟨b,o+9,none⟩,N,c - 9⟩,rfl,by omega,fun _=>⟨by have:=hrd.sub 9 (9+N) (by omega) (by omega) (A':=some ⟨b,o+9,none⟩) (by intro b' o' h1 h2; injection h1 with h1; injection h1 with h1 h3 _; rw [h1,h3]); simpa using this,rfl⟩⟩
 ·intro a w E hC K hK
  obtain ⟨_,h76,rfl⟩:=E.pred 0 _ 76 rfl rfl (by kernel_rfl)
  obtain ⟨v4,h80,V4⟩:=E.pred 4 _ 80 rfl rfl (by kernel_rfl)
  replace V4:(fun p v w=>∃ x:Option Addr × Nat × Nat,v=.slice x.1 x.2.1 x.2.2∧0≤p∧(p≤0→Rd w x.1 x.2.1 x.2.2 ((l.drop 9).take N)∧x.2.1=N)) 0 v4 w:=V4
  obtain ⟨x4,rfl,_,hG4⟩:=V4
  refine want_none rfl ?_
  have hrd:=hG4 (by omega)
  have HG4:=Lib.hid hrd.2
  have hr4:=hrd.1
  clear hrd hG4
  go_simp
  refine (HPT.out x4.1 x4.2.1 x4.2.2 _ w hr4 (by have:=HG4.out; have:=HN2.out; omega)).mono ?_
  rw [HUR.out]
  rintro e w2 h2
  obtain ⟨A',n',c',rfl,hr',K2⟩:=h2
  have hz1:=K2.heap (hC.2.1 (by omega)) (by simp)
  have hz2:=K2.heap (hC.2.2.2.1 (by omega)) (by simp)
  have hne:0 < n'→∀ t,t∈ob A'→¬ t=hb∧¬ t=hx:=fun hn t ht=>⟨fun e=>by subst e; exact rd_ne hr' hn hz1 (by simp) ht,fun e=>by subst e; exact rd_ne hr' hn hz2 (by simp) ht⟩
  go_simp
  exact hK _ _ ⟨⟨A',n',c'⟩,rfl,by omega,fun _=>⟨hr',hne⟩⟩ ⟨hC.1.trans K2.nil,fun _=>hz1,fun h=>by omega,fun _=>hz2,fun h=>by omega⟩ K2.nil
 ·intro q9 a w E hC K hK
  obtain ⟨v5,h81,V5⟩:=E.pred 5 _ 81 rfl rfl (by kernel_rfl)
  replace V5:(fun p v w=>∃ x:Option Addr × Nat × Nat,v=.tuple #[.agg #[.int .i64 T,.int .i64 F,.int .i64 S,.slice none 0 0,.int .i64 (pad:Int),.int .u32 0,.int .i64 0,.int .i64 0,.int .i64 0,.bool false,.int .i64 0,.slice none 0 0],.slice x.1 x.2.1 x.2.2,.agg #[.bool false,.int .i64 0,.int .i64 0]]∧1≤p∧(p≤3→Rd w x.1 x.2.1 x.2.2 m∧(0 < x.2.1→∀ t,t∈ob x.1→¬ t=hb∧¬ t=hx))) q9 v5 w:=V5
  obtain ⟨x5,rfl,hl5,hG5⟩:=V5
  refine want_none rfl ?_
  go_simp
  exact hK _ ⟨x5,rfl,hl5,hG5⟩
 ·intro q9 a w E hC K hK
  obtain ⟨v6,h75,V6⟩:=E.pred 6 _ 75 rfl rfl (by kernel_rfl)
  replace V6:(fun p v w=>∃ x:Option Addr × Nat × Nat,v=.tuple #[.agg #[.int .i64 T,.int .i64 F,.int .i64 S,.slice none 0 0,.int .i64 (pad:Int),.int .u32 0,.int .i64 0,.int .i64 0,.int .i64 0,.bool false,.int .i64 0,.slice none 0 0],.slice x.1 x.2.1 x.2.2,.agg #[.bool false,.int .i64 0,.int .i64 0]]∧1≤p∧(p≤3→Rd w x.1 x.2.1 x.2.2 m∧(0 < x.2.1→∀ t,t∈ob x.1→¬ t=hb∧¬ t=hx))) q9 v6 w:=V6
  obtain ⟨x6,rfl,hl6,hG6⟩:=V6
  refine want_none rfl ?_
  go_simp
  exact hK _ rfl
 ·intro q9 a w E hC K hK
  obtain ⟨v6,h75,V6⟩:=E.pred 6 _ 75 rfl rfl (by kernel_rfl)
  replace V6:(fun p v w=>∃ x:Option Addr × Nat × Nat,v=.tuple #[.agg #[.int .i64 T,.int .i64 F,.int .i64 S,.slice none 0 0,.int .i64 (pad:Int),.int .u32 0,.int .i64 0,.int .i64 0,.int .i64 0,.bool false,.int .i64 0,.slice none 0 0],.slice x.1 x.2.1 x.2.2,.agg #[.bool false,.int .i64 0,.int .i64 0]]∧1≤p∧(p≤3→Rd w x.1 x.2.1 x.2.2 m∧(0 < x.2.1→∀ t,t∈ob x.1→¬ t=hb∧¬ t=hx))) q9 v6 w:=V6
  obtain ⟨x6,rfl,hl6,hG6⟩:=V6
  refine want_none rfl ?_
  go_simp
  exact hK _ ⟨x6,rfl,hl6,hG6⟩
 ·intro q9 a w E hC K hK
  obtain ⟨v6,h75,V6⟩:=E.pred 6 _ 75 rfl rfl (by kernel_rfl)
  replace V6:(fun p v w=>∃ x:Option Addr × Nat × Nat,v=.tuple #[.agg #[.int .i64 T,.int .i64 F,.int .i64 S,.slice none 0 0,.int .i64 (pad:Int),.int .u32 0,.int .i64 0,.int .i64 0,.int .i64 0,.bool false,.int .i64 0,.slice none 0 0],.slice x.1 x.2.1 x.2.2,.agg #[.bool false,.int .i64 0,.int .i64 0]]∧1≤p∧(p≤3→Rd w x.1 x.2.1 x.2.2 m∧(0 < x.2.1→∀ t,t∈ob x.1→¬ t=hb∧¬ t=hx))) q9 v6 w:=V6
  obtain ⟨x6,rfl,hl6,hG6⟩:=V6
  refine want_none rfl ?_
  go_simp
  exact hK _ rfl
 ·intro a w E hC K hK
  have h13:a.tmps[13]?=some (.pointer (some ⟨hb,0,none⟩)):=(E.out 13 (by kernel_rfl)).trans rfl
  obtain ⟨_,h82,rfl⟩:=E.pred 7 _ 82 rfl rfl (by kernel_rfl)
  refine want_none rfl ?_
  have hz:=hC.2.1 (by omega)
  have HZ:=Lib.hid hz
  obtain ⟨q0,q1,q2,q3,q4,q5,q6,q7,q8,q9',q10,q11,qz,qlt,qlt2⟩:=cellsF hz
  clear hz
  go_simp
  generalize hW:World.setCell _ _ _=w2
  obtain ⟨hs1,hs2⟩:w2.heap[hb]?=some (.cells #[.int .i64 T,.int .i64 F,.int .i64 S,.slice none 0 0,.int .i64 (pad:Int),.int .u32 0,.int .i64 0,.int .i64 0,.int .i64 0,.bool false,.int .i64 0,.slice none 0 0] 49)∧Kp [hb] w w2:=by rw [← hW]; exact rset12 HZ.out
  exact hK undef _ trivial ⟨hC.1.trans (hs2.mono (by simp)),fun h=>by omega,fun _=>hs1,fun h=>hs2.heap (hC.2.2.2.1 (by omega)) (by simp; omega),fun h=>by omega⟩ (hs2.mono (by simp))
 ·intro q9 a w E hC K hK
  obtain ⟨v8,h83,V8⟩:=E.pred 8 _ 83 rfl rfl (by kernel_rfl)
  replace V8:(fun p v w=>∃ x:Option Addr × Nat × Nat,v=.slice x.1 x.2.1 x.2.2∧1≤p∧(p≤3→Rd w x.1 x.2.1 x.2.2 m∧(0 < x.2.1→∀ t,t∈ob x.1→¬ t=hb∧¬ t=hx))) q9 v8 w:=V8
  obtain ⟨x8,rfl,hl8,hG8⟩:=V8
  refine want_none rfl ?_
  go_simp
  exact hK _ ⟨x8,rfl,hl8,hG8⟩
 ·intro a w E hC K hK
  have h14:a.tmps[14]?=some (.pointer (some ⟨hx,0,none⟩)):=(E.out 14 (by kernel_rfl)).trans rfl
  obtain ⟨_,h84,rfl⟩:=E.pred 9 _ 84 rfl rfl (by kernel_rfl)
  refine want_none rfl ?_
  have hz:=hC.2.2.2.1 (by omega)
  have HZ:=Lib.hid hz
  have x0:=cell_of hz 0
  have x1:=cell_of hz 1
  have x2:=cell_of hz 2
  have xz:=frozen_of hz
  have xl:=lt_of_heap hz
  clear hz
  go_simp
  generalize hW:World.setCell _ _ _=w2
  obtain ⟨hs1,hs2⟩:w2.heap[hx]?=some (.cells #[.bool false,.int .i64 0,.int .i64 0] 64)∧Kp [hx] w w2:=by rw [← hW]; exact rset3 HZ.out
  exact hK undef _ trivial ⟨hC.1.trans (hs2.mono (by simp)),fun h=>by omega,fun _=>(hs2.heap (hC.2.2.1 (by omega)) (by simp; omega)),fun h=>by omega,fun _=>hs1⟩ (hs2.mono (by simp))
 intro vs w8 hC hV
 obtain ⟨⟨A8,n8,c8⟩,h11,_,hG8⟩:=hV 11 _ rfl (by simp)
 obtain ⟨hr8,_⟩:=hG8 (by simp)
 dsimp only at hr8
 have HR8:=Lib.hid hr8
 clear hr8 hG8
 have HB8:=Lib.hid (hC.2.2.1 (by simp))
 have HT8:=Lib.hid (hC.2.2.2.2 (by simp))
 have HF8:=Lib.hid (hC.1.heap HF7.out (by simp; omega))
 have HX8:=Lib.hid (hC.1.heap HX7.out (by simp; omega))
 have HK8:=Lib.hid (HK7.out.then hC.1 (by simp; omega))
 clear hV hC HX7 HB7 HF7 HK7 HR7 HT7
 simp only [putAll,Act.put,List.setIfInBounds_toArray]
 dsimp only [List.set]
 obtain ⟨q0,q1,q2,q3,q4,q5,q6,q7,q8,q9,q10,q11,qz,qlt,qlt2⟩:=cellsF HF8.out
 have x0:=cell_of HX8.out 0
 have x1:=cell_of HX8.out 1
 have x2:=cell_of HX8.out 2
 have xz:=frozen_of HX8.out
 have t0:=cell_of HT8.out 0
 have t1:=cell_of HT8.out 1
 have t2:=cell_of HT8.out 2
 have tz:=frozen_of HT8.out
 have tl:=lt_of_heap HT8.out
 obtain ⟨b0,b1,b2,b3,b4,b5,b6,b7,b8,b9,b10,b11,bz,blt,blt2⟩:=cellsF HB8.out
 go_wp2_with fail
 refine (HFL.out A8 n8 c8 w8 HR8.out (by have:=HR8.out.len; have:=HML.out; omega)).mono ?_
 rintro e w9 hf9
 obtain ⟨f9,rfl,K9⟩:=hf9
 have HF9:=Lib.hid (K9.heap HF8.out (by simp))
 have HX9:=Lib.hid (K9.heap HX8.out (by simp))
 have HB9:=Lib.hid (K9.heap HB8.out (by simp))
 have HT9:=Lib.hid (K9.heap HT8.out (by simp))
 have HK9:=Lib.hid (HK8.out.trans K9)
 clear K9 HF8 HX8 HB8 HT8 HK8 HR8 q0 q1 q2 q3 q4 q5 q6 q7 q8 q9 q10 q11 qz qlt qlt2 x0 x1 x2 xz t0 t1 t2 tz tl b0 b1 b2 b3 b4 b5 b6 b7 b8 b9 b10 b11 bz blt blt2
 obtain ⟨q0,q1,q2,q3,q4,q5,q6,q7,q8,q9,q10,q11,qz,qlt,qlt2⟩:=cellsF HF9.out
 have x0:=cell_of HX9.out 0
 have x1:=cell_of HX9.out 1
 have x2:=cell_of HX9.out 2
 have xz:=frozen_of HX9.out
 have t0:=cell_of HT9.out 0
 have t1:=cell_of HT9.out 1
 have t2:=cell_of HT9.out 2
 have tz:=frozen_of HT9.out
 have tl:=lt_of_heap HT9.out
 obtain ⟨b0,b1,b2,b3,b4,b5,b6,b7,b8,b9,b10,b11,bz,blt,blt2⟩:=cellsF HB9.out
 go_wp2
 obtain ⟨h15a,h15b,Kst⟩:=set15 (g:=hb) (h:=hx) (w:=w9) (b0:=.int .i64 f9.ty) (b1:=.int .i64 f9.fl) (b2:=.int .i64 f9.st) (b3:=.slice f9.pA f9.pn f9.pc) (b4:=.int .i64 f9.pad) (b5:=.int .u32 f9.code) (b6:=.int .i64 f9.last) (b7:=.int .i64 f9.inc) (b8:=.int .i64 f9.dep) (b9:=.bool f9.only) (b10:=.int .i64 f9.wt) (b11:=.slice f9.sA f9.sn f9.sc) (y0:=.bool true) (y1:=.int .i64 S) (y2:=.int .i64 1) (by omega) HB9.out HT9.out
 have HFs:=Lib.hid (Kst.heap HF9.out (by simp; omega))
 have HXs:=Lib.hid (Kst.heap HX9.out (by simp; omega))
 have HTs:=Lib.hid h15b
 have HKs:=Lib.hid (HK9.out.then Kst (by simp; omega))
 clear h15a h15b Kst HF9 HX9 HB9 HT9 HK9 q0 q1 q2 q3 q4 q5 q6 q7 q8 q9 q10 q11 qz qlt qlt2 x0 x1 x2 xz t0 t1 t2 tz tl b0 b1 b2 b3 b4 b5 b6 b7 b8 b9 b10 b11 bz blt blt2
 generalize hW:(World.setCell (World.setCell (World.setCell (World.setCell (World.setCell (World.setCell (World.setCell (World.setCell (World.setCell (World.setCell (World.setCell (World.setCell (World.setCell (World.setCell (World.setCell w9 ⟨hb,0,none⟩ (.int .i64 f9.ty)) ⟨hb,1,none⟩ (.int .i64 f9.fl)) ⟨hb,2,none⟩ (.int .i64 f9.st)) ⟨hb,3,none⟩ (.slice f9.pA f9.pn f9.pc)) ⟨hb,4,none⟩ (.int .i64 f9.pad)) ⟨hb,5,none⟩ (.int .u32 f9.code)) ⟨hb,6,none⟩ (.int .i64 f9.last)) ⟨hb,7,none⟩ (.int .i64 f9.inc)) ⟨hb,8,none⟩ (.int .i64 f9.dep)) ⟨hb,9,none⟩ (.bool f9.only)) ⟨hb,10,none⟩ (.int .i64 f9.wt)) ⟨hb,11,none⟩ (.slice f9.sA f9.sn f9.sc)) ⟨hx,0,none⟩ (.bool true)) ⟨hx,1,none⟩ (.int .i64 S)) ⟨hx,2,none⟩ (.int .i64 1))=wX at *
 clear hW
 obtain ⟨q0,q1,q2,q3,q4,q5,q6,q7,q8,q9,q10,q11,qz,qlt,qlt2⟩:=cellsF HFs.out
 have x0:=cell_of HXs.out 0
 have x1:=cell_of HXs.out 1
 have x2:=cell_of HXs.out 2
 have xz:=frozen_of HXs.out
 have t0:=cell_of HTs.out 0
 have t1:=cell_of HTs.out 1
 have t2:=cell_of HTs.out 2
 have tz:=frozen_of HTs.out
 have tl:=lt_of_heap HTs.out
 go_region
 go_wp2
 generalize hW:World.setCell _ _ _=W
 obtain ⟨HF9,HX9,K9⟩:W.heap[w.heap.size]?=some (.cells #[.int .i64 0,.int .i64 0,.int .i64 0,.slice none 0 0,.int .i64 0,.int .u32 0,.int .i64 0,.int .i64 0,.int .i64 0,.bool false,.int .i64 0,.slice none 0 0] 49)∧W.heap[w.heap.size+1]?=some (.cells #[.bool true,.int .i64 S,.int .i64 1] 64)∧Kp [w.heap.size,w.heap.size+1] wX W:=by rw [← hW]; exact set15 (by omega) HFs.out HXs.out
 refine bodyPost_ret (v:=.tuple #[.agg #[.int .i64 0,.int .i64 0,.int .i64 0,.slice none 0 0,.int .i64 0,.int .u32 0,.int .i64 0,.int .i64 0,.int .i64 0,.bool false,.int .i64 0,.slice none 0 0],.int .i64 (9+(N:Int)),.agg #[.bool true,.int .i64 S,.int .i64 1],.int .i64 0]) (by simp [results,Try.results101,go_sem,cell_of HF9,cell_of HX9]) rfl ⟨(⟨0,0,0,none,0,0,0,0,0,0,0,false,0,none,0,0⟩:Fr),rfl,FrP.zero _ _,(HKs.out.then K9 (by simp)).drew⟩
end Go.Proofs.Ytkmcakneceagpaa

namespace Go.Proofs.Ytkmcakneceagpaa
open Go.RowKit
theorem rparseOk2 (T:Nat) (A:Option Addr) (n c:Nat) (l:List UInt8) (most:Int) (w:World) (hr:Rd w A n c l) (hn:n≤281474976710656) (hm:0≤most) (h9:¬ n < 9) (N:Nat) (hN:be (l.take 3)=N) (hb:¬ most < (N:Int)) (hc:¬ n < 9+N) (F S:Nat) (hT:(l.getD 3 0).toNat=T) (hF:(l.getD 4 0).toNat=F) (hS:be ((l.drop 5).take 4) % 2147483648=S) (hkn:knownB (T:Int)=true) (hrg:∀ w,Calls Try.prog 153 #[.int .i64 T,.int .i64 S] w (BoolR (rightB T S) w)) (hri:rightB T S=true) (hsz:∀ w,Calls Try.prog 154 #[.agg #[.int .i64 T,.int .i64 F,.int .i64 S,.slice none 0 0,.int .i64 0,.int .u32 0,.int .i64 0,.int .i64 0,.int .i64 0,.bool false,.int .i64 0,.slice none 0 0],.int .i64 N] w (BoolK (!fitsB T F N) w)) (hft:fitsB T F N=true) (hpt:∀ (A:Option Addr) (n c:Nat) (m:List UInt8) (w:World),Rd w A n c m→n≤16777216→Calls Try.prog 155 #[.agg #[.int .i64 T,.int .i64 F,.int .i64 S,.slice none 0 0,.int .i64 0,.int .u32 0,.int .i64 0,.int .i64 0,.int .i64 0,.bool false,.int .i64 0,.slice none 0 0],.slice A n c] w (PartR T F S (unS T F m) w)) (hT2:T=2) (pad:Nat) (m:List UInt8) (hur:unS T F ((l.drop 9).take N)=.ok pad m) (hfl:∀ (A:Option Addr) (n c:Nat) (w:World),Rd w A n c m→n≤16777216→Calls Try.prog 156 #[.agg #[.int .i64 T,.int .i64 F,.int .i64 S,.slice none 0 0,.int .i64 (pad:Int),.int .u32 0,.int .i64 0,.int .i64 0,.int .i64 0,.bool false,.int .i64 0,.slice none 0 0],.slice A n c] w (FldR (getS (f0S T F S pad) m) w)):Calls Try.prog 101 #[.slice A n c,.int .i64 most] w (ParseR ⟨getS (f0S T F S pad) m,9+N,false,0,0,0⟩ w):=by
 subst hT2
 obtain ⟨b,o,hA,hbw,_⟩:=hr.addr (by omega)
 have HLT:=Lib.hid (show ∀ t,t∈ob A→t < w.heap.size from fun t ht=>by rw [hA] at ht; simp [ob] at ht; omega)
 have HA:=Lib.hid hA
 clear hA hbw
 have HKN:=Lib.hid hkn
 have HRG:=Lib.hid hrg
 have HRI:=Lib.hid hri
 have HSZ:=Lib.hid hsz
 have HFT:=Lib.hid hft
 have HPT:=Lib.hid hpt
 have HUR:=Lib.hid hur
 have HFL:=Lib.hid hfl
 have HR:=Lib.hid hr
 have e:=head_of (l:=l) (by rw [hr.len]; exact h9)
 rw [hN,hT,hF,hS] at e
 have HN2:=Lib.hid (show N < 16777216 by have:=be_take_lt l 3; rw [hN] at this; have e3:(256:Nat) ^ 3=16777216:=(by decide); omega)
 have HH:=Lib.hid e
 have HML:=Lib.hid (show m.length≤16777216 by have h1:=un_le HUR.out; have h2:=HN2.out; have h3:((l.drop 9).take N).length≤N:=(by simp only [List.length_take]; omega); omega)
 clear hr e hT hF hS hN hkn hrg hri hsz hft hpt hur hfl
 go_enter Try.func101,Try.ntmps101
 go_wp2_with fail
 generalize hW:World.alloc _ _=w1
 have K1:Kp [] w w1:=by rw [← hW]; with_reducible (repeat (first|exact Kp.refl _ _|assumption|refine Kp.alloc ?_ _|refine Kp.drew ?_|refine Kp.drewN ?_ _|(refine Kp.setL ?_ ?_ _;focus (simp;done))|(refine Kp.setR ?_ ?_ _;focus (first|(simp;done)|(simp;omega)))))
 have HF:=Lib.hid (show w1.heap[w.heap.size]?=some (.cells #[.int .i64 0,.int .i64 0,.int .i64 0,.slice none 0 0,.int .i64 0,.int .u32 0,.int .i64 0,.int .i64 0,.int .i64 0,.bool false,.int .i64 0,.slice none 0 0] 49) by rw [← hW]; with_reducible (repeat (first|assumption|(refine hp_new _ _ _ ?_;focus (simp;done))|refine hpl ?_|(refine hpf ?_ ?_;focus (first|(simp;done)|(simp;omega)))|refine hpd ?_|refine hpe ?_)))
 have HX:=Lib.hid (show w1.heap[w.heap.size+1]?=some (.cells #[.bool false,.int .i64 0,.int .i64 0] 64) by rw [← hW]; with_reducible (repeat (first|assumption|(refine hp_new _ _ _ ?_;focus (simp;done))|refine hpl ?_|(refine hpf ?_ ?_;focus (first|(simp;done)|(simp;omega)))|refine hpd ?_|refine hpe ?_)))
 clear hW
 refine (refHead_big A n c l w1 hn (HR.out.keep K1 (by simp))).mono ?_
 rintro e w2 ⟨rfl,K2⟩
 rw [HH.out]
 dsimp only
 have HF2:=Lib.hid (K2.heap HF.out (by simp))
 have HX2:=Lib.hid (K2.heap HX.out (by simp))
 have HK2:=Lib.hid (K1.trans K2)
 clear HF HX K1 K2
 obtain ⟨q0,q1,q2,q3,q4,q5,q6,q7,q8,q9,q10,q11,qz,qlt,qlt2⟩:=cellsF HF2.out
 have x0:=cell_of HX2.out 0
 have x1:=cell_of HX2.out 1
 have x2:=cell_of HX2.out 2
 have xz:=frozen_of HX2.out
 have hN2:=HN2.out
 go_wp2_with fail
 generalize hW:World.alloc _ _=w3
 have K3:Kp [] w2 w3:=by rw [← hW]; with_reducible (repeat (first|exact Kp.refl _ _|assumption|refine Kp.alloc ?_ _|refine Kp.drew ?_|refine Kp.drewN ?_ _|(refine Kp.setL ?_ ?_ _;focus (simp;done))|(refine Kp.setR ?_ ?_ _;focus (first|(simp;done)|(simp;omega)))))
 have HB3:=Lib.hid (show w3.heap[w2.heap.size]?=some (.cells #[.int .i64 2,.int .i64 F,.int .i64 S,.slice none 0 0,.int .i64 0,.int .u32 0,.int .i64 0,.int .i64 0,.int .i64 0,.bool false,.int .i64 0,.slice none 0 0] 49) by rw [← hW]; with_reducible (repeat (first|assumption|(refine hp_new _ _ _ ?_;focus (simp;done))|refine hpl ?_|(refine hpf ?_ ?_;focus (first|(simp;done)|(simp;omega)))|refine hpd ?_|refine hpe ?_)))
 have HF3:=Lib.hid (K3.heap HF2.out (by simp))
 have HX3:=Lib.hid (K3.heap HX2.out (by simp))
 have HK3:=Lib.hid (HK2.out.trans K3)
 have hsw:=HK2.out.size
 have hlx:=lt_of_heap HX2.out
 clear hW K3 HF2 HX2 HK2 q0 q1 q2 q3 q4 q5 q6 q7 q8 q9 q10 q11 qz qlt qlt2 x0 x1 x2 xz
 refine (refKnown_any 2 _).mono ?_
 rintro e w4 ⟨rfl,rfl⟩
 rw [show knownB 2=true from rfl]
 obtain ⟨q0,q1,q2,q3,q4,q5,q6,q7,q8,q9,q10,q11,qz,qlt,qlt2⟩:=cellsF HF3.out
 obtain ⟨b0,b1,b2,b3,b4,b5,b6,b7,b8,b9,b10,b11,bz,blt,blt2⟩:=cellsF HB3.out
 have x0:=cell_of HX3.out 0
 have x1:=cell_of HX3.out 1
 have x2:=cell_of HX3.out 2
 have xz:=frozen_of HX3.out
 go_wp2_with fail
 refine (HRG.out _).mono ?_
 rintro e w4 ⟨rfl,rfl⟩
 rw [HRI.out]
 go_wp2_with fail
 refine (rfault 6 _).mono ?_
 rintro e w5 ⟨rfl,K5⟩
 have HB5:=Lib.hid (K5.heap HB3.out (by simp))
 have HF5:=Lib.hid (K5.heap HF3.out (by simp))
 have HX5:=Lib.hid (K5.heap HX3.out (by simp))
 have HK5:=Lib.hid (HK3.out.trans K5)
 clear HB3 HF3 HX3 HK3 K5
 clear q0 q1 q2 q3 q4 q5 q6 q7 q8 q9 q10 q11 qz qlt qlt2 b0 b1 b2 b3 b4 b5 b6 b7 b8 b9 b10 b11 bz blt blt2 x0 x1 x2 xz
 obtain ⟨q0,q1,q2,q3,q4,q5,q6,q7,q8,q9,q10,q11,qz,qlt,qlt2⟩:=cellsF HF5.out
 obtain ⟨b0,b1,b2,b3,b4,b5,b6,b7,b8,b9,b10,b11,bz,blt,blt2⟩:=cellsF HB5.out
 have x0:=cell_of HX5.out 0
 have x1:=cell_of HX5.out 1
 have x2:=cell_of HX5.out 2
 have xz:=frozen_of HX5.out
 have hw5:=lt_of_heap HB5.out
 go_wp2_with fail
 generalize hW:World.alloc _ _=w6
 have K6:Kp [] w5 w6:=by rw [← hW]; with_reducible (repeat (first|exact Kp.refl _ _|assumption|refine Kp.alloc ?_ _|refine Kp.drew ?_|refine Kp.drewN ?_ _|(refine Kp.setL ?_ ?_ _;focus (simp;done))|(refine Kp.setR ?_ ?_ _;focus (first|(simp;done)|(simp;omega)))))
 have HT6:=Lib.hid (show w6.heap[w5.heap.size]?=some (.cells #[.bool true,.int .i64 S,.int .i64 6] 64) by rw [← hW]; with_reducible (repeat (first|assumption|(refine hp_new _ _ _ ?_;focus (simp;done))|refine hpl ?_|(refine hpf ?_ ?_;focus (first|(simp;done)|(simp;omega)))|refine hpd ?_|refine hpe ?_)))
 clear hW
 have HB6:=Lib.hid (K6.heap HB5.out (by simp))
 have HF6:=Lib.hid (K6.heap HF5.out (by simp))
 have HX6:=Lib.hid (K6.heap HX5.out (by simp))
 have HK6:=Lib.hid (HK5.out.trans K6)
 clear HB5 HF5 HX5 HK5 K6
 clear q0 q1 q2 q3 q4 q5 q6 q7 q8 q9 q10 q11 qz qlt qlt2 b0 b1 b2 b3 b4 b5 b6 b7 b8 b9 b10 b11 bz blt blt2 x0 x1 x2 xz
 obtain ⟨q0,q1,q2,q3,q4,q5,q6,q7,q8,q9,q10,q11,qz,qlt,qlt2⟩:=cellsF HF6.out
 obtain ⟨b0,b1,b2,b3,b4,b5,b6,b7,b8,b9,b10,b11,bz,blt,blt2⟩:=cellsF HB6.out
 have x0:=cell_of HX6.out 0
 have x1:=cell_of HX6.out 1
 have x2:=cell_of HX6.out 2
 have xz:=frozen_of HX6.out
 refine (HSZ.out _).mono ?_
 rintro e w7 ⟨rfl,K7⟩
 rw [HFT.out]
 have HT7:=Lib.hid (K7.heap HT6.out (by simp))
 clear HT6
 have HB7:=Lib.hid (K7.heap HB6.out (by simp))
 have HF7:=Lib.hid (K7.heap HF6.out (by simp))
 have HX7:=Lib.hid (K7.heap HX6.out (by simp))
 have HK7:=Lib.hid (HK6.out.trans K7)
 clear HB6 HF6 HX6 HK6 K7
 clear q0 q1 q2 q3 q4 q5 q6 q7 q8 q9 q10 q11 qz qlt qlt2 b0 b1 b2 b3 b4 b5 b6 b7 b8 b9 b10 b11 bz blt blt2 x0 x1 x2 xz
 obtain ⟨q0,q1,q2,q3,q4,q5,q6,q7,q8,q9,q10,q11,qz,qlt,qlt2⟩:=cellsF HF7.out
 obtain ⟨b0,b1,b2,b3,b4,b5,b6,b7,b8,b9,b10,b11,bz,blt,blt2⟩:=cellsF HB7.out
 have x0:=cell_of HX7.out 0
 have x1:=cell_of HX7.out 1
 have x2:=cell_of HX7.out 2
 have xz:=frozen_of HX7.out
 have t0:=cell_of HT7.out 0
 have t1:=cell_of HT7.out 1
 have t2:=cell_of HT7.out 2
 have tz:=frozen_of HT7.out
 have tl:=lt_of_heap HT7.out
 have HR7:=Lib.hid (HR.out.keep HK7.out (by simp))
 have hlx7:=lt_of_heap HX7.out
 go_wp2
 generalize hhb:w2.heap.size=hb at *
 generalize hhx:w5.heap.size=hx at *
 refine wp_region_st3 (by kernel_rfl) [fun _ v _=>v=(.agg #[.int .i64 2,.int .i64 F,.int .i64 S,.slice none 0 0,.int .i64 0,.int .u32 0,.int .i64 0,.int .i64 0,.int .i64 0,.bool false,.int .i64 0,.slice none 0 0]),
   fun _ v _=>v=(.slice A n c),
   fun _ v _=>v=(.int .i64 (N:Int)),
   fun _ v _=>v=(.int .i64 (9+(N:Int))),
   fun p v w=>∃ x:Option Addr × Nat × Nat,v=.slice x.1 x.2.1 x.2.2∧0≤p∧(p≤0→Rd w x.1 x.2.1 x.2.2 ((l.drop 9).take N)∧x.2.1=N),
   fun p v w=>∃ x:Option Addr × Nat × Nat,v=.tuple #[.agg #[.int .i64 2,.int .i64 F,.int .i64 S,.slice none 0 0,.int .i64 (pad:Int),.int .u32 0,.int .i64 0,.int .i64 0,.int .i64 0,.bool false,.int .i64 0,.slice none 0 0],.slice x.1 x.2.1 x.2.2,.agg #[.bool false,.int .i64 0,.int .i64 0]]∧1≤p∧(p≤3→Rd w x.1 x.2.1 x.2.2 m∧(0 < x.2.1→∀ t,t∈ob x.1→¬ t=hb∧¬ t=hx)),
   fun p v w=>∃ x:Option Addr × Nat × Nat,v=.tuple #[.agg #[.int .i64 2,.int .i64 F,.int .i64 S,.slice none 0 0,.int .i64 (pad:Int),.int .u32 0,.int .i64 0,.int .i64 0,.int .i64 0,.bool false,.int .i64 0,.slice none 0 0],.slice x.1 x.2.1 x.2.2,.agg #[.bool false,.int .i64 0,.int .i64 0]]∧1≤p∧(p≤3→Rd w x.1 x.2.1 x.2.2 m∧(0 < x.2.1→∀ t,t∈ob x.1→¬ t=hb∧¬ t=hx)),
   fun _ v _=>v=(.agg #[.int .i64 2,.int .i64 F,.int .i64 S,.slice none 0 0,.int .i64 (pad:Int),.int .u32 0,.int .i64 0,.int .i64 0,.int .i64 0,.bool false,.int .i64 0,.slice none 0 0]),
   fun p v w=>∃ x:Option Addr × Nat × Nat,v=.slice x.1 x.2.1 x.2.2∧1≤p∧(p≤3→Rd w x.1 x.2.1 x.2.2 m∧(0 < x.2.1→∀ t,t∈ob x.1→¬ t=hb∧¬ t=hx)),
   fun _ v _=>v=(.agg #[.bool false,.int .i64 0,.int .i64 0]),
   fun _ v _=>True,
   fun p v w=>∃ x:Option Addr × Nat × Nat,v=.slice x.1 x.2.1 x.2.2∧1≤p∧(p≤3→Rd w x.1 x.2.1 x.2.2 m∧(0 < x.2.1→∀ t,t∈ob x.1→¬ t=hb∧¬ t=hx)),
   fun _ v _=>True] (fun p w=>Kp [hb,hx] w7 w∧(p≤1→w.heap[hb]?=some (.cells #[.int .i64 2,.int .i64 F,.int .i64 S,.slice none 0 0,.int .i64 0,.int .u32 0,.int .i64 0,.int .i64 0,.int .i64 0,.bool false,.int .i64 0,.slice none 0 0] 49))∧(2≤p→w.heap[hb]?=some (.cells #[.int .i64 2,.int .i64 F,.int .i64 S,.slice none 0 0,.int .i64 (pad:Int),.int .u32 0,.int .i64 0,.int .i64 0,.int .i64 0,.bool false,.int .i64 0,.slice none 0 0] 49))∧(p≤2→w.heap[hx]?=some (.cells #[.bool true,.int .i64 S,.int .i64 6] 64))∧(3≤p→w.heap[hx]?=some (.cells #[.bool false,.int .i64 0,.int .i64 0] 64))) (fun _ w w'=>Kp [hb,hx] w w') (fun w w'=>Kp [] w w') [5,10,12] [] (by kernel_rfl) (by kernel_rfl) (by kernel_rfl) (by decide) (by kernel_rfl) ⟨StabAt2.const _,StabAt2.const _,StabAt2.const _,StabAt2.const _,StabAt2.span (f:=fun x:Option Addr × Nat × Nat=>.slice x.1 x.2.1 x.2.2) (by intro p x w w' h1 h2 h3 hR hG; omega) (by intro x w w' hR hG; exact ⟨hG.1.keep hR (by simp),hG.2⟩),StabAt2.span (f:=fun x:Option Addr × Nat × Nat=>.tuple #[.agg #[.int .i64 2,.int .i64 F,.int .i64 S,.slice none 0 0,.int .i64 (pad:Int),.int .u32 0,.int .i64 0,.int .i64 0,.int .i64 0,.bool false,.int .i64 0,.slice none 0 0],.slice x.1 x.2.1 x.2.2,.agg #[.bool false,.int .i64 0,.int .i64 0]]) (by intro p x w w' h1 h2 h3 hR hG; exact ⟨hG.1.keep hR (by intro hn t ht hs; have:=hG.2 hn t ht; simp at hs; omega),hG.2⟩) (by intro x w w' hR hG; exact ⟨hG.1.keep hR (by simp),hG.2⟩),StabAt2.span (f:=fun x:Option Addr × Nat × Nat=>.tuple #[.agg #[.int .i64 2,.int .i64 F,.int .i64 S,.slice none 0 0,.int .i64 (pad:Int),.int .u32 0,.int .i64 0,.int .i64 0,.int .i64 0,.bool false,.int .i64 0,.slice none 0 0],.slice x.1 x.2.1 x.2.2,.agg #[.bool false,.int .i64 0,.int .i64 0]]) (by intro p x w w' h1 h2 h3 hR hG; exact ⟨hG.1.keep hR (by intro hn t ht hs; have:=hG.2 hn t ht; simp at hs; omega),hG.2⟩) (by intro x w w' hR hG; exact ⟨hG.1.keep hR (by simp),hG.2⟩),StabAt2.const _,StabAt2.span (f:=fun x:Option Addr × Nat × Nat=>.slice x.1 x.2.1 x.2.2) (by intro p x w w' h1 h2 h3 hR hG; exact ⟨hG.1.keep hR (by intro hn t ht hs; have:=hG.2 hn t ht; simp at hs; omega),hG.2⟩) (by intro x w w' hR hG; exact ⟨hG.1.keep hR (by simp),hG.2⟩),StabAt2.const _,StabAt2.const _,StabAt2.span (f:=fun x:Option Addr × Nat × Nat=>.slice x.1 x.2.1 x.2.2) (by intro p x w w' h1 h2 h3 hR hG; exact ⟨hG.1.keep hR (by intro hn t ht hs; have:=hG.2 hn t ht; simp at hs; omega),hG.2⟩) (by intro x w w' hR hG; exact ⟨hG.1.keep hR (by simp),hG.2⟩),StabAt2.const _,trivial⟩ (⟨(Kp.refl _ _).drew,fun _=>HB7.out,fun h=>by omega,fun _=>HT7.out,fun h=>by omega⟩) ⟨?_,?_,?_,?_,?_,?_,?_,?_,?_,?_,?_,?_,?_,trivial⟩ (by kernel_rfl) ?_
 ·intro q9 a w E hC K hK
  have h13:a.tmps[13]?=some (.pointer (some ⟨hb,0,none⟩)):=(E.out 13 (by kernel_rfl)).trans rfl
  refine want_none rfl ?_
  have hk:=E.lim 1 10 _ rfl rfl (by kernel_rfl)
  have hb1:=hC.2.1 (by omega)
  obtain ⟨q0,q1,q2,q3,q4,q5,q6,q7,q8,q9',q10,q11,qz,qlt,qlt2⟩:=cellsF hb1
  clear hb1
  go_simp
  exact hK _ rfl
 ·intro q9 a w E hC K hK
  have h0:a.tmps[0]?=some (.slice A n c):=(E.out 0 (by kernel_rfl)).trans rfl
  refine want_none rfl ?_
  go_simp
  exact hK _ rfl
 ·intro q9 a w E hC K hK
  have h8:a.tmps[8]?=some (.int .i64 (N:Int)):=(E.out 8 (by kernel_rfl)).trans rfl
  refine want_none rfl ?_
  go_simp
  exact hK _ rfl
 ·intro q9 a w E hC K hK
  obtain ⟨_,h78,rfl⟩:=E.pred 2 _ 78 rfl rfl (by kernel_rfl)
  refine want_none rfl ?_
  have hN2':N < 16777216:=HN2.out
  have hwr:IntKind.i64.wrap (9+(N:Int))=9+(N:Int):=IntWalk.i64_in _ (by omega)
  go_simp
  first | exact hK _ rfl | exact hK _ (by rw [hwr]) | exact hK _ (by simp [hwr])
 ·intro q9 a w E hC K hK
  obtain ⟨_,h77,rfl⟩:=E.pred 1 _ 77 rfl rfl (by kernel_rfl)
  obtain ⟨_,h79,rfl⟩:=E.pred 3 _ 79 rfl rfl (by kernel_rfl)
  refine want_none rfl ?_
  have hrd:=HR7.out.keep hC.1 (by intro hn0 t h1 h2; have:=HLT.out t h1; simp at h2; omega)
  have hcp:=HR7.out.cap
  have hA:=HA.out
  subst hA
  by_cases hc9:c=9
  ·subst hc9
   obtain rfl:N=0:=by omega
   obtain rfl:n=9:=by omega
   go_simp
   exact hK _ ⟨⟨some ⟨b,o,none⟩,0,0⟩,rfl,by omega,fun _=>⟨by have:=hrd.sub 9 9 (by omega) (by omega) (A':=some ⟨b,o,none⟩) (by intro b' o' h1 h2; omega); simpa using this,rfl⟩⟩
  ·have i0:(9:Int)≤9+(N:Int):=by omega
   have i1:9+(N:Int)≤(c:Int):=by omega
   have i2:¬ (9:Int)=(c:Int):=by omega
   have i3:¬ (c:Int)=9:=by omega
   go_simp
   have e9:((9:Int)+(N:Int)).toNat - 9=N:=by omega
   rw [e9]
   exact hK _ ⟨⟨some ⟨b,o+9,none⟩,N,c - 9⟩,rfl,by omega,fun _=>⟨by have:=hrd.sub 9 (9+N) (by omega) (by omega) (A':=some ⟨b,o+9,none⟩) (by intro b' o' h1 h2; injection h1 with h1; injection h1 with h1 h3 _; rw [h1,h3]); simpa using this,rfl⟩⟩
 ·intro a w E hC K hK
  obtain ⟨_,h76,rfl⟩:=E.pred 0 _ 76 rfl rfl (by kernel_rfl)
  obtain ⟨v4,h80,V4⟩:=E.pred 4 _ 80 rfl rfl (by kernel_rfl)
  replace V4:(fun p v w=>∃ x:Option Addr × Nat × Nat,v=.slice x.1 x.2.1 x.2.2∧0≤p∧(p≤0→Rd w x.1 x.2.1 x.2.2 ((l.drop 9).take N)∧x.2.1=N)) 0 v4 w:=V4
  obtain ⟨x4,rfl,_,hG4⟩:=V4
  refine want_none rfl ?_
  have hrd:=hG4 (by omega)
  have HG4:=Lib.hid hrd.2
  have hr4:=hrd.1
  clear hrd hG4
  go_simp
  refine (HPT.out x4.1 x4.2.1 x4.2.2 _ w hr4 (by have:=HG4.out; have:=HN2.out; omega)).mono ?_
  rw [HUR.out]
  rintro e w2 h2
  obtain ⟨A',n',c',rfl,hr',K2⟩:=h2
  have hz1:=K2.heap (hC.2.1 (by omega)) (by simp)
  have hz2:=K2.heap (hC.2.2.2.1 (by omega)) (by simp)
  have hne:0 < n'→∀ t,t∈ob A'→¬ t=hb∧¬ t=hx:=fun hn t ht=>⟨fun e=>by subst e; exact rd_ne hr' hn hz1 (by simp) ht,fun e=>by subst e; exact rd_ne hr' hn hz2 (by simp) ht⟩
  go_simp
  exact hK _ _ ⟨⟨A',n',c'⟩,rfl,by omega,fun _=>⟨hr',hne⟩⟩ ⟨hC.1.trans K2.nil,fun _=>hz1,fun h=>by omega,fun _=>hz2,fun h=>by omega⟩ K2.nil
 ·intro q9 a w E hC K hK
  obtain ⟨v5,h81,V5⟩:=E.pred 5 _ 81 rfl rfl (by kernel_rfl)
  replace V5:(fun p v w=>∃ x:Option Addr × Nat × Nat,v=.tuple #[.agg #[.int .i64 2,.int .i64 F,.int .i64 S,.slice none 0 0,.int .i64 (pad:Int),.int .u32 0,.int .i64 0,.int .i64 0,.int .i64 0,.bool false,.int .i64 0,.slice none 0 0],.slice x.1 x.2.1 x.2.2,.agg #[.bool false,.int .i64 0,.int .i64 0]]∧1≤p∧(p≤3→Rd w x.1 x.2.1 x.2.2 m∧(0 < x.2.1→∀ t,t∈ob x.1→¬ t=hb∧¬ t=hx))) q9 v5 w:=V5
  obtain ⟨x5,rfl,hl5,hG5⟩:=V5
  refine want_none rfl ?_
  go_simp
  exact hK _ ⟨x5,rfl,hl5,hG5⟩
 ·intro q9 a w E hC K hK
  obtain ⟨v6,h75,V6⟩:=E.pred 6 _ 75 rfl rfl (by kernel_rfl)
  replace V6:(fun p v w=>∃ x:Option Addr × Nat × Nat,v=.tuple #[.agg #[.int .i64 2,.int .i64 F,.int .i64 S,.slice none 0 0,.int .i64 (pad:Int),.int .u32 0,.int .i64 0,.int .i64 0,.int .i64 0,.bool false,.int .i64 0,.slice none 0 0],.slice x.1 x.2.1 x.2.2,.agg #[.bool false,.int .i64 0,.int .i64 0]]∧1≤p∧(p≤3→Rd w x.1 x.2.1 x.2.2 m∧(0 < x.2.1→∀ t,t∈ob x.1→¬ t=hb∧¬ t=hx))) q9 v6 w:=V6
  obtain ⟨x6,rfl,hl6,hG6⟩:=V6
  refine want_none rfl ?_
  go_simp
  exact hK _ rfl
 ·intro q9 a w E hC K hK
  obtain ⟨v6,h75,V6⟩:=E.pred 6 _ 75 rfl rfl (by kernel_rfl)
  replace V6:(fun p v w=>∃ x:Option Addr × Nat × Nat,v=.tuple #[.agg #[.int .i64 2,.int .i64 F,.int .i64 S,.slice none 0 0,.int .i64 (pad:Int),.int .u32 0,.int .i64 0,.int .i64 0,.int .i64 0,.bool false,.int .i64 0,.slice none 0 0],.slice x.1 x.2.1 x.2.2,.agg #[.bool false,.int .i64 0,.int .i64 0]]∧1≤p∧(p≤3→Rd w x.1 x.2.1 x.2.2 m∧(0 < x.2.1→∀ t,t∈ob x.1→¬ t=hb∧¬ t=hx))) q9 v6 w:=V6
  obtain ⟨x6,rfl,hl6,hG6⟩:=V6
  refine want_none rfl ?_
  go_simp
  exact hK _ ⟨x6,rfl,hl6,hG6⟩
 ·intro q9 a w E hC K hK
  obtain ⟨v6,h75,V6⟩:=E.pred 6 _ 75 rfl rfl (by kernel_rfl)
  replace V6:(fun p v w=>∃ x:Option Addr × Nat × Nat,v=.tuple #[.agg #[.int .i64 2,.int .i64 F,.int .i64 S,.slice none 0 0,.int .i64 (pad:Int),.int .u32 0,.int .i64 0,.int .i64 0,.int .i64 0,.bool false,.int .i64 0,.slice none 0 0],.slice x.1 x.2.1 x.2.2,.agg #[.bool false,.int .i64 0,.int .i64 0]]∧1≤p∧(p≤3→Rd w x.1 x.2.1 x.2.2 m∧(0 < x.2.1→∀ t,t∈ob x.1→¬ t=hb∧¬ t=hx))) q9 v6 w:=V6
  obtain ⟨x6,rfl,hl6,hG6⟩:=V6
  refine want_none rfl ?_
  go_simp
  exact hK _ rfl
 ·intro a w E hC K hK
  have h13:a.tmps[13]?=some (.pointer (some ⟨hb,0,none⟩)):=(E.out 13 (by kernel_rfl)).trans rfl
  obtain ⟨_,h82,rfl⟩:=E.pred 7 _ 82 rfl rfl (by kernel_rfl)
  refine want_none rfl ?_
  have hz:=hC.2.1 (by omega)
  have HZ:=Lib.hid hz
  obtain ⟨q0,q1,q2,q3,q4,q5,q6,q7,q8,q9',q10,q11,qz,qlt,qlt2⟩:=cellsF hz
  clear hz
  go_simp
  generalize hW:World.setCell _ _ _=w2
  obtain ⟨hs1,hs2⟩:w2.heap[hb]?=some (.cells #[.int .i64 2,.int .i64 F,.int .i64 S,.slice none 0 0,.int .i64 (pad:Int),.int .u32 0,.int .i64 0,.int .i64 0,.int .i64 0,.bool false,.int .i64 0,.slice none 0 0] 49)∧Kp [hb] w w2:=by rw [← hW]; exact rset12 HZ.out
  exact hK undef _ trivial ⟨hC.1.trans (hs2.mono (by simp)),fun h=>by omega,fun _=>hs1,fun h=>hs2.heap (hC.2.2.2.1 (by omega)) (by simp; omega),fun h=>by omega⟩ (hs2.mono (by simp))
 ·intro q9 a w E hC K hK
  obtain ⟨v8,h83,V8⟩:=E.pred 8 _ 83 rfl rfl (by kernel_rfl)
  replace V8:(fun p v w=>∃ x:Option Addr × Nat × Nat,v=.slice x.1 x.2.1 x.2.2∧1≤p∧(p≤3→Rd w x.1 x.2.1 x.2.2 m∧(0 < x.2.1→∀ t,t∈ob x.1→¬ t=hb∧¬ t=hx))) q9 v8 w:=V8
  obtain ⟨x8,rfl,hl8,hG8⟩:=V8
  refine want_none rfl ?_
  go_simp
  exact hK _ ⟨x8,rfl,hl8,hG8⟩
 ·intro a w E hC K hK
  have h14:a.tmps[14]?=some (.pointer (some ⟨hx,0,none⟩)):=(E.out 14 (by kernel_rfl)).trans rfl
  obtain ⟨_,h84,rfl⟩:=E.pred 9 _ 84 rfl rfl (by kernel_rfl)
  refine want_none rfl ?_
  have hz:=hC.2.2.2.1 (by omega)
  have HZ:=Lib.hid hz
  have x0:=cell_of hz 0
  have x1:=cell_of hz 1
  have x2:=cell_of hz 2
  have xz:=frozen_of hz
  have xl:=lt_of_heap hz
  clear hz
  go_simp
  generalize hW:World.setCell _ _ _=w2
  obtain ⟨hs1,hs2⟩:w2.heap[hx]?=some (.cells #[.bool false,.int .i64 0,.int .i64 0] 64)∧Kp [hx] w w2:=by rw [← hW]; exact rset3 HZ.out
  exact hK undef _ trivial ⟨hC.1.trans (hs2.mono (by simp)),fun h=>by omega,fun _=>(hs2.heap (hC.2.2.1 (by omega)) (by simp; omega)),fun h=>by omega,fun _=>hs1⟩ (hs2.mono (by simp))
 intro vs w8 hC hV
 obtain ⟨⟨A8,n8,c8⟩,h11,_,hG8⟩:=hV 11 _ rfl (by simp)
 obtain ⟨hr8,_⟩:=hG8 (by simp)
 dsimp only at hr8
 have HR8:=Lib.hid hr8
 clear hr8 hG8
 have HB8:=Lib.hid (hC.2.2.1 (by simp))
 have HT8:=Lib.hid (hC.2.2.2.2 (by simp))
 have HF8:=Lib.hid (hC.1.heap HF7.out (by simp; omega))
 have HX8:=Lib.hid (hC.1.heap HX7.out (by simp; omega))
 have HK8:=Lib.hid (HK7.out.then hC.1 (by simp; omega))
 clear hV hC HX7 HB7 HF7 HK7 HR7 HT7
 simp only [putAll,Act.put,List.setIfInBounds_toArray]
 dsimp only [List.set]
 obtain ⟨q0,q1,q2,q3,q4,q5,q6,q7,q8,q9,q10,q11,qz,qlt,qlt2⟩:=cellsF HF8.out
 have x0:=cell_of HX8.out 0
 have x1:=cell_of HX8.out 1
 have x2:=cell_of HX8.out 2
 have xz:=frozen_of HX8.out
 have t0:=cell_of HT8.out 0
 have t1:=cell_of HT8.out 1
 have t2:=cell_of HT8.out 2
 have tz:=frozen_of HT8.out
 have tl:=lt_of_heap HT8.out
 obtain ⟨b0,b1,b2,b3,b4,b5,b6,b7,b8,b9,b10,b11,bz,blt,blt2⟩:=cellsF HB8.out
 go_wp2_with fail
 refine (HFL.out A8 n8 c8 w8 HR8.out (by have:=HR8.out.len; have:=HML.out; omega)).mono ?_
 rintro e w9 hf9
 obtain ⟨f9,rfl,hp9,K9⟩:=hf9
 have HP9:=Lib.hid hp9
 have hs8:=HK8.out.size
 have hbl:=lt_of_heap HB8.out
 have hxl:=lt_of_heap HT8.out
 clear hp9
 have HF9:=Lib.hid (K9.heap HF8.out (by simp))
 have HX9:=Lib.hid (K9.heap HX8.out (by simp))
 have HB9:=Lib.hid (K9.heap HB8.out (by simp))
 have HT9:=Lib.hid (K9.heap HT8.out (by simp))
 have HK9:=Lib.hid (HK8.out.trans K9)
 clear K9 HF8 HX8 HB8 HT8 HK8 HR8 q0 q1 q2 q3 q4 q5 q6 q7 q8 q9 q10 q11 qz qlt qlt2 x0 x1 x2 xz t0 t1 t2 tz tl b0 b1 b2 b3 b4 b5 b6 b7 b8 b9 b10 b11 bz blt blt2
 obtain ⟨q0,q1,q2,q3,q4,q5,q6,q7,q8,q9,q10,q11,qz,qlt,qlt2⟩:=cellsF HF9.out
 have x0:=cell_of HX9.out 0
 have x1:=cell_of HX9.out 1
 have x2:=cell_of HX9.out 2
 have xz:=frozen_of HX9.out
 have t0:=cell_of HT9.out 0
 have t1:=cell_of HT9.out 1
 have t2:=cell_of HT9.out 2
 have tz:=frozen_of HT9.out
 have tl:=lt_of_heap HT9.out
 obtain ⟨b0,b1,b2,b3,b4,b5,b6,b7,b8,b9,b10,b11,bz,blt,blt2⟩:=cellsF HB9.out
 go_wp2
 obtain ⟨h15a,h15b,Kst⟩:=set15 (g:=hb) (h:=hx) (w:=w9) (b0:=.int .i64 f9.ty) (b1:=.int .i64 f9.fl) (b2:=.int .i64 f9.st) (b3:=.slice f9.pA f9.pn f9.pc) (b4:=.int .i64 f9.pad) (b5:=.int .u32 f9.code) (b6:=.int .i64 f9.last) (b7:=.int .i64 f9.inc) (b8:=.int .i64 f9.dep) (b9:=.bool f9.only) (b10:=.int .i64 f9.wt) (b11:=.slice f9.sA f9.sn f9.sc) (y0:=.bool false) (y1:=.int .i64 0) (y2:=.int .i64 0) (by omega) HB9.out HT9.out
 have HF:=Lib.hid (Kst.heap HF9.out (by simp; omega))
 have HX:=Lib.hid (Kst.heap HX9.out (by simp; omega))
 generalize hW:World.setCell _ _ _=W
 obtain ⟨HF9,HX9,K9⟩:W.heap[w.heap.size]?=some (.cells #[.int .i64 f9.ty,.int .i64 f9.fl,.int .i64 f9.st,.slice f9.pA f9.pn f9.pc,.int .i64 f9.pad,.int .u32 f9.code,.int .i64 f9.last,.int .i64 f9.inc,.int .i64 f9.dep,.bool f9.only,.int .i64 f9.wt,.slice f9.sA f9.sn f9.sc] 49)∧W.heap[w.heap.size+1]?=some (.cells #[.bool false,.int .i64 0,.int .i64 0] 64)∧Kp [w.heap.size,w.heap.size+1] (World.setCell (World.setCell (World.setCell (World.setCell (World.setCell (World.setCell (World.setCell (World.setCell (World.setCell (World.setCell (World.setCell (World.setCell (World.setCell (World.setCell (World.setCell w9 ⟨hb,0,none⟩ (.int .i64 f9.ty)) ⟨hb,1,none⟩ (.int .i64 f9.fl)) ⟨hb,2,none⟩ (.int .i64 f9.st)) ⟨hb,3,none⟩ (.slice f9.pA f9.pn f9.pc)) ⟨hb,4,none⟩ (.int .i64 f9.pad)) ⟨hb,5,none⟩ (.int .u32 f9.code)) ⟨hb,6,none⟩ (.int .i64 f9.last)) ⟨hb,7,none⟩ (.int .i64 f9.inc)) ⟨hb,8,none⟩ (.int .i64 f9.dep)) ⟨hb,9,none⟩ (.bool f9.only)) ⟨hb,10,none⟩ (.int .i64 f9.wt)) ⟨hb,11,none⟩ (.slice f9.sA f9.sn f9.sc)) ⟨hx,0,none⟩ (.bool false)) ⟨hx,1,none⟩ (.int .i64 0)) ⟨hx,2,none⟩ (.int .i64 0)) W:=by rw [← hW]; exact set15 (by omega) HF.out HX.out
 refine bodyPost_ret (v:=.tuple #[.agg #[.int .i64 f9.ty,.int .i64 f9.fl,.int .i64 f9.st,.slice f9.pA f9.pn f9.pc,.int .i64 f9.pad,.int .u32 f9.code,.int .i64 f9.last,.int .i64 f9.inc,.int .i64 f9.dep,.bool f9.only,.int .i64 f9.wt,.slice f9.sA f9.sn f9.sc],.int .i64 (9+(N:Int)),.agg #[.bool false,.int .i64 0,.int .i64 0],.int .i64 0]) (by simp [results,Try.results101,go_sem,cell_of HF9,cell_of HX9]) rfl ⟨f9,rfl,HP9.out.low ((Kst.mono (T:=[hb,hx,w.heap.size,w.heap.size+1]) (by simp)).trans (K9.mono (by simp))) (by simp; omega) (by omega),((HK9.out.then Kst (by simp; omega)).then K9 (by simp))⟩
end Go.Proofs.Ytkmcakneceagpaa

namespace Go.Proofs.Ytkmcakneceagpaa
open Go.RowKit
theorem rfields4 (fl st pad:Int) (A:Option Addr) (n c:Nat) (l:List UInt8) (w:World) (hr:Rd w A n c l) (hn:n≤16777216) (m:Nat) (hm:n=6 * m):Calls Try.prog 156 #[.agg #[.int .i64 4,.int .i64 fl,.int .i64 st,.slice none 0 0,.int .i64 pad,.int .u32 0,.int .i64 0,.int .i64 0,.int .i64 0,.bool false,.int .i64 0,.slice none 0 0],.slice A n c] w (FldR (getS (f0S 4 fl st pad) l) w):=by
 have HLEN:=Lib.hid hr.len
 have HR:=Lib.hid hr
 have HM:=Lib.hid hm
 clear hr hm
 go_enter Try.func156,Try.ntmps156
 go_wp2
 generalize hW:World.alloc (World.alloc (World.alloc w _) _) _=w1
 have hsz:w1.heap.size=w.heap.size+1+1+1:=by rw [← hW]; simp
 have K1:Kp [] w w1:=by rw [← hW]; with_reducible (repeat (first|exact Kp.refl _ _|assumption|refine Kp.alloc ?_ _|refine Kp.drew ?_|refine Kp.drewN ?_ _|(refine Kp.setL ?_ ?_ _;focus (simp;done))|(refine Kp.setR ?_ ?_ _;focus (first|(simp;done)|(simp;omega)))))
 have HB:=Lib.hid (show w1.heap[w.heap.size]?=some (.cells #[.int .i64 4,.int .i64 fl,.int .i64 st,.slice none 0 0,.int .i64 pad,.int .u32 0,.int .i64 0,.int .i64 0,.int .i64 0,.bool false,.int .i64 0,.slice none 0 0] 49) by rw [← hW]; with_reducible (repeat (first|assumption|(refine hp_new _ _ _ ?_;focus (simp;done))|refine hpl ?_|(refine hpf ?_ ?_;focus (first|(simp;done)|(simp;omega)))|refine hpd ?_|refine hpe ?_)))
 have HF:=Lib.hid (show w1.heap[w.heap.size+1]?=some (.cells #[.int .i64 0,.int .i64 0,.int .i64 0,.slice none 0 0,.int .i64 0,.int .u32 0,.int .i64 0,.int .i64 0,.int .i64 0,.bool false,.int .i64 0,.slice none 0 0] 49) by rw [← hW]; with_reducible (repeat (first|assumption|(refine hp_new _ _ _ ?_;focus (simp;done))|refine hpl ?_|(refine hpf ?_ ?_;focus (first|(simp;done)|(simp;omega)))|refine hpd ?_|refine hpe ?_)))
 have HX:=Lib.hid (show w1.heap[w.heap.size+2]?=some (.cells #[.bool false,.int .i64 0,.int .i64 0] 64) by rw [← hW]; with_reducible (repeat (first|assumption|(refine hp_new _ _ _ ?_;focus (simp;done))|refine hpl ?_|(refine hpf ?_ ?_;focus (first|(simp;done)|(simp;omega)))|refine hpd ?_|refine hpe ?_)))
 have HK:=Lib.hid K1
 clear hW K1
 clear hsz
 have hlx:=lt_of_heap HX.out
 go_loopw [6] (fun v wr=>∃ (k:Nat) (sA:Option Addr) (sc:Nat),k≤m∧v=.int .i64 ((6 * k:Nat):Int)∧wr.heap[w.heap.size]?=some (.cells #[.int .i64 4,.int .i64 fl,.int .i64 st,.slice none 0 0,.int .i64 pad,.int .u32 0,.int .i64 0,.int .i64 0,.int .i64 0,.bool false,.int .i64 0,.slice sA k sc] 49)∧wr.heap[w.heap.size+1]?=some (.cells #[.int .i64 0,.int .i64 0,.int .i64 0,.slice none 0 0,.int .i64 0,.int .u32 0,.int .i64 0,.int .i64 0,.int .i64 0,.bool false,.int .i64 0,.slice none 0 0] 49)∧wr.heap[w.heap.size+2]?=some (.cells #[.bool false,.int .i64 0,.int .i64 0] 64)∧Ow wr w1.heap.size 197 2 sA k sc ((setsS l k).flatMap setC)∧Kp [] w wr∧w1.heap.size≤wr.heap.size) (fun v _=>6 * m - (intOf v).toNat)
 case atStart=>exact ⟨0,none,0,Nat.zero_le _,rfl,HB.out,HF.out,HX.out,Ow.nil _ _ _ _,HK.out,Nat.le_refl _⟩
 case round =>
  obtain ⟨k,sA,sc,hk,rfl,hb,hf,hx,hO,hK,hsw⟩:=hrel
  obtain ⟨i,hi⟩:∃ i,6 * k=i:=⟨_,rfl⟩
  rw [hi]
  have HI:=Lib.hid hi
  clear HB HF HX HK
  have HB:=Lib.hid hb
  have HF:=Lib.hid hf
  have HX:=Lib.hid hx
  have HO:=Lib.hid hO
  have HK:=Lib.hid hK
  by_cases hkm:k < m
  ·have hin:(i:Int) < (n:Int):=by have:=HM.out; omega
   have hin2:i+6≤n:=by have:=HM.out; omega
   clear hi hb hf hx hO hK
   go_wp2_with fail
   generalize hW:World.alloc _ _=w2
   obtain ⟨K2,hy⟩:=new_at hW
   have HY2:=Lib.hid hy
   clear hW hy
   have hU:=refU16_at A n c i l w2 (by omega) (HR.out.keep (HK.out.trans K2) (by simp)) (by omega)
   obtain ⟨u,hu⟩:∃ u,n16 l i=u:=⟨_,rfl⟩
   rw [hu] at hU
   have HU:=Lib.hid hu
   clear hu
   refine hU.mono ?_
   clear hU
   rintro e w3 ⟨p3,q3,rfl,K3⟩
   have HY3:=Lib.hid (K3.heap HY2.out (by simp))
   have K23:=K2.trans K3
   have y0:=cell_of HY3.out 0
   have y1:=cell_of HY3.out 1
   have yz:=frozen_of HY3.out
   have hy3:=lt_of_heap HY3.out
   go_wp2_with fail
   generalize hW:World.setCell _ _ _=w4
   have K4:Kp [wr.heap.size] w3 w4:=by rw [← hW]; exact (Kp.refl _ _).setCell (.inl (by simp)) _
   have HY4:=Lib.hid (show w4.heap[wr.heap.size]?=some (.cells #[.int .i64 u,.int .u32 0] 197) by rw [← hW]; exact hp_set _ _ _ _ _ _ HY3.out)
   have K24:Kp [] wr w4:=K23.then K4 (by simp)
   clear hW y0 y1 yz hy3 K4 K23 K2 K3
   have hU:=refU32_at A n c (i+2) l w4 (by omega) (HR.out.keep (HK.out.trans K24) (by simp)) (by omega)
   obtain ⟨z,hz⟩:∃ z,n32 l (i+2)=z:=⟨_,rfl⟩
   rw [show ((i+2:Nat):Int)=(i:Int)+2 from by omega,hz] at hU
   have HZ:=Lib.hid hz
   clear hz
   refine hU.mono ?_
   clear hU
   rintro e w5 ⟨p5,q5,rfl,K5⟩
   have HY5:=Lib.hid (K5.heap HY4.out (by simp))
   have K25:=K24.trans K5
   have y0:=cell_of HY5.out 0
   have y1:=cell_of HY5.out 1
   have yz:=frozen_of HY5.out
   have hy5:=lt_of_heap HY5.out
   have HB5:=Lib.hid (K25.heap HB.out (by simp))
   have b11:=cell_of HB5.out 11
   have bl:=lt_of_heap HB5.out
   go_wp2_with (with_reducible refine stopAt (o:=⟨some 75,_,_,_,_,_⟩) ?_)
   generalize hW:World.alloc _ _=w7
   have K57:Kp [wr.heap.size] w5 w7:=by rw [← hW]; exact ((Kp.refl _ _).setCell (.inl (by simp)) _).alloc _
   have HN7:=Lib.hid (show w7.heap[w5.heap.size]?=some (.cells #[.int .i64 u,.int .u32 z] 197) by rw [← hW]; with_reducible (repeat (first|assumption|(refine hp_new _ _ _ ?_;focus (simp;done))|refine hpl ?_|(refine hpf ?_ ?_;focus (first|(simp;done)|(simp;omega)))|refine hpd ?_|refine hpe ?_)))
   have K27:Kp [] wr w7:=K25.then K57 (by simp)
   have HO7:=Lib.hid (HO.out.keep K27 (by simp))
   have hs7:=K27.size
   clear hW y0 y1 yz hy5 K57 K25 K24 K5
   have hk16:k≤16777216:=by have:=HM.out; omega
   refine Stop.go (wp_app rfl _ _ 47 197 (.agg #[.int .i64 0,.int .u32 0]) 2 16 rfl Try.underlying47 infoSet rfl (by omega) w1.heap.size sA k sc _ rfl HO7.out (some ⟨w5.heap.size,0,none⟩) 1 1 (setC (u,z)) rfl rfl (At.block HN7.out 0 _ rfl) (by intro u hu; simp [setC] at hu; rcases hu with rfl | rfl <;> rfl) (by simp only [maxLen]; omega) (by omega) (by omega) ?_)
   intro A7 k7 c7 w8 hk7 O7 K7 hA7
   obtain rfl:k7=k+1:=hk7.out
   have hob:=HO7.out.base
   have HO8:=Lib.hid O7
   have hne:∀ t,t∈ob sA→w1.heap.size≤t:=fun t ht=>(hob t ht).1
   have HB8:=Lib.hid (K7.heap (K27.heap HB.out (by simp)) (by intro h; have:=hne _ h; omega))
   have HF8:=Lib.hid (K7.heap (K27.heap HF.out (by simp)) (by intro h; have:=hne _ h; omega))
   have HX8:=Lib.hid (K7.heap (K27.heap HX.out (by simp)) (by intro h; have:=hne _ h; omega))
   have HK8:=Lib.hid ((HK.out.trans K27).then K7 (by intro t ht; have:=hne _ ht; right; omega))
   have hs8:=K7.size
   have hgA:w.heap.size∉ob A7:=by intro h; rcases hA7 with e | e; rw [e] at h; have:=hne _ h; omega; rw [e] at h; simp [ob] at h; omega
   clear O7 K7 hA7 hk7 HO7 HN7 HB HF HX HK HO b11 bl HB5
   have b11:=cell_of HB8.out 11
   have bz:=frozen_of HB8.out
   have bl:=lt_of_heap HB8.out
   go_wp2
   go_roundw
   case rel =>
    refine ⟨k+1,A7,c7,by omega,?_,hp_set _ _ _ _ _ _ HB8.out,(hp_far _ _ _ _ (by simp)).trans HF8.out,(hp_far _ _ _ _ (by simp)).trans HX8.out,?_,HK8.out.then ((Kp.refl [w.heap.size] w8).setCell (.inl (by simp)) _) (by simp),by simp; omega⟩
    ·have:=HI.out; rw [show ((6 * (k+1):Nat):Int)=(i:Int)+6 by omega]
    ·refine Ow.keep (S:=[w.heap.size]) ?_ ((Kp.refl _ _).setCell (.inl (by simp)) _) (by intro t h1 h2; simp at h2; subst h2; exact hgA h1)
     show Ow _ _ _ _ _ _ _ ((setsS l k++[(n16 l (6 * k),n32 l (6 * k+2))]).flatMap setC)
     rw [HI.out,HU.out,HZ.out,List.flatMap_append]
     simpa using HO8.out
   case measure=>simp [intOf]; have:=HM.out; omega
  ·obtain rfl:k=m:=by omega
   have hin:¬ (i:Int) < (n:Int):=by have:=HM.out; omega
   clear hi hb hf hx hO hK
   obtain ⟨q0,q1,q2,q3,q4,q5,q6,q7,q8,q9,q10,q11,qz,qlt,qlt2⟩:=cellsF HB.out
   obtain ⟨z0,z1,z2,z3,z4,z5,z6,z7,z8,z9,z10,z11,zz,zlt,zlt2⟩:=cellsF HF.out
   have x0:=cell_of HX.out 0
   have x1:=cell_of HX.out 1
   have x2:=cell_of HX.out 2
   have xz:=frozen_of HX.out
   go_wp2
   generalize hW:World.setCell _ _ _=W
   obtain ⟨HF9,HX9,K9⟩:W.heap[w.heap.size+1]?=some (.cells #[.int .i64 4,.int .i64 fl,.int .i64 st,.slice none 0 0,.int .i64 pad,.int .u32 0,.int .i64 0,.int .i64 0,.int .i64 0,.bool false,.int .i64 0,.slice sA k sc] 49)∧W.heap[w.heap.size+2]?=some (.cells #[.bool false,.int .i64 0,.int .i64 0] 64)∧Kp [w.heap.size+1,w.heap.size+2] wr W:=by rw [← hW]; exact set15 (by omega) HF.out HX.out
   have eg:getS (f0S 4 fl st pad) l=⟨4,fl,st,[],pad,0,0,0,0,false,0,setsS l k⟩:=by
    have e6:l.length / 6=k:=by have:=HLEN.out; have:=HM.out; omega
    simp [getS,f0S,e6]
   refine bodyPost_ret (v:=.tuple #[.agg #[.int .i64 4,.int .i64 fl,.int .i64 st,.slice none 0 0,.int .i64 pad,.int .u32 0,.int .i64 0,.int .i64 0,.int .i64 0,.bool false,.int .i64 0,.slice sA k sc],.agg #[.bool false,.int .i64 0,.int .i64 0]]) (by simp [results,Try.results156,go_sem,cell_of HF9,cell_of HX9]) rfl ⟨(⟨4,fl,st,none,0,0,pad,0,0,0,0,false,0,sA,k,sc⟩:Fr),rfl,?_,HK.out.then K9 (by simp)⟩
   rw [eg]
   have hb9:=HO.out.base
   exact ⟨rfl,Rd.nil _ _ _,Sd.ofOw (HO.out.keep K9 (by intro t h1 h2; have:=(hb9 t h1).1; simp at h2; omega)) (setsS_len l k) (setsS_val l k),by simp [ob],fun t ht=>by have:=(hb9 t ht).1; omega⟩
end Go.Proofs.Ytkmcakneceagpaa
