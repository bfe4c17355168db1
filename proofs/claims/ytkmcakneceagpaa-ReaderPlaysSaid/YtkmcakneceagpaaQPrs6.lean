/- frame.Parse: a frame of a known type that is told. frame.Parse, whole. What the laws of frames that are read have in common. The program's reader. A region that draws its order: the law of Reg2, where an operation also knows that no change that waits for it has come yet. Over any program. The program's reader: what was told of is passed. -/
import Derived.Test.YtkmcakneceagpaaQPrs3
import Derived.Test.YtkmcakneceagpaaQMem
import Derived.Laws.CopyOwn
set_option linter.unusedSimpArgs false
set_option linter.unusedVariables false
set_option maxHeartbeats 8000000
set_option maxRecDepth 100000
namespace Go.Proofs.Ytkmcakneceagpaa
open Go.RowKit
theorem FrP.low {w w':World} {base base':Nat} {f:Fr} {p:Fp} {S:List Nat} (h:FrP w base f p) (k:Kp S w w') (hS:∀ s,s∈S→s < base) (hb:base'≤base):FrP w' base' f p :=
 ⟨h.eq,h.rd.keep k (fun _ b hb hs=>by have:=h.pb b hb; have:=hS b hs; omega),h.sd.keep k (fun _ b hb hs=>by have:=h.sb b hb; have:=hS b hs; omega),fun b hb=>by have:=h.pb b hb; omega,fun b hb=>by have:=h.sb b hb; omega⟩
def GetX (g:Nat) (st:Int) (w:World) (e:Ending) (w':World):Prop :=
 e=.returned (.agg #[.bool true,.int .i64 st,.int .i64 1])∧(∃ f':Fr,w'.heap[g]?=some (.cells #[.int .i64 f'.ty,.int .i64 f'.fl,.int .i64 f'.st,.slice f'.pA f'.pn f'.pc,.int .i64 f'.pad,.int .u32 f'.code,.int .i64 f'.last,.int .i64 f'.inc,.int .i64 f'.dep,.bool f'.only,.int .i64 f'.wt,.slice f'.sA f'.sn f'.sc] 49))∧Kp [g] w w'
theorem parseOk (T k1 k2 k3 k4:Nat) (z any pd:Bool) (A:Option Addr) (n c:Nat) (l:List UInt8) (most:Int) (w:World) (hr:Rd w A n c l) (hn:n≤281474976710656) (hm:0≤most) (h9:¬ n < 9) (N:Nat) (hN:be (l.take 3)=N) (hb:¬ most < (N:Int)) (hc:¬ n < 9+N) (F S:Nat) (hT:(l.getD 3 0).toNat=T) (hF:(l.getD 4 0).toNat=F) (hS:be ((l.drop 5).take 4) % 2147483648=S)
  (hkn:knownB (T:Int)=true) (hkd:∀ w,Calls Try.prog 144 #[.int .i64 T] w fun e w'=>e=.returned (.agg #[.bool z,.bool any,.bool pd,Fv k1,Fv k2,Fv k3,Fv k4])∧Kp [] w w') (hri:(any || (z == decide ((S:Int)=0)))=true) (fit:Bool→Bool) (hfc:∀ a w,Calls Try.prog k1 #[.int .i64 N,.bool a] w (BoolR (fit a) w)) (hcf:∀ args w,Sem.run Try.prog (callFunc k1 args) w=.ok (.enter k1 args) w) (hfit:fit (bits .and .i64 (F:Int) 1 != 0)=true) (hun:∀ (k1:Value) (g:Nat) (A:Option Addr) (n c:Nat) (m:List UInt8) (w:World),k1.cells=#[k1]→w.heap[g]?=some (.cells #[.int .i64 T,.int .i64 F,.int .i64 S,.slice none 0 0,.int .i64 0,.int .u32 0,.int .i64 0,.int .i64 0,.int .i64 0,.bool false,.int .i64 0,.slice none 0 0] 49)→Rd w A n c m→g∉ob A→n≤16777216→Calls Try.prog 151 #[.pointer (some ⟨g,0,none⟩),.agg #[.bool z,.bool any,.bool pd,k1,Fv k2,Fv k3,Fv k4],.slice A n c] w (UnR T F S g (unS T F m) w)) (pad:Nat) (m:List UInt8) (hur:unS T F ((l.drop 9).take N)=.ok pad m) (hcg:∀ args w,Sem.run Try.prog (callFunc k4 args) w=.ok (.enter k4 args) w) (hget:∀ (g:Nat) (A:Option Addr) (n c:Nat) (w:World),w.heap[g]?=some (.cells #[.int .i64 T,.int .i64 F,.int .i64 S,.slice none 0 0,.int .i64 (pad:Int),.int .u32 0,.int .i64 0,.int .i64 0,.int .i64 0,.bool false,.int .i64 0,.slice none 0 0] 49)→Rd w A n c m→g∉ob A→n≤16777216→Calls Try.prog k4 #[.pointer (some ⟨g,0,none⟩),.slice A n c] w (GetR g (getS (f0S T F S pad) m) w)) :
  Calls Try.prog 100 #[.slice A n c,.int .i64 most] w (ParseR ⟨getS (f0S T F S pad) m,9+N,false,0,0,0⟩ w):=by
 have HCF:=Lib.hid hcf
 clear hcf
 have HFC:=Lib.hid hfc
 have HFIT:=Lib.hid hfit
 clear hfc hfit
 have HCG:=Lib.hid hcg
 have HGT:=Lib.hid hget
 clear hcg hget
 have HUN:=Lib.hid hun
 have HUR:=Lib.hid hur
 obtain ⟨b,o,hA,hbw,_⟩:=hr.addr (by omega)
 have HGA:=Lib.hid (show w.heap.size∉ob A by rw [hA]; simp [ob]; omega)
 have HA:=Lib.hid hA
 clear hun hur hA hbw
 have HR:=Lib.hid hr
 have HRI:=Lib.hid hri
 have HKN:=Lib.hid hkn
 have HKD:=Lib.hid hkd
 have e:=head_of (l:=l) (by rw [hr.len]; exact h9)
 rw [hN,hT,hF,hS] at e
 have HN2:=Lib.hid (show N < 16777216 by have:=be_take_lt l 3; rw [hN] at this; have e3:(256:Nat) ^ 3=16777216:=(by decide); omega)
 have HH:=Lib.hid e
 clear hr e hT hF hS hN hri hkn hkd
 go_enter Try.func100,Try.ntmps100
 go_wp2_with fail
 refine wp_scope_once 0 rfl ?_
 go_wp2_with fail
 generalize hW:World.alloc _ _=w1
 have K1:Kp [] w w1:=by rw [← hW]; with_reducible (repeat (first|exact Kp.refl _ _|assumption|refine Kp.alloc ?_ _|refine Kp.drew ?_|refine Kp.drewN ?_ _|(refine Kp.setL ?_ ?_ _;focus (simp;done))|(refine Kp.setR ?_ ?_ _;focus (first|(simp;done)|(simp;omega)))))
 have HF:=Lib.hid (show w1.heap[w.heap.size]?=some (.cells #[.int .i64 0,.int .i64 0,.int .i64 0,.slice none 0 0,.int .i64 0,.int .u32 0,.int .i64 0,.int .i64 0,.int .i64 0,.bool false,.int .i64 0,.slice none 0 0] 49) by rw [← hW]; with_reducible (repeat (first|assumption|(refine hp_new _ _ _ ?_;focus (simp;done))|refine hpl ?_|(refine hpf ?_ ?_;focus (first|(simp;done)|(simp;omega)))|refine hpd ?_|refine hpe ?_)))
 have HX:=Lib.hid (show w1.heap[w.heap.size+1]?=some (.cells #[.bool false,.int .i64 0,.int .i64 0] 64) by rw [← hW]; with_reducible (repeat (first|assumption|(refine hp_new _ _ _ ?_;focus (simp;done))|refine hpl ?_|(refine hpf ?_ ?_;focus (first|(simp;done)|(simp;omega)))|refine hpd ?_|refine hpe ?_)))
 have HK:=Lib.hid (show w1.heap[w.heap.size+1+1]?=some (.cells #[.bool false,.bool false,.bool false,.nilFunc,.nilFunc,.nilFunc,.nilFunc] 185) by rw [← hW]; with_reducible (repeat (first|assumption|(refine hp_new _ _ _ ?_;focus (simp;done))|refine hpl ?_|(refine hpf ?_ ?_;focus (first|(simp;done)|(simp;omega)))|refine hpd ?_|refine hpe ?_)))
 clear hW
 refine (Head_big A n c l w1 hn (HR.out.keep K1 (by simp))).mono ?_
 rintro e w2 ⟨rfl,K2⟩
 rw [HH.out]
 dsimp only
 have HF2:=Lib.hid (K2.heap HF.out (by simp))
 have HX2:=Lib.hid (K2.heap HX.out (by simp))
 have HD2:=Lib.hid (K2.heap HK.out (by simp))
 have HK2:=Lib.hid (K1.trans K2)
 clear HF HX HK K1 K2
 obtain ⟨q0,q1,q2,q3,q4,q5,q6,q7,q8,q9,q10,q11,qz,qlt,qlt2⟩:=cellsF HF2.out
 have x0:=cell_of HX2.out 0
 have x1:=cell_of HX2.out 1
 have x2:=cell_of HX2.out 2
 have xz:=frozen_of HX2.out
 have hN2:N < 16777216:=HN2.out
 go_wp2_with fail
 generalize hW:World.setCell _ _ _=w3
 have HF3:=Lib.hid (show w3.heap[w.heap.size]?=some (.cells #[.int .i64 T,.int .i64 F,.int .i64 S,.slice none 0 0,.int .i64 0,.int .u32 0,.int .i64 0,.int .i64 0,.int .i64 0,.bool false,.int .i64 0,.slice none 0 0] 49) by rw [← hW]; exact sf11 (sf10 (sf9 (sf8 (sf7 (sf6 (sf5 (sf4 (sf3 (sf2 (sf1 (sf0 (HF2.out)))))))))))))
 have K3:Kp [w.heap.size] w2 w3:=by rw [← hW]; exact (((((((((((((Kp.refl _ _).setCell (.inl (by simp)) _).setCell (.inl (by simp)) _).setCell (.inl (by simp)) _).setCell (.inl (by simp)) _).setCell (.inl (by simp)) _).setCell (.inl (by simp)) _).setCell (.inl (by simp)) _).setCell (.inl (by simp)) _).setCell (.inl (by simp)) _).setCell (.inl (by simp)) _).setCell (.inl (by simp)) _).setCell (.inl (by simp)) _)
 have HX3:=Lib.hid (K3.heap HX2.out (by simp))
 have HD3:=Lib.hid (K3.heap HD2.out (by simp; omega))
 have HK3:=Lib.hid (HK2.out.then K3 (by simp))
 clear hW K3 HF2 HX2 HD2 HK2 q0 q1 q2 q3 q4 q5 q6 q7 q8 q9 q10 q11 qz qlt qlt2 x0 x1 x2 xz
 obtain ⟨q0,q1,q2,q3,q4,q5,q6,q7,q8,q9,q10,q11,qz,qlt,qlt2⟩:=cellsF HF3.out
 have x0:=cell_of HX3.out 0
 have x1:=cell_of HX3.out 1
 have x2:=cell_of HX3.out 2
 have xz:=frozen_of HX3.out
 refine (Known_any (T:Int) _).mono ?_
 rintro e w4 ⟨rfl,rfl⟩
 rw [HKN.out]
 go_wp2_with fail
 refine (HKD.out _).mono ?_
 rintro e w5 ⟨rfl,K5⟩
 have HF5:=Lib.hid (K5.heap HF3.out (by simp))
 have HX5:=Lib.hid (K5.heap HX3.out (by simp))
 have HD5:=Lib.hid (K5.heap HD3.out (by simp))
 have HK5:=Lib.hid (HK3.out.trans K5)
 clear HF3 HX3 HD3 HK3 K5 HKD q0 q1 q2 q3 q4 q5 q6 q7 q8 q9 q10 q11 qz qlt qlt2 x0 x1 x2 xz
 have d0:=cell_of HD5.out 0
 have d1:=cell_of HD5.out 1
 have d2:=cell_of HD5.out 2
 have d3:=cell_of HD5.out 3
 have d4:=cell_of HD5.out 4
 have d5:=cell_of HD5.out 5
 have d6:=cell_of HD5.out 6
 have dz:=frozen_of HD5.out
 go_wp2_with fail
 generalize hW:World.setCell _ _ _=w6
 obtain ⟨hd6,K6⟩:w6.heap[w.heap.size+1+1]?=some (.cells #[.bool z,.bool any,.bool pd,Fv k1,Fv k2,Fv k3,Fv k4] 185)∧Kp [w.heap.size+1+1] w5 w6:=by rw [← hW]; exact set7 HD5.out
 have HF6:=Lib.hid (K6.heap HF5.out (by simp; omega))
 have HX6:=Lib.hid (K6.heap HX5.out (by simp))
 have HD6:=Lib.hid hd6
 have HK6:=Lib.hid (HK5.out.then K6 (by simp; omega))
 clear hW hd6 K6 HF5 HX5 HD5 HK5 d0 d1 d2 d3 d4 d5 d6 dz
 refine (rightF z any pd (Fv k1) (Fv k2) (Fv k3) (Fv k4) (S:Int) _ rfl rfl rfl rfl).mono ?_
 rintro e w7 ⟨rfl,K7⟩
 rw [HRI.out]
 have HF7:=Lib.hid (K7.heap HF6.out (by simp))
 have HX7:=Lib.hid (K7.heap HX6.out (by simp))
 have HD7:=Lib.hid (K7.heap HD6.out (by simp))
 have HK7:=Lib.hid (HK6.out.trans K7)
 clear HF6 HX6 HD6 HK6 K7
 obtain ⟨q0,q1,q2,q3,q4,q5,q6,q7,q8,q9,q10,q11,qz,qlt,qlt2⟩:=cellsF HF7.out
 have x0:=cell_of HX7.out 0
 have x1:=cell_of HX7.out 1
 have x2:=cell_of HX7.out 2
 have xz:=frozen_of HX7.out
 have d3:=cell_of HD7.out 3
 have d6:=cell_of HD7.out 6
 go_wp2_with fail
 rw [HCF.out,Oper.upon_enter]
 refine (HFC.out _ _).mono ?_
 rintro e w8 ⟨rfl,rfl⟩
 rw [HFIT.out]
 have HR7:=Lib.hid (HR.out.keep HK7.out (by simp))
 clear q0 q1 q2 q3 q4 q5 q6 q7 q8 q9 q10 q11 qz qlt qlt2 x0 x1 x2 xz d3 d6
 go_wp2
 have hgA:=HGA.out
 generalize hg:w.heap.size=g at *
 refine wp_region_st (by kernel_rfl) [fun _ v _=>v=(.agg #[.bool z,.bool any,.bool pd,Fv k1,Fv k2,Fv k3,Fv k4]),
   fun _ v _=>v=(.slice A n c),
   fun _ v _=>v=(.int .i64 (9+(N:Int))),
   fun p v w=>∃ x:Option Addr × Nat × Nat,v=.slice x.1 x.2.1 x.2.2∧0≤p∧(p≤0→Rd w x.1 x.2.1 x.2.2 ((l.drop 9).take N)∧g∉ob x.1∧x.2.1=N),
   fun p v w=>∃ x:Option Addr × Nat × Nat,v=.tuple #[.slice x.1 x.2.1 x.2.2,.int .i64 0]∧1≤p∧(p≤1→Rd w x.1 x.2.1 x.2.2 m∧g∉ob x.1∧x.2.1≤16777216),
   fun p v w=>∃ x:Option Addr × Nat × Nat,v=.tuple #[.slice x.1 x.2.1 x.2.2,.int .i64 0]∧1≤p∧(p≤1→Rd w x.1 x.2.1 x.2.2 m∧g∉ob x.1∧x.2.1≤16777216),
   fun p v w=>∃ x:Option Addr × Nat × Nat,v=.slice x.1 x.2.1 x.2.2∧1≤p∧(p≤1→Rd w x.1 x.2.1 x.2.2 m∧g∉ob x.1∧x.2.1≤16777216),
   fun _ v _=>v=(.int .i64 0),
   fun p v w=>∃ x:Option Addr × Nat × Nat,v=.slice x.1 x.2.1 x.2.2∧1≤p∧(p≤1→Rd w x.1 x.2.1 x.2.2 m∧g∉ob x.1∧x.2.1≤16777216),
   fun _ v _=>v=(.int .i64 0)] (fun p w=>Kp [g] w7 w∧(p≤0→Kp [] w7 w)∧(1≤p→w.heap[g]?=some (.cells #[.int .i64 T,.int .i64 F,.int .i64 S,.slice none 0 0,.int .i64 (pad:Int),.int .u32 0,.int .i64 0,.int .i64 0,.int .i64 0,.bool false,.int .i64 0,.slice none 0 0] 49))) (fun _ _ _=>True) (fun w w'=>Kp [] w w') [4] [] (by kernel_rfl) (by kernel_rfl) (by kernel_rfl) (by decide) (by kernel_rfl) ⟨StabAt2.const _,StabAt2.const _,StabAt2.const _,StabAt2.span (f:=fun x:Option Addr × Nat × Nat=>.slice x.1 x.2.1 x.2.2) (by intro p x w w' h1 h2 h3 hR hG; omega) (by intro x w w' hR hG; exact ⟨hG.1.keep hR (by simp),hG.2⟩),StabAt2.span (f:=fun x:Option Addr × Nat × Nat=>.tuple #[.slice x.1 x.2.1 x.2.2,.int .i64 0]) (by intro p x w w' h1 h2 h3 hR hG; omega) (by intro x w w' hR hG; exact ⟨hG.1.keep hR (by simp),hG.2⟩),StabAt2.span (f:=fun x:Option Addr × Nat × Nat=>.tuple #[.slice x.1 x.2.1 x.2.2,.int .i64 0]) (by intro p x w w' h1 h2 h3 hR hG; omega) (by intro x w w' hR hG; exact ⟨hG.1.keep hR (by simp),hG.2⟩),StabAt2.span (f:=fun x:Option Addr × Nat × Nat=>.slice x.1 x.2.1 x.2.2) (by intro p x w w' h1 h2 h3 hR hG; omega) (by intro x w w' hR hG; exact ⟨hG.1.keep hR (by simp),hG.2⟩),StabAt2.const _,StabAt2.span (f:=fun x:Option Addr × Nat × Nat=>.slice x.1 x.2.1 x.2.2) (by intro p x w w' h1 h2 h3 hR hG; omega) (by intro x w w' hR hG; exact ⟨hG.1.keep hR (by simp),hG.2⟩),StabAt2.const _,trivial⟩ (⟨(Kp.refl _ _).drew,fun _=>(Kp.refl _ _).drew,fun h=>by omega⟩) ⟨?_,?_,?_,?_,?_,?_,?_,?_,?_,?_,trivial⟩ (by kernel_rfl) ?_
 ·intro q9 a w E hC K hK
  have h8:a.tmps[8]?=some (.pointer (some ⟨g+1+1,0,none⟩)):=(E.out 8 (by kernel_rfl)).trans rfl
  refine want_none rfl ?_
  have hd:=hC.1.heap HD7.out (by simp; omega)
  have d0:=cell_of hd 0
  have d1:=cell_of hd 1
  have d2:=cell_of hd 2
  have d3:=cell_of hd 3
  have d4:=cell_of hd 4
  have d5:=cell_of hd 5
  have d6:=cell_of hd 6
  have dl:=lt_of_heap hd
  clear hd
  go_simp
  exact hK _ rfl
 ·intro q9 a w E hC K hK
  have h0:a.tmps[0]?=some (.slice A n c):=(E.out 0 (by kernel_rfl)).trans rfl
  refine want_none rfl ?_
  go_simp
  exact hK _ rfl
 ·intro q9 a w E hC K hK
  have h5:a.tmps[5]?=some (.int .i64 (9+(N:Int))):=(E.out 5 (by kernel_rfl)).trans rfl
  refine want_none rfl ?_
  go_simp
  exact hK _ rfl
 ·intro q9 a w E hC K hK
  obtain ⟨_,h75,rfl⟩:=E.pred 1 _ 75 rfl rfl (by kernel_rfl)
  obtain ⟨_,h76,rfl⟩:=E.pred 2 _ 76 rfl rfl (by kernel_rfl)
  refine want_none rfl ?_
  have hrd:=HR7.out.keep hC.1 (by intro _ t h1 h2; simp at h2; subst h2; exact hgA h1)
  have hcp:=HR7.out.cap
  have hA:=HA.out
  subst hA
  by_cases hc9:c=9
  ·subst hc9
   obtain rfl:N=0:=by omega
   obtain rfl:n=9:=by omega
   go_simp
   exact hK _ ⟨⟨some ⟨b,o,none⟩,0,0⟩,rfl,by omega,fun _=>⟨by have:=hrd.sub 9 9 (by omega) (by omega) (A':=some ⟨b,o,none⟩) (by intro b' o' h1 h2; omega); exact this,hgA,rfl⟩⟩
  ·have i0:(9:Int)≤9+(N:Int):=by omega
   have i1:9+(N:Int)≤(c:Int):=by omega
   have i2:¬ (9:Int)=(c:Int):=by omega
   have i3:¬ (c:Int)=9:=by omega
   go_simp
   have e9:((9:Int)+(N:Int)).toNat - 9=N:=by omega
   rw [e9]
   exact hK _ ⟨⟨some ⟨b,o+9,none⟩,N,c - 9⟩,rfl,by omega,fun _=>⟨by have:=hrd.sub 9 (9+N) (by omega) (by omega) (A':=some ⟨b,o+9,none⟩) (by intro b' o' h1 h2; injection h1 with h1; injection h1 with h1 h3 _; rw [h1,h3]); simpa using this,hgA,rfl⟩⟩
 ·intro a w E hC K hK
  have h4:a.tmps[4]?=some (.pointer (some ⟨g,0,none⟩)):=(E.out 4 (by kernel_rfl)).trans rfl
  obtain ⟨_,h74,rfl⟩:=E.pred 0 _ 74 rfl rfl (by kernel_rfl)
  obtain ⟨v3,h77,V3⟩:=E.pred 3 _ 77 rfl rfl (by kernel_rfl)
  replace V3:(fun p v w=>∃ x:Option Addr × Nat × Nat,v=.slice x.1 x.2.1 x.2.2∧0≤p∧(p≤0→Rd w x.1 x.2.1 x.2.2 ((l.drop 9).take N)∧g∉ob x.1∧x.2.1=N)) 0 v3 w:=V3
  obtain ⟨x3,rfl,_,hG3⟩:=V3
  refine want_none rfl ?_
  have hb:=(hC.2.1 (by omega)).heap HF7.out (by simp)
  have hr3:=(hG3 (by omega)).1
  have hg3:=(hG3 (by omega)).2.1
  have HG3:=Lib.hid hG3
  clear hG3
  go_simp
  refine (HUN.out (Fv k1) g x3.1 x3.2.1 x3.2.2 _ w rfl hb hr3 hg3 (by have:=(HG3.out (by omega)).2.2; have:=HN2.out; omega)).mono ?_
  rw [HUR.out]
  rintro e w2 h2
  obtain ⟨A',n',c',rfl,hr',hg',hn',hf',K2⟩:=h2
  go_simp
  exact hK _ _ ⟨⟨A',n',c'⟩,rfl,by omega,fun _=>⟨hr',hg',hn'⟩⟩ ⟨hC.1.trans K2,fun h=>by omega,fun _=>hf'⟩ trivial
 ·intro q9 a w E hC K hK
  obtain ⟨v4,h78,V4⟩:=E.pred 4 _ 78 rfl rfl (by kernel_rfl)
  replace V4:(fun p v w=>∃ x:Option Addr × Nat × Nat,v=.tuple #[.slice x.1 x.2.1 x.2.2,.int .i64 0]∧1≤p∧(p≤1→Rd w x.1 x.2.1 x.2.2 m∧g∉ob x.1∧x.2.1≤16777216)) q9 v4 w:=V4
  obtain ⟨x4,rfl,hl4,hG4⟩:=V4
  refine want_none rfl ?_
  go_simp
  exact hK _ ⟨x4,rfl,hl4,hG4⟩
 ·intro q9 a w E hC K hK
  obtain ⟨v5,h73,V5⟩:=E.pred 5 _ 73 rfl rfl (by kernel_rfl)
  replace V5:(fun p v w=>∃ x:Option Addr × Nat × Nat,v=.tuple #[.slice x.1 x.2.1 x.2.2,.int .i64 0]∧1≤p∧(p≤1→Rd w x.1 x.2.1 x.2.2 m∧g∉ob x.1∧x.2.1≤16777216)) q9 v5 w:=V5
  obtain ⟨x5,rfl,hl5,hG5⟩:=V5
  refine want_none rfl ?_
  go_simp
  exact hK _ ⟨x5,rfl,hl5,hG5⟩
 ·intro q9 a w E hC K hK
  obtain ⟨v5,h73,V5⟩:=E.pred 5 _ 73 rfl rfl (by kernel_rfl)
  replace V5:(fun p v w=>∃ x:Option Addr × Nat × Nat,v=.tuple #[.slice x.1 x.2.1 x.2.2,.int .i64 0]∧1≤p∧(p≤1→Rd w x.1 x.2.1 x.2.2 m∧g∉ob x.1∧x.2.1≤16777216)) q9 v5 w:=V5
  obtain ⟨x5,rfl,hl5,hG5⟩:=V5
  refine want_none rfl ?_
  go_simp
  exact hK _ rfl
 ·intro q9 a w E hC K hK
  obtain ⟨v6,h79,V6⟩:=E.pred 6 _ 79 rfl rfl (by kernel_rfl)
  replace V6:(fun p v w=>∃ x:Option Addr × Nat × Nat,v=.slice x.1 x.2.1 x.2.2∧1≤p∧(p≤1→Rd w x.1 x.2.1 x.2.2 m∧g∉ob x.1∧x.2.1≤16777216)) q9 v6 w:=V6
  obtain ⟨x6,rfl,hl6,hG6⟩:=V6
  refine want_none rfl ?_
  go_simp
  exact hK _ ⟨x6,rfl,hl6,hG6⟩
 ·intro q9 a w E hC K hK
  obtain ⟨_,h80,rfl⟩:=E.pred 7 _ 80 rfl rfl (by kernel_rfl)
  refine want_none rfl ?_
  go_simp
  exact hK _ rfl
 intro vs w8 hC hV
 obtain ⟨⟨A8,n8,c8⟩,h8,_,hG8⟩:=hV 8 _ rfl (by simp)
 have h9:vs 9=.int .i64 0:=hV 9 _ rfl (by simp)
 have HF8:=Lib.hid (hC.2.2 (Nat.le_refl _))
 have HX8:=Lib.hid (hC.1.heap HX7.out (by simp))
 have HD8:=Lib.hid (hC.1.heap HD7.out (by simp; omega))
 have HK8:=Lib.hid (HK7.out.then hC.1 (by simp; omega))
 clear hV hC HX7 HD7 HF7 HK7 HR7
 simp only [putAll,Act.put,List.setIfInBounds_toArray]
 dsimp only [List.set]
 rw [h8,h9]
 clear h8 h9
 subst hg
 obtain ⟨hr8,hg8,hn8⟩:=hG8 (Nat.le_refl _)
 dsimp only at hr8 hg8 hn8
 have HR8:=Lib.hid hr8
 have HG8:=Lib.hid hg8
 clear hr8 hg8 hG8
 obtain ⟨q0,q1,q2,q3,q4,q5,q6,q7,q8,q9,q10,q11,qz,qlt,qlt2⟩:=cellsF HF8.out
 have d6:=cell_of HD8.out 6
 have dl:=lt_of_heap HD8.out
 go_wp2_with fail
 rw [HCG.out,Oper.upon_enter]
 refine (HGT.out _ A8 n8 c8 w8 HF8.out HR8.out HG8.out hn8).mono ?_
 rintro e w9 hG9
 obtain ⟨rfl,f9,hf9,hp9,K9⟩:=hG9
 have HP9:=Lib.hid hp9
 have HF9:=Lib.hid hf9
 have HX9:=Lib.hid (K9.heap HX8.out (by simp))
 have HK9:=Lib.hid (HK8.out.then K9 (by simp))
 have hs8:=K9.size
 have hl8:=lt_of_heap HX8.out
 clear hf9 hp9 K9
 clear HF8 HX8 HD8 HK8 HR8 HG8 HGT HCG q0 q1 q2 q3 q4 q5 q6 q7 q8 q9 q10 q11 qz qlt qlt2 d6 dl
 obtain ⟨q0,q1,q2,q3,q4,q5,q6,q7,q8,q9,q10,q11,qz,qlt,qlt2⟩:=cellsF HF9.out
 have x0:=cell_of HX9.out 0
 have x1:=cell_of HX9.out 1
 have x2:=cell_of HX9.out 2
 have xz:=frozen_of HX9.out
 go_wp2
 go_region
 go_wp2
 rw [jump_ret]
 have Kst:Kp [w.heap.size+1] w9 (World.setCell (World.setCell (World.setCell w9 ⟨(w.heap.size+1),0,none⟩ (.bool false)) ⟨(w.heap.size+1),1,none⟩ (.int .i64 0)) ⟨(w.heap.size+1),2,none⟩ (.int .i64 0)):=((((Kp.refl [w.heap.size+1] w9).setCell (.inl (by simp)) _).setCell (.inl (by simp)) _).setCell (.inl (by simp)) _)
 have HF:=Lib.hid (Kst.heap HF9.out (by simp))
 have HX:=Lib.hid (sx2 (sx1 (sx0 HX9.out (b:=.bool false)) (b:=.int .i64 0)) (b:=.int .i64 0))
 generalize hW:World.setCell _ _ _=W
 obtain ⟨HF9,HX9,K9⟩:W.heap[w.heap.size]?=some (.cells #[.int .i64 f9.ty,.int .i64 f9.fl,.int .i64 f9.st,.slice f9.pA f9.pn f9.pc,.int .i64 f9.pad,.int .u32 f9.code,.int .i64 f9.last,.int .i64 f9.inc,.int .i64 f9.dep,.bool f9.only,.int .i64 f9.wt,.slice f9.sA f9.sn f9.sc] 49)∧W.heap[w.heap.size+1]?=some (.cells #[.bool false,.int .i64 0,.int .i64 0] 64)∧Kp [w.heap.size,w.heap.size+1] (World.setCell (World.setCell (World.setCell w9 ⟨(w.heap.size+1),0,none⟩ (.bool false)) ⟨(w.heap.size+1),1,none⟩ (.int .i64 0)) ⟨(w.heap.size+1),2,none⟩ (.int .i64 0)) W:=by rw [← hW]; exact set15 (by omega) HF.out HX.out
 refine bodyPost_ret (v:=.tuple #[.agg #[.int .i64 f9.ty,.int .i64 f9.fl,.int .i64 f9.st,.slice f9.pA f9.pn f9.pc,.int .i64 f9.pad,.int .u32 f9.code,.int .i64 f9.last,.int .i64 f9.inc,.int .i64 f9.dep,.bool f9.only,.int .i64 f9.wt,.slice f9.sA f9.sn f9.sc],.int .i64 (9+(N:Int)),.agg #[.bool false,.int .i64 0,.int .i64 0],.int .i64 0]) (by simp [results,Try.results100,go_sem,cell_of HF9,cell_of HX9]) rfl ⟨f9,rfl,HP9.out.low (((Kst.mono (T:=[w.heap.size,w.heap.size+1]) (by simp)).trans K9).drew) (by simp; omega) (by omega),((HK9.out.then Kst (by simp)).then K9 (by simp)).drew⟩

theorem parseOkS (T k2 k3 k4:Nat) (kk:Int) (z any pd:Bool) (A:Option Addr) (n c:Nat) (l:List UInt8) (most:Int) (w:World) (hr:Rd w A n c l) (hn:n≤281474976710656) (hm:0≤most) (h9:¬ n < 9) (N:Nat) (hN:be (l.take 3)=N) (hb:¬ most < (N:Int)) (hc:¬ n < 9+N) (F S:Nat) (hT:(l.getD 3 0).toNat=T) (hF:(l.getD 4 0).toNat=F) (hS:be ((l.drop 5).take 4) % 2147483648=S)
  (hkn:knownB (T:Int)=true) (hkd:∀ w,Calls Try.prog 144 #[.int .i64 T] w fun e w'=>∃ bk,e=.returned (.agg #[.bool z,.bool any,.bool pd,Sz bk,Fv k2,Fv k3,Fv k4])∧w'.heap[bk]?=some (.cells #[.int .i64 kk] 3)∧w.heap.size≤bk∧Kp [] w w') (hri:(any || (z == decide ((S:Int)=0)))=true) (hfit:decide ((N:Int)=kk)=true) (hun:∀ (k1:Value) (g:Nat) (A:Option Addr) (n c:Nat) (m:List UInt8) (w:World),k1.cells=#[k1]→w.heap[g]?=some (.cells #[.int .i64 T,.int .i64 F,.int .i64 S,.slice none 0 0,.int .i64 0,.int .u32 0,.int .i64 0,.int .i64 0,.int .i64 0,.bool false,.int .i64 0,.slice none 0 0] 49)→Rd w A n c m→g∉ob A→n≤16777216→Calls Try.prog 151 #[.pointer (some ⟨g,0,none⟩),.agg #[.bool z,.bool any,.bool pd,k1,Fv k2,Fv k3,Fv k4],.slice A n c] w (UnR T F S g (unS T F m) w)) (pad:Nat) (m:List UInt8) (hur:unS T F ((l.drop 9).take N)=.ok pad m) (hcg:∀ args w,Sem.run Try.prog (callFunc k4 args) w=.ok (.enter k4 args) w) (hget:∀ (g:Nat) (A:Option Addr) (n c:Nat) (w:World),w.heap[g]?=some (.cells #[.int .i64 T,.int .i64 F,.int .i64 S,.slice none 0 0,.int .i64 (pad:Int),.int .u32 0,.int .i64 0,.int .i64 0,.int .i64 0,.bool false,.int .i64 0,.slice none 0 0] 49)→Rd w A n c m→g∉ob A→n≤16777216→Calls Try.prog k4 #[.pointer (some ⟨g,0,none⟩),.slice A n c] w (GetR g (getS (f0S T F S pad) m) w)) :
  Calls Try.prog 100 #[.slice A n c,.int .i64 most] w (ParseR ⟨getS (f0S T F S pad) m,9+N,false,0,0,0⟩ w):=by
 have HFIT:=Lib.hid hfit
 clear hfit
 have HCG:=Lib.hid hcg
 have HGT:=Lib.hid hget
 clear hcg hget
 have HUN:=Lib.hid hun
 have HUR:=Lib.hid hur
 obtain ⟨b,o,hA,hbw,_⟩:=hr.addr (by omega)
 have HGA:=Lib.hid (show w.heap.size∉ob A by rw [hA]; simp [ob]; omega)
 have HA:=Lib.hid hA
 clear hun hur hA hbw
 have HR:=Lib.hid hr
 have HRI:=Lib.hid hri
 have HKN:=Lib.hid hkn
 have HKD:=Lib.hid hkd
 have e:=head_of (l:=l) (by rw [hr.len]; exact h9)
 rw [hN,hT,hF,hS] at e
 have HN2:=Lib.hid (show N < 16777216 by have:=be_take_lt l 3; rw [hN] at this; have e3:(256:Nat) ^ 3=16777216:=(by decide); omega)
 have HH:=Lib.hid e
 clear hr e hT hF hS hN hri hkn hkd
 go_enter Try.func100,Try.ntmps100
 go_wp2_with fail
 refine wp_scope_once 0 rfl ?_
 go_wp2_with fail
 generalize hW:World.alloc _ _=w1
 have K1:Kp [] w w1:=by rw [← hW]; with_reducible (repeat (first|exact Kp.refl _ _|assumption|refine Kp.alloc ?_ _|refine Kp.drew ?_|refine Kp.drewN ?_ _|(refine Kp.setL ?_ ?_ _;focus (simp;done))|(refine Kp.setR ?_ ?_ _;focus (first|(simp;done)|(simp;omega)))))
 have HF:=Lib.hid (show w1.heap[w.heap.size]?=some (.cells #[.int .i64 0,.int .i64 0,.int .i64 0,.slice none 0 0,.int .i64 0,.int .u32 0,.int .i64 0,.int .i64 0,.int .i64 0,.bool false,.int .i64 0,.slice none 0 0] 49) by rw [← hW]; with_reducible (repeat (first|assumption|(refine hp_new _ _ _ ?_;focus (simp;done))|refine hpl ?_|(refine hpf ?_ ?_;focus (first|(simp;done)|(simp;omega)))|refine hpd ?_|refine hpe ?_)))
 have HX:=Lib.hid (show w1.heap[w.heap.size+1]?=some (.cells #[.bool false,.int .i64 0,.int .i64 0] 64) by rw [← hW]; with_reducible (repeat (first|assumption|(refine hp_new _ _ _ ?_;focus (simp;done))|refine hpl ?_|(refine hpf ?_ ?_;focus (first|(simp;done)|(simp;omega)))|refine hpd ?_|refine hpe ?_)))
 have HK:=Lib.hid (show w1.heap[w.heap.size+1+1]?=some (.cells #[.bool false,.bool false,.bool false,.nilFunc,.nilFunc,.nilFunc,.nilFunc] 185) by rw [← hW]; with_reducible (repeat (first|assumption|(refine hp_new _ _ _ ?_;focus (simp;done))|refine hpl ?_|(refine hpf ?_ ?_;focus (first|(simp;done)|(simp;omega)))|refine hpd ?_|refine hpe ?_)))
 clear hW
 refine (Head_big A n c l w1 hn (HR.out.keep K1 (by simp))).mono ?_
 rintro e w2 ⟨rfl,K2⟩
 rw [HH.out]
 dsimp only
 have HF2:=Lib.hid (K2.heap HF.out (by simp))
 have HX2:=Lib.hid (K2.heap HX.out (by simp))
 have HD2:=Lib.hid (K2.heap HK.out (by simp))
 have HK2:=Lib.hid (K1.trans K2)
 clear HF HX HK K1 K2
 obtain ⟨q0,q1,q2,q3,q4,q5,q6,q7,q8,q9,q10,q11,qz,qlt,qlt2⟩:=cellsF HF2.out
 have x0:=cell_of HX2.out 0
 have x1:=cell_of HX2.out 1
 have x2:=cell_of HX2.out 2
 have xz:=frozen_of HX2.out
 have hN2:N < 16777216:=HN2.out
 go_wp2_with fail
 generalize hW:World.setCell _ _ _=w3
 have HF3:=Lib.hid (show w3.heap[w.heap.size]?=some (.cells #[.int .i64 T,.int .i64 F,.int .i64 S,.slice none 0 0,.int .i64 0,.int .u32 0,.int .i64 0,.int .i64 0,.int .i64 0,.bool false,.int .i64 0,.slice none 0 0] 49) by rw [← hW]; exact sf11 (sf10 (sf9 (sf8 (sf7 (sf6 (sf5 (sf4 (sf3 (sf2 (sf1 (sf0 (HF2.out)))))))))))))
 have K3:Kp [w.heap.size] w2 w3:=by rw [← hW]; exact (((((((((((((Kp.refl _ _).setCell (.inl (by simp)) _).setCell (.inl (by simp)) _).setCell (.inl (by simp)) _).setCell (.inl (by simp)) _).setCell (.inl (by simp)) _).setCell (.inl (by simp)) _).setCell (.inl (by simp)) _).setCell (.inl (by simp)) _).setCell (.inl (by simp)) _).setCell (.inl (by simp)) _).setCell (.inl (by simp)) _).setCell (.inl (by simp)) _)
 have HX3:=Lib.hid (K3.heap HX2.out (by simp))
 have HD3:=Lib.hid (K3.heap HD2.out (by simp; omega))
 have HK3:=Lib.hid (HK2.out.then K3 (by simp))
 clear hW K3 HF2 HX2 HD2 HK2 q0 q1 q2 q3 q4 q5 q6 q7 q8 q9 q10 q11 qz qlt qlt2 x0 x1 x2 xz
 obtain ⟨q0,q1,q2,q3,q4,q5,q6,q7,q8,q9,q10,q11,qz,qlt,qlt2⟩:=cellsF HF3.out
 have x0:=cell_of HX3.out 0
 have x1:=cell_of HX3.out 1
 have x2:=cell_of HX3.out 2
 have xz:=frozen_of HX3.out
 refine (Known_any (T:Int) _).mono ?_
 rintro e w4 ⟨rfl,rfl⟩
 rw [HKN.out]
 go_wp2_with fail
 refine (HKD.out _).mono ?_
 rintro e w5 ⟨bk,rfl,hbk,hbk2,K5⟩
 have hdl:=lt_of_heap HD3.out
 have HF5:=Lib.hid (K5.heap HF3.out (by simp))
 have HX5:=Lib.hid (K5.heap HX3.out (by simp))
 have HD5:=Lib.hid (K5.heap HD3.out (by simp))
 have HK5:=Lib.hid (HK3.out.trans K5)
 clear HF3 HX3 HD3 HK3 K5 HKD q0 q1 q2 q3 q4 q5 q6 q7 q8 q9 q10 q11 qz qlt qlt2 x0 x1 x2 xz
 have d0:=cell_of HD5.out 0
 have d1:=cell_of HD5.out 1
 have d2:=cell_of HD5.out 2
 have d3:=cell_of HD5.out 3
 have d4:=cell_of HD5.out 4
 have d5:=cell_of HD5.out 5
 have d6:=cell_of HD5.out 6
 have dz:=frozen_of HD5.out
 go_wp2_with fail
 generalize hW:World.setCell _ _ _=w6
 obtain ⟨hd6,K6⟩:w6.heap[w.heap.size+1+1]?=some (.cells #[.bool z,.bool any,.bool pd,Sz bk,Fv k2,Fv k3,Fv k4] 185)∧Kp [w.heap.size+1+1] w5 w6:=by rw [← hW]; exact set7 HD5.out
 have HF6:=Lib.hid (K6.heap HF5.out (by simp; omega))
 have HX6:=Lib.hid (K6.heap HX5.out (by simp))
 have HD6:=Lib.hid hd6
 have HK6:=Lib.hid (HK5.out.then K6 (by simp; omega))
 have HS6:=Lib.hid (K6.heap hbk (by simp; omega))
 clear hbk hdl
 clear hW hd6 K6 HF5 HX5 HD5 HK5 d0 d1 d2 d3 d4 d5 d6 dz
 refine (rightF z any pd (Sz bk) (Fv k2) (Fv k3) (Fv k4) (S:Int) _ rfl rfl rfl rfl).mono ?_
 rintro e w7 ⟨rfl,K7⟩
 rw [HRI.out]
 have HF7:=Lib.hid (K7.heap HF6.out (by simp))
 have HX7:=Lib.hid (K7.heap HX6.out (by simp))
 have HD7:=Lib.hid (K7.heap HD6.out (by simp))
 have HK7:=Lib.hid (HK6.out.trans K7)
 have HS7:=Lib.hid (K7.heap HS6.out (by simp))
 clear HS6
 clear HF6 HX6 HD6 HK6 K7
 obtain ⟨q0,q1,q2,q3,q4,q5,q6,q7,q8,q9,q10,q11,qz,qlt,qlt2⟩:=cellsF HF7.out
 have x0:=cell_of HX7.out 0
 have x1:=cell_of HX7.out 1
 have x2:=cell_of HX7.out 2
 have xz:=frozen_of HX7.out
 have d3:=cell_of HD7.out 3
 have d6:=cell_of HD7.out 6
 go_wp2_with fail
 refine (fitsSz N _ bk kk _ HS7.out).mono ?_
 rintro e w8 ⟨rfl,rfl⟩
 rw [HFIT.out]
 have HR7:=Lib.hid (HR.out.keep HK7.out (by simp))
 clear q0 q1 q2 q3 q4 q5 q6 q7 q8 q9 q10 q11 qz qlt qlt2 x0 x1 x2 xz d3 d6
 go_wp2
 have hgA:=HGA.out
 generalize hg:w.heap.size=g at *
 refine wp_region_st (by kernel_rfl) [fun _ v _=>v=(.agg #[.bool z,.bool any,.bool pd,Sz bk,Fv k2,Fv k3,Fv k4]),
   fun _ v _=>v=(.slice A n c),
   fun _ v _=>v=(.int .i64 (9+(N:Int))),
   fun p v w=>∃ x:Option Addr × Nat × Nat,v=.slice x.1 x.2.1 x.2.2∧0≤p∧(p≤0→Rd w x.1 x.2.1 x.2.2 ((l.drop 9).take N)∧g∉ob x.1∧x.2.1=N),
   fun p v w=>∃ x:Option Addr × Nat × Nat,v=.tuple #[.slice x.1 x.2.1 x.2.2,.int .i64 0]∧1≤p∧(p≤1→Rd w x.1 x.2.1 x.2.2 m∧g∉ob x.1∧x.2.1≤16777216),
   fun p v w=>∃ x:Option Addr × Nat × Nat,v=.tuple #[.slice x.1 x.2.1 x.2.2,.int .i64 0]∧1≤p∧(p≤1→Rd w x.1 x.2.1 x.2.2 m∧g∉ob x.1∧x.2.1≤16777216),
   fun p v w=>∃ x:Option Addr × Nat × Nat,v=.slice x.1 x.2.1 x.2.2∧1≤p∧(p≤1→Rd w x.1 x.2.1 x.2.2 m∧g∉ob x.1∧x.2.1≤16777216),
   fun _ v _=>v=(.int .i64 0),
   fun p v w=>∃ x:Option Addr × Nat × Nat,v=.slice x.1 x.2.1 x.2.2∧1≤p∧(p≤1→Rd w x.1 x.2.1 x.2.2 m∧g∉ob x.1∧x.2.1≤16777216),
   fun _ v _=>v=(.int .i64 0)] (fun p w=>Kp [g] w7 w∧(p≤0→Kp [] w7 w)∧(1≤p→w.heap[g]?=some (.cells #[.int .i64 T,.int .i64 F,.int .i64 S,.slice none 0 0,.int .i64 (pad:Int),.int .u32 0,.int .i64 0,.int .i64 0,.int .i64 0,.bool false,.int .i64 0,.slice none 0 0] 49))) (fun _ _ _=>True) (fun w w'=>Kp [] w w') [4] [] (by kernel_rfl) (by kernel_rfl) (by kernel_rfl) (by decide) (by kernel_rfl) ⟨StabAt2.const _,StabAt2.const _,StabAt2.const _,StabAt2.span (f:=fun x:Option Addr × Nat × Nat=>.slice x.1 x.2.1 x.2.2) (by intro p x w w' h1 h2 h3 hR hG; omega) (by intro x w w' hR hG; exact ⟨hG.1.keep hR (by simp),hG.2⟩),StabAt2.span (f:=fun x:Option Addr × Nat × Nat=>.tuple #[.slice x.1 x.2.1 x.2.2,.int .i64 0]) (by intro p x w w' h1 h2 h3 hR hG; omega) (by intro x w w' hR hG; exact ⟨hG.1.keep hR (by simp),hG.2⟩),StabAt2.span (f:=fun x:Option Addr × Nat × Nat=>.tuple #[.slice x.1 x.2.1 x.2.2,.int .i64 0]) (by intro p x w w' h1 h2 h3 hR hG; omega) (by intro x w w' hR hG; exact ⟨hG.1.keep hR (by simp),hG.2⟩),StabAt2.span (f:=fun x:Option Addr × Nat × Nat=>.slice x.1 x.2.1 x.2.2) (by intro p x w w' h1 h2 h3 hR hG; omega) (by intro x w w' hR hG; exact ⟨hG.1.keep hR (by simp),hG.2⟩),StabAt2.const _,StabAt2.span (f:=fun x:Option Addr × Nat × Nat=>.slice x.1 x.2.1 x.2.2) (by intro p x w w' h1 h2 h3 hR hG; omega) (by intro x w w' hR hG; exact ⟨hG.1.keep hR (by simp),hG.2⟩),StabAt2.const _,trivial⟩ (⟨(Kp.refl _ _).drew,fun _=>(Kp.refl _ _).drew,fun h=>by omega⟩) ⟨?_,?_,?_,?_,?_,?_,?_,?_,?_,?_,trivial⟩ (by kernel_rfl) ?_
 ·intro q9 a w E hC K hK
  have h8:a.tmps[8]?=some (.pointer (some ⟨g+1+1,0,none⟩)):=(E.out 8 (by kernel_rfl)).trans rfl
  refine want_none rfl ?_
  have hd:=hC.1.heap HD7.out (by simp; omega)
  have d0:=cell_of hd 0
  have d1:=cell_of hd 1
  have d2:=cell_of hd 2
  have d3:=cell_of hd 3
  have d4:=cell_of hd 4
  have d5:=cell_of hd 5
  have d6:=cell_of hd 6
  have dl:=lt_of_heap hd
  clear hd
  go_simp
  exact hK _ rfl
 ·intro q9 a w E hC K hK
  have h0:a.tmps[0]?=some (.slice A n c):=(E.out 0 (by kernel_rfl)).trans rfl
  refine want_none rfl ?_
  go_simp
  exact hK _ rfl
 ·intro q9 a w E hC K hK
  have h5:a.tmps[5]?=some (.int .i64 (9+(N:Int))):=(E.out 5 (by kernel_rfl)).trans rfl
  refine want_none rfl ?_
  go_simp
  exact hK _ rfl
 ·intro q9 a w E hC K hK
  obtain ⟨_,h75,rfl⟩:=E.pred 1 _ 75 rfl rfl (by kernel_rfl)
  obtain ⟨_,h76,rfl⟩:=E.pred 2 _ 76 rfl rfl (by kernel_rfl)
  refine want_none rfl ?_
  have hrd:=HR7.out.keep hC.1 (by intro _ t h1 h2; simp at h2; subst h2; exact hgA h1)
  have hcp:=HR7.out.cap
  have hA:=HA.out
  subst hA
  by_cases hc9:c=9
  ·subst hc9
   obtain rfl:N=0:=by omega
   obtain rfl:n=9:=by omega
   go_simp
   exact hK _ ⟨⟨some ⟨b,o,none⟩,0,0⟩,rfl,by omega,fun _=>⟨by have:=hrd.sub 9 9 (by omega) (by omega) (A':=some ⟨b,o,none⟩) (by intro b' o' h1 h2; omega); exact this,hgA,rfl⟩⟩
  ·have i0:(9:Int)≤9+(N:Int):=by omega
   have i1:9+(N:Int)≤(c:Int):=by omega
   have i2:¬ (9:Int)=(c:Int):=by omega
   have i3:¬ (c:Int)=9:=by omega
   go_simp
   have e9:((9:Int)+(N:Int)).toNat - 9=N:=by omega
   rw [e9]
   exact hK _ ⟨⟨some ⟨b,o+9,none⟩,N,c - 9⟩,rfl,by omega,fun _=>⟨by have:=hrd.sub 9 (9+N) (by omega) (by omega) (A':=some ⟨b,o+9,none⟩) (by intro b' o' h1 h2; injection h1 with h1; injection h1 with h1 h3 _; rw [h1,h3]); simpa using this,hgA,rfl⟩⟩
 ·intro a w E hC K hK
  have h4:a.tmps[4]?=some (.pointer (some ⟨g,0,none⟩)):=(E.out 4 (by kernel_rfl)).trans rfl
  obtain ⟨_,h74,rfl⟩:=E.pred 0 _ 74 rfl rfl (by kernel_rfl)
  obtain ⟨v3,h77,V3⟩:=E.pred 3 _ 77 rfl rfl (by kernel_rfl)
  replace V3:(fun p v w=>∃ x:Option Addr × Nat × Nat,v=.slice x.1 x.2.1 x.2.2∧0≤p∧(p≤0→Rd w x.1 x.2.1 x.2.2 ((l.drop 9).take N)∧g∉ob x.1∧x.2.1=N)) 0 v3 w:=V3
  obtain ⟨x3,rfl,_,hG3⟩:=V3
  refine want_none rfl ?_
  have hb:=(hC.2.1 (by omega)).heap HF7.out (by simp)
  have hr3:=(hG3 (by omega)).1
  have hg3:=(hG3 (by omega)).2.1
  have HG3:=Lib.hid hG3
  clear hG3
  go_simp
  refine (HUN.out (Sz bk) g x3.1 x3.2.1 x3.2.2 _ w rfl hb hr3 hg3 (by have:=(HG3.out (by omega)).2.2; have:=HN2.out; omega)).mono ?_
  rw [HUR.out]
  rintro e w2 h2
  obtain ⟨A',n',c',rfl,hr',hg',hn',hf',K2⟩:=h2
  go_simp
  exact hK _ _ ⟨⟨A',n',c'⟩,rfl,by omega,fun _=>⟨hr',hg',hn'⟩⟩ ⟨hC.1.trans K2,fun h=>by omega,fun _=>hf'⟩ trivial
 ·intro q9 a w E hC K hK
  obtain ⟨v4,h78,V4⟩:=E.pred 4 _ 78 rfl rfl (by kernel_rfl)
  replace V4:(fun p v w=>∃ x:Option Addr × Nat × Nat,v=.tuple #[.slice x.1 x.2.1 x.2.2,.int .i64 0]∧1≤p∧(p≤1→Rd w x.1 x.2.1 x.2.2 m∧g∉ob x.1∧x.2.1≤16777216)) q9 v4 w:=V4
  obtain ⟨x4,rfl,hl4,hG4⟩:=V4
  refine want_none rfl ?_
  go_simp
  exact hK _ ⟨x4,rfl,hl4,hG4⟩
 ·intro q9 a w E hC K hK
  obtain ⟨v5,h73,V5⟩:=E.pred 5 _ 73 rfl rfl (by kernel_rfl)
  replace V5:(fun p v w=>∃ x:Option Addr × Nat × Nat,v=.tuple #[.slice x.1 x.2.1 x.2.2,.int .i64 0]∧1≤p∧(p≤1→Rd w x.1 x.2.1 x.2.2 m∧g∉ob x.1∧x.2.1≤16777216)) q9 v5 w:=V5
  obtain ⟨x5,rfl,hl5,hG5⟩:=V5
  refine want_none rfl ?_
  go_simp
  exact hK _ ⟨x5,rfl,hl5,hG5⟩
 ·intro q9 a w E hC K hK
  obtain ⟨v5,h73,V5⟩:=E.pred 5 _ 73 rfl rfl (by kernel_rfl)
  replace V5:(fun p v w=>∃ x:Option Addr × Nat × Nat,v=.tuple #[.slice x.1 x.2.1 x.2.2,.int .i64 0]∧1≤p∧(p≤1→Rd w x.1 x.2.1 x.2.2 m∧g∉ob x.1∧x.2.1≤16777216)) q9 v5 w:=V5
  obtain ⟨x5,rfl,hl5,hG5⟩:=V5
  refine want_none rfl ?_
  go_simp
  exact hK _ rfl
 ·intro q9 a w E hC K hK
  obtain ⟨v6,h79,V6⟩:=E.pred 6 _ 79 rfl rfl (by kernel_rfl)
  replace V6:(fun p v w=>∃ x:Option Addr × Nat × Nat,v=.slice x.1 x.2.1 x.2.2∧1≤p∧(p≤1→Rd w x.1 x.2.1 x.2.2 m∧g∉ob x.1∧x.2.1≤16777216)) q9 v6 w:=V6
  obtain ⟨x6,rfl,hl6,hG6⟩:=V6
  refine want_none rfl ?_
  go_simp
  exact hK _ ⟨x6,rfl,hl6,hG6⟩
 ·intro q9 a w E hC K hK
  obtain ⟨_,h80,rfl⟩:=E.pred 7 _ 80 rfl rfl (by kernel_rfl)
  refine want_none rfl ?_
  go_simp
  exact hK _ rfl
 intro vs w8 hC hV
 obtain ⟨⟨A8,n8,c8⟩,h8,_,hG8⟩:=hV 8 _ rfl (by simp)
 have h9:vs 9=.int .i64 0:=hV 9 _ rfl (by simp)
 have HF8:=Lib.hid (hC.2.2 (Nat.le_refl _))
 have HX8:=Lib.hid (hC.1.heap HX7.out (by simp))
 have HD8:=Lib.hid (hC.1.heap HD7.out (by simp; omega))
 have HK8:=Lib.hid (HK7.out.then hC.1 (by simp; omega))
 clear hV hC HX7 HD7 HF7 HK7 HR7
 simp only [putAll,Act.put,List.setIfInBounds_toArray]
 dsimp only [List.set]
 rw [h8,h9]
 clear h8 h9
 subst hg
 obtain ⟨hr8,hg8,hn8⟩:=hG8 (Nat.le_refl _)
 dsimp only at hr8 hg8 hn8
 have HR8:=Lib.hid hr8
 have HG8:=Lib.hid hg8
 clear hr8 hg8 hG8
 obtain ⟨q0,q1,q2,q3,q4,q5,q6,q7,q8,q9,q10,q11,qz,qlt,qlt2⟩:=cellsF HF8.out
 have d6:=cell_of HD8.out 6
 have dl:=lt_of_heap HD8.out
 go_wp2_with fail
 rw [HCG.out,Oper.upon_enter]
 refine (HGT.out _ A8 n8 c8 w8 HF8.out HR8.out HG8.out hn8).mono ?_
 rintro e w9 hG9
 obtain ⟨rfl,f9,hf9,hp9,K9⟩:=hG9
 have HP9:=Lib.hid hp9
 have HF9:=Lib.hid hf9
 have HX9:=Lib.hid (K9.heap HX8.out (by simp))
 have HK9:=Lib.hid (HK8.out.then K9 (by simp))
 have hs8:=K9.size
 have hl8:=lt_of_heap HX8.out
 clear hf9 hp9 K9
 clear HF8 HX8 HD8 HK8 HR8 HG8 HGT HCG q0 q1 q2 q3 q4 q5 q6 q7 q8 q9 q10 q11 qz qlt qlt2 d6 dl
 obtain ⟨q0,q1,q2,q3,q4,q5,q6,q7,q8,q9,q10,q11,qz,qlt,qlt2⟩:=cellsF HF9.out
 have x0:=cell_of HX9.out 0
 have x1:=cell_of HX9.out 1
 have x2:=cell_of HX9.out 2
 have xz:=frozen_of HX9.out
 go_wp2
 go_region
 go_wp2
 rw [jump_ret]
 have Kst:Kp [w.heap.size+1] w9 (World.setCell (World.setCell (World.setCell w9 ⟨(w.heap.size+1),0,none⟩ (.bool false)) ⟨(w.heap.size+1),1,none⟩ (.int .i64 0)) ⟨(w.heap.size+1),2,none⟩ (.int .i64 0)):=((((Kp.refl [w.heap.size+1] w9).setCell (.inl (by simp)) _).setCell (.inl (by simp)) _).setCell (.inl (by simp)) _)
 have HF:=Lib.hid (Kst.heap HF9.out (by simp))
 have HX:=Lib.hid (sx2 (sx1 (sx0 HX9.out (b:=.bool false)) (b:=.int .i64 0)) (b:=.int .i64 0))
 generalize hW:World.setCell _ _ _=W
 obtain ⟨HF9,HX9,K9⟩:W.heap[w.heap.size]?=some (.cells #[.int .i64 f9.ty,.int .i64 f9.fl,.int .i64 f9.st,.slice f9.pA f9.pn f9.pc,.int .i64 f9.pad,.int .u32 f9.code,.int .i64 f9.last,.int .i64 f9.inc,.int .i64 f9.dep,.bool f9.only,.int .i64 f9.wt,.slice f9.sA f9.sn f9.sc] 49)∧W.heap[w.heap.size+1]?=some (.cells #[.bool false,.int .i64 0,.int .i64 0] 64)∧Kp [w.heap.size,w.heap.size+1] (World.setCell (World.setCell (World.setCell w9 ⟨(w.heap.size+1),0,none⟩ (.bool false)) ⟨(w.heap.size+1),1,none⟩ (.int .i64 0)) ⟨(w.heap.size+1),2,none⟩ (.int .i64 0)) W:=by rw [← hW]; exact set15 (by omega) HF.out HX.out
 refine bodyPost_ret (v:=.tuple #[.agg #[.int .i64 f9.ty,.int .i64 f9.fl,.int .i64 f9.st,.slice f9.pA f9.pn f9.pc,.int .i64 f9.pad,.int .u32 f9.code,.int .i64 f9.last,.int .i64 f9.inc,.int .i64 f9.dep,.bool f9.only,.int .i64 f9.wt,.slice f9.sA f9.sn f9.sc],.int .i64 (9+(N:Int)),.agg #[.bool false,.int .i64 0,.int .i64 0],.int .i64 0]) (by simp [results,Try.results100,go_sem,cell_of HF9,cell_of HX9]) rfl ⟨f9,rfl,HP9.out.low (((Kst.mono (T:=[w.heap.size,w.heap.size+1]) (by simp)).trans K9).drew) (by simp; omega) (by omega),((HK9.out.then Kst (by simp)).then K9 (by simp)).drew⟩

theorem parseGet (T k2 k3 k4:Nat) (kk:Int) (z any pd:Bool) (A:Option Addr) (n c:Nat) (l:List UInt8) (most:Int) (w:World) (hr:Rd w A n c l) (hn:n≤281474976710656) (hm:0≤most) (h9:¬ n < 9) (N:Nat) (hN:be (l.take 3)=N) (hb:¬ most < (N:Int)) (hc:¬ n < 9+N) (F S:Nat) (hT:(l.getD 3 0).toNat=T) (hF:(l.getD 4 0).toNat=F) (hS:be ((l.drop 5).take 4) % 2147483648=S)
  (hkn:knownB (T:Int)=true) (hkd:∀ w,Calls Try.prog 144 #[.int .i64 T] w fun e w'=>∃ bk,e=.returned (.agg #[.bool z,.bool any,.bool pd,Sz bk,Fv k2,Fv k3,Fv k4])∧w'.heap[bk]?=some (.cells #[.int .i64 kk] 3)∧w.heap.size≤bk∧Kp [] w w') (hri:(any || (z == decide ((S:Int)=0)))=true) (hfit:decide ((N:Int)=kk)=true) (hun:∀ (k1:Value) (g:Nat) (A:Option Addr) (n c:Nat) (m:List UInt8) (w:World),k1.cells=#[k1]→w.heap[g]?=some (.cells #[.int .i64 T,.int .i64 F,.int .i64 S,.slice none 0 0,.int .i64 0,.int .u32 0,.int .i64 0,.int .i64 0,.int .i64 0,.bool false,.int .i64 0,.slice none 0 0] 49)→Rd w A n c m→g∉ob A→n≤16777216→Calls Try.prog 151 #[.pointer (some ⟨g,0,none⟩),.agg #[.bool z,.bool any,.bool pd,k1,Fv k2,Fv k3,Fv k4],.slice A n c] w (UnR T F S g (unS T F m) w)) (pad:Nat) (m:List UInt8) (hur:unS T F ((l.drop 9).take N)=.ok pad m) (hcg:∀ args w,Sem.run Try.prog (callFunc k4 args) w=.ok (.enter k4 args) w) (hget:∀ (g:Nat) (A:Option Addr) (n c:Nat) (w:World),w.heap[g]?=some (.cells #[.int .i64 T,.int .i64 F,.int .i64 S,.slice none 0 0,.int .i64 (pad:Int),.int .u32 0,.int .i64 0,.int .i64 0,.int .i64 0,.bool false,.int .i64 0,.slice none 0 0] 49)→Rd w A n c m→g∉ob A→n≤16777216→Calls Try.prog k4 #[.pointer (some ⟨g,0,none⟩),.slice A n c] w (GetX g S w)) :
  Calls Try.prog 100 #[.slice A n c,.int .i64 most] w (ParseR (.bad (9+N) S 1) w):=by
 have HFIT:=Lib.hid hfit
 clear hfit
 have HCG:=Lib.hid hcg
 have HGT:=Lib.hid hget
 clear hcg hget
 have HUN:=Lib.hid hun
 have HUR:=Lib.hid hur
 obtain ⟨b,o,hA,hbw,_⟩:=hr.addr (by omega)
 have HGA:=Lib.hid (show w.heap.size∉ob A by rw [hA]; simp [ob]; omega)
 have HA:=Lib.hid hA
 clear hun hur hA hbw
 have HR:=Lib.hid hr
 have HRI:=Lib.hid hri
 have HKN:=Lib.hid hkn
 have HKD:=Lib.hid hkd
 have e:=head_of (l:=l) (by rw [hr.len]; exact h9)
 rw [hN,hT,hF,hS] at e
 have HN2:=Lib.hid (show N < 16777216 by have:=be_take_lt l 3; rw [hN] at this; have e3:(256:Nat) ^ 3=16777216:=(by decide); omega)
 have HH:=Lib.hid e
 clear hr e hT hF hS hN hri hkn hkd
 go_enter Try.func100,Try.ntmps100
 go_wp2_with fail
 refine wp_scope_once 0 rfl ?_
 go_wp2_with fail
 generalize hW:World.alloc _ _=w1
 have K1:Kp [] w w1:=by rw [← hW]; with_reducible (repeat (first|exact Kp.refl _ _|assumption|refine Kp.alloc ?_ _|refine Kp.drew ?_|refine Kp.drewN ?_ _|(refine Kp.setL ?_ ?_ _;focus (simp;done))|(refine Kp.setR ?_ ?_ _;focus (first|(simp;done)|(simp;omega)))))
 have HF:=Lib.hid (show w1.heap[w.heap.size]?=some (.cells #[.int .i64 0,.int .i64 0,.int .i64 0,.slice none 0 0,.int .i64 0,.int .u32 0,.int .i64 0,.int .i64 0,.int .i64 0,.bool false,.int .i64 0,.slice none 0 0] 49) by rw [← hW]; with_reducible (repeat (first|assumption|(refine hp_new _ _ _ ?_;focus (simp;done))|refine hpl ?_|(refine hpf ?_ ?_;focus (first|(simp;done)|(simp;omega)))|refine hpd ?_|refine hpe ?_)))
 have HX:=Lib.hid (show w1.heap[w.heap.size+1]?=some (.cells #[.bool false,.int .i64 0,.int .i64 0] 64) by rw [← hW]; with_reducible (repeat (first|assumption|(refine hp_new _ _ _ ?_;focus (simp;done))|refine hpl ?_|(refine hpf ?_ ?_;focus (first|(simp;done)|(simp;omega)))|refine hpd ?_|refine hpe ?_)))
 have HK:=Lib.hid (show w1.heap[w.heap.size+1+1]?=some (.cells #[.bool false,.bool false,.bool false,.nilFunc,.nilFunc,.nilFunc,.nilFunc] 185) by rw [← hW]; with_reducible (repeat (first|assumption|(refine hp_new _ _ _ ?_;focus (simp;done))|refine hpl ?_|(refine hpf ?_ ?_;focus (first|(simp;done)|(simp;omega)))|refine hpd ?_|refine hpe ?_)))
 clear hW
 refine (Head_big A n c l w1 hn (HR.out.keep K1 (by simp))).mono ?_
 rintro e w2 ⟨rfl,K2⟩
 rw [HH.out]
 dsimp only
 have HF2:=Lib.hid (K2.heap HF.out (by simp))
 have HX2:=Lib.hid (K2.heap HX.out (by simp))
 have HD2:=Lib.hid (K2.heap HK.out (by simp))
 have HK2:=Lib.hid (K1.trans K2)
 clear HF HX HK K1 K2
 obtain ⟨q0,q1,q2,q3,q4,q5,q6,q7,q8,q9,q10,q11,qz,qlt,qlt2⟩:=cellsF HF2.out
 have x0:=cell_of HX2.out 0
 have x1:=cell_of HX2.out 1
 have x2:=cell_of HX2.out 2
 have xz:=frozen_of HX2.out
 have hN2:N < 16777216:=HN2.out
 go_wp2_with fail
 generalize hW:World.setCell _ _ _=w3
 have HF3:=Lib.hid (show w3.heap[w.heap.size]?=some (.cells #[.int .i64 T,.int .i64 F,.int .i64 S,.slice none 0 0,.int .i64 0,.int .u32 0,.int .i64 0,.int .i64 0,.int .i64 0,.bool false,.int .i64 0,.slice none 0 0] 49) by rw [← hW]; exact sf11 (sf10 (sf9 (sf8 (sf7 (sf6 (sf5 (sf4 (sf3 (sf2 (sf1 (sf0 (HF2.out)))))))))))))
 have K3:Kp [w.heap.size] w2 w3:=by rw [← hW]; exact (((((((((((((Kp.refl _ _).setCell (.inl (by simp)) _).setCell (.inl (by simp)) _).setCell (.inl (by simp)) _).setCell (.inl (by simp)) _).setCell (.inl (by simp)) _).setCell (.inl (by simp)) _).setCell (.inl (by simp)) _).setCell (.inl (by simp)) _).setCell (.inl (by simp)) _).setCell (.inl (by simp)) _).setCell (.inl (by simp)) _).setCell (.inl (by simp)) _)
 have HX3:=Lib.hid (K3.heap HX2.out (by simp))
 have HD3:=Lib.hid (K3.heap HD2.out (by simp; omega))
 have HK3:=Lib.hid (HK2.out.then K3 (by simp))
 clear hW K3 HF2 HX2 HD2 HK2 q0 q1 q2 q3 q4 q5 q6 q7 q8 q9 q10 q11 qz qlt qlt2 x0 x1 x2 xz
 obtain ⟨q0,q1,q2,q3,q4,q5,q6,q7,q8,q9,q10,q11,qz,qlt,qlt2⟩:=cellsF HF3.out
 have x0:=cell_of HX3.out 0
 have x1:=cell_of HX3.out 1
 have x2:=cell_of HX3.out 2
 have xz:=frozen_of HX3.out
 refine (Known_any (T:Int) _).mono ?_
 rintro e w4 ⟨rfl,rfl⟩
 rw [HKN.out]
 go_wp2_with fail
 refine (HKD.out _).mono ?_
 rintro e w5 ⟨bk,rfl,hbk,hbk2,K5⟩
 have hdl:=lt_of_heap HD3.out
 have HF5:=Lib.hid (K5.heap HF3.out (by simp))
 have HX5:=Lib.hid (K5.heap HX3.out (by simp))
 have HD5:=Lib.hid (K5.heap HD3.out (by simp))
 have HK5:=Lib.hid (HK3.out.trans K5)
 clear HF3 HX3 HD3 HK3 K5 HKD q0 q1 q2 q3 q4 q5 q6 q7 q8 q9 q10 q11 qz qlt qlt2 x0 x1 x2 xz
 have d0:=cell_of HD5.out 0
 have d1:=cell_of HD5.out 1
 have d2:=cell_of HD5.out 2
 have d3:=cell_of HD5.out 3
 have d4:=cell_of HD5.out 4
 have d5:=cell_of HD5.out 5
 have d6:=cell_of HD5.out 6
 have dz:=frozen_of HD5.out
 go_wp2_with fail
 generalize hW:World.setCell _ _ _=w6
 obtain ⟨hd6,K6⟩:w6.heap[w.heap.size+1+1]?=some (.cells #[.bool z,.bool any,.bool pd,Sz bk,Fv k2,Fv k3,Fv k4] 185)∧Kp [w.heap.size+1+1] w5 w6:=by rw [← hW]; exact set7 HD5.out
 have HF6:=Lib.hid (K6.heap HF5.out (by simp; omega))
 have HX6:=Lib.hid (K6.heap HX5.out (by simp))
 have HD6:=Lib.hid hd6
 have HK6:=Lib.hid (HK5.out.then K6 (by simp; omega))
 have HS6:=Lib.hid (K6.heap hbk (by simp; omega))
 clear hbk hdl
 clear hW hd6 K6 HF5 HX5 HD5 HK5 d0 d1 d2 d3 d4 d5 d6 dz
 refine (rightF z any pd (Sz bk) (Fv k2) (Fv k3) (Fv k4) (S:Int) _ rfl rfl rfl rfl).mono ?_
 rintro e w7 ⟨rfl,K7⟩
 rw [HRI.out]
 have HF7:=Lib.hid (K7.heap HF6.out (by simp))
 have HX7:=Lib.hid (K7.heap HX6.out (by simp))
 have HD7:=Lib.hid (K7.heap HD6.out (by simp))
 have HK7:=Lib.hid (HK6.out.trans K7)
 have HS7:=Lib.hid (K7.heap HS6.out (by simp))
 clear HS6
 clear HF6 HX6 HD6 HK6 K7
 obtain ⟨q0,q1,q2,q3,q4,q5,q6,q7,q8,q9,q10,q11,qz,qlt,qlt2⟩:=cellsF HF7.out
 have x0:=cell_of HX7.out 0
 have x1:=cell_of HX7.out 1
 have x2:=cell_of HX7.out 2
 have xz:=frozen_of HX7.out
 have d3:=cell_of HD7.out 3
 have d6:=cell_of HD7.out 6
 go_wp2_with fail
 refine (fitsSz N _ bk kk _ HS7.out).mono ?_
 rintro e w8 ⟨rfl,rfl⟩
 rw [HFIT.out]
 have HR7:=Lib.hid (HR.out.keep HK7.out (by simp))
 clear q0 q1 q2 q3 q4 q5 q6 q7 q8 q9 q10 q11 qz qlt qlt2 x0 x1 x2 xz d3 d6
 go_wp2
 have hgA:=HGA.out
 generalize hg:w.heap.size=g at *
 refine wp_region_st (by kernel_rfl) [fun _ v _=>v=(.agg #[.bool z,.bool any,.bool pd,Sz bk,Fv k2,Fv k3,Fv k4]),
   fun _ v _=>v=(.slice A n c),
   fun _ v _=>v=(.int .i64 (9+(N:Int))),
   fun p v w=>∃ x:Option Addr × Nat × Nat,v=.slice x.1 x.2.1 x.2.2∧0≤p∧(p≤0→Rd w x.1 x.2.1 x.2.2 ((l.drop 9).take N)∧g∉ob x.1∧x.2.1=N),
   fun p v w=>∃ x:Option Addr × Nat × Nat,v=.tuple #[.slice x.1 x.2.1 x.2.2,.int .i64 0]∧1≤p∧(p≤1→Rd w x.1 x.2.1 x.2.2 m∧g∉ob x.1∧x.2.1≤16777216),
   fun p v w=>∃ x:Option Addr × Nat × Nat,v=.tuple #[.slice x.1 x.2.1 x.2.2,.int .i64 0]∧1≤p∧(p≤1→Rd w x.1 x.2.1 x.2.2 m∧g∉ob x.1∧x.2.1≤16777216),
   fun p v w=>∃ x:Option Addr × Nat × Nat,v=.slice x.1 x.2.1 x.2.2∧1≤p∧(p≤1→Rd w x.1 x.2.1 x.2.2 m∧g∉ob x.1∧x.2.1≤16777216),
   fun _ v _=>v=(.int .i64 0),
   fun p v w=>∃ x:Option Addr × Nat × Nat,v=.slice x.1 x.2.1 x.2.2∧1≤p∧(p≤1→Rd w x.1 x.2.1 x.2.2 m∧g∉ob x.1∧x.2.1≤16777216),
   fun _ v _=>v=(.int .i64 0)] (fun p w=>Kp [g] w7 w∧(p≤0→Kp [] w7 w)∧(1≤p→w.heap[g]?=some (.cells #[.int .i64 T,.int .i64 F,.int .i64 S,.slice none 0 0,.int .i64 (pad:Int),.int .u32 0,.int .i64 0,.int .i64 0,.int .i64 0,.bool false,.int .i64 0,.slice none 0 0] 49))) (fun _ _ _=>True) (fun w w'=>Kp [] w w') [4] [] (by kernel_rfl) (by kernel_rfl) (by kernel_rfl) (by decide) (by kernel_rfl) ⟨StabAt2.const _,StabAt2.const _,StabAt2.const _,StabAt2.span (f:=fun x:Option Addr × Nat × Nat=>.slice x.1 x.2.1 x.2.2) (by intro p x w w' h1 h2 h3 hR hG; omega) (by intro x w w' hR hG; exact ⟨hG.1.keep hR (by simp),hG.2⟩),StabAt2.span (f:=fun x:Option Addr × Nat × Nat=>.tuple #[.slice x.1 x.2.1 x.2.2,.int .i64 0]) (by intro p x w w' h1 h2 h3 hR hG; omega) (by intro x w w' hR hG; exact ⟨hG.1.keep hR (by simp),hG.2⟩),StabAt2.span (f:=fun x:Option Addr × Nat × Nat=>.tuple #[.slice x.1 x.2.1 x.2.2,.int .i64 0]) (by intro p x w w' h1 h2 h3 hR hG; omega) (by intro x w w' hR hG; exact ⟨hG.1.keep hR (by simp),hG.2⟩),StabAt2.span (f:=fun x:Option Addr × Nat × Nat=>.slice x.1 x.2.1 x.2.2) (by intro p x w w' h1 h2 h3 hR hG; omega) (by intro x w w' hR hG; exact ⟨hG.1.keep hR (by simp),hG.2⟩),StabAt2.const _,StabAt2.span (f:=fun x:Option Addr × Nat × Nat=>.slice x.1 x.2.1 x.2.2) (by intro p x w w' h1 h2 h3 hR hG; omega) (by intro x w w' hR hG; exact ⟨hG.1.keep hR (by simp),hG.2⟩),StabAt2.const _,trivial⟩ (⟨(Kp.refl _ _).drew,fun _=>(Kp.refl _ _).drew,fun h=>by omega⟩) ⟨?_,?_,?_,?_,?_,?_,?_,?_,?_,?_,trivial⟩ (by kernel_rfl) ?_
 ·intro q9 a w E hC K hK
  have h8:a.tmps[8]?=some (.pointer (some ⟨g+1+1,0,none⟩)):=(E.out 8 (by kernel_rfl)).trans rfl
  refine want_none rfl ?_
  have hd:=hC.1.heap HD7.out (by simp; omega)
  have d0:=cell_of hd 0
  have d1:=cell_of hd 1
  have d2:=cell_of hd 2
  have d3:=cell_of hd 3
  have d4:=cell_of hd 4
  have d5:=cell_of hd 5
  have d6:=cell_of hd 6
  have dl:=lt_of_heap hd
  clear hd
  go_simp
  exact hK _ rfl
 ·intro q9 a w E hC K hK
  have h0:a.tmps[0]?=some (.slice A n c):=(E.out 0 (by kernel_rfl)).trans rfl
  refine want_none rfl ?_
  go_simp
  exact hK _ rfl
 ·intro q9 a w E hC K hK
  have h5:a.tmps[5]?=some (.int .i64 (9+(N:Int))):=(E.out 5 (by kernel_rfl)).trans rfl
  refine want_none rfl ?_
  go_simp
  exact hK _ rfl
 ·intro q9 a w E hC K hK
  obtain ⟨_,h75,rfl⟩:=E.pred 1 _ 75 rfl rfl (by kernel_rfl)
  obtain ⟨_,h76,rfl⟩:=E.pred 2 _ 76 rfl rfl (by kernel_rfl)
  refine want_none rfl ?_
  have hrd:=HR7.out.keep hC.1 (by intro _ t h1 h2; simp at h2; subst h2; exact hgA h1)
  have hcp:=HR7.out.cap
  have hA:=HA.out
  subst hA
  by_cases hc9:c=9
  ·subst hc9
   obtain rfl:N=0:=by omega
   obtain rfl:n=9:=by omega
   go_simp
   exact hK _ ⟨⟨some ⟨b,o,none⟩,0,0⟩,rfl,by omega,fun _=>⟨by have:=hrd.sub 9 9 (by omega) (by omega) (A':=some ⟨b,o,none⟩) (by intro b' o' h1 h2; omega); exact this,hgA,rfl⟩⟩
  ·have i0:(9:Int)≤9+(N:Int):=by omega
   have i1:9+(N:Int)≤(c:Int):=by omega
   have i2:¬ (9:Int)=(c:Int):=by omega
   have i3:¬ (c:Int)=9:=by omega
   go_simp
   have e9:((9:Int)+(N:Int)).toNat - 9=N:=by omega
   rw [e9]
   exact hK _ ⟨⟨some ⟨b,o+9,none⟩,N,c - 9⟩,rfl,by omega,fun _=>⟨by have:=hrd.sub 9 (9+N) (by omega) (by omega) (A':=some ⟨b,o+9,none⟩) (by intro b' o' h1 h2; injection h1 with h1; injection h1 with h1 h3 _; rw [h1,h3]); simpa using this,hgA,rfl⟩⟩
 ·intro a w E hC K hK
  have h4:a.tmps[4]?=some (.pointer (some ⟨g,0,none⟩)):=(E.out 4 (by kernel_rfl)).trans rfl
  obtain ⟨_,h74,rfl⟩:=E.pred 0 _ 74 rfl rfl (by kernel_rfl)
  obtain ⟨v3,h77,V3⟩:=E.pred 3 _ 77 rfl rfl (by kernel_rfl)
  replace V3:(fun p v w=>∃ x:Option Addr × Nat × Nat,v=.slice x.1 x.2.1 x.2.2∧0≤p∧(p≤0→Rd w x.1 x.2.1 x.2.2 ((l.drop 9).take N)∧g∉ob x.1∧x.2.1=N)) 0 v3 w:=V3
  obtain ⟨x3,rfl,_,hG3⟩:=V3
  refine want_none rfl ?_
  have hb:=(hC.2.1 (by omega)).heap HF7.out (by simp)
  have hr3:=(hG3 (by omega)).1
  have hg3:=(hG3 (by omega)).2.1
  have HG3:=Lib.hid hG3
  clear hG3
  go_simp
  refine (HUN.out (Sz bk) g x3.1 x3.2.1 x3.2.2 _ w rfl hb hr3 hg3 (by have:=(HG3.out (by omega)).2.2; have:=HN2.out; omega)).mono ?_
  rw [HUR.out]
  rintro e w2 h2
  obtain ⟨A',n',c',rfl,hr',hg',hn',hf',K2⟩:=h2
  go_simp
  exact hK _ _ ⟨⟨A',n',c'⟩,rfl,by omega,fun _=>⟨hr',hg',hn'⟩⟩ ⟨hC.1.trans K2,fun h=>by omega,fun _=>hf'⟩ trivial
 ·intro q9 a w E hC K hK
  obtain ⟨v4,h78,V4⟩:=E.pred 4 _ 78 rfl rfl (by kernel_rfl)
  replace V4:(fun p v w=>∃ x:Option Addr × Nat × Nat,v=.tuple #[.slice x.1 x.2.1 x.2.2,.int .i64 0]∧1≤p∧(p≤1→Rd w x.1 x.2.1 x.2.2 m∧g∉ob x.1∧x.2.1≤16777216)) q9 v4 w:=V4
  obtain ⟨x4,rfl,hl4,hG4⟩:=V4
  refine want_none rfl ?_
  go_simp
  exact hK _ ⟨x4,rfl,hl4,hG4⟩
 ·intro q9 a w E hC K hK
  obtain ⟨v5,h73,V5⟩:=E.pred 5 _ 73 rfl rfl (by kernel_rfl)
  replace V5:(fun p v w=>∃ x:Option Addr × Nat × Nat,v=.tuple #[.slice x.1 x.2.1 x.2.2,.int .i64 0]∧1≤p∧(p≤1→Rd w x.1 x.2.1 x.2.2 m∧g∉ob x.1∧x.2.1≤16777216)) q9 v5 w:=V5
  obtain ⟨x5,rfl,hl5,hG5⟩:=V5
  refine want_none rfl ?_
  go_simp
  exact hK _ ⟨x5,rfl,hl5,hG5⟩
 ·intro q9 a w E hC K hK
  obtain ⟨v5,h73,V5⟩:=E.pred 5 _ 73 rfl rfl (by kernel_rfl)
  replace V5:(fun p v w=>∃ x:Option Addr × Nat × Nat,v=.tuple #[.slice x.1 x.2.1 x.2.2,.int .i64 0]∧1≤p∧(p≤1→Rd w x.1 x.2.1 x.2.2 m∧g∉ob x.1∧x.2.1≤16777216)) q9 v5 w:=V5
  obtain ⟨x5,rfl,hl5,hG5⟩:=V5
  refine want_none rfl ?_
  go_simp
  exact hK _ rfl
 ·intro q9 a w E hC K hK
  obtain ⟨v6,h79,V6⟩:=E.pred 6 _ 79 rfl rfl (by kernel_rfl)
  replace V6:(fun p v w=>∃ x:Option Addr × Nat × Nat,v=.slice x.1 x.2.1 x.2.2∧1≤p∧(p≤1→Rd w x.1 x.2.1 x.2.2 m∧g∉ob x.1∧x.2.1≤16777216)) q9 v6 w:=V6
  obtain ⟨x6,rfl,hl6,hG6⟩:=V6
  refine want_none rfl ?_
  go_simp
  exact hK _ ⟨x6,rfl,hl6,hG6⟩
 ·intro q9 a w E hC K hK
  obtain ⟨_,h80,rfl⟩:=E.pred 7 _ 80 rfl rfl (by kernel_rfl)
  refine want_none rfl ?_
  go_simp
  exact hK _ rfl
 intro vs w8 hC hV
 obtain ⟨⟨A8,n8,c8⟩,h8,_,hG8⟩:=hV 8 _ rfl (by simp)
 have h9:vs 9=.int .i64 0:=hV 9 _ rfl (by simp)
 have HF8:=Lib.hid (hC.2.2 (Nat.le_refl _))
 have HX8:=Lib.hid (hC.1.heap HX7.out (by simp))
 have HD8:=Lib.hid (hC.1.heap HD7.out (by simp; omega))
 have HK8:=Lib.hid (HK7.out.then hC.1 (by simp; omega))
 clear hV hC HX7 HD7 HF7 HK7 HR7
 simp only [putAll,Act.put,List.setIfInBounds_toArray]
 dsimp only [List.set]
 rw [h8,h9]
 clear h8 h9
 subst hg
 obtain ⟨hr8,hg8,hn8⟩:=hG8 (Nat.le_refl _)
 dsimp only at hr8 hg8 hn8
 have HR8:=Lib.hid hr8
 have HG8:=Lib.hid hg8
 clear hr8 hg8 hG8
 obtain ⟨q0,q1,q2,q3,q4,q5,q6,q7,q8,q9,q10,q11,qz,qlt,qlt2⟩:=cellsF HF8.out
 have d6:=cell_of HD8.out 6
 have dl:=lt_of_heap HD8.out
 go_wp2_with fail
 rw [HCG.out,Oper.upon_enter]
 refine (HGT.out _ A8 n8 c8 w8 HF8.out HR8.out HG8.out hn8).mono ?_
 rintro e w9 hG9
 obtain ⟨rfl,⟨f9,hf9⟩,K9⟩:=hG9
 have HF9:=Lib.hid hf9
 have HX9:=Lib.hid (K9.heap HX8.out (by simp))
 have HK9:=Lib.hid (HK8.out.then K9 (by simp))
 clear hf9 K9
 clear HF8 HX8 HD8 HK8 HR8 HG8 HGT HCG q0 q1 q2 q3 q4 q5 q6 q7 q8 q9 q10 q11 qz qlt qlt2 d6 dl
 obtain ⟨q0,q1,q2,q3,q4,q5,q6,q7,q8,q9,q10,q11,qz,qlt,qlt2⟩:=cellsF HF9.out
 have x0:=cell_of HX9.out 0
 have x1:=cell_of HX9.out 1
 have x2:=cell_of HX9.out 2
 have xz:=frozen_of HX9.out
 go_wp2
 go_step3
 refine And.intro rfl ?_
 go_wp2
 have Kst:Kp [w.heap.size+1] w9 (World.setCell (World.setCell (World.setCell (World.setCell (World.setCell w9 ⟨(w.heap.size+1),0,none⟩ (.bool true)) ⟨(w.heap.size+1),1,none⟩ (.int .i64 S)) ⟨(w.heap.size+1),2,none⟩ (.int .i64 1)) ⟨w.heap.size+1,0,none⟩ (.bool true)) ⟨w.heap.size+1,2,none⟩ (.int .i64 1)):=(((((Kp.refl [w.heap.size+1] w9).setCell (.inl (by simp)) _).setCell (.inl (by simp)) _).setCell (.inl (by simp)) _).setCell (.inl (by simp)) _).setCell (.inl (by simp)) _
 have HF:=Lib.hid (Kst.heap HF9.out (by simp))
 have HX:=Lib.hid (sx2 (sx0 (sx2 (sx1 (sx0 HX9.out (b:=.bool true)) (b:=.int .i64 S)) (b:=.int .i64 1)) (b:=.bool true)) (b:=.int .i64 1))
 clear q0 q1 q2 q3 q4 q5 q6 q7 q8 q9 q10 q11 qz qlt qlt2 x0 x1 x2 xz
 generalize hW:(World.setCell (World.setCell (World.setCell (World.setCell (World.setCell w9 ⟨(w.heap.size+1),0,none⟩ (.bool true)) ⟨(w.heap.size+1),1,none⟩ (.int .i64 S)) ⟨(w.heap.size+1),2,none⟩ (.int .i64 1)) ⟨w.heap.size+1,0,none⟩ (.bool true)) ⟨w.heap.size+1,2,none⟩ (.int .i64 1))=wX at *
 clear hW
 obtain ⟨q0,q1,q2,q3,q4,q5,q6,q7,q8,q9,q10,q11,qz,qlt,qlt2⟩:=cellsF HF.out
 have x0:=cell_of HX.out 0
 have x1:=cell_of HX.out 1
 have x2:=cell_of HX.out 2
 have xz:=frozen_of HX.out
 go_region
 go_wp2
 rw [jump_ret]
 generalize hW:World.setCell _ _ _=W
 obtain ⟨HF9,HX9,K9⟩:W.heap[w.heap.size]?=some (.cells #[.int .i64 0,.int .i64 0,.int .i64 0,.slice none 0 0,.int .i64 0,.int .u32 0,.int .i64 0,.int .i64 0,.int .i64 0,.bool false,.int .i64 0,.slice none 0 0] 49)∧W.heap[w.heap.size+1]?=some (.cells #[.bool true,.int .i64 S,.int .i64 1] 64)∧Kp [w.heap.size,w.heap.size+1] wX W:=by rw [← hW]; exact set15 (by omega) HF.out HX.out
 refine bodyPost_ret (v:=.tuple #[.agg #[.int .i64 0,.int .i64 0,.int .i64 0,.slice none 0 0,.int .i64 0,.int .u32 0,.int .i64 0,.int .i64 0,.int .i64 0,.bool false,.int .i64 0,.slice none 0 0],.int .i64 (9+(N:Int)),.agg #[.bool true,.int .i64 S,.int .i64 1],.int .i64 0]) (by simp [results,Try.results100,go_sem,cell_of HF9,cell_of HX9]) rfl ⟨(⟨0,0,0,none,0,0,0,0,0,0,0,false,0,none,0,0⟩:Fr),rfl,FrP.zero _ _,((HK9.out.then Kst (by simp)).then K9 (by simp)).drew⟩

end Go.Proofs.Ytkmcakneceagpaa

namespace Go.Proofs.Ytkmcakneceagpaa
open Go.RowKit
theorem bcase3 (b:Bool):b=false∨b=true:=by cases b <;> simp
theorem un_bad {ty fl:Int} {l:List UInt8} {code:Int} (h:unS ty fl l=.bad code):¬ code=0:=by
 unfold unS at h
 split at h
 ·split at h
  ·injection h with h; omega
  ·split at h
   ·injection h with h; omega
   ·cases h
 ·split at h
  ·injection h with h; omega
  ·cases h
theorem un_fixed {ty fl:Int} {l m:List UInt8} {pad:Nat} (h:unS ty fl l=.ok pad m):fixedN ty fl≤m.length:=by
 unfold unS at h
 split at h
 ·split at h
  ·cases h
  ·split at h
   ·cases h
   ·injection h with h1 h2
    rw [← h2]
    simp only [List.length_take,List.length_drop]
    omega
 ·split at h
  ·cases h
  ·injection h with h1 h2
   rw [← h2]
   omega
theorem un_len {ty fl:Int} {l m:List UInt8} {pad:Nat} (h:unS ty fl l=.ok pad m) (hp:padF ty fl=false):m.length=l.length:=by
 unfold unS at h
 rw [hp] at h
 simp only [Bool.false_eq_true,if_false] at h
 split at h
 ·cases h
 ·injection h with h1 h2
  rw [h2]
theorem parseF (T k1 k2 k3 k4:Nat) (z any pd:Bool) (A:Option Addr) (n c:Nat) (l:List UInt8) (most:Int) (w:World) (hr:Rd w A n c l) (hn:n≤281474976710656) (hm:0≤most) (h9:¬ n < 9) (N:Nat) (hN:be (l.take 3)=N) (hb:¬ most < (N:Int)) (hc:¬ n < 9+N) (F S:Nat) (hT:(l.getD 3 0).toNat=T) (hF:(l.getD 4 0).toNat=F) (hS:be ((l.drop 5).take 4) % 2147483648=S)
  (hkn:knownB (T:Int)=true) (hkd:∀ w,Calls Try.prog 144 #[.int .i64 T] w fun e w'=>e=.returned (.agg #[.bool z,.bool any,.bool pd,Fv k1,Fv k2,Fv k3,Fv k4])∧Kp [] w w') (hri:(any || (z == decide ((S:Int)=0)))=rightB T S) (hT2:¬ T=2) (hT8:¬ T=8) (fit:Bool→Bool) (hfc:∀ a w,Calls Try.prog k1 #[.int .i64 N,.bool a] w (BoolR (fit a) w)) (hcf:∀ args w,Sem.run Try.prog (callFunc k1 args) w=.ok (.enter k1 args) w) (hfit:fit (bits .and .i64 (F:Int) 1 != 0)=fitsB T F N) (hun:∀ (k1:Value) (g:Nat) (A:Option Addr) (n c:Nat) (m:List UInt8) (w:World),k1.cells=#[k1]→w.heap[g]?=some (.cells #[.int .i64 T,.int .i64 F,.int .i64 S,.slice none 0 0,.int .i64 0,.int .u32 0,.int .i64 0,.int .i64 0,.int .i64 0,.bool false,.int .i64 0,.slice none 0 0] 49)→Rd w A n c m→g∉ob A→n≤16777216→Calls Try.prog 151 #[.pointer (some ⟨g,0,none⟩),.agg #[.bool z,.bool any,.bool pd,k1,Fv k2,Fv k3,Fv k4],.slice A n c] w (UnR T F S g (unS T F m) w)) (hcg:∀ args w,Sem.run Try.prog (callFunc k4 args) w=.ok (.enter k4 args) w) (hget:∀ (pad:Nat) (m:List UInt8),fitsB T F N=true→unS T F ((l.drop 9).take N)=.ok pad m→∀ (g:Nat) (A:Option Addr) (n c:Nat) (w:World),w.heap[g]?=some (.cells #[.int .i64 T,.int .i64 F,.int .i64 S,.slice none 0 0,.int .i64 (pad:Int),.int .u32 0,.int .i64 0,.int .i64 0,.int .i64 0,.bool false,.int .i64 0,.slice none 0 0] 49)→Rd w A n c m→g∉ob A→n≤16777216→Calls Try.prog k4 #[.pointer (some ⟨g,0,none⟩),.slice A n c] w (GetR g (getS (f0S T F S pad) m) w)) :
  Calls Try.prog 100 #[.slice A n c,.int .i64 most] w (ParseR (inS T F S ((l.drop 9).take N)) w):=by
 have hl:((l.drop 9).take N).length=N:=by have:=hr.len; simp; omega
 unfold inS
 dsimp only
 rw [hl,if_neg (by show ¬ knownB (T:Int)=false; rw [hkn]; decide)]
 cases h1:rightB (T:Int) (S:Int) with
 | false =>
  rw [if_pos rfl]
  exact parseWrong T k1 k2 k3 k4 z any pd A n c l most w hr hn hm h9 N hN hb hc F S hT hF hS hkn hkd (hri.trans h1)
 | true =>
  rw [if_neg (by decide)]
  cases h2:fitsB (T:Int) (F:Int) N with
  | false =>
   rw [if_pos rfl]
   rw [if_neg (by omega)]
   exact parseSz T k1 k2 k3 k4 z any pd A n c l most w hr hn hm h9 N hN hb hc F S hT hF hS hkn hkd (hri.trans h1) fit hfc hcf (hfit.trans h2) hT2
  | true =>
   rw [if_neg (by decide)]
   cases h3:unS (T:Int) (F:Int) ((l.drop 9).take N) with
   | bad code =>
    exact parseUnp T k1 k2 k3 k4 z any pd A n c l most w hr hn hm h9 N hN hb hc F S hT hF hS hkn hkd (hri.trans h1) fit hfc hcf (hfit.trans h2) hun code (un_bad h3) h3
   | ok pad m =>
    dsimp only
    rw [if_neg (by omega)]
    exact parseOk T k1 k2 k3 k4 z any pd A n c l most w hr hn hm h9 N hN hb hc F S hT hF hS hkn hkd (hri.trans h1) fit hfc hcf (hfit.trans h2) hun pad m h3 hcg (hget pad m h2 h3)

theorem parseS (T k2 k3 k4:Nat) (kk:Int) (z any pd:Bool) (A:Option Addr) (n c:Nat) (l:List UInt8) (most:Int) (w:World) (hr:Rd w A n c l) (hn:n≤281474976710656) (hm:0≤most) (h9:¬ n < 9) (N:Nat) (hN:be (l.take 3)=N) (hb:¬ most < (N:Int)) (hc:¬ n < 9+N) (F S:Nat) (hT:(l.getD 3 0).toNat=T) (hF:(l.getD 4 0).toNat=F) (hS:be ((l.drop 5).take 4) % 2147483648=S)
  (hkn:knownB (T:Int)=true) (hkd:∀ w,Calls Try.prog 144 #[.int .i64 T] w fun e w'=>∃ bk,e=.returned (.agg #[.bool z,.bool any,.bool pd,Sz bk,Fv k2,Fv k3,Fv k4])∧w'.heap[bk]?=some (.cells #[.int .i64 kk] 3)∧w.heap.size≤bk∧Kp [] w w') (hri:(any || (z == decide ((S:Int)=0)))=rightB T S) (hfit:decide ((N:Int)=kk)=fitsB T F N) (hun:∀ (k1:Value) (g:Nat) (A:Option Addr) (n c:Nat) (m:List UInt8) (w:World),k1.cells=#[k1]→w.heap[g]?=some (.cells #[.int .i64 T,.int .i64 F,.int .i64 S,.slice none 0 0,.int .i64 0,.int .u32 0,.int .i64 0,.int .i64 0,.int .i64 0,.bool false,.int .i64 0,.slice none 0 0] 49)→Rd w A n c m→g∉ob A→n≤16777216→Calls Try.prog 151 #[.pointer (some ⟨g,0,none⟩),.agg #[.bool z,.bool any,.bool pd,k1,Fv k2,Fv k3,Fv k4],.slice A n c] w (UnR T F S g (unS T F m) w)) (hcg:∀ args w,Sem.run Try.prog (callFunc k4 args) w=.ok (.enter k4 args) w) (hget:∀ (pad:Nat) (m:List UInt8),fitsB T F N=true→unS T F ((l.drop 9).take N)=.ok pad m→∀ (g:Nat) (A:Option Addr) (n c:Nat) (w:World),w.heap[g]?=some (.cells #[.int .i64 T,.int .i64 F,.int .i64 S,.slice none 0 0,.int .i64 (pad:Int),.int .u32 0,.int .i64 0,.int .i64 0,.int .i64 0,.bool false,.int .i64 0,.slice none 0 0] 49)→Rd w A n c m→g∉ob A→n≤16777216→((T=8∧n31 m 0=0)→Calls Try.prog k4 #[.pointer (some ⟨g,0,none⟩),.slice A n c] w (GetX g S w))∧(¬ (T=8∧n31 m 0=0)→Calls Try.prog k4 #[.pointer (some ⟨g,0,none⟩),.slice A n c] w (GetR g (getS (f0S T F S pad) m) w))) (hnb:∀ code,¬ unS T F ((l.drop 9).take N)=.bad code) :
  Calls Try.prog 100 #[.slice A n c,.int .i64 most] w (ParseR (inS T F S ((l.drop 9).take N)) w):=by
 have hl:((l.drop 9).take N).length=N:=by have:=hr.len; simp; omega
 unfold inS
 dsimp only
 rw [hl,if_neg (by show ¬ knownB (T:Int)=false; rw [hkn]; decide)]
 cases h1:rightB (T:Int) (S:Int) with
 | false =>
  rw [if_pos rfl]
  exact parseWrongS T k2 k3 k4 kk z any pd A n c l most w hr hn hm h9 N hN hb hc F S hT hF hS hkn hkd (hri.trans h1)
 | true =>
  rw [if_neg (by decide)]
  cases h2:fitsB (T:Int) (F:Int) N with
  | false =>
   rw [if_pos rfl]
   by_cases hT2:T=2
   ·rw [if_pos (by omega)]
    exact parseSz2 T k2 k3 k4 kk z any pd A n c l most w hr hn hm h9 N hN hb hc F S hT hF hS hkn hkd (hri.trans h1) (hfit.trans h2) hT2
   ·rw [if_neg (by omega)]
    exact parseSzS T k2 k3 k4 kk z any pd A n c l most w hr hn hm h9 N hN hb hc F S hT hF hS hkn hkd (hri.trans h1) (hfit.trans h2) hT2
  | true =>
   rw [if_neg (by decide)]
   cases h3:unS (T:Int) (F:Int) ((l.drop 9).take N) with
   | bad code=>exact absurd h3 (hnb code)
   | ok pad m =>
    dsimp only
    by_cases h8:(T:Int)=8∧n31 m 0=0
    ·rw [if_pos h8]
     exact parseGet T k2 k3 k4 kk z any pd A n c l most w hr hn hm h9 N hN hb hc F S hT hF hS hkn hkd (hri.trans h1) (hfit.trans h2) hun pad m h3 hcg (fun g A n c w a1 a2 a3 a4=>(hget pad m h2 h3 g A n c w a1 a2 a3 a4).1 ⟨by omega,h8.2⟩)
    ·rw [if_neg h8]
     exact parseOkS T k2 k3 k4 kk z any pd A n c l most w hr hn hm h9 N hN hb hc F S hT hF hS hkn hkd (hri.trans h1) (hfit.trans h2) hun pad m h3 hcg (fun g A n c w a1 a2 a3 a4=>(hget pad m h2 h3 g A n c w a1 a2 a3 a4).2 (fun h=>h8 ⟨by omega,h.2⟩))

theorem parse0 (A:Option Addr) (n c:Nat) (l:List UInt8) (most:Int) (w:World) (hr:Rd w A n c l) (hn:n≤281474976710656) (hm:0≤most) (h9:¬ n < 9) (N:Nat) (hN:be (l.take 3)=N) (hb:¬ most < (N:Int)) (hc:¬ n < 9+N) (F S:Nat) (hT:(l.getD 3 0).toNat=0) (hF:(l.getD 4 0).toNat=F) (hS:be ((l.drop 5).take 4) % 2147483648=S) :
  Calls Try.prog 100 #[.slice A n c,.int .i64 most] w (ParseR (inS 0 F S ((l.drop 9).take N)) w):=by
 have hF2:=(l.getD 4 0).toNat_lt
 have hf0:(0:Int)≤(F:Int):=by omega
 have hf1:(F:Int)≤255:=by omega
 have hl:((l.drop 9).take N).length=N:=by have:=hr.len; simp; omega
 have hN2:N < 16777216:=by
  have:=be_take_lt l 3
  rw [hN] at this
  have e3:(256:Nat) ^ 3=16777216:=by decide
  omega
 have hbits:=(bits_has F hf0 hf1).1
 exact parseF 0 161 163 160 164 false false true A n c l most w hr hn hm h9 N hN hb hc F S hT hF hS rfl (fun w=>kinds0 w) (by simp [rightB,zeroB]) (by decide) (by decide) (fun _=>true) (fun a w=>fitsAll _ a w) (fun args w=>callFunc_at Try.func161 (by decide) rfl args w) (by first | (simp [fitsB]; done) | (rw [hbits]; simp [fitsB])) (fun k1 g A n c m w hk hB hr hg hn=>(bcase3 (hasB F 8)).elim (fun h8=>unpad0f F S _ _ k1 _ _ _ hk rfl rfl rfl hf0 hf1 h8 g A n c m w hB hr hg hn) (fun h8=>unpad0t F S _ _ k1 _ _ _ hk rfl rfl rfl hf0 hf1 h8 g A n c m w hB hr hg hn)) (fun args w=>callFunc_at Try.func164 (by decide) rfl args w) (fun pad m hft hu g A n c w hB hr hg hn=>getRest 0 F S pad g A n c m w hB hr (by omega) (by decide))

theorem parse1 (A:Option Addr) (n c:Nat) (l:List UInt8) (most:Int) (w:World) (hr:Rd w A n c l) (hn:n≤281474976710656) (hm:0≤most) (h9:¬ n < 9) (N:Nat) (hN:be (l.take 3)=N) (hb:¬ most < (N:Int)) (hc:¬ n < 9+N) (F S:Nat) (hT:(l.getD 3 0).toNat=1) (hF:(l.getD 4 0).toNat=F) (hS:be ((l.drop 5).take 4) % 2147483648=S) :
  Calls Try.prog 100 #[.slice A n c,.int .i64 most] w (ParseR (inS 1 F S ((l.drop 9).take N)) w):=by
 have hF2:=(l.getD 4 0).toNat_lt
 have hf0:(0:Int)≤(F:Int):=by omega
 have hf1:(F:Int)≤255:=by omega
 have hl:((l.drop 9).take N).length=N:=by have:=hr.len; simp; omega
 have hN2:N < 16777216:=by
  have:=be_take_lt l 3
  rw [hN] at this
  have e3:(256:Nat) ^ 3=16777216:=by decide
  omega
 have hbits:=(bits_has F hf0 hf1).1
 exact parseF 1 161 163 160 165 false false true A n c l most w hr hn hm h9 N hN hb hc F S hT hF hS rfl (fun w=>kinds1 w) (by simp [rightB,zeroB]) (by decide) (by decide) (fun _=>true) (fun a w=>fitsAll _ a w) (fun args w=>callFunc_at Try.func161 (by decide) rfl args w) (by first | (simp [fitsB]; done) | (rw [hbits]; simp [fitsB])) (fun k1 g A n c m w hk hB hr hg hn=>(bcase3 (hasB F 8)).elim (fun h8=>(bcase3 (hasB F 32)).elim (fun h32=>unpad1ff F S _ _ k1 _ _ _ hk rfl rfl rfl hf0 hf1 h8 h32 g A n c m w hB hr hg hn) (fun h32=>unpad1tf F S _ _ k1 _ _ _ hk rfl rfl rfl hf0 hf1 h8 h32 g A n c m w hB hr hg hn)) (fun h8=>(bcase3 (hasB F 32)).elim (fun h32=>unpad1ft F S _ _ k1 _ _ _ hk rfl rfl rfl hf0 hf1 h8 h32 g A n c m w hB hr hg hn) (fun h32=>unpad1tt F S _ _ k1 _ _ _ hk rfl rfl rfl hf0 hf1 h8 h32 g A n c m w hB hr hg hn))) (fun args w=>callFunc_at Try.func165 (by decide) rfl args w) (fun pad m hft hu g A n c w hB hr hg hn=>(bcase3 (hasB F 32)).elim (fun h32=>get1f F S pad g A n c m w hB hr hg (by omega) hf0 hf1 h32) (fun h32=>get1t F S pad g A n c m w hB hr hg (by omega) hf0 hf1 h32 (by have e:=un_fixed hu; have:=hr.len; simp [fixedN,h32] at e; omega)))

theorem parse2 (A:Option Addr) (n c:Nat) (l:List UInt8) (most:Int) (w:World) (hr:Rd w A n c l) (hn:n≤281474976710656) (hm:0≤most) (h9:¬ n < 9) (N:Nat) (hN:be (l.take 3)=N) (hb:¬ most < (N:Int)) (hc:¬ n < 9+N) (F S:Nat) (hT:(l.getD 3 0).toNat=2) (hF:(l.getD 4 0).toNat=F) (hS:be ((l.drop 5).take 4) % 2147483648=S) :
  Calls Try.prog 100 #[.slice A n c,.int .i64 most] w (ParseR (inS 2 F S ((l.drop 9).take N)) w):=by
 have hF2:=(l.getD 4 0).toNat_lt
 have hf0:(0:Int)≤(F:Int):=by omega
 have hf1:(F:Int)≤255:=by omega
 have hl:((l.drop 9).take N).length=N:=by have:=hr.len; simp; omega
 have hN2:N < 16777216:=by
  have:=be_take_lt l 3
  rw [hN] at this
  have e3:(256:Nat) ^ 3=16777216:=by decide
  omega
 have hbits:=(bits_has F hf0 hf1).1
 exact parseS 2 163 168 169 5 false false false A n c l most w hr hn hm h9 N hN hb hc F S hT hF hS rfl (fun w=>kinds2 w) (by simp [rightB,zeroB]) (by simp [fitsB]; try omega) (fun k1 g A n c m w hk hB hr hg hn=>unpad0 2 F S _ _ k1 _ _ _ hk rfl rfl rfl (by decide) (by decide) (by decide) g A n c m w hB hr hg hn) (fun args w=>callFunc_at Try.func169 (by decide) rfl args w) (fun pad m hft hu g A n c w hB hr hg hn=>⟨fun h=>absurd h.1 (by decide),fun _=>get2 F S pad g A n c m w hB hr hg (by omega) (by have e:=un_len hu rfl; rw [hl] at e; have:=hr.len; simp [fitsB] at hft; omega)⟩) (fun code h=>by simp [unS,padF,paddedB,fixedN] at h)

theorem parse3 (A:Option Addr) (n c:Nat) (l:List UInt8) (most:Int) (w:World) (hr:Rd w A n c l) (hn:n≤281474976710656) (hm:0≤most) (h9:¬ n < 9) (N:Nat) (hN:be (l.take 3)=N) (hb:¬ most < (N:Int)) (hc:¬ n < 9+N) (F S:Nat) (hT:(l.getD 3 0).toNat=3) (hF:(l.getD 4 0).toNat=F) (hS:be ((l.drop 5).take 4) % 2147483648=S) :
  Calls Try.prog 100 #[.slice A n c,.int .i64 most] w (ParseR (inS 3 F S ((l.drop 9).take N)) w):=by
 have hF2:=(l.getD 4 0).toNat_lt
 have hf0:(0:Int)≤(F:Int):=by omega
 have hf1:(F:Int)≤255:=by omega
 have hl:((l.drop 9).take N).length=N:=by have:=hr.len; simp; omega
 have hN2:N < 16777216:=by
  have:=be_take_lt l 3
  rw [hN] at this
  have e3:(256:Nat) ^ 3=16777216:=by decide
  omega
 have hbits:=(bits_has F hf0 hf1).1
 exact parseS 3 163 170 171 4 false false false A n c l most w hr hn hm h9 N hN hb hc F S hT hF hS rfl (fun w=>kinds3 w) (by simp [rightB,zeroB]) (by simp [fitsB]; try omega) (fun k1 g A n c m w hk hB hr hg hn=>unpad0 3 F S _ _ k1 _ _ _ hk rfl rfl rfl (by decide) (by decide) (by decide) g A n c m w hB hr hg hn) (fun args w=>callFunc_at Try.func171 (by decide) rfl args w) (fun pad m hft hu g A n c w hB hr hg hn=>⟨fun h=>absurd h.1 (by decide),fun _=>get3 F S pad g A n c m w hB hr hg (by omega) (by have e:=un_len hu rfl; rw [hl] at e; have:=hr.len; simp [fitsB] at hft; omega)⟩) (fun code h=>by simp [unS,padF,paddedB,fixedN] at h)

theorem parse4 (A:Option Addr) (n c:Nat) (l:List UInt8) (most:Int) (w:World) (hr:Rd w A n c l) (hn:n≤281474976710656) (hm:0≤most) (h9:¬ n < 9) (N:Nat) (hN:be (l.take 3)=N) (hb:¬ most < (N:Int)) (hc:¬ n < 9+N) (F S:Nat) (hT:(l.getD 3 0).toNat=4) (hF:(l.getD 4 0).toNat=F) (hS:be ((l.drop 5).take 4) % 2147483648=S) :
  Calls Try.prog 100 #[.slice A n c,.int .i64 most] w (ParseR (inS 4 F S ((l.drop 9).take N)) w):=by
 have hF2:=(l.getD 4 0).toNat_lt
 have hf0:(0:Int)≤(F:Int):=by omega
 have hf1:(F:Int)≤255:=by omega
 have hl:((l.drop 9).take N).length=N:=by have:=hr.len; simp; omega
 have hN2:N < 16777216:=by
  have:=be_take_lt l 3
  rw [hN] at this
  have e3:(256:Nat) ^ 3=16777216:=by decide
  omega
 have hbits:=(bits_has F hf0 hf1).1
 exact parseF 4 172 173 174 175 true false false A n c l most w hr hn hm h9 N hN hb hc F S hT hF hS rfl (fun w=>kinds4 w) (by simp [rightB,zeroB]) (by decide) (by decide) (fun a=>decide (N % 6=0) && (decide (N=0) || !a)) (fun a w=>fitsSets N (by omega) a w) (fun args w=>callFunc_at Try.func172 (by decide) rfl args w) (by first | (simp [fitsB]; done) | (rw [hbits]; simp [fitsB])) (fun k1 g A n c m w hk hB hr hg hn=>unpad0 4 F S _ _ k1 _ _ _ hk rfl rfl rfl (by decide) (by decide) (by decide) g A n c m w hB hr hg hn) (fun args w=>callFunc_at Try.func175 (by decide) rfl args w) (fun pad m hft hu g A n c w hB hr hg hn=>get4 F S pad g A n c m w hB hr hg (by omega) (n / 6) (by have e:=un_len hu rfl; rw [hl] at e; have:=hr.len; simp [fitsB] at hft; omega) (by omega))

theorem parse5 (A:Option Addr) (n c:Nat) (l:List UInt8) (most:Int) (w:World) (hr:Rd w A n c l) (hn:n≤281474976710656) (hm:0≤most) (h9:¬ n < 9) (N:Nat) (hN:be (l.take 3)=N) (hb:¬ most < (N:Int)) (hc:¬ n < 9+N) (F S:Nat) (hT:(l.getD 3 0).toNat=5) (hF:(l.getD 4 0).toNat=F) (hS:be ((l.drop 5).take 4) % 2147483648=S) :
  Calls Try.prog 100 #[.slice A n c,.int .i64 most] w (ParseR (inS 5 F S ((l.drop 9).take N)) w):=by
 have hF2:=(l.getD 4 0).toNat_lt
 have hf0:(0:Int)≤(F:Int):=by omega
 have hf1:(F:Int)≤255:=by omega
 have hl:((l.drop 9).take N).length=N:=by have:=hr.len; simp; omega
 have hN2:N < 16777216:=by
  have:=be_take_lt l 3
  rw [hN] at this
  have e3:(256:Nat) ^ 3=16777216:=by decide
  omega
 have hbits:=(bits_has F hf0 hf1).1
 exact parseF 5 161 162 176 177 false false true A n c l most w hr hn hm h9 N hN hb hc F S hT hF hS rfl (fun w=>kinds5 w) (by simp [rightB,zeroB]) (by decide) (by decide) (fun _=>true) (fun a w=>fitsAll _ a w) (fun args w=>callFunc_at Try.func161 (by decide) rfl args w) (by first | (simp [fitsB]; done) | (rw [hbits]; simp [fitsB])) (fun k1 g A n c m w hk hB hr hg hn=>(bcase3 (hasB F 8)).elim (fun h8=>unpad5f F S _ _ k1 _ _ _ hk rfl rfl rfl hf0 hf1 h8 g A n c m w hB hr hg hn) (fun h8=>unpad5t F S _ _ k1 _ _ _ hk rfl rfl rfl hf0 hf1 h8 g A n c m w hB hr hg hn)) (fun args w=>callFunc_at Try.func177 (by decide) rfl args w) (fun pad m hft hu g A n c w hB hr hg hn=>get5 F S pad g A n c m w hB hr hg (by omega) (by have e:=un_fixed hu; have:=hr.len; simp [fixedN] at e; omega))

theorem parse6 (A:Option Addr) (n c:Nat) (l:List UInt8) (most:Int) (w:World) (hr:Rd w A n c l) (hn:n≤281474976710656) (hm:0≤most) (h9:¬ n < 9) (N:Nat) (hN:be (l.take 3)=N) (hb:¬ most < (N:Int)) (hc:¬ n < 9+N) (F S:Nat) (hT:(l.getD 3 0).toNat=6) (hF:(l.getD 4 0).toNat=F) (hS:be ((l.drop 5).take 4) % 2147483648=S) :
  Calls Try.prog 100 #[.slice A n c,.int .i64 most] w (ParseR (inS 6 F S ((l.drop 9).take N)) w):=by
 have hF2:=(l.getD 4 0).toNat_lt
 have hf0:(0:Int)≤(F:Int):=by omega
 have hf1:(F:Int)≤255:=by omega
 have hl:((l.drop 9).take N).length=N:=by have:=hr.len; simp; omega
 have hN2:N < 16777216:=by
  have:=be_take_lt l 3
  rw [hN] at this
  have e3:(256:Nat) ^ 3=16777216:=by decide
  omega
 have hbits:=(bits_has F hf0 hf1).1
 exact parseS 6 178 160 164 8 true false false A n c l most w hr hn hm h9 N hN hb hc F S hT hF hS rfl (fun w=>kinds6 w) (by simp [rightB,zeroB]) (by simp [fitsB]; try omega) (fun k1 g A n c m w hk hB hr hg hn=>unpad0 6 F S _ _ k1 _ _ _ hk rfl rfl rfl (by decide) (by decide) (by decide) g A n c m w hB hr hg hn) (fun args w=>callFunc_at Try.func164 (by decide) rfl args w) (fun pad m hft hu g A n c w hB hr hg hn=>⟨fun h=>absurd h.1 (by decide),fun _=>getRest 6 F S pad g A n c m w hB hr (by omega) (by decide)⟩) (fun code h=>by simp [unS,padF,paddedB,fixedN] at h)

theorem parse7 (A:Option Addr) (n c:Nat) (l:List UInt8) (most:Int) (w:World) (hr:Rd w A n c l) (hn:n≤281474976710656) (hm:0≤most) (h9:¬ n < 9) (N:Nat) (hN:be (l.take 3)=N) (hb:¬ most < (N:Int)) (hc:¬ n < 9+N) (F S:Nat) (hT:(l.getD 3 0).toNat=7) (hF:(l.getD 4 0).toNat=F) (hS:be ((l.drop 5).take 4) % 2147483648=S) :
  Calls Try.prog 100 #[.slice A n c,.int .i64 most] w (ParseR (inS 7 F S ((l.drop 9).take N)) w):=by
 have hF2:=(l.getD 4 0).toNat_lt
 have hf0:(0:Int)≤(F:Int):=by omega
 have hf1:(F:Int)≤255:=by omega
 have hl:((l.drop 9).take N).length=N:=by have:=hr.len; simp; omega
 have hN2:N < 16777216:=by
  have:=be_take_lt l 3
  rw [hN] at this
  have e3:(256:Nat) ^ 3=16777216:=by decide
  omega
 have hbits:=(bits_has F hf0 hf1).1
 exact parseF 7 179 162 180 181 true false false A n c l most w hr hn hm h9 N hN hb hc F S hT hF hS rfl (fun w=>kinds7 w) (by simp [rightB,zeroB]) (by decide) (by decide) (fun _=>decide (8≤N)) (fun a w=>fitsEight N a w) (fun args w=>callFunc_at Try.func179 (by decide) rfl args w) (by first | (simp [fitsB]; done) | (rw [hbits]; simp [fitsB])) (fun k1 g A n c m w hk hB hr hg hn=>unpad0 7 F S _ _ k1 _ _ _ hk rfl rfl rfl (by decide) (by decide) (by decide) g A n c m w hB hr hg hn) (fun args w=>callFunc_at Try.func181 (by decide) rfl args w) (fun pad m hft hu g A n c w hB hr hg hn=>get7 F S pad g A n c m w hB hr hg (by omega) (by have e:=un_len hu rfl; rw [hl] at e; have:=hr.len; simp [fitsB] at hft; omega))

theorem parse8 (A:Option Addr) (n c:Nat) (l:List UInt8) (most:Int) (w:World) (hr:Rd w A n c l) (hn:n≤281474976710656) (hm:0≤most) (h9:¬ n < 9) (N:Nat) (hN:be (l.take 3)=N) (hb:¬ most < (N:Int)) (hc:¬ n < 9+N) (F S:Nat) (hT:(l.getD 3 0).toNat=8) (hF:(l.getD 4 0).toNat=F) (hS:be ((l.drop 5).take 4) % 2147483648=S) :
  Calls Try.prog 100 #[.slice A n c,.int .i64 most] w (ParseR (inS 8 F S ((l.drop 9).take N)) w):=by
 have hF2:=(l.getD 4 0).toNat_lt
 have hf0:(0:Int)≤(F:Int):=by omega
 have hf1:(F:Int)≤255:=by omega
 have hl:((l.drop 9).take N).length=N:=by have:=hr.len; simp; omega
 have hN2:N < 16777216:=by
  have:=be_take_lt l 3
  rw [hN] at this
  have e3:(256:Nat) ^ 3=16777216:=by decide
  omega
 have hbits:=(bits_has F hf0 hf1).1
 exact parseS 8 182 183 184 4 false true false A n c l most w hr hn hm h9 N hN hb hc F S hT hF hS rfl (fun w=>kinds8 w) (by simp [rightB,zeroB]) (by simp [fitsB]; try omega) (fun k1 g A n c m w hk hB hr hg hn=>unpad0 8 F S _ _ k1 _ _ _ hk rfl rfl rfl (by decide) (by decide) (by decide) g A n c m w hB hr hg hn) (fun args w=>callFunc_at Try.func184 (by decide) rfl args w) (fun pad m hft hu g A n c w hB hr hg hn=>⟨fun h=>get8b F S pad g A n c m w hB hr hg (by omega) (by have e:=un_len hu rfl; rw [hl] at e; have:=hr.len; simp [fitsB] at hft; omega) h.2,fun h=>get8 F S pad g A n c m w hB hr hg (by omega) (by have e:=un_len hu rfl; rw [hl] at e; have:=hr.len; simp [fitsB] at hft; omega) (fun hi=>h ⟨rfl,hi⟩)⟩) (fun code h=>by simp [unS,padF,paddedB,fixedN] at h)

theorem parse9 (A:Option Addr) (n c:Nat) (l:List UInt8) (most:Int) (w:World) (hr:Rd w A n c l) (hn:n≤281474976710656) (hm:0≤most) (h9:¬ n < 9) (N:Nat) (hN:be (l.take 3)=N) (hb:¬ most < (N:Int)) (hc:¬ n < 9+N) (F S:Nat) (hT:(l.getD 3 0).toNat=9) (hF:(l.getD 4 0).toNat=F) (hS:be ((l.drop 5).take 4) % 2147483648=S) :
  Calls Try.prog 100 #[.slice A n c,.int .i64 most] w (ParseR (inS 9 F S ((l.drop 9).take N)) w):=by
 have hF2:=(l.getD 4 0).toNat_lt
 have hf0:(0:Int)≤(F:Int):=by omega
 have hf1:(F:Int)≤255:=by omega
 have hl:((l.drop 9).take N).length=N:=by have:=hr.len; simp; omega
 have hN2:N < 16777216:=by
  have:=be_take_lt l 3
  rw [hN] at this
  have e3:(256:Nat) ^ 3=16777216:=by decide
  omega
 have hbits:=(bits_has F hf0 hf1).1
 exact parseF 9 161 163 160 164 false false false A n c l most w hr hn hm h9 N hN hb hc F S hT hF hS rfl (fun w=>kinds9 w) (by simp [rightB,zeroB]) (by decide) (by decide) (fun _=>true) (fun a w=>fitsAll _ a w) (fun args w=>callFunc_at Try.func161 (by decide) rfl args w) (by first | (simp [fitsB]; done) | (rw [hbits]; simp [fitsB])) (fun k1 g A n c m w hk hB hr hg hn=>unpad0 9 F S _ _ k1 _ _ _ hk rfl rfl rfl (by decide) (by decide) (by decide) g A n c m w hB hr hg hn) (fun args w=>callFunc_at Try.func164 (by decide) rfl args w) (fun pad m hft hu g A n c w hB hr hg hn=>getRest 9 F S pad g A n c m w hB hr (by omega) (by decide))

theorem known10 {T:Nat} (h:knownB (T:Int)=true):T=0∨T=1∨T=2∨T=3∨T=4∨T=5∨T=6∨T=7∨T=8∨T=9:=by
 simp [knownB] at h
 omega
theorem Parse_any (A:Option Addr) (n c:Nat) (l:List UInt8) (most:Int) (w:World) (hr:Rd w A n c l) (hn:n≤281474976710656):Calls Try.prog 100 #[.slice A n c,.int .i64 most] w (ParseR (ps l most) w):=by
 have hlen:=hr.len
 unfold ps
 by_cases hm:most < 0
 ·rw [if_pos hm]
  exact parseNeg A n c most w hm
 rw [if_neg hm]
 by_cases h9:n < 9
 ·rw [if_pos (by omega)]
  exact parseShort A n c l most w hr hn (by omega) h9
 rw [if_neg (by omega)]
 obtain ⟨N,hN⟩:∃ N,be (l.take 3)=N:=⟨_,rfl⟩
 rw [hN]
 by_cases hb:most < (N:Int)
 ·rw [if_pos hb]
  exact parseLong A n c l most w hr hn (by omega) h9 N hN hb
 rw [if_neg hb]
 by_cases hc:n < 9+N
 ·rw [if_pos (by omega)]
  exact parseCut A n c l most w hr hn (by omega) h9 N hN hb hc
 rw [if_neg (by omega)]
 obtain ⟨T,hT⟩:∃ T,(l.getD 3 0).toNat=T:=⟨_,rfl⟩
 obtain ⟨F,hF⟩:∃ F,(l.getD 4 0).toNat=F:=⟨_,rfl⟩
 obtain ⟨S,hS⟩:∃ S,be ((l.drop 5).take 4) % 2147483648=S:=⟨_,rfl⟩
 have e31:n31 l 5=(S:Int):=by rw [n31,hS]
 rw [hT,hF,e31]
 cases hkn:knownB (T:Int) with
 | false =>
  have hl:((l.drop 9).take N).length=N:=by simp; omega
  unfold inS
  dsimp only
  rw [hl,if_pos (by exact hkn)]
  exact parseUnknown A n c l most w hr hn (by omega) h9 N hN hb hc T F S hT hF hS hkn
 | true =>
  rcases known10 hkn with rfl | rfl | rfl | rfl | rfl | rfl | rfl | rfl | rfl | rfl
  ·exact parse0 A n c l most w hr hn (by omega) h9 N hN hb hc F S hT hF hS
  ·exact parse1 A n c l most w hr hn (by omega) h9 N hN hb hc F S hT hF hS
  ·exact parse2 A n c l most w hr hn (by omega) h9 N hN hb hc F S hT hF hS
  ·exact parse3 A n c l most w hr hn (by omega) h9 N hN hb hc F S hT hF hS
  ·exact parse4 A n c l most w hr hn (by omega) h9 N hN hb hc F S hT hF hS
  ·exact parse5 A n c l most w hr hn (by omega) h9 N hN hb hc F S hT hF hS
  ·exact parse6 A n c l most w hr hn (by omega) h9 N hN hb hc F S hT hF hS
  ·exact parse7 A n c l most w hr hn (by omega) h9 N hN hb hc F S hT hF hS
  ·exact parse8 A n c l most w hr hn (by omega) h9 N hN hb hc F S hT hF hS
  ·exact parse9 A n c l most w hr hn (by omega) h9 N hN hb hc F S hT hF hS
end Go.Proofs.Ytkmcakneceagpaa

namespace Go.Proofs.Ytkmcakneceagpaa
open Go.RowKit
theorem Ow.put {w:World} {base:Nat} {e:TypeId} {g n c:Nat} {ys:List UInt8} (h:Ow w base e 1 (some ⟨g,0,none⟩) n c (ys.map u8)) (k:Nat) (hk:k < n) (v:UInt8):Ow (w.setCell ⟨g,k,none⟩ (u8 v)) base e 1 (some ⟨g,0,none⟩) n c ((ys.set k v).map u8):=by
 have hl:=h.len
 refine ⟨by simpa using hl,?_⟩
 rcases h.2 with ⟨he,_⟩ | ⟨g',cap,cur,he,hb,hg,h1,h2,h3,h4⟩
 ·cases he
 ·injection he with e1 _ e3
  injection e1 with e1
  injection e1 with e1
  subst e1 e3
  refine .inr ⟨g,c,cur.setIfInBounds k (u8 v),rfl,hb,hp_set w g k (u8 v) cur e hg,h1,h2,by simpa using h3,?_⟩
  rw [List.map_set,← h4]
  simp only [Array.toList_setIfInBounds,List.take_set]
theorem Ow.of {w:World} {base:Nat} {e:TypeId} {A:Option Addr} {n c:Nat} {ys:List UInt8} (h:Ow w base e 1 A n c (ys.map u8)) (hn:0 < n):∃ g,A=some ⟨g,0,none⟩∧base≤g∧g < w.heap.size∧ys.length=n∧(∀ j,w.frozen? ⟨g,j,none⟩=false)∧∀ k,k < n→w.cell? ⟨g,k,none⟩=some (.int .u8 ((ys.getD k 0).toNat:Int)):=by
 have hl:ys.length=n:=by have:=h.len; simpa using this
 rcases h.2 with ⟨he,h0⟩ | ⟨g,cap,cur,he,hb,hg,h1,h2,h3,h4⟩
 ·omega
 ·injection he with e1 _ e3
  subst e1 e3
  refine ⟨g,rfl,hb,lt_of_heap hg,hl,frozen_of hg,fun k hk=>?_⟩
  rw [cell_of hg,← Array.getElem?_toList]
  have h5:(cur.toList.take (n * 1))[k]?=cur.toList[k]?:=by rw [List.getElem?_take,if_pos (by omega)]
  rw [← h5,h4]
  simp [u8,List.getD_eq_getElem?_getD,List.getElem?_eq_getElem (show k < ys.length by omega)]
theorem FrP.cs {w:World} {base:Nat} {f:Fr} {p:Fp} (h:FrP w base f p):f.ty=p.ty∧f.fl=p.fl∧f.st=p.st∧f.pad=p.pad∧f.code=p.code∧f.last=p.last∧f.inc=p.inc∧f.dep=p.dep∧f.only=p.only∧f.wt=p.wt:=by
 have e:=h.eq
 obtain ⟨ty,fl,st,pA,pn,pc,pad,code,last,inc,dep,only,wt,sA,sn,sc⟩:=f
 obtain ⟨ty',fl',st',pl,pad',code',last',inc',dep',only',wt',ss⟩:=p
 simp only [Fr.p,Fp.mk.injEq] at e
 simp [e]
end Go.Proofs.Ytkmcakneceagpaa

namespace Go.Proofs.Ytkmcakneceagpaa
open Go.RowKit
def RdS (w:World) (g:Nat) (D:List Nat) (most:Int) (is:Bool) (xs xc:Int) (l:List UInt8):Prop :=
 ∃ A n c,w.heap[g]?=some (.cells #[.bool true,.int .i64 most,.slice A n c,.bool is,.int .i64 xs,.int .i64 xc] 148)∧Ow w 0 5 1 A n c (l.map u8)∧g∉ob A∧∀ t,t∈ob A→t∈D
theorem RdS.keep {w w':World} {g:Nat} {D S:List Nat} {most:Int} {is:Bool} {xs xc:Int} {l:List UInt8} (h:RdS w g D most is xs xc l) (k:Kp S w w') (hg:g∉S) (hD:∀ t,t∈D→t∉S):RdS w' g D most is xs xc l:=by
 obtain ⟨A,n,c,h1,h2,h3,h4⟩:=h
 exact ⟨A,n,c,k.heap h1 hg,h2.keep k (fun b hb=>hD b (h4 b hb)),h3,h4⟩
theorem RdS.lt {w:World} {g:Nat} {D:List Nat} {most:Int} {is:Bool} {xs xc:Int} {l:List UInt8} (h:RdS w g D most is xs xc l):g < w.heap.size:=by
 obtain ⟨A,n,c,h1,_⟩:=h
 exact lt_of_heap h1
theorem RdNew (most:Int) (hm0:16384≤most) (hm1:most≤16777215) (w:World):Calls Try.prog 107 #[.int .i64 most] w fun e w'=>∃ g,e=.returned (.tuple #[.pointer (some ⟨g,0,none⟩),.int .i64 0])∧g=w.heap.size∧RdS w' g [] most false 0 0 []∧Kp [] w w':=by
 go_enter Try.func107,Try.ntmps107
 go_wp2
 refine bodyPost_ret (v:=.tuple #[.pointer (some ⟨w.heap.size,0,none⟩),.int .i64 0]) (by simp [results,Try.results107,go_sem]) rfl ⟨w.heap.size,rfl,rfl,⟨none,0,0,?_,Ow.nil _ _ _ _,by simp [ob],by simp [ob]⟩,by with_reducible (repeat (first|exact Kp.refl _ _|assumption|refine Kp.alloc ?_ _|refine Kp.drew ?_|refine Kp.drewN ?_ _|(refine Kp.setL ?_ ?_ _;focus (simp;done))|(refine Kp.setR ?_ ?_ _;focus (first|(simp;done)|(simp;omega)))))⟩
 with_reducible (repeat (first|assumption|(refine hp_new _ _ _ ?_;focus (simp;done))|refine hpl ?_|(refine hpf ?_ ?_;focus (first|(simp;done)|(simp;omega)))|refine hpd ?_|refine hpe ?_))
theorem RdNone (g:Nat) (w:World) (c0:w.cell? ⟨g,0,none⟩=some (.bool true)):Calls Try.prog 157 #[.pointer (some ⟨g,0,none⟩)] w (BoolR false w):=by
 have hl:g < w.heap.size:=World.block_lt_of_cell? w _ c0
 go_enter Try.func157,Try.ntmps157
 go_wp2
 all_goals (go_ret; exact ⟨by simp,rfl⟩)
theorem RdFailed (g:Nat) (w:World) (A:Option Addr) (n c:Nat) (most:Int) (is:Bool) (xs xc:Int) (h:w.heap[g]?=some (.cells #[.bool true,.int .i64 most,.slice A n c,.bool is,.int .i64 xs,.int .i64 xc] 148)):Calls Try.prog 106 #[.pointer (some ⟨g,0,none⟩)] w fun e w'=>e=.returned (.bool is)∧Kp [] w w':=by
 have c0:=cell_of h 0
 have c3:=cell_of h 3
 have hl:=lt_of_heap h
 clear h
 go_enter Try.func106,Try.ntmps106
 go_wp2
 all_goals (go_ret; exact ⟨by simp,by with_reducible (repeat (first|exact Kp.refl _ _|assumption|refine Kp.alloc ?_ _|refine Kp.drew ?_|refine Kp.drewN ?_ _|(refine Kp.setL ?_ ?_ _;focus (simp;done))|(refine Kp.setR ?_ ?_ _;focus (first|(simp;done)|(simp;omega)))))⟩)
theorem RdRest (g:Nat) (w:World) (A:Option Addr) (n c:Nat) (most:Int) (is:Bool) (xs xc:Int) (h:w.heap[g]?=some (.cells #[.bool true,.int .i64 most,.slice A n c,.bool is,.int .i64 xs,.int .i64 xc] 148)):Calls Try.prog 105 #[.pointer (some ⟨g,0,none⟩)] w fun e w'=>e=.returned (.int .i64 n)∧Kp [] w w':=by
 have c0:=cell_of h 0
 have c2:=cell_of h 2
 have hl:=lt_of_heap h
 clear h
 go_enter Try.func105,Try.ntmps105
 go_wp2
 all_goals (go_ret; exact ⟨by simp,by with_reducible (repeat (first|exact Kp.refl _ _|assumption|refine Kp.alloc ?_ _|refine Kp.drew ?_|refine Kp.drewN ?_ _|(refine Kp.setL ?_ ?_ _;focus (simp;done))|(refine Kp.setR ?_ ?_ _;focus (first|(simp;done)|(simp;omega)))))⟩)
theorem RdFeedS (g:Nat) (w:World) (B:Option Addr) (m d:Nat) (A:Option Addr) (n c:Nat) (most:Int) (xs xc:Int) (h:w.heap[g]?=some (.cells #[.bool true,.int .i64 most,.slice A n c,.bool true,.int .i64 xs,.int .i64 xc] 148)):Calls Try.prog 104 #[.pointer (some ⟨g,0,none⟩),.slice B m d] w fun e w'=>e=.returned (.int .i64 5)∧Kp [] w w':=by
 have c0:=cell_of h 0
 have c3:=cell_of h 3
 have hl:=lt_of_heap h
 clear h
 go_enter Try.func104,Try.ntmps104
 go_wp2
 all_goals (go_ret; exact ⟨by simp,by with_reducible (repeat (first|exact Kp.refl _ _|assumption|refine Kp.alloc ?_ _|refine Kp.drew ?_|refine Kp.drewN ?_ _|(refine Kp.setL ?_ ?_ _;focus (simp;done))|(refine Kp.setR ?_ ?_ _;focus (first|(simp;done)|(simp;omega)))))⟩)
theorem RdFeed (g:Nat) (D:List Nat) (w:World) (B:Option Addr) (m d:Nat) (y l:List UInt8) (most:Int) (xs xc:Int) (h:RdS w g D most false xs xc l) (hy:Rd w B m d y) (hlen:l.length+m≤211106232532992):Calls Try.prog 104 #[.pointer (some ⟨g,0,none⟩),.slice B m d] w fun e w'=>e=.returned (.int .i64 0)∧∃ D',(∀ t,t∈D'→t∈D∨w.heap.size≤t)∧(∀ t,t∈D'→t < w'.heap.size)∧RdS w' g D' most false xs xc (l++y)∧Kp (g :: D) w w':=by
 obtain ⟨A,n,c,h1,h2,h3,h4⟩:=h
 have hn:l.length=n:=by have:=h2.len; simpa using this
 have c0:=cell_of h1 0
 have c2:=cell_of h1 2
 have c3:=cell_of h1 3
 have hl:=lt_of_heap h1
 have HH:=Lib.hid h1
 have HO:=Lib.hid h2
 have HY:=Lib.hid hy
 clear h1 h2 hy
 go_enter Try.func104,Try.ntmps104
 go_wp2_with fail
 refine (RdNone g w c0).mono ?_
 rintro e w9 ⟨rfl,rfl⟩
 go_wp2_with (with_reducible refine stopAt (o:=⟨some 20,_,_,_,_,_⟩) ?_)
 refine Stop.go (wp_appB rfl _ _ 22 5 rfl Try.underlying22 Try.info5 0 A n c l rfl HO.out B m d y rfl HY.out (by omega) (Nat.zero_le _) ?_)
 intro A' n' c' l' w1 hn' hl' O' K' hA'
 have H1:=Lib.hid (K'.heap HH.out h3)
 have hlt1:=lt_of_heap H1.out
 have hb':=HO.out.base
 have HN:=Lib.hid hn'
 have HL:=Lib.hid hl'
 have HO':=Lib.hid O'
 have HK:=Lib.hid K'
 have HA':=Lib.hid hA'
 have HBB:=Lib.hid hb'
 have d2:=cell_of H1.out 2
 have dz:=frozen_of H1.out
 clear hn' hl' O' K' hA' hb' c0 c2 c3 HH HO HY
 go_wp2
 go_ret
 have hgA':g∉ob A':=by
  rcases HA'.out with h | h
  ·rw [h]; exact h3
  ·rw [h]; simp [ob]; omega
 have hAD:∀ t,t∈ob A'→t∈D∨w.heap.size≤t:=by
  intro t ht
  rcases HA'.out with h | h
  ·rw [h] at ht; exact .inl (h4 t ht)
  ·rw [h] at ht; simp [ob] at ht; exact .inr (by omega)
 have KS:Kp [g] w1 (w1.setCell ⟨g,2,none⟩ (.slice A' n' c')):=(Kp.refl [g] w1).setCell (.inl (by simp)) _
 refine ⟨rfl,ob A',hAD,fun t ht=>Nat.lt_of_lt_of_le (HO'.out.base t ht).2 KS.size,⟨A',n',c',hp_set _ _ _ _ _ _ H1.out,?_,hgA',fun t h=>h⟩,(HK.out.mono (fun s hs=>.inl (List.mem_cons_of_mem _ (h4 s hs)))).setCell (.inl (by simp)) _⟩
 rw [← HL.out]
 exact HO'.out.keep ((Kp.refl [g] w1).setCell (.inl (by simp)) _) (fun b hb hs=>by simp at hs; subst hs; exact hgA' hb)
end Go.Proofs.Ytkmcakneceagpaa

namespace Go.Proofs.Ytkmcakneceagpaa

section
variable {P:Program} {ops:Array Oper} {Q:Exit→Act→World→Prop}

structure EnvAt3 (ops:Array Oper) (V:Nat→Nat→Value→World→Prop) (cs:List Nat) (k j:Nat) (a0:Act) (o:Oper) (a:Act) (w:World):Prop where
 defers:a.defers=a0.defers
 pred:∀ (i:Nat) (oi:Oper) (d:Tmp),ops[i]?=some oi→oi.dst=some d→waits o i=true→∃ v,a.tmps[d]?=some v∧V i k v w
 out:∀ t,(ops.toList.all fun p=>p.dst != some t || waits p j)=true→a.tmps[t]?=a0.tmps[t]?
 lim:∀ (p i:Nat) (oi:Oper),cs[p]?=some i→ops[i]?=some oi→waits oi j=true→k≤p
def Obl3 (P:Program) (ops:Array Oper) (V:Nat→Nat→Value→World→Prop) (C:Nat→World→Prop) (RC:Nat→World→World→Prop) (RF:World→World→Prop) (Q:Exit→Act→World→Prop) (a0:Act) (cs fs:List Nat) (j:Nat) (o:Oper):Prop :=
 match cs.idxOf? j with
 | some p=>∀ (a:Act) (w:World),EnvAt3 ops V cs p j a0 o a w→C p w→∀ K:Act→World→Prop,(∀ v w',V j (p+1) v w'→C (p+1) w'→RC p w w'→K (a.put o.dst v) w') →
   if Region.wanted o (yielded ops a.tmps)=true then o.wp P a w K Q else K (a.put o.dst undef) w
 | none =>
  if fs.contains j=true then ∀ (k:Nat) (a:Act) (w:World),EnvAt3 ops V cs k j a0 o a w→C k w→∀ K:Act→World→Prop,(∀ v w',V j k v w'→C k w'→RF w w'→K (a.put o.dst v) w') →
   if Region.wanted o (yielded ops a.tmps)=true then o.wp P a w K Q else K (a.put o.dst undef) w
  else ∀ (k:Nat) (a:Act) (w:World),EnvAt3 ops V cs k j a0 o a w→C k w→∀ K:Act→World→Prop,(∀ v,V j k v w→K (a.put o.dst v) w) →
   if Region.wanted o (yielded ops a.tmps)=true then o.wp P a w K Q else K (a.put o.dst undef) w
theorem env_any3 (V:Nat→Nat→Value→World→Prop) (C:Nat→World→Prop) (RC:Nat→World→World→Prop) (RF:World→World→Prop) (cs fs:List Nat) (a0:Act) (hdist:apartDst ops.toList=true) (hbelow:dstsBelow a0.tmps.size ops.toList=true)
  (hnd:cs.Nodup) (hch:chained ops cs=true) (hstab:∀ p j v w w',p < cs.length→cs[p]?≠some j→RC p w w'→V j p v w→V j (p+1) v w') (hfree:∀ k j v w w',RF w w'→V j k v w→V j k v w')
  (hop:∀ (j:Nat) (o:Oper),ops[j]?=some o→Obl3 P ops V C RC RF Q a0 cs fs j o)
  (hend:∀ (listed:Array Bool) (a:Act) (w:World),EnvMid2 ops V C cs a0 listed a w→Region.ready .any ops listed=[]→Q .normal a w) :
  ∀ (fuel:Nat) (listed:Array Bool) (a:Act) (w:World),EnvMid2 ops V C cs a0 listed a w→fuel+(listed.toList.filter id).length=ops.size→wpAny P .any ops Q fuel listed a w:=by
 intro fuel
 induction fuel with
 | zero =>
  intro listed a w E hf
  have hall:Region.ready .any ops listed=[]:=by
   rw [List.eq_nil_iff_forall_not_mem]
   intro i hi
   obtain ⟨hlt,hnl,_⟩:=ready_spec hi
   have e1:=E.lsize
   have e2:listed.toList.length=listed.size:=Array.length_toList
   have hl:(listed.toList.filter id).length=listed.toList.length:=by omega
   rw [List.length_filter_eq_length_iff] at hl
   have hlt':i < listed.size:=by rw [E.lsize]; exact hlt
   have h1:=hl listed[i] (by simp)
   rw [Array.getD_eq_getD_getElem?,Array.getElem?_eq_getElem hlt'] at hnl
   simp at hnl h1
   rw [h1] at hnl
   cases hnl
  exact ⟨hall,hend listed a w E hall⟩
 | succ fuel ih =>
  intro listed a w E hf
  refine ⟨fun h=>hend listed a w E h,fun i hi=>?_⟩
  obtain ⟨hlt,hnl,o,ho,hpre⟩:=ready_spec hi
  have hlt':i < listed.size:=by rw [E.lsize]; exact hlt
  have hnl':listed[i]?=some false:=by
   rw [Array.getD_eq_getD_getElem?,Array.getElem?_eq_getElem hlt'] at hnl
   rw [Array.getElem?_eq_getElem hlt']
   simpa using hnl
  have hpre':∀ e∈o.after,Region.binds .any e=true→listed[e.on]?=some true:=fun e he hb=>getD_true (hpre e he hb)
  obtain ⟨k,hk,hCk,hstage,hdone⟩:=E.stage
  have EA:EnvAt3 ops V cs k i a0 o a w:=⟨E.defers,fun i' oi d hi' hd hw=>by
   unfold waits at hw
   rw [← Array.any_toList,List.any_eq_true] at hw
   obtain ⟨e,he,hb⟩:=hw
   rw [Array.mem_toList_iff] at he
   simp only [Bool.and_eq_true,beq_iff_eq] at hb
   obtain ⟨hb1,rfl⟩:=hb
   exact hdone _ oi d (hpre' e he hb1) hi' hd,fun t ht=>E.out t (fun j' o' ho' hd' hl=>by
   rw [List.all_eq_true] at ht
   have h1:=ht o' (List.mem_of_getElem? (by rw [Array.getElem?_toList]; exact ho'))
   rw [hd'] at h1
   have h2:waits o' i=true:=by simpa using h1
   unfold waits at h2
   rw [← Array.any_toList,List.any_eq_true] at h2
   obtain ⟨e,he,hb⟩:=h2
   rw [Array.mem_toList_iff] at he
   simp only [Bool.and_eq_true,beq_iff_eq] at hb
   have h3:=E.shut j' o' hl ho' e he hb.1
   rw [hb.2,hnl'] at h3
   cases h3),fun p i' oi hp hoi hw=>by
   rcases Nat.lt_or_ge p k with h | h
   ·have hl:=(hstage p i' hp).2 h
    unfold waits at hw
    rw [← Array.any_toList,List.any_eq_true] at hw
    obtain ⟨e,he,hb⟩:=hw
    rw [Array.mem_toList_iff] at he
    simp only [Bool.and_eq_true,beq_iff_eq] at hb
    have h3:=E.shut i' oi hl hoi e he hb.1
    rw [hb.2,hnl'] at h3
    cases h3
   ·exact h⟩
  have hset:∀ j,(listed.setIfInBounds i true)[j]?=some true ↔ (j=i∨listed[j]?=some true):=by
   intro j
   rw [Array.getElem?_setIfInBounds]
   by_cases hj:i=j
   ·subst hj; simp [hlt']
   ·simp [hj,Ne.symm hj]
  have next:∀ (v:Value) (w':World) (k':Nat),V i k' v w'→(∀ j u,j≠i→V j k u w→V j k' u w')→k'≤cs.length→C k' w'→(∀ p j,cs[p]?=some j→((j=i∨listed[j]?=some true) ↔ p < k')) →
    EnvMid2 ops V C cs a0 (listed.setIfInBounds i true) (a.put o.dst v) w':=by
   intro v w' k' hv hst hk hC hp
   refine ⟨?_,by rw [put_size]; exact E.size,by simp [E.lsize],?_,?_,⟨k',hk,hC,fun p j hj=>by rw [hset]; exact hp p j hj,?_⟩⟩
   ·have:=E.defers
    cases hd:o.dst <;> simpa [Act.put] using this
   ·intro t ht
    have h1:o.dst≠some t:=fun e=>ht i o ho e (by rw [hset]; exact .inl rfl)
    rw [put_get_other _ _ _ _ h1]
    exact E.out t (fun j' o' ho' hd' hl=>ht j' o' ho' hd' (by rw [hset]; exact .inr hl))
   ·intro j oj hj hoj e he hb
    rw [hset] at hj ⊢
    rcases hj with rfl | hj
    ·rw [ho] at hoj
     obtain rfl:=Option.some.inj hoj
     exact .inr (hpre' e he hb)
    ·exact .inr (E.shut j oj hj hoj e he hb)
   ·intro j oj d hj hoj hd
    rw [hset] at hj
    by_cases hji:j=i
    ·subst hji
     rw [ho] at hoj
     obtain rfl:=Option.some.inj hoj
     have hds:d < a.tmps.size:=by
      rw [E.size]
      unfold dstsBelow at hbelow
      simp only [List.all_eq_true] at hbelow
      have:=hbelow o (List.mem_of_getElem? (by rw [Array.getElem?_toList]; exact ho))
      rw [hd] at this
      simpa using this
     exact ⟨v,by rw [hd]; exact put_get_same _ _ _ hds,hv⟩
    ·have hl:listed[j]?=some true:=by rcases hj with h | h; exact absurd h hji; exact h
     obtain ⟨u,hu,hVu⟩:=hdone j oj d hl hoj hd
     refine ⟨u,?_,hst j u hji hVu⟩
     have h1:o.dst≠some d:=fun e=>hji (apartDst_spec ops.toList hdist j i oj o d (by rw [Array.getElem?_toList]; exact hoj) (by rw [Array.getElem?_toList]; exact ho) hd e)
     rw [put_get_other _ _ _ _ h1]
     exact hu
  have hcount:fuel+((listed.setIfInBounds i true).toList.filter id).length=ops.size:=by
   have h1:((listed.setIfInBounds i true).toList.filter id).length=(listed.toList.filter id).length+1:=by
    rw [Array.toList_setIfInBounds]
    have hi':i < listed.toList.length:=by simpa using hlt'
    have hv:listed.toList[i]=false:=by
     have:=hnl'
     rw [Array.getElem?_eq_getElem hlt'] at this
     simpa using this
    rw [List.set_eq_take_append_cons_drop,if_pos hi',List.filter_append,List.filter_cons]
    have hsplit:listed.toList=listed.toList.take i++listed.toList[i] :: listed.toList.drop (i+1):=by rw [List.getElem_cons_drop hi',List.take_append_drop]
    have h2:(listed.toList.filter id).length=((listed.toList.take i).filter id).length+((listed.toList.drop (i+1)).filter id).length:=by
     conv=>lhs; rw [hsplit]
     rw [List.filter_append,List.filter_cons,hv]
     simp
    rw [h2]
    simp
    omega
   omega
  have hO:=hop i o ho
  unfold wpOp
  rw [ho]
  show if Region.wanted o (yielded ops a.tmps)=true then _ else _
  cases hidx:cs.idxOf? i with
  | some p =>
   unfold Obl3 at hO
   rw [hidx] at hO
   have hp:cs[p]?=some i:=by
    rw [List.idxOf?_eq_some_iff] at hidx
    obtain ⟨h1,h2,_⟩:=hidx
    rw [List.getElem?_eq_getElem h1]
    simpa using h2
   have hplt:p < cs.length:=(List.getElem?_eq_some_iff.1 hp).1
   have hpk:p=k:=by
    have h1:¬ p < k:=fun h=>by
     have:=(hstage p i hp).2 h
     rw [hnl'] at this
     cases this
    have h2:¬ k < p:=fun h=>by
     obtain ⟨q,rfl⟩:∃ q,p=q+1:=⟨p - 1,by omega⟩
     have hq:q < cs.length:=by omega
     have hqi:cs[q]?=some cs[q]:=List.getElem?_eq_getElem hq
     have hw:=chained_get (ops:=ops) cs hch q cs[q] i hqi hp
     have hl:=waitsAll_listed (ops:=ops) E.shut cs[q] 40 i (fun o' ho' e he hb=>by rw [ho] at ho'; obtain rfl:=Option.some.inj ho'; exact hpre' e he hb) hw
     have:=(hstage q cs[q] hqi).1 hl
     omega
    omega
   subst hpk
   have hfin:=hO a w EA hCk (fun a' w'=>wpAny P .any ops Q fuel (listed.setIfInBounds i true) a' w') (fun v w' hv hC hR=>by
    refine ih _ _ _ (next v w' (p+1) hv (fun j u hji h=>hstab p j u w w' hplt (fun e=>hji (Option.some.inj (hp.symm.trans e)).symm) hR h) hplt hC ?_) hcount
    intro q j hq
    constructor
    ·intro h
     rcases h with rfl | h
     ·have:q=p:=by
       have hql:q < cs.length:=(List.getElem?_eq_some_iff.1 hq).1
       exact (List.getElem?_inj hql hnd).1 (hq.trans hp.symm)
      omega
     ·have:=(hstage q j hq).1 h
      omega
    ·intro h
     by_cases hqp:q=p
     ·subst hqp
      rw [hp] at hq
      exact .inl (Option.some.inj hq).symm
     ·exact .inr ((hstage q j hq).2 (by omega)))
   split
   ·rename_i hw; rw [if_pos hw] at hfin; exact .inl hfin
   ·rename_i hw; rw [if_neg hw] at hfin; exact hfin
  | none =>
   unfold Obl3 at hO
   rw [hidx] at hO
   have hni:i∉cs:=by
    intro hm
    rw [List.idxOf?_eq_none_iff] at hidx
    exact hidx hm
   have hst:∀ q j,cs[q]?=some j→((j=i∨listed[j]?=some true) ↔ q < k):=by
    intro q j hq
    have hji:j≠i:=fun e=>hni (e ▸ List.mem_of_getElem? hq)
    simp only [hji,false_or]
    exact hstage q j hq
   have hfin:if Region.wanted o (yielded ops a.tmps)=true then o.wp P a w (fun a' w'=>wpAny P .any ops Q fuel (listed.setIfInBounds i true) a' w') Q else wpAny P .any ops Q fuel (listed.setIfInBounds i true) (a.put o.dst undef) w:=by
    cases hf:fs.contains i with
    | true =>
     simp only [hf,if_true] at hO
     exact hO k a w EA hCk (fun a' w'=>wpAny P .any ops Q fuel (listed.setIfInBounds i true) a' w') (fun v w' hv hC hR=>ih _ _ _ (next v w' k hv (fun j u _ h=>hfree k j u w w' hR h) hk hC hst) hcount)
    | false =>
     simp only [hf,Bool.false_eq_true,if_false] at hO
     exact hO k a w EA hCk (fun a' w'=>wpAny P .any ops Q fuel (listed.setIfInBounds i true) a' w') (fun v hv=>ih _ _ _ (next v w k hv (fun _ _ _ h=>h) hk hCk hst) hcount)
   split
   ·rename_i hw; rw [if_pos hw] at hfin; exact .inl hfin
   ·rename_i hw; rw [if_neg hw] at hfin; exact hfin

theorem wp_region_env3 {rid:Nat} {a0:Act} {w0:World} (hm:P.follows .mixedOrders=true) (V:Nat→Nat→Value→World→Prop) (C:Nat→World→Prop) (RC:Nat→World→World→Prop) (RF:World→World→Prop) (cs fs:List Nat)
  (hdist:apartDst ops.toList=true) (hbelow:dstsBelow a0.tmps.size ops.toList=true) (hord:orderly ops.toList=true) (hnd:cs.Nodup) (hch:chained ops cs=true)
  (hstab:∀ p j v w w',p < cs.length→cs[p]?≠some j→RC p w w'→V j p v w→V j (p+1) v w') (hfree:∀ k j v w w',RF w w'→V j k v w→V j k v w') (hC:C 0 w0.drew)
  (hop:OblAll (Obl3 P ops V C RC RF Q a0 cs fs) 0 ops.toList)
  (hcs:cs.all (fun i=>decide (i < ops.size))=true)
  (hend:∀ (vs:Nat→Value) (w:World),C cs.length w→(∀ j o,ops[j]?=some o→o.dst≠none→V j cs.length (vs j) w)→Q .normal (putAll vs 0 ops.toList a0) w) :
  (Code.region rid ops true).wp P Q a0 w0:=by
 refine wp_region_any hm ?_
 refine env_any3 V C RC RF cs fs a0 hdist hbelow hnd hch hstab hfree (fun j o ho=>by
  have:=OblAll.get ops.toList 0 hop j o (by rw [Array.getElem?_toList]; exact ho)
  simpa using this) ?_ ops.size (Array.replicate ops.size false) a0 _ ?_ ?_
 ·intro listed a w E hr
  have hall:=all_listed hord E.lsize hr
  obtain ⟨k,hk,hCk,hst,hdone⟩:=E.stage
  have hkl:k=cs.length:=by
   rcases Nat.lt_or_ge k cs.length with h | h
   ·have hi:cs[k]?=some cs[k]:=List.getElem?_eq_getElem h
    have hlt:cs[k] < ops.size:=by
     rw [List.all_eq_true] at hcs
     simpa using hcs cs[k] (List.getElem_mem h)
    have:=(hst k cs[k] hi).1 (hall _ hlt)
    omega
   ·omega
  subst hkl
  let vs:Nat→Value:=fun j=>match (ops[j]?).bind (·.dst) with | some d=>(a.tmps[d]?).getD undef | none=>undef
  have hV:∀ j o,ops[j]?=some o→o.dst≠none→V j cs.length (vs j) w:=by
   intro j o ho hd
   have hj:j < ops.size:=(Array.getElem?_eq_some_iff.1 ho).1
   cases hdd:o.dst with
   | none=>exact absurd hdd hd
   | some d =>
    obtain ⟨v,hv,hVv⟩:=hdone j o d (hall j hj) ho hdd
    have:vs j=v:=by simp [vs,ho,hdd,hv]
    rw [this]
    exact hVv
  have hfin:=hend vs w hCk hV
  have hact:putAll vs 0 ops.toList a0=a:=by
   have ht:(putAll vs 0 ops.toList a0).tmps=a.tmps:=by
    apply Array.ext_getElem?
    intro t
    by_cases hout:(ops.toList.all fun p=>p.dst != some t)=true
    ·rw [E.out t (fun j' o' ho' hd'=>by rw [List.all_eq_true] at hout; have:=hout o' (List.mem_of_getElem? (by rw [Array.getElem?_toList]; exact ho')); rw [hd'] at this; simp at this)]
     refine putAll_out vs t _ _ _ (fun o ho=>?_)
     rw [List.all_eq_true] at hout
     simpa using hout o ho
    ·rw [List.all_eq_true] at hout
     obtain ⟨o,ho⟩:=Classical.not_forall.1 hout
     obtain ⟨hmem,hd⟩:=Classical.not_imp.1 ho
     have hd':o.dst=some t:=by simpa using hd
     obtain ⟨j,hj⟩:=List.getElem?_of_mem hmem
     have hjo:ops[j]?=some o:=by rw [Array.getElem?_toList] at hj; exact hj
     have htlt:t < a0.tmps.size:=by
      unfold dstsBelow at hbelow
      rw [List.all_eq_true] at hbelow
      have:=hbelow o hmem
      rw [hd'] at this
      simpa using this
     rw [putAll_at vs t _ 0 _ hdist htlt j o hj hd']
     obtain ⟨v,hv,_⟩:=hdone j o t (hall j (Array.getElem?_eq_some_iff.1 hjo).1) hjo hd'
     have:vs j=v:=by simp [vs,hjo,hd',hv]
     rw [hv,Nat.zero_add,this]
   have hd:(putAll vs 0 ops.toList a0).defers=a.defers:=by rw [putAll_defers,E.defers]
   cases h1:putAll vs 0 ops.toList a0
   cases a
   rw [h1] at ht hd
   simp only at ht hd
   rw [ht,hd]
  rw [hact] at hfin
  exact hfin
 ·refine ⟨rfl,rfl,by simp,fun _ _=>rfl,fun j o hj=>?_,0,Nat.zero_le _,hC,fun p i _=>?_,fun j o d hj=>?_⟩
  ·rw [Array.getElem?_replicate] at hj
   split at hj <;> cases hj
  ·constructor
   ·intro h
    rw [Array.getElem?_replicate] at h
    split at h <;> cases h
   ·intro h; omega
  ·rw [Array.getElem?_replicate] at hj
   split at hj <;> cases hj
 ·have:((Array.replicate ops.size false).toList.filter id)=[]:=by
   rw [List.filter_eq_nil_iff]
   intro b hb
   simp at hb
   simp [hb.2]
  rw [this]
  simp


theorem wp_region_st3 {rid:Nat} {a0:Act} {w0:World} (hm:P.follows .mixedOrders=true) (Vs:List (Nat→Value→World→Prop)) (C:Nat→World→Prop) (RC:Nat→World→World→Prop) (RF:World→World→Prop) (cs fs:List Nat)
  (hdist:apartDst ops.toList=true) (hbelow:dstsBelow a0.tmps.size ops.toList=true) (hord:orderly ops.toList=true) (hnd:cs.Nodup) (hch:chained ops cs=true)
  (hstab:StabAll2 RC RF cs 0 Vs) (hC:C 0 w0.drew)
  (hop:OblAll (Obl3 P ops (fun j=>Vs.getD j (fun _ _ _=>True)) C RC RF Q a0 cs fs) 0 ops.toList)
  (hcs:cs.all (fun i=>decide (i < ops.size))=true)
  (hend:∀ (vs:Nat→Value) (w:World),C cs.length w→(∀ j o,ops[j]?=some o→o.dst≠none→Vs.getD j (fun _ _ _=>True) cs.length (vs j) w)→Q .normal (putAll vs 0 ops.toList a0) w) :
  (Code.region rid ops true).wp P Q a0 w0 :=
 wp_region_env3 hm (fun j=>Vs.getD j (fun _ _ _=>True)) C RC RF cs fs hdist hbelow hord hnd hch
  (fun p j v w w' hp hne hR=>(by have:=(StabAll2.get Vs 0 hstab j).1 p v w w' hp; rw [Nat.zero_add] at this; exact this hne hR))
  (fun k j v w w' hR=>(StabAll2.get Vs 0 hstab j).2 k v w w' hR) hC hop hcs hend
end
end Go.Proofs.Ytkmcakneceagpaa

namespace Go.Proofs.Ytkmcakneceagpaa
open Go.RowKit
theorem op_down {P:Program} {w:World} {ops:Array Oper} {o:Oper} {a:Act} {K:Act→World→Prop} {Q:Exit→Act→World→Prop} {E:Prop} (hgd:o.guard=none) (d s:Operand) (t e:TypeId)
  (ho:o.op=.call { callee:=.builtin .copy,args:=#[d,s],argTypes:=#[t,t] }) (ht:P.underlying t=some (.slice e)) (hi:(P.info? e).map (fun i=>(i.zero,i.size,i.bytes))=some (some (.int .u8 0),1,1))
  (base:Nat) (A:Option Addr) (n c:Nat) (l:List UInt8) (HO:Ow w base e 1 A n c (l.map u8)) (u:Nat) (hu0:0 < u) (hu:u≤n) (hd:a.eval d=.slice A n c) (A':Option Addr) (hs:a.eval s=.slice A' (n - u) (c - u))
  (hA':∀ b off,A=some ⟨b,off,none⟩→¬ c=u→A'=some ⟨b,off+u,none⟩)
  (h:∀ w',Ow w' base e 1 A (n - u) c ((l.drop u).map u8)→Kp (ob A) w w'→K (a.put o.dst (.int .i64 ((n - u:Nat):Int))) w') :
  if Region.wanted o (yielded ops a.tmps)=true then Oper.wp P o a w K Q else E:=by
 have hw:Region.wanted o (yielded ops a.tmps)=true:=by simp [Region.wanted,hgd]
 rw [if_pos hw]
 have hsz:(P.info? e).map (·.size)=some 1:=by
  obtain ⟨i,h1,_,h2,_⟩:=info_parts hi
  rw [h1]; simp [h2]
 have hln:l.length=n:=by have:=HO.len; simpa using this
 have hcs:((l.drop u).map u8).length=n - u:=by simp [hln]
 rcases HO.2 with ⟨he,h0⟩ | ⟨g,cap,cur,he,hb,hg,h1,h2,h3,h4⟩
 ·omega
 ·injection he with e1 _ e3
  subst e1 e3
  by_cases h0:n - u=0
  ·have hrun:=run_copy_none (P:=P) w t t o.type e (some ⟨g,0,none⟩) A' n c (n - u) (c - u) ht hsz (by simp [h0])
   have hO:Ow w base e 1 (some ⟨g,0,none⟩) (n - u) c ((l.drop u).map u8):=⟨by rw [hcs]; omega,.inr ⟨g,c,cur,rfl,hb,hg,by omega,h2,h3,by rw [h0]; simp; omega⟩⟩
   have hk:=h w hO (Kp.refl _ _)
   rw [h0] at hk
   unfold Oper.wp
   simp [execOp,ho,resolve,invoke,builtin,hd,hs,hrun,Result.andThen]
   exact hk
  ·obtain rfl:=hA' g 0 rfl (by omega)
   have hcell:∀ j v,((l.drop u).map u8)[j]?=some v→w.cell? ((⟨g,0+u,none⟩:Addr).add j)=some v:=by
    intro j v hv
    have hadd:(⟨g,0+u,none⟩:Addr).add j=⟨g,0+u+j,none⟩:=by unfold Addr.add; split <;> simp_all
    rw [hadd,cell_of hg,← Array.getElem?_toList]
    have hj:j < n - u:=by have:=(List.getElem?_eq_some_iff.1 hv).1; omega
    have h5:(cur.toList.take (n * 1))[0+u+j]?=cur.toList[0+u+j]?:=by rw [List.getElem?_take,if_pos (by omega)]
    rw [← h5,h4,Nat.zero_add]
    rw [List.map_drop,List.getElem?_drop] at hv
    exact hv
   have hrun:=run_copy_row (P:=P) w t t o.type e g 0 n c ⟨g,0+u,none⟩ (n - u) (c - u) cur e ((l.drop u).map u8) ht hsz hg (by rw [hcs]; show n - u=min (n - u) n; omega) hcell (by rw [hcs]; have:=h3; omega) (u8_one _)
   rw [Nat.zero_add] at hrun hs
   obtain ⟨W,hW⟩:∃ W,W=w.setRow g (cur.toList.take 0++(l.drop u).map u8++cur.toList.drop (0+((l.drop u).map u8).length)).toArray:=⟨_,rfl⟩
   have hH:W.heap[g]?=some (.cells (cur.toList.take 0++(l.drop u).map u8++cur.toList.drop (0+((l.drop u).map u8).length)).toArray e (0,0)):=by rw [hW]; exact setRow_heap w g _ _ e _ hg
   have hO:Ow W base e 1 (some ⟨g,0,none⟩) (n - u) c ((l.drop u).map u8):=⟨by rw [hcs]; omega,.inr ⟨g,c,_,rfl,hb,hH,by omega,h2,by simp only [List.size_toArray,List.length_append,List.length_take,List.length_drop,hcs]; have h3':=h3; simp only [Array.length_toList]; omega,by simp only [List.take_zero,List.nil_append]; rw [Nat.mul_one,List.take_append_of_le_length (by omega),List.take_of_length_le (by omega)]⟩⟩
   have hK:Kp (ob (some ⟨g,0,none⟩)) w W:=by rw [hW]; exact (Kp.refl _ _).setRow (.inl (by simp [ob])) _
   have hk:=h W hO hK
   rw [← hW] at hrun
   have hgi:goInt ((l.drop u).map u8).length=Value.int .i64 ((n - u:Nat):Int):=by rw [hcs]; rfl
   rw [hgi] at hrun
   unfold Oper.wp
   simp [execOp,ho,resolve,invoke,builtin,hd,hs,hrun,Result.andThen]
   exact hk
theorem RdPass (g ga bx base u:Nat) (hu0:0 < u) (n c:Nat) (hu:u≤n) (l:List UInt8) (most:Int) (is:Bool) (xs xc:Int) (w0:World) (hb:w0.heap[bx]?=some (.cells #[.pointer (some ⟨g,0,none⟩)] 146)) (hbg:¬ bx=g) (hba:¬ bx=ga) (hh:w0.heap[g]?=some (.cells #[.bool true,.int .i64 most,.slice (some ⟨ga,0,none⟩) n c,.bool is,.int .i64 xs,.int .i64 xc] 148)) (hga:¬ g=ga) (ho:Ow w0 base 5 1 (some ⟨ga,0,none⟩) n c (l.map u8)) :
  Calls Try.prog 158 #[.int .i64 u,.pointer (some ⟨bx,0,none⟩)] w0 fun e w'=>e=.returned (.tuple #[])∧w'.heap[g]?=some (.cells #[.bool true,.int .i64 most,.slice (some ⟨ga,0,none⟩) (n - u) c,.bool is,.int .i64 xs,.int .i64 xc] 148)∧Ow w' base 5 1 (some ⟨ga,0,none⟩) (n - u) c ((l.drop u).map u8)∧Kp [g,ga] w0 w':=by
 have HB:=Lib.hid hb
 have HH:=Lib.hid hh
 have HO:=Lib.hid ho
 have hcp:=ho.cap.1
 clear hb hh ho
 go_enter Try.func158,Try.ntmps158
 go_wp2
 refine wp_region_st3 (by kernel_rfl) [fun _ v _=>v=(.pointer (some ⟨g,0,none⟩)),
   fun _ v _=>v=(.pointer (some ⟨g,0,none⟩)),
   fun _ v _=>v=(.pointer (some ⟨g,0,none⟩)),
   fun _ v _=>v=(.pointer (some ⟨g,2,none⟩)),
   fun _ v _=>v=(.slice (some ⟨ga,0,none⟩) n c),
   fun _ v _=>v=(.pointer (some ⟨g,0,none⟩)),
   fun _ v _=>v=(.pointer (some ⟨g,0,none⟩)),
   fun _ v _=>v=(.pointer (some ⟨g,2,none⟩)),
   fun _ v _=>v=(.slice (some ⟨ga,0,none⟩) n c),
   fun _ v _=>v=(.pointer (some ⟨g,0,none⟩)),
   fun _ v _=>v=(.pointer (some ⟨g,0,none⟩)),
   fun _ v _=>v=(.pointer (some ⟨g,2,none⟩)),
   fun _ v _=>v=(.slice (some ⟨ga,0,none⟩) n c),
   fun _ v _=>v=(.int .i64 (u:Int)),
   fun _ v _=>∃ A',v=.slice A' (n - u) (c - u)∧(∀ b off,(some ⟨ga,0,none⟩:Option Addr)=some ⟨b,off,none⟩→¬ c=u→A'=some ⟨b,off+u,none⟩),
   fun _ v _=>v=.int .i64 ((n - u:Nat):Int),
   fun _ v _=>v=(.slice (some ⟨ga,0,none⟩) (n - u) c),
   fun _ v _=>v=(.pointer (some ⟨g,0,none⟩)),
   fun _ v _=>v=(.pointer (some ⟨g,2,none⟩)),
   fun _ v _=>True] (fun p w=>(p≤1→w.heap[g]?=some (.cells #[.bool true,.int .i64 most,.slice (some ⟨ga,0,none⟩) n c,.bool is,.int .i64 xs,.int .i64 xc] 148))∧(p≤0→Ow w base 5 1 (some ⟨ga,0,none⟩) n c (l.map u8))∧(1≤p→Ow w base 5 1 (some ⟨ga,0,none⟩) (n - u) c ((l.drop u).map u8))∧(2≤p→w.heap[g]?=some (.cells #[.bool true,.int .i64 most,.slice (some ⟨ga,0,none⟩) (n - u) c,.bool is,.int .i64 xs,.int .i64 xc] 148))∧Kp [g,ga] w0 w) (fun _ _ _=>True) (fun w w'=>Kp [] w w') [15,19] [] (by kernel_rfl) (by kernel_rfl) (by kernel_rfl) (by decide) (by kernel_rfl) ⟨StabAt2.const _,StabAt2.const _,StabAt2.const _,StabAt2.const _,StabAt2.const _,StabAt2.const _,StabAt2.const _,StabAt2.const _,StabAt2.const _,StabAt2.const _,StabAt2.const _,StabAt2.const _,StabAt2.const _,StabAt2.const _,StabAt2.const _,StabAt2.const _,StabAt2.const _,StabAt2.const _,StabAt2.const _,StabAt2.const _,trivial⟩ (⟨fun _=>(HH.out:w0.drew.heap[g]?=_),fun _=>HO.out.keep (Kp.refl [] w0).drew (by simp),fun h=>by omega,fun h=>by omega,(Kp.refl _ _).drew⟩) ⟨?_,?_,?_,?_,?_,?_,?_,?_,?_,?_,?_,?_,?_,?_,?_,?_,?_,?_,?_,?_,trivial⟩ (by kernel_rfl) ?_
 ·intro q9 a w E hC K hK
  have h1:a.tmps[1]?=some (.pointer (some ⟨bx,0,none⟩)):=(E.out 1 (by kernel_rfl)).trans rfl
  refine want_none rfl ?_
  have hb:=hC.2.2.2.2.heap HB.out (by simp; exact ⟨hbg,hba⟩)
  have b0:=cell_of hb 0
  clear hb
  go_simp
  exact hK _ rfl
 ·intro q9 a w E hC K hK
  have h1:a.tmps[1]?=some (.pointer (some ⟨bx,0,none⟩)):=(E.out 1 (by kernel_rfl)).trans rfl
  refine want_none rfl ?_
  have hb:=hC.2.2.2.2.heap HB.out (by simp; exact ⟨hbg,hba⟩)
  have b0:=cell_of hb 0
  clear hb
  go_simp
  exact hK _ rfl
 ·intro q9 a w E hC K hK
  obtain ⟨_,h4,rfl⟩:=E.pred 1 _ 4 rfl rfl (by kernel_rfl)
  refine want_none rfl ?_
  go_simp
  exact hK _ rfl
 ·intro q9 a w E hC K hK
  obtain ⟨_,h5,rfl⟩:=E.pred 2 _ 5 rfl rfl (by kernel_rfl)
  refine want_none rfl ?_
  go_simp
  exact hK _ rfl
 ·intro q9 a w E hC K hK
  obtain ⟨_,h6,rfl⟩:=E.pred 3 _ 6 rfl rfl (by kernel_rfl)
  refine want_none rfl ?_
  have hk:=E.lim 1 19 _ rfl rfl (by kernel_rfl)
  have hh:=hC.1 (by omega)
  have h2:=cell_of hh 2
  have hl2:=lt_of_heap hh
  clear hh hk
  go_simp
  exact hK _ rfl
 ·intro q9 a w E hC K hK
  have h1:a.tmps[1]?=some (.pointer (some ⟨bx,0,none⟩)):=(E.out 1 (by kernel_rfl)).trans rfl
  refine want_none rfl ?_
  have hb:=hC.2.2.2.2.heap HB.out (by simp; exact ⟨hbg,hba⟩)
  have b0:=cell_of hb 0
  clear hb
  go_simp
  exact hK _ rfl
 ·intro q9 a w E hC K hK
  obtain ⟨_,h8,rfl⟩:=E.pred 5 _ 8 rfl rfl (by kernel_rfl)
  refine want_none rfl ?_
  go_simp
  exact hK _ rfl
 ·intro q9 a w E hC K hK
  obtain ⟨_,h9,rfl⟩:=E.pred 6 _ 9 rfl rfl (by kernel_rfl)
  refine want_none rfl ?_
  go_simp
  exact hK _ rfl
 ·intro q9 a w E hC K hK
  obtain ⟨_,h10,rfl⟩:=E.pred 7 _ 10 rfl rfl (by kernel_rfl)
  refine want_none rfl ?_
  have hk:=E.lim 1 19 _ rfl rfl (by kernel_rfl)
  have hh:=hC.1 (by omega)
  have h2:=cell_of hh 2
  have hl2:=lt_of_heap hh
  clear hh hk
  go_simp
  exact hK _ rfl
 ·intro q9 a w E hC K hK
  have h1:a.tmps[1]?=some (.pointer (some ⟨bx,0,none⟩)):=(E.out 1 (by kernel_rfl)).trans rfl
  refine want_none rfl ?_
  have hb:=hC.2.2.2.2.heap HB.out (by simp; exact ⟨hbg,hba⟩)
  have b0:=cell_of hb 0
  clear hb
  go_simp
  exact hK _ rfl
 ·intro q9 a w E hC K hK
  obtain ⟨_,h12,rfl⟩:=E.pred 9 _ 12 rfl rfl (by kernel_rfl)
  refine want_none rfl ?_
  go_simp
  exact hK _ rfl
 ·intro q9 a w E hC K hK
  obtain ⟨_,h13,rfl⟩:=E.pred 10 _ 13 rfl rfl (by kernel_rfl)
  refine want_none rfl ?_
  go_simp
  exact hK _ rfl
 ·intro q9 a w E hC K hK
  obtain ⟨_,h14,rfl⟩:=E.pred 11 _ 14 rfl rfl (by kernel_rfl)
  refine want_none rfl ?_
  have hk:=E.lim 1 19 _ rfl rfl (by kernel_rfl)
  have hh:=hC.1 (by omega)
  have h2:=cell_of hh 2
  have hl2:=lt_of_heap hh
  clear hh hk
  go_simp
  exact hK _ rfl
 ·intro q9 a w E hC K hK
  have h0:a.tmps[0]?=some (.int .i64 (u:Int)):=(E.out 0 (by kernel_rfl)).trans rfl
  refine want_none rfl ?_
  go_simp
  exact hK _ rfl
 ·intro q9 a w E hC K hK
  obtain ⟨_,h15,rfl⟩:=E.pred 12 _ 15 rfl rfl (by kernel_rfl)
  obtain ⟨_,h16,rfl⟩:=E.pred 13 _ 16 rfl rfl (by kernel_rfl)
  refine want_none rfl ?_
  by_cases hcu:c=u
  ·subst hcu
   obtain rfl:n=c:=by omega
   go_simp
   exact hK _ ⟨some ⟨ga,0,none⟩,by simp,fun _ _ _ h=>absurd rfl h⟩
  ·have i1:(u:Int)≤(n:Int):=by omega
   have i2:(n:Int)≤(c:Int):=by omega
   have i3:¬ (c:Int)=(u:Int):=by omega
   have i4:¬ (u:Int)=(c:Int):=by omega
   go_simp
   exact hK _ ⟨some ⟨ga,u,none⟩,by simp,fun b off h _=>by injection h with h; injection h with h1 h2 _; rw [h1,← h2,Nat.zero_add]⟩
 ·intro a w E hC K hK
  obtain ⟨_,h11,rfl⟩:=E.pred 8 _ 11 rfl rfl (by kernel_rfl)
  obtain ⟨v14,h17,V14⟩:=E.pred 14 _ 17 rfl rfl (by kernel_rfl)
  replace V14:(fun _ v _=>∃ A',v=.slice A' (n - u) (c - u)∧(∀ b off,(some ⟨ga,0,none⟩:Option Addr)=some ⟨b,off,none⟩→¬ c=u→A'=some ⟨b,off+u,none⟩)) 0 v14 w:=V14
  obtain ⟨A',rfl,hA'⟩:=V14
  refine op_down rfl _ _ 22 5 rfl Try.underlying22 Try.info5 base (some ⟨ga,0,none⟩) n c l (hC.2.1 (by omega)) u hu0 hu (eval_tmp h11) A' (eval_tmp h17) hA' ?_
  intro w2 O2 K2
  refine hK _ _ rfl ⟨fun _=>K2.heap (hC.1 (by omega)) (by simp [ob]; omega),fun h=>by omega,fun _=>O2,fun h=>by omega,hC.2.2.2.2.trans (K2.mono (by simp [ob]))⟩ trivial
 ·intro q9 a w E hC K hK
  obtain ⟨_,h7,rfl⟩:=E.pred 4 _ 7 rfl rfl (by kernel_rfl)
  obtain ⟨v15,h18,V15⟩:=E.pred 15 _ 18 rfl rfl (by kernel_rfl)
  replace V15:(fun _ v _=>v=.int .i64 ((n - u:Nat):Int)) q9 v15 w:=V15
  obtain rfl:=V15
  refine want_none rfl ?_
  have i1:((n - u:Nat):Int)≤(c:Int):=by omega
  go_simp
  exact hK _ (by simp)
 ·intro q9 a w E hC K hK
  obtain ⟨_,h3,rfl⟩:=E.pred 0 _ 3 rfl rfl (by kernel_rfl)
  refine want_none rfl ?_
  go_simp
  exact hK _ rfl
 ·intro q9 a w E hC K hK
  obtain ⟨_,h20,rfl⟩:=E.pred 17 _ 20 rfl rfl (by kernel_rfl)
  refine want_none rfl ?_
  go_simp
  exact hK _ rfl
 ·intro a w E hC K hK
  obtain ⟨_,h21,rfl⟩:=E.pred 18 _ 21 rfl rfl (by kernel_rfl)
  obtain ⟨_,h19,rfl⟩:=E.pred 16 _ 19 rfl rfl (by kernel_rfl)
  refine want_none rfl ?_
  have hh:=hC.1 (by omega)
  have h2:=cell_of hh 2
  have hz:=frozen_of hh
  have hl2:=lt_of_heap hh
  have HH2:=Lib.hid hh
  clear hh
  go_simp
  exact hK undef _ trivial ⟨fun h=>by omega,fun h=>by omega,fun _=>(hC.2.2.1 (by omega)).keep ((Kp.refl [g] w).setCell (.inl (by simp)) _) (by simp [ob]; omega),fun _=>hp_set _ _ _ _ _ _ HH2.out,hC.2.2.2.2.setCell (.inl (by simp)) _⟩ trivial

 intro vs w8 hC hV
 have hC1:=Lib.hid hC
 clear hV hC
 simp only [putAll,Act.put,List.setIfInBounds_toArray]
 dsimp only [List.set]
 go_wp2
 refine ⟨rfl,.tuple #[],by simp [results,Try.results158,go_sem],rfl,hC1.out.2.2.2.1 (Nat.le_refl _),hC1.out.2.2.1 (by simp),hC1.out.2.2.2.2⟩
end Go.Proofs.Ytkmcakneceagpaa
