/- frame.unpad: the padded frames of types with more. Numbers and heads out of very long bytes. frame.Parse: the ways on which no frame is told. A scope that holds one label, jumped to by gotos from ahead of it alone: the walk goes on behind the label where a goto is taken. Over any program. frame.Parse: a frame that is longer than may be. -/
import Derived.Test.YtkmcakneceagpaaQKin4
import Derived.Test.YtkmcakneceagpaaQMem
import Derived.RegionTactic
import Derived.ChangeAlike
import Derived.ScopeJumps
import Derived.WalkKit
import Derived.Outline
set_option linter.unusedSimpArgs false
set_option linter.unusedVariables false
set_option maxHeartbeats 8000000
set_option maxRecDepth 100000
namespace Go.Proofs.Ytkmcakneceagpaa
open Go.RowKit
theorem unpad5t (fl st:Int) (z any:Bool) (f1 f2 f3 f4:Value) (h1:f1.cells=#[f1]) (h2:f2.cells=#[f2]) (h3:f3.cells=#[f3]) (h4:f4.cells=#[f4]) (hf0:0≤fl) (hf1:fl≤255) (h8:hasB fl 8=true) (g:Nat) (A:Option Addr) (n c:Nat) (l:List UInt8) (w:World) (hB:w.heap[g]?=some (.cells #[.int .i64 5,.int .i64 fl,.int .i64 st,.slice none 0 0,.int .i64 0,.int .u32 0,.int .i64 0,.int .i64 0,.int .i64 0,.bool false,.int .i64 0,.slice none 0 0] 49)) (hr:Rd w A n c l) (hgA:g∉ob A) (hn:n≤16777216) :
  Calls Try.prog 151 #[.pointer (some ⟨g,0,none⟩),.agg #[.bool z,.bool any,.bool true,f1,f2,f3,f4],.slice A n c] w (UnR 5 fl st g (unS 5 fl l) w):=by
 have hp:padF 5 fl=true:=by simp [padF,paddedB,h8]
 have hfx:fixedN 5 fl=4:=by simp [fixedN]
 have hb8:(bits .and .i64 fl 8 == 0)=false:=by
  have:=(bits_has fl hf0 hf1).2.1
  rw [h8] at this
  simpa [bne] using this
 have hlen:=hr.len
 unfold unS
 rw [hp,hfx]
 have HB:=Lib.hid hB
 have HR:=Lib.hid hr
 have HLEN:=Lib.hid hlen
 have hg:=lt_of_heap hB
 have hcap:=hr.cap
 obtain ⟨q0,q1,q2,q3,q4,q5,q6,q7,q8,q9,q10,q11,qz,qlt,qlt2⟩:=cellsF hB
 rw [if_pos rfl]
 by_cases hs:n < 1+4
 ·rw [if_pos (by omega)]
  clear hB hr hp hfx h8 hlen
  go_enter Try.func151,Try.ntmps151
  go_wp2
  go_ret2
  exact ⟨rfl,⟨(⟨5,fl,st,none,0,0,0,0,0,0,0,false,0,none,0,0⟩:Fr),((hp_old _ _ _ hg).trans HB.out)⟩,Kp.nil (by with_reducible (repeat (first|exact Kp.refl _ _|assumption|refine Kp.alloc ?_ _|refine Kp.drew ?_|refine Kp.drewN ?_ _|(refine Kp.setL ?_ ?_ _;focus (simp;done))|(refine Kp.setR ?_ ?_ _;focus (first|(simp;done)|(simp;omega))))))⟩
 ·rw [if_neg (by omega)]
  obtain ⟨b,o,rfl,hbw,hcell⟩:=hr.addr (by omega)
  obtain ⟨n1,rfl⟩:∃ n1,n=n1+1:=⟨n - 1,by omega⟩
  obtain ⟨c1,rfl⟩:∃ c1,c=c1+1:=⟨c - 1,by omega⟩
  have hy:=(l.getD 0 0).toNat_lt
  have hQ:=hcell 0 (by omega)
  rw [Nat.add_zero] at hQ
  generalize hyd:(l.getD 0 0).toNat=y at *
  have hbg:¬ b=g:=fun h=>hgA (by simp [ob,h])
  have HQ0:=Lib.hid hQ
  have HWY:=Lib.hid (show IntKind.i64.wrap (y:Int)=(y:Int) from IntWalk.i64_in _ (by omega))
  have hll:(l.length:Int) - 1=(n1:Int):=by omega
  have hl1:l.length - 1=n1:=by omega
  rw [hll,hl1]
  clear hB hr hp hfx h8 hcell hlen hQ hyd hll hl1
  by_cases hbd:(n1:Int) - (y:Int) < ((4:Nat):Int)
  ·have hc1:¬ c1=0:=by omega
   rw [if_pos hbd]
   have hbd':(n1:Int) - (y:Int) < 4:=by simpa using hbd
   clear hbd
   go_enter Try.func151,Try.ntmps151
   go_wp2
   generalize hW:World.alloc _ _=w1
   obtain ⟨K1,_⟩:=new_at hW
   have HB1:=Lib.hid (K1.heap HB.out (by simp))
   have HK1:=Lib.hid K1
   clear hW K1 q0 q1 q2 q3 q4 q5 q6 q7 q8 q9 q10 q11 qz qlt qlt2
   have HQ:=Lib.hid (HK1.out.cell HQ0.out (by simp))
   have HR1:=Lib.hid (HR.out.keep HK1.out (by simp))
   refine wp_region_st (by kernel_rfl) [fun _ v _=>v=(.pointer (some ⟨g,0,none⟩)),
     fun _ v _=>v=(.slice (some ⟨b,o,none⟩) (n1+1) (c1+1)),
     fun _ v _=>v=(.pointer (some ⟨b,o,none⟩)),
     fun _ v _=>v=(.int .u8 (y:Int)),
     fun _ v _=>v=(.int .i64 (y:Int)),
     fun _ v _=>v=(.slice (some ⟨b,o,none⟩) (n1+1) (c1+1)),
     fun _ v _=>v=(.slice (some ⟨b,o+1,none⟩) n1 c1),
     fun _ v _=>v=(.pointer (some ⟨g,0,none⟩)),
     fun _ v _=>v=(.pointer (some ⟨g,4,none⟩)),
     fun _ v w=>True,
     fun _ v _=>v=(.slice (some ⟨b,o+1,none⟩) n1 c1)] (fun p w=>Kp [g] w1 w∧(p≤0→Kp [] w1 w)∧(1≤p→w.heap[g]?=some (.cells #[.int .i64 5,.int .i64 fl,.int .i64 st,.slice none 0 0,.int .i64 (y:Int),.int .u32 0,.int .i64 0,.int .i64 0,.int .i64 0,.bool false,.int .i64 0,.slice none 0 0] 49))) (fun _ _ _=>True) (fun w w'=>Kp [] w w') [9] [] (by kernel_rfl) (by kernel_rfl) (by kernel_rfl) (by decide) (by kernel_rfl) ⟨StabAt2.const _,StabAt2.const _,StabAt2.const _,StabAt2.const _,StabAt2.const _,StabAt2.const _,StabAt2.const _,StabAt2.const _,StabAt2.const _,⟨fun _ _ _ _ _ _ _ h=>h,fun _ _ _ _ _ h=>h⟩,StabAt2.const _,trivial⟩ (⟨(Kp.refl _ _).drew,fun _=>(Kp.refl _ _).drew,fun h=>by omega⟩) ⟨?_,?_,?_,?_,?_,?_,?_,?_,?_,?_,?_,trivial⟩ (by kernel_rfl) ?_
   ·intro q9 a w E hC K hK
    have h0:a.tmps[0]?=some (.pointer (some ⟨g,0,none⟩)):=(E.out 0 (by kernel_rfl)).trans rfl
    refine want_none rfl ?_
    go_simp
    exact hK _ rfl
   ·intro q9 a w E hC K hK
    have h2:a.tmps[2]?=some (.slice (some ⟨b,o,none⟩) (n1+1) (c1+1)):=(E.out 2 (by kernel_rfl)).trans rfl
    refine want_none rfl ?_
    go_simp
    exact hK _ rfl
   ·intro q9 a w E hC K hK
    obtain ⟨_,h50,rfl⟩:=E.pred 1 _ 50 rfl rfl (by kernel_rfl)
    refine want_none rfl ?_
    go_simp
    exact hK _ rfl
   ·intro q9 a w E hC K hK
    obtain ⟨_,h51,rfl⟩:=E.pred 2 _ 51 rfl rfl (by kernel_rfl)
    refine want_none rfl ?_
    have g1:=hC.1.cell HQ.out (by simp [hbg])
    go_simp
    exact hK _ rfl
   ·intro q9 a w E hC K hK
    obtain ⟨_,h52,rfl⟩:=E.pred 3 _ 52 rfl rfl (by kernel_rfl)
    refine want_none rfl ?_
    have e1:=HWY.out
    go_simp
    exact hK _ rfl
   ·intro q9 a w E hC K hK
    have h2:a.tmps[2]?=some (.slice (some ⟨b,o,none⟩) (n1+1) (c1+1)):=(E.out 2 (by kernel_rfl)).trans rfl
    refine want_none rfl ?_
    go_simp
    exact hK _ rfl
   ·intro q9 a w E hC K hK
    obtain ⟨_,h54,rfl⟩:=E.pred 5 _ 54 rfl rfl (by kernel_rfl)
    refine want_none rfl ?_
    have i1:(1:Int)≤(n1:Int)+1:=by omega
    go_simp
    exact hK _ rfl
   ·intro q9 a w E hC K hK
    obtain ⟨_,h49,rfl⟩:=E.pred 0 _ 49 rfl rfl (by kernel_rfl)
    refine want_none rfl ?_
    go_simp
    exact hK _ rfl
   ·intro q9 a w E hC K hK
    obtain ⟨_,h56,rfl⟩:=E.pred 7 _ 56 rfl rfl (by kernel_rfl)
    refine want_none rfl ?_
    go_simp
    exact hK _ rfl
   ·intro a w E hC K hK
    obtain ⟨_,h57,rfl⟩:=E.pred 8 _ 57 rfl rfl (by kernel_rfl)
    obtain ⟨_,h53,rfl⟩:=E.pred 4 _ 53 rfl rfl (by kernel_rfl)
    refine want_none rfl ?_
    have hb:=(hC.2.1 (by omega)).heap HB1.out (by simp)
    have g4:=cell_of hb 4
    have gz:=frozen_of hb
    go_simp
    exact hK undef _ trivial ⟨hC.1.setCell (.inl (by simp)) _,fun h=>by omega,fun _=>hp_set _ _ _ _ _ _ hb⟩ trivial
   ·intro q9 a w E hC K hK
    obtain ⟨_,h55,rfl⟩:=E.pred 6 _ 55 rfl rfl (by kernel_rfl)
    refine want_none rfl ?_
    go_simp
    exact hK _ rfl
   intro vs w7 hC hV
   have h10:=hV 10 _ rfl (by simp)
   replace h10:vs 10=(.slice (some ⟨b,o+1,none⟩) n1 c1):=h10
   have HB7:=Lib.hid (hC.2.2 (Nat.le_refl _))
   have HR7:=Lib.hid (HR1.out.keep hC.1 (by intro _ t h1 h2; simp at h2; subst h2; exact hgA h1))
   have HK7:=Lib.hid ((Kp.nil HK1.out).trans hC.1)
   clear hV hC HB1 HR1 HK1 HQ
   simp only [putAll,Act.put,List.setIfInBounds_toArray]
   dsimp only [List.set]
   rw [h10]
   clear h10
   obtain ⟨q0,q1,q2,q3,q4,q5,q6,q7,q8,q9,q10,q11,qz,qlt,qlt2⟩:=cellsF HB7.out
   go_wp2
   go_ret2
   exact ⟨rfl,⟨(⟨5,fl,st,none,0,0,(y:Int),0,0,0,0,false,0,none,0,0⟩:Fr),HB7.out⟩,HK7.out⟩
  ·have hc1:¬ c1=0:=by omega
   rw [if_neg hbd]
   have hbd':¬ (n1:Int) - (y:Int) < 4:=by simpa using hbd
   clear hbd
   go_enter Try.func151,Try.ntmps151
   go_wp2
   generalize hW:World.alloc _ _=w1
   obtain ⟨K1,_⟩:=new_at hW
   have HB1:=Lib.hid (K1.heap HB.out (by simp))
   have HK1:=Lib.hid K1
   clear hW K1 q0 q1 q2 q3 q4 q5 q6 q7 q8 q9 q10 q11 qz qlt qlt2
   have HQ:=Lib.hid (HK1.out.cell HQ0.out (by simp))
   have HR1:=Lib.hid (HR.out.keep HK1.out (by simp))
   refine wp_region_st (by kernel_rfl) [fun _ v _=>v=(.pointer (some ⟨g,0,none⟩)),
     fun _ v _=>v=(.slice (some ⟨b,o,none⟩) (n1+1) (c1+1)),
     fun _ v _=>v=(.pointer (some ⟨b,o,none⟩)),
     fun _ v _=>v=(.int .u8 (y:Int)),
     fun _ v _=>v=(.int .i64 (y:Int)),
     fun _ v _=>v=(.slice (some ⟨b,o,none⟩) (n1+1) (c1+1)),
     fun _ v _=>v=(.slice (some ⟨b,o+1,none⟩) n1 c1),
     fun _ v _=>v=(.pointer (some ⟨g,0,none⟩)),
     fun _ v _=>v=(.pointer (some ⟨g,4,none⟩)),
     fun _ v w=>True,
     fun _ v _=>v=(.slice (some ⟨b,o+1,none⟩) n1 c1)] (fun p w=>Kp [g] w1 w∧(p≤0→Kp [] w1 w)∧(1≤p→w.heap[g]?=some (.cells #[.int .i64 5,.int .i64 fl,.int .i64 st,.slice none 0 0,.int .i64 (y:Int),.int .u32 0,.int .i64 0,.int .i64 0,.int .i64 0,.bool false,.int .i64 0,.slice none 0 0] 49))) (fun _ _ _=>True) (fun w w'=>Kp [] w w') [9] [] (by kernel_rfl) (by kernel_rfl) (by kernel_rfl) (by decide) (by kernel_rfl) ⟨StabAt2.const _,StabAt2.const _,StabAt2.const _,StabAt2.const _,StabAt2.const _,StabAt2.const _,StabAt2.const _,StabAt2.const _,StabAt2.const _,⟨fun _ _ _ _ _ _ _ h=>h,fun _ _ _ _ _ h=>h⟩,StabAt2.const _,trivial⟩ (⟨(Kp.refl _ _).drew,fun _=>(Kp.refl _ _).drew,fun h=>by omega⟩) ⟨?_,?_,?_,?_,?_,?_,?_,?_,?_,?_,?_,trivial⟩ (by kernel_rfl) ?_
   ·intro q9 a w E hC K hK
    have h0:a.tmps[0]?=some (.pointer (some ⟨g,0,none⟩)):=(E.out 0 (by kernel_rfl)).trans rfl
    refine want_none rfl ?_
    go_simp
    exact hK _ rfl
   ·intro q9 a w E hC K hK
    have h2:a.tmps[2]?=some (.slice (some ⟨b,o,none⟩) (n1+1) (c1+1)):=(E.out 2 (by kernel_rfl)).trans rfl
    refine want_none rfl ?_
    go_simp
    exact hK _ rfl
   ·intro q9 a w E hC K hK
    obtain ⟨_,h50,rfl⟩:=E.pred 1 _ 50 rfl rfl (by kernel_rfl)
    refine want_none rfl ?_
    go_simp
    exact hK _ rfl
   ·intro q9 a w E hC K hK
    obtain ⟨_,h51,rfl⟩:=E.pred 2 _ 51 rfl rfl (by kernel_rfl)
    refine want_none rfl ?_
    have g1:=hC.1.cell HQ.out (by simp [hbg])
    go_simp
    exact hK _ rfl
   ·intro q9 a w E hC K hK
    obtain ⟨_,h52,rfl⟩:=E.pred 3 _ 52 rfl rfl (by kernel_rfl)
    refine want_none rfl ?_
    have e1:=HWY.out
    go_simp
    exact hK _ rfl
   ·intro q9 a w E hC K hK
    have h2:a.tmps[2]?=some (.slice (some ⟨b,o,none⟩) (n1+1) (c1+1)):=(E.out 2 (by kernel_rfl)).trans rfl
    refine want_none rfl ?_
    go_simp
    exact hK _ rfl
   ·intro q9 a w E hC K hK
    obtain ⟨_,h54,rfl⟩:=E.pred 5 _ 54 rfl rfl (by kernel_rfl)
    refine want_none rfl ?_
    have i1:(1:Int)≤(n1:Int)+1:=by omega
    go_simp
    exact hK _ rfl
   ·intro q9 a w E hC K hK
    obtain ⟨_,h49,rfl⟩:=E.pred 0 _ 49 rfl rfl (by kernel_rfl)
    refine want_none rfl ?_
    go_simp
    exact hK _ rfl
   ·intro q9 a w E hC K hK
    obtain ⟨_,h56,rfl⟩:=E.pred 7 _ 56 rfl rfl (by kernel_rfl)
    refine want_none rfl ?_
    go_simp
    exact hK _ rfl
   ·intro a w E hC K hK
    obtain ⟨_,h57,rfl⟩:=E.pred 8 _ 57 rfl rfl (by kernel_rfl)
    obtain ⟨_,h53,rfl⟩:=E.pred 4 _ 53 rfl rfl (by kernel_rfl)
    refine want_none rfl ?_
    have hb:=(hC.2.1 (by omega)).heap HB1.out (by simp)
    have g4:=cell_of hb 4
    have gz:=frozen_of hb
    go_simp
    exact hK undef _ trivial ⟨hC.1.setCell (.inl (by simp)) _,fun h=>by omega,fun _=>hp_set _ _ _ _ _ _ hb⟩ trivial
   ·intro q9 a w E hC K hK
    obtain ⟨_,h55,rfl⟩:=E.pred 6 _ 55 rfl rfl (by kernel_rfl)
    refine want_none rfl ?_
    go_simp
    exact hK _ rfl
   intro vs w7 hC hV
   have h10:=hV 10 _ rfl (by simp)
   replace h10:vs 10=(.slice (some ⟨b,o+1,none⟩) n1 c1):=h10
   have HB7:=Lib.hid (hC.2.2 (Nat.le_refl _))
   have HR7:=Lib.hid (HR1.out.keep hC.1 (by intro _ t h1 h2; simp at h2; subst h2; exact hgA h1))
   have HK7:=Lib.hid ((Kp.nil HK1.out).trans hC.1)
   clear hV hC HB1 HR1 HK1 HQ
   simp only [putAll,Act.put,List.setIfInBounds_toArray]
   dsimp only [List.set]
   rw [h10]
   clear h10
   obtain ⟨q0,q1,q2,q3,q4,q5,q6,q7,q8,q9,q10,q11,qz,qlt,qlt2⟩:=cellsF HB7.out
   go_wp2
   go_ret2
   have hq:=HR7.out.sub 1 (1+(n1 - y)) (by omega) (by omega) (A':=(some ⟨b,o+1,none⟩)) (by intro b' o' h1 h2; injection h1 with h1; injection h1 with h1 h3 _; rw [h1,h3])
   have eq1:1+(n1 - y) - 1=n1 - y:=by omega
   rw [eq1] at hq
   exact ⟨(some ⟨b,o+1,none⟩),n1 - y,n1 - y,rfl,⟨hq.len,Nat.le_refl _,hq.at_⟩,by simp [ob]; omega,by omega,HB7.out,HK7.out⟩
theorem unpad1ft (fl st:Int) (z any:Bool) (f1 f2 f3 f4:Value) (h1:f1.cells=#[f1]) (h2:f2.cells=#[f2]) (h3:f3.cells=#[f3]) (h4:f4.cells=#[f4]) (hf0:0≤fl) (hf1:fl≤255) (h8:hasB fl 8=true) (h32:hasB fl 32=false) (g:Nat) (A:Option Addr) (n c:Nat) (l:List UInt8) (w:World) (hB:w.heap[g]?=some (.cells #[.int .i64 1,.int .i64 fl,.int .i64 st,.slice none 0 0,.int .i64 0,.int .u32 0,.int .i64 0,.int .i64 0,.int .i64 0,.bool false,.int .i64 0,.slice none 0 0] 49)) (hr:Rd w A n c l) (hgA:g∉ob A) (hn:n≤16777216) :
  Calls Try.prog 151 #[.pointer (some ⟨g,0,none⟩),.agg #[.bool z,.bool any,.bool true,f1,f2,f3,f4],.slice A n c] w (UnR 1 fl st g (unS 1 fl l) w):=by
 have hp:padF 1 fl=true:=by simp [padF,paddedB,h8]
 have hfx:fixedN 1 fl=0:=by simp [fixedN,h32]
 have hb8:(bits .and .i64 fl 8 == 0)=false:=by
  have:=(bits_has fl hf0 hf1).2.1
  rw [h8] at this
  simpa [bne] using this
 have hlen:=hr.len
 unfold unS
 rw [hp,hfx]
 have HPR:=Lib.hid (show prioB 1 fl=false by simp [prioB,h32])
 clear h32
 have HB:=Lib.hid hB
 have HR:=Lib.hid hr
 have HLEN:=Lib.hid hlen
 have hg:=lt_of_heap hB
 have hcap:=hr.cap
 obtain ⟨q0,q1,q2,q3,q4,q5,q6,q7,q8,q9,q10,q11,qz,qlt,qlt2⟩:=cellsF hB
 rw [if_pos rfl]
 by_cases hs:n < 1+0
 ·rw [if_pos (by omega)]
  clear hB hr hp hfx h8 hlen
  go_enter Try.func151,Try.ntmps151
  go_wp2_with fail
  generalize hW:World.alloc _ _=wa
  obtain ⟨K1,hkb⟩:=new_at hW
  have HKa2:=Lib.hid hkb
  have HBa:=Lib.hid (K1.heap HB.out (by simp))
  have HKa:=Lib.hid K1
  clear hW K1 hkb q0 q1 q2 q3 q4 q5 q6 q7 q8 q9 q10 q11 qz qlt qlt2
  refine (weightedF (⟨1,fl,st,none,0,0,0,0,0,0,0,false,0,none,0,0⟩:Fr) _ hf0 hf1).mono ?_
  rintro e w1 ⟨rfl,K2⟩
  rw [HPR.out]
  have HB1:=Lib.hid (K2.heap HBa.out (by simp))
  have HK1:=Lib.hid (HKa.out.trans K2)
  have HKB1:=Lib.hid (K2.heap HKa2.out (by simp))
  have k_2:=cell_of HKB1.out 2
  have k_l:=lt_of_heap HKB1.out
  clear HBa HKa HKa2 K2
  obtain ⟨q0,q1,q2,q3,q4,q5,q6,q7,q8,q9,q10,q11,qz,qlt,qlt2⟩:=cellsF HB1.out
  go_wp2
  go_ret2
  exact ⟨rfl,⟨(⟨1,fl,st,none,0,0,0,0,0,0,0,false,0,none,0,0⟩:Fr),HB1.out⟩,Kp.nil HK1.out⟩
 ·rw [if_neg (by omega)]
  obtain ⟨b,o,rfl,hbw,hcell⟩:=hr.addr (by omega)
  obtain ⟨n1,rfl⟩:∃ n1,n=n1+1:=⟨n - 1,by omega⟩
  obtain ⟨c1,rfl⟩:∃ c1,c=c1+1:=⟨c - 1,by omega⟩
  have hy:=(l.getD 0 0).toNat_lt
  have hQ:=hcell 0 (by omega)
  rw [Nat.add_zero] at hQ
  generalize hyd:(l.getD 0 0).toNat=y at *
  have hbg:¬ b=g:=fun h=>hgA (by simp [ob,h])
  have HQ0:=Lib.hid hQ
  have HWY:=Lib.hid (show IntKind.i64.wrap (y:Int)=(y:Int) from IntWalk.i64_in _ (by omega))
  have hll:(l.length:Int) - 1=(n1:Int):=by omega
  have hl1:l.length - 1=n1:=by omega
  rw [hll,hl1]
  clear hB hr hp hfx h8 hcell hlen hQ hyd hll hl1
  by_cases hbd:(n1:Int) - (y:Int) < ((0:Nat):Int)
  ·by_cases hc1:c1=0
   ·subst hc1
    rw [if_pos hbd]
    have hbd':(n1:Int) - (y:Int) < 0:=by simpa using hbd
    clear hbd
    obtain rfl:n1=0:=by omega
    go_enter Try.func151,Try.ntmps151
    go_wp2_with fail
    generalize hW:World.alloc _ _=wa
    obtain ⟨K1,hkb⟩:=new_at hW
    have HKa2:=Lib.hid hkb
    have HBa:=Lib.hid (K1.heap HB.out (by simp))
    have HKa:=Lib.hid K1
    clear hW K1 hkb q0 q1 q2 q3 q4 q5 q6 q7 q8 q9 q10 q11 qz qlt qlt2
    refine (weightedF (⟨1,fl,st,none,0,0,0,0,0,0,0,false,0,none,0,0⟩:Fr) _ hf0 hf1).mono ?_
    rintro e w1 ⟨rfl,K2⟩
    rw [HPR.out]
    have HB1:=Lib.hid (K2.heap HBa.out (by simp))
    have HK1:=Lib.hid (HKa.out.trans K2)
    have HKB1:=Lib.hid (K2.heap HKa2.out (by simp))
    have k_2:=cell_of HKB1.out 2
    have k_l:=lt_of_heap HKB1.out
    clear HBa HKa HKa2 K2
    obtain ⟨q0,q1,q2,q3,q4,q5,q6,q7,q8,q9,q10,q11,qz,qlt,qlt2⟩:=cellsF HB1.out
    go_wp2
    clear q0 q1 q2 q3 q4 q5 q6 q7 q8 q9 q10 q11 qz qlt qlt2
    have HQ:=Lib.hid (HK1.out.cell HQ0.out (by simp))
    have HR1:=Lib.hid (HR.out.keep HK1.out (by simp))
    refine wp_region_st (by kernel_rfl) [fun _ v _=>v=(.pointer (some ⟨g,0,none⟩)),
      fun _ v _=>v=(.slice (some ⟨b,o,none⟩) 1 1),
      fun _ v _=>v=(.pointer (some ⟨b,o,none⟩)),
      fun _ v _=>v=(.int .u8 (y:Int)),
      fun _ v _=>v=(.int .i64 (y:Int)),
      fun _ v _=>v=(.slice (some ⟨b,o,none⟩) 1 1),
      fun _ v _=>v=(.slice (some ⟨b,o,none⟩) 0 0),
      fun _ v _=>v=(.pointer (some ⟨g,0,none⟩)),
      fun _ v _=>v=(.pointer (some ⟨g,4,none⟩)),
      fun _ v w=>True,
      fun _ v _=>v=(.slice (some ⟨b,o,none⟩) 0 0)] (fun p w=>Kp [g] w1 w∧(p≤0→Kp [] w1 w)∧(1≤p→w.heap[g]?=some (.cells #[.int .i64 1,.int .i64 fl,.int .i64 st,.slice none 0 0,.int .i64 (y:Int),.int .u32 0,.int .i64 0,.int .i64 0,.int .i64 0,.bool false,.int .i64 0,.slice none 0 0] 49))) (fun _ _ _=>True) (fun w w'=>Kp [] w w') [9] [] (by kernel_rfl) (by kernel_rfl) (by kernel_rfl) (by decide) (by kernel_rfl) ⟨StabAt2.const _,StabAt2.const _,StabAt2.const _,StabAt2.const _,StabAt2.const _,StabAt2.const _,StabAt2.const _,StabAt2.const _,StabAt2.const _,⟨fun _ _ _ _ _ _ _ h=>h,fun _ _ _ _ _ h=>h⟩,StabAt2.const _,trivial⟩ (⟨(Kp.refl _ _).drew,fun _=>(Kp.refl _ _).drew,fun h=>by omega⟩) ⟨?_,?_,?_,?_,?_,?_,?_,?_,?_,?_,?_,trivial⟩ (by kernel_rfl) ?_
    ·intro q9 a w E hC K hK
     have h0:a.tmps[0]?=some (.pointer (some ⟨g,0,none⟩)):=(E.out 0 (by kernel_rfl)).trans rfl
     refine want_none rfl ?_
     go_simp
     exact hK _ rfl
    ·intro q9 a w E hC K hK
     have h2:a.tmps[2]?=some (.slice (some ⟨b,o,none⟩) 1 1):=(E.out 2 (by kernel_rfl)).trans rfl
     refine want_none rfl ?_
     go_simp
     exact hK _ rfl
    ·intro q9 a w E hC K hK
     obtain ⟨_,h50,rfl⟩:=E.pred 1 _ 50 rfl rfl (by kernel_rfl)
     refine want_none rfl ?_
     go_simp
     exact hK _ rfl
    ·intro q9 a w E hC K hK
     obtain ⟨_,h51,rfl⟩:=E.pred 2 _ 51 rfl rfl (by kernel_rfl)
     refine want_none rfl ?_
     have g1:=hC.1.cell HQ.out (by simp [hbg])
     go_simp
     exact hK _ rfl
    ·intro q9 a w E hC K hK
     obtain ⟨_,h52,rfl⟩:=E.pred 3 _ 52 rfl rfl (by kernel_rfl)
     refine want_none rfl ?_
     have e1:=HWY.out
     go_simp
     exact hK _ rfl
    ·intro q9 a w E hC K hK
     have h2:a.tmps[2]?=some (.slice (some ⟨b,o,none⟩) 1 1):=(E.out 2 (by kernel_rfl)).trans rfl
     refine want_none rfl ?_
     go_simp
     exact hK _ rfl
    ·intro q9 a w E hC K hK
     obtain ⟨_,h54,rfl⟩:=E.pred 5 _ 54 rfl rfl (by kernel_rfl)
     refine want_none rfl ?_
     go_simp
     exact hK _ rfl
    ·intro q9 a w E hC K hK
     obtain ⟨_,h49,rfl⟩:=E.pred 0 _ 49 rfl rfl (by kernel_rfl)
     refine want_none rfl ?_
     go_simp
     exact hK _ rfl
    ·intro q9 a w E hC K hK
     obtain ⟨_,h56,rfl⟩:=E.pred 7 _ 56 rfl rfl (by kernel_rfl)
     refine want_none rfl ?_
     go_simp
     exact hK _ rfl
    ·intro a w E hC K hK
     obtain ⟨_,h57,rfl⟩:=E.pred 8 _ 57 rfl rfl (by kernel_rfl)
     obtain ⟨_,h53,rfl⟩:=E.pred 4 _ 53 rfl rfl (by kernel_rfl)
     refine want_none rfl ?_
     have hb:=(hC.2.1 (by omega)).heap HB1.out (by simp)
     have g4:=cell_of hb 4
     have gz:=frozen_of hb
     go_simp
     exact hK undef _ trivial ⟨hC.1.setCell (.inl (by simp)) _,fun h=>by omega,fun _=>hp_set _ _ _ _ _ _ hb⟩ trivial
    ·intro q9 a w E hC K hK
     obtain ⟨_,h55,rfl⟩:=E.pred 6 _ 55 rfl rfl (by kernel_rfl)
     refine want_none rfl ?_
     go_simp
     exact hK _ rfl
    intro vs w7 hC hV
    have h10:=hV 10 _ rfl (by simp)
    replace h10:vs 10=(.slice (some ⟨b,o,none⟩) 0 0):=h10
    have HB7:=Lib.hid (hC.2.2 (Nat.le_refl _))
    have HR7:=Lib.hid (HR1.out.keep hC.1 (by intro _ t h1 h2; simp at h2; subst h2; exact hgA h1))
    have HK7:=Lib.hid ((Kp.nil HK1.out).trans hC.1)
    clear hV hC HB1 HR1 HK1 HQ
    simp only [putAll,Act.put,List.setIfInBounds_toArray]
    dsimp only [List.set]
    rw [h10]
    clear h10
    obtain ⟨q0,q1,q2,q3,q4,q5,q6,q7,q8,q9,q10,q11,qz,qlt,qlt2⟩:=cellsF HB7.out
    go_wp2
    go_ret2
    exact ⟨rfl,⟨(⟨1,fl,st,none,0,0,(y:Int),0,0,0,0,false,0,none,0,0⟩:Fr),HB7.out⟩,HK7.out⟩
   ·rw [if_pos hbd]
    have hbd':(n1:Int) - (y:Int) < 0:=by simpa using hbd
    clear hbd
    go_enter Try.func151,Try.ntmps151
    go_wp2_with fail
    generalize hW:World.alloc _ _=wa
    obtain ⟨K1,hkb⟩:=new_at hW
    have HKa2:=Lib.hid hkb
    have HBa:=Lib.hid (K1.heap HB.out (by simp))
    have HKa:=Lib.hid K1
    clear hW K1 hkb q0 q1 q2 q3 q4 q5 q6 q7 q8 q9 q10 q11 qz qlt qlt2
    refine (weightedF (⟨1,fl,st,none,0,0,0,0,0,0,0,false,0,none,0,0⟩:Fr) _ hf0 hf1).mono ?_
    rintro e w1 ⟨rfl,K2⟩
    rw [HPR.out]
    have HB1:=Lib.hid (K2.heap HBa.out (by simp))
    have HK1:=Lib.hid (HKa.out.trans K2)
    have HKB1:=Lib.hid (K2.heap HKa2.out (by simp))
    have k_2:=cell_of HKB1.out 2
    have k_l:=lt_of_heap HKB1.out
    clear HBa HKa HKa2 K2
    obtain ⟨q0,q1,q2,q3,q4,q5,q6,q7,q8,q9,q10,q11,qz,qlt,qlt2⟩:=cellsF HB1.out
    go_wp2
    clear q0 q1 q2 q3 q4 q5 q6 q7 q8 q9 q10 q11 qz qlt qlt2
    have HQ:=Lib.hid (HK1.out.cell HQ0.out (by simp))
    have HR1:=Lib.hid (HR.out.keep HK1.out (by simp))
    refine wp_region_st (by kernel_rfl) [fun _ v _=>v=(.pointer (some ⟨g,0,none⟩)),
      fun _ v _=>v=(.slice (some ⟨b,o,none⟩) (n1+1) (c1+1)),
      fun _ v _=>v=(.pointer (some ⟨b,o,none⟩)),
      fun _ v _=>v=(.int .u8 (y:Int)),
      fun _ v _=>v=(.int .i64 (y:Int)),
      fun _ v _=>v=(.slice (some ⟨b,o,none⟩) (n1+1) (c1+1)),
      fun _ v _=>v=(.slice (some ⟨b,o+1,none⟩) n1 c1),
      fun _ v _=>v=(.pointer (some ⟨g,0,none⟩)),
      fun _ v _=>v=(.pointer (some ⟨g,4,none⟩)),
      fun _ v w=>True,
      fun _ v _=>v=(.slice (some ⟨b,o+1,none⟩) n1 c1)] (fun p w=>Kp [g] w1 w∧(p≤0→Kp [] w1 w)∧(1≤p→w.heap[g]?=some (.cells #[.int .i64 1,.int .i64 fl,.int .i64 st,.slice none 0 0,.int .i64 (y:Int),.int .u32 0,.int .i64 0,.int .i64 0,.int .i64 0,.bool false,.int .i64 0,.slice none 0 0] 49))) (fun _ _ _=>True) (fun w w'=>Kp [] w w') [9] [] (by kernel_rfl) (by kernel_rfl) (by kernel_rfl) (by decide) (by kernel_rfl) ⟨StabAt2.const _,StabAt2.const _,StabAt2.const _,StabAt2.const _,StabAt2.const _,StabAt2.const _,StabAt2.const _,StabAt2.const _,StabAt2.const _,⟨fun _ _ _ _ _ _ _ h=>h,fun _ _ _ _ _ h=>h⟩,StabAt2.const _,trivial⟩ (⟨(Kp.refl _ _).drew,fun _=>(Kp.refl _ _).drew,fun h=>by omega⟩) ⟨?_,?_,?_,?_,?_,?_,?_,?_,?_,?_,?_,trivial⟩ (by kernel_rfl) ?_
    ·intro q9 a w E hC K hK
     have h0:a.tmps[0]?=some (.pointer (some ⟨g,0,none⟩)):=(E.out 0 (by kernel_rfl)).trans rfl
     refine want_none rfl ?_
     go_simp
     exact hK _ rfl
    ·intro q9 a w E hC K hK
     have h2:a.tmps[2]?=some (.slice (some ⟨b,o,none⟩) (n1+1) (c1+1)):=(E.out 2 (by kernel_rfl)).trans rfl
     refine want_none rfl ?_
     go_simp
     exact hK _ rfl
    ·intro q9 a w E hC K hK
     obtain ⟨_,h50,rfl⟩:=E.pred 1 _ 50 rfl rfl (by kernel_rfl)
     refine want_none rfl ?_
     go_simp
     exact hK _ rfl
    ·intro q9 a w E hC K hK
     obtain ⟨_,h51,rfl⟩:=E.pred 2 _ 51 rfl rfl (by kernel_rfl)
     refine want_none rfl ?_
     have g1:=hC.1.cell HQ.out (by simp [hbg])
     go_simp
     exact hK _ rfl
    ·intro q9 a w E hC K hK
     obtain ⟨_,h52,rfl⟩:=E.pred 3 _ 52 rfl rfl (by kernel_rfl)
     refine want_none rfl ?_
     have e1:=HWY.out
     go_simp
     exact hK _ rfl
    ·intro q9 a w E hC K hK
     have h2:a.tmps[2]?=some (.slice (some ⟨b,o,none⟩) (n1+1) (c1+1)):=(E.out 2 (by kernel_rfl)).trans rfl
     refine want_none rfl ?_
     go_simp
     exact hK _ rfl
    ·intro q9 a w E hC K hK
     obtain ⟨_,h54,rfl⟩:=E.pred 5 _ 54 rfl rfl (by kernel_rfl)
     refine want_none rfl ?_
     go_simp
     exact hK _ rfl
    ·intro q9 a w E hC K hK
     obtain ⟨_,h49,rfl⟩:=E.pred 0 _ 49 rfl rfl (by kernel_rfl)
     refine want_none rfl ?_
     go_simp
     exact hK _ rfl
    ·intro q9 a w E hC K hK
     obtain ⟨_,h56,rfl⟩:=E.pred 7 _ 56 rfl rfl (by kernel_rfl)
     refine want_none rfl ?_
     go_simp
     exact hK _ rfl
    ·intro a w E hC K hK
     obtain ⟨_,h57,rfl⟩:=E.pred 8 _ 57 rfl rfl (by kernel_rfl)
     obtain ⟨_,h53,rfl⟩:=E.pred 4 _ 53 rfl rfl (by kernel_rfl)
     refine want_none rfl ?_
     have hb:=(hC.2.1 (by omega)).heap HB1.out (by simp)
     have g4:=cell_of hb 4
     have gz:=frozen_of hb
     go_simp
     exact hK undef _ trivial ⟨hC.1.setCell (.inl (by simp)) _,fun h=>by omega,fun _=>hp_set _ _ _ _ _ _ hb⟩ trivial
    ·intro q9 a w E hC K hK
     obtain ⟨_,h55,rfl⟩:=E.pred 6 _ 55 rfl rfl (by kernel_rfl)
     refine want_none rfl ?_
     go_simp
     exact hK _ rfl
    intro vs w7 hC hV
    have h10:=hV 10 _ rfl (by simp)
    replace h10:vs 10=(.slice (some ⟨b,o+1,none⟩) n1 c1):=h10
    have HB7:=Lib.hid (hC.2.2 (Nat.le_refl _))
    have HR7:=Lib.hid (HR1.out.keep hC.1 (by intro _ t h1 h2; simp at h2; subst h2; exact hgA h1))
    have HK7:=Lib.hid ((Kp.nil HK1.out).trans hC.1)
    clear hV hC HB1 HR1 HK1 HQ
    simp only [putAll,Act.put,List.setIfInBounds_toArray]
    dsimp only [List.set]
    rw [h10]
    clear h10
    obtain ⟨q0,q1,q2,q3,q4,q5,q6,q7,q8,q9,q10,q11,qz,qlt,qlt2⟩:=cellsF HB7.out
    go_wp2
    go_ret2
    exact ⟨rfl,⟨(⟨1,fl,st,none,0,0,(y:Int),0,0,0,0,false,0,none,0,0⟩:Fr),HB7.out⟩,HK7.out⟩
  ·by_cases hc1:c1=0
   ·subst hc1
    rw [if_neg hbd]
    have hbd':¬ (n1:Int) - (y:Int) < 0:=by simpa using hbd
    clear hbd
    obtain rfl:n1=0:=by omega
    go_enter Try.func151,Try.ntmps151
    go_wp2_with fail
    generalize hW:World.alloc _ _=wa
    obtain ⟨K1,hkb⟩:=new_at hW
    have HKa2:=Lib.hid hkb
    have HBa:=Lib.hid (K1.heap HB.out (by simp))
    have HKa:=Lib.hid K1
    clear hW K1 hkb q0 q1 q2 q3 q4 q5 q6 q7 q8 q9 q10 q11 qz qlt qlt2
    refine (weightedF (⟨1,fl,st,none,0,0,0,0,0,0,0,false,0,none,0,0⟩:Fr) _ hf0 hf1).mono ?_
    rintro e w1 ⟨rfl,K2⟩
    rw [HPR.out]
    have HB1:=Lib.hid (K2.heap HBa.out (by simp))
    have HK1:=Lib.hid (HKa.out.trans K2)
    have HKB1:=Lib.hid (K2.heap HKa2.out (by simp))
    have k_2:=cell_of HKB1.out 2
    have k_l:=lt_of_heap HKB1.out
    clear HBa HKa HKa2 K2
    obtain ⟨q0,q1,q2,q3,q4,q5,q6,q7,q8,q9,q10,q11,qz,qlt,qlt2⟩:=cellsF HB1.out
    go_wp2
    clear q0 q1 q2 q3 q4 q5 q6 q7 q8 q9 q10 q11 qz qlt qlt2
    have HQ:=Lib.hid (HK1.out.cell HQ0.out (by simp))
    have HR1:=Lib.hid (HR.out.keep HK1.out (by simp))
    refine wp_region_st (by kernel_rfl) [fun _ v _=>v=(.pointer (some ⟨g,0,none⟩)),
      fun _ v _=>v=(.slice (some ⟨b,o,none⟩) 1 1),
      fun _ v _=>v=(.pointer (some ⟨b,o,none⟩)),
      fun _ v _=>v=(.int .u8 (y:Int)),
      fun _ v _=>v=(.int .i64 (y:Int)),
      fun _ v _=>v=(.slice (some ⟨b,o,none⟩) 1 1),
      fun _ v _=>v=(.slice (some ⟨b,o,none⟩) 0 0),
      fun _ v _=>v=(.pointer (some ⟨g,0,none⟩)),
      fun _ v _=>v=(.pointer (some ⟨g,4,none⟩)),
      fun _ v w=>True,
      fun _ v _=>v=(.slice (some ⟨b,o,none⟩) 0 0)] (fun p w=>Kp [g] w1 w∧(p≤0→Kp [] w1 w)∧(1≤p→w.heap[g]?=some (.cells #[.int .i64 1,.int .i64 fl,.int .i64 st,.slice none 0 0,.int .i64 (y:Int),.int .u32 0,.int .i64 0,.int .i64 0,.int .i64 0,.bool false,.int .i64 0,.slice none 0 0] 49))) (fun _ _ _=>True) (fun w w'=>Kp [] w w') [9] [] (by kernel_rfl) (by kernel_rfl) (by kernel_rfl) (by decide) (by kernel_rfl) ⟨StabAt2.const _,StabAt2.const _,StabAt2.const _,StabAt2.const _,StabAt2.const _,StabAt2.const _,StabAt2.const _,StabAt2.const _,StabAt2.const _,⟨fun _ _ _ _ _ _ _ h=>h,fun _ _ _ _ _ h=>h⟩,StabAt2.const _,trivial⟩ (⟨(Kp.refl _ _).drew,fun _=>(Kp.refl _ _).drew,fun h=>by omega⟩) ⟨?_,?_,?_,?_,?_,?_,?_,?_,?_,?_,?_,trivial⟩ (by kernel_rfl) ?_
    ·intro q9 a w E hC K hK
     have h0:a.tmps[0]?=some (.pointer (some ⟨g,0,none⟩)):=(E.out 0 (by kernel_rfl)).trans rfl
     refine want_none rfl ?_
     go_simp
     exact hK _ rfl
    ·intro q9 a w E hC K hK
     have h2:a.tmps[2]?=some (.slice (some ⟨b,o,none⟩) 1 1):=(E.out 2 (by kernel_rfl)).trans rfl
     refine want_none rfl ?_
     go_simp
     exact hK _ rfl
    ·intro q9 a w E hC K hK
     obtain ⟨_,h50,rfl⟩:=E.pred 1 _ 50 rfl rfl (by kernel_rfl)
     refine want_none rfl ?_
     go_simp
     exact hK _ rfl
    ·intro q9 a w E hC K hK
     obtain ⟨_,h51,rfl⟩:=E.pred 2 _ 51 rfl rfl (by kernel_rfl)
     refine want_none rfl ?_
     have g1:=hC.1.cell HQ.out (by simp [hbg])
     go_simp
     exact hK _ rfl
    ·intro q9 a w E hC K hK
     obtain ⟨_,h52,rfl⟩:=E.pred 3 _ 52 rfl rfl (by kernel_rfl)
     refine want_none rfl ?_
     have e1:=HWY.out
     go_simp
     exact hK _ rfl
    ·intro q9 a w E hC K hK
     have h2:a.tmps[2]?=some (.slice (some ⟨b,o,none⟩) 1 1):=(E.out 2 (by kernel_rfl)).trans rfl
     refine want_none rfl ?_
     go_simp
     exact hK _ rfl
    ·intro q9 a w E hC K hK
     obtain ⟨_,h54,rfl⟩:=E.pred 5 _ 54 rfl rfl (by kernel_rfl)
     refine want_none rfl ?_
     go_simp
     exact hK _ rfl
    ·intro q9 a w E hC K hK
     obtain ⟨_,h49,rfl⟩:=E.pred 0 _ 49 rfl rfl (by kernel_rfl)
     refine want_none rfl ?_
     go_simp
     exact hK _ rfl
    ·intro q9 a w E hC K hK
     obtain ⟨_,h56,rfl⟩:=E.pred 7 _ 56 rfl rfl (by kernel_rfl)
     refine want_none rfl ?_
     go_simp
     exact hK _ rfl
    ·intro a w E hC K hK
     obtain ⟨_,h57,rfl⟩:=E.pred 8 _ 57 rfl rfl (by kernel_rfl)
     obtain ⟨_,h53,rfl⟩:=E.pred 4 _ 53 rfl rfl (by kernel_rfl)
     refine want_none rfl ?_
     have hb:=(hC.2.1 (by omega)).heap HB1.out (by simp)
     have g4:=cell_of hb 4
     have gz:=frozen_of hb
     go_simp
     exact hK undef _ trivial ⟨hC.1.setCell (.inl (by simp)) _,fun h=>by omega,fun _=>hp_set _ _ _ _ _ _ hb⟩ trivial
    ·intro q9 a w E hC K hK
     obtain ⟨_,h55,rfl⟩:=E.pred 6 _ 55 rfl rfl (by kernel_rfl)
     refine want_none rfl ?_
     go_simp
     exact hK _ rfl
    intro vs w7 hC hV
    have h10:=hV 10 _ rfl (by simp)
    replace h10:vs 10=(.slice (some ⟨b,o,none⟩) 0 0):=h10
    have HB7:=Lib.hid (hC.2.2 (Nat.le_refl _))
    have HR7:=Lib.hid (HR1.out.keep hC.1 (by intro _ t h1 h2; simp at h2; subst h2; exact hgA h1))
    have HK7:=Lib.hid ((Kp.nil HK1.out).trans hC.1)
    clear hV hC HB1 HR1 HK1 HQ
    simp only [putAll,Act.put,List.setIfInBounds_toArray]
    dsimp only [List.set]
    rw [h10]
    clear h10
    obtain ⟨q0,q1,q2,q3,q4,q5,q6,q7,q8,q9,q10,q11,qz,qlt,qlt2⟩:=cellsF HB7.out
    go_wp2
    go_ret2
    have hq:=HR7.out.sub 1 (1+(0 - y)) (by omega) (by omega) (A':=(some ⟨b,o,none⟩)) (by intro b' o' h1 h2; omega)
    have eq1:1+(0 - y) - 1=0 - y:=by omega
    rw [eq1] at hq
    rw [Nat.zero_sub] at hq
    exact ⟨(some ⟨b,o,none⟩),0,0,rfl,by rw [Nat.zero_sub]; exact ⟨hq.len,Nat.le_refl _,hq.at_⟩,by simp [ob]; omega,by omega,HB7.out,HK7.out⟩
   ·rw [if_neg hbd]
    have hbd':¬ (n1:Int) - (y:Int) < 0:=by simpa using hbd
    clear hbd
    go_enter Try.func151,Try.ntmps151
    go_wp2_with fail
    generalize hW:World.alloc _ _=wa
    obtain ⟨K1,hkb⟩:=new_at hW
    have HKa2:=Lib.hid hkb
    have HBa:=Lib.hid (K1.heap HB.out (by simp))
    have HKa:=Lib.hid K1
    clear hW K1 hkb q0 q1 q2 q3 q4 q5 q6 q7 q8 q9 q10 q11 qz qlt qlt2
    refine (weightedF (⟨1,fl,st,none,0,0,0,0,0,0,0,false,0,none,0,0⟩:Fr) _ hf0 hf1).mono ?_
    rintro e w1 ⟨rfl,K2⟩
    rw [HPR.out]
    have HB1:=Lib.hid (K2.heap HBa.out (by simp))
    have HK1:=Lib.hid (HKa.out.trans K2)
    have HKB1:=Lib.hid (K2.heap HKa2.out (by simp))
    have k_2:=cell_of HKB1.out 2
    have k_l:=lt_of_heap HKB1.out
    clear HBa HKa HKa2 K2
    obtain ⟨q0,q1,q2,q3,q4,q5,q6,q7,q8,q9,q10,q11,qz,qlt,qlt2⟩:=cellsF HB1.out
    go_wp2
    clear q0 q1 q2 q3 q4 q5 q6 q7 q8 q9 q10 q11 qz qlt qlt2
    have HQ:=Lib.hid (HK1.out.cell HQ0.out (by simp))
    have HR1:=Lib.hid (HR.out.keep HK1.out (by simp))
    refine wp_region_st (by kernel_rfl) [fun _ v _=>v=(.pointer (some ⟨g,0,none⟩)),
      fun _ v _=>v=(.slice (some ⟨b,o,none⟩) (n1+1) (c1+1)),
      fun _ v _=>v=(.pointer (some ⟨b,o,none⟩)),
      fun _ v _=>v=(.int .u8 (y:Int)),
      fun _ v _=>v=(.int .i64 (y:Int)),
      fun _ v _=>v=(.slice (some ⟨b,o,none⟩) (n1+1) (c1+1)),
      fun _ v _=>v=(.slice (some ⟨b,o+1,none⟩) n1 c1),
      fun _ v _=>v=(.pointer (some ⟨g,0,none⟩)),
      fun _ v _=>v=(.pointer (some ⟨g,4,none⟩)),
      fun _ v w=>True,
      fun _ v _=>v=(.slice (some ⟨b,o+1,none⟩) n1 c1)] (fun p w=>Kp [g] w1 w∧(p≤0→Kp [] w1 w)∧(1≤p→w.heap[g]?=some (.cells #[.int .i64 1,.int .i64 fl,.int .i64 st,.slice none 0 0,.int .i64 (y:Int),.int .u32 0,.int .i64 0,.int .i64 0,.int .i64 0,.bool false,.int .i64 0,.slice none 0 0] 49))) (fun _ _ _=>True) (fun w w'=>Kp [] w w') [9] [] (by kernel_rfl) (by kernel_rfl) (by kernel_rfl) (by decide) (by kernel_rfl) ⟨StabAt2.const _,StabAt2.const _,StabAt2.const _,StabAt2.const _,StabAt2.const _,StabAt2.const _,StabAt2.const _,StabAt2.const _,StabAt2.const _,⟨fun _ _ _ _ _ _ _ h=>h,fun _ _ _ _ _ h=>h⟩,StabAt2.const _,trivial⟩ (⟨(Kp.refl _ _).drew,fun _=>(Kp.refl _ _).drew,fun h=>by omega⟩) ⟨?_,?_,?_,?_,?_,?_,?_,?_,?_,?_,?_,trivial⟩ (by kernel_rfl) ?_
    ·intro q9 a w E hC K hK
     have h0:a.tmps[0]?=some (.pointer (some ⟨g,0,none⟩)):=(E.out 0 (by kernel_rfl)).trans rfl
     refine want_none rfl ?_
     go_simp
     exact hK _ rfl
    ·intro q9 a w E hC K hK
     have h2:a.tmps[2]?=some (.slice (some ⟨b,o,none⟩) (n1+1) (c1+1)):=(E.out 2 (by kernel_rfl)).trans rfl
     refine want_none rfl ?_
     go_simp
     exact hK _ rfl
    ·intro q9 a w E hC K hK
     obtain ⟨_,h50,rfl⟩:=E.pred 1 _ 50 rfl rfl (by kernel_rfl)
     refine want_none rfl ?_
     go_simp
     exact hK _ rfl
    ·intro q9 a w E hC K hK
     obtain ⟨_,h51,rfl⟩:=E.pred 2 _ 51 rfl rfl (by kernel_rfl)
     refine want_none rfl ?_
     have g1:=hC.1.cell HQ.out (by simp [hbg])
     go_simp
     exact hK _ rfl
    ·intro q9 a w E hC K hK
     obtain ⟨_,h52,rfl⟩:=E.pred 3 _ 52 rfl rfl (by kernel_rfl)
     refine want_none rfl ?_
     have e1:=HWY.out
     go_simp
     exact hK _ rfl
    ·intro q9 a w E hC K hK
     have h2:a.tmps[2]?=some (.slice (some ⟨b,o,none⟩) (n1+1) (c1+1)):=(E.out 2 (by kernel_rfl)).trans rfl
     refine want_none rfl ?_
     go_simp
     exact hK _ rfl
    ·intro q9 a w E hC K hK
     obtain ⟨_,h54,rfl⟩:=E.pred 5 _ 54 rfl rfl (by kernel_rfl)
     refine want_none rfl ?_
     go_simp
     exact hK _ rfl
    ·intro q9 a w E hC K hK
     obtain ⟨_,h49,rfl⟩:=E.pred 0 _ 49 rfl rfl (by kernel_rfl)
     refine want_none rfl ?_
     go_simp
     exact hK _ rfl
    ·intro q9 a w E hC K hK
     obtain ⟨_,h56,rfl⟩:=E.pred 7 _ 56 rfl rfl (by kernel_rfl)
     refine want_none rfl ?_
     go_simp
     exact hK _ rfl
    ·intro a w E hC K hK
     obtain ⟨_,h57,rfl⟩:=E.pred 8 _ 57 rfl rfl (by kernel_rfl)
     obtain ⟨_,h53,rfl⟩:=E.pred 4 _ 53 rfl rfl (by kernel_rfl)
     refine want_none rfl ?_
     have hb:=(hC.2.1 (by omega)).heap HB1.out (by simp)
     have g4:=cell_of hb 4
     have gz:=frozen_of hb
     go_simp
     exact hK undef _ trivial ⟨hC.1.setCell (.inl (by simp)) _,fun h=>by omega,fun _=>hp_set _ _ _ _ _ _ hb⟩ trivial
    ·intro q9 a w E hC K hK
     obtain ⟨_,h55,rfl⟩:=E.pred 6 _ 55 rfl rfl (by kernel_rfl)
     refine want_none rfl ?_
     go_simp
     exact hK _ rfl
    intro vs w7 hC hV
    have h10:=hV 10 _ rfl (by simp)
    replace h10:vs 10=(.slice (some ⟨b,o+1,none⟩) n1 c1):=h10
    have HB7:=Lib.hid (hC.2.2 (Nat.le_refl _))
    have HR7:=Lib.hid (HR1.out.keep hC.1 (by intro _ t h1 h2; simp at h2; subst h2; exact hgA h1))
    have HK7:=Lib.hid ((Kp.nil HK1.out).trans hC.1)
    clear hV hC HB1 HR1 HK1 HQ
    simp only [putAll,Act.put,List.setIfInBounds_toArray]
    dsimp only [List.set]
    rw [h10]
    clear h10
    obtain ⟨q0,q1,q2,q3,q4,q5,q6,q7,q8,q9,q10,q11,qz,qlt,qlt2⟩:=cellsF HB7.out
    go_wp2
    go_ret2
    have hq:=HR7.out.sub 1 (1+(n1 - y)) (by omega) (by omega) (A':=(some ⟨b,o+1,none⟩)) (by intro b' o' h1 h2; injection h1 with h1; injection h1 with h1 h3 _; rw [h1,h3])
    have eq1:1+(n1 - y) - 1=n1 - y:=by omega
    rw [eq1] at hq
    exact ⟨(some ⟨b,o+1,none⟩),n1 - y,n1 - y,rfl,⟨hq.len,Nat.le_refl _,hq.at_⟩,by simp [ob]; omega,by omega,HB7.out,HK7.out⟩
theorem unpad1tt (fl st:Int) (z any:Bool) (f1 f2 f3 f4:Value) (h1:f1.cells=#[f1]) (h2:f2.cells=#[f2]) (h3:f3.cells=#[f3]) (h4:f4.cells=#[f4]) (hf0:0≤fl) (hf1:fl≤255) (h8:hasB fl 8=true) (h32:hasB fl 32=true) (g:Nat) (A:Option Addr) (n c:Nat) (l:List UInt8) (w:World) (hB:w.heap[g]?=some (.cells #[.int .i64 1,.int .i64 fl,.int .i64 st,.slice none 0 0,.int .i64 0,.int .u32 0,.int .i64 0,.int .i64 0,.int .i64 0,.bool false,.int .i64 0,.slice none 0 0] 49)) (hr:Rd w A n c l) (hgA:g∉ob A) (hn:n≤16777216) :
  Calls Try.prog 151 #[.pointer (some ⟨g,0,none⟩),.agg #[.bool z,.bool any,.bool true,f1,f2,f3,f4],.slice A n c] w (UnR 1 fl st g (unS 1 fl l) w):=by
 have hp:padF 1 fl=true:=by simp [padF,paddedB,h8]
 have hfx:fixedN 1 fl=5:=by simp [fixedN,h32]
 have hb8:(bits .and .i64 fl 8 == 0)=false:=by
  have:=(bits_has fl hf0 hf1).2.1
  rw [h8] at this
  simpa [bne] using this
 have hlen:=hr.len
 unfold unS
 rw [hp,hfx]
 have HPR:=Lib.hid (show prioB 1 fl=true by simp [prioB,h32])
 clear h32
 have HB:=Lib.hid hB
 have HR:=Lib.hid hr
 have HLEN:=Lib.hid hlen
 have hg:=lt_of_heap hB
 have hcap:=hr.cap
 obtain ⟨q0,q1,q2,q3,q4,q5,q6,q7,q8,q9,q10,q11,qz,qlt,qlt2⟩:=cellsF hB
 rw [if_pos rfl]
 by_cases hs:n < 1+5
 ·rw [if_pos (by omega)]
  clear hB hr hp hfx h8 hlen
  go_enter Try.func151,Try.ntmps151
  go_wp2_with fail
  generalize hW:World.alloc _ _=wa
  obtain ⟨K1,hkb⟩:=new_at hW
  have HKa2:=Lib.hid hkb
  have HBa:=Lib.hid (K1.heap HB.out (by simp))
  have HKa:=Lib.hid K1
  clear hW K1 hkb q0 q1 q2 q3 q4 q5 q6 q7 q8 q9 q10 q11 qz qlt qlt2
  refine (weightedF (⟨1,fl,st,none,0,0,0,0,0,0,0,false,0,none,0,0⟩:Fr) _ hf0 hf1).mono ?_
  rintro e w1 ⟨rfl,K2⟩
  rw [HPR.out]
  have HB1:=Lib.hid (K2.heap HBa.out (by simp))
  have HK1:=Lib.hid (HKa.out.trans K2)
  have HKB1:=Lib.hid (K2.heap HKa2.out (by simp))
  have k_2:=cell_of HKB1.out 2
  have k_l:=lt_of_heap HKB1.out
  clear HBa HKa HKa2 K2
  obtain ⟨q0,q1,q2,q3,q4,q5,q6,q7,q8,q9,q10,q11,qz,qlt,qlt2⟩:=cellsF HB1.out
  go_wp2
  go_ret2
  exact ⟨rfl,⟨(⟨1,fl,st,none,0,0,0,0,0,0,0,false,0,none,0,0⟩:Fr),HB1.out⟩,Kp.nil HK1.out⟩
 ·rw [if_neg (by omega)]
  obtain ⟨b,o,rfl,hbw,hcell⟩:=hr.addr (by omega)
  obtain ⟨n1,rfl⟩:∃ n1,n=n1+1:=⟨n - 1,by omega⟩
  obtain ⟨c1,rfl⟩:∃ c1,c=c1+1:=⟨c - 1,by omega⟩
  have hy:=(l.getD 0 0).toNat_lt
  have hQ:=hcell 0 (by omega)
  rw [Nat.add_zero] at hQ
  generalize hyd:(l.getD 0 0).toNat=y at *
  have hbg:¬ b=g:=fun h=>hgA (by simp [ob,h])
  have HQ0:=Lib.hid hQ
  have HWY:=Lib.hid (show IntKind.i64.wrap (y:Int)=(y:Int) from IntWalk.i64_in _ (by omega))
  have hll:(l.length:Int) - 1=(n1:Int):=by omega
  have hl1:l.length - 1=n1:=by omega
  rw [hll,hl1]
  clear hB hr hp hfx h8 hcell hlen hQ hyd hll hl1
  by_cases hbd:(n1:Int) - (y:Int) < ((5:Nat):Int)
  ·have hc1:¬ c1=0:=by omega
   rw [if_pos hbd]
   have hbd':(n1:Int) - (y:Int) < 5:=by simpa using hbd
   clear hbd
   go_enter Try.func151,Try.ntmps151
   go_wp2_with fail
   generalize hW:World.alloc _ _=wa
   obtain ⟨K1,hkb⟩:=new_at hW
   have HKa2:=Lib.hid hkb
   have HBa:=Lib.hid (K1.heap HB.out (by simp))
   have HKa:=Lib.hid K1
   clear hW K1 hkb q0 q1 q2 q3 q4 q5 q6 q7 q8 q9 q10 q11 qz qlt qlt2
   refine (weightedF (⟨1,fl,st,none,0,0,0,0,0,0,0,false,0,none,0,0⟩:Fr) _ hf0 hf1).mono ?_
   rintro e w1 ⟨rfl,K2⟩
   rw [HPR.out]
   have HB1:=Lib.hid (K2.heap HBa.out (by simp))
   have HK1:=Lib.hid (HKa.out.trans K2)
   have HKB1:=Lib.hid (K2.heap HKa2.out (by simp))
   have k_2:=cell_of HKB1.out 2
   have k_l:=lt_of_heap HKB1.out
   clear HBa HKa HKa2 K2
   obtain ⟨q0,q1,q2,q3,q4,q5,q6,q7,q8,q9,q10,q11,qz,qlt,qlt2⟩:=cellsF HB1.out
   go_wp2
   clear q0 q1 q2 q3 q4 q5 q6 q7 q8 q9 q10 q11 qz qlt qlt2
   have HQ:=Lib.hid (HK1.out.cell HQ0.out (by simp))
   have HR1:=Lib.hid (HR.out.keep HK1.out (by simp))
   refine wp_region_st (by kernel_rfl) [fun _ v _=>v=(.pointer (some ⟨g,0,none⟩)),
     fun _ v _=>v=(.slice (some ⟨b,o,none⟩) (n1+1) (c1+1)),
     fun _ v _=>v=(.pointer (some ⟨b,o,none⟩)),
     fun _ v _=>v=(.int .u8 (y:Int)),
     fun _ v _=>v=(.int .i64 (y:Int)),
     fun _ v _=>v=(.slice (some ⟨b,o,none⟩) (n1+1) (c1+1)),
     fun _ v _=>v=(.slice (some ⟨b,o+1,none⟩) n1 c1),
     fun _ v _=>v=(.pointer (some ⟨g,0,none⟩)),
     fun _ v _=>v=(.pointer (some ⟨g,4,none⟩)),
     fun _ v w=>True,
     fun _ v _=>v=(.slice (some ⟨b,o+1,none⟩) n1 c1)] (fun p w=>Kp [g] w1 w∧(p≤0→Kp [] w1 w)∧(1≤p→w.heap[g]?=some (.cells #[.int .i64 1,.int .i64 fl,.int .i64 st,.slice none 0 0,.int .i64 (y:Int),.int .u32 0,.int .i64 0,.int .i64 0,.int .i64 0,.bool false,.int .i64 0,.slice none 0 0] 49))) (fun _ _ _=>True) (fun w w'=>Kp [] w w') [9] [] (by kernel_rfl) (by kernel_rfl) (by kernel_rfl) (by decide) (by kernel_rfl) ⟨StabAt2.const _,StabAt2.const _,StabAt2.const _,StabAt2.const _,StabAt2.const _,StabAt2.const _,StabAt2.const _,StabAt2.const _,StabAt2.const _,⟨fun _ _ _ _ _ _ _ h=>h,fun _ _ _ _ _ h=>h⟩,StabAt2.const _,trivial⟩ (⟨(Kp.refl _ _).drew,fun _=>(Kp.refl _ _).drew,fun h=>by omega⟩) ⟨?_,?_,?_,?_,?_,?_,?_,?_,?_,?_,?_,trivial⟩ (by kernel_rfl) ?_
   ·intro q9 a w E hC K hK
    have h0:a.tmps[0]?=some (.pointer (some ⟨g,0,none⟩)):=(E.out 0 (by kernel_rfl)).trans rfl
    refine want_none rfl ?_
    go_simp
    exact hK _ rfl
   ·intro q9 a w E hC K hK
    have h2:a.tmps[2]?=some (.slice (some ⟨b,o,none⟩) (n1+1) (c1+1)):=(E.out 2 (by kernel_rfl)).trans rfl
    refine want_none rfl ?_
    go_simp
    exact hK _ rfl
   ·intro q9 a w E hC K hK
    obtain ⟨_,h50,rfl⟩:=E.pred 1 _ 50 rfl rfl (by kernel_rfl)
    refine want_none rfl ?_
    go_simp
    exact hK _ rfl
   ·intro q9 a w E hC K hK
    obtain ⟨_,h51,rfl⟩:=E.pred 2 _ 51 rfl rfl (by kernel_rfl)
    refine want_none rfl ?_
    have g1:=hC.1.cell HQ.out (by simp [hbg])
    go_simp
    exact hK _ rfl
   ·intro q9 a w E hC K hK
    obtain ⟨_,h52,rfl⟩:=E.pred 3 _ 52 rfl rfl (by kernel_rfl)
    refine want_none rfl ?_
    have e1:=HWY.out
    go_simp
    exact hK _ rfl
   ·intro q9 a w E hC K hK
    have h2:a.tmps[2]?=some (.slice (some ⟨b,o,none⟩) (n1+1) (c1+1)):=(E.out 2 (by kernel_rfl)).trans rfl
    refine want_none rfl ?_
    go_simp
    exact hK _ rfl
   ·intro q9 a w E hC K hK
    obtain ⟨_,h54,rfl⟩:=E.pred 5 _ 54 rfl rfl (by kernel_rfl)
    refine want_none rfl ?_
    have i1:(1:Int)≤(n1:Int)+1:=by omega
    go_simp
    exact hK _ rfl
   ·intro q9 a w E hC K hK
    obtain ⟨_,h49,rfl⟩:=E.pred 0 _ 49 rfl rfl (by kernel_rfl)
    refine want_none rfl ?_
    go_simp
    exact hK _ rfl
   ·intro q9 a w E hC K hK
    obtain ⟨_,h56,rfl⟩:=E.pred 7 _ 56 rfl rfl (by kernel_rfl)
    refine want_none rfl ?_
    go_simp
    exact hK _ rfl
   ·intro a w E hC K hK
    obtain ⟨_,h57,rfl⟩:=E.pred 8 _ 57 rfl rfl (by kernel_rfl)
    obtain ⟨_,h53,rfl⟩:=E.pred 4 _ 53 rfl rfl (by kernel_rfl)
    refine want_none rfl ?_
    have hb:=(hC.2.1 (by omega)).heap HB1.out (by simp)
    have g4:=cell_of hb 4
    have gz:=frozen_of hb
    go_simp
    exact hK undef _ trivial ⟨hC.1.setCell (.inl (by simp)) _,fun h=>by omega,fun _=>hp_set _ _ _ _ _ _ hb⟩ trivial
   ·intro q9 a w E hC K hK
    obtain ⟨_,h55,rfl⟩:=E.pred 6 _ 55 rfl rfl (by kernel_rfl)
    refine want_none rfl ?_
    go_simp
    exact hK _ rfl
   intro vs w7 hC hV
   have h10:=hV 10 _ rfl (by simp)
   replace h10:vs 10=(.slice (some ⟨b,o+1,none⟩) n1 c1):=h10
   have HB7:=Lib.hid (hC.2.2 (Nat.le_refl _))
   have HR7:=Lib.hid (HR1.out.keep hC.1 (by intro _ t h1 h2; simp at h2; subst h2; exact hgA h1))
   have HK7:=Lib.hid ((Kp.nil HK1.out).trans hC.1)
   clear hV hC HB1 HR1 HK1 HQ
   simp only [putAll,Act.put,List.setIfInBounds_toArray]
   dsimp only [List.set]
   rw [h10]
   clear h10
   obtain ⟨q0,q1,q2,q3,q4,q5,q6,q7,q8,q9,q10,q11,qz,qlt,qlt2⟩:=cellsF HB7.out
   go_wp2
   go_ret2
   exact ⟨rfl,⟨(⟨1,fl,st,none,0,0,(y:Int),0,0,0,0,false,0,none,0,0⟩:Fr),HB7.out⟩,HK7.out⟩
  ·have hc1:¬ c1=0:=by omega
   rw [if_neg hbd]
   have hbd':¬ (n1:Int) - (y:Int) < 5:=by simpa using hbd
   clear hbd
   go_enter Try.func151,Try.ntmps151
   go_wp2_with fail
   generalize hW:World.alloc _ _=wa
   obtain ⟨K1,hkb⟩:=new_at hW
   have HKa2:=Lib.hid hkb
   have HBa:=Lib.hid (K1.heap HB.out (by simp))
   have HKa:=Lib.hid K1
   clear hW K1 hkb q0 q1 q2 q3 q4 q5 q6 q7 q8 q9 q10 q11 qz qlt qlt2
   refine (weightedF (⟨1,fl,st,none,0,0,0,0,0,0,0,false,0,none,0,0⟩:Fr) _ hf0 hf1).mono ?_
   rintro e w1 ⟨rfl,K2⟩
   rw [HPR.out]
   have HB1:=Lib.hid (K2.heap HBa.out (by simp))
   have HK1:=Lib.hid (HKa.out.trans K2)
   have HKB1:=Lib.hid (K2.heap HKa2.out (by simp))
   have k_2:=cell_of HKB1.out 2
   have k_l:=lt_of_heap HKB1.out
   clear HBa HKa HKa2 K2
   obtain ⟨q0,q1,q2,q3,q4,q5,q6,q7,q8,q9,q10,q11,qz,qlt,qlt2⟩:=cellsF HB1.out
   go_wp2
   clear q0 q1 q2 q3 q4 q5 q6 q7 q8 q9 q10 q11 qz qlt qlt2
   have HQ:=Lib.hid (HK1.out.cell HQ0.out (by simp))
   have HR1:=Lib.hid (HR.out.keep HK1.out (by simp))
   refine wp_region_st (by kernel_rfl) [fun _ v _=>v=(.pointer (some ⟨g,0,none⟩)),
     fun _ v _=>v=(.slice (some ⟨b,o,none⟩) (n1+1) (c1+1)),
     fun _ v _=>v=(.pointer (some ⟨b,o,none⟩)),
     fun _ v _=>v=(.int .u8 (y:Int)),
     fun _ v _=>v=(.int .i64 (y:Int)),
     fun _ v _=>v=(.slice (some ⟨b,o,none⟩) (n1+1) (c1+1)),
     fun _ v _=>v=(.slice (some ⟨b,o+1,none⟩) n1 c1),
     fun _ v _=>v=(.pointer (some ⟨g,0,none⟩)),
     fun _ v _=>v=(.pointer (some ⟨g,4,none⟩)),
     fun _ v w=>True,
     fun _ v _=>v=(.slice (some ⟨b,o+1,none⟩) n1 c1)] (fun p w=>Kp [g] w1 w∧(p≤0→Kp [] w1 w)∧(1≤p→w.heap[g]?=some (.cells #[.int .i64 1,.int .i64 fl,.int .i64 st,.slice none 0 0,.int .i64 (y:Int),.int .u32 0,.int .i64 0,.int .i64 0,.int .i64 0,.bool false,.int .i64 0,.slice none 0 0] 49))) (fun _ _ _=>True) (fun w w'=>Kp [] w w') [9] [] (by kernel_rfl) (by kernel_rfl) (by kernel_rfl) (by decide) (by kernel_rfl) ⟨StabAt2.const _,StabAt2.const _,StabAt2.const _,StabAt2.const _,StabAt2.const _,StabAt2.const _,StabAt2.const _,StabAt2.const _,StabAt2.const _,⟨fun _ _ _ _ _ _ _ h=>h,fun _ _ _ _ _ h=>h⟩,StabAt2.const _,trivial⟩ (⟨(Kp.refl _ _).drew,fun _=>(Kp.refl _ _).drew,fun h=>by omega⟩) ⟨?_,?_,?_,?_,?_,?_,?_,?_,?_,?_,?_,trivial⟩ (by kernel_rfl) ?_
   ·intro q9 a w E hC K hK
    have h0:a.tmps[0]?=some (.pointer (some ⟨g,0,none⟩)):=(E.out 0 (by kernel_rfl)).trans rfl
    refine want_none rfl ?_
    go_simp
    exact hK _ rfl
   ·intro q9 a w E hC K hK
    have h2:a.tmps[2]?=some (.slice (some ⟨b,o,none⟩) (n1+1) (c1+1)):=(E.out 2 (by kernel_rfl)).trans rfl
    refine want_none rfl ?_
    go_simp
    exact hK _ rfl
   ·intro q9 a w E hC K hK
    obtain ⟨_,h50,rfl⟩:=E.pred 1 _ 50 rfl rfl (by kernel_rfl)
    refine want_none rfl ?_
    go_simp
    exact hK _ rfl
   ·intro q9 a w E hC K hK
    obtain ⟨_,h51,rfl⟩:=E.pred 2 _ 51 rfl rfl (by kernel_rfl)
    refine want_none rfl ?_
    have g1:=hC.1.cell HQ.out (by simp [hbg])
    go_simp
    exact hK _ rfl
   ·intro q9 a w E hC K hK
    obtain ⟨_,h52,rfl⟩:=E.pred 3 _ 52 rfl rfl (by kernel_rfl)
    refine want_none rfl ?_
    have e1:=HWY.out
    go_simp
    exact hK _ rfl
   ·intro q9 a w E hC K hK
    have h2:a.tmps[2]?=some (.slice (some ⟨b,o,none⟩) (n1+1) (c1+1)):=(E.out 2 (by kernel_rfl)).trans rfl
    refine want_none rfl ?_
    go_simp
    exact hK _ rfl
   ·intro q9 a w E hC K hK
    obtain ⟨_,h54,rfl⟩:=E.pred 5 _ 54 rfl rfl (by kernel_rfl)
    refine want_none rfl ?_
    have i1:(1:Int)≤(n1:Int)+1:=by omega
    go_simp
    exact hK _ rfl
   ·intro q9 a w E hC K hK
    obtain ⟨_,h49,rfl⟩:=E.pred 0 _ 49 rfl rfl (by kernel_rfl)
    refine want_none rfl ?_
    go_simp
    exact hK _ rfl
   ·intro q9 a w E hC K hK
    obtain ⟨_,h56,rfl⟩:=E.pred 7 _ 56 rfl rfl (by kernel_rfl)
    refine want_none rfl ?_
    go_simp
    exact hK _ rfl
   ·intro a w E hC K hK
    obtain ⟨_,h57,rfl⟩:=E.pred 8 _ 57 rfl rfl (by kernel_rfl)
    obtain ⟨_,h53,rfl⟩:=E.pred 4 _ 53 rfl rfl (by kernel_rfl)
    refine want_none rfl ?_
    have hb:=(hC.2.1 (by omega)).heap HB1.out (by simp)
    have g4:=cell_of hb 4
    have gz:=frozen_of hb
    go_simp
    exact hK undef _ trivial ⟨hC.1.setCell (.inl (by simp)) _,fun h=>by omega,fun _=>hp_set _ _ _ _ _ _ hb⟩ trivial
   ·intro q9 a w E hC K hK
    obtain ⟨_,h55,rfl⟩:=E.pred 6 _ 55 rfl rfl (by kernel_rfl)
    refine want_none rfl ?_
    go_simp
    exact hK _ rfl
   intro vs w7 hC hV
   have h10:=hV 10 _ rfl (by simp)
   replace h10:vs 10=(.slice (some ⟨b,o+1,none⟩) n1 c1):=h10
   have HB7:=Lib.hid (hC.2.2 (Nat.le_refl _))
   have HR7:=Lib.hid (HR1.out.keep hC.1 (by intro _ t h1 h2; simp at h2; subst h2; exact hgA h1))
   have HK7:=Lib.hid ((Kp.nil HK1.out).trans hC.1)
   clear hV hC HB1 HR1 HK1 HQ
   simp only [putAll,Act.put,List.setIfInBounds_toArray]
   dsimp only [List.set]
   rw [h10]
   clear h10
   obtain ⟨q0,q1,q2,q3,q4,q5,q6,q7,q8,q9,q10,q11,qz,qlt,qlt2⟩:=cellsF HB7.out
   go_wp2
   go_ret2
   have hq:=HR7.out.sub 1 (1+(n1 - y)) (by omega) (by omega) (A':=(some ⟨b,o+1,none⟩)) (by intro b' o' h1 h2; injection h1 with h1; injection h1 with h1 h3 _; rw [h1,h3])
   have eq1:1+(n1 - y) - 1=n1 - y:=by omega
   rw [eq1] at hq
   exact ⟨(some ⟨b,o+1,none⟩),n1 - y,n1 - y,rfl,⟨hq.len,Nat.le_refl _,hq.at_⟩,by simp [ob]; omega,by omega,HB7.out,HK7.out⟩
end Go.Proofs.Ytkmcakneceagpaa

namespace Go.Proofs.Ytkmcakneceagpaa
open Go.RowKit
theorem get3_big (A:Option Addr) (n c:Nat) (i:Int) (l:List UInt8) (w:World) (hn:n≤281474976710656) (hr:Rd w A n c l) :
  Calls Try.prog 122 #[.slice A n c,.int .i64 i] w (Num3 .u32 (num 3 l i).1 (num 3 l i).2.1 (num 3 l i).2.2 w):=by
 have hlen:=hr.len
 by_cases ha:i < 0∨(l.length:Int) < i
 ·rw [num_arg ha]
  rw [hlen] at ha
  clear hlen hr
  rcases ha with h | h
  ·go_enter Try.func122,Try.ntmps122
   go_wp2
   go_ret3
   exact ⟨rfl,(Kp.refl _ _).alloc _⟩
  ·have h':¬ i < 0:=by omega
   go_enter Try.func122,Try.ntmps122
   go_wp2
   go_ret3
   exact ⟨rfl,(Kp.refl _ _).alloc _⟩
 ·by_cases hs:(l.length:Int) - i < 3
  ·rw [num_short (by omega) (by omega) hs]
   have h0:0≤i:=by omega
   have h1:i≤n:=by omega
   have h2:(n:Int) - i < 3:=by omega
   have HL:=Lib.hid hlen
   clear hlen hr ha hs
   go_enter Try.func122,Try.ntmps122
   go_wp2
   go_ret3
   exact Num3.mk rfl (by rw [HL.out]) rfl ((Kp.refl _ _).alloc _)
  ·obtain ⟨j,rfl⟩:=Int.eq_ofNat_of_zero_le (show 0≤i by omega)
   have hj:j+3≤n:=by omega
   obtain ⟨b,off,rfl,hb,hcell⟩:=hr.addr (by omega)
   have hcap:=hr.cap
   rw [num_ok (by omega)]
   have HT:Hid (∀ k,k < 3→be ((l.drop j).take (k+1))=be ((l.drop j).take k) * 256+(l.getD (j+k) 0).toNat):=by
    intro k hk
    rw [be_take_succ _ _ (by simp; omega)]
    simp [List.getD_eq_getElem?_getD]
   clear hlen hr ha hs
   have d1:decide ((j:Int) < 0)=false:=by simp
   have d2:decide (n < j)=false:=by simp; omega
   have d3:decide ((n:Int) - j < 3)=false:=by simp; omega
   go_enter Try.func122,Try.ntmps122
   go_wp2
   go_loop [8,10,38] (fun v _ k=>∃ kk:Nat,kk≤3∧k=.int .i64 kk∧v=.int .u32 (be ((l.drop j).take kk))) (fun _ _ k=>3 - (intOf k).toNat)
   case atStart=>exact ⟨0,by omega,rfl,by simp [be]⟩
   case round =>
    obtain ⟨k,hk,rfl,rfl⟩:=hrel
    by_cases hlt:k < 3
    ·have hc2:=hcell (j+k) (by omega)
     rw [← Nat.add_assoc] at hc2
     have HB:Hid (be ((l.drop j).take k) < 16777216):=Nat.lt_of_lt_of_le (be_take_lt (l.drop j) k) (Nat.le_trans (Nat.pow_le_pow_right (by omega) (show k≤3 by omega)) (by decide))
     clear hcell
     go_wp2
     go_round
     case rel =>
      refine ⟨k+1,by omega,by go_num,?_⟩
      rw [HT.out k hlt]
      have e:=or_step (be ((l.drop j).take k)) (l.getD (j+k) 0).toNat HB.out (l.getD (j+k) 0).toNat_lt
      simp only [List.getD_eq_getElem?_getD] at e ⊢
      rw [e]
      go_num
     case measure=>simp [intOf]; omega
    ·obtain rfl:k=3:=by omega
     clear hcell
     go_wp2
     go_quiet (fail)
     go_wp2
     go_ret3
     exact Num3.mk rfl rfl rfl (((Kp.refl _ _).alloc _).drewN _)
theorem get4_big (A:Option Addr) (n c:Nat) (i:Int) (l:List UInt8) (w:World) (hn:n≤281474976710656) (hr:Rd w A n c l) :
  Calls Try.prog 115 #[.slice A n c,.int .i64 i] w (Num3 .u32 (num 4 l i).1 (num 4 l i).2.1 (num 4 l i).2.2 w):=by
 have hlen:=hr.len
 by_cases ha:i < 0∨(l.length:Int) < i
 ·rw [num_arg ha]
  rw [hlen] at ha
  clear hlen hr
  rcases ha with h | h
  ·go_enter Try.func115,Try.ntmps115
   go_wp2
   go_ret3
   exact ⟨rfl,(Kp.refl _ _).alloc _⟩
  ·have h':¬ i < 0:=by omega
   go_enter Try.func115,Try.ntmps115
   go_wp2
   go_ret3
   exact ⟨rfl,(Kp.refl _ _).alloc _⟩
 ·by_cases hs:(l.length:Int) - i < 4
  ·rw [num_short (by omega) (by omega) hs]
   have h0:0≤i:=by omega
   have h1:i≤n:=by omega
   have h2:(n:Int) - i < 4:=by omega
   have HL:=Lib.hid hlen
   clear hlen hr ha hs
   go_enter Try.func115,Try.ntmps115
   go_wp2
   go_ret3
   exact Num3.mk rfl (by rw [HL.out]) rfl ((Kp.refl _ _).alloc _)
  ·obtain ⟨j,rfl⟩:=Int.eq_ofNat_of_zero_le (show 0≤i by omega)
   have hj:j+4≤n:=by omega
   obtain ⟨b,off,rfl,hb,hcell⟩:=hr.addr (by omega)
   have hcap:=hr.cap
   rw [num_ok (by omega)]
   have HT:Hid (∀ k,k < 4→be ((l.drop j).take (k+1))=be ((l.drop j).take k) * 256+(l.getD (j+k) 0).toNat):=by
    intro k hk
    rw [be_take_succ _ _ (by simp; omega)]
    simp [List.getD_eq_getElem?_getD]
   clear hlen hr ha hs
   have d1:decide ((j:Int) < 0)=false:=by simp
   have d2:decide (n < j)=false:=by simp; omega
   have d3:decide ((n:Int) - j < 4)=false:=by simp; omega
   go_enter Try.func115,Try.ntmps115
   go_wp2
   go_loop [8,10,38] (fun v _ k=>∃ kk:Nat,kk≤4∧k=.int .i64 kk∧v=.int .u32 (be ((l.drop j).take kk))) (fun _ _ k=>4 - (intOf k).toNat)
   case atStart=>exact ⟨0,by omega,rfl,by simp [be]⟩
   case round =>
    obtain ⟨k,hk,rfl,rfl⟩:=hrel
    by_cases hlt:k < 4
    ·have hc2:=hcell (j+k) (by omega)
     rw [← Nat.add_assoc] at hc2
     have HB:Hid (be ((l.drop j).take k) < 16777216):=Nat.lt_of_lt_of_le (be_take_lt (l.drop j) k) (Nat.le_trans (Nat.pow_le_pow_right (by omega) (show k≤3 by omega)) (by decide))
     clear hcell
     go_wp2
     go_round
     case rel =>
      refine ⟨k+1,by omega,by go_num,?_⟩
      rw [HT.out k hlt]
      have e:=or_step (be ((l.drop j).take k)) (l.getD (j+k) 0).toNat HB.out (l.getD (j+k) 0).toNat_lt
      simp only [List.getD_eq_getElem?_getD] at e ⊢
      rw [e]
      go_num
     case measure=>simp [intOf]; omega
    ·obtain rfl:k=4:=by omega
     clear hcell
     go_wp2
     go_quiet (fail)
     go_wp2
     go_ret3
     exact Num3.mk rfl rfl rfl (((Kp.refl _ _).alloc _).drewN _)
theorem U24_big (A:Option Addr) (n c:Nat) (i:Int) (l:List UInt8) (w:World) (hn:n≤281474976710656) (hr:Rd w A n c l) :
  Calls Try.prog 47 #[.slice A n c,.int .i64 i] w (Num3 .i64 (num 3 l i).1 (num 3 l i).2.1 (num 3 l i).2.2 w):=by
 have hb:(num 3 l i).1 < 16777216:=Nat.lt_of_lt_of_eq (num_lt 3 l i) pow3
 go_enter Try.func47,Try.ntmps47
 go_wp2_with (go_at_call 122; refine (get3_big _ _ _ _ _ _ hn hr).mono ?_; rintro e w' ⟨rfl,hk⟩)
 go_ret3
 exact ⟨rfl,hk⟩
theorem U31_big (A:Option Addr) (n c:Nat) (i:Int) (l:List UInt8) (w:World) (hn:n≤281474976710656) (hr:Rd w A n c l) :
  Calls Try.prog 51 #[.slice A n c,.int .i64 i] w (Num3 .i64 ((num 4 l i).1 % 2147483648:Nat) (num 4 l i).2.1 (num 4 l i).2.2 w):=by
 have hb:(num 4 l i).1 < 4294967296:=Nat.lt_of_lt_of_eq (num_lt 4 l i) pow4
 have HA:=Lib.hid (andNot31 _ hb)
 go_enter Try.func51,Try.ntmps51
 go_wp2_with (go_at_call 115; refine (get4_big _ _ _ _ _ _ hn hr).mono ?_; rintro e w' ⟨rfl,hk⟩)
 go_ret3
 refine Num3.mk ?_ rfl rfl hk
 rw [HA.out]
 unfold wrap64
 omega

/-! ### the program's puts -/
theorem Head_big (A:Option Addr) (n c:Nat) (l:List UInt8) (w:World) (hn:n≤281474976710656) (hr:Rd w A n c l) :
  Calls Try.prog 55 #[.slice A n c] w (Num5 (headR l) w):=by
 have hlen:=hr.len
 by_cases hs:n < 9
 ·have e:headR l=(0,0,0,0,3):=by unfold headR; rw [if_pos (by omega)]
  rw [e]
  clear hlen hr
  go_enter Try.func55,Try.ntmps55
  go_wp2
  exact bodyPost_ret (v:=.tuple #[.int .i64 0,.int .i64 0,.int .i64 0,.int .i64 0,.int .i64 3]) (by simp [results,Try.results55,go_sem]) rfl ⟨rfl,Kp.refl _ _⟩
 ·have e:headR l=((num 3 l 0).1,(l.getD 3 0).toNat,(l.getD 4 0).toNat,(num 4 l 5).1 % 2147483648,0):=by unfold headR; rw [if_neg (by omega)]
  rw [e]
  obtain ⟨b,off,rfl,hb,hc⟩:=hr.addr (by omega)
  have h3:=hc 3 (by omega)
  have h4:=hc 4 (by omega)
  have HR:=Lib.hid hr
  clear hlen hr hc e
  go_enter Try.func55,Try.ntmps55
  go_wp2_with fail
  refine (U24_big _ _ _ 0 _ _ hn HR.out).mono ?_
  rintro e w1 ⟨rfl,k1⟩
  have r1:=HR.out.keep k1 (by simp)
  have g3:=k1.cell h3 (by simp)
  have g4:=k1.cell h4 (by simp)
  clear h3 h4 HR hb
  have HR1:=Lib.hid r1
  clear r1
  generalize hx:(num 3 l 0).1=x1
  have HX:=Lib.hid hx
  clear hx
  generalize (num 3 l 0).2.1=x2
  generalize (num 3 l 0).2.2=x3
  go_wp2_with fail
  refine (U31_big _ _ _ 5 _ _ hn HR1.out).mono ?_
  rintro e w2 ⟨rfl,k2⟩
  have h3:=k2.cell g3 (by simp)
  have h4:=k2.cell g4 (by simp)
  have HK:=Lib.hid (k1.trans k2)
  clear g3 g4 HR1 k1 k2
  generalize hy:(num 4 l 5).1 % 2147483648=y1
  have HY:=Lib.hid hy
  clear hy
  generalize (num 4 l 5).2.1=y2
  generalize (num 4 l 5).2.2=y3
  have hb3:=(l.getD 3 0).toNat_lt
  have hb4:=(l.getD 4 0).toNat_lt
  generalize (l.getD 3 0).toNat=b3 at *
  generalize (l.getD 4 0).toNat=b4 at *
  have i3:(3:Int) < (n:Int):=by omega
  have i4:(4:Int) < (n:Int):=by omega
  go_wp2
  go_quiet (fail)
  go_wp2
  exact bodyPost_ret (v:=.tuple #[.int .i64 x1,.int .i64 b3,.int .i64 b4,.int .i64 y1,.int .i64 0]) (by simp [results,Try.results55,go_sem]) rfl ⟨by simp only [HX.out,HY.out],HK.out.drewN _⟩
end Go.Proofs.Ytkmcakneceagpaa

namespace Go.Proofs.Ytkmcakneceagpaa
open Go.RowKit

theorem sf0 {w:World} {g:Nat} {a0 a1 a2 a3 a4 a5 a6 a7 a8 a9 a10 a11 b:Value} {t:TypeId} (h:w.heap[g]?=some (.cells #[a0,a1,a2,a3,a4,a5,a6,a7,a8,a9,a10,a11] t)):(w.setCell ⟨g,0,none⟩ b).heap[g]?=some (.cells #[b,a1,a2,a3,a4,a5,a6,a7,a8,a9,a10,a11] t):=hp_set w g 0 b _ t h
theorem sf1 {w:World} {g:Nat} {a0 a1 a2 a3 a4 a5 a6 a7 a8 a9 a10 a11 b:Value} {t:TypeId} (h:w.heap[g]?=some (.cells #[a0,a1,a2,a3,a4,a5,a6,a7,a8,a9,a10,a11] t)):(w.setCell ⟨g,1,none⟩ b).heap[g]?=some (.cells #[a0,b,a2,a3,a4,a5,a6,a7,a8,a9,a10,a11] t):=hp_set w g 1 b _ t h
theorem sf2 {w:World} {g:Nat} {a0 a1 a2 a3 a4 a5 a6 a7 a8 a9 a10 a11 b:Value} {t:TypeId} (h:w.heap[g]?=some (.cells #[a0,a1,a2,a3,a4,a5,a6,a7,a8,a9,a10,a11] t)):(w.setCell ⟨g,2,none⟩ b).heap[g]?=some (.cells #[a0,a1,b,a3,a4,a5,a6,a7,a8,a9,a10,a11] t):=hp_set w g 2 b _ t h
theorem sf3 {w:World} {g:Nat} {a0 a1 a2 a3 a4 a5 a6 a7 a8 a9 a10 a11 b:Value} {t:TypeId} (h:w.heap[g]?=some (.cells #[a0,a1,a2,a3,a4,a5,a6,a7,a8,a9,a10,a11] t)):(w.setCell ⟨g,3,none⟩ b).heap[g]?=some (.cells #[a0,a1,a2,b,a4,a5,a6,a7,a8,a9,a10,a11] t):=hp_set w g 3 b _ t h
theorem sf4 {w:World} {g:Nat} {a0 a1 a2 a3 a4 a5 a6 a7 a8 a9 a10 a11 b:Value} {t:TypeId} (h:w.heap[g]?=some (.cells #[a0,a1,a2,a3,a4,a5,a6,a7,a8,a9,a10,a11] t)):(w.setCell ⟨g,4,none⟩ b).heap[g]?=some (.cells #[a0,a1,a2,a3,b,a5,a6,a7,a8,a9,a10,a11] t):=hp_set w g 4 b _ t h
theorem sf5 {w:World} {g:Nat} {a0 a1 a2 a3 a4 a5 a6 a7 a8 a9 a10 a11 b:Value} {t:TypeId} (h:w.heap[g]?=some (.cells #[a0,a1,a2,a3,a4,a5,a6,a7,a8,a9,a10,a11] t)):(w.setCell ⟨g,5,none⟩ b).heap[g]?=some (.cells #[a0,a1,a2,a3,a4,b,a6,a7,a8,a9,a10,a11] t):=hp_set w g 5 b _ t h
theorem sf6 {w:World} {g:Nat} {a0 a1 a2 a3 a4 a5 a6 a7 a8 a9 a10 a11 b:Value} {t:TypeId} (h:w.heap[g]?=some (.cells #[a0,a1,a2,a3,a4,a5,a6,a7,a8,a9,a10,a11] t)):(w.setCell ⟨g,6,none⟩ b).heap[g]?=some (.cells #[a0,a1,a2,a3,a4,a5,b,a7,a8,a9,a10,a11] t):=hp_set w g 6 b _ t h
theorem sf7 {w:World} {g:Nat} {a0 a1 a2 a3 a4 a5 a6 a7 a8 a9 a10 a11 b:Value} {t:TypeId} (h:w.heap[g]?=some (.cells #[a0,a1,a2,a3,a4,a5,a6,a7,a8,a9,a10,a11] t)):(w.setCell ⟨g,7,none⟩ b).heap[g]?=some (.cells #[a0,a1,a2,a3,a4,a5,a6,b,a8,a9,a10,a11] t):=hp_set w g 7 b _ t h
theorem sf8 {w:World} {g:Nat} {a0 a1 a2 a3 a4 a5 a6 a7 a8 a9 a10 a11 b:Value} {t:TypeId} (h:w.heap[g]?=some (.cells #[a0,a1,a2,a3,a4,a5,a6,a7,a8,a9,a10,a11] t)):(w.setCell ⟨g,8,none⟩ b).heap[g]?=some (.cells #[a0,a1,a2,a3,a4,a5,a6,a7,b,a9,a10,a11] t):=hp_set w g 8 b _ t h
theorem sf9 {w:World} {g:Nat} {a0 a1 a2 a3 a4 a5 a6 a7 a8 a9 a10 a11 b:Value} {t:TypeId} (h:w.heap[g]?=some (.cells #[a0,a1,a2,a3,a4,a5,a6,a7,a8,a9,a10,a11] t)):(w.setCell ⟨g,9,none⟩ b).heap[g]?=some (.cells #[a0,a1,a2,a3,a4,a5,a6,a7,a8,b,a10,a11] t):=hp_set w g 9 b _ t h
theorem sf10 {w:World} {g:Nat} {a0 a1 a2 a3 a4 a5 a6 a7 a8 a9 a10 a11 b:Value} {t:TypeId} (h:w.heap[g]?=some (.cells #[a0,a1,a2,a3,a4,a5,a6,a7,a8,a9,a10,a11] t)):(w.setCell ⟨g,10,none⟩ b).heap[g]?=some (.cells #[a0,a1,a2,a3,a4,a5,a6,a7,a8,a9,b,a11] t):=hp_set w g 10 b _ t h
theorem sf11 {w:World} {g:Nat} {a0 a1 a2 a3 a4 a5 a6 a7 a8 a9 a10 a11 b:Value} {t:TypeId} (h:w.heap[g]?=some (.cells #[a0,a1,a2,a3,a4,a5,a6,a7,a8,a9,a10,a11] t)):(w.setCell ⟨g,11,none⟩ b).heap[g]?=some (.cells #[a0,a1,a2,a3,a4,a5,a6,a7,a8,a9,a10,b] t):=hp_set w g 11 b _ t h
theorem sx0 {w:World} {g:Nat} {x0 x1 x2 b:Value} {t:TypeId} (h:w.heap[g]?=some (.cells #[x0,x1,x2] t)):(w.setCell ⟨g,0,none⟩ b).heap[g]?=some (.cells #[b,x1,x2] t):=hp_set w g 0 b _ t h
theorem sx1 {w:World} {g:Nat} {x0 x1 x2 b:Value} {t:TypeId} (h:w.heap[g]?=some (.cells #[x0,x1,x2] t)):(w.setCell ⟨g,1,none⟩ b).heap[g]?=some (.cells #[x0,b,x2] t):=hp_set w g 1 b _ t h
theorem sx2 {w:World} {g:Nat} {x0 x1 x2 b:Value} {t:TypeId} (h:w.heap[g]?=some (.cells #[x0,x1,x2] t)):(w.setCell ⟨g,2,none⟩ b).heap[g]?=some (.cells #[x0,x1,b] t):=hp_set w g 2 b _ t h
theorem set15 {w:World} {g h:Nat} {a0 a1 a2 a3 a4 a5 a6 a7 a8 a9 a10 a11 b0 b1 b2 b3 b4 b5 b6 b7 b8 b9 b10 b11 x0 x1 x2 y0 y1 y2:Value} {t t2:TypeId} (hne:g≠h) (hg:w.heap[g]?=some (.cells #[a0,a1,a2,a3,a4,a5,a6,a7,a8,a9,a10,a11] t)) (hh:w.heap[h]?=some (.cells #[x0,x1,x2] t2)) :
  (World.setCell (World.setCell (World.setCell (World.setCell (World.setCell (World.setCell (World.setCell (World.setCell (World.setCell (World.setCell (World.setCell (World.setCell (World.setCell (World.setCell (World.setCell w ⟨g,0,none⟩ b0) ⟨g,1,none⟩ b1) ⟨g,2,none⟩ b2) ⟨g,3,none⟩ b3) ⟨g,4,none⟩ b4) ⟨g,5,none⟩ b5) ⟨g,6,none⟩ b6) ⟨g,7,none⟩ b7) ⟨g,8,none⟩ b8) ⟨g,9,none⟩ b9) ⟨g,10,none⟩ b10) ⟨g,11,none⟩ b11) ⟨h,0,none⟩ y0) ⟨h,1,none⟩ y1) ⟨h,2,none⟩ y2).heap[g]?=some (.cells #[b0,b1,b2,b3,b4,b5,b6,b7,b8,b9,b10,b11] t)∧(World.setCell (World.setCell (World.setCell (World.setCell (World.setCell (World.setCell (World.setCell (World.setCell (World.setCell (World.setCell (World.setCell (World.setCell (World.setCell (World.setCell (World.setCell w ⟨g,0,none⟩ b0) ⟨g,1,none⟩ b1) ⟨g,2,none⟩ b2) ⟨g,3,none⟩ b3) ⟨g,4,none⟩ b4) ⟨g,5,none⟩ b5) ⟨g,6,none⟩ b6) ⟨g,7,none⟩ b7) ⟨g,8,none⟩ b8) ⟨g,9,none⟩ b9) ⟨g,10,none⟩ b10) ⟨g,11,none⟩ b11) ⟨h,0,none⟩ y0) ⟨h,1,none⟩ y1) ⟨h,2,none⟩ y2).heap[h]?=some (.cells #[y0,y1,y2] t2)∧Kp [g,h] w (World.setCell (World.setCell (World.setCell (World.setCell (World.setCell (World.setCell (World.setCell (World.setCell (World.setCell (World.setCell (World.setCell (World.setCell (World.setCell (World.setCell (World.setCell w ⟨g,0,none⟩ b0) ⟨g,1,none⟩ b1) ⟨g,2,none⟩ b2) ⟨g,3,none⟩ b3) ⟨g,4,none⟩ b4) ⟨g,5,none⟩ b5) ⟨g,6,none⟩ b6) ⟨g,7,none⟩ b7) ⟨g,8,none⟩ b8) ⟨g,9,none⟩ b9) ⟨g,10,none⟩ b10) ⟨g,11,none⟩ b11) ⟨h,0,none⟩ y0) ⟨h,1,none⟩ y1) ⟨h,2,none⟩ y2) :=
 ⟨(hp_far _ _ _ _ hne).trans ((hp_far _ _ _ _ hne).trans ((hp_far _ _ _ _ hne).trans (sf11 (sf10 (sf9 (sf8 (sf7 (sf6 (sf5 (sf4 (sf3 (sf2 (sf1 (sf0 (hg))))))))))))))),sx2 (sx1 (sx0 ((hp_far _ _ _ _ hne.symm).trans ((hp_far _ _ _ _ hne.symm).trans ((hp_far _ _ _ _ hne.symm).trans ((hp_far _ _ _ _ hne.symm).trans ((hp_far _ _ _ _ hne.symm).trans ((hp_far _ _ _ _ hne.symm).trans ((hp_far _ _ _ _ hne.symm).trans ((hp_far _ _ _ _ hne.symm).trans ((hp_far _ _ _ _ hne.symm).trans ((hp_far _ _ _ _ hne.symm).trans ((hp_far _ _ _ _ hne.symm).trans ((hp_far _ _ _ _ hne.symm).trans (hh))))))))))))))),((((((((((((((((Kp.refl _ _).setCell (.inl (by simp)) _).setCell (.inl (by simp)) _).setCell (.inl (by simp)) _).setCell (.inl (by simp)) _).setCell (.inl (by simp)) _).setCell (.inl (by simp)) _).setCell (.inl (by simp)) _).setCell (.inl (by simp)) _).setCell (.inl (by simp)) _).setCell (.inl (by simp)) _).setCell (.inl (by simp)) _).setCell (.inl (by simp)) _).setCell (.inl (by simp)) _).setCell (.inl (by simp)) _).setCell (.inl (by simp)) _)⟩

def ParseR (r:Pq) (w:World) (e:Ending) (w':World):Prop :=
 ∃ f:Fr,e=.returned (.tuple #[.agg #[.int .i64 f.ty,.int .i64 f.fl,.int .i64 f.st,.slice f.pA f.pn f.pc,.int .i64 f.pad,.int .u32 f.code,.int .i64 f.last,.int .i64 f.inc,.int .i64 f.dep,.bool f.only,.int .i64 f.wt,.slice f.sA f.sn f.sc],.int .i64 r.used,.agg #[.bool r.is,.int .i64 r.xst,.int .i64 r.code],.int .i64 r.err])∧FrP w' w.heap.size f r.f∧Kp [] w w'
theorem FrP.zero (w:World) (base:Nat):FrP w base (⟨0,0,0,none,0,0,0,0,0,0,0,false,0,none,0,0⟩:Fr) Fp.zero:=⟨rfl,Rd.nil _ _ _,Sd.nil _,by simp [ob],by simp [ob]⟩

theorem parseNeg (A:Option Addr) (n c:Nat) (most:Int) (w:World) (hm:most < 0):Calls Try.prog 100 #[.slice A n c,.int .i64 most] w (ParseR (.no 0 1) w):=by
 go_enter Try.func100,Try.ntmps100
 go_wp2
 go_step3
 go_wp2
 go_region
 go_wp2
 rw [Exit.noGoto_ret]
 refine bodyPost_ret (v:=.tuple #[.agg #[.int .i64 0,.int .i64 0,.int .i64 0,.slice none 0 0,.int .i64 0,.int .u32 0,.int .i64 0,.int .i64 0,.int .i64 0,.bool false,.int .i64 0,.slice none 0 0],.int .i64 0,.agg #[.bool false,.int .i64 0,.int .i64 0],.int .i64 1]) (by simp [results,Try.results100,go_sem]) rfl ⟨(⟨0,0,0,none,0,0,0,0,0,0,0,false,0,none,0,0⟩:Fr),rfl,FrP.zero _ _,by with_reducible (repeat (first|exact Kp.refl _ _|assumption|refine Kp.alloc ?_ _|refine Kp.drew ?_|refine Kp.drewN ?_ _|(refine Kp.setL ?_ ?_ _;focus (simp;done))|(refine Kp.setR ?_ ?_ _;focus (first|(simp;done)|(simp;omega)))))⟩

theorem parseShort (A:Option Addr) (n c:Nat) (l:List UInt8) (most:Int) (w:World) (hr:Rd w A n c l) (hn:n≤281474976710656) (hm:0≤most) (h9:n < 9):Calls Try.prog 100 #[.slice A n c,.int .i64 most] w (ParseR (.no 0 3) w):=by
 have HR:=Lib.hid hr
 have e:headR l=(0,0,0,0,3):=by unfold headR; rw [if_pos (by rw [hr.len]; exact h9)]
 have HH:=Lib.hid e
 clear hr e
 go_enter Try.func100,Try.ntmps100
 go_wp2_with fail
 go_step3
 go_wp2_with fail
 generalize hW:World.alloc _ _=w1
 have K1:Kp [] w w1:=by rw [← hW]; with_reducible (repeat (first|exact Kp.refl _ _|assumption|refine Kp.alloc ?_ _|refine Kp.drew ?_|refine Kp.drewN ?_ _|(refine Kp.setL ?_ ?_ _;focus (simp;done))|(refine Kp.setR ?_ ?_ _;focus (first|(simp;done)|(simp;omega)))))
 have HF:=Lib.hid (show w1.heap[w.heap.size]?=some (.cells #[.int .i64 0,.int .i64 0,.int .i64 0,.slice none 0 0,.int .i64 0,.int .u32 0,.int .i64 0,.int .i64 0,.int .i64 0,.bool false,.int .i64 0,.slice none 0 0] 49) by rw [← hW]; with_reducible (repeat (first|assumption|(refine hp_new _ _ _ ?_;focus (simp;done))|refine hpl ?_|(refine hpf ?_ ?_;focus (first|(simp;done)|(simp;omega)))|refine hpd ?_|refine hpe ?_)))
 have HX:=Lib.hid (show w1.heap[w.heap.size+1]?=some (.cells #[.bool false,.int .i64 0,.int .i64 0] 64) by rw [← hW]; with_reducible (repeat (first|assumption|(refine hp_new _ _ _ ?_;focus (simp;done))|refine hpl ?_|(refine hpf ?_ ?_;focus (first|(simp;done)|(simp;omega)))|refine hpd ?_|refine hpe ?_)))
 clear hW
 refine (Head_big A n c l w1 hn (HR.out.keep K1 (by simp))).mono ?_
 rintro e w2 ⟨rfl,K2⟩
 rw [HH.out]
 dsimp only
 have HF2:=Lib.hid (K2.heap HF.out (by simp))
 have HX2:=Lib.hid (K2.heap HX.out (by simp))
 have HK2:=Lib.hid (K1.trans K2)
 clear HF HX K1 K2
 obtain ⟨q0,q1,q2,q3,q4,q5,q6,q7,q8,q9,q10,q11,qz,qlt,qlt2⟩:=cellsF HF2.out
 have x0:=cell_of HX2.out 0
 have x1:=cell_of HX2.out 1
 have x2:=cell_of HX2.out 2
 have xz:=frozen_of HX2.out
 go_wp2
 go_region
 go_wp2
 rw [Exit.noGoto_ret]
 generalize hW:World.setCell _ _ _=W
 obtain ⟨HF9,HX9,K9⟩:W.heap[w.heap.size]?=some (.cells #[.int .i64 0,.int .i64 0,.int .i64 0,.slice none 0 0,.int .i64 0,.int .u32 0,.int .i64 0,.int .i64 0,.int .i64 0,.bool false,.int .i64 0,.slice none 0 0] 49)∧W.heap[w.heap.size+1]?=some (.cells #[.bool false,.int .i64 0,.int .i64 0] 64)∧Kp [w.heap.size,w.heap.size+1] w2 W:=by rw [← hW]; exact set15 (by omega) HF2.out HX2.out
 refine bodyPost_ret (v:=.tuple #[.agg #[.int .i64 0,.int .i64 0,.int .i64 0,.slice none 0 0,.int .i64 0,.int .u32 0,.int .i64 0,.int .i64 0,.int .i64 0,.bool false,.int .i64 0,.slice none 0 0],.int .i64 0,.agg #[.bool false,.int .i64 0,.int .i64 0],.int .i64 3]) (by simp [results,Try.results100,go_sem,cell_of HF9,cell_of HX9]) rfl ⟨(⟨0,0,0,none,0,0,0,0,0,0,0,false,0,none,0,0⟩:Fr),rfl,FrP.zero _ _,(HK2.out.then K9 (by simp)).drew⟩
end Go.Proofs.Ytkmcakneceagpaa

namespace Go.Proofs.Ytkmcakneceagpaa

theorem wp_scope_once {P:Program} {a:Act} {w:World} {Q:Exit→Act→World→Prop} {c rest:Code} (l:Nat) (hf:findLabel c l=some rest)
  (first:c.wp P (Exit.jump l (fun a' w'=>rest.wp P (Exit.jump l (fun _ _=>False) Q) a' w') Q) a w):(Code.scope c).wp P Q a w :=
 wp_scope_jumps l (fun a' w'=>rest.wp P (Exit.jump l (fun _ _=>False) Q) a' w') (fun _ _=>0) hf first (fun a w hJ=>by
  intro b k cs
  obtain ⟨e,a',w',hq,har⟩:=hJ b k cs
  refine ⟨e,a',w',?_,har⟩
  cases e with
  | goto l'=>exact hq.2.elim
  | _=>exact hq)
theorem jump_ret {l:Nat} {J:Act→World→Prop} {Q:Exit→Act→World→Prop} {a:Act} {w:World}:Exit.jump l J Q .ret a w=Q .ret a w:=rfl
end Go.Proofs.Ytkmcakneceagpaa

namespace Go.Proofs.Ytkmcakneceagpaa
open Go.RowKit

theorem head_of {l:List UInt8} (h:¬ l.length < 9):headR l=(be (l.take 3),(l.getD 3 0).toNat,(l.getD 4 0).toNat,be ((l.drop 5).take 4) % 2147483648,0):=by
 unfold headR
 rw [if_neg h]
 have h1:num 3 l 0=(be ((l.drop 0).take 3),((0:Nat):Int)+3,0):=num_ok (k:=3) (l:=l) (i:=0) (by omega)
 have h2:num 4 l 5=(be ((l.drop 5).take 4),((5:Nat):Int)+4,0):=num_ok (k:=4) (l:=l) (i:=5) (by omega)
 rw [h1,h2]
 simp

theorem parseLong (A:Option Addr) (n c:Nat) (l:List UInt8) (most:Int) (w:World) (hr:Rd w A n c l) (hn:n≤281474976710656) (hm:0≤most) (h9:¬ n < 9) (N:Nat) (hN:be (l.take 3)=N) (hb:most < (N:Int)):Calls Try.prog 100 #[.slice A n c,.int .i64 most] w (ParseR (.bad 9 0 6) w):=by
 have HR:=Lib.hid hr
 have e:=head_of (l:=l) (by rw [hr.len]; exact h9)
 rw [hN] at e
 obtain ⟨T,hT⟩:∃ T,(l.getD 3 0).toNat=T:=⟨_,rfl⟩
 obtain ⟨F,hF⟩:∃ F,(l.getD 4 0).toNat=F:=⟨_,rfl⟩
 obtain ⟨S,hS⟩:∃ S,be ((l.drop 5).take 4) % 2147483648=S:=⟨_,rfl⟩
 rw [hT,hF,hS] at e
 have HH:=Lib.hid e
 clear hr e hT hF hS hN
 go_enter Try.func100,Try.ntmps100
 go_wp2_with fail
 refine wp_scope_once 0 rfl ?_
 go_wp2_with fail
 generalize hW:World.alloc _ _=w1
 have K1:Kp [] w w1:=by rw [← hW]; with_reducible (repeat (first|exact Kp.refl _ _|assumption|refine Kp.alloc ?_ _|refine Kp.drew ?_|refine Kp.drewN ?_ _|(refine Kp.setL ?_ ?_ _;focus (simp;done))|(refine Kp.setR ?_ ?_ _;focus (first|(simp;done)|(simp;omega)))))
 have HF:=Lib.hid (show w1.heap[w.heap.size]?=some (.cells #[.int .i64 0,.int .i64 0,.int .i64 0,.slice none 0 0,.int .i64 0,.int .u32 0,.int .i64 0,.int .i64 0,.int .i64 0,.bool false,.int .i64 0,.slice none 0 0] 49) by rw [← hW]; with_reducible (repeat (first|assumption|(refine hp_new _ _ _ ?_;focus (simp;done))|refine hpl ?_|(refine hpf ?_ ?_;focus (first|(simp;done)|(simp;omega)))|refine hpd ?_|refine hpe ?_)))
 have HX:=Lib.hid (show w1.heap[w.heap.size+1]?=some (.cells #[.bool false,.int .i64 0,.int .i64 0] 64) by rw [← hW]; with_reducible (repeat (first|assumption|(refine hp_new _ _ _ ?_;focus (simp;done))|refine hpl ?_|(refine hpf ?_ ?_;focus (first|(simp;done)|(simp;omega)))|refine hpd ?_|refine hpe ?_)))
 clear hW
 refine (Head_big A n c l w1 hn (HR.out.keep K1 (by simp))).mono ?_
 rintro e w2 ⟨rfl,K2⟩
 rw [HH.out]
 dsimp only
 have HF2:=Lib.hid (K2.heap HF.out (by simp))
 have HX2:=Lib.hid (K2.heap HX.out (by simp))
 have HK2:=Lib.hid (K1.trans K2)
 clear HF HX K1 K2
 obtain ⟨q0,q1,q2,q3,q4,q5,q6,q7,q8,q9,q10,q11,qz,qlt,qlt2⟩:=cellsF HF2.out
 have x0:=cell_of HX2.out 0
 have x1:=cell_of HX2.out 1
 have x2:=cell_of HX2.out 2
 have xz:=frozen_of HX2.out
 go_wp2
 go_step3
 refine And.intro rfl ?_
 go_wp2
 go_region
 go_wp2
 rw [jump_ret]
 generalize hW:World.setCell _ _ _=W
 obtain ⟨HF9,HX9,K9⟩:W.heap[w.heap.size]?=some (.cells #[.int .i64 0,.int .i64 0,.int .i64 0,.slice none 0 0,.int .i64 0,.int .u32 0,.int .i64 0,.int .i64 0,.int .i64 0,.bool false,.int .i64 0,.slice none 0 0] 49)∧W.heap[w.heap.size+1]?=some (.cells #[.bool true,.int .i64 0,.int .i64 6] 64)∧Kp [w.heap.size,w.heap.size+1] (World.setCell (World.setCell w2 ⟨w.heap.size+1,0,none⟩ (.bool true)) ⟨w.heap.size+1,2,none⟩ (.int .i64 6)) W:=by rw [← hW]; exact set15 (by omega) ((hp_far _ _ _ _ (by simp)).trans ((hp_far _ _ _ _ (by simp)).trans HF2.out)) (sx2 (sx0 HX2.out))
 refine bodyPost_ret (v:=.tuple #[.agg #[.int .i64 0,.int .i64 0,.int .i64 0,.slice none 0 0,.int .i64 0,.int .u32 0,.int .i64 0,.int .i64 0,.int .i64 0,.bool false,.int .i64 0,.slice none 0 0],.int .i64 9,.agg #[.bool true,.int .i64 0,.int .i64 6],.int .i64 0]) (by simp [results,Try.results100,go_sem,cell_of HF9,cell_of HX9]) rfl ⟨(⟨0,0,0,none,0,0,0,0,0,0,0,false,0,none,0,0⟩:Fr),rfl,FrP.zero _ _,((HK2.out.then (((Kp.refl [w.heap.size+1] w2).setCell (.inl (by simp)) (.bool true)).setCell (.inl (by simp)) (.int .i64 6)) (by simp)).then K9 (by simp)).drew⟩

theorem parseCut (A:Option Addr) (n c:Nat) (l:List UInt8) (most:Int) (w:World) (hr:Rd w A n c l) (hn:n≤281474976710656) (hm:0≤most) (h9:¬ n < 9) (N:Nat) (hN:be (l.take 3)=N) (hb:¬ most < (N:Int)) (hc:n < 9+N):Calls Try.prog 100 #[.slice A n c,.int .i64 most] w (ParseR (.no 0 3) w):=by
 have HR:=Lib.hid hr
 have e:=head_of (l:=l) (by rw [hr.len]; exact h9)
 rw [hN] at e
 have HN2:=Lib.hid (show N < 16777216 by have:=be_take_lt l 3; rw [hN] at this; have e3:(256:Nat) ^ 3=16777216:=(by decide); omega)
 obtain ⟨T,hT⟩:∃ T,(l.getD 3 0).toNat=T:=⟨_,rfl⟩
 obtain ⟨F,hF⟩:∃ F,(l.getD 4 0).toNat=F:=⟨_,rfl⟩
 obtain ⟨S,hS⟩:∃ S,be ((l.drop 5).take 4) % 2147483648=S:=⟨_,rfl⟩
 rw [hT,hF,hS] at e
 have HH:=Lib.hid e
 clear hr e hT hF hS hN
 go_enter Try.func100,Try.ntmps100
 go_wp2_with fail
 refine wp_scope_once 0 rfl ?_
 go_wp2_with fail
 generalize hW:World.alloc _ _=w1
 have K1:Kp [] w w1:=by rw [← hW]; with_reducible (repeat (first|exact Kp.refl _ _|assumption|refine Kp.alloc ?_ _|refine Kp.drew ?_|refine Kp.drewN ?_ _|(refine Kp.setL ?_ ?_ _;focus (simp;done))|(refine Kp.setR ?_ ?_ _;focus (first|(simp;done)|(simp;omega)))))
 have HF:=Lib.hid (show w1.heap[w.heap.size]?=some (.cells #[.int .i64 0,.int .i64 0,.int .i64 0,.slice none 0 0,.int .i64 0,.int .u32 0,.int .i64 0,.int .i64 0,.int .i64 0,.bool false,.int .i64 0,.slice none 0 0] 49) by rw [← hW]; with_reducible (repeat (first|assumption|(refine hp_new _ _ _ ?_;focus (simp;done))|refine hpl ?_|(refine hpf ?_ ?_;focus (first|(simp;done)|(simp;omega)))|refine hpd ?_|refine hpe ?_)))
 have HX:=Lib.hid (show w1.heap[w.heap.size+1]?=some (.cells #[.bool false,.int .i64 0,.int .i64 0] 64) by rw [← hW]; with_reducible (repeat (first|assumption|(refine hp_new _ _ _ ?_;focus (simp;done))|refine hpl ?_|(refine hpf ?_ ?_;focus (first|(simp;done)|(simp;omega)))|refine hpd ?_|refine hpe ?_)))
 clear hW
 refine (Head_big A n c l w1 hn (HR.out.keep K1 (by simp))).mono ?_
 rintro e w2 ⟨rfl,K2⟩
 rw [HH.out]
 dsimp only
 have HF2:=Lib.hid (K2.heap HF.out (by simp))
 have HX2:=Lib.hid (K2.heap HX.out (by simp))
 have HK2:=Lib.hid (K1.trans K2)
 clear HF HX K1 K2
 obtain ⟨q0,q1,q2,q3,q4,q5,q6,q7,q8,q9,q10,q11,qz,qlt,qlt2⟩:=cellsF HF2.out
 have x0:=cell_of HX2.out 0
 have x1:=cell_of HX2.out 1
 have x2:=cell_of HX2.out 2
 have xz:=frozen_of HX2.out
 have hN2:N < 16777216:=HN2.out
 go_wp2
 go_region
 go_wp2
 rw [jump_ret]
 generalize hW:World.setCell _ _ _=W
 obtain ⟨HF9,HX9,K9⟩:W.heap[w.heap.size]?=some (.cells #[.int .i64 0,.int .i64 0,.int .i64 0,.slice none 0 0,.int .i64 0,.int .u32 0,.int .i64 0,.int .i64 0,.int .i64 0,.bool false,.int .i64 0,.slice none 0 0] 49)∧W.heap[w.heap.size+1]?=some (.cells #[.bool false,.int .i64 0,.int .i64 0] 64)∧Kp [w.heap.size,w.heap.size+1] w2 W:=by rw [← hW]; exact set15 (by omega) HF2.out HX2.out
 refine bodyPost_ret (v:=.tuple #[.agg #[.int .i64 0,.int .i64 0,.int .i64 0,.slice none 0 0,.int .i64 0,.int .u32 0,.int .i64 0,.int .i64 0,.int .i64 0,.bool false,.int .i64 0,.slice none 0 0],.int .i64 0,.agg #[.bool false,.int .i64 0,.int .i64 0],.int .i64 3]) (by simp [results,Try.results100,go_sem,cell_of HF9,cell_of HX9]) rfl ⟨(⟨0,0,0,none,0,0,0,0,0,0,0,false,0,none,0,0⟩:Fr),rfl,FrP.zero _ _,(HK2.out.then K9 (by simp)).drew⟩

theorem parseUnknown (A:Option Addr) (n c:Nat) (l:List UInt8) (most:Int) (w:World) (hr:Rd w A n c l) (hn:n≤281474976710656) (hm:0≤most) (h9:¬ n < 9) (N:Nat) (hN:be (l.take 3)=N) (hb:¬ most < (N:Int)) (hc:¬ n < 9+N) (T F S:Nat) (hT:(l.getD 3 0).toNat=T) (hF:(l.getD 4 0).toNat=F) (hS:be ((l.drop 5).take 4) % 2147483648=S) (hkn:knownB (T:Int)=false):Calls Try.prog 100 #[.slice A n c,.int .i64 most] w (ParseR ⟨f0S T F S 0,9+N,false,0,0,0⟩ w):=by
 have HR:=Lib.hid hr
 have e:=head_of (l:=l) (by rw [hr.len]; exact h9)
 rw [hN] at e
 have HN2:=Lib.hid (show N < 16777216 by have:=be_take_lt l 3; rw [hN] at this; have e3:(256:Nat) ^ 3=16777216:=(by decide); omega)
 have HKN:=Lib.hid hkn
 rw [hT,hF,hS] at e
 have HH:=Lib.hid e
 clear hr e hT hF hS hN hkn
 go_enter Try.func100,Try.ntmps100
 go_wp2_with fail
 refine wp_scope_once 0 rfl ?_
 go_wp2_with fail
 generalize hW:World.alloc _ _=w1
 have K1:Kp [] w w1:=by rw [← hW]; with_reducible (repeat (first|exact Kp.refl _ _|assumption|refine Kp.alloc ?_ _|refine Kp.drew ?_|refine Kp.drewN ?_ _|(refine Kp.setL ?_ ?_ _;focus (simp;done))|(refine Kp.setR ?_ ?_ _;focus (first|(simp;done)|(simp;omega)))))
 have HF:=Lib.hid (show w1.heap[w.heap.size]?=some (.cells #[.int .i64 0,.int .i64 0,.int .i64 0,.slice none 0 0,.int .i64 0,.int .u32 0,.int .i64 0,.int .i64 0,.int .i64 0,.bool false,.int .i64 0,.slice none 0 0] 49) by rw [← hW]; with_reducible (repeat (first|assumption|(refine hp_new _ _ _ ?_;focus (simp;done))|refine hpl ?_|(refine hpf ?_ ?_;focus (first|(simp;done)|(simp;omega)))|refine hpd ?_|refine hpe ?_)))
 have HX:=Lib.hid (show w1.heap[w.heap.size+1]?=some (.cells #[.bool false,.int .i64 0,.int .i64 0] 64) by rw [← hW]; with_reducible (repeat (first|assumption|(refine hp_new _ _ _ ?_;focus (simp;done))|refine hpl ?_|(refine hpf ?_ ?_;focus (first|(simp;done)|(simp;omega)))|refine hpd ?_|refine hpe ?_)))
 clear hW
 refine (Head_big A n c l w1 hn (HR.out.keep K1 (by simp))).mono ?_
 rintro e w2 ⟨rfl,K2⟩
 rw [HH.out]
 dsimp only
 have HF2:=Lib.hid (K2.heap HF.out (by simp))
 have HX2:=Lib.hid (K2.heap HX.out (by simp))
 have HK2:=Lib.hid (K1.trans K2)
 clear HF HX K1 K2
 obtain ⟨q0,q1,q2,q3,q4,q5,q6,q7,q8,q9,q10,q11,qz,qlt,qlt2⟩:=cellsF HF2.out
 have x0:=cell_of HX2.out 0
 have x1:=cell_of HX2.out 1
 have x2:=cell_of HX2.out 2
 have xz:=frozen_of HX2.out
 have hN2:N < 16777216:=HN2.out
 go_wp2_with fail
 generalize hW:World.setCell _ _ _=w3
 have HF3:=Lib.hid (show w3.heap[w.heap.size]?=some (.cells #[.int .i64 T,.int .i64 F,.int .i64 S,.slice none 0 0,.int .i64 0,.int .u32 0,.int .i64 0,.int .i64 0,.int .i64 0,.bool false,.int .i64 0,.slice none 0 0] 49) by rw [← hW]; exact sf11 (sf10 (sf9 (sf8 (sf7 (sf6 (sf5 (sf4 (sf3 (sf2 (sf1 (sf0 (HF2.out)))))))))))))
 have K3:Kp [w.heap.size] w2 w3:=by rw [← hW]; exact (((((((((((((Kp.refl _ _).setCell (.inl (by simp)) _).setCell (.inl (by simp)) _).setCell (.inl (by simp)) _).setCell (.inl (by simp)) _).setCell (.inl (by simp)) _).setCell (.inl (by simp)) _).setCell (.inl (by simp)) _).setCell (.inl (by simp)) _).setCell (.inl (by simp)) _).setCell (.inl (by simp)) _).setCell (.inl (by simp)) _).setCell (.inl (by simp)) _)
 have HX3:=Lib.hid (K3.heap HX2.out (by simp))
 have HK3:=Lib.hid (HK2.out.then K3 (by simp))
 clear hW K3 HF2 HX2 HK2 q0 q1 q2 q3 q4 q5 q6 q7 q8 q9 q10 q11 qz qlt qlt2 x0 x1 x2 xz
 obtain ⟨q0,q1,q2,q3,q4,q5,q6,q7,q8,q9,q10,q11,qz,qlt,qlt2⟩:=cellsF HF3.out
 have x0:=cell_of HX3.out 0
 have x1:=cell_of HX3.out 1
 have x2:=cell_of HX3.out 2
 have xz:=frozen_of HX3.out
 refine (Known_any (T:Int) _).mono ?_
 rintro e w4 ⟨rfl,rfl⟩
 rw [HKN.out]
 go_wp2
 go_region
 go_wp2
 rw [jump_ret]
 generalize hW:World.setCell _ _ _=W
 obtain ⟨HF9,HX9,K9⟩:W.heap[w.heap.size]?=some (.cells #[.int .i64 T,.int .i64 F,.int .i64 S,.slice none 0 0,.int .i64 0,.int .u32 0,.int .i64 0,.int .i64 0,.int .i64 0,.bool false,.int .i64 0,.slice none 0 0] 49)∧W.heap[w.heap.size+1]?=some (.cells #[.bool false,.int .i64 0,.int .i64 0] 64)∧Kp [w.heap.size,w.heap.size+1] w3 W:=by rw [← hW]; exact set15 (by omega) HF3.out HX3.out
 refine bodyPost_ret (v:=.tuple #[.agg #[.int .i64 T,.int .i64 F,.int .i64 S,.slice none 0 0,.int .i64 0,.int .u32 0,.int .i64 0,.int .i64 0,.int .i64 0,.bool false,.int .i64 0,.slice none 0 0],.int .i64 (9+(N:Int)),.agg #[.bool false,.int .i64 0,.int .i64 0],.int .i64 0]) (by simp [results,Try.results100,go_sem,cell_of HF9,cell_of HX9]) rfl ⟨(⟨T,F,S,none,0,0,0,0,0,0,0,false,0,none,0,0⟩:Fr),rfl,⟨rfl,Rd.nil _ _ _,Sd.nil _,by simp [ob],by simp [ob]⟩,(HK3.out.then K9 (by simp)).drew⟩
end Go.Proofs.Ytkmcakneceagpaa
