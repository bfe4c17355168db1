/- The reference's joiner: In, where a block is whole. -/
import Derived.Test.YtibeaombhjdakaaRJm
import Derived.Test.YtibeaombhjdakaaReg4
set_option linter.unusedVariables false
set_option linter.unusedSimpArgs false
set_option linter.unusedSimpArgs false
namespace Go.Proofs.Ytibeaombhjdakaa
open Go.RowKit
theorem jset12 {w : World} {g : Nat} {a0 a1 a2 a3 a4 a5 a6 a7 a8 a9 a10 a11 b0 b1 b2 b3 b4 b5 b6 b7 b8 b9 b10 b11 : Value} {t : TypeId} (hg : w.heap[g]? = some (.cells #[a0, a1, a2, a3, a4, a5, a6, a7, a8, a9, a10, a11] t)) : (World.setCell (World.setCell (World.setCell (World.setCell (World.setCell (World.setCell (World.setCell (World.setCell (World.setCell (World.setCell (World.setCell (World.setCell w ⟨g, 0, none⟩ b0) ⟨g, 1, none⟩ b1) ⟨g, 2, none⟩ b2) ⟨g, 3, none⟩ b3) ⟨g, 4, none⟩ b4) ⟨g, 5, none⟩ b5) ⟨g, 6, none⟩ b6) ⟨g, 7, none⟩ b7) ⟨g, 8, none⟩ b8) ⟨g, 9, none⟩ b9) ⟨g, 10, none⟩ b10) ⟨g, 11, none⟩ b11).heap[g]? = some (.cells #[b0, b1, b2, b3, b4, b5, b6, b7, b8, b9, b10, b11] t) ∧ Kp [g] w (World.setCell (World.setCell (World.setCell (World.setCell (World.setCell (World.setCell (World.setCell (World.setCell (World.setCell (World.setCell (World.setCell (World.setCell w ⟨g, 0, none⟩ b0) ⟨g, 1, none⟩ b1) ⟨g, 2, none⟩ b2) ⟨g, 3, none⟩ b3) ⟨g, 4, none⟩ b4) ⟨g, 5, none⟩ b5) ⟨g, 6, none⟩ b6) ⟨g, 7, none⟩ b7) ⟨g, 8, none⟩ b8) ⟨g, 9, none⟩ b9) ⟨g, 10, none⟩ b10) ⟨g, 11, none⟩ b11) := ⟨jf11 (jf10 (jf9 (jf8 (jf7 (jf6 (jf5 (jf4 (jf3 (jf2 (jf1 (jf0 (hg)))))))))))), (((((((((((((Kp.refl _ _).setCell (.inl (by simp)) _).setCell (.inl (by simp)) _).setCell (.inl (by simp)) _).setCell (.inl (by simp)) _).setCell (.inl (by simp)) _).setCell (.inl (by simp)) _).setCell (.inl (by simp)) _).setCell (.inl (by simp)) _).setCell (.inl (by simp)) _).setCell (.inl (by simp)) _).setCell (.inl (by simp)) _).setCell (.inl (by simp)) _)⟩

set_option maxHeartbeats 8000000 in
set_option maxRecDepth 100000 in
theorem RIn_wholeH0 (g : Nat) (f : Fr) (F : Nat) (w : World) (most : Nat) (st : Int) (en : Bool) (A : Option Addr) (n c base : Nat) (l lf : List UInt8) (h : w.heap[g]? = some (.cells #[.int .i64 most, .int .i64 st, .bool en, .slice A n c] 42)) (hfl : f.fl = (F : Int)) (hF : F ≤ 9223372036854775807) (hm : most ≤ 65536) (hn : n ≤ most) (hpn : f.pn ≤ 140737488351232) (hc : 0 + f.pn ≤ most) (hbs : base ≤ w.heap.size) (ho : Ow w base 5 1 A n c (l.map u8)) (hga : g ∉ ob A) (hrf : Rd w f.pA f.pn f.pc lf) (hfo : 0 < f.pn → ∀ b, b ∈ ob f.pA → b ≠ g) (hr : F / 4 % 2 = 1) (hst : st = 0) (h1 : f.ty = 1) (hz : F % 2 = 0) : Calls Try.prog 7 #[.pointer (some ⟨g, 0, none⟩), .agg #[.int .i64 f.ty, .int .i64 f.fl, .int .i64 f.st, .slice f.pA f.pn f.pc, .int .i64 f.pad, .int .u32 f.code, .int .i64 f.last, .int .i64 f.inc, .int .i64 f.dep, .bool f.only, .int .i64 f.wt, .slice f.sA f.sn f.sc]] w (fun e w' => ∃ A' c', e = .returned (.tuple #[.agg #[.int .i64 1, .int .i64 4, .int .i64 f.st, .slice A' f.pn c', .int .i64 0, .int .u32 0, .int .i64 0, .int .i64 0, .int .i64 0, .bool false, .int .i64 0, .slice none 0 0], .bool true, .agg #[.bool false, .int .i64 0, .int .i64 0]]) ∧ w'.heap[g]? = some (.cells #[.int .i64 most, .int .i64 0, .bool false, .slice none 0 0] 42) ∧ Ow w' base 5 1 A' f.pn c' (([] ++ lf).map u8) ∧ (g ∉ ob A' ∧ ∀ b, b ∈ ob A' → b ∈ ob A ∨ w.heap.size ≤ b) ∧ Kp (g :: ob A) w w') := by
  have HO := Lib.hid (show Ow w base 5 1 none 0 0 (([]).map u8) from Ow.nil _ _ _ _)
  have HR := Lib.hid hrf
  have HBS' := Lib.hid hbs
  have HGA := Lib.hid (show g ∉ ob none from by simp [ob])
  have HAB' := Lib.hid (show ∀ t, t ∈ ob none → t < w.heap.size from by simp [ob])
  clear hrf hbs ho hga
  have hl := lt_of_heap h
  have HH := Lib.hid h
  clear h
  obtain ⟨ty, fl, fst, pA, pn, pc, pad, code, last, inc, dep, only, wt, sA, sn, sc⟩ := f
  dsimp only at HR
  dsimp only at *
  subst hfl
  have est0 : (st == 0) = true := by simp; omega
  have nst0 : (st != 0) = false := by simp; omega
  have ety9 : (ty == 9) = false := by simp; omega
  have nty9 : (ty != 9) = true := by simp; omega
  have ety1 : (ty == 1) = true := by simp; omega
  have nty1 : (ty != 1) = false := by simp; omega
  have hz1 : ((F : Int).tmod 2) = 0 := by rw [show ((F : Int).tmod 2) = ((F % 2 : Nat) : Int) by simp [Int.tmod], hz]; rfl
  have hz2 : ((F : Int) % 2) = 0 := by omega
  have hmi : (most : Int) ≤ 65536 := by omega
  have hni : (n : Int) ≤ (most : Int) := by omega
  have hw : IntKind.i64.wrap ((most : Int) - (0 : Int)) = (most : Int) - (0 : Int) := by apply IntWalk.i64_in; omega
  have hci : ¬ (most : Int) - (0 : Int) < (pn : Int) := by omega
  have hcj : (pn : Int) ≤ (most : Int) - (0 : Int) := by omega
  obtain ⟨Q, hQ⟩ : ∃ Q : Nat, F / 4 = Q := ⟨_, rfl⟩
  rw [hQ] at hr
  have hq1 : ((F : Int).tdiv 4) = (Q : Int) := by rw [← hQ]; simp [Int.tdiv]
  have hq2 : ((F : Int) / 4) = (Q : Int) := by omega
  have hqb : (Q : Int) ≤ 9223372036854775807 := by omega
  have hr1 : ((Q : Int).tmod 2) = 1 := by rw [show ((Q : Int).tmod 2) = ((Q % 2 : Nat) : Int) by simp [Int.tmod], hr]; rfl
  have hr2 : ((Q : Int) % 2) = 1 := by omega
  clear hQ hr
  clear hst h1 hz
  go_enter Try.func7, Try.ntmps7
  go_wp2
  generalize hW : World.alloc _ _ = w1
  have K1 : Kp [] w w1 := by rw [← hW]; (repeat (first | with_reducible exact Kp.refl _ _ | with_reducible assumption | with_reducible refine Kp.alloc ?_ _ | with_reducible refine Kp.drew ?_ | with_reducible refine Kp.drewN ?_ _ | (with_reducible refine Kp.setL ?_ ?_ _; focus (simp; done)) | (with_reducible refine Kp.setR ?_ ?_ _; focus (simp; done)) | (with_reducible refine Kp.setR ?_ ?_ _; focus (simp; omega))))
  have HB := Lib.hid (show w1.heap[w.heap.size]? = some (.cells #[.int .i64 ty, .int .i64 (F : Int), .int .i64 fst, .slice pA pn pc, .int .i64 pad, .int .u32 code, .int .i64 last, .int .i64 inc, .int .i64 dep, .bool only, .int .i64 wt, .slice sA sn sc] 34) by rw [← hW]; (repeat (first | with_reducible assumption | (with_reducible refine hp_new _ _ _ ?_; focus (simp; done)) | (with_reducible refine (hp_old _ _ _ ?_).trans ?_; focus (first | omega | (simp; done) | (simp; omega))) | (with_reducible refine (hp_far _ _ _ _ ?_).trans ?_; focus (first | (simp; done) | (simp; omega))) | (with_reducible refine (hp_drew _ _).trans ?_) | (with_reducible refine (hp_drewN _ _ _).trans ?_))))
  have HF := Lib.hid (show w1.heap[w.heap.size + 1]? = some (.cells #[.int .i64 0, .int .i64 0, .int .i64 0, .slice none 0 0, .int .i64 0, .int .u32 0, .int .i64 0, .int .i64 0, .int .i64 0, .bool false, .int .i64 0, .slice none 0 0] 34) by rw [← hW]; (repeat (first | with_reducible assumption | (with_reducible refine hp_new _ _ _ ?_; focus (simp; done)) | (with_reducible refine (hp_old _ _ _ ?_).trans ?_; focus (first | omega | (simp; done) | (simp; omega))) | (with_reducible refine (hp_far _ _ _ _ ?_).trans ?_; focus (first | (simp; done) | (simp; omega))) | (with_reducible refine (hp_drew _ _).trans ?_) | (with_reducible refine (hp_drewN _ _ _).trans ?_))))
  have HX := Lib.hid (show w1.heap[w.heap.size + 1 + 1]? = some (.cells #[.bool false, .int .i64 0, .int .i64 0] 36) by rw [← hW]; (repeat (first | with_reducible assumption | (with_reducible refine hp_new _ _ _ ?_; focus (simp; done)) | (with_reducible refine (hp_old _ _ _ ?_).trans ?_; focus (first | omega | (simp; done) | (simp; omega))) | (with_reducible refine (hp_far _ _ _ _ ?_).trans ?_; focus (first | (simp; done) | (simp; omega))) | (with_reducible refine (hp_drew _ _).trans ?_) | (with_reducible refine (hp_drewN _ _ _).trans ?_))))
  have H1 := Lib.hid (K1.heap HH.out (by simp))
  clear hW HH
  have c0 := cell_of H1.out 0
  have c1 := cell_of H1.out 1
  have c2 := cell_of H1.out 2
  have c3 := cell_of H1.out 3
  have cz := frozen_of H1.out
  have cl := lt_of_heap H1.out
  obtain ⟨b0, b1, b2, b3, b4, b5, b6, b7, b8, b9, b10, b11, bz, blt, blt2⟩ := jcellsF HB.out
  obtain ⟨q0, q1, q2, q3, q4, q5, q6, q7, q8, q9, q10, q11, qz, qlt, qlt2⟩ := jcellsF HF.out
  have x0 := cell_of HX.out 0
  have x1 := cell_of HX.out 1
  have x2 := cell_of HX.out 2
  have xz := frozen_of HX.out
  have xl := lt_of_heap HX.out
  go_region
  go_wp2
  generalize hW : World.setCell _ _ _ = w2
  have K12 : Kp [g] w1 w2 := by rw [← hW]; exact (((Kp.refl _ _).setCell (.inl (by simp)) _).setCell (.inl (by simp)) _).setCell (.inl (by simp)) _
  have H2' : w2.heap[g]? = some (.cells #[.int .i64 most, .int .i64 fst, .bool false, .slice none 0 0] 42) := by rw [← hW]; exact hp_set _ _ _ _ _ _ (hp_set _ _ _ _ _ _ (hp_set _ _ _ _ _ _ H1.out))
  have H2 := Lib.hid (show w2.drew.heap[g]? = _ from H2')
  have HB2 := Lib.hid (show w2.drew.heap[w.heap.size]? = _ from K12.heap HB.out (by simp; omega))
  have HF2 := Lib.hid (show w2.drew.heap[w.heap.size + 1]? = _ from K12.heap HF.out (by simp; omega))
  have HX2 := Lib.hid (show w2.drew.heap[w.heap.size + 1 + 1]? = _ from K12.heap HX.out (by simp; omega))
  have K2 := Lib.hid (K1.nil.trans K12.drew)
  clear hW K12 H2' HB HF HX H1 K1 c0 c1 c2 c3 cz cl b0 b1 b2 b3 b4 b5 b6 b7 b8 b9 b10 b11 bz blt blt2 q0 q1 q2 q3 q4 q5 q6 q7 q8 q9 q10 q11 qz qlt qlt2 x0 x1 x2 xz xl
  generalize w2.drew = w2 at *
  have c0 := cell_of H2.out 0
  have c1 := cell_of H2.out 1
  have c2 := cell_of H2.out 2
  have c3 := cell_of H2.out 3
  have cz := frozen_of H2.out
  have cl := lt_of_heap H2.out
  obtain ⟨b0, b1, b2, b3, b4, b5, b6, b7, b8, b9, b10, b11, bz, blt, blt2⟩ := jcellsF HB2.out
  obtain ⟨q0, q1, q2, q3, q4, q5, q6, q7, q8, q9, q10, q11, qz, qlt, qlt2⟩ := jcellsF HF2.out
  have x0 := cell_of HX2.out 0
  have x1 := cell_of HX2.out 1
  have x2 := cell_of HX2.out 2
  have xz := frozen_of HX2.out
  have xl := lt_of_heap HX2.out
  go_region
  go_wp2
  have H3 := Lib.hid (show w2.drew.heap[g]? = _ from H2.out)
  have HB3 := Lib.hid (show w2.drew.heap[w.heap.size]? = _ from HB2.out)
  have HF3 := Lib.hid (show w2.drew.heap[w.heap.size + 1]? = _ from HF2.out)
  have HX3 := Lib.hid (show w2.drew.heap[w.heap.size + 1 + 1]? = _ from HX2.out)
  have K3 := Lib.hid (show Kp [g] w w2.drew from K2.out.drew)
  clear HB2 HF2 HX2 H2 K2 c0 c1 c2 c3 cz cl b0 b1 b2 b3 b4 b5 b6 b7 b8 b9 b10 b11 bz blt blt2 q0 q1 q2 q3 q4 q5 q6 q7 q8 q9 q10 q11 qz qlt qlt2 x0 x1 x2 xz xl
  generalize w2.drew = w3 at *
  have HO3 := Lib.hid (HO.out.keep K3.out (fun b hb hs => by simp at hs; subst hs; exact HGA.out hb))
  have HR3 := Lib.hid (HR.out.keep K3.out (fun hn b hb hs => by simp at hs; subst hs; exact hfo hn _ hb rfl))
  have HL3 := Lib.hid H3.out
  obtain ⟨bx, hbx⟩ : ∃ bx, w.heap.size = bx := ⟨_, rfl⟩
  have HAB := Lib.hid (show ∀ t, t ∈ ob none → t < bx by rw [← hbx]; exact HAB'.out)
  have HBS := Lib.hid (show base ≤ w3.heap.size from Nat.le_trans HBS'.out K3.out.size)
  have HWB := Lib.hid hbx
  have hlb : g < bx := by omega
  rw [hbx] at HB3 HF3 HX3 ⊢
  clear hbx hl
  refine wp_region_st3 (by kernel_rfl) [fun _ v _ => v = (.pointer (some ⟨g, 0, none⟩)),
      fun _ v _ => v = (.pointer (some ⟨g, 0, none⟩)),
      fun _ v _ => v = (.pointer (some ⟨g, 0, none⟩)),
      fun _ v _ => v = (.pointer (some ⟨g, 3, none⟩)),
      fun _ v _ => v = (.slice none 0 0),
      fun _ v _ => v = (.pointer (some ⟨bx, 3, none⟩)),
      fun _ v _ => v = (.slice pA pn pc),
      fun p v w => ∃ x : Option Addr × Nat × Nat, v = .slice x.1 x.2.1 x.2.2 ∧ 1 ≤ p ∧ (p ≤ 1 → Ow w (base) 5 1 x.1 x.2.1 x.2.2 (([] ++ lf).map u8) ∧ x.2.1 = pn ∧ g ∉ ob x.1 ∧ (∀ t, t ∈ ob x.1 → t ∈ ob none ∨ bx + 1 + 1 < t)),
      fun _ v _ => v = (.pointer (some ⟨g, 0, none⟩)),
      fun _ v _ => v = (.pointer (some ⟨g, 3, none⟩)),
      fun _ v _ => True] (fun p w => (p = 0 → Kp [] w3 w) ∧ (p ≤ 1 → w.heap[g]? = some (.cells #[.int .i64 most, .int .i64 fst, .bool false, .slice none 0 0] 42)) ∧ w.heap[bx]? = some (.cells #[.int .i64 ty, .int .i64 (F : Int), .int .i64 fst, .slice pA pn pc, .int .i64 pad, .int .u32 code, .int .i64 last, .int .i64 inc, .int .i64 dep, .bool only, .int .i64 wt, .slice sA sn sc] 34) ∧ w.heap[bx + 1]? = some (.cells #[.int .i64 0, .int .i64 0, .int .i64 0, .slice none 0 0, .int .i64 0, .int .u32 0, .int .i64 0, .int .i64 0, .int .i64 0, .bool false, .int .i64 0, .slice none 0 0] 34) ∧ w.heap[bx + 1 + 1]? = some (.cells #[.bool false, .int .i64 0, .int .i64 0] 36) ∧ Kp (g :: ob none) w3 w ∧ (2 ≤ p → ∃ (A' : Option Addr) (c' : Nat), w.heap[g]? = some (.cells #[.int .i64 most, .int .i64 fst, .bool false, .slice A' pn c'] 42) ∧ Ow w base 5 1 A' pn c' (([] ++ lf).map u8) ∧ g ∉ ob A' ∧ (∀ t, t ∈ ob A' → t ∈ ob none ∨ bx + 1 + 1 < t))) (fun p w w' => p < 0 → Kp [] w w') (fun w w' => Kp [] w w') [7, 10] [] (by kernel_rfl) (by kernel_rfl) (by kernel_rfl) (by decide) (by kernel_rfl) ⟨StabAt2.const _, StabAt2.const _, StabAt2.const _, StabAt2.const _, StabAt2.const _, StabAt2.const _, StabAt2.const _, StabAt2.span (f := fun x : Option Addr × Nat × Nat => .slice x.1 x.2.1 x.2.2) (by intro p x w w' h1 h2 h3 hR hG; have K := hR; exact ⟨hG.1.keep (K (by omega)) (by simp), hG.2⟩) (by intro x w w' hR hG; have K := hR; exact ⟨hG.1.keep K (by simp), hG.2⟩), StabAt2.const _, StabAt2.const _, StabAt2.const _, trivial⟩ (⟨fun _ => (Kp.refl _ _).drew, fun _ => H3.out, HB3.out, HF3.out, HX3.out, (Kp.refl _ _).drew, fun h => by omega⟩) ⟨?_, ?_, ?_, ?_, ?_, ?_, ?_, ?_, ?_, ?_, ?_, trivial⟩ (by kernel_rfl) ?_
  · intro q9 a w E hC K hK
    have h0 : a.tmps[0]? = some (.pointer (some ⟨g, 0, none⟩)) := (E.out 0 (by kernel_rfl)).trans rfl
    refine want_none rfl ?_
    go_simp
    exact hK _ rfl
  · intro q9 a w E hC K hK
    have h0 : a.tmps[0]? = some (.pointer (some ⟨g, 0, none⟩)) := (E.out 0 (by kernel_rfl)).trans rfl
    refine want_none rfl ?_
    go_simp
    exact hK _ rfl
  · intro q9 a w E hC K hK
    obtain ⟨_, h92, rfl⟩ := E.pred 1 _ 92 rfl rfl (by kernel_rfl)
    refine want_none rfl ?_
    have cl := lt_of_heap HL3.out
    go_simp
    exact hK _ rfl
  · intro q9 a w E hC K hK
    obtain ⟨_, h93, rfl⟩ := E.pred 2 _ 93 rfl rfl (by kernel_rfl)
    refine want_none rfl ?_
    go_simp
    exact hK _ rfl
  · intro q9 a w E hC K hK
    obtain ⟨_, h94, rfl⟩ := E.pred 3 _ 94 rfl rfl (by kernel_rfl)
    refine want_none rfl ?_
    have hk := E.lim 1 10 _ rfl rfl (by kernel_rfl)
    have hh := hC.2.1 (by omega)
    have c3 := cell_of hh 3
    have cl := lt_of_heap hh
    clear hh hk
    go_simp
    exact hK _ rfl
  · intro q9 a w E hC K hK
    have h3 : a.tmps[3]? = some (.pointer (some ⟨bx, 0, none⟩)) := (E.out 3 (by kernel_rfl)).trans rfl
    refine want_none rfl ?_
    go_simp
    exact hK _ rfl
  · intro q9 a w E hC K hK
    obtain ⟨_, h96, rfl⟩ := E.pred 5 _ 96 rfl rfl (by kernel_rfl)
    refine want_none rfl ?_
    have hb := hC.2.2.1
    have b3 := cell_of hb 3
    have bl := lt_of_heap hb
    clear hb
    go_simp
    exact hK _ rfl
  · intro a w E hC K hK
    obtain ⟨_, h95, rfl⟩ := E.pred 4 _ 95 rfl rfl (by kernel_rfl)
    obtain ⟨_, h97, rfl⟩ := E.pred 6 _ 97 rfl rfl (by kernel_rfl)
    refine want_none rfl ?_
    have K0 := hC.1 rfl
    refine op_appO (.tmp 95) (.tmp 97) 30 5 rfl Try.underlying30 Try.info5 base none 0 0 [] (eval_tmp h95) (HO3.out.keep K0 (by simp)) pA pn pc lf (eval_tmp h97) (HR3.out.keep K0 (by simp)) (by omega) (by have := K0.size; have := HBS.out; omega) ?_
    intro A' c' w2 O K2 hA2
    have hgA : g ∉ ob A' := by
        rcases hA2 with e | e
        · rw [e]; exact HGA.out
        · rw [e]; simp [ob]; have := lt_of_heap (hC.2.1 (by omega)); omega
    have hAB2 : ∀ t, t ∈ ob A' → t ∈ ob none ∨ bx + 1 + 1 < t := by
        intro t ht
        rcases hA2 with e | e
        · rw [e] at ht; exact .inl ht
        · rw [e] at ht; simp [ob] at ht; have := lt_of_heap hC.2.2.2.2.1; exact .inr (by omega)
    have hs : ∀ t, t ∈ ob none → t < bx := HAB.out
    exact hK _ _ ⟨⟨A', _, c'⟩, rfl, by omega, fun _ => ⟨O, by simp, hgA, hAB2⟩⟩ ⟨fun h => by omega, fun _ => K2.heap (hC.2.1 (by omega)) HGA.out, K2.heap hC.2.2.1 (fun h => by have := hs _ h; omega), K2.heap hC.2.2.2.1 (fun h => by have := hs _ h; omega), K2.heap hC.2.2.2.2.1 (fun h => by have := hs _ h; omega), hC.2.2.2.2.2.1.trans (K2.mono (fun s h => .inl (List.mem_cons_of_mem _ h))), fun h => by omega⟩ (fun h => by omega)
  · intro q9 a w E hC K hK
    obtain ⟨_, h91, rfl⟩ := E.pred 0 _ 91 rfl rfl (by kernel_rfl)
    refine want_none rfl ?_
    have cl := lt_of_heap HL3.out
    go_simp
    exact hK _ rfl
  · intro q9 a w E hC K hK
    obtain ⟨_, h99, rfl⟩ := E.pred 8 _ 99 rfl rfl (by kernel_rfl)
    refine want_none rfl ?_
    go_simp
    exact hK _ rfl
  · intro a w E hC K hK
    obtain ⟨_, h100, rfl⟩ := E.pred 9 _ 100 rfl rfl (by kernel_rfl)
    obtain ⟨v7, h98, V7⟩ := E.pred 7 _ 98 rfl rfl (by kernel_rfl)
    replace V7 : (fun p v w => ∃ x : Option Addr × Nat × Nat, v = .slice x.1 x.2.1 x.2.2 ∧ 1 ≤ p ∧ (p ≤ 1 → Ow w (base) 5 1 x.1 x.2.1 x.2.2 (([] ++ lf).map u8) ∧ x.2.1 = pn ∧ g ∉ ob x.1 ∧ (∀ t, t ∈ ob x.1 → t ∈ ob none ∨ bx + 1 + 1 < t))) 1 v7 w := V7
    refine want_none rfl ?_
    obtain ⟨⟨A7, n7, c7⟩, rfl, _, G7⟩ := V7
    obtain ⟨O7, e7, hg7, hn7⟩ := G7 (by omega)
    dsimp only at O7 e7 hg7 hn7
    subst n7
    have hh := hC.2.1 (by omega)
    have c3 := cell_of hh 3
    have cz := frozen_of hh
    have cl := lt_of_heap hh
    have HH := Lib.hid hh
    have HO7 := Lib.hid O7
    clear hh O7
    go_simp
    have KS : Kp [g] w (w.setCell ⟨g, 3, none⟩ (.slice A7 pn c7)) := (Kp.refl [g] w).setCell (.inl (by simp)) _
    exact hK undef _ trivial ⟨fun h => by omega, fun h => by omega, KS.heap hC.2.2.1 (by simp; omega), KS.heap hC.2.2.2.1 (by simp; omega), KS.heap hC.2.2.2.2.1 (by simp; omega), hC.2.2.2.2.2.1.trans (KS.mono (by simp)), fun _ => ⟨A7, c7, hp_set _ _ _ _ _ _ HH.out, HO7.out.keep KS (fun b hb hs => by simp at hs; subst hs; exact hg7 hb), hg7, hn7⟩⟩ (fun h => by omega)
  intro vs w4 hC hV
  obtain ⟨A', c', h4, o4, g4, n4⟩ := hC.2.2.2.2.2.2 (by simp)
  have H4 := Lib.hid h4
  have NEW4 := Lib.hid (show ∀ t, t ∈ ob A' → t < bx ∨ bx + 1 + 1 < t from fun t ht => (n4 t ht).imp_left (HAB.out t))
  have STR4 := Lib.hid (show ∀ t, t ∈ ob A' → t ∈ ob A ∨ w.heap.size ≤ t from fun t ht => (n4 t ht).elim (fun h => by simp [ob] at h) (fun h => .inr (by have := HWB.out; omega)))
  have HB4 := Lib.hid hC.2.2.1
  have HF4 := Lib.hid hC.2.2.2.1
  have HX4 := Lib.hid hC.2.2.2.2.1
  have K4 := Lib.hid (show Kp (g :: ob A) w w4 from (K3.out.mono (fun s hs => .inl (by simp at hs; simp [hs]))).trans (hC.2.2.2.2.2.1.mono (fun s hs => .inl (by simp [ob] at hs; simp [hs]))))
  have HO4 := Lib.hid o4
  clear hV hC h4 o4 n4 H3 HB3 HF3 HX3 K3 HO HR HO3 HR3 HL3 HBS HBS'
  simp only [putAll, Act.put, List.setIfInBounds_toArray, Nat.zero_add, Nat.reduceAdd]
  dsimp only [List.set]
  have c0 := cell_of H4.out 0
  have c1 := cell_of H4.out 1
  have c2 := cell_of H4.out 2
  have c3 := cell_of H4.out 3
  have cz := frozen_of H4.out
  have cl := lt_of_heap H4.out
  obtain ⟨b0, b1, b2, b3, b4, b5, b6, b7, b8, b9, b10, b11, bz, blt, blt2⟩ := jcellsF HB4.out
  obtain ⟨q0, q1, q2, q3, q4, q5, q6, q7, q8, q9, q10, q11, qz, qlt, qlt2⟩ := jcellsF HF4.out
  have x0 := cell_of HX4.out 0
  have x1 := cell_of HX4.out 1
  have x2 := cell_of HX4.out 2
  have xz := frozen_of HX4.out
  have xl := lt_of_heap HX4.out
  go_wp2
  refine wp_region_st4 (by kernel_rfl) [fun _ v _ => v = (.pointer (some ⟨g, 0, none⟩)),
      fun _ v _ => v = (.pointer (some ⟨g, 0, none⟩)),
      fun _ v _ => v = (.pointer (some ⟨g, 1, none⟩)),
      fun _ v _ => v = (.int .i64 fst),
      fun _ v _ => v = (.pointer (some ⟨g, 0, none⟩)),
      fun _ v _ => v = (.pointer (some ⟨g, 0, none⟩)),
      fun _ v _ => v = (.pointer (some ⟨g, 3, none⟩)),
      fun _ v _ => v = (.slice A' pn c'),
      fun _ v _ => v = (.agg #[.int .i64 1, .int .i64 4, .int .i64 fst, .slice A' pn c', .int .i64 0, .int .u32 0, .int .i64 0, .int .i64 0, .int .i64 0, .bool false, .int .i64 0, .slice none 0 0]),
      fun p v w => ∃ b : Nat, v = .pointer (some ⟨b, 0, none⟩) ∧ w4.heap.size ≤ b ∧ (p ≤ 0 → w.heap[b]? = some (.cells #[.int .i64 0, .int .i64 0, .int .i64 0, .slice none 0 0, .int .i64 0, .int .u32 0, .int .i64 0, .int .i64 0, .int .i64 0, .bool false, .int .i64 0, .slice none 0 0] 34)),
      fun _ v _ => True] (fun p a w => Kp [] w4 w ∧ (1 ≤ p → ∃ b, a.tmps[7]? = some (.pointer (some ⟨b, 0, none⟩)) ∧ w4.heap.size ≤ b ∧ w.heap[b]? = some (.cells #[.int .i64 1, .int .i64 4, .int .i64 fst, .slice A' pn c', .int .i64 0, .int .u32 0, .int .i64 0, .int .i64 0, .int .i64 0, .bool false, .int .i64 0, .slice none 0 0] 34))) (fun _ _ _ => True) (fun w w' => Kp [] w w') [10] [9] (by kernel_rfl) (by kernel_rfl) (by kernel_rfl) [7] (fun k a a' w ht h => by have e7 := ht 7 (by simp); rw [e7]; exact h) (by kernel_rfl) (by decide) (by kernel_rfl) ⟨StabAt2.const _, StabAt2.const _, StabAt2.const _, StabAt2.const _, StabAt2.const _, StabAt2.const _, StabAt2.const _, StabAt2.const _, StabAt2.const _, ⟨fun p v w w' h1 h2 hR ⟨b, e, h, hz⟩ => ⟨b, e, h, fun hp => by omega⟩, fun k v w w' hR ⟨b, e, h, hz⟩ => ⟨b, e, h, fun hp => hR.heap (hz hp) (by simp)⟩⟩, StabAt2.const _, trivial⟩ (⟨(Kp.refl _ _).drew, fun h => by omega⟩) ⟨?_, ?_, ?_, ?_, ?_, ?_, ?_, ?_, ?_, ?_, ?_, trivial⟩ (by kernel_rfl) ?_
  · intro q9 a w E hC K hK
    have h0 : a.tmps[0]? = some (.pointer (some ⟨g, 0, none⟩)) := (E.out 0 (by kernel_rfl)).trans rfl
    refine want_none rfl ?_
    go_simp
    exact hK _ rfl
  · intro q9 a w E hC K hK
    obtain ⟨_, h108, rfl⟩ := E.pred 0 _ 108 rfl rfl (by kernel_rfl)
    refine want_none rfl ?_
    have cl := lt_of_heap H4.out
    go_simp
    exact hK _ rfl
  · intro q9 a w E hC K hK
    obtain ⟨_, h109, rfl⟩ := E.pred 1 _ 109 rfl rfl (by kernel_rfl)
    refine want_none rfl ?_
    go_simp
    exact hK _ rfl
  · intro q9 a w E hC K hK
    obtain ⟨_, h110, rfl⟩ := E.pred 2 _ 110 rfl rfl (by kernel_rfl)
    refine want_none rfl ?_
    have hh := hC.1.heap H4.out (by simp)
    have c9 := cell_of hh 1
    have cl := lt_of_heap hh
    clear hh
    go_simp
    exact hK _ rfl
  · intro q9 a w E hC K hK
    have h0 : a.tmps[0]? = some (.pointer (some ⟨g, 0, none⟩)) := (E.out 0 (by kernel_rfl)).trans rfl
    refine want_none rfl ?_
    go_simp
    exact hK _ rfl
  · intro q9 a w E hC K hK
    obtain ⟨_, h112, rfl⟩ := E.pred 4 _ 112 rfl rfl (by kernel_rfl)
    refine want_none rfl ?_
    have cl := lt_of_heap H4.out
    go_simp
    exact hK _ rfl
  · intro q9 a w E hC K hK
    obtain ⟨_, h113, rfl⟩ := E.pred 5 _ 113 rfl rfl (by kernel_rfl)
    refine want_none rfl ?_
    go_simp
    exact hK _ rfl
  · intro q9 a w E hC K hK
    obtain ⟨_, h114, rfl⟩ := E.pred 6 _ 114 rfl rfl (by kernel_rfl)
    refine want_none rfl ?_
    have hh := hC.1.heap H4.out (by simp)
    have c9 := cell_of hh 3
    have cl := lt_of_heap hh
    clear hh
    go_simp
    exact hK _ rfl
  · intro q9 a w E hC K hK
    obtain ⟨_, h111, rfl⟩ := E.pred 3 _ 111 rfl rfl (by kernel_rfl)
    obtain ⟨_, h115, rfl⟩ := E.pred 7 _ 115 rfl rfl (by kernel_rfl)
    refine want_none rfl ?_
    go_simp
    exact hK _ rfl
  · intro q9 a w E hC K hK
    refine want_none rfl ?_
    have hk := E.lim 0 10 _ rfl rfl (by kernel_rfl)
    go_simp
    exact hK _ _ ⟨w.heap.size, rfl, hC.1.size, fun _ => hp_new _ _ _ rfl⟩ ⟨hC.1.alloc _, fun h => by omega⟩ ((Kp.refl [] w).alloc _)
  · intro a w E hC K hK
    obtain ⟨v9, h7, V9⟩ := E.pred 9 _ 7 rfl rfl (by kernel_rfl)
    replace V9 : (fun p v w => ∃ b : Nat, v = .pointer (some ⟨b, 0, none⟩) ∧ w4.heap.size ≤ b ∧ (p ≤ 0 → w.heap[b]? = some (.cells #[.int .i64 0, .int .i64 0, .int .i64 0, .slice none 0 0, .int .i64 0, .int .u32 0, .int .i64 0, .int .i64 0, .int .i64 0, .bool false, .int .i64 0, .slice none 0 0] 34))) 0 v9 w := V9
    obtain ⟨b9, rfl, hl9, hG9⟩ := V9
    obtain ⟨_, h116, rfl⟩ := E.pred 8 _ 116 rfl rfl (by kernel_rfl)
    refine want_none rfl ?_
    have hz := hG9 (by omega)
    have HZ := Lib.hid hz
    obtain ⟨q0, q1, q2, q3, q4, q5, q6, q7, q8, q9, q10, q11, qz, qlt, qlt2⟩ := jcellsF hz
    clear hz hG9
    go_simp
    generalize hW : World.setCell _ _ _ = w2
    obtain ⟨hs1, hs2⟩ : w2.heap[b9]? = some (.cells #[.int .i64 1, .int .i64 4, .int .i64 fst, .slice A' pn c', .int .i64 0, .int .u32 0, .int .i64 0, .int .i64 0, .int .i64 0, .bool false, .int .i64 0, .slice none 0 0] 34) ∧ Kp [b9] w w2 := by rw [← hW]; exact jset12 HZ.out
    exact hK undef _ trivial ⟨hC.1.then hs2 (by simp; omega), fun _ => ⟨b9, h7, hl9, hs1⟩⟩ trivial
  intro vs w5 hC hV
  obtain ⟨bn, e9, hln, hf9⟩ := hC.2 (by simp)
  have e9v : vs 9 = .pointer (some ⟨bn, 0, none⟩) := by
    simp only [putAll, Act.put, List.setIfInBounds_toArray, Nat.zero_add, Nat.reduceAdd] at e9
    dsimp only [List.set] at e9
    simpa using e9
  have HW5 := Lib.hid hf9
  have H5 := Lib.hid (hC.1.heap H4.out (by simp))
  have HF5 := Lib.hid (hC.1.heap HF4.out (by simp))
  have HX5 := Lib.hid (hC.1.heap HX4.out (by simp))
  have K5 := Lib.hid (K4.out.trans hC.1.nil)
  have HO5 := Lib.hid (HO4.out.keep hC.1 (by simp))
  have hbn : bx + 1 + 1 < bn := by have := lt_of_heap HX4.out; omega
  have hA9 := Lib.hid (show ∀ t, t ∈ ob A' → t < bn from fun t ht => by have := HO4.out.base t ht; omega)
  clear hV hC e9 hf9 H4 HB4 HF4 HX4 K4 HO4 c0 c1 c2 c3 cz cl b0 b1 b2 b3 b4 b5 b6 b7 b8 b9 b10 b11 bz blt blt2 q0 q1 q2 q3 q4 q5 q6 q7 q8 q9 q10 q11 qz qlt qlt2 x0 x1 x2 xz xl
  simp only [putAll, Act.put, List.setIfInBounds_toArray, Nat.zero_add, Nat.reduceAdd]
  dsimp only [List.set]
  rw [e9v]
  have c0 := cell_of H5.out 0
  have c1 := cell_of H5.out 1
  have c2 := cell_of H5.out 2
  have c3 := cell_of H5.out 3
  have cz := frozen_of H5.out
  have cl := lt_of_heap H5.out
  obtain ⟨q0, q1, q2, q3, q4, q5, q6, q7, q8, q9, q10, q11, qz, qlt, qlt2⟩ := jcellsF HF5.out
  have x0 := cell_of HX5.out 0
  have x1 := cell_of HX5.out 1
  have x2 := cell_of HX5.out 2
  have xz := frozen_of HX5.out
  have xl := lt_of_heap HX5.out
  obtain ⟨b0, b1, b2, b3, b4, b5, b6, b7, b8, b9, b10, b11, bz, blt, blt2⟩ := jcellsF HW5.out
  go_wp2
  generalize hV : World.setCell (World.setCell (World.setCell w5 ⟨g, 1, none⟩ (.int .i64 0)) ⟨g, 2, none⟩ (.bool false)) ⟨g, 3, none⟩ (.slice none 0 0) = w6
  have K56 : Kp [g, bn] w5 w6 := by rw [← hV]; exact ((((Kp.refl [g, bn] w5).setCell (.inl (by simp)) _).setCell (.inl (by simp)) _).setCell (.inl (by simp)) _)
  have H6 := Lib.hid (show w6.heap[g]? = some (.cells #[.int .i64 most, .int .i64 0, .bool false, .slice none 0 0] 42) by rw [← hV]; exact hp_set _ _ _ _ _ _ (hp_set _ _ _ _ _ _ (hp_set _ _ _ _ _ _ H5.out)))
  have HF6 := Lib.hid (K56.heap HF5.out (by simp; omega))
  have HX6 := Lib.hid (K56.heap HX5.out (by simp; omega))
  have HO6 := Lib.hid (HO5.out.keep K56 (fun b hb hs => by have := hA9.out b hb; simp at hs; rcases hs with e | e; subst e; exact g4 hb; omega))
  have K6 := Lib.hid (K5.out.then K56 (by intro t ht; simp at ht; rcases ht with e | e; left; simp [e]; right; have := HWB.out; omega))
  clear hV K56 H5 HF5 HX5 HO5 K5
  generalize hW : World.setCell _ _ _ = W
  obtain ⟨HF9, HX9, K9⟩ : W.heap[(bx + 1)]? = some (.cells #[.int .i64 1, .int .i64 4, .int .i64 fst, .slice A' pn c', .int .i64 0, .int .u32 0, .int .i64 0, .int .i64 0, .int .i64 0, .bool false, .int .i64 0, .slice none 0 0] 34) ∧ W.heap[(bx + 1 + 1)]? = some (.cells #[.bool false, .int .i64 0, .int .i64 0] 36) ∧ Kp [(bx + 1), (bx + 1 + 1)] w6 W := by rw [← hW]; exact jset15 (by omega) HF6.out HX6.out
  refine bodyPost_ret (v := .tuple #[.agg #[.int .i64 1, .int .i64 4, .int .i64 fst, .slice A' pn c', .int .i64 0, .int .u32 0, .int .i64 0, .int .i64 0, .int .i64 0, .bool false, .int .i64 0, .slice none 0 0], .bool true, .agg #[.bool false, .int .i64 0, .int .i64 0]]) (by simp [results, Try.results7, go_sem, cell_of HF9, cell_of HX9]) rfl ⟨A', c', rfl, K9.heap H6.out (by simp; omega), (HO6.out.keep K9 (fun b hb hs => by have := NEW4.out b hb; simp at hs; omega)), ⟨g4, STR4.out⟩, K6.out.then K9 (by intro t ht; simp at ht; right; have := HWB.out; omega)⟩
set_option maxHeartbeats 8000000 in
set_option maxRecDepth 100000 in
theorem RIn_wholeH1 (g : Nat) (f : Fr) (F : Nat) (w : World) (most : Nat) (st : Int) (en : Bool) (A : Option Addr) (n c base : Nat) (l lf : List UInt8) (h : w.heap[g]? = some (.cells #[.int .i64 most, .int .i64 st, .bool en, .slice A n c] 42)) (hfl : f.fl = (F : Int)) (hF : F ≤ 9223372036854775807) (hm : most ≤ 65536) (hn : n ≤ most) (hpn : f.pn ≤ 140737488351232) (hc : 0 + f.pn ≤ most) (hbs : base ≤ w.heap.size) (ho : Ow w base 5 1 A n c (l.map u8)) (hga : g ∉ ob A) (hrf : Rd w f.pA f.pn f.pc lf) (hfo : 0 < f.pn → ∀ b, b ∈ ob f.pA → b ≠ g) (hr : F / 4 % 2 = 1) (hst : st = 0) (h1 : f.ty = 1) (hz : F % 2 = 1) : Calls Try.prog 7 #[.pointer (some ⟨g, 0, none⟩), .agg #[.int .i64 f.ty, .int .i64 f.fl, .int .i64 f.st, .slice f.pA f.pn f.pc, .int .i64 f.pad, .int .u32 f.code, .int .i64 f.last, .int .i64 f.inc, .int .i64 f.dep, .bool f.only, .int .i64 f.wt, .slice f.sA f.sn f.sc]] w (fun e w' => ∃ A' c', e = .returned (.tuple #[.agg #[.int .i64 1, .int .i64 5, .int .i64 f.st, .slice A' f.pn c', .int .i64 0, .int .u32 0, .int .i64 0, .int .i64 0, .int .i64 0, .bool false, .int .i64 0, .slice none 0 0], .bool true, .agg #[.bool false, .int .i64 0, .int .i64 0]]) ∧ w'.heap[g]? = some (.cells #[.int .i64 most, .int .i64 0, .bool false, .slice none 0 0] 42) ∧ Ow w' base 5 1 A' f.pn c' (([] ++ lf).map u8) ∧ (g ∉ ob A' ∧ ∀ b, b ∈ ob A' → b ∈ ob A ∨ w.heap.size ≤ b) ∧ Kp (g :: ob A) w w') := by
  have HO := Lib.hid (show Ow w base 5 1 none 0 0 (([]).map u8) from Ow.nil _ _ _ _)
  have HR := Lib.hid hrf
  have HBS' := Lib.hid hbs
  have HGA := Lib.hid (show g ∉ ob none from by simp [ob])
  have HAB' := Lib.hid (show ∀ t, t ∈ ob none → t < w.heap.size from by simp [ob])
  clear hrf hbs ho hga
  have hl := lt_of_heap h
  have HH := Lib.hid h
  clear h
  obtain ⟨ty, fl, fst, pA, pn, pc, pad, code, last, inc, dep, only, wt, sA, sn, sc⟩ := f
  dsimp only at HR
  dsimp only at *
  subst hfl
  have est0 : (st == 0) = true := by simp; omega
  have nst0 : (st != 0) = false := by simp; omega
  have ety9 : (ty == 9) = false := by simp; omega
  have nty9 : (ty != 9) = true := by simp; omega
  have ety1 : (ty == 1) = true := by simp; omega
  have nty1 : (ty != 1) = false := by simp; omega
  have hz1 : ((F : Int).tmod 2) = 1 := by rw [show ((F : Int).tmod 2) = ((F % 2 : Nat) : Int) by simp [Int.tmod], hz]; rfl
  have hz2 : ((F : Int) % 2) = 1 := by omega
  have hmi : (most : Int) ≤ 65536 := by omega
  have hni : (n : Int) ≤ (most : Int) := by omega
  have hw : IntKind.i64.wrap ((most : Int) - (0 : Int)) = (most : Int) - (0 : Int) := by apply IntWalk.i64_in; omega
  have hci : ¬ (most : Int) - (0 : Int) < (pn : Int) := by omega
  have hcj : (pn : Int) ≤ (most : Int) - (0 : Int) := by omega
  obtain ⟨Q, hQ⟩ : ∃ Q : Nat, F / 4 = Q := ⟨_, rfl⟩
  rw [hQ] at hr
  have hq1 : ((F : Int).tdiv 4) = (Q : Int) := by rw [← hQ]; simp [Int.tdiv]
  have hq2 : ((F : Int) / 4) = (Q : Int) := by omega
  have hqb : (Q : Int) ≤ 9223372036854775807 := by omega
  have hr1 : ((Q : Int).tmod 2) = 1 := by rw [show ((Q : Int).tmod 2) = ((Q % 2 : Nat) : Int) by simp [Int.tmod], hr]; rfl
  have hr2 : ((Q : Int) % 2) = 1 := by omega
  clear hQ hr
  clear hst h1 hz
  go_enter Try.func7, Try.ntmps7
  go_wp2
  generalize hW : World.alloc _ _ = w1
  have K1 : Kp [] w w1 := by rw [← hW]; (repeat (first | with_reducible exact Kp.refl _ _ | with_reducible assumption | with_reducible refine Kp.alloc ?_ _ | with_reducible refine Kp.drew ?_ | with_reducible refine Kp.drewN ?_ _ | (with_reducible refine Kp.setL ?_ ?_ _; focus (simp; done)) | (with_reducible refine Kp.setR ?_ ?_ _; focus (simp; done)) | (with_reducible refine Kp.setR ?_ ?_ _; focus (simp; omega))))
  have HB := Lib.hid (show w1.heap[w.heap.size]? = some (.cells #[.int .i64 ty, .int .i64 (F : Int), .int .i64 fst, .slice pA pn pc, .int .i64 pad, .int .u32 code, .int .i64 last, .int .i64 inc, .int .i64 dep, .bool only, .int .i64 wt, .slice sA sn sc] 34) by rw [← hW]; (repeat (first | with_reducible assumption | (with_reducible refine hp_new _ _ _ ?_; focus (simp; done)) | (with_reducible refine (hp_old _ _ _ ?_).trans ?_; focus (first | omega | (simp; done) | (simp; omega))) | (with_reducible refine (hp_far _ _ _ _ ?_).trans ?_; focus (first | (simp; done) | (simp; omega))) | (with_reducible refine (hp_drew _ _).trans ?_) | (with_reducible refine (hp_drewN _ _ _).trans ?_))))
  have HF := Lib.hid (show w1.heap[w.heap.size + 1]? = some (.cells #[.int .i64 0, .int .i64 0, .int .i64 0, .slice none 0 0, .int .i64 0, .int .u32 0, .int .i64 0, .int .i64 0, .int .i64 0, .bool false, .int .i64 0, .slice none 0 0] 34) by rw [← hW]; (repeat (first | with_reducible assumption | (with_reducible refine hp_new _ _ _ ?_; focus (simp; done)) | (with_reducible refine (hp_old _ _ _ ?_).trans ?_; focus (first | omega | (simp; done) | (simp; omega))) | (with_reducible refine (hp_far _ _ _ _ ?_).trans ?_; focus (first | (simp; done) | (simp; omega))) | (with_reducible refine (hp_drew _ _).trans ?_) | (with_reducible refine (hp_drewN _ _ _).trans ?_))))
  have HX := Lib.hid (show w1.heap[w.heap.size + 1 + 1]? = some (.cells #[.bool false, .int .i64 0, .int .i64 0] 36) by rw [← hW]; (repeat (first | with_reducible assumption | (with_reducible refine hp_new _ _ _ ?_; focus (simp; done)) | (with_reducible refine (hp_old _ _ _ ?_).trans ?_; focus (first | omega | (simp; done) | (simp; omega))) | (with_reducible refine (hp_far _ _ _ _ ?_).trans ?_; focus (first | (simp; done) | (simp; omega))) | (with_reducible refine (hp_drew _ _).trans ?_) | (with_reducible refine (hp_drewN _ _ _).trans ?_))))
  have H1 := Lib.hid (K1.heap HH.out (by simp))
  clear hW HH
  have c0 := cell_of H1.out 0
  have c1 := cell_of H1.out 1
  have c2 := cell_of H1.out 2
  have c3 := cell_of H1.out 3
  have cz := frozen_of H1.out
  have cl := lt_of_heap H1.out
  obtain ⟨b0, b1, b2, b3, b4, b5, b6, b7, b8, b9, b10, b11, bz, blt, blt2⟩ := jcellsF HB.out
  obtain ⟨q0, q1, q2, q3, q4, q5, q6, q7, q8, q9, q10, q11, qz, qlt, qlt2⟩ := jcellsF HF.out
  have x0 := cell_of HX.out 0
  have x1 := cell_of HX.out 1
  have x2 := cell_of HX.out 2
  have xz := frozen_of HX.out
  have xl := lt_of_heap HX.out
  go_region
  go_wp2
  generalize hW : World.setCell _ _ _ = w2
  have K12 : Kp [g] w1 w2 := by rw [← hW]; exact (((Kp.refl _ _).setCell (.inl (by simp)) _).setCell (.inl (by simp)) _).setCell (.inl (by simp)) _
  have H2' : w2.heap[g]? = some (.cells #[.int .i64 most, .int .i64 fst, .bool true, .slice none 0 0] 42) := by rw [← hW]; exact hp_set _ _ _ _ _ _ (hp_set _ _ _ _ _ _ (hp_set _ _ _ _ _ _ H1.out))
  have H2 := Lib.hid (show w2.drew.heap[g]? = _ from H2')
  have HB2 := Lib.hid (show w2.drew.heap[w.heap.size]? = _ from K12.heap HB.out (by simp; omega))
  have HF2 := Lib.hid (show w2.drew.heap[w.heap.size + 1]? = _ from K12.heap HF.out (by simp; omega))
  have HX2 := Lib.hid (show w2.drew.heap[w.heap.size + 1 + 1]? = _ from K12.heap HX.out (by simp; omega))
  have K2 := Lib.hid (K1.nil.trans K12.drew)
  clear hW K12 H2' HB HF HX H1 K1 c0 c1 c2 c3 cz cl b0 b1 b2 b3 b4 b5 b6 b7 b8 b9 b10 b11 bz blt blt2 q0 q1 q2 q3 q4 q5 q6 q7 q8 q9 q10 q11 qz qlt qlt2 x0 x1 x2 xz xl
  generalize w2.drew = w2 at *
  have c0 := cell_of H2.out 0
  have c1 := cell_of H2.out 1
  have c2 := cell_of H2.out 2
  have c3 := cell_of H2.out 3
  have cz := frozen_of H2.out
  have cl := lt_of_heap H2.out
  obtain ⟨b0, b1, b2, b3, b4, b5, b6, b7, b8, b9, b10, b11, bz, blt, blt2⟩ := jcellsF HB2.out
  obtain ⟨q0, q1, q2, q3, q4, q5, q6, q7, q8, q9, q10, q11, qz, qlt, qlt2⟩ := jcellsF HF2.out
  have x0 := cell_of HX2.out 0
  have x1 := cell_of HX2.out 1
  have x2 := cell_of HX2.out 2
  have xz := frozen_of HX2.out
  have xl := lt_of_heap HX2.out
  go_region
  go_wp2
  have H3 := Lib.hid (show w2.drew.heap[g]? = _ from H2.out)
  have HB3 := Lib.hid (show w2.drew.heap[w.heap.size]? = _ from HB2.out)
  have HF3 := Lib.hid (show w2.drew.heap[w.heap.size + 1]? = _ from HF2.out)
  have HX3 := Lib.hid (show w2.drew.heap[w.heap.size + 1 + 1]? = _ from HX2.out)
  have K3 := Lib.hid (show Kp [g] w w2.drew from K2.out.drew)
  clear HB2 HF2 HX2 H2 K2 c0 c1 c2 c3 cz cl b0 b1 b2 b3 b4 b5 b6 b7 b8 b9 b10 b11 bz blt blt2 q0 q1 q2 q3 q4 q5 q6 q7 q8 q9 q10 q11 qz qlt qlt2 x0 x1 x2 xz xl
  generalize w2.drew = w3 at *
  have HO3 := Lib.hid (HO.out.keep K3.out (fun b hb hs => by simp at hs; subst hs; exact HGA.out hb))
  have HR3 := Lib.hid (HR.out.keep K3.out (fun hn b hb hs => by simp at hs; subst hs; exact hfo hn _ hb rfl))
  have HL3 := Lib.hid H3.out
  obtain ⟨bx, hbx⟩ : ∃ bx, w.heap.size = bx := ⟨_, rfl⟩
  have HAB := Lib.hid (show ∀ t, t ∈ ob none → t < bx by rw [← hbx]; exact HAB'.out)
  have HBS := Lib.hid (show base ≤ w3.heap.size from Nat.le_trans HBS'.out K3.out.size)
  have HWB := Lib.hid hbx
  have hlb : g < bx := by omega
  rw [hbx] at HB3 HF3 HX3 ⊢
  clear hbx hl
  refine wp_region_st3 (by kernel_rfl) [fun _ v _ => v = (.pointer (some ⟨g, 0, none⟩)),
      fun _ v _ => v = (.pointer (some ⟨g, 0, none⟩)),
      fun _ v _ => v = (.pointer (some ⟨g, 0, none⟩)),
      fun _ v _ => v = (.pointer (some ⟨g, 3, none⟩)),
      fun _ v _ => v = (.slice none 0 0),
      fun _ v _ => v = (.pointer (some ⟨bx, 3, none⟩)),
      fun _ v _ => v = (.slice pA pn pc),
      fun p v w => ∃ x : Option Addr × Nat × Nat, v = .slice x.1 x.2.1 x.2.2 ∧ 1 ≤ p ∧ (p ≤ 1 → Ow w (base) 5 1 x.1 x.2.1 x.2.2 (([] ++ lf).map u8) ∧ x.2.1 = pn ∧ g ∉ ob x.1 ∧ (∀ t, t ∈ ob x.1 → t ∈ ob none ∨ bx + 1 + 1 < t)),
      fun _ v _ => v = (.pointer (some ⟨g, 0, none⟩)),
      fun _ v _ => v = (.pointer (some ⟨g, 3, none⟩)),
      fun _ v _ => True] (fun p w => (p = 0 → Kp [] w3 w) ∧ (p ≤ 1 → w.heap[g]? = some (.cells #[.int .i64 most, .int .i64 fst, .bool true, .slice none 0 0] 42)) ∧ w.heap[bx]? = some (.cells #[.int .i64 ty, .int .i64 (F : Int), .int .i64 fst, .slice pA pn pc, .int .i64 pad, .int .u32 code, .int .i64 last, .int .i64 inc, .int .i64 dep, .bool only, .int .i64 wt, .slice sA sn sc] 34) ∧ w.heap[bx + 1]? = some (.cells #[.int .i64 0, .int .i64 0, .int .i64 0, .slice none 0 0, .int .i64 0, .int .u32 0, .int .i64 0, .int .i64 0, .int .i64 0, .bool false, .int .i64 0, .slice none 0 0] 34) ∧ w.heap[bx + 1 + 1]? = some (.cells #[.bool false, .int .i64 0, .int .i64 0] 36) ∧ Kp (g :: ob none) w3 w ∧ (2 ≤ p → ∃ (A' : Option Addr) (c' : Nat), w.heap[g]? = some (.cells #[.int .i64 most, .int .i64 fst, .bool true, .slice A' pn c'] 42) ∧ Ow w base 5 1 A' pn c' (([] ++ lf).map u8) ∧ g ∉ ob A' ∧ (∀ t, t ∈ ob A' → t ∈ ob none ∨ bx + 1 + 1 < t))) (fun p w w' => p < 0 → Kp [] w w') (fun w w' => Kp [] w w') [7, 10] [] (by kernel_rfl) (by kernel_rfl) (by kernel_rfl) (by decide) (by kernel_rfl) ⟨StabAt2.const _, StabAt2.const _, StabAt2.const _, StabAt2.const _, StabAt2.const _, StabAt2.const _, StabAt2.const _, StabAt2.span (f := fun x : Option Addr × Nat × Nat => .slice x.1 x.2.1 x.2.2) (by intro p x w w' h1 h2 h3 hR hG; have K := hR; exact ⟨hG.1.keep (K (by omega)) (by simp), hG.2⟩) (by intro x w w' hR hG; have K := hR; exact ⟨hG.1.keep K (by simp), hG.2⟩), StabAt2.const _, StabAt2.const _, StabAt2.const _, trivial⟩ (⟨fun _ => (Kp.refl _ _).drew, fun _ => H3.out, HB3.out, HF3.out, HX3.out, (Kp.refl _ _).drew, fun h => by omega⟩) ⟨?_, ?_, ?_, ?_, ?_, ?_, ?_, ?_, ?_, ?_, ?_, trivial⟩ (by kernel_rfl) ?_
  · intro q9 a w E hC K hK
    have h0 : a.tmps[0]? = some (.pointer (some ⟨g, 0, none⟩)) := (E.out 0 (by kernel_rfl)).trans rfl
    refine want_none rfl ?_
    go_simp
    exact hK _ rfl
  · intro q9 a w E hC K hK
    have h0 : a.tmps[0]? = some (.pointer (some ⟨g, 0, none⟩)) := (E.out 0 (by kernel_rfl)).trans rfl
    refine want_none rfl ?_
    go_simp
    exact hK _ rfl
  · intro q9 a w E hC K hK
    obtain ⟨_, h92, rfl⟩ := E.pred 1 _ 92 rfl rfl (by kernel_rfl)
    refine want_none rfl ?_
    have cl := lt_of_heap HL3.out
    go_simp
    exact hK _ rfl
  · intro q9 a w E hC K hK
    obtain ⟨_, h93, rfl⟩ := E.pred 2 _ 93 rfl rfl (by kernel_rfl)
    refine want_none rfl ?_
    go_simp
    exact hK _ rfl
  · intro q9 a w E hC K hK
    obtain ⟨_, h94, rfl⟩ := E.pred 3 _ 94 rfl rfl (by kernel_rfl)
    refine want_none rfl ?_
    have hk := E.lim 1 10 _ rfl rfl (by kernel_rfl)
    have hh := hC.2.1 (by omega)
    have c3 := cell_of hh 3
    have cl := lt_of_heap hh
    clear hh hk
    go_simp
    exact hK _ rfl
  · intro q9 a w E hC K hK
    have h3 : a.tmps[3]? = some (.pointer (some ⟨bx, 0, none⟩)) := (E.out 3 (by kernel_rfl)).trans rfl
    refine want_none rfl ?_
    go_simp
    exact hK _ rfl
  · intro q9 a w E hC K hK
    obtain ⟨_, h96, rfl⟩ := E.pred 5 _ 96 rfl rfl (by kernel_rfl)
    refine want_none rfl ?_
    have hb := hC.2.2.1
    have b3 := cell_of hb 3
    have bl := lt_of_heap hb
    clear hb
    go_simp
    exact hK _ rfl
  · intro a w E hC K hK
    obtain ⟨_, h95, rfl⟩ := E.pred 4 _ 95 rfl rfl (by kernel_rfl)
    obtain ⟨_, h97, rfl⟩ := E.pred 6 _ 97 rfl rfl (by kernel_rfl)
    refine want_none rfl ?_
    have K0 := hC.1 rfl
    refine op_appO (.tmp 95) (.tmp 97) 30 5 rfl Try.underlying30 Try.info5 base none 0 0 [] (eval_tmp h95) (HO3.out.keep K0 (by simp)) pA pn pc lf (eval_tmp h97) (HR3.out.keep K0 (by simp)) (by omega) (by have := K0.size; have := HBS.out; omega) ?_
    intro A' c' w2 O K2 hA2
    have hgA : g ∉ ob A' := by
        rcases hA2 with e | e
        · rw [e]; exact HGA.out
        · rw [e]; simp [ob]; have := lt_of_heap (hC.2.1 (by omega)); omega
    have hAB2 : ∀ t, t ∈ ob A' → t ∈ ob none ∨ bx + 1 + 1 < t := by
        intro t ht
        rcases hA2 with e | e
        · rw [e] at ht; exact .inl ht
        · rw [e] at ht; simp [ob] at ht; have := lt_of_heap hC.2.2.2.2.1; exact .inr (by omega)
    have hs : ∀ t, t ∈ ob none → t < bx := HAB.out
    exact hK _ _ ⟨⟨A', _, c'⟩, rfl, by omega, fun _ => ⟨O, by simp, hgA, hAB2⟩⟩ ⟨fun h => by omega, fun _ => K2.heap (hC.2.1 (by omega)) HGA.out, K2.heap hC.2.2.1 (fun h => by have := hs _ h; omega), K2.heap hC.2.2.2.1 (fun h => by have := hs _ h; omega), K2.heap hC.2.2.2.2.1 (fun h => by have := hs _ h; omega), hC.2.2.2.2.2.1.trans (K2.mono (fun s h => .inl (List.mem_cons_of_mem _ h))), fun h => by omega⟩ (fun h => by omega)
  · intro q9 a w E hC K hK
    obtain ⟨_, h91, rfl⟩ := E.pred 0 _ 91 rfl rfl (by kernel_rfl)
    refine want_none rfl ?_
    have cl := lt_of_heap HL3.out
    go_simp
    exact hK _ rfl
  · intro q9 a w E hC K hK
    obtain ⟨_, h99, rfl⟩ := E.pred 8 _ 99 rfl rfl (by kernel_rfl)
    refine want_none rfl ?_
    go_simp
    exact hK _ rfl
  · intro a w E hC K hK
    obtain ⟨_, h100, rfl⟩ := E.pred 9 _ 100 rfl rfl (by kernel_rfl)
    obtain ⟨v7, h98, V7⟩ := E.pred 7 _ 98 rfl rfl (by kernel_rfl)
    replace V7 : (fun p v w => ∃ x : Option Addr × Nat × Nat, v = .slice x.1 x.2.1 x.2.2 ∧ 1 ≤ p ∧ (p ≤ 1 → Ow w (base) 5 1 x.1 x.2.1 x.2.2 (([] ++ lf).map u8) ∧ x.2.1 = pn ∧ g ∉ ob x.1 ∧ (∀ t, t ∈ ob x.1 → t ∈ ob none ∨ bx + 1 + 1 < t))) 1 v7 w := V7
    refine want_none rfl ?_
    obtain ⟨⟨A7, n7, c7⟩, rfl, _, G7⟩ := V7
    obtain ⟨O7, e7, hg7, hn7⟩ := G7 (by omega)
    dsimp only at O7 e7 hg7 hn7
    subst n7
    have hh := hC.2.1 (by omega)
    have c3 := cell_of hh 3
    have cz := frozen_of hh
    have cl := lt_of_heap hh
    have HH := Lib.hid hh
    have HO7 := Lib.hid O7
    clear hh O7
    go_simp
    have KS : Kp [g] w (w.setCell ⟨g, 3, none⟩ (.slice A7 pn c7)) := (Kp.refl [g] w).setCell (.inl (by simp)) _
    exact hK undef _ trivial ⟨fun h => by omega, fun h => by omega, KS.heap hC.2.2.1 (by simp; omega), KS.heap hC.2.2.2.1 (by simp; omega), KS.heap hC.2.2.2.2.1 (by simp; omega), hC.2.2.2.2.2.1.trans (KS.mono (by simp)), fun _ => ⟨A7, c7, hp_set _ _ _ _ _ _ HH.out, HO7.out.keep KS (fun b hb hs => by simp at hs; subst hs; exact hg7 hb), hg7, hn7⟩⟩ (fun h => by omega)
  intro vs w4 hC hV
  obtain ⟨A', c', h4, o4, g4, n4⟩ := hC.2.2.2.2.2.2 (by simp)
  have H4 := Lib.hid h4
  have NEW4 := Lib.hid (show ∀ t, t ∈ ob A' → t < bx ∨ bx + 1 + 1 < t from fun t ht => (n4 t ht).imp_left (HAB.out t))
  have STR4 := Lib.hid (show ∀ t, t ∈ ob A' → t ∈ ob A ∨ w.heap.size ≤ t from fun t ht => (n4 t ht).elim (fun h => by simp [ob] at h) (fun h => .inr (by have := HWB.out; omega)))
  have HB4 := Lib.hid hC.2.2.1
  have HF4 := Lib.hid hC.2.2.2.1
  have HX4 := Lib.hid hC.2.2.2.2.1
  have K4 := Lib.hid (show Kp (g :: ob A) w w4 from (K3.out.mono (fun s hs => .inl (by simp at hs; simp [hs]))).trans (hC.2.2.2.2.2.1.mono (fun s hs => .inl (by simp [ob] at hs; simp [hs]))))
  have HO4 := Lib.hid o4
  clear hV hC h4 o4 n4 H3 HB3 HF3 HX3 K3 HO HR HO3 HR3 HL3 HBS HBS'
  simp only [putAll, Act.put, List.setIfInBounds_toArray, Nat.zero_add, Nat.reduceAdd]
  dsimp only [List.set]
  have c0 := cell_of H4.out 0
  have c1 := cell_of H4.out 1
  have c2 := cell_of H4.out 2
  have c3 := cell_of H4.out 3
  have cz := frozen_of H4.out
  have cl := lt_of_heap H4.out
  obtain ⟨b0, b1, b2, b3, b4, b5, b6, b7, b8, b9, b10, b11, bz, blt, blt2⟩ := jcellsF HB4.out
  obtain ⟨q0, q1, q2, q3, q4, q5, q6, q7, q8, q9, q10, q11, qz, qlt, qlt2⟩ := jcellsF HF4.out
  have x0 := cell_of HX4.out 0
  have x1 := cell_of HX4.out 1
  have x2 := cell_of HX4.out 2
  have xz := frozen_of HX4.out
  have xl := lt_of_heap HX4.out
  go_wp2
  refine wp_region_st4 (by kernel_rfl) [fun _ v _ => v = (.pointer (some ⟨g, 0, none⟩)),
      fun _ v _ => v = (.pointer (some ⟨g, 0, none⟩)),
      fun _ v _ => v = (.pointer (some ⟨g, 1, none⟩)),
      fun _ v _ => v = (.int .i64 fst),
      fun _ v _ => v = (.pointer (some ⟨g, 0, none⟩)),
      fun _ v _ => v = (.pointer (some ⟨g, 0, none⟩)),
      fun _ v _ => v = (.pointer (some ⟨g, 3, none⟩)),
      fun _ v _ => v = (.slice A' pn c'),
      fun _ v _ => v = (.agg #[.int .i64 1, .int .i64 4, .int .i64 fst, .slice A' pn c', .int .i64 0, .int .u32 0, .int .i64 0, .int .i64 0, .int .i64 0, .bool false, .int .i64 0, .slice none 0 0]),
      fun p v w => ∃ b : Nat, v = .pointer (some ⟨b, 0, none⟩) ∧ w4.heap.size ≤ b ∧ (p ≤ 0 → w.heap[b]? = some (.cells #[.int .i64 0, .int .i64 0, .int .i64 0, .slice none 0 0, .int .i64 0, .int .u32 0, .int .i64 0, .int .i64 0, .int .i64 0, .bool false, .int .i64 0, .slice none 0 0] 34)),
      fun _ v _ => True] (fun p a w => Kp [] w4 w ∧ (1 ≤ p → ∃ b, a.tmps[7]? = some (.pointer (some ⟨b, 0, none⟩)) ∧ w4.heap.size ≤ b ∧ w.heap[b]? = some (.cells #[.int .i64 1, .int .i64 4, .int .i64 fst, .slice A' pn c', .int .i64 0, .int .u32 0, .int .i64 0, .int .i64 0, .int .i64 0, .bool false, .int .i64 0, .slice none 0 0] 34))) (fun _ _ _ => True) (fun w w' => Kp [] w w') [10] [9] (by kernel_rfl) (by kernel_rfl) (by kernel_rfl) [7] (fun k a a' w ht h => by have e7 := ht 7 (by simp); rw [e7]; exact h) (by kernel_rfl) (by decide) (by kernel_rfl) ⟨StabAt2.const _, StabAt2.const _, StabAt2.const _, StabAt2.const _, StabAt2.const _, StabAt2.const _, StabAt2.const _, StabAt2.const _, StabAt2.const _, ⟨fun p v w w' h1 h2 hR ⟨b, e, h, hz⟩ => ⟨b, e, h, fun hp => by omega⟩, fun k v w w' hR ⟨b, e, h, hz⟩ => ⟨b, e, h, fun hp => hR.heap (hz hp) (by simp)⟩⟩, StabAt2.const _, trivial⟩ (⟨(Kp.refl _ _).drew, fun h => by omega⟩) ⟨?_, ?_, ?_, ?_, ?_, ?_, ?_, ?_, ?_, ?_, ?_, trivial⟩ (by kernel_rfl) ?_
  · intro q9 a w E hC K hK
    have h0 : a.tmps[0]? = some (.pointer (some ⟨g, 0, none⟩)) := (E.out 0 (by kernel_rfl)).trans rfl
    refine want_none rfl ?_
    go_simp
    exact hK _ rfl
  · intro q9 a w E hC K hK
    obtain ⟨_, h108, rfl⟩ := E.pred 0 _ 108 rfl rfl (by kernel_rfl)
    refine want_none rfl ?_
    have cl := lt_of_heap H4.out
    go_simp
    exact hK _ rfl
  · intro q9 a w E hC K hK
    obtain ⟨_, h109, rfl⟩ := E.pred 1 _ 109 rfl rfl (by kernel_rfl)
    refine want_none rfl ?_
    go_simp
    exact hK _ rfl
  · intro q9 a w E hC K hK
    obtain ⟨_, h110, rfl⟩ := E.pred 2 _ 110 rfl rfl (by kernel_rfl)
    refine want_none rfl ?_
    have hh := hC.1.heap H4.out (by simp)
    have c9 := cell_of hh 1
    have cl := lt_of_heap hh
    clear hh
    go_simp
    exact hK _ rfl
  · intro q9 a w E hC K hK
    have h0 : a.tmps[0]? = some (.pointer (some ⟨g, 0, none⟩)) := (E.out 0 (by kernel_rfl)).trans rfl
    refine want_none rfl ?_
    go_simp
    exact hK _ rfl
  · intro q9 a w E hC K hK
    obtain ⟨_, h112, rfl⟩ := E.pred 4 _ 112 rfl rfl (by kernel_rfl)
    refine want_none rfl ?_
    have cl := lt_of_heap H4.out
    go_simp
    exact hK _ rfl
  · intro q9 a w E hC K hK
    obtain ⟨_, h113, rfl⟩ := E.pred 5 _ 113 rfl rfl (by kernel_rfl)
    refine want_none rfl ?_
    go_simp
    exact hK _ rfl
  · intro q9 a w E hC K hK
    obtain ⟨_, h114, rfl⟩ := E.pred 6 _ 114 rfl rfl (by kernel_rfl)
    refine want_none rfl ?_
    have hh := hC.1.heap H4.out (by simp)
    have c9 := cell_of hh 3
    have cl := lt_of_heap hh
    clear hh
    go_simp
    exact hK _ rfl
  · intro q9 a w E hC K hK
    obtain ⟨_, h111, rfl⟩ := E.pred 3 _ 111 rfl rfl (by kernel_rfl)
    obtain ⟨_, h115, rfl⟩ := E.pred 7 _ 115 rfl rfl (by kernel_rfl)
    refine want_none rfl ?_
    go_simp
    exact hK _ rfl
  · intro q9 a w E hC K hK
    refine want_none rfl ?_
    have hk := E.lim 0 10 _ rfl rfl (by kernel_rfl)
    go_simp
    exact hK _ _ ⟨w.heap.size, rfl, hC.1.size, fun _ => hp_new _ _ _ rfl⟩ ⟨hC.1.alloc _, fun h => by omega⟩ ((Kp.refl [] w).alloc _)
  · intro a w E hC K hK
    obtain ⟨v9, h7, V9⟩ := E.pred 9 _ 7 rfl rfl (by kernel_rfl)
    replace V9 : (fun p v w => ∃ b : Nat, v = .pointer (some ⟨b, 0, none⟩) ∧ w4.heap.size ≤ b ∧ (p ≤ 0 → w.heap[b]? = some (.cells #[.int .i64 0, .int .i64 0, .int .i64 0, .slice none 0 0, .int .i64 0, .int .u32 0, .int .i64 0, .int .i64 0, .int .i64 0, .bool false, .int .i64 0, .slice none 0 0] 34))) 0 v9 w := V9
    obtain ⟨b9, rfl, hl9, hG9⟩ := V9
    obtain ⟨_, h116, rfl⟩ := E.pred 8 _ 116 rfl rfl (by kernel_rfl)
    refine want_none rfl ?_
    have hz := hG9 (by omega)
    have HZ := Lib.hid hz
    obtain ⟨q0, q1, q2, q3, q4, q5, q6, q7, q8, q9, q10, q11, qz, qlt, qlt2⟩ := jcellsF hz
    clear hz hG9
    go_simp
    generalize hW : World.setCell _ _ _ = w2
    obtain ⟨hs1, hs2⟩ : w2.heap[b9]? = some (.cells #[.int .i64 1, .int .i64 4, .int .i64 fst, .slice A' pn c', .int .i64 0, .int .u32 0, .int .i64 0, .int .i64 0, .int .i64 0, .bool false, .int .i64 0, .slice none 0 0] 34) ∧ Kp [b9] w w2 := by rw [← hW]; exact jset12 HZ.out
    exact hK undef _ trivial ⟨hC.1.then hs2 (by simp; omega), fun _ => ⟨b9, h7, hl9, hs1⟩⟩ trivial
  intro vs w5 hC hV
  obtain ⟨bn, e9, hln, hf9⟩ := hC.2 (by simp)
  have e9v : vs 9 = .pointer (some ⟨bn, 0, none⟩) := by
    simp only [putAll, Act.put, List.setIfInBounds_toArray, Nat.zero_add, Nat.reduceAdd] at e9
    dsimp only [List.set] at e9
    simpa using e9
  have HW5 := Lib.hid hf9
  have H5 := Lib.hid (hC.1.heap H4.out (by simp))
  have HF5 := Lib.hid (hC.1.heap HF4.out (by simp))
  have HX5 := Lib.hid (hC.1.heap HX4.out (by simp))
  have K5 := Lib.hid (K4.out.trans hC.1.nil)
  have HO5 := Lib.hid (HO4.out.keep hC.1 (by simp))
  have hbn : bx + 1 + 1 < bn := by have := lt_of_heap HX4.out; omega
  have hA9 := Lib.hid (show ∀ t, t ∈ ob A' → t < bn from fun t ht => by have := HO4.out.base t ht; omega)
  clear hV hC e9 hf9 H4 HB4 HF4 HX4 K4 HO4 c0 c1 c2 c3 cz cl b0 b1 b2 b3 b4 b5 b6 b7 b8 b9 b10 b11 bz blt blt2 q0 q1 q2 q3 q4 q5 q6 q7 q8 q9 q10 q11 qz qlt qlt2 x0 x1 x2 xz xl
  simp only [putAll, Act.put, List.setIfInBounds_toArray, Nat.zero_add, Nat.reduceAdd]
  dsimp only [List.set]
  rw [e9v]
  have c0 := cell_of H5.out 0
  have c1 := cell_of H5.out 1
  have c2 := cell_of H5.out 2
  have c3 := cell_of H5.out 3
  have cz := frozen_of H5.out
  have cl := lt_of_heap H5.out
  obtain ⟨q0, q1, q2, q3, q4, q5, q6, q7, q8, q9, q10, q11, qz, qlt, qlt2⟩ := jcellsF HF5.out
  have x0 := cell_of HX5.out 0
  have x1 := cell_of HX5.out 1
  have x2 := cell_of HX5.out 2
  have xz := frozen_of HX5.out
  have xl := lt_of_heap HX5.out
  obtain ⟨b0, b1, b2, b3, b4, b5, b6, b7, b8, b9, b10, b11, bz, blt, blt2⟩ := jcellsF HW5.out
  go_wp2
  generalize hV : World.setCell (World.setCell (World.setCell (World.setCell w5 ⟨bn, 1, none⟩ (.int .i64 5)) ⟨g, 1, none⟩ (.int .i64 0)) ⟨g, 2, none⟩ (.bool false)) ⟨g, 3, none⟩ (.slice none 0 0) = w6
  have K56 : Kp [g, bn] w5 w6 := by rw [← hV]; exact (((((Kp.refl [g, bn] w5).setCell (.inl (by simp)) _).setCell (.inl (by simp)) _).setCell (.inl (by simp)) _).setCell (.inl (by simp)) _)
  have H6 := Lib.hid (show w6.heap[g]? = some (.cells #[.int .i64 most, .int .i64 0, .bool false, .slice none 0 0] 42) by rw [← hV]; exact hp_set _ _ _ _ _ _ (hp_set _ _ _ _ _ _ (hp_set _ _ _ _ _ _ ((hp_far _ _ _ _ (by simp; omega)).trans H5.out))))
  have HF6 := Lib.hid (K56.heap HF5.out (by simp; omega))
  have HX6 := Lib.hid (K56.heap HX5.out (by simp; omega))
  have HO6 := Lib.hid (HO5.out.keep K56 (fun b hb hs => by have := hA9.out b hb; simp at hs; rcases hs with e | e; subst e; exact g4 hb; omega))
  have K6 := Lib.hid (K5.out.then K56 (by intro t ht; simp at ht; rcases ht with e | e; left; simp [e]; right; have := HWB.out; omega))
  clear hV K56 H5 HF5 HX5 HO5 K5
  generalize hW : World.setCell _ _ _ = W
  obtain ⟨HF9, HX9, K9⟩ : W.heap[(bx + 1)]? = some (.cells #[.int .i64 1, .int .i64 5, .int .i64 fst, .slice A' pn c', .int .i64 0, .int .u32 0, .int .i64 0, .int .i64 0, .int .i64 0, .bool false, .int .i64 0, .slice none 0 0] 34) ∧ W.heap[(bx + 1 + 1)]? = some (.cells #[.bool false, .int .i64 0, .int .i64 0] 36) ∧ Kp [(bx + 1), (bx + 1 + 1)] w6 W := by rw [← hW]; exact jset15 (by omega) HF6.out HX6.out
  refine bodyPost_ret (v := .tuple #[.agg #[.int .i64 1, .int .i64 5, .int .i64 fst, .slice A' pn c', .int .i64 0, .int .u32 0, .int .i64 0, .int .i64 0, .int .i64 0, .bool false, .int .i64 0, .slice none 0 0], .bool true, .agg #[.bool false, .int .i64 0, .int .i64 0]]) (by simp [results, Try.results7, go_sem, cell_of HF9, cell_of HX9]) rfl ⟨A', c', rfl, K9.heap H6.out (by simp; omega), (HO6.out.keep K9 (fun b hb hs => by have := NEW4.out b hb; simp at hs; omega)), ⟨g4, STR4.out⟩, K6.out.then K9 (by intro t ht; simp at ht; right; have := HWB.out; omega)⟩
set_option maxHeartbeats 8000000 in
set_option maxRecDepth 100000 in
theorem RIn_wholeEC (g : Nat) (f : Fr) (F : Nat) (w : World) (most : Nat) (st : Int) (A : Option Addr) (n c base : Nat) (l lf : List UInt8) (h : w.heap[g]? = some (.cells #[.int .i64 most, .int .i64 st, .bool true, .slice A n c] 42)) (hfl : f.fl = (F : Int)) (hF : F ≤ 9223372036854775807) (hm : most ≤ 65536) (hn : n ≤ most) (hpn : f.pn ≤ 140737488351232) (hc : n + f.pn ≤ most) (hbs : base ≤ w.heap.size) (ho : Ow w base 5 1 A n c (l.map u8)) (hga : g ∉ ob A) (hrf : Rd w f.pA f.pn f.pc lf) (hfo : 0 < f.pn → ∀ b, b ∈ ob f.pA → b ≠ g) (hr : F / 4 % 2 = 1) (hst : ¬ st = 0) (h9 : f.ty = 9) (hs : f.st = st) : Calls Try.prog 7 #[.pointer (some ⟨g, 0, none⟩), .agg #[.int .i64 f.ty, .int .i64 f.fl, .int .i64 f.st, .slice f.pA f.pn f.pc, .int .i64 f.pad, .int .u32 f.code, .int .i64 f.last, .int .i64 f.inc, .int .i64 f.dep, .bool f.only, .int .i64 f.wt, .slice f.sA f.sn f.sc]] w (fun e w' => ∃ A' c', e = .returned (.tuple #[.agg #[.int .i64 1, .int .i64 5, .int .i64 st, .slice A' (n + f.pn) c', .int .i64 0, .int .u32 0, .int .i64 0, .int .i64 0, .int .i64 0, .bool false, .int .i64 0, .slice none 0 0], .bool true, .agg #[.bool false, .int .i64 0, .int .i64 0]]) ∧ w'.heap[g]? = some (.cells #[.int .i64 most, .int .i64 0, .bool false, .slice none 0 0] 42) ∧ Ow w' base 5 1 A' (n + f.pn) c' ((l ++ lf).map u8) ∧ (g ∉ ob A' ∧ ∀ b, b ∈ ob A' → b ∈ ob A ∨ w.heap.size ≤ b) ∧ Kp (g :: ob A) w w') := by
  have HO := Lib.hid (show Ow w base 5 1 A n c ((l).map u8) from ho)
  have HR := Lib.hid hrf
  have HBS' := Lib.hid hbs
  have HGA := Lib.hid (show g ∉ ob A from hga)
  have HAB' := Lib.hid (show ∀ t, t ∈ ob A → t < w.heap.size from fun t ht => (ho.base t ht).2)
  clear hrf hbs ho hga
  have hl := lt_of_heap h
  have HH := Lib.hid h
  clear h
  obtain ⟨ty, fl, fst, pA, pn, pc, pad, code, last, inc, dep, only, wt, sA, sn, sc⟩ := f
  dsimp only at HR
  dsimp only at *
  subst hfl
  have est0 : (st == 0) = false := by simp; omega
  have nst0 : (st != 0) = true := by simp; omega
  have ety9 : (ty == 9) = true := by simp; omega
  have nty9 : (ty != 9) = false := by simp; omega
  have ety1 : (ty == 1) = false := by simp; omega
  have nty1 : (ty != 1) = true := by simp; omega
  have efstst : (fst == st) = true := by simp; omega
  have nfstst : (fst != st) = false := by simp; omega
  have hmi : (most : Int) ≤ 65536 := by omega
  have hni : (n : Int) ≤ (most : Int) := by omega
  have hw : IntKind.i64.wrap ((most : Int) - (n : Int)) = (most : Int) - (n : Int) := by apply IntWalk.i64_in; omega
  have hci : ¬ (most : Int) - (n : Int) < (pn : Int) := by omega
  have hcj : (pn : Int) ≤ (most : Int) - (n : Int) := by omega
  obtain ⟨Q, hQ⟩ : ∃ Q : Nat, F / 4 = Q := ⟨_, rfl⟩
  rw [hQ] at hr
  have hq1 : ((F : Int).tdiv 4) = (Q : Int) := by rw [← hQ]; simp [Int.tdiv]
  have hq2 : ((F : Int) / 4) = (Q : Int) := by omega
  have hqb : (Q : Int) ≤ 9223372036854775807 := by omega
  have hr1 : ((Q : Int).tmod 2) = 1 := by rw [show ((Q : Int).tmod 2) = ((Q % 2 : Nat) : Int) by simp [Int.tmod], hr]; rfl
  have hr2 : ((Q : Int) % 2) = 1 := by omega
  clear hQ hr
  clear hst h9 hs
  go_enter Try.func7, Try.ntmps7
  go_wp2
  generalize hW : World.alloc _ _ = w1
  have K1 : Kp [] w w1 := by rw [← hW]; (repeat (first | with_reducible exact Kp.refl _ _ | with_reducible assumption | with_reducible refine Kp.alloc ?_ _ | with_reducible refine Kp.drew ?_ | with_reducible refine Kp.drewN ?_ _ | (with_reducible refine Kp.setL ?_ ?_ _; focus (simp; done)) | (with_reducible refine Kp.setR ?_ ?_ _; focus (simp; done)) | (with_reducible refine Kp.setR ?_ ?_ _; focus (simp; omega))))
  have HB := Lib.hid (show w1.heap[w.heap.size]? = some (.cells #[.int .i64 ty, .int .i64 (F : Int), .int .i64 fst, .slice pA pn pc, .int .i64 pad, .int .u32 code, .int .i64 last, .int .i64 inc, .int .i64 dep, .bool only, .int .i64 wt, .slice sA sn sc] 34) by rw [← hW]; (repeat (first | with_reducible assumption | (with_reducible refine hp_new _ _ _ ?_; focus (simp; done)) | (with_reducible refine (hp_old _ _ _ ?_).trans ?_; focus (first | omega | (simp; done) | (simp; omega))) | (with_reducible refine (hp_far _ _ _ _ ?_).trans ?_; focus (first | (simp; done) | (simp; omega))) | (with_reducible refine (hp_drew _ _).trans ?_) | (with_reducible refine (hp_drewN _ _ _).trans ?_))))
  have HF := Lib.hid (show w1.heap[w.heap.size + 1]? = some (.cells #[.int .i64 0, .int .i64 0, .int .i64 0, .slice none 0 0, .int .i64 0, .int .u32 0, .int .i64 0, .int .i64 0, .int .i64 0, .bool false, .int .i64 0, .slice none 0 0] 34) by rw [← hW]; (repeat (first | with_reducible assumption | (with_reducible refine hp_new _ _ _ ?_; focus (simp; done)) | (with_reducible refine (hp_old _ _ _ ?_).trans ?_; focus (first | omega | (simp; done) | (simp; omega))) | (with_reducible refine (hp_far _ _ _ _ ?_).trans ?_; focus (first | (simp; done) | (simp; omega))) | (with_reducible refine (hp_drew _ _).trans ?_) | (with_reducible refine (hp_drewN _ _ _).trans ?_))))
  have HX := Lib.hid (show w1.heap[w.heap.size + 1 + 1]? = some (.cells #[.bool false, .int .i64 0, .int .i64 0] 36) by rw [← hW]; (repeat (first | with_reducible assumption | (with_reducible refine hp_new _ _ _ ?_; focus (simp; done)) | (with_reducible refine (hp_old _ _ _ ?_).trans ?_; focus (first | omega | (simp; done) | (simp; omega))) | (with_reducible refine (hp_far _ _ _ _ ?_).trans ?_; focus (first | (simp; done) | (simp; omega))) | (with_reducible refine (hp_drew _ _).trans ?_) | (with_reducible refine (hp_drewN _ _ _).trans ?_))))
  have H1 := Lib.hid (K1.heap HH.out (by simp))
  clear hW HH
  have c0 := cell_of H1.out 0
  have c1 := cell_of H1.out 1
  have c2 := cell_of H1.out 2
  have c3 := cell_of H1.out 3
  have cz := frozen_of H1.out
  have cl := lt_of_heap H1.out
  obtain ⟨b0, b1, b2, b3, b4, b5, b6, b7, b8, b9, b10, b11, bz, blt, blt2⟩ := jcellsF HB.out
  obtain ⟨q0, q1, q2, q3, q4, q5, q6, q7, q8, q9, q10, q11, qz, qlt, qlt2⟩ := jcellsF HF.out
  have x0 := cell_of HX.out 0
  have x1 := cell_of HX.out 1
  have x2 := cell_of HX.out 2
  have xz := frozen_of HX.out
  have xl := lt_of_heap HX.out
  go_region
  go_wp2
  have H2 := Lib.hid (show w1.drew.heap[g]? = _ from H1.out)
  have HB2 := Lib.hid (show w1.drew.heap[w.heap.size]? = _ from HB.out)
  have HF2 := Lib.hid (show w1.drew.heap[w.heap.size + 1]? = _ from HF.out)
  have HX2 := Lib.hid (show w1.drew.heap[w.heap.size + 1 + 1]? = _ from HX.out)
  have K2 := Lib.hid (show Kp [g] w w1.drew from K1.drew.nil)
  clear HB HF HX H1 K1 c0 c1 c2 c3 cz cl b0 b1 b2 b3 b4 b5 b6 b7 b8 b9 b10 b11 bz blt blt2 q0 q1 q2 q3 q4 q5 q6 q7 q8 q9 q10 q11 qz qlt qlt2 x0 x1 x2 xz xl
  generalize w1.drew = w2 at *
  have c0 := cell_of H2.out 0
  have c1 := cell_of H2.out 1
  have c2 := cell_of H2.out 2
  have c3 := cell_of H2.out 3
  have cz := frozen_of H2.out
  have cl := lt_of_heap H2.out
  obtain ⟨b0, b1, b2, b3, b4, b5, b6, b7, b8, b9, b10, b11, bz, blt, blt2⟩ := jcellsF HB2.out
  obtain ⟨q0, q1, q2, q3, q4, q5, q6, q7, q8, q9, q10, q11, qz, qlt, qlt2⟩ := jcellsF HF2.out
  have x0 := cell_of HX2.out 0
  have x1 := cell_of HX2.out 1
  have x2 := cell_of HX2.out 2
  have xz := frozen_of HX2.out
  have xl := lt_of_heap HX2.out
  go_region
  go_wp2
  have H3 := Lib.hid (show w2.drew.heap[g]? = _ from H2.out)
  have HB3 := Lib.hid (show w2.drew.heap[w.heap.size]? = _ from HB2.out)
  have HF3 := Lib.hid (show w2.drew.heap[w.heap.size + 1]? = _ from HF2.out)
  have HX3 := Lib.hid (show w2.drew.heap[w.heap.size + 1 + 1]? = _ from HX2.out)
  have K3 := Lib.hid (show Kp [g] w w2.drew from K2.out.drew)
  clear HB2 HF2 HX2 H2 K2 c0 c1 c2 c3 cz cl b0 b1 b2 b3 b4 b5 b6 b7 b8 b9 b10 b11 bz blt blt2 q0 q1 q2 q3 q4 q5 q6 q7 q8 q9 q10 q11 qz qlt qlt2 x0 x1 x2 xz xl
  generalize w2.drew = w3 at *
  have HO3 := Lib.hid (HO.out.keep K3.out (fun b hb hs => by simp at hs; subst hs; exact HGA.out hb))
  have HR3 := Lib.hid (HR.out.keep K3.out (fun hn b hb hs => by simp at hs; subst hs; exact hfo hn _ hb rfl))
  have HL3 := Lib.hid H3.out
  obtain ⟨bx, hbx⟩ : ∃ bx, w.heap.size = bx := ⟨_, rfl⟩
  have HAB := Lib.hid (show ∀ t, t ∈ ob A → t < bx by rw [← hbx]; exact HAB'.out)
  have HBS := Lib.hid (show base ≤ w3.heap.size from Nat.le_trans HBS'.out K3.out.size)
  have HWB := Lib.hid hbx
  have hlb : g < bx := by omega
  rw [hbx] at HB3 HF3 HX3 ⊢
  clear hbx hl
  refine wp_region_st3 (by kernel_rfl) [fun _ v _ => v = (.pointer (some ⟨g, 0, none⟩)),
      fun _ v _ => v = (.pointer (some ⟨g, 0, none⟩)),
      fun _ v _ => v = (.pointer (some ⟨g, 0, none⟩)),
      fun _ v _ => v = (.pointer (some ⟨g, 3, none⟩)),
      fun _ v _ => v = (.slice A n c),
      fun _ v _ => v = (.pointer (some ⟨bx, 3, none⟩)),
      fun _ v _ => v = (.slice pA pn pc),
      fun p v w => ∃ x : Option Addr × Nat × Nat, v = .slice x.1 x.2.1 x.2.2 ∧ 1 ≤ p ∧ (p ≤ 1 → Ow w (base) 5 1 x.1 x.2.1 x.2.2 ((l ++ lf).map u8) ∧ x.2.1 = (n + pn) ∧ g ∉ ob x.1 ∧ (∀ t, t ∈ ob x.1 → t ∈ ob A ∨ bx + 1 + 1 < t)),
      fun _ v _ => v = (.pointer (some ⟨g, 0, none⟩)),
      fun _ v _ => v = (.pointer (some ⟨g, 3, none⟩)),
      fun _ v _ => True] (fun p w => (p = 0 → Kp [] w3 w) ∧ (p ≤ 1 → w.heap[g]? = some (.cells #[.int .i64 most, .int .i64 st, .bool true, .slice A n c] 42)) ∧ w.heap[bx]? = some (.cells #[.int .i64 ty, .int .i64 (F : Int), .int .i64 fst, .slice pA pn pc, .int .i64 pad, .int .u32 code, .int .i64 last, .int .i64 inc, .int .i64 dep, .bool only, .int .i64 wt, .slice sA sn sc] 34) ∧ w.heap[bx + 1]? = some (.cells #[.int .i64 0, .int .i64 0, .int .i64 0, .slice none 0 0, .int .i64 0, .int .u32 0, .int .i64 0, .int .i64 0, .int .i64 0, .bool false, .int .i64 0, .slice none 0 0] 34) ∧ w.heap[bx + 1 + 1]? = some (.cells #[.bool false, .int .i64 0, .int .i64 0] 36) ∧ Kp (g :: ob A) w3 w ∧ (2 ≤ p → ∃ (A' : Option Addr) (c' : Nat), w.heap[g]? = some (.cells #[.int .i64 most, .int .i64 st, .bool true, .slice A' (n + pn) c'] 42) ∧ Ow w base 5 1 A' (n + pn) c' ((l ++ lf).map u8) ∧ g ∉ ob A' ∧ (∀ t, t ∈ ob A' → t ∈ ob A ∨ bx + 1 + 1 < t))) (fun p w w' => p < 0 → Kp [] w w') (fun w w' => Kp [] w w') [7, 10] [] (by kernel_rfl) (by kernel_rfl) (by kernel_rfl) (by decide) (by kernel_rfl) ⟨StabAt2.const _, StabAt2.const _, StabAt2.const _, StabAt2.const _, StabAt2.const _, StabAt2.const _, StabAt2.const _, StabAt2.span (f := fun x : Option Addr × Nat × Nat => .slice x.1 x.2.1 x.2.2) (by intro p x w w' h1 h2 h3 hR hG; have K := hR; exact ⟨hG.1.keep (K (by omega)) (by simp), hG.2⟩) (by intro x w w' hR hG; have K := hR; exact ⟨hG.1.keep K (by simp), hG.2⟩), StabAt2.const _, StabAt2.const _, StabAt2.const _, trivial⟩ (⟨fun _ => (Kp.refl _ _).drew, fun _ => H3.out, HB3.out, HF3.out, HX3.out, (Kp.refl _ _).drew, fun h => by omega⟩) ⟨?_, ?_, ?_, ?_, ?_, ?_, ?_, ?_, ?_, ?_, ?_, trivial⟩ (by kernel_rfl) ?_
  · intro q9 a w E hC K hK
    have h0 : a.tmps[0]? = some (.pointer (some ⟨g, 0, none⟩)) := (E.out 0 (by kernel_rfl)).trans rfl
    refine want_none rfl ?_
    go_simp
    exact hK _ rfl
  · intro q9 a w E hC K hK
    have h0 : a.tmps[0]? = some (.pointer (some ⟨g, 0, none⟩)) := (E.out 0 (by kernel_rfl)).trans rfl
    refine want_none rfl ?_
    go_simp
    exact hK _ rfl
  · intro q9 a w E hC K hK
    obtain ⟨_, h92, rfl⟩ := E.pred 1 _ 92 rfl rfl (by kernel_rfl)
    refine want_none rfl ?_
    have cl := lt_of_heap HL3.out
    go_simp
    exact hK _ rfl
  · intro q9 a w E hC K hK
    obtain ⟨_, h93, rfl⟩ := E.pred 2 _ 93 rfl rfl (by kernel_rfl)
    refine want_none rfl ?_
    go_simp
    exact hK _ rfl
  · intro q9 a w E hC K hK
    obtain ⟨_, h94, rfl⟩ := E.pred 3 _ 94 rfl rfl (by kernel_rfl)
    refine want_none rfl ?_
    have hk := E.lim 1 10 _ rfl rfl (by kernel_rfl)
    have hh := hC.2.1 (by omega)
    have c3 := cell_of hh 3
    have cl := lt_of_heap hh
    clear hh hk
    go_simp
    exact hK _ rfl
  · intro q9 a w E hC K hK
    have h3 : a.tmps[3]? = some (.pointer (some ⟨bx, 0, none⟩)) := (E.out 3 (by kernel_rfl)).trans rfl
    refine want_none rfl ?_
    go_simp
    exact hK _ rfl
  · intro q9 a w E hC K hK
    obtain ⟨_, h96, rfl⟩ := E.pred 5 _ 96 rfl rfl (by kernel_rfl)
    refine want_none rfl ?_
    have hb := hC.2.2.1
    have b3 := cell_of hb 3
    have bl := lt_of_heap hb
    clear hb
    go_simp
    exact hK _ rfl
  · intro a w E hC K hK
    obtain ⟨_, h95, rfl⟩ := E.pred 4 _ 95 rfl rfl (by kernel_rfl)
    obtain ⟨_, h97, rfl⟩ := E.pred 6 _ 97 rfl rfl (by kernel_rfl)
    refine want_none rfl ?_
    have K0 := hC.1 rfl
    refine op_appO (.tmp 95) (.tmp 97) 30 5 rfl Try.underlying30 Try.info5 base A n c l (eval_tmp h95) (HO3.out.keep K0 (by simp)) pA pn pc lf (eval_tmp h97) (HR3.out.keep K0 (by simp)) (by omega) (by have := K0.size; have := HBS.out; omega) ?_
    intro A' c' w2 O K2 hA2
    have hgA : g ∉ ob A' := by
        rcases hA2 with e | e
        · rw [e]; exact HGA.out
        · rw [e]; simp [ob]; have := lt_of_heap (hC.2.1 (by omega)); omega
    have hAB2 : ∀ t, t ∈ ob A' → t ∈ ob A ∨ bx + 1 + 1 < t := by
        intro t ht
        rcases hA2 with e | e
        · rw [e] at ht; exact .inl ht
        · rw [e] at ht; simp [ob] at ht; have := lt_of_heap hC.2.2.2.2.1; exact .inr (by omega)
    have hs : ∀ t, t ∈ ob A → t < bx := HAB.out
    exact hK _ _ ⟨⟨A', _, c'⟩, rfl, by omega, fun _ => ⟨O, by simp, hgA, hAB2⟩⟩ ⟨fun h => by omega, fun _ => K2.heap (hC.2.1 (by omega)) HGA.out, K2.heap hC.2.2.1 (fun h => by have := hs _ h; omega), K2.heap hC.2.2.2.1 (fun h => by have := hs _ h; omega), K2.heap hC.2.2.2.2.1 (fun h => by have := hs _ h; omega), hC.2.2.2.2.2.1.trans (K2.mono (fun s h => .inl (List.mem_cons_of_mem _ h))), fun h => by omega⟩ (fun h => by omega)
  · intro q9 a w E hC K hK
    obtain ⟨_, h91, rfl⟩ := E.pred 0 _ 91 rfl rfl (by kernel_rfl)
    refine want_none rfl ?_
    have cl := lt_of_heap HL3.out
    go_simp
    exact hK _ rfl
  · intro q9 a w E hC K hK
    obtain ⟨_, h99, rfl⟩ := E.pred 8 _ 99 rfl rfl (by kernel_rfl)
    refine want_none rfl ?_
    go_simp
    exact hK _ rfl
  · intro a w E hC K hK
    obtain ⟨_, h100, rfl⟩ := E.pred 9 _ 100 rfl rfl (by kernel_rfl)
    obtain ⟨v7, h98, V7⟩ := E.pred 7 _ 98 rfl rfl (by kernel_rfl)
    replace V7 : (fun p v w => ∃ x : Option Addr × Nat × Nat, v = .slice x.1 x.2.1 x.2.2 ∧ 1 ≤ p ∧ (p ≤ 1 → Ow w (base) 5 1 x.1 x.2.1 x.2.2 ((l ++ lf).map u8) ∧ x.2.1 = (n + pn) ∧ g ∉ ob x.1 ∧ (∀ t, t ∈ ob x.1 → t ∈ ob A ∨ bx + 1 + 1 < t))) 1 v7 w := V7
    refine want_none rfl ?_
    obtain ⟨⟨A7, n7, c7⟩, rfl, _, G7⟩ := V7
    obtain ⟨O7, e7, hg7, hn7⟩ := G7 (by omega)
    dsimp only at O7 e7 hg7 hn7
    subst n7
    have hh := hC.2.1 (by omega)
    have c3 := cell_of hh 3
    have cz := frozen_of hh
    have cl := lt_of_heap hh
    have HH := Lib.hid hh
    have HO7 := Lib.hid O7
    clear hh O7
    go_simp
    have KS : Kp [g] w (w.setCell ⟨g, 3, none⟩ (.slice A7 (n + pn) c7)) := (Kp.refl [g] w).setCell (.inl (by simp)) _
    exact hK undef _ trivial ⟨fun h => by omega, fun h => by omega, KS.heap hC.2.2.1 (by simp; omega), KS.heap hC.2.2.2.1 (by simp; omega), KS.heap hC.2.2.2.2.1 (by simp; omega), hC.2.2.2.2.2.1.trans (KS.mono (by simp)), fun _ => ⟨A7, c7, hp_set _ _ _ _ _ _ HH.out, HO7.out.keep KS (fun b hb hs => by simp at hs; subst hs; exact hg7 hb), hg7, hn7⟩⟩ (fun h => by omega)
  intro vs w4 hC hV
  obtain ⟨A', c', h4, o4, g4, n4⟩ := hC.2.2.2.2.2.2 (by simp)
  have H4 := Lib.hid h4
  have NEW4 := Lib.hid (show ∀ t, t ∈ ob A' → t < bx ∨ bx + 1 + 1 < t from fun t ht => (n4 t ht).imp_left (HAB.out t))
  have STR4 := Lib.hid (show ∀ t, t ∈ ob A' → t ∈ ob A ∨ w.heap.size ≤ t from fun t ht => (n4 t ht).elim (fun h => .inl h) (fun h => .inr (by have := HWB.out; omega)))
  have HB4 := Lib.hid hC.2.2.1
  have HF4 := Lib.hid hC.2.2.2.1
  have HX4 := Lib.hid hC.2.2.2.2.1
  have K4 := Lib.hid (show Kp (g :: ob A) w w4 from (K3.out.mono (fun s hs => .inl (by simp at hs; simp [hs]))).trans (hC.2.2.2.2.2.1))
  have HO4 := Lib.hid o4
  clear hV hC h4 o4 n4 H3 HB3 HF3 HX3 K3 HO HR HO3 HR3 HL3 HBS HBS'
  simp only [putAll, Act.put, List.setIfInBounds_toArray, Nat.zero_add, Nat.reduceAdd]
  dsimp only [List.set]
  have c0 := cell_of H4.out 0
  have c1 := cell_of H4.out 1
  have c2 := cell_of H4.out 2
  have c3 := cell_of H4.out 3
  have cz := frozen_of H4.out
  have cl := lt_of_heap H4.out
  obtain ⟨b0, b1, b2, b3, b4, b5, b6, b7, b8, b9, b10, b11, bz, blt, blt2⟩ := jcellsF HB4.out
  obtain ⟨q0, q1, q2, q3, q4, q5, q6, q7, q8, q9, q10, q11, qz, qlt, qlt2⟩ := jcellsF HF4.out
  have x0 := cell_of HX4.out 0
  have x1 := cell_of HX4.out 1
  have x2 := cell_of HX4.out 2
  have xz := frozen_of HX4.out
  have xl := lt_of_heap HX4.out
  go_wp2
  refine wp_region_st4 (by kernel_rfl) [fun _ v _ => v = (.pointer (some ⟨g, 0, none⟩)),
      fun _ v _ => v = (.pointer (some ⟨g, 0, none⟩)),
      fun _ v _ => v = (.pointer (some ⟨g, 1, none⟩)),
      fun _ v _ => v = (.int .i64 st),
      fun _ v _ => v = (.pointer (some ⟨g, 0, none⟩)),
      fun _ v _ => v = (.pointer (some ⟨g, 0, none⟩)),
      fun _ v _ => v = (.pointer (some ⟨g, 3, none⟩)),
      fun _ v _ => v = (.slice A' (n + pn) c'),
      fun _ v _ => v = (.agg #[.int .i64 1, .int .i64 4, .int .i64 st, .slice A' (n + pn) c', .int .i64 0, .int .u32 0, .int .i64 0, .int .i64 0, .int .i64 0, .bool false, .int .i64 0, .slice none 0 0]),
      fun p v w => ∃ b : Nat, v = .pointer (some ⟨b, 0, none⟩) ∧ w4.heap.size ≤ b ∧ (p ≤ 0 → w.heap[b]? = some (.cells #[.int .i64 0, .int .i64 0, .int .i64 0, .slice none 0 0, .int .i64 0, .int .u32 0, .int .i64 0, .int .i64 0, .int .i64 0, .bool false, .int .i64 0, .slice none 0 0] 34)),
      fun _ v _ => True] (fun p a w => Kp [] w4 w ∧ (1 ≤ p → ∃ b, a.tmps[7]? = some (.pointer (some ⟨b, 0, none⟩)) ∧ w4.heap.size ≤ b ∧ w.heap[b]? = some (.cells #[.int .i64 1, .int .i64 4, .int .i64 st, .slice A' (n + pn) c', .int .i64 0, .int .u32 0, .int .i64 0, .int .i64 0, .int .i64 0, .bool false, .int .i64 0, .slice none 0 0] 34))) (fun _ _ _ => True) (fun w w' => Kp [] w w') [10] [9] (by kernel_rfl) (by kernel_rfl) (by kernel_rfl) [7] (fun k a a' w ht h => by have e7 := ht 7 (by simp); rw [e7]; exact h) (by kernel_rfl) (by decide) (by kernel_rfl) ⟨StabAt2.const _, StabAt2.const _, StabAt2.const _, StabAt2.const _, StabAt2.const _, StabAt2.const _, StabAt2.const _, StabAt2.const _, StabAt2.const _, ⟨fun p v w w' h1 h2 hR ⟨b, e, h, hz⟩ => ⟨b, e, h, fun hp => by omega⟩, fun k v w w' hR ⟨b, e, h, hz⟩ => ⟨b, e, h, fun hp => hR.heap (hz hp) (by simp)⟩⟩, StabAt2.const _, trivial⟩ (⟨(Kp.refl _ _).drew, fun h => by omega⟩) ⟨?_, ?_, ?_, ?_, ?_, ?_, ?_, ?_, ?_, ?_, ?_, trivial⟩ (by kernel_rfl) ?_
  · intro q9 a w E hC K hK
    have h0 : a.tmps[0]? = some (.pointer (some ⟨g, 0, none⟩)) := (E.out 0 (by kernel_rfl)).trans rfl
    refine want_none rfl ?_
    go_simp
    exact hK _ rfl
  · intro q9 a w E hC K hK
    obtain ⟨_, h108, rfl⟩ := E.pred 0 _ 108 rfl rfl (by kernel_rfl)
    refine want_none rfl ?_
    have cl := lt_of_heap H4.out
    go_simp
    exact hK _ rfl
  · intro q9 a w E hC K hK
    obtain ⟨_, h109, rfl⟩ := E.pred 1 _ 109 rfl rfl (by kernel_rfl)
    refine want_none rfl ?_
    go_simp
    exact hK _ rfl
  · intro q9 a w E hC K hK
    obtain ⟨_, h110, rfl⟩ := E.pred 2 _ 110 rfl rfl (by kernel_rfl)
    refine want_none rfl ?_
    have hh := hC.1.heap H4.out (by simp)
    have c9 := cell_of hh 1
    have cl := lt_of_heap hh
    clear hh
    go_simp
    exact hK _ rfl
  · intro q9 a w E hC K hK
    have h0 : a.tmps[0]? = some (.pointer (some ⟨g, 0, none⟩)) := (E.out 0 (by kernel_rfl)).trans rfl
    refine want_none rfl ?_
    go_simp
    exact hK _ rfl
  · intro q9 a w E hC K hK
    obtain ⟨_, h112, rfl⟩ := E.pred 4 _ 112 rfl rfl (by kernel_rfl)
    refine want_none rfl ?_
    have cl := lt_of_heap H4.out
    go_simp
    exact hK _ rfl
  · intro q9 a w E hC K hK
    obtain ⟨_, h113, rfl⟩ := E.pred 5 _ 113 rfl rfl (by kernel_rfl)
    refine want_none rfl ?_
    go_simp
    exact hK _ rfl
  · intro q9 a w E hC K hK
    obtain ⟨_, h114, rfl⟩ := E.pred 6 _ 114 rfl rfl (by kernel_rfl)
    refine want_none rfl ?_
    have hh := hC.1.heap H4.out (by simp)
    have c9 := cell_of hh 3
    have cl := lt_of_heap hh
    clear hh
    go_simp
    exact hK _ rfl
  · intro q9 a w E hC K hK
    obtain ⟨_, h111, rfl⟩ := E.pred 3 _ 111 rfl rfl (by kernel_rfl)
    obtain ⟨_, h115, rfl⟩ := E.pred 7 _ 115 rfl rfl (by kernel_rfl)
    refine want_none rfl ?_
    go_simp
    exact hK _ rfl
  · intro q9 a w E hC K hK
    refine want_none rfl ?_
    have hk := E.lim 0 10 _ rfl rfl (by kernel_rfl)
    go_simp
    exact hK _ _ ⟨w.heap.size, rfl, hC.1.size, fun _ => hp_new _ _ _ rfl⟩ ⟨hC.1.alloc _, fun h => by omega⟩ ((Kp.refl [] w).alloc _)
  · intro a w E hC K hK
    obtain ⟨v9, h7, V9⟩ := E.pred 9 _ 7 rfl rfl (by kernel_rfl)
    replace V9 : (fun p v w => ∃ b : Nat, v = .pointer (some ⟨b, 0, none⟩) ∧ w4.heap.size ≤ b ∧ (p ≤ 0 → w.heap[b]? = some (.cells #[.int .i64 0, .int .i64 0, .int .i64 0, .slice none 0 0, .int .i64 0, .int .u32 0, .int .i64 0, .int .i64 0, .int .i64 0, .bool false, .int .i64 0, .slice none 0 0] 34))) 0 v9 w := V9
    obtain ⟨b9, rfl, hl9, hG9⟩ := V9
    obtain ⟨_, h116, rfl⟩ := E.pred 8 _ 116 rfl rfl (by kernel_rfl)
    refine want_none rfl ?_
    have hz := hG9 (by omega)
    have HZ := Lib.hid hz
    obtain ⟨q0, q1, q2, q3, q4, q5, q6, q7, q8, q9, q10, q11, qz, qlt, qlt2⟩ := jcellsF hz
    clear hz hG9
    go_simp
    generalize hW : World.setCell _ _ _ = w2
    obtain ⟨hs1, hs2⟩ : w2.heap[b9]? = some (.cells #[.int .i64 1, .int .i64 4, .int .i64 st, .slice A' (n + pn) c', .int .i64 0, .int .u32 0, .int .i64 0, .int .i64 0, .int .i64 0, .bool false, .int .i64 0, .slice none 0 0] 34) ∧ Kp [b9] w w2 := by rw [← hW]; exact jset12 HZ.out
    exact hK undef _ trivial ⟨hC.1.then hs2 (by simp; omega), fun _ => ⟨b9, h7, hl9, hs1⟩⟩ trivial
  intro vs w5 hC hV
  obtain ⟨bn, e9, hln, hf9⟩ := hC.2 (by simp)
  have e9v : vs 9 = .pointer (some ⟨bn, 0, none⟩) := by
    simp only [putAll, Act.put, List.setIfInBounds_toArray, Nat.zero_add, Nat.reduceAdd] at e9
    dsimp only [List.set] at e9
    simpa using e9
  have HW5 := Lib.hid hf9
  have H5 := Lib.hid (hC.1.heap H4.out (by simp))
  have HF5 := Lib.hid (hC.1.heap HF4.out (by simp))
  have HX5 := Lib.hid (hC.1.heap HX4.out (by simp))
  have K5 := Lib.hid (K4.out.trans hC.1.nil)
  have HO5 := Lib.hid (HO4.out.keep hC.1 (by simp))
  have hbn : bx + 1 + 1 < bn := by have := lt_of_heap HX4.out; omega
  have hA9 := Lib.hid (show ∀ t, t ∈ ob A' → t < bn from fun t ht => by have := HO4.out.base t ht; omega)
  clear hV hC e9 hf9 H4 HB4 HF4 HX4 K4 HO4 c0 c1 c2 c3 cz cl b0 b1 b2 b3 b4 b5 b6 b7 b8 b9 b10 b11 bz blt blt2 q0 q1 q2 q3 q4 q5 q6 q7 q8 q9 q10 q11 qz qlt qlt2 x0 x1 x2 xz xl
  simp only [putAll, Act.put, List.setIfInBounds_toArray, Nat.zero_add, Nat.reduceAdd]
  dsimp only [List.set]
  rw [e9v]
  have c0 := cell_of H5.out 0
  have c1 := cell_of H5.out 1
  have c2 := cell_of H5.out 2
  have c3 := cell_of H5.out 3
  have cz := frozen_of H5.out
  have cl := lt_of_heap H5.out
  obtain ⟨q0, q1, q2, q3, q4, q5, q6, q7, q8, q9, q10, q11, qz, qlt, qlt2⟩ := jcellsF HF5.out
  have x0 := cell_of HX5.out 0
  have x1 := cell_of HX5.out 1
  have x2 := cell_of HX5.out 2
  have xz := frozen_of HX5.out
  have xl := lt_of_heap HX5.out
  obtain ⟨b0, b1, b2, b3, b4, b5, b6, b7, b8, b9, b10, b11, bz, blt, blt2⟩ := jcellsF HW5.out
  go_wp2
  generalize hV : World.setCell (World.setCell (World.setCell (World.setCell w5 ⟨bn, 1, none⟩ (.int .i64 5)) ⟨g, 1, none⟩ (.int .i64 0)) ⟨g, 2, none⟩ (.bool false)) ⟨g, 3, none⟩ (.slice none 0 0) = w6
  have K56 : Kp [g, bn] w5 w6 := by rw [← hV]; exact (((((Kp.refl [g, bn] w5).setCell (.inl (by simp)) _).setCell (.inl (by simp)) _).setCell (.inl (by simp)) _).setCell (.inl (by simp)) _)
  have H6 := Lib.hid (show w6.heap[g]? = some (.cells #[.int .i64 most, .int .i64 0, .bool false, .slice none 0 0] 42) by rw [← hV]; exact hp_set _ _ _ _ _ _ (hp_set _ _ _ _ _ _ (hp_set _ _ _ _ _ _ ((hp_far _ _ _ _ (by simp; omega)).trans H5.out))))
  have HF6 := Lib.hid (K56.heap HF5.out (by simp; omega))
  have HX6 := Lib.hid (K56.heap HX5.out (by simp; omega))
  have HO6 := Lib.hid (HO5.out.keep K56 (fun b hb hs => by have := hA9.out b hb; simp at hs; rcases hs with e | e; subst e; exact g4 hb; omega))
  have K6 := Lib.hid (K5.out.then K56 (by intro t ht; simp at ht; rcases ht with e | e; left; simp [e]; right; have := HWB.out; omega))
  clear hV K56 H5 HF5 HX5 HO5 K5
  generalize hW : World.setCell _ _ _ = W
  obtain ⟨HF9, HX9, K9⟩ : W.heap[(bx + 1)]? = some (.cells #[.int .i64 1, .int .i64 5, .int .i64 st, .slice A' (n + pn) c', .int .i64 0, .int .u32 0, .int .i64 0, .int .i64 0, .int .i64 0, .bool false, .int .i64 0, .slice none 0 0] 34) ∧ W.heap[(bx + 1 + 1)]? = some (.cells #[.bool false, .int .i64 0, .int .i64 0] 36) ∧ Kp [(bx + 1), (bx + 1 + 1)] w6 W := by rw [← hW]; exact jset15 (by omega) HF6.out HX6.out
  refine bodyPost_ret (v := .tuple #[.agg #[.int .i64 1, .int .i64 5, .int .i64 st, .slice A' (n + pn) c', .int .i64 0, .int .u32 0, .int .i64 0, .int .i64 0, .int .i64 0, .bool false, .int .i64 0, .slice none 0 0], .bool true, .agg #[.bool false, .int .i64 0, .int .i64 0]]) (by simp [results, Try.results7, go_sem, cell_of HF9, cell_of HX9]) rfl ⟨A', c', rfl, K9.heap H6.out (by simp; omega), (HO6.out.keep K9 (fun b hb hs => by have := NEW4.out b hb; simp at hs; omega)), ⟨g4, STR4.out⟩, K6.out.then K9 (by intro t ht; simp at ht; right; have := HWB.out; omega)⟩
set_option maxHeartbeats 8000000 in
set_option maxRecDepth 100000 in
theorem RIn_wholeNC (g : Nat) (f : Fr) (F : Nat) (w : World) (most : Nat) (st : Int) (A : Option Addr) (n c base : Nat) (l lf : List UInt8) (h : w.heap[g]? = some (.cells #[.int .i64 most, .int .i64 st, .bool false, .slice A n c] 42)) (hfl : f.fl = (F : Int)) (hF : F ≤ 9223372036854775807) (hm : most ≤ 65536) (hn : n ≤ most) (hpn : f.pn ≤ 140737488351232) (hc : n + f.pn ≤ most) (hbs : base ≤ w.heap.size) (ho : Ow w base 5 1 A n c (l.map u8)) (hga : g ∉ ob A) (hrf : Rd w f.pA f.pn f.pc lf) (hfo : 0 < f.pn → ∀ b, b ∈ ob f.pA → b ≠ g) (hr : F / 4 % 2 = 1) (hst : ¬ st = 0) (h9 : f.ty = 9) (hs : f.st = st) : Calls Try.prog 7 #[.pointer (some ⟨g, 0, none⟩), .agg #[.int .i64 f.ty, .int .i64 f.fl, .int .i64 f.st, .slice f.pA f.pn f.pc, .int .i64 f.pad, .int .u32 f.code, .int .i64 f.last, .int .i64 f.inc, .int .i64 f.dep, .bool f.only, .int .i64 f.wt, .slice f.sA f.sn f.sc]] w (fun e w' => ∃ A' c', e = .returned (.tuple #[.agg #[.int .i64 1, .int .i64 4, .int .i64 st, .slice A' (n + f.pn) c', .int .i64 0, .int .u32 0, .int .i64 0, .int .i64 0, .int .i64 0, .bool false, .int .i64 0, .slice none 0 0], .bool true, .agg #[.bool false, .int .i64 0, .int .i64 0]]) ∧ w'.heap[g]? = some (.cells #[.int .i64 most, .int .i64 0, .bool false, .slice none 0 0] 42) ∧ Ow w' base 5 1 A' (n + f.pn) c' ((l ++ lf).map u8) ∧ (g ∉ ob A' ∧ ∀ b, b ∈ ob A' → b ∈ ob A ∨ w.heap.size ≤ b) ∧ Kp (g :: ob A) w w') := by
  have HO := Lib.hid (show Ow w base 5 1 A n c ((l).map u8) from ho)
  have HR := Lib.hid hrf
  have HBS' := Lib.hid hbs
  have HGA := Lib.hid (show g ∉ ob A from hga)
  have HAB' := Lib.hid (show ∀ t, t ∈ ob A → t < w.heap.size from fun t ht => (ho.base t ht).2)
  clear hrf hbs ho hga
  have hl := lt_of_heap h
  have HH := Lib.hid h
  clear h
  obtain ⟨ty, fl, fst, pA, pn, pc, pad, code, last, inc, dep, only, wt, sA, sn, sc⟩ := f
  dsimp only at HR
  dsimp only at *
  subst hfl
  have est0 : (st == 0) = false := by simp; omega
  have nst0 : (st != 0) = true := by simp; omega
  have ety9 : (ty == 9) = true := by simp; omega
  have nty9 : (ty != 9) = false := by simp; omega
  have ety1 : (ty == 1) = false := by simp; omega
  have nty1 : (ty != 1) = true := by simp; omega
  have efstst : (fst == st) = true := by simp; omega
  have nfstst : (fst != st) = false := by simp; omega
  have hmi : (most : Int) ≤ 65536 := by omega
  have hni : (n : Int) ≤ (most : Int) := by omega
  have hw : IntKind.i64.wrap ((most : Int) - (n : Int)) = (most : Int) - (n : Int) := by apply IntWalk.i64_in; omega
  have hci : ¬ (most : Int) - (n : Int) < (pn : Int) := by omega
  have hcj : (pn : Int) ≤ (most : Int) - (n : Int) := by omega
  obtain ⟨Q, hQ⟩ : ∃ Q : Nat, F / 4 = Q := ⟨_, rfl⟩
  rw [hQ] at hr
  have hq1 : ((F : Int).tdiv 4) = (Q : Int) := by rw [← hQ]; simp [Int.tdiv]
  have hq2 : ((F : Int) / 4) = (Q : Int) := by omega
  have hqb : (Q : Int) ≤ 9223372036854775807 := by omega
  have hr1 : ((Q : Int).tmod 2) = 1 := by rw [show ((Q : Int).tmod 2) = ((Q % 2 : Nat) : Int) by simp [Int.tmod], hr]; rfl
  have hr2 : ((Q : Int) % 2) = 1 := by omega
  clear hQ hr
  clear hst h9 hs
  go_enter Try.func7, Try.ntmps7
  go_wp2
  generalize hW : World.alloc _ _ = w1
  have K1 : Kp [] w w1 := by rw [← hW]; (repeat (first | with_reducible exact Kp.refl _ _ | with_reducible assumption | with_reducible refine Kp.alloc ?_ _ | with_reducible refine Kp.drew ?_ | with_reducible refine Kp.drewN ?_ _ | (with_reducible refine Kp.setL ?_ ?_ _; focus (simp; done)) | (with_reducible refine Kp.setR ?_ ?_ _; focus (simp; done)) | (with_reducible refine Kp.setR ?_ ?_ _; focus (simp; omega))))
  have HB := Lib.hid (show w1.heap[w.heap.size]? = some (.cells #[.int .i64 ty, .int .i64 (F : Int), .int .i64 fst, .slice pA pn pc, .int .i64 pad, .int .u32 code, .int .i64 last, .int .i64 inc, .int .i64 dep, .bool only, .int .i64 wt, .slice sA sn sc] 34) by rw [← hW]; (repeat (first | with_reducible assumption | (with_reducible refine hp_new _ _ _ ?_; focus (simp; done)) | (with_reducible refine (hp_old _ _ _ ?_).trans ?_; focus (first | omega | (simp; done) | (simp; omega))) | (with_reducible refine (hp_far _ _ _ _ ?_).trans ?_; focus (first | (simp; done) | (simp; omega))) | (with_reducible refine (hp_drew _ _).trans ?_) | (with_reducible refine (hp_drewN _ _ _).trans ?_))))
  have HF := Lib.hid (show w1.heap[w.heap.size + 1]? = some (.cells #[.int .i64 0, .int .i64 0, .int .i64 0, .slice none 0 0, .int .i64 0, .int .u32 0, .int .i64 0, .int .i64 0, .int .i64 0, .bool false, .int .i64 0, .slice none 0 0] 34) by rw [← hW]; (repeat (first | with_reducible assumption | (with_reducible refine hp_new _ _ _ ?_; focus (simp; done)) | (with_reducible refine (hp_old _ _ _ ?_).trans ?_; focus (first | omega | (simp; done) | (simp; omega))) | (with_reducible refine (hp_far _ _ _ _ ?_).trans ?_; focus (first | (simp; done) | (simp; omega))) | (with_reducible refine (hp_drew _ _).trans ?_) | (with_reducible refine (hp_drewN _ _ _).trans ?_))))
  have HX := Lib.hid (show w1.heap[w.heap.size + 1 + 1]? = some (.cells #[.bool false, .int .i64 0, .int .i64 0] 36) by rw [← hW]; (repeat (first | with_reducible assumption | (with_reducible refine hp_new _ _ _ ?_; focus (simp; done)) | (with_reducible refine (hp_old _ _ _ ?_).trans ?_; focus (first | omega | (simp; done) | (simp; omega))) | (with_reducible refine (hp_far _ _ _ _ ?_).trans ?_; focus (first | (simp; done) | (simp; omega))) | (with_reducible refine (hp_drew _ _).trans ?_) | (with_reducible refine (hp_drewN _ _ _).trans ?_))))
  have H1 := Lib.hid (K1.heap HH.out (by simp))
  clear hW HH
  have c0 := cell_of H1.out 0
  have c1 := cell_of H1.out 1
  have c2 := cell_of H1.out 2
  have c3 := cell_of H1.out 3
  have cz := frozen_of H1.out
  have cl := lt_of_heap H1.out
  obtain ⟨b0, b1, b2, b3, b4, b5, b6, b7, b8, b9, b10, b11, bz, blt, blt2⟩ := jcellsF HB.out
  obtain ⟨q0, q1, q2, q3, q4, q5, q6, q7, q8, q9, q10, q11, qz, qlt, qlt2⟩ := jcellsF HF.out
  have x0 := cell_of HX.out 0
  have x1 := cell_of HX.out 1
  have x2 := cell_of HX.out 2
  have xz := frozen_of HX.out
  have xl := lt_of_heap HX.out
  go_region
  go_wp2
  have H2 := Lib.hid (show w1.drew.heap[g]? = _ from H1.out)
  have HB2 := Lib.hid (show w1.drew.heap[w.heap.size]? = _ from HB.out)
  have HF2 := Lib.hid (show w1.drew.heap[w.heap.size + 1]? = _ from HF.out)
  have HX2 := Lib.hid (show w1.drew.heap[w.heap.size + 1 + 1]? = _ from HX.out)
  have K2 := Lib.hid (show Kp [g] w w1.drew from K1.drew.nil)
  clear HB HF HX H1 K1 c0 c1 c2 c3 cz cl b0 b1 b2 b3 b4 b5 b6 b7 b8 b9 b10 b11 bz blt blt2 q0 q1 q2 q3 q4 q5 q6 q7 q8 q9 q10 q11 qz qlt qlt2 x0 x1 x2 xz xl
  generalize w1.drew = w2 at *
  have c0 := cell_of H2.out 0
  have c1 := cell_of H2.out 1
  have c2 := cell_of H2.out 2
  have c3 := cell_of H2.out 3
  have cz := frozen_of H2.out
  have cl := lt_of_heap H2.out
  obtain ⟨b0, b1, b2, b3, b4, b5, b6, b7, b8, b9, b10, b11, bz, blt, blt2⟩ := jcellsF HB2.out
  obtain ⟨q0, q1, q2, q3, q4, q5, q6, q7, q8, q9, q10, q11, qz, qlt, qlt2⟩ := jcellsF HF2.out
  have x0 := cell_of HX2.out 0
  have x1 := cell_of HX2.out 1
  have x2 := cell_of HX2.out 2
  have xz := frozen_of HX2.out
  have xl := lt_of_heap HX2.out
  go_region
  go_wp2
  have H3 := Lib.hid (show w2.drew.heap[g]? = _ from H2.out)
  have HB3 := Lib.hid (show w2.drew.heap[w.heap.size]? = _ from HB2.out)
  have HF3 := Lib.hid (show w2.drew.heap[w.heap.size + 1]? = _ from HF2.out)
  have HX3 := Lib.hid (show w2.drew.heap[w.heap.size + 1 + 1]? = _ from HX2.out)
  have K3 := Lib.hid (show Kp [g] w w2.drew from K2.out.drew)
  clear HB2 HF2 HX2 H2 K2 c0 c1 c2 c3 cz cl b0 b1 b2 b3 b4 b5 b6 b7 b8 b9 b10 b11 bz blt blt2 q0 q1 q2 q3 q4 q5 q6 q7 q8 q9 q10 q11 qz qlt qlt2 x0 x1 x2 xz xl
  generalize w2.drew = w3 at *
  have HO3 := Lib.hid (HO.out.keep K3.out (fun b hb hs => by simp at hs; subst hs; exact HGA.out hb))
  have HR3 := Lib.hid (HR.out.keep K3.out (fun hn b hb hs => by simp at hs; subst hs; exact hfo hn _ hb rfl))
  have HL3 := Lib.hid H3.out
  obtain ⟨bx, hbx⟩ : ∃ bx, w.heap.size = bx := ⟨_, rfl⟩
  have HAB := Lib.hid (show ∀ t, t ∈ ob A → t < bx by rw [← hbx]; exact HAB'.out)
  have HBS := Lib.hid (show base ≤ w3.heap.size from Nat.le_trans HBS'.out K3.out.size)
  have HWB := Lib.hid hbx
  have hlb : g < bx := by omega
  rw [hbx] at HB3 HF3 HX3 ⊢
  clear hbx hl
  refine wp_region_st3 (by kernel_rfl) [fun _ v _ => v = (.pointer (some ⟨g, 0, none⟩)),
      fun _ v _ => v = (.pointer (some ⟨g, 0, none⟩)),
      fun _ v _ => v = (.pointer (some ⟨g, 0, none⟩)),
      fun _ v _ => v = (.pointer (some ⟨g, 3, none⟩)),
      fun _ v _ => v = (.slice A n c),
      fun _ v _ => v = (.pointer (some ⟨bx, 3, none⟩)),
      fun _ v _ => v = (.slice pA pn pc),
      fun p v w => ∃ x : Option Addr × Nat × Nat, v = .slice x.1 x.2.1 x.2.2 ∧ 1 ≤ p ∧ (p ≤ 1 → Ow w (base) 5 1 x.1 x.2.1 x.2.2 ((l ++ lf).map u8) ∧ x.2.1 = (n + pn) ∧ g ∉ ob x.1 ∧ (∀ t, t ∈ ob x.1 → t ∈ ob A ∨ bx + 1 + 1 < t)),
      fun _ v _ => v = (.pointer (some ⟨g, 0, none⟩)),
      fun _ v _ => v = (.pointer (some ⟨g, 3, none⟩)),
      fun _ v _ => True] (fun p w => (p = 0 → Kp [] w3 w) ∧ (p ≤ 1 → w.heap[g]? = some (.cells #[.int .i64 most, .int .i64 st, .bool false, .slice A n c] 42)) ∧ w.heap[bx]? = some (.cells #[.int .i64 ty, .int .i64 (F : Int), .int .i64 fst, .slice pA pn pc, .int .i64 pad, .int .u32 code, .int .i64 last, .int .i64 inc, .int .i64 dep, .bool only, .int .i64 wt, .slice sA sn sc] 34) ∧ w.heap[bx + 1]? = some (.cells #[.int .i64 0, .int .i64 0, .int .i64 0, .slice none 0 0, .int .i64 0, .int .u32 0, .int .i64 0, .int .i64 0, .int .i64 0, .bool false, .int .i64 0, .slice none 0 0] 34) ∧ w.heap[bx + 1 + 1]? = some (.cells #[.bool false, .int .i64 0, .int .i64 0] 36) ∧ Kp (g :: ob A) w3 w ∧ (2 ≤ p → ∃ (A' : Option Addr) (c' : Nat), w.heap[g]? = some (.cells #[.int .i64 most, .int .i64 st, .bool false, .slice A' (n + pn) c'] 42) ∧ Ow w base 5 1 A' (n + pn) c' ((l ++ lf).map u8) ∧ g ∉ ob A' ∧ (∀ t, t ∈ ob A' → t ∈ ob A ∨ bx + 1 + 1 < t))) (fun p w w' => p < 0 → Kp [] w w') (fun w w' => Kp [] w w') [7, 10] [] (by kernel_rfl) (by kernel_rfl) (by kernel_rfl) (by decide) (by kernel_rfl) ⟨StabAt2.const _, StabAt2.const _, StabAt2.const _, StabAt2.const _, StabAt2.const _, StabAt2.const _, StabAt2.const _, StabAt2.span (f := fun x : Option Addr × Nat × Nat => .slice x.1 x.2.1 x.2.2) (by intro p x w w' h1 h2 h3 hR hG; have K := hR; exact ⟨hG.1.keep (K (by omega)) (by simp), hG.2⟩) (by intro x w w' hR hG; have K := hR; exact ⟨hG.1.keep K (by simp), hG.2⟩), StabAt2.const _, StabAt2.const _, StabAt2.const _, trivial⟩ (⟨fun _ => (Kp.refl _ _).drew, fun _ => H3.out, HB3.out, HF3.out, HX3.out, (Kp.refl _ _).drew, fun h => by omega⟩) ⟨?_, ?_, ?_, ?_, ?_, ?_, ?_, ?_, ?_, ?_, ?_, trivial⟩ (by kernel_rfl) ?_
  · intro q9 a w E hC K hK
    have h0 : a.tmps[0]? = some (.pointer (some ⟨g, 0, none⟩)) := (E.out 0 (by kernel_rfl)).trans rfl
    refine want_none rfl ?_
    go_simp
    exact hK _ rfl
  · intro q9 a w E hC K hK
    have h0 : a.tmps[0]? = some (.pointer (some ⟨g, 0, none⟩)) := (E.out 0 (by kernel_rfl)).trans rfl
    refine want_none rfl ?_
    go_simp
    exact hK _ rfl
  · intro q9 a w E hC K hK
    obtain ⟨_, h92, rfl⟩ := E.pred 1 _ 92 rfl rfl (by kernel_rfl)
    refine want_none rfl ?_
    have cl := lt_of_heap HL3.out
    go_simp
    exact hK _ rfl
  · intro q9 a w E hC K hK
    obtain ⟨_, h93, rfl⟩ := E.pred 2 _ 93 rfl rfl (by kernel_rfl)
    refine want_none rfl ?_
    go_simp
    exact hK _ rfl
  · intro q9 a w E hC K hK
    obtain ⟨_, h94, rfl⟩ := E.pred 3 _ 94 rfl rfl (by kernel_rfl)
    refine want_none rfl ?_
    have hk := E.lim 1 10 _ rfl rfl (by kernel_rfl)
    have hh := hC.2.1 (by omega)
    have c3 := cell_of hh 3
    have cl := lt_of_heap hh
    clear hh hk
    go_simp
    exact hK _ rfl
  · intro q9 a w E hC K hK
    have h3 : a.tmps[3]? = some (.pointer (some ⟨bx, 0, none⟩)) := (E.out 3 (by kernel_rfl)).trans rfl
    refine want_none rfl ?_
    go_simp
    exact hK _ rfl
  · intro q9 a w E hC K hK
    obtain ⟨_, h96, rfl⟩ := E.pred 5 _ 96 rfl rfl (by kernel_rfl)
    refine want_none rfl ?_
    have hb := hC.2.2.1
    have b3 := cell_of hb 3
    have bl := lt_of_heap hb
    clear hb
    go_simp
    exact hK _ rfl
  · intro a w E hC K hK
    obtain ⟨_, h95, rfl⟩ := E.pred 4 _ 95 rfl rfl (by kernel_rfl)
    obtain ⟨_, h97, rfl⟩ := E.pred 6 _ 97 rfl rfl (by kernel_rfl)
    refine want_none rfl ?_
    have K0 := hC.1 rfl
    refine op_appO (.tmp 95) (.tmp 97) 30 5 rfl Try.underlying30 Try.info5 base A n c l (eval_tmp h95) (HO3.out.keep K0 (by simp)) pA pn pc lf (eval_tmp h97) (HR3.out.keep K0 (by simp)) (by omega) (by have := K0.size; have := HBS.out; omega) ?_
    intro A' c' w2 O K2 hA2
    have hgA : g ∉ ob A' := by
        rcases hA2 with e | e
        · rw [e]; exact HGA.out
        · rw [e]; simp [ob]; have := lt_of_heap (hC.2.1 (by omega)); omega
    have hAB2 : ∀ t, t ∈ ob A' → t ∈ ob A ∨ bx + 1 + 1 < t := by
        intro t ht
        rcases hA2 with e | e
        · rw [e] at ht; exact .inl ht
        · rw [e] at ht; simp [ob] at ht; have := lt_of_heap hC.2.2.2.2.1; exact .inr (by omega)
    have hs : ∀ t, t ∈ ob A → t < bx := HAB.out
    exact hK _ _ ⟨⟨A', _, c'⟩, rfl, by omega, fun _ => ⟨O, by simp, hgA, hAB2⟩⟩ ⟨fun h => by omega, fun _ => K2.heap (hC.2.1 (by omega)) HGA.out, K2.heap hC.2.2.1 (fun h => by have := hs _ h; omega), K2.heap hC.2.2.2.1 (fun h => by have := hs _ h; omega), K2.heap hC.2.2.2.2.1 (fun h => by have := hs _ h; omega), hC.2.2.2.2.2.1.trans (K2.mono (fun s h => .inl (List.mem_cons_of_mem _ h))), fun h => by omega⟩ (fun h => by omega)
  · intro q9 a w E hC K hK
    obtain ⟨_, h91, rfl⟩ := E.pred 0 _ 91 rfl rfl (by kernel_rfl)
    refine want_none rfl ?_
    have cl := lt_of_heap HL3.out
    go_simp
    exact hK _ rfl
  · intro q9 a w E hC K hK
    obtain ⟨_, h99, rfl⟩ := E.pred 8 _ 99 rfl rfl (by kernel_rfl)
    refine want_none rfl ?_
    go_simp
    exact hK _ rfl
  · intro a w E hC K hK
    obtain ⟨_, h100, rfl⟩ := E.pred 9 _ 100 rfl rfl (by kernel_rfl)
    obtain ⟨v7, h98, V7⟩ := E.pred 7 _ 98 rfl rfl (by kernel_rfl)
    replace V7 : (fun p v w => ∃ x : Option Addr × Nat × Nat, v = .slice x.1 x.2.1 x.2.2 ∧ 1 ≤ p ∧ (p ≤ 1 → Ow w (base) 5 1 x.1 x.2.1 x.2.2 ((l ++ lf).map u8) ∧ x.2.1 = (n + pn) ∧ g ∉ ob x.1 ∧ (∀ t, t ∈ ob x.1 → t ∈ ob A ∨ bx + 1 + 1 < t))) 1 v7 w := V7
    refine want_none rfl ?_
    obtain ⟨⟨A7, n7, c7⟩, rfl, _, G7⟩ := V7
    obtain ⟨O7, e7, hg7, hn7⟩ := G7 (by omega)
    dsimp only at O7 e7 hg7 hn7
    subst n7
    have hh := hC.2.1 (by omega)
    have c3 := cell_of hh 3
    have cz := frozen_of hh
    have cl := lt_of_heap hh
    have HH := Lib.hid hh
    have HO7 := Lib.hid O7
    clear hh O7
    go_simp
    have KS : Kp [g] w (w.setCell ⟨g, 3, none⟩ (.slice A7 (n + pn) c7)) := (Kp.refl [g] w).setCell (.inl (by simp)) _
    exact hK undef _ trivial ⟨fun h => by omega, fun h => by omega, KS.heap hC.2.2.1 (by simp; omega), KS.heap hC.2.2.2.1 (by simp; omega), KS.heap hC.2.2.2.2.1 (by simp; omega), hC.2.2.2.2.2.1.trans (KS.mono (by simp)), fun _ => ⟨A7, c7, hp_set _ _ _ _ _ _ HH.out, HO7.out.keep KS (fun b hb hs => by simp at hs; subst hs; exact hg7 hb), hg7, hn7⟩⟩ (fun h => by omega)
  intro vs w4 hC hV
  obtain ⟨A', c', h4, o4, g4, n4⟩ := hC.2.2.2.2.2.2 (by simp)
  have H4 := Lib.hid h4
  have NEW4 := Lib.hid (show ∀ t, t ∈ ob A' → t < bx ∨ bx + 1 + 1 < t from fun t ht => (n4 t ht).imp_left (HAB.out t))
  have STR4 := Lib.hid (show ∀ t, t ∈ ob A' → t ∈ ob A ∨ w.heap.size ≤ t from fun t ht => (n4 t ht).elim (fun h => .inl h) (fun h => .inr (by have := HWB.out; omega)))
  have HB4 := Lib.hid hC.2.2.1
  have HF4 := Lib.hid hC.2.2.2.1
  have HX4 := Lib.hid hC.2.2.2.2.1
  have K4 := Lib.hid (show Kp (g :: ob A) w w4 from (K3.out.mono (fun s hs => .inl (by simp at hs; simp [hs]))).trans (hC.2.2.2.2.2.1))
  have HO4 := Lib.hid o4
  clear hV hC h4 o4 n4 H3 HB3 HF3 HX3 K3 HO HR HO3 HR3 HL3 HBS HBS'
  simp only [putAll, Act.put, List.setIfInBounds_toArray, Nat.zero_add, Nat.reduceAdd]
  dsimp only [List.set]
  have c0 := cell_of H4.out 0
  have c1 := cell_of H4.out 1
  have c2 := cell_of H4.out 2
  have c3 := cell_of H4.out 3
  have cz := frozen_of H4.out
  have cl := lt_of_heap H4.out
  obtain ⟨b0, b1, b2, b3, b4, b5, b6, b7, b8, b9, b10, b11, bz, blt, blt2⟩ := jcellsF HB4.out
  obtain ⟨q0, q1, q2, q3, q4, q5, q6, q7, q8, q9, q10, q11, qz, qlt, qlt2⟩ := jcellsF HF4.out
  have x0 := cell_of HX4.out 0
  have x1 := cell_of HX4.out 1
  have x2 := cell_of HX4.out 2
  have xz := frozen_of HX4.out
  have xl := lt_of_heap HX4.out
  go_wp2
  refine wp_region_st4 (by kernel_rfl) [fun _ v _ => v = (.pointer (some ⟨g, 0, none⟩)),
      fun _ v _ => v = (.pointer (some ⟨g, 0, none⟩)),
      fun _ v _ => v = (.pointer (some ⟨g, 1, none⟩)),
      fun _ v _ => v = (.int .i64 st),
      fun _ v _ => v = (.pointer (some ⟨g, 0, none⟩)),
      fun _ v _ => v = (.pointer (some ⟨g, 0, none⟩)),
      fun _ v _ => v = (.pointer (some ⟨g, 3, none⟩)),
      fun _ v _ => v = (.slice A' (n + pn) c'),
      fun _ v _ => v = (.agg #[.int .i64 1, .int .i64 4, .int .i64 st, .slice A' (n + pn) c', .int .i64 0, .int .u32 0, .int .i64 0, .int .i64 0, .int .i64 0, .bool false, .int .i64 0, .slice none 0 0]),
      fun p v w => ∃ b : Nat, v = .pointer (some ⟨b, 0, none⟩) ∧ w4.heap.size ≤ b ∧ (p ≤ 0 → w.heap[b]? = some (.cells #[.int .i64 0, .int .i64 0, .int .i64 0, .slice none 0 0, .int .i64 0, .int .u32 0, .int .i64 0, .int .i64 0, .int .i64 0, .bool false, .int .i64 0, .slice none 0 0] 34)),
      fun _ v _ => True] (fun p a w => Kp [] w4 w ∧ (1 ≤ p → ∃ b, a.tmps[7]? = some (.pointer (some ⟨b, 0, none⟩)) ∧ w4.heap.size ≤ b ∧ w.heap[b]? = some (.cells #[.int .i64 1, .int .i64 4, .int .i64 st, .slice A' (n + pn) c', .int .i64 0, .int .u32 0, .int .i64 0, .int .i64 0, .int .i64 0, .bool false, .int .i64 0, .slice none 0 0] 34))) (fun _ _ _ => True) (fun w w' => Kp [] w w') [10] [9] (by kernel_rfl) (by kernel_rfl) (by kernel_rfl) [7] (fun k a a' w ht h => by have e7 := ht 7 (by simp); rw [e7]; exact h) (by kernel_rfl) (by decide) (by kernel_rfl) ⟨StabAt2.const _, StabAt2.const _, StabAt2.const _, StabAt2.const _, StabAt2.const _, StabAt2.const _, StabAt2.const _, StabAt2.const _, StabAt2.const _, ⟨fun p v w w' h1 h2 hR ⟨b, e, h, hz⟩ => ⟨b, e, h, fun hp => by omega⟩, fun k v w w' hR ⟨b, e, h, hz⟩ => ⟨b, e, h, fun hp => hR.heap (hz hp) (by simp)⟩⟩, StabAt2.const _, trivial⟩ (⟨(Kp.refl _ _).drew, fun h => by omega⟩) ⟨?_, ?_, ?_, ?_, ?_, ?_, ?_, ?_, ?_, ?_, ?_, trivial⟩ (by kernel_rfl) ?_
  · intro q9 a w E hC K hK
    have h0 : a.tmps[0]? = some (.pointer (some ⟨g, 0, none⟩)) := (E.out 0 (by kernel_rfl)).trans rfl
    refine want_none rfl ?_
    go_simp
    exact hK _ rfl
  · intro q9 a w E hC K hK
    obtain ⟨_, h108, rfl⟩ := E.pred 0 _ 108 rfl rfl (by kernel_rfl)
    refine want_none rfl ?_
    have cl := lt_of_heap H4.out
    go_simp
    exact hK _ rfl
  · intro q9 a w E hC K hK
    obtain ⟨_, h109, rfl⟩ := E.pred 1 _ 109 rfl rfl (by kernel_rfl)
    refine want_none rfl ?_
    go_simp
    exact hK _ rfl
  · intro q9 a w E hC K hK
    obtain ⟨_, h110, rfl⟩ := E.pred 2 _ 110 rfl rfl (by kernel_rfl)
    refine want_none rfl ?_
    have hh := hC.1.heap H4.out (by simp)
    have c9 := cell_of hh 1
    have cl := lt_of_heap hh
    clear hh
    go_simp
    exact hK _ rfl
  · intro q9 a w E hC K hK
    have h0 : a.tmps[0]? = some (.pointer (some ⟨g, 0, none⟩)) := (E.out 0 (by kernel_rfl)).trans rfl
    refine want_none rfl ?_
    go_simp
    exact hK _ rfl
  · intro q9 a w E hC K hK
    obtain ⟨_, h112, rfl⟩ := E.pred 4 _ 112 rfl rfl (by kernel_rfl)
    refine want_none rfl ?_
    have cl := lt_of_heap H4.out
    go_simp
    exact hK _ rfl
  · intro q9 a w E hC K hK
    obtain ⟨_, h113, rfl⟩ := E.pred 5 _ 113 rfl rfl (by kernel_rfl)
    refine want_none rfl ?_
    go_simp
    exact hK _ rfl
  · intro q9 a w E hC K hK
    obtain ⟨_, h114, rfl⟩ := E.pred 6 _ 114 rfl rfl (by kernel_rfl)
    refine want_none rfl ?_
    have hh := hC.1.heap H4.out (by simp)
    have c9 := cell_of hh 3
    have cl := lt_of_heap hh
    clear hh
    go_simp
    exact hK _ rfl
  · intro q9 a w E hC K hK
    obtain ⟨_, h111, rfl⟩ := E.pred 3 _ 111 rfl rfl (by kernel_rfl)
    obtain ⟨_, h115, rfl⟩ := E.pred 7 _ 115 rfl rfl (by kernel_rfl)
    refine want_none rfl ?_
    go_simp
    exact hK _ rfl
  · intro q9 a w E hC K hK
    refine want_none rfl ?_
    have hk := E.lim 0 10 _ rfl rfl (by kernel_rfl)
    go_simp
    exact hK _ _ ⟨w.heap.size, rfl, hC.1.size, fun _ => hp_new _ _ _ rfl⟩ ⟨hC.1.alloc _, fun h => by omega⟩ ((Kp.refl [] w).alloc _)
  · intro a w E hC K hK
    obtain ⟨v9, h7, V9⟩ := E.pred 9 _ 7 rfl rfl (by kernel_rfl)
    replace V9 : (fun p v w => ∃ b : Nat, v = .pointer (some ⟨b, 0, none⟩) ∧ w4.heap.size ≤ b ∧ (p ≤ 0 → w.heap[b]? = some (.cells #[.int .i64 0, .int .i64 0, .int .i64 0, .slice none 0 0, .int .i64 0, .int .u32 0, .int .i64 0, .int .i64 0, .int .i64 0, .bool false, .int .i64 0, .slice none 0 0] 34))) 0 v9 w := V9
    obtain ⟨b9, rfl, hl9, hG9⟩ := V9
    obtain ⟨_, h116, rfl⟩ := E.pred 8 _ 116 rfl rfl (by kernel_rfl)
    refine want_none rfl ?_
    have hz := hG9 (by omega)
    have HZ := Lib.hid hz
    obtain ⟨q0, q1, q2, q3, q4, q5, q6, q7, q8, q9, q10, q11, qz, qlt, qlt2⟩ := jcellsF hz
    clear hz hG9
    go_simp
    generalize hW : World.setCell _ _ _ = w2
    obtain ⟨hs1, hs2⟩ : w2.heap[b9]? = some (.cells #[.int .i64 1, .int .i64 4, .int .i64 st, .slice A' (n + pn) c', .int .i64 0, .int .u32 0, .int .i64 0, .int .i64 0, .int .i64 0, .bool false, .int .i64 0, .slice none 0 0] 34) ∧ Kp [b9] w w2 := by rw [← hW]; exact jset12 HZ.out
    exact hK undef _ trivial ⟨hC.1.then hs2 (by simp; omega), fun _ => ⟨b9, h7, hl9, hs1⟩⟩ trivial
  intro vs w5 hC hV
  obtain ⟨bn, e9, hln, hf9⟩ := hC.2 (by simp)
  have e9v : vs 9 = .pointer (some ⟨bn, 0, none⟩) := by
    simp only [putAll, Act.put, List.setIfInBounds_toArray, Nat.zero_add, Nat.reduceAdd] at e9
    dsimp only [List.set] at e9
    simpa using e9
  have HW5 := Lib.hid hf9
  have H5 := Lib.hid (hC.1.heap H4.out (by simp))
  have HF5 := Lib.hid (hC.1.heap HF4.out (by simp))
  have HX5 := Lib.hid (hC.1.heap HX4.out (by simp))
  have K5 := Lib.hid (K4.out.trans hC.1.nil)
  have HO5 := Lib.hid (HO4.out.keep hC.1 (by simp))
  have hbn : bx + 1 + 1 < bn := by have := lt_of_heap HX4.out; omega
  have hA9 := Lib.hid (show ∀ t, t ∈ ob A' → t < bn from fun t ht => by have := HO4.out.base t ht; omega)
  clear hV hC e9 hf9 H4 HB4 HF4 HX4 K4 HO4 c0 c1 c2 c3 cz cl b0 b1 b2 b3 b4 b5 b6 b7 b8 b9 b10 b11 bz blt blt2 q0 q1 q2 q3 q4 q5 q6 q7 q8 q9 q10 q11 qz qlt qlt2 x0 x1 x2 xz xl
  simp only [putAll, Act.put, List.setIfInBounds_toArray, Nat.zero_add, Nat.reduceAdd]
  dsimp only [List.set]
  rw [e9v]
  have c0 := cell_of H5.out 0
  have c1 := cell_of H5.out 1
  have c2 := cell_of H5.out 2
  have c3 := cell_of H5.out 3
  have cz := frozen_of H5.out
  have cl := lt_of_heap H5.out
  obtain ⟨q0, q1, q2, q3, q4, q5, q6, q7, q8, q9, q10, q11, qz, qlt, qlt2⟩ := jcellsF HF5.out
  have x0 := cell_of HX5.out 0
  have x1 := cell_of HX5.out 1
  have x2 := cell_of HX5.out 2
  have xz := frozen_of HX5.out
  have xl := lt_of_heap HX5.out
  obtain ⟨b0, b1, b2, b3, b4, b5, b6, b7, b8, b9, b10, b11, bz, blt, blt2⟩ := jcellsF HW5.out
  go_wp2
  generalize hV : World.setCell (World.setCell (World.setCell w5 ⟨g, 1, none⟩ (.int .i64 0)) ⟨g, 2, none⟩ (.bool false)) ⟨g, 3, none⟩ (.slice none 0 0) = w6
  have K56 : Kp [g, bn] w5 w6 := by rw [← hV]; exact ((((Kp.refl [g, bn] w5).setCell (.inl (by simp)) _).setCell (.inl (by simp)) _).setCell (.inl (by simp)) _)
  have H6 := Lib.hid (show w6.heap[g]? = some (.cells #[.int .i64 most, .int .i64 0, .bool false, .slice none 0 0] 42) by rw [← hV]; exact hp_set _ _ _ _ _ _ (hp_set _ _ _ _ _ _ (hp_set _ _ _ _ _ _ H5.out)))
  have HF6 := Lib.hid (K56.heap HF5.out (by simp; omega))
  have HX6 := Lib.hid (K56.heap HX5.out (by simp; omega))
  have HO6 := Lib.hid (HO5.out.keep K56 (fun b hb hs => by have := hA9.out b hb; simp at hs; rcases hs with e | e; subst e; exact g4 hb; omega))
  have K6 := Lib.hid (K5.out.then K56 (by intro t ht; simp at ht; rcases ht with e | e; left; simp [e]; right; have := HWB.out; omega))
  clear hV K56 H5 HF5 HX5 HO5 K5
  generalize hW : World.setCell _ _ _ = W
  obtain ⟨HF9, HX9, K9⟩ : W.heap[(bx + 1)]? = some (.cells #[.int .i64 1, .int .i64 4, .int .i64 st, .slice A' (n + pn) c', .int .i64 0, .int .u32 0, .int .i64 0, .int .i64 0, .int .i64 0, .bool false, .int .i64 0, .slice none 0 0] 34) ∧ W.heap[(bx + 1 + 1)]? = some (.cells #[.bool false, .int .i64 0, .int .i64 0] 36) ∧ Kp [(bx + 1), (bx + 1 + 1)] w6 W := by rw [← hW]; exact jset15 (by omega) HF6.out HX6.out
  refine bodyPost_ret (v := .tuple #[.agg #[.int .i64 1, .int .i64 4, .int .i64 st, .slice A' (n + pn) c', .int .i64 0, .int .u32 0, .int .i64 0, .int .i64 0, .int .i64 0, .bool false, .int .i64 0, .slice none 0 0], .bool true, .agg #[.bool false, .int .i64 0, .int .i64 0]]) (by simp [results, Try.results7, go_sem, cell_of HF9, cell_of HX9]) rfl ⟨A', c', rfl, K9.heap H6.out (by simp; omega), (HO6.out.keep K9 (fun b hb hs => by have := NEW4.out b hb; simp at hs; omega)), ⟨g4, STR4.out⟩, K6.out.then K9 (by intro t ht; simp at ht; right; have := HWB.out; omega)⟩
end Go.Proofs.Ytibeaombhjdakaa
