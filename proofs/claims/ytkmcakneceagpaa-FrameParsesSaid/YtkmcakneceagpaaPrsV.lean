/- frame.unpad: the padded frames of types with more. -/
import Derived.Test.YtkmcakneceagpaaPrsU
set_option linter.unusedVariables false
set_option linter.unusedSimpArgs false
set_option linter.unusedSimpArgs false
namespace Go.Proofs.Ytkmcakneceagpaa
open Go.RowKit
set_option maxHeartbeats 2000000 in
set_option maxRecDepth 100000 in
theorem unpad5t (fl st : Int) (z any : Bool) (f1 f2 f3 f4 : Value) (h1 : f1.cells = #[f1]) (h2 : f2.cells = #[f2]) (h3 : f3.cells = #[f3]) (h4 : f4.cells = #[f4]) (hf0 : 0 ≤ fl) (hf1 : fl ≤ 255) (h8 : hasB fl 8 = true) (g : Nat) (A : Option Addr) (n c : Nat) (l : List UInt8) (w : World) (hB : w.heap[g]? = some (.cells #[.int .i64 5, .int .i64 fl, .int .i64 st, .slice none 0 0, .int .i64 0, .int .u32 0, .int .i64 0, .int .i64 0, .int .i64 0, .bool false, .int .i64 0, .slice none 0 0] 49)) (hr : Rd w A n c l) (hgA : g ∉ ob A) (hn : n ≤ 16777216) :
    Calls Try.prog 151 #[.pointer (some ⟨g, 0, none⟩), .agg #[.bool z, .bool any, .bool true, f1, f2, f3, f4], .slice A n c] w (UnR 5 fl st g (unS 5 fl l) w) := by
  have hp : padF 5 fl = true := by simp [padF, paddedB, h8]
  have hfx : fixedN 5 fl = 4 := by simp [fixedN]
  have hb8 : (bits .and .i64 fl 8 == 0) = false := by
    have := (bits_has fl hf0 hf1).2.1
    rw [h8] at this
    simpa [bne] using this
  have hlen := hr.len
  unfold unS
  rw [hp, hfx]
  have HB := Lib.hid hB
  have HR := Lib.hid hr
  have HLEN := Lib.hid hlen
  have hg := lt_of_heap hB
  have hcap := hr.cap
  obtain ⟨q0, q1, q2, q3, q4, q5, q6, q7, q8, q9, q10, q11, qz, qlt, qlt2⟩ := cellsF hB
  rw [if_pos rfl]
  by_cases hs : n < 1 + 4
  · rw [if_pos (by omega)]
    clear hB hr hp hfx h8 hlen
    go_enter Try.func151, Try.ntmps151
    go_wp2
    go_ret2
    exact ⟨rfl, ⟨(⟨5, fl, st, none, 0, 0, 0, 0, 0, 0, 0, false, 0, none, 0, 0⟩ : Fr), ((hp_old _ _ _ hg).trans HB.out)⟩, Kp.nil (by (repeat (first | with_reducible exact Kp.refl _ _ | with_reducible assumption | with_reducible refine Kp.alloc ?_ _ | with_reducible refine Kp.drew ?_ | with_reducible refine Kp.drewN ?_ _ | (with_reducible refine Kp.setL ?_ ?_ _; focus (simp; done)) | (with_reducible refine Kp.setR ?_ ?_ _; focus (simp; done)) | (with_reducible refine Kp.setR ?_ ?_ _; focus (simp; omega)))))⟩
  · rw [if_neg (by omega)]
    obtain ⟨b, o, rfl, hbw, hcell⟩ := hr.addr (by omega)
    obtain ⟨n1, rfl⟩ : ∃ n1, n = n1 + 1 := ⟨n - 1, by omega⟩
    obtain ⟨c1, rfl⟩ : ∃ c1, c = c1 + 1 := ⟨c - 1, by omega⟩
    have hy := (l.getD 0 0).toNat_lt
    have hQ := hcell 0 (by omega)
    rw [Nat.add_zero] at hQ
    generalize hyd : (l.getD 0 0).toNat = y at *
    have hbg : ¬ b = g := fun h => hgA (by simp [ob, h])
    have HQ0 := Lib.hid hQ
    have HWY := Lib.hid (show IntKind.i64.wrap (y : Int) = (y : Int) from IntWalk.i64_in _ (by omega))
    have hll : (l.length : Int) - 1 = (n1 : Int) := by omega
    have hl1 : l.length - 1 = n1 := by omega
    rw [hll, hl1]
    clear hB hr hp hfx h8 hcell hlen hQ hyd hll hl1
    by_cases hbd : (n1 : Int) - (y : Int) < ((4 : Nat) : Int)
    · have hc1 : ¬ c1 = 0 := by omega
      rw [if_pos hbd]
      have hbd' : (n1 : Int) - (y : Int) < 4 := by simpa using hbd
      clear hbd
      go_enter Try.func151, Try.ntmps151
      go_wp2
      generalize hW : World.alloc _ _ = w1
      obtain ⟨K1, _⟩ := new_at hW
      have HB1 := Lib.hid (K1.heap HB.out (by simp))
      have HK1 := Lib.hid K1
      clear hW K1 q0 q1 q2 q3 q4 q5 q6 q7 q8 q9 q10 q11 qz qlt qlt2
      have HQ := Lib.hid (HK1.out.cell HQ0.out (by simp))
      have HR1 := Lib.hid (HR.out.keep HK1.out (by simp))
      refine wp_region_st (by kernel_rfl) [fun _ v _ => v = (.pointer (some ⟨g, 0, none⟩)),
          fun _ v _ => v = (.slice (some ⟨b, o, none⟩) (n1 + 1) (c1 + 1)),
          fun _ v _ => v = (.pointer (some ⟨b, o, none⟩)),
          fun _ v _ => v = (.int .u8 (y : Int)),
          fun _ v _ => v = (.int .i64 (y : Int)),
          fun _ v _ => v = (.slice (some ⟨b, o, none⟩) (n1 + 1) (c1 + 1)),
          fun _ v _ => v = (.slice (some ⟨b, o + 1, none⟩) n1 c1),
          fun _ v _ => v = (.pointer (some ⟨g, 0, none⟩)),
          fun _ v _ => v = (.pointer (some ⟨g, 4, none⟩)),
          fun _ v w => True,
          fun _ v _ => v = (.slice (some ⟨b, o + 1, none⟩) n1 c1)] (fun p w => Kp [g] w1 w ∧ (p ≤ 0 → Kp [] w1 w) ∧ (1 ≤ p → w.heap[g]? = some (.cells #[.int .i64 5, .int .i64 fl, .int .i64 st, .slice none 0 0, .int .i64 (y : Int), .int .u32 0, .int .i64 0, .int .i64 0, .int .i64 0, .bool false, .int .i64 0, .slice none 0 0] 49))) (fun _ _ _ => True) (fun w w' => Kp [] w w') [9] [] (by kernel_rfl) (by kernel_rfl) (by kernel_rfl) (by decide) (by kernel_rfl) ⟨StabAt2.const _, StabAt2.const _, StabAt2.const _, StabAt2.const _, StabAt2.const _, StabAt2.const _, StabAt2.const _, StabAt2.const _, StabAt2.const _, ⟨fun _ _ _ _ _ _ _ h => h, fun _ _ _ _ _ h => h⟩, StabAt2.const _, trivial⟩ (⟨(Kp.refl _ _).drew, fun _ => (Kp.refl _ _).drew, fun h => by omega⟩) ⟨?_, ?_, ?_, ?_, ?_, ?_, ?_, ?_, ?_, ?_, ?_, trivial⟩ (by kernel_rfl) ?_
      · intro q9 a w E hC K hK
        have h0 : a.tmps[0]? = some (.pointer (some ⟨g, 0, none⟩)) := (E.out 0 (by kernel_rfl)).trans rfl
        refine want_none rfl ?_
        go_simp
        exact hK _ rfl
      · intro q9 a w E hC K hK
        have h2 : a.tmps[2]? = some (.slice (some ⟨b, o, none⟩) (n1 + 1) (c1 + 1)) := (E.out 2 (by kernel_rfl)).trans rfl
        refine want_none rfl ?_
        go_simp
        exact hK _ rfl
      · intro q9 a w E hC K hK
        obtain ⟨_, h50, rfl⟩ := E.pred 1 _ 50 rfl rfl (by kernel_rfl)
        refine want_none rfl ?_
        go_simp
        exact hK _ rfl
      · intro q9 a w E hC K hK
        obtain ⟨_, h51, rfl⟩ := E.pred 2 _ 51 rfl rfl (by kernel_rfl)
        refine want_none rfl ?_
        have g1 := hC.1.cell HQ.out (by simp [hbg])
        go_simp
        exact hK _ rfl
      · intro q9 a w E hC K hK
        obtain ⟨_, h52, rfl⟩ := E.pred 3 _ 52 rfl rfl (by kernel_rfl)
        refine want_none rfl ?_
        have e1 := HWY.out
        go_simp
        exact hK _ rfl
      · intro q9 a w E hC K hK
        have h2 : a.tmps[2]? = some (.slice (some ⟨b, o, none⟩) (n1 + 1) (c1 + 1)) := (E.out 2 (by kernel_rfl)).trans rfl
        refine want_none rfl ?_
        go_simp
        exact hK _ rfl
      · intro q9 a w E hC K hK
        obtain ⟨_, h54, rfl⟩ := E.pred 5 _ 54 rfl rfl (by kernel_rfl)
        refine want_none rfl ?_
        have i1 : (1 : Int) ≤ (n1 : Int) + 1 := by omega
        go_simp
        exact hK _ rfl
      · intro q9 a w E hC K hK
        obtain ⟨_, h49, rfl⟩ := E.pred 0 _ 49 rfl rfl (by kernel_rfl)
        refine want_none rfl ?_
        go_simp
        exact hK _ rfl
      · intro q9 a w E hC K hK
        obtain ⟨_, h56, rfl⟩ := E.pred 7 _ 56 rfl rfl (by kernel_rfl)
        refine want_none rfl ?_
        go_simp
        exact hK _ rfl
      · intro a w E hC K hK
        obtain ⟨_, h57, rfl⟩ := E.pred 8 _ 57 rfl rfl (by kernel_rfl)
        obtain ⟨_, h53, rfl⟩ := E.pred 4 _ 53 rfl rfl (by kernel_rfl)
        refine want_none rfl ?_
        have hb := (hC.2.1 (by omega)).heap HB1.out (by simp)
        have g4 := cell_of hb 4
        have gz := frozen_of hb
        go_simp
        exact hK undef _ trivial ⟨hC.1.setCell (.inl (by simp)) _, fun h => by omega, fun _ => hp_set _ _ _ _ _ _ hb⟩ trivial
      · intro q9 a w E hC K hK
        obtain ⟨_, h55, rfl⟩ := E.pred 6 _ 55 rfl rfl (by kernel_rfl)
        refine want_none rfl ?_
        go_simp
        exact hK _ rfl
      intro vs w7 hC hV
      have h10 := hV 10 _ rfl (by simp)
      replace h10 : vs 10 = (.slice (some ⟨b, o + 1, none⟩) n1 c1) := h10
      have HB7 := Lib.hid (hC.2.2 (Nat.le_refl _))
      have HR7 := Lib.hid (HR1.out.keep hC.1 (by intro _ t h1 h2; simp at h2; subst h2; exact hgA h1))
      have HK7 := Lib.hid ((Kp.nil HK1.out).trans hC.1)
      clear hV hC HB1 HR1 HK1 HQ
      simp only [putAll, Act.put, List.setIfInBounds_toArray]
      dsimp only [List.set]
      rw [h10]
      clear h10
      obtain ⟨q0, q1, q2, q3, q4, q5, q6, q7, q8, q9, q10, q11, qz, qlt, qlt2⟩ := cellsF HB7.out
      go_wp2
      go_ret2
      exact ⟨rfl, ⟨(⟨5, fl, st, none, 0, 0, (y : Int), 0, 0, 0, 0, false, 0, none, 0, 0⟩ : Fr), HB7.out⟩, HK7.out⟩
    · have hc1 : ¬ c1 = 0 := by omega
      rw [if_neg hbd]
      have hbd' : ¬ (n1 : Int) - (y : Int) < 4 := by simpa using hbd
      clear hbd
      go_enter Try.func151, Try.ntmps151
      go_wp2
      generalize hW : World.alloc _ _ = w1
      obtain ⟨K1, _⟩ := new_at hW
      have HB1 := Lib.hid (K1.heap HB.out (by simp))
      have HK1 := Lib.hid K1
      clear hW K1 q0 q1 q2 q3 q4 q5 q6 q7 q8 q9 q10 q11 qz qlt qlt2
      have HQ := Lib.hid (HK1.out.cell HQ0.out (by simp))
      have HR1 := Lib.hid (HR.out.keep HK1.out (by simp))
      refine wp_region_st (by kernel_rfl) [fun _ v _ => v = (.pointer (some ⟨g, 0, none⟩)),
          fun _ v _ => v = (.slice (some ⟨b, o, none⟩) (n1 + 1) (c1 + 1)),
          fun _ v _ => v = (.pointer (some ⟨b, o, none⟩)),
          fun _ v _ => v = (.int .u8 (y : Int)),
          fun _ v _ => v = (.int .i64 (y : Int)),
          fun _ v _ => v = (.slice (some ⟨b, o, none⟩) (n1 + 1) (c1 + 1)),
          fun _ v _ => v = (.slice (some ⟨b, o + 1, none⟩) n1 c1),
          fun _ v _ => v = (.pointer (some ⟨g, 0, none⟩)),
          fun _ v _ => v = (.pointer (some ⟨g, 4, none⟩)),
          fun _ v w => True,
          fun _ v _ => v = (.slice (some ⟨b, o + 1, none⟩) n1 c1)] (fun p w => Kp [g] w1 w ∧ (p ≤ 0 → Kp [] w1 w) ∧ (1 ≤ p → w.heap[g]? = some (.cells #[.int .i64 5, .int .i64 fl, .int .i64 st, .slice none 0 0, .int .i64 (y : Int), .int .u32 0, .int .i64 0, .int .i64 0, .int .i64 0, .bool false, .int .i64 0, .slice none 0 0] 49))) (fun _ _ _ => True) (fun w w' => Kp [] w w') [9] [] (by kernel_rfl) (by kernel_rfl) (by kernel_rfl) (by decide) (by kernel_rfl) ⟨StabAt2.const _, StabAt2.const _, StabAt2.const _, StabAt2.const _, StabAt2.const _, StabAt2.const _, StabAt2.const _, StabAt2.const _, StabAt2.const _, ⟨fun _ _ _ _ _ _ _ h => h, fun _ _ _ _ _ h => h⟩, StabAt2.const _, trivial⟩ (⟨(Kp.refl _ _).drew, fun _ => (Kp.refl _ _).drew, fun h => by omega⟩) ⟨?_, ?_, ?_, ?_, ?_, ?_, ?_, ?_, ?_, ?_, ?_, trivial⟩ (by kernel_rfl) ?_
      · intro q9 a w E hC K hK
        have h0 : a.tmps[0]? = some (.pointer (some ⟨g, 0, none⟩)) := (E.out 0 (by kernel_rfl)).trans rfl
        refine want_none rfl ?_
        go_simp
        exact hK _ rfl
      · intro q9 a w E hC K hK
        have h2 : a.tmps[2]? = some (.slice (some ⟨b, o, none⟩) (n1 + 1) (c1 + 1)) := (E.out 2 (by kernel_rfl)).trans rfl
        refine want_none rfl ?_
        go_simp
        exact hK _ rfl
      · intro q9 a w E hC K hK
        obtain ⟨_, h50, rfl⟩ := E.pred 1 _ 50 rfl rfl (by kernel_rfl)
        refine want_none rfl ?_
        go_simp
        exact hK _ rfl
      · intro q9 a w E hC K hK
        obtain ⟨_, h51, rfl⟩ := E.pred 2 _ 51 rfl rfl (by kernel_rfl)
        refine want_none rfl ?_
        have g1 := hC.1.cell HQ.out (by simp [hbg])
        go_simp
        exact hK _ rfl
      · intro q9 a w E hC K hK
        obtain ⟨_, h52, rfl⟩ := E.pred 3 _ 52 rfl rfl (by kernel_rfl)
        refine want_none rfl ?_
        have e1 := HWY.out
        go_simp
        exact hK _ rfl
      · intro q9 a w E hC K hK
        have h2 : a.tmps[2]? = some (.slice (some ⟨b, o, none⟩) (n1 + 1) (c1 + 1)) := (E.out 2 (by kernel_rfl)).trans rfl
        refine want_none rfl ?_
        go_simp
        exact hK _ rfl
      · intro q9 a w E hC K hK
        obtain ⟨_, h54, rfl⟩ := E.pred 5 _ 54 rfl rfl (by kernel_rfl)
        refine want_none rfl ?_
        have i1 : (1 : Int) ≤ (n1 : Int) + 1 := by omega
        go_simp
        exact hK _ rfl
      · intro q9 a w E hC K hK
        obtain ⟨_, h49, rfl⟩ := E.pred 0 _ 49 rfl rfl (by kernel_rfl)
        refine want_none rfl ?_
        go_simp
        exact hK _ rfl
      · intro q9 a w E hC K hK
        obtain ⟨_, h56, rfl⟩ := E.pred 7 _ 56 rfl rfl (by kernel_rfl)
        refine want_none rfl ?_
        go_simp
        exact hK _ rfl
      · intro a w E hC K hK
        obtain ⟨_, h57, rfl⟩ := E.pred 8 _ 57 rfl rfl (by kernel_rfl)
        obtain ⟨_, h53, rfl⟩ := E.pred 4 _ 53 rfl rfl (by kernel_rfl)
        refine want_none rfl ?_
        have hb := (hC.2.1 (by omega)).heap HB1.out (by simp)
        have g4 := cell_of hb 4
        have gz := frozen_of hb
        go_simp
        exact hK undef _ trivial ⟨hC.1.setCell (.inl (by simp)) _, fun h => by omega, fun _ => hp_set _ _ _ _ _ _ hb⟩ trivial
      · intro q9 a w E hC K hK
        obtain ⟨_, h55, rfl⟩ := E.pred 6 _ 55 rfl rfl (by kernel_rfl)
        refine want_none rfl ?_
        go_simp
        exact hK _ rfl
      intro vs w7 hC hV
      have h10 := hV 10 _ rfl (by simp)
      replace h10 : vs 10 = (.slice (some ⟨b, o + 1, none⟩) n1 c1) := h10
      have HB7 := Lib.hid (hC.2.2 (Nat.le_refl _))
      have HR7 := Lib.hid (HR1.out.keep hC.1 (by intro _ t h1 h2; simp at h2; subst h2; exact hgA h1))
      have HK7 := Lib.hid ((Kp.nil HK1.out).trans hC.1)
      clear hV hC HB1 HR1 HK1 HQ
      simp only [putAll, Act.put, List.setIfInBounds_toArray]
      dsimp only [List.set]
      rw [h10]
      clear h10
      obtain ⟨q0, q1, q2, q3, q4, q5, q6, q7, q8, q9, q10, q11, qz, qlt, qlt2⟩ := cellsF HB7.out
      go_wp2
      go_ret2
      have hq := HR7.out.sub 1 (1 + (n1 - y)) (by omega) (by omega) (A' := (some ⟨b, o + 1, none⟩)) (by intro b' o' h1 h2; injection h1 with h1; injection h1 with h1 h3 _; rw [h1, h3])
      have eq1 : 1 + (n1 - y) - 1 = n1 - y := by omega
      rw [eq1] at hq
      exact ⟨(some ⟨b, o + 1, none⟩), n1 - y, n1 - y, rfl, ⟨hq.len, Nat.le_refl _, hq.at_⟩, by simp [ob]; omega, by omega, HB7.out, HK7.out⟩
set_option maxHeartbeats 2000000 in
set_option maxRecDepth 100000 in
theorem unpad1ft (fl st : Int) (z any : Bool) (f1 f2 f3 f4 : Value) (h1 : f1.cells = #[f1]) (h2 : f2.cells = #[f2]) (h3 : f3.cells = #[f3]) (h4 : f4.cells = #[f4]) (hf0 : 0 ≤ fl) (hf1 : fl ≤ 255) (h8 : hasB fl 8 = true) (h32 : hasB fl 32 = false) (g : Nat) (A : Option Addr) (n c : Nat) (l : List UInt8) (w : World) (hB : w.heap[g]? = some (.cells #[.int .i64 1, .int .i64 fl, .int .i64 st, .slice none 0 0, .int .i64 0, .int .u32 0, .int .i64 0, .int .i64 0, .int .i64 0, .bool false, .int .i64 0, .slice none 0 0] 49)) (hr : Rd w A n c l) (hgA : g ∉ ob A) (hn : n ≤ 16777216) :
    Calls Try.prog 151 #[.pointer (some ⟨g, 0, none⟩), .agg #[.bool z, .bool any, .bool true, f1, f2, f3, f4], .slice A n c] w (UnR 1 fl st g (unS 1 fl l) w) := by
  have hp : padF 1 fl = true := by simp [padF, paddedB, h8]
  have hfx : fixedN 1 fl = 0 := by simp [fixedN, h32]
  have hb8 : (bits .and .i64 fl 8 == 0) = false := by
    have := (bits_has fl hf0 hf1).2.1
    rw [h8] at this
    simpa [bne] using this
  have hlen := hr.len
  unfold unS
  rw [hp, hfx]
  have HPR := Lib.hid (show prioB 1 fl = false by simp [prioB, h32])
  clear h32
  have HB := Lib.hid hB
  have HR := Lib.hid hr
  have HLEN := Lib.hid hlen
  have hg := lt_of_heap hB
  have hcap := hr.cap
  obtain ⟨q0, q1, q2, q3, q4, q5, q6, q7, q8, q9, q10, q11, qz, qlt, qlt2⟩ := cellsF hB
  rw [if_pos rfl]
  by_cases hs : n < 1 + 0
  · rw [if_pos (by omega)]
    clear hB hr hp hfx h8 hlen
    go_enter Try.func151, Try.ntmps151
    go_wp2_with fail
    generalize hW : World.alloc _ _ = wa
    obtain ⟨K1, hkb⟩ := new_at hW
    have HKa2 := Lib.hid hkb
    have HBa := Lib.hid (K1.heap HB.out (by simp))
    have HKa := Lib.hid K1
    clear hW K1 hkb q0 q1 q2 q3 q4 q5 q6 q7 q8 q9 q10 q11 qz qlt qlt2
    refine (weightedF (⟨1, fl, st, none, 0, 0, 0, 0, 0, 0, 0, false, 0, none, 0, 0⟩ : Fr) _ hf0 hf1).mono ?_
    rintro e w1 ⟨rfl, K2⟩
    rw [HPR.out]
    have HB1 := Lib.hid (K2.heap HBa.out (by simp))
    have HK1 := Lib.hid (HKa.out.trans K2)
    have HKB1 := Lib.hid (K2.heap HKa2.out (by simp))
    have k_2 := cell_of HKB1.out 2
    have k_l := lt_of_heap HKB1.out
    clear HBa HKa HKa2 K2
    obtain ⟨q0, q1, q2, q3, q4, q5, q6, q7, q8, q9, q10, q11, qz, qlt, qlt2⟩ := cellsF HB1.out
    go_wp2
    go_ret2
    exact ⟨rfl, ⟨(⟨1, fl, st, none, 0, 0, 0, 0, 0, 0, 0, false, 0, none, 0, 0⟩ : Fr), HB1.out⟩, Kp.nil HK1.out⟩
  · rw [if_neg (by omega)]
    obtain ⟨b, o, rfl, hbw, hcell⟩ := hr.addr (by omega)
    obtain ⟨n1, rfl⟩ : ∃ n1, n = n1 + 1 := ⟨n - 1, by omega⟩
    obtain ⟨c1, rfl⟩ : ∃ c1, c = c1 + 1 := ⟨c - 1, by omega⟩
    have hy := (l.getD 0 0).toNat_lt
    have hQ := hcell 0 (by omega)
    rw [Nat.add_zero] at hQ
    generalize hyd : (l.getD 0 0).toNat = y at *
    have hbg : ¬ b = g := fun h => hgA (by simp [ob, h])
    have HQ0 := Lib.hid hQ
    have HWY := Lib.hid (show IntKind.i64.wrap (y : Int) = (y : Int) from IntWalk.i64_in _ (by omega))
    have hll : (l.length : Int) - 1 = (n1 : Int) := by omega
    have hl1 : l.length - 1 = n1 := by omega
    rw [hll, hl1]
    clear hB hr hp hfx h8 hcell hlen hQ hyd hll hl1
    by_cases hbd : (n1 : Int) - (y : Int) < ((0 : Nat) : Int)
    · by_cases hc1 : c1 = 0
      · subst hc1
        rw [if_pos hbd]
        have hbd' : (n1 : Int) - (y : Int) < 0 := by simpa using hbd
        clear hbd
        obtain rfl : n1 = 0 := by omega
        go_enter Try.func151, Try.ntmps151
        go_wp2_with fail
        generalize hW : World.alloc _ _ = wa
        obtain ⟨K1, hkb⟩ := new_at hW
        have HKa2 := Lib.hid hkb
        have HBa := Lib.hid (K1.heap HB.out (by simp))
        have HKa := Lib.hid K1
        clear hW K1 hkb q0 q1 q2 q3 q4 q5 q6 q7 q8 q9 q10 q11 qz qlt qlt2
        refine (weightedF (⟨1, fl, st, none, 0, 0, 0, 0, 0, 0, 0, false, 0, none, 0, 0⟩ : Fr) _ hf0 hf1).mono ?_
        rintro e w1 ⟨rfl, K2⟩
        rw [HPR.out]
        have HB1 := Lib.hid (K2.heap HBa.out (by simp))
        have HK1 := Lib.hid (HKa.out.trans K2)
        have HKB1 := Lib.hid (K2.heap HKa2.out (by simp))
        have k_2 := cell_of HKB1.out 2
        have k_l := lt_of_heap HKB1.out
        clear HBa HKa HKa2 K2
        obtain ⟨q0, q1, q2, q3, q4, q5, q6, q7, q8, q9, q10, q11, qz, qlt, qlt2⟩ := cellsF HB1.out
        go_wp2
        clear q0 q1 q2 q3 q4 q5 q6 q7 q8 q9 q10 q11 qz qlt qlt2
        have HQ := Lib.hid (HK1.out.cell HQ0.out (by simp))
        have HR1 := Lib.hid (HR.out.keep HK1.out (by simp))
        refine wp_region_st (by kernel_rfl) [fun _ v _ => v = (.pointer (some ⟨g, 0, none⟩)),
            fun _ v _ => v = (.slice (some ⟨b, o, none⟩) 1 1),
            fun _ v _ => v = (.pointer (some ⟨b, o, none⟩)),
            fun _ v _ => v = (.int .u8 (y : Int)),
            fun _ v _ => v = (.int .i64 (y : Int)),
            fun _ v _ => v = (.slice (some ⟨b, o, none⟩) 1 1),
            fun _ v _ => v = (.slice (some ⟨b, o, none⟩) 0 0),
            fun _ v _ => v = (.pointer (some ⟨g, 0, none⟩)),
            fun _ v _ => v = (.pointer (some ⟨g, 4, none⟩)),
            fun _ v w => True,
            fun _ v _ => v = (.slice (some ⟨b, o, none⟩) 0 0)] (fun p w => Kp [g] w1 w ∧ (p ≤ 0 → Kp [] w1 w) ∧ (1 ≤ p → w.heap[g]? = some (.cells #[.int .i64 1, .int .i64 fl, .int .i64 st, .slice none 0 0, .int .i64 (y : Int), .int .u32 0, .int .i64 0, .int .i64 0, .int .i64 0, .bool false, .int .i64 0, .slice none 0 0] 49))) (fun _ _ _ => True) (fun w w' => Kp [] w w') [9] [] (by kernel_rfl) (by kernel_rfl) (by kernel_rfl) (by decide) (by kernel_rfl) ⟨StabAt2.const _, StabAt2.const _, StabAt2.const _, StabAt2.const _, StabAt2.const _, StabAt2.const _, StabAt2.const _, StabAt2.const _, StabAt2.const _, ⟨fun _ _ _ _ _ _ _ h => h, fun _ _ _ _ _ h => h⟩, StabAt2.const _, trivial⟩ (⟨(Kp.refl _ _).drew, fun _ => (Kp.refl _ _).drew, fun h => by omega⟩) ⟨?_, ?_, ?_, ?_, ?_, ?_, ?_, ?_, ?_, ?_, ?_, trivial⟩ (by kernel_rfl) ?_
        · intro q9 a w E hC K hK
          have h0 : a.tmps[0]? = some (.pointer (some ⟨g, 0, none⟩)) := (E.out 0 (by kernel_rfl)).trans rfl
          refine want_none rfl ?_
          go_simp
          exact hK _ rfl
        · intro q9 a w E hC K hK
          have h2 : a.tmps[2]? = some (.slice (some ⟨b, o, none⟩) 1 1) := (E.out 2 (by kernel_rfl)).trans rfl
          refine want_none rfl ?_
          go_simp
          exact hK _ rfl
        · intro q9 a w E hC K hK
          obtain ⟨_, h50, rfl⟩ := E.pred 1 _ 50 rfl rfl (by kernel_rfl)
          refine want_none rfl ?_
          go_simp
          exact hK _ rfl
        · intro q9 a w E hC K hK
          obtain ⟨_, h51, rfl⟩ := E.pred 2 _ 51 rfl rfl (by kernel_rfl)
          refine want_none rfl ?_
          have g1 := hC.1.cell HQ.out (by simp [hbg])
          go_simp
          exact hK _ rfl
        · intro q9 a w E hC K hK
          obtain ⟨_, h52, rfl⟩ := E.pred 3 _ 52 rfl rfl (by kernel_rfl)
          refine want_none rfl ?_
          have e1 := HWY.out
          go_simp
          exact hK _ rfl
        · intro q9 a w E hC K hK
          have h2 : a.tmps[2]? = some (.slice (some ⟨b, o, none⟩) 1 1) := (E.out 2 (by kernel_rfl)).trans rfl
          refine want_none rfl ?_
          go_simp
          exact hK _ rfl
        · intro q9 a w E hC K hK
          obtain ⟨_, h54, rfl⟩ := E.pred 5 _ 54 rfl rfl (by kernel_rfl)
          refine want_none rfl ?_
          go_simp
          exact hK _ rfl
        · intro q9 a w E hC K hK
          obtain ⟨_, h49, rfl⟩ := E.pred 0 _ 49 rfl rfl (by kernel_rfl)
          refine want_none rfl ?_
          go_simp
          exact hK _ rfl
        · intro q9 a w E hC K hK
          obtain ⟨_, h56, rfl⟩ := E.pred 7 _ 56 rfl rfl (by kernel_rfl)
          refine want_none rfl ?_
          go_simp
          exact hK _ rfl
        · intro a w E hC K hK
          obtain ⟨_, h57, rfl⟩ := E.pred 8 _ 57 rfl rfl (by kernel_rfl)
          obtain ⟨_, h53, rfl⟩ := E.pred 4 _ 53 rfl rfl (by kernel_rfl)
          refine want_none rfl ?_
          have hb := (hC.2.1 (by omega)).heap HB1.out (by simp)
          have g4 := cell_of hb 4
          have gz := frozen_of hb
          go_simp
          exact hK undef _ trivial ⟨hC.1.setCell (.inl (by simp)) _, fun h => by omega, fun _ => hp_set _ _ _ _ _ _ hb⟩ trivial
        · intro q9 a w E hC K hK
          obtain ⟨_, h55, rfl⟩ := E.pred 6 _ 55 rfl rfl (by kernel_rfl)
          refine want_none rfl ?_
          go_simp
          exact hK _ rfl
        intro vs w7 hC hV
        have h10 := hV 10 _ rfl (by simp)
        replace h10 : vs 10 = (.slice (some ⟨b, o, none⟩) 0 0) := h10
        have HB7 := Lib.hid (hC.2.2 (Nat.le_refl _))
        have HR7 := Lib.hid (HR1.out.keep hC.1 (by intro _ t h1 h2; simp at h2; subst h2; exact hgA h1))
        have HK7 := Lib.hid ((Kp.nil HK1.out).trans hC.1)
        clear hV hC HB1 HR1 HK1 HQ
        simp only [putAll, Act.put, List.setIfInBounds_toArray]
        dsimp only [List.set]
        rw [h10]
        clear h10
        obtain ⟨q0, q1, q2, q3, q4, q5, q6, q7, q8, q9, q10, q11, qz, qlt, qlt2⟩ := cellsF HB7.out
        go_wp2
        go_ret2
        exact ⟨rfl, ⟨(⟨1, fl, st, none, 0, 0, (y : Int), 0, 0, 0, 0, false, 0, none, 0, 0⟩ : Fr), HB7.out⟩, HK7.out⟩
      · rw [if_pos hbd]
        have hbd' : (n1 : Int) - (y : Int) < 0 := by simpa using hbd
        clear hbd
        go_enter Try.func151, Try.ntmps151
        go_wp2_with fail
        generalize hW : World.alloc _ _ = wa
        obtain ⟨K1, hkb⟩ := new_at hW
        have HKa2 := Lib.hid hkb
        have HBa := Lib.hid (K1.heap HB.out (by simp))
        have HKa := Lib.hid K1
        clear hW K1 hkb q0 q1 q2 q3 q4 q5 q6 q7 q8 q9 q10 q11 qz qlt qlt2
        refine (weightedF (⟨1, fl, st, none, 0, 0, 0, 0, 0, 0, 0, false, 0, none, 0, 0⟩ : Fr) _ hf0 hf1).mono ?_
        rintro e w1 ⟨rfl, K2⟩
        rw [HPR.out]
        have HB1 := Lib.hid (K2.heap HBa.out (by simp))
        have HK1 := Lib.hid (HKa.out.trans K2)
        have HKB1 := Lib.hid (K2.heap HKa2.out (by simp))
        have k_2 := cell_of HKB1.out 2
        have k_l := lt_of_heap HKB1.out
        clear HBa HKa HKa2 K2
        obtain ⟨q0, q1, q2, q3, q4, q5, q6, q7, q8, q9, q10, q11, qz, qlt, qlt2⟩ := cellsF HB1.out
        go_wp2
        clear q0 q1 q2 q3 q4 q5 q6 q7 q8 q9 q10 q11 qz qlt qlt2
        have HQ := Lib.hid (HK1.out.cell HQ0.out (by simp))
        have HR1 := Lib.hid (HR.out.keep HK1.out (by simp))
        refine wp_region_st (by kernel_rfl) [fun _ v _ => v = (.pointer (some ⟨g, 0, none⟩)),
            fun _ v _ => v = (.slice (some ⟨b, o, none⟩) (n1 + 1) (c1 + 1)),
            fun _ v _ => v = (.pointer (some ⟨b, o, none⟩)),
            fun _ v _ => v = (.int .u8 (y : Int)),
            fun _ v _ => v = (.int .i64 (y : Int)),
            fun _ v _ => v = (.slice (some ⟨b, o, none⟩) (n1 + 1) (c1 + 1)),
            fun _ v _ => v = (.slice (some ⟨b, o + 1, none⟩) n1 c1),
            fun _ v _ => v = (.pointer (some ⟨g, 0, none⟩)),
            fun _ v _ => v = (.pointer (some ⟨g, 4, none⟩)),
            fun _ v w => True,
            fun _ v _ => v = (.slice (some ⟨b, o + 1, none⟩) n1 c1)] (fun p w => Kp [g] w1 w ∧ (p ≤ 0 → Kp [] w1 w) ∧ (1 ≤ p → w.heap[g]? = some (.cells #[.int .i64 1, .int .i64 fl, .int .i64 st, .slice none 0 0, .int .i64 (y : Int), .int .u32 0, .int .i64 0, .int .i64 0, .int .i64 0, .bool false, .int .i64 0, .slice none 0 0] 49))) (fun _ _ _ => True) (fun w w' => Kp [] w w') [9] [] (by kernel_rfl) (by kernel_rfl) (by kernel_rfl) (by decide) (by kernel_rfl) ⟨StabAt2.const _, StabAt2.const _, StabAt2.const _, StabAt2.const _, StabAt2.const _, StabAt2.const _, StabAt2.const _, StabAt2.const _, StabAt2.const _, ⟨fun _ _ _ _ _ _ _ h => h, fun _ _ _ _ _ h => h⟩, StabAt2.const _, trivial⟩ (⟨(Kp.refl _ _).drew, fun _ => (Kp.refl _ _).drew, fun h => by omega⟩) ⟨?_, ?_, ?_, ?_, ?_, ?_, ?_, ?_, ?_, ?_, ?_, trivial⟩ (by kernel_rfl) ?_
        · intro q9 a w E hC K hK
          have h0 : a.tmps[0]? = some (.pointer (some ⟨g, 0, none⟩)) := (E.out 0 (by kernel_rfl)).trans rfl
          refine want_none rfl ?_
          go_simp
          exact hK _ rfl
        · intro q9 a w E hC K hK
          have h2 : a.tmps[2]? = some (.slice (some ⟨b, o, none⟩) (n1 + 1) (c1 + 1)) := (E.out 2 (by kernel_rfl)).trans rfl
          refine want_none rfl ?_
          go_simp
          exact hK _ rfl
        · intro q9 a w E hC K hK
          obtain ⟨_, h50, rfl⟩ := E.pred 1 _ 50 rfl rfl (by kernel_rfl)
          refine want_none rfl ?_
          go_simp
          exact hK _ rfl
        · intro q9 a w E hC K hK
          obtain ⟨_, h51, rfl⟩ := E.pred 2 _ 51 rfl rfl (by kernel_rfl)
          refine want_none rfl ?_
          have g1 := hC.1.cell HQ.out (by simp [hbg])
          go_simp
          exact hK _ rfl
        · intro q9 a w E hC K hK
          obtain ⟨_, h52, rfl⟩ := E.pred 3 _ 52 rfl rfl (by kernel_rfl)
          refine want_none rfl ?_
          have e1 := HWY.out
          go_simp
          exact hK _ rfl
        · intro q9 a w E hC K hK
          have h2 : a.tmps[2]? = some (.slice (some ⟨b, o, none⟩) (n1 + 1) (c1 + 1)) := (E.out 2 (by kernel_rfl)).trans rfl
          refine want_none rfl ?_
          go_simp
          exact hK _ rfl
        · intro q9 a w E hC K hK
          obtain ⟨_, h54, rfl⟩ := E.pred 5 _ 54 rfl rfl (by kernel_rfl)
          refine want_none rfl ?_
          go_simp
          exact hK _ rfl
        · intro q9 a w E hC K hK
          obtain ⟨_, h49, rfl⟩ := E.pred 0 _ 49 rfl rfl (by kernel_rfl)
          refine want_none rfl ?_
          go_simp
          exact hK _ rfl
        · intro q9 a w E hC K hK
          obtain ⟨_, h56, rfl⟩ := E.pred 7 _ 56 rfl rfl (by kernel_rfl)
          refine want_none rfl ?_
          go_simp
          exact hK _ rfl
        · intro a w E hC K hK
          obtain ⟨_, h57, rfl⟩ := E.pred 8 _ 57 rfl rfl (by kernel_rfl)
          obtain ⟨_, h53, rfl⟩ := E.pred 4 _ 53 rfl rfl (by kernel_rfl)
          refine want_none rfl ?_
          have hb := (hC.2.1 (by omega)).heap HB1.out (by simp)
          have g4 := cell_of hb 4
          have gz := frozen_of hb
          go_simp
          exact hK undef _ trivial ⟨hC.1.setCell (.inl (by simp)) _, fun h => by omega, fun _ => hp_set _ _ _ _ _ _ hb⟩ trivial
        · intro q9 a w E hC K hK
          obtain ⟨_, h55, rfl⟩ := E.pred 6 _ 55 rfl rfl (by kernel_rfl)
          refine want_none rfl ?_
          go_simp
          exact hK _ rfl
        intro vs w7 hC hV
        have h10 := hV 10 _ rfl (by simp)
        replace h10 : vs 10 = (.slice (some ⟨b, o + 1, none⟩) n1 c1) := h10
        have HB7 := Lib.hid (hC.2.2 (Nat.le_refl _))
        have HR7 := Lib.hid (HR1.out.keep hC.1 (by intro _ t h1 h2; simp at h2; subst h2; exact hgA h1))
        have HK7 := Lib.hid ((Kp.nil HK1.out).trans hC.1)
        clear hV hC HB1 HR1 HK1 HQ
        simp only [putAll, Act.put, List.setIfInBounds_toArray]
        dsimp only [List.set]
        rw [h10]
        clear h10
        obtain ⟨q0, q1, q2, q3, q4, q5, q6, q7, q8, q9, q10, q11, qz, qlt, qlt2⟩ := cellsF HB7.out
        go_wp2
        go_ret2
        exact ⟨rfl, ⟨(⟨1, fl, st, none, 0, 0, (y : Int), 0, 0, 0, 0, false, 0, none, 0, 0⟩ : Fr), HB7.out⟩, HK7.out⟩
    · by_cases hc1 : c1 = 0
      · subst hc1
        rw [if_neg hbd]
        have hbd' : ¬ (n1 : Int) - (y : Int) < 0 := by simpa using hbd
        clear hbd
        obtain rfl : n1 = 0 := by omega
        go_enter Try.func151, Try.ntmps151
        go_wp2_with fail
        generalize hW : World.alloc _ _ = wa
        obtain ⟨K1, hkb⟩ := new_at hW
        have HKa2 := Lib.hid hkb
        have HBa := Lib.hid (K1.heap HB.out (by simp))
        have HKa := Lib.hid K1
        clear hW K1 hkb q0 q1 q2 q3 q4 q5 q6 q7 q8 q9 q10 q11 qz qlt qlt2
        refine (weightedF (⟨1, fl, st, none, 0, 0, 0, 0, 0, 0, 0, false, 0, none, 0, 0⟩ : Fr) _ hf0 hf1).mono ?_
        rintro e w1 ⟨rfl, K2⟩
        rw [HPR.out]
        have HB1 := Lib.hid (K2.heap HBa.out (by simp))
        have HK1 := Lib.hid (HKa.out.trans K2)
        have HKB1 := Lib.hid (K2.heap HKa2.out (by simp))
        have k_2 := cell_of HKB1.out 2
        have k_l := lt_of_heap HKB1.out
        clear HBa HKa HKa2 K2
        obtain ⟨q0, q1, q2, q3, q4, q5, q6, q7, q8, q9, q10, q11, qz, qlt, qlt2⟩ := cellsF HB1.out
        go_wp2
        clear q0 q1 q2 q3 q4 q5 q6 q7 q8 q9 q10 q11 qz qlt qlt2
        have HQ := Lib.hid (HK1.out.cell HQ0.out (by simp))
        have HR1 := Lib.hid (HR.out.keep HK1.out (by simp))
        refine wp_region_st (by kernel_rfl) [fun _ v _ => v = (.pointer (some ⟨g, 0, none⟩)),
            fun _ v _ => v = (.slice (some ⟨b, o, none⟩) 1 1),
            fun _ v _ => v = (.pointer (some ⟨b, o, none⟩)),
            fun _ v _ => v = (.int .u8 (y : Int)),
            fun _ v _ => v = (.int .i64 (y : Int)),
            fun _ v _ => v = (.slice (some ⟨b, o, none⟩) 1 1),
            fun _ v _ => v = (.slice (some ⟨b, o, none⟩) 0 0),
            fun _ v _ => v = (.pointer (some ⟨g, 0, none⟩)),
            fun _ v _ => v = (.pointer (some ⟨g, 4, none⟩)),
            fun _ v w => True,
            fun _ v _ => v = (.slice (some ⟨b, o, none⟩) 0 0)] (fun p w => Kp [g] w1 w ∧ (p ≤ 0 → Kp [] w1 w) ∧ (1 ≤ p → w.heap[g]? = some (.cells #[.int .i64 1, .int .i64 fl, .int .i64 st, .slice none 0 0, .int .i64 (y : Int), .int .u32 0, .int .i64 0, .int .i64 0, .int .i64 0, .bool false, .int .i64 0, .slice none 0 0] 49))) (fun _ _ _ => True) (fun w w' => Kp [] w w') [9] [] (by kernel_rfl) (by kernel_rfl) (by kernel_rfl) (by decide) (by kernel_rfl) ⟨StabAt2.const _, StabAt2.const _, StabAt2.const _, StabAt2.const _, StabAt2.const _, StabAt2.const _, StabAt2.const _, StabAt2.const _, StabAt2.const _, ⟨fun _ _ _ _ _ _ _ h => h, fun _ _ _ _ _ h => h⟩, StabAt2.const _, trivial⟩ (⟨(Kp.refl _ _).drew, fun _ => (Kp.refl _ _).drew, fun h => by omega⟩) ⟨?_, ?_, ?_, ?_, ?_, ?_, ?_, ?_, ?_, ?_, ?_, trivial⟩ (by kernel_rfl) ?_
        · intro q9 a w E hC K hK
          have h0 : a.tmps[0]? = some (.pointer (some ⟨g, 0, none⟩)) := (E.out 0 (by kernel_rfl)).trans rfl
          refine want_none rfl ?_
          go_simp
          exact hK _ rfl
        · intro q9 a w E hC K hK
          have h2 : a.tmps[2]? = some (.slice (some ⟨b, o, none⟩) 1 1) := (E.out 2 (by kernel_rfl)).trans rfl
          refine want_none rfl ?_
          go_simp
          exact hK _ rfl
        · intro q9 a w E hC K hK
          obtain ⟨_, h50, rfl⟩ := E.pred 1 _ 50 rfl rfl (by kernel_rfl)
          refine want_none rfl ?_
          go_simp
          exact hK _ rfl
        · intro q9 a w E hC K hK
          obtain ⟨_, h51, rfl⟩ := E.pred 2 _ 51 rfl rfl (by kernel_rfl)
          refine want_none rfl ?_
          have g1 := hC.1.cell HQ.out (by simp [hbg])
          go_simp
          exact hK _ rfl
        · intro q9 a w E hC K hK
          obtain ⟨_, h52, rfl⟩ := E.pred 3 _ 52 rfl rfl (by kernel_rfl)
          refine want_none rfl ?_
          have e1 := HWY.out
          go_simp
          exact hK _ rfl
        · intro q9 a w E hC K hK
          have h2 : a.tmps[2]? = some (.slice (some ⟨b, o, none⟩) 1 1) := (E.out 2 (by kernel_rfl)).trans rfl
          refine want_none rfl ?_
          go_simp
          exact hK _ rfl
        · intro q9 a w E hC K hK
          obtain ⟨_, h54, rfl⟩ := E.pred 5 _ 54 rfl rfl (by kernel_rfl)
          refine want_none rfl ?_
          go_simp
          exact hK _ rfl
        · intro q9 a w E hC K hK
          obtain ⟨_, h49, rfl⟩ := E.pred 0 _ 49 rfl rfl (by kernel_rfl)
          refine want_none rfl ?_
          go_simp
          exact hK _ rfl
        · intro q9 a w E hC K hK
          obtain ⟨_, h56, rfl⟩ := E.pred 7 _ 56 rfl rfl (by kernel_rfl)
          refine want_none rfl ?_
          go_simp
          exact hK _ rfl
        · intro a w E hC K hK
          obtain ⟨_, h57, rfl⟩ := E.pred 8 _ 57 rfl rfl (by kernel_rfl)
          obtain ⟨_, h53, rfl⟩ := E.pred 4 _ 53 rfl rfl (by kernel_rfl)
          refine want_none rfl ?_
          have hb := (hC.2.1 (by omega)).heap HB1.out (by simp)
          have g4 := cell_of hb 4
          have gz := frozen_of hb
          go_simp
          exact hK undef _ trivial ⟨hC.1.setCell (.inl (by simp)) _, fun h => by omega, fun _ => hp_set _ _ _ _ _ _ hb⟩ trivial
        · intro q9 a w E hC K hK
          obtain ⟨_, h55, rfl⟩ := E.pred 6 _ 55 rfl rfl (by kernel_rfl)
          refine want_none rfl ?_
          go_simp
          exact hK _ rfl
        intro vs w7 hC hV
        have h10 := hV 10 _ rfl (by simp)
        replace h10 : vs 10 = (.slice (some ⟨b, o, none⟩) 0 0) := h10
        have HB7 := Lib.hid (hC.2.2 (Nat.le_refl _))
        have HR7 := Lib.hid (HR1.out.keep hC.1 (by intro _ t h1 h2; simp at h2; subst h2; exact hgA h1))
        have HK7 := Lib.hid ((Kp.nil HK1.out).trans hC.1)
        clear hV hC HB1 HR1 HK1 HQ
        simp only [putAll, Act.put, List.setIfInBounds_toArray]
        dsimp only [List.set]
        rw [h10]
        clear h10
        obtain ⟨q0, q1, q2, q3, q4, q5, q6, q7, q8, q9, q10, q11, qz, qlt, qlt2⟩ := cellsF HB7.out
        go_wp2
        go_ret2
        have hq := HR7.out.sub 1 (1 + (0 - y)) (by omega) (by omega) (A' := (some ⟨b, o, none⟩)) (by intro b' o' h1 h2; omega)
        have eq1 : 1 + (0 - y) - 1 = 0 - y := by omega
        rw [eq1] at hq
        rw [Nat.zero_sub] at hq
        exact ⟨(some ⟨b, o, none⟩), 0, 0, rfl, by rw [Nat.zero_sub]; exact ⟨hq.len, Nat.le_refl _, hq.at_⟩, by simp [ob]; omega, by omega, HB7.out, HK7.out⟩
      · rw [if_neg hbd]
        have hbd' : ¬ (n1 : Int) - (y : Int) < 0 := by simpa using hbd
        clear hbd
        go_enter Try.func151, Try.ntmps151
        go_wp2_with fail
        generalize hW : World.alloc _ _ = wa
        obtain ⟨K1, hkb⟩ := new_at hW
        have HKa2 := Lib.hid hkb
        have HBa := Lib.hid (K1.heap HB.out (by simp))
        have HKa := Lib.hid K1
        clear hW K1 hkb q0 q1 q2 q3 q4 q5 q6 q7 q8 q9 q10 q11 qz qlt qlt2
        refine (weightedF (⟨1, fl, st, none, 0, 0, 0, 0, 0, 0, 0, false, 0, none, 0, 0⟩ : Fr) _ hf0 hf1).mono ?_
        rintro e w1 ⟨rfl, K2⟩
        rw [HPR.out]
        have HB1 := Lib.hid (K2.heap HBa.out (by simp))
        have HK1 := Lib.hid (HKa.out.trans K2)
        have HKB1 := Lib.hid (K2.heap HKa2.out (by simp))
        have k_2 := cell_of HKB1.out 2
        have k_l := lt_of_heap HKB1.out
        clear HBa HKa HKa2 K2
        obtain ⟨q0, q1, q2, q3, q4, q5, q6, q7, q8, q9, q10, q11, qz, qlt, qlt2⟩ := cellsF HB1.out
        go_wp2
        clear q0 q1 q2 q3 q4 q5 q6 q7 q8 q9 q10 q11 qz qlt qlt2
        have HQ := Lib.hid (HK1.out.cell HQ0.out (by simp))
        have HR1 := Lib.hid (HR.out.keep HK1.out (by simp))
        refine wp_region_st (by kernel_rfl) [fun _ v _ => v = (.pointer (some ⟨g, 0, none⟩)),
            fun _ v _ => v = (.slice (some ⟨b, o, none⟩) (n1 + 1) (c1 + 1)),
            fun _ v _ => v = (.pointer (some ⟨b, o, none⟩)),
            fun _ v _ => v = (.int .u8 (y : Int)),
            fun _ v _ => v = (.int .i64 (y : Int)),
            fun _ v _ => v = (.slice (some ⟨b, o, none⟩) (n1 + 1) (c1 + 1)),
            fun _ v _ => v = (.slice (some ⟨b, o + 1, none⟩) n1 c1),
            fun _ v _ => v = (.pointer (some ⟨g, 0, none⟩)),
            fun _ v _ => v = (.pointer (some ⟨g, 4, none⟩)),
            fun _ v w => True,
            fun _ v _ => v = (.slice (some ⟨b, o + 1, none⟩) n1 c1)] (fun p w => Kp [g] w1 w ∧ (p ≤ 0 → Kp [] w1 w) ∧ (1 ≤ p → w.heap[g]? = some (.cells #[.int .i64 1, .int .i64 fl, .int .i64 st, .slice none 0 0, .int .i64 (y : Int), .int .u32 0, .int .i64 0, .int .i64 0, .int .i64 0, .bool false, .int .i64 0, .slice none 0 0] 49))) (fun _ _ _ => True) (fun w w' => Kp [] w w') [9] [] (by kernel_rfl) (by kernel_rfl) (by kernel_rfl) (by decide) (by kernel_rfl) ⟨StabAt2.const _, StabAt2.const _, StabAt2.const _, StabAt2.const _, StabAt2.const _, StabAt2.const _, StabAt2.const _, StabAt2.const _, StabAt2.const _, ⟨fun _ _ _ _ _ _ _ h => h, fun _ _ _ _ _ h => h⟩, StabAt2.const _, trivial⟩ (⟨(Kp.refl _ _).drew, fun _ => (Kp.refl _ _).drew, fun h => by omega⟩) ⟨?_, ?_, ?_, ?_, ?_, ?_, ?_, ?_, ?_, ?_, ?_, trivial⟩ (by kernel_rfl) ?_
        · intro q9 a w E hC K hK
          have h0 : a.tmps[0]? = some (.pointer (some ⟨g, 0, none⟩)) := (E.out 0 (by kernel_rfl)).trans rfl
          refine want_none rfl ?_
          go_simp
          exact hK _ rfl
        · intro q9 a w E hC K hK
          have h2 : a.tmps[2]? = some (.slice (some ⟨b, o, none⟩) (n1 + 1) (c1 + 1)) := (E.out 2 (by kernel_rfl)).trans rfl
          refine want_none rfl ?_
          go_simp
          exact hK _ rfl
        · intro q9 a w E hC K hK
          obtain ⟨_, h50, rfl⟩ := E.pred 1 _ 50 rfl rfl (by kernel_rfl)
          refine want_none rfl ?_
          go_simp
          exact hK _ rfl
        · intro q9 a w E hC K hK
          obtain ⟨_, h51, rfl⟩ := E.pred 2 _ 51 rfl rfl (by kernel_rfl)
          refine want_none rfl ?_
          have g1 := hC.1.cell HQ.out (by simp [hbg])
          go_simp
          exact hK _ rfl
        · intro q9 a w E hC K hK
          obtain ⟨_, h52, rfl⟩ := E.pred 3 _ 52 rfl rfl (by kernel_rfl)
          refine want_none rfl ?_
          have e1 := HWY.out
          go_simp
          exact hK _ rfl
        · intro q9 a w E hC K hK
          have h2 : a.tmps[2]? = some (.slice (some ⟨b, o, none⟩) (n1 + 1) (c1 + 1)) := (E.out 2 (by kernel_rfl)).trans rfl
          refine want_none rfl ?_
          go_simp
          exact hK _ rfl
        · intro q9 a w E hC K hK
          obtain ⟨_, h54, rfl⟩ := E.pred 5 _ 54 rfl rfl (by kernel_rfl)
          refine want_none rfl ?_
          go_simp
          exact hK _ rfl
        · intro q9 a w E hC K hK
          obtain ⟨_, h49, rfl⟩ := E.pred 0 _ 49 rfl rfl (by kernel_rfl)
          refine want_none rfl ?_
          go_simp
          exact hK _ rfl
        · intro q9 a w E hC K hK
          obtain ⟨_, h56, rfl⟩ := E.pred 7 _ 56 rfl rfl (by kernel_rfl)
          refine want_none rfl ?_
          go_simp
          exact hK _ rfl
        · intro a w E hC K hK
          obtain ⟨_, h57, rfl⟩ := E.pred 8 _ 57 rfl rfl (by kernel_rfl)
          obtain ⟨_, h53, rfl⟩ := E.pred 4 _ 53 rfl rfl (by kernel_rfl)
          refine want_none rfl ?_
          have hb := (hC.2.1 (by omega)).heap HB1.out (by simp)
          have g4 := cell_of hb 4
          have gz := frozen_of hb
          go_simp
          exact hK undef _ trivial ⟨hC.1.setCell (.inl (by simp)) _, fun h => by omega, fun _ => hp_set _ _ _ _ _ _ hb⟩ trivial
        · intro q9 a w E hC K hK
          obtain ⟨_, h55, rfl⟩ := E.pred 6 _ 55 rfl rfl (by kernel_rfl)
          refine want_none rfl ?_
          go_simp
          exact hK _ rfl
        intro vs w7 hC hV
        have h10 := hV 10 _ rfl (by simp)
        replace h10 : vs 10 = (.slice (some ⟨b, o + 1, none⟩) n1 c1) := h10
        have HB7 := Lib.hid (hC.2.2 (Nat.le_refl _))
        have HR7 := Lib.hid (HR1.out.keep hC.1 (by intro _ t h1 h2; simp at h2; subst h2; exact hgA h1))
        have HK7 := Lib.hid ((Kp.nil HK1.out).trans hC.1)
        clear hV hC HB1 HR1 HK1 HQ
        simp only [putAll, Act.put, List.setIfInBounds_toArray]
        dsimp only [List.set]
        rw [h10]
        clear h10
        obtain ⟨q0, q1, q2, q3, q4, q5, q6, q7, q8, q9, q10, q11, qz, qlt, qlt2⟩ := cellsF HB7.out
        go_wp2
        go_ret2
        have hq := HR7.out.sub 1 (1 + (n1 - y)) (by omega) (by omega) (A' := (some ⟨b, o + 1, none⟩)) (by intro b' o' h1 h2; injection h1 with h1; injection h1 with h1 h3 _; rw [h1, h3])
        have eq1 : 1 + (n1 - y) - 1 = n1 - y := by omega
        rw [eq1] at hq
        exact ⟨(some ⟨b, o + 1, none⟩), n1 - y, n1 - y, rfl, ⟨hq.len, Nat.le_refl _, hq.at_⟩, by simp [ob]; omega, by omega, HB7.out, HK7.out⟩
set_option maxHeartbeats 2000000 in
set_option maxRecDepth 100000 in
theorem unpad1tt (fl st : Int) (z any : Bool) (f1 f2 f3 f4 : Value) (h1 : f1.cells = #[f1]) (h2 : f2.cells = #[f2]) (h3 : f3.cells = #[f3]) (h4 : f4.cells = #[f4]) (hf0 : 0 ≤ fl) (hf1 : fl ≤ 255) (h8 : hasB fl 8 = true) (h32 : hasB fl 32 = true) (g : Nat) (A : Option Addr) (n c : Nat) (l : List UInt8) (w : World) (hB : w.heap[g]? = some (.cells #[.int .i64 1, .int .i64 fl, .int .i64 st, .slice none 0 0, .int .i64 0, .int .u32 0, .int .i64 0, .int .i64 0, .int .i64 0, .bool false, .int .i64 0, .slice none 0 0] 49)) (hr : Rd w A n c l) (hgA : g ∉ ob A) (hn : n ≤ 16777216) :
    Calls Try.prog 151 #[.pointer (some ⟨g, 0, none⟩), .agg #[.bool z, .bool any, .bool true, f1, f2, f3, f4], .slice A n c] w (UnR 1 fl st g (unS 1 fl l) w) := by
  have hp : padF 1 fl = true := by simp [padF, paddedB, h8]
  have hfx : fixedN 1 fl = 5 := by simp [fixedN, h32]
  have hb8 : (bits .and .i64 fl 8 == 0) = false := by
    have := (bits_has fl hf0 hf1).2.1
    rw [h8] at this
    simpa [bne] using this
  have hlen := hr.len
  unfold unS
  rw [hp, hfx]
  have HPR := Lib.hid (show prioB 1 fl = true by simp [prioB, h32])
  clear h32
  have HB := Lib.hid hB
  have HR := Lib.hid hr
  have HLEN := Lib.hid hlen
  have hg := lt_of_heap hB
  have hcap := hr.cap
  obtain ⟨q0, q1, q2, q3, q4, q5, q6, q7, q8, q9, q10, q11, qz, qlt, qlt2⟩ := cellsF hB
  rw [if_pos rfl]
  by_cases hs : n < 1 + 5
  · rw [if_pos (by omega)]
    clear hB hr hp hfx h8 hlen
    go_enter Try.func151, Try.ntmps151
    go_wp2_with fail
    generalize hW : World.alloc _ _ = wa
    obtain ⟨K1, hkb⟩ := new_at hW
    have HKa2 := Lib.hid hkb
    have HBa := Lib.hid (K1.heap HB.out (by simp))
    have HKa := Lib.hid K1
    clear hW K1 hkb q0 q1 q2 q3 q4 q5 q6 q7 q8 q9 q10 q11 qz qlt qlt2
    refine (weightedF (⟨1, fl, st, none, 0, 0, 0, 0, 0, 0, 0, false, 0, none, 0, 0⟩ : Fr) _ hf0 hf1).mono ?_
    rintro e w1 ⟨rfl, K2⟩
    rw [HPR.out]
    have HB1 := Lib.hid (K2.heap HBa.out (by simp))
    have HK1 := Lib.hid (HKa.out.trans K2)
    have HKB1 := Lib.hid (K2.heap HKa2.out (by simp))
    have k_2 := cell_of HKB1.out 2
    have k_l := lt_of_heap HKB1.out
    clear HBa HKa HKa2 K2
    obtain ⟨q0, q1, q2, q3, q4, q5, q6, q7, q8, q9, q10, q11, qz, qlt, qlt2⟩ := cellsF HB1.out
    go_wp2
    go_ret2
    exact ⟨rfl, ⟨(⟨1, fl, st, none, 0, 0, 0, 0, 0, 0, 0, false, 0, none, 0, 0⟩ : Fr), HB1.out⟩, Kp.nil HK1.out⟩
  · rw [if_neg (by omega)]
    obtain ⟨b, o, rfl, hbw, hcell⟩ := hr.addr (by omega)
    obtain ⟨n1, rfl⟩ : ∃ n1, n = n1 + 1 := ⟨n - 1, by omega⟩
    obtain ⟨c1, rfl⟩ : ∃ c1, c = c1 + 1 := ⟨c - 1, by omega⟩
    have hy := (l.getD 0 0).toNat_lt
    have hQ := hcell 0 (by omega)
    rw [Nat.add_zero] at hQ
    generalize hyd : (l.getD 0 0).toNat = y at *
    have hbg : ¬ b = g := fun h => hgA (by simp [ob, h])
    have HQ0 := Lib.hid hQ
    have HWY := Lib.hid (show IntKind.i64.wrap (y : Int) = (y : Int) from IntWalk.i64_in _ (by omega))
    have hll : (l.length : Int) - 1 = (n1 : Int) := by omega
    have hl1 : l.length - 1 = n1 := by omega
    rw [hll, hl1]
    clear hB hr hp hfx h8 hcell hlen hQ hyd hll hl1
    by_cases hbd : (n1 : Int) - (y : Int) < ((5 : Nat) : Int)
    · have hc1 : ¬ c1 = 0 := by omega
      rw [if_pos hbd]
      have hbd' : (n1 : Int) - (y : Int) < 5 := by simpa using hbd
      clear hbd
      go_enter Try.func151, Try.ntmps151
      go_wp2_with fail
      generalize hW : World.alloc _ _ = wa
      obtain ⟨K1, hkb⟩ := new_at hW
      have HKa2 := Lib.hid hkb
      have HBa := Lib.hid (K1.heap HB.out (by simp))
      have HKa := Lib.hid K1
      clear hW K1 hkb q0 q1 q2 q3 q4 q5 q6 q7 q8 q9 q10 q11 qz qlt qlt2
      refine (weightedF (⟨1, fl, st, none, 0, 0, 0, 0, 0, 0, 0, false, 0, none, 0, 0⟩ : Fr) _ hf0 hf1).mono ?_
      rintro e w1 ⟨rfl, K2⟩
      rw [HPR.out]
      have HB1 := Lib.hid (K2.heap HBa.out (by simp))
      have HK1 := Lib.hid (HKa.out.trans K2)
      have HKB1 := Lib.hid (K2.heap HKa2.out (by simp))
      have k_2 := cell_of HKB1.out 2
      have k_l := lt_of_heap HKB1.out
      clear HBa HKa HKa2 K2
      obtain ⟨q0, q1, q2, q3, q4, q5, q6, q7, q8, q9, q10, q11, qz, qlt, qlt2⟩ := cellsF HB1.out
      go_wp2
      clear q0 q1 q2 q3 q4 q5 q6 q7 q8 q9 q10 q11 qz qlt qlt2
      have HQ := Lib.hid (HK1.out.cell HQ0.out (by simp))
      have HR1 := Lib.hid (HR.out.keep HK1.out (by simp))
      refine wp_region_st (by kernel_rfl) [fun _ v _ => v = (.pointer (some ⟨g, 0, none⟩)),
          fun _ v _ => v = (.slice (some ⟨b, o, none⟩) (n1 + 1) (c1 + 1)),
          fun _ v _ => v = (.pointer (some ⟨b, o, none⟩)),
          fun _ v _ => v = (.int .u8 (y : Int)),
          fun _ v _ => v = (.int .i64 (y : Int)),
          fun _ v _ => v = (.slice (some ⟨b, o, none⟩) (n1 + 1) (c1 + 1)),
          fun _ v _ => v = (.slice (some ⟨b, o + 1, none⟩) n1 c1),
          fun _ v _ => v = (.pointer (some ⟨g, 0, none⟩)),
          fun _ v _ => v = (.pointer (some ⟨g, 4, none⟩)),
          fun _ v w => True,
          fun _ v _ => v = (.slice (some ⟨b, o + 1, none⟩) n1 c1)] (fun p w => Kp [g] w1 w ∧ (p ≤ 0 → Kp [] w1 w) ∧ (1 ≤ p → w.heap[g]? = some (.cells #[.int .i64 1, .int .i64 fl, .int .i64 st, .slice none 0 0, .int .i64 (y : Int), .int .u32 0, .int .i64 0, .int .i64 0, .int .i64 0, .bool false, .int .i64 0, .slice none 0 0] 49))) (fun _ _ _ => True) (fun w w' => Kp [] w w') [9] [] (by kernel_rfl) (by kernel_rfl) (by kernel_rfl) (by decide) (by kernel_rfl) ⟨StabAt2.const _, StabAt2.const _, StabAt2.const _, StabAt2.const _, StabAt2.const _, StabAt2.const _, StabAt2.const _, StabAt2.const _, StabAt2.const _, ⟨fun _ _ _ _ _ _ _ h => h, fun _ _ _ _ _ h => h⟩, StabAt2.const _, trivial⟩ (⟨(Kp.refl _ _).drew, fun _ => (Kp.refl _ _).drew, fun h => by omega⟩) ⟨?_, ?_, ?_, ?_, ?_, ?_, ?_, ?_, ?_, ?_, ?_, trivial⟩ (by kernel_rfl) ?_
      · intro q9 a w E hC K hK
        have h0 : a.tmps[0]? = some (.pointer (some ⟨g, 0, none⟩)) := (E.out 0 (by kernel_rfl)).trans rfl
        refine want_none rfl ?_
        go_simp
        exact hK _ rfl
      · intro q9 a w E hC K hK
        have h2 : a.tmps[2]? = some (.slice (some ⟨b, o, none⟩) (n1 + 1) (c1 + 1)) := (E.out 2 (by kernel_rfl)).trans rfl
        refine want_none rfl ?_
        go_simp
        exact hK _ rfl
      · intro q9 a w E hC K hK
        obtain ⟨_, h50, rfl⟩ := E.pred 1 _ 50 rfl rfl (by kernel_rfl)
        refine want_none rfl ?_
        go_simp
        exact hK _ rfl
      · intro q9 a w E hC K hK
        obtain ⟨_, h51, rfl⟩ := E.pred 2 _ 51 rfl rfl (by kernel_rfl)
        refine want_none rfl ?_
        have g1 := hC.1.cell HQ.out (by simp [hbg])
        go_simp
        exact hK _ rfl
      · intro q9 a w E hC K hK
        obtain ⟨_, h52, rfl⟩ := E.pred 3 _ 52 rfl rfl (by kernel_rfl)
        refine want_none rfl ?_
        have e1 := HWY.out
        go_simp
        exact hK _ rfl
      · intro q9 a w E hC K hK
        have h2 : a.tmps[2]? = some (.slice (some ⟨b, o, none⟩) (n1 + 1) (c1 + 1)) := (E.out 2 (by kernel_rfl)).trans rfl
        refine want_none rfl ?_
        go_simp
        exact hK _ rfl
      · intro q9 a w E hC K hK
        obtain ⟨_, h54, rfl⟩ := E.pred 5 _ 54 rfl rfl (by kernel_rfl)
        refine want_none rfl ?_
        have i1 : (1 : Int) ≤ (n1 : Int) + 1 := by omega
        go_simp
        exact hK _ rfl
      · intro q9 a w E hC K hK
        obtain ⟨_, h49, rfl⟩ := E.pred 0 _ 49 rfl rfl (by kernel_rfl)
        refine want_none rfl ?_
        go_simp
        exact hK _ rfl
      · intro q9 a w E hC K hK
        obtain ⟨_, h56, rfl⟩ := E.pred 7 _ 56 rfl rfl (by kernel_rfl)
        refine want_none rfl ?_
        go_simp
        exact hK _ rfl
      · intro a w E hC K hK
        obtain ⟨_, h57, rfl⟩ := E.pred 8 _ 57 rfl rfl (by kernel_rfl)
        obtain ⟨_, h53, rfl⟩ := E.pred 4 _ 53 rfl rfl (by kernel_rfl)
        refine want_none rfl ?_
        have hb := (hC.2.1 (by omega)).heap HB1.out (by simp)
        have g4 := cell_of hb 4
        have gz := frozen_of hb
        go_simp
        exact hK undef _ trivial ⟨hC.1.setCell (.inl (by simp)) _, fun h => by omega, fun _ => hp_set _ _ _ _ _ _ hb⟩ trivial
      · intro q9 a w E hC K hK
        obtain ⟨_, h55, rfl⟩ := E.pred 6 _ 55 rfl rfl (by kernel_rfl)
        refine want_none rfl ?_
        go_simp
        exact hK _ rfl
      intro vs w7 hC hV
      have h10 := hV 10 _ rfl (by simp)
      replace h10 : vs 10 = (.slice (some ⟨b, o + 1, none⟩) n1 c1) := h10
      have HB7 := Lib.hid (hC.2.2 (Nat.le_refl _))
      have HR7 := Lib.hid (HR1.out.keep hC.1 (by intro _ t h1 h2; simp at h2; subst h2; exact hgA h1))
      have HK7 := Lib.hid ((Kp.nil HK1.out).trans hC.1)
      clear hV hC HB1 HR1 HK1 HQ
      simp only [putAll, Act.put, List.setIfInBounds_toArray]
      dsimp only [List.set]
      rw [h10]
      clear h10
      obtain ⟨q0, q1, q2, q3, q4, q5, q6, q7, q8, q9, q10, q11, qz, qlt, qlt2⟩ := cellsF HB7.out
      go_wp2
      go_ret2
      exact ⟨rfl, ⟨(⟨1, fl, st, none, 0, 0, (y : Int), 0, 0, 0, 0, false, 0, none, 0, 0⟩ : Fr), HB7.out⟩, HK7.out⟩
    · have hc1 : ¬ c1 = 0 := by omega
      rw [if_neg hbd]
      have hbd' : ¬ (n1 : Int) - (y : Int) < 5 := by simpa using hbd
      clear hbd
      go_enter Try.func151, Try.ntmps151
      go_wp2_with fail
      generalize hW : World.alloc _ _ = wa
      obtain ⟨K1, hkb⟩ := new_at hW
      have HKa2 := Lib.hid hkb
      have HBa := Lib.hid (K1.heap HB.out (by simp))
      have HKa := Lib.hid K1
      clear hW K1 hkb q0 q1 q2 q3 q4 q5 q6 q7 q8 q9 q10 q11 qz qlt qlt2
      refine (weightedF (⟨1, fl, st, none, 0, 0, 0, 0, 0, 0, 0, false, 0, none, 0, 0⟩ : Fr) _ hf0 hf1).mono ?_
      rintro e w1 ⟨rfl, K2⟩
      rw [HPR.out]
      have HB1 := Lib.hid (K2.heap HBa.out (by simp))
      have HK1 := Lib.hid (HKa.out.trans K2)
      have HKB1 := Lib.hid (K2.heap HKa2.out (by simp))
      have k_2 := cell_of HKB1.out 2
      have k_l := lt_of_heap HKB1.out
      clear HBa HKa HKa2 K2
      obtain ⟨q0, q1, q2, q3, q4, q5, q6, q7, q8, q9, q10, q11, qz, qlt, qlt2⟩ := cellsF HB1.out
      go_wp2
      clear q0 q1 q2 q3 q4 q5 q6 q7 q8 q9 q10 q11 qz qlt qlt2
      have HQ := Lib.hid (HK1.out.cell HQ0.out (by simp))
      have HR1 := Lib.hid (HR.out.keep HK1.out (by simp))
      refine wp_region_st (by kernel_rfl) [fun _ v _ => v = (.pointer (some ⟨g, 0, none⟩)),
          fun _ v _ => v = (.slice (some ⟨b, o, none⟩) (n1 + 1) (c1 + 1)),
          fun _ v _ => v = (.pointer (some ⟨b, o, none⟩)),
          fun _ v _ => v = (.int .u8 (y : Int)),
          fun _ v _ => v = (.int .i64 (y : Int)),
          fun _ v _ => v = (.slice (some ⟨b, o, none⟩) (n1 + 1) (c1 + 1)),
          fun _ v _ => v = (.slice (some ⟨b, o + 1, none⟩) n1 c1),
          fun _ v _ => v = (.pointer (some ⟨g, 0, none⟩)),
          fun _ v _ => v = (.pointer (some ⟨g, 4, none⟩)),
          fun _ v w => True,
          fun _ v _ => v = (.slice (some ⟨b, o + 1, none⟩) n1 c1)] (fun p w => Kp [g] w1 w ∧ (p ≤ 0 → Kp [] w1 w) ∧ (1 ≤ p → w.heap[g]? = some (.cells #[.int .i64 1, .int .i64 fl, .int .i64 st, .slice none 0 0, .int .i64 (y : Int), .int .u32 0, .int .i64 0, .int .i64 0, .int .i64 0, .bool false, .int .i64 0, .slice none 0 0] 49))) (fun _ _ _ => True) (fun w w' => Kp [] w w') [9] [] (by kernel_rfl) (by kernel_rfl) (by kernel_rfl) (by decide) (by kernel_rfl) ⟨StabAt2.const _, StabAt2.const _, StabAt2.const _, StabAt2.const _, StabAt2.const _, StabAt2.const _, StabAt2.const _, StabAt2.const _, StabAt2.const _, ⟨fun _ _ _ _ _ _ _ h => h, fun _ _ _ _ _ h => h⟩, StabAt2.const _, trivial⟩ (⟨(Kp.refl _ _).drew, fun _ => (Kp.refl _ _).drew, fun h => by omega⟩) ⟨?_, ?_, ?_, ?_, ?_, ?_, ?_, ?_, ?_, ?_, ?_, trivial⟩ (by kernel_rfl) ?_
      · intro q9 a w E hC K hK
        have h0 : a.tmps[0]? = some (.pointer (some ⟨g, 0, none⟩)) := (E.out 0 (by kernel_rfl)).trans rfl
        refine want_none rfl ?_
        go_simp
        exact hK _ rfl
      · intro q9 a w E hC K hK
        have h2 : a.tmps[2]? = some (.slice (some ⟨b, o, none⟩) (n1 + 1) (c1 + 1)) := (E.out 2 (by kernel_rfl)).trans rfl
        refine want_none rfl ?_
        go_simp
        exact hK _ rfl
      · intro q9 a w E hC K hK
        obtain ⟨_, h50, rfl⟩ := E.pred 1 _ 50 rfl rfl (by kernel_rfl)
        refine want_none rfl ?_
        go_simp
        exact hK _ rfl
      · intro q9 a w E hC K hK
        obtain ⟨_, h51, rfl⟩ := E.pred 2 _ 51 rfl rfl (by kernel_rfl)
        refine want_none rfl ?_
        have g1 := hC.1.cell HQ.out (by simp [hbg])
        go_simp
        exact hK _ rfl
      · intro q9 a w E hC K hK
        obtain ⟨_, h52, rfl⟩ := E.pred 3 _ 52 rfl rfl (by kernel_rfl)
        refine want_none rfl ?_
        have e1 := HWY.out
        go_simp
        exact hK _ rfl
      · intro q9 a w E hC K hK
        have h2 : a.tmps[2]? = some (.slice (some ⟨b, o, none⟩) (n1 + 1) (c1 + 1)) := (E.out 2 (by kernel_rfl)).trans rfl
        refine want_none rfl ?_
        go_simp
        exact hK _ rfl
      · intro q9 a w E hC K hK
        obtain ⟨_, h54, rfl⟩ := E.pred 5 _ 54 rfl rfl (by kernel_rfl)
        refine want_none rfl ?_
        have i1 : (1 : Int) ≤ (n1 : Int) + 1 := by omega
        go_simp
        exact hK _ rfl
      · intro q9 a w E hC K hK
        obtain ⟨_, h49, rfl⟩ := E.pred 0 _ 49 rfl rfl (by kernel_rfl)
        refine want_none rfl ?_
        go_simp
        exact hK _ rfl
      · intro q9 a w E hC K hK
        obtain ⟨_, h56, rfl⟩ := E.pred 7 _ 56 rfl rfl (by kernel_rfl)
        refine want_none rfl ?_
        go_simp
        exact hK _ rfl
      · intro a w E hC K hK
        obtain ⟨_, h57, rfl⟩ := E.pred 8 _ 57 rfl rfl (by kernel_rfl)
        obtain ⟨_, h53, rfl⟩ := E.pred 4 _ 53 rfl rfl (by kernel_rfl)
        refine want_none rfl ?_
        have hb := (hC.2.1 (by omega)).heap HB1.out (by simp)
        have g4 := cell_of hb 4
        have gz := frozen_of hb
        go_simp
        exact hK undef _ trivial ⟨hC.1.setCell (.inl (by simp)) _, fun h => by omega, fun _ => hp_set _ _ _ _ _ _ hb⟩ trivial
      · intro q9 a w E hC K hK
        obtain ⟨_, h55, rfl⟩ := E.pred 6 _ 55 rfl rfl (by kernel_rfl)
        refine want_none rfl ?_
        go_simp
        exact hK _ rfl
      intro vs w7 hC hV
      have h10 := hV 10 _ rfl (by simp)
      replace h10 : vs 10 = (.slice (some ⟨b, o + 1, none⟩) n1 c1) := h10
      have HB7 := Lib.hid (hC.2.2 (Nat.le_refl _))
      have HR7 := Lib.hid (HR1.out.keep hC.1 (by intro _ t h1 h2; simp at h2; subst h2; exact hgA h1))
      have HK7 := Lib.hid ((Kp.nil HK1.out).trans hC.1)
      clear hV hC HB1 HR1 HK1 HQ
      simp only [putAll, Act.put, List.setIfInBounds_toArray]
      dsimp only [List.set]
      rw [h10]
      clear h10
      obtain ⟨q0, q1, q2, q3, q4, q5, q6, q7, q8, q9, q10, q11, qz, qlt, qlt2⟩ := cellsF HB7.out
      go_wp2
      go_ret2
      have hq := HR7.out.sub 1 (1 + (n1 - y)) (by omega) (by omega) (A' := (some ⟨b, o + 1, none⟩)) (by intro b' o' h1 h2; injection h1 with h1; injection h1 with h1 h3 _; rw [h1, h3])
      have eq1 : 1 + (n1 - y) - 1 = n1 - y := by omega
      rw [eq1] at hq
      exact ⟨(some ⟨b, o + 1, none⟩), n1 - y, n1 - y, rfl, ⟨hq.len, Nat.le_refl _, hq.at_⟩, by simp [ob]; omega, by omega, HB7.out, HK7.out⟩
end Go.Proofs.Ytkmcakneceagpaa
