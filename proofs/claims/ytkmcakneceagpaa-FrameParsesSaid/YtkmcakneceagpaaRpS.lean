/- The reference's Parse: PRIORITY, told. -/
import Derived.Test.YtkmcakneceagpaaRpR
set_option linter.unusedVariables false
set_option linter.unusedSimpArgs false
set_option linter.unusedSimpArgs false
namespace Go.Proofs.Ytkmcakneceagpaa
open Go.RowKit
set_option maxHeartbeats 4000000 in
set_option maxRecDepth 100000 in
theorem rparseOk2 (T : Nat) (A : Option Addr) (n c : Nat) (l : List UInt8) (most : Int) (w : World) (hr : Rd w A n c l) (hn : n ≤ 140737488355328) (hm : 0 ≤ most) (h9 : ¬ n < 9) (N : Nat) (hN : be (l.take 3) = N) (hb : ¬ most < (N : Int)) (hc : ¬ n < 9 + N) (F S : Nat) (hT : (l.getD 3 0).toNat = T) (hF : (l.getD 4 0).toNat = F) (hS : be ((l.drop 5).take 4) % 2147483648 = S) (hkn : knownB (T : Int) = true) (hrg : ∀ w, Calls Try.prog 153 #[.int .i64 T, .int .i64 S] w (BoolR (rightB T S) w)) (hri : rightB T S = true) (hsz : ∀ w, Calls Try.prog 154 #[.agg #[.int .i64 T, .int .i64 F, .int .i64 S, .slice none 0 0, .int .i64 0, .int .u32 0, .int .i64 0, .int .i64 0, .int .i64 0, .bool false, .int .i64 0, .slice none 0 0], .int .i64 N] w (BoolK (!fitsB T F N) w)) (hft : fitsB T F N = true) (hpt : ∀ (A : Option Addr) (n c : Nat) (m : List UInt8) (w : World), Rd w A n c m → n ≤ 16777216 → Calls Try.prog 155 #[.agg #[.int .i64 T, .int .i64 F, .int .i64 S, .slice none 0 0, .int .i64 0, .int .u32 0, .int .i64 0, .int .i64 0, .int .i64 0, .bool false, .int .i64 0, .slice none 0 0], .slice A n c] w (PartR T F S (unS T F m) w)) (hT2 : T = 2) (pad : Nat) (m : List UInt8) (hur : unS T F ((l.drop 9).take N) = .ok pad m) (hfl : ∀ (A : Option Addr) (n c : Nat) (w : World), Rd w A n c m → n ≤ 16777216 → Calls Try.prog 156 #[.agg #[.int .i64 T, .int .i64 F, .int .i64 S, .slice none 0 0, .int .i64 (pad : Int), .int .u32 0, .int .i64 0, .int .i64 0, .int .i64 0, .bool false, .int .i64 0, .slice none 0 0], .slice A n c] w (FldR (getS (f0S T F S pad) m) w)) : Calls Try.prog 101 #[.slice A n c, .int .i64 most] w (ParseR ⟨getS (f0S T F S pad) m, 9 + N, false, 0, 0, 0⟩ w) := by
  subst hT2
  obtain ⟨b, o, hA, hbw, _⟩ := hr.addr (by omega)
  have HLT := Lib.hid (show ∀ t, t ∈ ob A → t < w.heap.size from fun t ht => by rw [hA] at ht; simp [ob] at ht; omega)
  have HA := Lib.hid hA
  clear hA hbw
  have HKN := Lib.hid hkn
  have HRG := Lib.hid hrg
  have HRI := Lib.hid hri
  have HSZ := Lib.hid hsz
  have HFT := Lib.hid hft
  have HPT := Lib.hid hpt
  have HUR := Lib.hid hur
  have HFL := Lib.hid hfl
  have HR := Lib.hid hr
  have e := head_of (l := l) (by rw [hr.len]; exact h9)
  rw [hN, hT, hF, hS] at e
  have HN2 := Lib.hid (show N < 16777216 by have := be_take_lt l 3; rw [hN] at this; have e3 : (256 : Nat) ^ 3 = 16777216 := by decide
                                            omega)
  have HH := Lib.hid e
  have HML := Lib.hid (show m.length ≤ 16777216 by have h1 := un_le HUR.out; have h2 := HN2.out; have h3 : ((l.drop 9).take N).length ≤ N := (by simp only [List.length_take]; omega); omega)
  clear hr e hT hF hS hN hkn hrg hri hsz hft hpt hur hfl
  go_enter Try.func101, Try.ntmps101
  go_wp2_with fail
  generalize hW : World.alloc _ _ = w1
  have K1 : Kp [] w w1 := by rw [← hW]; (repeat (first | with_reducible exact Kp.refl _ _ | with_reducible assumption | with_reducible refine Kp.alloc ?_ _ | with_reducible refine Kp.drew ?_ | with_reducible refine Kp.drewN ?_ _ | (with_reducible refine Kp.setL ?_ ?_ _; focus (simp; done)) | (with_reducible refine Kp.setR ?_ ?_ _; focus (simp; done)) | (with_reducible refine Kp.setR ?_ ?_ _; focus (simp; omega))))
  have HF := Lib.hid (show w1.heap[w.heap.size]? = some (.cells #[.int .i64 0, .int .i64 0, .int .i64 0, .slice none 0 0, .int .i64 0, .int .u32 0, .int .i64 0, .int .i64 0, .int .i64 0, .bool false, .int .i64 0, .slice none 0 0] 49) by rw [← hW]; (repeat (first | with_reducible assumption | (with_reducible refine hp_new _ _ _ ?_; focus (simp; done)) | (with_reducible refine (hp_old _ _ _ ?_).trans ?_; focus (first | omega | (simp; done) | (simp; omega))) | (with_reducible refine (hp_far _ _ _ _ ?_).trans ?_; focus (first | (simp; done) | (simp; omega))) | (with_reducible refine (hp_drew _ _).trans ?_) | (with_reducible refine (hp_drewN _ _ _).trans ?_))))
  have HX := Lib.hid (show w1.heap[w.heap.size + 1]? = some (.cells #[.bool false, .int .i64 0, .int .i64 0] 64) by rw [← hW]; (repeat (first | with_reducible assumption | (with_reducible refine hp_new _ _ _ ?_; focus (simp; done)) | (with_reducible refine (hp_old _ _ _ ?_).trans ?_; focus (first | omega | (simp; done) | (simp; omega))) | (with_reducible refine (hp_far _ _ _ _ ?_).trans ?_; focus (first | (simp; done) | (simp; omega))) | (with_reducible refine (hp_drew _ _).trans ?_) | (with_reducible refine (hp_drewN _ _ _).trans ?_))))
  clear hW
  refine (refHead_any A n c l w1 hn (HR.out.keep K1 (by simp))).mono ?_
  rintro e w2 ⟨rfl, K2⟩
  rw [HH.out]
  dsimp only
  have HF2 := Lib.hid (K2.heap HF.out (by simp))
  have HX2 := Lib.hid (K2.heap HX.out (by simp))
  have HK2 := Lib.hid (K1.trans K2)
  clear HF HX K1 K2
  obtain ⟨q0, q1, q2, q3, q4, q5, q6, q7, q8, q9, q10, q11, qz, qlt, qlt2⟩ := cellsF HF2.out
  have x0 := cell_of HX2.out 0
  have x1 := cell_of HX2.out 1
  have x2 := cell_of HX2.out 2
  have xz := frozen_of HX2.out
  have hN2 := HN2.out
  go_wp2_with fail
  generalize hW : World.alloc _ _ = w3
  have K3 : Kp [] w2 w3 := by rw [← hW]; (repeat (first | with_reducible exact Kp.refl _ _ | with_reducible assumption | with_reducible refine Kp.alloc ?_ _ | with_reducible refine Kp.drew ?_ | with_reducible refine Kp.drewN ?_ _ | (with_reducible refine Kp.setL ?_ ?_ _; focus (simp; done)) | (with_reducible refine Kp.setR ?_ ?_ _; focus (simp; done)) | (with_reducible refine Kp.setR ?_ ?_ _; focus (simp; omega))))
  have HB3 := Lib.hid (show w3.heap[w2.heap.size]? = some (.cells #[.int .i64 2, .int .i64 F, .int .i64 S, .slice none 0 0, .int .i64 0, .int .u32 0, .int .i64 0, .int .i64 0, .int .i64 0, .bool false, .int .i64 0, .slice none 0 0] 49) by rw [← hW]; (repeat (first | with_reducible assumption | (with_reducible refine hp_new _ _ _ ?_; focus (simp; done)) | (with_reducible refine (hp_old _ _ _ ?_).trans ?_; focus (first | omega | (simp; done) | (simp; omega))) | (with_reducible refine (hp_far _ _ _ _ ?_).trans ?_; focus (first | (simp; done) | (simp; omega))) | (with_reducible refine (hp_drew _ _).trans ?_) | (with_reducible refine (hp_drewN _ _ _).trans ?_))))
  have HF3 := Lib.hid (K3.heap HF2.out (by simp))
  have HX3 := Lib.hid (K3.heap HX2.out (by simp))
  have HK3 := Lib.hid (HK2.out.trans K3)
  have hsw := HK2.out.size
  have hlx := lt_of_heap HX2.out
  clear hW K3 HF2 HX2 HK2 q0 q1 q2 q3 q4 q5 q6 q7 q8 q9 q10 q11 qz qlt qlt2 x0 x1 x2 xz
  refine (refKnown_any 2 _).mono ?_
  rintro e w4 ⟨rfl, rfl⟩
  rw [show knownB 2 = true from rfl]
  obtain ⟨q0, q1, q2, q3, q4, q5, q6, q7, q8, q9, q10, q11, qz, qlt, qlt2⟩ := cellsF HF3.out
  obtain ⟨b0, b1, b2, b3, b4, b5, b6, b7, b8, b9, b10, b11, bz, blt, blt2⟩ := cellsF HB3.out
  have x0 := cell_of HX3.out 0
  have x1 := cell_of HX3.out 1
  have x2 := cell_of HX3.out 2
  have xz := frozen_of HX3.out
  go_wp2_with fail
  refine (HRG.out _).mono ?_
  rintro e w4 ⟨rfl, rfl⟩
  rw [HRI.out]
  go_wp2_with fail
  refine (rfault 6 _).mono ?_
  rintro e w5 ⟨rfl, K5⟩
  have HB5 := Lib.hid (K5.heap HB3.out (by simp))
  have HF5 := Lib.hid (K5.heap HF3.out (by simp))
  have HX5 := Lib.hid (K5.heap HX3.out (by simp))
  have HK5 := Lib.hid (HK3.out.trans K5)
  clear HB3 HF3 HX3 HK3 K5
  clear q0 q1 q2 q3 q4 q5 q6 q7 q8 q9 q10 q11 qz qlt qlt2 b0 b1 b2 b3 b4 b5 b6 b7 b8 b9 b10 b11 bz blt blt2 x0 x1 x2 xz
  obtain ⟨q0, q1, q2, q3, q4, q5, q6, q7, q8, q9, q10, q11, qz, qlt, qlt2⟩ := cellsF HF5.out
  obtain ⟨b0, b1, b2, b3, b4, b5, b6, b7, b8, b9, b10, b11, bz, blt, blt2⟩ := cellsF HB5.out
  have x0 := cell_of HX5.out 0
  have x1 := cell_of HX5.out 1
  have x2 := cell_of HX5.out 2
  have xz := frozen_of HX5.out
  have hw5 := lt_of_heap HB5.out
  go_wp2_with fail
  generalize hW : World.alloc _ _ = w6
  have K6 : Kp [] w5 w6 := by rw [← hW]; (repeat (first | with_reducible exact Kp.refl _ _ | with_reducible assumption | with_reducible refine Kp.alloc ?_ _ | with_reducible refine Kp.drew ?_ | with_reducible refine Kp.drewN ?_ _ | (with_reducible refine Kp.setL ?_ ?_ _; focus (simp; done)) | (with_reducible refine Kp.setR ?_ ?_ _; focus (simp; done)) | (with_reducible refine Kp.setR ?_ ?_ _; focus (simp; omega))))
  have HT6 := Lib.hid (show w6.heap[w5.heap.size]? = some (.cells #[.bool true, .int .i64 S, .int .i64 6] 64) by rw [← hW]; (repeat (first | with_reducible assumption | (with_reducible refine hp_new _ _ _ ?_; focus (simp; done)) | (with_reducible refine (hp_old _ _ _ ?_).trans ?_; focus (first | omega | (simp; done) | (simp; omega))) | (with_reducible refine (hp_far _ _ _ _ ?_).trans ?_; focus (first | (simp; done) | (simp; omega))) | (with_reducible refine (hp_drew _ _).trans ?_) | (with_reducible refine (hp_drewN _ _ _).trans ?_))))
  clear hW
  have HB6 := Lib.hid (K6.heap HB5.out (by simp))
  have HF6 := Lib.hid (K6.heap HF5.out (by simp))
  have HX6 := Lib.hid (K6.heap HX5.out (by simp))
  have HK6 := Lib.hid (HK5.out.trans K6)
  clear HB5 HF5 HX5 HK5 K6
  clear q0 q1 q2 q3 q4 q5 q6 q7 q8 q9 q10 q11 qz qlt qlt2 b0 b1 b2 b3 b4 b5 b6 b7 b8 b9 b10 b11 bz blt blt2 x0 x1 x2 xz
  obtain ⟨q0, q1, q2, q3, q4, q5, q6, q7, q8, q9, q10, q11, qz, qlt, qlt2⟩ := cellsF HF6.out
  obtain ⟨b0, b1, b2, b3, b4, b5, b6, b7, b8, b9, b10, b11, bz, blt, blt2⟩ := cellsF HB6.out
  have x0 := cell_of HX6.out 0
  have x1 := cell_of HX6.out 1
  have x2 := cell_of HX6.out 2
  have xz := frozen_of HX6.out
  refine (HSZ.out _).mono ?_
  rintro e w7 ⟨rfl, K7⟩
  rw [HFT.out]
  have HT7 := Lib.hid (K7.heap HT6.out (by simp))
  clear HT6
  have HB7 := Lib.hid (K7.heap HB6.out (by simp))
  have HF7 := Lib.hid (K7.heap HF6.out (by simp))
  have HX7 := Lib.hid (K7.heap HX6.out (by simp))
  have HK7 := Lib.hid (HK6.out.trans K7)
  clear HB6 HF6 HX6 HK6 K7
  clear q0 q1 q2 q3 q4 q5 q6 q7 q8 q9 q10 q11 qz qlt qlt2 b0 b1 b2 b3 b4 b5 b6 b7 b8 b9 b10 b11 bz blt blt2 x0 x1 x2 xz
  obtain ⟨q0, q1, q2, q3, q4, q5, q6, q7, q8, q9, q10, q11, qz, qlt, qlt2⟩ := cellsF HF7.out
  obtain ⟨b0, b1, b2, b3, b4, b5, b6, b7, b8, b9, b10, b11, bz, blt, blt2⟩ := cellsF HB7.out
  have x0 := cell_of HX7.out 0
  have x1 := cell_of HX7.out 1
  have x2 := cell_of HX7.out 2
  have xz := frozen_of HX7.out
  have t0 := cell_of HT7.out 0
  have t1 := cell_of HT7.out 1
  have t2 := cell_of HT7.out 2
  have tz := frozen_of HT7.out
  have tl := lt_of_heap HT7.out
  have HR7 := Lib.hid (HR.out.keep HK7.out (by simp))
  have hlx7 := lt_of_heap HX7.out
  go_wp2
  generalize hhb : w2.heap.size = hb at *
  generalize hhx : w5.heap.size = hx at *
  refine wp_region_st3 (by kernel_rfl) [fun _ v _ => v = (.agg #[.int .i64 2, .int .i64 F, .int .i64 S, .slice none 0 0, .int .i64 0, .int .u32 0, .int .i64 0, .int .i64 0, .int .i64 0, .bool false, .int .i64 0, .slice none 0 0]),
      fun _ v _ => v = (.slice A n c),
      fun _ v _ => v = (.int .i64 (N : Int)),
      fun _ v _ => v = (.int .i64 (9 + (N : Int))),
      fun p v w => ∃ x : Option Addr × Nat × Nat, v = .slice x.1 x.2.1 x.2.2 ∧ 0 ≤ p ∧ (p ≤ 0 → Rd w x.1 x.2.1 x.2.2 ((l.drop 9).take N) ∧ x.2.1 = N),
      fun p v w => ∃ x : Option Addr × Nat × Nat, v = .tuple #[.agg #[.int .i64 2, .int .i64 F, .int .i64 S, .slice none 0 0, .int .i64 (pad : Int), .int .u32 0, .int .i64 0, .int .i64 0, .int .i64 0, .bool false, .int .i64 0, .slice none 0 0], .slice x.1 x.2.1 x.2.2, .agg #[.bool false, .int .i64 0, .int .i64 0]] ∧ 1 ≤ p ∧ (p ≤ 3 → Rd w x.1 x.2.1 x.2.2 m ∧ (0 < x.2.1 → ∀ t, t ∈ ob x.1 → ¬ t = hb ∧ ¬ t = hx)),
      fun p v w => ∃ x : Option Addr × Nat × Nat, v = .tuple #[.agg #[.int .i64 2, .int .i64 F, .int .i64 S, .slice none 0 0, .int .i64 (pad : Int), .int .u32 0, .int .i64 0, .int .i64 0, .int .i64 0, .bool false, .int .i64 0, .slice none 0 0], .slice x.1 x.2.1 x.2.2, .agg #[.bool false, .int .i64 0, .int .i64 0]] ∧ 1 ≤ p ∧ (p ≤ 3 → Rd w x.1 x.2.1 x.2.2 m ∧ (0 < x.2.1 → ∀ t, t ∈ ob x.1 → ¬ t = hb ∧ ¬ t = hx)),
      fun _ v _ => v = (.agg #[.int .i64 2, .int .i64 F, .int .i64 S, .slice none 0 0, .int .i64 (pad : Int), .int .u32 0, .int .i64 0, .int .i64 0, .int .i64 0, .bool false, .int .i64 0, .slice none 0 0]),
      fun p v w => ∃ x : Option Addr × Nat × Nat, v = .slice x.1 x.2.1 x.2.2 ∧ 1 ≤ p ∧ (p ≤ 3 → Rd w x.1 x.2.1 x.2.2 m ∧ (0 < x.2.1 → ∀ t, t ∈ ob x.1 → ¬ t = hb ∧ ¬ t = hx)),
      fun _ v _ => v = (.agg #[.bool false, .int .i64 0, .int .i64 0]),
      fun _ v _ => True,
      fun p v w => ∃ x : Option Addr × Nat × Nat, v = .slice x.1 x.2.1 x.2.2 ∧ 1 ≤ p ∧ (p ≤ 3 → Rd w x.1 x.2.1 x.2.2 m ∧ (0 < x.2.1 → ∀ t, t ∈ ob x.1 → ¬ t = hb ∧ ¬ t = hx)),
      fun _ v _ => True] (fun p w => Kp [hb, hx] w7 w ∧ (p ≤ 1 → w.heap[hb]? = some (.cells #[.int .i64 2, .int .i64 F, .int .i64 S, .slice none 0 0, .int .i64 0, .int .u32 0, .int .i64 0, .int .i64 0, .int .i64 0, .bool false, .int .i64 0, .slice none 0 0] 49)) ∧ (2 ≤ p → w.heap[hb]? = some (.cells #[.int .i64 2, .int .i64 F, .int .i64 S, .slice none 0 0, .int .i64 (pad : Int), .int .u32 0, .int .i64 0, .int .i64 0, .int .i64 0, .bool false, .int .i64 0, .slice none 0 0] 49)) ∧ (p ≤ 2 → w.heap[hx]? = some (.cells #[.bool true, .int .i64 S, .int .i64 6] 64)) ∧ (3 ≤ p → w.heap[hx]? = some (.cells #[.bool false, .int .i64 0, .int .i64 0] 64))) (fun _ w w' => Kp [hb, hx] w w') (fun w w' => Kp [] w w') [5, 10, 12] [] (by kernel_rfl) (by kernel_rfl) (by kernel_rfl) (by decide) (by kernel_rfl) ⟨StabAt2.const _, StabAt2.const _, StabAt2.const _, StabAt2.const _, StabAt2.span (f := fun x : Option Addr × Nat × Nat => .slice x.1 x.2.1 x.2.2) (by intro p x w w' h1 h2 h3 hR hG; omega) (by intro x w w' hR hG; exact ⟨hG.1.keep hR (by simp), hG.2⟩), StabAt2.span (f := fun x : Option Addr × Nat × Nat => .tuple #[.agg #[.int .i64 2, .int .i64 F, .int .i64 S, .slice none 0 0, .int .i64 (pad : Int), .int .u32 0, .int .i64 0, .int .i64 0, .int .i64 0, .bool false, .int .i64 0, .slice none 0 0], .slice x.1 x.2.1 x.2.2, .agg #[.bool false, .int .i64 0, .int .i64 0]]) (by intro p x w w' h1 h2 h3 hR hG; exact ⟨hG.1.keep hR (by intro hn t ht hs; have := hG.2 hn t ht; simp at hs; omega), hG.2⟩) (by intro x w w' hR hG; exact ⟨hG.1.keep hR (by simp), hG.2⟩), StabAt2.span (f := fun x : Option Addr × Nat × Nat => .tuple #[.agg #[.int .i64 2, .int .i64 F, .int .i64 S, .slice none 0 0, .int .i64 (pad : Int), .int .u32 0, .int .i64 0, .int .i64 0, .int .i64 0, .bool false, .int .i64 0, .slice none 0 0], .slice x.1 x.2.1 x.2.2, .agg #[.bool false, .int .i64 0, .int .i64 0]]) (by intro p x w w' h1 h2 h3 hR hG; exact ⟨hG.1.keep hR (by intro hn t ht hs; have := hG.2 hn t ht; simp at hs; omega), hG.2⟩) (by intro x w w' hR hG; exact ⟨hG.1.keep hR (by simp), hG.2⟩), StabAt2.const _, StabAt2.span (f := fun x : Option Addr × Nat × Nat => .slice x.1 x.2.1 x.2.2) (by intro p x w w' h1 h2 h3 hR hG; exact ⟨hG.1.keep hR (by intro hn t ht hs; have := hG.2 hn t ht; simp at hs; omega), hG.2⟩) (by intro x w w' hR hG; exact ⟨hG.1.keep hR (by simp), hG.2⟩), StabAt2.const _, StabAt2.const _, StabAt2.span (f := fun x : Option Addr × Nat × Nat => .slice x.1 x.2.1 x.2.2) (by intro p x w w' h1 h2 h3 hR hG; exact ⟨hG.1.keep hR (by intro hn t ht hs; have := hG.2 hn t ht; simp at hs; omega), hG.2⟩) (by intro x w w' hR hG; exact ⟨hG.1.keep hR (by simp), hG.2⟩), StabAt2.const _, trivial⟩ (⟨(Kp.refl _ _).drew, fun _ => HB7.out, fun h => by omega, fun _ => HT7.out, fun h => by omega⟩) ⟨?_, ?_, ?_, ?_, ?_, ?_, ?_, ?_, ?_, ?_, ?_, ?_, ?_, trivial⟩ (by kernel_rfl) ?_
  · intro q9 a w E hC K hK
    have h13 : a.tmps[13]? = some (.pointer (some ⟨hb, 0, none⟩)) := (E.out 13 (by kernel_rfl)).trans rfl
    refine want_none rfl ?_
    have hk := E.lim 1 10 _ rfl rfl (by kernel_rfl)
    have hb1 := hC.2.1 (by omega)
    obtain ⟨q0, q1, q2, q3, q4, q5, q6, q7, q8, q9', q10, q11, qz, qlt, qlt2⟩ := cellsF hb1
    clear hb1
    go_simp
    exact hK _ rfl
  · intro q9 a w E hC K hK
    have h0 : a.tmps[0]? = some (.slice A n c) := (E.out 0 (by kernel_rfl)).trans rfl
    refine want_none rfl ?_
    go_simp
    exact hK _ rfl
  · intro q9 a w E hC K hK
    have h8 : a.tmps[8]? = some (.int .i64 (N : Int)) := (E.out 8 (by kernel_rfl)).trans rfl
    refine want_none rfl ?_
    go_simp
    exact hK _ rfl
  · intro q9 a w E hC K hK
    obtain ⟨_, h78, rfl⟩ := E.pred 2 _ 78 rfl rfl (by kernel_rfl)
    refine want_none rfl ?_
    have hN2' : N < 16777216 := HN2.out
    have hwr : IntKind.i64.wrap (9 + (N : Int)) = 9 + (N : Int) := IntWalk.i64_in _ (by omega)
    go_simp
    first | exact hK _ rfl | exact hK _ (by rw [hwr]) | exact hK _ (by simp [hwr])
  · intro q9 a w E hC K hK
    obtain ⟨_, h77, rfl⟩ := E.pred 1 _ 77 rfl rfl (by kernel_rfl)
    obtain ⟨_, h79, rfl⟩ := E.pred 3 _ 79 rfl rfl (by kernel_rfl)
    refine want_none rfl ?_
    have hrd := HR7.out.keep hC.1 (by intro hn0 t h1 h2; have := HLT.out t h1; simp at h2; omega)
    have hcp := HR7.out.cap
    have hA := HA.out
    subst hA
    by_cases hc9 : c = 9
    · subst hc9
      obtain rfl : N = 0 := by omega
      obtain rfl : n = 9 := by omega
      go_simp
      exact hK _ ⟨⟨some ⟨b, o, none⟩, 0, 0⟩, rfl, by omega, fun _ => ⟨by have := hrd.sub 9 9 (by omega) (by omega) (A' := some ⟨b, o, none⟩) (by intro b' o' h1 h2; omega); simpa using this, rfl⟩⟩
    · have i0 : (9 : Int) ≤ 9 + (N : Int) := by omega
      have i1 : 9 + (N : Int) ≤ (c : Int) := by omega
      have i2 : ¬ (9 : Int) = (c : Int) := by omega
      have i3 : ¬ (c : Int) = 9 := by omega
      go_simp
      have e9 : ((9 : Int) + (N : Int)).toNat - 9 = N := by omega
      rw [e9]
      exact hK _ ⟨⟨some ⟨b, o + 9, none⟩, N, c - 9⟩, rfl, by omega, fun _ => ⟨by have := hrd.sub 9 (9 + N) (by omega) (by omega) (A' := some ⟨b, o + 9, none⟩) (by intro b' o' h1 h2; injection h1 with h1; injection h1 with h1 h3 _; rw [h1, h3]); simpa using this, rfl⟩⟩
  · intro a w E hC K hK
    obtain ⟨_, h76, rfl⟩ := E.pred 0 _ 76 rfl rfl (by kernel_rfl)
    obtain ⟨v4, h80, V4⟩ := E.pred 4 _ 80 rfl rfl (by kernel_rfl)
    replace V4 : (fun p v w => ∃ x : Option Addr × Nat × Nat, v = .slice x.1 x.2.1 x.2.2 ∧ 0 ≤ p ∧ (p ≤ 0 → Rd w x.1 x.2.1 x.2.2 ((l.drop 9).take N) ∧ x.2.1 = N)) 0 v4 w := V4
    obtain ⟨x4, rfl, _, hG4⟩ := V4
    refine want_none rfl ?_
    have hrd := hG4 (by omega)
    have HG4 := Lib.hid hrd.2
    have hr4 := hrd.1
    clear hrd hG4
    go_simp
    refine (HPT.out x4.1 x4.2.1 x4.2.2 _ w hr4 (by have := HG4.out; have := HN2.out; omega)).mono ?_
    rw [HUR.out]
    rintro e w2 h2
    obtain ⟨A', n', c', rfl, hr', K2⟩ := h2
    have hz1 := K2.heap (hC.2.1 (by omega)) (by simp)
    have hz2 := K2.heap (hC.2.2.2.1 (by omega)) (by simp)
    have hne : 0 < n' → ∀ t, t ∈ ob A' → ¬ t = hb ∧ ¬ t = hx := fun hn t ht => ⟨fun e => by subst e; exact rd_ne hr' hn hz1 (by simp) ht, fun e => by subst e; exact rd_ne hr' hn hz2 (by simp) ht⟩
    go_simp
    exact hK _ _ ⟨⟨A', n', c'⟩, rfl, by omega, fun _ => ⟨hr', hne⟩⟩ ⟨hC.1.trans K2.nil, fun _ => hz1, fun h => by omega, fun _ => hz2, fun h => by omega⟩ K2.nil
  · intro q9 a w E hC K hK
    obtain ⟨v5, h81, V5⟩ := E.pred 5 _ 81 rfl rfl (by kernel_rfl)
    replace V5 : (fun p v w => ∃ x : Option Addr × Nat × Nat, v = .tuple #[.agg #[.int .i64 2, .int .i64 F, .int .i64 S, .slice none 0 0, .int .i64 (pad : Int), .int .u32 0, .int .i64 0, .int .i64 0, .int .i64 0, .bool false, .int .i64 0, .slice none 0 0], .slice x.1 x.2.1 x.2.2, .agg #[.bool false, .int .i64 0, .int .i64 0]] ∧ 1 ≤ p ∧ (p ≤ 3 → Rd w x.1 x.2.1 x.2.2 m ∧ (0 < x.2.1 → ∀ t, t ∈ ob x.1 → ¬ t = hb ∧ ¬ t = hx))) q9 v5 w := V5
    obtain ⟨x5, rfl, hl5, hG5⟩ := V5
    refine want_none rfl ?_
    go_simp
    exact hK _ ⟨x5, rfl, hl5, hG5⟩
  · intro q9 a w E hC K hK
    obtain ⟨v6, h75, V6⟩ := E.pred 6 _ 75 rfl rfl (by kernel_rfl)
    replace V6 : (fun p v w => ∃ x : Option Addr × Nat × Nat, v = .tuple #[.agg #[.int .i64 2, .int .i64 F, .int .i64 S, .slice none 0 0, .int .i64 (pad : Int), .int .u32 0, .int .i64 0, .int .i64 0, .int .i64 0, .bool false, .int .i64 0, .slice none 0 0], .slice x.1 x.2.1 x.2.2, .agg #[.bool false, .int .i64 0, .int .i64 0]] ∧ 1 ≤ p ∧ (p ≤ 3 → Rd w x.1 x.2.1 x.2.2 m ∧ (0 < x.2.1 → ∀ t, t ∈ ob x.1 → ¬ t = hb ∧ ¬ t = hx))) q9 v6 w := V6
    obtain ⟨x6, rfl, hl6, hG6⟩ := V6
    refine want_none rfl ?_
    go_simp
    exact hK _ rfl
  · intro q9 a w E hC K hK
    obtain ⟨v6, h75, V6⟩ := E.pred 6 _ 75 rfl rfl (by kernel_rfl)
    replace V6 : (fun p v w => ∃ x : Option Addr × Nat × Nat, v = .tuple #[.agg #[.int .i64 2, .int .i64 F, .int .i64 S, .slice none 0 0, .int .i64 (pad : Int), .int .u32 0, .int .i64 0, .int .i64 0, .int .i64 0, .bool false, .int .i64 0, .slice none 0 0], .slice x.1 x.2.1 x.2.2, .agg #[.bool false, .int .i64 0, .int .i64 0]] ∧ 1 ≤ p ∧ (p ≤ 3 → Rd w x.1 x.2.1 x.2.2 m ∧ (0 < x.2.1 → ∀ t, t ∈ ob x.1 → ¬ t = hb ∧ ¬ t = hx))) q9 v6 w := V6
    obtain ⟨x6, rfl, hl6, hG6⟩ := V6
    refine want_none rfl ?_
    go_simp
    exact hK _ ⟨x6, rfl, hl6, hG6⟩
  · intro q9 a w E hC K hK
    obtain ⟨v6, h75, V6⟩ := E.pred 6 _ 75 rfl rfl (by kernel_rfl)
    replace V6 : (fun p v w => ∃ x : Option Addr × Nat × Nat, v = .tuple #[.agg #[.int .i64 2, .int .i64 F, .int .i64 S, .slice none 0 0, .int .i64 (pad : Int), .int .u32 0, .int .i64 0, .int .i64 0, .int .i64 0, .bool false, .int .i64 0, .slice none 0 0], .slice x.1 x.2.1 x.2.2, .agg #[.bool false, .int .i64 0, .int .i64 0]] ∧ 1 ≤ p ∧ (p ≤ 3 → Rd w x.1 x.2.1 x.2.2 m ∧ (0 < x.2.1 → ∀ t, t ∈ ob x.1 → ¬ t = hb ∧ ¬ t = hx))) q9 v6 w := V6
    obtain ⟨x6, rfl, hl6, hG6⟩ := V6
    refine want_none rfl ?_
    go_simp
    exact hK _ rfl
  · intro a w E hC K hK
    have h13 : a.tmps[13]? = some (.pointer (some ⟨hb, 0, none⟩)) := (E.out 13 (by kernel_rfl)).trans rfl
    obtain ⟨_, h82, rfl⟩ := E.pred 7 _ 82 rfl rfl (by kernel_rfl)
    refine want_none rfl ?_
    have hz := hC.2.1 (by omega)
    have HZ := Lib.hid hz
    obtain ⟨q0, q1, q2, q3, q4, q5, q6, q7, q8, q9', q10, q11, qz, qlt, qlt2⟩ := cellsF hz
    clear hz
    go_simp
    generalize hW : World.setCell _ _ _ = w2
    obtain ⟨hs1, hs2⟩ : w2.heap[hb]? = some (.cells #[.int .i64 2, .int .i64 F, .int .i64 S, .slice none 0 0, .int .i64 (pad : Int), .int .u32 0, .int .i64 0, .int .i64 0, .int .i64 0, .bool false, .int .i64 0, .slice none 0 0] 49) ∧ Kp [hb] w w2 := by rw [← hW]; exact rset12 HZ.out
    exact hK undef _ trivial ⟨hC.1.trans (hs2.mono (by simp)), fun h => by omega, fun _ => hs1, fun h => hs2.heap (hC.2.2.2.1 (by omega)) (by simp; omega), fun h => by omega⟩ (hs2.mono (by simp))
  · intro q9 a w E hC K hK
    obtain ⟨v8, h83, V8⟩ := E.pred 8 _ 83 rfl rfl (by kernel_rfl)
    replace V8 : (fun p v w => ∃ x : Option Addr × Nat × Nat, v = .slice x.1 x.2.1 x.2.2 ∧ 1 ≤ p ∧ (p ≤ 3 → Rd w x.1 x.2.1 x.2.2 m ∧ (0 < x.2.1 → ∀ t, t ∈ ob x.1 → ¬ t = hb ∧ ¬ t = hx))) q9 v8 w := V8
    obtain ⟨x8, rfl, hl8, hG8⟩ := V8
    refine want_none rfl ?_
    go_simp
    exact hK _ ⟨x8, rfl, hl8, hG8⟩
  · intro a w E hC K hK
    have h14 : a.tmps[14]? = some (.pointer (some ⟨hx, 0, none⟩)) := (E.out 14 (by kernel_rfl)).trans rfl
    obtain ⟨_, h84, rfl⟩ := E.pred 9 _ 84 rfl rfl (by kernel_rfl)
    refine want_none rfl ?_
    have hz := hC.2.2.2.1 (by omega)
    have HZ := Lib.hid hz
    have x0 := cell_of hz 0
    have x1 := cell_of hz 1
    have x2 := cell_of hz 2
    have xz := frozen_of hz
    have xl := lt_of_heap hz
    clear hz
    go_simp
    generalize hW : World.setCell _ _ _ = w2
    obtain ⟨hs1, hs2⟩ : w2.heap[hx]? = some (.cells #[.bool false, .int .i64 0, .int .i64 0] 64) ∧ Kp [hx] w w2 := by rw [← hW]; exact rset3 HZ.out
    exact hK undef _ trivial ⟨hC.1.trans (hs2.mono (by simp)), fun h => by omega, fun _ => (hs2.heap (hC.2.2.1 (by omega)) (by simp; omega)), fun h => by omega, fun _ => hs1⟩ (hs2.mono (by simp))
  intro vs w8 hC hV
  obtain ⟨⟨A8, n8, c8⟩, h11, _, hG8⟩ := hV 11 _ rfl (by simp)
  obtain ⟨hr8, _⟩ := hG8 (by simp)
  dsimp only at hr8
  have HR8 := Lib.hid hr8
  clear hr8 hG8
  have HB8 := Lib.hid (hC.2.2.1 (by simp))
  have HT8 := Lib.hid (hC.2.2.2.2 (by simp))
  have HF8 := Lib.hid (hC.1.heap HF7.out (by simp; omega))
  have HX8 := Lib.hid (hC.1.heap HX7.out (by simp; omega))
  have HK8 := Lib.hid (HK7.out.then hC.1 (by simp; omega))
  clear hV hC HX7 HB7 HF7 HK7 HR7 HT7
  simp only [putAll, Act.put, List.setIfInBounds_toArray]
  dsimp only [List.set]
  obtain ⟨q0, q1, q2, q3, q4, q5, q6, q7, q8, q9, q10, q11, qz, qlt, qlt2⟩ := cellsF HF8.out
  have x0 := cell_of HX8.out 0
  have x1 := cell_of HX8.out 1
  have x2 := cell_of HX8.out 2
  have xz := frozen_of HX8.out
  have t0 := cell_of HT8.out 0
  have t1 := cell_of HT8.out 1
  have t2 := cell_of HT8.out 2
  have tz := frozen_of HT8.out
  have tl := lt_of_heap HT8.out
  obtain ⟨b0, b1, b2, b3, b4, b5, b6, b7, b8, b9, b10, b11, bz, blt, blt2⟩ := cellsF HB8.out
  go_wp2_with fail
  refine (HFL.out A8 n8 c8 w8 HR8.out (by have := HR8.out.len; have := HML.out; omega)).mono ?_
  rintro e w9 hf9
  obtain ⟨f9, rfl, hp9, K9⟩ := hf9
  have HP9 := Lib.hid hp9
  have hs8 := HK8.out.size
  have hbl := lt_of_heap HB8.out
  have hxl := lt_of_heap HT8.out
  clear hp9
  have HF9 := Lib.hid (K9.heap HF8.out (by simp))
  have HX9 := Lib.hid (K9.heap HX8.out (by simp))
  have HB9 := Lib.hid (K9.heap HB8.out (by simp))
  have HT9 := Lib.hid (K9.heap HT8.out (by simp))
  have HK9 := Lib.hid (HK8.out.trans K9)
  clear K9 HF8 HX8 HB8 HT8 HK8 HR8 q0 q1 q2 q3 q4 q5 q6 q7 q8 q9 q10 q11 qz qlt qlt2 x0 x1 x2 xz t0 t1 t2 tz tl b0 b1 b2 b3 b4 b5 b6 b7 b8 b9 b10 b11 bz blt blt2
  obtain ⟨q0, q1, q2, q3, q4, q5, q6, q7, q8, q9, q10, q11, qz, qlt, qlt2⟩ := cellsF HF9.out
  have x0 := cell_of HX9.out 0
  have x1 := cell_of HX9.out 1
  have x2 := cell_of HX9.out 2
  have xz := frozen_of HX9.out
  have t0 := cell_of HT9.out 0
  have t1 := cell_of HT9.out 1
  have t2 := cell_of HT9.out 2
  have tz := frozen_of HT9.out
  have tl := lt_of_heap HT9.out
  obtain ⟨b0, b1, b2, b3, b4, b5, b6, b7, b8, b9, b10, b11, bz, blt, blt2⟩ := cellsF HB9.out
  go_wp2
  obtain ⟨h15a, h15b, Kst⟩ := set15 (g := hb) (h := hx) (w := w9) (b0 := .int .i64 f9.ty) (b1 := .int .i64 f9.fl) (b2 := .int .i64 f9.st) (b3 := .slice f9.pA f9.pn f9.pc) (b4 := .int .i64 f9.pad) (b5 := .int .u32 f9.code) (b6 := .int .i64 f9.last) (b7 := .int .i64 f9.inc) (b8 := .int .i64 f9.dep) (b9 := .bool f9.only) (b10 := .int .i64 f9.wt) (b11 := .slice f9.sA f9.sn f9.sc) (y0 := .bool false) (y1 := .int .i64 0) (y2 := .int .i64 0) (by omega) HB9.out HT9.out
  have HF := Lib.hid (Kst.heap HF9.out (by simp; omega))
  have HX := Lib.hid (Kst.heap HX9.out (by simp; omega))
  generalize hW : World.setCell _ _ _ = W
  obtain ⟨HF9, HX9, K9⟩ : W.heap[w.heap.size]? = some (.cells #[.int .i64 f9.ty, .int .i64 f9.fl, .int .i64 f9.st, .slice f9.pA f9.pn f9.pc, .int .i64 f9.pad, .int .u32 f9.code, .int .i64 f9.last, .int .i64 f9.inc, .int .i64 f9.dep, .bool f9.only, .int .i64 f9.wt, .slice f9.sA f9.sn f9.sc] 49) ∧ W.heap[w.heap.size + 1]? = some (.cells #[.bool false, .int .i64 0, .int .i64 0] 64) ∧ Kp [w.heap.size, w.heap.size + 1] (World.setCell (World.setCell (World.setCell (World.setCell (World.setCell (World.setCell (World.setCell (World.setCell (World.setCell (World.setCell (World.setCell (World.setCell (World.setCell (World.setCell (World.setCell w9 ⟨hb, 0, none⟩ (.int .i64 f9.ty)) ⟨hb, 1, none⟩ (.int .i64 f9.fl)) ⟨hb, 2, none⟩ (.int .i64 f9.st)) ⟨hb, 3, none⟩ (.slice f9.pA f9.pn f9.pc)) ⟨hb, 4, none⟩ (.int .i64 f9.pad)) ⟨hb, 5, none⟩ (.int .u32 f9.code)) ⟨hb, 6, none⟩ (.int .i64 f9.last)) ⟨hb, 7, none⟩ (.int .i64 f9.inc)) ⟨hb, 8, none⟩ (.int .i64 f9.dep)) ⟨hb, 9, none⟩ (.bool f9.only)) ⟨hb, 10, none⟩ (.int .i64 f9.wt)) ⟨hb, 11, none⟩ (.slice f9.sA f9.sn f9.sc)) ⟨hx, 0, none⟩ (.bool false)) ⟨hx, 1, none⟩ (.int .i64 0)) ⟨hx, 2, none⟩ (.int .i64 0)) W := by rw [← hW]; exact set15 (by omega) HF.out HX.out
  refine bodyPost_ret (v := .tuple #[.agg #[.int .i64 f9.ty, .int .i64 f9.fl, .int .i64 f9.st, .slice f9.pA f9.pn f9.pc, .int .i64 f9.pad, .int .u32 f9.code, .int .i64 f9.last, .int .i64 f9.inc, .int .i64 f9.dep, .bool f9.only, .int .i64 f9.wt, .slice f9.sA f9.sn f9.sc], .int .i64 (9 + (N : Int)), .agg #[.bool false, .int .i64 0, .int .i64 0], .int .i64 0]) (by simp [results, Try.results101, go_sem, cell_of HF9, cell_of HX9]) rfl ⟨f9, rfl, HP9.out.low ((Kst.mono (T := [hb, hx, w.heap.size, w.heap.size + 1]) (by simp)).trans (K9.mono (by simp))) (by simp; omega) (by omega), ((HK9.out.then Kst (by simp; omega)).then K9 (by simp))⟩
end Go.Proofs.Ytkmcakneceagpaa
