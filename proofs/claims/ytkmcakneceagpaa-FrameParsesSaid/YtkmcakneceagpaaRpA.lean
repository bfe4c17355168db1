/- The reference's Parse: its small functions. -/
import Derived.Test.YtkmcakneceagpaaRfK
import Derived.Test.YtkmcakneceagpaaFrmQ
import Derived.Test.YtkmcakneceagpaaPrs7
set_option linter.unusedVariables false
set_option linter.unusedSimpArgs false
set_option linter.unusedSimpArgs false
namespace Go.Proofs.Ytkmcakneceagpaa
open Go.RowKit
theorem rset12 {w : World} {g : Nat} {a0 a1 a2 a3 a4 a5 a6 a7 a8 a9 a10 a11 b0 b1 b2 b3 b4 b5 b6 b7 b8 b9 b10 b11 : Value} {t : TypeId} (hg : w.heap[g]? = some (.cells #[a0, a1, a2, a3, a4, a5, a6, a7, a8, a9, a10, a11] t)) : (World.setCell (World.setCell (World.setCell (World.setCell (World.setCell (World.setCell (World.setCell (World.setCell (World.setCell (World.setCell (World.setCell (World.setCell w ⟨g, 0, none⟩ b0) ⟨g, 1, none⟩ b1) ⟨g, 2, none⟩ b2) ⟨g, 3, none⟩ b3) ⟨g, 4, none⟩ b4) ⟨g, 5, none⟩ b5) ⟨g, 6, none⟩ b6) ⟨g, 7, none⟩ b7) ⟨g, 8, none⟩ b8) ⟨g, 9, none⟩ b9) ⟨g, 10, none⟩ b10) ⟨g, 11, none⟩ b11).heap[g]? = some (.cells #[b0, b1, b2, b3, b4, b5, b6, b7, b8, b9, b10, b11] t) ∧ Kp [g] w (World.setCell (World.setCell (World.setCell (World.setCell (World.setCell (World.setCell (World.setCell (World.setCell (World.setCell (World.setCell (World.setCell (World.setCell w ⟨g, 0, none⟩ b0) ⟨g, 1, none⟩ b1) ⟨g, 2, none⟩ b2) ⟨g, 3, none⟩ b3) ⟨g, 4, none⟩ b4) ⟨g, 5, none⟩ b5) ⟨g, 6, none⟩ b6) ⟨g, 7, none⟩ b7) ⟨g, 8, none⟩ b8) ⟨g, 9, none⟩ b9) ⟨g, 10, none⟩ b10) ⟨g, 11, none⟩ b11) := ⟨sf11 (sf10 (sf9 (sf8 (sf7 (sf6 (sf5 (sf4 (sf3 (sf2 (sf1 (sf0 (hg)))))))))))), (((((((((((((Kp.refl _ _).setCell (.inl (by simp)) _).setCell (.inl (by simp)) _).setCell (.inl (by simp)) _).setCell (.inl (by simp)) _).setCell (.inl (by simp)) _).setCell (.inl (by simp)) _).setCell (.inl (by simp)) _).setCell (.inl (by simp)) _).setCell (.inl (by simp)) _).setCell (.inl (by simp)) _).setCell (.inl (by simp)) _).setCell (.inl (by simp)) _)⟩
theorem rset3 {w : World} {g : Nat} {x0 x1 x2 y0 y1 y2 : Value} {t : TypeId} (hg : w.heap[g]? = some (.cells #[x0, x1, x2] t)) : (World.setCell (World.setCell (World.setCell w ⟨g, 0, none⟩ y0) ⟨g, 1, none⟩ y1) ⟨g, 2, none⟩ y2).heap[g]? = some (.cells #[y0, y1, y2] t) ∧ Kp [g] w (World.setCell (World.setCell (World.setCell w ⟨g, 0, none⟩ y0) ⟨g, 1, none⟩ y1) ⟨g, 2, none⟩ y2) := ⟨sx2 (sx1 (sx0 (hg))), ((((Kp.refl _ _).setCell (.inl (by simp)) _).setCell (.inl (by simp)) _).setCell (.inl (by simp)) _)⟩
set_option maxHeartbeats 1000000 in
theorem rfault (code : Int) (w : World) : Calls Try.prog 152 #[.int .i64 code] w fun e w' => e = .returned (.agg #[.bool true, .int .i64 0, .int .i64 code]) ∧ Kp [] w w' := by
  go_enter Try.func152, Try.ntmps152
  go_wp2
  refine bodyPost_ret (v := .agg #[.bool true, .int .i64 0, .int .i64 code]) (by simp [results, Try.results152, go_sem]) rfl ⟨rfl, by (repeat (first | with_reducible exact Kp.refl _ _ | with_reducible assumption | with_reducible refine Kp.alloc ?_ _ | with_reducible refine Kp.drew ?_ | with_reducible refine Kp.drewN ?_ _ | (with_reducible refine Kp.setL ?_ ?_ _; focus (simp; done)) | (with_reducible refine Kp.setR ?_ ?_ _; focus (simp; done)) | (with_reducible refine Kp.setR ?_ ?_ _; focus (simp; omega))))⟩
set_option maxHeartbeats 1000000 in
theorem rsize0 (fl st : Int) (n : Nat) (hn : n ≤ 16777216) (w : World) (hf0 : 0 ≤ fl) (hf1 : fl ≤ 255) : Calls Try.prog 154 #[.agg #[.int .i64 0, .int .i64 fl, .int .i64 st, .slice none 0 0, .int .i64 0, .int .u32 0, .int .i64 0, .int .i64 0, .int .i64 0, .bool false, .int .i64 0, .slice none 0 0], .int .i64 n] w (BoolK (!fitsB 0 fl n) w) := by
  go_enter Try.func154, Try.ntmps154
  go_wp2
  go_ret
  exact ⟨by simp [fitsB], by (repeat (first | with_reducible exact Kp.refl _ _ | with_reducible assumption | with_reducible refine Kp.alloc ?_ _ | with_reducible refine Kp.drew ?_ | with_reducible refine Kp.drewN ?_ _ | (with_reducible refine Kp.setL ?_ ?_ _; focus (simp; done)) | (with_reducible refine Kp.setR ?_ ?_ _; focus (simp; done)) | (with_reducible refine Kp.setR ?_ ?_ _; focus (simp; omega))))⟩
set_option maxHeartbeats 1000000 in
theorem rsize1 (fl st : Int) (n : Nat) (hn : n ≤ 16777216) (w : World) (hf0 : 0 ≤ fl) (hf1 : fl ≤ 255) : Calls Try.prog 154 #[.agg #[.int .i64 1, .int .i64 fl, .int .i64 st, .slice none 0 0, .int .i64 0, .int .u32 0, .int .i64 0, .int .i64 0, .int .i64 0, .bool false, .int .i64 0, .slice none 0 0], .int .i64 n] w (BoolK (!fitsB 1 fl n) w) := by
  go_enter Try.func154, Try.ntmps154
  go_wp2
  go_ret
  exact ⟨by simp [fitsB], by (repeat (first | with_reducible exact Kp.refl _ _ | with_reducible assumption | with_reducible refine Kp.alloc ?_ _ | with_reducible refine Kp.drew ?_ | with_reducible refine Kp.drewN ?_ _ | (with_reducible refine Kp.setL ?_ ?_ _; focus (simp; done)) | (with_reducible refine Kp.setR ?_ ?_ _; focus (simp; done)) | (with_reducible refine Kp.setR ?_ ?_ _; focus (simp; omega))))⟩
set_option maxHeartbeats 1000000 in
theorem rsize2 (fl st : Int) (n : Nat) (hn : n ≤ 16777216) (w : World) (hf0 : 0 ≤ fl) (hf1 : fl ≤ 255) : Calls Try.prog 154 #[.agg #[.int .i64 2, .int .i64 fl, .int .i64 st, .slice none 0 0, .int .i64 0, .int .u32 0, .int .i64 0, .int .i64 0, .int .i64 0, .bool false, .int .i64 0, .slice none 0 0], .int .i64 n] w (BoolK (!fitsB 2 fl n) w) := by
  by_cases h : n = 5
  · subst h
    go_enter Try.func154, Try.ntmps154
    go_wp2
    go_ret
    exact ⟨by simp [fitsB], by (repeat (first | with_reducible exact Kp.refl _ _ | with_reducible assumption | with_reducible refine Kp.alloc ?_ _ | with_reducible refine Kp.drew ?_ | with_reducible refine Kp.drewN ?_ _ | (with_reducible refine Kp.setL ?_ ?_ _; focus (simp; done)) | (with_reducible refine Kp.setR ?_ ?_ _; focus (simp; done)) | (with_reducible refine Kp.setR ?_ ?_ _; focus (simp; omega))))⟩
  · have h1 : ((n : Int) != 5) = true := by simp; omega
    go_enter Try.func154, Try.ntmps154
    go_wp2
    go_ret
    exact ⟨by simp [fitsB, h], by (repeat (first | with_reducible exact Kp.refl _ _ | with_reducible assumption | with_reducible refine Kp.alloc ?_ _ | with_reducible refine Kp.drew ?_ | with_reducible refine Kp.drewN ?_ _ | (with_reducible refine Kp.setL ?_ ?_ _; focus (simp; done)) | (with_reducible refine Kp.setR ?_ ?_ _; focus (simp; done)) | (with_reducible refine Kp.setR ?_ ?_ _; focus (simp; omega))))⟩
set_option maxHeartbeats 1000000 in
theorem rsize3 (fl st : Int) (n : Nat) (hn : n ≤ 16777216) (w : World) (hf0 : 0 ≤ fl) (hf1 : fl ≤ 255) : Calls Try.prog 154 #[.agg #[.int .i64 3, .int .i64 fl, .int .i64 st, .slice none 0 0, .int .i64 0, .int .u32 0, .int .i64 0, .int .i64 0, .int .i64 0, .bool false, .int .i64 0, .slice none 0 0], .int .i64 n] w (BoolK (!fitsB 3 fl n) w) := by
  by_cases h : n = 4
  · subst h
    go_enter Try.func154, Try.ntmps154
    go_wp2
    go_ret
    exact ⟨by simp [fitsB], by (repeat (first | with_reducible exact Kp.refl _ _ | with_reducible assumption | with_reducible refine Kp.alloc ?_ _ | with_reducible refine Kp.drew ?_ | with_reducible refine Kp.drewN ?_ _ | (with_reducible refine Kp.setL ?_ ?_ _; focus (simp; done)) | (with_reducible refine Kp.setR ?_ ?_ _; focus (simp; done)) | (with_reducible refine Kp.setR ?_ ?_ _; focus (simp; omega))))⟩
  · have h1 : ((n : Int) != 4) = true := by simp; omega
    go_enter Try.func154, Try.ntmps154
    go_wp2
    go_ret
    exact ⟨by simp [fitsB, h], by (repeat (first | with_reducible exact Kp.refl _ _ | with_reducible assumption | with_reducible refine Kp.alloc ?_ _ | with_reducible refine Kp.drew ?_ | with_reducible refine Kp.drewN ?_ _ | (with_reducible refine Kp.setL ?_ ?_ _; focus (simp; done)) | (with_reducible refine Kp.setR ?_ ?_ _; focus (simp; done)) | (with_reducible refine Kp.setR ?_ ?_ _; focus (simp; omega))))⟩
set_option maxHeartbeats 1000000 in
theorem rsize4 (fl st : Int) (n : Nat) (hn : n ≤ 16777216) (w : World) (hf0 : 0 ≤ fl) (hf1 : fl ≤ 255) : Calls Try.prog 154 #[.agg #[.int .i64 4, .int .i64 fl, .int .i64 st, .slice none 0 0, .int .i64 0, .int .u32 0, .int .i64 0, .int .i64 0, .int .i64 0, .bool false, .int .i64 0, .slice none 0 0], .int .i64 n] w (BoolK (!fitsB 4 fl n) w) := by
  have e4 : fitsB 4 fl n = (decide (n % 6 = 0) && (decide (n = 0) || !hasB fl 1)) := by simp [fitsB]
  rw [e4]
  by_cases h6 : n % 6 = 0
  · have h1 : ((n : Int) % 6 != 0) = false := by simp; omega
    have h1t : ((n : Int).tmod 6 != 0) = false := by rw [Int.tmod_eq_emod_of_nonneg (by omega)]; exact h1
    by_cases h0 : n = 0
    · subst h0
      go_enter Try.func154, Try.ntmps154
      go_wp2
      go_ret
      exact ⟨by simp, by (repeat (first | with_reducible exact Kp.refl _ _ | with_reducible assumption | with_reducible refine Kp.alloc ?_ _ | with_reducible refine Kp.drew ?_ | with_reducible refine Kp.drewN ?_ _ | (with_reducible refine Kp.setL ?_ ?_ _; focus (simp; done)) | (with_reducible refine Kp.setR ?_ ?_ _; focus (simp; done)) | (with_reducible refine Kp.setR ?_ ?_ _; focus (simp; omega))))⟩
    · have h2 : (0 : Int) < (n : Int) := by omega
      go_enter Try.func154, Try.ntmps154
      go_wp2_with fail
      refine (hasF fl 1 _ hf0 hf1 (by omega) (by omega)).mono ?_
      rintro e w1 ⟨rfl, rfl⟩
      go_wp2
      go_ret
      exact ⟨by simp [h6, h0], by (repeat (first | with_reducible exact Kp.refl _ _ | with_reducible assumption | with_reducible refine Kp.alloc ?_ _ | with_reducible refine Kp.drew ?_ | with_reducible refine Kp.drewN ?_ _ | (with_reducible refine Kp.setL ?_ ?_ _; focus (simp; done)) | (with_reducible refine Kp.setR ?_ ?_ _; focus (simp; done)) | (with_reducible refine Kp.setR ?_ ?_ _; focus (simp; omega))))⟩
  · have h1 : ((n : Int) % 6 != 0) = true := by simp; omega
    have h1t : ((n : Int).tmod 6 != 0) = true := by rw [Int.tmod_eq_emod_of_nonneg (by omega)]; exact h1
    go_enter Try.func154, Try.ntmps154
    go_wp2
    go_ret
    exact ⟨by simp [h6], by (repeat (first | with_reducible exact Kp.refl _ _ | with_reducible assumption | with_reducible refine Kp.alloc ?_ _ | with_reducible refine Kp.drew ?_ | with_reducible refine Kp.drewN ?_ _ | (with_reducible refine Kp.setL ?_ ?_ _; focus (simp; done)) | (with_reducible refine Kp.setR ?_ ?_ _; focus (simp; done)) | (with_reducible refine Kp.setR ?_ ?_ _; focus (simp; omega))))⟩
set_option maxHeartbeats 1000000 in
theorem rsize5 (fl st : Int) (n : Nat) (hn : n ≤ 16777216) (w : World) (hf0 : 0 ≤ fl) (hf1 : fl ≤ 255) : Calls Try.prog 154 #[.agg #[.int .i64 5, .int .i64 fl, .int .i64 st, .slice none 0 0, .int .i64 0, .int .u32 0, .int .i64 0, .int .i64 0, .int .i64 0, .bool false, .int .i64 0, .slice none 0 0], .int .i64 n] w (BoolK (!fitsB 5 fl n) w) := by
  go_enter Try.func154, Try.ntmps154
  go_wp2
  go_ret
  exact ⟨by simp [fitsB], by (repeat (first | with_reducible exact Kp.refl _ _ | with_reducible assumption | with_reducible refine Kp.alloc ?_ _ | with_reducible refine Kp.drew ?_ | with_reducible refine Kp.drewN ?_ _ | (with_reducible refine Kp.setL ?_ ?_ _; focus (simp; done)) | (with_reducible refine Kp.setR ?_ ?_ _; focus (simp; done)) | (with_reducible refine Kp.setR ?_ ?_ _; focus (simp; omega))))⟩
set_option maxHeartbeats 1000000 in
theorem rsize6 (fl st : Int) (n : Nat) (hn : n ≤ 16777216) (w : World) (hf0 : 0 ≤ fl) (hf1 : fl ≤ 255) : Calls Try.prog 154 #[.agg #[.int .i64 6, .int .i64 fl, .int .i64 st, .slice none 0 0, .int .i64 0, .int .u32 0, .int .i64 0, .int .i64 0, .int .i64 0, .bool false, .int .i64 0, .slice none 0 0], .int .i64 n] w (BoolK (!fitsB 6 fl n) w) := by
  by_cases h : n = 8
  · subst h
    go_enter Try.func154, Try.ntmps154
    go_wp2
    go_ret
    exact ⟨by simp [fitsB], by (repeat (first | with_reducible exact Kp.refl _ _ | with_reducible assumption | with_reducible refine Kp.alloc ?_ _ | with_reducible refine Kp.drew ?_ | with_reducible refine Kp.drewN ?_ _ | (with_reducible refine Kp.setL ?_ ?_ _; focus (simp; done)) | (with_reducible refine Kp.setR ?_ ?_ _; focus (simp; done)) | (with_reducible refine Kp.setR ?_ ?_ _; focus (simp; omega))))⟩
  · have h1 : ((n : Int) != 8) = true := by simp; omega
    go_enter Try.func154, Try.ntmps154
    go_wp2
    go_ret
    exact ⟨by simp [fitsB, h], by (repeat (first | with_reducible exact Kp.refl _ _ | with_reducible assumption | with_reducible refine Kp.alloc ?_ _ | with_reducible refine Kp.drew ?_ | with_reducible refine Kp.drewN ?_ _ | (with_reducible refine Kp.setL ?_ ?_ _; focus (simp; done)) | (with_reducible refine Kp.setR ?_ ?_ _; focus (simp; done)) | (with_reducible refine Kp.setR ?_ ?_ _; focus (simp; omega))))⟩
set_option maxHeartbeats 1000000 in
theorem rsize7 (fl st : Int) (n : Nat) (hn : n ≤ 16777216) (w : World) (hf0 : 0 ≤ fl) (hf1 : fl ≤ 255) : Calls Try.prog 154 #[.agg #[.int .i64 7, .int .i64 fl, .int .i64 st, .slice none 0 0, .int .i64 0, .int .u32 0, .int .i64 0, .int .i64 0, .int .i64 0, .bool false, .int .i64 0, .slice none 0 0], .int .i64 n] w (BoolK (!fitsB 7 fl n) w) := by
  by_cases h : n < 8
  · have h1 : (n : Int) < 8 := by omega
    go_enter Try.func154, Try.ntmps154
    go_wp2
    go_ret
    exact ⟨by simp [fitsB, h], by (repeat (first | with_reducible exact Kp.refl _ _ | with_reducible assumption | with_reducible refine Kp.alloc ?_ _ | with_reducible refine Kp.drew ?_ | with_reducible refine Kp.drewN ?_ _ | (with_reducible refine Kp.setL ?_ ?_ _; focus (simp; done)) | (with_reducible refine Kp.setR ?_ ?_ _; focus (simp; done)) | (with_reducible refine Kp.setR ?_ ?_ _; focus (simp; omega))))⟩
  · have h1 : ¬ (n : Int) < 8 := by omega
    go_enter Try.func154, Try.ntmps154
    go_wp2
    go_ret
    exact ⟨by simp [fitsB]; omega, by (repeat (first | with_reducible exact Kp.refl _ _ | with_reducible assumption | with_reducible refine Kp.alloc ?_ _ | with_reducible refine Kp.drew ?_ | with_reducible refine Kp.drewN ?_ _ | (with_reducible refine Kp.setL ?_ ?_ _; focus (simp; done)) | (with_reducible refine Kp.setR ?_ ?_ _; focus (simp; done)) | (with_reducible refine Kp.setR ?_ ?_ _; focus (simp; omega))))⟩
set_option maxHeartbeats 1000000 in
theorem rsize8 (fl st : Int) (n : Nat) (hn : n ≤ 16777216) (w : World) (hf0 : 0 ≤ fl) (hf1 : fl ≤ 255) : Calls Try.prog 154 #[.agg #[.int .i64 8, .int .i64 fl, .int .i64 st, .slice none 0 0, .int .i64 0, .int .u32 0, .int .i64 0, .int .i64 0, .int .i64 0, .bool false, .int .i64 0, .slice none 0 0], .int .i64 n] w (BoolK (!fitsB 8 fl n) w) := by
  by_cases h : n = 4
  · subst h
    go_enter Try.func154, Try.ntmps154
    go_wp2
    go_ret
    exact ⟨by simp [fitsB], by (repeat (first | with_reducible exact Kp.refl _ _ | with_reducible assumption | with_reducible refine Kp.alloc ?_ _ | with_reducible refine Kp.drew ?_ | with_reducible refine Kp.drewN ?_ _ | (with_reducible refine Kp.setL ?_ ?_ _; focus (simp; done)) | (with_reducible refine Kp.setR ?_ ?_ _; focus (simp; done)) | (with_reducible refine Kp.setR ?_ ?_ _; focus (simp; omega))))⟩
  · have h1 : ((n : Int) != 4) = true := by simp; omega
    go_enter Try.func154, Try.ntmps154
    go_wp2
    go_ret
    exact ⟨by simp [fitsB, h], by (repeat (first | with_reducible exact Kp.refl _ _ | with_reducible assumption | with_reducible refine Kp.alloc ?_ _ | with_reducible refine Kp.drew ?_ | with_reducible refine Kp.drewN ?_ _ | (with_reducible refine Kp.setL ?_ ?_ _; focus (simp; done)) | (with_reducible refine Kp.setR ?_ ?_ _; focus (simp; done)) | (with_reducible refine Kp.setR ?_ ?_ _; focus (simp; omega))))⟩
set_option maxHeartbeats 1000000 in
theorem rsize9 (fl st : Int) (n : Nat) (hn : n ≤ 16777216) (w : World) (hf0 : 0 ≤ fl) (hf1 : fl ≤ 255) : Calls Try.prog 154 #[.agg #[.int .i64 9, .int .i64 fl, .int .i64 st, .slice none 0 0, .int .i64 0, .int .u32 0, .int .i64 0, .int .i64 0, .int .i64 0, .bool false, .int .i64 0, .slice none 0 0], .int .i64 n] w (BoolK (!fitsB 9 fl n) w) := by
  go_enter Try.func154, Try.ntmps154
  go_wp2
  go_ret
  exact ⟨by simp [fitsB], by (repeat (first | with_reducible exact Kp.refl _ _ | with_reducible assumption | with_reducible refine Kp.alloc ?_ _ | with_reducible refine Kp.drew ?_ | with_reducible refine Kp.drewN ?_ _ | (with_reducible refine Kp.setL ?_ ?_ _; focus (simp; done)) | (with_reducible refine Kp.setR ?_ ?_ _; focus (simp; done)) | (with_reducible refine Kp.setR ?_ ?_ _; focus (simp; omega))))⟩
theorem refU31_at (A : Option Addr) (n c : Nat) (i : Nat) (l : List UInt8) (w : World) (hn : n ≤ 140737488355328) (hr : Rd w A n c l) (h : i + 4 ≤ n) : Calls Try.prog 52 #[.slice A n c, .int .i64 i] w (NumR .i64 (n31 l i) w) :=
  (refU31_any A n c i l w hn hr).mono fun e w' ⟨he, hk⟩ => ⟨_, _, by rw [n31_eq (by rw [hr.len]; exact h)] at he; exact he, hk⟩
theorem refU32_at (A : Option Addr) (n c : Nat) (i : Nat) (l : List UInt8) (w : World) (hn : n ≤ 140737488355328) (hr : Rd w A n c l) (h : i + 4 ≤ n) : Calls Try.prog 35 #[.slice A n c, .int .i64 i] w (NumR .u32 (n32 l i) w) :=
  (refU32_any A n c i l w hn hr).mono fun e w' ⟨he, hk⟩ => ⟨_, _, by rw [n32_eq (by rw [hr.len]; exact h)] at he; exact he, hk⟩
theorem refU16_at (A : Option Addr) (n c : Nat) (i : Nat) (l : List UInt8) (w : World) (hn : n ≤ 140737488355328) (hr : Rd w A n c l) (h : i + 2 ≤ n) : Calls Try.prog 40 #[.slice A n c, .int .i64 i] w (NumR .i64 (n16 l i) w) :=
  (refU16_any A n c i l w hn hr).mono fun e w' ⟨he, hk⟩ => ⟨_, _, by rw [n16_eq (by rw [hr.len]; exact h)] at he; exact he, hk⟩
set_option maxHeartbeats 2000000 in
set_option maxRecDepth 100000 in
theorem rprior (f : Fr) (A : Option Addr) (n c : Nat) (l : List UInt8) (w : World) (hr : Rd w A n c l) (h5 : 5 ≤ n) (hn : n ≤ 140737488355328) :
    Calls Try.prog 191 #[.agg #[.int .i64 f.ty, .int .i64 f.fl, .int .i64 f.st, .slice f.pA f.pn f.pc, .int .i64 f.pad, .int .u32 f.code, .int .i64 f.last, .int .i64 f.inc, .int .i64 f.dep, .bool f.only, .int .i64 f.wt, .slice f.sA f.sn f.sc], .slice A n c] w fun e w' => e = .returned (.agg #[.int .i64 f.ty, .int .i64 f.fl, .int .i64 f.st, .slice f.pA f.pn f.pc, .int .i64 f.pad, .int .u32 f.code, .int .i64 f.last, .int .i64 f.inc, .int .i64 (n31 l 0), .bool (decide (128 ≤ (l.getD 0 0).toNat)), .int .i64 ((l.getD 4 0).toNat + 1), .slice f.sA f.sn f.sc]) ∧ Kp [] w w' := by
  obtain ⟨b, off, rfl, hb, hcell⟩ := hr.addr (by omega)
  have HR := Lib.hid hr
  have hcap := hr.cap
  have Q0 := Lib.hid (hcell 0 (by omega))
  have Q4 := Lib.hid (hcell 4 (by omega))
  clear hcell hr
  generalize hx : n31 l 0 = x
  have HX := Lib.hid hx
  have hx0 := (l.getD 0 0).toNat_lt
  have hx4 := (l.getD 4 0).toNat_lt
  generalize hy0 : (l.getD 0 0).toNat = y0 at *
  generalize hy4 : (l.getD 4 0).toNat = y4 at *
  clear hx hy0 hy4
  go_enter Try.func191, Try.ntmps191
  go_wp2_with fail
  generalize hW : World.alloc _ _ = w1
  have K1 : Kp [] w w1 := by rw [← hW]; (repeat (first | with_reducible exact Kp.refl _ _ | with_reducible assumption | with_reducible refine Kp.alloc ?_ _ | with_reducible refine Kp.drew ?_ | with_reducible refine Kp.drewN ?_ _ | (with_reducible refine Kp.setL ?_ ?_ _; focus (simp; done)) | (with_reducible refine Kp.setR ?_ ?_ _; focus (simp; done)) | (with_reducible refine Kp.setR ?_ ?_ _; focus (simp; omega))))
  have HB := Lib.hid (show w1.heap[w.heap.size]? = some (.cells #[.int .i64 f.ty, .int .i64 f.fl, .int .i64 f.st, .slice f.pA f.pn f.pc, .int .i64 f.pad, .int .u32 f.code, .int .i64 f.last, .int .i64 f.inc, .int .i64 f.dep, .bool f.only, .int .i64 f.wt, .slice f.sA f.sn f.sc] 49) by rw [← hW]; (repeat (first | with_reducible assumption | (with_reducible refine hp_new _ _ _ ?_; focus (simp; done)) | (with_reducible refine (hp_old _ _ _ ?_).trans ?_; focus (first | omega | (simp; done) | (simp; omega))) | (with_reducible refine (hp_far _ _ _ _ ?_).trans ?_; focus (first | (simp; done) | (simp; omega))) | (with_reducible refine (hp_drew _ _).trans ?_) | (with_reducible refine (hp_drewN _ _ _).trans ?_))))
  have HF := Lib.hid (show w1.heap[w.heap.size + 1]? = some (.cells #[.int .i64 0, .int .i64 0, .int .i64 0, .slice none 0 0, .int .i64 0, .int .u32 0, .int .i64 0, .int .i64 0, .int .i64 0, .bool false, .int .i64 0, .slice none 0 0] 49) by rw [← hW]; (repeat (first | with_reducible assumption | (with_reducible refine hp_new _ _ _ ?_; focus (simp; done)) | (with_reducible refine (hp_old _ _ _ ?_).trans ?_; focus (first | omega | (simp; done) | (simp; omega))) | (with_reducible refine (hp_far _ _ _ _ ?_).trans ?_; focus (first | (simp; done) | (simp; omega))) | (with_reducible refine (hp_drew _ _).trans ?_) | (with_reducible refine (hp_drewN _ _ _).trans ?_))))
  clear hW
  have hU := refU31_at (some ⟨b, off, none⟩) n c 0 l w1 hn (HR.out.keep K1 (by simp)) (by omega)
  rw [show ((0 : Nat) : Int) = 0 from rfl, HX.out] at hU
  refine hU.mono ?_
  rintro e w2 ⟨p, q, rfl, K2⟩
  clear hU
  have HK2 := Lib.hid (K1.trans K2)
  have HB2 := Lib.hid (K2.heap HB.out (by simp))
  have HF2 := Lib.hid (K2.heap HF.out (by simp))
  have c0 := HK2.out.cell Q0.out (by simp)
  have c4 := HK2.out.cell Q4.out (by simp)
  rw [Nat.add_zero] at c0
  clear K1 K2 HB HF
  obtain ⟨f0, f1, f2, f3, f4, f5, f6, f7, f8, f9, f10, f11, fz, fl1, fl2⟩ := cellsF HB2.out
  obtain ⟨g0, g1, g2, g3, g4, g5, g6, g7, g8, g9, g10, g11, gz, gl1, gl2⟩ := cellsF HF2.out
  go_wp2
  generalize hW : World.setCell _ _ _ = W
  have K3 : Kp [w.heap.size] w2 (World.setCell (World.setCell (World.setCell w2 ⟨w.heap.size, 8, none⟩ (.int .i64 x)) ⟨w.heap.size, 9, none⟩ (.bool (decide ((128 : Int) ≤ (y0 : Int))))) ⟨w.heap.size, 10, none⟩ (.int .i64 ((y4 : Int) + 1))) := (((Kp.refl _ _).setCell (.inl (by simp)) _).setCell (.inl (by simp)) _).setCell (.inl (by simp)) _
  obtain ⟨HF9, K9⟩ : W.heap[w.heap.size + 1]? = some (.cells #[.int .i64 f.ty, .int .i64 f.fl, .int .i64 f.st, .slice f.pA f.pn f.pc, .int .i64 f.pad, .int .u32 f.code, .int .i64 f.last, .int .i64 f.inc, .int .i64 x, .bool (decide ((128 : Int) ≤ (y0 : Int))), .int .i64 ((y4 : Int) + 1), .slice f.sA f.sn f.sc] 49) ∧ Kp [w.heap.size + 1] (World.setCell (World.setCell (World.setCell w2 ⟨w.heap.size, 8, none⟩ (.int .i64 x)) ⟨w.heap.size, 9, none⟩ (.bool (decide ((128 : Int) ≤ (y0 : Int))))) ⟨w.heap.size, 10, none⟩ (.int .i64 ((y4 : Int) + 1))) W := by rw [← hW]; exact rset12 (K3.heap HF2.out (by simp))
  refine bodyPost_ret (v := .agg #[.int .i64 f.ty, .int .i64 f.fl, .int .i64 f.st, .slice f.pA f.pn f.pc, .int .i64 f.pad, .int .u32 f.code, .int .i64 f.last, .int .i64 f.inc, .int .i64 x, .bool (decide ((128 : Int) ≤ (y0 : Int))), .int .i64 ((y4 : Int) + 1), .slice f.sA f.sn f.sc]) (by simp [results, Try.results191, go_sem, cell_of HF9]) rfl ⟨by simp; omega, (HK2.out.then K3 (by simp)).then K9 (by simp)⟩
end Go.Proofs.Ytkmcakneceagpaa
