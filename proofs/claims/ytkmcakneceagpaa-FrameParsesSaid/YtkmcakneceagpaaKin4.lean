/- frame.kinds: what it answers of each type. -/
import Derived.Test.YtkmcakneceagpaaKin3
set_option linter.unusedVariables false
set_option linter.unusedSimpArgs false
set_option linter.unusedSimpArgs false
namespace Go.Proofs.Ytkmcakneceagpaa
open Go.RowKit

/-- a function as a value -/
@[reducible] def Fv (k : Nat) : Value := .func (.func k) #[] #[]
/-- the rule of so many bytes, the number in block b -/
@[reducible] def Sz (b : Nat) : Value := .func (.func 192) #[] #[.pointer (some ⟨b, 0, none⟩)]
set_option maxHeartbeats 400000 in
theorem sizeF (n : Int) (w : World) : Calls Try.prog 167 #[.int .i64 n] w fun e w' => e = .returned (Sz w.heap.size) ∧ w' = w.alloc (.cells #[.int .i64 n] 3) := by
  go_enter Try.func167, Try.ntmps167
  go_wp2
  go_ret
  exact ⟨rfl, rfl⟩
set_option maxHeartbeats 1000000 in
theorem kinds0 (w : World) : Calls Try.prog 144 #[.int .i64 0] w fun e w' => e = .returned (.agg #[.bool false, .bool false, .bool true, Fv 161, Fv 163, Fv 160, Fv 164]) ∧ Kp [] w w' := by
  go_enter Try.func144, Try.ntmps144
  go_wp2
  exact bodyPost_ret (v := .agg #[.bool false, .bool false, .bool true, Fv 161, Fv 163, Fv 160, Fv 164]) (by simp [results, Try.results144, go_sem]) rfl ⟨rfl, by (repeat (first | with_reducible exact Kp.refl _ _ | with_reducible assumption | with_reducible refine Kp.alloc ?_ _ | with_reducible refine Kp.drew ?_ | with_reducible refine Kp.drewN ?_ _ | (with_reducible refine Kp.setL ?_ ?_ _; focus (simp; done)) | (with_reducible refine Kp.setR ?_ ?_ _; focus (simp; done)) | (with_reducible refine Kp.setR ?_ ?_ _; focus (simp; omega))))⟩
set_option maxHeartbeats 1000000 in
theorem kinds1 (w : World) : Calls Try.prog 144 #[.int .i64 1] w fun e w' => e = .returned (.agg #[.bool false, .bool false, .bool true, Fv 161, Fv 163, Fv 160, Fv 165]) ∧ Kp [] w w' := by
  go_enter Try.func144, Try.ntmps144
  go_wp2
  exact bodyPost_ret (v := .agg #[.bool false, .bool false, .bool true, Fv 161, Fv 163, Fv 160, Fv 165]) (by simp [results, Try.results144, go_sem]) rfl ⟨rfl, by (repeat (first | with_reducible exact Kp.refl _ _ | with_reducible assumption | with_reducible refine Kp.alloc ?_ _ | with_reducible refine Kp.drew ?_ | with_reducible refine Kp.drewN ?_ _ | (with_reducible refine Kp.setL ?_ ?_ _; focus (simp; done)) | (with_reducible refine Kp.setR ?_ ?_ _; focus (simp; done)) | (with_reducible refine Kp.setR ?_ ?_ _; focus (simp; omega))))⟩
set_option maxHeartbeats 1000000 in
theorem kinds2 (w : World) : Calls Try.prog 144 #[.int .i64 2] w fun e w' => ∃ b, e = .returned (.agg #[.bool false, .bool false, .bool false, Sz b, Fv 163, Fv 168, Fv 169]) ∧ w'.heap[b]? = some (.cells #[.int .i64 5] 3) ∧ w.heap.size ≤ b ∧ Kp [] w w' := by
  go_enter Try.func144, Try.ntmps144
  go_wp2
  refine bodyPost_ret (v := .agg #[.bool false, .bool false, .bool false, Sz (w.heap.size + 1), Fv 163, Fv 168, Fv 169]) (by simp [results, Try.results144, go_sem]) rfl ⟨w.heap.size + 1, rfl, ?_, by omega, by (repeat (first | with_reducible exact Kp.refl _ _ | with_reducible assumption | with_reducible refine Kp.alloc ?_ _ | with_reducible refine Kp.drew ?_ | with_reducible refine Kp.drewN ?_ _ | (with_reducible refine Kp.setL ?_ ?_ _; focus (simp; done)) | (with_reducible refine Kp.setR ?_ ?_ _; focus (simp; done)) | (with_reducible refine Kp.setR ?_ ?_ _; focus (simp; omega))))⟩
  (repeat (first | with_reducible assumption | (with_reducible refine hp_new _ _ _ ?_; focus (simp; done)) | (with_reducible refine (hp_old _ _ _ ?_).trans ?_; focus (first | omega | (simp; done) | (simp; omega))) | (with_reducible refine (hp_far _ _ _ _ ?_).trans ?_; focus (first | (simp; done) | (simp; omega))) | (with_reducible refine (hp_drew _ _).trans ?_) | (with_reducible refine (hp_drewN _ _ _).trans ?_)))
set_option maxHeartbeats 1000000 in
theorem kinds3 (w : World) : Calls Try.prog 144 #[.int .i64 3] w fun e w' => ∃ b, e = .returned (.agg #[.bool false, .bool false, .bool false, Sz b, Fv 163, Fv 170, Fv 171]) ∧ w'.heap[b]? = some (.cells #[.int .i64 4] 3) ∧ w.heap.size ≤ b ∧ Kp [] w w' := by
  go_enter Try.func144, Try.ntmps144
  go_wp2
  refine bodyPost_ret (v := .agg #[.bool false, .bool false, .bool false, Sz (w.heap.size + 1), Fv 163, Fv 170, Fv 171]) (by simp [results, Try.results144, go_sem]) rfl ⟨w.heap.size + 1, rfl, ?_, by omega, by (repeat (first | with_reducible exact Kp.refl _ _ | with_reducible assumption | with_reducible refine Kp.alloc ?_ _ | with_reducible refine Kp.drew ?_ | with_reducible refine Kp.drewN ?_ _ | (with_reducible refine Kp.setL ?_ ?_ _; focus (simp; done)) | (with_reducible refine Kp.setR ?_ ?_ _; focus (simp; done)) | (with_reducible refine Kp.setR ?_ ?_ _; focus (simp; omega))))⟩
  (repeat (first | with_reducible assumption | (with_reducible refine hp_new _ _ _ ?_; focus (simp; done)) | (with_reducible refine (hp_old _ _ _ ?_).trans ?_; focus (first | omega | (simp; done) | (simp; omega))) | (with_reducible refine (hp_far _ _ _ _ ?_).trans ?_; focus (first | (simp; done) | (simp; omega))) | (with_reducible refine (hp_drew _ _).trans ?_) | (with_reducible refine (hp_drewN _ _ _).trans ?_)))
set_option maxHeartbeats 1000000 in
theorem kinds4 (w : World) : Calls Try.prog 144 #[.int .i64 4] w fun e w' => e = .returned (.agg #[.bool true, .bool false, .bool false, Fv 172, Fv 173, Fv 174, Fv 175]) ∧ Kp [] w w' := by
  go_enter Try.func144, Try.ntmps144
  go_wp2
  exact bodyPost_ret (v := .agg #[.bool true, .bool false, .bool false, Fv 172, Fv 173, Fv 174, Fv 175]) (by simp [results, Try.results144, go_sem]) rfl ⟨rfl, by (repeat (first | with_reducible exact Kp.refl _ _ | with_reducible assumption | with_reducible refine Kp.alloc ?_ _ | with_reducible refine Kp.drew ?_ | with_reducible refine Kp.drewN ?_ _ | (with_reducible refine Kp.setL ?_ ?_ _; focus (simp; done)) | (with_reducible refine Kp.setR ?_ ?_ _; focus (simp; done)) | (with_reducible refine Kp.setR ?_ ?_ _; focus (simp; omega))))⟩
set_option maxHeartbeats 1000000 in
theorem kinds5 (w : World) : Calls Try.prog 144 #[.int .i64 5] w fun e w' => e = .returned (.agg #[.bool false, .bool false, .bool true, Fv 161, Fv 162, Fv 176, Fv 177]) ∧ Kp [] w w' := by
  go_enter Try.func144, Try.ntmps144
  go_wp2
  exact bodyPost_ret (v := .agg #[.bool false, .bool false, .bool true, Fv 161, Fv 162, Fv 176, Fv 177]) (by simp [results, Try.results144, go_sem]) rfl ⟨rfl, by (repeat (first | with_reducible exact Kp.refl _ _ | with_reducible assumption | with_reducible refine Kp.alloc ?_ _ | with_reducible refine Kp.drew ?_ | with_reducible refine Kp.drewN ?_ _ | (with_reducible refine Kp.setL ?_ ?_ _; focus (simp; done)) | (with_reducible refine Kp.setR ?_ ?_ _; focus (simp; done)) | (with_reducible refine Kp.setR ?_ ?_ _; focus (simp; omega))))⟩
set_option maxHeartbeats 1000000 in
theorem kinds6 (w : World) : Calls Try.prog 144 #[.int .i64 6] w fun e w' => ∃ b, e = .returned (.agg #[.bool true, .bool false, .bool false, Sz b, Fv 178, Fv 160, Fv 164]) ∧ w'.heap[b]? = some (.cells #[.int .i64 8] 3) ∧ w.heap.size ≤ b ∧ Kp [] w w' := by
  go_enter Try.func144, Try.ntmps144
  go_wp2
  refine bodyPost_ret (v := .agg #[.bool true, .bool false, .bool false, Sz (w.heap.size + 1), Fv 178, Fv 160, Fv 164]) (by simp [results, Try.results144, go_sem]) rfl ⟨w.heap.size + 1, rfl, ?_, by omega, by (repeat (first | with_reducible exact Kp.refl _ _ | with_reducible assumption | with_reducible refine Kp.alloc ?_ _ | with_reducible refine Kp.drew ?_ | with_reducible refine Kp.drewN ?_ _ | (with_reducible refine Kp.setL ?_ ?_ _; focus (simp; done)) | (with_reducible refine Kp.setR ?_ ?_ _; focus (simp; done)) | (with_reducible refine Kp.setR ?_ ?_ _; focus (simp; omega))))⟩
  (repeat (first | with_reducible assumption | (with_reducible refine hp_new _ _ _ ?_; focus (simp; done)) | (with_reducible refine (hp_old _ _ _ ?_).trans ?_; focus (first | omega | (simp; done) | (simp; omega))) | (with_reducible refine (hp_far _ _ _ _ ?_).trans ?_; focus (first | (simp; done) | (simp; omega))) | (with_reducible refine (hp_drew _ _).trans ?_) | (with_reducible refine (hp_drewN _ _ _).trans ?_)))
set_option maxHeartbeats 1000000 in
theorem kinds7 (w : World) : Calls Try.prog 144 #[.int .i64 7] w fun e w' => e = .returned (.agg #[.bool true, .bool false, .bool false, Fv 179, Fv 162, Fv 180, Fv 181]) ∧ Kp [] w w' := by
  go_enter Try.func144, Try.ntmps144
  go_wp2
  exact bodyPost_ret (v := .agg #[.bool true, .bool false, .bool false, Fv 179, Fv 162, Fv 180, Fv 181]) (by simp [results, Try.results144, go_sem]) rfl ⟨rfl, by (repeat (first | with_reducible exact Kp.refl _ _ | with_reducible assumption | with_reducible refine Kp.alloc ?_ _ | with_reducible refine Kp.drew ?_ | with_reducible refine Kp.drewN ?_ _ | (with_reducible refine Kp.setL ?_ ?_ _; focus (simp; done)) | (with_reducible refine Kp.setR ?_ ?_ _; focus (simp; done)) | (with_reducible refine Kp.setR ?_ ?_ _; focus (simp; omega))))⟩
set_option maxHeartbeats 1000000 in
theorem kinds8 (w : World) : Calls Try.prog 144 #[.int .i64 8] w fun e w' => ∃ b, e = .returned (.agg #[.bool false, .bool true, .bool false, Sz b, Fv 182, Fv 183, Fv 184]) ∧ w'.heap[b]? = some (.cells #[.int .i64 4] 3) ∧ w.heap.size ≤ b ∧ Kp [] w w' := by
  go_enter Try.func144, Try.ntmps144
  go_wp2
  refine bodyPost_ret (v := .agg #[.bool false, .bool true, .bool false, Sz (w.heap.size + 1), Fv 182, Fv 183, Fv 184]) (by simp [results, Try.results144, go_sem]) rfl ⟨w.heap.size + 1, rfl, ?_, by omega, by (repeat (first | with_reducible exact Kp.refl _ _ | with_reducible assumption | with_reducible refine Kp.alloc ?_ _ | with_reducible refine Kp.drew ?_ | with_reducible refine Kp.drewN ?_ _ | (with_reducible refine Kp.setL ?_ ?_ _; focus (simp; done)) | (with_reducible refine Kp.setR ?_ ?_ _; focus (simp; done)) | (with_reducible refine Kp.setR ?_ ?_ _; focus (simp; omega))))⟩
  (repeat (first | with_reducible assumption | (with_reducible refine hp_new _ _ _ ?_; focus (simp; done)) | (with_reducible refine (hp_old _ _ _ ?_).trans ?_; focus (first | omega | (simp; done) | (simp; omega))) | (with_reducible refine (hp_far _ _ _ _ ?_).trans ?_; focus (first | (simp; done) | (simp; omega))) | (with_reducible refine (hp_drew _ _).trans ?_) | (with_reducible refine (hp_drewN _ _ _).trans ?_)))
set_option maxHeartbeats 1000000 in
theorem kinds9 (w : World) : Calls Try.prog 144 #[.int .i64 9] w fun e w' => e = .returned (.agg #[.bool false, .bool false, .bool false, Fv 161, Fv 163, Fv 160, Fv 164]) ∧ Kp [] w w' := by
  go_enter Try.func144, Try.ntmps144
  go_wp2
  exact bodyPost_ret (v := .agg #[.bool false, .bool false, .bool false, Fv 161, Fv 163, Fv 160, Fv 164]) (by simp [results, Try.results144, go_sem]) rfl ⟨rfl, by (repeat (first | with_reducible exact Kp.refl _ _ | with_reducible assumption | with_reducible refine Kp.alloc ?_ _ | with_reducible refine Kp.drew ?_ | with_reducible refine Kp.drewN ?_ _ | (with_reducible refine Kp.setL ?_ ?_ _; focus (simp; done)) | (with_reducible refine Kp.setR ?_ ?_ _; focus (simp; done)) | (with_reducible refine Kp.setR ?_ ?_ _; focus (simp; omega))))⟩
end Go.Proofs.Ytkmcakneceagpaa
