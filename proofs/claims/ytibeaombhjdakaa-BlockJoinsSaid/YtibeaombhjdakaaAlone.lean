/- 'BlockAlone', walked. -/
import Derived.Test.YtibeaombhjdakaaJn3
set_option linter.unusedVariables false
set_option linter.unusedSimpArgs false
namespace Go.Proofs.Ytibeaombhjdakaa
open Go.RowKit
theorem JNew (most : Nat) (h : most ≤ 65536) (w : World) : Calls Try.prog 4 #[.int .i64 most] w fun e w' => ∃ g, e = .returned (.tuple #[.pointer (some ⟨g, 0, none⟩), .int .i64 0]) ∧ Jn w' g most 0 false none 0 0 ∧ g = w.heap.size ∧ Kp [] w w' := by
  have h1 : decide ((most : Int) < 0) = false := by simp <;> omega
  have h2 : decide ((65536 : Int) < most) = false := by simp <;> omega
  go_enter Try.func4, Try.ntmps4
  go_wp2
  exact bodyPost_ret (v := .tuple #[.pointer (some ⟨w.heap.size, 0, none⟩), .int .i64 0]) (by simp [results, Try.results4, go_sem]) rfl ⟨_, rfl, hp_new _ _ _ rfl, rfl, (Kp.refl [] w).alloc _⟩
theorem JStream {w : World} {g : Nat} {most st : Int} {en : Bool} {A : Option Addr} {n c : Nat} (hj : Jn w g most st en A n c) : Calls Try.prog 9 #[.pointer (some ⟨g, 0, none⟩)] w fun e w' => e = .returned (.int .i64 st) ∧ w = w' := by
  obtain ⟨j0, j1, j2, j3, j4, hz⟩ := hj.cells
  go_enter Try.func9, Try.ntmps9
  go_wp2
  go_ret
  exact ⟨rfl, rfl⟩
theorem JHeld {w : World} {g : Nat} {most st : Int} {en : Bool} {A : Option Addr} {n c : Nat} (hj : Jn w g most st en A n c) : Calls Try.prog 10 #[.pointer (some ⟨g, 0, none⟩)] w fun e w' => e = .returned (.int .i64 n) ∧ w = w' := by
  obtain ⟨j0, j1, j2, j3, j4, hz⟩ := hj.cells
  go_enter Try.func10, Try.ntmps10
  go_wp2
  go_ret
  exact ⟨rfl, rfl⟩
end Go.Proofs.Ytibeaombhjdakaa
