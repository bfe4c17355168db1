/- Scripts of layer 20 that came in. -/
import Derived.Test.YtkmcakneceagpaaPlays20
import Derived.Test.YtkmcakneceagpaaOpnHdr
set_option linter.unusedVariables false
set_option linter.unusedSimpArgs false
namespace Go.Proofs.Ytkmcakneceagpaa
open Go.ChangeShapes Go.WideShapes Go.ChangeAt Go.RowKit
section
variable {H : Type} {enc : TypeId × Value → H} {W : World}
theorem len4 {α : Type} {cs : List α} (h : cs.length = 4) : ∃ u v x y, cs = [u, v, x, y] := by
  rcases cs with _ | ⟨a, _ | ⟨b, _ | ⟨c, _ | ⟨d, _ | ⟨e, t⟩⟩⟩⟩⟩ <;> simp at h ⊢
theorem Tr.ops20 {cs : List Value} {d : DataW H} (h : Tr enc Try.prog W 126 cs d) : ∃ A n c, cs = [.slice A n c] ∧ Ops20 W A n ∧ n ≤ 140737488351232 := by
  have hce : Try.prog.cellsOf 132 = 4 := by kernel_rfl
  have hbe : Try.prog.bytesOf 132 = 64 := by kernel_rfl
  have hc1 : Try.prog.cellsOf 3 = 1 := by kernel_rfl
  have hc4 : Try.prog.cellsOf 22 = 1 := by kernel_rfl
  have hc5 : Try.prog.cellsOf 110 = 1 := by kernel_rfl
  obtain ⟨A, n, c, ds, sp, rfl, hlen, hnc, hcm, hby, hd, hel⟩ := h.slice Try.underlying126 (by rw [hce]; omega)
  rw [hce] at hel
  rw [hbe] at hby
  refine ⟨A, n, c, rfl, fun i hi => ?_, by omega⟩
  obtain ⟨b, off, es, di, hA, hlt, _, htr, hl, hcell⟩ := hel i hi
  obtain ⟨dd, _, _, _, parts⟩ := htr.struct Try.underlying132
  obtain ⟨u, v, x, y, rfl⟩ := len4 hl
  obtain ⟨d0, _, t0⟩ := parts 0 _ rfl
  obtain ⟨d1, _, t1⟩ := parts 1 _ rfl
  obtain ⟨d2, _, t2⟩ := parts 2 _ rfl
  obtain ⟨d3, _, t3⟩ := parts 3 _ rfl
  change Tr enc Try.prog W 3 (List.take (Try.prog.cellsOf 3) [u, v, x, y]) d0 at t0
  change Tr enc Try.prog W 3 (List.take (Try.prog.cellsOf 3) [v, x, y]) d1 at t1
  change Tr enc Try.prog W 22 (List.take (Try.prog.cellsOf 22) [x, y]) d2 at t2
  change Tr enc Try.prog W 110 (List.take (Try.prog.cellsOf 110) [y]) d3 at t3
  rw [hc1] at t0 t1
  rw [hc4] at t2
  rw [hc5] at t3
  change Tr enc Try.prog W 3 [u] d0 at t0
  change Tr enc Try.prog W 3 [v] d1 at t1
  change Tr enc Try.prog W 22 [x] d2 at t2
  change Tr enc Try.prog W 110 [y] d3 at t3
  obtain ⟨x0, e0, _, _⟩ := t0.int Try.underlying3
  obtain ⟨x1, e1, _, _⟩ := t1.int Try.underlying3
  obtain ⟨Ai, ni, ci, xs, e2, rd, le, plt, _⟩ := t2.bytes Try.underlying22 Try.underlying5 (by kernel_rfl) (by kernel_rfl)
  obtain ⟨Bi, mi, di', hs, e3, hd3, hle, _⟩ := t3.hdrs
  simp only [List.cons.injEq, and_true] at e0 e1 e2 e3
  subst e0 e1 e2 e3
  exact ⟨b, off, x0, x1, Ai, ni, ci, xs, Bi, mi, di', hs, hA, hcell 0 _ rfl, hcell 1 _ rfl, hcell 2 _ rfl, hcell 3 _ rfl, rd, le, plt, hd3, hle⟩
end
end Go.Proofs.Ytkmcakneceagpaa
