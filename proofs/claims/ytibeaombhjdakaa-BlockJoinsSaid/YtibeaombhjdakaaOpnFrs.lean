/- Frames that came in, opened. -/
import Derived.Test.YtibeaombhjdakaaCls
set_option linter.unusedVariables false
set_option linter.unusedSimpArgs false
set_option linter.unusedSimpArgs false
namespace Go.Proofs.Ytibeaombhjdakaa
open Go.ChangeShapes Go.WideShapes Go.ChangeAt Go.RowKit

/-- n frames stand at A -/
def Frs (w : World) (A : Option Addr) (n : Nat) : Prop :=
  ∀ k, k < n → ∃ (b off : Nat) (f : Fr) (l : List UInt8) (ss : List (Int × Int)), A = some ⟨b, off, none⟩ ∧ b < w.heap.size ∧ FrOk w f l ss ∧ ∀ j u, (Fr.cells f)[j]? = some u → w.cell? ⟨b, off + k * 12 + j, none⟩ = some u
section
variable {H : Type} {enc : TypeId × Value → H} {W : World}
theorem Tr.frames {cs : List Value} {d : DataW H} (h : Tr enc Try.prog W 22 cs d) : ∃ A n c, cs = [.slice A n c] ∧ Frs W A n ∧ n ≤ c ∧ n * 128 ≤ 140737488351232 ∧ (∃ ds sp, ds.length = n ∧ (d = .slice ds sp ∨ d = .nil ∧ n = 0)) := by
  obtain ⟨A, n, c, ds, sp, rfl, hlen, hnc, hcm, hby, hd, hel⟩ := h.slice Try.underlying22 (by rw [show Try.prog.cellsOf 34 = 12 by kernel_rfl]; omega)
  have hce : Try.prog.cellsOf 34 = 12 := by kernel_rfl
  have hbe : Try.prog.bytesOf 34 = 128 := by kernel_rfl
  rw [hce] at hel
  rw [hbe] at hby
  refine ⟨A, n, c, rfl, fun k hk => ?_, hnc, hby, ds, sp, hlen, ?_⟩
  · obtain ⟨b, off, es, di, hA, hlt, _, htr, hl, hcell⟩ := hel k hk
    obtain ⟨f, l, ss, rfl, ok⟩ := htr.frame
    exact ⟨b, off, f, l, ss, hA, hlt, ok, hcell⟩
  · rcases hd with h1 | ⟨h1, h2⟩
    · exact .inl h1
    · refine .inr ⟨h1, ?_⟩
      rw [h2] at hlen
      simpa using hlen.symm
end
end Go.Proofs.Ytibeaombhjdakaa
