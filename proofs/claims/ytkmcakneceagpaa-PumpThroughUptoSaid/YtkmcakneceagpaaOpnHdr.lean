/- Slices of headers that came in. -/
import Derived.Test.YtkmcakneceagpaaHdr
set_option linter.unusedVariables false
set_option linter.unusedSimpArgs false
namespace Go.Proofs.Ytkmcakneceagpaa
open Go.ChangeShapes Go.WideShapes Go.ChangeAt Go.RowKit
section
variable {H : Type} {enc : TypeId × Value → H} {W : World}
theorem len3' {α : Type} {cs : List α} (h : cs.length = 3) : ∃ u v x, cs = [u, v, x] := by
  rcases cs with _ | ⟨a, _ | ⟨b, _ | ⟨c, _ | ⟨d, t⟩⟩⟩⟩ <;> simp at h ⊢
theorem Tr.hdr {cs : List Value} {d : DataW H} (hl : cs.length = 3) (h : Tr enc Try.prog W 179 cs d) : ∃ x : Hdr, cs = hcell x := by
  have hc1 : Try.prog.cellsOf 9 = 1 := by kernel_rfl
  have hc2 : Try.prog.cellsOf 4 = 1 := by kernel_rfl
  obtain ⟨dd, _, _, _, parts⟩ := h.struct Try.underlying179
  obtain ⟨u, v, x, rfl⟩ := len3' hl
  obtain ⟨d0, _, t0⟩ := parts 0 _ rfl
  obtain ⟨d1, _, t1⟩ := parts 1 _ rfl
  obtain ⟨d2, _, t2⟩ := parts 2 _ rfl
  change Tr enc Try.prog W 9 (List.take (Try.prog.cellsOf 9) [u, v, x]) d0 at t0
  change Tr enc Try.prog W 9 (List.take (Try.prog.cellsOf 9) [v, x]) d1 at t1
  change Tr enc Try.prog W 4 (List.take (Try.prog.cellsOf 4) [x]) d2 at t2
  rw [hc1] at t0 t1
  rw [hc2] at t2
  change Tr enc Try.prog W 9 [u] d0 at t0
  change Tr enc Try.prog W 9 [v] d1 at t1
  change Tr enc Try.prog W 4 [x] d2 at t2
  obtain ⟨s0, e0, _, _⟩ := t0.string Try.underlying9
  obtain ⟨s1, e1, _, _⟩ := t1.string Try.underlying9
  obtain ⟨s2, e2, _⟩ := t2.bool Try.underlying4
  simp only [List.cons.injEq, and_true] at e0 e1 e2
  subst e0 e1 e2
  exact ⟨(s0, s1, s2), rfl⟩
theorem Tr.hdrs {cs : List Value} {d : DataW H} (h : Tr enc Try.prog W 110 cs d) : ∃ A n c hs, cs = [.slice A n c] ∧ Hd W A n c hs ∧ n * 40 ≤ 140737488351232 ∧ (∃ ds sp, ds.length = n ∧ (d = .slice ds sp ∨ d = .nil ∧ n = 0)) := by
  have hce : Try.prog.cellsOf 179 = 3 := by kernel_rfl
  have hbe : Try.prog.bytesOf 179 = 40 := by kernel_rfl
  obtain ⟨A, n, c, ds, sp, rfl, hlen, hnc, hcm, hby, hd, hel⟩ := h.slice Try.underlying110 (by rw [hce]; omega)
  rw [hce] at hel
  rw [hbe] at hby
  have each : ∀ i, i < n → ∃ (x : Hdr) (b off : Nat), A = some ⟨b, off, none⟩ ∧ ∀ j u, (hcell x)[j]? = some u → W.cell? ⟨b, off + i * 3 + j, none⟩ = some u := by
    intro i hi
    obtain ⟨b, off, es, di, hA, hlt, _, htr, hl, hcell'⟩ := hel i hi
    obtain ⟨x, rfl⟩ := htr.hdr hl
    exact ⟨x, b, off, hA, hcell'⟩
  refine ⟨A, n, c, (List.range n).map fun i => if h : i < n then (each i h).choose else default, rfl, ⟨by simp, hnc, fun hp => ?_⟩, hby, ds, sp, hlen, ?_⟩
  · have hn : 0 < n := by rw [hcells_len] at hp; simp at hp; omega
    obtain ⟨_, b, off, rfl, _⟩ := each 0 hn
    refine ⟨b, off, rfl, fun j u hu => ?_⟩
    have hj : j < n * 3 := by
      have := (List.getElem?_eq_some_iff.1 hu).1
      rw [hcells_len] at this
      simpa using this
    obtain ⟨i, hi, h3⟩ : ∃ i, i < n ∧ (j = i * 3 ∨ j = i * 3 + 1 ∨ j = i * 3 + 2) := ⟨j / 3, by omega, by omega⟩
    obtain ⟨b', off', hA', hcell'⟩ := (each i hi).choose_spec
    have e1 : b' = b ∧ off' = off := by
      injection hA' with h1
      injection h1 with h2 h3 _
      exact ⟨h2.symm, h3.symm⟩
    rw [e1.1, e1.2] at hcell'
    have hg := hcells_get ((List.range n).map fun i => if h : i < n then (each i h).choose else default) i (by simpa using hi)
    have hx : ((List.range n).map fun i => if h : i < n then (each i h).choose else default).getD i default = (each i hi).choose := by simp [List.getD_eq_getElem?_getD, hi]
    rw [hx] at hg
    rcases h3 with rfl | rfl | rfl
    · rw [hg.1] at hu
      rw [← hu]
      exact hcell' 0 _ rfl
    · rw [hg.2.1] at hu
      rw [← hu, ← Nat.add_assoc]
      exact hcell' 1 _ rfl
    · rw [hg.2.2] at hu
      rw [← hu, ← Nat.add_assoc]
      exact hcell' 2 _ rfl
  · rcases hd with h1 | ⟨h1, h2⟩
    · exact .inl h1
    · subst h2
      exact .inr ⟨h1, hlen.symm⟩
end
end Go.Proofs.Ytkmcakneceagpaa
