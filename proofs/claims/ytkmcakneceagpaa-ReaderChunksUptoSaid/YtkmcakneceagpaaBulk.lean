/- What the bound of an UptoSaid gives: lengths. -/
import Derived.Test.YtkmcakneceagpaaRows
namespace Go.Proofs.Ytkmcakneceagpaa
theorem bulk_pos {H : Type} (d : DataW H) : 1 ≤ Rows.uptoBulk d := by
  cases d with
  | lit l => cases l <;> simp [Rows.uptoBulk]
  | nil => simp [Rows.uptoBulk]
  | ptr d => simp [Rows.uptoBulk]
  | slice elems spare => simp [Rows.uptoBulk]
  | agg parts => simp [Rows.uptoBulk]
  | iface t d => simp [Rows.uptoBulk]
  | map entries => simp [Rows.uptoBulk]
  | held h => simp [Rows.uptoBulk]
theorem bulk_len {H : Type} : ∀ l : List (DataW H), l.length ≤ Rows.uptoBulkAll l
  | [] => by simp [Rows.uptoBulkAll]
  | d :: r => by
    have h1 := bulk_pos d
    have h2 := bulk_len r
    simp only [Rows.uptoBulkAll, List.length_cons]
    omega
theorem bulk_slice {H : Type} {d : DataW H} {n : Nat} (h : ∃ ds sp, ds.length = n ∧ (d = .slice ds sp ∨ d = .nil ∧ n = 0)) : n ≤ Rows.uptoBulk d := by
  obtain ⟨ds, sp, rfl, h | ⟨_, h⟩⟩ := h
  · subst h
    have := bulk_len ds
    simp only [Rows.uptoBulk]
    omega
  · omega
theorem bulk_bound {H : Type} {l : List (DataW H)} (hk : Rows.uptoSmall H l = true) : Rows.uptoBulkAll l ≤ 1048576 := of_decide_eq_true hk
end Go.Proofs.Ytkmcakneceagpaa
