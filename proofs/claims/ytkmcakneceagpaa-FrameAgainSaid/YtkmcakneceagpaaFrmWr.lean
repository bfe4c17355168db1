/- frame.Write, walked, type by type. -/
import Derived.Test.YtkmcakneceagpaaKin4
set_option linter.unusedVariables false
set_option linter.unusedSimpArgs false
set_option linter.unusedSimpArgs false
namespace Go.Proofs.Ytkmcakneceagpaa
open Go.RowKit

theorem cells12 {w : World} {g : Nat} {a0 a1 a2 a3 a4 a5 a6 a7 a8 a9 a10 a11 : Value} {t : TypeId} (h : w.heap[g]? = some (.cells #[a0, a1, a2, a3, a4, a5, a6, a7, a8, a9, a10, a11] t)) : w.cell? ⟨g, 0, none⟩ = some a0 ∧ w.cell? ⟨g, 1, none⟩ = some a1 ∧ w.cell? ⟨g, 2, none⟩ = some a2 ∧ w.cell? ⟨g, 3, none⟩ = some a3 ∧ w.cell? ⟨g, 4, none⟩ = some a4 ∧ w.cell? ⟨g, 5, none⟩ = some a5 ∧ w.cell? ⟨g, 6, none⟩ = some a6 ∧ w.cell? ⟨g, 7, none⟩ = some a7 ∧ w.cell? ⟨g, 8, none⟩ = some a8 ∧ w.cell? ⟨g, 9, none⟩ = some a9 ∧ w.cell? ⟨g, 10, none⟩ = some a10 ∧ w.cell? ⟨g, 11, none⟩ = some a11 ∧ g < w.heap.size ∧ g < w.heap.size + 1 :=
  ⟨cell_of h 0, cell_of h 1, cell_of h 2, cell_of h 3, cell_of h 4, cell_of h 5, cell_of h 6, cell_of h 7, cell_of h 8, cell_of h 9, cell_of h 10, cell_of h 11, lt_of_heap h, Nat.lt_succ_of_lt (lt_of_heap h)⟩
theorem cells7 {w : World} {g : Nat} {a0 a1 a2 a3 a4 a5 a6 : Value} {t : TypeId} (h : w.heap[g]? = some (.cells #[a0, a1, a2, a3, a4, a5, a6] t)) : w.cell? ⟨g, 0, none⟩ = some a0 ∧ w.cell? ⟨g, 1, none⟩ = some a1 ∧ w.cell? ⟨g, 2, none⟩ = some a2 ∧ w.cell? ⟨g, 3, none⟩ = some a3 ∧ w.cell? ⟨g, 4, none⟩ = some a4 ∧ w.cell? ⟨g, 5, none⟩ = some a5 ∧ w.cell? ⟨g, 6, none⟩ = some a6 ∧ g < w.heap.size ∧ g < w.heap.size + 1 :=
  ⟨cell_of h 0, cell_of h 1, cell_of h 2, cell_of h 3, cell_of h 4, cell_of h 5, cell_of h 6, lt_of_heap h, Nat.lt_succ_of_lt (lt_of_heap h)⟩
/-- what Write asks of the frame's memory -/
structure WrOk (w : World) (f : Fr) (l : List UInt8) (ss : List (Int × Int)) : Prop where
  rd : Rd w f.pA f.pn f.pc l
  pn : f.pn ≤ 140737488351232
  code : U32 f.code
  sd : Sd w f.sA f.sn f.sc ss
  sn : f.sn * 16 ≤ 140737488351232
theorem FrOk.wr {w : World} {f : Fr} {l : List UInt8} {ss : List (Int × Int)} (h : FrOk w f l ss) : WrOk w f l ss := ⟨h.rd, h.pn, h.code, h.sd, h.sn⟩

end Go.Proofs.Ytkmcakneceagpaa
