/- The cells of frames one behind the other. -/
import Derived.Test.YtibeaombhjdakaaFrt
set_option linter.unusedVariables false
namespace Go.Proofs.Ytibeaombhjdakaa
open Go.RowKit
theorem cells_len (fs : List (Fr × List UInt8)) : (fs.flatMap fun p => Fr.cells p.1).length = fs.length * 12 := by
  induction fs with
  | nil => rfl
  | cons p fs ih => simp only [List.flatMap_cons, List.length_append, ih]; simp; omega
theorem cells_at : ∀ (fs : List (Fr × List UInt8)) (i : Nat) (p : Fr × List UInt8), fs[i]? = some p → ∀ j u, (Fr.cells p.1)[j]? = some u → (fs.flatMap fun p => Fr.cells p.1)[i * 12 + j]? = some u
  | [], i, p, h, _, _, _ => by simp at h
  | q :: fs, 0, p, h, j, u, hu => by
    simp at h
    subst h
    simp only [List.flatMap_cons, Nat.zero_mul, Nat.zero_add]
    rw [List.getElem?_append_left (List.getElem?_eq_some_iff.1 hu).1]
    exact hu
  | q :: fs, i + 1, p, h, j, u, hu => by
    simp only [List.flatMap_cons]
    rw [List.getElem?_append_right (by simp; omega)]
    have := cells_at fs i p (by simpa using h) j u hu
    rw [← this]
    congr 1
    simp
    omega
end Go.Proofs.Ytibeaombhjdakaa
