/- block.Split's bad arguments; the reference's Split, walked. -/
import Derived.Test.YtibeaombhjdakaaSplit
set_option linter.unusedVariables false
set_option linter.unusedSimpArgs false
set_option linter.unusedSimpArgs false
namespace Go.Proofs.Ytibeaombhjdakaa
open Go.RowKit

set_option maxRecDepth 100000 in
set_option maxHeartbeats 400000 in
theorem SplitBad (st most : Int) (hbad : st < 1 ∨ 2147483647 < st ∨ most < 1) (A : Option Addr) (n c : Nat) (en : Bool) (w0 : World) :
    Calls Try.prog 15 #[.int .i64 st, .slice A n c, .bool en, .int .i64 most] w0 fun e w' => e = .returned (.tuple #[.slice none 0 0, .int .i64 1]) ∧ w0 = w' := by
  go_enter Try.func15, Try.ntmps15
  go_wp2
  all_goals exact bodyPost_ret (v := .tuple #[.slice none 0 0, .int .i64 1]) (by simp [results, Try.results15, go_sem]) rfl ⟨rfl, rfl⟩

def slen : Value → Nat
  | .slice _ n _ => n
  | _ => 0
/-- between two rounds of the reference's loop -/
def RSJ (st : Int) (en : Bool) (most : Nat) (b : List UInt8) (w0 : World) (A' : Option Addr) (n' c' : Nat) (ty f : Int) (AL : Option Addr) (nL cL : Nat) (wr : World) : Prop :=
  ∃ (k : Nat) (fs : List (Fr × List UInt8)), k ≤ cutsN most b.length ∧ nL = k ∧ Rd wr A' n' c' (b.drop (k * most)) ∧ (0 < n' → ∀ x, x ∈ ob A' → x < w0.heap.size) ∧ FrL wr w0.heap.size wr.heap.size AL nL cL fs ∧ (ty = if k = 0 then 1 else 9) ∧ (f = if k = 0 then (if en then 1 else 0) else 0) ∧ (∀ i p, fs[i]? = some p → SpF st en most b i p) ∧ Kp [] w0 wr

end Go.Proofs.Ytibeaombhjdakaa
