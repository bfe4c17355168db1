/- Slices of bytes that came in. -/
import Derived.Test.YtkmcakneceagpaaQMem
set_option linter.unusedVariables false
set_option maxHeartbeats 8000000
set_option maxRecDepth 100000
namespace Go.Proofs.Ytkmcakneceagpaa
open Go.RowKit
def Parts (w:World) (A:Option Addr) (m:Nat):Prop:=∀ i,i < m→∃ b off Ai ni ci xs,A=some ⟨b,off,none⟩∧w.cell? ⟨b,off+i,none⟩=some (.slice Ai ni ci) ∧
 Rd w Ai ni ci xs∧ni≤140737488351232∧(0 < ni→∀ b,b∈ob Ai→b < w.heap.size)
end Go.Proofs.Ytkmcakneceagpaa
