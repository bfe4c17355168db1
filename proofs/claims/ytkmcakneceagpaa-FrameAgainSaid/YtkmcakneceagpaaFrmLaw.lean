/- What the laws of frames that are written and read again have in common. -/
import Derived.Test.YtkmcakneceagpaaStr7
import Derived.Test.YtkmcakneceagpaaWrAll
import Derived.Test.YtkmcakneceagpaaPlnC
set_option linter.unusedVariables false
set_option linter.unusedSimpArgs false
set_option linter.unusedSimpArgs false
namespace Go.Proofs.Ytkmcakneceagpaa
open Go.RowKit
theorem WrOk.kp {w w' : World} {f : Fr} {l : List UInt8} {ss : List (Int × Int)} (h : WrOk w f l ss) (k : Kp [] w w') : WrOk w' f l ss := ⟨h.rd.keep k (by simp), h.pn, h.code, h.sd.keep k (by simp), h.sn⟩
end Go.Proofs.Ytkmcakneceagpaa
