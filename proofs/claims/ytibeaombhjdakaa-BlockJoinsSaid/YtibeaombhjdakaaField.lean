/- The contracts of layer 2: numbers of bytes, read and put, by the program and by the reference: each gives the plain function 'num' or 'bytesOf'. -/
import Derived.Test.YtibeaombhjdakaaProg
import Derived.Test.YtibeaombhjdakaaMem
import Derived.Test.YtibeaombhjdakaaNum
import Derived.WalkLawsBesides
import Derived.WalkSpells
import Derived.Deep.OwnRows
set_option linter.unusedVariables false
namespace Go.Proofs.Ytibeaombhjdakaa
open Go.RowKit

theorem Try.info5 : (Try.prog.info? 5).map (fun i => (i.zero, i.size, i.bytes)) = some (some (.int .u8 0), 1, 1) := by kernel_rfl

/-- three results of a read -/
def Num3 (k1 : IntKind) (x : Int) (p e : Int) (w : World) (en : Ending) (w' : World) : Prop := en = .returned (.tuple #[.int k1 x, .int .i64 p, .int .i64 e]) ∧ Kp [] w w'
theorem Num3.mk {k1 : IntKind} {x x' p p' e e' : Int} {w w' : World} (hx : x = x') (hp : p = p') (he : e = e') (h : Kp [] w w') : Num3 k1 x p e w (.returned (.tuple #[.int k1 x', .int .i64 p', .int .i64 e'])) w' := by
  subst hx hp he
  exact ⟨rfl, h⟩

theorem andNot31 (x : Nat) (hx : x < 4294967296) : bits .andNot .u32 (x : Int) 2147483648 = ((x % 2147483648 : Nat) : Int) := by
  have e : bits .andNot .u32 (x : Int) 2147483648 = bits .and .u32 (x : Int) 2147483647 := by
    unfold bits
    have : ~~~(BitVec.ofInt IntKind.u32.bits 2147483648) = BitVec.ofInt IntKind.u32.bits 2147483647 := by decide
    simp only [this]
  have e3 : (2 : Int) ^ 32 = 4294967296 := by decide
  have e4 : (2 : Int) ^ 31 = 2147483648 := by decide
  have h := bits_mask .u32 32 (by decide) wraps_u32 31 (by decide) (x : Int)
  rw [e3, e4] at h
  rw [e]
  have h2 := h (by omega) (by omega)
  rw [show (2147483648 : Int) - 1 = 2147483647 from rfl] at h2
  rw [h2]
  omega
theorem pow2 : (256 : Nat) ^ 2 = 65536 := by decide
theorem pow3 : (256 : Nat) ^ 3 = 16777216 := by decide
theorem pow4 : (256 : Nat) ^ 4 = 4294967296 := by decide

/-! ### the program's puts -/
theorem shr16 (n : Nat) : (n : Int) / 65536 = ((n / 65536 : Nat) : Int) := by omega

end Go.Proofs.Ytibeaombhjdakaa
