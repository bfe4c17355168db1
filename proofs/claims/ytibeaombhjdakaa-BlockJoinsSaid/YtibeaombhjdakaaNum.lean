/- Plain facts on numbers of bytes, the high byte first: no program in sight. -/
import Derived.Laws.BitsLemmas
import Derived.WalkKit
set_option linter.unusedVariables false
namespace Go.Proofs.Ytibeaombhjdakaa
open Go.RowKit

/-- a number of bytes, the high one first -/
def be (l : List UInt8) : Nat := l.foldl (fun a b => a * 256 + b.toNat) 0
theorem be_nil : be [] = 0 := rfl
theorem be_snoc (l : List UInt8) (b : UInt8) : be (l ++ [b]) = be l * 256 + b.toNat := by simp [be]
theorem be_lt (l : List UInt8) : be l < 256 ^ l.length := by
  suffices h : ∀ (n : Nat) (l : List UInt8), l.length = n → be l < 256 ^ n from h _ l rfl
  intro n
  induction n with
  | zero => intro l hl; obtain rfl := List.eq_nil_of_length_eq_zero hl; simp [be]
  | succ n ih =>
    intro l hl
    have hne : l ≠ [] := by intro h; simp [h] at hl
    have hd : l = l.dropLast ++ [l.getLast hne] := (List.dropLast_concat_getLast hne).symm
    have h1 := ih l.dropLast (by simp [hl])
    have h2 := (l.getLast hne).toNat_lt
    rw [hd, be_snoc, Nat.pow_succ]
    omega
theorem be_take_succ (l : List UInt8) (k : Nat) (h : k < l.length) : be (l.take (k + 1)) = be (l.take k) * 256 + (l.getD k 0).toNat := by
  rw [List.take_succ_eq_append_getElem h, be_snoc]
  simp [List.getD_eq_getElem?_getD, List.getElem?_eq_getElem h]
theorem be_take_lt (l : List UInt8) (k : Nat) : be (l.take k) < 256 ^ k := by
  have h := be_lt (l.take k)
  have h2 : (l.take k).length ≤ k := List.length_take_le _ _
  exact Nat.lt_of_lt_of_le h (Nat.pow_le_pow_right (by omega) h2)

/-- what a number of k bytes at place i is: the number, the place behind, the error -/
def num (k : Nat) (l : List UInt8) (i : Int) : Nat × Int × Int :=
  if i < 0 ∨ (l.length : Int) < i then (0, 0, 1) else if (l.length : Int) - i < k then (0, l.length, 3) else (be ((l.drop i.toNat).take k), i + k, 0)
theorem num_arg {k : Nat} {l : List UInt8} {i : Int} (h : i < 0 ∨ (l.length : Int) < i) : num k l i = (0, 0, 1) := by simp [num, h]
theorem num_short {k : Nat} {l : List UInt8} {i : Int} (h0 : 0 ≤ i) (h1 : i ≤ l.length) (h2 : (l.length : Int) - i < k) : num k l i = (0, (l.length : Int), 3) := by
  unfold num
  rw [if_neg (by omega), if_pos h2]
theorem num_ok {k : Nat} {l : List UInt8} {i : Nat} (h : i + k ≤ l.length) : num k l (i : Int) = (be ((l.drop i).take k), (i : Int) + k, 0) := by
  unfold num
  rw [if_neg (by omega), if_neg (by omega)]
  simp
theorem num_lt (k : Nat) (l : List UInt8) (i : Int) : (num k l i).1 < 256 ^ k := by
  have hp : 0 < 256 ^ k := Nat.pow_pos (by omega)
  unfold num
  split
  · simpa using hp
  · split
    · simpa using hp
    · exact be_take_lt _ _

theorem wraps_u32 (n : Int) (h₀ : 0 ≤ n) (h₁ : n < 2 ^ 32) : IntKind.u32.wrap n = n := by
  rw [IntKind.wrap_u32]
  have e : (2 : Int) ^ 32 = 4294967296 := by decide
  rw [e] at h₁
  omega
/-- one more byte: 'n<<8 | c' of 32 bits -/
theorem or_step (x : Nat) (b : Nat) (hx : x < 16777216) (hb : b < 256) : bits .or .u32 ((x : Int) * 256 % 4294967296) ((b : Int) % 4294967296) = (x : Int) * 256 + b := by
  have e1 : ((x : Int) * 256 % 4294967296) = (x : Int) * 256 := by omega
  have e2 : ((b : Int) % 4294967296) = (b : Int) := by omega
  have e3 : (2 : Int) ^ 32 = 4294967296 := by decide
  have e4 : (2 : Int) ^ 8 = 256 := by decide
  rw [e1, e2]
  have h := bits_join .u32 32 (by decide) wraps_u32 8 ((x : Int) * 256) (b : Int)
  rw [e3, e4] at h
  exact h (by omega) (by omega) (by omega) (by omega) (by omega) (by omega)

/-- n bytes of a number, the high one first -/
def bytesOf (v : Nat) : Nat → List UInt8
  | 0 => []
  | n + 1 => bytesOf (v / 256) n ++ [UInt8.ofNat (v % 256)]
theorem bytesOf_length (v n : Nat) : (bytesOf v n).length = n := by
  induction n generalizing v with
  | zero => rfl
  | succ n ih => simp [bytesOf, ih]
theorem be_bytesOf (v n : Nat) : be (bytesOf v n) = v % 256 ^ n := by
  induction n generalizing v with
  | zero => simp [bytesOf, be, Nat.mod_one]
  | succ n ih =>
    rw [bytesOf, be_snoc, ih, Nat.pow_succ, Nat.mul_comm (256 ^ n) 256, Nat.mod_mul]
    have h : (UInt8.ofNat (v % 256)).toNat = v % 256 := by simp
    rw [h]; omega
theorem bytesOf_drop (v n k : Nat) : (bytesOf v (n + k)).drop k = bytesOf v n := by
  induction n generalizing v with
  | zero => simp [bytesOf, List.drop_eq_nil_iff, bytesOf_length]
  | succ n ih =>
    rw [show n + 1 + k = (n + k) + 1 from by omega, bytesOf, List.drop_append_of_le_length (by rw [bytesOf_length]; omega), ih, bytesOf]
/-- the four bytes of a number, written out -/
theorem bytesOf_four (v : Nat) : bytesOf v 4 = [UInt8.ofNat (v / 16777216 % 256), UInt8.ofNat (v / 65536 % 256), UInt8.ofNat (v / 256 % 256), UInt8.ofNat (v % 256)] := by
  simp [bytesOf, Nat.div_div_eq_div_mul]
/-- a number below a bound, put; or the error -/
def putR (v : Int) (k : Nat) (bound : Int) : List UInt8 × Int := if v < 0 ∨ bound ≤ v then ([], 1) else (bytesOf v.toNat k, 0)
theorem putR_no {v : Int} {k : Nat} {bound : Int} (h : v < 0 ∨ bound ≤ v) : putR v k bound = ([], 1) := by simp [putR, h]
theorem putR_yes {v : Nat} {k : Nat} {bound : Int} (h : (v : Int) < bound) : putR (v : Int) k bound = (bytesOf v k, 0) := by
  unfold putR
  rw [if_neg (by omega)]
  simp
end Go.Proofs.Ytibeaombhjdakaa
