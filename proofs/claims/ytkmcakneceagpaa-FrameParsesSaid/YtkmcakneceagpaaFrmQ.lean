/- What the frame at the beginning of any bytes is, as plain data: no program in sight. -/
import Derived.Test.YtkmcakneceagpaaFrmP
set_option linter.unusedVariables false
namespace Go.Proofs.Ytkmcakneceagpaa
open Go.RowKit

/-- what Parse answers: the frame, how many bytes were used, the fault (is it one, its stream, its code), the error -/
structure Pq where
  f : Fp
  used : Int
  is : Bool
  xst : Int
  code : Int
  err : Int
def Pq.no (used err : Int) : Pq := ⟨Fp.zero, used, false, 0, 0, err⟩
def Pq.bad (used st code : Int) : Pq := ⟨Fp.zero, used, true, st, code, 0⟩
/-- is a frame's size right? -/
def fitsB (ty fl : Int) (n : Nat) : Bool :=
  if ty = 2 then decide (n = 5) else if ty = 3 ∨ ty = 8 then decide (n = 4) else if ty = 4 then decide (n % 6 = 0) && (decide (n = 0) || !hasB fl 1) else if ty = 6 then decide (n = 8) else if ty = 7 then decide (8 ≤ n) else true
/-- the bytes that a type must have beside its payload -/
def fixedN (ty fl : Int) : Nat := if ty = 5 then 4 else if ty = 1 ∧ hasB fl 32 = true then 5 else 0
/-- the padding, and what stands ahead of it; or a code -/
inductive Un where
  | bad (code : Int)
  | ok (pad : Nat) (l : List UInt8)
def unS (ty fl : Int) (l : List UInt8) : Un :=
  if padF ty fl then
    (if l.length < 1 + fixedN ty fl then .bad 6 else if (l.length : Int) - 1 - (l.getD 0 0).toNat < fixedN ty fl then .bad 1 else .ok (l.getD 0 0).toNat ((l.drop 1).take (l.length - 1 - (l.getD 0 0).toNat)))
  else if l.length < fixedN ty fl then .bad 6 else .ok 0 l
def n31 (l : List UInt8) (i : Nat) : Int := ((be ((l.drop i).take 4) % 2147483648 : Nat) : Int)
def n32 (l : List UInt8) (i : Nat) : Int := ((be ((l.drop i).take 4) : Nat) : Int)
def n16 (l : List UInt8) (i : Nat) : Int := ((be ((l.drop i).take 2) : Nat) : Int)
/-- a priority's bytes -/
def prS (p : Fp) (l : List UInt8) : Fp := { p with dep := n31 l 0, only := decide (128 ≤ (l.getD 0 0).toNat), wt := (l.getD 4 0).toNat + 1 }
/-- the settings in 6 * k bytes -/
def setsS (l : List UInt8) : Nat → List (Int × Int)
  | 0 => []
  | k + 1 => setsS l k ++ [(n16 l (6 * k), n32 l (6 * k + 2))]
/-- what a type reads of its bytes -/
def getS (p : Fp) (l : List UInt8) : Fp :=
  if p.ty = 1 then (if hasB p.fl 32 then { prS p l with pl := l.drop 5 } else { p with pl := l }) else if p.ty = 2 then prS p l else if p.ty = 3 then { p with code := n32 l 0 } else if p.ty = 4 then { p with ss := setsS l (l.length / 6) }
  else if p.ty = 5 then { p with last := n31 l 0, pl := l.drop 4 } else if p.ty = 7 then { p with last := n31 l 0, code := n32 l 4, pl := l.drop 8 } else if p.ty = 8 then { p with inc := n31 l 0 } else { p with pl := l }
def f0S (ty fl st pad : Int) : Fp := ⟨ty, fl, st, [], pad, 0, 0, 0, 0, false, 0, []⟩
/-- the frame within its n bytes -/
def inS (ty fl st : Int) (l : List UInt8) : Pq :=
  let u : Int := 9 + l.length
  if known ty = false then ⟨f0S ty fl st 0, u, false, 0, 0, 0⟩
  else if rightB ty st = false then .bad u 0 1
  else if fitsB ty fl l.length = false then .bad u (if ty = 2 then st else 0) 6
  else match unS ty fl l with
    | .bad c => .bad u 0 c
    | .ok pad m => if ty = 8 ∧ n31 m 0 = 0 then .bad u st 1 else ⟨getS (f0S ty fl st pad) m, u, false, 0, 0, 0⟩
/-- what Parse answers -/
def ps (l : List UInt8) (most : Int) : Pq :=
  if most < 0 then .no 0 1
  else if l.length < 9 then .no 0 3
  else if most < be (l.take 3) then .bad 9 0 6
  else if l.length < 9 + be (l.take 3) then .no 0 3
  else inS (l.getD 3 0).toNat (l.getD 4 0).toNat (n31 l 5) ((l.drop 9).take (be (l.take 3)))
theorem setsS_len (l : List UInt8) (k : Nat) : (setsS l k).length = k := by
  induction k with
  | zero => rfl
  | succ k ih => simp [setsS, ih]
end Go.Proofs.Ytkmcakneceagpaa
