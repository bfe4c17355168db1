/- A frame as plain data, and the bytes that it is written as: no program in sight. -/
import Derived.Test.YtkmcakneceagpaaNum
set_option linter.unusedVariables false
namespace Go.Proofs.Ytkmcakneceagpaa
open Go.RowKit

/-- a frame without memory -/
structure Fp where
  ty : Int
  fl : Int
  st : Int
  pl : List UInt8
  pad : Int
  code : Int
  last : Int
  inc : Int
  dep : Int
  only : Bool
  wt : Int
  ss : List (Int × Int)
def Fp.zero : Fp := ⟨0, 0, 0, [], 0, 0, 0, 0, 0, false, 0, []⟩

def idB (n : Int) : Bool := decide (0 ≤ n) && decide (n ≤ 2147483647)
def hasB (fl k : Int) : Bool := decide (fl / k % 2 = 1)
def paddedB (ty : Int) : Bool := decide (ty = 0) || decide (ty = 1) || decide (ty = 5)
def zeroB (ty : Int) : Bool := decide (ty = 4) || decide (ty = 6) || decide (ty = 7)
def rightB (ty st : Int) : Bool := decide (ty = 8) || (zeroB ty == decide (st = 0))
def prioB (ty fl : Int) : Bool := decide (ty = 2) || (decide (ty = 1) && hasB fl 32)
/-- is a frame padded? -/
def padF (ty fl : Int) : Bool := paddedB ty && hasB fl 8
def setsB (fl : Int) (ss : List (Int × Int)) : Bool := ss.all (fun s => decide (0 ≤ s.1) && decide (s.1 < 65536)) && (ss.isEmpty || !hasB fl 1)
/-- what a type asks of the frame that is written -/
def mayK (p : Fp) : Bool :=
  if p.ty = 6 then decide (p.pl.length = 8) else if p.ty = 8 then decide (1 ≤ p.inc) && decide (p.inc ≤ 2147483647) else if p.ty = 5 ∨ p.ty = 7 then idB p.last else if p.ty = 4 then setsB p.fl p.ss else true
def padOk (p : Fp) : Bool := !paddedB p.ty || (decide (0 ≤ p.pad) && decide (p.pad ≤ 255) && (decide (p.pad ≤ 0) || hasB p.fl 8))
def prioOk (p : Fp) : Bool := !prioB p.ty p.fl || (idB p.dep && decide (1 ≤ p.wt) && decide (p.wt ≤ 256))
def known (ty : Int) : Bool := decide (0 ≤ ty) && decide (ty ≤ 9)
def goodW (p : Fp) : Bool := known p.ty && (decide (0 ≤ p.fl) && decide (p.fl ≤ 255)) && idB p.st && rightB p.ty p.st && mayK p && padOk p && prioOk p
/-- one setting's bytes -/
def setW (s : Int × Int) : List UInt8 := bytesOf s.1.toNat 2 ++ bytesOf s.2.toNat 4
/-- what a type puts -/
def putW (p : Fp) : List UInt8 :=
  if p.ty = 2 then [] else if p.ty = 3 then bytesOf p.code.toNat 4 else if p.ty = 4 then p.ss.flatMap setW else if p.ty = 5 then bytesOf p.last.toNat 4 ++ p.pl
  else if p.ty = 7 then bytesOf p.last.toNat 4 ++ bytesOf p.code.toNat 4 ++ p.pl else if p.ty = 8 then bytesOf p.inc.toNat 4 else p.pl
def byteOf (n : Int) : UInt8 := UInt8.ofNat (n % 256).toNat
def prioW (p : Fp) : List UInt8 := bytesOf (p.dep.toNat + if p.only then 2147483648 else 0) 4 ++ [byteOf (p.wt - 1)]
def bodyW (p : Fp) : List UInt8 :=
  (if padF p.ty p.fl then [byteOf p.pad] else []) ++ (if prioB p.ty p.fl then prioW p else []) ++ putW p ++ (if padF p.ty p.fl then List.replicate p.pad.toNat 0 else [])
/-- what Write answers -/
def wr (p : Fp) : List UInt8 × Int :=
  if goodW p then (if (bodyW p).length < 16777216 then (bytesOf (bodyW p).length 3 ++ [byteOf p.ty, byteOf p.fl] ++ bytesOf p.st.toNat 4 ++ bodyW p, 0) else ([], 2)) else ([], 1)
theorem wr_bad {p : Fp} (h : goodW p = false) : wr p = ([], 1) := by simp [wr, h]
theorem u8_byteOf {n : Int} (h0 : 0 ≤ n) (h1 : n ≤ 255) : (byteOf n).toNat = n.toNat ∧ ((byteOf n).toNat : Int) = n := by
  have h : (byteOf n).toNat = n.toNat := by
    unfold byteOf
    rw [UInt8.toNat_ofNat']
    omega
  exact ⟨h, by rw [h]; omega⟩
theorem flat_len (ss : List (Int × Int)) : (ss.flatMap setW).length = 6 * ss.length := by
  induction ss with
  | nil => rfl
  | cons s r ih => simp only [List.flatMap_cons, List.length_append, ih, List.length_cons, setW, bytesOf_length]; omega
theorem wr_ok {p : Fp} {B : List UInt8} (h : goodW p = true) (hB : bodyW p = B) (hl : B.length < 16777216) : wr p = (bytesOf B.length 3 ++ [byteOf p.ty, byteOf p.fl] ++ bytesOf p.st.toNat 4 ++ B, 0) := by simp [wr, h, hB, hl]
theorem wr_long {p : Fp} {B : List UInt8} (h : goodW p = true) (hB : bodyW p = B) (hl : ¬ B.length < 16777216) : wr p = ([], 2) := by simp [wr, h, hB, hl]
set_option maxRecDepth 100000 in
theorem bits_has (fl : Int) (h0 : 0 ≤ fl) (h1 : fl ≤ 255) : (bits .and .i64 fl 1 != 0) = hasB fl 1 ∧ (bits .and .i64 fl 8 != 0) = hasB fl 8 ∧ (bits .and .i64 fl 32 != 0) = hasB fl 32 ∧ (bits .and .i64 fl 4 != 0) = hasB fl 4 := by
  obtain ⟨n, rfl⟩ := Int.eq_ofNat_of_zero_le h0
  have hn : n < 256 := by omega
  have : ∀ n : Fin 256, (bits .and .i64 (n.val : Int) 1 != 0) = hasB n.val 1 ∧ (bits .and .i64 (n.val : Int) 8 != 0) = hasB n.val 8 ∧ (bits .and .i64 (n.val : Int) 32 != 0) = hasB n.val 32 ∧ (bits .and .i64 (n.val : Int) 4 != 0) = hasB n.val 4 := by decide
  exact this ⟨n, hn⟩
end Go.Proofs.Ytkmcakneceagpaa
