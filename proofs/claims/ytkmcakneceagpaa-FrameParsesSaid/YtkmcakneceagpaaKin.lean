/- frame.kind: its small functions, and what kinds answers of each type. -/
import Derived.Test.YtkmcakneceagpaaHead
import Derived.Test.YtkmcakneceagpaaFrt
import Derived.Test.YtkmcakneceagpaaFrmP
import Derived.Test.YtkmcakneceagpaaApp
import Derived.WalkLawsBesides
import Derived.WalkSpells
import Derived.Laws.EntriesVeiled
set_option linter.unusedVariables false
set_option linter.unusedSimpArgs false
set_option linter.unusedSimpArgs false
namespace Go.Proofs.Ytkmcakneceagpaa
open Go.RowKit

/-- a bool; what was there stands -/
def BoolK (b : Bool) (w : World) (en : Ending) (w' : World) : Prop := en = .returned (.bool b) ∧ Kp [] w w'
/-- the frame as plain data -/
def Fr.p (f : Fr) (l : List UInt8) (ss : List (Int × Int)) : Fp := ⟨f.ty, f.fl, f.st, l, f.pad, f.code, f.last, f.inc, f.dep, f.only, f.wt, ss⟩
/-- bytes that are read; what was there stands -/
def RdP (l : List UInt8) (w : World) (en : Ending) (w' : World) : Prop := ∃ A n c, en = .returned (.slice A n c) ∧ Rd w' A n c l ∧ Kp [] w w'

set_option maxHeartbeats 400000 in
theorem idF (n : Int) (w : World) : Calls Try.prog 143 #[.int .i64 n] w (BoolR (idB n) w) := by
  by_cases h0 : 0 ≤ n
  · by_cases h9 : n ≤ 2147483647
    · have e : idB n = true := by simp [idB, h0, h9]
      rw [e]
      go_enter Try.func143, Try.ntmps143
      go_wp2
      go_ret
      exact ⟨by simp, rfl⟩
    · have e : idB n = false := by simp [idB, h9]
      rw [e]
      go_enter Try.func143, Try.ntmps143
      go_wp2
      go_ret
      exact ⟨by simp, rfl⟩
  · have e : idB n = false := by simp [idB, h0]
    rw [e]
    go_enter Try.func143, Try.ntmps143
    go_wp2
    go_ret
    exact ⟨by simp, rfl⟩

set_option maxHeartbeats 1000000 in
theorem rightF (z any pd : Bool) (f1 f2 f3 f4 : Value) (st : Int) (w : World) (h1 : f1.cells = #[f1]) (h2 : f2.cells = #[f2]) (h3 : f3.cells = #[f3]) (h4 : f4.cells = #[f4]) :
    Calls Try.prog 145 #[.agg #[.bool z, .bool any, .bool pd, f1, f2, f3, f4], .int .i64 st] w (BoolK (any || (z == decide (st = 0))) w) := by
  by_cases hs : st = 0
  · subst hs
    cases any <;> cases z <;>
    · go_enter Try.func145, Try.ntmps145
      go_wp2
      go_ret
      exact ⟨by simp, by (repeat (first | with_reducible exact Kp.refl _ _ | with_reducible assumption | with_reducible refine Kp.alloc ?_ _ | with_reducible refine Kp.drew ?_ | with_reducible refine Kp.drewN ?_ _ | (with_reducible refine Kp.setL ?_ ?_ _; focus (simp; done)) | (with_reducible refine Kp.setR ?_ ?_ _; focus (simp; done)) | (with_reducible refine Kp.setR ?_ ?_ _; focus (simp; omega))))⟩
  · have e : decide (st = 0) = false := by simp [hs]
    rw [e]
    have hs' : (st == 0) = false := by simp [hs]
    clear e hs
    cases any <;> cases z <;>
    · go_enter Try.func145, Try.ntmps145
      go_wp2
      go_ret
      exact ⟨by simp, by (repeat (first | with_reducible exact Kp.refl _ _ | with_reducible assumption | with_reducible refine Kp.alloc ?_ _ | with_reducible refine Kp.drew ?_ | with_reducible refine Kp.drewN ?_ _ | (with_reducible refine Kp.setL ?_ ?_ _; focus (simp; done)) | (with_reducible refine Kp.setR ?_ ?_ _; focus (simp; done)) | (with_reducible refine Kp.setR ?_ ?_ _; focus (simp; omega))))⟩

set_option maxHeartbeats 1000000 in
theorem weightedF (f : Fr) (w : World) (h0 : 0 ≤ f.fl) (h1 : f.fl ≤ 255) : Calls Try.prog 146 #[.agg #[.int .i64 f.ty, .int .i64 f.fl, .int .i64 f.st, .slice f.pA f.pn f.pc, .int .i64 f.pad, .int .u32 f.code, .int .i64 f.last, .int .i64 f.inc, .int .i64 f.dep, .bool f.only, .int .i64 f.wt, .slice f.sA f.sn f.sc]] w (BoolK (prioB f.ty f.fl) w) := by
  have hb := (bits_has f.fl h0 h1).2.2.1
  by_cases h2 : f.ty = 2
  · have e : prioB f.ty f.fl = true := by simp [prioB, h2]
    rw [e]
    have h2' : (f.ty == 2) = true := by simp [h2]
    clear h2 hb
    go_enter Try.func146, Try.ntmps146
    go_wp2
    go_ret
    exact ⟨by simp, by (repeat (first | with_reducible exact Kp.refl _ _ | with_reducible assumption | with_reducible refine Kp.alloc ?_ _ | with_reducible refine Kp.drew ?_ | with_reducible refine Kp.drewN ?_ _ | (with_reducible refine Kp.setL ?_ ?_ _; focus (simp; done)) | (with_reducible refine Kp.setR ?_ ?_ _; focus (simp; done)) | (with_reducible refine Kp.setR ?_ ?_ _; focus (simp; omega))))⟩
  · have h2' : (f.ty == 2) = false := by simp [h2]
    by_cases h3 : f.ty = 1
    · have e : prioB f.ty f.fl = hasB f.fl 32 := by simp [prioB, h3]
      rw [e, ← hb]
      have h3' : (f.ty == 1) = true := by simp [h3]
      clear h2 h3 hb e
      go_enter Try.func146, Try.ntmps146
      go_wp2
      go_ret
      exact ⟨by simp, by (repeat (first | with_reducible exact Kp.refl _ _ | with_reducible assumption | with_reducible refine Kp.alloc ?_ _ | with_reducible refine Kp.drew ?_ | with_reducible refine Kp.drewN ?_ _ | (with_reducible refine Kp.setL ?_ ?_ _; focus (simp; done)) | (with_reducible refine Kp.setR ?_ ?_ _; focus (simp; done)) | (with_reducible refine Kp.setR ?_ ?_ _; focus (simp; omega))))⟩
    · have e : prioB f.ty f.fl = false := by simp [prioB, h2, h3]
      rw [e]
      have h3' : (f.ty == 1) = false := by simp [h3]
      clear h2 h3 hb e
      go_enter Try.func146, Try.ntmps146
      go_wp2
      go_ret
      exact ⟨by simp, by (repeat (first | with_reducible exact Kp.refl _ _ | with_reducible assumption | with_reducible refine Kp.alloc ?_ _ | with_reducible refine Kp.drew ?_ | with_reducible refine Kp.drewN ?_ _ | (with_reducible refine Kp.setL ?_ ?_ _; focus (simp; done)) | (with_reducible refine Kp.setR ?_ ?_ _; focus (simp; done)) | (with_reducible refine Kp.setR ?_ ?_ _; focus (simp; omega))))⟩

set_option maxHeartbeats 400000 in
theorem fourF (n : Int) (w : World) (h0 : 0 ≤ n) (hn : n < 2147483648) : Calls Try.prog 147 #[.int .i64 n] w (RdR (bytesOf n.toNat 4) w) := by
  obtain ⟨n, rfl⟩ := Int.eq_ofNat_of_zero_le h0
  have hp : (2 : Int) ^ 32 = 4294967296 := by decide
  have e : IntKind.u32.wrap (n : Int) = (n : Int) := wraps_u32 _ (by omega) (by omega)
  rw [Int.toNat_natCast]
  clear hp
  go_enter Try.func147, Try.ntmps147
  go_wp2_with fail
  refine (Put32_any n w (by omega)).mono ?_
  rintro e w1 ⟨A, k, rfl, h1, h2, h3⟩
  go_wp2
  go_ret
  exact ⟨_, _, rfl, h1, h2, h3⟩

/-! ### may -/
set_option maxHeartbeats 400000 in
theorem mayAlways (f : Fr) (w : World) : Calls Try.prog 163 #[.agg #[.int .i64 f.ty, .int .i64 f.fl, .int .i64 f.st, .slice f.pA f.pn f.pc, .int .i64 f.pad, .int .u32 f.code, .int .i64 f.last, .int .i64 f.inc, .int .i64 f.dep, .bool f.only, .int .i64 f.wt, .slice f.sA f.sn f.sc]] w (BoolK true w) := by
  go_enter Try.func163, Try.ntmps163
  go_wp2
  go_ret
  exact ⟨by simp, by (repeat (first | with_reducible exact Kp.refl _ _ | with_reducible assumption | with_reducible refine Kp.alloc ?_ _ | with_reducible refine Kp.drew ?_ | with_reducible refine Kp.drewN ?_ _ | (with_reducible refine Kp.setL ?_ ?_ _; focus (simp; done)) | (with_reducible refine Kp.setR ?_ ?_ _; focus (simp; done)) | (with_reducible refine Kp.setR ?_ ?_ _; focus (simp; omega))))⟩
set_option maxHeartbeats 400000 in
theorem mayLast (f : Fr) (w : World) : Calls Try.prog 162 #[.agg #[.int .i64 f.ty, .int .i64 f.fl, .int .i64 f.st, .slice f.pA f.pn f.pc, .int .i64 f.pad, .int .u32 f.code, .int .i64 f.last, .int .i64 f.inc, .int .i64 f.dep, .bool f.only, .int .i64 f.wt, .slice f.sA f.sn f.sc]] w (BoolK (idB f.last) w) := by
  go_enter Try.func162, Try.ntmps162
  go_wp2_with fail
  refine (idF _ _).mono ?_
  rintro e w1 ⟨rfl, rfl⟩
  go_wp2
  go_ret
  exact ⟨rfl, by (repeat (first | with_reducible exact Kp.refl _ _ | with_reducible assumption | with_reducible refine Kp.alloc ?_ _ | with_reducible refine Kp.drew ?_ | with_reducible refine Kp.drewN ?_ _ | (with_reducible refine Kp.setL ?_ ?_ _; focus (simp; done)) | (with_reducible refine Kp.setR ?_ ?_ _; focus (simp; done)) | (with_reducible refine Kp.setR ?_ ?_ _; focus (simp; omega))))⟩
set_option maxHeartbeats 400000 in
theorem mayEight (f : Fr) (w : World) (hn : f.pn ≤ 140737488351232) : Calls Try.prog 178 #[.agg #[.int .i64 f.ty, .int .i64 f.fl, .int .i64 f.st, .slice f.pA f.pn f.pc, .int .i64 f.pad, .int .u32 f.code, .int .i64 f.last, .int .i64 f.inc, .int .i64 f.dep, .bool f.only, .int .i64 f.wt, .slice f.sA f.sn f.sc]] w (BoolK (decide (f.pn = 8)) w) := by
  by_cases h : f.pn = 8
  · have h' : ((f.pn : Int) == 8) = true := by simp; omega
    go_enter Try.func178, Try.ntmps178
    go_wp2
    go_ret
    exact ⟨by simp [h], by (repeat (first | with_reducible exact Kp.refl _ _ | with_reducible assumption | with_reducible refine Kp.alloc ?_ _ | with_reducible refine Kp.drew ?_ | with_reducible refine Kp.drewN ?_ _ | (with_reducible refine Kp.setL ?_ ?_ _; focus (simp; done)) | (with_reducible refine Kp.setR ?_ ?_ _; focus (simp; done)) | (with_reducible refine Kp.setR ?_ ?_ _; focus (simp; omega))))⟩
  · have h' : ((f.pn : Int) == 8) = false := by simp; omega
    go_enter Try.func178, Try.ntmps178
    go_wp2
    go_ret
    exact ⟨by simp [h], by (repeat (first | with_reducible exact Kp.refl _ _ | with_reducible assumption | with_reducible refine Kp.alloc ?_ _ | with_reducible refine Kp.drew ?_ | with_reducible refine Kp.drewN ?_ _ | (with_reducible refine Kp.setL ?_ ?_ _; focus (simp; done)) | (with_reducible refine Kp.setR ?_ ?_ _; focus (simp; done)) | (with_reducible refine Kp.setR ?_ ?_ _; focus (simp; omega))))⟩
set_option maxHeartbeats 400000 in
theorem mayInc (f : Fr) (w : World) : Calls Try.prog 182 #[.agg #[.int .i64 f.ty, .int .i64 f.fl, .int .i64 f.st, .slice f.pA f.pn f.pc, .int .i64 f.pad, .int .u32 f.code, .int .i64 f.last, .int .i64 f.inc, .int .i64 f.dep, .bool f.only, .int .i64 f.wt, .slice f.sA f.sn f.sc]] w (BoolK (decide (1 ≤ f.inc) && decide (f.inc ≤ 2147483647)) w) := by
  by_cases h0 : 1 ≤ f.inc
  · by_cases h9 : f.inc ≤ 2147483647
    · go_enter Try.func182, Try.ntmps182
      go_wp2
      go_ret
      exact ⟨by simp [h0, h9], by (repeat (first | with_reducible exact Kp.refl _ _ | with_reducible assumption | with_reducible refine Kp.alloc ?_ _ | with_reducible refine Kp.drew ?_ | with_reducible refine Kp.drewN ?_ _ | (with_reducible refine Kp.setL ?_ ?_ _; focus (simp; done)) | (with_reducible refine Kp.setR ?_ ?_ _; focus (simp; done)) | (with_reducible refine Kp.setR ?_ ?_ _; focus (simp; omega))))⟩
    · go_enter Try.func182, Try.ntmps182
      go_wp2
      go_ret
      exact ⟨by simp [h0, h9], by (repeat (first | with_reducible exact Kp.refl _ _ | with_reducible assumption | with_reducible refine Kp.alloc ?_ _ | with_reducible refine Kp.drew ?_ | with_reducible refine Kp.drewN ?_ _ | (with_reducible refine Kp.setL ?_ ?_ _; focus (simp; done)) | (with_reducible refine Kp.setR ?_ ?_ _; focus (simp; done)) | (with_reducible refine Kp.setR ?_ ?_ _; focus (simp; omega))))⟩
  · go_enter Try.func182, Try.ntmps182
    go_wp2
    go_ret
    exact ⟨by simp [h0]; omega, by (repeat (first | with_reducible exact Kp.refl _ _ | with_reducible assumption | with_reducible refine Kp.alloc ?_ _ | with_reducible refine Kp.drew ?_ | with_reducible refine Kp.drewN ?_ _ | (with_reducible refine Kp.setL ?_ ?_ _; focus (simp; done)) | (with_reducible refine Kp.setR ?_ ?_ _; focus (simp; done)) | (with_reducible refine Kp.setR ?_ ?_ _; focus (simp; omega))))⟩

/-! ### put -/
set_option maxHeartbeats 400000 in
theorem putPayload (f : Fr) (l : List UInt8) (w : World) (hr : Rd w f.pA f.pn f.pc l) : Calls Try.prog 160 #[.agg #[.int .i64 f.ty, .int .i64 f.fl, .int .i64 f.st, .slice f.pA f.pn f.pc, .int .i64 f.pad, .int .u32 f.code, .int .i64 f.last, .int .i64 f.inc, .int .i64 f.dep, .bool f.only, .int .i64 f.wt, .slice f.sA f.sn f.sc]] w (RdP l w) := by
  have HR := Lib.hid hr
  clear hr
  go_enter Try.func160, Try.ntmps160
  go_wp2
  go_ret
  exact ⟨_, _, _, rfl, HR.out.keep (S := []) (by (repeat (first | with_reducible exact Kp.refl _ _ | with_reducible assumption | with_reducible refine Kp.alloc ?_ _ | with_reducible refine Kp.drew ?_ | with_reducible refine Kp.drewN ?_ _ | (with_reducible refine Kp.setL ?_ ?_ _; focus (simp; done)) | (with_reducible refine Kp.setR ?_ ?_ _; focus (simp; done)) | (with_reducible refine Kp.setR ?_ ?_ _; focus (simp; omega))))) (by simp), by (repeat (first | with_reducible exact Kp.refl _ _ | with_reducible assumption | with_reducible refine Kp.alloc ?_ _ | with_reducible refine Kp.drew ?_ | with_reducible refine Kp.drewN ?_ _ | (with_reducible refine Kp.setL ?_ ?_ _; focus (simp; done)) | (with_reducible refine Kp.setR ?_ ?_ _; focus (simp; done)) | (with_reducible refine Kp.setR ?_ ?_ _; focus (simp; omega))))⟩
set_option maxHeartbeats 400000 in
theorem putNone (f : Fr) (w : World) : Calls Try.prog 168 #[.agg #[.int .i64 f.ty, .int .i64 f.fl, .int .i64 f.st, .slice f.pA f.pn f.pc, .int .i64 f.pad, .int .u32 f.code, .int .i64 f.last, .int .i64 f.inc, .int .i64 f.dep, .bool f.only, .int .i64 f.wt, .slice f.sA f.sn f.sc]] w (RdP [] w) := by
  go_enter Try.func168, Try.ntmps168
  go_wp2
  go_ret
  exact ⟨_, _, _, rfl, Rd.nil _ _ _, by (repeat (first | with_reducible exact Kp.refl _ _ | with_reducible assumption | with_reducible refine Kp.alloc ?_ _ | with_reducible refine Kp.drew ?_ | with_reducible refine Kp.drewN ?_ _ | (with_reducible refine Kp.setL ?_ ?_ _; focus (simp; done)) | (with_reducible refine Kp.setR ?_ ?_ _; focus (simp; done)) | (with_reducible refine Kp.setR ?_ ?_ _; focus (simp; omega))))⟩
set_option maxHeartbeats 400000 in
theorem putCode (f : Fr) (w : World) (hc : U32 f.code) : Calls Try.prog 170 #[.agg #[.int .i64 f.ty, .int .i64 f.fl, .int .i64 f.st, .slice f.pA f.pn f.pc, .int .i64 f.pad, .int .u32 f.code, .int .i64 f.last, .int .i64 f.inc, .int .i64 f.dep, .bool f.only, .int .i64 f.wt, .slice f.sA f.sn f.sc]] w (RdP (bytesOf f.code.toNat 4) w) := by
  obtain ⟨ty, fl, st, pA, pn, pc, pad, code, last, inc, dep, only, wt, sA, sn, sc⟩ := f
  obtain ⟨n, rfl⟩ := Int.eq_ofNat_of_zero_le hc.1
  have hn : n < 4294967296 := by have := hc.2; simp at this; omega
  clear hc
  go_enter Try.func170, Try.ntmps170
  go_wp2_with fail
  refine (Put32_any n _ hn).mono ?_
  rintro e w1 ⟨A, k, rfl, h1, h2, h3⟩
  go_wp2
  go_ret
  exact ⟨_, _, _, rfl, h1, Kp.trans (by (repeat (first | with_reducible exact Kp.refl _ _ | with_reducible assumption | with_reducible refine Kp.alloc ?_ _ | with_reducible refine Kp.drew ?_ | with_reducible refine Kp.drewN ?_ _ | (with_reducible refine Kp.setL ?_ ?_ _; focus (simp; done)) | (with_reducible refine Kp.setR ?_ ?_ _; focus (simp; done)) | (with_reducible refine Kp.setR ?_ ?_ _; focus (simp; omega))))) h3⟩
set_option maxHeartbeats 400000 in
theorem putInc (f : Fr) (w : World) (h0 : 0 ≤ f.inc) (h1 : f.inc < 2147483648) : Calls Try.prog 183 #[.agg #[.int .i64 f.ty, .int .i64 f.fl, .int .i64 f.st, .slice f.pA f.pn f.pc, .int .i64 f.pad, .int .u32 f.code, .int .i64 f.last, .int .i64 f.inc, .int .i64 f.dep, .bool f.only, .int .i64 f.wt, .slice f.sA f.sn f.sc]] w (RdP (bytesOf f.inc.toNat 4) w) := by
  go_enter Try.func183, Try.ntmps183
  go_wp2_with fail
  refine (fourF _ _ h0 h1).mono ?_
  rintro e w1 ⟨A, k, rfl, h1, h2, h3⟩
  go_wp2
  go_ret
  exact ⟨_, _, _, rfl, h1, Kp.trans (by (repeat (first | with_reducible exact Kp.refl _ _ | with_reducible assumption | with_reducible refine Kp.alloc ?_ _ | with_reducible refine Kp.drew ?_ | with_reducible refine Kp.drewN ?_ _ | (with_reducible refine Kp.setL ?_ ?_ _; focus (simp; done)) | (with_reducible refine Kp.setR ?_ ?_ _; focus (simp; done)) | (with_reducible refine Kp.setR ?_ ?_ _; focus (simp; omega))))) h3⟩
end Go.Proofs.Ytkmcakneceagpaa
