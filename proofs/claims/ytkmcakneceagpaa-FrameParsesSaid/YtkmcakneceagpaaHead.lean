/- A frame's head and the known types, by the program. -/
import Derived.Test.YtkmcakneceagpaaField
set_option linter.unusedVariables false
namespace Go.Proofs.Ytkmcakneceagpaa
open Go.RowKit

/-- what a frame's head is -/
def headR (l : List UInt8) : Nat × Nat × Nat × Nat × Int :=
  if l.length < 9 then (0, 0, 0, 0, 3) else ((num 3 l 0).1, (l.getD 3 0).toNat, (l.getD 4 0).toNat, (num 4 l 5).1 % 2147483648, 0)
def Num5 (r : Nat × Nat × Nat × Nat × Int) (w : World) (en : Ending) (w' : World) : Prop :=
  en = .returned (.tuple #[.int .i64 r.1, .int .i64 r.2.1, .int .i64 r.2.2.1, .int .i64 r.2.2.2.1, .int .i64 r.2.2.2.2]) ∧ Kp [] w w'

set_option maxHeartbeats 1000000 in
theorem Head_any (A : Option Addr) (n c : Nat) (l : List UInt8) (w : World) (hn : n ≤ 140737488355328) (hr : Rd w A n c l) :
    Calls Try.prog 55 #[.slice A n c] w (Num5 (headR l) w) := by
  have hlen := hr.len
  by_cases hs : n < 9
  · have e : headR l = (0, 0, 0, 0, 3) := by unfold headR; rw [if_pos (by omega)]
    rw [e]
    clear hlen hr
    go_enter Try.func55, Try.ntmps55
    go_wp2
    exact bodyPost_ret (v := .tuple #[.int .i64 0, .int .i64 0, .int .i64 0, .int .i64 0, .int .i64 3]) (by simp [results, Try.results55, go_sem]) rfl ⟨rfl, Kp.refl _ _⟩
  · have e : headR l = ((num 3 l 0).1, (l.getD 3 0).toNat, (l.getD 4 0).toNat, (num 4 l 5).1 % 2147483648, 0) := by unfold headR; rw [if_neg (by omega)]
    rw [e]
    obtain ⟨b, off, rfl, hb, hc⟩ := hr.addr (by omega)
    have h3 := hc 3 (by omega)
    have h4 := hc 4 (by omega)
    have HR := Lib.hid hr
    clear hlen hr hc e
    go_enter Try.func55, Try.ntmps55
    go_wp2_with fail
    refine (U24_any _ _ _ 0 _ _ hn HR.out).mono ?_
    rintro e w1 ⟨rfl, k1⟩
    have r1 := HR.out.keep k1 (by simp)
    have g3 := k1.cell h3 (by simp)
    have g4 := k1.cell h4 (by simp)
    clear h3 h4 HR hb
    have HR1 := Lib.hid r1
    clear r1
    generalize hx : (num 3 l 0).1 = x1
    have HX := Lib.hid hx
    clear hx
    generalize (num 3 l 0).2.1 = x2
    generalize (num 3 l 0).2.2 = x3
    go_wp2_with fail
    refine (U31_any _ _ _ 5 _ _ hn HR1.out).mono ?_
    rintro e w2 ⟨rfl, k2⟩
    have h3 := k2.cell g3 (by simp)
    have h4 := k2.cell g4 (by simp)
    have HK := Lib.hid (k1.trans k2)
    clear g3 g4 HR1 k1 k2
    generalize hy : (num 4 l 5).1 % 2147483648 = y1
    have HY := Lib.hid hy
    clear hy
    generalize (num 4 l 5).2.1 = y2
    generalize (num 4 l 5).2.2 = y3
    have hb3 := (l.getD 3 0).toNat_lt
    have hb4 := (l.getD 4 0).toNat_lt
    generalize (l.getD 3 0).toNat = b3 at *
    generalize (l.getD 4 0).toNat = b4 at *
    have i3 : (3 : Int) < (n : Int) := by omega
    have i4 : (4 : Int) < (n : Int) := by omega
    go_wp2
    go_quiet (fail)
    go_wp2
    exact bodyPost_ret (v := .tuple #[.int .i64 x1, .int .i64 b3, .int .i64 b4, .int .i64 y1, .int .i64 0]) (by simp [results, Try.results55, go_sem]) rfl ⟨by simp only [HX.out, HY.out], HK.out.drewN _⟩

/-- known types -/
def knownB (k : Int) : Bool := decide (0 ≤ k) && decide (k ≤ 9)
def BoolR (b : Bool) (w : World) (en : Ending) (w' : World) : Prop := en = .returned (.bool b) ∧ w = w'

set_option maxHeartbeats 400000 in
theorem Known_any (k : Int) (w : World) : Calls Try.prog 57 #[.int .i64 k] w (BoolR (knownB k) w) := by
  by_cases h0 : 0 ≤ k
  · by_cases h9 : k ≤ 9
    · have e : knownB k = true := by simp [knownB, h0, h9]
      rw [e]
      go_enter Try.func57, Try.ntmps57
      go_wp2
      go_ret
      exact ⟨by simp, rfl⟩
    · have e : knownB k = false := by simp [knownB, h9]
      rw [e]
      go_enter Try.func57, Try.ntmps57
      go_wp2
      go_ret
      exact ⟨by simp, rfl⟩
  · have e : knownB k = false := by simp [knownB, h0]
    rw [e]
    go_enter Try.func57, Try.ntmps57
    go_wp2
    go_ret
    exact ⟨by simp, rfl⟩

set_option maxHeartbeats 400000 in
theorem awake07 (w : World) : Calls Try.prog 59 #[] w (BoolR true w) := by
  go_enter Try.func59, Try.ntmps59
  go_wp2_with fail
  refine (Known_any 9 w).mono ?_
  rintro e w1 ⟨rfl, rfl⟩
  rw [show knownB 9 = true from rfl]
  go_wp2_with fail
  refine (Known_any 10 w).mono ?_
  rintro e w1 ⟨rfl, rfl⟩
  rw [show knownB 10 = false from rfl]
  go_wp2
  go_ret
  exact ⟨rfl, rfl⟩
end Go.Proofs.Ytkmcakneceagpaa
