/- The law FrameHeads, walked. -/
import Derived.Test.YtkmcakneceagpaaHead
set_option linter.unusedVariables false
namespace Go.Proofs.Ytkmcakneceagpaa
open Go.RowKit
set_option maxHeartbeats 1000000 in
set_option maxRecDepth 100000 in
theorem FrameHeads_walk (A : Option Addr) (n c : Nat) (l : List UInt8) (k : Int) (w0 : World) (hn : n ≤ 140737488351232) (hr : Rd w0 A n c l) :
    Calls Try.prog 9 #[.slice A n c, .int .i64 k] w0 (Yes w0) := by
  have HH := Lib.hid hr
  clear hr
  go_enter Try.func9, Try.ntmps9
  go_wp2_with (with_reducible refine stopAt (o := ⟨some 18, _, _, _, _, _⟩) ?_)
  have k0 : Kp [] w0 (w0.alloc (.cells #[] 5)) := (Kp.refl _ _).alloc _
  refine Stop.go (wp_appB rfl _ _ 22 5 rfl Try.underlying22 Try.info5 w0.heap.size _ 0 0 [] rfl (Ow.empty w0 w0.heap.size 5 1 (Nat.le_refl _)) A n c l rfl (HH.out.keep k0 (by simp)) (by omega) (by simp) ?_)
  intro A1 k1 c1 l1 w1 e1k e1 O1 K1 _
  have q1 : Kp [] w0 w1 := k0.then K1 (by simp [ob])
  obtain rfl : k1 = n := by have := e1k.out; omega
  obtain rfl : l1 = l := e1.out
  clear e1k e1 K1 k0
  have HO := Lib.hid O1.rd
  clear O1
  go_wp2_with fail
  refine (Head_any _ _ _ _ _ (by omega) HO.out).mono ?_
  rintro e w2 ⟨rfl, k2⟩
  have q2 := q1.trans k2
  clear q1 k2
  go_wp2_with fail
  refine (refHead_any _ _ _ _ _ (by omega) (HH.out.keep q2 (by simp))).mono ?_
  rintro e w3 ⟨rfl, k3⟩
  have HQ := Lib.hid (q2.trans k3)
  clear q2 k3
  generalize headR l1 = h
  go_wp2_with fail
  refine (Known_any k _).mono ?_
  rintro e w4 ⟨rfl, rfl⟩
  go_wp2_with fail
  refine (refKnown_any k _).mono ?_
  rintro e w4 ⟨rfl, rfl⟩
  generalize knownB k = b
  go_wp2_with fail
  refine (awake07 _).mono ?_
  rintro e w4 ⟨rfl, rfl⟩
  go_wp2
  go_ret
  exact ⟨rfl, HQ.out⟩
end Go.Proofs.Ytkmcakneceagpaa
