/- 'PumpCuts', walked. -/
import Derived.Test.YtkmcakneceagpaaPump2
set_option linter.unusedVariables false
set_option linter.unusedSimpArgs false
namespace Go.Proofs.Ytkmcakneceagpaa
open Go.RowKit
theorem PmPutX {w : World} {u g gb C : Nat} {l : List UInt8} {tl : Option (List Hdr)} (h : Pm w u g gb C ⟨l, false, tl⟩) (B : Option Addr) (m d : Nat) (xs : List UInt8) (hx : Rd w B m d xs) (hm : m ≤ 140737488355328) (hxb : 0 < m → ∀ b, b ∈ ob B → b ≠ g ∧ b ≠ gb) :
    Calls Try.prog 84 #[.pointer (some ⟨u, 0, none⟩), .slice B m d] w fun e w' => ∃ v l', e = .returned (.int .i64 v) ∧ Kp [g, gb] w w' ∧ Pm w' u g gb C ⟨l', false, tl⟩ := by
  by_cases hf : m ≤ C - l.length
  · exact (PmPut0 h B m d xs hx hm hxb hf).mono fun e w' ⟨he, hk, hp⟩ => ⟨_, _, he, hk, hp⟩
  · exact (PmPutF h B m d (by omega)).mono fun e w' ⟨he, hk⟩ => ⟨_, l, he, hk ▸ Kp.refl _ _, hk ▸ h⟩
set_option maxHeartbeats 2000000 in
set_option maxRecDepth 100000 in
theorem PumpCuts_walk (C : Nat) (hC : C < 256) (A : Option Addr) (n c : Nat) (l : List UInt8) (B : Option Addr) (m d : Nat) (hs : List Hdr) (tr : Bool) (w0 : World) (hx : Rd w0 A n c l) (hn : n ≤ 140737488351232) (hh : Hd w0 B m d hs) (hm : m * 40 ≤ 140737488351232) (hlt : 0 < n → ∀ b, b ∈ ob A → b < w0.heap.size) :
    Calls Try.prog 21 #[.int .u8 C, .slice A n c, .slice B m d, .bool tr] w0 (Yes w0) := by
  have HX := Lib.hid hx
  have HH := Lib.hid hh
  clear hx hh
  go_enter Try.func21, Try.ntmps21
  go_wp2_with fail
  refine (PmNew C (by omega) w0).mono ?_
  rintro e w1 ⟨u, g, gb, rfl, P1, hl, K1⟩
  have HP1 := Lib.hid P1
  have HK1 := Lib.hid K1
  clear P1 K1
  go_wp2_with fail
  refine (PmPutX HP1.out A n c l (HX.out.keep HK1.out (by simp)) (by omega) (by intro hp b hb; have := hlt hp b hb; omega)).mono ?_
  rintro e w2 ⟨v, l2, rfl, K2, P2⟩
  have q2 := Lib.hid (HK1.out.then K2 (by intro t ht; simp at ht; refine .inr ?_; rcases ht with rfl | rfl <;> omega))
  have HP2 := Lib.hid P2
  clear K2 P2
  cases tr
  · have P3 := HP2
    have q3 := q2
    go_wp2_with fail
    refine (PmCut P3.out).mono ?_
    rintro e w4 ⟨rfl, K4, P4⟩
    have q4 := q3.out.then K4 (by intro t ht; simp at ht; refine .inr ?_; rcases ht with rfl | rfl | rfl <;> omega)
    have HP4 := Lib.hid P4
    clear K4 P4
    go_wp2_with fail
    refine (PmNext10 HP4.out 100).mono ?_
    rintro e w5 ⟨A5, k5, c5, rfl, O5, K5⟩
    have hk5 : k5 = 0 := by have h1 := O5.len; simp at h1; exact h1.symm
    subst hk5
    have q5 := Lib.hid (q4.trans K5)
    have P5 := Lib.hid (HP4.out.keep K5 (by simp) (by simp) (by simp) (by simp))
    clear O5 K5 HP4 q4
    rw [show decide (mostN 100 ([] : List UInt8).length = ([] : List UInt8).length) = true from rfl]
    go_wp2_with fail
    refine (PmLastN P5.out).mono ?_
    rintro e w6 ⟨rfl, rfl⟩
    go_wp2_with fail
    refine (PmLen P5.out).mono ?_
    rintro e w6 ⟨rfl, rfl⟩
    rw [show ([] : List UInt8).length = 0 from rfl]
    go_wp2_with fail
    refine (PmRoom P5.out).mono ?_
    rintro e w6 ⟨rfl, rfl⟩
    rw [show C - ([] : List UInt8).length = C from rfl]
    go_wp2_with fail
    refine (PmOpen P5.out).mono ?_
    rintro e w6 ⟨rfl, rfl⟩
    rw [show (!(PSt.mk ([] : List UInt8) true none).cl) = false from rfl]
    go_wp2_with fail
    refine (PmPut1 P5.out A n c).mono ?_
    rintro e w6 ⟨rfl, rfl⟩
    go_wp2_with fail
    refine (PmEnd1 P5.out).mono ?_
    rintro e w6 ⟨rfl, rfl⟩
    go_wp2_with fail
    refine (PmTail1 P5.out B m d).mono ?_
    rintro e w6 ⟨rfl, rfl⟩
    go_wp2
    go_ret
    exact ⟨rfl, q5.out⟩
  · go_wp2_with fail
    refine (PmTail0 HP2.out B m d hs (HH.out.keep q2.out (by simp)) hm (by intro hp b hb; have := HH.out.lt hp b hb; omega)).mono ?_
    rintro e w3 ⟨rfl, K3, P3'⟩
    have q3 := Lib.hid (q2.out.then K3 (by intro t ht; simp at ht; refine .inr ?_; omega))
    have P3 := Lib.hid P3'
    clear K3 P3'
    go_wp2_with fail
    refine (PmCut P3.out).mono ?_
    rintro e w4 ⟨rfl, K4, P4⟩
    have q4 := q3.out.then K4 (by intro t ht; simp at ht; refine .inr ?_; rcases ht with rfl | rfl | rfl <;> omega)
    have HP4 := Lib.hid P4
    clear K4 P4
    go_wp2_with fail
    refine (PmNext10 HP4.out 100).mono ?_
    rintro e w5 ⟨A5, k5, c5, rfl, O5, K5⟩
    have hk5 : k5 = 0 := by have h1 := O5.len; simp at h1; exact h1.symm
    subst hk5
    have q5 := Lib.hid (q4.trans K5)
    have P5 := Lib.hid (HP4.out.keep K5 (by simp) (by simp) (by simp) (by simp))
    clear O5 K5 HP4 q4
    rw [show decide (mostN 100 ([] : List UInt8).length = ([] : List UInt8).length) = true from rfl]
    go_wp2_with fail
    refine (PmLastN P5.out).mono ?_
    rintro e w6 ⟨rfl, rfl⟩
    go_wp2_with fail
    refine (PmLen P5.out).mono ?_
    rintro e w6 ⟨rfl, rfl⟩
    rw [show ([] : List UInt8).length = 0 from rfl]
    go_wp2_with fail
    refine (PmRoom P5.out).mono ?_
    rintro e w6 ⟨rfl, rfl⟩
    rw [show C - ([] : List UInt8).length = C from rfl]
    go_wp2_with fail
    refine (PmOpen P5.out).mono ?_
    rintro e w6 ⟨rfl, rfl⟩
    rw [show (!(PSt.mk ([] : List UInt8) true none).cl) = false from rfl]
    go_wp2_with fail
    refine (PmPut1 P5.out A n c).mono ?_
    rintro e w6 ⟨rfl, rfl⟩
    go_wp2_with fail
    refine (PmEnd1 P5.out).mono ?_
    rintro e w6 ⟨rfl, rfl⟩
    go_wp2_with fail
    refine (PmTail1 P5.out B m d).mono ?_
    rintro e w6 ⟨rfl, rfl⟩
    go_wp2
    go_ret
    exact ⟨rfl, q5.out⟩
end Go.Proofs.Ytkmcakneceagpaa
