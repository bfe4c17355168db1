/- Numbers and heads out of very long bytes. -/
import Derived.Test.YtkmcakneceagpaaHead
set_option linter.unusedVariables false
namespace Go.Proofs.Ytkmcakneceagpaa
open Go.RowKit
set_option maxHeartbeats 400000 in
theorem get3_big (A : Option Addr) (n c : Nat) (i : Int) (l : List UInt8) (w : World) (hn : n ≤ 281474976710656) (hr : Rd w A n c l) :
    Calls Try.prog 122 #[.slice A n c, .int .i64 i] w (Num3 .u32 (num 3 l i).1 (num 3 l i).2.1 (num 3 l i).2.2 w) := by
  have hlen := hr.len
  by_cases ha : i < 0 ∨ (l.length : Int) < i
  · rw [num_arg ha]
    rw [hlen] at ha
    clear hlen hr
    rcases ha with h | h
    · go_enter Try.func122, Try.ntmps122
      go_wp2
      go_ret3
      exact ⟨rfl, (Kp.refl _ _).alloc _⟩
    · have h' : ¬ i < 0 := by omega
      go_enter Try.func122, Try.ntmps122
      go_wp2
      go_ret3
      exact ⟨rfl, (Kp.refl _ _).alloc _⟩
  · by_cases hs : (l.length : Int) - i < 3
    · rw [num_short (by omega) (by omega) hs]
      have h0 : 0 ≤ i := by omega
      have h1 : i ≤ n := by omega
      have h2 : (n : Int) - i < 3 := by omega
      have HL := Lib.hid hlen
      clear hlen hr ha hs
      go_enter Try.func122, Try.ntmps122
      go_wp2
      go_ret3
      exact Num3.mk rfl (by rw [HL.out]) rfl ((Kp.refl _ _).alloc _)
    · obtain ⟨j, rfl⟩ := Int.eq_ofNat_of_zero_le (show 0 ≤ i by omega)
      have hj : j + 3 ≤ n := by omega
      obtain ⟨b, off, rfl, hb, hcell⟩ := hr.addr (by omega)
      have hcap := hr.cap
      rw [num_ok (by omega)]
      have HT : Hid (∀ k, k < 3 → be ((l.drop j).take (k + 1)) = be ((l.drop j).take k) * 256 + (l.getD (j + k) 0).toNat) := by
        intro k hk
        rw [be_take_succ _ _ (by simp; omega)]
        simp [List.getD_eq_getElem?_getD]
      clear hlen hr ha hs
      have d1 : decide ((j : Int) < 0) = false := by simp
      have d2 : decide (n < j) = false := by simp; omega
      have d3 : decide ((n : Int) - j < 3) = false := by simp; omega
      go_enter Try.func122, Try.ntmps122
      go_wp2
      go_loop [8, 10, 38] (fun v _ k => ∃ kk : Nat, kk ≤ 3 ∧ k = .int .i64 kk ∧ v = .int .u32 (be ((l.drop j).take kk))) (fun _ _ k => 3 - (intOf k).toNat)
      case atStart => exact ⟨0, by omega, rfl, by simp [be]⟩
      case round =>
        obtain ⟨k, hk, rfl, rfl⟩ := hrel
        by_cases hlt : k < 3
        · have hc2 := hcell (j + k) (by omega)
          rw [← Nat.add_assoc] at hc2
          have HB : Hid (be ((l.drop j).take k) < 16777216) := Nat.lt_of_lt_of_le (be_take_lt (l.drop j) k) (Nat.le_trans (Nat.pow_le_pow_right (by omega) (show k ≤ 3 by omega)) (by decide))
          clear hcell
          go_wp2
          go_round
          case rel =>
            refine ⟨k + 1, by omega, by go_num, ?_⟩
            rw [HT.out k hlt]
            have e := or_step (be ((l.drop j).take k)) (l.getD (j + k) 0).toNat HB.out (l.getD (j + k) 0).toNat_lt
            simp only [List.getD_eq_getElem?_getD] at e ⊢
            rw [e]
            go_num
          case measure => simp [intOf]; omega
        · obtain rfl : k = 3 := by omega
          clear hcell
          go_wp2
          go_quiet (fail)
          go_wp2
          go_ret3
          exact Num3.mk rfl rfl rfl (((Kp.refl _ _).alloc _).drewN _)
set_option maxHeartbeats 400000 in
theorem get4_big (A : Option Addr) (n c : Nat) (i : Int) (l : List UInt8) (w : World) (hn : n ≤ 281474976710656) (hr : Rd w A n c l) :
    Calls Try.prog 115 #[.slice A n c, .int .i64 i] w (Num3 .u32 (num 4 l i).1 (num 4 l i).2.1 (num 4 l i).2.2 w) := by
  have hlen := hr.len
  by_cases ha : i < 0 ∨ (l.length : Int) < i
  · rw [num_arg ha]
    rw [hlen] at ha
    clear hlen hr
    rcases ha with h | h
    · go_enter Try.func115, Try.ntmps115
      go_wp2
      go_ret3
      exact ⟨rfl, (Kp.refl _ _).alloc _⟩
    · have h' : ¬ i < 0 := by omega
      go_enter Try.func115, Try.ntmps115
      go_wp2
      go_ret3
      exact ⟨rfl, (Kp.refl _ _).alloc _⟩
  · by_cases hs : (l.length : Int) - i < 4
    · rw [num_short (by omega) (by omega) hs]
      have h0 : 0 ≤ i := by omega
      have h1 : i ≤ n := by omega
      have h2 : (n : Int) - i < 4 := by omega
      have HL := Lib.hid hlen
      clear hlen hr ha hs
      go_enter Try.func115, Try.ntmps115
      go_wp2
      go_ret3
      exact Num3.mk rfl (by rw [HL.out]) rfl ((Kp.refl _ _).alloc _)
    · obtain ⟨j, rfl⟩ := Int.eq_ofNat_of_zero_le (show 0 ≤ i by omega)
      have hj : j + 4 ≤ n := by omega
      obtain ⟨b, off, rfl, hb, hcell⟩ := hr.addr (by omega)
      have hcap := hr.cap
      rw [num_ok (by omega)]
      have HT : Hid (∀ k, k < 4 → be ((l.drop j).take (k + 1)) = be ((l.drop j).take k) * 256 + (l.getD (j + k) 0).toNat) := by
        intro k hk
        rw [be_take_succ _ _ (by simp; omega)]
        simp [List.getD_eq_getElem?_getD]
      clear hlen hr ha hs
      have d1 : decide ((j : Int) < 0) = false := by simp
      have d2 : decide (n < j) = false := by simp; omega
      have d3 : decide ((n : Int) - j < 4) = false := by simp; omega
      go_enter Try.func115, Try.ntmps115
      go_wp2
      go_loop [8, 10, 38] (fun v _ k => ∃ kk : Nat, kk ≤ 4 ∧ k = .int .i64 kk ∧ v = .int .u32 (be ((l.drop j).take kk))) (fun _ _ k => 4 - (intOf k).toNat)
      case atStart => exact ⟨0, by omega, rfl, by simp [be]⟩
      case round =>
        obtain ⟨k, hk, rfl, rfl⟩ := hrel
        by_cases hlt : k < 4
        · have hc2 := hcell (j + k) (by omega)
          rw [← Nat.add_assoc] at hc2
          have HB : Hid (be ((l.drop j).take k) < 16777216) := Nat.lt_of_lt_of_le (be_take_lt (l.drop j) k) (Nat.le_trans (Nat.pow_le_pow_right (by omega) (show k ≤ 3 by omega)) (by decide))
          clear hcell
          go_wp2
          go_round
          case rel =>
            refine ⟨k + 1, by omega, by go_num, ?_⟩
            rw [HT.out k hlt]
            have e := or_step (be ((l.drop j).take k)) (l.getD (j + k) 0).toNat HB.out (l.getD (j + k) 0).toNat_lt
            simp only [List.getD_eq_getElem?_getD] at e ⊢
            rw [e]
            go_num
          case measure => simp [intOf]; omega
        · obtain rfl : k = 4 := by omega
          clear hcell
          go_wp2
          go_quiet (fail)
          go_wp2
          go_ret3
          exact Num3.mk rfl rfl rfl (((Kp.refl _ _).alloc _).drewN _)
set_option maxHeartbeats 400000 in
theorem U24_big (A : Option Addr) (n c : Nat) (i : Int) (l : List UInt8) (w : World) (hn : n ≤ 281474976710656) (hr : Rd w A n c l) :
    Calls Try.prog 47 #[.slice A n c, .int .i64 i] w (Num3 .i64 (num 3 l i).1 (num 3 l i).2.1 (num 3 l i).2.2 w) := by
  have hb : (num 3 l i).1 < 16777216 := Nat.lt_of_lt_of_eq (num_lt 3 l i) pow3
  go_enter Try.func47, Try.ntmps47
  go_wp2_with (go_at_call 122; refine (get3_big _ _ _ _ _ _ hn hr).mono ?_; rintro e w' ⟨rfl, hk⟩)
  go_ret3
  exact ⟨rfl, hk⟩
set_option maxHeartbeats 400000 in
theorem U31_big (A : Option Addr) (n c : Nat) (i : Int) (l : List UInt8) (w : World) (hn : n ≤ 281474976710656) (hr : Rd w A n c l) :
    Calls Try.prog 51 #[.slice A n c, .int .i64 i] w (Num3 .i64 ((num 4 l i).1 % 2147483648 : Nat) (num 4 l i).2.1 (num 4 l i).2.2 w) := by
  have hb : (num 4 l i).1 < 4294967296 := Nat.lt_of_lt_of_eq (num_lt 4 l i) pow4
  have HA := Lib.hid (andNot31 _ hb)
  go_enter Try.func51, Try.ntmps51
  go_wp2_with (go_at_call 115; refine (get4_big _ _ _ _ _ _ hn hr).mono ?_; rintro e w' ⟨rfl, hk⟩)
  go_ret3
  refine Num3.mk ?_ rfl rfl hk
  rw [HA.out]
  unfold wrap64
  omega

/-! ### the program's puts -/
set_option maxHeartbeats 1000000 in
theorem Head_big (A : Option Addr) (n c : Nat) (l : List UInt8) (w : World) (hn : n ≤ 281474976710656) (hr : Rd w A n c l) :
    Calls Try.prog 55 #[.slice A n c] w (Num5 (headR l) w) := by
  have hlen := hr.len
  by_cases hs : n < 9
  · have e : headR l = (0, 0, 0, 0, 3) := by unfold headR; rw [if_pos (by omega)]
    rw [e]
    clear hlen hr
    go_enter Try.func55, Try.ntmps55
    go_wp2
    exact bodyPost_ret (v := .tuple #[.int .i64 0, .int .i64 0, .int .i64 0, .int .i64 0, .int .i64 3]) (by simp [results, Try.results55, go_sem]) rfl ⟨rfl, Kp.refl _ _⟩
  · have e : headR l = ((num 3 l 0).1, (l.getD 3 0).toNat, (l.getD 4 0).toNat, (num 4 l 5).1 % 2147483648, 0) := by unfold headR; rw [if_neg (by omega)]
    rw [e]
    obtain ⟨b, off, rfl, hb, hc⟩ := hr.addr (by omega)
    have h3 := hc 3 (by omega)
    have h4 := hc 4 (by omega)
    have HR := Lib.hid hr
    clear hlen hr hc e
    go_enter Try.func55, Try.ntmps55
    go_wp2_with fail
    refine (U24_big _ _ _ 0 _ _ hn HR.out).mono ?_
    rintro e w1 ⟨rfl, k1⟩
    have r1 := HR.out.keep k1 (by simp)
    have g3 := k1.cell h3 (by simp)
    have g4 := k1.cell h4 (by simp)
    clear h3 h4 HR hb
    have HR1 := Lib.hid r1
    clear r1
    generalize hx : (num 3 l 0).1 = x1
    have HX := Lib.hid hx
    clear hx
    generalize (num 3 l 0).2.1 = x2
    generalize (num 3 l 0).2.2 = x3
    go_wp2_with fail
    refine (U31_big _ _ _ 5 _ _ hn HR1.out).mono ?_
    rintro e w2 ⟨rfl, k2⟩
    have h3 := k2.cell g3 (by simp)
    have h4 := k2.cell g4 (by simp)
    have HK := Lib.hid (k1.trans k2)
    clear g3 g4 HR1 k1 k2
    generalize hy : (num 4 l 5).1 % 2147483648 = y1
    have HY := Lib.hid hy
    clear hy
    generalize (num 4 l 5).2.1 = y2
    generalize (num 4 l 5).2.2 = y3
    have hb3 := (l.getD 3 0).toNat_lt
    have hb4 := (l.getD 4 0).toNat_lt
    generalize (l.getD 3 0).toNat = b3 at *
    generalize (l.getD 4 0).toNat = b4 at *
    have i3 : (3 : Int) < (n : Int) := by omega
    have i4 : (4 : Int) < (n : Int) := by omega
    go_wp2
    go_quiet (fail)
    go_wp2
    exact bodyPost_ret (v := .tuple #[.int .i64 x1, .int .i64 b3, .int .i64 b4, .int .i64 y1, .int .i64 0]) (by simp [results, Try.results55, go_sem]) rfl ⟨by simp only [HX.out, HY.out], HK.out.drewN _⟩
end Go.Proofs.Ytkmcakneceagpaa
