/- The contracts of layer 2: numbers of bytes, read and put, by the program and by the reference: each gives the plain function 'num' or 'bytesOf'. -/
import Derived.Test.YtkmcakneceagpaaProg
import Derived.Test.YtkmcakneceagpaaMem
import Derived.Test.YtkmcakneceagpaaNum
import Derived.WalkLawsBesides
import Derived.WalkSpells
import Derived.Deep.OwnRows
set_option linter.unusedVariables false
namespace Go.Proofs.Ytkmcakneceagpaa
open Go.RowKit

theorem Try.info5 : (Try.prog.info? 5).map (fun i => (i.zero, i.size, i.bytes)) = some (some (.int .u8 0), 1, 1) := by kernel_rfl

/-- three results of a read -/
def Num3 (k1 : IntKind) (x : Int) (p e : Int) (w : World) (en : Ending) (w' : World) : Prop := en = .returned (.tuple #[.int k1 x, .int .i64 p, .int .i64 e]) ∧ Kp [] w w'
theorem Num3.mk {k1 : IntKind} {x x' p p' e e' : Int} {w w' : World} (hx : x = x') (hp : p = p') (he : e = e') (h : Kp [] w w') : Num3 k1 x p e w (.returned (.tuple #[.int k1 x', .int .i64 p', .int .i64 e'])) w' := by
  subst hx hp he
  exact ⟨rfl, h⟩

set_option maxHeartbeats 400000 in
theorem get2_any (A : Option Addr) (n c : Nat) (i : Int) (l : List UInt8) (w : World) (hn : n ≤ 140737488355328) (hr : Rd w A n c l) :
    Calls Try.prog 118 #[.slice A n c, .int .i64 i] w (Num3 .u32 (num 2 l i).1 (num 2 l i).2.1 (num 2 l i).2.2 w) := by
  have hlen := hr.len
  by_cases ha : i < 0 ∨ (l.length : Int) < i
  · rw [num_arg ha]
    rw [hlen] at ha
    clear hlen hr
    rcases ha with h | h
    · go_enter Try.func118, Try.ntmps118
      go_wp2
      go_ret3
      exact ⟨rfl, (Kp.refl _ _).alloc _⟩
    · have h' : ¬ i < 0 := by omega
      go_enter Try.func118, Try.ntmps118
      go_wp2
      go_ret3
      exact ⟨rfl, (Kp.refl _ _).alloc _⟩
  · by_cases hs : (l.length : Int) - i < 2
    · rw [num_short (by omega) (by omega) hs]
      have h0 : 0 ≤ i := by omega
      have h1 : i ≤ n := by omega
      have h2 : (n : Int) - i < 2 := by omega
      have HL := Lib.hid hlen
      clear hlen hr ha hs
      go_enter Try.func118, Try.ntmps118
      go_wp2
      go_ret3
      exact Num3.mk rfl (by rw [HL.out]) rfl ((Kp.refl _ _).alloc _)
    · obtain ⟨j, rfl⟩ := Int.eq_ofNat_of_zero_le (show 0 ≤ i by omega)
      have hj : j + 2 ≤ n := by omega
      obtain ⟨b, off, rfl, hb, hcell⟩ := hr.addr (by omega)
      have hcap := hr.cap
      rw [num_ok (by omega)]
      have HT : Hid (∀ k, k < 2 → be ((l.drop j).take (k + 1)) = be ((l.drop j).take k) * 256 + (l.getD (j + k) 0).toNat) := by
        intro k hk
        rw [be_take_succ _ _ (by simp; omega)]
        simp [List.getD_eq_getElem?_getD]
      clear hlen hr ha hs
      have d1 : decide ((j : Int) < 0) = false := by simp
      have d2 : decide (n < j) = false := by simp; omega
      have d3 : decide ((n : Int) - j < 2) = false := by simp; omega
      go_enter Try.func118, Try.ntmps118
      go_wp2
      go_loop [8, 10, 38] (fun v _ k => ∃ kk : Nat, kk ≤ 2 ∧ k = .int .i64 kk ∧ v = .int .u32 (be ((l.drop j).take kk))) (fun _ _ k => 2 - (intOf k).toNat)
      case atStart => exact ⟨0, by omega, rfl, by simp [be]⟩
      case round =>
        obtain ⟨k, hk, rfl, rfl⟩ := hrel
        by_cases hlt : k < 2
        · have hc2 := hcell (j + k) (by omega)
          rw [← Nat.add_assoc] at hc2
          have HB : Hid (be ((l.drop j).take k) < 16777216) := Nat.lt_of_lt_of_le (be_take_lt (l.drop j) k) (Nat.le_trans (Nat.pow_le_pow_right (by omega) (show k ≤ 3 by omega)) (by decide))
          clear hcell
          go_wp2
          go_round
          case rel =>
            refine ⟨k + 1, by omega, by go_num, ?_⟩
            rw [HT.out k hlt]
            have e := or_step (be ((l.drop j).take k)) (l.getD (j + k) 0).toNat HB.out (l.getD (j + k) 0).toNat_lt
            simp only [List.getD_eq_getElem?_getD] at e ⊢
            rw [e]
            go_num
          case measure => simp [intOf]; omega
        · obtain rfl : k = 2 := by omega
          clear hcell
          go_wp2
          go_quiet (fail)
          go_wp2
          go_ret3
          exact Num3.mk rfl rfl rfl (((Kp.refl _ _).alloc _).drewN _)

set_option maxHeartbeats 400000 in
theorem get3_any (A : Option Addr) (n c : Nat) (i : Int) (l : List UInt8) (w : World) (hn : n ≤ 140737488355328) (hr : Rd w A n c l) :
    Calls Try.prog 122 #[.slice A n c, .int .i64 i] w (Num3 .u32 (num 3 l i).1 (num 3 l i).2.1 (num 3 l i).2.2 w) := by
  have hlen := hr.len
  by_cases ha : i < 0 ∨ (l.length : Int) < i
  · rw [num_arg ha]
    rw [hlen] at ha
    clear hlen hr
    rcases ha with h | h
    · go_enter Try.func122, Try.ntmps122
      go_wp2
      go_ret3
      exact ⟨rfl, (Kp.refl _ _).alloc _⟩
    · have h' : ¬ i < 0 := by omega
      go_enter Try.func122, Try.ntmps122
      go_wp2
      go_ret3
      exact ⟨rfl, (Kp.refl _ _).alloc _⟩
  · by_cases hs : (l.length : Int) - i < 3
    · rw [num_short (by omega) (by omega) hs]
      have h0 : 0 ≤ i := by omega
      have h1 : i ≤ n := by omega
      have h2 : (n : Int) - i < 3 := by omega
      have HL := Lib.hid hlen
      clear hlen hr ha hs
      go_enter Try.func122, Try.ntmps122
      go_wp2
      go_ret3
      exact Num3.mk rfl (by rw [HL.out]) rfl ((Kp.refl _ _).alloc _)
    · obtain ⟨j, rfl⟩ := Int.eq_ofNat_of_zero_le (show 0 ≤ i by omega)
      have hj : j + 3 ≤ n := by omega
      obtain ⟨b, off, rfl, hb, hcell⟩ := hr.addr (by omega)
      have hcap := hr.cap
      rw [num_ok (by omega)]
      have HT : Hid (∀ k, k < 3 → be ((l.drop j).take (k + 1)) = be ((l.drop j).take k) * 256 + (l.getD (j + k) 0).toNat) := by
        intro k hk
        rw [be_take_succ _ _ (by simp; omega)]
        simp [List.getD_eq_getElem?_getD]
      clear hlen hr ha hs
      have d1 : decide ((j : Int) < 0) = false := by simp
      have d2 : decide (n < j) = false := by simp; omega
      have d3 : decide ((n : Int) - j < 3) = false := by simp; omega
      go_enter Try.func122, Try.ntmps122
      go_wp2
      go_loop [8, 10, 38] (fun v _ k => ∃ kk : Nat, kk ≤ 3 ∧ k = .int .i64 kk ∧ v = .int .u32 (be ((l.drop j).take kk))) (fun _ _ k => 3 - (intOf k).toNat)
      case atStart => exact ⟨0, by omega, rfl, by simp [be]⟩
      case round =>
        obtain ⟨k, hk, rfl, rfl⟩ := hrel
        by_cases hlt : k < 3
        · have hc2 := hcell (j + k) (by omega)
          rw [← Nat.add_assoc] at hc2
          have HB : Hid (be ((l.drop j).take k) < 16777216) := Nat.lt_of_lt_of_le (be_take_lt (l.drop j) k) (Nat.le_trans (Nat.pow_le_pow_right (by omega) (show k ≤ 3 by omega)) (by decide))
          clear hcell
          go_wp2
          go_round
          case rel =>
            refine ⟨k + 1, by omega, by go_num, ?_⟩
            rw [HT.out k hlt]
            have e := or_step (be ((l.drop j).take k)) (l.getD (j + k) 0).toNat HB.out (l.getD (j + k) 0).toNat_lt
            simp only [List.getD_eq_getElem?_getD] at e ⊢
            rw [e]
            go_num
          case measure => simp [intOf]; omega
        · obtain rfl : k = 3 := by omega
          clear hcell
          go_wp2
          go_quiet (fail)
          go_wp2
          go_ret3
          exact Num3.mk rfl rfl rfl (((Kp.refl _ _).alloc _).drewN _)

set_option maxHeartbeats 400000 in
theorem get4_any (A : Option Addr) (n c : Nat) (i : Int) (l : List UInt8) (w : World) (hn : n ≤ 140737488355328) (hr : Rd w A n c l) :
    Calls Try.prog 115 #[.slice A n c, .int .i64 i] w (Num3 .u32 (num 4 l i).1 (num 4 l i).2.1 (num 4 l i).2.2 w) := by
  have hlen := hr.len
  by_cases ha : i < 0 ∨ (l.length : Int) < i
  · rw [num_arg ha]
    rw [hlen] at ha
    clear hlen hr
    rcases ha with h | h
    · go_enter Try.func115, Try.ntmps115
      go_wp2
      go_ret3
      exact ⟨rfl, (Kp.refl _ _).alloc _⟩
    · have h' : ¬ i < 0 := by omega
      go_enter Try.func115, Try.ntmps115
      go_wp2
      go_ret3
      exact ⟨rfl, (Kp.refl _ _).alloc _⟩
  · by_cases hs : (l.length : Int) - i < 4
    · rw [num_short (by omega) (by omega) hs]
      have h0 : 0 ≤ i := by omega
      have h1 : i ≤ n := by omega
      have h2 : (n : Int) - i < 4 := by omega
      have HL := Lib.hid hlen
      clear hlen hr ha hs
      go_enter Try.func115, Try.ntmps115
      go_wp2
      go_ret3
      exact Num3.mk rfl (by rw [HL.out]) rfl ((Kp.refl _ _).alloc _)
    · obtain ⟨j, rfl⟩ := Int.eq_ofNat_of_zero_le (show 0 ≤ i by omega)
      have hj : j + 4 ≤ n := by omega
      obtain ⟨b, off, rfl, hb, hcell⟩ := hr.addr (by omega)
      have hcap := hr.cap
      rw [num_ok (by omega)]
      have HT : Hid (∀ k, k < 4 → be ((l.drop j).take (k + 1)) = be ((l.drop j).take k) * 256 + (l.getD (j + k) 0).toNat) := by
        intro k hk
        rw [be_take_succ _ _ (by simp; omega)]
        simp [List.getD_eq_getElem?_getD]
      clear hlen hr ha hs
      have d1 : decide ((j : Int) < 0) = false := by simp
      have d2 : decide (n < j) = false := by simp; omega
      have d3 : decide ((n : Int) - j < 4) = false := by simp; omega
      go_enter Try.func115, Try.ntmps115
      go_wp2
      go_loop [8, 10, 38] (fun v _ k => ∃ kk : Nat, kk ≤ 4 ∧ k = .int .i64 kk ∧ v = .int .u32 (be ((l.drop j).take kk))) (fun _ _ k => 4 - (intOf k).toNat)
      case atStart => exact ⟨0, by omega, rfl, by simp [be]⟩
      case round =>
        obtain ⟨k, hk, rfl, rfl⟩ := hrel
        by_cases hlt : k < 4
        · have hc2 := hcell (j + k) (by omega)
          rw [← Nat.add_assoc] at hc2
          have HB : Hid (be ((l.drop j).take k) < 16777216) := Nat.lt_of_lt_of_le (be_take_lt (l.drop j) k) (Nat.le_trans (Nat.pow_le_pow_right (by omega) (show k ≤ 3 by omega)) (by decide))
          clear hcell
          go_wp2
          go_round
          case rel =>
            refine ⟨k + 1, by omega, by go_num, ?_⟩
            rw [HT.out k hlt]
            have e := or_step (be ((l.drop j).take k)) (l.getD (j + k) 0).toNat HB.out (l.getD (j + k) 0).toNat_lt
            simp only [List.getD_eq_getElem?_getD] at e ⊢
            rw [e]
            go_num
          case measure => simp [intOf]; omega
        · obtain rfl : k = 4 := by omega
          clear hcell
          go_wp2
          go_quiet (fail)
          go_wp2
          go_ret3
          exact Num3.mk rfl rfl rfl (((Kp.refl _ _).alloc _).drewN _)

theorem andNot31 (x : Nat) (hx : x < 4294967296) : bits .andNot .u32 (x : Int) 2147483648 = ((x % 2147483648 : Nat) : Int) := by
  have e : bits .andNot .u32 (x : Int) 2147483648 = bits .and .u32 (x : Int) 2147483647 := by
    unfold bits
    have : ~~~(BitVec.ofInt IntKind.u32.bits 2147483648) = BitVec.ofInt IntKind.u32.bits 2147483647 := by decide
    simp only [this]
  have e3 : (2 : Int) ^ 32 = 4294967296 := by decide
  have e4 : (2 : Int) ^ 31 = 2147483648 := by decide
  have h := bits_mask .u32 32 (by decide) wraps_u32 31 (by decide) (x : Int)
  rw [e3, e4] at h
  rw [e]
  have h2 := h (by omega) (by omega)
  rw [show (2147483648 : Int) - 1 = 2147483647 from rfl] at h2
  rw [h2]
  omega
theorem pow2 : (256 : Nat) ^ 2 = 65536 := by decide
theorem pow3 : (256 : Nat) ^ 3 = 16777216 := by decide
theorem pow4 : (256 : Nat) ^ 4 = 4294967296 := by decide

set_option maxHeartbeats 400000 in
theorem U16_any (A : Option Addr) (n c : Nat) (i : Int) (l : List UInt8) (w : World) (hn : n ≤ 140737488355328) (hr : Rd w A n c l) :
    Calls Try.prog 39 #[.slice A n c, .int .i64 i] w (Num3 .i64 (num 2 l i).1 (num 2 l i).2.1 (num 2 l i).2.2 w) := by
  have hb : (num 2 l i).1 < 65536 := Nat.lt_of_lt_of_eq (num_lt 2 l i) pow2
  go_enter Try.func39, Try.ntmps39
  go_wp2_with (go_at_call 118; refine (get2_any _ _ _ _ _ _ hn hr).mono ?_; rintro e w' ⟨rfl, hk⟩)
  go_ret3
  exact ⟨rfl, hk⟩

set_option maxHeartbeats 400000 in
theorem U24_any (A : Option Addr) (n c : Nat) (i : Int) (l : List UInt8) (w : World) (hn : n ≤ 140737488355328) (hr : Rd w A n c l) :
    Calls Try.prog 47 #[.slice A n c, .int .i64 i] w (Num3 .i64 (num 3 l i).1 (num 3 l i).2.1 (num 3 l i).2.2 w) := by
  have hb : (num 3 l i).1 < 16777216 := Nat.lt_of_lt_of_eq (num_lt 3 l i) pow3
  go_enter Try.func47, Try.ntmps47
  go_wp2_with (go_at_call 122; refine (get3_any _ _ _ _ _ _ hn hr).mono ?_; rintro e w' ⟨rfl, hk⟩)
  go_ret3
  exact ⟨rfl, hk⟩

set_option maxHeartbeats 400000 in
theorem U32_any (A : Option Addr) (n c : Nat) (i : Int) (l : List UInt8) (w : World) (hn : n ≤ 140737488355328) (hr : Rd w A n c l) :
    Calls Try.prog 34 #[.slice A n c, .int .i64 i] w (Num3 .u32 (num 4 l i).1 (num 4 l i).2.1 (num 4 l i).2.2 w) := by
  have hb : (num 4 l i).1 < 4294967296 := Nat.lt_of_lt_of_eq (num_lt 4 l i) pow4
  go_enter Try.func34, Try.ntmps34
  go_wp2_with (go_at_call 115; refine (get4_any _ _ _ _ _ _ hn hr).mono ?_; rintro e w' ⟨rfl, hk⟩)
  go_ret3
  exact ⟨rfl, hk⟩

set_option maxHeartbeats 400000 in
theorem U31_any (A : Option Addr) (n c : Nat) (i : Int) (l : List UInt8) (w : World) (hn : n ≤ 140737488355328) (hr : Rd w A n c l) :
    Calls Try.prog 51 #[.slice A n c, .int .i64 i] w (Num3 .i64 ((num 4 l i).1 % 2147483648 : Nat) (num 4 l i).2.1 (num 4 l i).2.2 w) := by
  have hb : (num 4 l i).1 < 4294967296 := Nat.lt_of_lt_of_eq (num_lt 4 l i) pow4
  have HA := Lib.hid (andNot31 _ hb)
  go_enter Try.func51, Try.ntmps51
  go_wp2_with (go_at_call 115; refine (get4_any _ _ _ _ _ _ hn hr).mono ?_; rintro e w' ⟨rfl, hk⟩)
  go_ret3
  refine Num3.mk ?_ rfl rfl hk
  rw [HA.out]
  unfold wrap64
  omega

/-! ### the program's puts -/
set_option maxHeartbeats 400000 in
theorem Put32_any (n : Nat) (w : World) (hn : n < 4294967296) : Calls Try.prog 36 #[.int .u32 n] w (RdR (bytesOf n 4) w) := by
  go_enter Try.func36, Try.ntmps36
  go_wp2
  go_ret
  refine ⟨_, _, rfl, Rd.block (heap_alloc_new w _) 0 4 4 _ (bytesOf_length _ _) (by omega) ?_, ?_, (Kp.refl _ _).alloc _⟩
  · rw [bytesOf_four]
    simp [u8]
    omega
  · intro b hb
    simp [ob] at hb
    omega
theorem shr16 (n : Nat) : (n : Int) / 65536 = ((n / 65536 : Nat) : Int) := by omega

set_option maxHeartbeats 400000 in
theorem put2_any (n : Int) (w : World) (hw : -9223372036854775808 ≤ n ∧ n ≤ 9223372036854775807) : Calls Try.prog 119 #[.int .i64 n, .int .i64 2, .int .i64 16] w (RdE (putR n 2 65536).1 (putR n 2 65536).2 w) := by
  by_cases h : n < 0 ∨ 65536 ≤ n
  · rw [putR_no h]
    rcases h with h | h
    · go_enter Try.func119, Try.ntmps119
      go_wp2_with fail
      go_ret2
      exact ⟨_, _, rfl, Rd.nil _ _ _, by simp [ob], Kp.refl _ _⟩
    · have h0 : ¬ n < 0 := by omega
      have h1 : (n / 65536 != 0) = true := by simp; omega
      have h2 : ¬ n / 65536 = 0 := by omega
      go_enter Try.func119, Try.ntmps119
      go_wp2_with fail
      go_ret2
      exact ⟨_, _, rfl, Rd.nil _ _ _, by simp [ob], Kp.refl _ _⟩
  · obtain ⟨m, rfl⟩ := Int.eq_ofNat_of_zero_le (show 0 ≤ n by omega)
    have hm : m < 65536 := by omega
    rw [putR_yes (by omega)]
    have h0 : ¬ (m : Int) < 0 := by omega
    have h1 : ((m : Int) / 65536 != 0) = false := by simp; omega
    have h2 : (m : Int) / 65536 = 0 := by omega
    have H2 := Lib.hid h2
    clear h h2 hw
    go_enter Try.func119, Try.ntmps119
    go_wp2_with fail
    refine (Put32_any m w (by omega)).mono ?_
    rintro e w' ⟨A, n', rfl, hr, hf, hk⟩
    obtain rfl : n' = 4 := by rw [← hr.len, bytesOf_length]
    obtain ⟨b, off, rfl, hb, hc⟩ := hr.addr (by omega)
    clear hc
    have HR := Lib.hid hr
    have HF := Lib.hid hf
    clear hr hf
    go_wp2
    go_ret2
    have hs := HR.out.sub (4 - 2) 4 (by omega) (by omega) (A' := some ⟨b, off + (4 - 2), none⟩) (by intro b' off' he _; simp at he; obtain ⟨rfl, rfl⟩ := he; rfl)
    rw [show (bytesOf m 4).drop (4 - 2) = bytesOf m 2 from bytesOf_drop m 2 (4 - 2), List.take_of_length_le (by rw [bytesOf_length]; omega)] at hs
    exact ⟨_, _, rfl, hs, HF.out, hk⟩

set_option maxHeartbeats 400000 in
theorem put3_any (n : Int) (w : World) (hw : -9223372036854775808 ≤ n ∧ n ≤ 9223372036854775807) : Calls Try.prog 119 #[.int .i64 n, .int .i64 3, .int .i64 24] w (RdE (putR n 3 16777216).1 (putR n 3 16777216).2 w) := by
  by_cases h : n < 0 ∨ 16777216 ≤ n
  · rw [putR_no h]
    rcases h with h | h
    · go_enter Try.func119, Try.ntmps119
      go_wp2_with fail
      go_ret2
      exact ⟨_, _, rfl, Rd.nil _ _ _, by simp [ob], Kp.refl _ _⟩
    · have h0 : ¬ n < 0 := by omega
      have h1 : (n / 16777216 != 0) = true := by simp; omega
      have h2 : ¬ n / 16777216 = 0 := by omega
      go_enter Try.func119, Try.ntmps119
      go_wp2_with fail
      go_ret2
      exact ⟨_, _, rfl, Rd.nil _ _ _, by simp [ob], Kp.refl _ _⟩
  · obtain ⟨m, rfl⟩ := Int.eq_ofNat_of_zero_le (show 0 ≤ n by omega)
    have hm : m < 16777216 := by omega
    rw [putR_yes (by omega)]
    have h0 : ¬ (m : Int) < 0 := by omega
    have h1 : ((m : Int) / 16777216 != 0) = false := by simp; omega
    have h2 : (m : Int) / 16777216 = 0 := by omega
    have H2 := Lib.hid h2
    clear h h2 hw
    go_enter Try.func119, Try.ntmps119
    go_wp2_with fail
    refine (Put32_any m w (by omega)).mono ?_
    rintro e w' ⟨A, n', rfl, hr, hf, hk⟩
    obtain rfl : n' = 4 := by rw [← hr.len, bytesOf_length]
    obtain ⟨b, off, rfl, hb, hc⟩ := hr.addr (by omega)
    clear hc
    have HR := Lib.hid hr
    have HF := Lib.hid hf
    clear hr hf
    go_wp2
    go_ret2
    have hs := HR.out.sub (4 - 3) 4 (by omega) (by omega) (A' := some ⟨b, off + (4 - 3), none⟩) (by intro b' off' he _; simp at he; obtain ⟨rfl, rfl⟩ := he; rfl)
    rw [show (bytesOf m 4).drop (4 - 3) = bytesOf m 3 from bytesOf_drop m 3 (4 - 3), List.take_of_length_le (by rw [bytesOf_length]; omega)] at hs
    exact ⟨_, _, rfl, hs, HF.out, hk⟩

set_option maxHeartbeats 400000 in
theorem put4_any (n : Int) (w : World) (hw : -9223372036854775808 ≤ n ∧ n ≤ 9223372036854775807) : Calls Try.prog 119 #[.int .i64 n, .int .i64 4, .int .i64 31] w (RdE (putR n 4 2147483648).1 (putR n 4 2147483648).2 w) := by
  by_cases h : n < 0 ∨ 2147483648 ≤ n
  · rw [putR_no h]
    rcases h with h | h
    · go_enter Try.func119, Try.ntmps119
      go_wp2_with fail
      go_ret2
      exact ⟨_, _, rfl, Rd.nil _ _ _, by simp [ob], Kp.refl _ _⟩
    · have h0 : ¬ n < 0 := by omega
      have h1 : (n / 2147483648 != 0) = true := by simp; omega
      have h2 : ¬ n / 2147483648 = 0 := by omega
      go_enter Try.func119, Try.ntmps119
      go_wp2_with fail
      go_ret2
      exact ⟨_, _, rfl, Rd.nil _ _ _, by simp [ob], Kp.refl _ _⟩
  · obtain ⟨m, rfl⟩ := Int.eq_ofNat_of_zero_le (show 0 ≤ n by omega)
    have hm : m < 2147483648 := by omega
    rw [putR_yes (by omega)]
    have h0 : ¬ (m : Int) < 0 := by omega
    have h1 : ((m : Int) / 2147483648 != 0) = false := by simp; omega
    have h2 : (m : Int) / 2147483648 = 0 := by omega
    have H2 := Lib.hid h2
    clear h h2 hw
    go_enter Try.func119, Try.ntmps119
    go_wp2_with fail
    refine (Put32_any m w (by omega)).mono ?_
    rintro e w' ⟨A, n', rfl, hr, hf, hk⟩
    obtain rfl : n' = 4 := by rw [← hr.len, bytesOf_length]
    obtain ⟨b, off, rfl, hb, hc⟩ := hr.addr (by omega)
    clear hc
    have HR := Lib.hid hr
    have HF := Lib.hid hf
    clear hr hf
    go_wp2
    go_ret2
    have hs := HR.out.sub (4 - 4) 4 (by omega) (by omega) (A' := some ⟨b, off + (4 - 4), none⟩) (by intro b' off' he _; simp at he; obtain ⟨rfl, rfl⟩ := he; rfl)
    rw [show (bytesOf m 4).drop (4 - 4) = bytesOf m 4 from bytesOf_drop m 4 (4 - 4), List.take_of_length_le (by rw [bytesOf_length]; omega)] at hs
    exact ⟨_, _, rfl, hs, HF.out, hk⟩

set_option maxHeartbeats 400000 in
theorem Put16_any (n : Int) (w : World) (hw : -9223372036854775808 ≤ n ∧ n ≤ 9223372036854775807) : Calls Try.prog 41 #[.int .i64 n] w (RdE (putR n 2 65536).1 (putR n 2 65536).2 w) := by
  go_enter Try.func41, Try.ntmps41
  go_wp2_with fail
  refine (put2_any n w hw).mono ?_
  rintro e w' ⟨A, n', rfl, hr, hf, hk⟩
  have HR := Lib.hid hr
  have HF := Lib.hid hf
  clear hr hf
  go_wp2
  go_ret2
  exact ⟨_, _, rfl, HR.out, HF.out, hk⟩

set_option maxHeartbeats 400000 in
theorem Put24_any (n : Int) (w : World) (hw : -9223372036854775808 ≤ n ∧ n ≤ 9223372036854775807) : Calls Try.prog 49 #[.int .i64 n] w (RdE (putR n 3 16777216).1 (putR n 3 16777216).2 w) := by
  go_enter Try.func49, Try.ntmps49
  go_wp2_with fail
  refine (put3_any n w hw).mono ?_
  rintro e w' ⟨A, n', rfl, hr, hf, hk⟩
  have HR := Lib.hid hr
  have HF := Lib.hid hf
  clear hr hf
  go_wp2
  go_ret2
  exact ⟨_, _, rfl, HR.out, HF.out, hk⟩

set_option maxHeartbeats 400000 in
theorem Put31_any (n : Int) (w : World) (hw : -9223372036854775808 ≤ n ∧ n ≤ 9223372036854775807) : Calls Try.prog 53 #[.int .i64 n] w (RdE (putR n 4 2147483648).1 (putR n 4 2147483648).2 w) := by
  go_enter Try.func53, Try.ntmps53
  go_wp2_with fail
  refine (put4_any n w hw).mono ?_
  rintro e w' ⟨A, n', rfl, hr, hf, hk⟩
  have HR := Lib.hid hr
  have HF := Lib.hid hf
  clear hr hf
  go_wp2
  go_ret2
  exact ⟨_, _, rfl, HR.out, HF.out, hk⟩
end Go.Proofs.Ytkmcakneceagpaa
