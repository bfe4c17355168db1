/- The contracts of the reference's layer 2: the same plain functions 'num', 'putR', 'bytesOf'. -/
import Derived.Test.YtkmcakneceagpaaField
set_option linter.unusedVariables false
namespace Go.Proofs.Ytkmcakneceagpaa
open Go.RowKit

set_option maxHeartbeats 400000 in
theorem number2_any (A : Option Addr) (n c : Nat) (i : Int) (l : List UInt8) (w : World) (hn : n ≤ 140737488355328) (hr : Rd w A n c l) :
    Calls Try.prog 116 #[.slice A n c, .int .i64 i, .int .i64 2] w (Num3 .u64 (num 2 l i).1 (num 2 l i).2.1 (num 2 l i).2.2 w) := by
  have hlen := hr.len
  by_cases ha : i < 0 ∨ (l.length : Int) < i
  · rw [num_arg ha]
    rw [hlen] at ha
    clear hlen hr
    rcases ha with h | h
    · go_enter Try.func116, Try.ntmps116
      go_wp2
      go_ret3
      exact ⟨rfl, Kp.refl _ _⟩
    · have h' : ¬ i < 0 := by omega
      go_enter Try.func116, Try.ntmps116
      go_wp2
      go_ret3
      exact ⟨rfl, Kp.refl _ _⟩
  · by_cases hs : (l.length : Int) - i < 2
    · rw [num_short (by omega) (by omega) hs]
      have h0 : 0 ≤ i := by omega
      have h1 : i ≤ n := by omega
      have h2 : (n : Int) - i < 2 := by omega
      have HL := Lib.hid hlen
      clear hlen hr ha hs
      go_enter Try.func116, Try.ntmps116
      go_wp2
      go_ret3
      exact Num3.mk rfl (by rw [HL.out]) rfl (Kp.refl _ _)
    · obtain ⟨j, rfl⟩ := Int.eq_ofNat_of_zero_le (show 0 ≤ i by omega)
      have hj : j + 2 ≤ n := by omega
      obtain ⟨b, off, rfl, hb, hcell⟩ := hr.addr (by omega)
      have hcap := hr.cap
      rw [num_ok (by omega)]
      have HT : Hid (∀ k, k < 2 → be ((l.drop j).take (k + 1)) = be ((l.drop j).take k) * 256 + (l.getD (j + k) 0).toNat) := by
        intro k hk
        rw [be_take_succ _ _ (by simp; omega)]
        simp [List.getD_eq_getElem?_getD]
      clear hlen hr ha hs
      have d1 : decide ((j : Int) < 0) = false := by simp
      have d2 : decide (n < j) = false := by simp; omega
      have d3 : decide ((n : Int) - j < 2) = false := by simp; omega
      go_enter Try.func116, Try.ntmps116
      go_wp2
      go_loop [9, 10] (fun v k => ∃ kk : Nat, kk ≤ 2 ∧ k = .int .i64 kk ∧ v = .int .u64 (be ((l.drop j).take kk))) (fun _ k => 2 - (intOf k).toNat)
      case atStart => exact ⟨0, by omega, rfl, by simp [be]⟩
      case round =>
        obtain ⟨k, hk, rfl, rfl⟩ := hrel
        by_cases hlt : k < 2
        · have hc2 := hcell (j + k) (by omega)
          have HB : be ((l.drop j).take k) < 16777216 := Nat.lt_of_lt_of_le (be_take_lt (l.drop j) k) (Nat.le_trans (Nat.pow_le_pow_right (by omega) (show k ≤ 3 by omega)) (by decide))
          have HC : (l.getD (j + k) 0).toNat < 256 := (l.getD (j + k) 0).toNat_lt
          simp only [List.getD_eq_getElem?_getD] at HC
          clear hcell
          go_wp2
          go_round
          case rel =>
            refine ⟨k + 1, by omega, by go_num, ?_⟩
            rw [HT.out k hlt]
            simp only [List.getD_eq_getElem?_getD]
            go_num
          case measure => simp [intOf]; omega
        · obtain rfl : k = 2 := by omega
          clear hcell
          go_wp2
          go_ret3
          exact Num3.mk rfl rfl rfl (Kp.refl _ _)

set_option maxHeartbeats 400000 in
theorem number3_any (A : Option Addr) (n c : Nat) (i : Int) (l : List UInt8) (w : World) (hn : n ≤ 140737488355328) (hr : Rd w A n c l) :
    Calls Try.prog 116 #[.slice A n c, .int .i64 i, .int .i64 3] w (Num3 .u64 (num 3 l i).1 (num 3 l i).2.1 (num 3 l i).2.2 w) := by
  have hlen := hr.len
  by_cases ha : i < 0 ∨ (l.length : Int) < i
  · rw [num_arg ha]
    rw [hlen] at ha
    clear hlen hr
    rcases ha with h | h
    · go_enter Try.func116, Try.ntmps116
      go_wp2
      go_ret3
      exact ⟨rfl, Kp.refl _ _⟩
    · have h' : ¬ i < 0 := by omega
      go_enter Try.func116, Try.ntmps116
      go_wp2
      go_ret3
      exact ⟨rfl, Kp.refl _ _⟩
  · by_cases hs : (l.length : Int) - i < 3
    · rw [num_short (by omega) (by omega) hs]
      have h0 : 0 ≤ i := by omega
      have h1 : i ≤ n := by omega
      have h2 : (n : Int) - i < 3 := by omega
      have HL := Lib.hid hlen
      clear hlen hr ha hs
      go_enter Try.func116, Try.ntmps116
      go_wp2
      go_ret3
      exact Num3.mk rfl (by rw [HL.out]) rfl (Kp.refl _ _)
    · obtain ⟨j, rfl⟩ := Int.eq_ofNat_of_zero_le (show 0 ≤ i by omega)
      have hj : j + 3 ≤ n := by omega
      obtain ⟨b, off, rfl, hb, hcell⟩ := hr.addr (by omega)
      have hcap := hr.cap
      rw [num_ok (by omega)]
      have HT : Hid (∀ k, k < 3 → be ((l.drop j).take (k + 1)) = be ((l.drop j).take k) * 256 + (l.getD (j + k) 0).toNat) := by
        intro k hk
        rw [be_take_succ _ _ (by simp; omega)]
        simp [List.getD_eq_getElem?_getD]
      clear hlen hr ha hs
      have d1 : decide ((j : Int) < 0) = false := by simp
      have d2 : decide (n < j) = false := by simp; omega
      have d3 : decide ((n : Int) - j < 3) = false := by simp; omega
      go_enter Try.func116, Try.ntmps116
      go_wp2
      go_loop [9, 10] (fun v k => ∃ kk : Nat, kk ≤ 3 ∧ k = .int .i64 kk ∧ v = .int .u64 (be ((l.drop j).take kk))) (fun _ k => 3 - (intOf k).toNat)
      case atStart => exact ⟨0, by omega, rfl, by simp [be]⟩
      case round =>
        obtain ⟨k, hk, rfl, rfl⟩ := hrel
        by_cases hlt : k < 3
        · have hc2 := hcell (j + k) (by omega)
          have HB : be ((l.drop j).take k) < 16777216 := Nat.lt_of_lt_of_le (be_take_lt (l.drop j) k) (Nat.le_trans (Nat.pow_le_pow_right (by omega) (show k ≤ 3 by omega)) (by decide))
          have HC : (l.getD (j + k) 0).toNat < 256 := (l.getD (j + k) 0).toNat_lt
          simp only [List.getD_eq_getElem?_getD] at HC
          clear hcell
          go_wp2
          go_round
          case rel =>
            refine ⟨k + 1, by omega, by go_num, ?_⟩
            rw [HT.out k hlt]
            simp only [List.getD_eq_getElem?_getD]
            go_num
          case measure => simp [intOf]; omega
        · obtain rfl : k = 3 := by omega
          clear hcell
          go_wp2
          go_ret3
          exact Num3.mk rfl rfl rfl (Kp.refl _ _)

set_option maxHeartbeats 400000 in
theorem number4_any (A : Option Addr) (n c : Nat) (i : Int) (l : List UInt8) (w : World) (hn : n ≤ 140737488355328) (hr : Rd w A n c l) :
    Calls Try.prog 116 #[.slice A n c, .int .i64 i, .int .i64 4] w (Num3 .u64 (num 4 l i).1 (num 4 l i).2.1 (num 4 l i).2.2 w) := by
  have hlen := hr.len
  by_cases ha : i < 0 ∨ (l.length : Int) < i
  · rw [num_arg ha]
    rw [hlen] at ha
    clear hlen hr
    rcases ha with h | h
    · go_enter Try.func116, Try.ntmps116
      go_wp2
      go_ret3
      exact ⟨rfl, Kp.refl _ _⟩
    · have h' : ¬ i < 0 := by omega
      go_enter Try.func116, Try.ntmps116
      go_wp2
      go_ret3
      exact ⟨rfl, Kp.refl _ _⟩
  · by_cases hs : (l.length : Int) - i < 4
    · rw [num_short (by omega) (by omega) hs]
      have h0 : 0 ≤ i := by omega
      have h1 : i ≤ n := by omega
      have h2 : (n : Int) - i < 4 := by omega
      have HL := Lib.hid hlen
      clear hlen hr ha hs
      go_enter Try.func116, Try.ntmps116
      go_wp2
      go_ret3
      exact Num3.mk rfl (by rw [HL.out]) rfl (Kp.refl _ _)
    · obtain ⟨j, rfl⟩ := Int.eq_ofNat_of_zero_le (show 0 ≤ i by omega)
      have hj : j + 4 ≤ n := by omega
      obtain ⟨b, off, rfl, hb, hcell⟩ := hr.addr (by omega)
      have hcap := hr.cap
      rw [num_ok (by omega)]
      have HT : Hid (∀ k, k < 4 → be ((l.drop j).take (k + 1)) = be ((l.drop j).take k) * 256 + (l.getD (j + k) 0).toNat) := by
        intro k hk
        rw [be_take_succ _ _ (by simp; omega)]
        simp [List.getD_eq_getElem?_getD]
      clear hlen hr ha hs
      have d1 : decide ((j : Int) < 0) = false := by simp
      have d2 : decide (n < j) = false := by simp; omega
      have d3 : decide ((n : Int) - j < 4) = false := by simp; omega
      go_enter Try.func116, Try.ntmps116
      go_wp2
      go_loop [9, 10] (fun v k => ∃ kk : Nat, kk ≤ 4 ∧ k = .int .i64 kk ∧ v = .int .u64 (be ((l.drop j).take kk))) (fun _ k => 4 - (intOf k).toNat)
      case atStart => exact ⟨0, by omega, rfl, by simp [be]⟩
      case round =>
        obtain ⟨k, hk, rfl, rfl⟩ := hrel
        by_cases hlt : k < 4
        · have hc2 := hcell (j + k) (by omega)
          have HB : be ((l.drop j).take k) < 16777216 := Nat.lt_of_lt_of_le (be_take_lt (l.drop j) k) (Nat.le_trans (Nat.pow_le_pow_right (by omega) (show k ≤ 3 by omega)) (by decide))
          have HC : (l.getD (j + k) 0).toNat < 256 := (l.getD (j + k) 0).toNat_lt
          simp only [List.getD_eq_getElem?_getD] at HC
          clear hcell
          go_wp2
          go_round
          case rel =>
            refine ⟨k + 1, by omega, by go_num, ?_⟩
            rw [HT.out k hlt]
            simp only [List.getD_eq_getElem?_getD]
            go_num
          case measure => simp [intOf]; omega
        · obtain rfl : k = 4 := by omega
          clear hcell
          go_wp2
          go_ret3
          exact Num3.mk rfl rfl rfl (Kp.refl _ _)

set_option maxHeartbeats 400000 in
theorem refU16_any (A : Option Addr) (n c : Nat) (i : Int) (l : List UInt8) (w : World) (hn : n ≤ 140737488355328) (hr : Rd w A n c l) :
    Calls Try.prog 40 #[.slice A n c, .int .i64 i] w (Num3 .i64 (num 2 l i).1 (num 2 l i).2.1 (num 2 l i).2.2 w) := by
  have hb : (num 2 l i).1 < 65536 := Nat.lt_of_lt_of_eq (num_lt 2 l i) pow2
  go_enter Try.func40, Try.ntmps40
  go_wp2_with (go_at_call 116; refine (number2_any _ _ _ _ _ _ hn hr).mono ?_; rintro e w' ⟨rfl, hk⟩)
  go_ret3
  exact Num3.mk (by first | rfl | omega) rfl rfl hk

set_option maxHeartbeats 400000 in
theorem refU24_any (A : Option Addr) (n c : Nat) (i : Int) (l : List UInt8) (w : World) (hn : n ≤ 140737488355328) (hr : Rd w A n c l) :
    Calls Try.prog 48 #[.slice A n c, .int .i64 i] w (Num3 .i64 (num 3 l i).1 (num 3 l i).2.1 (num 3 l i).2.2 w) := by
  have hb : (num 3 l i).1 < 16777216 := Nat.lt_of_lt_of_eq (num_lt 3 l i) pow3
  go_enter Try.func48, Try.ntmps48
  go_wp2_with (go_at_call 116; refine (number3_any _ _ _ _ _ _ hn hr).mono ?_; rintro e w' ⟨rfl, hk⟩)
  go_ret3
  exact Num3.mk (by first | rfl | omega) rfl rfl hk

set_option maxHeartbeats 400000 in
theorem refU32_any (A : Option Addr) (n c : Nat) (i : Int) (l : List UInt8) (w : World) (hn : n ≤ 140737488355328) (hr : Rd w A n c l) :
    Calls Try.prog 35 #[.slice A n c, .int .i64 i] w (Num3 .u32 (num 4 l i).1 (num 4 l i).2.1 (num 4 l i).2.2 w) := by
  have hb : (num 4 l i).1 < 4294967296 := Nat.lt_of_lt_of_eq (num_lt 4 l i) pow4
  go_enter Try.func35, Try.ntmps35
  go_wp2_with (go_at_call 116; refine (number4_any _ _ _ _ _ _ hn hr).mono ?_; rintro e w' ⟨rfl, hk⟩)
  go_ret3
  exact Num3.mk (by first | rfl | omega) rfl rfl hk

set_option maxHeartbeats 400000 in
theorem refU31_any (A : Option Addr) (n c : Nat) (i : Int) (l : List UInt8) (w : World) (hn : n ≤ 140737488355328) (hr : Rd w A n c l) :
    Calls Try.prog 52 #[.slice A n c, .int .i64 i] w (Num3 .i64 ((num 4 l i).1 % 2147483648 : Nat) (num 4 l i).2.1 (num 4 l i).2.2 w) := by
  have hb : (num 4 l i).1 < 4294967296 := Nat.lt_of_lt_of_eq (num_lt 4 l i) pow4
  go_enter Try.func52, Try.ntmps52
  go_wp2_with (go_at_call 116; refine (number4_any _ _ _ _ _ _ hn hr).mono ?_; rintro e w' ⟨rfl, hk⟩)
  go_ret3
  refine Num3.mk ?_ rfl rfl hk
  first | rfl | omega | (unfold wrap64; omega)

/-! ### bytes -/
theorem set_rep (m : Nat) (S : List UInt8) (x : UInt8) : ((List.replicate (m + 1) (0 : UInt8) ++ S).set m x) = List.replicate m 0 ++ (x :: S) := by
  induction m with
  | zero => simp
  | succ m ih => rw [List.replicate_succ, List.cons_append, List.set_cons_succ, ih, List.replicate_succ, List.cons_append]
set_option maxHeartbeats 400000 in
theorem bytes_any (v n : Nat) (w : World) (hn : n ≤ 1000) (hv : v < 18446744073709551616) : Calls Try.prog 117 #[.int .u64 v, .int .i64 n] w (OwR 5 (bytesOf v n) w) := by
  have hmk := run_make_row' (P := Try.prog) 22 5 (.int .u8 0) 1 Try.underlying22 Try.info5 rfl .i64 .i64 n (by omega) (by omega)
  have hm0 : (madeCells #[Value.int .u8 0] n).toList = (List.replicate n (0 : UInt8) ++ []).map u8 := by
    apply List.ext_getElem
    · simp [madeCells]
    · intro i h1 h2
      simp [madeCells, Nat.mod_one, u8]
  have H0 := Lib.hid hm0
  clear hm0
  go_enter Try.func117, Try.ntmps117
  go_wp2
  go_loopw [0, 6] (fun vv i wr => ∃ (m x : Nat) (S : List UInt8) (cs : Array Value), m ≤ n ∧ i = .int .i64 ((m : Int) - 1) ∧ vv = .int .u64 x ∧ x < 18446744073709551616 ∧ Hid (bytesOf v n = bytesOf x m ++ S) ∧ Hid (cs.toList = (List.replicate m 0 ++ S).map u8) ∧ wr = w.alloc (.cells cs 5)) (fun _ i _ => (intOf i + 1).toNat)
  case atStart => exact ⟨n, v, [], _, Nat.le_refl _, rfl, rfl, hv, show _ = _ by simp, H0.out, rfl⟩
  case round =>
    obtain ⟨m, x, S, cs, hm, rfl, rfl, hx, hS, hcs, rfl⟩ := hrel
    by_cases h0 : m = 0
    · subst h0
      go_wp2
      go_ret
      have e1 := hS.out
      simp only [bytesOf, List.nil_append] at e1
      have e2 := hcs.out
      simp only [List.replicate_zero, List.nil_append] at e2
      subst e1
      have hl : (bytesOf v n).length = n := bytesOf_length v n
      have := Ow.new w w.heap.size 5 cs.toList 1 n (Nat.le_refl _) (by rw [e2]; simp [hl]) (by simp only [maxLen]; omega)
      refine ⟨_, _, _, rfl, ?_, (Kp.refl _ _).alloc _⟩
      rw [← e2]
      simpa using this
    · obtain ⟨k, rfl⟩ : ∃ k, m = k + 1 := ⟨m - 1, by omega⟩
      have ek : (((k + 1 : Nat) : Int) - 1) = (k : Int) := by omega
      rw [ek]
      have hlen : k < cs.size := by
        have := congrArg List.length hcs.out
        simp at this
        omega
      have hget : cs[k]? = some cs[k] := Array.getElem?_eq_getElem hlen
      clear ek
      go_wp2
      go_roundw
      case rel =>
        refine ⟨k, x / 256, UInt8.ofNat (x % 256) :: S, cs.setIfInBounds k (u8 (UInt8.ofNat (x % 256))), by omega, by go_num, by go_num, by omega, ?_, ?_, ?_⟩
        · show _ = _
          rw [hS.out, bytesOf]
          simp
        · show _ = _
          rw [Array.toList_setIfInBounds, hcs.out, ← List.map_set, set_rep]
        · simp [u8]
      case measure => simp [intOf]

theorem bytes_lit (v k : Nat) (w : World) (hk : k ≤ 1000) (hv : v < 18446744073709551616) (e : Int) (he : e = (k : Int)) : Calls Try.prog 117 #[.int .u64 v, .int .i64 e] w (OwR 5 (bytesOf v k) w) := by
  subst he
  exact bytes_any v k w hk hv
set_option maxHeartbeats 400000 in
theorem refPut32_any (n : Nat) (w : World) (hn : n < 4294967296) : Calls Try.prog 37 #[.int .u32 n] w (OwR 5 (bytesOf n 4) w) := by
  go_enter Try.func37, Try.ntmps37
  go_wp2_with fail
  refine (bytes_lit n 4 w (by omega) (by omega) _ rfl).mono ?_
  rintro e w' ⟨A, n', c, rfl, hr, hk⟩
  have HR := Lib.hid hr
  clear hr
  go_wp2
  go_ret
  exact ⟨_, _, _, rfl, HR.out, hk⟩

set_option maxHeartbeats 400000 in
theorem refput2_any (n : Int) (w : World) (hw : -9223372036854775808 ≤ n ∧ n ≤ 9223372036854775807) : Calls Try.prog 120 #[.int .i64 n, .int .i64 2, .int .i64 65536] w (OwE 5 (putR n 2 65536).1 (putR n 2 65536).2 w) := by
  by_cases h : n < 0 ∨ 65536 ≤ n
  · rw [putR_no h]
    rcases h with h | h
    · go_enter Try.func120, Try.ntmps120
      go_wp2_with fail
      go_ret2
      exact ⟨_, _, _, rfl, Ow.nil _ _ _ _, Kp.refl _ _⟩
    · have h0 : ¬ n < 0 := by omega
      go_enter Try.func120, Try.ntmps120
      go_wp2_with fail
      go_ret2
      exact ⟨_, _, _, rfl, Ow.nil _ _ _ _, Kp.refl _ _⟩
  · obtain ⟨m, rfl⟩ := Int.eq_ofNat_of_zero_le (show 0 ≤ n by omega)
    have hm : m < 65536 := by omega
    rw [putR_yes (by omega)]
    have h0 : ¬ (m : Int) < 0 := by omega
    have h1 : ¬ (65536 : Int) ≤ (m : Int) := by omega
    clear h hw
    go_enter Try.func120, Try.ntmps120
    go_wp2_with fail
    refine (bytes_lit m 2 w (by omega) (by omega) _ rfl).mono ?_
    rintro e w' ⟨A, n', c, rfl, hr, hk⟩
    have HR := Lib.hid hr
    clear hr
    go_wp2
    go_ret2
    exact ⟨_, _, _, rfl, HR.out, hk⟩

set_option maxHeartbeats 400000 in
theorem refput3_any (n : Int) (w : World) (hw : -9223372036854775808 ≤ n ∧ n ≤ 9223372036854775807) : Calls Try.prog 120 #[.int .i64 n, .int .i64 3, .int .i64 16777216] w (OwE 5 (putR n 3 16777216).1 (putR n 3 16777216).2 w) := by
  by_cases h : n < 0 ∨ 16777216 ≤ n
  · rw [putR_no h]
    rcases h with h | h
    · go_enter Try.func120, Try.ntmps120
      go_wp2_with fail
      go_ret2
      exact ⟨_, _, _, rfl, Ow.nil _ _ _ _, Kp.refl _ _⟩
    · have h0 : ¬ n < 0 := by omega
      go_enter Try.func120, Try.ntmps120
      go_wp2_with fail
      go_ret2
      exact ⟨_, _, _, rfl, Ow.nil _ _ _ _, Kp.refl _ _⟩
  · obtain ⟨m, rfl⟩ := Int.eq_ofNat_of_zero_le (show 0 ≤ n by omega)
    have hm : m < 16777216 := by omega
    rw [putR_yes (by omega)]
    have h0 : ¬ (m : Int) < 0 := by omega
    have h1 : ¬ (16777216 : Int) ≤ (m : Int) := by omega
    clear h hw
    go_enter Try.func120, Try.ntmps120
    go_wp2_with fail
    refine (bytes_lit m 3 w (by omega) (by omega) _ rfl).mono ?_
    rintro e w' ⟨A, n', c, rfl, hr, hk⟩
    have HR := Lib.hid hr
    clear hr
    go_wp2
    go_ret2
    exact ⟨_, _, _, rfl, HR.out, hk⟩

set_option maxHeartbeats 400000 in
theorem refput4_any (n : Int) (w : World) (hw : -9223372036854775808 ≤ n ∧ n ≤ 9223372036854775807) : Calls Try.prog 120 #[.int .i64 n, .int .i64 4, .int .i64 2147483648] w (OwE 5 (putR n 4 2147483648).1 (putR n 4 2147483648).2 w) := by
  by_cases h : n < 0 ∨ 2147483648 ≤ n
  · rw [putR_no h]
    rcases h with h | h
    · go_enter Try.func120, Try.ntmps120
      go_wp2_with fail
      go_ret2
      exact ⟨_, _, _, rfl, Ow.nil _ _ _ _, Kp.refl _ _⟩
    · have h0 : ¬ n < 0 := by omega
      go_enter Try.func120, Try.ntmps120
      go_wp2_with fail
      go_ret2
      exact ⟨_, _, _, rfl, Ow.nil _ _ _ _, Kp.refl _ _⟩
  · obtain ⟨m, rfl⟩ := Int.eq_ofNat_of_zero_le (show 0 ≤ n by omega)
    have hm : m < 2147483648 := by omega
    rw [putR_yes (by omega)]
    have h0 : ¬ (m : Int) < 0 := by omega
    have h1 : ¬ (2147483648 : Int) ≤ (m : Int) := by omega
    clear h hw
    go_enter Try.func120, Try.ntmps120
    go_wp2_with fail
    refine (bytes_lit m 4 w (by omega) (by omega) _ rfl).mono ?_
    rintro e w' ⟨A, n', c, rfl, hr, hk⟩
    have HR := Lib.hid hr
    clear hr
    go_wp2
    go_ret2
    exact ⟨_, _, _, rfl, HR.out, hk⟩

set_option maxHeartbeats 400000 in
theorem refPut16_any (n : Int) (w : World) (hw : -9223372036854775808 ≤ n ∧ n ≤ 9223372036854775807) : Calls Try.prog 42 #[.int .i64 n] w (OwE 5 (putR n 2 65536).1 (putR n 2 65536).2 w) := by
  go_enter Try.func42, Try.ntmps42
  go_wp2_with fail
  refine (refput2_any n w hw).mono ?_
  rintro e w' ⟨A, n', c, rfl, hr, hk⟩
  have HR := Lib.hid hr
  clear hr
  go_wp2
  go_ret2
  exact ⟨_, _, _, rfl, HR.out, hk⟩

set_option maxHeartbeats 400000 in
theorem refPut24_any (n : Int) (w : World) (hw : -9223372036854775808 ≤ n ∧ n ≤ 9223372036854775807) : Calls Try.prog 50 #[.int .i64 n] w (OwE 5 (putR n 3 16777216).1 (putR n 3 16777216).2 w) := by
  go_enter Try.func50, Try.ntmps50
  go_wp2_with fail
  refine (refput3_any n w hw).mono ?_
  rintro e w' ⟨A, n', c, rfl, hr, hk⟩
  have HR := Lib.hid hr
  clear hr
  go_wp2
  go_ret2
  exact ⟨_, _, _, rfl, HR.out, hk⟩

set_option maxHeartbeats 400000 in
theorem refPut31_any (n : Int) (w : World) (hw : -9223372036854775808 ≤ n ∧ n ≤ 9223372036854775807) : Calls Try.prog 54 #[.int .i64 n] w (OwE 5 (putR n 4 2147483648).1 (putR n 4 2147483648).2 w) := by
  go_enter Try.func54, Try.ntmps54
  go_wp2_with fail
  refine (refput4_any n w hw).mono ?_
  rintro e w' ⟨A, n', c, rfl, hr, hk⟩
  have HR := Lib.hid hr
  clear hr
  go_wp2
  go_ret2
  exact ⟨_, _, _, rfl, HR.out, hk⟩
end Go.Proofs.Ytkmcakneceagpaa
