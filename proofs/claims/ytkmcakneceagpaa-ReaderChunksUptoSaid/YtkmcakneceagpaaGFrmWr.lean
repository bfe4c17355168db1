/- frame.Write, walked, type by type. The contracts of the reference's layer 2: the same plain functions 'num', 'putR', 'bytesOf'. A frame's head and the known types, by the reference. The reference of layer 7: its small functions. -/
import Derived.Test.YtkmcakneceagpaaGReg
import Derived.Test.YtkmcakneceagpaaGMem
set_option linter.unusedSimpArgs false
set_option linter.unusedVariables false
namespace Go.Proofs.Ytkmcakneceagpaa
open Go.RowKit

theorem cells12 {w : World} {g : Nat} {a0 a1 a2 a3 a4 a5 a6 a7 a8 a9 a10 a11 : Value} {t : TypeId} (h : w.heap[g]? = some (.cells #[a0, a1, a2, a3, a4, a5, a6, a7, a8, a9, a10, a11] t)) : w.cell? ⟨g, 0, none⟩ = some a0 ∧ w.cell? ⟨g, 1, none⟩ = some a1 ∧ w.cell? ⟨g, 2, none⟩ = some a2 ∧ w.cell? ⟨g, 3, none⟩ = some a3 ∧ w.cell? ⟨g, 4, none⟩ = some a4 ∧ w.cell? ⟨g, 5, none⟩ = some a5 ∧ w.cell? ⟨g, 6, none⟩ = some a6 ∧ w.cell? ⟨g, 7, none⟩ = some a7 ∧ w.cell? ⟨g, 8, none⟩ = some a8 ∧ w.cell? ⟨g, 9, none⟩ = some a9 ∧ w.cell? ⟨g, 10, none⟩ = some a10 ∧ w.cell? ⟨g, 11, none⟩ = some a11 ∧ g < w.heap.size ∧ g < w.heap.size + 1 :=
  ⟨cell_of h 0, cell_of h 1, cell_of h 2, cell_of h 3, cell_of h 4, cell_of h 5, cell_of h 6, cell_of h 7, cell_of h 8, cell_of h 9, cell_of h 10, cell_of h 11, lt_of_heap h, Nat.lt_succ_of_lt (lt_of_heap h)⟩
theorem cells7 {w : World} {g : Nat} {a0 a1 a2 a3 a4 a5 a6 : Value} {t : TypeId} (h : w.heap[g]? = some (.cells #[a0, a1, a2, a3, a4, a5, a6] t)) : w.cell? ⟨g, 0, none⟩ = some a0 ∧ w.cell? ⟨g, 1, none⟩ = some a1 ∧ w.cell? ⟨g, 2, none⟩ = some a2 ∧ w.cell? ⟨g, 3, none⟩ = some a3 ∧ w.cell? ⟨g, 4, none⟩ = some a4 ∧ w.cell? ⟨g, 5, none⟩ = some a5 ∧ w.cell? ⟨g, 6, none⟩ = some a6 ∧ g < w.heap.size ∧ g < w.heap.size + 1 :=
  ⟨cell_of h 0, cell_of h 1, cell_of h 2, cell_of h 3, cell_of h 4, cell_of h 5, cell_of h 6, lt_of_heap h, Nat.lt_succ_of_lt (lt_of_heap h)⟩
/-- what Write asks of the frame's memory -/
structure WrOk (w : World) (f : Fr) (l : List UInt8) (ss : List (Int × Int)) : Prop where
  rd : Rd w f.pA f.pn f.pc l
  pn : f.pn ≤ 140737488351232
  code : U32 f.code
  sd : Sd w f.sA f.sn f.sc ss
  sn : f.sn * 16 ≤ 140737488351232
theorem FrOk.wr {w : World} {f : Fr} {l : List UInt8} {ss : List (Int × Int)} (h : FrOk w f l ss) : WrOk w f l ss := ⟨h.rd, h.pn, h.code, h.sd, h.sn⟩

end Go.Proofs.Ytkmcakneceagpaa

namespace Go.Proofs.Ytkmcakneceagpaa
open Go.RowKit

set_option maxHeartbeats 400000 in
theorem number2_any (A : Option Addr) (n c : Nat) (i : Int) (l : List UInt8) (w : World) (hn : n ≤ 140737488355328) (hr : Rd w A n c l) :
    Calls Try.prog 116 #[.slice A n c, .int .i64 i, .int .i64 2] w (Num3 .u64 (num 2 l i).1 (num 2 l i).2.1 (num 2 l i).2.2 w) := by
  have hlen := hr.len
  by_cases ha : i < 0 ∨ (l.length : Int) < i
  · rw [num_arg ha]
    rw [hlen] at ha
    clear hlen hr
    rcases ha with h | h
    · go_enter Try.func116, Try.ntmps116
      go_wp2
      go_ret3
      exact ⟨rfl, Kp.refl _ _⟩
    · have h' : ¬ i < 0 := by omega
      go_enter Try.func116, Try.ntmps116
      go_wp2
      go_ret3
      exact ⟨rfl, Kp.refl _ _⟩
  · by_cases hs : (l.length : Int) - i < 2
    · rw [num_short (by omega) (by omega) hs]
      have h0 : 0 ≤ i := by omega
      have h1 : i ≤ n := by omega
      have h2 : (n : Int) - i < 2 := by omega
      have HL := Lib.hid hlen
      clear hlen hr ha hs
      go_enter Try.func116, Try.ntmps116
      go_wp2
      go_ret3
      exact Num3.mk rfl (by rw [HL.out]) rfl (Kp.refl _ _)
    · obtain ⟨j, rfl⟩ := Int.eq_ofNat_of_zero_le (show 0 ≤ i by omega)
      have hj : j + 2 ≤ n := by omega
      obtain ⟨b, off, rfl, hb, hcell⟩ := hr.addr (by omega)
      have hcap := hr.cap
      rw [num_ok (by omega)]
      have HT : Hid (∀ k, k < 2 → be ((l.drop j).take (k + 1)) = be ((l.drop j).take k) * 256 + (l.getD (j + k) 0).toNat) := by
        intro k hk
        rw [be_take_succ _ _ (by simp; omega)]
        simp [List.getD_eq_getElem?_getD]
      clear hlen hr ha hs
      have d1 : decide ((j : Int) < 0) = false := by simp
      have d2 : decide (n < j) = false := by simp; omega
      have d3 : decide ((n : Int) - j < 2) = false := by simp; omega
      go_enter Try.func116, Try.ntmps116
      go_wp2
      go_loop [9, 10] (fun v k => ∃ kk : Nat, kk ≤ 2 ∧ k = .int .i64 kk ∧ v = .int .u64 (be ((l.drop j).take kk))) (fun _ k => 2 - (intOf k).toNat)
      case atStart => exact ⟨0, by omega, rfl, by simp [be]⟩
      case round =>
        obtain ⟨k, hk, rfl, rfl⟩ := hrel
        by_cases hlt : k < 2
        · have hc2 := hcell (j + k) (by omega)
          have HB : be ((l.drop j).take k) < 16777216 := Nat.lt_of_lt_of_le (be_take_lt (l.drop j) k) (Nat.le_trans (Nat.pow_le_pow_right (by omega) (show k ≤ 3 by omega)) (by decide))
          have HC : (l.getD (j + k) 0).toNat < 256 := (l.getD (j + k) 0).toNat_lt
          simp only [List.getD_eq_getElem?_getD] at HC
          clear hcell
          go_wp2
          go_round
          case rel =>
            refine ⟨k + 1, by omega, by go_num, ?_⟩
            rw [HT.out k hlt]
            simp only [List.getD_eq_getElem?_getD]
            go_num
          case measure => simp [intOf]; omega
        · obtain rfl : k = 2 := by omega
          clear hcell
          go_wp2
          go_ret3
          exact Num3.mk rfl rfl rfl (Kp.refl _ _)

set_option maxHeartbeats 400000 in
theorem number3_any (A : Option Addr) (n c : Nat) (i : Int) (l : List UInt8) (w : World) (hn : n ≤ 140737488355328) (hr : Rd w A n c l) :
    Calls Try.prog 116 #[.slice A n c, .int .i64 i, .int .i64 3] w (Num3 .u64 (num 3 l i).1 (num 3 l i).2.1 (num 3 l i).2.2 w) := by
  have hlen := hr.len
  by_cases ha : i < 0 ∨ (l.length : Int) < i
  · rw [num_arg ha]
    rw [hlen] at ha
    clear hlen hr
    rcases ha with h | h
    · go_enter Try.func116, Try.ntmps116
      go_wp2
      go_ret3
      exact ⟨rfl, Kp.refl _ _⟩
    · have h' : ¬ i < 0 := by omega
      go_enter Try.func116, Try.ntmps116
      go_wp2
      go_ret3
      exact ⟨rfl, Kp.refl _ _⟩
  · by_cases hs : (l.length : Int) - i < 3
    · rw [num_short (by omega) (by omega) hs]
      have h0 : 0 ≤ i := by omega
      have h1 : i ≤ n := by omega
      have h2 : (n : Int) - i < 3 := by omega
      have HL := Lib.hid hlen
      clear hlen hr ha hs
      go_enter Try.func116, Try.ntmps116
      go_wp2
      go_ret3
      exact Num3.mk rfl (by rw [HL.out]) rfl (Kp.refl _ _)
    · obtain ⟨j, rfl⟩ := Int.eq_ofNat_of_zero_le (show 0 ≤ i by omega)
      have hj : j + 3 ≤ n := by omega
      obtain ⟨b, off, rfl, hb, hcell⟩ := hr.addr (by omega)
      have hcap := hr.cap
      rw [num_ok (by omega)]
      have HT : Hid (∀ k, k < 3 → be ((l.drop j).take (k + 1)) = be ((l.drop j).take k) * 256 + (l.getD (j + k) 0).toNat) := by
        intro k hk
        rw [be_take_succ _ _ (by simp; omega)]
        simp [List.getD_eq_getElem?_getD]
      clear hlen hr ha hs
      have d1 : decide ((j : Int) < 0) = false := by simp
      have d2 : decide (n < j) = false := by simp; omega
      have d3 : decide ((n : Int) - j < 3) = false := by simp; omega
      go_enter Try.func116, Try.ntmps116
      go_wp2
      go_loop [9, 10] (fun v k => ∃ kk : Nat, kk ≤ 3 ∧ k = .int .i64 kk ∧ v = .int .u64 (be ((l.drop j).take kk))) (fun _ k => 3 - (intOf k).toNat)
      case atStart => exact ⟨0, by omega, rfl, by simp [be]⟩
      case round =>
        obtain ⟨k, hk, rfl, rfl⟩ := hrel
        by_cases hlt : k < 3
        · have hc2 := hcell (j + k) (by omega)
          have HB : be ((l.drop j).take k) < 16777216 := Nat.lt_of_lt_of_le (be_take_lt (l.drop j) k) (Nat.le_trans (Nat.pow_le_pow_right (by omega) (show k ≤ 3 by omega)) (by decide))
          have HC : (l.getD (j + k) 0).toNat < 256 := (l.getD (j + k) 0).toNat_lt
          simp only [List.getD_eq_getElem?_getD] at HC
          clear hcell
          go_wp2
          go_round
          case rel =>
            refine ⟨k + 1, by omega, by go_num, ?_⟩
            rw [HT.out k hlt]
            simp only [List.getD_eq_getElem?_getD]
            go_num
          case measure => simp [intOf]; omega
        · obtain rfl : k = 3 := by omega
          clear hcell
          go_wp2
          go_ret3
          exact Num3.mk rfl rfl rfl (Kp.refl _ _)

set_option maxHeartbeats 400000 in
theorem number4_any (A : Option Addr) (n c : Nat) (i : Int) (l : List UInt8) (w : World) (hn : n ≤ 140737488355328) (hr : Rd w A n c l) :
    Calls Try.prog 116 #[.slice A n c, .int .i64 i, .int .i64 4] w (Num3 .u64 (num 4 l i).1 (num 4 l i).2.1 (num 4 l i).2.2 w) := by
  have hlen := hr.len
  by_cases ha : i < 0 ∨ (l.length : Int) < i
  · rw [num_arg ha]
    rw [hlen] at ha
    clear hlen hr
    rcases ha with h | h
    · go_enter Try.func116, Try.ntmps116
      go_wp2
      go_ret3
      exact ⟨rfl, Kp.refl _ _⟩
    · have h' : ¬ i < 0 := by omega
      go_enter Try.func116, Try.ntmps116
      go_wp2
      go_ret3
      exact ⟨rfl, Kp.refl _ _⟩
  · by_cases hs : (l.length : Int) - i < 4
    · rw [num_short (by omega) (by omega) hs]
      have h0 : 0 ≤ i := by omega
      have h1 : i ≤ n := by omega
      have h2 : (n : Int) - i < 4 := by omega
      have HL := Lib.hid hlen
      clear hlen hr ha hs
      go_enter Try.func116, Try.ntmps116
      go_wp2
      go_ret3
      exact Num3.mk rfl (by rw [HL.out]) rfl (Kp.refl _ _)
    · obtain ⟨j, rfl⟩ := Int.eq_ofNat_of_zero_le (show 0 ≤ i by omega)
      have hj : j + 4 ≤ n := by omega
      obtain ⟨b, off, rfl, hb, hcell⟩ := hr.addr (by omega)
      have hcap := hr.cap
      rw [num_ok (by omega)]
      have HT : Hid (∀ k, k < 4 → be ((l.drop j).take (k + 1)) = be ((l.drop j).take k) * 256 + (l.getD (j + k) 0).toNat) := by
        intro k hk
        rw [be_take_succ _ _ (by simp; omega)]
        simp [List.getD_eq_getElem?_getD]
      clear hlen hr ha hs
      have d1 : decide ((j : Int) < 0) = false := by simp
      have d2 : decide (n < j) = false := by simp; omega
      have d3 : decide ((n : Int) - j < 4) = false := by simp; omega
      go_enter Try.func116, Try.ntmps116
      go_wp2
      go_loop [9, 10] (fun v k => ∃ kk : Nat, kk ≤ 4 ∧ k = .int .i64 kk ∧ v = .int .u64 (be ((l.drop j).take kk))) (fun _ k => 4 - (intOf k).toNat)
      case atStart => exact ⟨0, by omega, rfl, by simp [be]⟩
      case round =>
        obtain ⟨k, hk, rfl, rfl⟩ := hrel
        by_cases hlt : k < 4
        · have hc2 := hcell (j + k) (by omega)
          have HB : be ((l.drop j).take k) < 16777216 := Nat.lt_of_lt_of_le (be_take_lt (l.drop j) k) (Nat.le_trans (Nat.pow_le_pow_right (by omega) (show k ≤ 3 by omega)) (by decide))
          have HC : (l.getD (j + k) 0).toNat < 256 := (l.getD (j + k) 0).toNat_lt
          simp only [List.getD_eq_getElem?_getD] at HC
          clear hcell
          go_wp2
          go_round
          case rel =>
            refine ⟨k + 1, by omega, by go_num, ?_⟩
            rw [HT.out k hlt]
            simp only [List.getD_eq_getElem?_getD]
            go_num
          case measure => simp [intOf]; omega
        · obtain rfl : k = 4 := by omega
          clear hcell
          go_wp2
          go_ret3
          exact Num3.mk rfl rfl rfl (Kp.refl _ _)

set_option maxHeartbeats 400000 in
theorem refU16_any (A : Option Addr) (n c : Nat) (i : Int) (l : List UInt8) (w : World) (hn : n ≤ 140737488355328) (hr : Rd w A n c l) :
    Calls Try.prog 40 #[.slice A n c, .int .i64 i] w (Num3 .i64 (num 2 l i).1 (num 2 l i).2.1 (num 2 l i).2.2 w) := by
  have hb : (num 2 l i).1 < 65536 := Nat.lt_of_lt_of_eq (num_lt 2 l i) pow2
  go_enter Try.func40, Try.ntmps40
  go_wp2_with (go_at_call 116; refine (number2_any _ _ _ _ _ _ hn hr).mono ?_; rintro e w' ⟨rfl, hk⟩)
  go_ret3
  exact Num3.mk (by first | rfl | omega) rfl rfl hk

set_option maxHeartbeats 400000 in
theorem refU24_any (A : Option Addr) (n c : Nat) (i : Int) (l : List UInt8) (w : World) (hn : n ≤ 140737488355328) (hr : Rd w A n c l) :
    Calls Try.prog 48 #[.slice A n c, .int .i64 i] w (Num3 .i64 (num 3 l i).1 (num 3 l i).2.1 (num 3 l i).2.2 w) := by
  have hb : (num 3 l i).1 < 16777216 := Nat.lt_of_lt_of_eq (num_lt 3 l i) pow3
  go_enter Try.func48, Try.ntmps48
  go_wp2_with (go_at_call 116; refine (number3_any _ _ _ _ _ _ hn hr).mono ?_; rintro e w' ⟨rfl, hk⟩)
  go_ret3
  exact Num3.mk (by first | rfl | omega) rfl rfl hk

set_option maxHeartbeats 400000 in
theorem refU32_any (A : Option Addr) (n c : Nat) (i : Int) (l : List UInt8) (w : World) (hn : n ≤ 140737488355328) (hr : Rd w A n c l) :
    Calls Try.prog 35 #[.slice A n c, .int .i64 i] w (Num3 .u32 (num 4 l i).1 (num 4 l i).2.1 (num 4 l i).2.2 w) := by
  have hb : (num 4 l i).1 < 4294967296 := Nat.lt_of_lt_of_eq (num_lt 4 l i) pow4
  go_enter Try.func35, Try.ntmps35
  go_wp2_with (go_at_call 116; refine (number4_any _ _ _ _ _ _ hn hr).mono ?_; rintro e w' ⟨rfl, hk⟩)
  go_ret3
  exact Num3.mk (by first | rfl | omega) rfl rfl hk

set_option maxHeartbeats 400000 in
theorem refU31_any (A : Option Addr) (n c : Nat) (i : Int) (l : List UInt8) (w : World) (hn : n ≤ 140737488355328) (hr : Rd w A n c l) :
    Calls Try.prog 52 #[.slice A n c, .int .i64 i] w (Num3 .i64 ((num 4 l i).1 % 2147483648 : Nat) (num 4 l i).2.1 (num 4 l i).2.2 w) := by
  have hb : (num 4 l i).1 < 4294967296 := Nat.lt_of_lt_of_eq (num_lt 4 l i) pow4
  go_enter Try.func52, Try.ntmps52
  go_wp2_with (go_at_call 116; refine (number4_any _ _ _ _ _ _ hn hr).mono ?_; rintro e w' ⟨rfl, hk⟩)
  go_ret3
  refine Num3.mk ?_ rfl rfl hk
  first | rfl | omega | (unfold wrap64; omega)

/-! ### bytes -/
theorem set_rep (m : Nat) (S : List UInt8) (x : UInt8) : ((List.replicate (m + 1) (0 : UInt8) ++ S).set m x) = List.replicate m 0 ++ (x :: S) := by
  induction m with
  | zero => simp
  | succ m ih => rw [List.replicate_succ, List.cons_append, List.set_cons_succ, ih, List.replicate_succ, List.cons_append]
set_option maxHeartbeats 400000 in
theorem bytes_any (v n : Nat) (w : World) (hn : n ≤ 1000) (hv : v < 18446744073709551616) : Calls Try.prog 117 #[.int .u64 v, .int .i64 n] w (OwR 5 (bytesOf v n) w) := by
  have hmk := run_make_row' (P := Try.prog) 22 5 (.int .u8 0) 1 Try.underlying22 Try.info5 rfl .i64 .i64 n (by omega) (by omega)
  have hm0 : (madeCells #[Value.int .u8 0] n).toList = (List.replicate n (0 : UInt8) ++ []).map u8 := by
    apply List.ext_getElem
    · simp [madeCells]
    · intro i h1 h2
      simp [madeCells, Nat.mod_one, u8]
  have H0 := Lib.hid hm0
  clear hm0
  go_enter Try.func117, Try.ntmps117
  go_wp2
  go_loopw [0, 6] (fun vv i wr => ∃ (m x : Nat) (S : List UInt8) (cs : Array Value), m ≤ n ∧ i = .int .i64 ((m : Int) - 1) ∧ vv = .int .u64 x ∧ x < 18446744073709551616 ∧ Hid (bytesOf v n = bytesOf x m ++ S) ∧ Hid (cs.toList = (List.replicate m 0 ++ S).map u8) ∧ wr = w.alloc (.cells cs 5)) (fun _ i _ => (intOf i + 1).toNat)
  case atStart => exact ⟨n, v, [], _, Nat.le_refl _, rfl, rfl, hv, show _ = _ by simp, H0.out, rfl⟩
  case round =>
    obtain ⟨m, x, S, cs, hm, rfl, rfl, hx, hS, hcs, rfl⟩ := hrel
    by_cases h0 : m = 0
    · subst h0
      go_wp2
      go_ret
      have e1 := hS.out
      simp only [bytesOf, List.nil_append] at e1
      have e2 := hcs.out
      simp only [List.replicate_zero, List.nil_append] at e2
      subst e1
      have hl : (bytesOf v n).length = n := bytesOf_length v n
      have := Ow.new w w.heap.size 5 cs.toList 1 n (Nat.le_refl _) (by rw [e2]; simp [hl]) (by simp only [maxLen]; omega)
      refine ⟨_, _, _, rfl, ?_, (Kp.refl _ _).alloc _⟩
      rw [← e2]
      simpa using this
    · obtain ⟨k, rfl⟩ : ∃ k, m = k + 1 := ⟨m - 1, by omega⟩
      have ek : (((k + 1 : Nat) : Int) - 1) = (k : Int) := by omega
      rw [ek]
      have hlen : k < cs.size := by
        have := congrArg List.length hcs.out
        simp at this
        omega
      have hget : cs[k]? = some cs[k] := Array.getElem?_eq_getElem hlen
      clear ek
      go_wp2
      go_roundw
      case rel =>
        refine ⟨k, x / 256, UInt8.ofNat (x % 256) :: S, cs.setIfInBounds k (u8 (UInt8.ofNat (x % 256))), by omega, by go_num, by go_num, by omega, ?_, ?_, ?_⟩
        · show _ = _
          rw [hS.out, bytesOf]
          simp
        · show _ = _
          rw [Array.toList_setIfInBounds, hcs.out, ← List.map_set, set_rep]
        · simp [u8]
      case measure => simp [intOf]

theorem bytes_lit (v k : Nat) (w : World) (hk : k ≤ 1000) (hv : v < 18446744073709551616) (e : Int) (he : e = (k : Int)) : Calls Try.prog 117 #[.int .u64 v, .int .i64 e] w (OwR 5 (bytesOf v k) w) := by
  subst he
  exact bytes_any v k w hk hv
set_option maxHeartbeats 400000 in
theorem refPut32_any (n : Nat) (w : World) (hn : n < 4294967296) : Calls Try.prog 37 #[.int .u32 n] w (OwR 5 (bytesOf n 4) w) := by
  go_enter Try.func37, Try.ntmps37
  go_wp2_with fail
  refine (bytes_lit n 4 w (by omega) (by omega) _ rfl).mono ?_
  rintro e w' ⟨A, n', c, rfl, hr, hk⟩
  have HR := Lib.hid hr
  clear hr
  go_wp2
  go_ret
  exact ⟨_, _, _, rfl, HR.out, hk⟩

set_option maxHeartbeats 400000 in
theorem refput2_any (n : Int) (w : World) (hw : -9223372036854775808 ≤ n ∧ n ≤ 9223372036854775807) : Calls Try.prog 120 #[.int .i64 n, .int .i64 2, .int .i64 65536] w (OwE 5 (putR n 2 65536).1 (putR n 2 65536).2 w) := by
  by_cases h : n < 0 ∨ 65536 ≤ n
  · rw [putR_no h]
    rcases h with h | h
    · go_enter Try.func120, Try.ntmps120
      go_wp2_with fail
      go_ret2
      exact ⟨_, _, _, rfl, Ow.nil _ _ _ _, Kp.refl _ _⟩
    · have h0 : ¬ n < 0 := by omega
      go_enter Try.func120, Try.ntmps120
      go_wp2_with fail
      go_ret2
      exact ⟨_, _, _, rfl, Ow.nil _ _ _ _, Kp.refl _ _⟩
  · obtain ⟨m, rfl⟩ := Int.eq_ofNat_of_zero_le (show 0 ≤ n by omega)
    have hm : m < 65536 := by omega
    rw [putR_yes (by omega)]
    have h0 : ¬ (m : Int) < 0 := by omega
    have h1 : ¬ (65536 : Int) ≤ (m : Int) := by omega
    clear h hw
    go_enter Try.func120, Try.ntmps120
    go_wp2_with fail
    refine (bytes_lit m 2 w (by omega) (by omega) _ rfl).mono ?_
    rintro e w' ⟨A, n', c, rfl, hr, hk⟩
    have HR := Lib.hid hr
    clear hr
    go_wp2
    go_ret2
    exact ⟨_, _, _, rfl, HR.out, hk⟩

set_option maxHeartbeats 400000 in
theorem refput3_any (n : Int) (w : World) (hw : -9223372036854775808 ≤ n ∧ n ≤ 9223372036854775807) : Calls Try.prog 120 #[.int .i64 n, .int .i64 3, .int .i64 16777216] w (OwE 5 (putR n 3 16777216).1 (putR n 3 16777216).2 w) := by
  by_cases h : n < 0 ∨ 16777216 ≤ n
  · rw [putR_no h]
    rcases h with h | h
    · go_enter Try.func120, Try.ntmps120
      go_wp2_with fail
      go_ret2
      exact ⟨_, _, _, rfl, Ow.nil _ _ _ _, Kp.refl _ _⟩
    · have h0 : ¬ n < 0 := by omega
      go_enter Try.func120, Try.ntmps120
      go_wp2_with fail
      go_ret2
      exact ⟨_, _, _, rfl, Ow.nil _ _ _ _, Kp.refl _ _⟩
  · obtain ⟨m, rfl⟩ := Int.eq_ofNat_of_zero_le (show 0 ≤ n by omega)
    have hm : m < 16777216 := by omega
    rw [putR_yes (by omega)]
    have h0 : ¬ (m : Int) < 0 := by omega
    have h1 : ¬ (16777216 : Int) ≤ (m : Int) := by omega
    clear h hw
    go_enter Try.func120, Try.ntmps120
    go_wp2_with fail
    refine (bytes_lit m 3 w (by omega) (by omega) _ rfl).mono ?_
    rintro e w' ⟨A, n', c, rfl, hr, hk⟩
    have HR := Lib.hid hr
    clear hr
    go_wp2
    go_ret2
    exact ⟨_, _, _, rfl, HR.out, hk⟩

set_option maxHeartbeats 400000 in
theorem refput4_any (n : Int) (w : World) (hw : -9223372036854775808 ≤ n ∧ n ≤ 9223372036854775807) : Calls Try.prog 120 #[.int .i64 n, .int .i64 4, .int .i64 2147483648] w (OwE 5 (putR n 4 2147483648).1 (putR n 4 2147483648).2 w) := by
  by_cases h : n < 0 ∨ 2147483648 ≤ n
  · rw [putR_no h]
    rcases h with h | h
    · go_enter Try.func120, Try.ntmps120
      go_wp2_with fail
      go_ret2
      exact ⟨_, _, _, rfl, Ow.nil _ _ _ _, Kp.refl _ _⟩
    · have h0 : ¬ n < 0 := by omega
      go_enter Try.func120, Try.ntmps120
      go_wp2_with fail
      go_ret2
      exact ⟨_, _, _, rfl, Ow.nil _ _ _ _, Kp.refl _ _⟩
  · obtain ⟨m, rfl⟩ := Int.eq_ofNat_of_zero_le (show 0 ≤ n by omega)
    have hm : m < 2147483648 := by omega
    rw [putR_yes (by omega)]
    have h0 : ¬ (m : Int) < 0 := by omega
    have h1 : ¬ (2147483648 : Int) ≤ (m : Int) := by omega
    clear h hw
    go_enter Try.func120, Try.ntmps120
    go_wp2_with fail
    refine (bytes_lit m 4 w (by omega) (by omega) _ rfl).mono ?_
    rintro e w' ⟨A, n', c, rfl, hr, hk⟩
    have HR := Lib.hid hr
    clear hr
    go_wp2
    go_ret2
    exact ⟨_, _, _, rfl, HR.out, hk⟩

set_option maxHeartbeats 400000 in
theorem refPut16_any (n : Int) (w : World) (hw : -9223372036854775808 ≤ n ∧ n ≤ 9223372036854775807) : Calls Try.prog 42 #[.int .i64 n] w (OwE 5 (putR n 2 65536).1 (putR n 2 65536).2 w) := by
  go_enter Try.func42, Try.ntmps42
  go_wp2_with fail
  refine (refput2_any n w hw).mono ?_
  rintro e w' ⟨A, n', c, rfl, hr, hk⟩
  have HR := Lib.hid hr
  clear hr
  go_wp2
  go_ret2
  exact ⟨_, _, _, rfl, HR.out, hk⟩

set_option maxHeartbeats 400000 in
theorem refPut24_any (n : Int) (w : World) (hw : -9223372036854775808 ≤ n ∧ n ≤ 9223372036854775807) : Calls Try.prog 50 #[.int .i64 n] w (OwE 5 (putR n 3 16777216).1 (putR n 3 16777216).2 w) := by
  go_enter Try.func50, Try.ntmps50
  go_wp2_with fail
  refine (refput3_any n w hw).mono ?_
  rintro e w' ⟨A, n', c, rfl, hr, hk⟩
  have HR := Lib.hid hr
  clear hr
  go_wp2
  go_ret2
  exact ⟨_, _, _, rfl, HR.out, hk⟩

set_option maxHeartbeats 400000 in
theorem refPut31_any (n : Int) (w : World) (hw : -9223372036854775808 ≤ n ∧ n ≤ 9223372036854775807) : Calls Try.prog 54 #[.int .i64 n] w (OwE 5 (putR n 4 2147483648).1 (putR n 4 2147483648).2 w) := by
  go_enter Try.func54, Try.ntmps54
  go_wp2_with fail
  refine (refput4_any n w hw).mono ?_
  rintro e w' ⟨A, n', c, rfl, hr, hk⟩
  have HR := Lib.hid hr
  clear hr
  go_wp2
  go_ret2
  exact ⟨_, _, _, rfl, HR.out, hk⟩
end Go.Proofs.Ytkmcakneceagpaa

namespace Go.Proofs.Ytkmcakneceagpaa
open Go.RowKit

set_option maxHeartbeats 1000000 in
theorem refHead_any (A : Option Addr) (n c : Nat) (l : List UInt8) (w : World) (hn : n ≤ 140737488355328) (hr : Rd w A n c l) :
    Calls Try.prog 56 #[.slice A n c] w (Num5 (headR l) w) := by
  have hlen := hr.len
  by_cases hs : n < 9
  · have e : headR l = (0, 0, 0, 0, 3) := by unfold headR; rw [if_pos (by omega)]
    rw [e]
    clear hlen hr
    go_enter Try.func56, Try.ntmps56
    go_wp2
    exact bodyPost_ret (v := .tuple #[.int .i64 0, .int .i64 0, .int .i64 0, .int .i64 0, .int .i64 3]) (by simp [results, Try.results56, go_sem]) rfl ⟨rfl, Kp.refl _ _⟩
  · have e : headR l = ((num 3 l 0).1, (l.getD 3 0).toNat, (l.getD 4 0).toNat, (num 4 l 5).1 % 2147483648, 0) := by unfold headR; rw [if_neg (by omega)]
    rw [e]
    obtain ⟨b, off, rfl, hb, hc⟩ := hr.addr (by omega)
    have h3 := hc 3 (by omega)
    have h4 := hc 4 (by omega)
    have HR := Lib.hid hr
    clear hlen hr hc e
    go_enter Try.func56, Try.ntmps56
    go_wp2_with fail
    refine (refU24_any _ _ _ 0 _ _ hn HR.out).mono ?_
    rintro e w1 ⟨rfl, k1⟩
    have r1 := HR.out.keep k1 (by simp)
    have g3 := k1.cell h3 (by simp)
    have g4 := k1.cell h4 (by simp)
    clear h3 h4 HR hb
    have HR1 := Lib.hid r1
    clear r1
    generalize hx : (num 3 l 0).1 = x1
    have HX := Lib.hid hx
    clear hx
    generalize (num 3 l 0).2.1 = x2
    generalize (num 3 l 0).2.2 = x3
    go_wp2_with fail
    refine (refU31_any _ _ _ 5 _ _ hn HR1.out).mono ?_
    rintro e w2 ⟨rfl, k2⟩
    have h3 := k2.cell g3 (by simp)
    have h4 := k2.cell g4 (by simp)
    have HK := Lib.hid (k1.trans k2)
    clear g3 g4 HR1 k1 k2
    generalize hy : (num 4 l 5).1 % 2147483648 = y1
    have HY := Lib.hid hy
    clear hy
    generalize (num 4 l 5).2.1 = y2
    generalize (num 4 l 5).2.2 = y3
    have hb3 := (l.getD 3 0).toNat_lt
    have hb4 := (l.getD 4 0).toNat_lt
    generalize (l.getD 3 0).toNat = b3 at *
    generalize (l.getD 4 0).toNat = b4 at *
    have i3 : (3 : Int) < (n : Int) := by omega
    have i4 : (4 : Int) < (n : Int) := by omega
    go_wp2
    go_quiet (fail)
    go_wp2
    exact bodyPost_ret (v := .tuple #[.int .i64 x1, .int .i64 b3, .int .i64 b4, .int .i64 y1, .int .i64 0]) (by simp [results, Try.results56, go_sem]) rfl ⟨by simp only [HX.out, HY.out], HK.out.drewN _⟩

set_option maxHeartbeats 400000 in
theorem refKnown_any (k : Int) (w : World) : Calls Try.prog 58 #[.int .i64 k] w (BoolR (knownB k) w) := by
  by_cases h0 : 0 ≤ k
  · by_cases h9 : k ≤ 9
    · have e : knownB k = true := by simp [knownB, h0, h9]
      rw [e]
      go_enter Try.func58, Try.ntmps58
      go_wp2
      go_ret
      exact ⟨by simp, rfl⟩
    · have e : knownB k = false := by simp [knownB, h9]
      rw [e]
      go_enter Try.func58, Try.ntmps58
      go_wp2
      go_ret
      exact ⟨by simp, rfl⟩
  · have e : knownB k = false := by simp [knownB, h0]
    rw [e]
    go_enter Try.func58, Try.ntmps58
    go_wp2
    go_ret
    exact ⟨by simp, rfl⟩

end Go.Proofs.Ytkmcakneceagpaa

namespace Go.Proofs.Ytkmcakneceagpaa
open Go.RowKit

set_option maxHeartbeats 400000 in
theorem ridF (n : Int) (w : World) : Calls Try.prog 185 #[.int .i64 n] w (BoolR (idB n) w) := by
  by_cases h0 : 0 ≤ n
  · by_cases h9 : n ≤ 2147483647
    · have e : idB n = true := by simp [idB, h0, h9]
      rw [e]
      go_enter Try.func185, Try.ntmps185
      go_wp2
      go_ret
      exact ⟨by simp, rfl⟩
    · have e : idB n = false := by simp [idB, h9]
      rw [e]
      go_enter Try.func185, Try.ntmps185
      go_wp2
      go_ret
      exact ⟨by simp, rfl⟩
  · have e : idB n = false := by simp [idB, h0]
    rw [e]
    go_enter Try.func185, Try.ntmps185
    go_wp2
    go_ret
    exact ⟨by simp, rfl⟩
set_option maxHeartbeats 400000 in
theorem hasF (fl k : Int) (w : World) (h0 : 0 ≤ fl) (h1 : fl ≤ 255) (hk : 1 ≤ k) (hk2 : k ≤ 255) : Calls Try.prog 187 #[.int .i64 fl, .int .i64 k] w (BoolR (hasB fl k) w) := by
  have hk0 : ¬ k = 0 := by omega
  have hd0 : 0 ≤ fl / k := Int.ediv_nonneg h0 (by omega)
  have hd1 : fl / k ≤ 255 := Int.le_trans (Int.ediv_le_self k h0) h1
  obtain ⟨q, hq⟩ : ∃ q, fl / k = q := ⟨_, rfl⟩
  have e : hasB fl k = (q % 2 == 1) := by rw [hasB, hq, Bool.eq_iff_iff]; simp
  rw [e]
  rw [hq] at hd0 hd1
  clear e
  go_enter Try.func187, Try.ntmps187
  go_wp2
  go_ret
  exact ⟨by simp, rfl⟩
set_option maxHeartbeats 400000 in
theorem rpad0 (w : World) : Calls Try.prog 186 #[.int .i64 0] w (BoolR true w) := by
  go_enter Try.func186, Try.ntmps186
  go_wp2
  go_ret
  exact ⟨rfl, rfl⟩
set_option maxHeartbeats 400000 in
theorem rright0 (st : Int) (w : World) : Calls Try.prog 153 #[.int .i64 0, .int .i64 st] w (BoolR (false || (false == decide (st = 0))) w) := by
  by_cases h : st = 0
  · subst h
    go_enter Try.func153, Try.ntmps153
    go_wp2
    go_ret
    exact ⟨by simp, rfl⟩
  · have h1 : (st == 0) = false := by simp [h]
    have h2 : decide (st = 0) = false := by simp [h]
    rw [h2]
    clear h2 h
    go_enter Try.func153, Try.ntmps153
    go_wp2
    go_ret
    exact ⟨by simp, rfl⟩
set_option maxHeartbeats 400000 in
theorem rprio0 (fl : Int) (w : World) (h0 : 0 ≤ fl) (h1 : fl ≤ 255) : Calls Try.prog 188 #[.int .i64 0, .int .i64 fl] w (BoolR (prioB 0 fl) w) := by
  have e : prioB 0 fl = false := by simp [prioB]
  rw [e]
  clear e
  go_enter Try.func188, Try.ntmps188
  go_wp2
  go_ret
  exact ⟨rfl, rfl⟩
set_option maxHeartbeats 400000 in
theorem rpad1 (w : World) : Calls Try.prog 186 #[.int .i64 1] w (BoolR true w) := by
  go_enter Try.func186, Try.ntmps186
  go_wp2
  go_ret
  exact ⟨rfl, rfl⟩
set_option maxHeartbeats 400000 in
theorem rright1 (st : Int) (w : World) : Calls Try.prog 153 #[.int .i64 1, .int .i64 st] w (BoolR (false || (false == decide (st = 0))) w) := by
  by_cases h : st = 0
  · subst h
    go_enter Try.func153, Try.ntmps153
    go_wp2
    go_ret
    exact ⟨by simp, rfl⟩
  · have h1 : (st == 0) = false := by simp [h]
    have h2 : decide (st = 0) = false := by simp [h]
    rw [h2]
    clear h2 h
    go_enter Try.func153, Try.ntmps153
    go_wp2
    go_ret
    exact ⟨by simp, rfl⟩
set_option maxHeartbeats 400000 in
theorem rprio1 (fl : Int) (w : World) (h0 : 0 ≤ fl) (h1 : fl ≤ 255) : Calls Try.prog 188 #[.int .i64 1, .int .i64 fl] w (BoolR (prioB 1 fl) w) := by
  have e : prioB 1 fl = hasB fl 32 := by simp [prioB]
  rw [e]
  clear e
  go_enter Try.func188, Try.ntmps188
  go_wp2_with fail
  refine (hasF fl 32 w h0 h1 (by omega) (by omega)).mono ?_
  rintro e w1 ⟨rfl, rfl⟩
  go_wp2
  go_ret
  exact ⟨by simp, rfl⟩
set_option maxHeartbeats 400000 in
theorem rpad2 (w : World) : Calls Try.prog 186 #[.int .i64 2] w (BoolR false w) := by
  go_enter Try.func186, Try.ntmps186
  go_wp2
  go_ret
  exact ⟨rfl, rfl⟩
set_option maxHeartbeats 400000 in
theorem rright2 (st : Int) (w : World) : Calls Try.prog 153 #[.int .i64 2, .int .i64 st] w (BoolR (false || (false == decide (st = 0))) w) := by
  by_cases h : st = 0
  · subst h
    go_enter Try.func153, Try.ntmps153
    go_wp2
    go_ret
    exact ⟨by simp, rfl⟩
  · have h1 : (st == 0) = false := by simp [h]
    have h2 : decide (st = 0) = false := by simp [h]
    rw [h2]
    clear h2 h
    go_enter Try.func153, Try.ntmps153
    go_wp2
    go_ret
    exact ⟨by simp, rfl⟩
set_option maxHeartbeats 400000 in
theorem rprio2 (fl : Int) (w : World) (h0 : 0 ≤ fl) (h1 : fl ≤ 255) : Calls Try.prog 188 #[.int .i64 2, .int .i64 fl] w (BoolR (prioB 2 fl) w) := by
  have e : prioB 2 fl = true := by simp [prioB]
  rw [e]
  clear e
  go_enter Try.func188, Try.ntmps188
  go_wp2
  go_ret
  exact ⟨rfl, rfl⟩
set_option maxHeartbeats 400000 in
theorem rpad3 (w : World) : Calls Try.prog 186 #[.int .i64 3] w (BoolR false w) := by
  go_enter Try.func186, Try.ntmps186
  go_wp2
  go_ret
  exact ⟨rfl, rfl⟩
set_option maxHeartbeats 400000 in
theorem rright3 (st : Int) (w : World) : Calls Try.prog 153 #[.int .i64 3, .int .i64 st] w (BoolR (false || (false == decide (st = 0))) w) := by
  by_cases h : st = 0
  · subst h
    go_enter Try.func153, Try.ntmps153
    go_wp2
    go_ret
    exact ⟨by simp, rfl⟩
  · have h1 : (st == 0) = false := by simp [h]
    have h2 : decide (st = 0) = false := by simp [h]
    rw [h2]
    clear h2 h
    go_enter Try.func153, Try.ntmps153
    go_wp2
    go_ret
    exact ⟨by simp, rfl⟩
set_option maxHeartbeats 400000 in
theorem rprio3 (fl : Int) (w : World) (h0 : 0 ≤ fl) (h1 : fl ≤ 255) : Calls Try.prog 188 #[.int .i64 3, .int .i64 fl] w (BoolR (prioB 3 fl) w) := by
  have e : prioB 3 fl = false := by simp [prioB]
  rw [e]
  clear e
  go_enter Try.func188, Try.ntmps188
  go_wp2
  go_ret
  exact ⟨rfl, rfl⟩
set_option maxHeartbeats 400000 in
theorem rpad4 (w : World) : Calls Try.prog 186 #[.int .i64 4] w (BoolR false w) := by
  go_enter Try.func186, Try.ntmps186
  go_wp2
  go_ret
  exact ⟨rfl, rfl⟩
set_option maxHeartbeats 400000 in
theorem rright4 (st : Int) (w : World) : Calls Try.prog 153 #[.int .i64 4, .int .i64 st] w (BoolR (false || (true == decide (st = 0))) w) := by
  by_cases h : st = 0
  · subst h
    go_enter Try.func153, Try.ntmps153
    go_wp2
    go_ret
    exact ⟨by simp, rfl⟩
  · have h1 : (st == 0) = false := by simp [h]
    have h2 : decide (st = 0) = false := by simp [h]
    rw [h2]
    clear h2 h
    go_enter Try.func153, Try.ntmps153
    go_wp2
    go_ret
    exact ⟨by simp, rfl⟩
set_option maxHeartbeats 400000 in
theorem rprio4 (fl : Int) (w : World) (h0 : 0 ≤ fl) (h1 : fl ≤ 255) : Calls Try.prog 188 #[.int .i64 4, .int .i64 fl] w (BoolR (prioB 4 fl) w) := by
  have e : prioB 4 fl = false := by simp [prioB]
  rw [e]
  clear e
  go_enter Try.func188, Try.ntmps188
  go_wp2
  go_ret
  exact ⟨rfl, rfl⟩
set_option maxHeartbeats 400000 in
theorem rpad5 (w : World) : Calls Try.prog 186 #[.int .i64 5] w (BoolR true w) := by
  go_enter Try.func186, Try.ntmps186
  go_wp2
  go_ret
  exact ⟨rfl, rfl⟩
set_option maxHeartbeats 400000 in
theorem rright5 (st : Int) (w : World) : Calls Try.prog 153 #[.int .i64 5, .int .i64 st] w (BoolR (false || (false == decide (st = 0))) w) := by
  by_cases h : st = 0
  · subst h
    go_enter Try.func153, Try.ntmps153
    go_wp2
    go_ret
    exact ⟨by simp, rfl⟩
  · have h1 : (st == 0) = false := by simp [h]
    have h2 : decide (st = 0) = false := by simp [h]
    rw [h2]
    clear h2 h
    go_enter Try.func153, Try.ntmps153
    go_wp2
    go_ret
    exact ⟨by simp, rfl⟩
set_option maxHeartbeats 400000 in
theorem rprio5 (fl : Int) (w : World) (h0 : 0 ≤ fl) (h1 : fl ≤ 255) : Calls Try.prog 188 #[.int .i64 5, .int .i64 fl] w (BoolR (prioB 5 fl) w) := by
  have e : prioB 5 fl = false := by simp [prioB]
  rw [e]
  clear e
  go_enter Try.func188, Try.ntmps188
  go_wp2
  go_ret
  exact ⟨rfl, rfl⟩
set_option maxHeartbeats 400000 in
theorem rpad6 (w : World) : Calls Try.prog 186 #[.int .i64 6] w (BoolR false w) := by
  go_enter Try.func186, Try.ntmps186
  go_wp2
  go_ret
  exact ⟨rfl, rfl⟩
set_option maxHeartbeats 400000 in
theorem rright6 (st : Int) (w : World) : Calls Try.prog 153 #[.int .i64 6, .int .i64 st] w (BoolR (false || (true == decide (st = 0))) w) := by
  by_cases h : st = 0
  · subst h
    go_enter Try.func153, Try.ntmps153
    go_wp2
    go_ret
    exact ⟨by simp, rfl⟩
  · have h1 : (st == 0) = false := by simp [h]
    have h2 : decide (st = 0) = false := by simp [h]
    rw [h2]
    clear h2 h
    go_enter Try.func153, Try.ntmps153
    go_wp2
    go_ret
    exact ⟨by simp, rfl⟩
set_option maxHeartbeats 400000 in
theorem rprio6 (fl : Int) (w : World) (h0 : 0 ≤ fl) (h1 : fl ≤ 255) : Calls Try.prog 188 #[.int .i64 6, .int .i64 fl] w (BoolR (prioB 6 fl) w) := by
  have e : prioB 6 fl = false := by simp [prioB]
  rw [e]
  clear e
  go_enter Try.func188, Try.ntmps188
  go_wp2
  go_ret
  exact ⟨rfl, rfl⟩
set_option maxHeartbeats 400000 in
theorem rpad7 (w : World) : Calls Try.prog 186 #[.int .i64 7] w (BoolR false w) := by
  go_enter Try.func186, Try.ntmps186
  go_wp2
  go_ret
  exact ⟨rfl, rfl⟩
set_option maxHeartbeats 400000 in
theorem rright7 (st : Int) (w : World) : Calls Try.prog 153 #[.int .i64 7, .int .i64 st] w (BoolR (false || (true == decide (st = 0))) w) := by
  by_cases h : st = 0
  · subst h
    go_enter Try.func153, Try.ntmps153
    go_wp2
    go_ret
    exact ⟨by simp, rfl⟩
  · have h1 : (st == 0) = false := by simp [h]
    have h2 : decide (st = 0) = false := by simp [h]
    rw [h2]
    clear h2 h
    go_enter Try.func153, Try.ntmps153
    go_wp2
    go_ret
    exact ⟨by simp, rfl⟩
set_option maxHeartbeats 400000 in
theorem rprio7 (fl : Int) (w : World) (h0 : 0 ≤ fl) (h1 : fl ≤ 255) : Calls Try.prog 188 #[.int .i64 7, .int .i64 fl] w (BoolR (prioB 7 fl) w) := by
  have e : prioB 7 fl = false := by simp [prioB]
  rw [e]
  clear e
  go_enter Try.func188, Try.ntmps188
  go_wp2
  go_ret
  exact ⟨rfl, rfl⟩
set_option maxHeartbeats 400000 in
theorem rpad8 (w : World) : Calls Try.prog 186 #[.int .i64 8] w (BoolR false w) := by
  go_enter Try.func186, Try.ntmps186
  go_wp2
  go_ret
  exact ⟨rfl, rfl⟩
set_option maxHeartbeats 400000 in
theorem rright8 (st : Int) (w : World) : Calls Try.prog 153 #[.int .i64 8, .int .i64 st] w (BoolR (true || (false == decide (st = 0))) w) := by
  by_cases h : st = 0
  · subst h
    go_enter Try.func153, Try.ntmps153
    go_wp2
    go_ret
    exact ⟨by simp, rfl⟩
  · have h1 : (st == 0) = false := by simp [h]
    have h2 : decide (st = 0) = false := by simp [h]
    rw [h2]
    clear h2 h
    go_enter Try.func153, Try.ntmps153
    go_wp2
    go_ret
    exact ⟨by simp, rfl⟩
set_option maxHeartbeats 400000 in
theorem rprio8 (fl : Int) (w : World) (h0 : 0 ≤ fl) (h1 : fl ≤ 255) : Calls Try.prog 188 #[.int .i64 8, .int .i64 fl] w (BoolR (prioB 8 fl) w) := by
  have e : prioB 8 fl = false := by simp [prioB]
  rw [e]
  clear e
  go_enter Try.func188, Try.ntmps188
  go_wp2
  go_ret
  exact ⟨rfl, rfl⟩
set_option maxHeartbeats 400000 in
theorem rpad9 (w : World) : Calls Try.prog 186 #[.int .i64 9] w (BoolR false w) := by
  go_enter Try.func186, Try.ntmps186
  go_wp2
  go_ret
  exact ⟨rfl, rfl⟩
set_option maxHeartbeats 400000 in
theorem rright9 (st : Int) (w : World) : Calls Try.prog 153 #[.int .i64 9, .int .i64 st] w (BoolR (false || (false == decide (st = 0))) w) := by
  by_cases h : st = 0
  · subst h
    go_enter Try.func153, Try.ntmps153
    go_wp2
    go_ret
    exact ⟨by simp, rfl⟩
  · have h1 : (st == 0) = false := by simp [h]
    have h2 : decide (st = 0) = false := by simp [h]
    rw [h2]
    clear h2 h
    go_enter Try.func153, Try.ntmps153
    go_wp2
    go_ret
    exact ⟨by simp, rfl⟩
set_option maxHeartbeats 400000 in
theorem rprio9 (fl : Int) (w : World) (h0 : 0 ≤ fl) (h1 : fl ≤ 255) : Calls Try.prog 188 #[.int .i64 9, .int .i64 fl] w (BoolR (prioB 9 fl) w) := by
  have e : prioB 9 fl = false := by simp [prioB]
  rw [e]
  clear e
  go_enter Try.func188, Try.ntmps188
  go_wp2
  go_ret
  exact ⟨rfl, rfl⟩
set_option maxHeartbeats 400000 in
theorem rfourF (n : Int) (w : World) (h0 : 0 ≤ n) (hn : n < 2147483648) : Calls Try.prog 150 #[.int .i64 n] w (OwR 5 (bytesOf n.toNat 4) w) := by
  obtain ⟨n, rfl⟩ := Int.eq_ofNat_of_zero_le h0
  have hp : (2 : Int) ^ 32 = 4294967296 := by decide
  have e : IntKind.u32.wrap (n : Int) = (n : Int) := wraps_u32 _ (by omega) (by omega)
  rw [Int.toNat_natCast]
  have HN := Lib.hid (show n < 4294967296 by omega)
  clear hp hn
  go_enter Try.func150, Try.ntmps150
  go_wp2_with fail
  refine (refPut32_any n w HN.out).mono ?_
  rintro e w1 ⟨A, k, c, rfl, h1, h2⟩
  go_wp2
  go_ret
  exact ⟨_, _, _, rfl, h1, h2⟩
end Go.Proofs.Ytkmcakneceagpaa
