/- The reference of layer 7: its small functions. -/
import Derived.Test.YtkmcakneceagpaaHeadRef
import Derived.Test.YtkmcakneceagpaaKin4
set_option linter.unusedVariables false
set_option linter.unusedSimpArgs false
set_option linter.unusedSimpArgs false
namespace Go.Proofs.Ytkmcakneceagpaa
open Go.RowKit

set_option maxHeartbeats 400000 in
theorem ridF (n : Int) (w : World) : Calls Try.prog 185 #[.int .i64 n] w (BoolR (idB n) w) := by
  by_cases h0 : 0 ≤ n
  · by_cases h9 : n ≤ 2147483647
    · have e : idB n = true := by simp [idB, h0, h9]
      rw [e]
      go_enter Try.func185, Try.ntmps185
      go_wp2
      go_ret
      exact ⟨by simp, rfl⟩
    · have e : idB n = false := by simp [idB, h9]
      rw [e]
      go_enter Try.func185, Try.ntmps185
      go_wp2
      go_ret
      exact ⟨by simp, rfl⟩
  · have e : idB n = false := by simp [idB, h0]
    rw [e]
    go_enter Try.func185, Try.ntmps185
    go_wp2
    go_ret
    exact ⟨by simp, rfl⟩
set_option maxHeartbeats 400000 in
theorem hasF (fl k : Int) (w : World) (h0 : 0 ≤ fl) (h1 : fl ≤ 255) (hk : 1 ≤ k) (hk2 : k ≤ 255) : Calls Try.prog 187 #[.int .i64 fl, .int .i64 k] w (BoolR (hasB fl k) w) := by
  have hk0 : ¬ k = 0 := by omega
  have hd0 : 0 ≤ fl / k := Int.ediv_nonneg h0 (by omega)
  have hd1 : fl / k ≤ 255 := Int.le_trans (Int.ediv_le_self k h0) h1
  obtain ⟨q, hq⟩ : ∃ q, fl / k = q := ⟨_, rfl⟩
  have e : hasB fl k = (q % 2 == 1) := by rw [hasB, hq, Bool.eq_iff_iff]; simp
  rw [e]
  rw [hq] at hd0 hd1
  clear e
  go_enter Try.func187, Try.ntmps187
  go_wp2
  go_ret
  exact ⟨by simp, rfl⟩
set_option maxHeartbeats 400000 in
theorem rpad0 (w : World) : Calls Try.prog 186 #[.int .i64 0] w (BoolR true w) := by
  go_enter Try.func186, Try.ntmps186
  go_wp2
  go_ret
  exact ⟨rfl, rfl⟩
set_option maxHeartbeats 400000 in
theorem rright0 (st : Int) (w : World) : Calls Try.prog 153 #[.int .i64 0, .int .i64 st] w (BoolR (false || (false == decide (st = 0))) w) := by
  by_cases h : st = 0
  · subst h
    go_enter Try.func153, Try.ntmps153
    go_wp2
    go_ret
    exact ⟨by simp, rfl⟩
  · have h1 : (st == 0) = false := by simp [h]
    have h2 : decide (st = 0) = false := by simp [h]
    rw [h2]
    clear h2 h
    go_enter Try.func153, Try.ntmps153
    go_wp2
    go_ret
    exact ⟨by simp, rfl⟩
set_option maxHeartbeats 400000 in
theorem rprio0 (fl : Int) (w : World) (h0 : 0 ≤ fl) (h1 : fl ≤ 255) : Calls Try.prog 188 #[.int .i64 0, .int .i64 fl] w (BoolR (prioB 0 fl) w) := by
  have e : prioB 0 fl = false := by simp [prioB]
  rw [e]
  clear e
  go_enter Try.func188, Try.ntmps188
  go_wp2
  go_ret
  exact ⟨rfl, rfl⟩
set_option maxHeartbeats 400000 in
theorem rpad1 (w : World) : Calls Try.prog 186 #[.int .i64 1] w (BoolR true w) := by
  go_enter Try.func186, Try.ntmps186
  go_wp2
  go_ret
  exact ⟨rfl, rfl⟩
set_option maxHeartbeats 400000 in
theorem rright1 (st : Int) (w : World) : Calls Try.prog 153 #[.int .i64 1, .int .i64 st] w (BoolR (false || (false == decide (st = 0))) w) := by
  by_cases h : st = 0
  · subst h
    go_enter Try.func153, Try.ntmps153
    go_wp2
    go_ret
    exact ⟨by simp, rfl⟩
  · have h1 : (st == 0) = false := by simp [h]
    have h2 : decide (st = 0) = false := by simp [h]
    rw [h2]
    clear h2 h
    go_enter Try.func153, Try.ntmps153
    go_wp2
    go_ret
    exact ⟨by simp, rfl⟩
set_option maxHeartbeats 400000 in
theorem rprio1 (fl : Int) (w : World) (h0 : 0 ≤ fl) (h1 : fl ≤ 255) : Calls Try.prog 188 #[.int .i64 1, .int .i64 fl] w (BoolR (prioB 1 fl) w) := by
  have e : prioB 1 fl = hasB fl 32 := by simp [prioB]
  rw [e]
  clear e
  go_enter Try.func188, Try.ntmps188
  go_wp2_with fail
  refine (hasF fl 32 w h0 h1 (by omega) (by omega)).mono ?_
  rintro e w1 ⟨rfl, rfl⟩
  go_wp2
  go_ret
  exact ⟨by simp, rfl⟩
set_option maxHeartbeats 400000 in
theorem rpad2 (w : World) : Calls Try.prog 186 #[.int .i64 2] w (BoolR false w) := by
  go_enter Try.func186, Try.ntmps186
  go_wp2
  go_ret
  exact ⟨rfl, rfl⟩
set_option maxHeartbeats 400000 in
theorem rright2 (st : Int) (w : World) : Calls Try.prog 153 #[.int .i64 2, .int .i64 st] w (BoolR (false || (false == decide (st = 0))) w) := by
  by_cases h : st = 0
  · subst h
    go_enter Try.func153, Try.ntmps153
    go_wp2
    go_ret
    exact ⟨by simp, rfl⟩
  · have h1 : (st == 0) = false := by simp [h]
    have h2 : decide (st = 0) = false := by simp [h]
    rw [h2]
    clear h2 h
    go_enter Try.func153, Try.ntmps153
    go_wp2
    go_ret
    exact ⟨by simp, rfl⟩
set_option maxHeartbeats 400000 in
theorem rprio2 (fl : Int) (w : World) (h0 : 0 ≤ fl) (h1 : fl ≤ 255) : Calls Try.prog 188 #[.int .i64 2, .int .i64 fl] w (BoolR (prioB 2 fl) w) := by
  have e : prioB 2 fl = true := by simp [prioB]
  rw [e]
  clear e
  go_enter Try.func188, Try.ntmps188
  go_wp2
  go_ret
  exact ⟨rfl, rfl⟩
set_option maxHeartbeats 400000 in
theorem rpad3 (w : World) : Calls Try.prog 186 #[.int .i64 3] w (BoolR false w) := by
  go_enter Try.func186, Try.ntmps186
  go_wp2
  go_ret
  exact ⟨rfl, rfl⟩
set_option maxHeartbeats 400000 in
theorem rright3 (st : Int) (w : World) : Calls Try.prog 153 #[.int .i64 3, .int .i64 st] w (BoolR (false || (false == decide (st = 0))) w) := by
  by_cases h : st = 0
  · subst h
    go_enter Try.func153, Try.ntmps153
    go_wp2
    go_ret
    exact ⟨by simp, rfl⟩
  · have h1 : (st == 0) = false := by simp [h]
    have h2 : decide (st = 0) = false := by simp [h]
    rw [h2]
    clear h2 h
    go_enter Try.func153, Try.ntmps153
    go_wp2
    go_ret
    exact ⟨by simp, rfl⟩
set_option maxHeartbeats 400000 in
theorem rprio3 (fl : Int) (w : World) (h0 : 0 ≤ fl) (h1 : fl ≤ 255) : Calls Try.prog 188 #[.int .i64 3, .int .i64 fl] w (BoolR (prioB 3 fl) w) := by
  have e : prioB 3 fl = false := by simp [prioB]
  rw [e]
  clear e
  go_enter Try.func188, Try.ntmps188
  go_wp2
  go_ret
  exact ⟨rfl, rfl⟩
set_option maxHeartbeats 400000 in
theorem rpad4 (w : World) : Calls Try.prog 186 #[.int .i64 4] w (BoolR false w) := by
  go_enter Try.func186, Try.ntmps186
  go_wp2
  go_ret
  exact ⟨rfl, rfl⟩
set_option maxHeartbeats 400000 in
theorem rright4 (st : Int) (w : World) : Calls Try.prog 153 #[.int .i64 4, .int .i64 st] w (BoolR (false || (true == decide (st = 0))) w) := by
  by_cases h : st = 0
  · subst h
    go_enter Try.func153, Try.ntmps153
    go_wp2
    go_ret
    exact ⟨by simp, rfl⟩
  · have h1 : (st == 0) = false := by simp [h]
    have h2 : decide (st = 0) = false := by simp [h]
    rw [h2]
    clear h2 h
    go_enter Try.func153, Try.ntmps153
    go_wp2
    go_ret
    exact ⟨by simp, rfl⟩
set_option maxHeartbeats 400000 in
theorem rprio4 (fl : Int) (w : World) (h0 : 0 ≤ fl) (h1 : fl ≤ 255) : Calls Try.prog 188 #[.int .i64 4, .int .i64 fl] w (BoolR (prioB 4 fl) w) := by
  have e : prioB 4 fl = false := by simp [prioB]
  rw [e]
  clear e
  go_enter Try.func188, Try.ntmps188
  go_wp2
  go_ret
  exact ⟨rfl, rfl⟩
set_option maxHeartbeats 400000 in
theorem rpad5 (w : World) : Calls Try.prog 186 #[.int .i64 5] w (BoolR true w) := by
  go_enter Try.func186, Try.ntmps186
  go_wp2
  go_ret
  exact ⟨rfl, rfl⟩
set_option maxHeartbeats 400000 in
theorem rright5 (st : Int) (w : World) : Calls Try.prog 153 #[.int .i64 5, .int .i64 st] w (BoolR (false || (false == decide (st = 0))) w) := by
  by_cases h : st = 0
  · subst h
    go_enter Try.func153, Try.ntmps153
    go_wp2
    go_ret
    exact ⟨by simp, rfl⟩
  · have h1 : (st == 0) = false := by simp [h]
    have h2 : decide (st = 0) = false := by simp [h]
    rw [h2]
    clear h2 h
    go_enter Try.func153, Try.ntmps153
    go_wp2
    go_ret
    exact ⟨by simp, rfl⟩
set_option maxHeartbeats 400000 in
theorem rprio5 (fl : Int) (w : World) (h0 : 0 ≤ fl) (h1 : fl ≤ 255) : Calls Try.prog 188 #[.int .i64 5, .int .i64 fl] w (BoolR (prioB 5 fl) w) := by
  have e : prioB 5 fl = false := by simp [prioB]
  rw [e]
  clear e
  go_enter Try.func188, Try.ntmps188
  go_wp2
  go_ret
  exact ⟨rfl, rfl⟩
set_option maxHeartbeats 400000 in
theorem rpad6 (w : World) : Calls Try.prog 186 #[.int .i64 6] w (BoolR false w) := by
  go_enter Try.func186, Try.ntmps186
  go_wp2
  go_ret
  exact ⟨rfl, rfl⟩
set_option maxHeartbeats 400000 in
theorem rright6 (st : Int) (w : World) : Calls Try.prog 153 #[.int .i64 6, .int .i64 st] w (BoolR (false || (true == decide (st = 0))) w) := by
  by_cases h : st = 0
  · subst h
    go_enter Try.func153, Try.ntmps153
    go_wp2
    go_ret
    exact ⟨by simp, rfl⟩
  · have h1 : (st == 0) = false := by simp [h]
    have h2 : decide (st = 0) = false := by simp [h]
    rw [h2]
    clear h2 h
    go_enter Try.func153, Try.ntmps153
    go_wp2
    go_ret
    exact ⟨by simp, rfl⟩
set_option maxHeartbeats 400000 in
theorem rprio6 (fl : Int) (w : World) (h0 : 0 ≤ fl) (h1 : fl ≤ 255) : Calls Try.prog 188 #[.int .i64 6, .int .i64 fl] w (BoolR (prioB 6 fl) w) := by
  have e : prioB 6 fl = false := by simp [prioB]
  rw [e]
  clear e
  go_enter Try.func188, Try.ntmps188
  go_wp2
  go_ret
  exact ⟨rfl, rfl⟩
set_option maxHeartbeats 400000 in
theorem rpad7 (w : World) : Calls Try.prog 186 #[.int .i64 7] w (BoolR false w) := by
  go_enter Try.func186, Try.ntmps186
  go_wp2
  go_ret
  exact ⟨rfl, rfl⟩
set_option maxHeartbeats 400000 in
theorem rright7 (st : Int) (w : World) : Calls Try.prog 153 #[.int .i64 7, .int .i64 st] w (BoolR (false || (true == decide (st = 0))) w) := by
  by_cases h : st = 0
  · subst h
    go_enter Try.func153, Try.ntmps153
    go_wp2
    go_ret
    exact ⟨by simp, rfl⟩
  · have h1 : (st == 0) = false := by simp [h]
    have h2 : decide (st = 0) = false := by simp [h]
    rw [h2]
    clear h2 h
    go_enter Try.func153, Try.ntmps153
    go_wp2
    go_ret
    exact ⟨by simp, rfl⟩
set_option maxHeartbeats 400000 in
theorem rprio7 (fl : Int) (w : World) (h0 : 0 ≤ fl) (h1 : fl ≤ 255) : Calls Try.prog 188 #[.int .i64 7, .int .i64 fl] w (BoolR (prioB 7 fl) w) := by
  have e : prioB 7 fl = false := by simp [prioB]
  rw [e]
  clear e
  go_enter Try.func188, Try.ntmps188
  go_wp2
  go_ret
  exact ⟨rfl, rfl⟩
set_option maxHeartbeats 400000 in
theorem rpad8 (w : World) : Calls Try.prog 186 #[.int .i64 8] w (BoolR false w) := by
  go_enter Try.func186, Try.ntmps186
  go_wp2
  go_ret
  exact ⟨rfl, rfl⟩
set_option maxHeartbeats 400000 in
theorem rright8 (st : Int) (w : World) : Calls Try.prog 153 #[.int .i64 8, .int .i64 st] w (BoolR (true || (false == decide (st = 0))) w) := by
  by_cases h : st = 0
  · subst h
    go_enter Try.func153, Try.ntmps153
    go_wp2
    go_ret
    exact ⟨by simp, rfl⟩
  · have h1 : (st == 0) = false := by simp [h]
    have h2 : decide (st = 0) = false := by simp [h]
    rw [h2]
    clear h2 h
    go_enter Try.func153, Try.ntmps153
    go_wp2
    go_ret
    exact ⟨by simp, rfl⟩
set_option maxHeartbeats 400000 in
theorem rprio8 (fl : Int) (w : World) (h0 : 0 ≤ fl) (h1 : fl ≤ 255) : Calls Try.prog 188 #[.int .i64 8, .int .i64 fl] w (BoolR (prioB 8 fl) w) := by
  have e : prioB 8 fl = false := by simp [prioB]
  rw [e]
  clear e
  go_enter Try.func188, Try.ntmps188
  go_wp2
  go_ret
  exact ⟨rfl, rfl⟩
set_option maxHeartbeats 400000 in
theorem rpad9 (w : World) : Calls Try.prog 186 #[.int .i64 9] w (BoolR false w) := by
  go_enter Try.func186, Try.ntmps186
  go_wp2
  go_ret
  exact ⟨rfl, rfl⟩
set_option maxHeartbeats 400000 in
theorem rright9 (st : Int) (w : World) : Calls Try.prog 153 #[.int .i64 9, .int .i64 st] w (BoolR (false || (false == decide (st = 0))) w) := by
  by_cases h : st = 0
  · subst h
    go_enter Try.func153, Try.ntmps153
    go_wp2
    go_ret
    exact ⟨by simp, rfl⟩
  · have h1 : (st == 0) = false := by simp [h]
    have h2 : decide (st = 0) = false := by simp [h]
    rw [h2]
    clear h2 h
    go_enter Try.func153, Try.ntmps153
    go_wp2
    go_ret
    exact ⟨by simp, rfl⟩
set_option maxHeartbeats 400000 in
theorem rprio9 (fl : Int) (w : World) (h0 : 0 ≤ fl) (h1 : fl ≤ 255) : Calls Try.prog 188 #[.int .i64 9, .int .i64 fl] w (BoolR (prioB 9 fl) w) := by
  have e : prioB 9 fl = false := by simp [prioB]
  rw [e]
  clear e
  go_enter Try.func188, Try.ntmps188
  go_wp2
  go_ret
  exact ⟨rfl, rfl⟩
set_option maxHeartbeats 400000 in
theorem rfourF (n : Int) (w : World) (h0 : 0 ≤ n) (hn : n < 2147483648) : Calls Try.prog 150 #[.int .i64 n] w (OwR 5 (bytesOf n.toNat 4) w) := by
  obtain ⟨n, rfl⟩ := Int.eq_ofNat_of_zero_le h0
  have hp : (2 : Int) ^ 32 = 4294967296 := by decide
  have e : IntKind.u32.wrap (n : Int) = (n : Int) := wraps_u32 _ (by omega) (by omega)
  rw [Int.toNat_natCast]
  have HN := Lib.hid (show n < 4294967296 by omega)
  clear hp hn
  go_enter Try.func150, Try.ntmps150
  go_wp2_with fail
  refine (refPut32_any n w HN.out).mono ?_
  rintro e w1 ⟨A, k, c, rfl, h1, h2⟩
  go_wp2
  go_ret
  exact ⟨_, _, _, rfl, h1, h2⟩
end Go.Proofs.Ytkmcakneceagpaa
