/- frame.kind: settings. -/
import Derived.Test.YtkmcakneceagpaaKin2
set_option linter.unusedVariables false
set_option linter.unusedSimpArgs false
set_option linter.unusedSimpArgs false
namespace Go.Proofs.Ytkmcakneceagpaa
open Go.RowKit

def setOk (s : Int × Int) : Bool := decide (0 ≤ s.1) && decide (s.1 < 65536)
theorem all_of (ss : List (Int × Int)) (h : ∀ j, j < ss.length → setOk (ss.getD j (0, 0)) = true) : ss.all setOk = true := by
  rw [List.all_eq_true]
  intro x hx
  obtain ⟨j, hj, rfl⟩ := List.getElem_of_mem hx
  have := h j hj
  rwa [List.getD_eq_getElem?_getD, List.getElem?_eq_getElem hj] at this
theorem not_all (ss : List (Int × Int)) (j : Nat) (hj : j < ss.length) (h : setOk (ss.getD j (0, 0)) = false) : ss.all setOk = false := by
  rw [List.all_eq_false]
  refine ⟨ss[j], List.getElem_mem hj, ?_⟩
  rw [List.getD_eq_getElem?_getD, List.getElem?_eq_getElem hj] at h
  simpa using h
theorem setsB_eq (fl : Int) (ss : List (Int × Int)) : setsB fl ss = (ss.all setOk && (ss.isEmpty || !hasB fl 1)) := rfl

theorem u8_of {n : Int} (h0 : 0 ≤ n) (h1 : n ≤ 255) : Value.int .u8 n = u8 (byteOf n) := by rw [u8, (u8_byteOf h0 h1).2]
theorem idB_of {n : Int} (h : idB n = true) : 0 ≤ n ∧ n < 2147483648 := by simp [idB] at h; omega
theorem incB_of {n : Int} (h : (decide (1 ≤ n) && decide (n ≤ 2147483647)) = true) : 0 ≤ n ∧ n < 2147483648 := by simp at h; omega
theorem setsB_of {fl : Int} {ss : List (Int × Int)} (h : setsB fl ss = true) : ∀ j, j < ss.length → setOk (ss.getD j (0, 0)) = true := by
  intro j hj
  rw [setsB_eq, Bool.and_eq_true, List.all_eq_true] at h
  rw [List.getD_eq_getElem?_getD, List.getElem?_eq_getElem hj]
  exact h.1 _ (List.getElem_mem hj)
set_option maxHeartbeats 1000000 in
set_option maxRecDepth 100000 in
theorem maySets (f : Fr) (ss : List (Int × Int)) (w0 : World) (hs : Sd w0 f.sA f.sn f.sc ss) (hn : f.sn * 16 ≤ 140737488351232) (h0 : 0 ≤ f.fl) (h1 : f.fl ≤ 255) : Calls Try.prog 173 #[.agg #[.int .i64 f.ty, .int .i64 f.fl, .int .i64 f.st, .slice f.pA f.pn f.pc, .int .i64 f.pad, .int .u32 f.code, .int .i64 f.last, .int .i64 f.inc, .int .i64 f.dep, .bool f.only, .int .i64 f.wt, .slice f.sA f.sn f.sc]] w0 (BoolK (setsB f.fl ss) w0) := by
  have hb := (bits_has f.fl h0 h1).1
  have HBT := Lib.hid hb
  clear hb
  obtain ⟨ty, fl, st, pA, pn, pc, pad, code, last, inc, dep, only, wt, sA, sn, sc⟩ := f
  dsimp only at *
  have HS := Lib.hid hs
  have hsn : sn ≤ 140737488351232 := by omega
  have hlen := hs.len
  have hcap := hs.cap
  clear hs
  go_enter Try.func173, Try.ntmps173
  go_wp2
  have K0 : Kp [] w0 (w0.alloc (.cells #[.int .i64 ty, .int .i64 fl, .int .i64 st, .slice pA pn pc, .int .i64 pad, .int .u32 code, .int .i64 last, .int .i64 inc, .int .i64 dep, .bool only, .int .i64 wt, .slice sA sn sc] 49)) := (Kp.refl _ _).alloc _
  have HB := Lib.hid (hp_new w0 (.cells #[.int .i64 ty, .int .i64 fl, .int .i64 st, .slice pA pn pc, .int .i64 pad, .int .u32 code, .int .i64 last, .int .i64 inc, .int .i64 dep, .bool only, .int .i64 wt, .slice sA sn sc] 49) _ rfl)
  have HS1 := Lib.hid (HS.out.keep K0 (by simp))
  generalize hW : w0.alloc (.cells #[.int .i64 ty, .int .i64 fl, .int .i64 st, .slice pA pn pc, .int .i64 pad, .int .u32 code, .int .i64 last, .int .i64 inc, .int .i64 dep, .bool only, .int .i64 wt, .slice sA sn sc] 49) = w1 at *
  clear hW HS
  have hB := lt_of_heap HB.out
  have HK0 := Lib.hid K0
  clear K0
  have b11 := cell_of HB.out 11
  have b1 := cell_of HB.out 1
  go_wp2
  go_loopw [8] (fun i wr => ∃ k : Nat, k ≤ sn ∧ i = .int .i64 k ∧ Kp [] w1 wr ∧ ∀ j, j < k → setOk (ss.getD j (0, 0)) = true) (fun i _ => sn - (intOf i).toNat)
  case atStart => exact ⟨0, Nat.zero_le _, rfl, Kp.refl _ _, fun j hj => by omega⟩
  case round =>
    obtain ⟨k, hk, rfl, K, hok⟩ := hrel
    have HOK := Lib.hid hok
    clear hok
    by_cases hkl : k < sn
    · obtain ⟨b, off, rfl, hlt, hc⟩ := (HS1.out.keep K (by simp)).at_ (by omega)
      obtain ⟨c0, c1⟩ := hc k hkl
      obtain ⟨⟨x, y⟩, hxy⟩ : ∃ s, ss.getD k (0, 0) = s := ⟨_, rfl⟩
      rw [hxy] at c0 c1
      dsimp only at c0 c1
      have HXY := Lib.hid hxy
      have HK := Lib.hid K
      clear hxy hc K
      have hki : (k : Int) < (sn : Int) := by omega
      by_cases hx0 : 0 ≤ x
      · by_cases hx1 : x < 65536
        · go_wp2
          generalize hW : World.alloc _ _ = w4
          have K4 : Kp [] wr w4 := by rw [← hW]; (repeat (first | with_reducible exact Kp.refl _ _ | with_reducible assumption | with_reducible refine Kp.alloc ?_ _ | with_reducible refine Kp.drew ?_ | with_reducible refine Kp.drewN ?_ _ | (with_reducible refine Kp.setL ?_ ?_ _; focus (simp; done)) | (with_reducible refine Kp.setR ?_ ?_ _; focus (simp; done)) | (with_reducible refine Kp.setR ?_ ?_ _; focus (simp; omega))))
          go_roundw
          case rel =>
            refine ⟨k + 1, by omega, by go_num, HK.out.trans K4, fun j hj => ?_⟩
            by_cases hjk : j = k
            · rw [hjk, HXY.out]; simp [setOk, hx0, hx1]
            · exact HOK.out j (by omega)
          case measure => simp [intOf]; omega
        · go_wp2
          go_ret
          exact ⟨by rw [setsB_eq, not_all ss k (by omega) (by rw [HXY.out]; simp [setOk]; omega)]; rfl, (HK0.out.trans HK.out).trans (by (repeat (first | with_reducible exact Kp.refl _ _ | with_reducible assumption | with_reducible refine Kp.alloc ?_ _ | with_reducible refine Kp.drew ?_ | with_reducible refine Kp.drewN ?_ _ | (with_reducible refine Kp.setL ?_ ?_ _; focus (simp; done)) | (with_reducible refine Kp.setR ?_ ?_ _; focus (simp; done)) | (with_reducible refine Kp.setR ?_ ?_ _; focus (simp; omega)))))⟩
      · go_wp2
        go_ret
        exact ⟨by rw [setsB_eq, not_all ss k (by omega) (by rw [HXY.out]; simp [setOk]; omega)]; rfl, (HK0.out.trans HK.out).trans (by (repeat (first | with_reducible exact Kp.refl _ _ | with_reducible assumption | with_reducible refine Kp.alloc ?_ _ | with_reducible refine Kp.drew ?_ | with_reducible refine Kp.drewN ?_ _ | (with_reducible refine Kp.setL ?_ ?_ _; focus (simp; done)) | (with_reducible refine Kp.setR ?_ ?_ _; focus (simp; done)) | (with_reducible refine Kp.setR ?_ ?_ _; focus (simp; omega)))))⟩
    · obtain rfl : k = sn := by omega
      have hki : ¬ (k : Int) < (k : Int) := by omega
      have c11 := K.cell b11 (by simp)
      have c1 := K.cell b1 (by simp)
      have e : setsB fl ss = (ss.isEmpty || !hasB fl 1) := by rw [setsB_eq, all_of ss (fun j hj => HOK.out j (by omega))]; rfl
      have HK := Lib.hid K
      have HE := Lib.hid e
      clear K HS1 e
      by_cases hz : k = 0
      · subst hz
        obtain rfl : ss = [] := List.eq_nil_of_length_eq_zero hlen
        go_wp2
        go_ret
        exact ⟨by rw [HE.out]; simp, (HK0.out.trans HK.out).trans (by (repeat (first | with_reducible exact Kp.refl _ _ | with_reducible assumption | with_reducible refine Kp.alloc ?_ _ | with_reducible refine Kp.drew ?_ | with_reducible refine Kp.drewN ?_ _ | (with_reducible refine Kp.setL ?_ ?_ _; focus (simp; done)) | (with_reducible refine Kp.setR ?_ ?_ _; focus (simp; done)) | (with_reducible refine Kp.setR ?_ ?_ _; focus (simp; omega)))))⟩
      · have e2 : ss.isEmpty = false := by cases ss with | nil => simp at hlen; omega | cons => rfl
        have HE2 := Lib.hid e2
        clear e2
        have hz1 : ((k : Int) == 0) = false := by simp; omega
        go_wp2
        go_ret
        exact ⟨by rw [HE.out, HE2.out, ← HBT.out]; simp [bne], (HK0.out.trans HK.out).trans (by (repeat (first | with_reducible exact Kp.refl _ _ | with_reducible assumption | with_reducible refine Kp.alloc ?_ _ | with_reducible refine Kp.drew ?_ | with_reducible refine Kp.drewN ?_ _ | (with_reducible refine Kp.setL ?_ ?_ _; focus (simp; done)) | (with_reducible refine Kp.setR ?_ ?_ _; focus (simp; done)) | (with_reducible refine Kp.setR ?_ ?_ _; focus (simp; omega)))))⟩

set_option maxHeartbeats 1000000 in
set_option maxRecDepth 100000 in
theorem putSets (f : Fr) (ss : List (Int × Int)) (w0 : World) (hs : Sd w0 f.sA f.sn f.sc ss) (hn : f.sn * 16 ≤ 140737488351232) (hok : ∀ j, j < ss.length → setOk (ss.getD j (0, 0)) = true) (hu : ∀ j, U32 (ss.getD j (0, 0)).2) : Calls Try.prog 174 #[.agg #[.int .i64 f.ty, .int .i64 f.fl, .int .i64 f.st, .slice f.pA f.pn f.pc, .int .i64 f.pad, .int .u32 f.code, .int .i64 f.last, .int .i64 f.inc, .int .i64 f.dep, .bool f.only, .int .i64 f.wt, .slice f.sA f.sn f.sc]] w0 (RdP (ss.flatMap setW) w0) := by
  have HOK := Lib.hid hok
  have HU := Lib.hid hu
  clear hok hu
  obtain ⟨ty, fl, st, pA, pn, pc, pad, code, last, inc, dep, only, wt, sA, sn, sc⟩ := f
  dsimp only at *
  have HS := Lib.hid hs
  have hsn : sn ≤ 140737488351232 := by omega
  have hlen := hs.len
  have hcap := hs.cap
  clear hs
  go_enter Try.func174, Try.ntmps174
  go_wp2
  have K0 : Kp [] w0 (w0.alloc (.cells #[.int .i64 ty, .int .i64 fl, .int .i64 st, .slice pA pn pc, .int .i64 pad, .int .u32 code, .int .i64 last, .int .i64 inc, .int .i64 dep, .bool only, .int .i64 wt, .slice sA sn sc] 49)) := (Kp.refl _ _).alloc _
  have HB := Lib.hid (hp_new w0 (.cells #[.int .i64 ty, .int .i64 fl, .int .i64 st, .slice pA pn pc, .int .i64 pad, .int .u32 code, .int .i64 last, .int .i64 inc, .int .i64 dep, .bool only, .int .i64 wt, .slice sA sn sc] 49) _ rfl)
  have HS1 := Lib.hid (HS.out.keep K0 (by simp))
  generalize hW : w0.alloc (.cells #[.int .i64 ty, .int .i64 fl, .int .i64 st, .slice pA pn pc, .int .i64 pad, .int .u32 code, .int .i64 last, .int .i64 inc, .int .i64 dep, .bool only, .int .i64 wt, .slice sA sn sc] 49) = w1 at *
  clear hW HS
  have hB := lt_of_heap HB.out
  have HK0 := Lib.hid K0
  clear K0
  have b11 := cell_of HB.out 11
  go_wp2
  go_loopw [3, 11] (fun b i wr => ∃ (k : Nat) (A : Option Addr) (c : Nat), k ≤ sn ∧ i = .int .i64 k ∧ b = .slice A (6 * k) c ∧ Ow wr w1.heap.size 5 1 A (6 * k) c (((ss.take k).flatMap setW).map u8) ∧ Kp [] w1 wr) (fun _ i _ => sn - (intOf i).toNat)
  case atStart => exact ⟨0, none, 0, Nat.zero_le _, rfl, rfl, Ow.nil _ _ _ _, Kp.refl _ _⟩
  case round =>
    obtain ⟨k, A, c, hk, rfl, rfl, O, K⟩ := hrel
    by_cases hkl : k < sn
    · obtain ⟨b, off, rfl, hlt, hc⟩ := (HS1.out.keep K (by simp)).at_ (by omega)
      obtain ⟨c0, c1⟩ := hc k hkl
      have hk1 := HOK.out k (by omega)
      have hk2 := HU.out k
      have htk : (ss.take (k + 1)).flatMap setW = (ss.take k).flatMap setW ++ setW (ss.getD k (0, 0)) := by
        rw [List.take_succ_eq_append_getElem (by omega), List.flatMap_append, List.getD_eq_getElem?_getD, List.getElem?_eq_getElem (by omega)]
        simp
      have HTK := Lib.hid htk
      obtain ⟨⟨xi, yv⟩, hxy⟩ : ∃ s, ss.getD k (0, 0) = s := ⟨_, rfl⟩
      rw [hxy] at c0 c1 hk1 hk2
      have HXY := Lib.hid hxy
      dsimp only at c0 c1 hk2
      simp [setOk] at hk1
      obtain ⟨xi, rfl⟩ := Int.eq_ofNat_of_zero_le hk1.1
      obtain ⟨yv, rfl⟩ := Int.eq_ofNat_of_zero_le hk2.1
      have hx2 : xi < 65536 := by omega
      have hy2 : yv < 4294967296 := by omega
      have HK := Lib.hid K
      have HO := Lib.hid O
      have hki : (k : Int) < (sn : Int) := by omega
      have hcap6 := O.cap
      clear hxy htk hc K O hk1 hk2
      go_wp2_with fail
      generalize hW : World.alloc _ _ = w2
      have K2 : Kp [] wr w2 := by rw [← hW]; (repeat (first | with_reducible exact Kp.refl _ _ | with_reducible assumption | with_reducible refine Kp.alloc ?_ _ | with_reducible refine Kp.drew ?_ | with_reducible refine Kp.drewN ?_ _ | (with_reducible refine Kp.setL ?_ ?_ _; focus (simp; done)) | (with_reducible refine Kp.setR ?_ ?_ _; focus (simp; done)) | (with_reducible refine Kp.setR ?_ ?_ _; focus (simp; omega))))
      have HC2 := Lib.hid (show w2.heap[wr.heap.size]? = some (.cells #[.int .i64 xi, .int .u32 yv] 197) by rw [← hW]; (repeat (first | with_reducible assumption | (with_reducible refine hp_new _ _ _ ?_; focus (simp; done)) | (with_reducible refine (hp_old _ _ _ ?_).trans ?_; focus (first | omega | (simp; done) | (simp; omega))) | (with_reducible refine (hp_far _ _ _ _ ?_).trans ?_; focus (first | (simp; done) | (simp; omega))) | (with_reducible refine (hp_drew _ _).trans ?_) | (with_reducible refine (hp_drewN _ _ _).trans ?_))))
      clear hW
      refine (Put16_any xi w2 (by omega)).mono ?_
      rintro e w3 ⟨Ax, nx, rfl, Rx, hAx, K3⟩
      rw [putR_yes (by omega)] at Rx
      dsimp only at Rx
      have enx := Rx.len
      rw [bytesOf_length] at enx
      subst enx
      have HRx := Lib.hid Rx
      have HC3 := Lib.hid (K3.heap HC2.out (by simp))
      have HO3 := Lib.hid (HO.out.keep (K2.trans K3) (by simp))
      have hob : ∀ t, t ∈ ob A → w1.heap.size ≤ t ∧ t < wr.heap.size := HO.out.base
      have h3s := K3.size
      have h2s := K2.size
      have hs2 := lt_of_heap HC2.out
      have hw1 := HK.out.size
      have HK3 := Lib.hid ((HK.out.trans K2).trans K3)
      have hAx2 : ∀ t, t ∈ ob Ax → t ∉ ob A := fun t h1 h2 => by have := hAx t h1; have := hob t h2; omega
      have hwn : wr.heap.size ∉ ob A := fun h => by have := hob _ h; omega
      clear Rx HC2 HO K2 K3 HK
      rw [putR_yes (by omega)]
      have CQ : ∀ (k : Nat) v, Kp (ob A) w3 v → Kp (ob A) w3 v := fun _ _ h => h
      go_wp2
      refine wp_region_st (by kernel_rfl) [fun _ v _ => v = (.slice A (6 * k) c),
          fun _ v _ => v = (.slice Ax 2 2),
          fun p v w => ∃ x : Option Addr × Nat × Nat, v = .slice x.1 x.2.1 x.2.2 ∧ 1 ≤ p ∧ (p ≤ 2 → Ow w (w1.heap.size) 5 1 x.1 x.2.1 x.2.2 (((ss.take k).flatMap setW ++ bytesOf xi 2).map u8) ∧ x.2.1 = 6 * k + 2 ∧ (∀ t, t ∈ ob x.1 → t ∈ ob A ∨ w3.heap.size ≤ t)),
          fun _ v _ => v = (.pointer (some ⟨wr.heap.size, 1, none⟩)),
          fun _ v _ => v = (.int .u32 yv),
          fun p v w => ∃ x : Option Addr × Nat × Nat, v = .slice x.1 x.2.1 x.2.2 ∧ 2 ≤ p ∧ (p ≤ 2 → Rd w x.1 x.2.1 x.2.2 (bytesOf yv 4) ∧ x.2.1 = 4),
          fun p v w => ∃ x : Option Addr × Nat × Nat, v = .slice x.1 x.2.1 x.2.2 ∧ 3 ≤ p ∧ (p ≤ 3 → Ow w (w1.heap.size) 5 1 x.1 x.2.1 x.2.2 (((ss.take k).flatMap setW ++ bytesOf xi 2 ++ bytesOf yv 4).map u8) ∧ x.2.1 = 6 * (k + 1)),
          fun p v w => ∃ x : Option Addr × Nat × Nat, v = .slice x.1 x.2.1 x.2.2 ∧ 3 ≤ p ∧ (p ≤ 3 → Ow w (w1.heap.size) 5 1 x.1 x.2.1 x.2.2 (((ss.take k).flatMap setW ++ bytesOf xi 2 ++ bytesOf yv 4).map u8) ∧ x.2.1 = 6 * (k + 1))] (fun p w => (p = 0 → Kp [] w3 w) ∧ Kp (ob A) w3 w) (fun p w w' => p = 1 → Kp [] w w') (fun w w' => Kp [] w w') [2, 5, 6] [] (by kernel_rfl) (by kernel_rfl) (by kernel_rfl) (by decide) (by kernel_rfl) ⟨StabAt2.const _, StabAt2.const _, StabAt2.span (f := fun x : Option Addr × Nat × Nat => .slice x.1 x.2.1 x.2.2) (by intro p x w w' h1 h2 h3 hR hG; have K := hR; exact ⟨hG.1.keep (K (by omega)) (by simp), hG.2⟩) (by intro x w w' hR hG; have K := hR; exact ⟨hG.1.keep K (by simp), hG.2⟩), StabAt2.const _, StabAt2.const _, StabAt2.span (f := fun x : Option Addr × Nat × Nat => .slice x.1 x.2.1 x.2.2) (by intro p x w w' h1 h2 h3 hR hG; have K := hR; exact ⟨hG.1.keep (K (by omega)) (by simp), hG.2⟩) (by intro x w w' hR hG; have K := hR; exact ⟨hG.1.keep K (by simp), hG.2⟩), StabAt2.span (f := fun x : Option Addr × Nat × Nat => .slice x.1 x.2.1 x.2.2) (by intro p x w w' h1 h2 h3 hR hG; have K := hR; exact ⟨hG.1.keep (K (by omega)) (by simp), hG.2⟩) (by intro x w w' hR hG; have K := hR; exact ⟨hG.1.keep K (by simp), hG.2⟩), StabAt2.span (f := fun x : Option Addr × Nat × Nat => .slice x.1 x.2.1 x.2.2) (by intro p x w w' h1 h2 h3 hR hG; have K := hR; exact ⟨hG.1.keep (K (by omega)) (by simp), hG.2⟩) (by intro x w w' hR hG; have K := hR; exact ⟨hG.1.keep K (by simp), hG.2⟩), trivial⟩ (⟨fun _ => (Kp.refl _ _).drew, (Kp.refl _ _).drew⟩) ⟨?_, ?_, ?_, ?_, ?_, ?_, ?_, ?_, trivial⟩ (by kernel_rfl) ?_
      · intro q9 a w E hC K hK
        have h3 : a.tmps[3]? = some (.slice A (6 * k) c) := (E.out 3 (by kernel_rfl)).trans rfl
        refine want_none rfl ?_
        go_simp
        exact hK _ rfl
      · intro q9 a w E hC K hK
        have h6 : a.tmps[6]? = some (.slice Ax 2 2) := (E.out 6 (by kernel_rfl)).trans rfl
        refine want_none rfl ?_
        go_simp
        exact hK _ rfl
      · intro a w E hC K hK
        obtain ⟨_, h21, rfl⟩ := E.pred 0 _ 21 rfl rfl (by kernel_rfl)
        obtain ⟨_, h22, rfl⟩ := E.pred 1 _ 22 rfl rfl (by kernel_rfl)
        refine want_none rfl ?_
        refine op_appO (.tmp 21) (.tmp 22) 22 5 rfl Try.underlying22 Try.info5 w1.heap.size A (6 * k) c _ (eval_tmp h21) (HO3.out.keep (hC.1 rfl) (by simp)) Ax 2 2 _ (eval_tmp h22) (HRx.out.keep (hC.1 rfl) (by simp)) (by omega) (by have := hC.2.size; omega) ?_
        intro A' c' w2 O K2 hA'
        exact hK _ _ ⟨⟨A', _, c'⟩, rfl, by omega, fun _ => ⟨O, rfl, fun t ht => by rcases hA' with rfl | rfl; exact .inl ht; simp [ob] at ht; have := hC.2.size; exact .inr (by omega)⟩⟩ ⟨fun h => by omega, hC.2.trans K2⟩ (fun h => by omega)
      · intro q9 a w E hC K hK
        have h5 : a.tmps[5]? = some (.pointer (some ⟨wr.heap.size, 0, none⟩)) := (E.out 5 (by kernel_rfl)).trans rfl
        refine want_none rfl ?_
        go_simp
        exact hK _ rfl
      · intro q9 a w E hC K hK
        obtain ⟨_, h24, rfl⟩ := E.pred 3 _ 24 rfl rfl (by kernel_rfl)
        refine want_none rfl ?_
        have hk := CQ q9 w hC.2
        have hb := hk.heap HC3.out hwn
        have g := cell_of hb 1
        go_simp
        exact hK _ rfl
      · intro a w E hC K hK
        obtain ⟨_, h25, rfl⟩ := E.pred 4 _ 25 rfl rfl (by kernel_rfl)
        refine want_none rfl ?_
        go_simp
        refine (Put32_any yv w hy2).mono ?_
        rintro e w2 ⟨A5, n5, rfl, R5, _, K2⟩
        have e4 := R5.len
        rw [bytesOf_length] at e4
        subst e4
        go_simp
        exact hK _ _ ⟨⟨A5, 4, 4⟩, rfl, by omega, fun _ => ⟨R5, rfl⟩⟩ ⟨fun h => by omega, hC.2.trans K2.nil⟩ (fun _ => K2)
      · intro a w E hC K hK
        obtain ⟨v2, h23, V2⟩ := E.pred 2 _ 23 rfl rfl (by kernel_rfl)
        replace V2 : (fun p v w => ∃ x : Option Addr × Nat × Nat, v = .slice x.1 x.2.1 x.2.2 ∧ 1 ≤ p ∧ (p ≤ 2 → Ow w (w1.heap.size) 5 1 x.1 x.2.1 x.2.2 (((ss.take k).flatMap setW ++ bytesOf xi 2).map u8) ∧ x.2.1 = 6 * k + 2 ∧ (∀ t, t ∈ ob x.1 → t ∈ ob A ∨ w3.heap.size ≤ t))) 2 v2 w := V2
        obtain ⟨v5, h26, V5⟩ := E.pred 5 _ 26 rfl rfl (by kernel_rfl)
        replace V5 : (fun p v w => ∃ x : Option Addr × Nat × Nat, v = .slice x.1 x.2.1 x.2.2 ∧ 2 ≤ p ∧ (p ≤ 2 → Rd w x.1 x.2.1 x.2.2 (bytesOf yv 4) ∧ x.2.1 = 4)) 2 v5 w := V5
        refine want_none rfl ?_
        obtain ⟨⟨A2, n2, c2⟩, rfl, _, G2⟩ := V2
        obtain ⟨O2, rfl, hA2⟩ := G2 (by omega)
        obtain ⟨⟨A5, n5, c5⟩, rfl, _, G5⟩ := V5
        obtain ⟨R5, rfl⟩ := G5 (by omega)
        refine op_appO (.tmp 23) (.tmp 26) 22 5 rfl Try.underlying22 Try.info5 w1.heap.size A2 _ c2 _ (eval_tmp h23) O2 A5 4 c5 _ (eval_tmp h26) R5 (by omega) (by have := hC.2.size; omega) ?_
        intro A' c' w2 O K2 _
        exact hK _ _ ⟨⟨A', _, c'⟩, rfl, by omega, fun _ => ⟨O, by show 6 * k + 2 + 4 = _; omega⟩⟩ ⟨fun h => by omega, hC.2.then K2 hA2⟩ (fun h => by omega)
      · intro q9 a w E hC K hK
        obtain ⟨v6, h27, V6⟩ := E.pred 6 _ 27 rfl rfl (by kernel_rfl)
        replace V6 : (fun p v w => ∃ x : Option Addr × Nat × Nat, v = .slice x.1 x.2.1 x.2.2 ∧ 3 ≤ p ∧ (p ≤ 3 → Ow w (w1.heap.size) 5 1 x.1 x.2.1 x.2.2 (((ss.take k).flatMap setW ++ bytesOf xi 2 ++ bytesOf yv 4).map u8) ∧ x.2.1 = 6 * (k + 1))) q9 v6 w := V6
        refine want_none rfl ?_
        go_simp
        exact hK _ V6
      intro vs w4 hC hV
      have h9 := hV 7 _ rfl (by simp)
      replace h9 : ∃ x : Option Addr × Nat × Nat, vs 7 = .slice x.1 x.2.1 x.2.2 ∧ 3 ≤ 3 ∧ (3 ≤ 3 → Ow w4 w1.heap.size 5 1 x.1 x.2.1 x.2.2 (((ss.take k).flatMap setW ++ bytesOf xi 2 ++ bytesOf yv 4).map u8) ∧ x.2.1 = 6 * (k + 1)) := h9
      obtain ⟨⟨A9, n9, c9⟩, e9, _, G9⟩ := h9
      obtain ⟨O9, hn9⟩ := G9 (Nat.le_refl _)
      dsimp only at e9 O9 hn9
      subst hn9
      have HO9 := Lib.hid O9
      have HK9 := Lib.hid (HK3.out.then hC.2 (fun t ht => .inr (hob t ht).1))
      clear hV O9 hC
      simp only [putAll, Act.put, List.setIfInBounds_toArray]
      dsimp only [List.set]
      rw [e9]
      go_wp2
      go_roundw
      case rel =>
        refine ⟨k + 1, A9, c9, by omega, by go_num, rfl, ?_, HK9.out⟩
        rw [HTK.out, HXY.out]
        simpa [setW, List.append_assoc] using HO9.out
      case measure => simp [intOf]; omega
    · obtain rfl : k = sn := by omega
      have hki : ¬ (k : Int) < (k : Int) := by omega
      have e : ss.take k = ss := List.take_of_length_le (by omega)
      rw [e] at O
      have HO := Lib.hid O
      have HK := Lib.hid K
      clear O K e
      go_wp2
      go_ret
      exact ⟨_, _, _, rfl, HO.out.rd, HK0.out.trans HK.out⟩
end Go.Proofs.Ytkmcakneceagpaa
