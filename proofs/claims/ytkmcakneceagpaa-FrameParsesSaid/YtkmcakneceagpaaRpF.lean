/- The reference's Parse: what SETTINGS reads. -/
import Derived.Test.YtkmcakneceagpaaRpD
set_option linter.unusedVariables false
set_option linter.unusedSimpArgs false
set_option linter.unusedSimpArgs false
namespace Go.Proofs.Ytkmcakneceagpaa
open Go.RowKit
set_option maxHeartbeats 4000000 in
set_option maxRecDepth 100000 in
theorem rfields4 (fl st pad : Int) (A : Option Addr) (n c : Nat) (l : List UInt8) (w : World) (hr : Rd w A n c l) (hn : n ≤ 16777216) (m : Nat) (hm : n = 6 * m) : Calls Try.prog 156 #[.agg #[.int .i64 4, .int .i64 fl, .int .i64 st, .slice none 0 0, .int .i64 pad, .int .u32 0, .int .i64 0, .int .i64 0, .int .i64 0, .bool false, .int .i64 0, .slice none 0 0], .slice A n c] w (FldR (getS (f0S 4 fl st pad) l) w) := by
  have HLEN := Lib.hid hr.len
  have HR := Lib.hid hr
  have HM := Lib.hid hm
  clear hr hm
  go_enter Try.func156, Try.ntmps156
  go_wp2
  generalize hW : World.alloc (World.alloc (World.alloc w _) _) _ = w1
  have hsz : w1.heap.size = w.heap.size + 1 + 1 + 1 := by rw [← hW]; simp
  have K1 : Kp [] w w1 := by rw [← hW]; (repeat (first | with_reducible exact Kp.refl _ _ | with_reducible assumption | with_reducible refine Kp.alloc ?_ _ | with_reducible refine Kp.drew ?_ | with_reducible refine Kp.drewN ?_ _ | (with_reducible refine Kp.setL ?_ ?_ _; focus (simp; done)) | (with_reducible refine Kp.setR ?_ ?_ _; focus (simp; done)) | (with_reducible refine Kp.setR ?_ ?_ _; focus (simp; omega))))
  have HB := Lib.hid (show w1.heap[w.heap.size]? = some (.cells #[.int .i64 4, .int .i64 fl, .int .i64 st, .slice none 0 0, .int .i64 pad, .int .u32 0, .int .i64 0, .int .i64 0, .int .i64 0, .bool false, .int .i64 0, .slice none 0 0] 49) by rw [← hW]; (repeat (first | with_reducible assumption | (with_reducible refine hp_new _ _ _ ?_; focus (simp; done)) | (with_reducible refine (hp_old _ _ _ ?_).trans ?_; focus (first | omega | (simp; done) | (simp; omega))) | (with_reducible refine (hp_far _ _ _ _ ?_).trans ?_; focus (first | (simp; done) | (simp; omega))) | (with_reducible refine (hp_drew _ _).trans ?_) | (with_reducible refine (hp_drewN _ _ _).trans ?_))))
  have HF := Lib.hid (show w1.heap[w.heap.size + 1]? = some (.cells #[.int .i64 0, .int .i64 0, .int .i64 0, .slice none 0 0, .int .i64 0, .int .u32 0, .int .i64 0, .int .i64 0, .int .i64 0, .bool false, .int .i64 0, .slice none 0 0] 49) by rw [← hW]; (repeat (first | with_reducible assumption | (with_reducible refine hp_new _ _ _ ?_; focus (simp; done)) | (with_reducible refine (hp_old _ _ _ ?_).trans ?_; focus (first | omega | (simp; done) | (simp; omega))) | (with_reducible refine (hp_far _ _ _ _ ?_).trans ?_; focus (first | (simp; done) | (simp; omega))) | (with_reducible refine (hp_drew _ _).trans ?_) | (with_reducible refine (hp_drewN _ _ _).trans ?_))))
  have HX := Lib.hid (show w1.heap[w.heap.size + 2]? = some (.cells #[.bool false, .int .i64 0, .int .i64 0] 64) by rw [← hW]; (repeat (first | with_reducible assumption | (with_reducible refine hp_new _ _ _ ?_; focus (simp; done)) | (with_reducible refine (hp_old _ _ _ ?_).trans ?_; focus (first | omega | (simp; done) | (simp; omega))) | (with_reducible refine (hp_far _ _ _ _ ?_).trans ?_; focus (first | (simp; done) | (simp; omega))) | (with_reducible refine (hp_drew _ _).trans ?_) | (with_reducible refine (hp_drewN _ _ _).trans ?_))))
  have HK := Lib.hid K1
  clear hW K1
  clear hsz
  have hlx := lt_of_heap HX.out
  go_loopw [6] (fun v wr => ∃ (k : Nat) (sA : Option Addr) (sc : Nat), k ≤ m ∧ v = .int .i64 ((6 * k : Nat) : Int) ∧ wr.heap[w.heap.size]? = some (.cells #[.int .i64 4, .int .i64 fl, .int .i64 st, .slice none 0 0, .int .i64 pad, .int .u32 0, .int .i64 0, .int .i64 0, .int .i64 0, .bool false, .int .i64 0, .slice sA k sc] 49) ∧ wr.heap[w.heap.size + 1]? = some (.cells #[.int .i64 0, .int .i64 0, .int .i64 0, .slice none 0 0, .int .i64 0, .int .u32 0, .int .i64 0, .int .i64 0, .int .i64 0, .bool false, .int .i64 0, .slice none 0 0] 49) ∧ wr.heap[w.heap.size + 2]? = some (.cells #[.bool false, .int .i64 0, .int .i64 0] 64) ∧ Ow wr w1.heap.size 197 2 sA k sc ((setsS l k).flatMap setC) ∧ Kp [] w wr ∧ w1.heap.size ≤ wr.heap.size) (fun v _ => 6 * m - (intOf v).toNat)
  case atStart => exact ⟨0, none, 0, Nat.zero_le _, rfl, HB.out, HF.out, HX.out, Ow.nil _ _ _ _, HK.out, Nat.le_refl _⟩
  case round =>
    obtain ⟨k, sA, sc, hk, rfl, hb, hf, hx, hO, hK, hsw⟩ := hrel
    obtain ⟨i, hi⟩ : ∃ i, 6 * k = i := ⟨_, rfl⟩
    rw [hi]
    have HI := Lib.hid hi
    clear HB HF HX HK
    have HB := Lib.hid hb
    have HF := Lib.hid hf
    have HX := Lib.hid hx
    have HO := Lib.hid hO
    have HK := Lib.hid hK
    by_cases hkm : k < m
    · have hin : (i : Int) < (n : Int) := by have := HM.out; omega
      have hin2 : i + 6 ≤ n := by have := HM.out; omega
      clear hi hb hf hx hO hK
      go_wp2_with fail
      generalize hW : World.alloc _ _ = w2
      obtain ⟨K2, hy⟩ := new_at hW
      have HY2 := Lib.hid hy
      clear hW hy
      have hU := refU16_at A n c i l w2 (by omega) (HR.out.keep (HK.out.trans K2) (by simp)) (by omega)
      obtain ⟨u, hu⟩ : ∃ u, n16 l i = u := ⟨_, rfl⟩
      rw [hu] at hU
      have HU := Lib.hid hu
      clear hu
      refine hU.mono ?_
      clear hU
      rintro e w3 ⟨p3, q3, rfl, K3⟩
      have HY3 := Lib.hid (K3.heap HY2.out (by simp))
      have K23 := K2.trans K3
      have y0 := cell_of HY3.out 0
      have y1 := cell_of HY3.out 1
      have yz := frozen_of HY3.out
      have hy3 := lt_of_heap HY3.out
      go_wp2_with fail
      generalize hW : World.setCell _ _ _ = w4
      have K4 : Kp [wr.heap.size] w3 w4 := by rw [← hW]; exact (Kp.refl _ _).setCell (.inl (by simp)) _
      have HY4 := Lib.hid (show w4.heap[wr.heap.size]? = some (.cells #[.int .i64 u, .int .u32 0] 197) by rw [← hW]; exact hp_set _ _ _ _ _ _ HY3.out)
      have K24 : Kp [] wr w4 := K23.then K4 (by simp)
      clear hW y0 y1 yz hy3 K4 K23 K2 K3
      have hU := refU32_at A n c (i + 2) l w4 (by omega) (HR.out.keep (HK.out.trans K24) (by simp)) (by omega)
      obtain ⟨z, hz⟩ : ∃ z, n32 l (i + 2) = z := ⟨_, rfl⟩
      rw [show ((i + 2 : Nat) : Int) = (i : Int) + 2 from by omega, hz] at hU
      have HZ := Lib.hid hz
      clear hz
      refine hU.mono ?_
      clear hU
      rintro e w5 ⟨p5, q5, rfl, K5⟩
      have HY5 := Lib.hid (K5.heap HY4.out (by simp))
      have K25 := K24.trans K5
      have y0 := cell_of HY5.out 0
      have y1 := cell_of HY5.out 1
      have yz := frozen_of HY5.out
      have hy5 := lt_of_heap HY5.out
      have HB5 := Lib.hid (K25.heap HB.out (by simp))
      have b11 := cell_of HB5.out 11
      have bl := lt_of_heap HB5.out
      go_wp2_with (with_reducible refine stopAt (o := ⟨some 75, _, _, _, _, _⟩) ?_)
      generalize hW : World.alloc _ _ = w7
      have K57 : Kp [wr.heap.size] w5 w7 := by rw [← hW]; exact ((Kp.refl _ _).setCell (.inl (by simp)) _).alloc _
      have HN7 := Lib.hid (show w7.heap[w5.heap.size]? = some (.cells #[.int .i64 u, .int .u32 z] 197) by rw [← hW]; (repeat (first | with_reducible assumption | (with_reducible refine hp_new _ _ _ ?_; focus (simp; done)) | (with_reducible refine (hp_old _ _ _ ?_).trans ?_; focus (first | omega | (simp; done) | (simp; omega))) | (with_reducible refine (hp_far _ _ _ _ ?_).trans ?_; focus (first | (simp; done) | (simp; omega))) | (with_reducible refine (hp_drew _ _).trans ?_) | (with_reducible refine (hp_drewN _ _ _).trans ?_))))
      have K27 : Kp [] wr w7 := K25.then K57 (by simp)
      have HO7 := Lib.hid (HO.out.keep K27 (by simp))
      have hs7 := K27.size
      clear hW y0 y1 yz hy5 K57 K25 K24 K5
      have hk16 : k ≤ 16777216 := by have := HM.out; omega
      refine Stop.go (wp_app rfl _ _ 47 197 (.agg #[.int .i64 0, .int .u32 0]) 2 16 rfl Try.underlying47 infoSet rfl (by omega) w1.heap.size sA k sc _ rfl HO7.out (some ⟨w5.heap.size, 0, none⟩) 1 1 (setC (u, z)) rfl rfl (At.block HN7.out 0 _ rfl) (by intro u hu; simp [setC] at hu; rcases hu with rfl | rfl <;> rfl) (by simp only [maxLen]; omega) (by omega) (by omega) ?_)
      intro A7 k7 c7 w8 hk7 O7 K7 hA7
      obtain rfl : k7 = k + 1 := hk7.out
      have hob := HO7.out.base
      have HO8 := Lib.hid O7
      have hne : ∀ t, t ∈ ob sA → w1.heap.size ≤ t := fun t ht => (hob t ht).1
      have HB8 := Lib.hid (K7.heap (K27.heap HB.out (by simp)) (by intro h; have := hne _ h; omega))
      have HF8 := Lib.hid (K7.heap (K27.heap HF.out (by simp)) (by intro h; have := hne _ h; omega))
      have HX8 := Lib.hid (K7.heap (K27.heap HX.out (by simp)) (by intro h; have := hne _ h; omega))
      have HK8 := Lib.hid ((HK.out.trans K27).then K7 (by intro t ht; have := hne _ ht; right; omega))
      have hs8 := K7.size
      have hgA : w.heap.size ∉ ob A7 := by intro h; rcases hA7 with e | e; rw [e] at h; have := hne _ h; omega; rw [e] at h; simp [ob] at h; omega
      clear O7 K7 hA7 hk7 HO7 HN7 HB HF HX HK HO b11 bl HB5
      have b11 := cell_of HB8.out 11
      have bz := frozen_of HB8.out
      have bl := lt_of_heap HB8.out
      go_wp2
      go_roundw
      case rel =>
        refine ⟨k + 1, A7, c7, by omega, ?_, hp_set _ _ _ _ _ _ HB8.out, (hp_far _ _ _ _ (by simp)).trans HF8.out, (hp_far _ _ _ _ (by simp)).trans HX8.out, ?_, HK8.out.then ((Kp.refl [w.heap.size] w8).setCell (.inl (by simp)) _) (by simp), by simp; omega⟩
        · have := HI.out; rw [show ((6 * (k + 1) : Nat) : Int) = (i : Int) + 6 by omega]
        · refine Ow.keep (S := [w.heap.size]) ?_ ((Kp.refl _ _).setCell (.inl (by simp)) _) (by intro t h1 h2; simp at h2; subst h2; exact hgA h1)
          show Ow _ _ _ _ _ _ _ ((setsS l k ++ [(n16 l (6 * k), n32 l (6 * k + 2))]).flatMap setC)
          rw [HI.out, HU.out, HZ.out, List.flatMap_append]
          simpa using HO8.out
      case measure => simp [intOf]; have := HM.out; omega
    · obtain rfl : k = m := by omega
      have hin : ¬ (i : Int) < (n : Int) := by have := HM.out; omega
      clear hi hb hf hx hO hK
      obtain ⟨q0, q1, q2, q3, q4, q5, q6, q7, q8, q9, q10, q11, qz, qlt, qlt2⟩ := cellsF HB.out
      obtain ⟨z0, z1, z2, z3, z4, z5, z6, z7, z8, z9, z10, z11, zz, zlt, zlt2⟩ := cellsF HF.out
      have x0 := cell_of HX.out 0
      have x1 := cell_of HX.out 1
      have x2 := cell_of HX.out 2
      have xz := frozen_of HX.out
      go_wp2
      generalize hW : World.setCell _ _ _ = W
      obtain ⟨HF9, HX9, K9⟩ : W.heap[w.heap.size + 1]? = some (.cells #[.int .i64 4, .int .i64 fl, .int .i64 st, .slice none 0 0, .int .i64 pad, .int .u32 0, .int .i64 0, .int .i64 0, .int .i64 0, .bool false, .int .i64 0, .slice sA k sc] 49) ∧ W.heap[w.heap.size + 2]? = some (.cells #[.bool false, .int .i64 0, .int .i64 0] 64) ∧ Kp [w.heap.size + 1, w.heap.size + 2] wr W := by rw [← hW]; exact set15 (by omega) HF.out HX.out
      have eg : getS (f0S 4 fl st pad) l = ⟨4, fl, st, [], pad, 0, 0, 0, 0, false, 0, setsS l k⟩ := by
        have e6 : l.length / 6 = k := by have := HLEN.out; have := HM.out; omega
        simp [getS, f0S, e6]
      refine bodyPost_ret (v := .tuple #[.agg #[.int .i64 4, .int .i64 fl, .int .i64 st, .slice none 0 0, .int .i64 pad, .int .u32 0, .int .i64 0, .int .i64 0, .int .i64 0, .bool false, .int .i64 0, .slice sA k sc], .agg #[.bool false, .int .i64 0, .int .i64 0]]) (by simp [results, Try.results156, go_sem, cell_of HF9, cell_of HX9]) rfl ⟨(⟨4, fl, st, none, 0, 0, pad, 0, 0, 0, 0, false, 0, sA, k, sc⟩ : Fr), rfl, ?_, HK.out.then K9 (by simp)⟩
      rw [eg]
      have hb9 := HO.out.base
      exact ⟨rfl, Rd.nil _ _ _, Sd.ofOw (HO.out.keep K9 (by intro t h1 h2; have := (hb9 t h1).1; simp at h2; omega)) (setsS_len l k) (setsS_val l k), by simp [ob], fun t ht => by have := (hb9 t ht).1; omega⟩
end Go.Proofs.Ytkmcakneceagpaa
