/- frame.Parse: a frame that is longer than may be. -/
import Derived.Test.YtkmcakneceagpaaPrs
import Derived.Test.YtkmcakneceagpaaSco
import Derived.Outline
set_option linter.unusedVariables false
set_option linter.unusedSimpArgs false
set_option linter.unusedSimpArgs false
namespace Go.Proofs.Ytkmcakneceagpaa
open Go.RowKit

theorem head_of {l : List UInt8} (h : ¬ l.length < 9) : headR l = (be (l.take 3), (l.getD 3 0).toNat, (l.getD 4 0).toNat, be ((l.drop 5).take 4) % 2147483648, 0) := by
  unfold headR
  rw [if_neg h]
  have h1 : num 3 l 0 = (be ((l.drop 0).take 3), ((0 : Nat) : Int) + 3, 0) := num_ok (k := 3) (l := l) (i := 0) (by omega)
  have h2 : num 4 l 5 = (be ((l.drop 5).take 4), ((5 : Nat) : Int) + 4, 0) := num_ok (k := 4) (l := l) (i := 5) (by omega)
  rw [h1, h2]
  simp

set_option maxHeartbeats 2000000 in
set_option maxRecDepth 100000 in
theorem parseLong (A : Option Addr) (n c : Nat) (l : List UInt8) (most : Int) (w : World) (hr : Rd w A n c l) (hn : n ≤ 281474976710656) (hm : 0 ≤ most) (h9 : ¬ n < 9) (N : Nat) (hN : be (l.take 3) = N) (hb : most < (N : Int)) : Calls Try.prog 100 #[.slice A n c, .int .i64 most] w (ParseR (.bad 9 0 6) w) := by
  have HR := Lib.hid hr
  have e := head_of (l := l) (by rw [hr.len]; exact h9)
  rw [hN] at e
  obtain ⟨T, hT⟩ : ∃ T, (l.getD 3 0).toNat = T := ⟨_, rfl⟩
  obtain ⟨F, hF⟩ : ∃ F, (l.getD 4 0).toNat = F := ⟨_, rfl⟩
  obtain ⟨S, hS⟩ : ∃ S, be ((l.drop 5).take 4) % 2147483648 = S := ⟨_, rfl⟩
  rw [hT, hF, hS] at e
  have HH := Lib.hid e
  clear hr e hT hF hS hN
  go_enter Try.func100, Try.ntmps100
  go_wp2_with fail
  refine wp_scope_once 0 rfl ?_
  go_wp2_with fail
  generalize hW : World.alloc _ _ = w1
  have K1 : Kp [] w w1 := by rw [← hW]; (repeat (first | with_reducible exact Kp.refl _ _ | with_reducible assumption | with_reducible refine Kp.alloc ?_ _ | with_reducible refine Kp.drew ?_ | with_reducible refine Kp.drewN ?_ _ | (with_reducible refine Kp.setL ?_ ?_ _; focus (simp; done)) | (with_reducible refine Kp.setR ?_ ?_ _; focus (simp; done)) | (with_reducible refine Kp.setR ?_ ?_ _; focus (simp; omega))))
  have HF := Lib.hid (show w1.heap[w.heap.size]? = some (.cells #[.int .i64 0, .int .i64 0, .int .i64 0, .slice none 0 0, .int .i64 0, .int .u32 0, .int .i64 0, .int .i64 0, .int .i64 0, .bool false, .int .i64 0, .slice none 0 0] 49) by rw [← hW]; (repeat (first | with_reducible assumption | (with_reducible refine hp_new _ _ _ ?_; focus (simp; done)) | (with_reducible refine (hp_old _ _ _ ?_).trans ?_; focus (first | omega | (simp; done) | (simp; omega))) | (with_reducible refine (hp_far _ _ _ _ ?_).trans ?_; focus (first | (simp; done) | (simp; omega))) | (with_reducible refine (hp_drew _ _).trans ?_) | (with_reducible refine (hp_drewN _ _ _).trans ?_))))
  have HX := Lib.hid (show w1.heap[w.heap.size + 1]? = some (.cells #[.bool false, .int .i64 0, .int .i64 0] 64) by rw [← hW]; (repeat (first | with_reducible assumption | (with_reducible refine hp_new _ _ _ ?_; focus (simp; done)) | (with_reducible refine (hp_old _ _ _ ?_).trans ?_; focus (first | omega | (simp; done) | (simp; omega))) | (with_reducible refine (hp_far _ _ _ _ ?_).trans ?_; focus (first | (simp; done) | (simp; omega))) | (with_reducible refine (hp_drew _ _).trans ?_) | (with_reducible refine (hp_drewN _ _ _).trans ?_))))
  clear hW
  refine (Head_big A n c l w1 hn (HR.out.keep K1 (by simp))).mono ?_
  rintro e w2 ⟨rfl, K2⟩
  rw [HH.out]
  dsimp only
  have HF2 := Lib.hid (K2.heap HF.out (by simp))
  have HX2 := Lib.hid (K2.heap HX.out (by simp))
  have HK2 := Lib.hid (K1.trans K2)
  clear HF HX K1 K2
  obtain ⟨q0, q1, q2, q3, q4, q5, q6, q7, q8, q9, q10, q11, qz, qlt, qlt2⟩ := cellsF HF2.out
  have x0 := cell_of HX2.out 0
  have x1 := cell_of HX2.out 1
  have x2 := cell_of HX2.out 2
  have xz := frozen_of HX2.out
  go_wp2
  go_step3
  refine And.intro rfl ?_
  go_wp2
  go_region
  go_wp2
  rw [jump_ret]
  generalize hW : World.setCell _ _ _ = W
  obtain ⟨HF9, HX9, K9⟩ : W.heap[w.heap.size]? = some (.cells #[.int .i64 0, .int .i64 0, .int .i64 0, .slice none 0 0, .int .i64 0, .int .u32 0, .int .i64 0, .int .i64 0, .int .i64 0, .bool false, .int .i64 0, .slice none 0 0] 49) ∧ W.heap[w.heap.size + 1]? = some (.cells #[.bool true, .int .i64 0, .int .i64 6] 64) ∧ Kp [w.heap.size, w.heap.size + 1] (World.setCell (World.setCell w2 ⟨w.heap.size + 1, 0, none⟩ (.bool true)) ⟨w.heap.size + 1, 2, none⟩ (.int .i64 6)) W := by rw [← hW]; exact set15 (by omega) ((hp_far _ _ _ _ (by simp)).trans ((hp_far _ _ _ _ (by simp)).trans HF2.out)) (sx2 (sx0 HX2.out))
  refine bodyPost_ret (v := .tuple #[.agg #[.int .i64 0, .int .i64 0, .int .i64 0, .slice none 0 0, .int .i64 0, .int .u32 0, .int .i64 0, .int .i64 0, .int .i64 0, .bool false, .int .i64 0, .slice none 0 0], .int .i64 9, .agg #[.bool true, .int .i64 0, .int .i64 6], .int .i64 0]) (by simp [results, Try.results100, go_sem, cell_of HF9, cell_of HX9]) rfl ⟨(⟨0, 0, 0, none, 0, 0, 0, 0, 0, 0, 0, false, 0, none, 0, 0⟩ : Fr), rfl, FrP.zero _ _, ((HK2.out.then (((Kp.refl [w.heap.size + 1] w2).setCell (.inl (by simp)) (.bool true)).setCell (.inl (by simp)) (.int .i64 6)) (by simp)).then K9 (by simp)).drew⟩

set_option maxHeartbeats 2000000 in
set_option maxRecDepth 100000 in
theorem parseCut (A : Option Addr) (n c : Nat) (l : List UInt8) (most : Int) (w : World) (hr : Rd w A n c l) (hn : n ≤ 281474976710656) (hm : 0 ≤ most) (h9 : ¬ n < 9) (N : Nat) (hN : be (l.take 3) = N) (hb : ¬ most < (N : Int)) (hc : n < 9 + N) : Calls Try.prog 100 #[.slice A n c, .int .i64 most] w (ParseR (.no 0 3) w) := by
  have HR := Lib.hid hr
  have e := head_of (l := l) (by rw [hr.len]; exact h9)
  rw [hN] at e
  have HN2 := Lib.hid (show N < 16777216 by have := be_take_lt l 3; rw [hN] at this; have e3 : (256 : Nat) ^ 3 = 16777216 := by decide
                                            omega)
  obtain ⟨T, hT⟩ : ∃ T, (l.getD 3 0).toNat = T := ⟨_, rfl⟩
  obtain ⟨F, hF⟩ : ∃ F, (l.getD 4 0).toNat = F := ⟨_, rfl⟩
  obtain ⟨S, hS⟩ : ∃ S, be ((l.drop 5).take 4) % 2147483648 = S := ⟨_, rfl⟩
  rw [hT, hF, hS] at e
  have HH := Lib.hid e
  clear hr e hT hF hS hN
  go_enter Try.func100, Try.ntmps100
  go_wp2_with fail
  refine wp_scope_once 0 rfl ?_
  go_wp2_with fail
  generalize hW : World.alloc _ _ = w1
  have K1 : Kp [] w w1 := by rw [← hW]; (repeat (first | with_reducible exact Kp.refl _ _ | with_reducible assumption | with_reducible refine Kp.alloc ?_ _ | with_reducible refine Kp.drew ?_ | with_reducible refine Kp.drewN ?_ _ | (with_reducible refine Kp.setL ?_ ?_ _; focus (simp; done)) | (with_reducible refine Kp.setR ?_ ?_ _; focus (simp; done)) | (with_reducible refine Kp.setR ?_ ?_ _; focus (simp; omega))))
  have HF := Lib.hid (show w1.heap[w.heap.size]? = some (.cells #[.int .i64 0, .int .i64 0, .int .i64 0, .slice none 0 0, .int .i64 0, .int .u32 0, .int .i64 0, .int .i64 0, .int .i64 0, .bool false, .int .i64 0, .slice none 0 0] 49) by rw [← hW]; (repeat (first | with_reducible assumption | (with_reducible refine hp_new _ _ _ ?_; focus (simp; done)) | (with_reducible refine (hp_old _ _ _ ?_).trans ?_; focus (first | omega | (simp; done) | (simp; omega))) | (with_reducible refine (hp_far _ _ _ _ ?_).trans ?_; focus (first | (simp; done) | (simp; omega))) | (with_reducible refine (hp_drew _ _).trans ?_) | (with_reducible refine (hp_drewN _ _ _).trans ?_))))
  have HX := Lib.hid (show w1.heap[w.heap.size + 1]? = some (.cells #[.bool false, .int .i64 0, .int .i64 0] 64) by rw [← hW]; (repeat (first | with_reducible assumption | (with_reducible refine hp_new _ _ _ ?_; focus (simp; done)) | (with_reducible refine (hp_old _ _ _ ?_).trans ?_; focus (first | omega | (simp; done) | (simp; omega))) | (with_reducible refine (hp_far _ _ _ _ ?_).trans ?_; focus (first | (simp; done) | (simp; omega))) | (with_reducible refine (hp_drew _ _).trans ?_) | (with_reducible refine (hp_drewN _ _ _).trans ?_))))
  clear hW
  refine (Head_big A n c l w1 hn (HR.out.keep K1 (by simp))).mono ?_
  rintro e w2 ⟨rfl, K2⟩
  rw [HH.out]
  dsimp only
  have HF2 := Lib.hid (K2.heap HF.out (by simp))
  have HX2 := Lib.hid (K2.heap HX.out (by simp))
  have HK2 := Lib.hid (K1.trans K2)
  clear HF HX K1 K2
  obtain ⟨q0, q1, q2, q3, q4, q5, q6, q7, q8, q9, q10, q11, qz, qlt, qlt2⟩ := cellsF HF2.out
  have x0 := cell_of HX2.out 0
  have x1 := cell_of HX2.out 1
  have x2 := cell_of HX2.out 2
  have xz := frozen_of HX2.out
  have hN2 : N < 16777216 := HN2.out
  go_wp2
  go_region
  go_wp2
  rw [jump_ret]
  generalize hW : World.setCell _ _ _ = W
  obtain ⟨HF9, HX9, K9⟩ : W.heap[w.heap.size]? = some (.cells #[.int .i64 0, .int .i64 0, .int .i64 0, .slice none 0 0, .int .i64 0, .int .u32 0, .int .i64 0, .int .i64 0, .int .i64 0, .bool false, .int .i64 0, .slice none 0 0] 49) ∧ W.heap[w.heap.size + 1]? = some (.cells #[.bool false, .int .i64 0, .int .i64 0] 64) ∧ Kp [w.heap.size, w.heap.size + 1] w2 W := by rw [← hW]; exact set15 (by omega) HF2.out HX2.out
  refine bodyPost_ret (v := .tuple #[.agg #[.int .i64 0, .int .i64 0, .int .i64 0, .slice none 0 0, .int .i64 0, .int .u32 0, .int .i64 0, .int .i64 0, .int .i64 0, .bool false, .int .i64 0, .slice none 0 0], .int .i64 0, .agg #[.bool false, .int .i64 0, .int .i64 0], .int .i64 3]) (by simp [results, Try.results100, go_sem, cell_of HF9, cell_of HX9]) rfl ⟨(⟨0, 0, 0, none, 0, 0, 0, 0, 0, 0, 0, false, 0, none, 0, 0⟩ : Fr), rfl, FrP.zero _ _, (HK2.out.then K9 (by simp)).drew⟩

set_option maxHeartbeats 2000000 in
set_option maxRecDepth 100000 in
theorem parseUnknown (A : Option Addr) (n c : Nat) (l : List UInt8) (most : Int) (w : World) (hr : Rd w A n c l) (hn : n ≤ 281474976710656) (hm : 0 ≤ most) (h9 : ¬ n < 9) (N : Nat) (hN : be (l.take 3) = N) (hb : ¬ most < (N : Int)) (hc : ¬ n < 9 + N) (T F S : Nat) (hT : (l.getD 3 0).toNat = T) (hF : (l.getD 4 0).toNat = F) (hS : be ((l.drop 5).take 4) % 2147483648 = S) (hkn : knownB (T : Int) = false) : Calls Try.prog 100 #[.slice A n c, .int .i64 most] w (ParseR ⟨f0S T F S 0, 9 + N, false, 0, 0, 0⟩ w) := by
  have HR := Lib.hid hr
  have e := head_of (l := l) (by rw [hr.len]; exact h9)
  rw [hN] at e
  have HN2 := Lib.hid (show N < 16777216 by have := be_take_lt l 3; rw [hN] at this; have e3 : (256 : Nat) ^ 3 = 16777216 := by decide
                                            omega)
  have HKN := Lib.hid hkn
  rw [hT, hF, hS] at e
  have HH := Lib.hid e
  clear hr e hT hF hS hN hkn
  go_enter Try.func100, Try.ntmps100
  go_wp2_with fail
  refine wp_scope_once 0 rfl ?_
  go_wp2_with fail
  generalize hW : World.alloc _ _ = w1
  have K1 : Kp [] w w1 := by rw [← hW]; (repeat (first | with_reducible exact Kp.refl _ _ | with_reducible assumption | with_reducible refine Kp.alloc ?_ _ | with_reducible refine Kp.drew ?_ | with_reducible refine Kp.drewN ?_ _ | (with_reducible refine Kp.setL ?_ ?_ _; focus (simp; done)) | (with_reducible refine Kp.setR ?_ ?_ _; focus (simp; done)) | (with_reducible refine Kp.setR ?_ ?_ _; focus (simp; omega))))
  have HF := Lib.hid (show w1.heap[w.heap.size]? = some (.cells #[.int .i64 0, .int .i64 0, .int .i64 0, .slice none 0 0, .int .i64 0, .int .u32 0, .int .i64 0, .int .i64 0, .int .i64 0, .bool false, .int .i64 0, .slice none 0 0] 49) by rw [← hW]; (repeat (first | with_reducible assumption | (with_reducible refine hp_new _ _ _ ?_; focus (simp; done)) | (with_reducible refine (hp_old _ _ _ ?_).trans ?_; focus (first | omega | (simp; done) | (simp; omega))) | (with_reducible refine (hp_far _ _ _ _ ?_).trans ?_; focus (first | (simp; done) | (simp; omega))) | (with_reducible refine (hp_drew _ _).trans ?_) | (with_reducible refine (hp_drewN _ _ _).trans ?_))))
  have HX := Lib.hid (show w1.heap[w.heap.size + 1]? = some (.cells #[.bool false, .int .i64 0, .int .i64 0] 64) by rw [← hW]; (repeat (first | with_reducible assumption | (with_reducible refine hp_new _ _ _ ?_; focus (simp; done)) | (with_reducible refine (hp_old _ _ _ ?_).trans ?_; focus (first | omega | (simp; done) | (simp; omega))) | (with_reducible refine (hp_far _ _ _ _ ?_).trans ?_; focus (first | (simp; done) | (simp; omega))) | (with_reducible refine (hp_drew _ _).trans ?_) | (with_reducible refine (hp_drewN _ _ _).trans ?_))))
  clear hW
  refine (Head_big A n c l w1 hn (HR.out.keep K1 (by simp))).mono ?_
  rintro e w2 ⟨rfl, K2⟩
  rw [HH.out]
  dsimp only
  have HF2 := Lib.hid (K2.heap HF.out (by simp))
  have HX2 := Lib.hid (K2.heap HX.out (by simp))
  have HK2 := Lib.hid (K1.trans K2)
  clear HF HX K1 K2
  obtain ⟨q0, q1, q2, q3, q4, q5, q6, q7, q8, q9, q10, q11, qz, qlt, qlt2⟩ := cellsF HF2.out
  have x0 := cell_of HX2.out 0
  have x1 := cell_of HX2.out 1
  have x2 := cell_of HX2.out 2
  have xz := frozen_of HX2.out
  have hN2 : N < 16777216 := HN2.out
  go_wp2_with fail
  generalize hW : World.setCell _ _ _ = w3
  have HF3 := Lib.hid (show w3.heap[w.heap.size]? = some (.cells #[.int .i64 T, .int .i64 F, .int .i64 S, .slice none 0 0, .int .i64 0, .int .u32 0, .int .i64 0, .int .i64 0, .int .i64 0, .bool false, .int .i64 0, .slice none 0 0] 49) by rw [← hW]; exact sf11 (sf10 (sf9 (sf8 (sf7 (sf6 (sf5 (sf4 (sf3 (sf2 (sf1 (sf0 (HF2.out)))))))))))))
  have K3 : Kp [w.heap.size] w2 w3 := by rw [← hW]; exact (((((((((((((Kp.refl _ _).setCell (.inl (by simp)) _).setCell (.inl (by simp)) _).setCell (.inl (by simp)) _).setCell (.inl (by simp)) _).setCell (.inl (by simp)) _).setCell (.inl (by simp)) _).setCell (.inl (by simp)) _).setCell (.inl (by simp)) _).setCell (.inl (by simp)) _).setCell (.inl (by simp)) _).setCell (.inl (by simp)) _).setCell (.inl (by simp)) _)
  have HX3 := Lib.hid (K3.heap HX2.out (by simp))
  have HK3 := Lib.hid (HK2.out.then K3 (by simp))
  clear hW K3 HF2 HX2 HK2 q0 q1 q2 q3 q4 q5 q6 q7 q8 q9 q10 q11 qz qlt qlt2 x0 x1 x2 xz
  obtain ⟨q0, q1, q2, q3, q4, q5, q6, q7, q8, q9, q10, q11, qz, qlt, qlt2⟩ := cellsF HF3.out
  have x0 := cell_of HX3.out 0
  have x1 := cell_of HX3.out 1
  have x2 := cell_of HX3.out 2
  have xz := frozen_of HX3.out
  refine (Known_any (T : Int) _).mono ?_
  rintro e w4 ⟨rfl, rfl⟩
  rw [HKN.out]
  go_wp2
  go_region
  go_wp2
  rw [jump_ret]
  generalize hW : World.setCell _ _ _ = W
  obtain ⟨HF9, HX9, K9⟩ : W.heap[w.heap.size]? = some (.cells #[.int .i64 T, .int .i64 F, .int .i64 S, .slice none 0 0, .int .i64 0, .int .u32 0, .int .i64 0, .int .i64 0, .int .i64 0, .bool false, .int .i64 0, .slice none 0 0] 49) ∧ W.heap[w.heap.size + 1]? = some (.cells #[.bool false, .int .i64 0, .int .i64 0] 64) ∧ Kp [w.heap.size, w.heap.size + 1] w3 W := by rw [← hW]; exact set15 (by omega) HF3.out HX3.out
  refine bodyPost_ret (v := .tuple #[.agg #[.int .i64 T, .int .i64 F, .int .i64 S, .slice none 0 0, .int .i64 0, .int .u32 0, .int .i64 0, .int .i64 0, .int .i64 0, .bool false, .int .i64 0, .slice none 0 0], .int .i64 (9 + (N : Int)), .agg #[.bool false, .int .i64 0, .int .i64 0], .int .i64 0]) (by simp [results, Try.results100, go_sem, cell_of HF9, cell_of HX9]) rfl ⟨(⟨T, F, S, none, 0, 0, 0, 0, 0, 0, 0, false, 0, none, 0, 0⟩ : Fr), rfl, ⟨rfl, Rd.nil _ _ _, Sd.nil _, by simp [ob], by simp [ob]⟩, (HK3.out.then K9 (by simp)).drew⟩
end Go.Proofs.Ytkmcakneceagpaa
