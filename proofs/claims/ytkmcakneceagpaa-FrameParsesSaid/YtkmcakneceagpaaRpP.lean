/- The reference's Parse: the ways on which no frame of a known type is told. -/
import Derived.Test.YtkmcakneceagpaaRpA
set_option linter.unusedVariables false
set_option linter.unusedSimpArgs false
set_option linter.unusedSimpArgs false
namespace Go.Proofs.Ytkmcakneceagpaa
open Go.RowKit
set_option maxHeartbeats 4000000 in
set_option maxRecDepth 100000 in
theorem rparseNeg (A : Option Addr) (n c : Nat) (l : List UInt8) (most : Int) (w : World) (hr : Rd w A n c l) (hn : n ≤ 140737488355328) (hm : most < 0) : Calls Try.prog 101 #[.slice A n c, .int .i64 most] w (ParseR (.no 0 1) w) := by
  go_enter Try.func101, Try.ntmps101
  go_wp2
  refine bodyPost_ret (v := .tuple #[.agg #[.int .i64 0, .int .i64 0, .int .i64 0, .slice none 0 0, .int .i64 0, .int .u32 0, .int .i64 0, .int .i64 0, .int .i64 0, .bool false, .int .i64 0, .slice none 0 0], .int .i64 0, .agg #[.bool false, .int .i64 0, .int .i64 0], .int .i64 1]) (by simp [results, Try.results101, go_sem]) rfl ⟨(⟨0, 0, 0, none, 0, 0, 0, 0, 0, 0, 0, false, 0, none, 0, 0⟩ : Fr), rfl, FrP.zero _ _, by (repeat (first | with_reducible exact Kp.refl _ _ | with_reducible assumption | with_reducible refine Kp.alloc ?_ _ | with_reducible refine Kp.drew ?_ | with_reducible refine Kp.drewN ?_ _ | (with_reducible refine Kp.setL ?_ ?_ _; focus (simp; done)) | (with_reducible refine Kp.setR ?_ ?_ _; focus (simp; done)) | (with_reducible refine Kp.setR ?_ ?_ _; focus (simp; omega))))⟩
set_option maxHeartbeats 4000000 in
set_option maxRecDepth 100000 in
theorem rparseShort (A : Option Addr) (n c : Nat) (l : List UInt8) (most : Int) (w : World) (hr : Rd w A n c l) (hn : n ≤ 140737488355328) (hm : 0 ≤ most) (h9 : n < 9) : Calls Try.prog 101 #[.slice A n c, .int .i64 most] w (ParseR (.no 0 3) w) := by
  have HR := Lib.hid hr
  have e : headR l = (0, 0, 0, 0, 3) := by unfold headR; rw [if_pos (by rw [hr.len]; exact h9)]
  have HH := Lib.hid e
  clear hr e
  go_enter Try.func101, Try.ntmps101
  go_wp2_with fail
  generalize hW : World.alloc _ _ = w1
  have K1 : Kp [] w w1 := by rw [← hW]; (repeat (first | with_reducible exact Kp.refl _ _ | with_reducible assumption | with_reducible refine Kp.alloc ?_ _ | with_reducible refine Kp.drew ?_ | with_reducible refine Kp.drewN ?_ _ | (with_reducible refine Kp.setL ?_ ?_ _; focus (simp; done)) | (with_reducible refine Kp.setR ?_ ?_ _; focus (simp; done)) | (with_reducible refine Kp.setR ?_ ?_ _; focus (simp; omega))))
  have HF := Lib.hid (show w1.heap[w.heap.size]? = some (.cells #[.int .i64 0, .int .i64 0, .int .i64 0, .slice none 0 0, .int .i64 0, .int .u32 0, .int .i64 0, .int .i64 0, .int .i64 0, .bool false, .int .i64 0, .slice none 0 0] 49) by rw [← hW]; (repeat (first | with_reducible assumption | (with_reducible refine hp_new _ _ _ ?_; focus (simp; done)) | (with_reducible refine (hp_old _ _ _ ?_).trans ?_; focus (first | omega | (simp; done) | (simp; omega))) | (with_reducible refine (hp_far _ _ _ _ ?_).trans ?_; focus (first | (simp; done) | (simp; omega))) | (with_reducible refine (hp_drew _ _).trans ?_) | (with_reducible refine (hp_drewN _ _ _).trans ?_))))
  have HX := Lib.hid (show w1.heap[w.heap.size + 1]? = some (.cells #[.bool false, .int .i64 0, .int .i64 0] 64) by rw [← hW]; (repeat (first | with_reducible assumption | (with_reducible refine hp_new _ _ _ ?_; focus (simp; done)) | (with_reducible refine (hp_old _ _ _ ?_).trans ?_; focus (first | omega | (simp; done) | (simp; omega))) | (with_reducible refine (hp_far _ _ _ _ ?_).trans ?_; focus (first | (simp; done) | (simp; omega))) | (with_reducible refine (hp_drew _ _).trans ?_) | (with_reducible refine (hp_drewN _ _ _).trans ?_))))
  clear hW
  refine (refHead_any A n c l w1 hn (HR.out.keep K1 (by simp))).mono ?_
  rintro e w2 ⟨rfl, K2⟩
  rw [HH.out]
  dsimp only
  have HF2 := Lib.hid (K2.heap HF.out (by simp))
  have HX2 := Lib.hid (K2.heap HX.out (by simp))
  have HK2 := Lib.hid (K1.trans K2)
  clear HF HX K1 K2
  obtain ⟨q0, q1, q2, q3, q4, q5, q6, q7, q8, q9, q10, q11, qz, qlt, qlt2⟩ := cellsF HF2.out
  have x0 := cell_of HX2.out 0
  have x1 := cell_of HX2.out 1
  have x2 := cell_of HX2.out 2
  have xz := frozen_of HX2.out
  go_wp2
  generalize hW : World.setCell _ _ _ = W
  obtain ⟨HF9, HX9, K9⟩ : W.heap[w.heap.size]? = some (.cells #[.int .i64 0, .int .i64 0, .int .i64 0, .slice none 0 0, .int .i64 0, .int .u32 0, .int .i64 0, .int .i64 0, .int .i64 0, .bool false, .int .i64 0, .slice none 0 0] 49) ∧ W.heap[w.heap.size + 1]? = some (.cells #[.bool false, .int .i64 0, .int .i64 0] 64) ∧ Kp [w.heap.size, w.heap.size + 1] w2 W := by rw [← hW]; exact set15 (by omega) HF2.out HX2.out
  refine bodyPost_ret (v := .tuple #[.agg #[.int .i64 0, .int .i64 0, .int .i64 0, .slice none 0 0, .int .i64 0, .int .u32 0, .int .i64 0, .int .i64 0, .int .i64 0, .bool false, .int .i64 0, .slice none 0 0], .int .i64 0, .agg #[.bool false, .int .i64 0, .int .i64 0], .int .i64 3]) (by simp [results, Try.results101, go_sem, cell_of HF9, cell_of HX9]) rfl ⟨(⟨0, 0, 0, none, 0, 0, 0, 0, 0, 0, 0, false, 0, none, 0, 0⟩ : Fr), rfl, FrP.zero _ _, (HK2.out.then K9 (by simp))⟩
set_option maxHeartbeats 4000000 in
set_option maxRecDepth 100000 in
theorem rparseLong (A : Option Addr) (n c : Nat) (l : List UInt8) (most : Int) (w : World) (hr : Rd w A n c l) (hn : n ≤ 140737488355328) (hm : 0 ≤ most) (h9 : ¬ n < 9) (N : Nat) (hN : be (l.take 3) = N) (hb : most < (N : Int)) : Calls Try.prog 101 #[.slice A n c, .int .i64 most] w (ParseR (.bad 9 0 6) w) := by
  have HR := Lib.hid hr
  have e := head_of (l := l) (by rw [hr.len]; exact h9)
  rw [hN] at e
  obtain ⟨T, hT⟩ : ∃ T, (l.getD 3 0).toNat = T := ⟨_, rfl⟩
  obtain ⟨F, hF⟩ : ∃ F, (l.getD 4 0).toNat = F := ⟨_, rfl⟩
  obtain ⟨S, hS⟩ : ∃ S, be ((l.drop 5).take 4) % 2147483648 = S := ⟨_, rfl⟩
  rw [hT, hF, hS] at e
  have HH := Lib.hid e
  clear hr e hT hF hS hN
  go_enter Try.func101, Try.ntmps101
  go_wp2_with fail
  generalize hW : World.alloc _ _ = w1
  have K1 : Kp [] w w1 := by rw [← hW]; (repeat (first | with_reducible exact Kp.refl _ _ | with_reducible assumption | with_reducible refine Kp.alloc ?_ _ | with_reducible refine Kp.drew ?_ | with_reducible refine Kp.drewN ?_ _ | (with_reducible refine Kp.setL ?_ ?_ _; focus (simp; done)) | (with_reducible refine Kp.setR ?_ ?_ _; focus (simp; done)) | (with_reducible refine Kp.setR ?_ ?_ _; focus (simp; omega))))
  have HF := Lib.hid (show w1.heap[w.heap.size]? = some (.cells #[.int .i64 0, .int .i64 0, .int .i64 0, .slice none 0 0, .int .i64 0, .int .u32 0, .int .i64 0, .int .i64 0, .int .i64 0, .bool false, .int .i64 0, .slice none 0 0] 49) by rw [← hW]; (repeat (first | with_reducible assumption | (with_reducible refine hp_new _ _ _ ?_; focus (simp; done)) | (with_reducible refine (hp_old _ _ _ ?_).trans ?_; focus (first | omega | (simp; done) | (simp; omega))) | (with_reducible refine (hp_far _ _ _ _ ?_).trans ?_; focus (first | (simp; done) | (simp; omega))) | (with_reducible refine (hp_drew _ _).trans ?_) | (with_reducible refine (hp_drewN _ _ _).trans ?_))))
  have HX := Lib.hid (show w1.heap[w.heap.size + 1]? = some (.cells #[.bool false, .int .i64 0, .int .i64 0] 64) by rw [← hW]; (repeat (first | with_reducible assumption | (with_reducible refine hp_new _ _ _ ?_; focus (simp; done)) | (with_reducible refine (hp_old _ _ _ ?_).trans ?_; focus (first | omega | (simp; done) | (simp; omega))) | (with_reducible refine (hp_far _ _ _ _ ?_).trans ?_; focus (first | (simp; done) | (simp; omega))) | (with_reducible refine (hp_drew _ _).trans ?_) | (with_reducible refine (hp_drewN _ _ _).trans ?_))))
  clear hW
  refine (refHead_any A n c l w1 hn (HR.out.keep K1 (by simp))).mono ?_
  rintro e w2 ⟨rfl, K2⟩
  rw [HH.out]
  dsimp only
  have HF2 := Lib.hid (K2.heap HF.out (by simp))
  have HX2 := Lib.hid (K2.heap HX.out (by simp))
  have HK2 := Lib.hid (K1.trans K2)
  clear HF HX K1 K2
  obtain ⟨q0, q1, q2, q3, q4, q5, q6, q7, q8, q9, q10, q11, qz, qlt, qlt2⟩ := cellsF HF2.out
  have x0 := cell_of HX2.out 0
  have x1 := cell_of HX2.out 1
  have x2 := cell_of HX2.out 2
  have xz := frozen_of HX2.out
  go_wp2_with fail
  refine (rfault 6 _).mono ?_
  rintro e w3 ⟨rfl, K3⟩
  have HF3 := Lib.hid (K3.heap HF2.out (by simp))
  have HX3 := Lib.hid (K3.heap HX2.out (by simp))
  have HK3 := Lib.hid (HK2.out.trans K3)
  clear K3 HF2 HX2 HK2 q0 q1 q2 q3 q4 q5 q6 q7 q8 q9 q10 q11 qz qlt qlt2 x0 x1 x2 xz
  obtain ⟨q0, q1, q2, q3, q4, q5, q6, q7, q8, q9, q10, q11, qz, qlt, qlt2⟩ := cellsF HF3.out
  have x0 := cell_of HX3.out 0
  have x1 := cell_of HX3.out 1
  have x2 := cell_of HX3.out 2
  have xz := frozen_of HX3.out
  go_wp2
  generalize hW : World.setCell _ _ _ = W
  obtain ⟨HF9, HX9, K9⟩ : W.heap[w.heap.size]? = some (.cells #[.int .i64 0, .int .i64 0, .int .i64 0, .slice none 0 0, .int .i64 0, .int .u32 0, .int .i64 0, .int .i64 0, .int .i64 0, .bool false, .int .i64 0, .slice none 0 0] 49) ∧ W.heap[w.heap.size + 1]? = some (.cells #[.bool true, .int .i64 0, .int .i64 6] 64) ∧ Kp [w.heap.size, w.heap.size + 1] w3 W := by rw [← hW]; exact set15 (by omega) HF3.out HX3.out
  refine bodyPost_ret (v := .tuple #[.agg #[.int .i64 0, .int .i64 0, .int .i64 0, .slice none 0 0, .int .i64 0, .int .u32 0, .int .i64 0, .int .i64 0, .int .i64 0, .bool false, .int .i64 0, .slice none 0 0], .int .i64 9, .agg #[.bool true, .int .i64 0, .int .i64 6], .int .i64 0]) (by simp [results, Try.results101, go_sem, cell_of HF9, cell_of HX9]) rfl ⟨(⟨0, 0, 0, none, 0, 0, 0, 0, 0, 0, 0, false, 0, none, 0, 0⟩ : Fr), rfl, FrP.zero _ _, (HK3.out.then K9 (by simp))⟩
set_option maxHeartbeats 4000000 in
set_option maxRecDepth 100000 in
theorem rparseCut (A : Option Addr) (n c : Nat) (l : List UInt8) (most : Int) (w : World) (hr : Rd w A n c l) (hn : n ≤ 140737488355328) (hm : 0 ≤ most) (h9 : ¬ n < 9) (N : Nat) (hN : be (l.take 3) = N) (hb : ¬ most < (N : Int)) (hc : n < 9 + N) : Calls Try.prog 101 #[.slice A n c, .int .i64 most] w (ParseR (.no 0 3) w) := by
  have HR := Lib.hid hr
  have e := head_of (l := l) (by rw [hr.len]; exact h9)
  rw [hN] at e
  have HN2 := Lib.hid (show N < 16777216 by have := be_take_lt l 3; rw [hN] at this; have e3 : (256 : Nat) ^ 3 = 16777216 := by decide
                                            omega)
  obtain ⟨T, hT⟩ : ∃ T, (l.getD 3 0).toNat = T := ⟨_, rfl⟩
  obtain ⟨F, hF⟩ : ∃ F, (l.getD 4 0).toNat = F := ⟨_, rfl⟩
  obtain ⟨S, hS⟩ : ∃ S, be ((l.drop 5).take 4) % 2147483648 = S := ⟨_, rfl⟩
  rw [hT, hF, hS] at e
  have HH := Lib.hid e
  clear hr e hT hF hS hN
  go_enter Try.func101, Try.ntmps101
  go_wp2_with fail
  generalize hW : World.alloc _ _ = w1
  have K1 : Kp [] w w1 := by rw [← hW]; (repeat (first | with_reducible exact Kp.refl _ _ | with_reducible assumption | with_reducible refine Kp.alloc ?_ _ | with_reducible refine Kp.drew ?_ | with_reducible refine Kp.drewN ?_ _ | (with_reducible refine Kp.setL ?_ ?_ _; focus (simp; done)) | (with_reducible refine Kp.setR ?_ ?_ _; focus (simp; done)) | (with_reducible refine Kp.setR ?_ ?_ _; focus (simp; omega))))
  have HF := Lib.hid (show w1.heap[w.heap.size]? = some (.cells #[.int .i64 0, .int .i64 0, .int .i64 0, .slice none 0 0, .int .i64 0, .int .u32 0, .int .i64 0, .int .i64 0, .int .i64 0, .bool false, .int .i64 0, .slice none 0 0] 49) by rw [← hW]; (repeat (first | with_reducible assumption | (with_reducible refine hp_new _ _ _ ?_; focus (simp; done)) | (with_reducible refine (hp_old _ _ _ ?_).trans ?_; focus (first | omega | (simp; done) | (simp; omega))) | (with_reducible refine (hp_far _ _ _ _ ?_).trans ?_; focus (first | (simp; done) | (simp; omega))) | (with_reducible refine (hp_drew _ _).trans ?_) | (with_reducible refine (hp_drewN _ _ _).trans ?_))))
  have HX := Lib.hid (show w1.heap[w.heap.size + 1]? = some (.cells #[.bool false, .int .i64 0, .int .i64 0] 64) by rw [← hW]; (repeat (first | with_reducible assumption | (with_reducible refine hp_new _ _ _ ?_; focus (simp; done)) | (with_reducible refine (hp_old _ _ _ ?_).trans ?_; focus (first | omega | (simp; done) | (simp; omega))) | (with_reducible refine (hp_far _ _ _ _ ?_).trans ?_; focus (first | (simp; done) | (simp; omega))) | (with_reducible refine (hp_drew _ _).trans ?_) | (with_reducible refine (hp_drewN _ _ _).trans ?_))))
  clear hW
  refine (refHead_any A n c l w1 hn (HR.out.keep K1 (by simp))).mono ?_
  rintro e w2 ⟨rfl, K2⟩
  rw [HH.out]
  dsimp only
  have HF2 := Lib.hid (K2.heap HF.out (by simp))
  have HX2 := Lib.hid (K2.heap HX.out (by simp))
  have HK2 := Lib.hid (K1.trans K2)
  clear HF HX K1 K2
  obtain ⟨q0, q1, q2, q3, q4, q5, q6, q7, q8, q9, q10, q11, qz, qlt, qlt2⟩ := cellsF HF2.out
  have x0 := cell_of HX2.out 0
  have x1 := cell_of HX2.out 1
  have x2 := cell_of HX2.out 2
  have xz := frozen_of HX2.out
  have hN2 := HN2.out
  go_wp2
  generalize hW : World.setCell _ _ _ = W
  obtain ⟨HF9, HX9, K9⟩ : W.heap[w.heap.size]? = some (.cells #[.int .i64 0, .int .i64 0, .int .i64 0, .slice none 0 0, .int .i64 0, .int .u32 0, .int .i64 0, .int .i64 0, .int .i64 0, .bool false, .int .i64 0, .slice none 0 0] 49) ∧ W.heap[w.heap.size + 1]? = some (.cells #[.bool false, .int .i64 0, .int .i64 0] 64) ∧ Kp [w.heap.size, w.heap.size + 1] w2 W := by rw [← hW]; exact set15 (by omega) HF2.out HX2.out
  refine bodyPost_ret (v := .tuple #[.agg #[.int .i64 0, .int .i64 0, .int .i64 0, .slice none 0 0, .int .i64 0, .int .u32 0, .int .i64 0, .int .i64 0, .int .i64 0, .bool false, .int .i64 0, .slice none 0 0], .int .i64 0, .agg #[.bool false, .int .i64 0, .int .i64 0], .int .i64 3]) (by simp [results, Try.results101, go_sem, cell_of HF9, cell_of HX9]) rfl ⟨(⟨0, 0, 0, none, 0, 0, 0, 0, 0, 0, 0, false, 0, none, 0, 0⟩ : Fr), rfl, FrP.zero _ _, (HK2.out.then K9 (by simp))⟩
end Go.Proofs.Ytkmcakneceagpaa
