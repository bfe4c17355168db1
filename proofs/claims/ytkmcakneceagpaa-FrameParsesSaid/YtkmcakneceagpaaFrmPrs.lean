/- 'FrameParses', walked. -/
import Derived.Test.YtkmcakneceagpaaRpT
import Derived.Test.YtkmcakneceagpaaSame7
set_option linter.unusedVariables false
set_option linter.unusedSimpArgs false
set_option linter.unusedSimpArgs false
namespace Go.Proofs.Ytkmcakneceagpaa
open Go.RowKit
set_option maxHeartbeats 4000000 in
set_option maxRecDepth 100000 in
theorem FrameParses_walk (A : Option Addr) (n c : Nat) (l : List UInt8) (most : Int) (w0 : World) (hr : Rd w0 A n c l) (hn : n ≤ 140737488351232) :
    Calls Try.prog 24 #[.slice A n c, .int .i64 most] w0 (Yes w0) := by
  have HR := Lib.hid hr
  clear hr
  have hsm := (ps_small l most).2
  obtain ⟨⟨F, u, is, xst, code, err⟩, hps⟩ : ∃ r, ps l most = r := ⟨_, rfl⟩
  rw [hps] at hsm
  dsimp only at hsm
  have HPS := Lib.hid hps
  clear hps
  go_enter Try.func24, Try.ntmps24
  go_wp2_with (with_reducible refine stopAt (o := ⟨some 16, _, _, _, _, _⟩) ?_)
  have k0 : Kp [] w0 (w0.alloc (.cells #[] 5)) := (Kp.refl _ _).alloc _
  refine Stop.go (wp_appB rfl _ _ 22 5 rfl Try.underlying22 Try.info5 w0.heap.size _ 0 0 [] rfl (Ow.empty w0 w0.heap.size 5 1 (Nat.le_refl _)) A n c l rfl (HR.out.keep k0 (by simp)) (by omega) (by simp) ?_)
  intro A1 n1 c1 l1 w1 e1k e1 O1 K1 _
  have HK1 := Lib.hid (k0.then K1 (by simp [ob]))
  have hn1 : n1 ≤ n := by have := e1k.out; omega
  obtain rfl : l1 = l := e1.out
  clear e1k e1 K1 k0
  have HO := Lib.hid O1.rd
  clear O1
  go_wp2_with fail
  refine (Parse_any A1 n1 c1 l1 most w1 HO.out (by omega)).mono ?_
  rintro e w2 ⟨f, rfl, hf, K2⟩
  rw [HPS.out] at hf ⊢
  dsimp only at hf ⊢
  have HF := Lib.hid hf
  have HK2 := Lib.hid (HK1.out.trans K2)
  clear hf K2 HK1
  go_wp2_with fail
  generalize hW : World.alloc _ _ = w3
  have K3 : Kp [] w2 w3 := by rw [← hW]; (repeat (first | with_reducible exact Kp.refl _ _ | with_reducible assumption | with_reducible refine Kp.alloc ?_ _ | with_reducible refine Kp.drew ?_ | with_reducible refine Kp.drewN ?_ _ | (with_reducible refine Kp.setL ?_ ?_ _; focus (simp; done)) | (with_reducible refine Kp.setR ?_ ?_ _; focus (simp; done)) | (with_reducible refine Kp.setR ?_ ?_ _; focus (simp; omega))))
  have HX3 := Lib.hid (show w3.heap[w2.heap.size]? = some (.cells #[.int .i64 f.ty, .int .i64 f.fl, .int .i64 f.st, .slice f.pA f.pn f.pc, .int .i64 f.pad, .int .u32 f.code, .int .i64 f.last, .int .i64 f.inc, .int .i64 f.dep, .bool f.only, .int .i64 f.wt, .slice f.sA f.sn f.sc] 49) by rw [← hW]; (repeat (first | with_reducible assumption | (with_reducible refine hp_new _ _ _ ?_; focus (simp; done)) | (with_reducible refine (hp_old _ _ _ ?_).trans ?_; focus (first | omega | (simp; done) | (simp; omega))) | (with_reducible refine (hp_far _ _ _ _ ?_).trans ?_; focus (first | (simp; done) | (simp; omega))) | (with_reducible refine (hp_drew _ _).trans ?_) | (with_reducible refine (hp_drewN _ _ _).trans ?_))))
  have HY3 := Lib.hid (show w3.heap[w2.heap.size + 1]? = some (.cells #[.bool is, .int .i64 xst, .int .i64 code] 64) by rw [← hW]; (repeat (first | with_reducible assumption | (with_reducible refine hp_new _ _ _ ?_; focus (simp; done)) | (with_reducible refine (hp_old _ _ _ ?_).trans ?_; focus (first | omega | (simp; done) | (simp; omega))) | (with_reducible refine (hp_far _ _ _ _ ?_).trans ?_; focus (first | (simp; done) | (simp; omega))) | (with_reducible refine (hp_drew _ _).trans ?_) | (with_reducible refine (hp_drewN _ _ _).trans ?_))))
  clear hW
  refine (refParse_any A n c l1 most w3 (HR.out.keep (HK2.out.trans K3) (by simp)) (by omega)).mono ?_
  rintro e w4 ⟨g, rfl, hg, K4⟩
  rw [HPS.out] at hg ⊢
  dsimp only at hg ⊢
  have HG := Lib.hid hg
  have HF4 := Lib.hid (HF.out.low (K3.trans K4) (by simp) (Nat.le_refl _))
  have HX4 := Lib.hid (K4.heap HX3.out (by simp))
  have HY4 := Lib.hid (K4.heap HY3.out (by simp))
  have HK4 := Lib.hid ((HK2.out.trans K3).trans K4)
  clear hg K3 K4 HX3 HY3 HF HK2
  obtain ⟨q0, q1, q2, q3, q4, q5, q6, q7, q8, q9, q10, q11, qz, qlt, qlt2⟩ := cellsF HX4.out
  have y0 := cell_of HY4.out 0
  have y1 := cell_of HY4.out 1
  have y2 := cell_of HY4.out 2
  have yl := lt_of_heap HY4.out
  go_wp2_with fail
  generalize hW : World.alloc _ _ = w5
  have K5 : Kp [] w4 w5 := by rw [← hW]; (repeat (first | with_reducible exact Kp.refl _ _ | with_reducible assumption | with_reducible refine Kp.alloc ?_ _ | with_reducible refine Kp.drew ?_ | with_reducible refine Kp.drewN ?_ _ | (with_reducible refine Kp.setL ?_ ?_ _; focus (simp; done)) | (with_reducible refine Kp.setR ?_ ?_ _; focus (simp; done)) | (with_reducible refine Kp.setR ?_ ?_ _; focus (simp; omega))))
  have HY5 := Lib.hid (K5.heap HY4.out (by simp))
  have HZ5 := Lib.hid (show w5.heap[w4.heap.size + 1]? = some (.cells #[.bool is, .int .i64 xst, .int .i64 code] 64) by rw [← hW]; (repeat (first | with_reducible assumption | (with_reducible refine hp_new _ _ _ ?_; focus (simp; done)) | (with_reducible refine (hp_old _ _ _ ?_).trans ?_; focus (first | omega | (simp; done) | (simp; omega))) | (with_reducible refine (hp_far _ _ _ _ ?_).trans ?_; focus (first | (simp; done) | (simp; omega))) | (with_reducible refine (hp_drew _ _).trans ?_) | (with_reducible refine (hp_drewN _ _ _).trans ?_))))
  clear hW q0 q1 q2 q3 q4 q5 q6 q7 q8 q9 q10 q11 qz qlt qlt2 y0 y1 y2 yl
  refine (same07 f g F _ _ w5 (HF4.out.low K5 (by simp) (Nat.le_refl _)) (HG.out.low K5 (by simp) (Nat.le_refl _)) (by omega)).mono ?_
  rintro e w6 ⟨rfl, K6⟩
  have HY6 := Lib.hid (K6.heap HY5.out (by simp))
  have HZ6 := Lib.hid (K6.heap HZ5.out (by simp))
  have HK6 := Lib.hid ((HK4.out.trans K5).trans K6)
  clear K5 K6 HY5 HZ5 HK4
  have y0 := cell_of HY6.out 0
  have y1 := cell_of HY6.out 1
  have y2 := cell_of HY6.out 2
  have yl := lt_of_heap HY6.out
  have z0 := cell_of HZ6.out 0
  have z1 := cell_of HZ6.out 1
  have z2 := cell_of HZ6.out 2
  have zl := lt_of_heap HZ6.out
  go_wp2_with fail
  refine (awake07 _).mono ?_
  rintro e w7 ⟨rfl, rfl⟩
  go_wp2
  go_ret
  exact ⟨by simp, HK6.out⟩
end Go.Proofs.Ytkmcakneceagpaa
