/- frame.Parse: a frame of a known type, whose size is not as its type asks. -/
import Derived.Test.YtkmcakneceagpaaPrs3
set_option linter.unusedVariables false
set_option linter.unusedSimpArgs false
set_option linter.unusedSimpArgs false
namespace Go.Proofs.Ytkmcakneceagpaa
open Go.RowKit
theorem callFunc_at {P : Program} {f : FuncId} {fn : Func} (hf : P.funcs[f]? = some fn) (hn : (fn.name == "runtime.NumGoroutine") = false) (hb : fn.body.isNone = false) (args : Array Value) (w : World) : Sem.run P (callFunc f args) w = .ok (.enter f args) w := by
  have hn' : ¬ fn.name = "runtime.NumGoroutine" := by simpa using hn
  have hb' : ¬ fn.body = none := fun h => by rw [h] at hb; cases hb
  simp [callFunc, hf, hn', hb', go_sem]
theorem cf_all (args : Array Value) (w : World) : Sem.run Try.prog (callFunc 161 args) w = .ok (.enter 161 args) w := callFunc_at Try.func161 (by decide) (by rfl) args w
set_option maxHeartbeats 4000000 in
set_option maxRecDepth 100000 in
theorem parseSz (T k1 k2 k3 k4 : Nat) (z any pd : Bool) (A : Option Addr) (n c : Nat) (l : List UInt8) (most : Int) (w : World) (hr : Rd w A n c l) (hn : n ≤ 281474976710656) (hm : 0 ≤ most) (h9 : ¬ n < 9) (N : Nat) (hN : be (l.take 3) = N) (hb : ¬ most < (N : Int)) (hc : ¬ n < 9 + N) (F S : Nat) (hT : (l.getD 3 0).toNat = T) (hF : (l.getD 4 0).toNat = F) (hS : be ((l.drop 5).take 4) % 2147483648 = S)
    (hkn : knownB (T : Int) = true) (hkd : ∀ w, Calls Try.prog 144 #[.int .i64 T] w fun e w' => e = .returned (.agg #[.bool z, .bool any, .bool pd, Fv k1, Fv k2, Fv k3, Fv k4]) ∧ Kp [] w w') (hri : (any || (z == decide ((S : Int) = 0))) = true) (fit : Bool → Bool) (hfc : ∀ a w, Calls Try.prog k1 #[.int .i64 N, .bool a] w (BoolR (fit a) w)) (hcf : ∀ args w, Sem.run Try.prog (callFunc k1 args) w = .ok (.enter k1 args) w) (hfit : fit (bits .and .i64 (F : Int) 1 != 0) = false) (hT2 : ¬ T = 2) :
    Calls Try.prog 100 #[.slice A n c, .int .i64 most] w (ParseR (.bad (9 + N) 0 6) w) := by
  have HCF := Lib.hid hcf
  clear hcf
  have HFC := Lib.hid hfc
  have HFIT := Lib.hid hfit
  clear hfc hfit
  have ht2 : ((T : Int) == 2) = false := by simp; omega
  have HR := Lib.hid hr
  have HRI := Lib.hid hri
  have HKN := Lib.hid hkn
  have HKD := Lib.hid hkd
  have e := head_of (l := l) (by rw [hr.len]; exact h9)
  rw [hN, hT, hF, hS] at e
  have HN2 := Lib.hid (show N < 16777216 by have := be_take_lt l 3; rw [hN] at this; have e3 : (256 : Nat) ^ 3 = 16777216 := by decide
                                            omega)
  have HH := Lib.hid e
  clear hr e hT hF hS hN hri hkn hkd
  go_enter Try.func100, Try.ntmps100
  go_wp2_with fail
  refine wp_scope_once 0 rfl ?_
  go_wp2_with fail
  generalize hW : World.alloc _ _ = w1
  have K1 : Kp [] w w1 := by rw [← hW]; (repeat (first | with_reducible exact Kp.refl _ _ | with_reducible assumption | with_reducible refine Kp.alloc ?_ _ | with_reducible refine Kp.drew ?_ | with_reducible refine Kp.drewN ?_ _ | (with_reducible refine Kp.setL ?_ ?_ _; focus (simp; done)) | (with_reducible refine Kp.setR ?_ ?_ _; focus (simp; done)) | (with_reducible refine Kp.setR ?_ ?_ _; focus (simp; omega))))
  have HF := Lib.hid (show w1.heap[w.heap.size]? = some (.cells #[.int .i64 0, .int .i64 0, .int .i64 0, .slice none 0 0, .int .i64 0, .int .u32 0, .int .i64 0, .int .i64 0, .int .i64 0, .bool false, .int .i64 0, .slice none 0 0] 49) by rw [← hW]; (repeat (first | with_reducible assumption | (with_reducible refine hp_new _ _ _ ?_; focus (simp; done)) | (with_reducible refine (hp_old _ _ _ ?_).trans ?_; focus (first | omega | (simp; done) | (simp; omega))) | (with_reducible refine (hp_far _ _ _ _ ?_).trans ?_; focus (first | (simp; done) | (simp; omega))) | (with_reducible refine (hp_drew _ _).trans ?_) | (with_reducible refine (hp_drewN _ _ _).trans ?_))))
  have HX := Lib.hid (show w1.heap[w.heap.size + 1]? = some (.cells #[.bool false, .int .i64 0, .int .i64 0] 64) by rw [← hW]; (repeat (first | with_reducible assumption | (with_reducible refine hp_new _ _ _ ?_; focus (simp; done)) | (with_reducible refine (hp_old _ _ _ ?_).trans ?_; focus (first | omega | (simp; done) | (simp; omega))) | (with_reducible refine (hp_far _ _ _ _ ?_).trans ?_; focus (first | (simp; done) | (simp; omega))) | (with_reducible refine (hp_drew _ _).trans ?_) | (with_reducible refine (hp_drewN _ _ _).trans ?_))))
  have HK := Lib.hid (show w1.heap[w.heap.size + 1 + 1]? = some (.cells #[.bool false, .bool false, .bool false, .nilFunc, .nilFunc, .nilFunc, .nilFunc] 185) by rw [← hW]; (repeat (first | with_reducible assumption | (with_reducible refine hp_new _ _ _ ?_; focus (simp; done)) | (with_reducible refine (hp_old _ _ _ ?_).trans ?_; focus (first | omega | (simp; done) | (simp; omega))) | (with_reducible refine (hp_far _ _ _ _ ?_).trans ?_; focus (first | (simp; done) | (simp; omega))) | (with_reducible refine (hp_drew _ _).trans ?_) | (with_reducible refine (hp_drewN _ _ _).trans ?_))))
  clear hW
  refine (Head_big A n c l w1 hn (HR.out.keep K1 (by simp))).mono ?_
  rintro e w2 ⟨rfl, K2⟩
  rw [HH.out]
  dsimp only
  have HF2 := Lib.hid (K2.heap HF.out (by simp))
  have HX2 := Lib.hid (K2.heap HX.out (by simp))
  have HD2 := Lib.hid (K2.heap HK.out (by simp))
  have HK2 := Lib.hid (K1.trans K2)
  clear HF HX HK K1 K2
  obtain ⟨q0, q1, q2, q3, q4, q5, q6, q7, q8, q9, q10, q11, qz, qlt, qlt2⟩ := cellsF HF2.out
  have x0 := cell_of HX2.out 0
  have x1 := cell_of HX2.out 1
  have x2 := cell_of HX2.out 2
  have xz := frozen_of HX2.out
  have hN2 : N < 16777216 := HN2.out
  go_wp2_with fail
  generalize hW : World.setCell _ _ _ = w3
  have HF3 := Lib.hid (show w3.heap[w.heap.size]? = some (.cells #[.int .i64 T, .int .i64 F, .int .i64 S, .slice none 0 0, .int .i64 0, .int .u32 0, .int .i64 0, .int .i64 0, .int .i64 0, .bool false, .int .i64 0, .slice none 0 0] 49) by rw [← hW]; exact sf11 (sf10 (sf9 (sf8 (sf7 (sf6 (sf5 (sf4 (sf3 (sf2 (sf1 (sf0 (HF2.out)))))))))))))
  have K3 : Kp [w.heap.size] w2 w3 := by rw [← hW]; exact (((((((((((((Kp.refl _ _).setCell (.inl (by simp)) _).setCell (.inl (by simp)) _).setCell (.inl (by simp)) _).setCell (.inl (by simp)) _).setCell (.inl (by simp)) _).setCell (.inl (by simp)) _).setCell (.inl (by simp)) _).setCell (.inl (by simp)) _).setCell (.inl (by simp)) _).setCell (.inl (by simp)) _).setCell (.inl (by simp)) _).setCell (.inl (by simp)) _)
  have HX3 := Lib.hid (K3.heap HX2.out (by simp))
  have HD3 := Lib.hid (K3.heap HD2.out (by simp; omega))
  have HK3 := Lib.hid (HK2.out.then K3 (by simp))
  clear hW K3 HF2 HX2 HD2 HK2 q0 q1 q2 q3 q4 q5 q6 q7 q8 q9 q10 q11 qz qlt qlt2 x0 x1 x2 xz
  obtain ⟨q0, q1, q2, q3, q4, q5, q6, q7, q8, q9, q10, q11, qz, qlt, qlt2⟩ := cellsF HF3.out
  have x0 := cell_of HX3.out 0
  have x1 := cell_of HX3.out 1
  have x2 := cell_of HX3.out 2
  have xz := frozen_of HX3.out
  refine (Known_any (T : Int) _).mono ?_
  rintro e w4 ⟨rfl, rfl⟩
  rw [HKN.out]
  go_wp2_with fail
  refine (HKD.out _).mono ?_
  rintro e w5 ⟨rfl, K5⟩
  have HF5 := Lib.hid (K5.heap HF3.out (by simp))
  have HX5 := Lib.hid (K5.heap HX3.out (by simp))
  have HD5 := Lib.hid (K5.heap HD3.out (by simp))
  have HK5 := Lib.hid (HK3.out.trans K5)
  clear HF3 HX3 HD3 HK3 K5 HKD q0 q1 q2 q3 q4 q5 q6 q7 q8 q9 q10 q11 qz qlt qlt2 x0 x1 x2 xz
  have d0 := cell_of HD5.out 0
  have d1 := cell_of HD5.out 1
  have d2 := cell_of HD5.out 2
  have d3 := cell_of HD5.out 3
  have d4 := cell_of HD5.out 4
  have d5 := cell_of HD5.out 5
  have d6 := cell_of HD5.out 6
  have dz := frozen_of HD5.out
  go_wp2_with fail
  generalize hW : World.setCell _ _ _ = w6
  obtain ⟨hd6, K6⟩ : w6.heap[w.heap.size + 1 + 1]? = some (.cells #[.bool z, .bool any, .bool pd, Fv k1, Fv k2, Fv k3, Fv k4] 185) ∧ Kp [w.heap.size + 1 + 1] w5 w6 := by rw [← hW]; exact set7 HD5.out
  have HF6 := Lib.hid (K6.heap HF5.out (by simp; omega))
  have HX6 := Lib.hid (K6.heap HX5.out (by simp))
  have HD6 := Lib.hid hd6
  have HK6 := Lib.hid (HK5.out.then K6 (by simp; omega))
  clear hW hd6 K6 HF5 HX5 HD5 HK5 d0 d1 d2 d3 d4 d5 d6 dz
  refine (rightF z any pd (Fv k1) (Fv k2) (Fv k3) (Fv k4) (S : Int) _ rfl rfl rfl rfl).mono ?_
  rintro e w7 ⟨rfl, K7⟩
  rw [HRI.out]
  have HF7 := Lib.hid (K7.heap HF6.out (by simp))
  have HX7 := Lib.hid (K7.heap HX6.out (by simp))
  have HD7 := Lib.hid (K7.heap HD6.out (by simp))
  have HK7 := Lib.hid (HK6.out.trans K7)
  clear HF6 HX6 HD6 HK6 K7
  obtain ⟨q0, q1, q2, q3, q4, q5, q6, q7, q8, q9, q10, q11, qz, qlt, qlt2⟩ := cellsF HF7.out
  have x0 := cell_of HX7.out 0
  have x1 := cell_of HX7.out 1
  have x2 := cell_of HX7.out 2
  have xz := frozen_of HX7.out
  have d3 := cell_of HD7.out 3
  have d6 := cell_of HD7.out 6
  go_wp2_with fail
  rw [HCF.out, Oper.upon_enter]
  refine (HFC.out _ _).mono ?_
  rintro e w8 ⟨rfl, rfl⟩
  rw [HFIT.out]
  go_wp2
  go_step3
  refine And.intro rfl ?_
  go_wp2
  go_region
  go_wp2
  rw [jump_ret]
  generalize hW : World.setCell _ _ _ = W
  obtain ⟨HF9, HX9, K9⟩ : W.heap[w.heap.size]? = some (.cells #[.int .i64 0, .int .i64 0, .int .i64 0, .slice none 0 0, .int .i64 0, .int .u32 0, .int .i64 0, .int .i64 0, .int .i64 0, .bool false, .int .i64 0, .slice none 0 0] 49) ∧ W.heap[w.heap.size + 1]? = some (.cells #[.bool true, .int .i64 0, .int .i64 6] 64) ∧ Kp [w.heap.size, w.heap.size + 1] (World.setCell (World.setCell w7 ⟨w.heap.size + 1, 0, none⟩ (.bool true)) ⟨w.heap.size + 1, 2, none⟩ (.int .i64 6)) W := by rw [← hW]; exact set15 (by omega) ((hp_far _ _ _ _ (by simp)).trans ((hp_far _ _ _ _ (by simp)).trans HF7.out)) (sx2 (sx0 HX7.out))
  refine bodyPost_ret (v := .tuple #[.agg #[.int .i64 0, .int .i64 0, .int .i64 0, .slice none 0 0, .int .i64 0, .int .u32 0, .int .i64 0, .int .i64 0, .int .i64 0, .bool false, .int .i64 0, .slice none 0 0], .int .i64 (9 + (N : Int)), .agg #[.bool true, .int .i64 0, .int .i64 6], .int .i64 0]) (by simp [results, Try.results100, go_sem, cell_of HF9, cell_of HX9]) rfl ⟨(⟨0, 0, 0, none, 0, 0, 0, 0, 0, 0, 0, false, 0, none, 0, 0⟩ : Fr), rfl, FrP.zero _ _, ((HK7.out.then (((Kp.refl [w.heap.size + 1] w7).setCell (.inl (by simp)) (.bool true)).setCell (.inl (by simp)) (.int .i64 6)) (by simp)).then K9 (by simp)).drew⟩

set_option maxHeartbeats 4000000 in
set_option maxRecDepth 100000 in
theorem parseSzS (T k2 k3 k4 : Nat) (kk : Int) (z any pd : Bool) (A : Option Addr) (n c : Nat) (l : List UInt8) (most : Int) (w : World) (hr : Rd w A n c l) (hn : n ≤ 281474976710656) (hm : 0 ≤ most) (h9 : ¬ n < 9) (N : Nat) (hN : be (l.take 3) = N) (hb : ¬ most < (N : Int)) (hc : ¬ n < 9 + N) (F S : Nat) (hT : (l.getD 3 0).toNat = T) (hF : (l.getD 4 0).toNat = F) (hS : be ((l.drop 5).take 4) % 2147483648 = S)
    (hkn : knownB (T : Int) = true) (hkd : ∀ w, Calls Try.prog 144 #[.int .i64 T] w fun e w' => ∃ bk, e = .returned (.agg #[.bool z, .bool any, .bool pd, Sz bk, Fv k2, Fv k3, Fv k4]) ∧ w'.heap[bk]? = some (.cells #[.int .i64 kk] 3) ∧ w.heap.size ≤ bk ∧ Kp [] w w') (hri : (any || (z == decide ((S : Int) = 0))) = true) (hfit : decide ((N : Int) = kk) = false) (hT2 : ¬ T = 2) :
    Calls Try.prog 100 #[.slice A n c, .int .i64 most] w (ParseR (.bad (9 + N) 0 6) w) := by
  have HFIT := Lib.hid hfit
  clear hfit
  have ht2 : ((T : Int) == 2) = false := by simp; omega
  have HR := Lib.hid hr
  have HRI := Lib.hid hri
  have HKN := Lib.hid hkn
  have HKD := Lib.hid hkd
  have e := head_of (l := l) (by rw [hr.len]; exact h9)
  rw [hN, hT, hF, hS] at e
  have HN2 := Lib.hid (show N < 16777216 by have := be_take_lt l 3; rw [hN] at this; have e3 : (256 : Nat) ^ 3 = 16777216 := by decide
                                            omega)
  have HH := Lib.hid e
  clear hr e hT hF hS hN hri hkn hkd
  go_enter Try.func100, Try.ntmps100
  go_wp2_with fail
  refine wp_scope_once 0 rfl ?_
  go_wp2_with fail
  generalize hW : World.alloc _ _ = w1
  have K1 : Kp [] w w1 := by rw [← hW]; (repeat (first | with_reducible exact Kp.refl _ _ | with_reducible assumption | with_reducible refine Kp.alloc ?_ _ | with_reducible refine Kp.drew ?_ | with_reducible refine Kp.drewN ?_ _ | (with_reducible refine Kp.setL ?_ ?_ _; focus (simp; done)) | (with_reducible refine Kp.setR ?_ ?_ _; focus (simp; done)) | (with_reducible refine Kp.setR ?_ ?_ _; focus (simp; omega))))
  have HF := Lib.hid (show w1.heap[w.heap.size]? = some (.cells #[.int .i64 0, .int .i64 0, .int .i64 0, .slice none 0 0, .int .i64 0, .int .u32 0, .int .i64 0, .int .i64 0, .int .i64 0, .bool false, .int .i64 0, .slice none 0 0] 49) by rw [← hW]; (repeat (first | with_reducible assumption | (with_reducible refine hp_new _ _ _ ?_; focus (simp; done)) | (with_reducible refine (hp_old _ _ _ ?_).trans ?_; focus (first | omega | (simp; done) | (simp; omega))) | (with_reducible refine (hp_far _ _ _ _ ?_).trans ?_; focus (first | (simp; done) | (simp; omega))) | (with_reducible refine (hp_drew _ _).trans ?_) | (with_reducible refine (hp_drewN _ _ _).trans ?_))))
  have HX := Lib.hid (show w1.heap[w.heap.size + 1]? = some (.cells #[.bool false, .int .i64 0, .int .i64 0] 64) by rw [← hW]; (repeat (first | with_reducible assumption | (with_reducible refine hp_new _ _ _ ?_; focus (simp; done)) | (with_reducible refine (hp_old _ _ _ ?_).trans ?_; focus (first | omega | (simp; done) | (simp; omega))) | (with_reducible refine (hp_far _ _ _ _ ?_).trans ?_; focus (first | (simp; done) | (simp; omega))) | (with_reducible refine (hp_drew _ _).trans ?_) | (with_reducible refine (hp_drewN _ _ _).trans ?_))))
  have HK := Lib.hid (show w1.heap[w.heap.size + 1 + 1]? = some (.cells #[.bool false, .bool false, .bool false, .nilFunc, .nilFunc, .nilFunc, .nilFunc] 185) by rw [← hW]; (repeat (first | with_reducible assumption | (with_reducible refine hp_new _ _ _ ?_; focus (simp; done)) | (with_reducible refine (hp_old _ _ _ ?_).trans ?_; focus (first | omega | (simp; done) | (simp; omega))) | (with_reducible refine (hp_far _ _ _ _ ?_).trans ?_; focus (first | (simp; done) | (simp; omega))) | (with_reducible refine (hp_drew _ _).trans ?_) | (with_reducible refine (hp_drewN _ _ _).trans ?_))))
  clear hW
  refine (Head_big A n c l w1 hn (HR.out.keep K1 (by simp))).mono ?_
  rintro e w2 ⟨rfl, K2⟩
  rw [HH.out]
  dsimp only
  have HF2 := Lib.hid (K2.heap HF.out (by simp))
  have HX2 := Lib.hid (K2.heap HX.out (by simp))
  have HD2 := Lib.hid (K2.heap HK.out (by simp))
  have HK2 := Lib.hid (K1.trans K2)
  clear HF HX HK K1 K2
  obtain ⟨q0, q1, q2, q3, q4, q5, q6, q7, q8, q9, q10, q11, qz, qlt, qlt2⟩ := cellsF HF2.out
  have x0 := cell_of HX2.out 0
  have x1 := cell_of HX2.out 1
  have x2 := cell_of HX2.out 2
  have xz := frozen_of HX2.out
  have hN2 : N < 16777216 := HN2.out
  go_wp2_with fail
  generalize hW : World.setCell _ _ _ = w3
  have HF3 := Lib.hid (show w3.heap[w.heap.size]? = some (.cells #[.int .i64 T, .int .i64 F, .int .i64 S, .slice none 0 0, .int .i64 0, .int .u32 0, .int .i64 0, .int .i64 0, .int .i64 0, .bool false, .int .i64 0, .slice none 0 0] 49) by rw [← hW]; exact sf11 (sf10 (sf9 (sf8 (sf7 (sf6 (sf5 (sf4 (sf3 (sf2 (sf1 (sf0 (HF2.out)))))))))))))
  have K3 : Kp [w.heap.size] w2 w3 := by rw [← hW]; exact (((((((((((((Kp.refl _ _).setCell (.inl (by simp)) _).setCell (.inl (by simp)) _).setCell (.inl (by simp)) _).setCell (.inl (by simp)) _).setCell (.inl (by simp)) _).setCell (.inl (by simp)) _).setCell (.inl (by simp)) _).setCell (.inl (by simp)) _).setCell (.inl (by simp)) _).setCell (.inl (by simp)) _).setCell (.inl (by simp)) _).setCell (.inl (by simp)) _)
  have HX3 := Lib.hid (K3.heap HX2.out (by simp))
  have HD3 := Lib.hid (K3.heap HD2.out (by simp; omega))
  have HK3 := Lib.hid (HK2.out.then K3 (by simp))
  clear hW K3 HF2 HX2 HD2 HK2 q0 q1 q2 q3 q4 q5 q6 q7 q8 q9 q10 q11 qz qlt qlt2 x0 x1 x2 xz
  obtain ⟨q0, q1, q2, q3, q4, q5, q6, q7, q8, q9, q10, q11, qz, qlt, qlt2⟩ := cellsF HF3.out
  have x0 := cell_of HX3.out 0
  have x1 := cell_of HX3.out 1
  have x2 := cell_of HX3.out 2
  have xz := frozen_of HX3.out
  refine (Known_any (T : Int) _).mono ?_
  rintro e w4 ⟨rfl, rfl⟩
  rw [HKN.out]
  go_wp2_with fail
  refine (HKD.out _).mono ?_
  rintro e w5 ⟨bk, rfl, hbk, hbk2, K5⟩
  have hdl := lt_of_heap HD3.out
  have HF5 := Lib.hid (K5.heap HF3.out (by simp))
  have HX5 := Lib.hid (K5.heap HX3.out (by simp))
  have HD5 := Lib.hid (K5.heap HD3.out (by simp))
  have HK5 := Lib.hid (HK3.out.trans K5)
  clear HF3 HX3 HD3 HK3 K5 HKD q0 q1 q2 q3 q4 q5 q6 q7 q8 q9 q10 q11 qz qlt qlt2 x0 x1 x2 xz
  have d0 := cell_of HD5.out 0
  have d1 := cell_of HD5.out 1
  have d2 := cell_of HD5.out 2
  have d3 := cell_of HD5.out 3
  have d4 := cell_of HD5.out 4
  have d5 := cell_of HD5.out 5
  have d6 := cell_of HD5.out 6
  have dz := frozen_of HD5.out
  go_wp2_with fail
  generalize hW : World.setCell _ _ _ = w6
  obtain ⟨hd6, K6⟩ : w6.heap[w.heap.size + 1 + 1]? = some (.cells #[.bool z, .bool any, .bool pd, Sz bk, Fv k2, Fv k3, Fv k4] 185) ∧ Kp [w.heap.size + 1 + 1] w5 w6 := by rw [← hW]; exact set7 HD5.out
  have HF6 := Lib.hid (K6.heap HF5.out (by simp; omega))
  have HX6 := Lib.hid (K6.heap HX5.out (by simp))
  have HD6 := Lib.hid hd6
  have HK6 := Lib.hid (HK5.out.then K6 (by simp; omega))
  have HS6 := Lib.hid (K6.heap hbk (by simp; omega))
  clear hbk hdl
  clear hW hd6 K6 HF5 HX5 HD5 HK5 d0 d1 d2 d3 d4 d5 d6 dz
  refine (rightF z any pd (Sz bk) (Fv k2) (Fv k3) (Fv k4) (S : Int) _ rfl rfl rfl rfl).mono ?_
  rintro e w7 ⟨rfl, K7⟩
  rw [HRI.out]
  have HF7 := Lib.hid (K7.heap HF6.out (by simp))
  have HX7 := Lib.hid (K7.heap HX6.out (by simp))
  have HD7 := Lib.hid (K7.heap HD6.out (by simp))
  have HK7 := Lib.hid (HK6.out.trans K7)
  have HS7 := Lib.hid (K7.heap HS6.out (by simp))
  clear HS6
  clear HF6 HX6 HD6 HK6 K7
  obtain ⟨q0, q1, q2, q3, q4, q5, q6, q7, q8, q9, q10, q11, qz, qlt, qlt2⟩ := cellsF HF7.out
  have x0 := cell_of HX7.out 0
  have x1 := cell_of HX7.out 1
  have x2 := cell_of HX7.out 2
  have xz := frozen_of HX7.out
  have d3 := cell_of HD7.out 3
  have d6 := cell_of HD7.out 6
  go_wp2_with fail
  refine (fitsSz N _ bk kk _ HS7.out).mono ?_
  rintro e w8 ⟨rfl, rfl⟩
  rw [HFIT.out]
  go_wp2
  go_step3
  refine And.intro rfl ?_
  go_wp2
  go_region
  go_wp2
  rw [jump_ret]
  generalize hW : World.setCell _ _ _ = W
  obtain ⟨HF9, HX9, K9⟩ : W.heap[w.heap.size]? = some (.cells #[.int .i64 0, .int .i64 0, .int .i64 0, .slice none 0 0, .int .i64 0, .int .u32 0, .int .i64 0, .int .i64 0, .int .i64 0, .bool false, .int .i64 0, .slice none 0 0] 49) ∧ W.heap[w.heap.size + 1]? = some (.cells #[.bool true, .int .i64 0, .int .i64 6] 64) ∧ Kp [w.heap.size, w.heap.size + 1] (World.setCell (World.setCell w7 ⟨w.heap.size + 1, 0, none⟩ (.bool true)) ⟨w.heap.size + 1, 2, none⟩ (.int .i64 6)) W := by rw [← hW]; exact set15 (by omega) ((hp_far _ _ _ _ (by simp)).trans ((hp_far _ _ _ _ (by simp)).trans HF7.out)) (sx2 (sx0 HX7.out))
  refine bodyPost_ret (v := .tuple #[.agg #[.int .i64 0, .int .i64 0, .int .i64 0, .slice none 0 0, .int .i64 0, .int .u32 0, .int .i64 0, .int .i64 0, .int .i64 0, .bool false, .int .i64 0, .slice none 0 0], .int .i64 (9 + (N : Int)), .agg #[.bool true, .int .i64 0, .int .i64 6], .int .i64 0]) (by simp [results, Try.results100, go_sem, cell_of HF9, cell_of HX9]) rfl ⟨(⟨0, 0, 0, none, 0, 0, 0, 0, 0, 0, 0, false, 0, none, 0, 0⟩ : Fr), rfl, FrP.zero _ _, ((HK7.out.then (((Kp.refl [w.heap.size + 1] w7).setCell (.inl (by simp)) (.bool true)).setCell (.inl (by simp)) (.int .i64 6)) (by simp)).then K9 (by simp)).drew⟩

set_option maxHeartbeats 4000000 in
set_option maxRecDepth 100000 in
theorem parseSz2 (T k2 k3 k4 : Nat) (kk : Int) (z any pd : Bool) (A : Option Addr) (n c : Nat) (l : List UInt8) (most : Int) (w : World) (hr : Rd w A n c l) (hn : n ≤ 281474976710656) (hm : 0 ≤ most) (h9 : ¬ n < 9) (N : Nat) (hN : be (l.take 3) = N) (hb : ¬ most < (N : Int)) (hc : ¬ n < 9 + N) (F S : Nat) (hT : (l.getD 3 0).toNat = T) (hF : (l.getD 4 0).toNat = F) (hS : be ((l.drop 5).take 4) % 2147483648 = S)
    (hkn : knownB (T : Int) = true) (hkd : ∀ w, Calls Try.prog 144 #[.int .i64 T] w fun e w' => ∃ bk, e = .returned (.agg #[.bool z, .bool any, .bool pd, Sz bk, Fv k2, Fv k3, Fv k4]) ∧ w'.heap[bk]? = some (.cells #[.int .i64 kk] 3) ∧ w.heap.size ≤ bk ∧ Kp [] w w') (hri : (any || (z == decide ((S : Int) = 0))) = true) (hfit : decide ((N : Int) = kk) = false) (hT2 : T = 2) :
    Calls Try.prog 100 #[.slice A n c, .int .i64 most] w (ParseR (.bad (9 + N) S 6) w) := by
  have HFIT := Lib.hid hfit
  clear hfit
  subst hT2
  have HR := Lib.hid hr
  have HRI := Lib.hid hri
  have HKN := Lib.hid hkn
  have HKD := Lib.hid hkd
  have e := head_of (l := l) (by rw [hr.len]; exact h9)
  rw [hN, hT, hF, hS] at e
  have HN2 := Lib.hid (show N < 16777216 by have := be_take_lt l 3; rw [hN] at this; have e3 : (256 : Nat) ^ 3 = 16777216 := by decide
                                            omega)
  have HH := Lib.hid e
  clear hr e hT hF hS hN hri hkn hkd
  go_enter Try.func100, Try.ntmps100
  go_wp2_with fail
  refine wp_scope_once 0 rfl ?_
  go_wp2_with fail
  generalize hW : World.alloc _ _ = w1
  have K1 : Kp [] w w1 := by rw [← hW]; (repeat (first | with_reducible exact Kp.refl _ _ | with_reducible assumption | with_reducible refine Kp.alloc ?_ _ | with_reducible refine Kp.drew ?_ | with_reducible refine Kp.drewN ?_ _ | (with_reducible refine Kp.setL ?_ ?_ _; focus (simp; done)) | (with_reducible refine Kp.setR ?_ ?_ _; focus (simp; done)) | (with_reducible refine Kp.setR ?_ ?_ _; focus (simp; omega))))
  have HF := Lib.hid (show w1.heap[w.heap.size]? = some (.cells #[.int .i64 0, .int .i64 0, .int .i64 0, .slice none 0 0, .int .i64 0, .int .u32 0, .int .i64 0, .int .i64 0, .int .i64 0, .bool false, .int .i64 0, .slice none 0 0] 49) by rw [← hW]; (repeat (first | with_reducible assumption | (with_reducible refine hp_new _ _ _ ?_; focus (simp; done)) | (with_reducible refine (hp_old _ _ _ ?_).trans ?_; focus (first | omega | (simp; done) | (simp; omega))) | (with_reducible refine (hp_far _ _ _ _ ?_).trans ?_; focus (first | (simp; done) | (simp; omega))) | (with_reducible refine (hp_drew _ _).trans ?_) | (with_reducible refine (hp_drewN _ _ _).trans ?_))))
  have HX := Lib.hid (show w1.heap[w.heap.size + 1]? = some (.cells #[.bool false, .int .i64 0, .int .i64 0] 64) by rw [← hW]; (repeat (first | with_reducible assumption | (with_reducible refine hp_new _ _ _ ?_; focus (simp; done)) | (with_reducible refine (hp_old _ _ _ ?_).trans ?_; focus (first | omega | (simp; done) | (simp; omega))) | (with_reducible refine (hp_far _ _ _ _ ?_).trans ?_; focus (first | (simp; done) | (simp; omega))) | (with_reducible refine (hp_drew _ _).trans ?_) | (with_reducible refine (hp_drewN _ _ _).trans ?_))))
  have HK := Lib.hid (show w1.heap[w.heap.size + 1 + 1]? = some (.cells #[.bool false, .bool false, .bool false, .nilFunc, .nilFunc, .nilFunc, .nilFunc] 185) by rw [← hW]; (repeat (first | with_reducible assumption | (with_reducible refine hp_new _ _ _ ?_; focus (simp; done)) | (with_reducible refine (hp_old _ _ _ ?_).trans ?_; focus (first | omega | (simp; done) | (simp; omega))) | (with_reducible refine (hp_far _ _ _ _ ?_).trans ?_; focus (first | (simp; done) | (simp; omega))) | (with_reducible refine (hp_drew _ _).trans ?_) | (with_reducible refine (hp_drewN _ _ _).trans ?_))))
  clear hW
  refine (Head_big A n c l w1 hn (HR.out.keep K1 (by simp))).mono ?_
  rintro e w2 ⟨rfl, K2⟩
  rw [HH.out]
  dsimp only
  have HF2 := Lib.hid (K2.heap HF.out (by simp))
  have HX2 := Lib.hid (K2.heap HX.out (by simp))
  have HD2 := Lib.hid (K2.heap HK.out (by simp))
  have HK2 := Lib.hid (K1.trans K2)
  clear HF HX HK K1 K2
  obtain ⟨q0, q1, q2, q3, q4, q5, q6, q7, q8, q9, q10, q11, qz, qlt, qlt2⟩ := cellsF HF2.out
  have x0 := cell_of HX2.out 0
  have x1 := cell_of HX2.out 1
  have x2 := cell_of HX2.out 2
  have xz := frozen_of HX2.out
  have hN2 : N < 16777216 := HN2.out
  go_wp2_with fail
  generalize hW : World.setCell _ _ _ = w3
  have HF3 := Lib.hid (show w3.heap[w.heap.size]? = some (.cells #[.int .i64 ((2 : Nat) : Int), .int .i64 F, .int .i64 S, .slice none 0 0, .int .i64 0, .int .u32 0, .int .i64 0, .int .i64 0, .int .i64 0, .bool false, .int .i64 0, .slice none 0 0] 49) by rw [← hW]; exact sf11 (sf10 (sf9 (sf8 (sf7 (sf6 (sf5 (sf4 (sf3 (sf2 (sf1 (sf0 (HF2.out)))))))))))))
  have K3 : Kp [w.heap.size] w2 w3 := by rw [← hW]; exact (((((((((((((Kp.refl _ _).setCell (.inl (by simp)) _).setCell (.inl (by simp)) _).setCell (.inl (by simp)) _).setCell (.inl (by simp)) _).setCell (.inl (by simp)) _).setCell (.inl (by simp)) _).setCell (.inl (by simp)) _).setCell (.inl (by simp)) _).setCell (.inl (by simp)) _).setCell (.inl (by simp)) _).setCell (.inl (by simp)) _).setCell (.inl (by simp)) _)
  have HX3 := Lib.hid (K3.heap HX2.out (by simp))
  have HD3 := Lib.hid (K3.heap HD2.out (by simp; omega))
  have HK3 := Lib.hid (HK2.out.then K3 (by simp))
  clear hW K3 HF2 HX2 HD2 HK2 q0 q1 q2 q3 q4 q5 q6 q7 q8 q9 q10 q11 qz qlt qlt2 x0 x1 x2 xz
  obtain ⟨q0, q1, q2, q3, q4, q5, q6, q7, q8, q9, q10, q11, qz, qlt, qlt2⟩ := cellsF HF3.out
  have x0 := cell_of HX3.out 0
  have x1 := cell_of HX3.out 1
  have x2 := cell_of HX3.out 2
  have xz := frozen_of HX3.out
  refine (Known_any ((2 : Nat) : Int) _).mono ?_
  rintro e w4 ⟨rfl, rfl⟩
  rw [HKN.out]
  go_wp2_with fail
  refine (HKD.out _).mono ?_
  rintro e w5 ⟨bk, rfl, hbk, hbk2, K5⟩
  have hdl := lt_of_heap HD3.out
  have HF5 := Lib.hid (K5.heap HF3.out (by simp))
  have HX5 := Lib.hid (K5.heap HX3.out (by simp))
  have HD5 := Lib.hid (K5.heap HD3.out (by simp))
  have HK5 := Lib.hid (HK3.out.trans K5)
  clear HF3 HX3 HD3 HK3 K5 HKD q0 q1 q2 q3 q4 q5 q6 q7 q8 q9 q10 q11 qz qlt qlt2 x0 x1 x2 xz
  have d0 := cell_of HD5.out 0
  have d1 := cell_of HD5.out 1
  have d2 := cell_of HD5.out 2
  have d3 := cell_of HD5.out 3
  have d4 := cell_of HD5.out 4
  have d5 := cell_of HD5.out 5
  have d6 := cell_of HD5.out 6
  have dz := frozen_of HD5.out
  go_wp2_with fail
  generalize hW : World.setCell _ _ _ = w6
  obtain ⟨hd6, K6⟩ : w6.heap[w.heap.size + 1 + 1]? = some (.cells #[.bool z, .bool any, .bool pd, Sz bk, Fv k2, Fv k3, Fv k4] 185) ∧ Kp [w.heap.size + 1 + 1] w5 w6 := by rw [← hW]; exact set7 HD5.out
  have HF6 := Lib.hid (K6.heap HF5.out (by simp; omega))
  have HX6 := Lib.hid (K6.heap HX5.out (by simp))
  have HD6 := Lib.hid hd6
  have HK6 := Lib.hid (HK5.out.then K6 (by simp; omega))
  have HS6 := Lib.hid (K6.heap hbk (by simp; omega))
  clear hbk hdl
  clear hW hd6 K6 HF5 HX5 HD5 HK5 d0 d1 d2 d3 d4 d5 d6 dz
  refine (rightF z any pd (Sz bk) (Fv k2) (Fv k3) (Fv k4) (S : Int) _ rfl rfl rfl rfl).mono ?_
  rintro e w7 ⟨rfl, K7⟩
  rw [HRI.out]
  have HF7 := Lib.hid (K7.heap HF6.out (by simp))
  have HX7 := Lib.hid (K7.heap HX6.out (by simp))
  have HD7 := Lib.hid (K7.heap HD6.out (by simp))
  have HK7 := Lib.hid (HK6.out.trans K7)
  have HS7 := Lib.hid (K7.heap HS6.out (by simp))
  clear HS6
  clear HF6 HX6 HD6 HK6 K7
  obtain ⟨q0, q1, q2, q3, q4, q5, q6, q7, q8, q9, q10, q11, qz, qlt, qlt2⟩ := cellsF HF7.out
  have x0 := cell_of HX7.out 0
  have x1 := cell_of HX7.out 1
  have x2 := cell_of HX7.out 2
  have xz := frozen_of HX7.out
  have d3 := cell_of HD7.out 3
  have d6 := cell_of HD7.out 6
  go_wp2_with fail
  refine (fitsSz N _ bk kk _ HS7.out).mono ?_
  rintro e w8 ⟨rfl, rfl⟩
  rw [HFIT.out]
  go_wp2
  go_step3
  refine And.intro rfl ?_
  go_wp2
  go_region
  go_wp2
  rw [jump_ret]
  generalize hW : World.setCell _ _ _ = W
  obtain ⟨HF9, HX9, K9⟩ : W.heap[w.heap.size]? = some (.cells #[.int .i64 0, .int .i64 0, .int .i64 0, .slice none 0 0, .int .i64 0, .int .u32 0, .int .i64 0, .int .i64 0, .int .i64 0, .bool false, .int .i64 0, .slice none 0 0] 49) ∧ W.heap[w.heap.size + 1]? = some (.cells #[.bool true, .int .i64 S, .int .i64 6] 64) ∧ Kp [w.heap.size, w.heap.size + 1] (World.setCell (World.setCell (World.setCell w7 ⟨w.heap.size + 1, 1, none⟩ (.int .i64 S)) ⟨w.heap.size + 1, 0, none⟩ (.bool true)) ⟨w.heap.size + 1, 2, none⟩ (.int .i64 6)) W := by rw [← hW]; exact set15 (by omega) ((hp_far _ _ _ _ (by simp)).trans ((hp_far _ _ _ _ (by simp)).trans ((hp_far _ _ _ _ (by simp)).trans HF7.out))) (sx2 (sx0 (sx1 HX7.out)))
  refine bodyPost_ret (v := .tuple #[.agg #[.int .i64 0, .int .i64 0, .int .i64 0, .slice none 0 0, .int .i64 0, .int .u32 0, .int .i64 0, .int .i64 0, .int .i64 0, .bool false, .int .i64 0, .slice none 0 0], .int .i64 (9 + (N : Int)), .agg #[.bool true, .int .i64 S, .int .i64 6], .int .i64 0]) (by simp [results, Try.results100, go_sem, cell_of HF9, cell_of HX9]) rfl ⟨(⟨0, 0, 0, none, 0, 0, 0, 0, 0, 0, 0, false, 0, none, 0, 0⟩ : Fr), rfl, FrP.zero _ _, ((HK7.out.then ((((Kp.refl [w.heap.size + 1] w7).setCell (.inl (by simp)) (.int .i64 S)).setCell (.inl (by simp)) (.bool true)).setCell (.inl (by simp)) (.int .i64 6)) (by simp)).then K9 (by simp)).drew⟩

end Go.Proofs.Ytkmcakneceagpaa
