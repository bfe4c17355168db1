/- The reference's joiner: In, its calm fault. -/
import Derived.Test.YtibeaombhjdakaaRJi
set_option linter.unusedVariables false
set_option linter.unusedSimpArgs false
set_option linter.unusedSimpArgs false
namespace Go.Proofs.Ytibeaombhjdakaa
open Go.RowKit
set_option maxHeartbeats 8000000 in
set_option maxRecDepth 100000 in
theorem RIn_calmH0 (g : Nat) (f : Fr) (F : Nat) (w : World) (most : Nat) (st : Int) (en : Bool) (A : Option Addr) (n c : Nat) (h : w.heap[g]? = some (.cells #[.int .i64 most, .int .i64 st, .bool en, .slice A n c] 42)) (hfl : f.fl = (F : Int)) (hm : most ≤ 65536) (hn : n ≤ most) (hpn : f.pn ≤ 140737488351232) (hc : most < 0 + f.pn) (hst : st = 0) (h1 : f.ty = 1) (hz : F % 2 = 0) : Calls Try.prog 7 #[.pointer (some ⟨g, 0, none⟩), .agg #[.int .i64 f.ty, .int .i64 f.fl, .int .i64 f.st, .slice f.pA f.pn f.pc, .int .i64 f.pad, .int .u32 f.code, .int .i64 f.last, .int .i64 f.inc, .int .i64 f.dep, .bool f.only, .int .i64 f.wt, .slice f.sA f.sn f.sc]] w (fun e w' => e = .returned (.tuple #[.agg #[.int .i64 0, .int .i64 0, .int .i64 0, .slice none 0 0, .int .i64 0, .int .u32 0, .int .i64 0, .int .i64 0, .int .i64 0, .bool false, .int .i64 0, .slice none 0 0], .bool false, .agg #[.bool true, .int .i64 0, .int .i64 11]]) ∧ w'.heap[g]? = some (.cells #[.int .i64 most, .int .i64 0, .bool false, .slice none 0 0] 42) ∧ Kp [g] w w') := by
  have hl := lt_of_heap h
  have HH := Lib.hid h
  clear h
  obtain ⟨ty, fl, fst, pA, pn, pc, pad, code, last, inc, dep, only, wt, sA, sn, sc⟩ := f
  dsimp only at *
  subst hfl
  have est0 : (st == 0) = true := by simp; omega
  have nst0 : (st != 0) = false := by simp; omega
  have ety9 : (ty == 9) = false := by simp; omega
  have nty9 : (ty != 9) = true := by simp; omega
  have ety1 : (ty == 1) = true := by simp; omega
  have nty1 : (ty != 1) = false := by simp; omega
  have hz1 : ((F : Int).tmod 2) = 0 := by rw [show ((F : Int).tmod 2) = ((F % 2 : Nat) : Int) by simp [Int.tmod], hz]; rfl
  have hz2 : ((F : Int) % 2) = 0 := by omega
  have hmi : (most : Int) ≤ 65536 := by omega
  have hni : (n : Int) ≤ (most : Int) := by omega
  have hw : IntKind.i64.wrap ((most : Int) - (0 : Int)) = (most : Int) - (0 : Int) := by apply IntWalk.i64_in; omega
  have hci : (most : Int) - (0 : Int) < (pn : Int) := by omega
  clear hst h1 hz
  go_enter Try.func7, Try.ntmps7
  go_wp2
  generalize hW : World.alloc _ _ = w1
  have K1 : Kp [] w w1 := by rw [← hW]; (repeat (first | with_reducible exact Kp.refl _ _ | with_reducible assumption | with_reducible refine Kp.alloc ?_ _ | with_reducible refine Kp.drew ?_ | with_reducible refine Kp.drewN ?_ _ | (with_reducible refine Kp.setL ?_ ?_ _; focus (simp; done)) | (with_reducible refine Kp.setR ?_ ?_ _; focus (simp; done)) | (with_reducible refine Kp.setR ?_ ?_ _; focus (simp; omega))))
  have HB := Lib.hid (show w1.heap[w.heap.size]? = some (.cells #[.int .i64 ty, .int .i64 (F : Int), .int .i64 fst, .slice pA pn pc, .int .i64 pad, .int .u32 code, .int .i64 last, .int .i64 inc, .int .i64 dep, .bool only, .int .i64 wt, .slice sA sn sc] 34) by rw [← hW]; (repeat (first | with_reducible assumption | (with_reducible refine hp_new _ _ _ ?_; focus (simp; done)) | (with_reducible refine (hp_old _ _ _ ?_).trans ?_; focus (first | omega | (simp; done) | (simp; omega))) | (with_reducible refine (hp_far _ _ _ _ ?_).trans ?_; focus (first | (simp; done) | (simp; omega))) | (with_reducible refine (hp_drew _ _).trans ?_) | (with_reducible refine (hp_drewN _ _ _).trans ?_))))
  have HF := Lib.hid (show w1.heap[w.heap.size + 1]? = some (.cells #[.int .i64 0, .int .i64 0, .int .i64 0, .slice none 0 0, .int .i64 0, .int .u32 0, .int .i64 0, .int .i64 0, .int .i64 0, .bool false, .int .i64 0, .slice none 0 0] 34) by rw [← hW]; (repeat (first | with_reducible assumption | (with_reducible refine hp_new _ _ _ ?_; focus (simp; done)) | (with_reducible refine (hp_old _ _ _ ?_).trans ?_; focus (first | omega | (simp; done) | (simp; omega))) | (with_reducible refine (hp_far _ _ _ _ ?_).trans ?_; focus (first | (simp; done) | (simp; omega))) | (with_reducible refine (hp_drew _ _).trans ?_) | (with_reducible refine (hp_drewN _ _ _).trans ?_))))
  have HX := Lib.hid (show w1.heap[w.heap.size + 1 + 1]? = some (.cells #[.bool false, .int .i64 0, .int .i64 0] 36) by rw [← hW]; (repeat (first | with_reducible assumption | (with_reducible refine hp_new _ _ _ ?_; focus (simp; done)) | (with_reducible refine (hp_old _ _ _ ?_).trans ?_; focus (first | omega | (simp; done) | (simp; omega))) | (with_reducible refine (hp_far _ _ _ _ ?_).trans ?_; focus (first | (simp; done) | (simp; omega))) | (with_reducible refine (hp_drew _ _).trans ?_) | (with_reducible refine (hp_drewN _ _ _).trans ?_))))
  have H1 := Lib.hid (K1.heap HH.out (by simp))
  clear hW HH
  have c0 := cell_of H1.out 0
  have c1 := cell_of H1.out 1
  have c2 := cell_of H1.out 2
  have c3 := cell_of H1.out 3
  have cz := frozen_of H1.out
  have cl := lt_of_heap H1.out
  obtain ⟨b0, b1, b2, b3, b4, b5, b6, b7, b8, b9, b10, b11, bz, blt, blt2⟩ := jcellsF HB.out
  obtain ⟨q0, q1, q2, q3, q4, q5, q6, q7, q8, q9, q10, q11, qz, qlt, qlt2⟩ := jcellsF HF.out
  have x0 := cell_of HX.out 0
  have x1 := cell_of HX.out 1
  have x2 := cell_of HX.out 2
  have xz := frozen_of HX.out
  have xl := lt_of_heap HX.out
  go_region
  go_wp2
  generalize hW : World.setCell _ _ _ = w2
  have K12 : Kp [g] w1 w2 := by rw [← hW]; exact (((Kp.refl _ _).setCell (.inl (by simp)) _).setCell (.inl (by simp)) _).setCell (.inl (by simp)) _
  have H2' : w2.heap[g]? = some (.cells #[.int .i64 most, .int .i64 fst, .bool false, .slice none 0 0] 42) := by rw [← hW]; exact hp_set _ _ _ _ _ _ (hp_set _ _ _ _ _ _ (hp_set _ _ _ _ _ _ H1.out))
  have H2 := Lib.hid (show w2.drew.heap[g]? = _ from H2')
  have HB2 := Lib.hid (show w2.drew.heap[w.heap.size]? = _ from K12.heap HB.out (by simp; omega))
  have HF2 := Lib.hid (show w2.drew.heap[w.heap.size + 1]? = _ from K12.heap HF.out (by simp; omega))
  have HX2 := Lib.hid (show w2.drew.heap[w.heap.size + 1 + 1]? = _ from K12.heap HX.out (by simp; omega))
  have K2 := Lib.hid (K1.nil.trans K12.drew)
  clear hW K12 H2' HB HF HX H1 K1 c0 c1 c2 c3 cz cl b0 b1 b2 b3 b4 b5 b6 b7 b8 b9 b10 b11 bz blt blt2 q0 q1 q2 q3 q4 q5 q6 q7 q8 q9 q10 q11 qz qlt qlt2 x0 x1 x2 xz xl
  generalize w2.drew = w2 at *
  have c0 := cell_of H2.out 0
  have c1 := cell_of H2.out 1
  have c2 := cell_of H2.out 2
  have c3 := cell_of H2.out 3
  have cz := frozen_of H2.out
  have cl := lt_of_heap H2.out
  obtain ⟨b0, b1, b2, b3, b4, b5, b6, b7, b8, b9, b10, b11, bz, blt, blt2⟩ := jcellsF HB2.out
  obtain ⟨q0, q1, q2, q3, q4, q5, q6, q7, q8, q9, q10, q11, qz, qlt, qlt2⟩ := jcellsF HF2.out
  have x0 := cell_of HX2.out 0
  have x1 := cell_of HX2.out 1
  have x2 := cell_of HX2.out 2
  have xz := frozen_of HX2.out
  have xl := lt_of_heap HX2.out
  go_region
  go_wp2_with fail
  refine (RJfault g 11 (w2.drew) most fst false none 0 0 H2.out).mono ?_
  rintro e w5 ⟨rfl, h2, k5⟩
  have HF5 := Lib.hid (k5.heap HF2.out (by simp; omega))
  have HX5 := Lib.hid (k5.heap HX2.out (by simp; omega))
  have H5 := Lib.hid h2
  have K02 := Lib.hid (K2.out.drew.trans k5)
  clear h2 k5 H2 HB2 HF2 HX2 K2 c0 c1 c2 c3 cz cl q0 q1 q2 q3 q4 q5 q6 q7 q8 q9 q10 q11 qz qlt qlt2 x0 x1 x2 xz xl
  obtain ⟨q0, q1, q2, q3, q4, q5, q6, q7, q8, q9, q10, q11, qz, qlt, qlt2⟩ := jcellsF HF5.out
  have x0 := cell_of HX5.out 0
  have x1 := cell_of HX5.out 1
  have x2 := cell_of HX5.out 2
  have xz := frozen_of HX5.out
  have xl := lt_of_heap HX5.out
  go_wp2
  generalize hW : World.setCell _ _ _ = W
  obtain ⟨HF9, HX9, K9⟩ : W.heap[(w.heap.size + 1)]? = some (.cells #[.int .i64 0, .int .i64 0, .int .i64 0, .slice none 0 0, .int .i64 0, .int .u32 0, .int .i64 0, .int .i64 0, .int .i64 0, .bool false, .int .i64 0, .slice none 0 0] 34) ∧ W.heap[(w.heap.size + 1 + 1)]? = some (.cells #[.bool true, .int .i64 0, .int .i64 11] 36) ∧ Kp [(w.heap.size + 1), (w.heap.size + 1 + 1)] w5 W := by rw [← hW]; exact jset15 (by omega) HF5.out HX5.out
  refine bodyPost_ret (v := .tuple #[.agg #[.int .i64 0, .int .i64 0, .int .i64 0, .slice none 0 0, .int .i64 0, .int .u32 0, .int .i64 0, .int .i64 0, .int .i64 0, .bool false, .int .i64 0, .slice none 0 0], .bool false, .agg #[.bool true, .int .i64 0, .int .i64 11]]) (by simp [results, Try.results7, go_sem, cell_of HF9, cell_of HX9]) rfl ⟨rfl, K9.heap H5.out (by simp; omega), K02.out.then K9 (by intro t ht; simp at ht; right; omega)⟩
set_option maxHeartbeats 8000000 in
set_option maxRecDepth 100000 in
theorem RIn_calmH1 (g : Nat) (f : Fr) (F : Nat) (w : World) (most : Nat) (st : Int) (en : Bool) (A : Option Addr) (n c : Nat) (h : w.heap[g]? = some (.cells #[.int .i64 most, .int .i64 st, .bool en, .slice A n c] 42)) (hfl : f.fl = (F : Int)) (hm : most ≤ 65536) (hn : n ≤ most) (hpn : f.pn ≤ 140737488351232) (hc : most < 0 + f.pn) (hst : st = 0) (h1 : f.ty = 1) (hz : F % 2 = 1) : Calls Try.prog 7 #[.pointer (some ⟨g, 0, none⟩), .agg #[.int .i64 f.ty, .int .i64 f.fl, .int .i64 f.st, .slice f.pA f.pn f.pc, .int .i64 f.pad, .int .u32 f.code, .int .i64 f.last, .int .i64 f.inc, .int .i64 f.dep, .bool f.only, .int .i64 f.wt, .slice f.sA f.sn f.sc]] w (fun e w' => e = .returned (.tuple #[.agg #[.int .i64 0, .int .i64 0, .int .i64 0, .slice none 0 0, .int .i64 0, .int .u32 0, .int .i64 0, .int .i64 0, .int .i64 0, .bool false, .int .i64 0, .slice none 0 0], .bool false, .agg #[.bool true, .int .i64 0, .int .i64 11]]) ∧ w'.heap[g]? = some (.cells #[.int .i64 most, .int .i64 0, .bool false, .slice none 0 0] 42) ∧ Kp [g] w w') := by
  have hl := lt_of_heap h
  have HH := Lib.hid h
  clear h
  obtain ⟨ty, fl, fst, pA, pn, pc, pad, code, last, inc, dep, only, wt, sA, sn, sc⟩ := f
  dsimp only at *
  subst hfl
  have est0 : (st == 0) = true := by simp; omega
  have nst0 : (st != 0) = false := by simp; omega
  have ety9 : (ty == 9) = false := by simp; omega
  have nty9 : (ty != 9) = true := by simp; omega
  have ety1 : (ty == 1) = true := by simp; omega
  have nty1 : (ty != 1) = false := by simp; omega
  have hz1 : ((F : Int).tmod 2) = 1 := by rw [show ((F : Int).tmod 2) = ((F % 2 : Nat) : Int) by simp [Int.tmod], hz]; rfl
  have hz2 : ((F : Int) % 2) = 1 := by omega
  have hmi : (most : Int) ≤ 65536 := by omega
  have hni : (n : Int) ≤ (most : Int) := by omega
  have hw : IntKind.i64.wrap ((most : Int) - (0 : Int)) = (most : Int) - (0 : Int) := by apply IntWalk.i64_in; omega
  have hci : (most : Int) - (0 : Int) < (pn : Int) := by omega
  clear hst h1 hz
  go_enter Try.func7, Try.ntmps7
  go_wp2
  generalize hW : World.alloc _ _ = w1
  have K1 : Kp [] w w1 := by rw [← hW]; (repeat (first | with_reducible exact Kp.refl _ _ | with_reducible assumption | with_reducible refine Kp.alloc ?_ _ | with_reducible refine Kp.drew ?_ | with_reducible refine Kp.drewN ?_ _ | (with_reducible refine Kp.setL ?_ ?_ _; focus (simp; done)) | (with_reducible refine Kp.setR ?_ ?_ _; focus (simp; done)) | (with_reducible refine Kp.setR ?_ ?_ _; focus (simp; omega))))
  have HB := Lib.hid (show w1.heap[w.heap.size]? = some (.cells #[.int .i64 ty, .int .i64 (F : Int), .int .i64 fst, .slice pA pn pc, .int .i64 pad, .int .u32 code, .int .i64 last, .int .i64 inc, .int .i64 dep, .bool only, .int .i64 wt, .slice sA sn sc] 34) by rw [← hW]; (repeat (first | with_reducible assumption | (with_reducible refine hp_new _ _ _ ?_; focus (simp; done)) | (with_reducible refine (hp_old _ _ _ ?_).trans ?_; focus (first | omega | (simp; done) | (simp; omega))) | (with_reducible refine (hp_far _ _ _ _ ?_).trans ?_; focus (first | (simp; done) | (simp; omega))) | (with_reducible refine (hp_drew _ _).trans ?_) | (with_reducible refine (hp_drewN _ _ _).trans ?_))))
  have HF := Lib.hid (show w1.heap[w.heap.size + 1]? = some (.cells #[.int .i64 0, .int .i64 0, .int .i64 0, .slice none 0 0, .int .i64 0, .int .u32 0, .int .i64 0, .int .i64 0, .int .i64 0, .bool false, .int .i64 0, .slice none 0 0] 34) by rw [← hW]; (repeat (first | with_reducible assumption | (with_reducible refine hp_new _ _ _ ?_; focus (simp; done)) | (with_reducible refine (hp_old _ _ _ ?_).trans ?_; focus (first | omega | (simp; done) | (simp; omega))) | (with_reducible refine (hp_far _ _ _ _ ?_).trans ?_; focus (first | (simp; done) | (simp; omega))) | (with_reducible refine (hp_drew _ _).trans ?_) | (with_reducible refine (hp_drewN _ _ _).trans ?_))))
  have HX := Lib.hid (show w1.heap[w.heap.size + 1 + 1]? = some (.cells #[.bool false, .int .i64 0, .int .i64 0] 36) by rw [← hW]; (repeat (first | with_reducible assumption | (with_reducible refine hp_new _ _ _ ?_; focus (simp; done)) | (with_reducible refine (hp_old _ _ _ ?_).trans ?_; focus (first | omega | (simp; done) | (simp; omega))) | (with_reducible refine (hp_far _ _ _ _ ?_).trans ?_; focus (first | (simp; done) | (simp; omega))) | (with_reducible refine (hp_drew _ _).trans ?_) | (with_reducible refine (hp_drewN _ _ _).trans ?_))))
  have H1 := Lib.hid (K1.heap HH.out (by simp))
  clear hW HH
  have c0 := cell_of H1.out 0
  have c1 := cell_of H1.out 1
  have c2 := cell_of H1.out 2
  have c3 := cell_of H1.out 3
  have cz := frozen_of H1.out
  have cl := lt_of_heap H1.out
  obtain ⟨b0, b1, b2, b3, b4, b5, b6, b7, b8, b9, b10, b11, bz, blt, blt2⟩ := jcellsF HB.out
  obtain ⟨q0, q1, q2, q3, q4, q5, q6, q7, q8, q9, q10, q11, qz, qlt, qlt2⟩ := jcellsF HF.out
  have x0 := cell_of HX.out 0
  have x1 := cell_of HX.out 1
  have x2 := cell_of HX.out 2
  have xz := frozen_of HX.out
  have xl := lt_of_heap HX.out
  go_region
  go_wp2
  generalize hW : World.setCell _ _ _ = w2
  have K12 : Kp [g] w1 w2 := by rw [← hW]; exact (((Kp.refl _ _).setCell (.inl (by simp)) _).setCell (.inl (by simp)) _).setCell (.inl (by simp)) _
  have H2' : w2.heap[g]? = some (.cells #[.int .i64 most, .int .i64 fst, .bool true, .slice none 0 0] 42) := by rw [← hW]; exact hp_set _ _ _ _ _ _ (hp_set _ _ _ _ _ _ (hp_set _ _ _ _ _ _ H1.out))
  have H2 := Lib.hid (show w2.drew.heap[g]? = _ from H2')
  have HB2 := Lib.hid (show w2.drew.heap[w.heap.size]? = _ from K12.heap HB.out (by simp; omega))
  have HF2 := Lib.hid (show w2.drew.heap[w.heap.size + 1]? = _ from K12.heap HF.out (by simp; omega))
  have HX2 := Lib.hid (show w2.drew.heap[w.heap.size + 1 + 1]? = _ from K12.heap HX.out (by simp; omega))
  have K2 := Lib.hid (K1.nil.trans K12.drew)
  clear hW K12 H2' HB HF HX H1 K1 c0 c1 c2 c3 cz cl b0 b1 b2 b3 b4 b5 b6 b7 b8 b9 b10 b11 bz blt blt2 q0 q1 q2 q3 q4 q5 q6 q7 q8 q9 q10 q11 qz qlt qlt2 x0 x1 x2 xz xl
  generalize w2.drew = w2 at *
  have c0 := cell_of H2.out 0
  have c1 := cell_of H2.out 1
  have c2 := cell_of H2.out 2
  have c3 := cell_of H2.out 3
  have cz := frozen_of H2.out
  have cl := lt_of_heap H2.out
  obtain ⟨b0, b1, b2, b3, b4, b5, b6, b7, b8, b9, b10, b11, bz, blt, blt2⟩ := jcellsF HB2.out
  obtain ⟨q0, q1, q2, q3, q4, q5, q6, q7, q8, q9, q10, q11, qz, qlt, qlt2⟩ := jcellsF HF2.out
  have x0 := cell_of HX2.out 0
  have x1 := cell_of HX2.out 1
  have x2 := cell_of HX2.out 2
  have xz := frozen_of HX2.out
  have xl := lt_of_heap HX2.out
  go_region
  go_wp2_with fail
  refine (RJfault g 11 (w2.drew) most fst true none 0 0 H2.out).mono ?_
  rintro e w5 ⟨rfl, h2, k5⟩
  have HF5 := Lib.hid (k5.heap HF2.out (by simp; omega))
  have HX5 := Lib.hid (k5.heap HX2.out (by simp; omega))
  have H5 := Lib.hid h2
  have K02 := Lib.hid (K2.out.drew.trans k5)
  clear h2 k5 H2 HB2 HF2 HX2 K2 c0 c1 c2 c3 cz cl q0 q1 q2 q3 q4 q5 q6 q7 q8 q9 q10 q11 qz qlt qlt2 x0 x1 x2 xz xl
  obtain ⟨q0, q1, q2, q3, q4, q5, q6, q7, q8, q9, q10, q11, qz, qlt, qlt2⟩ := jcellsF HF5.out
  have x0 := cell_of HX5.out 0
  have x1 := cell_of HX5.out 1
  have x2 := cell_of HX5.out 2
  have xz := frozen_of HX5.out
  have xl := lt_of_heap HX5.out
  go_wp2
  generalize hW : World.setCell _ _ _ = W
  obtain ⟨HF9, HX9, K9⟩ : W.heap[(w.heap.size + 1)]? = some (.cells #[.int .i64 0, .int .i64 0, .int .i64 0, .slice none 0 0, .int .i64 0, .int .u32 0, .int .i64 0, .int .i64 0, .int .i64 0, .bool false, .int .i64 0, .slice none 0 0] 34) ∧ W.heap[(w.heap.size + 1 + 1)]? = some (.cells #[.bool true, .int .i64 0, .int .i64 11] 36) ∧ Kp [(w.heap.size + 1), (w.heap.size + 1 + 1)] w5 W := by rw [← hW]; exact jset15 (by omega) HF5.out HX5.out
  refine bodyPost_ret (v := .tuple #[.agg #[.int .i64 0, .int .i64 0, .int .i64 0, .slice none 0 0, .int .i64 0, .int .u32 0, .int .i64 0, .int .i64 0, .int .i64 0, .bool false, .int .i64 0, .slice none 0 0], .bool false, .agg #[.bool true, .int .i64 0, .int .i64 11]]) (by simp [results, Try.results7, go_sem, cell_of HF9, cell_of HX9]) rfl ⟨rfl, K9.heap H5.out (by simp; omega), K02.out.then K9 (by intro t ht; simp at ht; right; omega)⟩
set_option maxHeartbeats 8000000 in
set_option maxRecDepth 100000 in
theorem RIn_calmC (g : Nat) (f : Fr) (F : Nat) (w : World) (most : Nat) (st : Int) (en : Bool) (A : Option Addr) (n c : Nat) (h : w.heap[g]? = some (.cells #[.int .i64 most, .int .i64 st, .bool en, .slice A n c] 42)) (hfl : f.fl = (F : Int)) (hm : most ≤ 65536) (hn : n ≤ most) (hpn : f.pn ≤ 140737488351232) (hc : most < n + f.pn) (hst : ¬ st = 0) (h9 : f.ty = 9) (hs : f.st = st) : Calls Try.prog 7 #[.pointer (some ⟨g, 0, none⟩), .agg #[.int .i64 f.ty, .int .i64 f.fl, .int .i64 f.st, .slice f.pA f.pn f.pc, .int .i64 f.pad, .int .u32 f.code, .int .i64 f.last, .int .i64 f.inc, .int .i64 f.dep, .bool f.only, .int .i64 f.wt, .slice f.sA f.sn f.sc]] w (fun e w' => e = .returned (.tuple #[.agg #[.int .i64 0, .int .i64 0, .int .i64 0, .slice none 0 0, .int .i64 0, .int .u32 0, .int .i64 0, .int .i64 0, .int .i64 0, .bool false, .int .i64 0, .slice none 0 0], .bool false, .agg #[.bool true, .int .i64 0, .int .i64 11]]) ∧ w'.heap[g]? = some (.cells #[.int .i64 most, .int .i64 0, .bool false, .slice none 0 0] 42) ∧ Kp [g] w w') := by
  have hl := lt_of_heap h
  have HH := Lib.hid h
  clear h
  obtain ⟨ty, fl, fst, pA, pn, pc, pad, code, last, inc, dep, only, wt, sA, sn, sc⟩ := f
  dsimp only at *
  subst hfl
  have est0 : (st == 0) = false := by simp; omega
  have nst0 : (st != 0) = true := by simp; omega
  have ety9 : (ty == 9) = true := by simp; omega
  have nty9 : (ty != 9) = false := by simp; omega
  have ety1 : (ty == 1) = false := by simp; omega
  have nty1 : (ty != 1) = true := by simp; omega
  have efstst : (fst == st) = true := by simp; omega
  have nfstst : (fst != st) = false := by simp; omega
  have hmi : (most : Int) ≤ 65536 := by omega
  have hni : (n : Int) ≤ (most : Int) := by omega
  have hw : IntKind.i64.wrap ((most : Int) - (n : Int)) = (most : Int) - (n : Int) := by apply IntWalk.i64_in; omega
  have hci : (most : Int) - (n : Int) < (pn : Int) := by omega
  clear hst h9 hs
  go_enter Try.func7, Try.ntmps7
  go_wp2
  generalize hW : World.alloc _ _ = w1
  have K1 : Kp [] w w1 := by rw [← hW]; (repeat (first | with_reducible exact Kp.refl _ _ | with_reducible assumption | with_reducible refine Kp.alloc ?_ _ | with_reducible refine Kp.drew ?_ | with_reducible refine Kp.drewN ?_ _ | (with_reducible refine Kp.setL ?_ ?_ _; focus (simp; done)) | (with_reducible refine Kp.setR ?_ ?_ _; focus (simp; done)) | (with_reducible refine Kp.setR ?_ ?_ _; focus (simp; omega))))
  have HB := Lib.hid (show w1.heap[w.heap.size]? = some (.cells #[.int .i64 ty, .int .i64 (F : Int), .int .i64 fst, .slice pA pn pc, .int .i64 pad, .int .u32 code, .int .i64 last, .int .i64 inc, .int .i64 dep, .bool only, .int .i64 wt, .slice sA sn sc] 34) by rw [← hW]; (repeat (first | with_reducible assumption | (with_reducible refine hp_new _ _ _ ?_; focus (simp; done)) | (with_reducible refine (hp_old _ _ _ ?_).trans ?_; focus (first | omega | (simp; done) | (simp; omega))) | (with_reducible refine (hp_far _ _ _ _ ?_).trans ?_; focus (first | (simp; done) | (simp; omega))) | (with_reducible refine (hp_drew _ _).trans ?_) | (with_reducible refine (hp_drewN _ _ _).trans ?_))))
  have HF := Lib.hid (show w1.heap[w.heap.size + 1]? = some (.cells #[.int .i64 0, .int .i64 0, .int .i64 0, .slice none 0 0, .int .i64 0, .int .u32 0, .int .i64 0, .int .i64 0, .int .i64 0, .bool false, .int .i64 0, .slice none 0 0] 34) by rw [← hW]; (repeat (first | with_reducible assumption | (with_reducible refine hp_new _ _ _ ?_; focus (simp; done)) | (with_reducible refine (hp_old _ _ _ ?_).trans ?_; focus (first | omega | (simp; done) | (simp; omega))) | (with_reducible refine (hp_far _ _ _ _ ?_).trans ?_; focus (first | (simp; done) | (simp; omega))) | (with_reducible refine (hp_drew _ _).trans ?_) | (with_reducible refine (hp_drewN _ _ _).trans ?_))))
  have HX := Lib.hid (show w1.heap[w.heap.size + 1 + 1]? = some (.cells #[.bool false, .int .i64 0, .int .i64 0] 36) by rw [← hW]; (repeat (first | with_reducible assumption | (with_reducible refine hp_new _ _ _ ?_; focus (simp; done)) | (with_reducible refine (hp_old _ _ _ ?_).trans ?_; focus (first | omega | (simp; done) | (simp; omega))) | (with_reducible refine (hp_far _ _ _ _ ?_).trans ?_; focus (first | (simp; done) | (simp; omega))) | (with_reducible refine (hp_drew _ _).trans ?_) | (with_reducible refine (hp_drewN _ _ _).trans ?_))))
  have H1 := Lib.hid (K1.heap HH.out (by simp))
  clear hW HH
  have c0 := cell_of H1.out 0
  have c1 := cell_of H1.out 1
  have c2 := cell_of H1.out 2
  have c3 := cell_of H1.out 3
  have cz := frozen_of H1.out
  have cl := lt_of_heap H1.out
  obtain ⟨b0, b1, b2, b3, b4, b5, b6, b7, b8, b9, b10, b11, bz, blt, blt2⟩ := jcellsF HB.out
  obtain ⟨q0, q1, q2, q3, q4, q5, q6, q7, q8, q9, q10, q11, qz, qlt, qlt2⟩ := jcellsF HF.out
  have x0 := cell_of HX.out 0
  have x1 := cell_of HX.out 1
  have x2 := cell_of HX.out 2
  have xz := frozen_of HX.out
  have xl := lt_of_heap HX.out
  go_region
  go_wp2
  have H2 := Lib.hid (show w1.drew.heap[g]? = _ from H1.out)
  have HB2 := Lib.hid (show w1.drew.heap[w.heap.size]? = _ from HB.out)
  have HF2 := Lib.hid (show w1.drew.heap[w.heap.size + 1]? = _ from HF.out)
  have HX2 := Lib.hid (show w1.drew.heap[w.heap.size + 1 + 1]? = _ from HX.out)
  have K2 := Lib.hid (show Kp [g] w w1.drew from K1.drew.nil)
  clear HB HF HX H1 K1 c0 c1 c2 c3 cz cl b0 b1 b2 b3 b4 b5 b6 b7 b8 b9 b10 b11 bz blt blt2 q0 q1 q2 q3 q4 q5 q6 q7 q8 q9 q10 q11 qz qlt qlt2 x0 x1 x2 xz xl
  generalize w1.drew = w2 at *
  have c0 := cell_of H2.out 0
  have c1 := cell_of H2.out 1
  have c2 := cell_of H2.out 2
  have c3 := cell_of H2.out 3
  have cz := frozen_of H2.out
  have cl := lt_of_heap H2.out
  obtain ⟨b0, b1, b2, b3, b4, b5, b6, b7, b8, b9, b10, b11, bz, blt, blt2⟩ := jcellsF HB2.out
  obtain ⟨q0, q1, q2, q3, q4, q5, q6, q7, q8, q9, q10, q11, qz, qlt, qlt2⟩ := jcellsF HF2.out
  have x0 := cell_of HX2.out 0
  have x1 := cell_of HX2.out 1
  have x2 := cell_of HX2.out 2
  have xz := frozen_of HX2.out
  have xl := lt_of_heap HX2.out
  go_region
  go_wp2_with fail
  refine (RJfault g 11 (w2.drew) most st en A n c H2.out).mono ?_
  rintro e w5 ⟨rfl, h2, k5⟩
  have HF5 := Lib.hid (k5.heap HF2.out (by simp; omega))
  have HX5 := Lib.hid (k5.heap HX2.out (by simp; omega))
  have H5 := Lib.hid h2
  have K02 := Lib.hid (K2.out.drew.trans k5)
  clear h2 k5 H2 HB2 HF2 HX2 K2 c0 c1 c2 c3 cz cl q0 q1 q2 q3 q4 q5 q6 q7 q8 q9 q10 q11 qz qlt qlt2 x0 x1 x2 xz xl
  obtain ⟨q0, q1, q2, q3, q4, q5, q6, q7, q8, q9, q10, q11, qz, qlt, qlt2⟩ := jcellsF HF5.out
  have x0 := cell_of HX5.out 0
  have x1 := cell_of HX5.out 1
  have x2 := cell_of HX5.out 2
  have xz := frozen_of HX5.out
  have xl := lt_of_heap HX5.out
  go_wp2
  generalize hW : World.setCell _ _ _ = W
  obtain ⟨HF9, HX9, K9⟩ : W.heap[(w.heap.size + 1)]? = some (.cells #[.int .i64 0, .int .i64 0, .int .i64 0, .slice none 0 0, .int .i64 0, .int .u32 0, .int .i64 0, .int .i64 0, .int .i64 0, .bool false, .int .i64 0, .slice none 0 0] 34) ∧ W.heap[(w.heap.size + 1 + 1)]? = some (.cells #[.bool true, .int .i64 0, .int .i64 11] 36) ∧ Kp [(w.heap.size + 1), (w.heap.size + 1 + 1)] w5 W := by rw [← hW]; exact jset15 (by omega) HF5.out HX5.out
  refine bodyPost_ret (v := .tuple #[.agg #[.int .i64 0, .int .i64 0, .int .i64 0, .slice none 0 0, .int .i64 0, .int .u32 0, .int .i64 0, .int .i64 0, .int .i64 0, .bool false, .int .i64 0, .slice none 0 0], .bool false, .agg #[.bool true, .int .i64 0, .int .i64 11]]) (by simp [results, Try.results7, go_sem, cell_of HF9, cell_of HX9]) rfl ⟨rfl, K9.heap H5.out (by simp; omega), K02.out.then K9 (by intro t ht; simp at ht; right; omega)⟩
end Go.Proofs.Ytibeaombhjdakaa
