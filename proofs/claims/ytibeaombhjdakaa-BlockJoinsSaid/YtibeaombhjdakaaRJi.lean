/- The reference's joiner: In, its faults of the protocol, and what it passes. -/
import Derived.Test.YtibeaombhjdakaaRJn
set_option linter.unusedVariables false
set_option linter.unusedSimpArgs false
set_option linter.unusedSimpArgs false
namespace Go.Proofs.Ytibeaombhjdakaa
open Go.RowKit
set_option maxHeartbeats 4000000 in
set_option maxRecDepth 100000 in
theorem RIn_protA (g : Nat) (f : Fr) (w : World) (most st : Int) (en : Bool) (A : Option Addr) (n c : Nat) (h : w.heap[g]? = some (.cells #[.int .i64 most, .int .i64 st, .bool en, .slice A n c] 42)) (hst : ¬ st = 0) (h9 : ¬ f.ty = 9) : Calls Try.prog 7 #[.pointer (some ⟨g, 0, none⟩), .agg #[.int .i64 f.ty, .int .i64 f.fl, .int .i64 f.st, .slice f.pA f.pn f.pc, .int .i64 f.pad, .int .u32 f.code, .int .i64 f.last, .int .i64 f.inc, .int .i64 f.dep, .bool f.only, .int .i64 f.wt, .slice f.sA f.sn f.sc]] w (fun e w' => e = .returned (.tuple #[.agg #[.int .i64 0, .int .i64 0, .int .i64 0, .slice none 0 0, .int .i64 0, .int .u32 0, .int .i64 0, .int .i64 0, .int .i64 0, .bool false, .int .i64 0, .slice none 0 0], .bool false, .agg #[.bool true, .int .i64 0, .int .i64 1]]) ∧ w'.heap[g]? = some (.cells #[.int .i64 most, .int .i64 0, .bool false, .slice none 0 0] 42) ∧ Kp [g] w w') := by
  have hl := lt_of_heap h
  have HH := Lib.hid h
  clear h
  obtain ⟨ty, fl, fst, pA, pn, pc, pad, code, last, inc, dep, only, wt, sA, sn, sc⟩ := f
  dsimp only at *
  have est0 : (st == 0) = false := by simp; omega
  have nst0 : (st != 0) = true := by simp; omega
  have ety9 : (ty == 9) = false := by simp; omega
  have nty9 : (ty != 9) = true := by simp; omega
  clear hst h9
  go_enter Try.func7, Try.ntmps7
  go_wp2
  generalize hW : World.alloc _ _ = w1
  have K1 : Kp [] w w1 := by rw [← hW]; (repeat (first | with_reducible exact Kp.refl _ _ | with_reducible assumption | with_reducible refine Kp.alloc ?_ _ | with_reducible refine Kp.drew ?_ | with_reducible refine Kp.drewN ?_ _ | (with_reducible refine Kp.setL ?_ ?_ _; focus (simp; done)) | (with_reducible refine Kp.setR ?_ ?_ _; focus (simp; done)) | (with_reducible refine Kp.setR ?_ ?_ _; focus (simp; omega))))
  have HB := Lib.hid (show w1.heap[w.heap.size]? = some (.cells #[.int .i64 ty, .int .i64 fl, .int .i64 fst, .slice pA pn pc, .int .i64 pad, .int .u32 code, .int .i64 last, .int .i64 inc, .int .i64 dep, .bool only, .int .i64 wt, .slice sA sn sc] 34) by rw [← hW]; (repeat (first | with_reducible assumption | (with_reducible refine hp_new _ _ _ ?_; focus (simp; done)) | (with_reducible refine (hp_old _ _ _ ?_).trans ?_; focus (first | omega | (simp; done) | (simp; omega))) | (with_reducible refine (hp_far _ _ _ _ ?_).trans ?_; focus (first | (simp; done) | (simp; omega))) | (with_reducible refine (hp_drew _ _).trans ?_) | (with_reducible refine (hp_drewN _ _ _).trans ?_))))
  have HF := Lib.hid (show w1.heap[w.heap.size + 1]? = some (.cells #[.int .i64 0, .int .i64 0, .int .i64 0, .slice none 0 0, .int .i64 0, .int .u32 0, .int .i64 0, .int .i64 0, .int .i64 0, .bool false, .int .i64 0, .slice none 0 0] 34) by rw [← hW]; (repeat (first | with_reducible assumption | (with_reducible refine hp_new _ _ _ ?_; focus (simp; done)) | (with_reducible refine (hp_old _ _ _ ?_).trans ?_; focus (first | omega | (simp; done) | (simp; omega))) | (with_reducible refine (hp_far _ _ _ _ ?_).trans ?_; focus (first | (simp; done) | (simp; omega))) | (with_reducible refine (hp_drew _ _).trans ?_) | (with_reducible refine (hp_drewN _ _ _).trans ?_))))
  have HX := Lib.hid (show w1.heap[w.heap.size + 1 + 1]? = some (.cells #[.bool false, .int .i64 0, .int .i64 0] 36) by rw [← hW]; (repeat (first | with_reducible assumption | (with_reducible refine hp_new _ _ _ ?_; focus (simp; done)) | (with_reducible refine (hp_old _ _ _ ?_).trans ?_; focus (first | omega | (simp; done) | (simp; omega))) | (with_reducible refine (hp_far _ _ _ _ ?_).trans ?_; focus (first | (simp; done) | (simp; omega))) | (with_reducible refine (hp_drew _ _).trans ?_) | (with_reducible refine (hp_drewN _ _ _).trans ?_))))
  have H1 := Lib.hid (K1.heap HH.out (by simp))
  clear hW HH
  have c0 := cell_of H1.out 0
  have c1 := cell_of H1.out 1
  have c2 := cell_of H1.out 2
  have c3 := cell_of H1.out 3
  have cz := frozen_of H1.out
  have cl := lt_of_heap H1.out
  obtain ⟨b0, b1, b2, b3, b4, b5, b6, b7, b8, b9, b10, b11, bz, blt, blt2⟩ := jcellsF HB.out
  obtain ⟨q0, q1, q2, q3, q4, q5, q6, q7, q8, q9, q10, q11, qz, qlt, qlt2⟩ := jcellsF HF.out
  have x0 := cell_of HX.out 0
  have x1 := cell_of HX.out 1
  have x2 := cell_of HX.out 2
  have xz := frozen_of HX.out
  have xl := lt_of_heap HX.out
  go_region
  go_wp2_with fail
  refine (RJfault g 1 (w1.drew) most st en A n c H1.out).mono ?_
  rintro e w2 ⟨rfl, h2, K2⟩
  have HF2 := Lib.hid (K2.heap HF.out (by simp; omega))
  have HX2 := Lib.hid (K2.heap HX.out (by simp; omega))
  have H2 := Lib.hid h2
  have K02 := Lib.hid (K1.drew.nil.trans K2)
  clear h2 K2 c0 c1 c2 c3 cz cl q0 q1 q2 q3 q4 q5 q6 q7 q8 q9 q10 q11 qz qlt qlt2 x0 x1 x2 xz xl
  obtain ⟨q0, q1, q2, q3, q4, q5, q6, q7, q8, q9, q10, q11, qz, qlt, qlt2⟩ := jcellsF HF2.out
  have x0 := cell_of HX2.out 0
  have x1 := cell_of HX2.out 1
  have x2 := cell_of HX2.out 2
  have xz := frozen_of HX2.out
  have xl := lt_of_heap HX2.out
  go_wp2
  generalize hW : World.setCell _ _ _ = W
  obtain ⟨HF9, HX9, K9⟩ : W.heap[(w.heap.size + 1)]? = some (.cells #[.int .i64 0, .int .i64 0, .int .i64 0, .slice none 0 0, .int .i64 0, .int .u32 0, .int .i64 0, .int .i64 0, .int .i64 0, .bool false, .int .i64 0, .slice none 0 0] 34) ∧ W.heap[(w.heap.size + 1 + 1)]? = some (.cells #[.bool true, .int .i64 0, .int .i64 1] 36) ∧ Kp [(w.heap.size + 1), (w.heap.size + 1 + 1)] w2 W := by rw [← hW]; exact jset15 (by omega) HF2.out HX2.out
  refine bodyPost_ret (v := .tuple #[.agg #[.int .i64 0, .int .i64 0, .int .i64 0, .slice none 0 0, .int .i64 0, .int .u32 0, .int .i64 0, .int .i64 0, .int .i64 0, .bool false, .int .i64 0, .slice none 0 0], .bool false, .agg #[.bool true, .int .i64 0, .int .i64 1]]) (by simp [results, Try.results7, go_sem, cell_of HF9, cell_of HX9]) rfl ⟨rfl, K9.heap H2.out (by simp; omega), K02.out.then K9 (by intro t ht; simp at ht; right; omega)⟩
set_option maxHeartbeats 4000000 in
set_option maxRecDepth 100000 in
theorem RIn_protB (g : Nat) (f : Fr) (w : World) (most st : Int) (en : Bool) (A : Option Addr) (n c : Nat) (h : w.heap[g]? = some (.cells #[.int .i64 most, .int .i64 st, .bool en, .slice A n c] 42)) (hst : ¬ st = 0) (h9 : f.ty = 9) (hs : ¬ f.st = st) : Calls Try.prog 7 #[.pointer (some ⟨g, 0, none⟩), .agg #[.int .i64 f.ty, .int .i64 f.fl, .int .i64 f.st, .slice f.pA f.pn f.pc, .int .i64 f.pad, .int .u32 f.code, .int .i64 f.last, .int .i64 f.inc, .int .i64 f.dep, .bool f.only, .int .i64 f.wt, .slice f.sA f.sn f.sc]] w (fun e w' => e = .returned (.tuple #[.agg #[.int .i64 0, .int .i64 0, .int .i64 0, .slice none 0 0, .int .i64 0, .int .u32 0, .int .i64 0, .int .i64 0, .int .i64 0, .bool false, .int .i64 0, .slice none 0 0], .bool false, .agg #[.bool true, .int .i64 0, .int .i64 1]]) ∧ w'.heap[g]? = some (.cells #[.int .i64 most, .int .i64 0, .bool false, .slice none 0 0] 42) ∧ Kp [g] w w') := by
  have hl := lt_of_heap h
  have HH := Lib.hid h
  clear h
  obtain ⟨ty, fl, fst, pA, pn, pc, pad, code, last, inc, dep, only, wt, sA, sn, sc⟩ := f
  dsimp only at *
  have est0 : (st == 0) = false := by simp; omega
  have nst0 : (st != 0) = true := by simp; omega
  have ety9 : (ty == 9) = true := by simp; omega
  have nty9 : (ty != 9) = false := by simp; omega
  have efstst : (fst == st) = false := by simp; omega
  have nfstst : (fst != st) = true := by simp; omega
  clear hst h9 hs
  go_enter Try.func7, Try.ntmps7
  go_wp2
  generalize hW : World.alloc _ _ = w1
  have K1 : Kp [] w w1 := by rw [← hW]; (repeat (first | with_reducible exact Kp.refl _ _ | with_reducible assumption | with_reducible refine Kp.alloc ?_ _ | with_reducible refine Kp.drew ?_ | with_reducible refine Kp.drewN ?_ _ | (with_reducible refine Kp.setL ?_ ?_ _; focus (simp; done)) | (with_reducible refine Kp.setR ?_ ?_ _; focus (simp; done)) | (with_reducible refine Kp.setR ?_ ?_ _; focus (simp; omega))))
  have HB := Lib.hid (show w1.heap[w.heap.size]? = some (.cells #[.int .i64 ty, .int .i64 fl, .int .i64 fst, .slice pA pn pc, .int .i64 pad, .int .u32 code, .int .i64 last, .int .i64 inc, .int .i64 dep, .bool only, .int .i64 wt, .slice sA sn sc] 34) by rw [← hW]; (repeat (first | with_reducible assumption | (with_reducible refine hp_new _ _ _ ?_; focus (simp; done)) | (with_reducible refine (hp_old _ _ _ ?_).trans ?_; focus (first | omega | (simp; done) | (simp; omega))) | (with_reducible refine (hp_far _ _ _ _ ?_).trans ?_; focus (first | (simp; done) | (simp; omega))) | (with_reducible refine (hp_drew _ _).trans ?_) | (with_reducible refine (hp_drewN _ _ _).trans ?_))))
  have HF := Lib.hid (show w1.heap[w.heap.size + 1]? = some (.cells #[.int .i64 0, .int .i64 0, .int .i64 0, .slice none 0 0, .int .i64 0, .int .u32 0, .int .i64 0, .int .i64 0, .int .i64 0, .bool false, .int .i64 0, .slice none 0 0] 34) by rw [← hW]; (repeat (first | with_reducible assumption | (with_reducible refine hp_new _ _ _ ?_; focus (simp; done)) | (with_reducible refine (hp_old _ _ _ ?_).trans ?_; focus (first | omega | (simp; done) | (simp; omega))) | (with_reducible refine (hp_far _ _ _ _ ?_).trans ?_; focus (first | (simp; done) | (simp; omega))) | (with_reducible refine (hp_drew _ _).trans ?_) | (with_reducible refine (hp_drewN _ _ _).trans ?_))))
  have HX := Lib.hid (show w1.heap[w.heap.size + 1 + 1]? = some (.cells #[.bool false, .int .i64 0, .int .i64 0] 36) by rw [← hW]; (repeat (first | with_reducible assumption | (with_reducible refine hp_new _ _ _ ?_; focus (simp; done)) | (with_reducible refine (hp_old _ _ _ ?_).trans ?_; focus (first | omega | (simp; done) | (simp; omega))) | (with_reducible refine (hp_far _ _ _ _ ?_).trans ?_; focus (first | (simp; done) | (simp; omega))) | (with_reducible refine (hp_drew _ _).trans ?_) | (with_reducible refine (hp_drewN _ _ _).trans ?_))))
  have H1 := Lib.hid (K1.heap HH.out (by simp))
  clear hW HH
  have c0 := cell_of H1.out 0
  have c1 := cell_of H1.out 1
  have c2 := cell_of H1.out 2
  have c3 := cell_of H1.out 3
  have cz := frozen_of H1.out
  have cl := lt_of_heap H1.out
  obtain ⟨b0, b1, b2, b3, b4, b5, b6, b7, b8, b9, b10, b11, bz, blt, blt2⟩ := jcellsF HB.out
  obtain ⟨q0, q1, q2, q3, q4, q5, q6, q7, q8, q9, q10, q11, qz, qlt, qlt2⟩ := jcellsF HF.out
  have x0 := cell_of HX.out 0
  have x1 := cell_of HX.out 1
  have x2 := cell_of HX.out 2
  have xz := frozen_of HX.out
  have xl := lt_of_heap HX.out
  go_region
  go_wp2_with fail
  refine (RJfault g 1 (w1.drew) most st en A n c H1.out).mono ?_
  rintro e w2 ⟨rfl, h2, K2⟩
  have HF2 := Lib.hid (K2.heap HF.out (by simp; omega))
  have HX2 := Lib.hid (K2.heap HX.out (by simp; omega))
  have H2 := Lib.hid h2
  have K02 := Lib.hid (K1.drew.nil.trans K2)
  clear h2 K2 c0 c1 c2 c3 cz cl q0 q1 q2 q3 q4 q5 q6 q7 q8 q9 q10 q11 qz qlt qlt2 x0 x1 x2 xz xl
  obtain ⟨q0, q1, q2, q3, q4, q5, q6, q7, q8, q9, q10, q11, qz, qlt, qlt2⟩ := jcellsF HF2.out
  have x0 := cell_of HX2.out 0
  have x1 := cell_of HX2.out 1
  have x2 := cell_of HX2.out 2
  have xz := frozen_of HX2.out
  have xl := lt_of_heap HX2.out
  go_wp2
  generalize hW : World.setCell _ _ _ = W
  obtain ⟨HF9, HX9, K9⟩ : W.heap[(w.heap.size + 1)]? = some (.cells #[.int .i64 0, .int .i64 0, .int .i64 0, .slice none 0 0, .int .i64 0, .int .u32 0, .int .i64 0, .int .i64 0, .int .i64 0, .bool false, .int .i64 0, .slice none 0 0] 34) ∧ W.heap[(w.heap.size + 1 + 1)]? = some (.cells #[.bool true, .int .i64 0, .int .i64 1] 36) ∧ Kp [(w.heap.size + 1), (w.heap.size + 1 + 1)] w2 W := by rw [← hW]; exact jset15 (by omega) HF2.out HX2.out
  refine bodyPost_ret (v := .tuple #[.agg #[.int .i64 0, .int .i64 0, .int .i64 0, .slice none 0 0, .int .i64 0, .int .u32 0, .int .i64 0, .int .i64 0, .int .i64 0, .bool false, .int .i64 0, .slice none 0 0], .bool false, .agg #[.bool true, .int .i64 0, .int .i64 1]]) (by simp [results, Try.results7, go_sem, cell_of HF9, cell_of HX9]) rfl ⟨rfl, K9.heap H2.out (by simp; omega), K02.out.then K9 (by intro t ht; simp at ht; right; omega)⟩
set_option maxHeartbeats 4000000 in
set_option maxRecDepth 100000 in
theorem RIn_protC (g : Nat) (f : Fr) (w : World) (most st : Int) (en : Bool) (A : Option Addr) (n c : Nat) (h : w.heap[g]? = some (.cells #[.int .i64 most, .int .i64 st, .bool en, .slice A n c] 42)) (hst : st = 0) (h9 : f.ty = 9) : Calls Try.prog 7 #[.pointer (some ⟨g, 0, none⟩), .agg #[.int .i64 f.ty, .int .i64 f.fl, .int .i64 f.st, .slice f.pA f.pn f.pc, .int .i64 f.pad, .int .u32 f.code, .int .i64 f.last, .int .i64 f.inc, .int .i64 f.dep, .bool f.only, .int .i64 f.wt, .slice f.sA f.sn f.sc]] w (fun e w' => e = .returned (.tuple #[.agg #[.int .i64 0, .int .i64 0, .int .i64 0, .slice none 0 0, .int .i64 0, .int .u32 0, .int .i64 0, .int .i64 0, .int .i64 0, .bool false, .int .i64 0, .slice none 0 0], .bool false, .agg #[.bool true, .int .i64 0, .int .i64 1]]) ∧ w'.heap[g]? = some (.cells #[.int .i64 most, .int .i64 0, .bool false, .slice none 0 0] 42) ∧ Kp [g] w w') := by
  have hl := lt_of_heap h
  have HH := Lib.hid h
  clear h
  obtain ⟨ty, fl, fst, pA, pn, pc, pad, code, last, inc, dep, only, wt, sA, sn, sc⟩ := f
  dsimp only at *
  have est0 : (st == 0) = true := by simp; omega
  have nst0 : (st != 0) = false := by simp; omega
  have ety9 : (ty == 9) = true := by simp; omega
  have nty9 : (ty != 9) = false := by simp; omega
  clear hst h9
  go_enter Try.func7, Try.ntmps7
  go_wp2
  generalize hW : World.alloc _ _ = w1
  have K1 : Kp [] w w1 := by rw [← hW]; (repeat (first | with_reducible exact Kp.refl _ _ | with_reducible assumption | with_reducible refine Kp.alloc ?_ _ | with_reducible refine Kp.drew ?_ | with_reducible refine Kp.drewN ?_ _ | (with_reducible refine Kp.setL ?_ ?_ _; focus (simp; done)) | (with_reducible refine Kp.setR ?_ ?_ _; focus (simp; done)) | (with_reducible refine Kp.setR ?_ ?_ _; focus (simp; omega))))
  have HB := Lib.hid (show w1.heap[w.heap.size]? = some (.cells #[.int .i64 ty, .int .i64 fl, .int .i64 fst, .slice pA pn pc, .int .i64 pad, .int .u32 code, .int .i64 last, .int .i64 inc, .int .i64 dep, .bool only, .int .i64 wt, .slice sA sn sc] 34) by rw [← hW]; (repeat (first | with_reducible assumption | (with_reducible refine hp_new _ _ _ ?_; focus (simp; done)) | (with_reducible refine (hp_old _ _ _ ?_).trans ?_; focus (first | omega | (simp; done) | (simp; omega))) | (with_reducible refine (hp_far _ _ _ _ ?_).trans ?_; focus (first | (simp; done) | (simp; omega))) | (with_reducible refine (hp_drew _ _).trans ?_) | (with_reducible refine (hp_drewN _ _ _).trans ?_))))
  have HF := Lib.hid (show w1.heap[w.heap.size + 1]? = some (.cells #[.int .i64 0, .int .i64 0, .int .i64 0, .slice none 0 0, .int .i64 0, .int .u32 0, .int .i64 0, .int .i64 0, .int .i64 0, .bool false, .int .i64 0, .slice none 0 0] 34) by rw [← hW]; (repeat (first | with_reducible assumption | (with_reducible refine hp_new _ _ _ ?_; focus (simp; done)) | (with_reducible refine (hp_old _ _ _ ?_).trans ?_; focus (first | omega | (simp; done) | (simp; omega))) | (with_reducible refine (hp_far _ _ _ _ ?_).trans ?_; focus (first | (simp; done) | (simp; omega))) | (with_reducible refine (hp_drew _ _).trans ?_) | (with_reducible refine (hp_drewN _ _ _).trans ?_))))
  have HX := Lib.hid (show w1.heap[w.heap.size + 1 + 1]? = some (.cells #[.bool false, .int .i64 0, .int .i64 0] 36) by rw [← hW]; (repeat (first | with_reducible assumption | (with_reducible refine hp_new _ _ _ ?_; focus (simp; done)) | (with_reducible refine (hp_old _ _ _ ?_).trans ?_; focus (first | omega | (simp; done) | (simp; omega))) | (with_reducible refine (hp_far _ _ _ _ ?_).trans ?_; focus (first | (simp; done) | (simp; omega))) | (with_reducible refine (hp_drew _ _).trans ?_) | (with_reducible refine (hp_drewN _ _ _).trans ?_))))
  have H1 := Lib.hid (K1.heap HH.out (by simp))
  clear hW HH
  have c0 := cell_of H1.out 0
  have c1 := cell_of H1.out 1
  have c2 := cell_of H1.out 2
  have c3 := cell_of H1.out 3
  have cz := frozen_of H1.out
  have cl := lt_of_heap H1.out
  obtain ⟨b0, b1, b2, b3, b4, b5, b6, b7, b8, b9, b10, b11, bz, blt, blt2⟩ := jcellsF HB.out
  obtain ⟨q0, q1, q2, q3, q4, q5, q6, q7, q8, q9, q10, q11, qz, qlt, qlt2⟩ := jcellsF HF.out
  have x0 := cell_of HX.out 0
  have x1 := cell_of HX.out 1
  have x2 := cell_of HX.out 2
  have xz := frozen_of HX.out
  have xl := lt_of_heap HX.out
  go_region
  go_wp2_with fail
  refine (RJfault g 1 (w1.drew) most st en A n c H1.out).mono ?_
  rintro e w2 ⟨rfl, h2, K2⟩
  have HF2 := Lib.hid (K2.heap HF.out (by simp; omega))
  have HX2 := Lib.hid (K2.heap HX.out (by simp; omega))
  have H2 := Lib.hid h2
  have K02 := Lib.hid (K1.drew.nil.trans K2)
  clear h2 K2 c0 c1 c2 c3 cz cl q0 q1 q2 q3 q4 q5 q6 q7 q8 q9 q10 q11 qz qlt qlt2 x0 x1 x2 xz xl
  obtain ⟨q0, q1, q2, q3, q4, q5, q6, q7, q8, q9, q10, q11, qz, qlt, qlt2⟩ := jcellsF HF2.out
  have x0 := cell_of HX2.out 0
  have x1 := cell_of HX2.out 1
  have x2 := cell_of HX2.out 2
  have xz := frozen_of HX2.out
  have xl := lt_of_heap HX2.out
  go_wp2
  generalize hW : World.setCell _ _ _ = W
  obtain ⟨HF9, HX9, K9⟩ : W.heap[(w.heap.size + 1)]? = some (.cells #[.int .i64 0, .int .i64 0, .int .i64 0, .slice none 0 0, .int .i64 0, .int .u32 0, .int .i64 0, .int .i64 0, .int .i64 0, .bool false, .int .i64 0, .slice none 0 0] 34) ∧ W.heap[(w.heap.size + 1 + 1)]? = some (.cells #[.bool true, .int .i64 0, .int .i64 1] 36) ∧ Kp [(w.heap.size + 1), (w.heap.size + 1 + 1)] w2 W := by rw [← hW]; exact jset15 (by omega) HF2.out HX2.out
  refine bodyPost_ret (v := .tuple #[.agg #[.int .i64 0, .int .i64 0, .int .i64 0, .slice none 0 0, .int .i64 0, .int .u32 0, .int .i64 0, .int .i64 0, .int .i64 0, .bool false, .int .i64 0, .slice none 0 0], .bool false, .agg #[.bool true, .int .i64 0, .int .i64 1]]) (by simp [results, Try.results7, go_sem, cell_of HF9, cell_of HX9]) rfl ⟨rfl, K9.heap H2.out (by simp; omega), K02.out.then K9 (by intro t ht; simp at ht; right; omega)⟩
set_option maxHeartbeats 4000000 in
set_option maxRecDepth 100000 in
theorem RIn_pass (g : Nat) (f : Fr) (w : World) (most st : Int) (en : Bool) (A : Option Addr) (n c : Nat) (h : w.heap[g]? = some (.cells #[.int .i64 most, .int .i64 st, .bool en, .slice A n c] 42)) (hst : st = 0) (h9 : ¬ f.ty = 9) (h1 : ¬ f.ty = 1) : Calls Try.prog 7 #[.pointer (some ⟨g, 0, none⟩), .agg #[.int .i64 f.ty, .int .i64 f.fl, .int .i64 f.st, .slice f.pA f.pn f.pc, .int .i64 f.pad, .int .u32 f.code, .int .i64 f.last, .int .i64 f.inc, .int .i64 f.dep, .bool f.only, .int .i64 f.wt, .slice f.sA f.sn f.sc]] w fun e w' => e = .returned (.tuple #[.agg #[.int .i64 f.ty, .int .i64 f.fl, .int .i64 f.st, .slice f.pA f.pn f.pc, .int .i64 f.pad, .int .u32 f.code, .int .i64 f.last, .int .i64 f.inc, .int .i64 f.dep, .bool f.only, .int .i64 f.wt, .slice f.sA f.sn f.sc], .bool true, .agg #[.bool false, .int .i64 0, .int .i64 0]]) ∧ Kp [] w w' := by
  have hl := lt_of_heap h
  have HH := Lib.hid h
  clear h
  obtain ⟨ty, fl, fst, pA, pn, pc, pad, code, last, inc, dep, only, wt, sA, sn, sc⟩ := f
  dsimp only at *
  have est0 : (st == 0) = true := by simp; omega
  have nst0 : (st != 0) = false := by simp; omega
  have ety9 : (ty == 9) = false := by simp; omega
  have nty9 : (ty != 9) = true := by simp; omega
  have ety1 : (ty == 1) = false := by simp; omega
  have nty1 : (ty != 1) = true := by simp; omega
  clear hst h9 h1
  go_enter Try.func7, Try.ntmps7
  go_wp2
  generalize hW : World.alloc _ _ = w1
  have K1 : Kp [] w w1 := by rw [← hW]; (repeat (first | with_reducible exact Kp.refl _ _ | with_reducible assumption | with_reducible refine Kp.alloc ?_ _ | with_reducible refine Kp.drew ?_ | with_reducible refine Kp.drewN ?_ _ | (with_reducible refine Kp.setL ?_ ?_ _; focus (simp; done)) | (with_reducible refine Kp.setR ?_ ?_ _; focus (simp; done)) | (with_reducible refine Kp.setR ?_ ?_ _; focus (simp; omega))))
  have HB := Lib.hid (show w1.heap[w.heap.size]? = some (.cells #[.int .i64 ty, .int .i64 fl, .int .i64 fst, .slice pA pn pc, .int .i64 pad, .int .u32 code, .int .i64 last, .int .i64 inc, .int .i64 dep, .bool only, .int .i64 wt, .slice sA sn sc] 34) by rw [← hW]; (repeat (first | with_reducible assumption | (with_reducible refine hp_new _ _ _ ?_; focus (simp; done)) | (with_reducible refine (hp_old _ _ _ ?_).trans ?_; focus (first | omega | (simp; done) | (simp; omega))) | (with_reducible refine (hp_far _ _ _ _ ?_).trans ?_; focus (first | (simp; done) | (simp; omega))) | (with_reducible refine (hp_drew _ _).trans ?_) | (with_reducible refine (hp_drewN _ _ _).trans ?_))))
  have HF := Lib.hid (show w1.heap[w.heap.size + 1]? = some (.cells #[.int .i64 0, .int .i64 0, .int .i64 0, .slice none 0 0, .int .i64 0, .int .u32 0, .int .i64 0, .int .i64 0, .int .i64 0, .bool false, .int .i64 0, .slice none 0 0] 34) by rw [← hW]; (repeat (first | with_reducible assumption | (with_reducible refine hp_new _ _ _ ?_; focus (simp; done)) | (with_reducible refine (hp_old _ _ _ ?_).trans ?_; focus (first | omega | (simp; done) | (simp; omega))) | (with_reducible refine (hp_far _ _ _ _ ?_).trans ?_; focus (first | (simp; done) | (simp; omega))) | (with_reducible refine (hp_drew _ _).trans ?_) | (with_reducible refine (hp_drewN _ _ _).trans ?_))))
  have HX := Lib.hid (show w1.heap[w.heap.size + 1 + 1]? = some (.cells #[.bool false, .int .i64 0, .int .i64 0] 36) by rw [← hW]; (repeat (first | with_reducible assumption | (with_reducible refine hp_new _ _ _ ?_; focus (simp; done)) | (with_reducible refine (hp_old _ _ _ ?_).trans ?_; focus (first | omega | (simp; done) | (simp; omega))) | (with_reducible refine (hp_far _ _ _ _ ?_).trans ?_; focus (first | (simp; done) | (simp; omega))) | (with_reducible refine (hp_drew _ _).trans ?_) | (with_reducible refine (hp_drewN _ _ _).trans ?_))))
  have H1 := Lib.hid (K1.heap HH.out (by simp))
  clear hW HH
  have c0 := cell_of H1.out 0
  have c1 := cell_of H1.out 1
  have c2 := cell_of H1.out 2
  have c3 := cell_of H1.out 3
  have cz := frozen_of H1.out
  have cl := lt_of_heap H1.out
  obtain ⟨b0, b1, b2, b3, b4, b5, b6, b7, b8, b9, b10, b11, bz, blt, blt2⟩ := jcellsF HB.out
  obtain ⟨q0, q1, q2, q3, q4, q5, q6, q7, q8, q9, q10, q11, qz, qlt, qlt2⟩ := jcellsF HF.out
  have x0 := cell_of HX.out 0
  have x1 := cell_of HX.out 1
  have x2 := cell_of HX.out 2
  have xz := frozen_of HX.out
  have xl := lt_of_heap HX.out
  go_region
  go_wp2
  generalize hW : World.setCell _ _ _ = W
  obtain ⟨HF9, HX9, K9⟩ : W.heap[(w.heap.size + 1)]? = some (.cells #[.int .i64 ty, .int .i64 fl, .int .i64 fst, .slice pA pn pc, .int .i64 pad, .int .u32 code, .int .i64 last, .int .i64 inc, .int .i64 dep, .bool only, .int .i64 wt, .slice sA sn sc] 34) ∧ W.heap[(w.heap.size + 1 + 1)]? = some (.cells #[.bool false, .int .i64 0, .int .i64 0] 36) ∧ Kp [(w.heap.size + 1), (w.heap.size + 1 + 1)] w1 W := by rw [← hW]; exact jset15 (by omega) HF.out HX.out
  refine bodyPost_ret (v := .tuple #[.agg #[.int .i64 ty, .int .i64 fl, .int .i64 fst, .slice pA pn pc, .int .i64 pad, .int .u32 code, .int .i64 last, .int .i64 inc, .int .i64 dep, .bool only, .int .i64 wt, .slice sA sn sc], .bool true, .agg #[.bool false, .int .i64 0, .int .i64 0]]) (by simp [results, Try.results7, go_sem, cell_of HF9, cell_of HX9]) rfl ⟨rfl, (K1.then K9 (by intro t ht; simp at ht; right; omega)).drew⟩
end Go.Proofs.Ytibeaombhjdakaa
