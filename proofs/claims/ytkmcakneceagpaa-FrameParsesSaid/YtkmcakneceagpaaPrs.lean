/- frame.Parse: the ways on which no frame is told. -/
import Derived.Test.YtkmcakneceagpaaPrsV
import Derived.Test.YtkmcakneceagpaaHead2
import Derived.RegionTactic
import Derived.ChangeAlike
set_option linter.unusedVariables false
set_option linter.unusedSimpArgs false
set_option linter.unusedSimpArgs false
namespace Go.Proofs.Ytkmcakneceagpaa
open Go.RowKit

theorem sf0 {w : World} {g : Nat} {a0 a1 a2 a3 a4 a5 a6 a7 a8 a9 a10 a11 b : Value} {t : TypeId} (h : w.heap[g]? = some (.cells #[a0, a1, a2, a3, a4, a5, a6, a7, a8, a9, a10, a11] t)) : (w.setCell ⟨g, 0, none⟩ b).heap[g]? = some (.cells #[b, a1, a2, a3, a4, a5, a6, a7, a8, a9, a10, a11] t) := hp_set w g 0 b _ t h
theorem sf1 {w : World} {g : Nat} {a0 a1 a2 a3 a4 a5 a6 a7 a8 a9 a10 a11 b : Value} {t : TypeId} (h : w.heap[g]? = some (.cells #[a0, a1, a2, a3, a4, a5, a6, a7, a8, a9, a10, a11] t)) : (w.setCell ⟨g, 1, none⟩ b).heap[g]? = some (.cells #[a0, b, a2, a3, a4, a5, a6, a7, a8, a9, a10, a11] t) := hp_set w g 1 b _ t h
theorem sf2 {w : World} {g : Nat} {a0 a1 a2 a3 a4 a5 a6 a7 a8 a9 a10 a11 b : Value} {t : TypeId} (h : w.heap[g]? = some (.cells #[a0, a1, a2, a3, a4, a5, a6, a7, a8, a9, a10, a11] t)) : (w.setCell ⟨g, 2, none⟩ b).heap[g]? = some (.cells #[a0, a1, b, a3, a4, a5, a6, a7, a8, a9, a10, a11] t) := hp_set w g 2 b _ t h
theorem sf3 {w : World} {g : Nat} {a0 a1 a2 a3 a4 a5 a6 a7 a8 a9 a10 a11 b : Value} {t : TypeId} (h : w.heap[g]? = some (.cells #[a0, a1, a2, a3, a4, a5, a6, a7, a8, a9, a10, a11] t)) : (w.setCell ⟨g, 3, none⟩ b).heap[g]? = some (.cells #[a0, a1, a2, b, a4, a5, a6, a7, a8, a9, a10, a11] t) := hp_set w g 3 b _ t h
theorem sf4 {w : World} {g : Nat} {a0 a1 a2 a3 a4 a5 a6 a7 a8 a9 a10 a11 b : Value} {t : TypeId} (h : w.heap[g]? = some (.cells #[a0, a1, a2, a3, a4, a5, a6, a7, a8, a9, a10, a11] t)) : (w.setCell ⟨g, 4, none⟩ b).heap[g]? = some (.cells #[a0, a1, a2, a3, b, a5, a6, a7, a8, a9, a10, a11] t) := hp_set w g 4 b _ t h
theorem sf5 {w : World} {g : Nat} {a0 a1 a2 a3 a4 a5 a6 a7 a8 a9 a10 a11 b : Value} {t : TypeId} (h : w.heap[g]? = some (.cells #[a0, a1, a2, a3, a4, a5, a6, a7, a8, a9, a10, a11] t)) : (w.setCell ⟨g, 5, none⟩ b).heap[g]? = some (.cells #[a0, a1, a2, a3, a4, b, a6, a7, a8, a9, a10, a11] t) := hp_set w g 5 b _ t h
theorem sf6 {w : World} {g : Nat} {a0 a1 a2 a3 a4 a5 a6 a7 a8 a9 a10 a11 b : Value} {t : TypeId} (h : w.heap[g]? = some (.cells #[a0, a1, a2, a3, a4, a5, a6, a7, a8, a9, a10, a11] t)) : (w.setCell ⟨g, 6, none⟩ b).heap[g]? = some (.cells #[a0, a1, a2, a3, a4, a5, b, a7, a8, a9, a10, a11] t) := hp_set w g 6 b _ t h
theorem sf7 {w : World} {g : Nat} {a0 a1 a2 a3 a4 a5 a6 a7 a8 a9 a10 a11 b : Value} {t : TypeId} (h : w.heap[g]? = some (.cells #[a0, a1, a2, a3, a4, a5, a6, a7, a8, a9, a10, a11] t)) : (w.setCell ⟨g, 7, none⟩ b).heap[g]? = some (.cells #[a0, a1, a2, a3, a4, a5, a6, b, a8, a9, a10, a11] t) := hp_set w g 7 b _ t h
theorem sf8 {w : World} {g : Nat} {a0 a1 a2 a3 a4 a5 a6 a7 a8 a9 a10 a11 b : Value} {t : TypeId} (h : w.heap[g]? = some (.cells #[a0, a1, a2, a3, a4, a5, a6, a7, a8, a9, a10, a11] t)) : (w.setCell ⟨g, 8, none⟩ b).heap[g]? = some (.cells #[a0, a1, a2, a3, a4, a5, a6, a7, b, a9, a10, a11] t) := hp_set w g 8 b _ t h
theorem sf9 {w : World} {g : Nat} {a0 a1 a2 a3 a4 a5 a6 a7 a8 a9 a10 a11 b : Value} {t : TypeId} (h : w.heap[g]? = some (.cells #[a0, a1, a2, a3, a4, a5, a6, a7, a8, a9, a10, a11] t)) : (w.setCell ⟨g, 9, none⟩ b).heap[g]? = some (.cells #[a0, a1, a2, a3, a4, a5, a6, a7, a8, b, a10, a11] t) := hp_set w g 9 b _ t h
theorem sf10 {w : World} {g : Nat} {a0 a1 a2 a3 a4 a5 a6 a7 a8 a9 a10 a11 b : Value} {t : TypeId} (h : w.heap[g]? = some (.cells #[a0, a1, a2, a3, a4, a5, a6, a7, a8, a9, a10, a11] t)) : (w.setCell ⟨g, 10, none⟩ b).heap[g]? = some (.cells #[a0, a1, a2, a3, a4, a5, a6, a7, a8, a9, b, a11] t) := hp_set w g 10 b _ t h
theorem sf11 {w : World} {g : Nat} {a0 a1 a2 a3 a4 a5 a6 a7 a8 a9 a10 a11 b : Value} {t : TypeId} (h : w.heap[g]? = some (.cells #[a0, a1, a2, a3, a4, a5, a6, a7, a8, a9, a10, a11] t)) : (w.setCell ⟨g, 11, none⟩ b).heap[g]? = some (.cells #[a0, a1, a2, a3, a4, a5, a6, a7, a8, a9, a10, b] t) := hp_set w g 11 b _ t h
theorem sx0 {w : World} {g : Nat} {x0 x1 x2 b : Value} {t : TypeId} (h : w.heap[g]? = some (.cells #[x0, x1, x2] t)) : (w.setCell ⟨g, 0, none⟩ b).heap[g]? = some (.cells #[b, x1, x2] t) := hp_set w g 0 b _ t h
theorem sx1 {w : World} {g : Nat} {x0 x1 x2 b : Value} {t : TypeId} (h : w.heap[g]? = some (.cells #[x0, x1, x2] t)) : (w.setCell ⟨g, 1, none⟩ b).heap[g]? = some (.cells #[x0, b, x2] t) := hp_set w g 1 b _ t h
theorem sx2 {w : World} {g : Nat} {x0 x1 x2 b : Value} {t : TypeId} (h : w.heap[g]? = some (.cells #[x0, x1, x2] t)) : (w.setCell ⟨g, 2, none⟩ b).heap[g]? = some (.cells #[x0, x1, b] t) := hp_set w g 2 b _ t h
theorem set15 {w : World} {g h : Nat} {a0 a1 a2 a3 a4 a5 a6 a7 a8 a9 a10 a11 b0 b1 b2 b3 b4 b5 b6 b7 b8 b9 b10 b11 x0 x1 x2 y0 y1 y2 : Value} {t t2 : TypeId} (hne : g ≠ h) (hg : w.heap[g]? = some (.cells #[a0, a1, a2, a3, a4, a5, a6, a7, a8, a9, a10, a11] t)) (hh : w.heap[h]? = some (.cells #[x0, x1, x2] t2)) :
    (World.setCell (World.setCell (World.setCell (World.setCell (World.setCell (World.setCell (World.setCell (World.setCell (World.setCell (World.setCell (World.setCell (World.setCell (World.setCell (World.setCell (World.setCell w ⟨g, 0, none⟩ b0) ⟨g, 1, none⟩ b1) ⟨g, 2, none⟩ b2) ⟨g, 3, none⟩ b3) ⟨g, 4, none⟩ b4) ⟨g, 5, none⟩ b5) ⟨g, 6, none⟩ b6) ⟨g, 7, none⟩ b7) ⟨g, 8, none⟩ b8) ⟨g, 9, none⟩ b9) ⟨g, 10, none⟩ b10) ⟨g, 11, none⟩ b11) ⟨h, 0, none⟩ y0) ⟨h, 1, none⟩ y1) ⟨h, 2, none⟩ y2).heap[g]? = some (.cells #[b0, b1, b2, b3, b4, b5, b6, b7, b8, b9, b10, b11] t) ∧ (World.setCell (World.setCell (World.setCell (World.setCell (World.setCell (World.setCell (World.setCell (World.setCell (World.setCell (World.setCell (World.setCell (World.setCell (World.setCell (World.setCell (World.setCell w ⟨g, 0, none⟩ b0) ⟨g, 1, none⟩ b1) ⟨g, 2, none⟩ b2) ⟨g, 3, none⟩ b3) ⟨g, 4, none⟩ b4) ⟨g, 5, none⟩ b5) ⟨g, 6, none⟩ b6) ⟨g, 7, none⟩ b7) ⟨g, 8, none⟩ b8) ⟨g, 9, none⟩ b9) ⟨g, 10, none⟩ b10) ⟨g, 11, none⟩ b11) ⟨h, 0, none⟩ y0) ⟨h, 1, none⟩ y1) ⟨h, 2, none⟩ y2).heap[h]? = some (.cells #[y0, y1, y2] t2) ∧ Kp [g, h] w (World.setCell (World.setCell (World.setCell (World.setCell (World.setCell (World.setCell (World.setCell (World.setCell (World.setCell (World.setCell (World.setCell (World.setCell (World.setCell (World.setCell (World.setCell w ⟨g, 0, none⟩ b0) ⟨g, 1, none⟩ b1) ⟨g, 2, none⟩ b2) ⟨g, 3, none⟩ b3) ⟨g, 4, none⟩ b4) ⟨g, 5, none⟩ b5) ⟨g, 6, none⟩ b6) ⟨g, 7, none⟩ b7) ⟨g, 8, none⟩ b8) ⟨g, 9, none⟩ b9) ⟨g, 10, none⟩ b10) ⟨g, 11, none⟩ b11) ⟨h, 0, none⟩ y0) ⟨h, 1, none⟩ y1) ⟨h, 2, none⟩ y2) :=
  ⟨(hp_far _ _ _ _ hne).trans ((hp_far _ _ _ _ hne).trans ((hp_far _ _ _ _ hne).trans (sf11 (sf10 (sf9 (sf8 (sf7 (sf6 (sf5 (sf4 (sf3 (sf2 (sf1 (sf0 (hg))))))))))))))), sx2 (sx1 (sx0 ((hp_far _ _ _ _ hne.symm).trans ((hp_far _ _ _ _ hne.symm).trans ((hp_far _ _ _ _ hne.symm).trans ((hp_far _ _ _ _ hne.symm).trans ((hp_far _ _ _ _ hne.symm).trans ((hp_far _ _ _ _ hne.symm).trans ((hp_far _ _ _ _ hne.symm).trans ((hp_far _ _ _ _ hne.symm).trans ((hp_far _ _ _ _ hne.symm).trans ((hp_far _ _ _ _ hne.symm).trans ((hp_far _ _ _ _ hne.symm).trans ((hp_far _ _ _ _ hne.symm).trans (hh))))))))))))))), ((((((((((((((((Kp.refl _ _).setCell (.inl (by simp)) _).setCell (.inl (by simp)) _).setCell (.inl (by simp)) _).setCell (.inl (by simp)) _).setCell (.inl (by simp)) _).setCell (.inl (by simp)) _).setCell (.inl (by simp)) _).setCell (.inl (by simp)) _).setCell (.inl (by simp)) _).setCell (.inl (by simp)) _).setCell (.inl (by simp)) _).setCell (.inl (by simp)) _).setCell (.inl (by simp)) _).setCell (.inl (by simp)) _).setCell (.inl (by simp)) _)⟩

/-- what Parse leaves -/
def ParseR (r : Pq) (w : World) (e : Ending) (w' : World) : Prop :=
  ∃ f : Fr, e = .returned (.tuple #[.agg #[.int .i64 f.ty, .int .i64 f.fl, .int .i64 f.st, .slice f.pA f.pn f.pc, .int .i64 f.pad, .int .u32 f.code, .int .i64 f.last, .int .i64 f.inc, .int .i64 f.dep, .bool f.only, .int .i64 f.wt, .slice f.sA f.sn f.sc], .int .i64 r.used, .agg #[.bool r.is, .int .i64 r.xst, .int .i64 r.code], .int .i64 r.err]) ∧ FrP w' w.heap.size f r.f ∧ Kp [] w w'
theorem FrP.zero (w : World) (base : Nat) : FrP w base (⟨0, 0, 0, none, 0, 0, 0, 0, 0, 0, 0, false, 0, none, 0, 0⟩ : Fr) Fp.zero := ⟨rfl, Rd.nil _ _ _, Sd.nil _, by simp [ob], by simp [ob]⟩

set_option maxHeartbeats 2000000 in
set_option maxRecDepth 100000 in
theorem parseNeg (A : Option Addr) (n c : Nat) (most : Int) (w : World) (hm : most < 0) : Calls Try.prog 100 #[.slice A n c, .int .i64 most] w (ParseR (.no 0 1) w) := by
  go_enter Try.func100, Try.ntmps100
  go_wp2
  go_step3
  go_wp2
  go_region
  go_wp2
  rw [Exit.noGoto_ret]
  refine bodyPost_ret (v := .tuple #[.agg #[.int .i64 0, .int .i64 0, .int .i64 0, .slice none 0 0, .int .i64 0, .int .u32 0, .int .i64 0, .int .i64 0, .int .i64 0, .bool false, .int .i64 0, .slice none 0 0], .int .i64 0, .agg #[.bool false, .int .i64 0, .int .i64 0], .int .i64 1]) (by simp [results, Try.results100, go_sem]) rfl ⟨(⟨0, 0, 0, none, 0, 0, 0, 0, 0, 0, 0, false, 0, none, 0, 0⟩ : Fr), rfl, FrP.zero _ _, by (repeat (first | with_reducible exact Kp.refl _ _ | with_reducible assumption | with_reducible refine Kp.alloc ?_ _ | with_reducible refine Kp.drew ?_ | with_reducible refine Kp.drewN ?_ _ | (with_reducible refine Kp.setL ?_ ?_ _; focus (simp; done)) | (with_reducible refine Kp.setR ?_ ?_ _; focus (simp; done)) | (with_reducible refine Kp.setR ?_ ?_ _; focus (simp; omega))))⟩

set_option maxHeartbeats 2000000 in
set_option maxRecDepth 100000 in
theorem parseShort (A : Option Addr) (n c : Nat) (l : List UInt8) (most : Int) (w : World) (hr : Rd w A n c l) (hn : n ≤ 281474976710656) (hm : 0 ≤ most) (h9 : n < 9) : Calls Try.prog 100 #[.slice A n c, .int .i64 most] w (ParseR (.no 0 3) w) := by
  have HR := Lib.hid hr
  have e : headR l = (0, 0, 0, 0, 3) := by unfold headR; rw [if_pos (by rw [hr.len]; exact h9)]
  have HH := Lib.hid e
  clear hr e
  go_enter Try.func100, Try.ntmps100
  go_wp2_with fail
  go_step3
  go_wp2_with fail
  generalize hW : World.alloc _ _ = w1
  have K1 : Kp [] w w1 := by rw [← hW]; (repeat (first | with_reducible exact Kp.refl _ _ | with_reducible assumption | with_reducible refine Kp.alloc ?_ _ | with_reducible refine Kp.drew ?_ | with_reducible refine Kp.drewN ?_ _ | (with_reducible refine Kp.setL ?_ ?_ _; focus (simp; done)) | (with_reducible refine Kp.setR ?_ ?_ _; focus (simp; done)) | (with_reducible refine Kp.setR ?_ ?_ _; focus (simp; omega))))
  have HF := Lib.hid (show w1.heap[w.heap.size]? = some (.cells #[.int .i64 0, .int .i64 0, .int .i64 0, .slice none 0 0, .int .i64 0, .int .u32 0, .int .i64 0, .int .i64 0, .int .i64 0, .bool false, .int .i64 0, .slice none 0 0] 49) by rw [← hW]; (repeat (first | with_reducible assumption | (with_reducible refine hp_new _ _ _ ?_; focus (simp; done)) | (with_reducible refine (hp_old _ _ _ ?_).trans ?_; focus (first | omega | (simp; done) | (simp; omega))) | (with_reducible refine (hp_far _ _ _ _ ?_).trans ?_; focus (first | (simp; done) | (simp; omega))) | (with_reducible refine (hp_drew _ _).trans ?_) | (with_reducible refine (hp_drewN _ _ _).trans ?_))))
  have HX := Lib.hid (show w1.heap[w.heap.size + 1]? = some (.cells #[.bool false, .int .i64 0, .int .i64 0] 64) by rw [← hW]; (repeat (first | with_reducible assumption | (with_reducible refine hp_new _ _ _ ?_; focus (simp; done)) | (with_reducible refine (hp_old _ _ _ ?_).trans ?_; focus (first | omega | (simp; done) | (simp; omega))) | (with_reducible refine (hp_far _ _ _ _ ?_).trans ?_; focus (first | (simp; done) | (simp; omega))) | (with_reducible refine (hp_drew _ _).trans ?_) | (with_reducible refine (hp_drewN _ _ _).trans ?_))))
  clear hW
  refine (Head_big A n c l w1 hn (HR.out.keep K1 (by simp))).mono ?_
  rintro e w2 ⟨rfl, K2⟩
  rw [HH.out]
  dsimp only
  have HF2 := Lib.hid (K2.heap HF.out (by simp))
  have HX2 := Lib.hid (K2.heap HX.out (by simp))
  have HK2 := Lib.hid (K1.trans K2)
  clear HF HX K1 K2
  obtain ⟨q0, q1, q2, q3, q4, q5, q6, q7, q8, q9, q10, q11, qz, qlt, qlt2⟩ := cellsF HF2.out
  have x0 := cell_of HX2.out 0
  have x1 := cell_of HX2.out 1
  have x2 := cell_of HX2.out 2
  have xz := frozen_of HX2.out
  go_wp2
  go_region
  go_wp2
  rw [Exit.noGoto_ret]
  generalize hW : World.setCell _ _ _ = W
  obtain ⟨HF9, HX9, K9⟩ : W.heap[w.heap.size]? = some (.cells #[.int .i64 0, .int .i64 0, .int .i64 0, .slice none 0 0, .int .i64 0, .int .u32 0, .int .i64 0, .int .i64 0, .int .i64 0, .bool false, .int .i64 0, .slice none 0 0] 49) ∧ W.heap[w.heap.size + 1]? = some (.cells #[.bool false, .int .i64 0, .int .i64 0] 64) ∧ Kp [w.heap.size, w.heap.size + 1] w2 W := by rw [← hW]; exact set15 (by omega) HF2.out HX2.out
  refine bodyPost_ret (v := .tuple #[.agg #[.int .i64 0, .int .i64 0, .int .i64 0, .slice none 0 0, .int .i64 0, .int .u32 0, .int .i64 0, .int .i64 0, .int .i64 0, .bool false, .int .i64 0, .slice none 0 0], .int .i64 0, .agg #[.bool false, .int .i64 0, .int .i64 0], .int .i64 3]) (by simp [results, Try.results100, go_sem, cell_of HF9, cell_of HX9]) rfl ⟨(⟨0, 0, 0, none, 0, 0, 0, 0, 0, 0, 0, false, 0, none, 0, 0⟩ : Fr), rfl, FrP.zero _ _, (HK2.out.then K9 (by simp)).drew⟩
end Go.Proofs.Ytkmcakneceagpaa
