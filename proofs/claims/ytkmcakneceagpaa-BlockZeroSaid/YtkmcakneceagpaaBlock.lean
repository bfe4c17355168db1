/- The joiner of layer 12 (program): what nobody made. -/
import Derived.Test.YtkmcakneceagpaaFrt
import Derived.Test.YtkmcakneceagpaaProg
import Derived.WalkLawsBesides
import Derived.WalkSpells
set_option linter.unusedVariables false
namespace Go.Proofs.Ytkmcakneceagpaa
open Go.RowKit

/-- a frame, whether, and a fault -/
def FrR (fr : Array Value) (ok : Bool) (is : Bool) (st cd : Int) (w : World) (en : Ending) (w' : World) : Prop :=
  en = .returned (.tuple #[.agg fr, .bool ok, .agg #[.bool is, .int .i64 st, .int .i64 cd]]) ∧ Kp [] w w'

set_option maxHeartbeats 1000000 in
set_option maxRecDepth 100000 in
theorem In_nil (f : Fr) (w : World) : Calls Try.prog 60 #[.pointer none, .agg #[.int .i64 f.ty, .int .i64 f.fl, .int .i64 f.st, .slice f.pA f.pn f.pc, .int .i64 f.pad, .int .u32 f.code, .int .i64 f.last, .int .i64 f.inc, .int .i64 f.dep, .bool f.only, .int .i64 f.wt, .slice f.sA f.sn f.sc]] w (FrR #[.int .i64 0, .int .i64 0, .int .i64 0, .slice none 0 0, .int .i64 0, .int .u32 0, .int .i64 0, .int .i64 0, .int .i64 0, .bool false, .int .i64 0, .slice none 0 0] false true 0 2 w) := by
  go_enter Try.func60, Try.ntmps60
  go_wp2
  exact bodyPost_ret (v := .tuple #[.agg #[.int .i64 0, .int .i64 0, .int .i64 0, .slice none 0 0, .int .i64 0, .int .u32 0, .int .i64 0, .int .i64 0, .int .i64 0, .bool false, .int .i64 0, .slice none 0 0], .bool false, .agg #[.bool true, .int .i64 0, .int .i64 2]]) (by simp [results, Try.results60, go_sem]) rfl ⟨rfl, (by repeat (first | exact Kp.refl _ _ | refine Kp.alloc ?_ _ | refine Kp.drew ?_ | refine Kp.drewN ?_ _))⟩
set_option maxHeartbeats 1000000 in
set_option maxRecDepth 100000 in
theorem In_zero (f : Fr) (g : Nat) (w : World) (h0 : w.cell? ⟨g, 0, none⟩ = some (.bool false)) : Calls Try.prog 60 #[.pointer (some ⟨g, 0, none⟩), .agg #[.int .i64 f.ty, .int .i64 f.fl, .int .i64 f.st, .slice f.pA f.pn f.pc, .int .i64 f.pad, .int .u32 f.code, .int .i64 f.last, .int .i64 f.inc, .int .i64 f.dep, .bool f.only, .int .i64 f.wt, .slice f.sA f.sn f.sc]] w (FrR #[.int .i64 0, .int .i64 0, .int .i64 0, .slice none 0 0, .int .i64 0, .int .u32 0, .int .i64 0, .int .i64 0, .int .i64 0, .bool false, .int .i64 0, .slice none 0 0] false true 0 2 w) := by
  have hg : g < w.heap.size := World.block_lt_of_cell? w _ h0
  have hg1 : g < w.heap.size + 1 := by omega
  have hg2 : g < w.heap.size + 1 + 1 := by omega
  have hg3 : g < w.heap.size + 1 + 1 + 1 := by omega
  go_enter Try.func60, Try.ntmps60
  go_wp2
  exact bodyPost_ret (v := .tuple #[.agg #[.int .i64 0, .int .i64 0, .int .i64 0, .slice none 0 0, .int .i64 0, .int .u32 0, .int .i64 0, .int .i64 0, .int .i64 0, .bool false, .int .i64 0, .slice none 0 0], .bool false, .agg #[.bool true, .int .i64 0, .int .i64 2]]) (by simp [results, Try.results60, go_sem]) rfl ⟨rfl, (by repeat (first | exact Kp.refl _ _ | refine Kp.alloc ?_ _ | refine Kp.drew ?_ | refine Kp.drewN ?_ _))⟩
set_option maxHeartbeats 400000 in
theorem Stream_nil (w : World) : Calls Try.prog 61 #[.pointer none] w fun e w' => e = .returned (.int .i64 0) ∧ w = w' := by
  go_enter Try.func61, Try.ntmps61
  go_wp2
  go_ret
  exact ⟨rfl, rfl⟩
set_option maxHeartbeats 400000 in
theorem Held_zero (g : Nat) (w : World) (h0 : w.cell? ⟨g, 0, none⟩ = some (.bool false)) : Calls Try.prog 62 #[.pointer (some ⟨g, 0, none⟩)] w fun e w' => e = .returned (.int .i64 0) ∧ w = w' := by
  go_enter Try.func62, Try.ntmps62
  go_wp2
  go_ret
  exact ⟨rfl, rfl⟩
set_option maxHeartbeats 1000000 in
set_option maxRecDepth 100000 in
theorem BlockZero_walk (f : Fr) (w0 : World) : Calls Try.prog 10 #[.agg #[.int .i64 f.ty, .int .i64 f.fl, .int .i64 f.st, .slice f.pA f.pn f.pc, .int .i64 f.pad, .int .u32 f.code, .int .i64 f.last, .int .i64 f.inc, .int .i64 f.dep, .bool f.only, .int .i64 f.wt, .slice f.sA f.sn f.sc]] w0 (Yes w0) := by
  go_enter Try.func10, Try.ntmps10
  go_wp2_with fail
  refine (In_nil f _).mono ?_
  rintro e w1 ⟨rfl, k1⟩
  have b0 := k1.heap (g := w0.heap.size) (o := .cells #[.int .i64 f.ty, .int .i64 f.fl, .int .i64 f.st, .slice f.pA f.pn f.pc, .int .i64 f.pad, .int .u32 f.code, .int .i64 f.last, .int .i64 f.inc, .int .i64 f.dep, .bool f.only, .int .i64 f.wt, .slice f.sA f.sn f.sc] 49) (by repeat (first | (refine hp_new _ _ _ ?_; focus (simp; done)) | (refine (hp_old _ _ _ ?_).trans ?_; focus (simp; done)) | (refine (hp_drew _ _).trans ?_) | (refine (hp_drewN _ _ _).trans ?_))) (by simp)
  have b1 := k1.heap (g := w0.heap.size + 1) (o := .cells #[.bool false, .int .i64 0, .int .i64 0, .bool false, .slice none 0 0] 62) (by repeat (first | (refine hp_new _ _ _ ?_; focus (simp; done)) | (refine (hp_old _ _ _ ?_).trans ?_; focus (simp; done)) | (refine (hp_drew _ _).trans ?_) | (refine (hp_drewN _ _ _).trans ?_))) (by simp)
  have z1 := lt_of_heap b1
  have B0 := Lib.hid b0
  have K1 := Kp.trans (a := w0) (S := []) (by repeat (first | exact Kp.refl _ _ | refine Kp.alloc ?_ _ | refine Kp.drew ?_ | refine Kp.drewN ?_ _)) k1
  clear b0 k1
  have cz : w1.cell? ⟨w0.heap.size + 1, 0, none⟩ = some (.bool false) := cell_of b1 0
  have c0 : w1.cell? ⟨w0.heap.size, 0, none⟩ = some (.int .i64 f.ty) := cell_of B0.out 0
  have c1 : w1.cell? ⟨w0.heap.size, 1, none⟩ = some (.int .i64 f.fl) := cell_of B0.out 1
  have c2 : w1.cell? ⟨w0.heap.size, 2, none⟩ = some (.int .i64 f.st) := cell_of B0.out 2
  have c3 : w1.cell? ⟨w0.heap.size, 3, none⟩ = some (.slice f.pA f.pn f.pc) := cell_of B0.out 3
  have c4 : w1.cell? ⟨w0.heap.size, 4, none⟩ = some (.int .i64 f.pad) := cell_of B0.out 4
  have c5 : w1.cell? ⟨w0.heap.size, 5, none⟩ = some (.int .u32 f.code) := cell_of B0.out 5
  have c6 : w1.cell? ⟨w0.heap.size, 6, none⟩ = some (.int .i64 f.last) := cell_of B0.out 6
  have c7 : w1.cell? ⟨w0.heap.size, 7, none⟩ = some (.int .i64 f.inc) := cell_of B0.out 7
  have c8 : w1.cell? ⟨w0.heap.size, 8, none⟩ = some (.int .i64 f.dep) := cell_of B0.out 8
  have c9 : w1.cell? ⟨w0.heap.size, 9, none⟩ = some (.bool f.only) := cell_of B0.out 9
  have c10 : w1.cell? ⟨w0.heap.size, 10, none⟩ = some (.int .i64 f.wt) := cell_of B0.out 10
  have c11 : w1.cell? ⟨w0.heap.size, 11, none⟩ = some (.slice f.sA f.sn f.sc) := cell_of B0.out 11
  have z0 : w0.heap.size < w1.heap.size := by omega
  have z2 : w0.heap.size < w1.heap.size + 1 := by omega
  have z3 : w0.heap.size + 1 < w1.heap.size + 1 := by omega
  have z4 : w0.heap.size < w1.heap.size + 1 + 1 := by omega
  have z5 : w0.heap.size + 1 < w1.heap.size + 1 + 1 := by omega
  have B1 := Lib.hid b1
  clear b1
  go_wp2_with fail
  refine (In_zero f _ _ (Kp.cell (w := w1) (S := []) (by repeat (first | exact Kp.refl _ _ | refine Kp.alloc ?_ _ | refine Kp.drew ?_ | refine Kp.drewN ?_ _)) cz (by simp))).mono ?_
  rintro e w2 ⟨rfl, k2⟩
  have k3 := Kp.trans (a := w1) (S := []) (by repeat (first | exact Kp.refl _ _ | refine Kp.alloc ?_ _ | refine Kp.drew ?_ | refine Kp.drewN ?_ _)) k2
  have cz2 : w2.cell? ⟨w0.heap.size + 1, 0, none⟩ = some (.bool false) := k3.cell cz (by simp)
  have K2 : Kp [] w0 w2 := K1.trans k3
  have b3 := k2.heap (g := w1.heap.size + 1) (o := .cells #[.bool true, .int .i64 0, .int .i64 2] 64) (by repeat (first | (refine hp_new _ _ _ ?_; focus (simp; done)) | (refine (hp_old _ _ _ ?_).trans ?_; focus (simp; done)) | (refine (hp_drew _ _).trans ?_) | (refine (hp_drewN _ _ _).trans ?_))) (by simp)
  have z6 := lt_of_heap b3
  have z7 : w1.heap.size + 1 < w2.heap.size + 1 := by omega
  have f0 : w2.cell? ⟨w1.heap.size + 1, 0, none⟩ = some (.bool true) := cell_of b3 0
  have f1 : w2.cell? ⟨w1.heap.size + 1, 1, none⟩ = some (.int .i64 0) := cell_of b3 1
  have f2 : w2.cell? ⟨w1.heap.size + 1, 2, none⟩ = some (.int .i64 2) := cell_of b3 2
  clear cz c0 c1 c2 c3 c4 c5 c6 c7 c8 c9 c10 c11 k2 k3
  go_wp2_with fail
  refine (Stream_nil _).mono ?_
  rintro e w3 ⟨rfl, rfl⟩
  go_wp2_with fail
  refine (Held_zero _ _ (Kp.cell (w := w2) (S := []) (by repeat (first | exact Kp.refl _ _ | refine Kp.alloc ?_ _ | refine Kp.drew ?_ | refine Kp.drewN ?_ _)) cz2 (by simp))).mono ?_
  rintro e w3 ⟨rfl, rfl⟩
  go_wp2
  go_ret
  exact ⟨rfl, K2.trans (by repeat (first | exact Kp.refl _ _ | refine Kp.alloc ?_ _ | refine Kp.drew ?_ | refine Kp.drewN ?_ _))⟩
end Go.Proofs.Ytkmcakneceagpaa
