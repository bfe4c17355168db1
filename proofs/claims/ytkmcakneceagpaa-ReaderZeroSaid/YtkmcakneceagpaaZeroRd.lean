/- What nobody made: a reader. -/
import Derived.Test.YtkmcakneceagpaaMem
import Derived.Test.YtkmcakneceagpaaProg
import Derived.WalkLawsBesides
import Derived.WalkSpells
import Derived.WalkMore
set_option linter.unusedVariables false
namespace Go.Proofs.Ytkmcakneceagpaa
open Go.RowKit
set_option maxHeartbeats 1000000 in
set_option maxRecDepth 100000 in
theorem RdNext_nil (w : World) : Calls Try.prog 103 #[.pointer none] w fun e w' => e = .returned (.tuple #[.agg #[.int .i64 0, .int .i64 0, .int .i64 0, .slice none 0 0, .int .i64 0, .int .u32 0, .int .i64 0, .int .i64 0, .int .i64 0, .bool false, .int .i64 0, .slice none 0 0], .bool false, .agg #[.bool false, .int .i64 0, .int .i64 0]]) ∧ Kp [] w w' := by
  go_enter Try.func103, Try.ntmps103
  go_wp2
  go_step3
  go_wp2
  try rw [Exit.noGoto_ret]
  exact bodyPost_ret (v := .tuple #[.agg #[.int .i64 0, .int .i64 0, .int .i64 0, .slice none 0 0, .int .i64 0, .int .u32 0, .int .i64 0, .int .i64 0, .int .i64 0, .bool false, .int .i64 0, .slice none 0 0], .bool false, .agg #[.bool false, .int .i64 0, .int .i64 0]]) (by simp [results, Try.results103, go_sem]) rfl ⟨rfl, (by repeat (first | exact Kp.refl _ _ | refine Kp.alloc ?_ _ | refine Kp.drew ?_ | refine Kp.drewN ?_ _))⟩
set_option maxHeartbeats 1000000 in
set_option maxRecDepth 100000 in
theorem RdNext_z (g : Nat) (w : World) (h0 : w.cell? ⟨g, 0, none⟩ = some (.bool false)) : Calls Try.prog 103 #[.pointer (some ⟨g, 0, none⟩)] w fun e w' => e = .returned (.tuple #[.agg #[.int .i64 0, .int .i64 0, .int .i64 0, .slice none 0 0, .int .i64 0, .int .u32 0, .int .i64 0, .int .i64 0, .int .i64 0, .bool false, .int .i64 0, .slice none 0 0], .bool false, .agg #[.bool false, .int .i64 0, .int .i64 0]]) ∧ Kp [] w w' := by
  have hg : g < w.heap.size := World.block_lt_of_cell? w _ h0
  have hg1 : g < w.heap.size + 1 := by omega
  have hg2 : g < w.heap.size + 1 + 1 := by omega
  have hg3 : g < w.heap.size + 1 + 1 + 1 := by omega
  have hg4 : g < w.heap.size + 1 + 1 + 1 + 1 := by omega
  have hg5 : g < w.heap.size + 1 + 1 + 1 + 1 + 1 := by omega
  have hg6 : g < w.heap.size + 1 + 1 + 1 + 1 + 1 + 1 := by omega
  go_enter Try.func103, Try.ntmps103
  go_wp2
  go_step3
  go_wp2
  try rw [Exit.noGoto_ret]
  exact bodyPost_ret (v := .tuple #[.agg #[.int .i64 0, .int .i64 0, .int .i64 0, .slice none 0 0, .int .i64 0, .int .u32 0, .int .i64 0, .int .i64 0, .int .i64 0, .bool false, .int .i64 0, .slice none 0 0], .bool false, .agg #[.bool false, .int .i64 0, .int .i64 0]]) (by simp [results, Try.results103, go_sem]) rfl ⟨rfl, (by repeat (first | exact Kp.refl _ _ | refine Kp.alloc ?_ _ | refine Kp.drew ?_ | refine Kp.drewN ?_ _))⟩
set_option maxHeartbeats 400000 in
theorem RdFeed_nil (A : Option Addr) (n c : Nat) (w : World) : Calls Try.prog 104 #[.pointer none, .slice A n c] w fun e w' => e = .returned (.int .i64 7) ∧ w = w' := by
  go_enter Try.func104, Try.ntmps104
  go_wp2
  all_goals (go_ret; exact ⟨rfl, rfl⟩)
set_option maxHeartbeats 400000 in
theorem RdFeed_z (A : Option Addr) (n c : Nat) (g : Nat) (w : World) (h0 : w.cell? ⟨g, 0, none⟩ = some (.bool false)) : Calls Try.prog 104 #[.pointer (some ⟨g, 0, none⟩), .slice A n c] w fun e w' => e = .returned (.int .i64 7) ∧ w = w' := by
  go_enter Try.func104, Try.ntmps104
  go_wp2
  all_goals (go_ret; exact ⟨rfl, rfl⟩)
set_option maxHeartbeats 400000 in
theorem RdRest_nil (w : World) : Calls Try.prog 105 #[.pointer none] w fun e w' => e = .returned (.int .i64 0) ∧ w = w' := by
  go_enter Try.func105, Try.ntmps105
  go_wp2
  all_goals (go_ret; exact ⟨rfl, rfl⟩)
set_option maxHeartbeats 400000 in
theorem RdFailed_z (g : Nat) (w : World) (h0 : w.cell? ⟨g, 0, none⟩ = some (.bool false)) : Calls Try.prog 106 #[.pointer (some ⟨g, 0, none⟩)] w fun e w' => e = .returned (.bool false) ∧ w = w' := by
  go_enter Try.func106, Try.ntmps106
  go_wp2
  all_goals (go_ret; exact ⟨rfl, rfl⟩)
set_option maxHeartbeats 4000000 in
set_option maxRecDepth 100000 in
theorem ReaderZero_walk (A : Option Addr) (n c : Nat) (w0 : World) : Calls Try.prog 29 #[.slice A n c] w0 (Yes w0) := by
  go_enter Try.func29, Try.ntmps29
  go_wp2_with fail
  refine (RdNext_nil _).mono ?_
  rintro e w1 ⟨rfl, k1⟩
  have K1 := Kp.trans (a := w0) (S := []) (by repeat (first | exact Kp.refl _ _ | refine Kp.alloc ?_ _ | refine Kp.drew ?_ | refine Kp.drewN ?_ _)) k1
  have c1 : w1.cell? ⟨w0.heap.size, 0, none⟩ = some (.bool false) := k1.cell (cell_of (cs := #[.bool false, .int .i64 0, .slice none 0 0, .bool false, .int .i64 0, .int .i64 0]) (by repeat (first | (refine hp_new _ _ _ ?_; focus (simp; done)) | (refine (hp_old _ _ _ ?_).trans ?_; focus (simp; done)) | (refine (hp_drew _ _).trans ?_) | (refine (hp_drewN _ _ _).trans ?_))) 0) (by simp)
  clear k1
  go_wp2_with fail
  refine (RdNext_z _ _ (Kp.cell (w := w1) (S := []) (by repeat (first | exact Kp.refl _ _ | refine Kp.alloc ?_ _ | refine Kp.drew ?_ | refine Kp.drewN ?_ _)) c1 (by simp))).mono ?_
  rintro e w2 ⟨rfl, k2⟩
  have k3 := Kp.trans (a := w1) (S := []) (by repeat (first | exact Kp.refl _ _ | refine Kp.alloc ?_ _ | refine Kp.drew ?_ | refine Kp.drewN ?_ _)) k2
  have c2 : w2.cell? ⟨w0.heap.size, 0, none⟩ = some (.bool false) := k3.cell c1 (by simp)
  have K2 : Kp [] w0 w2 := K1.trans k3
  have b3 := k2.heap (g := w1.heap.size + 1) (o := .cells #[.bool false, .int .i64 0, .int .i64 0] 64) (by repeat (first | (refine hp_new _ _ _ ?_; focus (simp; done)) | (refine (hp_old _ _ _ ?_).trans ?_; focus (simp; done)) | (refine (hp_drew _ _).trans ?_) | (refine (hp_drewN _ _ _).trans ?_))) (by simp)
  have f0 : w2.cell? ⟨w1.heap.size + 1, 0, none⟩ = some (.bool false) := cell_of b3 0
  have z6 := lt_of_heap b3
  have z7 : w1.heap.size + 1 < w2.heap.size + 1 := by omega
  have z1 := World.block_lt_of_cell? w1 _ c1
  have z2 := World.block_lt_of_cell? w2 _ c2
  clear K1 k2 k3 c1 b3
  go_wp2_with fail
  refine (RdFeed_nil _ _ _ _).mono ?_
  rintro e w3 ⟨rfl, rfl⟩
  go_wp2_with fail
  refine (RdFeed_z _ _ _ _ _ (Kp.cell (w := w2) (S := []) (by repeat (first | exact Kp.refl _ _ | refine Kp.alloc ?_ _ | refine Kp.drew ?_ | refine Kp.drewN ?_ _)) c2 (by simp))).mono ?_
  rintro e w3 ⟨rfl, rfl⟩
  go_wp2_with fail
  refine (RdRest_nil _).mono ?_
  rintro e w3 ⟨rfl, rfl⟩
  go_wp2_with fail
  refine (RdFailed_z _ _ (Kp.cell (w := w2) (S := []) (by repeat (first | exact Kp.refl _ _ | refine Kp.alloc ?_ _ | refine Kp.drew ?_ | refine Kp.drewN ?_ _)) c2 (by simp))).mono ?_
  rintro e w3 ⟨rfl, rfl⟩
  go_wp2
  go_ret
  exact ⟨rfl, K2.trans (by repeat (first | exact Kp.refl _ _ | refine Kp.alloc ?_ _ | refine Kp.drew ?_ | refine Kp.drewN ?_ _))⟩
end Go.Proofs.Ytkmcakneceagpaa
