/- What nobody made: ring, queue, pump, reader. -/
import Derived.Test.YtkmcakneceagpaaMem
import Derived.Test.YtkmcakneceagpaaProg
import Derived.WalkLawsBesides
import Derived.WalkSpells
set_option linter.unusedVariables false
namespace Go.Proofs.Ytkmcakneceagpaa
open Go.RowKit
set_option maxHeartbeats 400000 in
theorem PNext_nil (k : Int) (w : World) : Calls Try.prog 85 #[.pointer none, .int .i64 k] w fun e w' => e = .returned (.tuple #[.slice none 0 0, .bool false]) ∧ w = w' := by
  go_enter Try.func85, Try.ntmps85
  go_wp2
  exact bodyPost_ret (v := .tuple #[.slice none 0 0, .bool false]) (by simp [results, Try.results85, go_sem]) rfl ⟨rfl, rfl⟩
set_option maxHeartbeats 400000 in
theorem PLast_z (g : Nat) (w : World) (h0 : w.cell? ⟨g, 0, none⟩ = some (.pointer none)) : Calls Try.prog 89 #[.pointer (some ⟨g, 0, none⟩)] w fun e w' => e = .returned (.tuple #[.slice none 0 0, .bool false]) ∧ w = w' := by
  go_enter Try.func89, Try.ntmps89
  go_wp2
  exact bodyPost_ret (v := .tuple #[.slice none 0 0, .bool false]) (by simp [results, Try.results89, go_sem]) rfl ⟨rfl, rfl⟩
set_option maxHeartbeats 400000 in
theorem PCut_nil (w : World) : Calls Try.prog 92 #[.pointer none] w fun e w' => e = .returned (.tuple #[]) ∧ w = w' := by
  go_enter Try.func92, Try.ntmps92
  go_wp2
  exact ⟨rfl, .tuple #[], by simp [results, Try.results92, go_sem], rfl, rfl⟩
set_option maxHeartbeats 400000 in
theorem PCut_z (g : Nat) (w : World) (h0 : w.cell? ⟨g, 0, none⟩ = some (.pointer none)) : Calls Try.prog 92 #[.pointer (some ⟨g, 0, none⟩)] w fun e w' => e = .returned (.tuple #[]) ∧ w = w' := by
  go_enter Try.func92, Try.ntmps92
  go_wp2
  exact ⟨rfl, .tuple #[], by simp [results, Try.results92, go_sem], rfl, rfl⟩
set_option maxHeartbeats 400000 in
theorem PPut_z (A : Option Addr) (n c : Nat) (g : Nat) (w : World) (h0 : w.cell? ⟨g, 0, none⟩ = some (.pointer none)) : Calls Try.prog 84 #[.pointer (some ⟨g, 0, none⟩), .slice A n c] w fun e w' => e = .returned (.int .i64 7) ∧ w = w' := by
  go_enter Try.func84, Try.ntmps84
  go_wp2
  all_goals (go_ret; exact ⟨rfl, rfl⟩)
set_option maxHeartbeats 400000 in
theorem PEnd_nil (w : World) : Calls Try.prog 88 #[.pointer none] w fun e w' => e = .returned (.int .i64 7) ∧ w = w' := by
  go_enter Try.func88, Try.ntmps88
  go_wp2
  all_goals (go_ret; exact ⟨rfl, rfl⟩)
set_option maxHeartbeats 400000 in
theorem PTail_z (A : Option Addr) (n c : Nat) (g : Nat) (w : World) (h0 : w.cell? ⟨g, 0, none⟩ = some (.pointer none)) : Calls Try.prog 87 #[.pointer (some ⟨g, 0, none⟩), .slice A n c] w fun e w' => e = .returned (.int .i64 7) ∧ w = w' := by
  go_enter Try.func87, Try.ntmps87
  go_wp2
  all_goals (go_ret; exact ⟨rfl, rfl⟩)
set_option maxHeartbeats 400000 in
theorem PDone_nil (k : Int) (w : World) : Calls Try.prog 86 #[.pointer none, .int .i64 k] w fun e w' => e = .returned (.int .i64 7) ∧ w = w' := by
  go_enter Try.func86, Try.ntmps86
  go_wp2
  all_goals (go_ret; exact ⟨rfl, rfl⟩)
set_option maxHeartbeats 400000 in
theorem PLen_z (g : Nat) (w : World) (h0 : w.cell? ⟨g, 0, none⟩ = some (.pointer none)) : Calls Try.prog 91 #[.pointer (some ⟨g, 0, none⟩)] w fun e w' => e = .returned (.int .i64 0) ∧ w = w' := by
  go_enter Try.func91, Try.ntmps91
  go_wp2
  all_goals (go_ret; exact ⟨rfl, rfl⟩)
set_option maxHeartbeats 400000 in
theorem PRoom_nil (w : World) : Calls Try.prog 93 #[.pointer none] w fun e w' => e = .returned (.int .i64 0) ∧ w = w' := by
  go_enter Try.func93, Try.ntmps93
  go_wp2
  all_goals (go_ret; exact ⟨rfl, rfl⟩)
set_option maxHeartbeats 400000 in
theorem POpen_z (g : Nat) (w : World) (h0 : w.cell? ⟨g, 0, none⟩ = some (.pointer none)) : Calls Try.prog 94 #[.pointer (some ⟨g, 0, none⟩)] w fun e w' => e = .returned (.bool false) ∧ w = w' := by
  go_enter Try.func94, Try.ntmps94
  go_wp2
  all_goals (go_ret; exact ⟨rfl, rfl⟩)
set_option maxHeartbeats 4000000 in
set_option maxRecDepth 100000 in
theorem PumpZero_walk (A : Option Addr) (n c : Nat) (k : Int) (w0 : World) : Calls Try.prog 20 #[.slice A n c, .int .i64 k] w0 (Yes w0) := by
  go_enter Try.func20, Try.ntmps20
  go_wp2_with fail
  refine (PNext_nil _ _).mono ?_
  rintro e w1 ⟨rfl, rfl⟩
  go_wp2_with fail
  refine (PLast_z _ _ (cell_of (cs := #[.pointer none, .bool false, .slice none 0 0, .bool false]) (by repeat (first | (refine hp_new _ _ _ ?_; focus (simp; done)) | (refine (hp_old _ _ _ ?_).trans ?_; focus (simp; done)) | (refine (hp_drew _ _).trans ?_) | (refine (hp_drewN _ _ _).trans ?_))) 0)).mono ?_
  rintro e w1 ⟨rfl, rfl⟩
  go_wp2_with fail
  refine (PCut_nil _).mono ?_
  rintro e w1 ⟨rfl, rfl⟩
  go_wp2_with fail
  refine (PCut_z _ _ (cell_of (cs := #[.pointer none, .bool false, .slice none 0 0, .bool false]) (by repeat (first | (refine hp_new _ _ _ ?_; focus (simp; done)) | (refine (hp_old _ _ _ ?_).trans ?_; focus (simp; done)) | (refine (hp_drew _ _).trans ?_) | (refine (hp_drewN _ _ _).trans ?_))) 0)).mono ?_
  rintro e w1 ⟨rfl, rfl⟩
  go_wp2_with fail
  refine (PPut_z _ _ _ _ _ (cell_of (cs := #[.pointer none, .bool false, .slice none 0 0, .bool false]) (by repeat (first | (refine hp_new _ _ _ ?_; focus (simp; done)) | (refine (hp_old _ _ _ ?_).trans ?_; focus (simp; done)) | (refine (hp_drew _ _).trans ?_) | (refine (hp_drewN _ _ _).trans ?_))) 0)).mono ?_
  rintro e w1 ⟨rfl, rfl⟩
  go_wp2_with fail
  refine (PEnd_nil _).mono ?_
  rintro e w1 ⟨rfl, rfl⟩
  go_wp2_with fail
  refine (PTail_z _ _ _ _ _ (cell_of (cs := #[.pointer none, .bool false, .slice none 0 0, .bool false]) (by repeat (first | (refine hp_new _ _ _ ?_; focus (simp; done)) | (refine (hp_old _ _ _ ?_).trans ?_; focus (simp; done)) | (refine (hp_drew _ _).trans ?_) | (refine (hp_drewN _ _ _).trans ?_))) 0)).mono ?_
  rintro e w1 ⟨rfl, rfl⟩
  go_wp2_with fail
  refine (PDone_nil _ _).mono ?_
  rintro e w1 ⟨rfl, rfl⟩
  go_wp2_with fail
  refine (PLen_z _ _ (cell_of (cs := #[.pointer none, .bool false, .slice none 0 0, .bool false]) (by repeat (first | (refine hp_new _ _ _ ?_; focus (simp; done)) | (refine (hp_old _ _ _ ?_).trans ?_; focus (simp; done)) | (refine (hp_drew _ _).trans ?_) | (refine (hp_drewN _ _ _).trans ?_))) 0)).mono ?_
  rintro e w1 ⟨rfl, rfl⟩
  go_wp2_with fail
  refine (PRoom_nil _).mono ?_
  rintro e w1 ⟨rfl, rfl⟩
  go_wp2_with fail
  refine (POpen_z _ _ (cell_of (cs := #[.pointer none, .bool false, .slice none 0 0, .bool false]) (by repeat (first | (refine hp_new _ _ _ ?_; focus (simp; done)) | (refine (hp_old _ _ _ ?_).trans ?_; focus (simp; done)) | (refine (hp_drew _ _).trans ?_) | (refine (hp_drewN _ _ _).trans ?_))) 0)).mono ?_
  rintro e w1 ⟨rfl, rfl⟩
  go_wp2
  go_ret
  exact ⟨rfl, (by repeat (first | exact Kp.refl _ _ | refine Kp.alloc ?_ _ | refine Kp.drew ?_ | refine Kp.drewN ?_ _))⟩
set_option maxHeartbeats 400000 in
theorem RPut_nil (A : Option Addr) (n c : Nat) (w : World) : Calls Try.prog 72 #[.pointer none, .slice A n c] w fun e w' => e = .returned (.int .i64 0) ∧ w = w' := by
  go_enter Try.func72, Try.ntmps72
  go_wp2
  all_goals (go_ret; exact ⟨rfl, rfl⟩)
set_option maxHeartbeats 400000 in
theorem RPut_z (A : Option Addr) (n c : Nat) (g : Nat) (w : World) (h1 : w.cell? ⟨g, 1, none⟩ = some (.bool false)) : Calls Try.prog 72 #[.pointer (some ⟨g, 0, none⟩), .slice A n c] w fun e w' => e = .returned (.int .i64 0) ∧ w = w' := by
  go_enter Try.func72, Try.ntmps72
  go_wp2
  all_goals (go_ret; exact ⟨rfl, rfl⟩)
set_option maxHeartbeats 400000 in
theorem RTake_nil (k : Int) (w : World) : Calls Try.prog 73 #[.pointer none, .int .i64 k] w fun e w' => e = .returned (.slice none 0 0) ∧ w = w' := by
  go_enter Try.func73, Try.ntmps73
  go_wp2
  all_goals (go_ret; exact ⟨rfl, rfl⟩)
set_option maxHeartbeats 400000 in
theorem RPeek_z (k : Int) (g : Nat) (w : World) (h1 : w.cell? ⟨g, 1, none⟩ = some (.bool false)) : Calls Try.prog 80 #[.pointer (some ⟨g, 0, none⟩), .int .i64 k] w fun e w' => e = .returned (.slice none 0 0) ∧ w = w' := by
  go_enter Try.func80, Try.ntmps80
  go_wp2
  all_goals (go_ret; exact ⟨rfl, rfl⟩)
set_option maxHeartbeats 400000 in
theorem RDrop_nil (k : Int) (w : World) : Calls Try.prog 81 #[.pointer none, .int .i64 k] w fun e w' => e = .returned (.int .i64 0) ∧ w = w' := by
  go_enter Try.func81, Try.ntmps81
  go_wp2
  all_goals (go_ret; exact ⟨rfl, rfl⟩)
set_option maxHeartbeats 400000 in
theorem RLen_z (g : Nat) (w : World) (h1 : w.cell? ⟨g, 1, none⟩ = some (.bool false)) : Calls Try.prog 67 #[.pointer (some ⟨g, 0, none⟩)] w fun e w' => e = .returned (.int .i64 0) ∧ w = w' := by
  go_enter Try.func67, Try.ntmps67
  go_wp2
  all_goals (go_ret; exact ⟨rfl, rfl⟩)
set_option maxHeartbeats 400000 in
theorem RRoom_nil (w : World) : Calls Try.prog 68 #[.pointer none] w fun e w' => e = .returned (.int .i64 0) ∧ w = w' := by
  go_enter Try.func68, Try.ntmps68
  go_wp2
  all_goals (go_ret; exact ⟨rfl, rfl⟩)
set_option maxHeartbeats 400000 in
theorem RCap_z (g : Nat) (w : World) (h1 : w.cell? ⟨g, 1, none⟩ = some (.bool false)) : Calls Try.prog 70 #[.pointer (some ⟨g, 0, none⟩)] w fun e w' => e = .returned (.int .i64 0) ∧ w = w' := by
  go_enter Try.func70, Try.ntmps70
  go_wp2
  all_goals (go_ret; exact ⟨rfl, rfl⟩)
set_option maxHeartbeats 400000 in
theorem QAdd_nil (A : Option Addr) (n c : Nat) (w : World) : Calls Try.prog 75 #[.pointer none, .slice A n c] w fun e w' => e = .returned (.int .i64 7) ∧ w = w' := by
  go_enter Try.func75, Try.ntmps75
  go_wp2
  all_goals (go_ret; exact ⟨rfl, rfl⟩)
set_option maxHeartbeats 400000 in
theorem QAdd_z (A : Option Addr) (n c : Nat) (g : Nat) (w : World) (h1 : w.cell? ⟨g, 1, none⟩ = some (.bool false)) : Calls Try.prog 75 #[.pointer (some ⟨g, 0, none⟩), .slice A n c] w fun e w' => e = .returned (.int .i64 7) ∧ w = w' := by
  go_enter Try.func75, Try.ntmps75
  go_wp2
  all_goals (go_ret; exact ⟨rfl, rfl⟩)
set_option maxHeartbeats 400000 in
theorem QTake_nil (k : Int) (w : World) : Calls Try.prog 82 #[.pointer none, .int .i64 k] w fun e w' => e = .returned (.slice none 0 0) ∧ w = w' := by
  go_enter Try.func82, Try.ntmps82
  go_wp2
  all_goals (go_ret; exact ⟨rfl, rfl⟩)
set_option maxHeartbeats 400000 in
theorem QLen_z (g : Nat) (w : World) (h1 : w.cell? ⟨g, 1, none⟩ = some (.bool false)) : Calls Try.prog 77 #[.pointer (some ⟨g, 0, none⟩)] w fun e w' => e = .returned (.int .i64 0) ∧ w = w' := by
  go_enter Try.func77, Try.ntmps77
  go_wp2
  all_goals (go_ret; exact ⟨rfl, rfl⟩)
set_option maxHeartbeats 400000 in
theorem QChunks_nil (w : World) : Calls Try.prog 76 #[.pointer none] w fun e w' => e = .returned (.int .i64 0) ∧ w = w' := by
  go_enter Try.func76, Try.ntmps76
  go_wp2
  all_goals (go_ret; exact ⟨rfl, rfl⟩)
set_option maxHeartbeats 4000000 in
set_option maxRecDepth 100000 in
theorem ChunkZero_walk (k : Int) (A : Option Addr) (n c : Nat) (w0 : World) : Calls Try.prog 18 #[.int .i64 k, .slice A n c] w0 (Yes w0) := by
  go_enter Try.func18, Try.ntmps18
  go_wp2_with fail
  refine (RPut_nil _ _ _ _).mono ?_
  rintro e w1 ⟨rfl, rfl⟩
  go_wp2_with fail
  refine (RPut_z _ _ _ _ _ (cell_of (cs := #[.int .i64 0, .bool false, .slice none 0 0, .int .i64 0]) (by repeat (first | (refine hp_new _ _ _ ?_; focus (simp; done)) | (refine (hp_old _ _ _ ?_).trans ?_; focus (simp; done)) | (refine (hp_drew _ _).trans ?_) | (refine (hp_drewN _ _ _).trans ?_))) 1)).mono ?_
  rintro e w1 ⟨rfl, rfl⟩
  go_wp2_with fail
  refine (RTake_nil _ _).mono ?_
  rintro e w1 ⟨rfl, rfl⟩
  go_wp2_with fail
  refine (RPeek_z _ _ _ (cell_of (cs := #[.int .i64 0, .bool false, .slice none 0 0, .int .i64 0]) (by repeat (first | (refine hp_new _ _ _ ?_; focus (simp; done)) | (refine (hp_old _ _ _ ?_).trans ?_; focus (simp; done)) | (refine (hp_drew _ _).trans ?_) | (refine (hp_drewN _ _ _).trans ?_))) 1)).mono ?_
  rintro e w1 ⟨rfl, rfl⟩
  go_wp2_with fail
  refine (RDrop_nil _ _).mono ?_
  rintro e w1 ⟨rfl, rfl⟩
  go_wp2_with fail
  refine (RLen_z _ _ (cell_of (cs := #[.int .i64 0, .bool false, .slice none 0 0, .int .i64 0]) (by repeat (first | (refine hp_new _ _ _ ?_; focus (simp; done)) | (refine (hp_old _ _ _ ?_).trans ?_; focus (simp; done)) | (refine (hp_drew _ _).trans ?_) | (refine (hp_drewN _ _ _).trans ?_))) 1)).mono ?_
  rintro e w1 ⟨rfl, rfl⟩
  go_wp2_with fail
  refine (RRoom_nil _).mono ?_
  rintro e w1 ⟨rfl, rfl⟩
  go_wp2_with fail
  refine (RCap_z _ _ (cell_of (cs := #[.int .i64 0, .bool false, .slice none 0 0, .int .i64 0]) (by repeat (first | (refine hp_new _ _ _ ?_; focus (simp; done)) | (refine (hp_old _ _ _ ?_).trans ?_; focus (simp; done)) | (refine (hp_drew _ _).trans ?_) | (refine (hp_drewN _ _ _).trans ?_))) 1)).mono ?_
  rintro e w1 ⟨rfl, rfl⟩
  go_wp2_with fail
  refine (QAdd_nil _ _ _ _).mono ?_
  rintro e w1 ⟨rfl, rfl⟩
  go_wp2_with fail
  refine (QAdd_z _ _ _ _ _ (cell_of (cs := #[.int .i64 0, .bool false, .slice none 0 0]) (by repeat (first | (refine hp_new _ _ _ ?_; focus (simp; done)) | (refine (hp_old _ _ _ ?_).trans ?_; focus (simp; done)) | (refine (hp_drew _ _).trans ?_) | (refine (hp_drewN _ _ _).trans ?_))) 1)).mono ?_
  rintro e w1 ⟨rfl, rfl⟩
  go_wp2_with fail
  refine (QTake_nil _ _).mono ?_
  rintro e w1 ⟨rfl, rfl⟩
  go_wp2_with fail
  refine (QLen_z _ _ (cell_of (cs := #[.int .i64 0, .bool false, .slice none 0 0]) (by repeat (first | (refine hp_new _ _ _ ?_; focus (simp; done)) | (refine (hp_old _ _ _ ?_).trans ?_; focus (simp; done)) | (refine (hp_drew _ _).trans ?_) | (refine (hp_drewN _ _ _).trans ?_))) 1)).mono ?_
  rintro e w1 ⟨rfl, rfl⟩
  go_wp2_with fail
  refine (QChunks_nil _).mono ?_
  rintro e w1 ⟨rfl, rfl⟩
  go_wp2
  go_ret
  exact ⟨rfl, (by repeat (first | exact Kp.refl _ _ | refine Kp.alloc ?_ _ | refine Kp.drew ?_ | refine Kp.drewN ?_ _))⟩
end Go.Proofs.Ytkmcakneceagpaa
