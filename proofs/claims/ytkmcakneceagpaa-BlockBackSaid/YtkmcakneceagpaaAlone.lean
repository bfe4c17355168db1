/- 'BlockAlone', walked. -/
import Derived.Test.YtkmcakneceagpaaJn3
set_option linter.unusedVariables false
set_option linter.unusedSimpArgs false
namespace Go.Proofs.Ytkmcakneceagpaa
open Go.RowKit
theorem JNew (most : Nat) (h : most ≤ 65536) (w : World) : Calls Try.prog 63 #[.int .i64 most] w fun e w' => ∃ g, e = .returned (.tuple #[.pointer (some ⟨g, 0, none⟩), .int .i64 0]) ∧ Jn w' g most 0 false none 0 0 ∧ g = w.heap.size ∧ Kp [] w w' := by
  have h1 : decide ((most : Int) < 0) = false := by simp <;> omega
  have h2 : decide ((65536 : Int) < most) = false := by simp <;> omega
  go_enter Try.func63, Try.ntmps63
  go_wp2
  exact bodyPost_ret (v := .tuple #[.pointer (some ⟨w.heap.size, 0, none⟩), .int .i64 0]) (by simp [results, Try.results63, go_sem]) rfl ⟨_, rfl, hp_new _ _ _ rfl, rfl, (Kp.refl [] w).alloc _⟩
theorem JStream {w : World} {g : Nat} {most st : Int} {en : Bool} {A : Option Addr} {n c : Nat} (hj : Jn w g most st en A n c) : Calls Try.prog 61 #[.pointer (some ⟨g, 0, none⟩)] w fun e w' => e = .returned (.int .i64 st) ∧ w = w' := by
  obtain ⟨j0, j1, j2, j3, j4, hz⟩ := hj.cells
  go_enter Try.func61, Try.ntmps61
  go_wp2
  go_ret
  exact ⟨rfl, rfl⟩
theorem JHeld {w : World} {g : Nat} {most st : Int} {en : Bool} {A : Option Addr} {n c : Nat} (hj : Jn w g most st en A n c) : Calls Try.prog 62 #[.pointer (some ⟨g, 0, none⟩)] w fun e w' => e = .returned (.int .i64 n) ∧ w = w' := by
  obtain ⟨j0, j1, j2, j3, j4, hz⟩ := hj.cells
  go_enter Try.func62, Try.ntmps62
  go_wp2
  go_ret
  exact ⟨rfl, rfl⟩
set_option maxHeartbeats 4000000 in
set_option maxRecDepth 100000 in
theorem BlockAlone_walk (k : Nat) (hk : k < 65536) (f : Fr) (lf : List UInt8) (w0 : World) (hf : Rd w0 f.pA f.pn f.pc lf) (hlt : 0 < f.pn → ∀ b, b ∈ ob f.pA → b < w0.heap.size) (hpn : f.pn ≤ 140737488351232) :
    Calls Try.prog 11 #[.int .u16 k, .agg #[.int .i64 f.ty, .int .i64 f.fl, .int .i64 f.st, .slice f.pA f.pn f.pc, .int .i64 f.pad, .int .u32 f.code, .int .i64 f.last, .int .i64 f.inc, .int .i64 f.dep, .bool f.only, .int .i64 f.wt, .slice f.sA f.sn f.sc]] w0 (Yes w0) := by
  have hk1 : IntKind.i64.wrap (k : Int) = k := by simp [IntKind.wrap, IntKind.signed, IntKind.bits] <;> omega
  have hk2 : IntKind.i64.wrap (1 + (k : Int)) = 1 + (k : Int) := by simp [IntKind.wrap, IntKind.signed, IntKind.bits] <;> omega
  go_enter Try.func11, Try.ntmps11
  go_wp2_with fail
  refine (JNew 100 (by omega) _).mono ?_
  rintro e w1 ⟨g, rfl, J1, hg, k1⟩
  simp at hg
  have J1 : Jn w1 g 100 0 false none 0 0 := J1
  subst hg
  have g1 := lt_of_heap J1
  go_wp2_with fail
  refine (In_headN (w1.alloc (.cells #[.int .u8 1] 5)) (w0.heap.size + 1) 100 none 0 0 (⟨1, 0, 1 + (k : Int), some ⟨w1.heap.size, 0, none⟩, 1, 1, 0, 0, 0, 0, 0, false, 0, none, 0, 0⟩ : Fr) (J1.alloc _) rfl rfl (by omega) (by omega) (by decide) (by show decide ((100 : Int) - 0 < 1) = false; decide) w1.heap.size (by simp) [] [1] (Ow.nil _ _ _ _) (by simp [ob])
    (Rd.block (hp_new _ _ _ rfl) 0 1 1 [1] rfl (by omega) rfl) (by have := lt_of_heap J1; simp [ob]; omega) (by show 1 ≤ 140737488351232; omega) (by show (bits .and .i64 0 4 == 0) = true; decide)).mono ?_
  rintro e w2 ⟨rfl, A2, c2, J2, O2, hgA, K2⟩
  rw [show (bits .and .i64 0 1 != 0) = false from by decide] at J2
  have K2 : Kp [w0.heap.size + 1] _ w2 := K2
  have K12 := (k1.alloc (.cells #[.int .u8 1] 5)).nil.trans K2
  have B1k := K12.heap (g := w0.heap.size) (o := .cells #[.int .i64 f.ty, .int .i64 f.fl, .int .i64 f.st, .slice f.pA f.pn f.pc, .int .i64 f.pad, .int .u32 f.code, .int .i64 f.last, .int .i64 f.inc, .int .i64 f.dep, .bool f.only, .int .i64 f.wt, .slice f.sA f.sn f.sc] 49) (by (repeat (first | with_reducible assumption | (with_reducible refine hp_new _ _ _ ?_; focus (simp; done)) | (with_reducible refine (hp_old _ _ _ ?_).trans ?_; focus (first | omega | (simp; done) | (simp; omega))) | (with_reducible refine (hp_far _ _ _ _ ?_).trans ?_; focus (first | (simp; done) | (simp; omega))) | (with_reducible refine (hp_drew _ _).trans ?_) | (with_reducible refine (hp_drewN _ _ _).trans ?_)))) (by simp)
  have B1h := Lib.hid B1k
  clear B1k
  have B1 := K12.heap (g := w0.heap.size) (o := .cells #[.int .i64 f.ty, .int .i64 f.fl, .int .i64 f.st, .slice f.pA f.pn f.pc, .int .i64 f.pad, .int .u32 f.code, .int .i64 f.last, .int .i64 f.inc, .int .i64 f.dep, .bool f.only, .int .i64 f.wt, .slice f.sA f.sn f.sc] 49) (by (repeat (first | with_reducible assumption | (with_reducible refine hp_new _ _ _ ?_; focus (simp; done)) | (with_reducible refine (hp_old _ _ _ ?_).trans ?_; focus (first | omega | (simp; done) | (simp; omega))) | (with_reducible refine (hp_far _ _ _ _ ?_).trans ?_; focus (first | (simp; done) | (simp; omega))) | (with_reducible refine (hp_drew _ _).trans ?_) | (with_reducible refine (hp_drewN _ _ _).trans ?_)))) (by simp; try omega)
  have B1_0 : w2.cell? ⟨w0.heap.size, 0, none⟩ = some (.int .i64 f.ty) := cell_of B1 0
  have B1_1 : w2.cell? ⟨w0.heap.size, 1, none⟩ = some (.int .i64 f.fl) := cell_of B1 1
  have B1_2 : w2.cell? ⟨w0.heap.size, 2, none⟩ = some (.int .i64 f.st) := cell_of B1 2
  have B1_3 : w2.cell? ⟨w0.heap.size, 3, none⟩ = some (.slice f.pA f.pn f.pc) := cell_of B1 3
  have B1_4 : w2.cell? ⟨w0.heap.size, 4, none⟩ = some (.int .i64 f.pad) := cell_of B1 4
  have B1_5 : w2.cell? ⟨w0.heap.size, 5, none⟩ = some (.int .u32 f.code) := cell_of B1 5
  have B1_6 : w2.cell? ⟨w0.heap.size, 6, none⟩ = some (.int .i64 f.last) := cell_of B1 6
  have B1_7 : w2.cell? ⟨w0.heap.size, 7, none⟩ = some (.int .i64 f.inc) := cell_of B1 7
  have B1_8 : w2.cell? ⟨w0.heap.size, 8, none⟩ = some (.int .i64 f.dep) := cell_of B1 8
  have B1_9 : w2.cell? ⟨w0.heap.size, 9, none⟩ = some (.bool f.only) := cell_of B1 9
  have B1_10 : w2.cell? ⟨w0.heap.size, 10, none⟩ = some (.int .i64 f.wt) := cell_of B1 10
  have B1_11 : w2.cell? ⟨w0.heap.size, 11, none⟩ = some (.slice f.sA f.sn f.sc) := cell_of B1 11
  have B1_z : ∀ j, w2.frozen? ⟨w0.heap.size, j, none⟩ = false := frozen_of B1
  have B1_l := lt_of_heap B1
  clear B1
  have K3 := Kp.trans (a := w0) (S := [w0.heap.size + 1]) (by (repeat (first | with_reducible exact Kp.refl _ _ | with_reducible assumption | with_reducible refine Kp.alloc ?_ _ | with_reducible refine Kp.drew ?_ | with_reducible refine Kp.drewN ?_ _ | (with_reducible refine Kp.setL ?_ ?_ _; focus (simp; done)) | (with_reducible refine Kp.setR ?_ ?_ _; focus (simp; done)) | (with_reducible refine Kp.setR ?_ ?_ _; focus (simp; omega))))) K12
  have h12 : w1.heap.size ≤ w2.heap.size := by have := K2.size; simp at this; omega
  clear K2 K12 k1
  have J2 : Jn w2 (w0.heap.size + 1) 100 (1 + (k : Int)) false A2 1 c2 := J2
  have g2 := lt_of_heap J2
  have z0 : w0.heap.size + 1 < w2.heap.size + 1 := by omega
  have z1 : w0.heap.size < w2.heap.size + 1 := by omega
  have z2 : w0.heap.size < w2.heap.size + 1 + 1 := by omega
  go_wp2_with fail
  refine (JStream (st := 1 + (k : Int)) (en := false) (most := 100) (A := A2) (n := 1) (c := c2) (by (repeat (first | with_reducible assumption | with_reducible exact Lib.Hid.out ‹_› | with_reducible refine Jn.alloc ?_ _ | with_reducible refine Jn.drew ?_ | with_reducible refine Jn.drewN ?_ _ | with_reducible refine Jn.set2 (st := 0) ?_ _ | with_reducible refine Jn.set3 (en := false) ?_ _ | with_reducible refine Jn.set4 (A := none) (n := 0) (c := 0) ?_ _ _ _ | (with_reducible refine Jn.far ?_ ?_ _; focus (simp; done)) | (with_reducible refine Jn.far ?_ ?_ _; focus (simp; omega)))))).mono ?_
  rintro e w3 ⟨rfl, rfl⟩
  go_wp2_with fail
  have hNo : ∀ b, b ∈ ob A2 → w1.heap.size ≤ b ∧ b < w2.heap.size := O2.base
  have hNA : ∀ x, (x = w0.heap.size ∨ w2.heap.size ≤ x) → x ∉ (w0.heap.size + 1) :: ob A2 := by
    intro x hx hm
    rcases List.mem_cons.1 hm with h | h
    · omega
    · have := hNo x h; omega
  have K3s : Kp ((w0.heap.size + 1) :: ob A2) w0 w2 := K3.mono (fun s hs => .inl (by simp at hs; simp [hs]))
  have hfg : 0 < f.pn → ∀ b, b ∈ ob f.pA → b ≠ w0.heap.size + 1 := fun hp b hb => by have := hlt hp b hb; omega
  have hw9 : IntKind.i64.wrap (100 - ((1 : Nat) : Int)) = 100 - ((1 : Nat) : Int) := by decide
  by_cases hc : f.ty = 9 ∧ f.st = 1 + (k : Int)
  · obtain ⟨h9, hst⟩ := hc
    have t9 : (f.ty == 9) = true := by simpa using h9
    have t9' : (f.ty != 9) = false := by simpa using h9
    have tst : (f.st != 1 + (k : Int)) = false := by simpa using hst
    have tst' : (f.st == 1 + (k : Int)) = true := by simpa using hst
    by_cases hl : f.pn ≤ 99
    · have tl : decide ((99 : Int) < (f.pn : Int)) = false := by simp <;> omega
      have tl' : decide (100 - ((1 : Nat) : Int) < (f.pn : Int)) = false := by simp <;> omega
      have KW := Kp.alloc (Kp.alloc K3 (.cells #[.int .i64 0, .int .i64 0, .int .i64 0, .slice none 0 0, .int .i64 0, .int .u32 0, .int .i64 0, .int .i64 0, .int .i64 0, .bool false, .int .i64 0, .slice none 0 0] 49)) (.cells #[.bool false, .int .i64 0, .int .i64 0] 64)
      have hrf := hf.keep KW (by intro hp b hb hs; simp at hs; have := hlt hp b hb; omega)
      have hO := O2.keep (Kp.alloc (Kp.alloc (Kp.refl [] w2) (.cells #[.int .i64 0, .int .i64 0, .int .i64 0, .slice none 0 0, .int .i64 0, .int .u32 0, .int .i64 0, .int .i64 0, .int .i64 0, .bool false, .int .i64 0, .slice none 0 0] 49)) (.cells #[.bool false, .int .i64 0, .int .i64 0] 64)) (by simp)
      have hbs : w1.heap.size ≤ ((w2.alloc (.cells #[.int .i64 0, .int .i64 0, .int .i64 0, .slice none 0 0, .int .i64 0, .int .u32 0, .int .i64 0, .int .i64 0, .int .i64 0, .bool false, .int .i64 0, .slice none 0 0] 49)).alloc (.cells #[.bool false, .int .i64 0, .int .i64 0] 64)).heap.size := by simp; omega
      clear KW
      by_cases hd : (bits .and .i64 f.fl 4 == 0) = true
      · refine (In_contAN _ (w0.heap.size + 1) 100 (1 + (k : Int)) false A2 1 c2 f (by (repeat (first | with_reducible assumption | with_reducible exact Lib.Hid.out ‹_› | with_reducible refine Jn.alloc ?_ _ | with_reducible refine Jn.drew ?_ | with_reducible refine Jn.drewN ?_ _ | with_reducible refine Jn.set2 (st := 0) ?_ _ | with_reducible refine Jn.set3 (en := false) ?_ _ | with_reducible refine Jn.set4 (A := none) (n := 0) (c := 0) ?_ _ _ _ | (with_reducible refine Jn.far ?_ ?_ _; focus (simp; done)) | (with_reducible refine Jn.far ?_ ?_ _; focus (simp; omega))))) (by omega) t9 t9' tst (by omega) (by omega) hw9 tl' w1.heap.size hbs [1] lf hO hgA hrf hfg hpn hd).mono ?_
        rintro e w4 ⟨rfl, A3, c3, J4, O4, hg4, k4⟩
        have k4 : Kp _ _ w4 := k4
        have B1k := B1h.out
        have B3 := k4.heap (g := w0.heap.size) (o := .cells #[.int .i64 f.ty, .int .i64 f.fl, .int .i64 f.st, .slice f.pA f.pn f.pc, .int .i64 f.pad, .int .u32 f.code, .int .i64 f.last, .int .i64 f.inc, .int .i64 f.dep, .bool f.only, .int .i64 f.wt, .slice f.sA f.sn f.sc] 49) (by (repeat (first | with_reducible assumption | (with_reducible refine hp_new _ _ _ ?_; focus (simp; done)) | (with_reducible refine (hp_old _ _ _ ?_).trans ?_; focus (first | omega | (simp; done) | (simp; omega))) | (with_reducible refine (hp_far _ _ _ _ ?_).trans ?_; focus (first | (simp; done) | (simp; omega))) | (with_reducible refine (hp_drew _ _).trans ?_) | (with_reducible refine (hp_drewN _ _ _).trans ?_)))) (by first | (simp; done) | (simp; omega) | exact hNA _ (by omega))
        have B3_0 : w4.cell? ⟨w0.heap.size, 0, none⟩ = some (.int .i64 f.ty) := cell_of B3 0
        have B3_1 : w4.cell? ⟨w0.heap.size, 1, none⟩ = some (.int .i64 f.fl) := cell_of B3 1
        have B3_2 : w4.cell? ⟨w0.heap.size, 2, none⟩ = some (.int .i64 f.st) := cell_of B3 2
        have B3_3 : w4.cell? ⟨w0.heap.size, 3, none⟩ = some (.slice f.pA f.pn f.pc) := cell_of B3 3
        have B3_4 : w4.cell? ⟨w0.heap.size, 4, none⟩ = some (.int .i64 f.pad) := cell_of B3 4
        have B3_5 : w4.cell? ⟨w0.heap.size, 5, none⟩ = some (.int .u32 f.code) := cell_of B3 5
        have B3_6 : w4.cell? ⟨w0.heap.size, 6, none⟩ = some (.int .i64 f.last) := cell_of B3 6
        have B3_7 : w4.cell? ⟨w0.heap.size, 7, none⟩ = some (.int .i64 f.inc) := cell_of B3 7
        have B3_8 : w4.cell? ⟨w0.heap.size, 8, none⟩ = some (.int .i64 f.dep) := cell_of B3 8
        have B3_9 : w4.cell? ⟨w0.heap.size, 9, none⟩ = some (.bool f.only) := cell_of B3 9
        have B3_10 : w4.cell? ⟨w0.heap.size, 10, none⟩ = some (.int .i64 f.wt) := cell_of B3 10
        have B3_11 : w4.cell? ⟨w0.heap.size, 11, none⟩ = some (.slice f.sA f.sn f.sc) := cell_of B3 11
        have B3_z : ∀ j, w4.frozen? ⟨w0.heap.size, j, none⟩ = false := frozen_of B3
        have B3_l := lt_of_heap B3
        clear B3
        have B4 := k4.heap (g := w2.heap.size + 1) (o := .cells #[.bool false, .int .i64 0, .int .i64 0] 64) (by (repeat (first | with_reducible assumption | (with_reducible refine hp_new _ _ _ ?_; focus (simp; done)) | (with_reducible refine (hp_old _ _ _ ?_).trans ?_; focus (first | omega | (simp; done) | (simp; omega))) | (with_reducible refine (hp_far _ _ _ _ ?_).trans ?_; focus (first | (simp; done) | (simp; omega))) | (with_reducible refine (hp_drew _ _).trans ?_) | (with_reducible refine (hp_drewN _ _ _).trans ?_)))) (by first | (simp; done) | (simp; omega) | exact hNA _ (by omega))
        have B4_0 : w4.cell? ⟨w2.heap.size + 1, 0, none⟩ = some (.bool false) := cell_of B4 0
        have B4_1 : w4.cell? ⟨w2.heap.size + 1, 1, none⟩ = some (.int .i64 0) := cell_of B4 1
        have B4_2 : w4.cell? ⟨w2.heap.size + 1, 2, none⟩ = some (.int .i64 0) := cell_of B4 2
        have B4_z : ∀ j, w4.frozen? ⟨w2.heap.size + 1, j, none⟩ = false := frozen_of B4
        have B4_l := lt_of_heap B4
        clear B4
        clear B1k
        have K4 := Kp.trans (a := w0) (S := (w0.heap.size + 1) :: ob A2) (by (repeat (first | with_reducible exact Kp.refl _ _ | with_reducible assumption | with_reducible refine Kp.alloc ?_ _ | with_reducible refine Kp.drew ?_ | with_reducible refine Kp.drewN ?_ _ | (with_reducible refine Kp.setL ?_ ?_ _; focus (simp; done)) | (with_reducible refine Kp.setR ?_ ?_ _; focus (simp; done)) | (with_reducible refine Kp.setR ?_ ?_ _; focus (simp; omega))))) k4
        clear k4 K3
        go_wp2
        go_ret
        have K5 := K4.mono (T := []) (by intro s hs; refine Or.inr ?_; simp at hs; first | omega | (rcases hs with rfl | hs; omega; have := hNo s hs; omega))
        exact ⟨rfl, by (repeat (first | with_reducible exact Kp.refl _ _ | with_reducible assumption | with_reducible refine Kp.alloc ?_ _ | with_reducible refine Kp.drew ?_ | with_reducible refine Kp.drewN ?_ _ | (with_reducible refine Kp.setL ?_ ?_ _; focus (simp; done)) | (with_reducible refine Kp.setR ?_ ?_ _; focus (simp; done)) | (with_reducible refine Kp.setR ?_ ?_ _; focus (simp; omega))))⟩
        
      · have hd' : (bits .and .i64 f.fl 4 == 0) = false := by simpa using hd
        refine (In_contAWfalse _ (w0.heap.size + 1) 100 (1 + (k : Int)) A2 1 c2 f (by (repeat (first | with_reducible assumption | with_reducible exact Lib.Hid.out ‹_› | with_reducible refine Jn.alloc ?_ _ | with_reducible refine Jn.drew ?_ | with_reducible refine Jn.drewN ?_ _ | with_reducible refine Jn.set2 (st := 0) ?_ _ | with_reducible refine Jn.set3 (en := false) ?_ _ | with_reducible refine Jn.set4 (A := none) (n := 0) (c := 0) ?_ _ _ _ | (with_reducible refine Jn.far ?_ ?_ _; focus (simp; done)) | (with_reducible refine Jn.far ?_ ?_ _; focus (simp; omega))))) (by omega) t9 t9' tst (by omega) (by omega) hw9 tl' w1.heap.size hbs [1] lf hO hgA hrf hfg hpn hd').mono ?_
        rintro e w4 ⟨A3, c3, rfl, J4, O4, hg4, k4⟩
        have k4 : Kp _ _ w4 := k4
        have B1k := B1h.out
        have B3 := k4.heap (g := w0.heap.size) (o := .cells #[.int .i64 f.ty, .int .i64 f.fl, .int .i64 f.st, .slice f.pA f.pn f.pc, .int .i64 f.pad, .int .u32 f.code, .int .i64 f.last, .int .i64 f.inc, .int .i64 f.dep, .bool f.only, .int .i64 f.wt, .slice f.sA f.sn f.sc] 49) (by (repeat (first | with_reducible assumption | (with_reducible refine hp_new _ _ _ ?_; focus (simp; done)) | (with_reducible refine (hp_old _ _ _ ?_).trans ?_; focus (first | omega | (simp; done) | (simp; omega))) | (with_reducible refine (hp_far _ _ _ _ ?_).trans ?_; focus (first | (simp; done) | (simp; omega))) | (with_reducible refine (hp_drew _ _).trans ?_) | (with_reducible refine (hp_drewN _ _ _).trans ?_)))) (by first | (simp; done) | (simp; omega) | exact hNA _ (by omega))
        have B3_0 : w4.cell? ⟨w0.heap.size, 0, none⟩ = some (.int .i64 f.ty) := cell_of B3 0
        have B3_1 : w4.cell? ⟨w0.heap.size, 1, none⟩ = some (.int .i64 f.fl) := cell_of B3 1
        have B3_2 : w4.cell? ⟨w0.heap.size, 2, none⟩ = some (.int .i64 f.st) := cell_of B3 2
        have B3_3 : w4.cell? ⟨w0.heap.size, 3, none⟩ = some (.slice f.pA f.pn f.pc) := cell_of B3 3
        have B3_4 : w4.cell? ⟨w0.heap.size, 4, none⟩ = some (.int .i64 f.pad) := cell_of B3 4
        have B3_5 : w4.cell? ⟨w0.heap.size, 5, none⟩ = some (.int .u32 f.code) := cell_of B3 5
        have B3_6 : w4.cell? ⟨w0.heap.size, 6, none⟩ = some (.int .i64 f.last) := cell_of B3 6
        have B3_7 : w4.cell? ⟨w0.heap.size, 7, none⟩ = some (.int .i64 f.inc) := cell_of B3 7
        have B3_8 : w4.cell? ⟨w0.heap.size, 8, none⟩ = some (.int .i64 f.dep) := cell_of B3 8
        have B3_9 : w4.cell? ⟨w0.heap.size, 9, none⟩ = some (.bool f.only) := cell_of B3 9
        have B3_10 : w4.cell? ⟨w0.heap.size, 10, none⟩ = some (.int .i64 f.wt) := cell_of B3 10
        have B3_11 : w4.cell? ⟨w0.heap.size, 11, none⟩ = some (.slice f.sA f.sn f.sc) := cell_of B3 11
        have B3_z : ∀ j, w4.frozen? ⟨w0.heap.size, j, none⟩ = false := frozen_of B3
        have B3_l := lt_of_heap B3
        clear B3
        have B4 := k4.heap (g := w2.heap.size + 1) (o := .cells #[.bool false, .int .i64 0, .int .i64 0] 64) (by (repeat (first | with_reducible assumption | (with_reducible refine hp_new _ _ _ ?_; focus (simp; done)) | (with_reducible refine (hp_old _ _ _ ?_).trans ?_; focus (first | omega | (simp; done) | (simp; omega))) | (with_reducible refine (hp_far _ _ _ _ ?_).trans ?_; focus (first | (simp; done) | (simp; omega))) | (with_reducible refine (hp_drew _ _).trans ?_) | (with_reducible refine (hp_drewN _ _ _).trans ?_)))) (by first | (simp; done) | (simp; omega) | exact hNA _ (by omega))
        have B4_0 : w4.cell? ⟨w2.heap.size + 1, 0, none⟩ = some (.bool false) := cell_of B4 0
        have B4_1 : w4.cell? ⟨w2.heap.size + 1, 1, none⟩ = some (.int .i64 0) := cell_of B4 1
        have B4_2 : w4.cell? ⟨w2.heap.size + 1, 2, none⟩ = some (.int .i64 0) := cell_of B4 2
        have B4_z : ∀ j, w4.frozen? ⟨w2.heap.size + 1, j, none⟩ = false := frozen_of B4
        have B4_l := lt_of_heap B4
        clear B4
        clear B1k
        have K4 := Kp.trans (a := w0) (S := (w0.heap.size + 1) :: ob A2) (by (repeat (first | with_reducible exact Kp.refl _ _ | with_reducible assumption | with_reducible refine Kp.alloc ?_ _ | with_reducible refine Kp.drew ?_ | with_reducible refine Kp.drewN ?_ _ | (with_reducible refine Kp.setL ?_ ?_ _; focus (simp; done)) | (with_reducible refine Kp.setR ?_ ?_ _; focus (simp; done)) | (with_reducible refine Kp.setR ?_ ?_ _; focus (simp; omega))))) k4
        clear k4 K3
        go_wp2
        go_ret
        have K5 := K4.mono (T := []) (by intro s hs; refine Or.inr ?_; simp at hs; first | omega | (rcases hs with rfl | hs; omega; have := hNo s hs; omega))
        exact ⟨rfl, by (repeat (first | with_reducible exact Kp.refl _ _ | with_reducible assumption | with_reducible refine Kp.alloc ?_ _ | with_reducible refine Kp.drew ?_ | with_reducible refine Kp.drewN ?_ _ | (with_reducible refine Kp.setL ?_ ?_ _; focus (simp; done)) | (with_reducible refine Kp.setR ?_ ?_ _; focus (simp; done)) | (with_reducible refine Kp.setR ?_ ?_ _; focus (simp; omega))))⟩
        
    · have tl : decide ((99 : Int) < (f.pn : Int)) = true := by simp <;> omega
      have tl' : decide (100 - ((1 : Nat) : Int) < (f.pn : Int)) = true := by simp <;> omega
      refine (In_contAC _ (w0.heap.size + 1) 100 (1 + (k : Int)) false A2 1 c2 f (by (repeat (first | with_reducible assumption | with_reducible exact Lib.Hid.out ‹_› | with_reducible refine Jn.alloc ?_ _ | with_reducible refine Jn.drew ?_ | with_reducible refine Jn.drewN ?_ _ | with_reducible refine Jn.set2 (st := 0) ?_ _ | with_reducible refine Jn.set3 (en := false) ?_ _ | with_reducible refine Jn.set4 (A := none) (n := 0) (c := 0) ?_ _ _ _ | (with_reducible refine Jn.far ?_ ?_ _; focus (simp; done)) | (with_reducible refine Jn.far ?_ ?_ _; focus (simp; omega))))) (by omega) t9 t9' tst (by omega) (by omega) hw9 tl').mono ?_
      rintro e w4 ⟨rfl, J4, k4⟩
      have k4 : Kp _ _ w4 := k4
      have B1k := B1h.out
      have B3 := k4.heap (g := w0.heap.size) (o := .cells #[.int .i64 f.ty, .int .i64 f.fl, .int .i64 f.st, .slice f.pA f.pn f.pc, .int .i64 f.pad, .int .u32 f.code, .int .i64 f.last, .int .i64 f.inc, .int .i64 f.dep, .bool f.only, .int .i64 f.wt, .slice f.sA f.sn f.sc] 49) (by (repeat (first | with_reducible assumption | (with_reducible refine hp_new _ _ _ ?_; focus (simp; done)) | (with_reducible refine (hp_old _ _ _ ?_).trans ?_; focus (first | omega | (simp; done) | (simp; omega))) | (with_reducible refine (hp_far _ _ _ _ ?_).trans ?_; focus (first | (simp; done) | (simp; omega))) | (with_reducible refine (hp_drew _ _).trans ?_) | (with_reducible refine (hp_drewN _ _ _).trans ?_)))) (by first | (simp; done) | (simp; omega) | exact hNA _ (by omega))
      have B3_0 : w4.cell? ⟨w0.heap.size, 0, none⟩ = some (.int .i64 f.ty) := cell_of B3 0
      have B3_1 : w4.cell? ⟨w0.heap.size, 1, none⟩ = some (.int .i64 f.fl) := cell_of B3 1
      have B3_2 : w4.cell? ⟨w0.heap.size, 2, none⟩ = some (.int .i64 f.st) := cell_of B3 2
      have B3_3 : w4.cell? ⟨w0.heap.size, 3, none⟩ = some (.slice f.pA f.pn f.pc) := cell_of B3 3
      have B3_4 : w4.cell? ⟨w0.heap.size, 4, none⟩ = some (.int .i64 f.pad) := cell_of B3 4
      have B3_5 : w4.cell? ⟨w0.heap.size, 5, none⟩ = some (.int .u32 f.code) := cell_of B3 5
      have B3_6 : w4.cell? ⟨w0.heap.size, 6, none⟩ = some (.int .i64 f.last) := cell_of B3 6
      have B3_7 : w4.cell? ⟨w0.heap.size, 7, none⟩ = some (.int .i64 f.inc) := cell_of B3 7
      have B3_8 : w4.cell? ⟨w0.heap.size, 8, none⟩ = some (.int .i64 f.dep) := cell_of B3 8
      have B3_9 : w4.cell? ⟨w0.heap.size, 9, none⟩ = some (.bool f.only) := cell_of B3 9
      have B3_10 : w4.cell? ⟨w0.heap.size, 10, none⟩ = some (.int .i64 f.wt) := cell_of B3 10
      have B3_11 : w4.cell? ⟨w0.heap.size, 11, none⟩ = some (.slice f.sA f.sn f.sc) := cell_of B3 11
      have B3_z : ∀ j, w4.frozen? ⟨w0.heap.size, j, none⟩ = false := frozen_of B3
      have B3_l := lt_of_heap B3
      clear B3
      have B4 := k4.heap (g := w2.heap.size + 1) (o := .cells #[.bool false, .int .i64 0, .int .i64 0] 64) (by (repeat (first | with_reducible assumption | (with_reducible refine hp_new _ _ _ ?_; focus (simp; done)) | (with_reducible refine (hp_old _ _ _ ?_).trans ?_; focus (first | omega | (simp; done) | (simp; omega))) | (with_reducible refine (hp_far _ _ _ _ ?_).trans ?_; focus (first | (simp; done) | (simp; omega))) | (with_reducible refine (hp_drew _ _).trans ?_) | (with_reducible refine (hp_drewN _ _ _).trans ?_)))) (by first | (simp; done) | (simp; omega) | exact hNA _ (by omega))
      have B4_0 : w4.cell? ⟨w2.heap.size + 1, 0, none⟩ = some (.bool false) := cell_of B4 0
      have B4_1 : w4.cell? ⟨w2.heap.size + 1, 1, none⟩ = some (.int .i64 0) := cell_of B4 1
      have B4_2 : w4.cell? ⟨w2.heap.size + 1, 2, none⟩ = some (.int .i64 0) := cell_of B4 2
      have B4_z : ∀ j, w4.frozen? ⟨w2.heap.size + 1, j, none⟩ = false := frozen_of B4
      have B4_l := lt_of_heap B4
      clear B4
      clear B1k
      have K4 := Kp.trans (a := w0) (S := [w0.heap.size + 1]) (by (repeat (first | with_reducible exact Kp.refl _ _ | with_reducible assumption | with_reducible refine Kp.alloc ?_ _ | with_reducible refine Kp.drew ?_ | with_reducible refine Kp.drewN ?_ _ | (with_reducible refine Kp.setL ?_ ?_ _; focus (simp; done)) | (with_reducible refine Kp.setR ?_ ?_ _; focus (simp; done)) | (with_reducible refine Kp.setR ?_ ?_ _; focus (simp; omega))))) k4
      clear k4 K3
      go_wp2
      go_ret
      have K5 := K4.mono (T := []) (by intro s hs; refine Or.inr ?_; simp at hs; first | omega | (rcases hs with rfl | hs; omega; have := hNo s hs; omega))
      exact ⟨rfl, by (repeat (first | with_reducible exact Kp.refl _ _ | with_reducible assumption | with_reducible refine Kp.alloc ?_ _ | with_reducible refine Kp.drew ?_ | with_reducible refine Kp.drewN ?_ _ | (with_reducible refine Kp.setL ?_ ?_ _; focus (simp; done)) | (with_reducible refine Kp.setR ?_ ?_ _; focus (simp; done)) | (with_reducible refine Kp.setR ?_ ?_ _; focus (simp; omega))))⟩
  · by_cases h9 : f.ty = 9
    · have t9 : (f.ty == 9) = true := by simpa using h9
      have t9' : (f.ty != 9) = false := by simpa using h9
      have tst : (f.st != 1 + (k : Int)) = true := by simp; exact fun h => hc ⟨h9, h⟩
      have tst' : (f.st == 1 + (k : Int)) = false := by simp; exact fun h => hc ⟨h9, h⟩
      refine (In_protB0 _ (w0.heap.size + 1) 100 (1 + (k : Int)) false A2 1 c2 f (by (repeat (first | with_reducible assumption | with_reducible exact Lib.Hid.out ‹_› | with_reducible refine Jn.alloc ?_ _ | with_reducible refine Jn.drew ?_ | with_reducible refine Jn.drewN ?_ _ | with_reducible refine Jn.set2 (st := 0) ?_ _ | with_reducible refine Jn.set3 (en := false) ?_ _ | with_reducible refine Jn.set4 (A := none) (n := 0) (c := 0) ?_ _ _ _ | (with_reducible refine Jn.far ?_ ?_ _; focus (simp; done)) | (with_reducible refine Jn.far ?_ ?_ _; focus (simp; omega))))) (by omega) t9 t9' tst).mono ?_
      rintro e w4 ⟨rfl, J4, k4⟩
      have k4 : Kp _ _ w4 := k4
      have B1k := B1h.out
      have B3 := k4.heap (g := w0.heap.size) (o := .cells #[.int .i64 f.ty, .int .i64 f.fl, .int .i64 f.st, .slice f.pA f.pn f.pc, .int .i64 f.pad, .int .u32 f.code, .int .i64 f.last, .int .i64 f.inc, .int .i64 f.dep, .bool f.only, .int .i64 f.wt, .slice f.sA f.sn f.sc] 49) (by (repeat (first | with_reducible assumption | (with_reducible refine hp_new _ _ _ ?_; focus (simp; done)) | (with_reducible refine (hp_old _ _ _ ?_).trans ?_; focus (first | omega | (simp; done) | (simp; omega))) | (with_reducible refine (hp_far _ _ _ _ ?_).trans ?_; focus (first | (simp; done) | (simp; omega))) | (with_reducible refine (hp_drew _ _).trans ?_) | (with_reducible refine (hp_drewN _ _ _).trans ?_)))) (by first | (simp; done) | (simp; omega) | exact hNA _ (by omega))
      have B3_0 : w4.cell? ⟨w0.heap.size, 0, none⟩ = some (.int .i64 f.ty) := cell_of B3 0
      have B3_1 : w4.cell? ⟨w0.heap.size, 1, none⟩ = some (.int .i64 f.fl) := cell_of B3 1
      have B3_2 : w4.cell? ⟨w0.heap.size, 2, none⟩ = some (.int .i64 f.st) := cell_of B3 2
      have B3_3 : w4.cell? ⟨w0.heap.size, 3, none⟩ = some (.slice f.pA f.pn f.pc) := cell_of B3 3
      have B3_4 : w4.cell? ⟨w0.heap.size, 4, none⟩ = some (.int .i64 f.pad) := cell_of B3 4
      have B3_5 : w4.cell? ⟨w0.heap.size, 5, none⟩ = some (.int .u32 f.code) := cell_of B3 5
      have B3_6 : w4.cell? ⟨w0.heap.size, 6, none⟩ = some (.int .i64 f.last) := cell_of B3 6
      have B3_7 : w4.cell? ⟨w0.heap.size, 7, none⟩ = some (.int .i64 f.inc) := cell_of B3 7
      have B3_8 : w4.cell? ⟨w0.heap.size, 8, none⟩ = some (.int .i64 f.dep) := cell_of B3 8
      have B3_9 : w4.cell? ⟨w0.heap.size, 9, none⟩ = some (.bool f.only) := cell_of B3 9
      have B3_10 : w4.cell? ⟨w0.heap.size, 10, none⟩ = some (.int .i64 f.wt) := cell_of B3 10
      have B3_11 : w4.cell? ⟨w0.heap.size, 11, none⟩ = some (.slice f.sA f.sn f.sc) := cell_of B3 11
      have B3_z : ∀ j, w4.frozen? ⟨w0.heap.size, j, none⟩ = false := frozen_of B3
      have B3_l := lt_of_heap B3
      clear B3
      have B4 := k4.heap (g := w2.heap.size + 1) (o := .cells #[.bool false, .int .i64 0, .int .i64 0] 64) (by (repeat (first | with_reducible assumption | (with_reducible refine hp_new _ _ _ ?_; focus (simp; done)) | (with_reducible refine (hp_old _ _ _ ?_).trans ?_; focus (first | omega | (simp; done) | (simp; omega))) | (with_reducible refine (hp_far _ _ _ _ ?_).trans ?_; focus (first | (simp; done) | (simp; omega))) | (with_reducible refine (hp_drew _ _).trans ?_) | (with_reducible refine (hp_drewN _ _ _).trans ?_)))) (by first | (simp; done) | (simp; omega) | exact hNA _ (by omega))
      have B4_0 : w4.cell? ⟨w2.heap.size + 1, 0, none⟩ = some (.bool false) := cell_of B4 0
      have B4_1 : w4.cell? ⟨w2.heap.size + 1, 1, none⟩ = some (.int .i64 0) := cell_of B4 1
      have B4_2 : w4.cell? ⟨w2.heap.size + 1, 2, none⟩ = some (.int .i64 0) := cell_of B4 2
      have B4_z : ∀ j, w4.frozen? ⟨w2.heap.size + 1, j, none⟩ = false := frozen_of B4
      have B4_l := lt_of_heap B4
      clear B4
      clear B1k
      have K4 := Kp.trans (a := w0) (S := [w0.heap.size + 1]) (by (repeat (first | with_reducible exact Kp.refl _ _ | with_reducible assumption | with_reducible refine Kp.alloc ?_ _ | with_reducible refine Kp.drew ?_ | with_reducible refine Kp.drewN ?_ _ | (with_reducible refine Kp.setL ?_ ?_ _; focus (simp; done)) | (with_reducible refine Kp.setR ?_ ?_ _; focus (simp; done)) | (with_reducible refine Kp.setR ?_ ?_ _; focus (simp; omega))))) k4
      clear k4 K3
      go_wp2_with fail
      refine (JStream (by (repeat (first | with_reducible assumption | with_reducible exact Lib.Hid.out ‹_› | with_reducible refine Jn.alloc ?_ _ | with_reducible refine Jn.drew ?_ | with_reducible refine Jn.drewN ?_ _ | with_reducible refine Jn.set2 (st := 0) ?_ _ | with_reducible refine Jn.set3 (en := false) ?_ _ | with_reducible refine Jn.set4 (A := none) (n := 0) (c := 0) ?_ _ _ _ | (with_reducible refine Jn.far ?_ ?_ _; focus (simp; done)) | (with_reducible refine Jn.far ?_ ?_ _; focus (simp; omega)))) : Jn _ (w0.heap.size + 1) 100 0 false none 0 0)).mono ?_
      rintro e w5 ⟨rfl, rfl⟩
      go_wp2
      go_ret
      have K5 := K4.mono (T := []) (by intro s hs; refine Or.inr ?_; simp at hs; first | omega | (rcases hs with rfl | hs; omega; have := hNo s hs; omega))
      exact ⟨rfl, by (repeat (first | with_reducible exact Kp.refl _ _ | with_reducible assumption | with_reducible refine Kp.alloc ?_ _ | with_reducible refine Kp.drew ?_ | with_reducible refine Kp.drewN ?_ _ | (with_reducible refine Kp.setL ?_ ?_ _; focus (simp; done)) | (with_reducible refine Kp.setR ?_ ?_ _; focus (simp; done)) | (with_reducible refine Kp.setR ?_ ?_ _; focus (simp; omega))))⟩
    · have t9 : (f.ty == 9) = false := by simpa using h9
      have t9' : (f.ty != 9) = true := by simpa using h9
      refine (In_protA0 _ (w0.heap.size + 1) 100 (1 + (k : Int)) false A2 1 c2 f (by (repeat (first | with_reducible assumption | with_reducible exact Lib.Hid.out ‹_› | with_reducible refine Jn.alloc ?_ _ | with_reducible refine Jn.drew ?_ | with_reducible refine Jn.drewN ?_ _ | with_reducible refine Jn.set2 (st := 0) ?_ _ | with_reducible refine Jn.set3 (en := false) ?_ _ | with_reducible refine Jn.set4 (A := none) (n := 0) (c := 0) ?_ _ _ _ | (with_reducible refine Jn.far ?_ ?_ _; focus (simp; done)) | (with_reducible refine Jn.far ?_ ?_ _; focus (simp; omega))))) (by omega) t9 t9').mono ?_
      rintro e w4 ⟨rfl, J4, k4⟩
      have k4 : Kp _ _ w4 := k4
      have B1k := B1h.out
      have B3 := k4.heap (g := w0.heap.size) (o := .cells #[.int .i64 f.ty, .int .i64 f.fl, .int .i64 f.st, .slice f.pA f.pn f.pc, .int .i64 f.pad, .int .u32 f.code, .int .i64 f.last, .int .i64 f.inc, .int .i64 f.dep, .bool f.only, .int .i64 f.wt, .slice f.sA f.sn f.sc] 49) (by (repeat (first | with_reducible assumption | (with_reducible refine hp_new _ _ _ ?_; focus (simp; done)) | (with_reducible refine (hp_old _ _ _ ?_).trans ?_; focus (first | omega | (simp; done) | (simp; omega))) | (with_reducible refine (hp_far _ _ _ _ ?_).trans ?_; focus (first | (simp; done) | (simp; omega))) | (with_reducible refine (hp_drew _ _).trans ?_) | (with_reducible refine (hp_drewN _ _ _).trans ?_)))) (by first | (simp; done) | (simp; omega) | exact hNA _ (by omega))
      have B3_0 : w4.cell? ⟨w0.heap.size, 0, none⟩ = some (.int .i64 f.ty) := cell_of B3 0
      have B3_1 : w4.cell? ⟨w0.heap.size, 1, none⟩ = some (.int .i64 f.fl) := cell_of B3 1
      have B3_2 : w4.cell? ⟨w0.heap.size, 2, none⟩ = some (.int .i64 f.st) := cell_of B3 2
      have B3_3 : w4.cell? ⟨w0.heap.size, 3, none⟩ = some (.slice f.pA f.pn f.pc) := cell_of B3 3
      have B3_4 : w4.cell? ⟨w0.heap.size, 4, none⟩ = some (.int .i64 f.pad) := cell_of B3 4
      have B3_5 : w4.cell? ⟨w0.heap.size, 5, none⟩ = some (.int .u32 f.code) := cell_of B3 5
      have B3_6 : w4.cell? ⟨w0.heap.size, 6, none⟩ = some (.int .i64 f.last) := cell_of B3 6
      have B3_7 : w4.cell? ⟨w0.heap.size, 7, none⟩ = some (.int .i64 f.inc) := cell_of B3 7
      have B3_8 : w4.cell? ⟨w0.heap.size, 8, none⟩ = some (.int .i64 f.dep) := cell_of B3 8
      have B3_9 : w4.cell? ⟨w0.heap.size, 9, none⟩ = some (.bool f.only) := cell_of B3 9
      have B3_10 : w4.cell? ⟨w0.heap.size, 10, none⟩ = some (.int .i64 f.wt) := cell_of B3 10
      have B3_11 : w4.cell? ⟨w0.heap.size, 11, none⟩ = some (.slice f.sA f.sn f.sc) := cell_of B3 11
      have B3_z : ∀ j, w4.frozen? ⟨w0.heap.size, j, none⟩ = false := frozen_of B3
      have B3_l := lt_of_heap B3
      clear B3
      have B4 := k4.heap (g := w2.heap.size + 1) (o := .cells #[.bool false, .int .i64 0, .int .i64 0] 64) (by (repeat (first | with_reducible assumption | (with_reducible refine hp_new _ _ _ ?_; focus (simp; done)) | (with_reducible refine (hp_old _ _ _ ?_).trans ?_; focus (first | omega | (simp; done) | (simp; omega))) | (with_reducible refine (hp_far _ _ _ _ ?_).trans ?_; focus (first | (simp; done) | (simp; omega))) | (with_reducible refine (hp_drew _ _).trans ?_) | (with_reducible refine (hp_drewN _ _ _).trans ?_)))) (by first | (simp; done) | (simp; omega) | exact hNA _ (by omega))
      have B4_0 : w4.cell? ⟨w2.heap.size + 1, 0, none⟩ = some (.bool false) := cell_of B4 0
      have B4_1 : w4.cell? ⟨w2.heap.size + 1, 1, none⟩ = some (.int .i64 0) := cell_of B4 1
      have B4_2 : w4.cell? ⟨w2.heap.size + 1, 2, none⟩ = some (.int .i64 0) := cell_of B4 2
      have B4_z : ∀ j, w4.frozen? ⟨w2.heap.size + 1, j, none⟩ = false := frozen_of B4
      have B4_l := lt_of_heap B4
      clear B4
      clear B1k
      have K4 := Kp.trans (a := w0) (S := [w0.heap.size + 1]) (by (repeat (first | with_reducible exact Kp.refl _ _ | with_reducible assumption | with_reducible refine Kp.alloc ?_ _ | with_reducible refine Kp.drew ?_ | with_reducible refine Kp.drewN ?_ _ | (with_reducible refine Kp.setL ?_ ?_ _; focus (simp; done)) | (with_reducible refine Kp.setR ?_ ?_ _; focus (simp; done)) | (with_reducible refine Kp.setR ?_ ?_ _; focus (simp; omega))))) k4
      clear k4 K3
      go_wp2_with fail
      refine (JStream (by (repeat (first | with_reducible assumption | with_reducible exact Lib.Hid.out ‹_› | with_reducible refine Jn.alloc ?_ _ | with_reducible refine Jn.drew ?_ | with_reducible refine Jn.drewN ?_ _ | with_reducible refine Jn.set2 (st := 0) ?_ _ | with_reducible refine Jn.set3 (en := false) ?_ _ | with_reducible refine Jn.set4 (A := none) (n := 0) (c := 0) ?_ _ _ _ | (with_reducible refine Jn.far ?_ ?_ _; focus (simp; done)) | (with_reducible refine Jn.far ?_ ?_ _; focus (simp; omega)))) : Jn _ (w0.heap.size + 1) 100 0 false none 0 0)).mono ?_
      rintro e w5 ⟨rfl, rfl⟩
      go_wp2
      go_ret
      have K5 := K4.mono (T := []) (by intro s hs; refine Or.inr ?_; simp at hs; first | omega | (rcases hs with rfl | hs; omega; have := hNo s hs; omega))
      exact ⟨rfl, by (repeat (first | with_reducible exact Kp.refl _ _ | with_reducible assumption | with_reducible refine Kp.alloc ?_ _ | with_reducible refine Kp.drew ?_ | with_reducible refine Kp.drewN ?_ _ | (with_reducible refine Kp.setL ?_ ?_ _; focus (simp; done)) | (with_reducible refine Kp.setR ?_ ?_ _; focus (simp; done)) | (with_reducible refine Kp.setR ?_ ?_ _; focus (simp; omega))))⟩
end Go.Proofs.Ytkmcakneceagpaa
