/- The program's reader. -/
import Derived.Test.YtkmcakneceagpaaStr7
set_option linter.unusedVariables false
set_option linter.unusedSimpArgs false
set_option linter.unusedSimpArgs false
namespace Go.Proofs.Ytkmcakneceagpaa
open Go.RowKit
/-- a reader stands in block g: its bytes are l, their row lies in a block of D -/
def RdS (w : World) (g : Nat) (D : List Nat) (most : Int) (is : Bool) (xs xc : Int) (l : List UInt8) : Prop :=
  ∃ A n c, w.heap[g]? = some (.cells #[.bool true, .int .i64 most, .slice A n c, .bool is, .int .i64 xs, .int .i64 xc] 148) ∧ Ow w 0 5 1 A n c (l.map u8) ∧ g ∉ ob A ∧ ∀ t, t ∈ ob A → t ∈ D
theorem RdS.keep {w w' : World} {g : Nat} {D S : List Nat} {most : Int} {is : Bool} {xs xc : Int} {l : List UInt8} (h : RdS w g D most is xs xc l) (k : Kp S w w') (hg : g ∉ S) (hD : ∀ t, t ∈ D → t ∉ S) : RdS w' g D most is xs xc l := by
  obtain ⟨A, n, c, h1, h2, h3, h4⟩ := h
  exact ⟨A, n, c, k.heap h1 hg, h2.keep k (fun b hb => hD b (h4 b hb)), h3, h4⟩
theorem RdS.lt {w : World} {g : Nat} {D : List Nat} {most : Int} {is : Bool} {xs xc : Int} {l : List UInt8} (h : RdS w g D most is xs xc l) : g < w.heap.size := by
  obtain ⟨A, n, c, h1, _⟩ := h
  exact lt_of_heap h1
set_option maxHeartbeats 400000 in
theorem RdNew (most : Int) (hm0 : 16384 ≤ most) (hm1 : most ≤ 16777215) (w : World) : Calls Try.prog 107 #[.int .i64 most] w fun e w' => ∃ g, e = .returned (.tuple #[.pointer (some ⟨g, 0, none⟩), .int .i64 0]) ∧ g = w.heap.size ∧ RdS w' g [] most false 0 0 [] ∧ Kp [] w w' := by
  go_enter Try.func107, Try.ntmps107
  go_wp2
  refine bodyPost_ret (v := .tuple #[.pointer (some ⟨w.heap.size, 0, none⟩), .int .i64 0]) (by simp [results, Try.results107, go_sem]) rfl ⟨w.heap.size, rfl, rfl, ⟨none, 0, 0, ?_, Ow.nil _ _ _ _, by simp [ob], by simp [ob]⟩, by (repeat (first | with_reducible exact Kp.refl _ _ | with_reducible assumption | with_reducible refine Kp.alloc ?_ _ | with_reducible refine Kp.drew ?_ | with_reducible refine Kp.drewN ?_ _ | (with_reducible refine Kp.setL ?_ ?_ _; focus (simp; done)) | (with_reducible refine Kp.setR ?_ ?_ _; focus (simp; done)) | (with_reducible refine Kp.setR ?_ ?_ _; focus (simp; omega))))⟩
  (repeat (first | with_reducible assumption | (with_reducible refine hp_new _ _ _ ?_; focus (simp; done)) | (with_reducible refine (hp_old _ _ _ ?_).trans ?_; focus (first | omega | (simp; done) | (simp; omega))) | (with_reducible refine (hp_far _ _ _ _ ?_).trans ?_; focus (first | (simp; done) | (simp; omega))) | (with_reducible refine (hp_drew _ _).trans ?_) | (with_reducible refine (hp_drewN _ _ _).trans ?_)))
set_option maxHeartbeats 400000 in
theorem RdNone (g : Nat) (w : World) (c0 : w.cell? ⟨g, 0, none⟩ = some (.bool true)) : Calls Try.prog 157 #[.pointer (some ⟨g, 0, none⟩)] w (BoolR false w) := by
  have hl : g < w.heap.size := World.block_lt_of_cell? w _ c0
  go_enter Try.func157, Try.ntmps157
  go_wp2
  all_goals (go_ret; exact ⟨by simp, rfl⟩)
set_option maxHeartbeats 400000 in
theorem RdFailed (g : Nat) (w : World) (A : Option Addr) (n c : Nat) (most : Int) (is : Bool) (xs xc : Int) (h : w.heap[g]? = some (.cells #[.bool true, .int .i64 most, .slice A n c, .bool is, .int .i64 xs, .int .i64 xc] 148)) : Calls Try.prog 106 #[.pointer (some ⟨g, 0, none⟩)] w fun e w' => e = .returned (.bool is) ∧ Kp [] w w' := by
  have c0 := cell_of h 0
  have c3 := cell_of h 3
  have hl := lt_of_heap h
  clear h
  go_enter Try.func106, Try.ntmps106
  go_wp2
  all_goals (go_ret; exact ⟨by simp, by (repeat (first | with_reducible exact Kp.refl _ _ | with_reducible assumption | with_reducible refine Kp.alloc ?_ _ | with_reducible refine Kp.drew ?_ | with_reducible refine Kp.drewN ?_ _ | (with_reducible refine Kp.setL ?_ ?_ _; focus (simp; done)) | (with_reducible refine Kp.setR ?_ ?_ _; focus (simp; done)) | (with_reducible refine Kp.setR ?_ ?_ _; focus (simp; omega))))⟩)
set_option maxHeartbeats 400000 in
theorem RdRest (g : Nat) (w : World) (A : Option Addr) (n c : Nat) (most : Int) (is : Bool) (xs xc : Int) (h : w.heap[g]? = some (.cells #[.bool true, .int .i64 most, .slice A n c, .bool is, .int .i64 xs, .int .i64 xc] 148)) : Calls Try.prog 105 #[.pointer (some ⟨g, 0, none⟩)] w fun e w' => e = .returned (.int .i64 n) ∧ Kp [] w w' := by
  have c0 := cell_of h 0
  have c2 := cell_of h 2
  have hl := lt_of_heap h
  clear h
  go_enter Try.func105, Try.ntmps105
  go_wp2
  all_goals (go_ret; exact ⟨by simp, by (repeat (first | with_reducible exact Kp.refl _ _ | with_reducible assumption | with_reducible refine Kp.alloc ?_ _ | with_reducible refine Kp.drew ?_ | with_reducible refine Kp.drewN ?_ _ | (with_reducible refine Kp.setL ?_ ?_ _; focus (simp; done)) | (with_reducible refine Kp.setR ?_ ?_ _; focus (simp; done)) | (with_reducible refine Kp.setR ?_ ?_ _; focus (simp; omega))))⟩)
set_option maxHeartbeats 400000 in
theorem RdFeedS (g : Nat) (w : World) (B : Option Addr) (m d : Nat) (A : Option Addr) (n c : Nat) (most : Int) (xs xc : Int) (h : w.heap[g]? = some (.cells #[.bool true, .int .i64 most, .slice A n c, .bool true, .int .i64 xs, .int .i64 xc] 148)) : Calls Try.prog 104 #[.pointer (some ⟨g, 0, none⟩), .slice B m d] w fun e w' => e = .returned (.int .i64 5) ∧ Kp [] w w' := by
  have c0 := cell_of h 0
  have c3 := cell_of h 3
  have hl := lt_of_heap h
  clear h
  go_enter Try.func104, Try.ntmps104
  go_wp2
  all_goals (go_ret; exact ⟨by simp, by (repeat (first | with_reducible exact Kp.refl _ _ | with_reducible assumption | with_reducible refine Kp.alloc ?_ _ | with_reducible refine Kp.drew ?_ | with_reducible refine Kp.drewN ?_ _ | (with_reducible refine Kp.setL ?_ ?_ _; focus (simp; done)) | (with_reducible refine Kp.setR ?_ ?_ _; focus (simp; done)) | (with_reducible refine Kp.setR ?_ ?_ _; focus (simp; omega))))⟩)
set_option maxHeartbeats 2000000 in
set_option maxRecDepth 100000 in
theorem RdFeed (g : Nat) (D : List Nat) (w : World) (B : Option Addr) (m d : Nat) (y l : List UInt8) (most : Int) (xs xc : Int) (h : RdS w g D most false xs xc l) (hy : Rd w B m d y) (hlen : l.length + m ≤ 211106232532992) : Calls Try.prog 104 #[.pointer (some ⟨g, 0, none⟩), .slice B m d] w fun e w' => e = .returned (.int .i64 0) ∧ ∃ D', (∀ t, t ∈ D' → t ∈ D ∨ w.heap.size ≤ t) ∧ (∀ t, t ∈ D' → t < w'.heap.size) ∧ RdS w' g D' most false xs xc (l ++ y) ∧ Kp (g :: D) w w' := by
  obtain ⟨A, n, c, h1, h2, h3, h4⟩ := h
  have hn : l.length = n := by have := h2.len; simpa using this
  have c0 := cell_of h1 0
  have c2 := cell_of h1 2
  have c3 := cell_of h1 3
  have hl := lt_of_heap h1
  have HH := Lib.hid h1
  have HO := Lib.hid h2
  have HY := Lib.hid hy
  clear h1 h2 hy
  go_enter Try.func104, Try.ntmps104
  go_wp2_with fail
  refine (RdNone g w c0).mono ?_
  rintro e w9 ⟨rfl, rfl⟩
  go_wp2_with (with_reducible refine stopAt (o := ⟨some 20, _, _, _, _, _⟩) ?_)
  refine Stop.go (wp_appB rfl _ _ 22 5 rfl Try.underlying22 Try.info5 0 A n c l rfl HO.out B m d y rfl HY.out (by omega) (Nat.zero_le _) ?_)
  intro A' n' c' l' w1 hn' hl' O' K' hA'
  have H1 := Lib.hid (K'.heap HH.out h3)
  have hlt1 := lt_of_heap H1.out
  have hb' := HO.out.base
  have HN := Lib.hid hn'
  have HL := Lib.hid hl'
  have HO' := Lib.hid O'
  have HK := Lib.hid K'
  have HA' := Lib.hid hA'
  have HBB := Lib.hid hb'
  have d2 := cell_of H1.out 2
  have dz := frozen_of H1.out
  clear hn' hl' O' K' hA' hb' c0 c2 c3 HH HO HY
  go_wp2
  go_ret
  have hgA' : g ∉ ob A' := by
    rcases HA'.out with h | h
    · rw [h]; exact h3
    · rw [h]; simp [ob]; omega
  have hAD : ∀ t, t ∈ ob A' → t ∈ D ∨ w.heap.size ≤ t := by
    intro t ht
    rcases HA'.out with h | h
    · rw [h] at ht; exact .inl (h4 t ht)
    · rw [h] at ht; simp [ob] at ht; exact .inr (by omega)
  have KS : Kp [g] w1 (w1.setCell ⟨g, 2, none⟩ (.slice A' n' c')) := (Kp.refl [g] w1).setCell (.inl (by simp)) _
  refine ⟨rfl, ob A', hAD, fun t ht => Nat.lt_of_lt_of_le (HO'.out.base t ht).2 KS.size, ⟨A', n', c', hp_set _ _ _ _ _ _ H1.out, ?_, hgA', fun t h => h⟩, (HK.out.mono (fun s hs => .inl (List.mem_cons_of_mem _ (h4 s hs)))).setCell (.inl (by simp)) _⟩
  rw [← HL.out]
  exact HO'.out.keep ((Kp.refl [g] w1).setCell (.inl (by simp)) _) (fun b hb hs => by simp at hs; subst hs; exact hgA' hb)
end Go.Proofs.Ytkmcakneceagpaa
