/- frame.kind: what each type reads. -/
import Derived.Test.YtkmcakneceagpaaPrsK
set_option linter.unusedVariables false
set_option linter.unusedSimpArgs false
set_option linter.unusedSimpArgs false
namespace Go.Proofs.Ytkmcakneceagpaa
open Go.RowKit

set_option maxHeartbeats 1000000 in
set_option maxRecDepth 100000 in
theorem get3 (fl st pad : Int) (g : Nat) (A : Option Addr) (n c : Nat) (l : List UInt8) (w : World) (hB : w.heap[g]? = some (.cells #[.int .i64 3, .int .i64 fl, .int .i64 st, .slice none 0 0, .int .i64 pad, .int .u32 0, .int .i64 0, .int .i64 0, .int .i64 0, .bool false, .int .i64 0, .slice none 0 0] 49)) (hr : Rd w A n c l) (hgA : g ∉ ob A) (hn : n ≤ 140737488355328) (h4 : 4 ≤ n) :
    Calls Try.prog 171 #[.pointer (some ⟨g, 0, none⟩), .slice A n c] w (GetR g (getS (f0S 3 fl st pad) l) w) := by
  have HB := Lib.hid hB
  have HR := Lib.hid hr
  have hg := lt_of_heap hB
  have hcap := hr.cap
  clear hB hr
  go_enter Try.func171, Try.ntmps171
  go_wp2_with fail
  generalize hW : World.alloc _ _ = w1
  obtain ⟨K1, hx⟩ := new_at hW
  have HX1 := Lib.hid hx
  have hsx := lt_of_heap hx
  have HR1 := Lib.hid (HR.out.keep K1 (by simp))
  have HB1 := Lib.hid (K1.heap HB.out (by simp))
  have HK1 := Lib.hid K1
  clear hW hx K1 HB HR
  refine (U32_at A n c 0 l w1 hn HR1.out (by omega)).mono ?_
  rintro e w2 ⟨p2, q2, rfl, K2⟩
  have HX2 := Lib.hid (K2.heap HX1.out (by simp))
  have HR2 := Lib.hid (HR1.out.keep K2 (by simp))
  have HB2 := Lib.hid (K2.heap HB1.out (by simp))
  have HK2 := Lib.hid (HK1.out.trans K2)
  have hs2 := K2.size
  clear HX1 HR1 HB1 HK1 K2
  obtain ⟨f0, f1, f2, f3, f4, f5, f6, f7, f8, f9, f10, f11, fz, fl1, fl2⟩ := cellsF HB2.out
  have x0 := cell_of HX2.out 0
  have x1 := cell_of HX2.out 1
  have x2 := cell_of HX2.out 2
  have xz := frozen_of HX2.out
  have hgx : ¬ g = w.heap.size := by omega
  go_wp2
  generalize hW : World.setCell _ _ _ = W
  have K9 : Kp [g, w.heap.size] w2 W := by rw [← hW]; exact (((((Kp.refl _ _).setCell (.inl (by simp)) _).setCell (.inl (by simp)) _).setCell (.inl (by simp)) _).setCell (.inl (by simp)) _)
  have HB9 : W.heap[g]? = some (.cells #[.int .i64 3, .int .i64 fl, .int .i64 st, .slice none 0 0, .int .i64 pad, .int .u32 (n32 l 0), .int .i64 0, .int .i64 0, .int .i64 0, .bool false, .int .i64 0, .slice none 0 0] 49) := by rw [← hW]; exact (hp_far _ _ _ _ (by simp; omega)).trans ((hp_far _ _ _ _ (by simp; omega)).trans ((hp_far _ _ _ _ (by simp; omega)).trans (hp_set _ _ _ _ _ _ (HB2.out))))
  have HX9 : W.heap[w.heap.size]? = some (.cells #[.bool false, .int .i64 0, .int .i64 0] 64) := by rw [← hW]; exact hp_set _ _ _ _ _ _ (hp_set _ _ _ _ _ _ (hp_set _ _ _ _ _ _ ((hp_far _ _ _ _ (by simp; omega)).trans (HX2.out))))
  refine bodyPost_ret (v := .agg #[.bool false, .int .i64 0, .int .i64 0]) (by simp [results, Try.results171, go_sem, cell_of HX9]) rfl ⟨rfl, (⟨3, fl, st, none, 0, 0, pad, n32 l 0, 0, 0, 0, false, 0, none, 0, 0⟩ : Fr), HB9, ⟨rfl, Rd.nil _ _ _, Sd.nil _, by simp [ob], by simp [ob]⟩, (HK2.out.nil).then K9 (by simp)⟩

theorem getRest (T : Int) (fl st pad : Int) (g : Nat) (A : Option Addr) (n c : Nat) (l : List UInt8) (w : World) (hB : w.heap[g]? = some (.cells #[.int .i64 T, .int .i64 fl, .int .i64 st, .slice none 0 0, .int .i64 pad, .int .u32 0, .int .i64 0, .int .i64 0, .int .i64 0, .bool false, .int .i64 0, .slice none 0 0] 49)) (hr : Rd w A n c l) (hn : n ≤ 140737488355328) (hT : T = 0 ∨ T = 6 ∨ T = 9) :
    Calls Try.prog 164 #[.pointer (some ⟨g, 0, none⟩), .slice A n c] w (GetR g (getS (f0S T fl st pad) l) w) := by
  have e : getS (f0S T fl st pad) l = { f0S T fl st pad with pl := l } := by rcases hT with rfl | rfl | rfl <;> rfl
  rw [e]
  refine (restF (⟨T, fl, st, none, 0, 0, pad, 0, 0, 0, 0, false, 0, none, 0, 0⟩ : Fr) g A n c l w hB hr hn).mono ?_
  rintro e w' ⟨he, pA, pn, pc, h1, h2, h3⟩
  exact ⟨he, (⟨T, fl, st, pA, pn, pc, pad, 0, 0, 0, 0, false, 0, none, 0, 0⟩ : Fr), h1, ⟨rfl, h2.rd, Sd.nil _, fun b hb => (h2.base b hb).1, by simp [ob]⟩, h3⟩

set_option maxHeartbeats 1000000 in
set_option maxRecDepth 100000 in
theorem get2 (fl st pad : Int) (g : Nat) (A : Option Addr) (n c : Nat) (l : List UInt8) (w : World) (hB : w.heap[g]? = some (.cells #[.int .i64 2, .int .i64 fl, .int .i64 st, .slice none 0 0, .int .i64 pad, .int .u32 0, .int .i64 0, .int .i64 0, .int .i64 0, .bool false, .int .i64 0, .slice none 0 0] 49)) (hr : Rd w A n c l) (hgA : g ∉ ob A) (hn : n ≤ 140737488355328) (h5 : 5 ≤ n) :
    Calls Try.prog 169 #[.pointer (some ⟨g, 0, none⟩), .slice A n c] w (GetR g (getS (f0S 2 fl st pad) l) w) := by
  have HB := Lib.hid hB
  have HR := Lib.hid hr
  have hg := lt_of_heap hB
  have hcap := hr.cap
  clear hB hr
  go_enter Try.func169, Try.ntmps169
  go_wp2_with fail
  generalize hW : World.alloc _ _ = w1
  obtain ⟨K1, hx⟩ := new_at hW
  have HX1 := Lib.hid hx
  have hsx := lt_of_heap hx
  have HR1 := Lib.hid (HR.out.keep K1 (by simp))
  have HB1 := Lib.hid (K1.heap HB.out (by simp))
  have HK1 := Lib.hid K1
  clear hW hx K1 HB HR
  refine (priorF (⟨2, fl, st, none, 0, 0, pad, 0, 0, 0, 0, false, 0, none, 0, 0⟩ : Fr) g A n c l w1 HB1.out HR1.out hgA h5 hn).mono ?_
  rintro e w2 ⟨A2, rfl, R2, hg2, hB2, K2⟩
  have HX2 := Lib.hid (K2.heap HX1.out (by simp; omega))
  have HB2 := Lib.hid hB2
  have HK2 := Lib.hid (HK1.out.nil.trans K2)
  have hs2 := K2.size
  clear HX1 HR1 HB1 HK1 K2 hB2 R2 hg2
  obtain ⟨f0, f1, f2, f3, f4, f5, f6, f7, f8, f9, f10, f11, fz, fl1, fl2⟩ := cellsF HB2.out
  have x0 := cell_of HX2.out 0
  have x1 := cell_of HX2.out 1
  have x2 := cell_of HX2.out 2
  have xz := frozen_of HX2.out
  have hgx : ¬ g = w.heap.size := by omega
  go_wp2
  generalize hW : World.setCell _ _ _ = W
  have K9 : Kp [g, w.heap.size] w2 W := by rw [← hW]; exact ((((Kp.refl _ _).setCell (.inl (by simp)) _).setCell (.inl (by simp)) _).setCell (.inl (by simp)) _)
  have HB9 : W.heap[g]? = some (.cells #[.int .i64 2, .int .i64 fl, .int .i64 st, .slice none 0 0, .int .i64 pad, .int .u32 0, .int .i64 0, .int .i64 0, .int .i64 (n31 l 0), .bool (decide (128 ≤ (l.getD 0 0).toNat)), .int .i64 ((l.getD 4 0).toNat + 1), .slice none 0 0] 49) := by rw [← hW]; exact (hp_far _ _ _ _ (by simp; omega)).trans ((hp_far _ _ _ _ (by simp; omega)).trans ((hp_far _ _ _ _ (by simp; omega)).trans (HB2.out)))
  have HX9 : W.heap[w.heap.size]? = some (.cells #[.bool false, .int .i64 0, .int .i64 0] 64) := by rw [← hW]; exact hp_set _ _ _ _ _ _ (hp_set _ _ _ _ _ _ (hp_set _ _ _ _ _ _ (HX2.out)))
  refine bodyPost_ret (v := .agg #[.bool false, .int .i64 0, .int .i64 0]) (by simp [results, Try.results169, go_sem, cell_of HX9]) rfl ⟨rfl, (⟨2, fl, st, none, 0, 0, pad, 0, 0, 0, n31 l 0, decide (128 ≤ (l.getD 0 0).toNat), (l.getD 4 0).toNat + 1, none, 0, 0⟩ : Fr), HB9, ⟨rfl, Rd.nil _ _ _, Sd.nil _, by simp [ob], by simp [ob]⟩, (HK2.out).then K9 (by simp)⟩


set_option maxHeartbeats 1000000 in
set_option maxRecDepth 100000 in
theorem get8 (fl st pad : Int) (g : Nat) (A : Option Addr) (n c : Nat) (l : List UInt8) (w : World) (hB : w.heap[g]? = some (.cells #[.int .i64 8, .int .i64 fl, .int .i64 st, .slice none 0 0, .int .i64 pad, .int .u32 0, .int .i64 0, .int .i64 0, .int .i64 0, .bool false, .int .i64 0, .slice none 0 0] 49)) (hr : Rd w A n c l) (hgA : g ∉ ob A) (hn : n ≤ 140737488355328) (h4 : 4 ≤ n) (hi : ¬ n31 l 0 = 0) :
    Calls Try.prog 184 #[.pointer (some ⟨g, 0, none⟩), .slice A n c] w (GetR g (getS (f0S 8 fl st pad) l) w) := by
  have HB := Lib.hid hB
  have HR := Lib.hid hr
  have hg := lt_of_heap hB
  have hcap := hr.cap
  clear hB hr
  go_enter Try.func184, Try.ntmps184
  go_wp2_with fail
  generalize hW : World.alloc _ _ = w1
  obtain ⟨K1, hx⟩ := new_at hW
  have HX1 := Lib.hid hx
  have hsx := lt_of_heap hx
  have HR1 := Lib.hid (HR.out.keep K1 (by simp))
  have HB1 := Lib.hid (K1.heap HB.out (by simp))
  have HK1 := Lib.hid K1
  clear hW hx K1 HB HR
  have hU := U31_at A n c 0 l w1 hn HR1.out (by omega)
  rw [show ((0 : Nat) : Int) = 0 from rfl] at hU
  generalize hx : n31 l 0 = x at hU hi
  have HX0 := Lib.hid hx
  have hi2 : (x == 0) = false := by simp [hi]
  clear hx hi
  refine (hU).mono ?_
  rintro e w2 ⟨p2, q2, rfl, K2⟩
  have HX2 := Lib.hid (K2.heap HX1.out (by simp))
  have HR2 := Lib.hid (HR1.out.keep K2 (by simp))
  have HB2 := Lib.hid (K2.heap HB1.out (by simp))
  have HK2 := Lib.hid (HK1.out.trans K2)
  have hs2 := K2.size
  clear HX1 HR1 HB1 HK1 K2
  obtain ⟨f0, f1, f2, f3, f4, f5, f6, f7, f8, f9, f10, f11, fz, fl1, fl2⟩ := cellsF HB2.out
  have x0 := cell_of HX2.out 0
  have x1 := cell_of HX2.out 1
  have x2 := cell_of HX2.out 2
  have xz := frozen_of HX2.out
  clear hU
  have hgx : ¬ g = w.heap.size := by omega
  go_wp2
  generalize hW : World.setCell _ _ _ = W
  have K9 : Kp [g, w.heap.size] w2 W := by rw [← hW]; exact (((((Kp.refl _ _).setCell (.inl (by simp)) _).setCell (.inl (by simp)) _).setCell (.inl (by simp)) _).setCell (.inl (by simp)) _)
  have HB9 : W.heap[g]? = some (.cells #[.int .i64 8, .int .i64 fl, .int .i64 st, .slice none 0 0, .int .i64 pad, .int .u32 0, .int .i64 0, .int .i64 x, .int .i64 0, .bool false, .int .i64 0, .slice none 0 0] 49) := by rw [← hW]; exact (hp_far _ _ _ _ (by simp; omega)).trans ((hp_far _ _ _ _ (by simp; omega)).trans ((hp_far _ _ _ _ (by simp; omega)).trans (hp_set _ _ _ _ _ _ (HB2.out))))
  have HX9 : W.heap[w.heap.size]? = some (.cells #[.bool false, .int .i64 0, .int .i64 0] 64) := by rw [← hW]; exact hp_set _ _ _ _ _ _ (hp_set _ _ _ _ _ _ (hp_set _ _ _ _ _ _ ((hp_far _ _ _ _ (by simp; omega)).trans (HX2.out))))
  refine bodyPost_ret (v := .agg #[.bool false, .int .i64 0, .int .i64 0]) (by simp [results, Try.results184, go_sem, cell_of HX9]) rfl ⟨rfl, (⟨8, fl, st, none, 0, 0, pad, 0, 0, x, 0, false, 0, none, 0, 0⟩ : Fr), HB9, ⟨by rw [← HX0.out]; rfl, Rd.nil _ _ _, Sd.nil _, by simp [ob], by simp [ob]⟩, (HK2.out.nil).then K9 (by simp)⟩

set_option maxHeartbeats 1000000 in
set_option maxRecDepth 100000 in
theorem get8b (fl st pad : Int) (g : Nat) (A : Option Addr) (n c : Nat) (l : List UInt8) (w : World) (hB : w.heap[g]? = some (.cells #[.int .i64 8, .int .i64 fl, .int .i64 st, .slice none 0 0, .int .i64 pad, .int .u32 0, .int .i64 0, .int .i64 0, .int .i64 0, .bool false, .int .i64 0, .slice none 0 0] 49)) (hr : Rd w A n c l) (hgA : g ∉ ob A) (hn : n ≤ 140737488355328) (h4 : 4 ≤ n) (hi : n31 l 0 = 0) :
    Calls Try.prog 184 #[.pointer (some ⟨g, 0, none⟩), .slice A n c] w fun e w' => e = .returned (.agg #[.bool true, .int .i64 st, .int .i64 1]) ∧ (∃ f' : Fr, w'.heap[g]? = some (.cells #[.int .i64 f'.ty, .int .i64 f'.fl, .int .i64 f'.st, .slice f'.pA f'.pn f'.pc, .int .i64 f'.pad, .int .u32 f'.code, .int .i64 f'.last, .int .i64 f'.inc, .int .i64 f'.dep, .bool f'.only, .int .i64 f'.wt, .slice f'.sA f'.sn f'.sc] 49)) ∧ Kp [g] w w' := by
  have HB := Lib.hid hB
  have HR := Lib.hid hr
  have hg := lt_of_heap hB
  have hcap := hr.cap
  clear hB hr
  go_enter Try.func184, Try.ntmps184
  go_wp2_with fail
  generalize hW : World.alloc _ _ = w1
  obtain ⟨K1, hx⟩ := new_at hW
  have HX1 := Lib.hid hx
  have hsx := lt_of_heap hx
  have HR1 := Lib.hid (HR.out.keep K1 (by simp))
  have HB1 := Lib.hid (K1.heap HB.out (by simp))
  have HK1 := Lib.hid K1
  clear hW hx K1 HB HR
  have hU := U31_at A n c 0 l w1 hn HR1.out (by omega)
  rw [show ((0 : Nat) : Int) = 0 from rfl, hi] at hU
  clear hi
  refine (hU).mono ?_
  rintro e w2 ⟨p2, q2, rfl, K2⟩
  have HX2 := Lib.hid (K2.heap HX1.out (by simp))
  have HR2 := Lib.hid (HR1.out.keep K2 (by simp))
  have HB2 := Lib.hid (K2.heap HB1.out (by simp))
  have HK2 := Lib.hid (HK1.out.trans K2)
  have hs2 := K2.size
  clear HX1 HR1 HB1 HK1 K2
  obtain ⟨f0, f1, f2, f3, f4, f5, f6, f7, f8, f9, f10, f11, fz, fl1, fl2⟩ := cellsF HB2.out
  have x0 := cell_of HX2.out 0
  have x1 := cell_of HX2.out 1
  have x2 := cell_of HX2.out 2
  have xz := frozen_of HX2.out
  clear hU
  have hgx : ¬ g = w.heap.size := by omega
  go_wp2
  generalize hW : World.setCell _ _ _ = W
  have K9 : Kp [g, w.heap.size] w2 W := by rw [← hW]; exact (((((Kp.refl _ _).setCell (.inl (by simp)) _).setCell (.inl (by simp)) _).setCell (.inl (by simp)) _).setCell (.inl (by simp)) _)
  have HB9 : W.heap[g]? = some (.cells #[.int .i64 8, .int .i64 fl, .int .i64 st, .slice none 0 0, .int .i64 pad, .int .u32 0, .int .i64 0, .int .i64 0, .int .i64 0, .bool false, .int .i64 0, .slice none 0 0] 49) := by rw [← hW]; exact (hp_far _ _ _ _ (by simp; omega)).trans ((hp_far _ _ _ _ (by simp; omega)).trans ((hp_far _ _ _ _ (by simp; omega)).trans (hp_set _ _ _ _ _ _ (HB2.out))))
  have HX9 : W.heap[w.heap.size]? = some (.cells #[.bool true, .int .i64 st, .int .i64 1] 64) := by rw [← hW]; exact hp_set _ _ _ _ _ _ (hp_set _ _ _ _ _ _ (hp_set _ _ _ _ _ _ ((hp_far _ _ _ _ (by simp; omega)).trans (HX2.out))))
  refine bodyPost_ret (v := .agg #[.bool true, .int .i64 st, .int .i64 1]) (by simp [results, Try.results184, go_sem, cell_of HX9]) rfl ⟨rfl, ⟨(⟨8, fl, st, none, 0, 0, pad, 0, 0, 0, 0, false, 0, none, 0, 0⟩ : Fr), HB9⟩, (HK2.out.nil).then K9 (by simp)⟩


set_option maxHeartbeats 1000000 in
set_option maxRecDepth 100000 in
theorem get5 (fl st pad : Int) (g : Nat) (A : Option Addr) (n c : Nat) (l : List UInt8) (w : World) (hB : w.heap[g]? = some (.cells #[.int .i64 5, .int .i64 fl, .int .i64 st, .slice none 0 0, .int .i64 pad, .int .u32 0, .int .i64 0, .int .i64 0, .int .i64 0, .bool false, .int .i64 0, .slice none 0 0] 49)) (hr : Rd w A n c l) (hgA : g ∉ ob A) (hn : n ≤ 140737488355328) (h4 : 4 ≤ n) :
    Calls Try.prog 177 #[.pointer (some ⟨g, 0, none⟩), .slice A n c] w (GetR g (getS (f0S 5 fl st pad) l) w) := by
  obtain ⟨b, o, rfl, _, _⟩ := hr.addr (by omega)
  by_cases hc : c = 4
  · subst hc
    obtain rfl : n = 4 := by have := hr.cap; omega
    have HB := Lib.hid hB
    have HR := Lib.hid hr
    have hg := lt_of_heap hB
    have hcap := hr.cap
    clear hB hr
    go_enter Try.func177, Try.ntmps177
    go_wp2_with fail
    generalize hW : World.alloc _ _ = w1
    obtain ⟨K1, hx⟩ := new_at hW
    have HX1 := Lib.hid hx
    have hsx := lt_of_heap hx
    have HR1 := Lib.hid (HR.out.keep K1 (by simp))
    have HB1 := Lib.hid (K1.heap HB.out (by simp))
    have HK1 := Lib.hid K1
    clear hW hx K1 HB HR
    replace HK1 := Lib.hid (HK1.out.nil (S := [g]))
    refine (U31_at (some ⟨b, o, none⟩) 4 4 0 l w1 hn HR1.out (by omega)).mono ?_
    rintro e w2 ⟨p2, q2, rfl, K2⟩
    have HX2 := Lib.hid (K2.heap HX1.out (by simp))
    have HR2 := Lib.hid (HR1.out.keep K2 (by simp))
    have HB2 := Lib.hid (K2.heap HB1.out (by simp))
    have HK2 := Lib.hid (HK1.out.trans K2.nil)
    have hs2 := K2.size
    clear HX1 HR1 HB1 HK1 K2
    obtain ⟨f0, f1, f2, f3, f4, f5, f6, f7, f8, f9, f10, f11, fz, fl1, fl2⟩ := cellsF HB2.out
    have x0 := cell_of HX2.out 0
    have x1 := cell_of HX2.out 1
    have x2 := cell_of HX2.out 2
    have xz := frozen_of HX2.out
    go_wp2_with fail
    generalize hW : World.setCell _ _ _ = w3
    have K3 : Kp [g] w2 w3 := by rw [← hW]; exact (Kp.refl _ _).setCell (.inl (by simp)) _
    have HB3 := Lib.hid (show w3.heap[g]? = some (.cells #[.int .i64 5, .int .i64 fl, .int .i64 st, .slice none 0 0, .int .i64 pad, .int .u32 0, .int .i64 (n31 l 0), .int .i64 0, .int .i64 0, .bool false, .int .i64 0, .slice none 0 0] 49) by rw [← hW]; exact hp_set _ _ _ _ _ _ HB2.out)
    have HX3 := Lib.hid (K3.heap HX2.out (by simp; omega))
    have HR3 := Lib.hid (HR2.out.keep K3 (by intro _ t h1 h2; simp at h2; subst h2; exact hgA h1))
    have HK3 := Lib.hid (HK2.out.trans K3)
    have hs3 := K3.size
    clear hW K3 HB2 HX2 HR2 HK2 f0 f1 f2 f3 f4 f5 f6 f7 f8 f9 f10 f11 fz fl1 fl2 x0 x1 x2 xz
    have hq := HR3.out.sub 4 4 (by omega) (by omega) (A' := (some ⟨b, o, none⟩)) (by intro b' o' h1 h2; omega)
    rw [List.take_of_length_le (by simp [HR3.out.len])] at hq
    refine (restF (⟨5, fl, st, none, 0, 0, pad, 0, (n31 l 0), 0, 0, false, 0, none, 0, 0⟩ : Fr) g _ _ _ (l.drop 4) _ HB3.out hq (by omega)).mono ?_
    rintro e w8 ⟨rfl, pA, pn, pc, hB8, O8, K8⟩
    have HB8 := Lib.hid hB8
    have HO8 := Lib.hid O8
    have HX8 := Lib.hid (K8.heap HX3.out (by simp; omega))
    have HK8 := Lib.hid (HK3.out.trans K8)
    have hs8 := K8.size
    clear hB8 O8 K8 HK3 HX3 HB3 hq
    obtain ⟨f0, f1, f2, f3, f4, f5, f6, f7, f8, f9, f10, f11, fz, fl1, fl2⟩ := cellsF HB8.out
    have x0 := cell_of HX8.out 0
    have x1 := cell_of HX8.out 1
    have x2 := cell_of HX8.out 2
    have xz := frozen_of HX8.out
    have hgx : ¬ g = w.heap.size := by omega
    go_wp2
    generalize hW : World.setCell _ _ _ = W
    have K9 : Kp [w.heap.size] w8 W := by rw [← hW]; exact ((((Kp.refl _ _).setCell (.inl (by simp)) _).setCell (.inl (by simp)) _).setCell (.inl (by simp)) _)
    have HX9 : W.heap[w.heap.size]? = some (.cells #[.bool false, .int .i64 0, .int .i64 0] 64) := by rw [← hW]; exact hp_set _ _ _ _ _ _ (hp_set _ _ _ _ _ _ (hp_set _ _ _ _ _ _ HX8.out))
    refine bodyPost_ret (v := .agg #[.bool false, .int .i64 0, .int .i64 0]) (by simp [results, Try.results177, go_sem, cell_of HX9]) rfl ⟨rfl, (⟨5, fl, st, pA, pn, pc, pad, 0, (n31 l 0), 0, 0, false, 0, none, 0, 0⟩ : Fr), K9.heap HB8.out (by simp; omega), ⟨rfl, (HO8.out.keep K9 (fun t ht h2 => by have := (HO8.out.base t ht).1; simp at h2; omega)).rd, Sd.nil _, fun t ht => by have := (HO8.out.base t ht).1; omega, by simp [ob]⟩, HK8.out.then K9 (by simp)⟩
  · have HB := Lib.hid hB
    have HR := Lib.hid hr
    have hg := lt_of_heap hB
    have hcap := hr.cap
    clear hB hr
    go_enter Try.func177, Try.ntmps177
    go_wp2_with fail
    generalize hW : World.alloc _ _ = w1
    obtain ⟨K1, hx⟩ := new_at hW
    have HX1 := Lib.hid hx
    have hsx := lt_of_heap hx
    have HR1 := Lib.hid (HR.out.keep K1 (by simp))
    have HB1 := Lib.hid (K1.heap HB.out (by simp))
    have HK1 := Lib.hid K1
    clear hW hx K1 HB HR
    replace HK1 := Lib.hid (HK1.out.nil (S := [g]))
    refine (U31_at (some ⟨b, o, none⟩) n c 0 l w1 hn HR1.out (by omega)).mono ?_
    rintro e w2 ⟨p2, q2, rfl, K2⟩
    have HX2 := Lib.hid (K2.heap HX1.out (by simp))
    have HR2 := Lib.hid (HR1.out.keep K2 (by simp))
    have HB2 := Lib.hid (K2.heap HB1.out (by simp))
    have HK2 := Lib.hid (HK1.out.trans K2.nil)
    have hs2 := K2.size
    clear HX1 HR1 HB1 HK1 K2
    obtain ⟨f0, f1, f2, f3, f4, f5, f6, f7, f8, f9, f10, f11, fz, fl1, fl2⟩ := cellsF HB2.out
    have x0 := cell_of HX2.out 0
    have x1 := cell_of HX2.out 1
    have x2 := cell_of HX2.out 2
    have xz := frozen_of HX2.out
    go_wp2_with fail
    generalize hW : World.setCell _ _ _ = w3
    have K3 : Kp [g] w2 w3 := by rw [← hW]; exact (Kp.refl _ _).setCell (.inl (by simp)) _
    have HB3 := Lib.hid (show w3.heap[g]? = some (.cells #[.int .i64 5, .int .i64 fl, .int .i64 st, .slice none 0 0, .int .i64 pad, .int .u32 0, .int .i64 (n31 l 0), .int .i64 0, .int .i64 0, .bool false, .int .i64 0, .slice none 0 0] 49) by rw [← hW]; exact hp_set _ _ _ _ _ _ HB2.out)
    have HX3 := Lib.hid (K3.heap HX2.out (by simp; omega))
    have HR3 := Lib.hid (HR2.out.keep K3 (by intro _ t h1 h2; simp at h2; subst h2; exact hgA h1))
    have HK3 := Lib.hid (HK2.out.trans K3)
    have hs3 := K3.size
    clear hW K3 HB2 HX2 HR2 HK2 f0 f1 f2 f3 f4 f5 f6 f7 f8 f9 f10 f11 fz fl1 fl2 x0 x1 x2 xz
    have hq := HR3.out.sub 4 n (by omega) (by omega) (A' := (some ⟨b, o + 4, none⟩)) (by intro b' o' h1 h2; injection h1 with h1; injection h1 with h1 h3 _; rw [h1, h3])
    rw [List.take_of_length_le (by simp [HR3.out.len])] at hq
    refine (restF (⟨5, fl, st, none, 0, 0, pad, 0, (n31 l 0), 0, 0, false, 0, none, 0, 0⟩ : Fr) g _ _ _ (l.drop 4) _ HB3.out hq (by omega)).mono ?_
    rintro e w8 ⟨rfl, pA, pn, pc, hB8, O8, K8⟩
    have HB8 := Lib.hid hB8
    have HO8 := Lib.hid O8
    have HX8 := Lib.hid (K8.heap HX3.out (by simp; omega))
    have HK8 := Lib.hid (HK3.out.trans K8)
    have hs8 := K8.size
    clear hB8 O8 K8 HK3 HX3 HB3 hq
    obtain ⟨f0, f1, f2, f3, f4, f5, f6, f7, f8, f9, f10, f11, fz, fl1, fl2⟩ := cellsF HB8.out
    have x0 := cell_of HX8.out 0
    have x1 := cell_of HX8.out 1
    have x2 := cell_of HX8.out 2
    have xz := frozen_of HX8.out
    have hgx : ¬ g = w.heap.size := by omega
    go_wp2
    generalize hW : World.setCell _ _ _ = W
    have K9 : Kp [w.heap.size] w8 W := by rw [← hW]; exact ((((Kp.refl _ _).setCell (.inl (by simp)) _).setCell (.inl (by simp)) _).setCell (.inl (by simp)) _)
    have HX9 : W.heap[w.heap.size]? = some (.cells #[.bool false, .int .i64 0, .int .i64 0] 64) := by rw [← hW]; exact hp_set _ _ _ _ _ _ (hp_set _ _ _ _ _ _ (hp_set _ _ _ _ _ _ HX8.out))
    refine bodyPost_ret (v := .agg #[.bool false, .int .i64 0, .int .i64 0]) (by simp [results, Try.results177, go_sem, cell_of HX9]) rfl ⟨rfl, (⟨5, fl, st, pA, pn, pc, pad, 0, (n31 l 0), 0, 0, false, 0, none, 0, 0⟩ : Fr), K9.heap HB8.out (by simp; omega), ⟨rfl, (HO8.out.keep K9 (fun t ht h2 => by have := (HO8.out.base t ht).1; simp at h2; omega)).rd, Sd.nil _, fun t ht => by have := (HO8.out.base t ht).1; omega, by simp [ob]⟩, HK8.out.then K9 (by simp)⟩

set_option maxHeartbeats 1000000 in
set_option maxRecDepth 100000 in
theorem get7 (fl st pad : Int) (g : Nat) (A : Option Addr) (n c : Nat) (l : List UInt8) (w : World) (hB : w.heap[g]? = some (.cells #[.int .i64 7, .int .i64 fl, .int .i64 st, .slice none 0 0, .int .i64 pad, .int .u32 0, .int .i64 0, .int .i64 0, .int .i64 0, .bool false, .int .i64 0, .slice none 0 0] 49)) (hr : Rd w A n c l) (hgA : g ∉ ob A) (hn : n ≤ 140737488355328) (h8 : 8 ≤ n) :
    Calls Try.prog 181 #[.pointer (some ⟨g, 0, none⟩), .slice A n c] w (GetR g (getS (f0S 7 fl st pad) l) w) := by
  obtain ⟨b, o, rfl, _, _⟩ := hr.addr (by omega)
  by_cases hc : c = 8
  · subst hc
    obtain rfl : n = 8 := by have := hr.cap; omega
    have HB := Lib.hid hB
    have HR := Lib.hid hr
    have hg := lt_of_heap hB
    have hcap := hr.cap
    clear hB hr
    go_enter Try.func181, Try.ntmps181
    go_wp2_with fail
    generalize hW : World.alloc _ _ = w1
    obtain ⟨K1, hx⟩ := new_at hW
    have HX1 := Lib.hid hx
    have hsx := lt_of_heap hx
    have HR1 := Lib.hid (HR.out.keep K1 (by simp))
    have HB1 := Lib.hid (K1.heap HB.out (by simp))
    have HK1 := Lib.hid K1
    clear hW hx K1 HB HR
    replace HK1 := Lib.hid (HK1.out.nil (S := [g]))
    refine (U31_at (some ⟨b, o, none⟩) 8 8 0 l w1 hn HR1.out (by omega)).mono ?_
    rintro e w2 ⟨p2, q2, rfl, K2⟩
    have HX2 := Lib.hid (K2.heap HX1.out (by simp))
    have HR2 := Lib.hid (HR1.out.keep K2 (by simp))
    have HB2 := Lib.hid (K2.heap HB1.out (by simp))
    have HK2 := Lib.hid (HK1.out.trans K2.nil)
    have hs2 := K2.size
    clear HX1 HR1 HB1 HK1 K2
    obtain ⟨f0, f1, f2, f3, f4, f5, f6, f7, f8, f9, f10, f11, fz, fl1, fl2⟩ := cellsF HB2.out
    have x0 := cell_of HX2.out 0
    have x1 := cell_of HX2.out 1
    have x2 := cell_of HX2.out 2
    have xz := frozen_of HX2.out
    go_wp2_with fail
    generalize hW : World.setCell _ _ _ = w3
    have K3 : Kp [g] w2 w3 := by rw [← hW]; exact (Kp.refl _ _).setCell (.inl (by simp)) _
    have HB3 := Lib.hid (show w3.heap[g]? = some (.cells #[.int .i64 7, .int .i64 fl, .int .i64 st, .slice none 0 0, .int .i64 pad, .int .u32 0, .int .i64 (n31 l 0), .int .i64 0, .int .i64 0, .bool false, .int .i64 0, .slice none 0 0] 49) by rw [← hW]; exact hp_set _ _ _ _ _ _ HB2.out)
    have HX3 := Lib.hid (K3.heap HX2.out (by simp; omega))
    have HR3 := Lib.hid (HR2.out.keep K3 (by intro _ t h1 h2; simp at h2; subst h2; exact hgA h1))
    have HK3 := Lib.hid (HK2.out.trans K3)
    have hs3 := K3.size
    clear hW K3 HB2 HX2 HR2 HK2 f0 f1 f2 f3 f4 f5 f6 f7 f8 f9 f10 f11 fz fl1 fl2 x0 x1 x2 xz
    refine (U32_at (some ⟨b, o, none⟩) 8 8 4 l w3 hn HR3.out (by omega)).mono ?_
    rintro e w4 ⟨p4, q4, rfl, K4⟩
    have HX4 := Lib.hid (K4.heap HX3.out (by simp))
    have HR4 := Lib.hid (HR3.out.keep K4 (by simp))
    have HB4 := Lib.hid (K4.heap HB3.out (by simp))
    have HK4 := Lib.hid (HK3.out.trans K4.nil)
    have hs4 := K4.size
    clear HX3 HR3 HB3 HK3 K4
    obtain ⟨f0, f1, f2, f3, f4, f5, f6, f7, f8, f9, f10, f11, fz, fl1, fl2⟩ := cellsF HB4.out
    have x0 := cell_of HX4.out 0
    have x1 := cell_of HX4.out 1
    have x2 := cell_of HX4.out 2
    have xz := frozen_of HX4.out
    go_wp2_with fail
    generalize hW : World.setCell _ _ _ = w5
    have K5 : Kp [g] w4 w5 := by rw [← hW]; exact (Kp.refl _ _).setCell (.inl (by simp)) _
    have HB5 := Lib.hid (show w5.heap[g]? = some (.cells #[.int .i64 7, .int .i64 fl, .int .i64 st, .slice none 0 0, .int .i64 pad, .int .u32 (n32 l 4), .int .i64 (n31 l 0), .int .i64 0, .int .i64 0, .bool false, .int .i64 0, .slice none 0 0] 49) by rw [← hW]; exact hp_set _ _ _ _ _ _ HB4.out)
    have HX5 := Lib.hid (K5.heap HX4.out (by simp; omega))
    have HR5 := Lib.hid (HR4.out.keep K5 (by intro _ t h1 h2; simp at h2; subst h2; exact hgA h1))
    have HK5 := Lib.hid (HK4.out.trans K5)
    have hs5 := K5.size
    clear hW K5 HB4 HX4 HR4 HK4 f0 f1 f2 f3 f4 f5 f6 f7 f8 f9 f10 f11 fz fl1 fl2 x0 x1 x2 xz
    have hq := HR5.out.sub 8 8 (by omega) (by omega) (A' := (some ⟨b, o, none⟩)) (by intro b' o' h1 h2; omega)
    rw [List.take_of_length_le (by simp [HR5.out.len])] at hq
    refine (restF (⟨7, fl, st, none, 0, 0, pad, (n32 l 4), (n31 l 0), 0, 0, false, 0, none, 0, 0⟩ : Fr) g _ _ _ (l.drop 8) _ HB5.out hq (by omega)).mono ?_
    rintro e w8 ⟨rfl, pA, pn, pc, hB8, O8, K8⟩
    have HB8 := Lib.hid hB8
    have HO8 := Lib.hid O8
    have HX8 := Lib.hid (K8.heap HX5.out (by simp; omega))
    have HK8 := Lib.hid (HK5.out.trans K8)
    have hs8 := K8.size
    clear hB8 O8 K8 HK5 HX5 HB5 hq
    obtain ⟨f0, f1, f2, f3, f4, f5, f6, f7, f8, f9, f10, f11, fz, fl1, fl2⟩ := cellsF HB8.out
    have x0 := cell_of HX8.out 0
    have x1 := cell_of HX8.out 1
    have x2 := cell_of HX8.out 2
    have xz := frozen_of HX8.out
    have hgx : ¬ g = w.heap.size := by omega
    go_wp2
    generalize hW : World.setCell _ _ _ = W
    have K9 : Kp [w.heap.size] w8 W := by rw [← hW]; exact ((((Kp.refl _ _).setCell (.inl (by simp)) _).setCell (.inl (by simp)) _).setCell (.inl (by simp)) _)
    have HX9 : W.heap[w.heap.size]? = some (.cells #[.bool false, .int .i64 0, .int .i64 0] 64) := by rw [← hW]; exact hp_set _ _ _ _ _ _ (hp_set _ _ _ _ _ _ (hp_set _ _ _ _ _ _ HX8.out))
    refine bodyPost_ret (v := .agg #[.bool false, .int .i64 0, .int .i64 0]) (by simp [results, Try.results181, go_sem, cell_of HX9]) rfl ⟨rfl, (⟨7, fl, st, pA, pn, pc, pad, (n32 l 4), (n31 l 0), 0, 0, false, 0, none, 0, 0⟩ : Fr), K9.heap HB8.out (by simp; omega), ⟨rfl, (HO8.out.keep K9 (fun t ht h2 => by have := (HO8.out.base t ht).1; simp at h2; omega)).rd, Sd.nil _, fun t ht => by have := (HO8.out.base t ht).1; omega, by simp [ob]⟩, HK8.out.then K9 (by simp)⟩
  · have HB := Lib.hid hB
    have HR := Lib.hid hr
    have hg := lt_of_heap hB
    have hcap := hr.cap
    clear hB hr
    go_enter Try.func181, Try.ntmps181
    go_wp2_with fail
    generalize hW : World.alloc _ _ = w1
    obtain ⟨K1, hx⟩ := new_at hW
    have HX1 := Lib.hid hx
    have hsx := lt_of_heap hx
    have HR1 := Lib.hid (HR.out.keep K1 (by simp))
    have HB1 := Lib.hid (K1.heap HB.out (by simp))
    have HK1 := Lib.hid K1
    clear hW hx K1 HB HR
    replace HK1 := Lib.hid (HK1.out.nil (S := [g]))
    refine (U31_at (some ⟨b, o, none⟩) n c 0 l w1 hn HR1.out (by omega)).mono ?_
    rintro e w2 ⟨p2, q2, rfl, K2⟩
    have HX2 := Lib.hid (K2.heap HX1.out (by simp))
    have HR2 := Lib.hid (HR1.out.keep K2 (by simp))
    have HB2 := Lib.hid (K2.heap HB1.out (by simp))
    have HK2 := Lib.hid (HK1.out.trans K2.nil)
    have hs2 := K2.size
    clear HX1 HR1 HB1 HK1 K2
    obtain ⟨f0, f1, f2, f3, f4, f5, f6, f7, f8, f9, f10, f11, fz, fl1, fl2⟩ := cellsF HB2.out
    have x0 := cell_of HX2.out 0
    have x1 := cell_of HX2.out 1
    have x2 := cell_of HX2.out 2
    have xz := frozen_of HX2.out
    go_wp2_with fail
    generalize hW : World.setCell _ _ _ = w3
    have K3 : Kp [g] w2 w3 := by rw [← hW]; exact (Kp.refl _ _).setCell (.inl (by simp)) _
    have HB3 := Lib.hid (show w3.heap[g]? = some (.cells #[.int .i64 7, .int .i64 fl, .int .i64 st, .slice none 0 0, .int .i64 pad, .int .u32 0, .int .i64 (n31 l 0), .int .i64 0, .int .i64 0, .bool false, .int .i64 0, .slice none 0 0] 49) by rw [← hW]; exact hp_set _ _ _ _ _ _ HB2.out)
    have HX3 := Lib.hid (K3.heap HX2.out (by simp; omega))
    have HR3 := Lib.hid (HR2.out.keep K3 (by intro _ t h1 h2; simp at h2; subst h2; exact hgA h1))
    have HK3 := Lib.hid (HK2.out.trans K3)
    have hs3 := K3.size
    clear hW K3 HB2 HX2 HR2 HK2 f0 f1 f2 f3 f4 f5 f6 f7 f8 f9 f10 f11 fz fl1 fl2 x0 x1 x2 xz
    refine (U32_at (some ⟨b, o, none⟩) n c 4 l w3 hn HR3.out (by omega)).mono ?_
    rintro e w4 ⟨p4, q4, rfl, K4⟩
    have HX4 := Lib.hid (K4.heap HX3.out (by simp))
    have HR4 := Lib.hid (HR3.out.keep K4 (by simp))
    have HB4 := Lib.hid (K4.heap HB3.out (by simp))
    have HK4 := Lib.hid (HK3.out.trans K4.nil)
    have hs4 := K4.size
    clear HX3 HR3 HB3 HK3 K4
    obtain ⟨f0, f1, f2, f3, f4, f5, f6, f7, f8, f9, f10, f11, fz, fl1, fl2⟩ := cellsF HB4.out
    have x0 := cell_of HX4.out 0
    have x1 := cell_of HX4.out 1
    have x2 := cell_of HX4.out 2
    have xz := frozen_of HX4.out
    go_wp2_with fail
    generalize hW : World.setCell _ _ _ = w5
    have K5 : Kp [g] w4 w5 := by rw [← hW]; exact (Kp.refl _ _).setCell (.inl (by simp)) _
    have HB5 := Lib.hid (show w5.heap[g]? = some (.cells #[.int .i64 7, .int .i64 fl, .int .i64 st, .slice none 0 0, .int .i64 pad, .int .u32 (n32 l 4), .int .i64 (n31 l 0), .int .i64 0, .int .i64 0, .bool false, .int .i64 0, .slice none 0 0] 49) by rw [← hW]; exact hp_set _ _ _ _ _ _ HB4.out)
    have HX5 := Lib.hid (K5.heap HX4.out (by simp; omega))
    have HR5 := Lib.hid (HR4.out.keep K5 (by intro _ t h1 h2; simp at h2; subst h2; exact hgA h1))
    have HK5 := Lib.hid (HK4.out.trans K5)
    have hs5 := K5.size
    clear hW K5 HB4 HX4 HR4 HK4 f0 f1 f2 f3 f4 f5 f6 f7 f8 f9 f10 f11 fz fl1 fl2 x0 x1 x2 xz
    have hq := HR5.out.sub 8 n (by omega) (by omega) (A' := (some ⟨b, o + 8, none⟩)) (by intro b' o' h1 h2; injection h1 with h1; injection h1 with h1 h3 _; rw [h1, h3])
    rw [List.take_of_length_le (by simp [HR5.out.len])] at hq
    refine (restF (⟨7, fl, st, none, 0, 0, pad, (n32 l 4), (n31 l 0), 0, 0, false, 0, none, 0, 0⟩ : Fr) g _ _ _ (l.drop 8) _ HB5.out hq (by omega)).mono ?_
    rintro e w8 ⟨rfl, pA, pn, pc, hB8, O8, K8⟩
    have HB8 := Lib.hid hB8
    have HO8 := Lib.hid O8
    have HX8 := Lib.hid (K8.heap HX5.out (by simp; omega))
    have HK8 := Lib.hid (HK5.out.trans K8)
    have hs8 := K8.size
    clear hB8 O8 K8 HK5 HX5 HB5 hq
    obtain ⟨f0, f1, f2, f3, f4, f5, f6, f7, f8, f9, f10, f11, fz, fl1, fl2⟩ := cellsF HB8.out
    have x0 := cell_of HX8.out 0
    have x1 := cell_of HX8.out 1
    have x2 := cell_of HX8.out 2
    have xz := frozen_of HX8.out
    have hgx : ¬ g = w.heap.size := by omega
    go_wp2
    generalize hW : World.setCell _ _ _ = W
    have K9 : Kp [w.heap.size] w8 W := by rw [← hW]; exact ((((Kp.refl _ _).setCell (.inl (by simp)) _).setCell (.inl (by simp)) _).setCell (.inl (by simp)) _)
    have HX9 : W.heap[w.heap.size]? = some (.cells #[.bool false, .int .i64 0, .int .i64 0] 64) := by rw [← hW]; exact hp_set _ _ _ _ _ _ (hp_set _ _ _ _ _ _ (hp_set _ _ _ _ _ _ HX8.out))
    refine bodyPost_ret (v := .agg #[.bool false, .int .i64 0, .int .i64 0]) (by simp [results, Try.results181, go_sem, cell_of HX9]) rfl ⟨rfl, (⟨7, fl, st, pA, pn, pc, pad, (n32 l 4), (n31 l 0), 0, 0, false, 0, none, 0, 0⟩ : Fr), K9.heap HB8.out (by simp; omega), ⟨rfl, (HO8.out.keep K9 (fun t ht h2 => by have := (HO8.out.base t ht).1; simp at h2; omega)).rd, Sd.nil _, fun t ht => by have := (HO8.out.base t ht).1; omega, by simp [ob]⟩, HK8.out.then K9 (by simp)⟩

end Go.Proofs.Ytkmcakneceagpaa
