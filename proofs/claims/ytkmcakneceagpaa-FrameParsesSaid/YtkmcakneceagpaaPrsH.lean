/- frame.kind: what HEADERS reads. -/
import Derived.Test.YtkmcakneceagpaaPrsG
set_option linter.unusedVariables false
set_option linter.unusedSimpArgs false
set_option linter.unusedSimpArgs false
namespace Go.Proofs.Ytkmcakneceagpaa
open Go.RowKit

set_option maxHeartbeats 1000000 in
set_option maxRecDepth 100000 in
theorem get1f (fl st pad : Int) (g : Nat) (A : Option Addr) (n c : Nat) (l : List UInt8) (w : World) (hB : w.heap[g]? = some (.cells #[.int .i64 1, .int .i64 fl, .int .i64 st, .slice none 0 0, .int .i64 pad, .int .u32 0, .int .i64 0, .int .i64 0, .int .i64 0, .bool false, .int .i64 0, .slice none 0 0] 49)) (hr : Rd w A n c l) (hgA : g ∉ ob A) (hn : n ≤ 140737488355328) (hf0 : 0 ≤ fl) (hf1 : fl ≤ 255) (hp : hasB fl 32 = false) :
    Calls Try.prog 165 #[.pointer (some ⟨g, 0, none⟩), .slice A n c] w (GetR g (getS (f0S 1 fl st pad) l) w) := by
  have e0 : getS (f0S 1 fl st pad) l = { f0S 1 fl st pad with pl := l } := by simp [getS, f0S, hp]
  rw [e0]
  have HPR := Lib.hid (show prioB 1 fl = false by simp [prioB, hp])
  clear e0 hp
  have HB := Lib.hid hB
  have HR := Lib.hid hr
  have hg := lt_of_heap hB
  have hcap := hr.cap
  clear hB hr
  go_enter Try.func165, Try.ntmps165
  obtain ⟨f0, f1, f2, f3, f4, f5, f6, f7, f8, f9, f10, f11, fz, fl1, fl2⟩ := cellsF HB.out
  go_wp2_with fail
  generalize hW : World.alloc _ _ = w1
  obtain ⟨K1, hx⟩ := new_at hW
  have HX1 := Lib.hid hx
  have hsx := lt_of_heap hx
  have HR1 := Lib.hid (HR.out.keep K1 (by simp))
  have HB1 := Lib.hid (K1.heap HB.out (by simp))
  have HK1 := Lib.hid K1
  clear hW hx K1 HB HR f0 f1 f2 f3 f4 f5 f6 f7 f8 f9 f10 f11 fz fl1 fl2
  refine (weightedF (⟨1, fl, st, none, 0, 0, pad, 0, 0, 0, 0, false, 0, none, 0, 0⟩ : Fr) _ hf0 hf1).mono ?_
  rintro e w2 ⟨rfl, K2⟩
  rw [HPR.out]
  have HX2 := Lib.hid (K2.heap HX1.out (by simp))
  have HR2 := Lib.hid (HR1.out.keep K2 (by simp))
  have HB2 := Lib.hid (K2.heap HB1.out (by simp))
  have HK2 := Lib.hid ((HK1.out.trans K2).nil (S := [g]))
  have hs2 := K2.size
  clear HX1 HR1 HB1 HK1 K2
  obtain ⟨f0, f1, f2, f3, f4, f5, f6, f7, f8, f9, f10, f11, fz, fl1, fl2⟩ := cellsF HB2.out
  have x0 := cell_of HX2.out 0
  have x1 := cell_of HX2.out 1
  have x2 := cell_of HX2.out 2
  have xz := frozen_of HX2.out
  go_wp2_with fail
  have hq := HR2.out
  clear f0 f1 f2 f3 f4 f5 f6 f7 f8 f9 f10 f11 fz fl1 fl2 x0 x1 x2 xz
  refine (restF (⟨1, fl, st, none, 0, 0, pad, 0, 0, 0, 0, false, 0, none, 0, 0⟩ : Fr) g _ _ _ (l) _ HB2.out hq (by omega)).mono ?_
  rintro e w8 ⟨rfl, pA, pn, pc, hB8, O8, K8⟩
  have HB8 := Lib.hid hB8
  have HO8 := Lib.hid O8
  have HX8 := Lib.hid (K8.heap HX2.out (by simp; omega))
  have HK8 := Lib.hid (HK2.out.trans K8)
  have hs8 := K8.size
  clear hB8 O8 K8 HK2 HX2 HB2 hq
  obtain ⟨f0, f1, f2, f3, f4, f5, f6, f7, f8, f9, f10, f11, fz, fl1, fl2⟩ := cellsF HB8.out
  have x0 := cell_of HX8.out 0
  have x1 := cell_of HX8.out 1
  have x2 := cell_of HX8.out 2
  have xz := frozen_of HX8.out
  have hgx : ¬ g = w.heap.size := by omega
  go_wp2
  generalize hW : World.setCell _ _ _ = W
  have K9 : Kp [w.heap.size] w8 W := by rw [← hW]; exact ((((Kp.refl _ _).setCell (.inl (by simp)) _).setCell (.inl (by simp)) _).setCell (.inl (by simp)) _)
  have HX9 : W.heap[w.heap.size]? = some (.cells #[.bool false, .int .i64 0, .int .i64 0] 64) := by rw [← hW]; exact hp_set _ _ _ _ _ _ (hp_set _ _ _ _ _ _ (hp_set _ _ _ _ _ _ HX8.out))
  refine bodyPost_ret (v := .agg #[.bool false, .int .i64 0, .int .i64 0]) (by simp [results, Try.results165, go_sem, cell_of HX9]) rfl ⟨rfl, (⟨1, fl, st, pA, pn, pc, pad, 0, 0, 0, 0, false, 0, none, 0, 0⟩ : Fr), K9.heap HB8.out (by simp; omega), ⟨rfl, (HO8.out.keep K9 (fun t ht h2 => by have := (HO8.out.base t ht).1; simp at h2; omega)).rd, Sd.nil _, fun t ht => by have := (HO8.out.base t ht).1; omega, by simp [ob]⟩, HK8.out.then K9 (by simp)⟩

set_option maxHeartbeats 1000000 in
set_option maxRecDepth 100000 in
theorem get1t (fl st pad : Int) (g : Nat) (A : Option Addr) (n c : Nat) (l : List UInt8) (w : World) (hB : w.heap[g]? = some (.cells #[.int .i64 1, .int .i64 fl, .int .i64 st, .slice none 0 0, .int .i64 pad, .int .u32 0, .int .i64 0, .int .i64 0, .int .i64 0, .bool false, .int .i64 0, .slice none 0 0] 49)) (hr : Rd w A n c l) (hgA : g ∉ ob A) (hn : n ≤ 140737488355328) (hf0 : 0 ≤ fl) (hf1 : fl ≤ 255) (hp : hasB fl 32 = true) (h5 : 5 ≤ n) :
    Calls Try.prog 165 #[.pointer (some ⟨g, 0, none⟩), .slice A n c] w (GetR g (getS (f0S 1 fl st pad) l) w) := by
  have e0 : getS (f0S 1 fl st pad) l = { prS (f0S 1 fl st pad) l with pl := l.drop 5 } := by simp [getS, f0S, hp]
  rw [e0]
  have HPR := Lib.hid (show prioB 1 fl = true by simp [prioB, hp])
  clear e0 hp
  have HB := Lib.hid hB
  have HR := Lib.hid hr
  have hg := lt_of_heap hB
  have hcap := hr.cap
  clear hB hr
  go_enter Try.func165, Try.ntmps165
  obtain ⟨f0, f1, f2, f3, f4, f5, f6, f7, f8, f9, f10, f11, fz, fl1, fl2⟩ := cellsF HB.out
  go_wp2_with fail
  generalize hW : World.alloc _ _ = w1
  obtain ⟨K1, hx⟩ := new_at hW
  have HX1 := Lib.hid hx
  have hsx := lt_of_heap hx
  have HR1 := Lib.hid (HR.out.keep K1 (by simp))
  have HB1 := Lib.hid (K1.heap HB.out (by simp))
  have HK1 := Lib.hid K1
  clear hW hx K1 HB HR f0 f1 f2 f3 f4 f5 f6 f7 f8 f9 f10 f11 fz fl1 fl2
  refine (weightedF (⟨1, fl, st, none, 0, 0, pad, 0, 0, 0, 0, false, 0, none, 0, 0⟩ : Fr) _ hf0 hf1).mono ?_
  rintro e w2 ⟨rfl, K2⟩
  rw [HPR.out]
  have HX2 := Lib.hid (K2.heap HX1.out (by simp))
  have HR2 := Lib.hid (HR1.out.keep K2 (by simp))
  have HB2 := Lib.hid (K2.heap HB1.out (by simp))
  have HK2 := Lib.hid ((HK1.out.trans K2).nil (S := [g]))
  have hs2 := K2.size
  clear HX1 HR1 HB1 HK1 K2
  obtain ⟨f0, f1, f2, f3, f4, f5, f6, f7, f8, f9, f10, f11, fz, fl1, fl2⟩ := cellsF HB2.out
  have x0 := cell_of HX2.out 0
  have x1 := cell_of HX2.out 1
  have x2 := cell_of HX2.out 2
  have xz := frozen_of HX2.out
  go_wp2_with fail
  clear f0 f1 f2 f3 f4 f5 f6 f7 f8 f9 f10 f11 fz fl1 fl2 x0 x1 x2 xz
  refine (priorF (⟨1, fl, st, none, 0, 0, pad, 0, 0, 0, 0, false, 0, none, 0, 0⟩ : Fr) g A n c l w2 HB2.out HR2.out hgA h5 hn).mono ?_
  rintro e w3 ⟨A3, rfl, hq, hg3, hB3, K3⟩
  have HX3 := Lib.hid (K3.heap HX2.out (by simp; omega))
  have HB3 := Lib.hid hB3
  have HK3 := Lib.hid (HK2.out.trans K3)
  have hs3 := K3.size
  have hq3 := Lib.hid hq
  clear HX2 HR2 HB2 HK2 K3 hB3 hq
  obtain ⟨f0, f1, f2, f3, f4, f5, f6, f7, f8, f9, f10, f11, fz, fl1, fl2⟩ := cellsF HB3.out
  have x0 := cell_of HX3.out 0
  have x1 := cell_of HX3.out 1
  have x2 := cell_of HX3.out 2
  have xz := frozen_of HX3.out
  go_wp2_with fail
  have hq := hq3.out
  clear hq3 f0 f1 f2 f3 f4 f5 f6 f7 f8 f9 f10 f11 fz fl1 fl2 x0 x1 x2 xz
  refine (restF (⟨1, fl, st, none, 0, 0, pad, 0, 0, 0, (n31 l 0), (decide (128 ≤ (l.getD 0 0).toNat)), ((l.getD 4 0).toNat + 1), none, 0, 0⟩ : Fr) g A3 _ _ (l.drop 5) _ HB3.out hq (by omega)).mono ?_
  rintro e w8 ⟨rfl, pA, pn, pc, hB8, O8, K8⟩
  have HB8 := Lib.hid hB8
  have HO8 := Lib.hid O8
  have HX8 := Lib.hid (K8.heap HX3.out (by simp; omega))
  have HK8 := Lib.hid (HK3.out.trans K8)
  have hs8 := K8.size
  clear hB8 O8 K8 HK3 HX3 HB3 hq
  obtain ⟨f0, f1, f2, f3, f4, f5, f6, f7, f8, f9, f10, f11, fz, fl1, fl2⟩ := cellsF HB8.out
  have x0 := cell_of HX8.out 0
  have x1 := cell_of HX8.out 1
  have x2 := cell_of HX8.out 2
  have xz := frozen_of HX8.out
  have hgx : ¬ g = w.heap.size := by omega
  go_wp2
  generalize hW : World.setCell _ _ _ = W
  have K9 : Kp [w.heap.size] w8 W := by rw [← hW]; exact ((((Kp.refl _ _).setCell (.inl (by simp)) _).setCell (.inl (by simp)) _).setCell (.inl (by simp)) _)
  have HX9 : W.heap[w.heap.size]? = some (.cells #[.bool false, .int .i64 0, .int .i64 0] 64) := by rw [← hW]; exact hp_set _ _ _ _ _ _ (hp_set _ _ _ _ _ _ (hp_set _ _ _ _ _ _ HX8.out))
  refine bodyPost_ret (v := .agg #[.bool false, .int .i64 0, .int .i64 0]) (by simp [results, Try.results165, go_sem, cell_of HX9]) rfl ⟨rfl, (⟨1, fl, st, pA, pn, pc, pad, 0, 0, 0, (n31 l 0), (decide (128 ≤ (l.getD 0 0).toNat)), ((l.getD 4 0).toNat + 1), none, 0, 0⟩ : Fr), K9.heap HB8.out (by simp; omega), ⟨rfl, (HO8.out.keep K9 (fun t ht h2 => by have := (HO8.out.base t ht).1; simp at h2; omega)).rd, Sd.nil _, fun t ht => by have := (HO8.out.base t ht).1; omega, by simp [ob]⟩, HK8.out.then K9 (by simp)⟩

end Go.Proofs.Ytkmcakneceagpaa
