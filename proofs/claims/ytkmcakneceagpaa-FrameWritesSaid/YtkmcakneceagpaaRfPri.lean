/- The reference of layer 7: a priority's bytes. -/
import Derived.Test.YtkmcakneceagpaaRfK
import Derived.Test.YtkmcakneceagpaaFrmWrE
set_option linter.unusedVariables false
set_option linter.unusedSimpArgs false
set_option linter.unusedSimpArgs false
namespace Go.Proofs.Ytkmcakneceagpaa
open Go.RowKit
set_option maxHeartbeats 2000000 in
set_option maxRecDepth 100000 in
theorem rprif (ty fl st : Int) (pA : Option Addr) (pn pc : Nat) (pad code last inc : Int) (dn : Nat) (wt : Int) (sA : Option Addr) (sn sc : Nat) (w0 : World) (hd : Hid (dn < 2147483648)) (hw0 : 1 ≤ wt) (hw1 : wt ≤ 256) (vn : Nat) (HV : Hid (vn = dn + 0)) :
    Calls Try.prog 189 #[.agg #[.int .i64 ty, .int .i64 fl, .int .i64 st, .slice pA pn pc, .int .i64 pad, .int .u32 code, .int .i64 last, .int .i64 inc, .int .i64 (dn : Int), .bool false, .int .i64 wt, .slice sA sn sc]] w0 (OwR 5 (bytesOf vn 4 ++ [byteOf (wt - 1)]) w0) := by
  have HWT := Lib.hid (show 0 ≤ wt - 1 ∧ wt - 1 ≤ 255 by omega)
  have HWS := Lib.hid (show IntKind.i64.wrap (wt - 1) = wt - 1 ∧ IntKind.u8.wrap (wt - 1) = wt - 1 from ⟨IntWalk.i64_in _ (by omega), by rw [IntKind.wrap_u8]; omega⟩)
  have HDN := Lib.hid (show dn < 4294967296 by have := hd.out; omega)
  have HVL := Lib.hid (show vn < 4294967296 by have := hd.out; have := HV.out; omega)
  have hw32 : IntKind.u32.wrap (dn : Int) = (dn : Int) := wraps_u32 _ (by omega) (by have := hd.out; rw [show (2 : Int) ^ 32 = 4294967296 by decide]; omega)
  obtain rfl : dn = vn := HV.out.symm
  go_enter Try.func189, Try.ntmps189
  go_wp2
  have K0 : Kp [] w0 (w0.alloc (.cells #[.int .i64 ty, .int .i64 fl, .int .i64 st, .slice pA pn pc, .int .i64 pad, .int .u32 code, .int .i64 last, .int .i64 inc, .int .i64 (dn : Int), .bool false, .int .i64 wt, .slice sA sn sc] 49)) := (Kp.refl _ _).alloc _
  have HB := Lib.hid (hp_new w0 (.cells #[.int .i64 ty, .int .i64 fl, .int .i64 st, .slice pA pn pc, .int .i64 pad, .int .u32 code, .int .i64 last, .int .i64 inc, .int .i64 (dn : Int), .bool false, .int .i64 wt, .slice sA sn sc] 49) _ rfl)
  generalize hW : w0.alloc (.cells #[.int .i64 ty, .int .i64 fl, .int .i64 st, .slice pA pn pc, .int .i64 pad, .int .u32 code, .int .i64 last, .int .i64 inc, .int .i64 (dn : Int), .bool false, .int .i64 wt, .slice sA sn sc] 49) = w1 at *
  clear hW
  have hs1 := K0.size
  have HK0 := Lib.hid K0
  clear K0
  refine wp_region_st (by kernel_rfl) [fun _ v _ => v = (.int .u32 dn),
      fun p v w => ∃ x : Option Addr × Nat × Nat, v = .slice x.1 x.2.1 x.2.2 ∧ 1 ≤ p ∧ (p ≤ 1 → Ow w w1.heap.size 5 1 x.1 x.2.1 x.2.2 ((bytesOf dn 4).map u8) ∧ x.2.1 = 4),
      fun _ v _ => v = (.pointer (some ⟨w0.heap.size, 10, none⟩)),
      fun _ v _ => v = (.int .i64 wt),
      fun _ v _ => v = (.int .i64 (wt - 1)),
      fun _ v _ => v = (.int .u8 (wt - 1)),
      fun p v w => ∃ x : Option Addr × Nat × Nat, v = .slice x.1 x.2.1 x.2.2 ∧ 0 ≤ p ∧ (p ≤ 1 → Rd w x.1 x.2.1 x.2.2 [byteOf (wt - 1)] ∧ x.2.1 = 1),
      fun p v w => ∃ x : Option Addr × Nat × Nat, v = .slice x.1 x.2.1 x.2.2 ∧ 2 ≤ p ∧ (p ≤ 2 → Ow w w1.heap.size 5 1 x.1 x.2.1 x.2.2 ((bytesOf dn 4 ++ [byteOf (wt - 1)]).map u8) ∧ x.2.1 = 5),
      fun p v w => ∃ x : Option Addr × Nat × Nat, v = .slice x.1 x.2.1 x.2.2 ∧ 2 ≤ p ∧ (p ≤ 2 → Ow w w1.heap.size 5 1 x.1 x.2.1 x.2.2 ((bytesOf dn 4 ++ [byteOf (wt - 1)]).map u8) ∧ x.2.1 = 5)] (fun _ w => Kp [] w1 w) (fun p w w' => p = 0 → Kp [] w w') (fun w w' => Kp [] w w') [1, 7] [6] (by kernel_rfl) (by kernel_rfl) (by kernel_rfl) (by decide) (by kernel_rfl) ⟨StabAt2.const _, StabAt2.span (f := fun x : Option Addr × Nat × Nat => .slice x.1 x.2.1 x.2.2) (by intro p x w w' h1 h2; omega) (by intro x w w' hR hG; exact ⟨hG.1.keep hR (by simp), hG.2⟩), StabAt2.const _, StabAt2.const _, StabAt2.const _, StabAt2.const _, StabAt2.span (f := fun x : Option Addr × Nat × Nat => .slice x.1 x.2.1 x.2.2) (by intro p x w w' h1 h2 h3 hR hG; exact ⟨hG.1.keep (hR (by omega)) (by simp), hG.2⟩) (by intro x w w' hR hG; exact ⟨hG.1.keep hR (by simp), hG.2⟩), StabAt2.span (f := fun x : Option Addr × Nat × Nat => .slice x.1 x.2.1 x.2.2) (by intro p x w w' h1 h2; omega) (by intro x w w' hR hG; exact ⟨hG.1.keep hR (by simp), hG.2⟩), StabAt2.span (f := fun x : Option Addr × Nat × Nat => .slice x.1 x.2.1 x.2.2) (by intro p x w w' h1 h2; omega) (by intro x w w' hR hG; exact ⟨hG.1.keep hR (by simp), hG.2⟩), trivial⟩ ((Kp.refl _ _).drew) ⟨?_, ?_, ?_, ?_, ?_, ?_, ?_, ?_, ?_, trivial⟩ (by kernel_rfl) ?_
  · intro q9 a w E hC K hK
    have h3 : a.tmps[3]? = some (.int .u32 dn) := (E.out 3 (by kernel_rfl)).trans rfl
    refine want_none rfl ?_
    go_simp
    exact hK _ rfl
  · intro a w E hC K hK
    obtain ⟨_, h11, rfl⟩ := E.pred 0 _ 11 rfl rfl (by kernel_rfl)
    refine want_none rfl ?_
    go_simp
    refine (refPut32_any dn w HDN.out).mono ?_
    rintro e w2 ⟨A2, n2, c2, rfl, O2, K2⟩
    have e4 := O2.len
    simp [bytesOf_length] at e4
    subst e4
    go_simp
    exact hK _ _ ⟨⟨A2, 4, c2⟩, rfl, by omega, fun _ => ⟨O2.mono hC.size, rfl⟩⟩ (hC.trans K2) (fun _ => K2)
  · intro q9 a w E hC K hK
    have h1 : a.tmps[1]? = some (.pointer (some ⟨w0.heap.size, 0, none⟩)) := (E.out 1 (by kernel_rfl)).trans rfl
    refine want_none rfl ?_
    go_simp
    exact hK _ rfl
  · intro q9 a w E hC K hK
    obtain ⟨_, h13, rfl⟩ := E.pred 2 _ 13 rfl rfl (by kernel_rfl)
    refine want_none rfl ?_
    have hb := hC.heap HB.out (by simp)
    have g := cell_of hb 10
    go_simp
    exact hK _ rfl
  · intro q9 a w E hC K hK
    obtain ⟨_, h14, rfl⟩ := E.pred 3 _ 14 rfl rfl (by kernel_rfl)
    refine want_none rfl ?_
    have e1 := HWS.out.1
    go_simp
    exact hK _ rfl
  · intro q9 a w E hC K hK
    obtain ⟨_, h15, rfl⟩ := E.pred 4 _ 15 rfl rfl (by kernel_rfl)
    refine want_none rfl ?_
    have e1 := HWS.out.2
    go_simp
    exact hK _ rfl
  · intro q9 a w E hC K hK
    obtain ⟨_, h16, rfl⟩ := E.pred 5 _ 16 rfl rfl (by kernel_rfl)
    refine want_none rfl ?_
    go_simp
    exact hK _ _ ⟨⟨some ⟨w.heap.size, 0, none⟩, 1, 1⟩, rfl, by omega, fun _ => ⟨Rd.block (hp_new w _ _ rfl) 0 1 1 [byteOf (wt - 1)] rfl (Nat.le_refl _) (by simp; exact u8_of HWT.out.1 HWT.out.2), rfl⟩⟩ (hC.alloc _) ((Kp.refl _ _).alloc _)
  · intro a w E hC K hK
    obtain ⟨v1, h12, V1⟩ := E.pred 1 _ 12 rfl rfl (by kernel_rfl)
    replace V1 : (fun p v w => ∃ x : Option Addr × Nat × Nat, v = .slice x.1 x.2.1 x.2.2 ∧ 1 ≤ p ∧ (p ≤ 1 → Ow w w1.heap.size 5 1 x.1 x.2.1 x.2.2 ((bytesOf dn 4).map u8) ∧ x.2.1 = 4)) 1 v1 w := V1
    obtain ⟨v6, h17, V6⟩ := E.pred 6 _ 17 rfl rfl (by kernel_rfl)
    replace V6 : (fun p v w => ∃ x : Option Addr × Nat × Nat, v = .slice x.1 x.2.1 x.2.2 ∧ 0 ≤ p ∧ (p ≤ 1 → Rd w x.1 x.2.1 x.2.2 [byteOf (wt - 1)] ∧ x.2.1 = 1)) 1 v6 w := V6
    refine want_none rfl ?_
    obtain ⟨⟨A2, n2, c2⟩, rfl, _, G2⟩ := V1
    obtain ⟨O2, rfl⟩ := G2 (by omega)
    obtain ⟨⟨A8, n8, c8⟩, rfl, _, G8⟩ := V6
    obtain ⟨R8, rfl⟩ := G8 (by omega)
    refine op_appO (.tmp 12) (.tmp 17) 22 5 rfl Try.underlying22 Try.info5 w1.heap.size A2 4 c2 _ (eval_tmp h12) O2 A8 1 c8 _ (eval_tmp h17) R8 (by omega) hC.size ?_
    intro A' c' w2 O K2 _
    exact hK _ _ ⟨⟨A', _, c'⟩, rfl, by omega, fun _ => ⟨O, rfl⟩⟩ (hC.then K2 (fun t ht => .inr (O2.base t ht).1)) (fun h => by omega)
  · intro q9 a w E hC K hK
    obtain ⟨v7, h18, V7⟩ := E.pred 7 _ 18 rfl rfl (by kernel_rfl)
    replace V7 : (fun p v w => ∃ x : Option Addr × Nat × Nat, v = .slice x.1 x.2.1 x.2.2 ∧ 2 ≤ p ∧ (p ≤ 2 → Ow w w1.heap.size 5 1 x.1 x.2.1 x.2.2 ((bytesOf dn 4 ++ [byteOf (wt - 1)]).map u8) ∧ x.2.1 = 5)) q9 v7 w := V7
    refine want_none rfl ?_
    go_simp
    exact hK _ V7
  intro vs w13 hC hV
  have h9 := hV 8 _ rfl (by simp)
  replace h9 : ∃ x : Option Addr × Nat × Nat, vs 8 = .slice x.1 x.2.1 x.2.2 ∧ 2 ≤ 2 ∧ (2 ≤ 2 → Ow w13 w1.heap.size 5 1 x.1 x.2.1 x.2.2 ((bytesOf dn 4 ++ [byteOf (wt - 1)]).map u8) ∧ x.2.1 = 5) := h9
  obtain ⟨⟨A9, n9, c9⟩, e9, _, G9⟩ := h9
  have HO9 := Lib.hid (G9 (Nat.le_refl _)).1
  have HK9 := Lib.hid (HK0.out.trans hC)
  clear hV G9 hC
  simp only [putAll, Act.put, List.setIfInBounds_toArray]
  dsimp only [List.set]
  rw [e9]
  go_wp2
  go_ret
  exact ⟨A9, n9, c9, rfl, by have := HO9.out.mono hs1; exact this, HK9.out⟩

set_option maxHeartbeats 2000000 in
set_option maxRecDepth 100000 in
theorem rprit (ty fl st : Int) (pA : Option Addr) (pn pc : Nat) (pad code last inc : Int) (dn : Nat) (wt : Int) (sA : Option Addr) (sn sc : Nat) (w0 : World) (hd : Hid (dn < 2147483648)) (hw0 : 1 ≤ wt) (hw1 : wt ≤ 256) (vn : Nat) (HV : Hid (vn = dn + 2147483648)) :
    Calls Try.prog 189 #[.agg #[.int .i64 ty, .int .i64 fl, .int .i64 st, .slice pA pn pc, .int .i64 pad, .int .u32 code, .int .i64 last, .int .i64 inc, .int .i64 (dn : Int), .bool true, .int .i64 wt, .slice sA sn sc]] w0 (OwR 5 (bytesOf vn 4 ++ [byteOf (wt - 1)]) w0) := by
  have HWT := Lib.hid (show 0 ≤ wt - 1 ∧ wt - 1 ≤ 255 by omega)
  have HWS := Lib.hid (show IntKind.i64.wrap (wt - 1) = wt - 1 ∧ IntKind.u8.wrap (wt - 1) = wt - 1 from ⟨IntWalk.i64_in _ (by omega), by rw [IntKind.wrap_u8]; omega⟩)
  have HDN := Lib.hid (show dn < 4294967296 by have := hd.out; omega)
  have HVL := Lib.hid (show vn < 4294967296 by have := hd.out; have := HV.out; omega)
  have hw32 : IntKind.u32.wrap (dn : Int) = (dn : Int) := wraps_u32 _ (by omega) (by have := hd.out; rw [show (2 : Int) ^ 32 = 4294967296 by decide]; omega)
  have hadd : IntKind.u32.wrap ((dn : Int) + 2147483648) = (vn : Int) := by rw [wraps_u32 _ (by omega) (by have := hd.out; rw [show (2 : Int) ^ 32 = 4294967296 by decide]; omega), HV.out]; rfl
  go_enter Try.func189, Try.ntmps189
  go_wp2
  have K0 : Kp [] w0 (w0.alloc (.cells #[.int .i64 ty, .int .i64 fl, .int .i64 st, .slice pA pn pc, .int .i64 pad, .int .u32 code, .int .i64 last, .int .i64 inc, .int .i64 (dn : Int), .bool true, .int .i64 wt, .slice sA sn sc] 49)) := (Kp.refl _ _).alloc _
  have HB := Lib.hid (hp_new w0 (.cells #[.int .i64 ty, .int .i64 fl, .int .i64 st, .slice pA pn pc, .int .i64 pad, .int .u32 code, .int .i64 last, .int .i64 inc, .int .i64 (dn : Int), .bool true, .int .i64 wt, .slice sA sn sc] 49) _ rfl)
  generalize hW : w0.alloc (.cells #[.int .i64 ty, .int .i64 fl, .int .i64 st, .slice pA pn pc, .int .i64 pad, .int .u32 code, .int .i64 last, .int .i64 inc, .int .i64 (dn : Int), .bool true, .int .i64 wt, .slice sA sn sc] 49) = w1 at *
  clear hW
  have hs1 := K0.size
  have HK0 := Lib.hid K0
  clear K0
  refine wp_region_st (by kernel_rfl) [fun _ v _ => v = (.int .u32 vn),
      fun p v w => ∃ x : Option Addr × Nat × Nat, v = .slice x.1 x.2.1 x.2.2 ∧ 1 ≤ p ∧ (p ≤ 1 → Ow w w1.heap.size 5 1 x.1 x.2.1 x.2.2 ((bytesOf vn 4).map u8) ∧ x.2.1 = 4),
      fun _ v _ => v = (.pointer (some ⟨w0.heap.size, 10, none⟩)),
      fun _ v _ => v = (.int .i64 wt),
      fun _ v _ => v = (.int .i64 (wt - 1)),
      fun _ v _ => v = (.int .u8 (wt - 1)),
      fun p v w => ∃ x : Option Addr × Nat × Nat, v = .slice x.1 x.2.1 x.2.2 ∧ 0 ≤ p ∧ (p ≤ 1 → Rd w x.1 x.2.1 x.2.2 [byteOf (wt - 1)] ∧ x.2.1 = 1),
      fun p v w => ∃ x : Option Addr × Nat × Nat, v = .slice x.1 x.2.1 x.2.2 ∧ 2 ≤ p ∧ (p ≤ 2 → Ow w w1.heap.size 5 1 x.1 x.2.1 x.2.2 ((bytesOf vn 4 ++ [byteOf (wt - 1)]).map u8) ∧ x.2.1 = 5),
      fun p v w => ∃ x : Option Addr × Nat × Nat, v = .slice x.1 x.2.1 x.2.2 ∧ 2 ≤ p ∧ (p ≤ 2 → Ow w w1.heap.size 5 1 x.1 x.2.1 x.2.2 ((bytesOf vn 4 ++ [byteOf (wt - 1)]).map u8) ∧ x.2.1 = 5)] (fun _ w => Kp [] w1 w) (fun p w w' => p = 0 → Kp [] w w') (fun w w' => Kp [] w w') [1, 7] [6] (by kernel_rfl) (by kernel_rfl) (by kernel_rfl) (by decide) (by kernel_rfl) ⟨StabAt2.const _, StabAt2.span (f := fun x : Option Addr × Nat × Nat => .slice x.1 x.2.1 x.2.2) (by intro p x w w' h1 h2; omega) (by intro x w w' hR hG; exact ⟨hG.1.keep hR (by simp), hG.2⟩), StabAt2.const _, StabAt2.const _, StabAt2.const _, StabAt2.const _, StabAt2.span (f := fun x : Option Addr × Nat × Nat => .slice x.1 x.2.1 x.2.2) (by intro p x w w' h1 h2 h3 hR hG; exact ⟨hG.1.keep (hR (by omega)) (by simp), hG.2⟩) (by intro x w w' hR hG; exact ⟨hG.1.keep hR (by simp), hG.2⟩), StabAt2.span (f := fun x : Option Addr × Nat × Nat => .slice x.1 x.2.1 x.2.2) (by intro p x w w' h1 h2; omega) (by intro x w w' hR hG; exact ⟨hG.1.keep hR (by simp), hG.2⟩), StabAt2.span (f := fun x : Option Addr × Nat × Nat => .slice x.1 x.2.1 x.2.2) (by intro p x w w' h1 h2; omega) (by intro x w w' hR hG; exact ⟨hG.1.keep hR (by simp), hG.2⟩), trivial⟩ ((Kp.refl _ _).drew) ⟨?_, ?_, ?_, ?_, ?_, ?_, ?_, ?_, ?_, trivial⟩ (by kernel_rfl) ?_
  · intro q9 a w E hC K hK
    have h3 : a.tmps[3]? = some (.int .u32 vn) := (E.out 3 (by kernel_rfl)).trans rfl
    refine want_none rfl ?_
    go_simp
    exact hK _ rfl
  · intro a w E hC K hK
    obtain ⟨_, h11, rfl⟩ := E.pred 0 _ 11 rfl rfl (by kernel_rfl)
    refine want_none rfl ?_
    go_simp
    refine (refPut32_any vn w HVL.out).mono ?_
    rintro e w2 ⟨A2, n2, c2, rfl, O2, K2⟩
    have e4 := O2.len
    simp [bytesOf_length] at e4
    subst e4
    go_simp
    exact hK _ _ ⟨⟨A2, 4, c2⟩, rfl, by omega, fun _ => ⟨O2.mono hC.size, rfl⟩⟩ (hC.trans K2) (fun _ => K2)
  · intro q9 a w E hC K hK
    have h1 : a.tmps[1]? = some (.pointer (some ⟨w0.heap.size, 0, none⟩)) := (E.out 1 (by kernel_rfl)).trans rfl
    refine want_none rfl ?_
    go_simp
    exact hK _ rfl
  · intro q9 a w E hC K hK
    obtain ⟨_, h13, rfl⟩ := E.pred 2 _ 13 rfl rfl (by kernel_rfl)
    refine want_none rfl ?_
    have hb := hC.heap HB.out (by simp)
    have g := cell_of hb 10
    go_simp
    exact hK _ rfl
  · intro q9 a w E hC K hK
    obtain ⟨_, h14, rfl⟩ := E.pred 3 _ 14 rfl rfl (by kernel_rfl)
    refine want_none rfl ?_
    have e1 := HWS.out.1
    go_simp
    exact hK _ rfl
  · intro q9 a w E hC K hK
    obtain ⟨_, h15, rfl⟩ := E.pred 4 _ 15 rfl rfl (by kernel_rfl)
    refine want_none rfl ?_
    have e1 := HWS.out.2
    go_simp
    exact hK _ rfl
  · intro q9 a w E hC K hK
    obtain ⟨_, h16, rfl⟩ := E.pred 5 _ 16 rfl rfl (by kernel_rfl)
    refine want_none rfl ?_
    go_simp
    exact hK _ _ ⟨⟨some ⟨w.heap.size, 0, none⟩, 1, 1⟩, rfl, by omega, fun _ => ⟨Rd.block (hp_new w _ _ rfl) 0 1 1 [byteOf (wt - 1)] rfl (Nat.le_refl _) (by simp; exact u8_of HWT.out.1 HWT.out.2), rfl⟩⟩ (hC.alloc _) ((Kp.refl _ _).alloc _)
  · intro a w E hC K hK
    obtain ⟨v1, h12, V1⟩ := E.pred 1 _ 12 rfl rfl (by kernel_rfl)
    replace V1 : (fun p v w => ∃ x : Option Addr × Nat × Nat, v = .slice x.1 x.2.1 x.2.2 ∧ 1 ≤ p ∧ (p ≤ 1 → Ow w w1.heap.size 5 1 x.1 x.2.1 x.2.2 ((bytesOf vn 4).map u8) ∧ x.2.1 = 4)) 1 v1 w := V1
    obtain ⟨v6, h17, V6⟩ := E.pred 6 _ 17 rfl rfl (by kernel_rfl)
    replace V6 : (fun p v w => ∃ x : Option Addr × Nat × Nat, v = .slice x.1 x.2.1 x.2.2 ∧ 0 ≤ p ∧ (p ≤ 1 → Rd w x.1 x.2.1 x.2.2 [byteOf (wt - 1)] ∧ x.2.1 = 1)) 1 v6 w := V6
    refine want_none rfl ?_
    obtain ⟨⟨A2, n2, c2⟩, rfl, _, G2⟩ := V1
    obtain ⟨O2, rfl⟩ := G2 (by omega)
    obtain ⟨⟨A8, n8, c8⟩, rfl, _, G8⟩ := V6
    obtain ⟨R8, rfl⟩ := G8 (by omega)
    refine op_appO (.tmp 12) (.tmp 17) 22 5 rfl Try.underlying22 Try.info5 w1.heap.size A2 4 c2 _ (eval_tmp h12) O2 A8 1 c8 _ (eval_tmp h17) R8 (by omega) hC.size ?_
    intro A' c' w2 O K2 _
    exact hK _ _ ⟨⟨A', _, c'⟩, rfl, by omega, fun _ => ⟨O, rfl⟩⟩ (hC.then K2 (fun t ht => .inr (O2.base t ht).1)) (fun h => by omega)
  · intro q9 a w E hC K hK
    obtain ⟨v7, h18, V7⟩ := E.pred 7 _ 18 rfl rfl (by kernel_rfl)
    replace V7 : (fun p v w => ∃ x : Option Addr × Nat × Nat, v = .slice x.1 x.2.1 x.2.2 ∧ 2 ≤ p ∧ (p ≤ 2 → Ow w w1.heap.size 5 1 x.1 x.2.1 x.2.2 ((bytesOf vn 4 ++ [byteOf (wt - 1)]).map u8) ∧ x.2.1 = 5)) q9 v7 w := V7
    refine want_none rfl ?_
    go_simp
    exact hK _ V7
  intro vs w13 hC hV
  have h9 := hV 8 _ rfl (by simp)
  replace h9 : ∃ x : Option Addr × Nat × Nat, vs 8 = .slice x.1 x.2.1 x.2.2 ∧ 2 ≤ 2 ∧ (2 ≤ 2 → Ow w13 w1.heap.size 5 1 x.1 x.2.1 x.2.2 ((bytesOf vn 4 ++ [byteOf (wt - 1)]).map u8) ∧ x.2.1 = 5) := h9
  obtain ⟨⟨A9, n9, c9⟩, e9, _, G9⟩ := h9
  have HO9 := Lib.hid (G9 (Nat.le_refl _)).1
  have HK9 := Lib.hid (HK0.out.trans hC)
  clear hV G9 hC
  simp only [putAll, Act.put, List.setIfInBounds_toArray]
  dsimp only [List.set]
  rw [e9]
  go_wp2
  go_ret
  exact ⟨A9, n9, c9, rfl, by have := HO9.out.mono hs1; exact this, HK9.out⟩

end Go.Proofs.Ytkmcakneceagpaa
