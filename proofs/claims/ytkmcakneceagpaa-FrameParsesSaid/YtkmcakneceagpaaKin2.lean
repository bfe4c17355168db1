/- frame.kind: what the types with numbers put. -/
import Derived.Test.YtkmcakneceagpaaKin
import Derived.Test.YtkmcakneceagpaaReg2
set_option linter.unusedVariables false
set_option linter.unusedSimpArgs false
set_option linter.unusedSimpArgs false
namespace Go.Proofs.Ytkmcakneceagpaa
open Go.RowKit

set_option maxHeartbeats 1000000 in
set_option maxRecDepth 100000 in
theorem putPush (f : Fr) (l : List UInt8) (w0 : World) (hr : Rd w0 f.pA f.pn f.pc l) (hn : f.pn ≤ 140737488351232) (h0 : 0 ≤ f.last) (h1 : f.last < 2147483648) : Calls Try.prog 176 #[.agg #[.int .i64 f.ty, .int .i64 f.fl, .int .i64 f.st, .slice f.pA f.pn f.pc, .int .i64 f.pad, .int .u32 f.code, .int .i64 f.last, .int .i64 f.inc, .int .i64 f.dep, .bool f.only, .int .i64 f.wt, .slice f.sA f.sn f.sc]] w0 (RdP (bytesOf f.last.toNat 4 ++ l) w0) := by
  obtain ⟨ty, fl, st, pA, pn, pc, pad, code, last, inc, dep, only, wt, sA, sn, sc⟩ := f
  dsimp only at *
  have HR := Lib.hid hr
  clear hr
  go_enter Try.func176, Try.ntmps176
  go_wp2
  have K0 : Kp [] w0 (w0.alloc (.cells #[.int .i64 ty, .int .i64 fl, .int .i64 st, .slice pA pn pc, .int .i64 pad, .int .u32 code, .int .i64 last, .int .i64 inc, .int .i64 dep, .bool only, .int .i64 wt, .slice sA sn sc] 49)) := (Kp.refl _ _).alloc _
  have HB := Lib.hid (hp_new w0 (.cells #[.int .i64 ty, .int .i64 fl, .int .i64 st, .slice pA pn pc, .int .i64 pad, .int .u32 code, .int .i64 last, .int .i64 inc, .int .i64 dep, .bool only, .int .i64 wt, .slice sA sn sc] 49) _ rfl)
  have HR1 := Lib.hid (HR.out.keep K0 (by simp))
  generalize hW : w0.alloc (.cells #[.int .i64 ty, .int .i64 fl, .int .i64 st, .slice pA pn pc, .int .i64 pad, .int .u32 code, .int .i64 last, .int .i64 inc, .int .i64 dep, .bool only, .int .i64 wt, .slice sA sn sc] 49) = w1 at *
  clear hW HR
  have hB := lt_of_heap HB.out
  have CQ : ∀ (k : Nat) v, Kp [] w1 v → Kp [] w1 v := fun _ _ h => h
  refine wp_region_st (by kernel_rfl) [fun _ v _ => v = (.pointer (some ⟨w0.heap.size, 6, none⟩)),
      fun _ v _ => v = (.int .i64 last),
      fun p v w => ∃ x : Option Addr × Nat × Nat, v = .slice x.1 x.2.1 x.2.2 ∧ 1 ≤ p ∧ (p ≤ 1 → Rd w x.1 x.2.1 x.2.2 (bytesOf last.toNat 4) ∧ x.2.1 = 4 ∧ x.2.2 = 4),
      fun _ v _ => v = (.pointer (some ⟨w0.heap.size, 3, none⟩)),
      fun _ v _ => v = (.slice pA pn pc),
      fun p v w => ∃ x : Option Addr × Nat × Nat, v = .slice x.1 x.2.1 x.2.2 ∧ 2 ≤ p ∧ (p ≤ 2 → Rd w x.1 x.2.1 x.2.2 (bytesOf last.toNat 4 ++ l)),
      fun p v w => ∃ x : Option Addr × Nat × Nat, v = .slice x.1 x.2.1 x.2.2 ∧ 2 ≤ p ∧ (p ≤ 2 → Rd w x.1 x.2.1 x.2.2 (bytesOf last.toNat 4 ++ l))] (fun _ w => Kp [] w1 w) (fun p w w' => p < 2 → Kp [] w w') (fun w w' => Kp [] w w') [2, 5] [] (by kernel_rfl) (by kernel_rfl) (by kernel_rfl) (by decide) (by kernel_rfl) ⟨StabAt2.const _, StabAt2.const _, StabAt2.span (f := fun x : Option Addr × Nat × Nat => .slice x.1 x.2.1 x.2.2) (by intro p x w w' h1 h2 h3 hR hG; have K := hR; exact ⟨hG.1.keep (K (by omega)) (by simp), hG.2⟩) (by intro x w w' hR hG; have K := hR; exact ⟨hG.1.keep K (by simp), hG.2⟩), StabAt2.const _, StabAt2.const _, StabAt2.span (f := fun x : Option Addr × Nat × Nat => .slice x.1 x.2.1 x.2.2) (by intro p x w w' h1 h2 h3 hR hG; have K := hR; exact hG.keep (K (by omega)) (by simp)) (by intro x w w' hR hG; have K := hR; exact hG.keep K (by simp)), StabAt2.span (f := fun x : Option Addr × Nat × Nat => .slice x.1 x.2.1 x.2.2) (by intro p x w w' h1 h2 h3 hR hG; have K := hR; exact hG.keep (K (by omega)) (by simp)) (by intro x w w' hR hG; have K := hR; exact hG.keep K (by simp)), trivial⟩ ((Kp.refl _ _).drew) ⟨?_, ?_, ?_, ?_, ?_, ?_, ?_, trivial⟩ (by kernel_rfl) ?_
  · intro q9 a w E hC K hK
    have h1 : a.tmps[1]? = some (.pointer (some ⟨w0.heap.size, 0, none⟩)) := (E.out 1 (by kernel_rfl)).trans rfl
    refine want_none rfl ?_
    go_simp
    exact hK _ rfl
  · intro q9 a w E hC K hK
    obtain ⟨_, h3, rfl⟩ := E.pred 0 _ 3 rfl rfl (by kernel_rfl)
    refine want_none rfl ?_
    have hk := CQ q9 w hC
    have hb := hk.heap HB.out (by simp)
    have g := cell_of hb 6
    go_simp
    exact hK _ rfl
  · intro a w E hC K hK
    obtain ⟨_, h4, rfl⟩ := E.pred 1 _ 4 rfl rfl (by kernel_rfl)
    refine want_none rfl ?_
    go_simp
    refine (fourF last w h0 h1).mono ?_
    rintro e w2 ⟨A, n, rfl, R2, _, K2⟩
    have e4 := R2.len
    rw [bytesOf_length] at e4
    subst e4
    go_simp
    exact hK _ _ ⟨⟨A, 4, 4⟩, rfl, by omega, fun _ => ⟨R2, rfl, rfl⟩⟩ (hC.trans K2) (fun _ => K2)
  · intro q9 a w E hC K hK
    have h1 : a.tmps[1]? = some (.pointer (some ⟨w0.heap.size, 0, none⟩)) := (E.out 1 (by kernel_rfl)).trans rfl
    refine want_none rfl ?_
    go_simp
    exact hK _ rfl
  · intro q9 a w E hC K hK
    obtain ⟨_, h6, rfl⟩ := E.pred 3 _ 6 rfl rfl (by kernel_rfl)
    refine want_none rfl ?_
    have hk := CQ q9 w hC
    have hb := hk.heap HB.out (by simp)
    have g := cell_of hb 3
    go_simp
    exact hK _ rfl
  · intro a w E hC K hK
    obtain ⟨v2, h5, V2⟩ := E.pred 2 _ 5 rfl rfl (by kernel_rfl)
    replace V2 : (fun p v w => ∃ x : Option Addr × Nat × Nat, v = .slice x.1 x.2.1 x.2.2 ∧ 1 ≤ p ∧ (p ≤ 1 → Rd w x.1 x.2.1 x.2.2 (bytesOf last.toNat 4) ∧ x.2.1 = 4 ∧ x.2.2 = 4)) 1 v2 w := V2
    obtain ⟨_, h7, rfl⟩ := E.pred 4 _ 7 rfl rfl (by kernel_rfl)
    refine want_none rfl ?_
    obtain ⟨⟨A2, n2, c2⟩, rfl, _, G2⟩ := V2
    obtain ⟨R2, rfl, rfl⟩ := G2 (by omega)
    refine op_appX (.tmp 5) (.tmp 7) 22 5 rfl Try.underlying22 Try.info5 A2 4 _ (eval_tmp h5) R2 pA pn pc l (eval_tmp h7) (HR1.out.keep hC (by simp)) (by omega) (by omega) ?_
    intro A' c' w2 R K2
    exact hK _ _ ⟨⟨A', _, c'⟩, rfl, by omega, fun _ => R⟩ (hC.trans K2) (fun _ => K2)
  · intro q9 a w E hC K hK
    obtain ⟨v5, h8, V5⟩ := E.pred 5 _ 8 rfl rfl (by kernel_rfl)
    replace V5 : (fun p v w => ∃ x : Option Addr × Nat × Nat, v = .slice x.1 x.2.1 x.2.2 ∧ 2 ≤ p ∧ (p ≤ 2 → Rd w x.1 x.2.1 x.2.2 (bytesOf last.toNat 4 ++ l))) q9 v5 w := V5
    refine want_none rfl ?_
    go_simp
    exact hK _ V5
  intro vs w2 hC hV
  have h9 := hV 6 _ rfl (by simp)
  replace h9 : ∃ x : Option Addr × Nat × Nat, vs 6 = .slice x.1 x.2.1 x.2.2 ∧ 2 ≤ 2 ∧ (2 ≤ 2 → Rd w2 x.1 x.2.1 x.2.2 (bytesOf last.toNat 4 ++ l)) := h9
  obtain ⟨⟨A9, k9, c9⟩, e9, _, R9⟩ := h9
  have HR9 := Lib.hid (R9 (Nat.le_refl _))
  have HK9 := Lib.hid (K0.trans hC)
  clear hV R9 hC
  simp only [putAll, Act.put, List.setIfInBounds_toArray]
  dsimp only [List.set]
  rw [e9]
  go_wp2
  go_ret
  exact ⟨A9, k9, c9, rfl, HR9.out, HK9.out⟩

set_option maxHeartbeats 1000000 in
set_option maxRecDepth 100000 in
theorem putGoaway (f : Fr) (l : List UInt8) (w0 : World) (hr : Rd w0 f.pA f.pn f.pc l) (hn : f.pn ≤ 140737488351232) (h0 : 0 ≤ f.last) (h1 : f.last < 2147483648) (hc : U32 f.code) : Calls Try.prog 180 #[.agg #[.int .i64 f.ty, .int .i64 f.fl, .int .i64 f.st, .slice f.pA f.pn f.pc, .int .i64 f.pad, .int .u32 f.code, .int .i64 f.last, .int .i64 f.inc, .int .i64 f.dep, .bool f.only, .int .i64 f.wt, .slice f.sA f.sn f.sc]] w0 (RdP (bytesOf f.last.toNat 4 ++ bytesOf f.code.toNat 4 ++ l) w0) := by
  obtain ⟨ty, fl, st, pA, pn, pc, pad, code, last, inc, dep, only, wt, sA, sn, sc⟩ := f
  dsimp only at *
  have HR := Lib.hid hr
  clear hr
  go_enter Try.func180, Try.ntmps180
  go_wp2
  have K0 : Kp [] w0 (w0.alloc (.cells #[.int .i64 ty, .int .i64 fl, .int .i64 st, .slice pA pn pc, .int .i64 pad, .int .u32 code, .int .i64 last, .int .i64 inc, .int .i64 dep, .bool only, .int .i64 wt, .slice sA sn sc] 49)) := (Kp.refl _ _).alloc _
  have HB := Lib.hid (hp_new w0 (.cells #[.int .i64 ty, .int .i64 fl, .int .i64 st, .slice pA pn pc, .int .i64 pad, .int .u32 code, .int .i64 last, .int .i64 inc, .int .i64 dep, .bool only, .int .i64 wt, .slice sA sn sc] 49) _ rfl)
  have HR1 := Lib.hid (HR.out.keep K0 (by simp))
  generalize hW : w0.alloc (.cells #[.int .i64 ty, .int .i64 fl, .int .i64 st, .slice pA pn pc, .int .i64 pad, .int .u32 code, .int .i64 last, .int .i64 inc, .int .i64 dep, .bool only, .int .i64 wt, .slice sA sn sc] 49) = w1 at *
  clear hW HR
  have hB := lt_of_heap HB.out
  have CQ : ∀ (k : Nat) v, Kp [] w1 v → Kp [] w1 v := fun _ _ h => h
  have hc1 : 0 ≤ code := hc.1
  have hc2 : code.toNat < 4294967296 := by have := hc.2; omega
  have hc3 : ((code.toNat : Nat) : Int) = code := by omega
  clear hc
  refine wp_region_st (by kernel_rfl) [fun _ v _ => v = (.pointer (some ⟨w0.heap.size, 6, none⟩)),
      fun _ v _ => v = (.int .i64 last),
      fun p v w => ∃ x : Option Addr × Nat × Nat, v = .slice x.1 x.2.1 x.2.2 ∧ 1 ≤ p ∧ (p ≤ 2 → Rd w x.1 x.2.1 x.2.2 (bytesOf last.toNat 4) ∧ x.2.1 = 4 ∧ x.2.2 = 4),
      fun _ v _ => v = (.pointer (some ⟨w0.heap.size, 5, none⟩)),
      fun _ v _ => v = (.int .u32 code),
      fun p v w => ∃ x : Option Addr × Nat × Nat, v = .slice x.1 x.2.1 x.2.2 ∧ 2 ≤ p ∧ (p ≤ 2 → Rd w x.1 x.2.1 x.2.2 (bytesOf code.toNat 4) ∧ x.2.1 = 4 ∧ x.2.2 = 4),
      fun p v w => ∃ x : Option Addr × Nat × Nat, v = .slice x.1 x.2.1 x.2.2 ∧ 3 ≤ p ∧ (p ≤ 3 → Ow w (w1.heap.size) 5 1 x.1 x.2.1 x.2.2 ((bytesOf last.toNat 4 ++ bytesOf code.toNat 4).map u8) ∧ x.2.1 = 8),
      fun _ v _ => v = (.pointer (some ⟨w0.heap.size, 3, none⟩)),
      fun _ v _ => v = (.slice pA pn pc),
      fun p v w => ∃ x : Option Addr × Nat × Nat, v = .slice x.1 x.2.1 x.2.2 ∧ 4 ≤ p ∧ (p ≤ 4 → Rd w x.1 x.2.1 x.2.2 (bytesOf last.toNat 4 ++ bytesOf code.toNat 4 ++ l)),
      fun p v w => ∃ x : Option Addr × Nat × Nat, v = .slice x.1 x.2.1 x.2.2 ∧ 4 ≤ p ∧ (p ≤ 4 → Rd w x.1 x.2.1 x.2.2 (bytesOf last.toNat 4 ++ bytesOf code.toNat 4 ++ l))] (fun _ w => Kp [] w1 w) (fun p w w' => p < 3 → Kp [] w w') (fun w w' => Kp [] w w') [2, 5, 6, 9] [] (by kernel_rfl) (by kernel_rfl) (by kernel_rfl) (by decide) (by kernel_rfl) ⟨StabAt2.const _, StabAt2.const _, StabAt2.span (f := fun x : Option Addr × Nat × Nat => .slice x.1 x.2.1 x.2.2) (by intro p x w w' h1 h2 h3 hR hG; have K := hR; exact ⟨hG.1.keep (K (by omega)) (by simp), hG.2⟩) (by intro x w w' hR hG; have K := hR; exact ⟨hG.1.keep K (by simp), hG.2⟩), StabAt2.const _, StabAt2.const _, StabAt2.span (f := fun x : Option Addr × Nat × Nat => .slice x.1 x.2.1 x.2.2) (by intro p x w w' h1 h2 h3 hR hG; have K := hR; exact ⟨hG.1.keep (K (by omega)) (by simp), hG.2⟩) (by intro x w w' hR hG; have K := hR; exact ⟨hG.1.keep K (by simp), hG.2⟩), StabAt2.span (f := fun x : Option Addr × Nat × Nat => .slice x.1 x.2.1 x.2.2) (by intro p x w w' h1 h2 h3 hR hG; have K := hR; exact ⟨hG.1.keep (K (by omega)) (by simp), hG.2⟩) (by intro x w w' hR hG; have K := hR; exact ⟨hG.1.keep K (by simp), hG.2⟩), StabAt2.const _, StabAt2.const _, StabAt2.span (f := fun x : Option Addr × Nat × Nat => .slice x.1 x.2.1 x.2.2) (by intro p x w w' h1 h2 h3 hR hG; have K := hR; exact hG.keep (K (by omega)) (by simp)) (by intro x w w' hR hG; have K := hR; exact hG.keep K (by simp)), StabAt2.span (f := fun x : Option Addr × Nat × Nat => .slice x.1 x.2.1 x.2.2) (by intro p x w w' h1 h2 h3 hR hG; have K := hR; exact hG.keep (K (by omega)) (by simp)) (by intro x w w' hR hG; have K := hR; exact hG.keep K (by simp)), trivial⟩ ((Kp.refl _ _).drew) ⟨?_, ?_, ?_, ?_, ?_, ?_, ?_, ?_, ?_, ?_, ?_, trivial⟩ (by kernel_rfl) ?_
  · intro q9 a w E hC K hK
    have h1 : a.tmps[1]? = some (.pointer (some ⟨w0.heap.size, 0, none⟩)) := (E.out 1 (by kernel_rfl)).trans rfl
    refine want_none rfl ?_
    go_simp
    exact hK _ rfl
  · intro q9 a w E hC K hK
    obtain ⟨_, h3, rfl⟩ := E.pred 0 _ 3 rfl rfl (by kernel_rfl)
    refine want_none rfl ?_
    have hk := CQ q9 w hC
    have hb := hk.heap HB.out (by simp)
    have g := cell_of hb 6
    go_simp
    exact hK _ rfl
  · intro a w E hC K hK
    obtain ⟨_, h4, rfl⟩ := E.pred 1 _ 4 rfl rfl (by kernel_rfl)
    refine want_none rfl ?_
    go_simp
    refine (fourF last w h0 h1).mono ?_
    rintro e w2 ⟨A, n, rfl, R2, _, K2⟩
    have e4 := R2.len
    rw [bytesOf_length] at e4
    subst e4
    go_simp
    exact hK _ _ ⟨⟨A, 4, 4⟩, rfl, by omega, fun _ => ⟨R2, rfl, rfl⟩⟩ (hC.trans K2) (fun _ => K2)
  · intro q9 a w E hC K hK
    have h1 : a.tmps[1]? = some (.pointer (some ⟨w0.heap.size, 0, none⟩)) := (E.out 1 (by kernel_rfl)).trans rfl
    refine want_none rfl ?_
    go_simp
    exact hK _ rfl
  · intro q9 a w E hC K hK
    obtain ⟨_, h6, rfl⟩ := E.pred 3 _ 6 rfl rfl (by kernel_rfl)
    refine want_none rfl ?_
    have hk := CQ q9 w hC
    have hb := hk.heap HB.out (by simp)
    have g := cell_of hb 5
    go_simp
    exact hK _ rfl
  · intro a w E hC K hK
    obtain ⟨_, h7, rfl⟩ := E.pred 4 _ 7 rfl rfl (by kernel_rfl)
    refine want_none rfl ?_
    go_simp
    have hPut := Put32_any code.toNat w hc2
    rw [hc3] at hPut
    refine hPut.mono ?_
    rintro e w2 ⟨A, n, rfl, R2, _, K2⟩
    have e4 := R2.len
    rw [bytesOf_length] at e4
    subst e4
    go_simp
    exact hK _ _ ⟨⟨A, 4, 4⟩, rfl, by omega, fun _ => ⟨R2, rfl, rfl⟩⟩ (hC.trans K2) (fun _ => K2)
  · intro a w E hC K hK
    obtain ⟨v2, h5, V2⟩ := E.pred 2 _ 5 rfl rfl (by kernel_rfl)
    replace V2 : (fun p v w => ∃ x : Option Addr × Nat × Nat, v = .slice x.1 x.2.1 x.2.2 ∧ 1 ≤ p ∧ (p ≤ 2 → Rd w x.1 x.2.1 x.2.2 (bytesOf last.toNat 4) ∧ x.2.1 = 4 ∧ x.2.2 = 4)) 2 v2 w := V2
    obtain ⟨v5, h8, V5⟩ := E.pred 5 _ 8 rfl rfl (by kernel_rfl)
    replace V5 : (fun p v w => ∃ x : Option Addr × Nat × Nat, v = .slice x.1 x.2.1 x.2.2 ∧ 2 ≤ p ∧ (p ≤ 2 → Rd w x.1 x.2.1 x.2.2 (bytesOf code.toNat 4) ∧ x.2.1 = 4 ∧ x.2.2 = 4)) 2 v5 w := V5
    refine want_none rfl ?_
    obtain ⟨⟨A2, n2, c2⟩, rfl, _, G2⟩ := V2
    obtain ⟨R2, rfl, rfl⟩ := G2 (by omega)
    obtain ⟨⟨A5, n5, c5⟩, rfl, _, G5⟩ := V5
    obtain ⟨R5, rfl, rfl⟩ := G5 (by omega)
    refine op_appF (.tmp 5) (.tmp 8) 22 5 rfl Try.underlying22 Try.info5 w1.heap.size A2 4 _ (eval_tmp h5) R2 A5 4 4 _ (eval_tmp h8) R5 (by omega) (by omega) hC.size (by omega) ?_
    intro A' c' w2 O K2 _
    exact hK _ _ ⟨⟨A', _, c'⟩, rfl, by omega, fun _ => ⟨O, rfl⟩⟩ (hC.trans K2) (fun _ => K2)
  · intro q9 a w E hC K hK
    have h1 : a.tmps[1]? = some (.pointer (some ⟨w0.heap.size, 0, none⟩)) := (E.out 1 (by kernel_rfl)).trans rfl
    refine want_none rfl ?_
    go_simp
    exact hK _ rfl
  · intro q9 a w E hC K hK
    obtain ⟨_, h10, rfl⟩ := E.pred 7 _ 10 rfl rfl (by kernel_rfl)
    refine want_none rfl ?_
    have hk := CQ q9 w hC
    have hb := hk.heap HB.out (by simp)
    have g := cell_of hb 3
    go_simp
    exact hK _ rfl
  · intro a w E hC K hK
    obtain ⟨v6, h9, V6⟩ := E.pred 6 _ 9 rfl rfl (by kernel_rfl)
    replace V6 : (fun p v w => ∃ x : Option Addr × Nat × Nat, v = .slice x.1 x.2.1 x.2.2 ∧ 3 ≤ p ∧ (p ≤ 3 → Ow w (w1.heap.size) 5 1 x.1 x.2.1 x.2.2 ((bytesOf last.toNat 4 ++ bytesOf code.toNat 4).map u8) ∧ x.2.1 = 8)) 3 v6 w := V6
    obtain ⟨_, h11, rfl⟩ := E.pred 8 _ 11 rfl rfl (by kernel_rfl)
    refine want_none rfl ?_
    obtain ⟨⟨A6, n6, c6⟩, rfl, _, G6⟩ := V6
    obtain ⟨O6, rfl⟩ := G6 (by omega)
    refine op_appO (.tmp 9) (.tmp 11) 22 5 rfl Try.underlying22 Try.info5 w1.heap.size A6 8 c6 _ (eval_tmp h9) O6 pA pn pc l (eval_tmp h11) (HR1.out.keep hC (by simp)) (by omega) hC.size ?_
    intro A' c' w2 O K2 _
    exact hK _ _ ⟨⟨A', _, c'⟩, rfl, by omega, fun _ => O.rd⟩ (hC.then K2 (fun t ht => .inr (O6.base t ht).1)) (fun h => absurd h (by omega))
  · intro q9 a w E hC K hK
    obtain ⟨v9, h12, V9⟩ := E.pred 9 _ 12 rfl rfl (by kernel_rfl)
    replace V9 : (fun p v w => ∃ x : Option Addr × Nat × Nat, v = .slice x.1 x.2.1 x.2.2 ∧ 4 ≤ p ∧ (p ≤ 4 → Rd w x.1 x.2.1 x.2.2 (bytesOf last.toNat 4 ++ bytesOf code.toNat 4 ++ l))) q9 v9 w := V9
    refine want_none rfl ?_
    go_simp
    exact hK _ V9
  intro vs w2 hC hV
  have h9 := hV 10 _ rfl (by simp)
  replace h9 : ∃ x : Option Addr × Nat × Nat, vs 10 = .slice x.1 x.2.1 x.2.2 ∧ 4 ≤ 4 ∧ (4 ≤ 4 → Rd w2 x.1 x.2.1 x.2.2 (bytesOf last.toNat 4 ++ bytesOf code.toNat 4 ++ l)) := h9
  obtain ⟨⟨A9, k9, c9⟩, e9, _, R9⟩ := h9
  have HR9 := Lib.hid (R9 (Nat.le_refl _))
  have HK9 := Lib.hid (K0.trans hC)
  clear hV R9 hC
  simp only [putAll, Act.put, List.setIfInBounds_toArray]
  dsimp only [List.set]
  rw [e9]
  go_wp2
  go_ret
  exact ⟨A9, k9, c9, rfl, HR9.out, HK9.out⟩
end Go.Proofs.Ytkmcakneceagpaa
