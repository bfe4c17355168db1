/- The program's reader: Next, walked. -/
import Derived.Test.YtkmcakneceagpaaRdX
set_option linter.unusedVariables false
set_option linter.unusedSimpArgs false
set_option linter.unusedSimpArgs false
namespace Go.Proofs.Ytkmcakneceagpaa
open Go.RowKit
set_option maxHeartbeats 8000000 in
set_option maxRecDepth 100000 in
theorem RdNext (g : Nat) (D : List Nat) (w : World) (most : Int) (xs xc : Int) (l0 : List UInt8) (hs : RdS w g D most false xs xc l0) (hD : ∀ t, t ∈ D → t < w.heap.size) (hm : 0 ≤ most) (hl0 : l0.length ≤ 281474976710656) : Calls Try.prog 103 #[.pointer (some ⟨g, 0, none⟩)] w (NextR most g D xs xc l0 w) := by
  obtain ⟨A0, n0, c0, hh0, ho0, hg0, hd0⟩ := hs
  have HD := Lib.hid hD
  clear hD
  have HH0 := Lib.hid hh0
  have HO0 := Lib.hid ho0
  have hl := lt_of_heap hh0
  clear hh0 ho0
  go_enter Try.func103, Try.ntmps103
  go_wp2_with fail
  go_step3
  go_wp2_with fail
  generalize hW : World.alloc _ _ = w1
  have K1 : Kp [] w w1 := by rw [← hW]; (repeat (first | with_reducible exact Kp.refl _ _ | with_reducible assumption | with_reducible refine Kp.alloc ?_ _ | with_reducible refine Kp.drew ?_ | with_reducible refine Kp.drewN ?_ _ | (with_reducible refine Kp.setL ?_ ?_ _; focus (simp; done)) | (with_reducible refine Kp.setR ?_ ?_ _; focus (simp; done)) | (with_reducible refine Kp.setR ?_ ?_ _; focus (simp; omega))))
  have HR := Lib.hid (show w1.heap[w.heap.size]? = some (.cells #[.pointer (some ⟨g, 0, none⟩)] 146) by rw [← hW]; (repeat (first | with_reducible assumption | (with_reducible refine hp_new _ _ _ ?_; focus (simp; done)) | (with_reducible refine (hp_old _ _ _ ?_).trans ?_; focus (first | omega | (simp; done) | (simp; omega))) | (with_reducible refine (hp_far _ _ _ _ ?_).trans ?_; focus (first | (simp; done) | (simp; omega))) | (with_reducible refine (hp_drew _ _).trans ?_) | (with_reducible refine (hp_drewN _ _ _).trans ?_))))
  have HF := Lib.hid (show w1.heap[w.heap.size + 1]? = some (.cells #[.int .i64 0, .int .i64 0, .int .i64 0, .slice none 0 0, .int .i64 0, .int .u32 0, .int .i64 0, .int .i64 0, .int .i64 0, .bool false, .int .i64 0, .slice none 0 0] 49) by rw [← hW]; (repeat (first | with_reducible assumption | (with_reducible refine hp_new _ _ _ ?_; focus (simp; done)) | (with_reducible refine (hp_old _ _ _ ?_).trans ?_; focus (first | omega | (simp; done) | (simp; omega))) | (with_reducible refine (hp_far _ _ _ _ ?_).trans ?_; focus (first | (simp; done) | (simp; omega))) | (with_reducible refine (hp_drew _ _).trans ?_) | (with_reducible refine (hp_drewN _ _ _).trans ?_))))
  have HX := Lib.hid (show w1.heap[w.heap.size + 1 + 1]? = some (.cells #[.bool false, .int .i64 0, .int .i64 0] 64) by rw [← hW]; (repeat (first | with_reducible assumption | (with_reducible refine hp_new _ _ _ ?_; focus (simp; done)) | (with_reducible refine (hp_old _ _ _ ?_).trans ?_; focus (first | omega | (simp; done) | (simp; omega))) | (with_reducible refine (hp_far _ _ _ _ ?_).trans ?_; focus (first | (simp; done) | (simp; omega))) | (with_reducible refine (hp_drew _ _).trans ?_) | (with_reducible refine (hp_drewN _ _ _).trans ?_))))
  clear hW
  have H1 := Lib.hid (K1.heap HH0.out (by simp))
  refine (RdNone g w1 (cell_of H1.out 0)).mono ?_
  rintro e w9 ⟨rfl, rfl⟩
  go_wp2
  go_step3
  go_wp2
  go_loopw [7] (fun _ wr => ∃ l A n c, Skip most l0 l ∧ wr.heap[g]? = some (.cells #[.bool true, .int .i64 most, .slice A n c, .bool false, .int .i64 xs, .int .i64 xc] 148) ∧ Ow wr 0 5 1 A n c (l.map u8) ∧ g ∉ ob A ∧ (∀ t, t ∈ ob A → t ∈ D) ∧ l.length ≤ l0.length ∧ (∃ T, (∀ t, t ∈ T → t = g ∨ t ∈ D) ∧ Kp T w1 wr)) (fun _ wr => lenAt wr g)
  case atStart => exact ⟨l0, A0, n0, c0, .refl _, H1.out, HO0.out.keep K1 (by simp), hg0, hd0, Nat.le_refl _, [], by simp, Kp.refl _ _⟩
  case round =>
    obtain ⟨l, A, n, c, hsk, hh, ho, hgA, hrb, hll, T, hT, KT⟩ := hrel
    have hw0 : w.heap.size ∉ T := fun h => by rcases hT _ h with h | h; omega; have := HD.out _ h; omega
    have hw1 : w.heap.size + 1 ∉ T := fun h => by rcases hT _ h with h | h; omega; have := HD.out _ h; omega
    have hw2 : w.heap.size + 1 + 1 ∉ T := fun h => by rcases hT _ h with h | h; omega; have := HD.out _ h; omega
    have HB := Lib.hid (KT.heap HR.out hw0)
    have HF1 := Lib.hid (KT.heap HF.out hw1)
    have HX1 := Lib.hid (KT.heap HX.out hw2)
    have HKT := Lib.hid (show ∃ T, (∀ t, t ∈ T → t = g ∨ t ∈ D) ∧ Kp T w wr from ⟨T, hT, (K1.nil (S := T)).trans KT⟩)
    have HH := Lib.hid hh
    have HHr := Lib.hid hh
    have HKT1 := Lib.hid (show ∃ T, (∀ t, t ∈ T → t = g ∨ t ∈ D) ∧ Kp T w1 wr from ⟨T, hT, KT⟩)
    have HO := Lib.hid ho
    have HSK := Lib.hid hsk
    have hln : l.length = n := by have := ho.len; simpa using this
    have b0 := cell_of HB.out 0
    have bl := lt_of_heap HB.out
    have c3 := cell_of hh 3
    have cl := lt_of_heap hh
    clear hh ho hsk KT hw0 hw1 hw2
    have HRB := Lib.hid hrb
    clear hrb
    obtain ⟨⟨rf, rused, ris, rst, rcode, rerr⟩, hps⟩ : ∃ r, ps l most = r := ⟨_, rfl⟩
    have HZZ := Lib.hid (show rf.ss ≠ [] → rf.pad = 0 ∧ rf.code = 0 by have := ps_zz l most; rw [hps] at this; exact this)
    have HPS := Lib.hid hps
    clear hps
    go_wp2
    generalize hbx : w.heap.size = bx at *
    refine wp_region_st4 (by kernel_rfl) [fun _ v _ => v = (.pointer (some ⟨g, 0, none⟩)),
        fun _ v _ => v = (.pointer (some ⟨g, 0, none⟩)),
        fun _ v _ => v = (.pointer (some ⟨g, 2, none⟩)),
        fun _ v _ => v = (.slice A n c),
        fun _ v _ => v = (.pointer (some ⟨g, 0, none⟩)),
        fun _ v _ => v = (.pointer (some ⟨g, 0, none⟩)),
        fun _ v _ => v = (.pointer (some ⟨g, 1, none⟩)),
        fun _ v _ => v = (.int .i64 most),
        fun p v w => ∃ x : Fr, v = .tuple #[.agg #[.int .i64 x.ty, .int .i64 x.fl, .int .i64 x.st, .slice x.pA x.pn x.pc, .int .i64 x.pad, .int .u32 x.code, .int .i64 x.last, .int .i64 x.inc, .int .i64 x.dep, .bool x.only, .int .i64 x.wt, .slice x.sA x.sn x.sc], .int .i64 rused, .agg #[.bool ris, .int .i64 rst, .int .i64 rcode], .int .i64 rerr] ∧ 1 ≤ p ∧ (p ≤ 3 → FrP w wr.heap.size x rf),
        fun p v w => ∃ x : Fr, v = .tuple #[.agg #[.int .i64 x.ty, .int .i64 x.fl, .int .i64 x.st, .slice x.pA x.pn x.pc, .int .i64 x.pad, .int .u32 x.code, .int .i64 x.last, .int .i64 x.inc, .int .i64 x.dep, .bool x.only, .int .i64 x.wt, .slice x.sA x.sn x.sc], .int .i64 rused, .agg #[.bool ris, .int .i64 rst, .int .i64 rcode], .int .i64 rerr] ∧ 1 ≤ p ∧ (p ≤ 3 → FrP w wr.heap.size x rf),
        fun p v w => ∃ x : Fr, v = .agg #[.int .i64 x.ty, .int .i64 x.fl, .int .i64 x.st, .slice x.pA x.pn x.pc, .int .i64 x.pad, .int .u32 x.code, .int .i64 x.last, .int .i64 x.inc, .int .i64 x.dep, .bool x.only, .int .i64 x.wt, .slice x.sA x.sn x.sc] ∧ 1 ≤ p ∧ (p ≤ 3 → FrP w wr.heap.size x rf),
        fun _ v _ => v = (.int .i64 rused),
        fun _ v _ => v = (.agg #[.bool ris, .int .i64 rst, .int .i64 rcode]),
        fun _ v _ => v = (.int .i64 rerr),
        fun p v w => ∃ b : Nat, v = .pointer (some ⟨b, 0, none⟩) ∧ wr.heap.size ≤ b ∧ (p ≤ 1 → w.heap[b]? = some (.cells #[.int .i64 0, .int .i64 0, .int .i64 0, .slice none 0 0, .int .i64 0, .int .u32 0, .int .i64 0, .int .i64 0, .int .i64 0, .bool false, .int .i64 0, .slice none 0 0] 49)),
        fun p v w => ∃ b : Nat, v = .pointer (some ⟨b, 0, none⟩) ∧ wr.heap.size ≤ b ∧ (p ≤ 2 → w.heap[b]? = some (.cells #[.bool false, .int .i64 0, .int .i64 0] 64)),
        fun _ v _ => True,
        fun _ v _ => v = (.int .i64 rused),
        fun _ v _ => True,
        fun _ v _ => v = (.int .i64 rerr)] (fun p a w => Kp [] wr w ∧ (2 ≤ p → ∃ b f, a.tmps[6]? = some (.pointer (some ⟨b, 0, none⟩)) ∧ wr.heap.size ≤ b ∧ w.heap[b]? = some (.cells #[.int .i64 f.ty, .int .i64 f.fl, .int .i64 f.st, .slice f.pA f.pn f.pc, .int .i64 f.pad, .int .u32 f.code, .int .i64 f.last, .int .i64 f.inc, .int .i64 f.dep, .bool f.only, .int .i64 f.wt, .slice f.sA f.sn f.sc] 49) ∧ FrP w wr.heap.size f rf) ∧ (3 ≤ p → ∃ b, a.tmps[8]? = some (.pointer (some ⟨b, 0, none⟩)) ∧ wr.heap.size ≤ b ∧ w.heap[b]? = some (.cells #[.bool ris, .int .i64 rst, .int .i64 rcode] 64))) (fun p w w' => (p = 0 ∧ Kp [] w w') ∨ (p = 1 ∧ StF rf w w') ∨ (p = 2 ∧ StX w w')) (fun w w' => Kp [] w w') [8, 16, 18] [14, 15] (by kernel_rfl) (by kernel_rfl) (by kernel_rfl) [6, 8] (fun k a a' w ht h => by have e6 := ht 6 (by simp); have e8 := ht 8 (by simp); rw [e6, e8]; exact h) (by kernel_rfl) (by decide) (by kernel_rfl) ⟨StabAt2.const _, StabAt2.const _, StabAt2.const _, StabAt2.const _, StabAt2.const _, StabAt2.const _, StabAt2.const _, StabAt2.const _, StabAt2.span (f := fun x : Fr => .tuple #[.agg #[.int .i64 x.ty, .int .i64 x.fl, .int .i64 x.st, .slice x.pA x.pn x.pc, .int .i64 x.pad, .int .u32 x.code, .int .i64 x.last, .int .i64 x.inc, .int .i64 x.dep, .bool x.only, .int .i64 x.wt, .slice x.sA x.sn x.sc], .int .i64 rused, .agg #[.bool ris, .int .i64 rst, .int .i64 rcode], .int .i64 rerr]) (by intro p x w w' h1 h2 h3 hR hG; exact FrP.rc hR hG HZZ.out) (by intro x w w' hR hG; exact hG.low hR (by simp) (Nat.le_refl _)), StabAt2.span (f := fun x : Fr => .tuple #[.agg #[.int .i64 x.ty, .int .i64 x.fl, .int .i64 x.st, .slice x.pA x.pn x.pc, .int .i64 x.pad, .int .u32 x.code, .int .i64 x.last, .int .i64 x.inc, .int .i64 x.dep, .bool x.only, .int .i64 x.wt, .slice x.sA x.sn x.sc], .int .i64 rused, .agg #[.bool ris, .int .i64 rst, .int .i64 rcode], .int .i64 rerr]) (by intro p x w w' h1 h2 h3 hR hG; exact FrP.rc hR hG HZZ.out) (by intro x w w' hR hG; exact hG.low hR (by simp) (Nat.le_refl _)), StabAt2.span (f := fun x : Fr => .agg #[.int .i64 x.ty, .int .i64 x.fl, .int .i64 x.st, .slice x.pA x.pn x.pc, .int .i64 x.pad, .int .u32 x.code, .int .i64 x.last, .int .i64 x.inc, .int .i64 x.dep, .bool x.only, .int .i64 x.wt, .slice x.sA x.sn x.sc]) (by intro p x w w' h1 h2 h3 hR hG; exact FrP.rc hR hG HZZ.out) (by intro x w w' hR hG; exact hG.low hR (by simp) (Nat.le_refl _)), StabAt2.const _, StabAt2.const _, StabAt2.const _, ⟨fun p v w w' h1 h2 hR ⟨b, e, h, hz⟩ => ⟨b, e, h, fun hp => RC0 (by omega) hR (hz (by omega))⟩, fun k v w w' hR ⟨b, e, h, hz⟩ => ⟨b, e, h, fun hp => hR.heap (hz hp) (by simp)⟩⟩, ⟨fun p v w w' h1 h2 hR ⟨b, e, h, hz⟩ => ⟨b, e, h, fun hp => RC1 (by omega) hR (hz (by omega))⟩, fun k v w w' hR ⟨b, e, h, hz⟩ => ⟨b, e, h, fun hp => hR.heap (hz hp) (by simp)⟩⟩, StabAt2.const _, StabAt2.const _, StabAt2.const _, StabAt2.const _, trivial⟩ (⟨(Kp.refl _ _).drew, fun h => by omega, fun h => by omega⟩) ⟨?_, ?_, ?_, ?_, ?_, ?_, ?_, ?_, ?_, ?_, ?_, ?_, ?_, ?_, ?_, ?_, ?_, ?_, ?_, ?_, trivial⟩ (by kernel_rfl) ?_
    · intro q9 a w E hC K hK
      have h1 : a.tmps[1]? = some (.pointer (some ⟨bx, 0, none⟩)) := (E.out 1 (by kernel_rfl)).trans rfl
      refine want_none rfl ?_
      have hb := hC.1.heap HB.out (by simp)
      have b0 := cell_of hb 0
      clear hb
      go_simp
      exact hK _ rfl
    · intro q9 a w E hC K hK
      obtain ⟨_, h22, rfl⟩ := E.pred 0 _ 22 rfl rfl (by kernel_rfl)
      refine want_none rfl ?_
      go_simp
      exact hK _ rfl
    · intro q9 a w E hC K hK
      obtain ⟨_, h23, rfl⟩ := E.pred 1 _ 23 rfl rfl (by kernel_rfl)
      refine want_none rfl ?_
      go_simp
      exact hK _ rfl
    · intro q9 a w E hC K hK
      obtain ⟨_, h24, rfl⟩ := E.pred 2 _ 24 rfl rfl (by kernel_rfl)
      refine want_none rfl ?_
      have hh := hC.1.heap HH.out (by simp)
      have h2 := cell_of hh 2
      have hl2 := lt_of_heap hh
      clear hh
      go_simp
      exact hK _ rfl
    · intro q9 a w E hC K hK
      have h1 : a.tmps[1]? = some (.pointer (some ⟨bx, 0, none⟩)) := (E.out 1 (by kernel_rfl)).trans rfl
      refine want_none rfl ?_
      have hb := hC.1.heap HB.out (by simp)
      have b0 := cell_of hb 0
      clear hb
      go_simp
      exact hK _ rfl
    · intro q9 a w E hC K hK
      obtain ⟨_, h26, rfl⟩ := E.pred 4 _ 26 rfl rfl (by kernel_rfl)
      refine want_none rfl ?_
      go_simp
      exact hK _ rfl
    · intro q9 a w E hC K hK
      obtain ⟨_, h27, rfl⟩ := E.pred 5 _ 27 rfl rfl (by kernel_rfl)
      refine want_none rfl ?_
      go_simp
      exact hK _ rfl
    · intro q9 a w E hC K hK
      obtain ⟨_, h28, rfl⟩ := E.pred 6 _ 28 rfl rfl (by kernel_rfl)
      refine want_none rfl ?_
      have hh := hC.1.heap HH.out (by simp)
      have h2 := cell_of hh 1
      have hl2 := lt_of_heap hh
      clear hh
      go_simp
      exact hK _ rfl
    · intro a w E hC K hK
      obtain ⟨_, h25, rfl⟩ := E.pred 3 _ 25 rfl rfl (by kernel_rfl)
      obtain ⟨_, h29, rfl⟩ := E.pred 7 _ 29 rfl rfl (by kernel_rfl)
      refine want_none rfl ?_
      have hrd := HO.out.rd.keep hC.1 (by simp)
      go_simp
      refine (Parse_any A n c l most w hrd (by omega)).mono ?_
      rw [HPS.out]
      rintro e w2 ⟨f, rfl, hf, K2⟩
      dsimp only at hf
      go_simp
      exact hK _ _ ⟨f, rfl, by omega, fun _ => hf.low (Kp.refl [] w2) (by simp) hC.1.size⟩ ⟨hC.1.trans K2, fun h => by omega, fun h => by omega⟩ (.inl ⟨rfl, K2⟩)
    · intro q9 a w E hC K hK
      obtain ⟨v8, h30, V8⟩ := E.pred 8 _ 30 rfl rfl (by kernel_rfl)
      replace V8 : (fun p v w => ∃ x : Fr, v = .tuple #[.agg #[.int .i64 x.ty, .int .i64 x.fl, .int .i64 x.st, .slice x.pA x.pn x.pc, .int .i64 x.pad, .int .u32 x.code, .int .i64 x.last, .int .i64 x.inc, .int .i64 x.dep, .bool x.only, .int .i64 x.wt, .slice x.sA x.sn x.sc], .int .i64 rused, .agg #[.bool ris, .int .i64 rst, .int .i64 rcode], .int .i64 rerr] ∧ 1 ≤ p ∧ (p ≤ 3 → FrP w wr.heap.size x rf)) q9 v8 w := V8
      obtain ⟨x8, rfl, hl8, hG8⟩ := V8
      refine want_none rfl ?_
      go_simp
      exact hK _ ⟨x8, rfl, hl8, hG8⟩
    · intro q9 a w E hC K hK
      obtain ⟨v9, h21, V9⟩ := E.pred 9 _ 21 rfl rfl (by kernel_rfl)
      replace V9 : (fun p v w => ∃ x : Fr, v = .tuple #[.agg #[.int .i64 x.ty, .int .i64 x.fl, .int .i64 x.st, .slice x.pA x.pn x.pc, .int .i64 x.pad, .int .u32 x.code, .int .i64 x.last, .int .i64 x.inc, .int .i64 x.dep, .bool x.only, .int .i64 x.wt, .slice x.sA x.sn x.sc], .int .i64 rused, .agg #[.bool ris, .int .i64 rst, .int .i64 rcode], .int .i64 rerr] ∧ 1 ≤ p ∧ (p ≤ 3 → FrP w wr.heap.size x rf)) q9 v9 w := V9
      obtain ⟨x9, rfl, hl9, hG9⟩ := V9
      refine want_none rfl ?_
      go_simp
      exact hK _ ⟨x9, rfl, hl9, hG9⟩
    · intro q9 a w E hC K hK
      obtain ⟨v9, h21, V9⟩ := E.pred 9 _ 21 rfl rfl (by kernel_rfl)
      replace V9 : (fun p v w => ∃ x : Fr, v = .tuple #[.agg #[.int .i64 x.ty, .int .i64 x.fl, .int .i64 x.st, .slice x.pA x.pn x.pc, .int .i64 x.pad, .int .u32 x.code, .int .i64 x.last, .int .i64 x.inc, .int .i64 x.dep, .bool x.only, .int .i64 x.wt, .slice x.sA x.sn x.sc], .int .i64 rused, .agg #[.bool ris, .int .i64 rst, .int .i64 rcode], .int .i64 rerr] ∧ 1 ≤ p ∧ (p ≤ 3 → FrP w wr.heap.size x rf)) q9 v9 w := V9
      obtain ⟨x9, rfl, hl9, hG9⟩ := V9
      refine want_none rfl ?_
      go_simp
      exact hK _ rfl
    · intro q9 a w E hC K hK
      obtain ⟨v9, h21, V9⟩ := E.pred 9 _ 21 rfl rfl (by kernel_rfl)
      replace V9 : (fun p v w => ∃ x : Fr, v = .tuple #[.agg #[.int .i64 x.ty, .int .i64 x.fl, .int .i64 x.st, .slice x.pA x.pn x.pc, .int .i64 x.pad, .int .u32 x.code, .int .i64 x.last, .int .i64 x.inc, .int .i64 x.dep, .bool x.only, .int .i64 x.wt, .slice x.sA x.sn x.sc], .int .i64 rused, .agg #[.bool ris, .int .i64 rst, .int .i64 rcode], .int .i64 rerr] ∧ 1 ≤ p ∧ (p ≤ 3 → FrP w wr.heap.size x rf)) q9 v9 w := V9
      obtain ⟨x9, rfl, hl9, hG9⟩ := V9
      refine want_none rfl ?_
      go_simp
      exact hK _ rfl
    · intro q9 a w E hC K hK
      obtain ⟨v9, h21, V9⟩ := E.pred 9 _ 21 rfl rfl (by kernel_rfl)
      replace V9 : (fun p v w => ∃ x : Fr, v = .tuple #[.agg #[.int .i64 x.ty, .int .i64 x.fl, .int .i64 x.st, .slice x.pA x.pn x.pc, .int .i64 x.pad, .int .u32 x.code, .int .i64 x.last, .int .i64 x.inc, .int .i64 x.dep, .bool x.only, .int .i64 x.wt, .slice x.sA x.sn x.sc], .int .i64 rused, .agg #[.bool ris, .int .i64 rst, .int .i64 rcode], .int .i64 rerr] ∧ 1 ≤ p ∧ (p ≤ 3 → FrP w wr.heap.size x rf)) q9 v9 w := V9
      obtain ⟨x9, rfl, hl9, hG9⟩ := V9
      refine want_none rfl ?_
      go_simp
      exact hK _ rfl
    · intro q9 a w E hC K hK
      refine want_none rfl ?_
      have hk := E.lim 1 16 _ rfl rfl (by kernel_rfl)
      go_simp
      exact hK _ _ ⟨w.heap.size, rfl, hC.1.size, fun _ => hp_new _ _ _ rfl⟩ ⟨hC.1.alloc _, fun h => by omega, fun h => by omega⟩ ((Kp.refl [] w).alloc _)
    · intro q9 a w E hC K hK
      refine want_none rfl ?_
      have hk := E.lim 1 16 _ rfl rfl (by kernel_rfl)
      go_simp
      exact hK _ _ ⟨w.heap.size, rfl, hC.1.size, fun _ => hp_new _ _ _ rfl⟩ ⟨hC.1.alloc _, fun h => by omega, fun h => by omega⟩ ((Kp.refl [] w).alloc _)
    · intro a w E hC K hK
      obtain ⟨v14, h6, V14⟩ := E.pred 14 _ 6 rfl rfl (by kernel_rfl)
      replace V14 : (fun p v w => ∃ b : Nat, v = .pointer (some ⟨b, 0, none⟩) ∧ wr.heap.size ≤ b ∧ (p ≤ 1 → w.heap[b]? = some (.cells #[.int .i64 0, .int .i64 0, .int .i64 0, .slice none 0 0, .int .i64 0, .int .u32 0, .int .i64 0, .int .i64 0, .int .i64 0, .bool false, .int .i64 0, .slice none 0 0] 49))) 1 v14 w := V14
      obtain ⟨b14, rfl, hl14, hG14⟩ := V14
      obtain ⟨v10, h31, V10⟩ := E.pred 10 _ 31 rfl rfl (by kernel_rfl)
      replace V10 : (fun p v w => ∃ x : Fr, v = .agg #[.int .i64 x.ty, .int .i64 x.fl, .int .i64 x.st, .slice x.pA x.pn x.pc, .int .i64 x.pad, .int .u32 x.code, .int .i64 x.last, .int .i64 x.inc, .int .i64 x.dep, .bool x.only, .int .i64 x.wt, .slice x.sA x.sn x.sc] ∧ 1 ≤ p ∧ (p ≤ 3 → FrP w wr.heap.size x rf)) 1 v10 w := V10
      obtain ⟨x10, rfl, hl10, hG10⟩ := V10
      refine want_none rfl ?_
      have hz := hG14 (by omega)
      have HZ := Lib.hid hz
      have HF10 := Lib.hid (hG10 (by omega))
      obtain ⟨q0, q1, q2, q3, q4, q5, q6, q7, q8, q9, q10, q11, qz, qlt, qlt2⟩ := cellsF hz
      clear hz hG10 hG14
      go_simp
      generalize hW : World.setCell _ _ _ = w2
      obtain ⟨hs1, hs2⟩ : w2.heap[b14]? = some (.cells #[.int .i64 x10.ty, .int .i64 x10.fl, .int .i64 x10.st, .slice x10.pA x10.pn x10.pc, .int .i64 x10.pad, .int .u32 x10.code, .int .i64 x10.last, .int .i64 x10.inc, .int .i64 x10.dep, .bool x10.only, .int .i64 x10.wt, .slice x10.sA x10.sn x10.sc] 49) ∧ Kp [b14] w w2 := by rw [← hW]; exact set12 HZ.out
      have hst : StF rf w w2 := ⟨b14, x10, HZ.out, hs1, hs2, HF10.out.cs.2.2.2.1, HF10.out.cs.2.2.2.2.1⟩
      exact hK undef _ trivial ⟨hC.1.then hs2 (by simp; omega), fun _ => ⟨b14, x10, h6, hl14, hs1, HF10.out.stF hst HZZ.out⟩, fun h => by omega⟩ (.inr (.inl ⟨rfl, hst⟩))
    · intro q9 a w E hC K hK
      obtain ⟨_, h32, rfl⟩ := E.pred 11 _ 32 rfl rfl (by kernel_rfl)
      refine want_none rfl ?_
      go_simp
      exact hK _ rfl
    · intro a w E hC K hK
      obtain ⟨v15, h8, V15⟩ := E.pred 15 _ 8 rfl rfl (by kernel_rfl)
      replace V15 : (fun p v w => ∃ b : Nat, v = .pointer (some ⟨b, 0, none⟩) ∧ wr.heap.size ≤ b ∧ (p ≤ 2 → w.heap[b]? = some (.cells #[.bool false, .int .i64 0, .int .i64 0] 64))) 2 v15 w := V15
      obtain ⟨b15, rfl, hl15, hG15⟩ := V15
      obtain ⟨_, h33, rfl⟩ := E.pred 12 _ 33 rfl rfl (by kernel_rfl)
      refine want_none rfl ?_
      have hz := hG15 (by omega)
      have HZ := Lib.hid hz
      have x0 := cell_of hz 0
      have x1 := cell_of hz 1
      have x2 := cell_of hz 2
      have xz := frozen_of hz
      have xl := lt_of_heap hz
      have HC2 := Lib.hid (hC.2.1 (by omega))
      clear hz hG15
      go_simp
      generalize hW : World.setCell _ _ _ = w2
      obtain ⟨hs1, hs2⟩ : w2.heap[b15]? = some (.cells #[.bool ris, .int .i64 rst, .int .i64 rcode] 64) ∧ Kp [b15] w w2 := by rw [← hW]; exact set3 HZ.out
      have hst : StX w w2 := ⟨b15, HZ.out, hs2⟩
      exact hK undef _ trivial ⟨hC.1.then hs2 (by simp; omega), fun _ => by obtain ⟨b, f, e6, hb, hf, hp⟩ := HC2.out; exact ⟨b, f, e6, hb, hs2.heap hf (by intro h; simp at h; subst h; have := hf.symm.trans HZ.out; simp at this), hp.stX hst⟩, fun _ => ⟨b15, h8, hl15, hs1⟩⟩ (.inr (.inr ⟨rfl, hst⟩))
    · intro q9 a w E hC K hK
      obtain ⟨_, h34, rfl⟩ := E.pred 13 _ 34 rfl rfl (by kernel_rfl)
      refine want_none rfl ?_
      go_simp
      exact hK _ rfl

    intro vs w8 hC hV
    obtain ⟨b6, f6, e6, hb6, hf6, hp6⟩ := hC.2.1 (by simp)
    obtain ⟨b8, e8, hb8, hf8⟩ := hC.2.2 (by simp)
    have h17 : vs 17 = .int .i64 rused := hV 17 _ rfl (by simp)
    have h19 : vs 19 = .int .i64 rerr := hV 19 _ rfl (by simp)
    obtain ⟨c14, h14, _⟩ := hV 14 _ rfl (by simp)
    obtain ⟨c15, h15, _⟩ := hV 15 _ rfl (by simp)
    have KK := hC.1
    have HB8 := Lib.hid (KK.heap HB.out (by simp))
    have HX2L := Lib.hid (lt_of_heap HX1.out)
    have HH8 := Lib.hid (KK.heap HH.out (by simp))
    have HF8 := Lib.hid (KK.heap HF1.out (by simp))
    have HX8 := Lib.hid (KK.heap HX1.out (by simp))
    have HO8 := Lib.hid (HO.out.keep KK (by simp))
    have HG8 := Lib.hid hf6
    have HP8 := Lib.hid hp6
    have HY8 := Lib.hid hf8
    subst hbx
    have K8T := Lib.hid (show ∃ T, (∀ t, t ∈ T → t = g ∨ t ∈ D) ∧ Kp T w w8 from HKT.out.imp fun T h => ⟨h.1, h.2.trans KK.nil⟩)
    have K81 := Lib.hid (show ∃ T, (∀ t, t ∈ T → t = g ∨ t ∈ D) ∧ Kp T w1 w8 from HKT1.out.imp fun T h => ⟨h.1, h.2.trans KK.nil⟩)
    have hsz : w.heap.size ≤ wr.heap.size := by obtain ⟨T, _, h⟩ := HKT.out; exact h.size
    have hsz8 := KK.size
    simp only [putAll, Act.put, List.setIfInBounds_toArray]
    dsimp only [List.set]
    simp only [putAll, Act.put, List.setIfInBounds_toArray] at e6 e8
    dsimp only [List.set] at e6 e8
    rw [h14] at e6
    rw [h15] at e8
    have e14 : Value.pointer (some ⟨c14, 0, none⟩) = .pointer (some ⟨b6, 0, none⟩) := Option.some.inj e6
    have e15 : Value.pointer (some ⟨c15, 0, none⟩) = .pointer (some ⟨b8, 0, none⟩) := Option.some.inj e8
    rw [h14, h15, h17, h19, e14, e15]
    clear hV hC e6 e8 e14 e15 h14 h15 h17 h19 hf6 hf8 hp6 HB HH HF1 HX1 HO b0 bl c3 cl
    by_cases herr : rerr = 0
    · subst herr
      have hpu := ps_used l most (by rw [HPS.out])
      rw [HPS.out] at hpu
      dsimp only at hpu
      obtain ⟨g0, g1, g2, g3, g4, g5, g6, g7, g8, g9, g10, g11, gz, glt, glt2⟩ := cellsF HG8.out
      have y0 := cell_of HY8.out 0
      have y1 := cell_of HY8.out 1
      have y2 := cell_of HY8.out 2
      have yz := frozen_of HY8.out
      have yl := lt_of_heap HY8.out
      obtain ⟨q0, q1, q2, q3, q4, q5, q6, q7, q8, q9, q10, q11, qz, qlt, qlt2⟩ := cellsF HF8.out
      have x0 := cell_of HX8.out 0
      have x1 := cell_of HX8.out 1
      have x2 := cell_of HX8.out 2
      have xz := frozen_of HX8.out
      have p0 := cell_of HB8.out 0
      have pl := lt_of_heap HB8.out
      have r2 := cell_of HH8.out 2
      have r3 := cell_of HH8.out 3
      have r4 := cell_of HH8.out 4
      have r5 := cell_of HH8.out 5
      have rz := frozen_of HH8.out
      have rl := lt_of_heap HH8.out
      rcases bcase3 ris with his | his
      · subst his
        have hpu2 : 9 ≤ rused ∧ rused ≤ (l.length : Int) := by rcases hpu with ⟨h, _⟩ | h; cases h; exact h
        clear hpu
        obtain ⟨U, rfl⟩ := Int.eq_ofNat_of_zero_le (show 0 ≤ rused by omega)
        obtain ⟨ga, rfl, hga1, hga2, _, _, _⟩ := HO8.out.of (by omega)
        have hgw : ga < w.heap.size := HD.out ga (HRB.out ga (by simp [ob]))
        have hga : ¬ g = ga := by simpa [ob] using hgA
        go_wp2_with fail
        refine (RdPass g ga w.heap.size 0 U (by omega) n c (by omega) l most false xs xc w8 HB8.out (by omega) (by omega) HH8.out hga HO8.out).mono ?_
        rintro e w9 ⟨rfl, hh9, ho9, K9p⟩
        have HH9 := Lib.hid hh9
        have HO9 := Lib.hid ho9
        have HFs := Lib.hid (K9p.heap HF8.out (by simp; omega))
        have HXs := Lib.hid (K9p.heap HX8.out (by simp; omega))
        have HBs := Lib.hid (K9p.heap HB8.out (by simp; omega))
        have HGs := Lib.hid (K9p.heap HG8.out (by simp; omega))
        have HYs := Lib.hid (K9p.heap HY8.out (by simp; omega))
        have HPs := Lib.hid (HP8.out.low K9p (by simp; omega) (Nat.le_refl _))
        have hsz9 := K9p.size
        have hx2 : w.heap.size + 1 + 1 < wr.heap.size := by have := HX2L.out; exact this
        have KXT := Lib.hid (show ∃ T, (∀ t, t ∈ T → t = g ∨ t ∈ D) ∧ Kp T w w9 from K8T.out.imp' (fun T => g :: ga :: T) fun T h => ⟨fun t ht => by rcases List.mem_cons.1 ht with e | e; exact .inl e; rcases List.mem_cons.1 e with e | e; subst e; exact .inr (HRB.out _ (by simp [ob])); exact h.1 t e, (h.2.mono (fun s hs => .inl (by simp [hs]))).trans (K9p.mono (fun s hs => .inl (by simp at hs; rcases hs with e | e <;> simp [e])))⟩)
        have KX1 := Lib.hid (show ∃ T, (∀ t, t ∈ T → t = g ∨ t ∈ D) ∧ Kp T w1 w9 from K81.out.imp' (fun T => g :: ga :: T) fun T h => ⟨fun t ht => by rcases List.mem_cons.1 ht with e | e; exact .inl e; rcases List.mem_cons.1 e with e | e; subst e; exact .inr (HRB.out _ (by simp [ob])); exact h.1 t e, (h.2.mono (fun s hs => .inl (by simp [hs]))).trans (K9p.mono (fun s hs => .inl (by simp at hs; rcases hs with e | e <;> simp [e])))⟩)
        clear q0 q1 q2 q3 q4 q5 q6 q7 q8 q9 q10 q11 qz qlt qlt2 x0 x1 x2 xz g0 g1 g2 g3 g4 g5 g6 g7 g8 g9 g10 g11 gz glt glt2 y0 y1 y2 yz yl p0 pl r2 r3 r4 r5 rz rl hh9 ho9 K9p HF8 HX8 HB8 HG8 HY8 HP8 HH8 HO8
        obtain ⟨q0, q1, q2, q3, q4, q5, q6, q7, q8, q9, q10, q11, qz, qlt, qlt2⟩ := cellsF HFs.out
        have x0 := cell_of HXs.out 0
        have x1 := cell_of HXs.out 1
        have x2 := cell_of HXs.out 2
        have xz := frozen_of HXs.out
        obtain ⟨g0, g1, g2, g3, g4, g5, g6, g7, g8, g9, g10, g11, gz, glt, glt2⟩ := cellsF HGs.out
        have y0 := cell_of HYs.out 0
        have y1 := cell_of HYs.out 1
        have y2 := cell_of HYs.out 2
        have yl := lt_of_heap HYs.out
        have p0 := cell_of HBs.out 0
        have pl := lt_of_heap HBs.out
        go_wp2_with fail
        refine (Known_any f6.ty _).mono ?_
        rintro e w10 ⟨rfl, rfl⟩
        have hty : f6.ty = rf.ty := HPs.out.cs.1
        rcases bcase3 (knownB f6.ty) with hkn | hkn
        · rw [hkn]
          have HKN := Lib.hid (show known rf.ty = false by rw [← hty]; exact hkn)
          clear hkn hty
          go_wp2
          go_roundw
          case rel => exact ⟨l.drop U, some ⟨ga, 0, none⟩, n - U, c, HSK.out.trans (.step (by rw [HPS.out]) (by rw [HPS.out]) (by rw [HPS.out]; exact HKN.out) (by rw [HPS.out]; exact .refl _)), HH9.out, HO9.out, by simpa [ob] using hga, HRB.out, by simp; omega, KX1.out⟩
          case measure =>
            unfold lenAt
            rw [cell_of HH9.out 2, cell_of HHr.out 2]
            show n - U < n
            omega
        · rw [hkn]
          have HKN := Lib.hid (show known rf.ty = true by rw [← hty]; exact hkn)
          clear hkn hty
          go_wp2
          go_region
          go_wp2
          rw [Exit.noGoto_ret]
          generalize hW : World.setCell _ _ _ = W
          obtain ⟨HF9, HX9, K9⟩ : W.heap[w.heap.size + 1]? = some (.cells #[.int .i64 f6.ty, .int .i64 f6.fl, .int .i64 f6.st, .slice f6.pA f6.pn f6.pc, .int .i64 f6.pad, .int .u32 f6.code, .int .i64 f6.last, .int .i64 f6.inc, .int .i64 f6.dep, .bool f6.only, .int .i64 f6.wt, .slice f6.sA f6.sn f6.sc] 49) ∧ W.heap[w.heap.size + 1 + 1]? = some (.cells #[.bool false, .int .i64 rst, .int .i64 rcode] 64) ∧ Kp [w.heap.size + 1, w.heap.size + 1 + 1] w9 W := by rw [← hW]; exact set15 (by omega) HFs.out HXs.out
          refine bodyPost_ret (v := .tuple #[.agg #[.int .i64 f6.ty, .int .i64 f6.fl, .int .i64 f6.st, .slice f6.pA f6.pn f6.pc, .int .i64 f6.pad, .int .u32 f6.code, .int .i64 f6.last, .int .i64 f6.inc, .int .i64 f6.dep, .bool f6.only, .int .i64 f6.wt, .slice f6.sA f6.sn f6.sc], .bool true, .agg #[.bool false, .int .i64 rst, .int .i64 rcode]]) (by simp [results, Try.results103, go_sem, cell_of HF9, cell_of HX9]) rfl ⟨l, HSK.out, ?_, ?_⟩
          · obtain ⟨T, hT, KT⟩ := KXT.out
            exact ((KT.mono (fun t ht => .inl (List.mem_cons.2 (hT t ht)))).then K9 (by intro t ht; simp at ht; right; omega)).drew
          · rw [HPS.out]
            exact .inr (.inr (.inr ⟨rfl, rfl, HKN.out, f6, rfl, HPs.out.low K9.drew (by simp; omega) (by omega), ⟨some ⟨ga, 0, none⟩, n - U, c, K9.heap HH9.out (by simp; omega), (HO9.out.keep K9 (by intro t h1 h2; simp [ob] at h1; simp at h2; omega)).keep (Kp.refl [] W).drew (by simp), by simpa [ob] using hga, HRB.out⟩⟩))
      · subst his
        by_cases hst : rst = 0
        · subst hst
          go_wp2
          have Kst : Kp [g] w8 (World.setCell (World.setCell (World.setCell w8 ⟨g, 3, none⟩ (.bool true)) ⟨g, 4, none⟩ (.int .i64 0)) ⟨g, 5, none⟩ (.int .i64 rcode)) := (((Kp.refl _ _).setCell (.inl (by simp)) _).setCell (.inl (by simp)) _).setCell (.inl (by simp)) _
          have HHs := Lib.hid (show ((World.setCell (World.setCell (World.setCell w8 ⟨g, 3, none⟩ (.bool true)) ⟨g, 4, none⟩ (.int .i64 0)) ⟨g, 5, none⟩ (.int .i64 rcode)) : World).heap[g]? = some (.cells #[.bool true, .int .i64 most, .slice A n c, .bool true, .int .i64 0, .int .i64 rcode] 148) from hp_set _ _ _ _ _ _ (hp_set _ _ _ _ _ _ (hp_set _ _ _ _ _ _ HH8.out)))
          have HFs := Lib.hid (Kst.heap HF8.out (by simp; omega))
          have HXs := Lib.hid (Kst.heap HX8.out (by simp; omega))
          have HBs := Lib.hid (Kst.heap HB8.out (by simp; omega))
          have HOs := Lib.hid (HO8.out.keep Kst (by intro t h1 h2; simp at h2; subst h2; exact hgA h1))
          have KXT := Lib.hid (show ∃ T, (∀ t, t ∈ T → t = g ∨ t ∈ D) ∧ Kp T w (World.setCell (World.setCell (World.setCell w8 ⟨g, 3, none⟩ (.bool true)) ⟨g, 4, none⟩ (.int .i64 0)) ⟨g, 5, none⟩ (.int .i64 rcode)) from K8T.out.imp' (g :: ·) fun T h => ⟨fun t ht => by rcases List.mem_cons.1 ht with e | e; exact .inl e; exact h.1 t e, (h.2.mono (fun s hs => .inl (List.mem_cons_of_mem _ hs))).trans (Kst.mono (fun s hs => .inl (by simp at hs; simp [hs])))⟩)
          clear q0 q1 q2 q3 q4 q5 q6 q7 q8 q9 q10 q11 qz qlt qlt2 x0 x1 x2 xz g0 g1 g2 g3 g4 g5 g6 g7 g8 g9 g10 g11 gz glt glt2 y0 y1 y2 yz yl p0 pl r2 r3 r4 r5 rz rl
          generalize hW : (World.setCell (World.setCell (World.setCell w8 ⟨g, 3, none⟩ (.bool true)) ⟨g, 4, none⟩ (.int .i64 0)) ⟨g, 5, none⟩ (.int .i64 rcode)) = wX at *
          clear hW
          obtain ⟨q0, q1, q2, q3, q4, q5, q6, q7, q8, q9, q10, q11, qz, qlt, qlt2⟩ := cellsF HFs.out
          have x0 := cell_of HXs.out 0
          have x1 := cell_of HXs.out 1
          have x2 := cell_of HXs.out 2
          have xz := frozen_of HXs.out
          have p0 := cell_of HBs.out 0
          have pl := lt_of_heap HBs.out
          have r3 := cell_of HHs.out 3
          have r4 := cell_of HHs.out 4
          have r5 := cell_of HHs.out 5
          have rl := lt_of_heap HHs.out
          go_region
          go_wp2
          rw [Exit.noGoto_ret]
          generalize hW : World.setCell _ _ _ = W
          obtain ⟨HF9, HX9, K9⟩ : W.heap[w.heap.size + 1]? = some (.cells #[.int .i64 0, .int .i64 0, .int .i64 0, .slice none 0 0, .int .i64 0, .int .u32 0, .int .i64 0, .int .i64 0, .int .i64 0, .bool false, .int .i64 0, .slice none 0 0] 49) ∧ W.heap[w.heap.size + 1 + 1]? = some (.cells #[.bool true, .int .i64 0, .int .i64 rcode] 64) ∧ Kp [w.heap.size + 1, w.heap.size + 1 + 1] wX W := by rw [← hW]; exact set15 (by omega) HFs.out HXs.out
          refine bodyPost_ret (v := .tuple #[.agg #[.int .i64 0, .int .i64 0, .int .i64 0, .slice none 0 0, .int .i64 0, .int .u32 0, .int .i64 0, .int .i64 0, .int .i64 0, .bool false, .int .i64 0, .slice none 0 0], .bool false, .agg #[.bool true, .int .i64 0, .int .i64 rcode]]) (by simp [results, Try.results103, go_sem, cell_of HF9, cell_of HX9]) rfl ⟨l, HSK.out, ?_, ?_⟩
          · obtain ⟨T, hT, KT⟩ := KXT.out
            exact ((KT.mono (fun t ht => .inl (List.mem_cons.2 (hT t ht)))).then K9 (by intro t ht; simp at ht; right; omega)).drew
          · rw [HPS.out]
            exact .inr (.inl ⟨rfl, rfl, rfl, rfl, ⟨A, n, c, (K9.heap HHs.out (by simp; omega)), (HOs.out.keep K9 (by intro t h1 h2; have := HD.out t (HRB.out t h1); simp at h2; omega)).keep (Kp.refl [] W).drew (by simp), hgA, HRB.out⟩⟩)
        · have hsb : (rst == 0) = false := by simpa using hst
          have hpu2 : 9 ≤ rused ∧ rused ≤ (l.length : Int) := by rcases hpu with ⟨_, h⟩ | h; exact absurd h hst; exact h
          clear hpu
          obtain ⟨U, rfl⟩ := Int.eq_ofNat_of_zero_le (show 0 ≤ rused by omega)
          obtain ⟨ga, rfl, hga1, hga2, _, _, _⟩ := HO8.out.of (by omega)
          have hgw : ga < w.heap.size := HD.out ga (HRB.out ga (by simp [ob]))
          have hga : ¬ g = ga := by simpa [ob] using hgA
          go_wp2_with fail
          refine (RdPass g ga w.heap.size 0 U (by omega) n c (by omega) l most false xs xc w8 HB8.out (by omega) (by omega) HH8.out hga HO8.out).mono ?_
          rintro e w9 ⟨rfl, hh9, ho9, K9p⟩
          have HH9 := Lib.hid hh9
          have HO9 := Lib.hid ho9
          have HFs := Lib.hid (K9p.heap HF8.out (by simp; omega))
          have HXs := Lib.hid (K9p.heap HX8.out (by simp; omega))
          have HBs := Lib.hid (K9p.heap HB8.out (by simp; omega))
          have HGs := Lib.hid (K9p.heap HG8.out (by simp; omega))
          have HYs := Lib.hid (K9p.heap HY8.out (by simp; omega))
          have HPs := Lib.hid (HP8.out.low K9p (by simp; omega) (Nat.le_refl _))
          have hsz9 := K9p.size
          have hx2 : w.heap.size + 1 + 1 < wr.heap.size := by have := HX2L.out; exact this
          have KXT := Lib.hid (show ∃ T, (∀ t, t ∈ T → t = g ∨ t ∈ D) ∧ Kp T w w9 from K8T.out.imp' (fun T => g :: ga :: T) fun T h => ⟨fun t ht => by rcases List.mem_cons.1 ht with e | e; exact .inl e; rcases List.mem_cons.1 e with e | e; subst e; exact .inr (HRB.out _ (by simp [ob])); exact h.1 t e, (h.2.mono (fun s hs => .inl (by simp [hs]))).trans (K9p.mono (fun s hs => .inl (by simp at hs; rcases hs with e | e <;> simp [e])))⟩)
          have KX1 := Lib.hid (show ∃ T, (∀ t, t ∈ T → t = g ∨ t ∈ D) ∧ Kp T w1 w9 from K81.out.imp' (fun T => g :: ga :: T) fun T h => ⟨fun t ht => by rcases List.mem_cons.1 ht with e | e; exact .inl e; rcases List.mem_cons.1 e with e | e; subst e; exact .inr (HRB.out _ (by simp [ob])); exact h.1 t e, (h.2.mono (fun s hs => .inl (by simp [hs]))).trans (K9p.mono (fun s hs => .inl (by simp at hs; rcases hs with e | e <;> simp [e])))⟩)
          clear q0 q1 q2 q3 q4 q5 q6 q7 q8 q9 q10 q11 qz qlt qlt2 x0 x1 x2 xz g0 g1 g2 g3 g4 g5 g6 g7 g8 g9 g10 g11 gz glt glt2 y0 y1 y2 yz yl p0 pl r2 r3 r4 r5 rz rl hh9 ho9 K9p HF8 HX8 HB8 HG8 HY8 HP8 HH8 HO8
          obtain ⟨q0, q1, q2, q3, q4, q5, q6, q7, q8, q9, q10, q11, qz, qlt, qlt2⟩ := cellsF HFs.out
          have x0 := cell_of HXs.out 0
          have x1 := cell_of HXs.out 1
          have x2 := cell_of HXs.out 2
          have xz := frozen_of HXs.out
          obtain ⟨g0, g1, g2, g3, g4, g5, g6, g7, g8, g9, g10, g11, gz, glt, glt2⟩ := cellsF HGs.out
          have y0 := cell_of HYs.out 0
          have y1 := cell_of HYs.out 1
          have y2 := cell_of HYs.out 2
          have yl := lt_of_heap HYs.out
          have p0 := cell_of HBs.out 0
          have pl := lt_of_heap HBs.out
          go_wp2
          go_region
          go_wp2
          rw [Exit.noGoto_ret]
          generalize hW : World.setCell _ _ _ = W
          obtain ⟨HF9, HX9, K9⟩ : W.heap[w.heap.size + 1]? = some (.cells #[.int .i64 0, .int .i64 0, .int .i64 0, .slice none 0 0, .int .i64 0, .int .u32 0, .int .i64 0, .int .i64 0, .int .i64 0, .bool false, .int .i64 0, .slice none 0 0] 49) ∧ W.heap[w.heap.size + 1 + 1]? = some (.cells #[.bool true, .int .i64 rst, .int .i64 rcode] 64) ∧ Kp [w.heap.size + 1, w.heap.size + 1 + 1] w9 W := by rw [← hW]; exact set15 (by omega) HFs.out HXs.out
          refine bodyPost_ret (v := .tuple #[.agg #[.int .i64 0, .int .i64 0, .int .i64 0, .slice none 0 0, .int .i64 0, .int .u32 0, .int .i64 0, .int .i64 0, .int .i64 0, .bool false, .int .i64 0, .slice none 0 0], .bool false, .agg #[.bool true, .int .i64 rst, .int .i64 rcode]]) (by simp [results, Try.results103, go_sem, cell_of HF9, cell_of HX9]) rfl ⟨l, HSK.out, ?_, ?_⟩
          · obtain ⟨T, hT, KT⟩ := KXT.out
            exact ((KT.mono (fun t ht => .inl (List.mem_cons.2 (hT t ht)))).then K9 (by intro t ht; simp at ht; right; omega)).drew
          · rw [HPS.out]
            exact .inr (.inr (.inl ⟨rfl, rfl, hst, rfl, ⟨some ⟨ga, 0, none⟩, n - U, c, K9.heap HH9.out (by simp; omega), (HO9.out.keep K9 (by intro t h1 h2; simp [ob] at h1; simp at h2; omega)).keep (Kp.refl [] W).drew (by simp), by simpa [ob] using hga, HRB.out⟩⟩))
    · have hez : (rerr != 0) = true := by simpa using herr
      obtain ⟨q0, q1, q2, q3, q4, q5, q6, q7, q8, q9, q10, q11, qz, qlt, qlt2⟩ := cellsF HF8.out
      have x0 := cell_of HX8.out 0
      have x1 := cell_of HX8.out 1
      have x2 := cell_of HX8.out 2
      have xz := frozen_of HX8.out
      go_wp2
      try rw [Exit.noGoto_ret]
      generalize hW : World.setCell _ _ _ = W
      obtain ⟨HF9, HX9, K9⟩ : W.heap[w.heap.size + 1]? = some (.cells #[.int .i64 0, .int .i64 0, .int .i64 0, .slice none 0 0, .int .i64 0, .int .u32 0, .int .i64 0, .int .i64 0, .int .i64 0, .bool false, .int .i64 0, .slice none 0 0] 49) ∧ W.heap[w.heap.size + 1 + 1]? = some (.cells #[.bool false, .int .i64 0, .int .i64 0] 64) ∧ Kp [w.heap.size + 1, w.heap.size + 1 + 1] w8 W := by rw [← hW]; exact set15 (by omega) HF8.out HX8.out
      refine bodyPost_ret (v := .tuple #[.agg #[.int .i64 0, .int .i64 0, .int .i64 0, .slice none 0 0, .int .i64 0, .int .u32 0, .int .i64 0, .int .i64 0, .int .i64 0, .bool false, .int .i64 0, .slice none 0 0], .bool false, .agg #[.bool false, .int .i64 0, .int .i64 0]]) (by simp [results, Try.results103, go_sem, cell_of HF9, cell_of HX9]) rfl ⟨l, HSK.out, ?_, ?_⟩
      · obtain ⟨T, hT, KT⟩ := K8T.out
        exact ((KT.mono (fun t ht => .inl (List.mem_cons.2 (hT t ht)))).then K9 (by intro t ht; simp at ht; right; omega))
      · rw [HPS.out]
        exact .inl ⟨herr, rfl, ⟨A, n, c, (K9.heap HH8.out (by simp; omega)), (HO8.out.keep K9 (by intro t h1 h2; have := HD.out t (HRB.out t h1); simp at h2; omega)), hgA, HRB.out⟩⟩
end Go.Proofs.Ytkmcakneceagpaa
