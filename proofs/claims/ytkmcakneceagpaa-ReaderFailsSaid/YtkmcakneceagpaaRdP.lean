/- The program's reader: what was told of is passed. -/
import Derived.Test.YtkmcakneceagpaaRdN
import Derived.Test.YtkmcakneceagpaaReg3
import Derived.Laws.CopyOwn
set_option linter.unusedVariables false
set_option linter.unusedSimpArgs false
set_option linter.unusedSimpArgs false
namespace Go.Proofs.Ytkmcakneceagpaa
open Go.RowKit
/-- a row's bytes from place u on are laid to its beginning -/
theorem op_down {P : Program} {w : World} {ops : Array Oper} {o : Oper} {a : Act} {K : Act → World → Prop} {Q : Exit → Act → World → Prop} {E : Prop} (hgd : o.guard = none) (d s : Operand) (t e : TypeId)
    (ho : o.op = .call { callee := .builtin .copy, args := #[d, s], argTypes := #[t, t] }) (ht : P.underlying t = some (.slice e)) (hi : (P.info? e).map (fun i => (i.zero, i.size, i.bytes)) = some (some (.int .u8 0), 1, 1))
    (base : Nat) (A : Option Addr) (n c : Nat) (l : List UInt8) (HO : Ow w base e 1 A n c (l.map u8)) (u : Nat) (hu0 : 0 < u) (hu : u ≤ n) (hd : a.eval d = .slice A n c) (A' : Option Addr) (hs : a.eval s = .slice A' (n - u) (c - u))
    (hA' : ∀ b off, A = some ⟨b, off, none⟩ → ¬ c = u → A' = some ⟨b, off + u, none⟩)
    (h : ∀ w', Ow w' base e 1 A (n - u) c ((l.drop u).map u8) → Kp (ob A) w w' → K (a.put o.dst (.int .i64 ((n - u : Nat) : Int))) w') :
    if Region.wanted o (yielded ops a.tmps) = true then Oper.wp P o a w K Q else E := by
  have hw : Region.wanted o (yielded ops a.tmps) = true := by simp [Region.wanted, hgd]
  rw [if_pos hw]
  have hsz : (P.info? e).map (·.size) = some 1 := by
    obtain ⟨i, h1, _, h2, _⟩ := info_parts hi
    rw [h1]; simp [h2]
  have hln : l.length = n := by have := HO.len; simpa using this
  have hcs : ((l.drop u).map u8).length = n - u := by simp [hln]
  rcases HO.2 with ⟨he, h0⟩ | ⟨g, cap, cur, he, hb, hg, h1, h2, h3, h4⟩
  · omega
  · injection he with e1 _ e3
    subst e1 e3
    by_cases h0 : n - u = 0
    · have hrun := run_copy_none (P := P) w t t o.type e (some ⟨g, 0, none⟩) A' n c (n - u) (c - u) ht hsz (by simp [h0])
      have hO : Ow w base e 1 (some ⟨g, 0, none⟩) (n - u) c ((l.drop u).map u8) := ⟨by rw [hcs]; omega, .inr ⟨g, c, cur, rfl, hb, hg, by omega, h2, h3, by rw [h0]; simp; omega⟩⟩
      have hk := h w hO (Kp.refl _ _)
      rw [h0] at hk
      unfold Oper.wp
      simp [execOp, ho, resolve, invoke, builtin, hd, hs, hrun, Result.andThen]
      exact hk
    · obtain rfl := hA' g 0 rfl (by omega)
      have hcell : ∀ j v, ((l.drop u).map u8)[j]? = some v → w.cell? ((⟨g, 0 + u, none⟩ : Addr).add j) = some v := by
        intro j v hv
        have hadd : (⟨g, 0 + u, none⟩ : Addr).add j = ⟨g, 0 + u + j, none⟩ := by unfold Addr.add; split <;> simp_all
        rw [hadd, cell_of hg, ← Array.getElem?_toList]
        have hj : j < n - u := by have := (List.getElem?_eq_some_iff.1 hv).1; omega
        have h5 : (cur.toList.take (n * 1))[0 + u + j]? = cur.toList[0 + u + j]? := by rw [List.getElem?_take, if_pos (by omega)]
        rw [← h5, h4, Nat.zero_add]
        rw [List.map_drop, List.getElem?_drop] at hv
        exact hv
      have hrun := run_copy_row (P := P) w t t o.type e g 0 n c ⟨g, 0 + u, none⟩ (n - u) (c - u) cur e ((l.drop u).map u8) ht hsz hg (by rw [hcs]; show n - u = min (n - u) n; omega) hcell (by rw [hcs]; have := h3; omega) (u8_one _)
      rw [Nat.zero_add] at hrun hs
      obtain ⟨W, hW⟩ : ∃ W, W = w.setRow g (cur.toList.take 0 ++ (l.drop u).map u8 ++ cur.toList.drop (0 + ((l.drop u).map u8).length)).toArray := ⟨_, rfl⟩
      have hH : W.heap[g]? = some (.cells (cur.toList.take 0 ++ (l.drop u).map u8 ++ cur.toList.drop (0 + ((l.drop u).map u8).length)).toArray e (0, 0)) := by rw [hW]; exact setRow_heap w g _ _ e _ hg
      have hO : Ow W base e 1 (some ⟨g, 0, none⟩) (n - u) c ((l.drop u).map u8) := ⟨by rw [hcs]; omega, .inr ⟨g, c, _, rfl, hb, hH, by omega, h2, by simp only [List.size_toArray, List.length_append, List.length_take, List.length_drop, hcs]; have h3' := h3; simp only [Array.length_toList]; omega, by simp only [List.take_zero, List.nil_append]; rw [Nat.mul_one, List.take_append_of_le_length (by omega), List.take_of_length_le (by omega)]⟩⟩
      have hK : Kp (ob (some ⟨g, 0, none⟩)) w W := by rw [hW]; exact (Kp.refl _ _).setRow (.inl (by simp [ob])) _
      have hk := h W hO hK
      rw [← hW] at hrun
      have hgi : goInt ((l.drop u).map u8).length = Value.int .i64 ((n - u : Nat) : Int) := by rw [hcs]; rfl
      rw [hgi] at hrun
      unfold Oper.wp
      simp [execOp, ho, resolve, invoke, builtin, hd, hs, hrun, Result.andThen]
      exact hk
set_option maxHeartbeats 4000000 in
set_option maxRecDepth 100000 in
theorem RdPass (g ga bx base u : Nat) (hu0 : 0 < u) (n c : Nat) (hu : u ≤ n) (l : List UInt8) (most : Int) (is : Bool) (xs xc : Int) (w0 : World) (hb : w0.heap[bx]? = some (.cells #[.pointer (some ⟨g, 0, none⟩)] 146)) (hbg : ¬ bx = g) (hba : ¬ bx = ga) (hh : w0.heap[g]? = some (.cells #[.bool true, .int .i64 most, .slice (some ⟨ga, 0, none⟩) n c, .bool is, .int .i64 xs, .int .i64 xc] 148)) (hga : ¬ g = ga) (ho : Ow w0 base 5 1 (some ⟨ga, 0, none⟩) n c (l.map u8)) :
    Calls Try.prog 158 #[.int .i64 u, .pointer (some ⟨bx, 0, none⟩)] w0 fun e w' => e = .returned (.tuple #[]) ∧ w'.heap[g]? = some (.cells #[.bool true, .int .i64 most, .slice (some ⟨ga, 0, none⟩) (n - u) c, .bool is, .int .i64 xs, .int .i64 xc] 148) ∧ Ow w' base 5 1 (some ⟨ga, 0, none⟩) (n - u) c ((l.drop u).map u8) ∧ Kp [g, ga] w0 w' := by
  have HB := Lib.hid hb
  have HH := Lib.hid hh
  have HO := Lib.hid ho
  have hcp := ho.cap.1
  clear hb hh ho
  go_enter Try.func158, Try.ntmps158
  go_wp2
  refine wp_region_st3 (by kernel_rfl) [fun _ v _ => v = (.pointer (some ⟨g, 0, none⟩)),
      fun _ v _ => v = (.pointer (some ⟨g, 0, none⟩)),
      fun _ v _ => v = (.pointer (some ⟨g, 0, none⟩)),
      fun _ v _ => v = (.pointer (some ⟨g, 2, none⟩)),
      fun _ v _ => v = (.slice (some ⟨ga, 0, none⟩) n c),
      fun _ v _ => v = (.pointer (some ⟨g, 0, none⟩)),
      fun _ v _ => v = (.pointer (some ⟨g, 0, none⟩)),
      fun _ v _ => v = (.pointer (some ⟨g, 2, none⟩)),
      fun _ v _ => v = (.slice (some ⟨ga, 0, none⟩) n c),
      fun _ v _ => v = (.pointer (some ⟨g, 0, none⟩)),
      fun _ v _ => v = (.pointer (some ⟨g, 0, none⟩)),
      fun _ v _ => v = (.pointer (some ⟨g, 2, none⟩)),
      fun _ v _ => v = (.slice (some ⟨ga, 0, none⟩) n c),
      fun _ v _ => v = (.int .i64 (u : Int)),
      fun _ v _ => ∃ A', v = .slice A' (n - u) (c - u) ∧ (∀ b off, (some ⟨ga, 0, none⟩ : Option Addr) = some ⟨b, off, none⟩ → ¬ c = u → A' = some ⟨b, off + u, none⟩),
      fun _ v _ => v = .int .i64 ((n - u : Nat) : Int),
      fun _ v _ => v = (.slice (some ⟨ga, 0, none⟩) (n - u) c),
      fun _ v _ => v = (.pointer (some ⟨g, 0, none⟩)),
      fun _ v _ => v = (.pointer (some ⟨g, 2, none⟩)),
      fun _ v _ => True] (fun p w => (p ≤ 1 → w.heap[g]? = some (.cells #[.bool true, .int .i64 most, .slice (some ⟨ga, 0, none⟩) n c, .bool is, .int .i64 xs, .int .i64 xc] 148)) ∧ (p ≤ 0 → Ow w base 5 1 (some ⟨ga, 0, none⟩) n c (l.map u8)) ∧ (1 ≤ p → Ow w base 5 1 (some ⟨ga, 0, none⟩) (n - u) c ((l.drop u).map u8)) ∧ (2 ≤ p → w.heap[g]? = some (.cells #[.bool true, .int .i64 most, .slice (some ⟨ga, 0, none⟩) (n - u) c, .bool is, .int .i64 xs, .int .i64 xc] 148)) ∧ Kp [g, ga] w0 w) (fun _ _ _ => True) (fun w w' => Kp [] w w') [15, 19] [] (by kernel_rfl) (by kernel_rfl) (by kernel_rfl) (by decide) (by kernel_rfl) ⟨StabAt2.const _, StabAt2.const _, StabAt2.const _, StabAt2.const _, StabAt2.const _, StabAt2.const _, StabAt2.const _, StabAt2.const _, StabAt2.const _, StabAt2.const _, StabAt2.const _, StabAt2.const _, StabAt2.const _, StabAt2.const _, StabAt2.const _, StabAt2.const _, StabAt2.const _, StabAt2.const _, StabAt2.const _, StabAt2.const _, trivial⟩ (⟨fun _ => (HH.out : w0.drew.heap[g]? = _), fun _ => HO.out.keep (Kp.refl [] w0).drew (by simp), fun h => by omega, fun h => by omega, (Kp.refl _ _).drew⟩) ⟨?_, ?_, ?_, ?_, ?_, ?_, ?_, ?_, ?_, ?_, ?_, ?_, ?_, ?_, ?_, ?_, ?_, ?_, ?_, ?_, trivial⟩ (by kernel_rfl) ?_
  · intro q9 a w E hC K hK
    have h1 : a.tmps[1]? = some (.pointer (some ⟨bx, 0, none⟩)) := (E.out 1 (by kernel_rfl)).trans rfl
    refine want_none rfl ?_
    have hb := hC.2.2.2.2.heap HB.out (by simp; exact ⟨hbg, hba⟩)
    have b0 := cell_of hb 0
    clear hb
    go_simp
    exact hK _ rfl
  · intro q9 a w E hC K hK
    have h1 : a.tmps[1]? = some (.pointer (some ⟨bx, 0, none⟩)) := (E.out 1 (by kernel_rfl)).trans rfl
    refine want_none rfl ?_
    have hb := hC.2.2.2.2.heap HB.out (by simp; exact ⟨hbg, hba⟩)
    have b0 := cell_of hb 0
    clear hb
    go_simp
    exact hK _ rfl
  · intro q9 a w E hC K hK
    obtain ⟨_, h4, rfl⟩ := E.pred 1 _ 4 rfl rfl (by kernel_rfl)
    refine want_none rfl ?_
    go_simp
    exact hK _ rfl
  · intro q9 a w E hC K hK
    obtain ⟨_, h5, rfl⟩ := E.pred 2 _ 5 rfl rfl (by kernel_rfl)
    refine want_none rfl ?_
    go_simp
    exact hK _ rfl
  · intro q9 a w E hC K hK
    obtain ⟨_, h6, rfl⟩ := E.pred 3 _ 6 rfl rfl (by kernel_rfl)
    refine want_none rfl ?_
    have hk := E.lim 1 19 _ rfl rfl (by kernel_rfl)
    have hh := hC.1 (by omega)
    have h2 := cell_of hh 2
    have hl2 := lt_of_heap hh
    clear hh hk
    go_simp
    exact hK _ rfl
  · intro q9 a w E hC K hK
    have h1 : a.tmps[1]? = some (.pointer (some ⟨bx, 0, none⟩)) := (E.out 1 (by kernel_rfl)).trans rfl
    refine want_none rfl ?_
    have hb := hC.2.2.2.2.heap HB.out (by simp; exact ⟨hbg, hba⟩)
    have b0 := cell_of hb 0
    clear hb
    go_simp
    exact hK _ rfl
  · intro q9 a w E hC K hK
    obtain ⟨_, h8, rfl⟩ := E.pred 5 _ 8 rfl rfl (by kernel_rfl)
    refine want_none rfl ?_
    go_simp
    exact hK _ rfl
  · intro q9 a w E hC K hK
    obtain ⟨_, h9, rfl⟩ := E.pred 6 _ 9 rfl rfl (by kernel_rfl)
    refine want_none rfl ?_
    go_simp
    exact hK _ rfl
  · intro q9 a w E hC K hK
    obtain ⟨_, h10, rfl⟩ := E.pred 7 _ 10 rfl rfl (by kernel_rfl)
    refine want_none rfl ?_
    have hk := E.lim 1 19 _ rfl rfl (by kernel_rfl)
    have hh := hC.1 (by omega)
    have h2 := cell_of hh 2
    have hl2 := lt_of_heap hh
    clear hh hk
    go_simp
    exact hK _ rfl
  · intro q9 a w E hC K hK
    have h1 : a.tmps[1]? = some (.pointer (some ⟨bx, 0, none⟩)) := (E.out 1 (by kernel_rfl)).trans rfl
    refine want_none rfl ?_
    have hb := hC.2.2.2.2.heap HB.out (by simp; exact ⟨hbg, hba⟩)
    have b0 := cell_of hb 0
    clear hb
    go_simp
    exact hK _ rfl
  · intro q9 a w E hC K hK
    obtain ⟨_, h12, rfl⟩ := E.pred 9 _ 12 rfl rfl (by kernel_rfl)
    refine want_none rfl ?_
    go_simp
    exact hK _ rfl
  · intro q9 a w E hC K hK
    obtain ⟨_, h13, rfl⟩ := E.pred 10 _ 13 rfl rfl (by kernel_rfl)
    refine want_none rfl ?_
    go_simp
    exact hK _ rfl
  · intro q9 a w E hC K hK
    obtain ⟨_, h14, rfl⟩ := E.pred 11 _ 14 rfl rfl (by kernel_rfl)
    refine want_none rfl ?_
    have hk := E.lim 1 19 _ rfl rfl (by kernel_rfl)
    have hh := hC.1 (by omega)
    have h2 := cell_of hh 2
    have hl2 := lt_of_heap hh
    clear hh hk
    go_simp
    exact hK _ rfl
  · intro q9 a w E hC K hK
    have h0 : a.tmps[0]? = some (.int .i64 (u : Int)) := (E.out 0 (by kernel_rfl)).trans rfl
    refine want_none rfl ?_
    go_simp
    exact hK _ rfl
  · intro q9 a w E hC K hK
    obtain ⟨_, h15, rfl⟩ := E.pred 12 _ 15 rfl rfl (by kernel_rfl)
    obtain ⟨_, h16, rfl⟩ := E.pred 13 _ 16 rfl rfl (by kernel_rfl)
    refine want_none rfl ?_
    by_cases hcu : c = u
    · subst hcu
      obtain rfl : n = c := by omega
      go_simp
      exact hK _ ⟨some ⟨ga, 0, none⟩, by simp, fun _ _ _ h => absurd rfl h⟩
    · have i1 : (u : Int) ≤ (n : Int) := by omega
      have i2 : (n : Int) ≤ (c : Int) := by omega
      have i3 : ¬ (c : Int) = (u : Int) := by omega
      have i4 : ¬ (u : Int) = (c : Int) := by omega
      go_simp
      exact hK _ ⟨some ⟨ga, u, none⟩, by simp, fun b off h _ => by injection h with h; injection h with h1 h2 _; rw [h1, ← h2, Nat.zero_add]⟩
  · intro a w E hC K hK
    obtain ⟨_, h11, rfl⟩ := E.pred 8 _ 11 rfl rfl (by kernel_rfl)
    obtain ⟨v14, h17, V14⟩ := E.pred 14 _ 17 rfl rfl (by kernel_rfl)
    replace V14 : (fun _ v _ => ∃ A', v = .slice A' (n - u) (c - u) ∧ (∀ b off, (some ⟨ga, 0, none⟩ : Option Addr) = some ⟨b, off, none⟩ → ¬ c = u → A' = some ⟨b, off + u, none⟩)) 0 v14 w := V14
    obtain ⟨A', rfl, hA'⟩ := V14
    refine op_down rfl _ _ 22 5 rfl Try.underlying22 Try.info5 base (some ⟨ga, 0, none⟩) n c l (hC.2.1 (by omega)) u hu0 hu (eval_tmp h11) A' (eval_tmp h17) hA' ?_
    intro w2 O2 K2
    refine hK _ _ rfl ⟨fun _ => K2.heap (hC.1 (by omega)) (by simp [ob]; omega), fun h => by omega, fun _ => O2, fun h => by omega, hC.2.2.2.2.trans (K2.mono (by simp [ob]))⟩ trivial
  · intro q9 a w E hC K hK
    obtain ⟨_, h7, rfl⟩ := E.pred 4 _ 7 rfl rfl (by kernel_rfl)
    obtain ⟨v15, h18, V15⟩ := E.pred 15 _ 18 rfl rfl (by kernel_rfl)
    replace V15 : (fun _ v _ => v = .int .i64 ((n - u : Nat) : Int)) q9 v15 w := V15
    obtain rfl := V15
    refine want_none rfl ?_
    have i1 : ((n - u : Nat) : Int) ≤ (c : Int) := by omega
    go_simp
    exact hK _ (by simp)
  · intro q9 a w E hC K hK
    obtain ⟨_, h3, rfl⟩ := E.pred 0 _ 3 rfl rfl (by kernel_rfl)
    refine want_none rfl ?_
    go_simp
    exact hK _ rfl
  · intro q9 a w E hC K hK
    obtain ⟨_, h20, rfl⟩ := E.pred 17 _ 20 rfl rfl (by kernel_rfl)
    refine want_none rfl ?_
    go_simp
    exact hK _ rfl
  · intro a w E hC K hK
    obtain ⟨_, h21, rfl⟩ := E.pred 18 _ 21 rfl rfl (by kernel_rfl)
    obtain ⟨_, h19, rfl⟩ := E.pred 16 _ 19 rfl rfl (by kernel_rfl)
    refine want_none rfl ?_
    have hh := hC.1 (by omega)
    have h2 := cell_of hh 2
    have hz := frozen_of hh
    have hl2 := lt_of_heap hh
    have HH2 := Lib.hid hh
    clear hh
    go_simp
    exact hK undef _ trivial ⟨fun h => by omega, fun h => by omega, fun _ => (hC.2.2.1 (by omega)).keep ((Kp.refl [g] w).setCell (.inl (by simp)) _) (by simp [ob]; omega), fun _ => hp_set _ _ _ _ _ _ HH2.out, hC.2.2.2.2.setCell (.inl (by simp)) _⟩ trivial

  intro vs w8 hC hV
  have hC1 := Lib.hid hC
  clear hV hC
  simp only [putAll, Act.put, List.setIfInBounds_toArray]
  dsimp only [List.set]
  go_wp2
  refine ⟨rfl, .tuple #[], by simp [results, Try.results158, go_sem], rfl, hC1.out.2.2.2.1 (Nat.le_refl _), hC1.out.2.2.1 (by simp), hC1.out.2.2.2.2⟩
end Go.Proofs.Ytkmcakneceagpaa
