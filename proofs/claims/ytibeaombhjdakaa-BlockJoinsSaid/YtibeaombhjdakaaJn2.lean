/- The joiner of layer 12 (program): where bytes come. -/
import Derived.Test.YtibeaombhjdakaaJn
import Derived.Test.YtibeaombhjdakaaField
set_option linter.unusedVariables false
set_option linter.unusedSimpArgs false
namespace Go.Proofs.Ytibeaombhjdakaa
open Go.RowKit
theorem b41 : bits .or .i64 4 1 = 5 := by decide
/-- bytes onto bytes, as one operation -/
theorem op_appB {P : Program} {o : Oper} {a : Act} {w : World} {K : Act → World → Prop} {Q : Exit → Act → World → Prop} (s x : Operand) (t e : TypeId)
    (ho : o.op = .call { callee := .builtin .append, args := #[s, x], argTypes := #[t, t] })
    (ht : P.underlying t = some (.slice e)) (hi : (P.info? e).map (fun i => (i.zero, i.size, i.bytes)) = some (some (.int .u8 0), 1, 1))
    (base : Nat) (A : Option Addr) (n c : Nat) (l : List UInt8) (hs : a.eval s = .slice A n c) (HO : Ow w base e 1 A n c (l.map u8))
    (A2 : Option Addr) (m c2 : Nat) (l2 : List UInt8) (hx : a.eval x = .slice A2 m c2) (HR : Rd w A2 m c2 l2)
    (hlen : n + m ≤ 211106232532992) (hbase : base ≤ w.heap.size)
    (h : ∀ A' c' w', Ow w' base e 1 A' (n + m) c' ((l ++ l2).map u8) → Kp (ob A) w w' → (A' = A ∨ A' = some ⟨w.heap.size, 0, none⟩) → K (a.put o.dst (.slice A' (n + m) c')) w') :
    Oper.wp P o a w K Q := by
  obtain ⟨A', c', w', hr, h2, h3, h4, _⟩ := run_app (P := P) w t o.type e (.int .u8 0) 1 1 ht hi rfl (by omega) base A n c (l.map u8) HO A2 m c2 (l2.map u8) (by simp [HR.len]) HR.at_ (u8_one l2) (by simp only [maxLen]; omega) (by omega) hbase
  unfold Oper.wp execOp
  simp only [ho, resolve, invoke, builtin, Sem.run_bind, Sem.run_pure, Result.andThen_ok, List.map_toArray, List.map_cons, List.map_nil, hs, hx, hr]
  exact h A' c' w' (by rw [List.map_append]; exact h2) h3 h4

set_option maxHeartbeats 1000000 in
set_option maxRecDepth 100000 in
theorem In_headN (w0 : World) (g : Nat) (most : Int) (A : Option Addr) (n c : Nat) (f : Fr) (hj : Jn w0 g most 0 false A n c) (h9 : (f.ty == 9) = false) (h1 : (f.ty == 1) = true) (hm : 0 ≤ most ∧ most ≤ 65536) (hn : (n : Int) ≤ most) (hw : IntKind.i64.wrap (most - ↑n) = most - ↑n) (hc : decide (most - ↑n < ↑f.pn) = false) (base : Nat) (hbs : base ≤ w0.heap.size) (l lf : List UInt8) (ho : Ow w0 base 5 1 A n c (l.map u8)) (hgb : g ∉ ob A) (hrf : Rd w0 f.pA f.pn f.pc lf) (hfo : 0 < f.pn → ∀ b, b ∈ ob f.pA → b ≠ g) (hpn : f.pn ≤ 140737488351232) (hd : (bits .and .i64 f.fl 4 == 0) = true) :
    Calls Try.prog 6 #[.pointer (some ⟨g, 0, none⟩), .agg #[.int .i64 f.ty, .int .i64 f.fl, .int .i64 f.st, .slice f.pA f.pn f.pc, .int .i64 f.pad, .int .u32 f.code, .int .i64 f.last, .int .i64 f.inc, .int .i64 f.dep, .bool f.only, .int .i64 f.wt, .slice f.sA f.sn f.sc]] w0 fun e w' => e = .returned (.tuple #[.agg #[.int .i64 0, .int .i64 0, .int .i64 0, .slice none 0 0, .int .i64 0, .int .u32 0, .int .i64 0, .int .i64 0, .int .i64 0, .bool false, .int .i64 0, .slice none 0 0], .bool false, .agg #[.bool false, .int .i64 0, .int .i64 0]]) ∧ ∃ A' c', Jn w' g most f.st (bits .and .i64 f.fl 1 != 0) A' (n + f.pn) c' ∧ Ow w' base 5 1 A' (n + f.pn) c' ((l ++ lf).map u8) ∧ (g ∉ ob A' ∧ ∀ b, b ∈ ob A' → b ∈ ob A ∨ w0.heap.size ≤ b) ∧ Kp (g :: ob A) w0 w' := by
  have hg := lt_of_heap hj
  have lg1 : g < w0.heap.size + 1 := by omega
  have lg2 : g < w0.heap.size + 1 + 1 := by omega
  have lg3 : g < w0.heap.size + 1 + 1 + 1 := by omega
  have lg4 : g < w0.heap.size + 1 + 1 + 1 + 1 := by omega
  obtain ⟨j0, j1, j2, j3, j4, hz⟩ := hj.cells
  have HJ := Lib.hid hj
  clear hj
  go_enter Try.func6, Try.ntmps6
  go_wp2_with fail
  refine (JNone _ g (Kp.cell (w := w0) (S := []) (by (repeat (first | with_reducible exact Kp.refl _ _ | with_reducible assumption | with_reducible refine Kp.alloc ?_ _ | with_reducible refine Kp.drew ?_ | with_reducible refine Kp.drewN ?_ _ | (with_reducible refine Kp.setL ?_ ?_ _; focus (simp; done)) | (with_reducible refine Kp.setR ?_ ?_ _; focus (simp; done)) | (with_reducible refine Kp.setR ?_ ?_ _; focus (simp; omega))))) j0 (by simp))).mono ?_
  rintro e w1 ⟨rfl, rfl⟩
  go_wp2_with fail
  go_quiet (fail)
  go_wp2
  go_quiet (fail)
  go_wp2
  generalize hW : World.drewN _ _ = W1
  have J00 := HJ.out
  have J1 : Jn W1 g most f.st (bits .and .i64 f.fl 1 != 0) A n c := by rw [← hW]; (repeat (first | with_reducible assumption | with_reducible exact Lib.Hid.out ‹_› | with_reducible refine Jn.alloc ?_ _ | with_reducible refine Jn.drew ?_ | with_reducible refine Jn.drewN ?_ _ | with_reducible refine Jn.set2 (st := 0) ?_ _ | with_reducible refine Jn.set3 (en := false) ?_ _ | with_reducible refine Jn.set4 (A := A) (n := n) (c := c) ?_ _ _ _ | (with_reducible refine Jn.far ?_ ?_ _; focus (simp; done)) | (with_reducible refine Jn.far ?_ ?_ _; focus (simp; omega))))
  have D0 : W1.heap[w0.heap.size]? = some (.cells #[.pointer (some ⟨g, 0, none⟩)] 23) := by rw [← hW]; (repeat (first | with_reducible assumption | (with_reducible refine hp_new _ _ _ ?_; focus (simp; done)) | (with_reducible refine (hp_old _ _ _ ?_).trans ?_; focus (first | omega | (simp; done) | (simp; omega))) | (with_reducible refine (hp_far _ _ _ _ ?_).trans ?_; focus (first | (simp; done) | (simp; omega))) | (with_reducible refine (hp_drew _ _).trans ?_) | (with_reducible refine (hp_drewN _ _ _).trans ?_)))
  have D0_0 : W1.cell? ⟨w0.heap.size, 0, none⟩ = some (.pointer (some ⟨g, 0, none⟩)) := cell_of D0 0
  have D0_z : ∀ j, W1.frozen? ⟨w0.heap.size, j, none⟩ = false := frozen_of D0
  have D0_l := lt_of_heap D0
  have D1 : W1.heap[w0.heap.size + 1]? = some (.cells #[.int .i64 f.ty, .int .i64 f.fl, .int .i64 f.st, .slice f.pA f.pn f.pc, .int .i64 f.pad, .int .u32 f.code, .int .i64 f.last, .int .i64 f.inc, .int .i64 f.dep, .bool f.only, .int .i64 f.wt, .slice f.sA f.sn f.sc] 34) := by rw [← hW]; (repeat (first | with_reducible assumption | (with_reducible refine hp_new _ _ _ ?_; focus (simp; done)) | (with_reducible refine (hp_old _ _ _ ?_).trans ?_; focus (first | omega | (simp; done) | (simp; omega))) | (with_reducible refine (hp_far _ _ _ _ ?_).trans ?_; focus (first | (simp; done) | (simp; omega))) | (with_reducible refine (hp_drew _ _).trans ?_) | (with_reducible refine (hp_drewN _ _ _).trans ?_)))
  have D1_0 : W1.cell? ⟨w0.heap.size + 1, 0, none⟩ = some (.int .i64 f.ty) := cell_of D1 0
  have D1_1 : W1.cell? ⟨w0.heap.size + 1, 1, none⟩ = some (.int .i64 f.fl) := cell_of D1 1
  have D1_2 : W1.cell? ⟨w0.heap.size + 1, 2, none⟩ = some (.int .i64 f.st) := cell_of D1 2
  have D1_3 : W1.cell? ⟨w0.heap.size + 1, 3, none⟩ = some (.slice f.pA f.pn f.pc) := cell_of D1 3
  have D1_4 : W1.cell? ⟨w0.heap.size + 1, 4, none⟩ = some (.int .i64 f.pad) := cell_of D1 4
  have D1_5 : W1.cell? ⟨w0.heap.size + 1, 5, none⟩ = some (.int .u32 f.code) := cell_of D1 5
  have D1_6 : W1.cell? ⟨w0.heap.size + 1, 6, none⟩ = some (.int .i64 f.last) := cell_of D1 6
  have D1_7 : W1.cell? ⟨w0.heap.size + 1, 7, none⟩ = some (.int .i64 f.inc) := cell_of D1 7
  have D1_8 : W1.cell? ⟨w0.heap.size + 1, 8, none⟩ = some (.int .i64 f.dep) := cell_of D1 8
  have D1_9 : W1.cell? ⟨w0.heap.size + 1, 9, none⟩ = some (.bool f.only) := cell_of D1 9
  have D1_10 : W1.cell? ⟨w0.heap.size + 1, 10, none⟩ = some (.int .i64 f.wt) := cell_of D1 10
  have D1_11 : W1.cell? ⟨w0.heap.size + 1, 11, none⟩ = some (.slice f.sA f.sn f.sc) := cell_of D1 11
  have D1_z : ∀ j, W1.frozen? ⟨w0.heap.size + 1, j, none⟩ = false := frozen_of D1
  have D1_l := lt_of_heap D1
  have D2 : W1.heap[w0.heap.size + 1 + 1]? = some (.cells #[.int .i64 0, .int .i64 0, .int .i64 0, .slice none 0 0, .int .i64 0, .int .u32 0, .int .i64 0, .int .i64 0, .int .i64 0, .bool false, .int .i64 0, .slice none 0 0] 34) := by rw [← hW]; (repeat (first | with_reducible assumption | (with_reducible refine hp_new _ _ _ ?_; focus (simp; done)) | (with_reducible refine (hp_old _ _ _ ?_).trans ?_; focus (first | omega | (simp; done) | (simp; omega))) | (with_reducible refine (hp_far _ _ _ _ ?_).trans ?_; focus (first | (simp; done) | (simp; omega))) | (with_reducible refine (hp_drew _ _).trans ?_) | (with_reducible refine (hp_drewN _ _ _).trans ?_)))
  have D2_0 : W1.cell? ⟨w0.heap.size + 1 + 1, 0, none⟩ = some (.int .i64 0) := cell_of D2 0
  have D2_1 : W1.cell? ⟨w0.heap.size + 1 + 1, 1, none⟩ = some (.int .i64 0) := cell_of D2 1
  have D2_2 : W1.cell? ⟨w0.heap.size + 1 + 1, 2, none⟩ = some (.int .i64 0) := cell_of D2 2
  have D2_3 : W1.cell? ⟨w0.heap.size + 1 + 1, 3, none⟩ = some (.slice none 0 0) := cell_of D2 3
  have D2_4 : W1.cell? ⟨w0.heap.size + 1 + 1, 4, none⟩ = some (.int .i64 0) := cell_of D2 4
  have D2_5 : W1.cell? ⟨w0.heap.size + 1 + 1, 5, none⟩ = some (.int .u32 0) := cell_of D2 5
  have D2_6 : W1.cell? ⟨w0.heap.size + 1 + 1, 6, none⟩ = some (.int .i64 0) := cell_of D2 6
  have D2_7 : W1.cell? ⟨w0.heap.size + 1 + 1, 7, none⟩ = some (.int .i64 0) := cell_of D2 7
  have D2_8 : W1.cell? ⟨w0.heap.size + 1 + 1, 8, none⟩ = some (.int .i64 0) := cell_of D2 8
  have D2_9 : W1.cell? ⟨w0.heap.size + 1 + 1, 9, none⟩ = some (.bool false) := cell_of D2 9
  have D2_10 : W1.cell? ⟨w0.heap.size + 1 + 1, 10, none⟩ = some (.int .i64 0) := cell_of D2 10
  have D2_11 : W1.cell? ⟨w0.heap.size + 1 + 1, 11, none⟩ = some (.slice none 0 0) := cell_of D2 11
  have D2_z : ∀ j, W1.frozen? ⟨w0.heap.size + 1 + 1, j, none⟩ = false := frozen_of D2
  have D2_l := lt_of_heap D2
  have D3 : W1.heap[w0.heap.size + 1 + 1 + 1]? = some (.cells #[.bool false, .int .i64 0, .int .i64 0] 36) := by rw [← hW]; (repeat (first | with_reducible assumption | (with_reducible refine hp_new _ _ _ ?_; focus (simp; done)) | (with_reducible refine (hp_old _ _ _ ?_).trans ?_; focus (first | omega | (simp; done) | (simp; omega))) | (with_reducible refine (hp_far _ _ _ _ ?_).trans ?_; focus (first | (simp; done) | (simp; omega))) | (with_reducible refine (hp_drew _ _).trans ?_) | (with_reducible refine (hp_drewN _ _ _).trans ?_)))
  have D3_0 : W1.cell? ⟨w0.heap.size + 1 + 1 + 1, 0, none⟩ = some (.bool false) := cell_of D3 0
  have D3_1 : W1.cell? ⟨w0.heap.size + 1 + 1 + 1, 1, none⟩ = some (.int .i64 0) := cell_of D3 1
  have D3_2 : W1.cell? ⟨w0.heap.size + 1 + 1 + 1, 2, none⟩ = some (.int .i64 0) := cell_of D3 2
  have D3_z : ∀ j, W1.frozen? ⟨w0.heap.size + 1 + 1 + 1, j, none⟩ = false := frozen_of D3
  have D3_l := lt_of_heap D3
  have K1 : Kp [g] w0 W1 := by rw [← hW]; (repeat (first | with_reducible exact Kp.refl _ _ | with_reducible assumption | with_reducible refine Kp.alloc ?_ _ | with_reducible refine Kp.drew ?_ | with_reducible refine Kp.drewN ?_ _ | (with_reducible refine Kp.setL ?_ ?_ _; focus (simp; done)) | (with_reducible refine Kp.setR ?_ ?_ _; focus (simp; done)) | (with_reducible refine Kp.setR ?_ ?_ _; focus (simp; omega))))
  clear hW j0 j1 j2 j3 j4 hz lg1 lg2 lg3 lg4
  obtain ⟨j0, j1, j2, j3, j4, hz⟩ := J1.cells
  have O1 := ho.keep K1.drew (by intro b hb hs; simp at hs; subst hs; exact hgb hb)
  have R1 := hrf.keep K1.drew (by intro hp b hb hs; simp at hs; exact hfo hp b hb hs)
  have hbs1 : base ≤ W1.drew.heap.size := by have := K1.drew.size; omega
  have hoA : ∀ b, b ∈ ob A → b < w0.heap.size := fun b hb => (ho.base b hb).2
  have hN : ∀ x, w0.heap.size ≤ x → x ∉ g :: ob A := by
    intro x hx hm
    rcases List.mem_cons.1 hm with h | h
    · omega
    · have := hoA x h; omega
  have CQ : ∀ v, (∃ k, (match (motive := Nat → Prop) k with | 0 => v = W1.drew | 1 => v = W1.drew | 2 => Kp (ob A) W1 v | _ => ∃ A' c', Jn v g most f.st (bits .and .i64 f.fl 1 != 0) A' (n + f.pn) c' ∧ Ow v base 5 1 A' (n + f.pn) c' ((l ++ lf).map u8) ∧ (g ∉ ob A' ∧ ∀ b, b ∈ ob A' → b ∈ ob A ∨ w0.heap.size + 1 + 1 + 1 < b) ∧ Kp (g :: ob A) W1 v)) → Kp (g :: ob A) W1 v := by
    rintro v ⟨k, hk⟩
    rcases k with _ | _ | _ | k
    · cases hk; exact (Kp.refl _ W1).drew
    · cases hk; exact (Kp.refl _ W1).drew
    · exact Kp.mono hk (fun s hs => .inl (List.mem_cons_of_mem _ hs))
    · obtain ⟨_, _, _, _, _, h⟩ := hk; exact h
  refine wp_region_lists (by kernel_rfl) [fun v _ => v = (.pointer (some ⟨g, 0, none⟩)),
      fun v _ => v = (.pointer (some ⟨g, 0, none⟩)),
      fun v _ => v = (.pointer (some ⟨g, 0, none⟩)),
      fun v _ => v = (.pointer (some ⟨g, 4, none⟩)),
      fun v w => v = .slice A n c,
      fun v _ => v = (.pointer (some ⟨w0.heap.size + 1, 3, none⟩)),
      fun v _ => v = (.slice f.pA f.pn f.pc),
      fun v w => ∃ A' c', v = .slice A' (n + f.pn) c' ∧ Ow w base 5 1 A' (n + f.pn) c' ((l ++ lf).map u8) ∧ (g ∉ ob A' ∧ ∀ b, b ∈ ob A' → b ∈ ob A ∨ w0.heap.size + 1 + 1 + 1 < b),
      fun v _ => v = (.pointer (some ⟨g, 0, none⟩)),
      fun v _ => v = (.pointer (some ⟨g, 4, none⟩)),
      fun v _ => True] (fun k w => match k with | 0 => w = W1.drew | 1 => w = W1.drew | 2 => Kp (ob A) W1 w | _ => ∃ A' c', Jn w g most f.st (bits .and .i64 f.fl 1 != 0) A' (n + f.pn) c' ∧ Ow w base 5 1 A' (n + f.pn) c' ((l ++ lf).map u8) ∧ (g ∉ ob A' ∧ ∀ b, b ∈ ob A' → b ∈ ob A ∨ w0.heap.size + 1 + 1 + 1 < b) ∧ Kp (g :: ob A) W1 w) (fun k w w' => match k with | 0 => w' = w | 1 => Kp (ob A) w w' | _ => Kp [g] w w') [4, 7, 10] (by kernel_rfl) (by kernel_rfl) (by kernel_rfl) (by decide) (by kernel_rfl) ⟨StabsAt.const _, StabsAt.const _, StabsAt.const _, StabsAt.const _, StabsAt.const _, StabsAt.const _, StabsAt.const _, (by intro k v w w' hk hne hR hv; rcases k with _ | _ | _ | k; (cases hR; exact hv); (exact absurd rfl hne); (obtain ⟨A', c', e, O2, hgA⟩ := hv; exact ⟨A', c', e, O2.keep hR (by intro b hb hs; simp at hs; subst hs; exact hgA.1 hb), hgA⟩); (exact absurd hk (by simp))), StabsAt.const _, StabsAt.const _, StabsAt.const _, trivial⟩ (rfl) ⟨?_, ?_, ?_, ?_, ?_, ?_, ?_, ?_, ?_, ?_, ?_, trivial⟩ (by kernel_rfl) ?_
  · intro a w E hC K hK
    have h2 : a.tmps[2]? = some (.pointer (some ⟨w0.heap.size, 0, none⟩)) := (E.out 2 (by kernel_rfl)).trans rfl
    refine want_none rfl ?_
    have hq := (CQ _ hC).cell D0_0 (hN _ (by simp))
    go_simp
    exact hK _ rfl
  · intro a w E hC K hK
    have h2 : a.tmps[2]? = some (.pointer (some ⟨w0.heap.size, 0, none⟩)) := (E.out 2 (by kernel_rfl)).trans rfl
    refine want_none rfl ?_
    have hq := (CQ _ hC).cell D0_0 (hN _ (by simp))
    go_simp
    exact hK _ rfl
  · intro a w E hC K hK
    obtain ⟨_, h91, rfl⟩ := E.pred 1 _ 91 rfl rfl (by kernel_rfl)
    refine want_none rfl ?_
    go_simp
    exact hK _ rfl
  · intro a w E hC K hK
    obtain ⟨_, h92, rfl⟩ := E.pred 2 _ 92 rfl rfl (by kernel_rfl)
    refine want_none rfl ?_
    go_simp
    exact hK _ rfl
  · intro a w E hC K hK
    obtain ⟨_, h93, rfl⟩ := E.pred 3 _ 93 rfl rfl (by kernel_rfl)
    refine want_none rfl ?_
    obtain rfl : w = W1.drew := hC
    go_simp
    exact hK _ _ rfl rfl ⟨by decide, rfl⟩
  · intro a w E hC K hK
    have h3 : a.tmps[3]? = some (.pointer (some ⟨w0.heap.size + 1, 0, none⟩)) := (E.out 3 (by kernel_rfl)).trans rfl
    refine want_none rfl ?_
    go_simp
    exact hK _ rfl
  · intro a w E hC K hK
    obtain ⟨_, h95, rfl⟩ := E.pred 5 _ 95 rfl rfl (by kernel_rfl)
    refine want_none rfl ?_
    have hq := (CQ _ hC).cell D1_3 (hN _ (by simp))
    go_simp
    exact hK _ rfl
  · intro a w E hC K hK
    obtain ⟨v4, h94, V4⟩ := E.pred 4 _ 94 rfl rfl (by kernel_rfl)
    replace V4 : (fun v w => v = .slice A n c) v4 w := V4
    obtain rfl := V4
    obtain ⟨_, h96, rfl⟩ := E.pred 6 _ 96 rfl rfl (by kernel_rfl)
    refine want_none rfl ?_
    obtain rfl : w = W1.drew := hC
    refine op_appB (.tmp 94) (.tmp 96) 30 5 rfl Try.underlying30 Try.info5 base A n c l (eval_tmp h94) O1 f.pA f.pn f.pc lf (eval_tmp h96) R1 (by omega) hbs1 ?_
    intro A' c' w2 O2 K2 hA'
    exact hK _ _ ⟨A', c', rfl, O2, ⟨by rcases hA' with rfl | rfl; exact hgb; simp [ob]; omega, by intro b hb; rcases hA' with rfl | rfl; exact .inl hb; simp [ob] at hb; right; omega⟩⟩ (Kp.trans (S := ob A) (Kp.refl _ W1).drew K2) ⟨by decide, K2⟩
  · intro a w E hC K hK
    obtain ⟨_, h90, rfl⟩ := E.pred 0 _ 90 rfl rfl (by kernel_rfl)
    refine want_none rfl ?_
    go_simp
    exact hK _ rfl
  · intro a w E hC K hK
    obtain ⟨_, h98, rfl⟩ := E.pred 8 _ 98 rfl rfl (by kernel_rfl)
    refine want_none rfl ?_
    go_simp
    exact hK _ rfl
  · intro a w E hC K hK
    obtain ⟨_, h99, rfl⟩ := E.pred 9 _ 99 rfl rfl (by kernel_rfl)
    obtain ⟨v7, h97, V7⟩ := E.pred 7 _ 97 rfl rfl (by kernel_rfl)
    replace V7 : (fun v w => ∃ A' c', v = .slice A' (n + f.pn) c' ∧ Ow w base 5 1 A' (n + f.pn) c' ((l ++ lf).map u8) ∧ (g ∉ ob A' ∧ ∀ b, b ∈ ob A' → b ∈ ob A ∨ w0.heap.size + 1 + 1 + 1 < b)) v7 w := V7
    obtain ⟨A', c', rfl, O2, hgA⟩ := V7
    refine want_none rfl ?_
    have hk : Kp (ob A) W1 w := hC
    have J2 := J1.keep hk hgb
    obtain ⟨i0, i1, i2, i3, i4, iz⟩ := J2.cells
    go_simp
    exact hK undef _ trivial ⟨A', c', J2.set4 _ _ _, O2.keep ((Kp.refl [g] _).setCell (.inl (by simp)) _) (by intro b hb hs; simp at hs; subst hs; exact hgA.1 hb), hgA, (hk.mono (fun s hs => .inl (List.mem_cons_of_mem _ hs))).setCell (.inl (by simp)) _⟩ ⟨by decide, (Kp.refl [g] _).setCell (.inl (by simp)) _⟩
  intro vs w2 hC hV
  obtain ⟨A2, c2, J2, O2, hg2, K2⟩ := hC
  clear hV CQ
  have E0 := K2.heap D0 (hN _ (by omega))
  have E0_0 : w2.cell? ⟨w0.heap.size, 0, none⟩ = some (.pointer (some ⟨g, 0, none⟩)) := cell_of E0 0
  have E0_z : ∀ j, w2.frozen? ⟨w0.heap.size, j, none⟩ = false := frozen_of E0
  have E0_l := lt_of_heap E0
  clear E0 D0 D0_0 D0_z D0_l
  have E1 := K2.heap D1 (hN _ (by omega))
  have E1_0 : w2.cell? ⟨w0.heap.size + 1, 0, none⟩ = some (.int .i64 f.ty) := cell_of E1 0
  have E1_1 : w2.cell? ⟨w0.heap.size + 1, 1, none⟩ = some (.int .i64 f.fl) := cell_of E1 1
  have E1_2 : w2.cell? ⟨w0.heap.size + 1, 2, none⟩ = some (.int .i64 f.st) := cell_of E1 2
  have E1_3 : w2.cell? ⟨w0.heap.size + 1, 3, none⟩ = some (.slice f.pA f.pn f.pc) := cell_of E1 3
  have E1_4 : w2.cell? ⟨w0.heap.size + 1, 4, none⟩ = some (.int .i64 f.pad) := cell_of E1 4
  have E1_5 : w2.cell? ⟨w0.heap.size + 1, 5, none⟩ = some (.int .u32 f.code) := cell_of E1 5
  have E1_6 : w2.cell? ⟨w0.heap.size + 1, 6, none⟩ = some (.int .i64 f.last) := cell_of E1 6
  have E1_7 : w2.cell? ⟨w0.heap.size + 1, 7, none⟩ = some (.int .i64 f.inc) := cell_of E1 7
  have E1_8 : w2.cell? ⟨w0.heap.size + 1, 8, none⟩ = some (.int .i64 f.dep) := cell_of E1 8
  have E1_9 : w2.cell? ⟨w0.heap.size + 1, 9, none⟩ = some (.bool f.only) := cell_of E1 9
  have E1_10 : w2.cell? ⟨w0.heap.size + 1, 10, none⟩ = some (.int .i64 f.wt) := cell_of E1 10
  have E1_11 : w2.cell? ⟨w0.heap.size + 1, 11, none⟩ = some (.slice f.sA f.sn f.sc) := cell_of E1 11
  have E1_z : ∀ j, w2.frozen? ⟨w0.heap.size + 1, j, none⟩ = false := frozen_of E1
  have E1_l := lt_of_heap E1
  clear E1 D1 D1_0 D1_1 D1_2 D1_3 D1_4 D1_5 D1_6 D1_7 D1_8 D1_9 D1_10 D1_11 D1_z D1_l
  have E2 := K2.heap D2 (hN _ (by omega))
  have E2_0 : w2.cell? ⟨w0.heap.size + 1 + 1, 0, none⟩ = some (.int .i64 0) := cell_of E2 0
  have E2_1 : w2.cell? ⟨w0.heap.size + 1 + 1, 1, none⟩ = some (.int .i64 0) := cell_of E2 1
  have E2_2 : w2.cell? ⟨w0.heap.size + 1 + 1, 2, none⟩ = some (.int .i64 0) := cell_of E2 2
  have E2_3 : w2.cell? ⟨w0.heap.size + 1 + 1, 3, none⟩ = some (.slice none 0 0) := cell_of E2 3
  have E2_4 : w2.cell? ⟨w0.heap.size + 1 + 1, 4, none⟩ = some (.int .i64 0) := cell_of E2 4
  have E2_5 : w2.cell? ⟨w0.heap.size + 1 + 1, 5, none⟩ = some (.int .u32 0) := cell_of E2 5
  have E2_6 : w2.cell? ⟨w0.heap.size + 1 + 1, 6, none⟩ = some (.int .i64 0) := cell_of E2 6
  have E2_7 : w2.cell? ⟨w0.heap.size + 1 + 1, 7, none⟩ = some (.int .i64 0) := cell_of E2 7
  have E2_8 : w2.cell? ⟨w0.heap.size + 1 + 1, 8, none⟩ = some (.int .i64 0) := cell_of E2 8
  have E2_9 : w2.cell? ⟨w0.heap.size + 1 + 1, 9, none⟩ = some (.bool false) := cell_of E2 9
  have E2_10 : w2.cell? ⟨w0.heap.size + 1 + 1, 10, none⟩ = some (.int .i64 0) := cell_of E2 10
  have E2_11 : w2.cell? ⟨w0.heap.size + 1 + 1, 11, none⟩ = some (.slice none 0 0) := cell_of E2 11
  have E2_z : ∀ j, w2.frozen? ⟨w0.heap.size + 1 + 1, j, none⟩ = false := frozen_of E2
  have E2_l := lt_of_heap E2
  clear E2 D2 D2_0 D2_1 D2_2 D2_3 D2_4 D2_5 D2_6 D2_7 D2_8 D2_9 D2_10 D2_11 D2_z D2_l
  have E3 := K2.heap D3 (hN _ (by omega))
  have E3_0 : w2.cell? ⟨w0.heap.size + 1 + 1 + 1, 0, none⟩ = some (.bool false) := cell_of E3 0
  have E3_1 : w2.cell? ⟨w0.heap.size + 1 + 1 + 1, 1, none⟩ = some (.int .i64 0) := cell_of E3 1
  have E3_2 : w2.cell? ⟨w0.heap.size + 1 + 1 + 1, 2, none⟩ = some (.int .i64 0) := cell_of E3 2
  have E3_z : ∀ j, w2.frozen? ⟨w0.heap.size + 1 + 1 + 1, j, none⟩ = false := frozen_of E3
  have E3_l := lt_of_heap E3
  clear E3 D3 D3_0 D3_1 D3_2 D3_z D3_l
  have K3 := (K1.mono (T := g :: ob A) (fun s hs => .inl (by simp at hs; simp [hs]))).trans K2
  have hg2l := lt_of_heap J2
  have J2h := Lib.hid J2
  have O2h := Lib.hid O2
  clear K1 K2 j0 j1 j2 j3 j4 hz O1 R1 hbs1 J1 J00
  obtain ⟨j0, j1, j2, j3, j4, hz⟩ := J2.cells
  clear J2 O2
  simp only [putAll, Act.put, List.setIfInBounds_toArray]
  dsimp only [List.set]
  generalize vs 0 = v0
  generalize vs 1 = v1
  go_wp2
  refine bodyPost_ret (v := .tuple #[.agg #[.int .i64 0, .int .i64 0, .int .i64 0, .slice none 0 0, .int .i64 0, .int .u32 0, .int .i64 0, .int .i64 0, .int .i64 0, .bool false, .int .i64 0, .slice none 0 0], .bool false, .agg #[.bool false, .int .i64 0, .int .i64 0]]) (by simp [results, Try.results6, go_sem, E2_0, E2_1, E2_2, E2_3, E2_4, E2_5, E2_6, E2_7, E2_8, E2_9, E2_10, E2_11, E3_0, E3_1, E3_2]) rfl ⟨rfl, A2, c2, ?_, ?_, ⟨hg2.1, fun b hb => (hg2.2 b hb).imp_right (fun h => by omega)⟩, ?_⟩
  · exact J2h.out.keep (S := [w0.heap.size + 1 + 1, w0.heap.size + 1 + 1 + 1]) (by (repeat (first | with_reducible exact Kp.refl _ _ | with_reducible assumption | with_reducible refine Kp.alloc ?_ _ | with_reducible refine Kp.drew ?_ | with_reducible refine Kp.drewN ?_ _ | (with_reducible refine Kp.setL ?_ ?_ _; focus (simp; done)) | (with_reducible refine Kp.setR ?_ ?_ _; focus (simp; done)) | (with_reducible refine Kp.setR ?_ ?_ _; focus (simp; omega))))) (by simp; omega)
  · exact O2h.out.keep (S := [w0.heap.size + 1 + 1, w0.heap.size + 1 + 1 + 1]) (by (repeat (first | with_reducible exact Kp.refl _ _ | with_reducible assumption | with_reducible refine Kp.alloc ?_ _ | with_reducible refine Kp.drew ?_ | with_reducible refine Kp.drewN ?_ _ | (with_reducible refine Kp.setL ?_ ?_ _; focus (simp; done)) | (with_reducible refine Kp.setR ?_ ?_ _; focus (simp; done)) | (with_reducible refine Kp.setR ?_ ?_ _; focus (simp; omega))))) (by intro b hb hs; have := (hg2.2 b hb).imp_left (hoA b); simp at hs; omega)
  · (repeat (first | with_reducible exact Kp.refl _ _ | with_reducible assumption | with_reducible refine Kp.alloc ?_ _ | with_reducible refine Kp.drew ?_ | with_reducible refine Kp.drewN ?_ _ | (with_reducible refine Kp.setL ?_ ?_ _; focus (simp; done)) | (with_reducible refine Kp.setR ?_ ?_ _; focus (simp; done)) | (with_reducible refine Kp.setR ?_ ?_ _; focus (simp; omega))))

set_option maxHeartbeats 1000000 in
set_option maxRecDepth 100000 in
theorem In_headC (w0 : World) (g : Nat) (most : Int) (A : Option Addr) (n c : Nat) (f : Fr) (hj : Jn w0 g most 0 false A n c) (h9 : (f.ty == 9) = false) (h1 : (f.ty == 1) = true) (hm : 0 ≤ most ∧ most ≤ 65536) (hn : (n : Int) ≤ most) (hw : IntKind.i64.wrap (most - ↑n) = most - ↑n) (hc : decide (most - ↑n < ↑f.pn) = true) :
    Calls Try.prog 6 #[.pointer (some ⟨g, 0, none⟩), .agg #[.int .i64 f.ty, .int .i64 f.fl, .int .i64 f.st, .slice f.pA f.pn f.pc, .int .i64 f.pad, .int .u32 f.code, .int .i64 f.last, .int .i64 f.inc, .int .i64 f.dep, .bool f.only, .int .i64 f.wt, .slice f.sA f.sn f.sc]] w0 fun e w' => e = .returned (.tuple #[.agg #[.int .i64 0, .int .i64 0, .int .i64 0, .slice none 0 0, .int .i64 0, .int .u32 0, .int .i64 0, .int .i64 0, .int .i64 0, .bool false, .int .i64 0, .slice none 0 0], .bool false, .agg #[.bool true, .int .i64 0, .int .i64 11]]) ∧ Jn w' g most 0 false none 0 0 ∧ Kp [g] w0 w' := by
  have hg := lt_of_heap hj
  have lg1 : g < w0.heap.size + 1 := by omega
  have lg2 : g < w0.heap.size + 1 + 1 := by omega
  have lg3 : g < w0.heap.size + 1 + 1 + 1 := by omega
  have lg4 : g < w0.heap.size + 1 + 1 + 1 + 1 := by omega
  obtain ⟨j0, j1, j2, j3, j4, hz⟩ := hj.cells
  have HJ := Lib.hid hj
  clear hj
  go_enter Try.func6, Try.ntmps6
  go_wp2_with fail
  refine (JNone _ g (Kp.cell (w := w0) (S := []) (by (repeat (first | with_reducible exact Kp.refl _ _ | with_reducible assumption | with_reducible refine Kp.alloc ?_ _ | with_reducible refine Kp.drew ?_ | with_reducible refine Kp.drewN ?_ _ | (with_reducible refine Kp.setL ?_ ?_ _; focus (simp; done)) | (with_reducible refine Kp.setR ?_ ?_ _; focus (simp; done)) | (with_reducible refine Kp.setR ?_ ?_ _; focus (simp; omega))))) j0 (by simp))).mono ?_
  rintro e w1 ⟨rfl, rfl⟩
  go_wp2_with fail
  go_quiet (fail)
  go_wp2
  go_quiet (fail)
  go_wp2_with fail
  refine (Bad_any _ g w0.heap.size most f.st (bits .and .i64 f.fl 1 != 0) A n c 11 (by have J00 := HJ.out; (repeat (first | with_reducible assumption | with_reducible exact Lib.Hid.out ‹_› | with_reducible refine Jn.alloc ?_ _ | with_reducible refine Jn.drew ?_ | with_reducible refine Jn.drewN ?_ _ | with_reducible refine Jn.set2 (st := 0) ?_ _ | with_reducible refine Jn.set3 (en := false) ?_ _ | with_reducible refine Jn.set4 (A := A) (n := n) (c := c) ?_ _ _ _ | (with_reducible refine Jn.far ?_ ?_ _; focus (simp; done)) | (with_reducible refine Jn.far ?_ ?_ _; focus (simp; omega))))) (cell_of (cs := #[.pointer (some ⟨g, 0, none⟩)]) (by (repeat (first | with_reducible assumption | (with_reducible refine hp_new _ _ _ ?_; focus (simp; done)) | (with_reducible refine (hp_old _ _ _ ?_).trans ?_; focus (first | omega | (simp; done) | (simp; omega))) | (with_reducible refine (hp_far _ _ _ _ ?_).trans ?_; focus (first | (simp; done) | (simp; omega))) | (with_reducible refine (hp_drew _ _).trans ?_) | (with_reducible refine (hp_drewN _ _ _).trans ?_)))) 0) (by simp; omega)).mono ?_
  rintro e w1 ⟨rfl, J1, K1⟩
  have B1 := K1.heap (g := w0.heap.size + 1 + 1) (o := .cells #[.int .i64 0, .int .i64 0, .int .i64 0, .slice none 0 0, .int .i64 0, .int .u32 0, .int .i64 0, .int .i64 0, .int .i64 0, .bool false, .int .i64 0, .slice none 0 0] 34) (by (repeat (first | with_reducible assumption | (with_reducible refine hp_new _ _ _ ?_; focus (simp; done)) | (with_reducible refine (hp_old _ _ _ ?_).trans ?_; focus (first | omega | (simp; done) | (simp; omega))) | (with_reducible refine (hp_far _ _ _ _ ?_).trans ?_; focus (first | (simp; done) | (simp; omega))) | (with_reducible refine (hp_drew _ _).trans ?_) | (with_reducible refine (hp_drewN _ _ _).trans ?_)))) (by simp; try omega)
  have B1_0 : w1.cell? ⟨w0.heap.size + 1 + 1, 0, none⟩ = some (.int .i64 0) := cell_of B1 0
  have B1_1 : w1.cell? ⟨w0.heap.size + 1 + 1, 1, none⟩ = some (.int .i64 0) := cell_of B1 1
  have B1_2 : w1.cell? ⟨w0.heap.size + 1 + 1, 2, none⟩ = some (.int .i64 0) := cell_of B1 2
  have B1_3 : w1.cell? ⟨w0.heap.size + 1 + 1, 3, none⟩ = some (.slice none 0 0) := cell_of B1 3
  have B1_4 : w1.cell? ⟨w0.heap.size + 1 + 1, 4, none⟩ = some (.int .i64 0) := cell_of B1 4
  have B1_5 : w1.cell? ⟨w0.heap.size + 1 + 1, 5, none⟩ = some (.int .u32 0) := cell_of B1 5
  have B1_6 : w1.cell? ⟨w0.heap.size + 1 + 1, 6, none⟩ = some (.int .i64 0) := cell_of B1 6
  have B1_7 : w1.cell? ⟨w0.heap.size + 1 + 1, 7, none⟩ = some (.int .i64 0) := cell_of B1 7
  have B1_8 : w1.cell? ⟨w0.heap.size + 1 + 1, 8, none⟩ = some (.int .i64 0) := cell_of B1 8
  have B1_9 : w1.cell? ⟨w0.heap.size + 1 + 1, 9, none⟩ = some (.bool false) := cell_of B1 9
  have B1_10 : w1.cell? ⟨w0.heap.size + 1 + 1, 10, none⟩ = some (.int .i64 0) := cell_of B1 10
  have B1_11 : w1.cell? ⟨w0.heap.size + 1 + 1, 11, none⟩ = some (.slice none 0 0) := cell_of B1 11
  have B1_z : ∀ j, w1.frozen? ⟨w0.heap.size + 1 + 1, j, none⟩ = false := frozen_of B1
  have B1_l := lt_of_heap B1
  clear B1
  have B2 := K1.heap (g := w0.heap.size + 1 + 1 + 1) (o := .cells #[.bool false, .int .i64 0, .int .i64 0] 36) (by (repeat (first | with_reducible assumption | (with_reducible refine hp_new _ _ _ ?_; focus (simp; done)) | (with_reducible refine (hp_old _ _ _ ?_).trans ?_; focus (first | omega | (simp; done) | (simp; omega))) | (with_reducible refine (hp_far _ _ _ _ ?_).trans ?_; focus (first | (simp; done) | (simp; omega))) | (with_reducible refine (hp_drew _ _).trans ?_) | (with_reducible refine (hp_drewN _ _ _).trans ?_)))) (by simp; try omega)
  have B2_0 : w1.cell? ⟨w0.heap.size + 1 + 1 + 1, 0, none⟩ = some (.bool false) := cell_of B2 0
  have B2_1 : w1.cell? ⟨w0.heap.size + 1 + 1 + 1, 1, none⟩ = some (.int .i64 0) := cell_of B2 1
  have B2_2 : w1.cell? ⟨w0.heap.size + 1 + 1 + 1, 2, none⟩ = some (.int .i64 0) := cell_of B2 2
  have B2_z : ∀ j, w1.frozen? ⟨w0.heap.size + 1 + 1 + 1, j, none⟩ = false := frozen_of B2
  have B2_l := lt_of_heap B2
  clear B2
  have K2 := Kp.trans (a := w0) (S := [g]) (by (repeat (first | with_reducible exact Kp.refl _ _ | with_reducible assumption | with_reducible refine Kp.alloc ?_ _ | with_reducible refine Kp.drew ?_ | with_reducible refine Kp.drewN ?_ _ | (with_reducible refine Kp.setL ?_ ?_ _; focus (simp; done)) | (with_reducible refine Kp.setR ?_ ?_ _; focus (simp; done)) | (with_reducible refine Kp.setR ?_ ?_ _; focus (simp; omega))))) K1
  clear K1
  go_wp2
  refine bodyPost_ret (v := .tuple #[.agg #[.int .i64 0, .int .i64 0, .int .i64 0, .slice none 0 0, .int .i64 0, .int .u32 0, .int .i64 0, .int .i64 0, .int .i64 0, .bool false, .int .i64 0, .slice none 0 0], .bool false, .agg #[.bool true, .int .i64 0, .int .i64 11]]) (by simp [results, Try.results6, go_sem, B1_0, B1_1, B1_2, B1_3, B1_4, B1_5, B1_6, B1_7, B1_8, B1_9, B1_10, B1_11, B2_0, B2_1, B2_2]) rfl ⟨rfl, ?_, ?_⟩
  · exact J1.keep (S := [w0.heap.size + 1 + 1, w0.heap.size + 1 + 1 + 1]) (by (repeat (first | with_reducible exact Kp.refl _ _ | with_reducible assumption | with_reducible refine Kp.alloc ?_ _ | with_reducible refine Kp.drew ?_ | with_reducible refine Kp.drewN ?_ _ | (with_reducible refine Kp.setL ?_ ?_ _; focus (simp; done)) | (with_reducible refine Kp.setR ?_ ?_ _; focus (simp; done)) | (with_reducible refine Kp.setR ?_ ?_ _; focus (simp; omega))))) (by simp; omega)
  · exact (by (repeat (first | with_reducible exact Kp.refl _ _ | with_reducible assumption | with_reducible refine Kp.alloc ?_ _ | with_reducible refine Kp.drew ?_ | with_reducible refine Kp.drewN ?_ _ | (with_reducible refine Kp.setL ?_ ?_ _; focus (simp; done)) | (with_reducible refine Kp.setR ?_ ?_ _; focus (simp; done)) | (with_reducible refine Kp.setR ?_ ?_ _; focus (simp; omega)))))

set_option maxHeartbeats 1000000 in
set_option maxRecDepth 100000 in
theorem In_contAC (w0 : World) (g : Nat) (most : Int) (st : Int) (en : Bool) (A : Option Addr) (n c : Nat) (f : Fr) (hj : Jn w0 g most st en A n c) (hs : ¬ st = 0) (h9 : (f.ty == 9) = true) (h9' : (f.ty != 9) = false) (hst : (f.st != st) = false) (hm : 0 ≤ most ∧ most ≤ 65536) (hn : (n : Int) ≤ most) (hw : IntKind.i64.wrap (most - ↑n) = most - ↑n) (hc : decide (most - ↑n < ↑f.pn) = true) :
    Calls Try.prog 6 #[.pointer (some ⟨g, 0, none⟩), .agg #[.int .i64 f.ty, .int .i64 f.fl, .int .i64 f.st, .slice f.pA f.pn f.pc, .int .i64 f.pad, .int .u32 f.code, .int .i64 f.last, .int .i64 f.inc, .int .i64 f.dep, .bool f.only, .int .i64 f.wt, .slice f.sA f.sn f.sc]] w0 fun e w' => e = .returned (.tuple #[.agg #[.int .i64 0, .int .i64 0, .int .i64 0, .slice none 0 0, .int .i64 0, .int .u32 0, .int .i64 0, .int .i64 0, .int .i64 0, .bool false, .int .i64 0, .slice none 0 0], .bool false, .agg #[.bool true, .int .i64 0, .int .i64 11]]) ∧ Jn w' g most 0 false none 0 0 ∧ Kp [g] w0 w' := by
  have hg := lt_of_heap hj
  have lg1 : g < w0.heap.size + 1 := by omega
  have lg2 : g < w0.heap.size + 1 + 1 := by omega
  have lg3 : g < w0.heap.size + 1 + 1 + 1 := by omega
  have lg4 : g < w0.heap.size + 1 + 1 + 1 + 1 := by omega
  obtain ⟨j0, j1, j2, j3, j4, hz⟩ := hj.cells
  have HJ := Lib.hid hj
  clear hj
  go_enter Try.func6, Try.ntmps6
  go_wp2_with fail
  refine (JNone _ g (Kp.cell (w := w0) (S := []) (by (repeat (first | with_reducible exact Kp.refl _ _ | with_reducible assumption | with_reducible refine Kp.alloc ?_ _ | with_reducible refine Kp.drew ?_ | with_reducible refine Kp.drewN ?_ _ | (with_reducible refine Kp.setL ?_ ?_ _; focus (simp; done)) | (with_reducible refine Kp.setR ?_ ?_ _; focus (simp; done)) | (with_reducible refine Kp.setR ?_ ?_ _; focus (simp; omega))))) j0 (by simp))).mono ?_
  rintro e w1 ⟨rfl, rfl⟩
  go_wp2_with fail
  go_quiet (fail)
  go_wp2
  go_quiet (fail)
  go_wp2_with fail
  refine (Bad_any _ g w0.heap.size most st en A n c 11 (by have J00 := HJ.out; (repeat (first | with_reducible assumption | with_reducible exact Lib.Hid.out ‹_› | with_reducible refine Jn.alloc ?_ _ | with_reducible refine Jn.drew ?_ | with_reducible refine Jn.drewN ?_ _ | with_reducible refine Jn.set2 (st := 0) ?_ _ | with_reducible refine Jn.set3 (en := false) ?_ _ | with_reducible refine Jn.set4 (A := A) (n := n) (c := c) ?_ _ _ _ | (with_reducible refine Jn.far ?_ ?_ _; focus (simp; done)) | (with_reducible refine Jn.far ?_ ?_ _; focus (simp; omega))))) (cell_of (cs := #[.pointer (some ⟨g, 0, none⟩)]) (by (repeat (first | with_reducible assumption | (with_reducible refine hp_new _ _ _ ?_; focus (simp; done)) | (with_reducible refine (hp_old _ _ _ ?_).trans ?_; focus (first | omega | (simp; done) | (simp; omega))) | (with_reducible refine (hp_far _ _ _ _ ?_).trans ?_; focus (first | (simp; done) | (simp; omega))) | (with_reducible refine (hp_drew _ _).trans ?_) | (with_reducible refine (hp_drewN _ _ _).trans ?_)))) 0) (by simp; omega)).mono ?_
  rintro e w1 ⟨rfl, J1, K1⟩
  have B1 := K1.heap (g := w0.heap.size + 1 + 1) (o := .cells #[.int .i64 0, .int .i64 0, .int .i64 0, .slice none 0 0, .int .i64 0, .int .u32 0, .int .i64 0, .int .i64 0, .int .i64 0, .bool false, .int .i64 0, .slice none 0 0] 34) (by (repeat (first | with_reducible assumption | (with_reducible refine hp_new _ _ _ ?_; focus (simp; done)) | (with_reducible refine (hp_old _ _ _ ?_).trans ?_; focus (first | omega | (simp; done) | (simp; omega))) | (with_reducible refine (hp_far _ _ _ _ ?_).trans ?_; focus (first | (simp; done) | (simp; omega))) | (with_reducible refine (hp_drew _ _).trans ?_) | (with_reducible refine (hp_drewN _ _ _).trans ?_)))) (by simp; try omega)
  have B1_0 : w1.cell? ⟨w0.heap.size + 1 + 1, 0, none⟩ = some (.int .i64 0) := cell_of B1 0
  have B1_1 : w1.cell? ⟨w0.heap.size + 1 + 1, 1, none⟩ = some (.int .i64 0) := cell_of B1 1
  have B1_2 : w1.cell? ⟨w0.heap.size + 1 + 1, 2, none⟩ = some (.int .i64 0) := cell_of B1 2
  have B1_3 : w1.cell? ⟨w0.heap.size + 1 + 1, 3, none⟩ = some (.slice none 0 0) := cell_of B1 3
  have B1_4 : w1.cell? ⟨w0.heap.size + 1 + 1, 4, none⟩ = some (.int .i64 0) := cell_of B1 4
  have B1_5 : w1.cell? ⟨w0.heap.size + 1 + 1, 5, none⟩ = some (.int .u32 0) := cell_of B1 5
  have B1_6 : w1.cell? ⟨w0.heap.size + 1 + 1, 6, none⟩ = some (.int .i64 0) := cell_of B1 6
  have B1_7 : w1.cell? ⟨w0.heap.size + 1 + 1, 7, none⟩ = some (.int .i64 0) := cell_of B1 7
  have B1_8 : w1.cell? ⟨w0.heap.size + 1 + 1, 8, none⟩ = some (.int .i64 0) := cell_of B1 8
  have B1_9 : w1.cell? ⟨w0.heap.size + 1 + 1, 9, none⟩ = some (.bool false) := cell_of B1 9
  have B1_10 : w1.cell? ⟨w0.heap.size + 1 + 1, 10, none⟩ = some (.int .i64 0) := cell_of B1 10
  have B1_11 : w1.cell? ⟨w0.heap.size + 1 + 1, 11, none⟩ = some (.slice none 0 0) := cell_of B1 11
  have B1_z : ∀ j, w1.frozen? ⟨w0.heap.size + 1 + 1, j, none⟩ = false := frozen_of B1
  have B1_l := lt_of_heap B1
  clear B1
  have B2 := K1.heap (g := w0.heap.size + 1 + 1 + 1) (o := .cells #[.bool false, .int .i64 0, .int .i64 0] 36) (by (repeat (first | with_reducible assumption | (with_reducible refine hp_new _ _ _ ?_; focus (simp; done)) | (with_reducible refine (hp_old _ _ _ ?_).trans ?_; focus (first | omega | (simp; done) | (simp; omega))) | (with_reducible refine (hp_far _ _ _ _ ?_).trans ?_; focus (first | (simp; done) | (simp; omega))) | (with_reducible refine (hp_drew _ _).trans ?_) | (with_reducible refine (hp_drewN _ _ _).trans ?_)))) (by simp; try omega)
  have B2_0 : w1.cell? ⟨w0.heap.size + 1 + 1 + 1, 0, none⟩ = some (.bool false) := cell_of B2 0
  have B2_1 : w1.cell? ⟨w0.heap.size + 1 + 1 + 1, 1, none⟩ = some (.int .i64 0) := cell_of B2 1
  have B2_2 : w1.cell? ⟨w0.heap.size + 1 + 1 + 1, 2, none⟩ = some (.int .i64 0) := cell_of B2 2
  have B2_z : ∀ j, w1.frozen? ⟨w0.heap.size + 1 + 1 + 1, j, none⟩ = false := frozen_of B2
  have B2_l := lt_of_heap B2
  clear B2
  have K2 := Kp.trans (a := w0) (S := [g]) (by (repeat (first | with_reducible exact Kp.refl _ _ | with_reducible assumption | with_reducible refine Kp.alloc ?_ _ | with_reducible refine Kp.drew ?_ | with_reducible refine Kp.drewN ?_ _ | (with_reducible refine Kp.setL ?_ ?_ _; focus (simp; done)) | (with_reducible refine Kp.setR ?_ ?_ _; focus (simp; done)) | (with_reducible refine Kp.setR ?_ ?_ _; focus (simp; omega))))) K1
  clear K1
  go_wp2
  refine bodyPost_ret (v := .tuple #[.agg #[.int .i64 0, .int .i64 0, .int .i64 0, .slice none 0 0, .int .i64 0, .int .u32 0, .int .i64 0, .int .i64 0, .int .i64 0, .bool false, .int .i64 0, .slice none 0 0], .bool false, .agg #[.bool true, .int .i64 0, .int .i64 11]]) (by simp [results, Try.results6, go_sem, B1_0, B1_1, B1_2, B1_3, B1_4, B1_5, B1_6, B1_7, B1_8, B1_9, B1_10, B1_11, B2_0, B2_1, B2_2]) rfl ⟨rfl, ?_, ?_⟩
  · exact J1.keep (S := [w0.heap.size + 1 + 1, w0.heap.size + 1 + 1 + 1]) (by (repeat (first | with_reducible exact Kp.refl _ _ | with_reducible assumption | with_reducible refine Kp.alloc ?_ _ | with_reducible refine Kp.drew ?_ | with_reducible refine Kp.drewN ?_ _ | (with_reducible refine Kp.setL ?_ ?_ _; focus (simp; done)) | (with_reducible refine Kp.setR ?_ ?_ _; focus (simp; done)) | (with_reducible refine Kp.setR ?_ ?_ _; focus (simp; omega))))) (by simp; omega)
  · exact (by (repeat (first | with_reducible exact Kp.refl _ _ | with_reducible assumption | with_reducible refine Kp.alloc ?_ _ | with_reducible refine Kp.drew ?_ | with_reducible refine Kp.drewN ?_ _ | (with_reducible refine Kp.setL ?_ ?_ _; focus (simp; done)) | (with_reducible refine Kp.setR ?_ ?_ _; focus (simp; done)) | (with_reducible refine Kp.setR ?_ ?_ _; focus (simp; omega)))))

set_option maxHeartbeats 1000000 in
set_option maxRecDepth 100000 in
theorem In_contBC (w0 : World) (g : Nat) (most : Int) (A : Option Addr) (n c : Nat) (f : Fr) (hj : Jn w0 g most 0 true A n c) (h9 : (f.ty == 9) = true) (h9' : (f.ty != 9) = false) (hst : (f.st != 0) = false) (hm : 0 ≤ most ∧ most ≤ 65536) (hn : (n : Int) ≤ most) (hw : IntKind.i64.wrap (most - ↑n) = most - ↑n) (hc : decide (most - ↑n < ↑f.pn) = true) :
    Calls Try.prog 6 #[.pointer (some ⟨g, 0, none⟩), .agg #[.int .i64 f.ty, .int .i64 f.fl, .int .i64 f.st, .slice f.pA f.pn f.pc, .int .i64 f.pad, .int .u32 f.code, .int .i64 f.last, .int .i64 f.inc, .int .i64 f.dep, .bool f.only, .int .i64 f.wt, .slice f.sA f.sn f.sc]] w0 fun e w' => e = .returned (.tuple #[.agg #[.int .i64 0, .int .i64 0, .int .i64 0, .slice none 0 0, .int .i64 0, .int .u32 0, .int .i64 0, .int .i64 0, .int .i64 0, .bool false, .int .i64 0, .slice none 0 0], .bool false, .agg #[.bool true, .int .i64 0, .int .i64 11]]) ∧ Jn w' g most 0 false none 0 0 ∧ Kp [g] w0 w' := by
  have hg := lt_of_heap hj
  have lg1 : g < w0.heap.size + 1 := by omega
  have lg2 : g < w0.heap.size + 1 + 1 := by omega
  have lg3 : g < w0.heap.size + 1 + 1 + 1 := by omega
  have lg4 : g < w0.heap.size + 1 + 1 + 1 + 1 := by omega
  obtain ⟨j0, j1, j2, j3, j4, hz⟩ := hj.cells
  have HJ := Lib.hid hj
  clear hj
  go_enter Try.func6, Try.ntmps6
  go_wp2_with fail
  refine (JNone _ g (Kp.cell (w := w0) (S := []) (by (repeat (first | with_reducible exact Kp.refl _ _ | with_reducible assumption | with_reducible refine Kp.alloc ?_ _ | with_reducible refine Kp.drew ?_ | with_reducible refine Kp.drewN ?_ _ | (with_reducible refine Kp.setL ?_ ?_ _; focus (simp; done)) | (with_reducible refine Kp.setR ?_ ?_ _; focus (simp; done)) | (with_reducible refine Kp.setR ?_ ?_ _; focus (simp; omega))))) j0 (by simp))).mono ?_
  rintro e w1 ⟨rfl, rfl⟩
  go_wp2_with fail
  go_quiet (fail)
  go_wp2
  go_quiet (fail)
  go_wp2_with fail
  refine (Bad_any _ g w0.heap.size most 0 true A n c 11 (by have J00 := HJ.out; (repeat (first | with_reducible assumption | with_reducible exact Lib.Hid.out ‹_› | with_reducible refine Jn.alloc ?_ _ | with_reducible refine Jn.drew ?_ | with_reducible refine Jn.drewN ?_ _ | with_reducible refine Jn.set2 (st := 0) ?_ _ | with_reducible refine Jn.set3 (en := false) ?_ _ | with_reducible refine Jn.set4 (A := A) (n := n) (c := c) ?_ _ _ _ | (with_reducible refine Jn.far ?_ ?_ _; focus (simp; done)) | (with_reducible refine Jn.far ?_ ?_ _; focus (simp; omega))))) (cell_of (cs := #[.pointer (some ⟨g, 0, none⟩)]) (by (repeat (first | with_reducible assumption | (with_reducible refine hp_new _ _ _ ?_; focus (simp; done)) | (with_reducible refine (hp_old _ _ _ ?_).trans ?_; focus (first | omega | (simp; done) | (simp; omega))) | (with_reducible refine (hp_far _ _ _ _ ?_).trans ?_; focus (first | (simp; done) | (simp; omega))) | (with_reducible refine (hp_drew _ _).trans ?_) | (with_reducible refine (hp_drewN _ _ _).trans ?_)))) 0) (by simp; omega)).mono ?_
  rintro e w1 ⟨rfl, J1, K1⟩
  have B1 := K1.heap (g := w0.heap.size + 1 + 1) (o := .cells #[.int .i64 0, .int .i64 0, .int .i64 0, .slice none 0 0, .int .i64 0, .int .u32 0, .int .i64 0, .int .i64 0, .int .i64 0, .bool false, .int .i64 0, .slice none 0 0] 34) (by (repeat (first | with_reducible assumption | (with_reducible refine hp_new _ _ _ ?_; focus (simp; done)) | (with_reducible refine (hp_old _ _ _ ?_).trans ?_; focus (first | omega | (simp; done) | (simp; omega))) | (with_reducible refine (hp_far _ _ _ _ ?_).trans ?_; focus (first | (simp; done) | (simp; omega))) | (with_reducible refine (hp_drew _ _).trans ?_) | (with_reducible refine (hp_drewN _ _ _).trans ?_)))) (by simp; try omega)
  have B1_0 : w1.cell? ⟨w0.heap.size + 1 + 1, 0, none⟩ = some (.int .i64 0) := cell_of B1 0
  have B1_1 : w1.cell? ⟨w0.heap.size + 1 + 1, 1, none⟩ = some (.int .i64 0) := cell_of B1 1
  have B1_2 : w1.cell? ⟨w0.heap.size + 1 + 1, 2, none⟩ = some (.int .i64 0) := cell_of B1 2
  have B1_3 : w1.cell? ⟨w0.heap.size + 1 + 1, 3, none⟩ = some (.slice none 0 0) := cell_of B1 3
  have B1_4 : w1.cell? ⟨w0.heap.size + 1 + 1, 4, none⟩ = some (.int .i64 0) := cell_of B1 4
  have B1_5 : w1.cell? ⟨w0.heap.size + 1 + 1, 5, none⟩ = some (.int .u32 0) := cell_of B1 5
  have B1_6 : w1.cell? ⟨w0.heap.size + 1 + 1, 6, none⟩ = some (.int .i64 0) := cell_of B1 6
  have B1_7 : w1.cell? ⟨w0.heap.size + 1 + 1, 7, none⟩ = some (.int .i64 0) := cell_of B1 7
  have B1_8 : w1.cell? ⟨w0.heap.size + 1 + 1, 8, none⟩ = some (.int .i64 0) := cell_of B1 8
  have B1_9 : w1.cell? ⟨w0.heap.size + 1 + 1, 9, none⟩ = some (.bool false) := cell_of B1 9
  have B1_10 : w1.cell? ⟨w0.heap.size + 1 + 1, 10, none⟩ = some (.int .i64 0) := cell_of B1 10
  have B1_11 : w1.cell? ⟨w0.heap.size + 1 + 1, 11, none⟩ = some (.slice none 0 0) := cell_of B1 11
  have B1_z : ∀ j, w1.frozen? ⟨w0.heap.size + 1 + 1, j, none⟩ = false := frozen_of B1
  have B1_l := lt_of_heap B1
  clear B1
  have B2 := K1.heap (g := w0.heap.size + 1 + 1 + 1) (o := .cells #[.bool false, .int .i64 0, .int .i64 0] 36) (by (repeat (first | with_reducible assumption | (with_reducible refine hp_new _ _ _ ?_; focus (simp; done)) | (with_reducible refine (hp_old _ _ _ ?_).trans ?_; focus (first | omega | (simp; done) | (simp; omega))) | (with_reducible refine (hp_far _ _ _ _ ?_).trans ?_; focus (first | (simp; done) | (simp; omega))) | (with_reducible refine (hp_drew _ _).trans ?_) | (with_reducible refine (hp_drewN _ _ _).trans ?_)))) (by simp; try omega)
  have B2_0 : w1.cell? ⟨w0.heap.size + 1 + 1 + 1, 0, none⟩ = some (.bool false) := cell_of B2 0
  have B2_1 : w1.cell? ⟨w0.heap.size + 1 + 1 + 1, 1, none⟩ = some (.int .i64 0) := cell_of B2 1
  have B2_2 : w1.cell? ⟨w0.heap.size + 1 + 1 + 1, 2, none⟩ = some (.int .i64 0) := cell_of B2 2
  have B2_z : ∀ j, w1.frozen? ⟨w0.heap.size + 1 + 1 + 1, j, none⟩ = false := frozen_of B2
  have B2_l := lt_of_heap B2
  clear B2
  have K2 := Kp.trans (a := w0) (S := [g]) (by (repeat (first | with_reducible exact Kp.refl _ _ | with_reducible assumption | with_reducible refine Kp.alloc ?_ _ | with_reducible refine Kp.drew ?_ | with_reducible refine Kp.drewN ?_ _ | (with_reducible refine Kp.setL ?_ ?_ _; focus (simp; done)) | (with_reducible refine Kp.setR ?_ ?_ _; focus (simp; done)) | (with_reducible refine Kp.setR ?_ ?_ _; focus (simp; omega))))) K1
  clear K1
  go_wp2
  refine bodyPost_ret (v := .tuple #[.agg #[.int .i64 0, .int .i64 0, .int .i64 0, .slice none 0 0, .int .i64 0, .int .u32 0, .int .i64 0, .int .i64 0, .int .i64 0, .bool false, .int .i64 0, .slice none 0 0], .bool false, .agg #[.bool true, .int .i64 0, .int .i64 11]]) (by simp [results, Try.results6, go_sem, B1_0, B1_1, B1_2, B1_3, B1_4, B1_5, B1_6, B1_7, B1_8, B1_9, B1_10, B1_11, B2_0, B2_1, B2_2]) rfl ⟨rfl, ?_, ?_⟩
  · exact J1.keep (S := [w0.heap.size + 1 + 1, w0.heap.size + 1 + 1 + 1]) (by (repeat (first | with_reducible exact Kp.refl _ _ | with_reducible assumption | with_reducible refine Kp.alloc ?_ _ | with_reducible refine Kp.drew ?_ | with_reducible refine Kp.drewN ?_ _ | (with_reducible refine Kp.setL ?_ ?_ _; focus (simp; done)) | (with_reducible refine Kp.setR ?_ ?_ _; focus (simp; done)) | (with_reducible refine Kp.setR ?_ ?_ _; focus (simp; omega))))) (by simp; omega)
  · exact (by (repeat (first | with_reducible exact Kp.refl _ _ | with_reducible assumption | with_reducible refine Kp.alloc ?_ _ | with_reducible refine Kp.drew ?_ | with_reducible refine Kp.drewN ?_ _ | (with_reducible refine Kp.setL ?_ ?_ _; focus (simp; done)) | (with_reducible refine Kp.setR ?_ ?_ _; focus (simp; done)) | (with_reducible refine Kp.setR ?_ ?_ _; focus (simp; omega)))))

set_option maxHeartbeats 1000000 in
set_option maxRecDepth 100000 in
theorem In_contAN (w0 : World) (g : Nat) (most : Int) (st : Int) (en : Bool) (A : Option Addr) (n c : Nat) (f : Fr) (hj : Jn w0 g most st en A n c) (hs : ¬ st = 0) (h9 : (f.ty == 9) = true) (h9' : (f.ty != 9) = false) (hst : (f.st != st) = false) (hm : 0 ≤ most ∧ most ≤ 65536) (hn : (n : Int) ≤ most) (hw : IntKind.i64.wrap (most - ↑n) = most - ↑n) (hc : decide (most - ↑n < ↑f.pn) = false) (base : Nat) (hbs : base ≤ w0.heap.size) (l lf : List UInt8) (ho : Ow w0 base 5 1 A n c (l.map u8)) (hgb : g ∉ ob A) (hrf : Rd w0 f.pA f.pn f.pc lf) (hfo : 0 < f.pn → ∀ b, b ∈ ob f.pA → b ≠ g) (hpn : f.pn ≤ 140737488351232) (hd : (bits .and .i64 f.fl 4 == 0) = true) :
    Calls Try.prog 6 #[.pointer (some ⟨g, 0, none⟩), .agg #[.int .i64 f.ty, .int .i64 f.fl, .int .i64 f.st, .slice f.pA f.pn f.pc, .int .i64 f.pad, .int .u32 f.code, .int .i64 f.last, .int .i64 f.inc, .int .i64 f.dep, .bool f.only, .int .i64 f.wt, .slice f.sA f.sn f.sc]] w0 fun e w' => e = .returned (.tuple #[.agg #[.int .i64 0, .int .i64 0, .int .i64 0, .slice none 0 0, .int .i64 0, .int .u32 0, .int .i64 0, .int .i64 0, .int .i64 0, .bool false, .int .i64 0, .slice none 0 0], .bool false, .agg #[.bool false, .int .i64 0, .int .i64 0]]) ∧ ∃ A' c', Jn w' g most st en A' (n + f.pn) c' ∧ Ow w' base 5 1 A' (n + f.pn) c' ((l ++ lf).map u8) ∧ (g ∉ ob A' ∧ ∀ b, b ∈ ob A' → b ∈ ob A ∨ w0.heap.size ≤ b) ∧ Kp (g :: ob A) w0 w' := by
  have hg := lt_of_heap hj
  have lg1 : g < w0.heap.size + 1 := by omega
  have lg2 : g < w0.heap.size + 1 + 1 := by omega
  have lg3 : g < w0.heap.size + 1 + 1 + 1 := by omega
  have lg4 : g < w0.heap.size + 1 + 1 + 1 + 1 := by omega
  obtain ⟨j0, j1, j2, j3, j4, hz⟩ := hj.cells
  have HJ := Lib.hid hj
  clear hj
  go_enter Try.func6, Try.ntmps6
  go_wp2_with fail
  refine (JNone _ g (Kp.cell (w := w0) (S := []) (by (repeat (first | with_reducible exact Kp.refl _ _ | with_reducible assumption | with_reducible refine Kp.alloc ?_ _ | with_reducible refine Kp.drew ?_ | with_reducible refine Kp.drewN ?_ _ | (with_reducible refine Kp.setL ?_ ?_ _; focus (simp; done)) | (with_reducible refine Kp.setR ?_ ?_ _; focus (simp; done)) | (with_reducible refine Kp.setR ?_ ?_ _; focus (simp; omega))))) j0 (by simp))).mono ?_
  rintro e w1 ⟨rfl, rfl⟩
  go_wp2_with fail
  go_quiet (fail)
  go_wp2
  go_quiet (fail)
  go_wp2
  generalize hW : World.drewN _ _ = W1
  have J00 := HJ.out
  have J1 : Jn W1 g most st en A n c := by rw [← hW]; (repeat (first | with_reducible assumption | with_reducible exact Lib.Hid.out ‹_› | with_reducible refine Jn.alloc ?_ _ | with_reducible refine Jn.drew ?_ | with_reducible refine Jn.drewN ?_ _ | with_reducible refine Jn.set2 (st := 0) ?_ _ | with_reducible refine Jn.set3 (en := false) ?_ _ | with_reducible refine Jn.set4 (A := A) (n := n) (c := c) ?_ _ _ _ | (with_reducible refine Jn.far ?_ ?_ _; focus (simp; done)) | (with_reducible refine Jn.far ?_ ?_ _; focus (simp; omega))))
  have D0 : W1.heap[w0.heap.size]? = some (.cells #[.pointer (some ⟨g, 0, none⟩)] 23) := by rw [← hW]; (repeat (first | with_reducible assumption | (with_reducible refine hp_new _ _ _ ?_; focus (simp; done)) | (with_reducible refine (hp_old _ _ _ ?_).trans ?_; focus (first | omega | (simp; done) | (simp; omega))) | (with_reducible refine (hp_far _ _ _ _ ?_).trans ?_; focus (first | (simp; done) | (simp; omega))) | (with_reducible refine (hp_drew _ _).trans ?_) | (with_reducible refine (hp_drewN _ _ _).trans ?_)))
  have D0_0 : W1.cell? ⟨w0.heap.size, 0, none⟩ = some (.pointer (some ⟨g, 0, none⟩)) := cell_of D0 0
  have D0_z : ∀ j, W1.frozen? ⟨w0.heap.size, j, none⟩ = false := frozen_of D0
  have D0_l := lt_of_heap D0
  have D1 : W1.heap[w0.heap.size + 1]? = some (.cells #[.int .i64 f.ty, .int .i64 f.fl, .int .i64 f.st, .slice f.pA f.pn f.pc, .int .i64 f.pad, .int .u32 f.code, .int .i64 f.last, .int .i64 f.inc, .int .i64 f.dep, .bool f.only, .int .i64 f.wt, .slice f.sA f.sn f.sc] 34) := by rw [← hW]; (repeat (first | with_reducible assumption | (with_reducible refine hp_new _ _ _ ?_; focus (simp; done)) | (with_reducible refine (hp_old _ _ _ ?_).trans ?_; focus (first | omega | (simp; done) | (simp; omega))) | (with_reducible refine (hp_far _ _ _ _ ?_).trans ?_; focus (first | (simp; done) | (simp; omega))) | (with_reducible refine (hp_drew _ _).trans ?_) | (with_reducible refine (hp_drewN _ _ _).trans ?_)))
  have D1_0 : W1.cell? ⟨w0.heap.size + 1, 0, none⟩ = some (.int .i64 f.ty) := cell_of D1 0
  have D1_1 : W1.cell? ⟨w0.heap.size + 1, 1, none⟩ = some (.int .i64 f.fl) := cell_of D1 1
  have D1_2 : W1.cell? ⟨w0.heap.size + 1, 2, none⟩ = some (.int .i64 f.st) := cell_of D1 2
  have D1_3 : W1.cell? ⟨w0.heap.size + 1, 3, none⟩ = some (.slice f.pA f.pn f.pc) := cell_of D1 3
  have D1_4 : W1.cell? ⟨w0.heap.size + 1, 4, none⟩ = some (.int .i64 f.pad) := cell_of D1 4
  have D1_5 : W1.cell? ⟨w0.heap.size + 1, 5, none⟩ = some (.int .u32 f.code) := cell_of D1 5
  have D1_6 : W1.cell? ⟨w0.heap.size + 1, 6, none⟩ = some (.int .i64 f.last) := cell_of D1 6
  have D1_7 : W1.cell? ⟨w0.heap.size + 1, 7, none⟩ = some (.int .i64 f.inc) := cell_of D1 7
  have D1_8 : W1.cell? ⟨w0.heap.size + 1, 8, none⟩ = some (.int .i64 f.dep) := cell_of D1 8
  have D1_9 : W1.cell? ⟨w0.heap.size + 1, 9, none⟩ = some (.bool f.only) := cell_of D1 9
  have D1_10 : W1.cell? ⟨w0.heap.size + 1, 10, none⟩ = some (.int .i64 f.wt) := cell_of D1 10
  have D1_11 : W1.cell? ⟨w0.heap.size + 1, 11, none⟩ = some (.slice f.sA f.sn f.sc) := cell_of D1 11
  have D1_z : ∀ j, W1.frozen? ⟨w0.heap.size + 1, j, none⟩ = false := frozen_of D1
  have D1_l := lt_of_heap D1
  have D2 : W1.heap[w0.heap.size + 1 + 1]? = some (.cells #[.int .i64 0, .int .i64 0, .int .i64 0, .slice none 0 0, .int .i64 0, .int .u32 0, .int .i64 0, .int .i64 0, .int .i64 0, .bool false, .int .i64 0, .slice none 0 0] 34) := by rw [← hW]; (repeat (first | with_reducible assumption | (with_reducible refine hp_new _ _ _ ?_; focus (simp; done)) | (with_reducible refine (hp_old _ _ _ ?_).trans ?_; focus (first | omega | (simp; done) | (simp; omega))) | (with_reducible refine (hp_far _ _ _ _ ?_).trans ?_; focus (first | (simp; done) | (simp; omega))) | (with_reducible refine (hp_drew _ _).trans ?_) | (with_reducible refine (hp_drewN _ _ _).trans ?_)))
  have D2_0 : W1.cell? ⟨w0.heap.size + 1 + 1, 0, none⟩ = some (.int .i64 0) := cell_of D2 0
  have D2_1 : W1.cell? ⟨w0.heap.size + 1 + 1, 1, none⟩ = some (.int .i64 0) := cell_of D2 1
  have D2_2 : W1.cell? ⟨w0.heap.size + 1 + 1, 2, none⟩ = some (.int .i64 0) := cell_of D2 2
  have D2_3 : W1.cell? ⟨w0.heap.size + 1 + 1, 3, none⟩ = some (.slice none 0 0) := cell_of D2 3
  have D2_4 : W1.cell? ⟨w0.heap.size + 1 + 1, 4, none⟩ = some (.int .i64 0) := cell_of D2 4
  have D2_5 : W1.cell? ⟨w0.heap.size + 1 + 1, 5, none⟩ = some (.int .u32 0) := cell_of D2 5
  have D2_6 : W1.cell? ⟨w0.heap.size + 1 + 1, 6, none⟩ = some (.int .i64 0) := cell_of D2 6
  have D2_7 : W1.cell? ⟨w0.heap.size + 1 + 1, 7, none⟩ = some (.int .i64 0) := cell_of D2 7
  have D2_8 : W1.cell? ⟨w0.heap.size + 1 + 1, 8, none⟩ = some (.int .i64 0) := cell_of D2 8
  have D2_9 : W1.cell? ⟨w0.heap.size + 1 + 1, 9, none⟩ = some (.bool false) := cell_of D2 9
  have D2_10 : W1.cell? ⟨w0.heap.size + 1 + 1, 10, none⟩ = some (.int .i64 0) := cell_of D2 10
  have D2_11 : W1.cell? ⟨w0.heap.size + 1 + 1, 11, none⟩ = some (.slice none 0 0) := cell_of D2 11
  have D2_z : ∀ j, W1.frozen? ⟨w0.heap.size + 1 + 1, j, none⟩ = false := frozen_of D2
  have D2_l := lt_of_heap D2
  have D3 : W1.heap[w0.heap.size + 1 + 1 + 1]? = some (.cells #[.bool false, .int .i64 0, .int .i64 0] 36) := by rw [← hW]; (repeat (first | with_reducible assumption | (with_reducible refine hp_new _ _ _ ?_; focus (simp; done)) | (with_reducible refine (hp_old _ _ _ ?_).trans ?_; focus (first | omega | (simp; done) | (simp; omega))) | (with_reducible refine (hp_far _ _ _ _ ?_).trans ?_; focus (first | (simp; done) | (simp; omega))) | (with_reducible refine (hp_drew _ _).trans ?_) | (with_reducible refine (hp_drewN _ _ _).trans ?_)))
  have D3_0 : W1.cell? ⟨w0.heap.size + 1 + 1 + 1, 0, none⟩ = some (.bool false) := cell_of D3 0
  have D3_1 : W1.cell? ⟨w0.heap.size + 1 + 1 + 1, 1, none⟩ = some (.int .i64 0) := cell_of D3 1
  have D3_2 : W1.cell? ⟨w0.heap.size + 1 + 1 + 1, 2, none⟩ = some (.int .i64 0) := cell_of D3 2
  have D3_z : ∀ j, W1.frozen? ⟨w0.heap.size + 1 + 1 + 1, j, none⟩ = false := frozen_of D3
  have D3_l := lt_of_heap D3
  have K1 : Kp [g] w0 W1 := by rw [← hW]; (repeat (first | with_reducible exact Kp.refl _ _ | with_reducible assumption | with_reducible refine Kp.alloc ?_ _ | with_reducible refine Kp.drew ?_ | with_reducible refine Kp.drewN ?_ _ | (with_reducible refine Kp.setL ?_ ?_ _; focus (simp; done)) | (with_reducible refine Kp.setR ?_ ?_ _; focus (simp; done)) | (with_reducible refine Kp.setR ?_ ?_ _; focus (simp; omega))))
  clear hW j0 j1 j2 j3 j4 hz lg1 lg2 lg3 lg4
  obtain ⟨j0, j1, j2, j3, j4, hz⟩ := J1.cells
  have O1 := ho.keep K1.drew (by intro b hb hs; simp at hs; subst hs; exact hgb hb)
  have R1 := hrf.keep K1.drew (by intro hp b hb hs; simp at hs; exact hfo hp b hb hs)
  have hbs1 : base ≤ W1.drew.heap.size := by have := K1.drew.size; omega
  have hoA : ∀ b, b ∈ ob A → b < w0.heap.size := fun b hb => (ho.base b hb).2
  have hN : ∀ x, w0.heap.size ≤ x → x ∉ g :: ob A := by
    intro x hx hm
    rcases List.mem_cons.1 hm with h | h
    · omega
    · have := hoA x h; omega
  have CQ : ∀ v, (∃ k, (match (motive := Nat → Prop) k with | 0 => v = W1.drew | 1 => v = W1.drew | 2 => Kp (ob A) W1 v | _ => ∃ A' c', Jn v g most st en A' (n + f.pn) c' ∧ Ow v base 5 1 A' (n + f.pn) c' ((l ++ lf).map u8) ∧ (g ∉ ob A' ∧ ∀ b, b ∈ ob A' → b ∈ ob A ∨ w0.heap.size + 1 + 1 + 1 < b) ∧ Kp (g :: ob A) W1 v)) → Kp (g :: ob A) W1 v := by
    rintro v ⟨k, hk⟩
    rcases k with _ | _ | _ | k
    · cases hk; exact (Kp.refl _ W1).drew
    · cases hk; exact (Kp.refl _ W1).drew
    · exact Kp.mono hk (fun s hs => .inl (List.mem_cons_of_mem _ hs))
    · obtain ⟨_, _, _, _, _, h⟩ := hk; exact h
  refine wp_region_lists (by kernel_rfl) [fun v _ => v = (.pointer (some ⟨g, 0, none⟩)),
      fun v _ => v = (.pointer (some ⟨g, 0, none⟩)),
      fun v _ => v = (.pointer (some ⟨g, 0, none⟩)),
      fun v _ => v = (.pointer (some ⟨g, 4, none⟩)),
      fun v w => v = .slice A n c,
      fun v _ => v = (.pointer (some ⟨w0.heap.size + 1, 3, none⟩)),
      fun v _ => v = (.slice f.pA f.pn f.pc),
      fun v w => ∃ A' c', v = .slice A' (n + f.pn) c' ∧ Ow w base 5 1 A' (n + f.pn) c' ((l ++ lf).map u8) ∧ (g ∉ ob A' ∧ ∀ b, b ∈ ob A' → b ∈ ob A ∨ w0.heap.size + 1 + 1 + 1 < b),
      fun v _ => v = (.pointer (some ⟨g, 0, none⟩)),
      fun v _ => v = (.pointer (some ⟨g, 4, none⟩)),
      fun v _ => True] (fun k w => match k with | 0 => w = W1.drew | 1 => w = W1.drew | 2 => Kp (ob A) W1 w | _ => ∃ A' c', Jn w g most st en A' (n + f.pn) c' ∧ Ow w base 5 1 A' (n + f.pn) c' ((l ++ lf).map u8) ∧ (g ∉ ob A' ∧ ∀ b, b ∈ ob A' → b ∈ ob A ∨ w0.heap.size + 1 + 1 + 1 < b) ∧ Kp (g :: ob A) W1 w) (fun k w w' => match k with | 0 => w' = w | 1 => Kp (ob A) w w' | _ => Kp [g] w w') [4, 7, 10] (by kernel_rfl) (by kernel_rfl) (by kernel_rfl) (by decide) (by kernel_rfl) ⟨StabsAt.const _, StabsAt.const _, StabsAt.const _, StabsAt.const _, StabsAt.const _, StabsAt.const _, StabsAt.const _, (by intro k v w w' hk hne hR hv; rcases k with _ | _ | _ | k; (cases hR; exact hv); (exact absurd rfl hne); (obtain ⟨A', c', e, O2, hgA⟩ := hv; exact ⟨A', c', e, O2.keep hR (by intro b hb hs; simp at hs; subst hs; exact hgA.1 hb), hgA⟩); (exact absurd hk (by simp))), StabsAt.const _, StabsAt.const _, StabsAt.const _, trivial⟩ (rfl) ⟨?_, ?_, ?_, ?_, ?_, ?_, ?_, ?_, ?_, ?_, ?_, trivial⟩ (by kernel_rfl) ?_
  · intro a w E hC K hK
    have h2 : a.tmps[2]? = some (.pointer (some ⟨w0.heap.size, 0, none⟩)) := (E.out 2 (by kernel_rfl)).trans rfl
    refine want_none rfl ?_
    have hq := (CQ _ hC).cell D0_0 (hN _ (by simp))
    go_simp
    exact hK _ rfl
  · intro a w E hC K hK
    have h2 : a.tmps[2]? = some (.pointer (some ⟨w0.heap.size, 0, none⟩)) := (E.out 2 (by kernel_rfl)).trans rfl
    refine want_none rfl ?_
    have hq := (CQ _ hC).cell D0_0 (hN _ (by simp))
    go_simp
    exact hK _ rfl
  · intro a w E hC K hK
    obtain ⟨_, h91, rfl⟩ := E.pred 1 _ 91 rfl rfl (by kernel_rfl)
    refine want_none rfl ?_
    go_simp
    exact hK _ rfl
  · intro a w E hC K hK
    obtain ⟨_, h92, rfl⟩ := E.pred 2 _ 92 rfl rfl (by kernel_rfl)
    refine want_none rfl ?_
    go_simp
    exact hK _ rfl
  · intro a w E hC K hK
    obtain ⟨_, h93, rfl⟩ := E.pred 3 _ 93 rfl rfl (by kernel_rfl)
    refine want_none rfl ?_
    obtain rfl : w = W1.drew := hC
    go_simp
    exact hK _ _ rfl rfl ⟨by decide, rfl⟩
  · intro a w E hC K hK
    have h3 : a.tmps[3]? = some (.pointer (some ⟨w0.heap.size + 1, 0, none⟩)) := (E.out 3 (by kernel_rfl)).trans rfl
    refine want_none rfl ?_
    go_simp
    exact hK _ rfl
  · intro a w E hC K hK
    obtain ⟨_, h95, rfl⟩ := E.pred 5 _ 95 rfl rfl (by kernel_rfl)
    refine want_none rfl ?_
    have hq := (CQ _ hC).cell D1_3 (hN _ (by simp))
    go_simp
    exact hK _ rfl
  · intro a w E hC K hK
    obtain ⟨v4, h94, V4⟩ := E.pred 4 _ 94 rfl rfl (by kernel_rfl)
    replace V4 : (fun v w => v = .slice A n c) v4 w := V4
    obtain rfl := V4
    obtain ⟨_, h96, rfl⟩ := E.pred 6 _ 96 rfl rfl (by kernel_rfl)
    refine want_none rfl ?_
    obtain rfl : w = W1.drew := hC
    refine op_appB (.tmp 94) (.tmp 96) 30 5 rfl Try.underlying30 Try.info5 base A n c l (eval_tmp h94) O1 f.pA f.pn f.pc lf (eval_tmp h96) R1 (by omega) hbs1 ?_
    intro A' c' w2 O2 K2 hA'
    exact hK _ _ ⟨A', c', rfl, O2, ⟨by rcases hA' with rfl | rfl; exact hgb; simp [ob]; omega, by intro b hb; rcases hA' with rfl | rfl; exact .inl hb; simp [ob] at hb; right; omega⟩⟩ (Kp.trans (S := ob A) (Kp.refl _ W1).drew K2) ⟨by decide, K2⟩
  · intro a w E hC K hK
    obtain ⟨_, h90, rfl⟩ := E.pred 0 _ 90 rfl rfl (by kernel_rfl)
    refine want_none rfl ?_
    go_simp
    exact hK _ rfl
  · intro a w E hC K hK
    obtain ⟨_, h98, rfl⟩ := E.pred 8 _ 98 rfl rfl (by kernel_rfl)
    refine want_none rfl ?_
    go_simp
    exact hK _ rfl
  · intro a w E hC K hK
    obtain ⟨_, h99, rfl⟩ := E.pred 9 _ 99 rfl rfl (by kernel_rfl)
    obtain ⟨v7, h97, V7⟩ := E.pred 7 _ 97 rfl rfl (by kernel_rfl)
    replace V7 : (fun v w => ∃ A' c', v = .slice A' (n + f.pn) c' ∧ Ow w base 5 1 A' (n + f.pn) c' ((l ++ lf).map u8) ∧ (g ∉ ob A' ∧ ∀ b, b ∈ ob A' → b ∈ ob A ∨ w0.heap.size + 1 + 1 + 1 < b)) v7 w := V7
    obtain ⟨A', c', rfl, O2, hgA⟩ := V7
    refine want_none rfl ?_
    have hk : Kp (ob A) W1 w := hC
    have J2 := J1.keep hk hgb
    obtain ⟨i0, i1, i2, i3, i4, iz⟩ := J2.cells
    go_simp
    exact hK undef _ trivial ⟨A', c', J2.set4 _ _ _, O2.keep ((Kp.refl [g] _).setCell (.inl (by simp)) _) (by intro b hb hs; simp at hs; subst hs; exact hgA.1 hb), hgA, (hk.mono (fun s hs => .inl (List.mem_cons_of_mem _ hs))).setCell (.inl (by simp)) _⟩ ⟨by decide, (Kp.refl [g] _).setCell (.inl (by simp)) _⟩
  intro vs w2 hC hV
  obtain ⟨A2, c2, J2, O2, hg2, K2⟩ := hC
  clear hV CQ
  have E0 := K2.heap D0 (hN _ (by omega))
  have E0_0 : w2.cell? ⟨w0.heap.size, 0, none⟩ = some (.pointer (some ⟨g, 0, none⟩)) := cell_of E0 0
  have E0_z : ∀ j, w2.frozen? ⟨w0.heap.size, j, none⟩ = false := frozen_of E0
  have E0_l := lt_of_heap E0
  clear E0 D0 D0_0 D0_z D0_l
  have E1 := K2.heap D1 (hN _ (by omega))
  have E1_0 : w2.cell? ⟨w0.heap.size + 1, 0, none⟩ = some (.int .i64 f.ty) := cell_of E1 0
  have E1_1 : w2.cell? ⟨w0.heap.size + 1, 1, none⟩ = some (.int .i64 f.fl) := cell_of E1 1
  have E1_2 : w2.cell? ⟨w0.heap.size + 1, 2, none⟩ = some (.int .i64 f.st) := cell_of E1 2
  have E1_3 : w2.cell? ⟨w0.heap.size + 1, 3, none⟩ = some (.slice f.pA f.pn f.pc) := cell_of E1 3
  have E1_4 : w2.cell? ⟨w0.heap.size + 1, 4, none⟩ = some (.int .i64 f.pad) := cell_of E1 4
  have E1_5 : w2.cell? ⟨w0.heap.size + 1, 5, none⟩ = some (.int .u32 f.code) := cell_of E1 5
  have E1_6 : w2.cell? ⟨w0.heap.size + 1, 6, none⟩ = some (.int .i64 f.last) := cell_of E1 6
  have E1_7 : w2.cell? ⟨w0.heap.size + 1, 7, none⟩ = some (.int .i64 f.inc) := cell_of E1 7
  have E1_8 : w2.cell? ⟨w0.heap.size + 1, 8, none⟩ = some (.int .i64 f.dep) := cell_of E1 8
  have E1_9 : w2.cell? ⟨w0.heap.size + 1, 9, none⟩ = some (.bool f.only) := cell_of E1 9
  have E1_10 : w2.cell? ⟨w0.heap.size + 1, 10, none⟩ = some (.int .i64 f.wt) := cell_of E1 10
  have E1_11 : w2.cell? ⟨w0.heap.size + 1, 11, none⟩ = some (.slice f.sA f.sn f.sc) := cell_of E1 11
  have E1_z : ∀ j, w2.frozen? ⟨w0.heap.size + 1, j, none⟩ = false := frozen_of E1
  have E1_l := lt_of_heap E1
  clear E1 D1 D1_0 D1_1 D1_2 D1_3 D1_4 D1_5 D1_6 D1_7 D1_8 D1_9 D1_10 D1_11 D1_z D1_l
  have E2 := K2.heap D2 (hN _ (by omega))
  have E2_0 : w2.cell? ⟨w0.heap.size + 1 + 1, 0, none⟩ = some (.int .i64 0) := cell_of E2 0
  have E2_1 : w2.cell? ⟨w0.heap.size + 1 + 1, 1, none⟩ = some (.int .i64 0) := cell_of E2 1
  have E2_2 : w2.cell? ⟨w0.heap.size + 1 + 1, 2, none⟩ = some (.int .i64 0) := cell_of E2 2
  have E2_3 : w2.cell? ⟨w0.heap.size + 1 + 1, 3, none⟩ = some (.slice none 0 0) := cell_of E2 3
  have E2_4 : w2.cell? ⟨w0.heap.size + 1 + 1, 4, none⟩ = some (.int .i64 0) := cell_of E2 4
  have E2_5 : w2.cell? ⟨w0.heap.size + 1 + 1, 5, none⟩ = some (.int .u32 0) := cell_of E2 5
  have E2_6 : w2.cell? ⟨w0.heap.size + 1 + 1, 6, none⟩ = some (.int .i64 0) := cell_of E2 6
  have E2_7 : w2.cell? ⟨w0.heap.size + 1 + 1, 7, none⟩ = some (.int .i64 0) := cell_of E2 7
  have E2_8 : w2.cell? ⟨w0.heap.size + 1 + 1, 8, none⟩ = some (.int .i64 0) := cell_of E2 8
  have E2_9 : w2.cell? ⟨w0.heap.size + 1 + 1, 9, none⟩ = some (.bool false) := cell_of E2 9
  have E2_10 : w2.cell? ⟨w0.heap.size + 1 + 1, 10, none⟩ = some (.int .i64 0) := cell_of E2 10
  have E2_11 : w2.cell? ⟨w0.heap.size + 1 + 1, 11, none⟩ = some (.slice none 0 0) := cell_of E2 11
  have E2_z : ∀ j, w2.frozen? ⟨w0.heap.size + 1 + 1, j, none⟩ = false := frozen_of E2
  have E2_l := lt_of_heap E2
  clear E2 D2 D2_0 D2_1 D2_2 D2_3 D2_4 D2_5 D2_6 D2_7 D2_8 D2_9 D2_10 D2_11 D2_z D2_l
  have E3 := K2.heap D3 (hN _ (by omega))
  have E3_0 : w2.cell? ⟨w0.heap.size + 1 + 1 + 1, 0, none⟩ = some (.bool false) := cell_of E3 0
  have E3_1 : w2.cell? ⟨w0.heap.size + 1 + 1 + 1, 1, none⟩ = some (.int .i64 0) := cell_of E3 1
  have E3_2 : w2.cell? ⟨w0.heap.size + 1 + 1 + 1, 2, none⟩ = some (.int .i64 0) := cell_of E3 2
  have E3_z : ∀ j, w2.frozen? ⟨w0.heap.size + 1 + 1 + 1, j, none⟩ = false := frozen_of E3
  have E3_l := lt_of_heap E3
  clear E3 D3 D3_0 D3_1 D3_2 D3_z D3_l
  have K3 := (K1.mono (T := g :: ob A) (fun s hs => .inl (by simp at hs; simp [hs]))).trans K2
  have hg2l := lt_of_heap J2
  have J2h := Lib.hid J2
  have O2h := Lib.hid O2
  clear K1 K2 j0 j1 j2 j3 j4 hz O1 R1 hbs1 J1 J00
  obtain ⟨j0, j1, j2, j3, j4, hz⟩ := J2.cells
  clear J2 O2
  simp only [putAll, Act.put, List.setIfInBounds_toArray]
  dsimp only [List.set]
  generalize vs 0 = v0
  generalize vs 1 = v1
  go_wp2
  refine bodyPost_ret (v := .tuple #[.agg #[.int .i64 0, .int .i64 0, .int .i64 0, .slice none 0 0, .int .i64 0, .int .u32 0, .int .i64 0, .int .i64 0, .int .i64 0, .bool false, .int .i64 0, .slice none 0 0], .bool false, .agg #[.bool false, .int .i64 0, .int .i64 0]]) (by simp [results, Try.results6, go_sem, E2_0, E2_1, E2_2, E2_3, E2_4, E2_5, E2_6, E2_7, E2_8, E2_9, E2_10, E2_11, E3_0, E3_1, E3_2]) rfl ⟨rfl, A2, c2, ?_, ?_, ⟨hg2.1, fun b hb => (hg2.2 b hb).imp_right (fun h => by omega)⟩, ?_⟩
  · exact J2h.out.keep (S := [w0.heap.size + 1 + 1, w0.heap.size + 1 + 1 + 1]) (by (repeat (first | with_reducible exact Kp.refl _ _ | with_reducible assumption | with_reducible refine Kp.alloc ?_ _ | with_reducible refine Kp.drew ?_ | with_reducible refine Kp.drewN ?_ _ | (with_reducible refine Kp.setL ?_ ?_ _; focus (simp; done)) | (with_reducible refine Kp.setR ?_ ?_ _; focus (simp; done)) | (with_reducible refine Kp.setR ?_ ?_ _; focus (simp; omega))))) (by simp; omega)
  · exact O2h.out.keep (S := [w0.heap.size + 1 + 1, w0.heap.size + 1 + 1 + 1]) (by (repeat (first | with_reducible exact Kp.refl _ _ | with_reducible assumption | with_reducible refine Kp.alloc ?_ _ | with_reducible refine Kp.drew ?_ | with_reducible refine Kp.drewN ?_ _ | (with_reducible refine Kp.setL ?_ ?_ _; focus (simp; done)) | (with_reducible refine Kp.setR ?_ ?_ _; focus (simp; done)) | (with_reducible refine Kp.setR ?_ ?_ _; focus (simp; omega))))) (by intro b hb hs; have := (hg2.2 b hb).imp_left (hoA b); simp at hs; omega)
  · (repeat (first | with_reducible exact Kp.refl _ _ | with_reducible assumption | with_reducible refine Kp.alloc ?_ _ | with_reducible refine Kp.drew ?_ | with_reducible refine Kp.drewN ?_ _ | (with_reducible refine Kp.setL ?_ ?_ _; focus (simp; done)) | (with_reducible refine Kp.setR ?_ ?_ _; focus (simp; done)) | (with_reducible refine Kp.setR ?_ ?_ _; focus (simp; omega))))

set_option maxHeartbeats 1000000 in
set_option maxRecDepth 100000 in
theorem In_contBN (w0 : World) (g : Nat) (most : Int) (A : Option Addr) (n c : Nat) (f : Fr) (hj : Jn w0 g most 0 true A n c) (h9 : (f.ty == 9) = true) (h9' : (f.ty != 9) = false) (hst : (f.st != 0) = false) (hm : 0 ≤ most ∧ most ≤ 65536) (hn : (n : Int) ≤ most) (hw : IntKind.i64.wrap (most - ↑n) = most - ↑n) (hc : decide (most - ↑n < ↑f.pn) = false) (base : Nat) (hbs : base ≤ w0.heap.size) (l lf : List UInt8) (ho : Ow w0 base 5 1 A n c (l.map u8)) (hgb : g ∉ ob A) (hrf : Rd w0 f.pA f.pn f.pc lf) (hfo : 0 < f.pn → ∀ b, b ∈ ob f.pA → b ≠ g) (hpn : f.pn ≤ 140737488351232) (hd : (bits .and .i64 f.fl 4 == 0) = true) :
    Calls Try.prog 6 #[.pointer (some ⟨g, 0, none⟩), .agg #[.int .i64 f.ty, .int .i64 f.fl, .int .i64 f.st, .slice f.pA f.pn f.pc, .int .i64 f.pad, .int .u32 f.code, .int .i64 f.last, .int .i64 f.inc, .int .i64 f.dep, .bool f.only, .int .i64 f.wt, .slice f.sA f.sn f.sc]] w0 fun e w' => e = .returned (.tuple #[.agg #[.int .i64 0, .int .i64 0, .int .i64 0, .slice none 0 0, .int .i64 0, .int .u32 0, .int .i64 0, .int .i64 0, .int .i64 0, .bool false, .int .i64 0, .slice none 0 0], .bool false, .agg #[.bool false, .int .i64 0, .int .i64 0]]) ∧ ∃ A' c', Jn w' g most 0 true A' (n + f.pn) c' ∧ Ow w' base 5 1 A' (n + f.pn) c' ((l ++ lf).map u8) ∧ (g ∉ ob A' ∧ ∀ b, b ∈ ob A' → b ∈ ob A ∨ w0.heap.size ≤ b) ∧ Kp (g :: ob A) w0 w' := by
  have hg := lt_of_heap hj
  have lg1 : g < w0.heap.size + 1 := by omega
  have lg2 : g < w0.heap.size + 1 + 1 := by omega
  have lg3 : g < w0.heap.size + 1 + 1 + 1 := by omega
  have lg4 : g < w0.heap.size + 1 + 1 + 1 + 1 := by omega
  obtain ⟨j0, j1, j2, j3, j4, hz⟩ := hj.cells
  have HJ := Lib.hid hj
  clear hj
  go_enter Try.func6, Try.ntmps6
  go_wp2_with fail
  refine (JNone _ g (Kp.cell (w := w0) (S := []) (by (repeat (first | with_reducible exact Kp.refl _ _ | with_reducible assumption | with_reducible refine Kp.alloc ?_ _ | with_reducible refine Kp.drew ?_ | with_reducible refine Kp.drewN ?_ _ | (with_reducible refine Kp.setL ?_ ?_ _; focus (simp; done)) | (with_reducible refine Kp.setR ?_ ?_ _; focus (simp; done)) | (with_reducible refine Kp.setR ?_ ?_ _; focus (simp; omega))))) j0 (by simp))).mono ?_
  rintro e w1 ⟨rfl, rfl⟩
  go_wp2_with fail
  go_quiet (fail)
  go_wp2
  go_quiet (fail)
  go_wp2
  generalize hW : World.drewN _ _ = W1
  have J00 := HJ.out
  have J1 : Jn W1 g most 0 true A n c := by rw [← hW]; (repeat (first | with_reducible assumption | with_reducible exact Lib.Hid.out ‹_› | with_reducible refine Jn.alloc ?_ _ | with_reducible refine Jn.drew ?_ | with_reducible refine Jn.drewN ?_ _ | with_reducible refine Jn.set2 (st := 0) ?_ _ | with_reducible refine Jn.set3 (en := false) ?_ _ | with_reducible refine Jn.set4 (A := A) (n := n) (c := c) ?_ _ _ _ | (with_reducible refine Jn.far ?_ ?_ _; focus (simp; done)) | (with_reducible refine Jn.far ?_ ?_ _; focus (simp; omega))))
  have D0 : W1.heap[w0.heap.size]? = some (.cells #[.pointer (some ⟨g, 0, none⟩)] 23) := by rw [← hW]; (repeat (first | with_reducible assumption | (with_reducible refine hp_new _ _ _ ?_; focus (simp; done)) | (with_reducible refine (hp_old _ _ _ ?_).trans ?_; focus (first | omega | (simp; done) | (simp; omega))) | (with_reducible refine (hp_far _ _ _ _ ?_).trans ?_; focus (first | (simp; done) | (simp; omega))) | (with_reducible refine (hp_drew _ _).trans ?_) | (with_reducible refine (hp_drewN _ _ _).trans ?_)))
  have D0_0 : W1.cell? ⟨w0.heap.size, 0, none⟩ = some (.pointer (some ⟨g, 0, none⟩)) := cell_of D0 0
  have D0_z : ∀ j, W1.frozen? ⟨w0.heap.size, j, none⟩ = false := frozen_of D0
  have D0_l := lt_of_heap D0
  have D1 : W1.heap[w0.heap.size + 1]? = some (.cells #[.int .i64 f.ty, .int .i64 f.fl, .int .i64 f.st, .slice f.pA f.pn f.pc, .int .i64 f.pad, .int .u32 f.code, .int .i64 f.last, .int .i64 f.inc, .int .i64 f.dep, .bool f.only, .int .i64 f.wt, .slice f.sA f.sn f.sc] 34) := by rw [← hW]; (repeat (first | with_reducible assumption | (with_reducible refine hp_new _ _ _ ?_; focus (simp; done)) | (with_reducible refine (hp_old _ _ _ ?_).trans ?_; focus (first | omega | (simp; done) | (simp; omega))) | (with_reducible refine (hp_far _ _ _ _ ?_).trans ?_; focus (first | (simp; done) | (simp; omega))) | (with_reducible refine (hp_drew _ _).trans ?_) | (with_reducible refine (hp_drewN _ _ _).trans ?_)))
  have D1_0 : W1.cell? ⟨w0.heap.size + 1, 0, none⟩ = some (.int .i64 f.ty) := cell_of D1 0
  have D1_1 : W1.cell? ⟨w0.heap.size + 1, 1, none⟩ = some (.int .i64 f.fl) := cell_of D1 1
  have D1_2 : W1.cell? ⟨w0.heap.size + 1, 2, none⟩ = some (.int .i64 f.st) := cell_of D1 2
  have D1_3 : W1.cell? ⟨w0.heap.size + 1, 3, none⟩ = some (.slice f.pA f.pn f.pc) := cell_of D1 3
  have D1_4 : W1.cell? ⟨w0.heap.size + 1, 4, none⟩ = some (.int .i64 f.pad) := cell_of D1 4
  have D1_5 : W1.cell? ⟨w0.heap.size + 1, 5, none⟩ = some (.int .u32 f.code) := cell_of D1 5
  have D1_6 : W1.cell? ⟨w0.heap.size + 1, 6, none⟩ = some (.int .i64 f.last) := cell_of D1 6
  have D1_7 : W1.cell? ⟨w0.heap.size + 1, 7, none⟩ = some (.int .i64 f.inc) := cell_of D1 7
  have D1_8 : W1.cell? ⟨w0.heap.size + 1, 8, none⟩ = some (.int .i64 f.dep) := cell_of D1 8
  have D1_9 : W1.cell? ⟨w0.heap.size + 1, 9, none⟩ = some (.bool f.only) := cell_of D1 9
  have D1_10 : W1.cell? ⟨w0.heap.size + 1, 10, none⟩ = some (.int .i64 f.wt) := cell_of D1 10
  have D1_11 : W1.cell? ⟨w0.heap.size + 1, 11, none⟩ = some (.slice f.sA f.sn f.sc) := cell_of D1 11
  have D1_z : ∀ j, W1.frozen? ⟨w0.heap.size + 1, j, none⟩ = false := frozen_of D1
  have D1_l := lt_of_heap D1
  have D2 : W1.heap[w0.heap.size + 1 + 1]? = some (.cells #[.int .i64 0, .int .i64 0, .int .i64 0, .slice none 0 0, .int .i64 0, .int .u32 0, .int .i64 0, .int .i64 0, .int .i64 0, .bool false, .int .i64 0, .slice none 0 0] 34) := by rw [← hW]; (repeat (first | with_reducible assumption | (with_reducible refine hp_new _ _ _ ?_; focus (simp; done)) | (with_reducible refine (hp_old _ _ _ ?_).trans ?_; focus (first | omega | (simp; done) | (simp; omega))) | (with_reducible refine (hp_far _ _ _ _ ?_).trans ?_; focus (first | (simp; done) | (simp; omega))) | (with_reducible refine (hp_drew _ _).trans ?_) | (with_reducible refine (hp_drewN _ _ _).trans ?_)))
  have D2_0 : W1.cell? ⟨w0.heap.size + 1 + 1, 0, none⟩ = some (.int .i64 0) := cell_of D2 0
  have D2_1 : W1.cell? ⟨w0.heap.size + 1 + 1, 1, none⟩ = some (.int .i64 0) := cell_of D2 1
  have D2_2 : W1.cell? ⟨w0.heap.size + 1 + 1, 2, none⟩ = some (.int .i64 0) := cell_of D2 2
  have D2_3 : W1.cell? ⟨w0.heap.size + 1 + 1, 3, none⟩ = some (.slice none 0 0) := cell_of D2 3
  have D2_4 : W1.cell? ⟨w0.heap.size + 1 + 1, 4, none⟩ = some (.int .i64 0) := cell_of D2 4
  have D2_5 : W1.cell? ⟨w0.heap.size + 1 + 1, 5, none⟩ = some (.int .u32 0) := cell_of D2 5
  have D2_6 : W1.cell? ⟨w0.heap.size + 1 + 1, 6, none⟩ = some (.int .i64 0) := cell_of D2 6
  have D2_7 : W1.cell? ⟨w0.heap.size + 1 + 1, 7, none⟩ = some (.int .i64 0) := cell_of D2 7
  have D2_8 : W1.cell? ⟨w0.heap.size + 1 + 1, 8, none⟩ = some (.int .i64 0) := cell_of D2 8
  have D2_9 : W1.cell? ⟨w0.heap.size + 1 + 1, 9, none⟩ = some (.bool false) := cell_of D2 9
  have D2_10 : W1.cell? ⟨w0.heap.size + 1 + 1, 10, none⟩ = some (.int .i64 0) := cell_of D2 10
  have D2_11 : W1.cell? ⟨w0.heap.size + 1 + 1, 11, none⟩ = some (.slice none 0 0) := cell_of D2 11
  have D2_z : ∀ j, W1.frozen? ⟨w0.heap.size + 1 + 1, j, none⟩ = false := frozen_of D2
  have D2_l := lt_of_heap D2
  have D3 : W1.heap[w0.heap.size + 1 + 1 + 1]? = some (.cells #[.bool false, .int .i64 0, .int .i64 0] 36) := by rw [← hW]; (repeat (first | with_reducible assumption | (with_reducible refine hp_new _ _ _ ?_; focus (simp; done)) | (with_reducible refine (hp_old _ _ _ ?_).trans ?_; focus (first | omega | (simp; done) | (simp; omega))) | (with_reducible refine (hp_far _ _ _ _ ?_).trans ?_; focus (first | (simp; done) | (simp; omega))) | (with_reducible refine (hp_drew _ _).trans ?_) | (with_reducible refine (hp_drewN _ _ _).trans ?_)))
  have D3_0 : W1.cell? ⟨w0.heap.size + 1 + 1 + 1, 0, none⟩ = some (.bool false) := cell_of D3 0
  have D3_1 : W1.cell? ⟨w0.heap.size + 1 + 1 + 1, 1, none⟩ = some (.int .i64 0) := cell_of D3 1
  have D3_2 : W1.cell? ⟨w0.heap.size + 1 + 1 + 1, 2, none⟩ = some (.int .i64 0) := cell_of D3 2
  have D3_z : ∀ j, W1.frozen? ⟨w0.heap.size + 1 + 1 + 1, j, none⟩ = false := frozen_of D3
  have D3_l := lt_of_heap D3
  have K1 : Kp [g] w0 W1 := by rw [← hW]; (repeat (first | with_reducible exact Kp.refl _ _ | with_reducible assumption | with_reducible refine Kp.alloc ?_ _ | with_reducible refine Kp.drew ?_ | with_reducible refine Kp.drewN ?_ _ | (with_reducible refine Kp.setL ?_ ?_ _; focus (simp; done)) | (with_reducible refine Kp.setR ?_ ?_ _; focus (simp; done)) | (with_reducible refine Kp.setR ?_ ?_ _; focus (simp; omega))))
  clear hW j0 j1 j2 j3 j4 hz lg1 lg2 lg3 lg4
  obtain ⟨j0, j1, j2, j3, j4, hz⟩ := J1.cells
  have O1 := ho.keep K1.drew (by intro b hb hs; simp at hs; subst hs; exact hgb hb)
  have R1 := hrf.keep K1.drew (by intro hp b hb hs; simp at hs; exact hfo hp b hb hs)
  have hbs1 : base ≤ W1.drew.heap.size := by have := K1.drew.size; omega
  have hoA : ∀ b, b ∈ ob A → b < w0.heap.size := fun b hb => (ho.base b hb).2
  have hN : ∀ x, w0.heap.size ≤ x → x ∉ g :: ob A := by
    intro x hx hm
    rcases List.mem_cons.1 hm with h | h
    · omega
    · have := hoA x h; omega
  have CQ : ∀ v, (∃ k, (match (motive := Nat → Prop) k with | 0 => v = W1.drew | 1 => v = W1.drew | 2 => Kp (ob A) W1 v | _ => ∃ A' c', Jn v g most 0 true A' (n + f.pn) c' ∧ Ow v base 5 1 A' (n + f.pn) c' ((l ++ lf).map u8) ∧ (g ∉ ob A' ∧ ∀ b, b ∈ ob A' → b ∈ ob A ∨ w0.heap.size + 1 + 1 + 1 < b) ∧ Kp (g :: ob A) W1 v)) → Kp (g :: ob A) W1 v := by
    rintro v ⟨k, hk⟩
    rcases k with _ | _ | _ | k
    · cases hk; exact (Kp.refl _ W1).drew
    · cases hk; exact (Kp.refl _ W1).drew
    · exact Kp.mono hk (fun s hs => .inl (List.mem_cons_of_mem _ hs))
    · obtain ⟨_, _, _, _, _, h⟩ := hk; exact h
  refine wp_region_lists (by kernel_rfl) [fun v _ => v = (.pointer (some ⟨g, 0, none⟩)),
      fun v _ => v = (.pointer (some ⟨g, 0, none⟩)),
      fun v _ => v = (.pointer (some ⟨g, 0, none⟩)),
      fun v _ => v = (.pointer (some ⟨g, 4, none⟩)),
      fun v w => v = .slice A n c,
      fun v _ => v = (.pointer (some ⟨w0.heap.size + 1, 3, none⟩)),
      fun v _ => v = (.slice f.pA f.pn f.pc),
      fun v w => ∃ A' c', v = .slice A' (n + f.pn) c' ∧ Ow w base 5 1 A' (n + f.pn) c' ((l ++ lf).map u8) ∧ (g ∉ ob A' ∧ ∀ b, b ∈ ob A' → b ∈ ob A ∨ w0.heap.size + 1 + 1 + 1 < b),
      fun v _ => v = (.pointer (some ⟨g, 0, none⟩)),
      fun v _ => v = (.pointer (some ⟨g, 4, none⟩)),
      fun v _ => True] (fun k w => match k with | 0 => w = W1.drew | 1 => w = W1.drew | 2 => Kp (ob A) W1 w | _ => ∃ A' c', Jn w g most 0 true A' (n + f.pn) c' ∧ Ow w base 5 1 A' (n + f.pn) c' ((l ++ lf).map u8) ∧ (g ∉ ob A' ∧ ∀ b, b ∈ ob A' → b ∈ ob A ∨ w0.heap.size + 1 + 1 + 1 < b) ∧ Kp (g :: ob A) W1 w) (fun k w w' => match k with | 0 => w' = w | 1 => Kp (ob A) w w' | _ => Kp [g] w w') [4, 7, 10] (by kernel_rfl) (by kernel_rfl) (by kernel_rfl) (by decide) (by kernel_rfl) ⟨StabsAt.const _, StabsAt.const _, StabsAt.const _, StabsAt.const _, StabsAt.const _, StabsAt.const _, StabsAt.const _, (by intro k v w w' hk hne hR hv; rcases k with _ | _ | _ | k; (cases hR; exact hv); (exact absurd rfl hne); (obtain ⟨A', c', e, O2, hgA⟩ := hv; exact ⟨A', c', e, O2.keep hR (by intro b hb hs; simp at hs; subst hs; exact hgA.1 hb), hgA⟩); (exact absurd hk (by simp))), StabsAt.const _, StabsAt.const _, StabsAt.const _, trivial⟩ (rfl) ⟨?_, ?_, ?_, ?_, ?_, ?_, ?_, ?_, ?_, ?_, ?_, trivial⟩ (by kernel_rfl) ?_
  · intro a w E hC K hK
    have h2 : a.tmps[2]? = some (.pointer (some ⟨w0.heap.size, 0, none⟩)) := (E.out 2 (by kernel_rfl)).trans rfl
    refine want_none rfl ?_
    have hq := (CQ _ hC).cell D0_0 (hN _ (by simp))
    go_simp
    exact hK _ rfl
  · intro a w E hC K hK
    have h2 : a.tmps[2]? = some (.pointer (some ⟨w0.heap.size, 0, none⟩)) := (E.out 2 (by kernel_rfl)).trans rfl
    refine want_none rfl ?_
    have hq := (CQ _ hC).cell D0_0 (hN _ (by simp))
    go_simp
    exact hK _ rfl
  · intro a w E hC K hK
    obtain ⟨_, h91, rfl⟩ := E.pred 1 _ 91 rfl rfl (by kernel_rfl)
    refine want_none rfl ?_
    go_simp
    exact hK _ rfl
  · intro a w E hC K hK
    obtain ⟨_, h92, rfl⟩ := E.pred 2 _ 92 rfl rfl (by kernel_rfl)
    refine want_none rfl ?_
    go_simp
    exact hK _ rfl
  · intro a w E hC K hK
    obtain ⟨_, h93, rfl⟩ := E.pred 3 _ 93 rfl rfl (by kernel_rfl)
    refine want_none rfl ?_
    obtain rfl : w = W1.drew := hC
    go_simp
    exact hK _ _ rfl rfl ⟨by decide, rfl⟩
  · intro a w E hC K hK
    have h3 : a.tmps[3]? = some (.pointer (some ⟨w0.heap.size + 1, 0, none⟩)) := (E.out 3 (by kernel_rfl)).trans rfl
    refine want_none rfl ?_
    go_simp
    exact hK _ rfl
  · intro a w E hC K hK
    obtain ⟨_, h95, rfl⟩ := E.pred 5 _ 95 rfl rfl (by kernel_rfl)
    refine want_none rfl ?_
    have hq := (CQ _ hC).cell D1_3 (hN _ (by simp))
    go_simp
    exact hK _ rfl
  · intro a w E hC K hK
    obtain ⟨v4, h94, V4⟩ := E.pred 4 _ 94 rfl rfl (by kernel_rfl)
    replace V4 : (fun v w => v = .slice A n c) v4 w := V4
    obtain rfl := V4
    obtain ⟨_, h96, rfl⟩ := E.pred 6 _ 96 rfl rfl (by kernel_rfl)
    refine want_none rfl ?_
    obtain rfl : w = W1.drew := hC
    refine op_appB (.tmp 94) (.tmp 96) 30 5 rfl Try.underlying30 Try.info5 base A n c l (eval_tmp h94) O1 f.pA f.pn f.pc lf (eval_tmp h96) R1 (by omega) hbs1 ?_
    intro A' c' w2 O2 K2 hA'
    exact hK _ _ ⟨A', c', rfl, O2, ⟨by rcases hA' with rfl | rfl; exact hgb; simp [ob]; omega, by intro b hb; rcases hA' with rfl | rfl; exact .inl hb; simp [ob] at hb; right; omega⟩⟩ (Kp.trans (S := ob A) (Kp.refl _ W1).drew K2) ⟨by decide, K2⟩
  · intro a w E hC K hK
    obtain ⟨_, h90, rfl⟩ := E.pred 0 _ 90 rfl rfl (by kernel_rfl)
    refine want_none rfl ?_
    go_simp
    exact hK _ rfl
  · intro a w E hC K hK
    obtain ⟨_, h98, rfl⟩ := E.pred 8 _ 98 rfl rfl (by kernel_rfl)
    refine want_none rfl ?_
    go_simp
    exact hK _ rfl
  · intro a w E hC K hK
    obtain ⟨_, h99, rfl⟩ := E.pred 9 _ 99 rfl rfl (by kernel_rfl)
    obtain ⟨v7, h97, V7⟩ := E.pred 7 _ 97 rfl rfl (by kernel_rfl)
    replace V7 : (fun v w => ∃ A' c', v = .slice A' (n + f.pn) c' ∧ Ow w base 5 1 A' (n + f.pn) c' ((l ++ lf).map u8) ∧ (g ∉ ob A' ∧ ∀ b, b ∈ ob A' → b ∈ ob A ∨ w0.heap.size + 1 + 1 + 1 < b)) v7 w := V7
    obtain ⟨A', c', rfl, O2, hgA⟩ := V7
    refine want_none rfl ?_
    have hk : Kp (ob A) W1 w := hC
    have J2 := J1.keep hk hgb
    obtain ⟨i0, i1, i2, i3, i4, iz⟩ := J2.cells
    go_simp
    exact hK undef _ trivial ⟨A', c', J2.set4 _ _ _, O2.keep ((Kp.refl [g] _).setCell (.inl (by simp)) _) (by intro b hb hs; simp at hs; subst hs; exact hgA.1 hb), hgA, (hk.mono (fun s hs => .inl (List.mem_cons_of_mem _ hs))).setCell (.inl (by simp)) _⟩ ⟨by decide, (Kp.refl [g] _).setCell (.inl (by simp)) _⟩
  intro vs w2 hC hV
  obtain ⟨A2, c2, J2, O2, hg2, K2⟩ := hC
  clear hV CQ
  have E0 := K2.heap D0 (hN _ (by omega))
  have E0_0 : w2.cell? ⟨w0.heap.size, 0, none⟩ = some (.pointer (some ⟨g, 0, none⟩)) := cell_of E0 0
  have E0_z : ∀ j, w2.frozen? ⟨w0.heap.size, j, none⟩ = false := frozen_of E0
  have E0_l := lt_of_heap E0
  clear E0 D0 D0_0 D0_z D0_l
  have E1 := K2.heap D1 (hN _ (by omega))
  have E1_0 : w2.cell? ⟨w0.heap.size + 1, 0, none⟩ = some (.int .i64 f.ty) := cell_of E1 0
  have E1_1 : w2.cell? ⟨w0.heap.size + 1, 1, none⟩ = some (.int .i64 f.fl) := cell_of E1 1
  have E1_2 : w2.cell? ⟨w0.heap.size + 1, 2, none⟩ = some (.int .i64 f.st) := cell_of E1 2
  have E1_3 : w2.cell? ⟨w0.heap.size + 1, 3, none⟩ = some (.slice f.pA f.pn f.pc) := cell_of E1 3
  have E1_4 : w2.cell? ⟨w0.heap.size + 1, 4, none⟩ = some (.int .i64 f.pad) := cell_of E1 4
  have E1_5 : w2.cell? ⟨w0.heap.size + 1, 5, none⟩ = some (.int .u32 f.code) := cell_of E1 5
  have E1_6 : w2.cell? ⟨w0.heap.size + 1, 6, none⟩ = some (.int .i64 f.last) := cell_of E1 6
  have E1_7 : w2.cell? ⟨w0.heap.size + 1, 7, none⟩ = some (.int .i64 f.inc) := cell_of E1 7
  have E1_8 : w2.cell? ⟨w0.heap.size + 1, 8, none⟩ = some (.int .i64 f.dep) := cell_of E1 8
  have E1_9 : w2.cell? ⟨w0.heap.size + 1, 9, none⟩ = some (.bool f.only) := cell_of E1 9
  have E1_10 : w2.cell? ⟨w0.heap.size + 1, 10, none⟩ = some (.int .i64 f.wt) := cell_of E1 10
  have E1_11 : w2.cell? ⟨w0.heap.size + 1, 11, none⟩ = some (.slice f.sA f.sn f.sc) := cell_of E1 11
  have E1_z : ∀ j, w2.frozen? ⟨w0.heap.size + 1, j, none⟩ = false := frozen_of E1
  have E1_l := lt_of_heap E1
  clear E1 D1 D1_0 D1_1 D1_2 D1_3 D1_4 D1_5 D1_6 D1_7 D1_8 D1_9 D1_10 D1_11 D1_z D1_l
  have E2 := K2.heap D2 (hN _ (by omega))
  have E2_0 : w2.cell? ⟨w0.heap.size + 1 + 1, 0, none⟩ = some (.int .i64 0) := cell_of E2 0
  have E2_1 : w2.cell? ⟨w0.heap.size + 1 + 1, 1, none⟩ = some (.int .i64 0) := cell_of E2 1
  have E2_2 : w2.cell? ⟨w0.heap.size + 1 + 1, 2, none⟩ = some (.int .i64 0) := cell_of E2 2
  have E2_3 : w2.cell? ⟨w0.heap.size + 1 + 1, 3, none⟩ = some (.slice none 0 0) := cell_of E2 3
  have E2_4 : w2.cell? ⟨w0.heap.size + 1 + 1, 4, none⟩ = some (.int .i64 0) := cell_of E2 4
  have E2_5 : w2.cell? ⟨w0.heap.size + 1 + 1, 5, none⟩ = some (.int .u32 0) := cell_of E2 5
  have E2_6 : w2.cell? ⟨w0.heap.size + 1 + 1, 6, none⟩ = some (.int .i64 0) := cell_of E2 6
  have E2_7 : w2.cell? ⟨w0.heap.size + 1 + 1, 7, none⟩ = some (.int .i64 0) := cell_of E2 7
  have E2_8 : w2.cell? ⟨w0.heap.size + 1 + 1, 8, none⟩ = some (.int .i64 0) := cell_of E2 8
  have E2_9 : w2.cell? ⟨w0.heap.size + 1 + 1, 9, none⟩ = some (.bool false) := cell_of E2 9
  have E2_10 : w2.cell? ⟨w0.heap.size + 1 + 1, 10, none⟩ = some (.int .i64 0) := cell_of E2 10
  have E2_11 : w2.cell? ⟨w0.heap.size + 1 + 1, 11, none⟩ = some (.slice none 0 0) := cell_of E2 11
  have E2_z : ∀ j, w2.frozen? ⟨w0.heap.size + 1 + 1, j, none⟩ = false := frozen_of E2
  have E2_l := lt_of_heap E2
  clear E2 D2 D2_0 D2_1 D2_2 D2_3 D2_4 D2_5 D2_6 D2_7 D2_8 D2_9 D2_10 D2_11 D2_z D2_l
  have E3 := K2.heap D3 (hN _ (by omega))
  have E3_0 : w2.cell? ⟨w0.heap.size + 1 + 1 + 1, 0, none⟩ = some (.bool false) := cell_of E3 0
  have E3_1 : w2.cell? ⟨w0.heap.size + 1 + 1 + 1, 1, none⟩ = some (.int .i64 0) := cell_of E3 1
  have E3_2 : w2.cell? ⟨w0.heap.size + 1 + 1 + 1, 2, none⟩ = some (.int .i64 0) := cell_of E3 2
  have E3_z : ∀ j, w2.frozen? ⟨w0.heap.size + 1 + 1 + 1, j, none⟩ = false := frozen_of E3
  have E3_l := lt_of_heap E3
  clear E3 D3 D3_0 D3_1 D3_2 D3_z D3_l
  have K3 := (K1.mono (T := g :: ob A) (fun s hs => .inl (by simp at hs; simp [hs]))).trans K2
  have hg2l := lt_of_heap J2
  have J2h := Lib.hid J2
  have O2h := Lib.hid O2
  clear K1 K2 j0 j1 j2 j3 j4 hz O1 R1 hbs1 J1 J00
  obtain ⟨j0, j1, j2, j3, j4, hz⟩ := J2.cells
  clear J2 O2
  simp only [putAll, Act.put, List.setIfInBounds_toArray]
  dsimp only [List.set]
  generalize vs 0 = v0
  generalize vs 1 = v1
  go_wp2
  refine bodyPost_ret (v := .tuple #[.agg #[.int .i64 0, .int .i64 0, .int .i64 0, .slice none 0 0, .int .i64 0, .int .u32 0, .int .i64 0, .int .i64 0, .int .i64 0, .bool false, .int .i64 0, .slice none 0 0], .bool false, .agg #[.bool false, .int .i64 0, .int .i64 0]]) (by simp [results, Try.results6, go_sem, E2_0, E2_1, E2_2, E2_3, E2_4, E2_5, E2_6, E2_7, E2_8, E2_9, E2_10, E2_11, E3_0, E3_1, E3_2]) rfl ⟨rfl, A2, c2, ?_, ?_, ⟨hg2.1, fun b hb => (hg2.2 b hb).imp_right (fun h => by omega)⟩, ?_⟩
  · exact J2h.out.keep (S := [w0.heap.size + 1 + 1, w0.heap.size + 1 + 1 + 1]) (by (repeat (first | with_reducible exact Kp.refl _ _ | with_reducible assumption | with_reducible refine Kp.alloc ?_ _ | with_reducible refine Kp.drew ?_ | with_reducible refine Kp.drewN ?_ _ | (with_reducible refine Kp.setL ?_ ?_ _; focus (simp; done)) | (with_reducible refine Kp.setR ?_ ?_ _; focus (simp; done)) | (with_reducible refine Kp.setR ?_ ?_ _; focus (simp; omega))))) (by simp; omega)
  · exact O2h.out.keep (S := [w0.heap.size + 1 + 1, w0.heap.size + 1 + 1 + 1]) (by (repeat (first | with_reducible exact Kp.refl _ _ | with_reducible assumption | with_reducible refine Kp.alloc ?_ _ | with_reducible refine Kp.drew ?_ | with_reducible refine Kp.drewN ?_ _ | (with_reducible refine Kp.setL ?_ ?_ _; focus (simp; done)) | (with_reducible refine Kp.setR ?_ ?_ _; focus (simp; done)) | (with_reducible refine Kp.setR ?_ ?_ _; focus (simp; omega))))) (by intro b hb hs; have := (hg2.2 b hb).imp_left (hoA b); simp at hs; omega)
  · (repeat (first | with_reducible exact Kp.refl _ _ | with_reducible assumption | with_reducible refine Kp.alloc ?_ _ | with_reducible refine Kp.drew ?_ | with_reducible refine Kp.drewN ?_ _ | (with_reducible refine Kp.setL ?_ ?_ _; focus (simp; done)) | (with_reducible refine Kp.setR ?_ ?_ _; focus (simp; done)) | (with_reducible refine Kp.setR ?_ ?_ _; focus (simp; omega))))
end Go.Proofs.Ytibeaombhjdakaa
