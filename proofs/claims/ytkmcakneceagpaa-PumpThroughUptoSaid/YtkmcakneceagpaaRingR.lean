/- The ring of layer 1's reference. -/
import Derived.Test.YtkmcakneceagpaaRing
import Derived.Test.YtkmcakneceagpaaReg
set_option linter.unusedVariables false
set_option linter.unusedSimpArgs false
namespace Go.Proofs.Ytkmcakneceagpaa
open Go.RowKit
/-- bytes onto bytes, as one operation -/
theorem op_appB {P : Program} {o : Oper} {a : Act} {w : World} {K : Act → World → Prop} {Q : Exit → Act → World → Prop} (s x : Operand) (t e : TypeId)
    (ho : o.op = .call { callee := .builtin .append, args := #[s, x], argTypes := #[t, t] })
    (ht : P.underlying t = some (.slice e)) (hi : (P.info? e).map (fun i => (i.zero, i.size, i.bytes)) = some (some (.int .u8 0), 1, 1))
    (base : Nat) (A : Option Addr) (n c : Nat) (l : List UInt8) (hs : a.eval s = .slice A n c) (HO : Ow w base e 1 A n c (l.map u8))
    (A2 : Option Addr) (m c2 : Nat) (l2 : List UInt8) (hx : a.eval x = .slice A2 m c2) (HR : Rd w A2 m c2 l2)
    (hlen : n + m ≤ 211106232532992) (hbase : base ≤ w.heap.size)
    (h : ∀ A' c' w', Ow w' base e 1 A' (n + m) c' ((l ++ l2).map u8) → Kp (ob A) w w' → (A' = A ∨ A' = some ⟨w.heap.size, 0, none⟩) → K (a.put o.dst (.slice A' (n + m) c')) w') :
    Oper.wp P o a w K Q := by
  obtain ⟨A', c', w', hr, h2, h3, h4, _⟩ := run_app (P := P) w t o.type e (.int .u8 0) 1 1 ht hi rfl (by omega) base A n c (l.map u8) HO A2 m c2 (l2.map u8) (by simp [HR.len]) HR.at_ (u8_one l2) (by simp only [maxLen]; omega) (by omega) hbase
  unfold Oper.wp execOp
  simp only [ho, resolve, invoke, builtin, Sem.run_bind, Sem.run_pure, Result.andThen_ok, List.map_toArray, List.map_cons, List.map_nil, hs, hx, hr]
  exact h A' c' w' (by rw [List.map_append]; exact h2) h3 h4
/-- the new footprint is of the old one, or of new blocks -/
def Nw (S S' : List Nat) (w : World) : Prop := ∀ s, s ∈ S' → s ∈ S ∨ w.heap.size ≤ s
theorem Nw.refl (S : List Nat) (w : World) : Nw S S w := fun s h => .inl h
/-- The reference's ring at block h: room for C, held l; S: its blocks. -/
structure Rf (w : World) (h : Nat) (S : List Nat) (C : Nat) (l : List UInt8) : Prop where
  cap : C ≤ 1048576
  le : l.length ≤ C
  rep : ∃ A c, S = h :: ob A ∧ h ∉ ob A ∧ w.heap[h]? = some (.cells #[.slice A l.length c, .int .i64 C] 84) ∧ Ow w 0 5 1 A l.length c (l.map u8)
theorem Rf.keep {T : List Nat} {w w' : World} {h : Nat} {S : List Nat} {C : Nat} {l : List UInt8} (r : Rf w h S C l) (k : Kp T w w') (hS : ∀ s, s ∈ S → s ∉ T) : Rf w' h S C l := by
  obtain ⟨A, c, rfl, h1, h2, h3⟩ := r.rep
  exact ⟨r.cap, r.le, A, c, rfl, h1, k.heap h2 (hS h (by simp)), h3.keep k (fun b hb => hS b (by simp [hb]))⟩
theorem Rf.lt {w : World} {h : Nat} {S : List Nat} {C : Nat} {l : List UInt8} (r : Rf w h S C l) : ∀ s, s ∈ S → s < w.heap.size := by
  obtain ⟨A, c, rfl, h1, h2, h3⟩ := r.rep
  intro s hs
  rcases List.mem_cons.1 hs with rfl | hs
  · exact lt_of_heap h2
  · exact (h3.base s hs).2
set_option maxHeartbeats 400000 in
theorem RfRoom {w : World} {h : Nat} {S : List Nat} {C : Nat} {l : List UInt8} (r : Rf w h S C l) : Calls Try.prog 69 #[.pointer (some ⟨h, 0, none⟩)] w fun e w' => e = .returned (.int .i64 ((C - l.length : Nat) : Int)) ∧ Kp [] w w' := by
  have hc := r.cap
  have hl := r.le
  obtain ⟨A, c, rfl, h1, h2, h3⟩ := r.rep
  have c0 : w.cell? ⟨h, 0, none⟩ = some (.slice A l.length c) := cell_of h2 0
  have c1 : w.cell? ⟨h, 1, none⟩ = some (.int .i64 C) := cell_of h2 1
  clear h1 h2 h3 r
  generalize l.length = n at *
  have hv : IntKind.i64.wrap ((C : Int) - n) = (C : Int) - n := IntWalk.i64_in _ (by omega)
  go_enter Try.func69, Try.ntmps69
  go_wp2
  go_quiet (fail)
  go_wp2
  go_ret
  exact ⟨ret_int (by omega), (Kp.refl _ _).drewN _⟩
set_option maxHeartbeats 1000000 in
set_option maxRecDepth 100000 in
theorem RfPut {w : World} {h : Nat} {S : List Nat} {C : Nat} {l : List UInt8} (r : Rf w h S C l) (A1 : Option Addr) (n c1 : Nat) (xs : List UInt8) (hx : Rd w A1 n c1 xs) (hn : n ≤ 140737488355328) :
    Calls Try.prog 125 #[.pointer (some ⟨h, 0, none⟩), .slice A1 n c1] w fun e w' => e = .returned (.int .i64 (min n (C - l.length) : Nat)) ∧ Kp S w w' ∧ ∃ S', Nw S S' w ∧ Rf w' h S' C (l ++ xs.take (min n (C - l.length))) := by
  have HR := Lib.hid r
  have hc := r.cap
  have hl := r.le
  have HX := Lib.hid hx
  have hxc := hx.cap
  clear r hx
  obtain ⟨rr, hrr⟩ : ∃ rr, C - l.length = rr := ⟨_, rfl⟩
  have HRR := Lib.hid hrr
  rw [hrr]
  have hr1 : rr ≤ C := by omega
  have hr2 : l.length + rr = C := by omega
  have HR2 := Lib.hid hr2
  clear hrr hr2
  obtain ⟨m, hm⟩ : ∃ m, min n rr = m := ⟨_, rfl⟩
  rw [hm]
  by_cases hnr : n ≤ rr
  · obtain rfl : m = n := by omega
    clear hm
    have imc : (m : Int) ≤ (c1 : Int) := by omega
    go_enter Try.func125, Try.ntmps125
    go_wp2_with fail
    refine (RfRoom HR.out).mono ?_
    rintro e w1 ⟨rfl, k1⟩
    rw [HRR.out]
    have r1 := HR.out.keep k1 (by simp)
    have hx1 := HX.out.keep k1 (by simp)
    obtain ⟨A, c, rfl, h1, h2, h3⟩ := r1.rep
    have hx2 : Rd w1 A1 m c1 (xs.take m) := by
      have := hx1.sub 0 m (by omega) (by omega) (A' := A1) (by intro b off hA _; rw [hA]; simp)
      simpa using this
    have hnA : ∀ b, b ∈ ob A → b < w1.heap.size := fun b hb => (h3.base b hb).2
    have g0 : w1.cell? ⟨h, 0, none⟩ = some (.slice A l.length c) := cell_of h2 0
    have H2 := Lib.hid h2
    have H3 := Lib.hid h3
    have HX2 := Lib.hid hx2
    clear r1 hx1 hx2 h2 h3
    go_wp2_with fail
    refine wp_region_lists (by kernel_rfl) [fun v _ => v = (.pointer (some ⟨h, 0, none⟩)),
        fun v _ => v = (.pointer (some ⟨h, 0, none⟩)),
        fun v _ => v = (.pointer (some ⟨h, 0, none⟩)),
        fun v _ => v = (.pointer (some ⟨h, 0, none⟩)),
        fun v w => v = .slice A l.length c,
        fun v _ => v = (.slice A1 m c1),
        fun v _ => v = (.int .i64 m),
        fun v _ => v = (.slice A1 m c1),
        fun v w => ∃ A' c', v = .slice A' (l.length + m) c' ∧ Ow w 0 5 1 A' (l.length + m) c' ((l ++ xs.take m).map u8) ∧ h ∉ ob A' ∧ (A' = A ∨ A' = some ⟨w1.heap.size, 0, none⟩),
        fun v _ => v = (.pointer (some ⟨h, 0, none⟩)),
        fun v _ => v = (.pointer (some ⟨h, 0, none⟩)),
        fun v _ => True] (fun k w => match k with | 0 => w = w1.drew | 1 => w = w1.drew | 2 => Kp (ob A) w1 w | _ => ∃ A' c', w.heap[h]? = some (.cells #[.slice A' (l.length + m) c', .int .i64 C] 84) ∧ Ow w 0 5 1 A' (l.length + m) c' ((l ++ xs.take m).map u8) ∧ h ∉ ob A' ∧ (A' = A ∨ A' = some ⟨w1.heap.size, 0, none⟩) ∧ Kp (h :: ob A) w1 w) (fun k w w' => match k with | 0 => w' = w | 1 => Kp (ob A) w w' | _ => Kp [h] w w') [4, 8, 11] (by kernel_rfl) (by kernel_rfl) (by kernel_rfl) (by decide) (by kernel_rfl) ⟨StabsAt.const _, StabsAt.const _, StabsAt.const _, StabsAt.const _, StabsAt.const _, StabsAt.const _, StabsAt.const _, StabsAt.const _, (by intro k v w w' hk hne hR hv; rcases k with _ | _ | _ | k; (cases hR; exact hv); (exact absurd rfl hne); (obtain ⟨A', c', e, O2, hgA⟩ := hv; exact ⟨A', c', e, O2.keep hR (by intro b hb hs; simp at hs; subst hs; exact hgA.1 hb), hgA⟩); (exact absurd hk (by simp))), StabsAt.const _, StabsAt.const _, StabsAt.const _, trivial⟩ (rfl) ⟨?_, ?_, ?_, ?_, ?_, ?_, ?_, ?_, ?_, ?_, ?_, ?_, trivial⟩ (by kernel_rfl) ?_
    · intro a w E hC K hK
      have h0 : a.tmps[0]? = some (.pointer (some ⟨h, 0, none⟩)) := (E.out 0 (by kernel_rfl)).trans rfl
      refine want_none rfl ?_
      go_simp
      exact hK _ rfl
    · intro a w E hC K hK
      have h0 : a.tmps[0]? = some (.pointer (some ⟨h, 0, none⟩)) := (E.out 0 (by kernel_rfl)).trans rfl
      refine want_none rfl ?_
      go_simp
      exact hK _ rfl
    · intro a w E hC K hK
      obtain ⟨_, h12, rfl⟩ := E.pred 1 _ 12 rfl rfl (by kernel_rfl)
      refine want_none rfl ?_
      go_simp
      exact hK _ rfl
    · intro a w E hC K hK
      obtain ⟨_, h13, rfl⟩ := E.pred 2 _ 13 rfl rfl (by kernel_rfl)
      refine want_none rfl ?_
      go_simp
      exact hK _ rfl
    · intro a w E hC K hK
      obtain ⟨_, h14, rfl⟩ := E.pred 3 _ 14 rfl rfl (by kernel_rfl)
      refine want_none rfl ?_
      obtain rfl : w = w1.drew := hC
      go_simp
      exact hK _ _ rfl rfl ⟨by decide, rfl⟩
    · intro a w E hC K hK
      have h1 : a.tmps[1]? = some (.slice A1 m c1) := (E.out 1 (by kernel_rfl)).trans rfl
      refine want_none rfl ?_
      go_simp
      exact hK _ rfl
    · intro a w E hC K hK
      have h5 : a.tmps[5]? = some (.int .i64 m) := (E.out 5 (by kernel_rfl)).trans rfl
      refine want_none rfl ?_
      go_simp
      exact hK _ rfl
    · intro a w E hC K hK
      obtain ⟨_, h16, rfl⟩ := E.pred 5 _ 16 rfl rfl (by kernel_rfl)
      obtain ⟨_, h17, rfl⟩ := E.pred 6 _ 17 rfl rfl (by kernel_rfl)
      refine want_none rfl ?_
      go_simp
      exact hK _ rfl
    · intro a w E hC K hK
      obtain ⟨v4, h15, V4⟩ := E.pred 4 _ 15 rfl rfl (by kernel_rfl)
      replace V4 : (fun v w => v = .slice A l.length c) v4 w := V4
      obtain rfl := V4
      obtain ⟨_, h18, rfl⟩ := E.pred 7 _ 18 rfl rfl (by kernel_rfl)
      refine want_none rfl ?_
      obtain rfl : w = w1.drew := hC
      refine op_appB (.tmp 15) (.tmp 18) 22 5 rfl Try.underlying22 Try.info5 0 A l.length c l (eval_tmp h15) (H3.out.keep (Kp.refl [] w1).drew (by simp)) A1 m c1 (xs.take m) (eval_tmp h18) HX2.out.drew (by omega) (by omega) ?_
      intro A' c' w2 O2 K2 hA'
      exact hK _ _ ⟨A', c', rfl, O2, (by rcases hA' with rfl | rfl; exact h1; have hq := lt_of_heap H2.out; simp [ob]; omega), hA'⟩ K2.undrew ⟨by decide, K2⟩
    · intro a w E hC K hK
      obtain ⟨_, h11, rfl⟩ := E.pred 0 _ 11 rfl rfl (by kernel_rfl)
      refine want_none rfl ?_
      go_simp
      exact hK _ rfl
    · intro a w E hC K hK
      obtain ⟨_, h20, rfl⟩ := E.pred 9 _ 20 rfl rfl (by kernel_rfl)
      refine want_none rfl ?_
      go_simp
      exact hK _ rfl
    · intro a w E hC K hK
      obtain ⟨_, h21, rfl⟩ := E.pred 10 _ 21 rfl rfl (by kernel_rfl)
      obtain ⟨v8, h19, V8⟩ := E.pred 8 _ 19 rfl rfl (by kernel_rfl)
      replace V8 : (fun v w => ∃ A' c', v = .slice A' (l.length + m) c' ∧ Ow w 0 5 1 A' (l.length + m) c' ((l ++ xs.take m).map u8) ∧ h ∉ ob A' ∧ (A' = A ∨ A' = some ⟨w1.heap.size, 0, none⟩)) v8 w := V8
      obtain ⟨A', c', rfl, O2, hgA⟩ := V8
      refine want_none rfl ?_
      have hk : Kp (ob A) w1 w := hC
      have H4 := hk.heap H2.out h1
      have g4 : w.cell? ⟨h, 0, none⟩ = some (.slice A l.length c) := cell_of H4 0
      have gz := frozen_of H4
      go_simp
      exact hK undef _ trivial ⟨A', c', hp_set w h 0 _ _ _ H4, O2.keep ((Kp.refl [h] _).setCell (.inl (by simp)) _) (by intro b hb hs; simp at hs; subst hs; exact hgA.1 hb), hgA.1, hgA.2, (hk.mono (fun s hs => .inl (List.mem_cons_of_mem _ hs))).setCell (.inl (by simp)) _⟩ ⟨by decide, (Kp.refl [h] _).setCell (.inl (by simp)) _⟩
    intro vs w2 hC hV
    obtain ⟨A', c', q1, q2, q3, q4, q5⟩ := hC
    clear hV
    simp only [putAll, Act.put, List.setIfInBounds_toArray]
    dsimp only [List.set]
    go_wp2
    go_ret
    have hlen : l.length + m = (l ++ xs.take m).length := by rw [List.length_append, HX2.out.len]
    refine ⟨rfl, (k1.mono (fun s hs => by cases hs)).trans q5, h :: ob A', ?_, hc, by have := HR2.out; omega, A', c', rfl, q3, ?_, ?_⟩
    · intro s hs
      rcases List.mem_cons.1 hs with rfl | hs
      · exact .inl (by simp)
      · rcases q4 with rfl | rfl
        · exact .inl (by simp [hs])
        · simp [ob] at hs; subst hs; exact .inr k1.size
    · rw [← hlen]; exact q1
    · rw [← hlen]; exact q2
  · obtain rfl : m = rr := by omega
    clear hm
    have imc : (m : Int) ≤ (c1 : Int) := by omega
    go_enter Try.func125, Try.ntmps125
    go_wp2_with fail
    refine (RfRoom HR.out).mono ?_
    rintro e w1 ⟨rfl, k1⟩
    rw [HRR.out]
    have r1 := HR.out.keep k1 (by simp)
    have hx1 := HX.out.keep k1 (by simp)
    obtain ⟨A, c, rfl, h1, h2, h3⟩ := r1.rep
    have hx2 : Rd w1 A1 m c1 (xs.take m) := by
      have := hx1.sub 0 m (by omega) (by omega) (A' := A1) (by intro b off hA _; rw [hA]; simp)
      simpa using this
    have hnA : ∀ b, b ∈ ob A → b < w1.heap.size := fun b hb => (h3.base b hb).2
    have g0 : w1.cell? ⟨h, 0, none⟩ = some (.slice A l.length c) := cell_of h2 0
    have H2 := Lib.hid h2
    have H3 := Lib.hid h3
    have HX2 := Lib.hid hx2
    clear r1 hx1 hx2 h2 h3
    go_wp2_with fail
    refine wp_region_lists (by kernel_rfl) [fun v _ => v = (.pointer (some ⟨h, 0, none⟩)),
        fun v _ => v = (.pointer (some ⟨h, 0, none⟩)),
        fun v _ => v = (.pointer (some ⟨h, 0, none⟩)),
        fun v _ => v = (.pointer (some ⟨h, 0, none⟩)),
        fun v w => v = .slice A l.length c,
        fun v _ => v = (.slice A1 n c1),
        fun v _ => v = (.int .i64 m),
        fun v _ => v = (.slice A1 m c1),
        fun v w => ∃ A' c', v = .slice A' (l.length + m) c' ∧ Ow w 0 5 1 A' (l.length + m) c' ((l ++ xs.take m).map u8) ∧ h ∉ ob A' ∧ (A' = A ∨ A' = some ⟨w1.heap.size, 0, none⟩),
        fun v _ => v = (.pointer (some ⟨h, 0, none⟩)),
        fun v _ => v = (.pointer (some ⟨h, 0, none⟩)),
        fun v _ => True] (fun k w => match k with | 0 => w = w1.drew | 1 => w = w1.drew | 2 => Kp (ob A) w1 w | _ => ∃ A' c', w.heap[h]? = some (.cells #[.slice A' (l.length + m) c', .int .i64 C] 84) ∧ Ow w 0 5 1 A' (l.length + m) c' ((l ++ xs.take m).map u8) ∧ h ∉ ob A' ∧ (A' = A ∨ A' = some ⟨w1.heap.size, 0, none⟩) ∧ Kp (h :: ob A) w1 w) (fun k w w' => match k with | 0 => w' = w | 1 => Kp (ob A) w w' | _ => Kp [h] w w') [4, 8, 11] (by kernel_rfl) (by kernel_rfl) (by kernel_rfl) (by decide) (by kernel_rfl) ⟨StabsAt.const _, StabsAt.const _, StabsAt.const _, StabsAt.const _, StabsAt.const _, StabsAt.const _, StabsAt.const _, StabsAt.const _, (by intro k v w w' hk hne hR hv; rcases k with _ | _ | _ | k; (cases hR; exact hv); (exact absurd rfl hne); (obtain ⟨A', c', e, O2, hgA⟩ := hv; exact ⟨A', c', e, O2.keep hR (by intro b hb hs; simp at hs; subst hs; exact hgA.1 hb), hgA⟩); (exact absurd hk (by simp))), StabsAt.const _, StabsAt.const _, StabsAt.const _, trivial⟩ (rfl) ⟨?_, ?_, ?_, ?_, ?_, ?_, ?_, ?_, ?_, ?_, ?_, ?_, trivial⟩ (by kernel_rfl) ?_
    · intro a w E hC K hK
      have h0 : a.tmps[0]? = some (.pointer (some ⟨h, 0, none⟩)) := (E.out 0 (by kernel_rfl)).trans rfl
      refine want_none rfl ?_
      go_simp
      exact hK _ rfl
    · intro a w E hC K hK
      have h0 : a.tmps[0]? = some (.pointer (some ⟨h, 0, none⟩)) := (E.out 0 (by kernel_rfl)).trans rfl
      refine want_none rfl ?_
      go_simp
      exact hK _ rfl
    · intro a w E hC K hK
      obtain ⟨_, h12, rfl⟩ := E.pred 1 _ 12 rfl rfl (by kernel_rfl)
      refine want_none rfl ?_
      go_simp
      exact hK _ rfl
    · intro a w E hC K hK
      obtain ⟨_, h13, rfl⟩ := E.pred 2 _ 13 rfl rfl (by kernel_rfl)
      refine want_none rfl ?_
      go_simp
      exact hK _ rfl
    · intro a w E hC K hK
      obtain ⟨_, h14, rfl⟩ := E.pred 3 _ 14 rfl rfl (by kernel_rfl)
      refine want_none rfl ?_
      obtain rfl : w = w1.drew := hC
      go_simp
      exact hK _ _ rfl rfl ⟨by decide, rfl⟩
    · intro a w E hC K hK
      have h1 : a.tmps[1]? = some (.slice A1 n c1) := (E.out 1 (by kernel_rfl)).trans rfl
      refine want_none rfl ?_
      go_simp
      exact hK _ rfl
    · intro a w E hC K hK
      have h5 : a.tmps[5]? = some (.int .i64 m) := (E.out 5 (by kernel_rfl)).trans rfl
      refine want_none rfl ?_
      go_simp
      exact hK _ rfl
    · intro a w E hC K hK
      obtain ⟨_, h16, rfl⟩ := E.pred 5 _ 16 rfl rfl (by kernel_rfl)
      obtain ⟨_, h17, rfl⟩ := E.pred 6 _ 17 rfl rfl (by kernel_rfl)
      refine want_none rfl ?_
      go_simp
      exact hK _ rfl
    · intro a w E hC K hK
      obtain ⟨v4, h15, V4⟩ := E.pred 4 _ 15 rfl rfl (by kernel_rfl)
      replace V4 : (fun v w => v = .slice A l.length c) v4 w := V4
      obtain rfl := V4
      obtain ⟨_, h18, rfl⟩ := E.pred 7 _ 18 rfl rfl (by kernel_rfl)
      refine want_none rfl ?_
      obtain rfl : w = w1.drew := hC
      refine op_appB (.tmp 15) (.tmp 18) 22 5 rfl Try.underlying22 Try.info5 0 A l.length c l (eval_tmp h15) (H3.out.keep (Kp.refl [] w1).drew (by simp)) A1 m c1 (xs.take m) (eval_tmp h18) HX2.out.drew (by omega) (by omega) ?_
      intro A' c' w2 O2 K2 hA'
      exact hK _ _ ⟨A', c', rfl, O2, (by rcases hA' with rfl | rfl; exact h1; have hq := lt_of_heap H2.out; simp [ob]; omega), hA'⟩ K2.undrew ⟨by decide, K2⟩
    · intro a w E hC K hK
      obtain ⟨_, h11, rfl⟩ := E.pred 0 _ 11 rfl rfl (by kernel_rfl)
      refine want_none rfl ?_
      go_simp
      exact hK _ rfl
    · intro a w E hC K hK
      obtain ⟨_, h20, rfl⟩ := E.pred 9 _ 20 rfl rfl (by kernel_rfl)
      refine want_none rfl ?_
      go_simp
      exact hK _ rfl
    · intro a w E hC K hK
      obtain ⟨_, h21, rfl⟩ := E.pred 10 _ 21 rfl rfl (by kernel_rfl)
      obtain ⟨v8, h19, V8⟩ := E.pred 8 _ 19 rfl rfl (by kernel_rfl)
      replace V8 : (fun v w => ∃ A' c', v = .slice A' (l.length + m) c' ∧ Ow w 0 5 1 A' (l.length + m) c' ((l ++ xs.take m).map u8) ∧ h ∉ ob A' ∧ (A' = A ∨ A' = some ⟨w1.heap.size, 0, none⟩)) v8 w := V8
      obtain ⟨A', c', rfl, O2, hgA⟩ := V8
      refine want_none rfl ?_
      have hk : Kp (ob A) w1 w := hC
      have H4 := hk.heap H2.out h1
      have g4 : w.cell? ⟨h, 0, none⟩ = some (.slice A l.length c) := cell_of H4 0
      have gz := frozen_of H4
      go_simp
      exact hK undef _ trivial ⟨A', c', hp_set w h 0 _ _ _ H4, O2.keep ((Kp.refl [h] _).setCell (.inl (by simp)) _) (by intro b hb hs; simp at hs; subst hs; exact hgA.1 hb), hgA.1, hgA.2, (hk.mono (fun s hs => .inl (List.mem_cons_of_mem _ hs))).setCell (.inl (by simp)) _⟩ ⟨by decide, (Kp.refl [h] _).setCell (.inl (by simp)) _⟩
    intro vs w2 hC hV
    obtain ⟨A', c', q1, q2, q3, q4, q5⟩ := hC
    clear hV
    simp only [putAll, Act.put, List.setIfInBounds_toArray]
    dsimp only [List.set]
    go_wp2
    go_ret
    have hlen : l.length + m = (l ++ xs.take m).length := by rw [List.length_append, HX2.out.len]
    refine ⟨rfl, (k1.mono (fun s hs => by cases hs)).trans q5, h :: ob A', ?_, hc, by have := HR2.out; omega, A', c', rfl, q3, ?_, ?_⟩
    · intro s hs
      rcases List.mem_cons.1 hs with rfl | hs
      · exact .inl (by simp)
      · rcases q4 with rfl | rfl
        · exact .inl (by simp [hs])
        · simp [ob] at hs; subst hs; exact .inr k1.size
    · rw [← hlen]; exact q1
    · rw [← hlen]; exact q2
set_option maxHeartbeats 1000000 in
set_option maxRecDepth 100000 in
theorem RfPeek {w : World} {g : Nat} {S : List Nat} {C : Nat} {l : List UInt8} (r : Rf w g S C l) (n : Int) :
    Calls Try.prog 127 #[.pointer (some ⟨g, 0, none⟩), .int .i64 n] w (OwR 5 (l.take (mostN n l.length)) w) := by
  have hc := r.cap
  have hl := r.le
  obtain ⟨A, c, rfl, h1, h2, h3⟩ := r.rep
  have hac := h3.cap.1
  have g0 : w.cell? ⟨g, 0, none⟩ = some (.slice A l.length c) := cell_of h2 0
  have gl := lt_of_heap h2
  have H3 := Lib.hid h3.rd
  have hm := mostN_le n l.length
  obtain ⟨v, hv⟩ : ∃ v, (if (l.length : Int) < n then (l.length : Int) else n) = v := ⟨_, rfl⟩
  have hmx : (if 0 < v then v else 0) = (mostN n l.length : Int) := by rw [← hv]; unfold mostN; split <;> split <;> omega
  generalize mostN n l.length = m at *
  clear r h2 h3
  have imc : (m : Int) ≤ (c : Int) := by omega
  go_enter Try.func127, Try.ntmps127
  go_wp2_with (with_reducible refine stopAt (o := ⟨some 20, _, _, _, _, _⟩) ?_)
  refine Stop.go (wp_appB rfl _ _ 22 5 rfl Try.underlying22 Try.info5 w.heap.size _ 0 0 [] rfl (Ow.empty w w.heap.size 5 1 (Nat.le_refl _)) A m c (l.take m) rfl ?_ (by omega) (by simp) ?_)
  · have := (H3.out.keep ((Kp.refl [] w).alloc (.cells #[] 5)) (by simp)).sub 0 m (by omega) (by omega) (A' := A) (by intro b off hA _; rw [hA]; simp)
    simpa using this
  intro A' k c' l' w' hk hl' O' K' _
  obtain rfl : k = m := by have := hk.out; omega
  clear hk
  go_wp2
  go_ret
  have e := hl'.out
  simp only [List.nil_append] at e
  subst e
  exact ⟨_, _, _, rfl, O', ((Kp.refl [] w).alloc (.cells #[] 5)).then K' (by simp [ob])⟩
set_option maxHeartbeats 1000000 in
set_option maxRecDepth 100000 in
theorem RfDrop {w : World} {g : Nat} {S : List Nat} {C : Nat} {l : List UInt8} (r : Rf w g S C l) (n : Int) :
    Calls Try.prog 128 #[.pointer (some ⟨g, 0, none⟩), .int .i64 n] w fun e w' => e = .returned (.int .i64 (mostN n l.length)) ∧ Kp S w w' ∧ ∃ S', Nw S S' w ∧ Rf w' g S' C (l.drop (mostN n l.length)) := by
  have hc := r.cap
  have hl := r.le
  obtain ⟨A, c, rfl, h1, h2, h3⟩ := r.rep
  have hac := h3.cap.1
  have hcm := h3.cap.2
  have g0 : w.cell? ⟨g, 0, none⟩ = some (.slice A l.length c) := cell_of h2 0
  have gl := lt_of_heap h2
  have H2 := Lib.hid h2
  have H3 := Lib.hid h3.rd
  have hm := mostN_le n l.length
  obtain ⟨v, hv⟩ : ∃ v, (if (l.length : Int) < n then (l.length : Int) else n) = v := ⟨_, rfl⟩
  have hmx : (if 0 < v then v else 0) = (mostN n l.length : Int) := by rw [← hv]; unfold mostN; split <;> split <;> omega
  generalize mostN n l.length = m at *
  clear r h2 h3
  have imc : (m : Int) ≤ (l.length : Int) := by omega
  obtain ⟨Am, hAm⟩ : ∃ Am, (if c = m then A else Option.map (fun x => x.add m) A) = Am := ⟨_, rfl⟩
  have HS : Hid (Rd w Am (l.length - m) (c - m) (l.drop m)) := by
    have := H3.out.sub m l.length (by omega) (Nat.le_refl _) (A' := Am) (by intro b off hA hc; rw [← hAm, if_neg hc, hA]; simp [Addr.add])
    rwa [List.take_of_length_le (by simp)] at this
  go_enter Try.func128, Try.ntmps128
  go_wp2_with (with_reducible refine stopAt (o := ⟨some 21, _, _, _, _, _⟩) ?_)
  refine Stop.go (wp_appB rfl _ _ 22 5 rfl Try.underlying22 Try.info5 w.heap.size _ 0 0 [] rfl (Ow.empty w w.heap.size 5 1 (Nat.le_refl _)) Am (l.length - m) (c - m) (l.drop m) rfl (HS.out.keep ((Kp.refl [] w).alloc (.cells #[] 5)) (by simp)) (by omega) (by simp) ?_)
  intro A' k c' l' w' hk hl' O' K' hA'
  obtain rfl : k = l.length - m := by have := hk.out; omega
  have e := hl'.out
  simp only [List.nil_append] at e
  subst e
  have K1 : Kp [] w w' := ((Kp.refl [] w).alloc (.cells #[] 5)).then K' (by simp [ob])
  have HG := Lib.hid (K1.heap H2.out (by simp))
  have c0 : w'.cell? ⟨g, 0, none⟩ = some (.slice A l.length c) := cell_of HG.out 0
  have cz := frozen_of HG.out
  clear hk hl' K' g0 hAm hv hmx
  go_wp2
  go_ret
  have hb := O'.base
  have hlen : l.length - m = (l.drop m).length := by simp
  have hgA : g ∉ ob A' := fun hg => by have := (hb g hg).1; omega
  refine ⟨rfl, (K1.mono (fun s hs => by cases hs)).setCell (.inl (by simp)) _, g :: ob A', ?_, hc, by omega, A', c', rfl, hgA, ?_, ?_⟩
  · intro s hs
    rcases List.mem_cons.1 hs with rfl | hs
    · exact .inl (by simp)
    · exact .inr (hb s hs).1
  · rw [← hlen]
    exact hp_set w' g 0 _ _ _ HG.out
  · rw [← hlen]
    exact (O'.keep ((Kp.refl [g] w').setCell (.inl (by simp)) _) (by intro b hb hs; simp at hs; subst hs; exact hgA hb)).mono (Nat.zero_le _)
set_option maxHeartbeats 400000 in
theorem RfTake {w : World} {g : Nat} {S : List Nat} {C : Nat} {l : List UInt8} (r : Rf w g S C l) (n : Int) :
    Calls Try.prog 126 #[.pointer (some ⟨g, 0, none⟩), .int .i64 n] w fun e w' => ∃ A k c, e = .returned (.slice A k c) ∧ Ow w' w.heap.size 5 1 A k c ((l.take (mostN n l.length)).map u8) ∧ Kp S w w' ∧ ∃ S', Nw S S' w ∧ Rf w' g S' C (l.drop (mostN n l.length)) := by
  have HR := Lib.hid r
  have hlt := r.lt
  clear r
  go_enter Try.func126, Try.ntmps126
  go_wp2_with fail
  refine (RfPeek HR.out n).mono ?_
  rintro e w1 ⟨A, k, c, rfl, O1, K1⟩
  have R1 := HR.out.keep K1 (by simp)
  go_wp2_with fail
  refine (RfDrop R1 n).mono ?_
  rintro e w2 ⟨rfl, K2, S', hS, R2⟩
  go_wp2
  go_ret
  exact ⟨A, k, c, rfl, O1.keep K2 (fun b hb hs => by have := (O1.base b hb).1; have := hlt b hs; omega), (K1.mono (fun s hs => by cases hs)).trans K2, S', fun s hs => (hS s hs).imp id (fun h => by have := K1.size; omega), R2⟩
set_option maxHeartbeats 400000 in
theorem RgTake {w : World} {g gb C p : Nat} {l : List UInt8} (r : Rg w g gb C p l) (n : Int) :
    Calls Try.prog 73 #[.pointer (some ⟨g, 0, none⟩), .int .i64 n] w fun e w' => ∃ A k c, e = .returned (.slice A k c) ∧ Ow w' w.heap.size 5 1 A k c ((l.take (mostN n l.length)).map u8) ∧ Kp [g] w w' ∧ ∃ p', Rg w' g gb C p' (l.drop (mostN n l.length)) := by
  have HR := Lib.hid r
  obtain ⟨lt1, lt2⟩ := r.lt
  have hm : mostN ((mostN n l.length : Nat) : Int) l.length = mostN n l.length := by unfold mostN; omega
  have HM := Lib.hid hm
  clear r hm
  go_enter Try.func73, Try.ntmps73
  go_wp2_with fail
  refine (RgPeek HR.out n).mono ?_
  rintro e w1 ⟨A, k, c, rfl, O1, K1⟩
  have R1 := HR.out.keep K1 (by simp) (by simp)
  have hk : k = mostN n l.length := by have h1 := O1.len; have := mostN_le n l.length; simp at h1; omega
  subst hk
  go_wp2_with fail
  refine (RgDrop R1 _).mono ?_
  rintro e w2 ⟨rfl, K2, p', R2⟩
  rw [HM.out] at R2
  go_wp2
  go_ret
  exact ⟨A, _, c, rfl, O1.keep K2 (fun b hb hs => by have := (O1.base b hb).1; simp at hs; omega), (K1.mono (fun s hs => by cases hs)).trans K2, p', R2⟩
theorem u8_nil : ([] : List Value) = ([] : List UInt8).map u8 := rfl
set_option maxHeartbeats 400000 in
theorem RfNew (n : Nat) (h : n ≤ 1048576) (w : World) : Calls Try.prog 65 #[.int .i64 n] w fun e w' => e = .returned (.tuple #[.pointer (some ⟨w.heap.size, 0, none⟩), .int .i64 0]) ∧ Rf w' w.heap.size [w.heap.size] n [] ∧ Kp [] w w' := by
  have h1 : decide ((n : Int) < 0) = false := by simp <;> omega
  have h2 : decide ((1048576 : Int) < n) = false := by simp <;> omega
  go_enter Try.func65, Try.ntmps65
  go_wp2
  go_ret2
  exact ⟨rfl, ⟨h, by simp, none, 0, rfl, by simp [ob], hp_new _ _ _ rfl, Ow.nil _ _ _ _⟩, (Kp.refl [] w).alloc _⟩
set_option maxHeartbeats 400000 in
theorem RfNew_no (n : Int) (h : n < 0 ∨ 1048576 < n) (w : World) : Calls Try.prog 65 #[.int .i64 n] w fun e w' => e = .returned (.tuple #[.pointer none, .int .i64 1]) ∧ w = w' := by
  rcases h with h | h
  · go_enter Try.func65, Try.ntmps65
    go_wp2
    go_ret2
    exact ⟨rfl, rfl⟩
  · have h1 : decide (n < 0) = false := by simp <;> omega
    go_enter Try.func65, Try.ntmps65
    go_wp2
    go_ret2
    exact ⟨rfl, rfl⟩
set_option maxHeartbeats 400000 in
theorem RgNew_no (n : Int) (h : n < 0 ∨ 1048576 < n) (w : World) : Calls Try.prog 64 #[.int .i64 n] w fun e w' => e = .returned (.tuple #[.pointer none, .int .i64 1]) ∧ w = w' := by
  rcases h with h | h
  · go_enter Try.func64, Try.ntmps64
    go_wp2
    go_ret2
    exact ⟨rfl, rfl⟩
  · have h1 : decide (n < 0) = false := by simp <;> omega
    go_enter Try.func64, Try.ntmps64
    go_wp2
    go_ret2
    exact ⟨rfl, rfl⟩
set_option maxHeartbeats 400000 in
theorem RgNew (n : Nat) (h : n ≤ 1048576) (w : World) : Calls Try.prog 64 #[.int .i64 n] w fun e w' => ∃ g gb, e = .returned (.tuple #[.pointer (some ⟨g, 0, none⟩), .int .i64 0]) ∧ Rg w' g gb n 0 [] ∧ (w.heap.size ≤ g ∧ w.heap.size ≤ gb) ∧ Kp [] w w' := by
  have h1 : decide ((n : Int) < 0) = false := by simp <;> omega
  have h2 : decide ((1048576 : Int) < n) = false := by simp <;> omega
  go_enter Try.func64, Try.ntmps64
  go_wp2_with (with_reducible refine stopAt (o := ⟨some 11, _, _, _, _, _⟩) ?_)
  refine Stop.go (wp_makeB rfl _ _ 22 5 rfl Try.underlying22 Try.info5 n rfl rfl (by omega) ?_)
  intro w1 hz k1
  have z1 := lt_of_heap hz.out
  go_wp2
  go_ret2
  have hk := k1.alloc (.cells #[.int .i64 0, .bool true, .slice (some ⟨w.heap.size, 0, none⟩) n n, .int .i64 0] 105)
  refine ⟨_, w.heap.size, rfl, ⟨h, by rcases Nat.eq_zero_or_pos n with h0 | h0; exact .inr ⟨rfl, rfl, h0⟩; exact .inl h0, by omega, hp_new _ _ _ rfl, _, List.length_replicate .., Hld.nil _ _, (hp_old _ _ _ z1).trans hz.out⟩, ⟨k1.size, Nat.le_refl _⟩, hk⟩
set_option maxHeartbeats 1000000 in
theorem awake01 (w : World) : Calls Try.prog 71 #[] w (Yes w) := by
  go_enter Try.func71, Try.ntmps71
  go_wp2_with fail
  refine (RgNew 2 (by omega) w).mono ?_
  rintro e w1 ⟨g, gb, rfl, R1, hlt, K1⟩
  obtain ⟨lt1, lt2⟩ := R1.lt
  have R2 := R1.keep ((Kp.refl [] w1).alloc (.cells #[.int .u8 1, .int .u8 2, .int .u8 3] 5)) (by simp) (by simp)
  go_wp2_with fail
  refine (RgPut R2 (some ⟨w1.heap.size, 0, none⟩) 3 3 [1, 2, 3] (Rd.block (hp_new _ _ _ rfl) 0 3 3 [1, 2, 3] rfl (by omega) rfl) (by omega) (by simp [ob]; omega)).mono ?_
  rintro e w2 ⟨rfl, K2, R3⟩
  rw [show min 3 (2 - ([] : List UInt8).length) = 2 from rfl]
  go_wp2
  go_ret
  exact ⟨rfl, (K1.alloc _).then K2 (by simp; omega)⟩
end Go.Proofs.Ytkmcakneceagpaa
