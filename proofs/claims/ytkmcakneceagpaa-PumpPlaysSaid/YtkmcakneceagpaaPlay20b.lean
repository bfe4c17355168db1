/- 'play' of layer 20's laws, on. -/
import Derived.Test.YtkmcakneceagpaaPlay20
set_option linter.unusedVariables false
set_option linter.unusedSimpArgs false
namespace Go.Proofs.Ytkmcakneceagpaa
open Go.RowKit
/-- append, as one operation -/
theorem op_app3 {o : Oper} {a : Act} {w : World} {K : Act → World → Prop} {Q : Exit → Act → World → Prop} (s x : Operand)
    (ho : o.op = .call { callee := .builtin .append, args := #[s, x], argTypes := #[110, 110] })
    (A : Option Addr) (n c : Nat) (hs : a.eval s = .slice A n c) (HO : Ow w 0 179 3 A n c [])
    (A2 : Option Addr) (m c2 : Nat) (ys : List Value) (hx : a.eval x = .slice A2 m c2) (hl : ys.length = m * 3) (HR : At w A2 ys) (h1 : ∀ u ∈ ys, u.oneCell' = true)
    (hbytes : m * 40 ≤ 140737488351232)
    (h : ∀ A' c' w', Ow w' 0 179 3 A' m c' ys → Kp (ob A) w w' → (A' = A ∨ A' = some ⟨w.heap.size, 0, none⟩) → K (a.put o.dst (.slice A' m c')) w') :
    Oper.wp Try.prog o a w K Q := by
  have hn : n = 0 := by have := HO.len; simp at this; omega
  subst hn
  obtain ⟨A', c', w', hr, h2, h3, h4, _⟩ := run_app (P := Try.prog) w 110 o.type 179 _ 3 40 Try.underlying110 Try.infoHd (by rfl) (by omega) 0 A 0 c [] HO A2 m c2 ys hl HR h1 (by simp only [maxLen]; omega) (by omega) (by omega)
  unfold Oper.wp execOp
  simp only [ho, resolve, invoke, builtin, Sem.run_bind, Sem.run_pure, Result.andThen_ok, List.map_toArray, List.map_cons, List.map_nil, hs, hx, hr]
  rw [Nat.zero_add, List.nil_append] at h2
  rw [Nat.zero_add]
  exact h A' c' w' h2 h3 h4
set_option maxHeartbeats 1000000 in
set_option maxRecDepth 100000 in
theorem p20done {b0 : Nat} {w0 : World} {u g gb q h C : Nat} {S D1 D2 : List Nat} {s : PSt} (j : JP b0 w0 u g gb q h C S D1 D2 s s) (N : Int) (A : Option Addr) (n c : Nat) (B : Option Addr) (m d : Nat) : Calls Try.prog 96 #[.pointer (some ⟨u, 0, none⟩), .pointer (some ⟨q, 0, none⟩), .agg #[.int .i64 2, .int .i64 N, .slice A n c, .slice B m d]] w0 fun e w' => e = .returned (.bool true) ∧ ∃ S' D1' D2', JP b0 w' u g gb q h C S' D1' D2' (doneS s N) (doneS s N) ∧ KB b0 w0 w' := by
  have lp := j.pm.lt
  have lr := j.rp.lt
  have hbs := j.base
  have hbz : b0 ≤ w0.heap.size := by omega
  have hself := j.rp.ring.self
  have hjn : ∀ x, w0.heap.size ≤ x → x ∉ u :: g :: gb :: q :: S := by
    intro x hx hm
    simp only [List.mem_cons] at hm
    rcases hm with rfl | rfl | rfl | rfl | hm
    · omega
    · omega
    · omega
    · omega
    · have := lr.2 x hm; omega
  have K0 : Kp [] w0 (w0.alloc (.cells #[.int .i64 2, .int .i64 N, .slice A n c, .slice B m d] 132)) := (Kp.refl _ _).alloc _
  have HB := Lib.hid (hp_new w0 (.cells #[.int .i64 2, .int .i64 N, .slice A n c, .slice B m d] 132) _ rfl)
  have HJ := Lib.hid (j.keep K0 (by simp))
  clear j
  go_enter Try.func96, Try.ntmps96
  go_wp2
  generalize hW : w0.alloc _ = w1 at *
  clear hW
  have hB := lt_of_heap HB.out
  have CQ : ∀ v, (∃ k, (match (motive := Nat → Prop) k with | 0 => v = w1.drew | 1 => ((∃ D', JP b0 v u g gb q h C S D' D2 (doneS s N) s) ∧ Kp [u, g, gb] w1 v) | _ => ((∃ S' D1' D2', JP b0 v u g gb q h C S' D1' D2' (doneS s N) (doneS s N)) ∧ Kp (u :: g :: gb :: q :: S) w1 v))) → Kp (u :: g :: gb :: q :: S) w1 v := by
    rintro v ⟨k, hk⟩
    rcases k with _ | _ | k
    · cases hk; exact (Kp.refl _ w1).drew
    · exact hk.2.mono (fun s hs => .inl (by simp at hs; rcases hs with rfl | rfl | rfl <;> simp))
    · exact hk.2
  refine wp_region_lists (by kernel_rfl) [fun v _ => v = (.pointer (some ⟨u, 0, none⟩)),
      fun v _ => v = (.pointer (some ⟨w0.heap.size, 1, none⟩)),
      fun v _ => v = (.int .i64 N),
      fun v w => v = .int .i64 (doneV s N),
      fun v _ => v = (.pointer (some ⟨q, 0, none⟩)),
      fun v _ => v = (.pointer (some ⟨w0.heap.size, 1, none⟩)),
      fun v _ => v = (.int .i64 N),
      fun v w => v = .int .i64 (doneV s N),
      fun v _ => v = (.bool true),
      fun v _ => v = (.bool true)] (fun k w => match k with | 0 => w = w1.drew | 1 => ((∃ D', JP b0 w u g gb q h C S D' D2 (doneS s N) s) ∧ Kp [u, g, gb] w1 w) | _ => ((∃ S' D1' D2', JP b0 w u g gb q h C S' D1' D2' (doneS s N) (doneS s N)) ∧ Kp (u :: g :: gb :: q :: S) w1 w)) (fun k w w' => True) [3, 7] (by kernel_rfl) (by kernel_rfl) (by kernel_rfl) (by decide) (by kernel_rfl) ⟨StabsAt.const _, StabsAt.const _, StabsAt.const _, StabsAt.const _, StabsAt.const _, StabsAt.const _, StabsAt.const _, StabsAt.const _, StabsAt.const _, StabsAt.const _, trivial⟩ (rfl) ⟨?_, ?_, ?_, ?_, ?_, ?_, ?_, ?_, ?_, ?_, trivial⟩ (by kernel_rfl) ?_
  · intro a w E hC K hK
    have h0 : a.tmps[0]? = some (.pointer (some ⟨u, 0, none⟩)) := (E.out 0 (by kernel_rfl)).trans rfl
    refine want_none rfl ?_
    go_simp
    exact hK _ rfl
  · intro a w E hC K hK
    have h5 : a.tmps[5]? = some (.pointer (some ⟨w0.heap.size, 0, none⟩)) := (E.out 5 (by kernel_rfl)).trans rfl
    refine want_none rfl ?_
    go_simp
    exact hK _ rfl
  · intro a w E hC K hK
    obtain ⟨_, h59, rfl⟩ := E.pred 1 _ 59 rfl rfl (by kernel_rfl)
    refine want_none rfl ?_
    have hq := cell_of ((CQ _ hC).heap HB.out (hjn _ (Nat.le_refl _))) 1
    go_simp
    exact hK _ rfl
  · intro a w E hC K hK
    obtain ⟨_, h58, rfl⟩ := E.pred 0 _ 58 rfl rfl (by kernel_rfl)
    obtain ⟨_, h60, rfl⟩ := E.pred 2 _ 60 rfl rfl (by kernel_rfl)
    refine want_none rfl ?_
    obtain rfl : w = w1.drew := hC
    have HJ1 := HJ.out.keep (Kp.refl [] w1).drew (by simp)
    go_simp
    refine (PmDoneA HJ1.pm N).mono ?_
    rintro e w2 ⟨rfl, k2, P2⟩
    obtain ⟨D', hD', J2⟩ := HJ1.prog k2 (Nw.refl _ _) P2
    go_simp
    exact hK _ _ rfl ⟨⟨D', J2⟩, k2.undrew⟩ ⟨by decide, trivial⟩
  · intro a w E hC K hK
    have h1 : a.tmps[1]? = some (.pointer (some ⟨q, 0, none⟩)) := (E.out 1 (by kernel_rfl)).trans rfl
    refine want_none rfl ?_
    go_simp
    exact hK _ rfl
  · intro a w E hC K hK
    have h5 : a.tmps[5]? = some (.pointer (some ⟨w0.heap.size, 0, none⟩)) := (E.out 5 (by kernel_rfl)).trans rfl
    refine want_none rfl ?_
    go_simp
    exact hK _ rfl
  · intro a w E hC K hK
    obtain ⟨_, h63, rfl⟩ := E.pred 5 _ 63 rfl rfl (by kernel_rfl)
    refine want_none rfl ?_
    have hq := cell_of ((CQ _ hC).heap HB.out (hjn _ (Nat.le_refl _))) 1
    go_simp
    exact hK _ rfl
  · intro a w E hC K hK
    obtain ⟨_, h62, rfl⟩ := E.pred 4 _ 62 rfl rfl (by kernel_rfl)
    obtain ⟨_, h64, rfl⟩ := E.pred 6 _ 64 rfl rfl (by kernel_rfl)
    refine want_none rfl ?_
    obtain ⟨⟨D', HJ1⟩, k1⟩ := hC
    go_simp
    refine (RpDoneA HJ1.rp N).mono ?_
    rintro e w2 ⟨rfl, k2, S', hS', P2⟩
    obtain ⟨D3, hD3, J3⟩ := HJ1.refd k2 hS' (Nw.refl _ _) P2
    go_simp
    exact hK _ _ rfl ⟨⟨S', D', D3, J3⟩, (k1.mono (fun t ht => .inl (by simp at ht; rcases ht with rfl | rfl | rfl <;> simp))).trans (k2.mono (fun t ht => .inl (by rcases List.mem_cons.1 ht with rfl | ht; simp; simp [ht])))⟩ ⟨by decide, trivial⟩
  · intro a w E hC K hK
    obtain ⟨v3, h61, V3⟩ := E.pred 3 _ 61 rfl rfl (by kernel_rfl)
    replace V3 : (fun v w => v = .int .i64 (doneV s N)) v3 w := V3
    obtain rfl := V3
    obtain ⟨v7, h65, V7⟩ := E.pred 7 _ 65 rfl rfl (by kernel_rfl)
    replace V7 : (fun v w => v = .int .i64 (doneV s N)) v7 w := V7
    obtain rfl := V7
    refine want_none rfl ?_
    go_simp
    exact hK _ rfl
  · intro a w E hC K hK
    obtain ⟨_, h66, rfl⟩ := E.pred 8 _ 66 rfl rfl (by kernel_rfl)
    refine want_none rfl ?_
    go_simp
    exact hK _ rfl
  intro vs w2 hC hV
  have h9 := hV 9 _ rfl (by simp)
  replace h9 : vs 9 = .bool true := h9
  clear hV
  simp only [putAll, Act.put, List.setIfInBounds_toArray]
  dsimp only [List.set]
  go_wp2
  go_ret
  obtain ⟨⟨S', D1', D2', J4⟩, K4⟩ := hC
  refine ⟨by show Ending.returned (vs 9) = _; rw [h9], S', D1', D2', J4, (KB.of K0 (by simp)).trans (KB.of K4 (by intro t ht; simp only [List.mem_cons] at ht; rcases ht with rfl | rfl | rfl | rfl | ht; omega; omega; omega; omega; exact hbs.2 t ht))⟩
set_option maxHeartbeats 1000000 in
set_option maxRecDepth 100000 in
theorem p20put {b0 : Nat} {w0 : World} {u g gb q h C : Nat} {S D1 D2 : List Nat} {s : PSt} (j : JP b0 w0 u g gb q h C S D1 D2 s s) (xs : List UInt8) (N : Int) (A : Option Addr) (n c : Nat) (B : Option Addr) (m d : Nat) (hx : Rd w0 A n c xs) (hn : n ≤ 140737488351232) (hxb : 0 < n → ∀ b, b ∈ ob A → b < b0) : Calls Try.prog 96 #[.pointer (some ⟨u, 0, none⟩), .pointer (some ⟨q, 0, none⟩), .agg #[.int .i64 0, .int .i64 N, .slice A n c, .slice B m d]] w0 fun e w' => e = .returned (.bool true) ∧ ∃ S' D1' D2', JP b0 w' u g gb q h C S' D1' D2' (putS C s xs) (putS C s xs) ∧ KB b0 w0 w' := by
  have lp := j.pm.lt
  have lr := j.rp.lt
  have hbs := j.base
  have hbz : b0 ≤ w0.heap.size := by omega
  have hself := j.rp.ring.self
  have hjn : ∀ x, w0.heap.size ≤ x → x ∉ u :: g :: gb :: q :: S := by
    intro x hx hm
    simp only [List.mem_cons] at hm
    rcases hm with rfl | rfl | rfl | rfl | hm
    · omega
    · omega
    · omega
    · omega
    · have := lr.2 x hm; omega
  have K0 : Kp [] w0 (w0.alloc (.cells #[.int .i64 0, .int .i64 N, .slice A n c, .slice B m d] 132)) := (Kp.refl _ _).alloc _
  have HB := Lib.hid (hp_new w0 (.cells #[.int .i64 0, .int .i64 N, .slice A n c, .slice B m d] 132) _ rfl)
  have HJ := Lib.hid (j.keep K0 (by simp))
  clear j
  go_enter Try.func96, Try.ntmps96
  have HX := Lib.hid hx
  clear hx
  go_wp2
  have HX1 := Lib.hid (HX.out.keep K0 (by simp))
  generalize hW : w0.alloc _ = w1 at *
  clear hW
  have hB := lt_of_heap HB.out
  have CQ : ∀ v, (∃ k, (match (motive := Nat → Prop) k with | 0 => v = w1.drew | 1 => v = w1.drew.alloc (.cells #[] 5) | 2 => Kp [] w1 v | 3 => ((∃ D', JP b0 v u g gb q h C S D' D2 (putS C s xs) s) ∧ Kp [u, g, gb] w1 v) | _ => ((∃ S' D1' D2', JP b0 v u g gb q h C S' D1' D2' (putS C s xs) (putS C s xs)) ∧ Kp (u :: g :: gb :: q :: S) w1 v))) → Kp (u :: g :: gb :: q :: S) w1 v := by
    rintro v ⟨k, hk⟩
    rcases k with _ | _ | _ | _ | k
    · cases hk; exact (Kp.refl _ w1).drew
    · cases hk; exact (Kp.refl _ w1).drew.alloc _
    · exact Kp.nil hk
    · exact hk.2.mono (fun s hs => .inl (by simp at hs; rcases hs with rfl | rfl | rfl <;> simp))
    · exact hk.2
  refine wp_region_lists (by kernel_rfl) [fun v _ => v = (.pointer (some ⟨u, 0, none⟩)),
      fun v w => v = .slice (some ⟨w1.heap.size, 0, none⟩) 0 0,
      fun v _ => v = (.pointer (some ⟨w0.heap.size, 2, none⟩)),
      fun v _ => v = (.slice A n c),
      fun v w => ∃ A' c', v = .slice A' n c' ∧ Rd w A' n c' xs ∧ ∀ b, b ∈ ob A' → w1.heap.size ≤ b,
      fun v w => v = .int .i64 (putV C s n),
      fun v _ => v = (.pointer (some ⟨q, 0, none⟩)),
      fun v _ => v = (.pointer (some ⟨w0.heap.size, 2, none⟩)),
      fun v _ => v = (.slice A n c),
      fun v w => v = .int .i64 (putV C s n),
      fun v _ => v = (.bool true),
      fun v _ => v = (.bool true)] (fun k w => match k with | 0 => w = w1.drew | 1 => w = w1.drew.alloc (.cells #[] 5) | 2 => Kp [] w1 w | 3 => ((∃ D', JP b0 w u g gb q h C S D' D2 (putS C s xs) s) ∧ Kp [u, g, gb] w1 w) | _ => ((∃ S' D1' D2', JP b0 w u g gb q h C S' D1' D2' (putS C s xs) (putS C s xs)) ∧ Kp (u :: g :: gb :: q :: S) w1 w)) (fun k w w' => match k with | 0 => Kp [] w w' | 1 => Kp [w1.heap.size] w w' | 2 => Kp [u, g, gb] w w' | _ => Kp (q :: S) w w') [1, 4, 5, 9] (by kernel_rfl) (by kernel_rfl) (by kernel_rfl) (by decide) (by kernel_rfl) ⟨StabsAt.const _, StabsAt.const _, StabsAt.const _, StabsAt.const _, (by intro k v w w' hk hne hR hv; obtain ⟨A', c', e, hr', hb'⟩ := hv; rcases k with _ | _ | _ | _ | k; (exact ⟨A', c', e, hr'.keep (S := []) hR (by simp), hb'⟩); (exact absurd rfl hne); (exact ⟨A', c', e, hr'.keep (S := [u, g, gb]) hR (by intro _ b hb hs; have := hb' b hb; simp at hs; omega), hb'⟩); (exact ⟨A', c', e, hr'.keep (S := q :: S) hR (by intro _ b hb hs; have := hb' b hb; exact hjn b (by omega) (by rcases List.mem_cons.1 hs with rfl | hs; simp; simp [hs])), hb'⟩); (exact absurd hk (by simp))), StabsAt.const _, StabsAt.const _, StabsAt.const _, StabsAt.const _, StabsAt.const _, StabsAt.const _, StabsAt.const _, trivial⟩ (rfl) ⟨?_, ?_, ?_, ?_, ?_, ?_, ?_, ?_, ?_, ?_, ?_, ?_, trivial⟩ (by kernel_rfl) ?_
  · intro a w E hC K hK
    have h0 : a.tmps[0]? = some (.pointer (some ⟨u, 0, none⟩)) := (E.out 0 (by kernel_rfl)).trans rfl
    refine want_none rfl ?_
    go_simp
    exact hK _ rfl
  · intro a w E hC K hK
    refine want_none rfl ?_
    obtain rfl : w = w1.drew := hC
    go_simp
    exact hK _ _ rfl rfl ⟨by decide, (Kp.refl [] _).alloc _⟩
  · intro a w E hC K hK
    have h5 : a.tmps[5]? = some (.pointer (some ⟨w0.heap.size, 0, none⟩)) := (E.out 5 (by kernel_rfl)).trans rfl
    refine want_none rfl ?_
    go_simp
    exact hK _ rfl
  · intro a w E hC K hK
    obtain ⟨_, h21, rfl⟩ := E.pred 2 _ 21 rfl rfl (by kernel_rfl)
    refine want_none rfl ?_
    have hq := cell_of ((CQ _ hC).heap HB.out (hjn _ (Nat.le_refl _))) 2
    go_simp
    exact hK _ rfl
  · intro a w E hC K hK
    obtain ⟨v1, h20, V1⟩ := E.pred 1 _ 20 rfl rfl (by kernel_rfl)
    replace V1 : (fun v w => v = .slice (some ⟨w1.heap.size, 0, none⟩) 0 0) v1 w := V1
    obtain rfl := V1
    obtain ⟨_, h22, rfl⟩ := E.pred 3 _ 22 rfl rfl (by kernel_rfl)
    refine want_none rfl ?_
    obtain rfl : w = w1.drew.alloc (.cells #[] 5) := hC
    refine op_appB (.tmp 20) (.tmp 22) 22 5 rfl Try.underlying22 Try.info5 0 (some ⟨w1.heap.size, 0, none⟩) 0 0 [] (eval_tmp h20) (Ow.emptyX w1.drew w1.heap.size 0 5 1 rfl (Nat.zero_le _)) A n c xs (eval_tmp h22) (HX1.out.keep ((Kp.refl [] w1).drew.alloc _) (by simp)) (by omega) (by omega) ?_
    intro A' c' w2 O2 K2 hA'
    rw [Nat.zero_add] at O2 ⊢
    exact hK _ _ ⟨A', c', rfl, (by have h0 := O2.rd; simpa using h0), by intro b hb; rcases hA' with rfl | rfl; (simp [ob] at hb; omega); (simp [ob] at hb; rw [hb]; show w1.heap.size ≤ w1.heap.size + 1; omega)⟩ (((Kp.refl [] w1).drew.alloc _).then K2 (fun t ht => by simp [ob] at ht; exact .inr (by omega))) ⟨by decide, K2⟩
  · intro a w E hC K hK
    obtain ⟨_, h19, rfl⟩ := E.pred 0 _ 19 rfl rfl (by kernel_rfl)
    obtain ⟨v4, h23, V4⟩ := E.pred 4 _ 23 rfl rfl (by kernel_rfl)
    replace V4 : (fun v w => ∃ A' c', v = .slice A' n c' ∧ Rd w A' n c' xs ∧ ∀ b, b ∈ ob A' → w1.heap.size ≤ b) v4 w := V4
    obtain ⟨A', c', rfl, hr', hb'⟩ := V4
    refine want_none rfl ?_
    have hk0 : Kp [] w1 w := hC
    have HJ1 := HJ.out.keep hk0 (by simp)
    have hl1 := HJ.out.pm.lt
    go_simp
    refine (PmPutA HJ1.pm A' n c' xs hr' (by omega) (by intro _ b hb; have := hb' b hb; omega)).mono ?_
    rintro e w2 ⟨rfl, k2, P2⟩
    obtain ⟨D', hD', J2⟩ := HJ1.prog k2 (Nw.refl _ _) P2
    go_simp
    exact hK _ _ rfl ⟨⟨D', J2⟩, hk0.nil.trans k2⟩ ⟨by decide, k2⟩
  · intro a w E hC K hK
    have h1 : a.tmps[1]? = some (.pointer (some ⟨q, 0, none⟩)) := (E.out 1 (by kernel_rfl)).trans rfl
    refine want_none rfl ?_
    go_simp
    exact hK _ rfl
  · intro a w E hC K hK
    have h5 : a.tmps[5]? = some (.pointer (some ⟨w0.heap.size, 0, none⟩)) := (E.out 5 (by kernel_rfl)).trans rfl
    refine want_none rfl ?_
    go_simp
    exact hK _ rfl
  · intro a w E hC K hK
    obtain ⟨_, h26, rfl⟩ := E.pred 7 _ 26 rfl rfl (by kernel_rfl)
    refine want_none rfl ?_
    have hq := cell_of ((CQ _ hC).heap HB.out (hjn _ (Nat.le_refl _))) 2
    go_simp
    exact hK _ rfl
  · intro a w E hC K hK
    obtain ⟨_, h25, rfl⟩ := E.pred 6 _ 25 rfl rfl (by kernel_rfl)
    obtain ⟨_, h27, rfl⟩ := E.pred 8 _ 27 rfl rfl (by kernel_rfl)
    refine want_none rfl ?_
    obtain ⟨⟨D', HJ1⟩, k1⟩ := hC
    go_simp
    refine (RpPutA HJ1.rp A n c xs (HX1.out.keep k1 (by intro hp b hb hs; have := hxb hp b hb; simp at hs; omega)) (by omega)).mono ?_
    rintro e w2 ⟨rfl, k2, S', hS', P2⟩
    obtain ⟨D3, hD3, J3⟩ := HJ1.refd k2 hS' (Nw.refl _ _) P2
    go_simp
    exact hK _ _ rfl ⟨⟨S', D', D3, J3⟩, (k1.mono (fun t ht => .inl (by simp at ht; rcases ht with rfl | rfl | rfl <;> simp))).trans (k2.mono (fun t ht => .inl (by rcases List.mem_cons.1 ht with rfl | ht; simp; simp [ht])))⟩ ⟨by decide, k2⟩
  · intro a w E hC K hK
    obtain ⟨v5, h24, V5⟩ := E.pred 5 _ 24 rfl rfl (by kernel_rfl)
    replace V5 : (fun v w => v = .int .i64 (putV C s n)) v5 w := V5
    obtain rfl := V5
    obtain ⟨v9, h28, V9⟩ := E.pred 9 _ 28 rfl rfl (by kernel_rfl)
    replace V9 : (fun v w => v = .int .i64 (putV C s n)) v9 w := V9
    obtain rfl := V9
    refine want_none rfl ?_
    go_simp
    exact hK _ rfl
  · intro a w E hC K hK
    obtain ⟨_, h29, rfl⟩ := E.pred 10 _ 29 rfl rfl (by kernel_rfl)
    refine want_none rfl ?_
    go_simp
    exact hK _ rfl
  intro vs w2 hC hV
  have h9 := hV 11 _ rfl (by simp)
  replace h9 : vs 11 = .bool true := h9
  clear hV
  simp only [putAll, Act.put, List.setIfInBounds_toArray]
  dsimp only [List.set]
  go_wp2
  go_ret
  obtain ⟨⟨S', D1', D2', J4⟩, K4⟩ := hC
  refine ⟨by show Ending.returned (vs 11) = _; rw [h9], S', D1', D2', J4, (KB.of K0 (by simp)).trans (KB.of K4 (by intro t ht; simp only [List.mem_cons] at ht; rcases ht with rfl | rfl | rfl | rfl | ht; omega; omega; omega; omega; exact hbs.2 t ht))⟩
set_option maxHeartbeats 1000000 in
set_option maxRecDepth 100000 in
theorem p20tail {b0 : Nat} {w0 : World} {u g gb q h C : Nat} {S D1 D2 : List Nat} {s : PSt} (j : JP b0 w0 u g gb q h C S D1 D2 s s) (N : Int) (A : Option Addr) (n c : Nat) (B : Option Addr) (m d : Nat) (hs : List Hdr) (hh : Hd w0 B m d hs) (hm : m * 40 ≤ 140737488351232) (hhb : 0 < m → ∀ b, b ∈ ob B → b < b0) : Calls Try.prog 96 #[.pointer (some ⟨u, 0, none⟩), .pointer (some ⟨q, 0, none⟩), .agg #[.int .i64 4, .int .i64 N, .slice A n c, .slice B m d]] w0 fun e w' => e = .returned (.bool true) ∧ ∃ S' D1' D2', JP b0 w' u g gb q h C S' D1' D2' (tailS s hs) (tailS s hs) ∧ KB b0 w0 w' := by
  have lp := j.pm.lt
  have lr := j.rp.lt
  have hbs := j.base
  have hbz : b0 ≤ w0.heap.size := by omega
  have hself := j.rp.ring.self
  have hjn : ∀ x, w0.heap.size ≤ x → x ∉ u :: g :: gb :: q :: S := by
    intro x hx hm
    simp only [List.mem_cons] at hm
    rcases hm with rfl | rfl | rfl | rfl | hm
    · omega
    · omega
    · omega
    · omega
    · have := lr.2 x hm; omega
  have K0 : Kp [] w0 (w0.alloc (.cells #[.int .i64 4, .int .i64 N, .slice A n c, .slice B m d] 132)) := (Kp.refl _ _).alloc _
  have HB := Lib.hid (hp_new w0 (.cells #[.int .i64 4, .int .i64 N, .slice A n c, .slice B m d] 132) _ rfl)
  have HJ := Lib.hid (j.keep K0 (by simp))
  clear j
  go_enter Try.func96, Try.ntmps96
  have HX := Lib.hid hh
  clear hh
  go_wp2
  have HX1 := Lib.hid (HX.out.keep K0 (by simp))
  generalize hW : w0.alloc _ = w1 at *
  clear hW
  have hB := lt_of_heap HB.out
  have CQ : ∀ v, (∃ k, (match (motive := Nat → Prop) k with | 0 => v = w1.drew | 1 => v = w1.drew.alloc (.cells #[] 179) | 2 => Kp [] w1 v | 3 => ((∃ D', JP b0 v u g gb q h C S D' D2 (tailS s hs) s) ∧ Kp [u, g, gb] w1 v) | _ => ((∃ S' D1' D2', JP b0 v u g gb q h C S' D1' D2' (tailS s hs) (tailS s hs)) ∧ Kp (u :: g :: gb :: q :: S) w1 v))) → Kp (u :: g :: gb :: q :: S) w1 v := by
    rintro v ⟨k, hk⟩
    rcases k with _ | _ | _ | _ | k
    · cases hk; exact (Kp.refl _ w1).drew
    · cases hk; exact (Kp.refl _ w1).drew.alloc _
    · exact Kp.nil hk
    · exact hk.2.mono (fun s hs => .inl (by simp at hs; rcases hs with rfl | rfl | rfl <;> simp))
    · exact hk.2
  refine wp_region_lists (by kernel_rfl) [fun v _ => v = (.pointer (some ⟨u, 0, none⟩)),
      fun v w => v = .slice (some ⟨w1.heap.size, 0, none⟩) 0 0,
      fun v _ => v = (.pointer (some ⟨w0.heap.size, 3, none⟩)),
      fun v _ => v = (.slice B m d),
      fun v w => ∃ A' c', v = .slice A' m c' ∧ Hd w A' m c' hs ∧ ∀ b, b ∈ ob A' → w1.heap.size ≤ b,
      fun v w => v = .int .i64 (endV s),
      fun v _ => v = (.pointer (some ⟨q, 0, none⟩)),
      fun v _ => v = (.pointer (some ⟨w0.heap.size, 3, none⟩)),
      fun v _ => v = (.slice B m d),
      fun v w => v = .int .i64 (endV s),
      fun v _ => v = (.bool true),
      fun v _ => v = (.bool true)] (fun k w => match k with | 0 => w = w1.drew | 1 => w = w1.drew.alloc (.cells #[] 179) | 2 => Kp [] w1 w | 3 => ((∃ D', JP b0 w u g gb q h C S D' D2 (tailS s hs) s) ∧ Kp [u, g, gb] w1 w) | _ => ((∃ S' D1' D2', JP b0 w u g gb q h C S' D1' D2' (tailS s hs) (tailS s hs)) ∧ Kp (u :: g :: gb :: q :: S) w1 w)) (fun k w w' => match k with | 0 => Kp [] w w' | 1 => Kp [w1.heap.size] w w' | 2 => Kp [u, g, gb] w w' | _ => Kp (q :: S) w w') [1, 4, 5, 9] (by kernel_rfl) (by kernel_rfl) (by kernel_rfl) (by decide) (by kernel_rfl) ⟨StabsAt.const _, StabsAt.const _, StabsAt.const _, StabsAt.const _, (by intro k v w w' hk hne hR hv; obtain ⟨A', c', e, hr', hb'⟩ := hv; rcases k with _ | _ | _ | _ | k; (exact ⟨A', c', e, hr'.keep (S := []) hR (by simp), hb'⟩); (exact absurd rfl hne); (exact ⟨A', c', e, hr'.keep (S := [u, g, gb]) hR (by intro _ b hb hs; have := hb' b hb; simp at hs; omega), hb'⟩); (exact ⟨A', c', e, hr'.keep (S := q :: S) hR (by intro _ b hb hs; have := hb' b hb; exact hjn b (by omega) (by rcases List.mem_cons.1 hs with rfl | hs; simp; simp [hs])), hb'⟩); (exact absurd hk (by simp))), StabsAt.const _, StabsAt.const _, StabsAt.const _, StabsAt.const _, StabsAt.const _, StabsAt.const _, StabsAt.const _, trivial⟩ (rfl) ⟨?_, ?_, ?_, ?_, ?_, ?_, ?_, ?_, ?_, ?_, ?_, ?_, trivial⟩ (by kernel_rfl) ?_
  · intro a w E hC K hK
    have h0 : a.tmps[0]? = some (.pointer (some ⟨u, 0, none⟩)) := (E.out 0 (by kernel_rfl)).trans rfl
    refine want_none rfl ?_
    go_simp
    exact hK _ rfl
  · intro a w E hC K hK
    refine want_none rfl ?_
    obtain rfl : w = w1.drew := hC
    go_simp
    exact hK _ _ rfl rfl ⟨by decide, (Kp.refl [] _).alloc _⟩
  · intro a w E hC K hK
    have h5 : a.tmps[5]? = some (.pointer (some ⟨w0.heap.size, 0, none⟩)) := (E.out 5 (by kernel_rfl)).trans rfl
    refine want_none rfl ?_
    go_simp
    exact hK _ rfl
  · intro a w E hC K hK
    obtain ⟨_, h78, rfl⟩ := E.pred 2 _ 78 rfl rfl (by kernel_rfl)
    refine want_none rfl ?_
    have hq := cell_of ((CQ _ hC).heap HB.out (hjn _ (Nat.le_refl _))) 3
    go_simp
    exact hK _ rfl
  · intro a w E hC K hK
    obtain ⟨v1, h77, V1⟩ := E.pred 1 _ 77 rfl rfl (by kernel_rfl)
    replace V1 : (fun v w => v = .slice (some ⟨w1.heap.size, 0, none⟩) 0 0) v1 w := V1
    obtain rfl := V1
    obtain ⟨_, h79, rfl⟩ := E.pred 3 _ 79 rfl rfl (by kernel_rfl)
    refine want_none rfl ?_
    obtain rfl : w = w1.drew.alloc (.cells #[] 179) := hC
    have hml := HX.out.len
    refine op_app3 (.tmp 77) (.tmp 79) rfl (some ⟨w1.heap.size, 0, none⟩) 0 0 (eval_tmp h77) (Ow.emptyX w1.drew w1.heap.size 0 179 3 rfl (Nat.zero_le _)) B m d (hcells hs) (eval_tmp h79) (by rw [hcells_len, hml]) (HX1.out.keep ((Kp.refl [] w1).drew.alloc _) (by simp)).at_ (hcells_one hs) (by omega) ?_
    intro A' c' w2 O2 K2 hA'
    exact hK _ _ ⟨A', c', rfl, O2.hd, by intro b hb; rcases hA' with rfl | rfl; (simp [ob] at hb; omega); (simp [ob] at hb; rw [hb]; show w1.heap.size ≤ w1.heap.size + 1; omega)⟩ (((Kp.refl [] w1).drew.alloc _).then K2 (fun t ht => by simp [ob] at ht; exact .inr (by omega))) ⟨by decide, K2⟩
  · intro a w E hC K hK
    obtain ⟨_, h76, rfl⟩ := E.pred 0 _ 76 rfl rfl (by kernel_rfl)
    obtain ⟨v4, h80, V4⟩ := E.pred 4 _ 80 rfl rfl (by kernel_rfl)
    replace V4 : (fun v w => ∃ A' c', v = .slice A' m c' ∧ Hd w A' m c' hs ∧ ∀ b, b ∈ ob A' → w1.heap.size ≤ b) v4 w := V4
    obtain ⟨A', c', rfl, hr', hb'⟩ := V4
    refine want_none rfl ?_
    have hk0 : Kp [] w1 w := hC
    have HJ1 := HJ.out.keep hk0 (by simp)
    have hl1 := HJ.out.pm.lt
    go_simp
    refine (PmTailA HJ1.pm A' m c' hs hr' (by omega) (by intro _ b hb; have := hb' b hb; omega)).mono ?_
    rintro e w2 ⟨rfl, k2, D4, hD4, P2⟩
    obtain ⟨D', hD', J2⟩ := HJ1.prog k2 hD4 P2
    go_simp
    exact hK _ _ rfl ⟨⟨D', J2⟩, hk0.nil.trans k2⟩ ⟨by decide, k2⟩
  · intro a w E hC K hK
    have h1 : a.tmps[1]? = some (.pointer (some ⟨q, 0, none⟩)) := (E.out 1 (by kernel_rfl)).trans rfl
    refine want_none rfl ?_
    go_simp
    exact hK _ rfl
  · intro a w E hC K hK
    have h5 : a.tmps[5]? = some (.pointer (some ⟨w0.heap.size, 0, none⟩)) := (E.out 5 (by kernel_rfl)).trans rfl
    refine want_none rfl ?_
    go_simp
    exact hK _ rfl
  · intro a w E hC K hK
    obtain ⟨_, h83, rfl⟩ := E.pred 7 _ 83 rfl rfl (by kernel_rfl)
    refine want_none rfl ?_
    have hq := cell_of ((CQ _ hC).heap HB.out (hjn _ (Nat.le_refl _))) 3
    go_simp
    exact hK _ rfl
  · intro a w E hC K hK
    obtain ⟨_, h82, rfl⟩ := E.pred 6 _ 82 rfl rfl (by kernel_rfl)
    obtain ⟨_, h84, rfl⟩ := E.pred 8 _ 84 rfl rfl (by kernel_rfl)
    refine want_none rfl ?_
    obtain ⟨⟨D', HJ1⟩, k1⟩ := hC
    go_simp
    refine (RpTailA HJ1.rp B m d hs (HX1.out.keep k1 (by intro hp b hb hs; have := hhb hp b hb; simp at hs; omega)) (by omega) (by intro hp b hb; have := hhb hp b hb; omega)).mono ?_
    rintro e w2 ⟨rfl, k2, D4, hD4, P2⟩
    obtain ⟨D3, hD3, J3⟩ := HJ1.refd k2 (Nw.refl _ _) hD4 P2
    go_simp
    exact hK _ _ rfl ⟨⟨S, D', D3, J3⟩, (k1.mono (fun t ht => .inl (by simp at ht; rcases ht with rfl | rfl | rfl <;> simp))).trans (k2.mono (fun t ht => .inl (by rcases List.mem_cons.1 ht with rfl | ht; simp; simp [ht])))⟩ ⟨by decide, k2⟩
  · intro a w E hC K hK
    obtain ⟨v5, h81, V5⟩ := E.pred 5 _ 81 rfl rfl (by kernel_rfl)
    replace V5 : (fun v w => v = .int .i64 (endV s)) v5 w := V5
    obtain rfl := V5
    obtain ⟨v9, h85, V9⟩ := E.pred 9 _ 85 rfl rfl (by kernel_rfl)
    replace V9 : (fun v w => v = .int .i64 (endV s)) v9 w := V9
    obtain rfl := V9
    refine want_none rfl ?_
    go_simp
    exact hK _ rfl
  · intro a w E hC K hK
    obtain ⟨_, h86, rfl⟩ := E.pred 10 _ 86 rfl rfl (by kernel_rfl)
    refine want_none rfl ?_
    go_simp
    exact hK _ rfl
  intro vs w2 hC hV
  have h9 := hV 11 _ rfl (by simp)
  replace h9 : vs 11 = .bool true := h9
  clear hV
  simp only [putAll, Act.put, List.setIfInBounds_toArray]
  dsimp only [List.set]
  go_wp2
  go_ret
  obtain ⟨⟨S', D1', D2', J4⟩, K4⟩ := hC
  refine ⟨by show Ending.returned (vs 11) = _; rw [h9], S', D1', D2', J4, (KB.of K0 (by simp)).trans (KB.of K4 (by intro t ht; simp only [List.mem_cons] at ht; rcases ht with rfl | rfl | rfl | rfl | ht; omega; omega; omega; omega; exact hbs.2 t ht))⟩
def nxt20 (C : Nat) (s : PSt) (W N : Int) (xs : List UInt8) (hs : List Hdr) : PSt :=
  if W = 0 then putS C s xs else if W = 1 then s else if W = 2 then doneS s N else if W = 3 then endS s else if W = 4 then tailS s hs else if W = 5 then lastS s else ⟨[], true, none⟩
theorem play20_any {b0 : Nat} {w0 : World} {u g gb q h C : Nat} {S D1 D2 : List Nat} {s : PSt} (j : JP b0 w0 u g gb q h C S D1 D2 s s) (W N : Int) (A : Option Addr) (n c : Nat) (xs : List UInt8) (B : Option Addr) (m d : Nat) (hs : List Hdr)
    (hx : Rd w0 A n c xs) (hn : n ≤ 140737488351232) (hxb : 0 < n → ∀ b, b ∈ ob A → b < b0) (hh : Hd w0 B m d hs) (hm : m * 40 ≤ 140737488351232) (hhb : 0 < m → ∀ b, b ∈ ob B → b < b0) :
    Calls Try.prog 96 #[.pointer (some ⟨u, 0, none⟩), .pointer (some ⟨q, 0, none⟩), .agg #[.int .i64 W, .int .i64 N, .slice A n c, .slice B m d]] w0 fun e w' => e = .returned (.bool true) ∧ ∃ S' D1' D2', JP b0 w' u g gb q h C S' D1' D2' (nxt20 C s W N xs hs) (nxt20 C s W N xs hs) ∧ KB b0 w0 w' := by
  by_cases h0 : W = 0
  · subst h0; exact p20put j xs N A n c B m d hx hn hxb
  by_cases h1 : W = 1
  · subst h1; exact p20next j N A n c B m d
  by_cases h2 : W = 2
  · subst h2; exact p20done j N A n c B m d
  by_cases h3 : W = 3
  · subst h3; exact p20end j N A n c B m d
  by_cases h4 : W = 4
  · subst h4; exact p20tail j N A n c B m d hs hh hm hhb
  by_cases h5 : W = 5
  · subst h5; exact p20last j N A n c B m d
  have e : nxt20 C s W N xs hs = ⟨[], true, none⟩ := by simp [nxt20, h0, h1, h2, h3, h4, h5]
  rw [e]
  exact p20cut j W ⟨h0, h1, h2, h3, h4, h5⟩ N A n c B m d
end Go.Proofs.Ytkmcakneceagpaa
