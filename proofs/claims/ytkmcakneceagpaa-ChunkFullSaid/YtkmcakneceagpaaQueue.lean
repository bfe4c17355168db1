/- The queue of layer 1, as far as it counts; 'ChunkFull'. -/
import Derived.Test.YtkmcakneceagpaaRingR
set_option linter.unusedVariables false
set_option linter.unusedSimpArgs false
namespace Go.Proofs.Ytkmcakneceagpaa
open Go.RowKit
/-- append, as one operation -/
theorem op_app {P : Program} {o : Oper} {a : Act} {w : World} {K : Act → World → Prop} {Q : Exit → Act → World → Prop} (s x : Operand) (t e : TypeId) (z : Value) (size bytes : Nat)
    (ho : o.op = .call { callee := .builtin .append, args := #[s, x], argTypes := #[t, t] })
    (ht : P.underlying t = some (.slice e)) (hi : (P.info? e).map (fun i => (i.zero, i.size, i.bytes)) = some (some z, size, bytes)) (hzs : z.cells.size = size) (hsz : 0 < size)
    (base : Nat) (A : Option Addr) (n c : Nat) (xs : List Value) (hs : a.eval s = .slice A n c) (HO : Ow w base e size A n c xs)
    (A2 : Option Addr) (m c2 : Nat) (ys : List Value) (hx : a.eval x = .slice A2 m c2) (hl : ys.length = m * size) (HR : At w A2 ys) (h1 : ∀ u ∈ ys, u.oneCell' = true)
    (h63 : n + m ≤ maxLen) (hbytes : ((n + m) + (n + m) / 4 + 192) * bytes ≤ 281474976710656) (hbase : base ≤ w.heap.size)
    (h : ∀ A' c' w', Ow w' base e size A' (n + m) c' (xs ++ ys) → Kp (ob A) w w' → (A' = A ∨ A' = some ⟨w.heap.size, 0, none⟩) → K (a.put o.dst (.slice A' (n + m) c')) w') :
    Oper.wp P o a w K Q := by
  obtain ⟨A', c', w', hr, h2, h3, h4, _⟩ := run_app (P := P) w t o.type e z size bytes ht hi hzs hsz base A n c xs HO A2 m c2 ys hl HR h1 h63 hbytes hbase
  unfold Oper.wp execOp
  simp only [ho, resolve, invoke, builtin, Sem.run_bind, Sem.run_pure, Result.andThen_ok, List.map_toArray, List.map_cons, List.map_nil, hs, hx, hr]
  exact h A' c' w' h2 h3 h4
/-- A queue: k chunks, n bytes. -/
structure Qu (w : World) (g : Nat) (S : List Nat) (k : Nat) (n : Nat) : Prop where
  rep : ∃ A c vs, S = g :: ob A ∧ g ∉ ob A ∧ w.heap[g]? = some (.cells #[.int .i64 n, .bool true, .slice A k c] 107) ∧ Ow w 0 22 1 A k c vs
theorem Qu.keep {w w' : World} {g k n : Nat} {S : List Nat} (q : Qu w g S k n) (K : Kp [] w w') : Qu w' g S k n := by
  obtain ⟨A, c, vs, h0, h1, h2, h3⟩ := q.rep
  exact ⟨A, c, vs, h0, h1, K.heap h2 (by simp), h3.keep K (by simp)⟩
theorem Qu.cells {w : World} {g k n : Nat} {S : List Nat} (q : Qu w g S k n) : ∃ A c, w.cell? ⟨g, 0, none⟩ = some (.int .i64 n) ∧ w.cell? ⟨g, 1, none⟩ = some (.bool true) ∧ w.cell? ⟨g, 2, none⟩ = some (.slice A k c) ∧ g < w.heap.size ∧ ∀ j, w.frozen? ⟨g, j, none⟩ = false := by
  obtain ⟨A, c, vs, h0, h1, h2, h3⟩ := q.rep
  exact ⟨A, c, cell_of h2 0, cell_of h2 1, cell_of h2 2, lt_of_heap h2, frozen_of h2⟩
theorem Try.infoSl : (Try.prog.info? 22).map (fun i => (i.zero, i.size, i.bytes)) = some (some (.slice none 0 0), 1, 24) := by kernel_rfl
set_option maxHeartbeats 400000 in
theorem QNew (w : World) : Calls Try.prog 74 #[] w fun e w' => e = .returned (.pointer (some ⟨w.heap.size, 0, none⟩)) ∧ Qu w' w.heap.size [w.heap.size] 0 0 ∧ Kp [] w w' := by
  go_enter Try.func74, Try.ntmps74
  go_wp2
  go_ret
  exact ⟨rfl, ⟨none, 0, [], rfl, by simp [ob], hp_new _ _ _ rfl, Ow.nil _ _ _ _⟩, (Kp.refl [] w).alloc _⟩
set_option maxHeartbeats 400000 in
theorem QChunks {w : World} {g k n : Nat} {S : List Nat} (q : Qu w g S k n) : Calls Try.prog 76 #[.pointer (some ⟨g, 0, none⟩)] w fun e w' => e = .returned (.int .i64 k) ∧ w = w' := by
  obtain ⟨A, c, c0, c1, c2, gl, cz⟩ := q.cells
  go_enter Try.func76, Try.ntmps76
  go_wp2
  go_ret
  exact ⟨rfl, rfl⟩
set_option maxHeartbeats 400000 in
theorem QLen {w : World} {g k n : Nat} {S : List Nat} (q : Qu w g S k n) : Calls Try.prog 77 #[.pointer (some ⟨g, 0, none⟩)] w fun e w' => e = .returned (.int .i64 n) ∧ w = w' := by
  obtain ⟨A, c, c0, c1, c2, gl, cz⟩ := q.cells
  go_enter Try.func77, Try.ntmps77
  go_wp2
  go_ret
  exact ⟨rfl, rfl⟩
set_option maxHeartbeats 400000 in
theorem QAdd_full {w : World} {g n : Nat} {S : List Nat} (q : Qu w g S 4096 n) (A1 : Option Addr) (n1 c1 : Nat) : Calls Try.prog 75 #[.pointer (some ⟨g, 0, none⟩), .slice A1 n1 c1] w fun e w' => e = .returned (.int .i64 9) ∧ w = w' := by
  obtain ⟨A, c, c0, c1, c2, gl, cz⟩ := q.cells
  go_enter Try.func75, Try.ntmps75
  go_wp2
  go_ret
  exact ⟨rfl, rfl⟩
set_option maxHeartbeats 400000 in
theorem QAdd_nil {w : World} {g k n : Nat} {S : List Nat} (q : Qu w g S k n) (hk : k < 4096) : Calls Try.prog 75 #[.pointer (some ⟨g, 0, none⟩), .slice none 0 0] w fun e w' => e = .returned (.int .i64 0) ∧ w = w' := by
  obtain ⟨A, c, c0, c1, c2, gl, cz⟩ := q.cells
  have h1 : ((k : Int) == 4096) = false := by simp; omega
  go_enter Try.func75, Try.ntmps75
  go_wp2
  go_ret
  exact ⟨rfl, rfl⟩
set_option maxHeartbeats 1000000 in
set_option maxRecDepth 100000 in
theorem QAdd_one {w1 : World} {g k n : Nat} {S : List Nat} (q : Qu w1 g S k n) (hk : k < 4096) (hn : n ≤ 4096) (A1 : Option Addr) (n1 c1 : Nat) (l : List UInt8) (hr : Rd w1 A1 n1 c1 l) (hn1 : 0 < n1) (hn2 : n1 ≤ 4096) :
    Calls Try.prog 75 #[.pointer (some ⟨g, 0, none⟩), .slice A1 n1 c1] w1 fun e w' => e = .returned (.int .i64 0) ∧ ∃ S', Nw S S' w1 ∧ Qu w' g S' (k + 1) (n + n1) ∧ Kp S w1 w' := by
  obtain ⟨A, c, vs0, rfl, h1, h2, h3⟩ := q.rep
  have c0 : w1.cell? ⟨g, 0, none⟩ = some (.int .i64 n) := cell_of h2 0
  have cc1 : w1.cell? ⟨g, 1, none⟩ = some (.bool true) := cell_of h2 1
  have c2 : w1.cell? ⟨g, 2, none⟩ = some (.slice A k c) := cell_of h2 2
  have hnA : ∀ b, b ∈ ob A → b < w1.heap.size := fun b hb => (h3.base b hb).2
  have gl := lt_of_heap h2
  have H2 := Lib.hid h2
  have H3 := Lib.hid h3
  have HR := Lib.hid hr
  have hk1 : ((k : Int) == 4096) = false := by simp; omega
  clear h2 h3 q hr
  go_enter Try.func75, Try.ntmps75
  go_wp2
  refine wp_region_lists (by kernel_rfl) [fun v _ => v = (.pointer (some ⟨g, 0, none⟩)),
      fun v _ => v = (.pointer (some ⟨g, 0, none⟩)),
      fun v _ => v = (.pointer (some ⟨g, 0, none⟩)),
      fun v _ => v = (.pointer (some ⟨g, 2, none⟩)),
      fun v w => v = .slice A k c ∨ ∃ A' c', w.heap[g]? = some (.cells #[.int .i64 n, .bool true, .slice A' (k + 1) c'] 107),
      fun v _ => v = (.slice A1 n1 c1),
      fun v w => ∃ A' c', v = .slice A' n1 c',
      fun v w => ∃ x A' c', v = .slice (some ⟨x, 0, none⟩) 1 1 ∧ w.heap[x]? = some (.cells #[.slice A' n1 c'] 22) ∧ w1.heap.size ≤ x,
      fun v w => ∃ A' c' vs, v = .slice A' (k + 1) c' ∧ Ow w 0 22 1 A' (k + 1) c' vs ∧ (g ∉ ob A' ∧ ∀ b, b ∈ ob A' → b ∈ ob A ∨ w1.heap.size ≤ b),
      fun v _ => v = (.pointer (some ⟨g, 0, none⟩)),
      fun v _ => v = (.pointer (some ⟨g, 2, none⟩)),
      fun v _ => True] (fun j w => match j with | 0 | 1 | 2 => Kp [] w1 w ∧ w.heap[g]? = some (.cells #[.int .i64 n, .bool true, .slice A k c] 107) | 3 => Kp (ob A) w1 w ∧ w.heap[g]? = some (.cells #[.int .i64 n, .bool true, .slice A k c] 107) | _ => Kp (g :: ob A) w1 w ∧ ∃ A' c' vs, (g ∉ ob A' ∧ ∀ b, b ∈ ob A' → b ∈ ob A ∨ w1.heap.size ≤ b) ∧ w.heap[g]? = some (.cells #[.int .i64 n, .bool true, .slice A' (k + 1) c'] 107) ∧ Ow w 0 22 1 A' (k + 1) c' vs) (fun j w w' => match j with | 0 => Kp [] w w' | 1 => Kp [] w w' | 2 => Kp (ob A) w w' | _ => Kp [g] w w' ∧ ∃ A' c', w'.heap[g]? = some (.cells #[.int .i64 n, .bool true, .slice A' (k + 1) c'] 107)) [6, 7, 8, 11] (by kernel_rfl) (by kernel_rfl) (by kernel_rfl) (by decide) (by kernel_rfl) ⟨StabsAt.const _, StabsAt.const _, StabsAt.const _, StabsAt.const _, (by intro j v w w' hk hne hR hv; rcases hv with e | ⟨A', c', hd⟩; exact .inl e; rcases j with _ | _ | _ | _ | j; (exact .inr ⟨A', c', Kp.heap (S := []) hR hd (by simp)⟩); (exact .inr ⟨A', c', Kp.heap (S := []) hR hd (by simp)⟩); (exact .inr ⟨A', c', Kp.heap (S := ob A) hR hd h1⟩); (exact .inr hR.2); (exact absurd hk (by simp))), StabsAt.const _, (by intro k v w w' hk hne hR hv; exact hv), (by intro k v w w' hk hne hR hv; obtain ⟨x, A'', c'', e, hx, hxl⟩ := hv; rcases k with _ | _ | _ | _ | k; (exact ⟨x, A'', c'', e, Kp.heap (S := []) hR hx (by simp), hxl⟩); (exact absurd rfl hne); (exact ⟨x, A'', c'', e, Kp.heap (S := ob A) hR hx (fun hb => by have := hnA _ hb; omega), hxl⟩); (exact ⟨x, A'', c'', e, Kp.heap (S := [g]) hR.1 hx (by simp; omega), hxl⟩); (exact absurd hk (by simp))), (by intro k v w w' hk hne hR hv; obtain ⟨A3, c3, vs3, e, O3, hg3⟩ := hv; rcases k with _ | _ | _ | _ | k; (exact ⟨A3, c3, vs3, e, O3.keep (S := []) hR (by simp), hg3⟩); (exact ⟨A3, c3, vs3, e, O3.keep (S := []) hR (by simp), hg3⟩); (exact absurd rfl hne); (exact ⟨A3, c3, vs3, e, O3.keep (S := [g]) hR.1 (by intro b hb hs; simp at hs; subst hs; exact hg3.1 hb), hg3⟩); (exact absurd hk (by simp))), StabsAt.const _, StabsAt.const _, StabsAt.const _, trivial⟩ (⟨(Kp.refl [] w1).drew, H2.out⟩) ⟨?_, ?_, ?_, ?_, ?_, ?_, ?_, ?_, ?_, ?_, ?_, ?_, trivial⟩ (by kernel_rfl) ?_
  · intro a w E hC K hK
    have h0 : a.tmps[0]? = some (.pointer (some ⟨g, 0, none⟩)) := (E.out 0 (by kernel_rfl)).trans rfl
    refine want_none rfl ?_
    go_simp
    exact hK _ rfl
  · intro a w E hC K hK
    have h0 : a.tmps[0]? = some (.pointer (some ⟨g, 0, none⟩)) := (E.out 0 (by kernel_rfl)).trans rfl
    refine want_none rfl ?_
    go_simp
    exact hK _ rfl
  · intro a w E hC K hK
    obtain ⟨_, h20, rfl⟩ := E.pred 1 _ 20 rfl rfl (by kernel_rfl)
    refine want_none rfl ?_
    go_simp
    exact hK _ rfl
  · intro a w E hC K hK
    obtain ⟨_, h21, rfl⟩ := E.pred 2 _ 21 rfl rfl (by kernel_rfl)
    refine want_none rfl ?_
    go_simp
    exact hK _ rfl
  · intro a w E hC K hK
    obtain ⟨_, h22, rfl⟩ := E.pred 3 _ 22 rfl rfl (by kernel_rfl)
    refine want_none rfl ?_
    obtain ⟨j, hj⟩ := hC
    rcases j with _ | _ | _ | _ | j
    · have q2 := cell_of hj.2 2
      go_simp
      exact hK _ (.inl rfl)
    · have q2 := cell_of hj.2 2
      go_simp
      exact hK _ (.inl rfl)
    · have q2 := cell_of hj.2 2
      go_simp
      exact hK _ (.inl rfl)
    · have q2 := cell_of hj.2 2
      go_simp
      exact hK _ (.inl rfl)
    · obtain ⟨_, A', c', _, _, hd, _⟩ := hj
      have q2 := cell_of hd 2
      go_simp
      exact hK _ (.inr ⟨A', c', hd⟩)
  · intro a w E hC K hK
    have h1 : a.tmps[1]? = some (.slice A1 n1 c1) := (E.out 1 (by kernel_rfl)).trans rfl
    refine want_none rfl ?_
    go_simp
    exact hK _ rfl
  · intro a w E hC K hK
    obtain ⟨_, h24, rfl⟩ := E.pred 5 _ 24 rfl rfl (by kernel_rfl)
    refine want_none rfl ?_
    obtain ⟨hK0, hg0⟩ := hC
    refine op_appB (.const (.slice none 0 0)) (.tmp 24) 22 5 rfl Try.underlying22 Try.info5 0 none 0 0 [] rfl (Ow.nil _ _ _ _) A1 n1 c1 l (eval_tmp h24) (HR.out.keep hK0 (by simp)) (by omega) (by omega) ?_
    intro A' c' w2 O2 K2 hA'
    exact hK _ _ ⟨A', c', by simp⟩ ⟨hK0.trans K2, K2.heap hg0 (by simp [ob])⟩ ⟨by decide, K2⟩
  · intro a w E hC K hK
    obtain ⟨v6, h25, V6⟩ := E.pred 6 _ 25 rfl rfl (by kernel_rfl)
    replace V6 : (fun v w => ∃ A' c', v = .slice A' n1 c') v6 w := V6
    obtain ⟨A', c', rfl⟩ := V6
    refine want_none rfl ?_
    obtain ⟨hK0, hg0⟩ := hC
    go_simp
    exact hK _ _ ⟨w.heap.size, A', c', rfl, hp_new _ _ _ rfl, hK0.size⟩ ⟨hK0.alloc _, (hp_old _ _ _ (lt_of_heap hg0)).trans hg0⟩ ⟨by decide, (Kp.refl [] _).alloc _⟩
  · intro a w E hC K hK
    obtain ⟨v4, h23, V4⟩ := E.pred 4 _ 23 rfl rfl (by kernel_rfl)
    replace V4 : (fun v w => v = .slice A k c ∨ ∃ A' c', w.heap[g]? = some (.cells #[.int .i64 n, .bool true, .slice A' (k + 1) c'] 107)) v4 w := V4
    have d4 := V4
    obtain ⟨v7, h26, V7⟩ := E.pred 7 _ 26 rfl rfl (by kernel_rfl)
    replace V7 : (fun v w => ∃ x A' c', v = .slice (some ⟨x, 0, none⟩) 1 1 ∧ w.heap[x]? = some (.cells #[.slice A' n1 c'] 22) ∧ w1.heap.size ≤ x) v7 w := V7
    obtain ⟨x, A'', c'', rfl, hx, hxl⟩ := V7
    refine want_none rfl ?_
    obtain ⟨hK0, hg0⟩ := hC
    obtain rfl : v4 = .slice A k c := by rcases d4 with e | ⟨A4, c4, hd⟩; exact e; exact absurd (hg0.symm.trans hd) (by simp)
    refine op_app (.tmp 23) (.tmp 26) 86 22 (.slice none 0 0) 1 24 rfl Try.underlying86 Try.infoSl rfl (by omega) 0 A k c vs0 (eval_tmp h23) (H3.out.keep hK0 (by simp)) (some ⟨x, 0, none⟩) 1 1 [.slice A'' n1 c''] (eval_tmp h26) rfl (At.block hx 0 _ rfl) (by simp; rfl) (by simp only [maxLen]; omega) (by omega) (by omega) ?_
    intro A3 c3 w2 O3 K2 hA3
    exact hK _ _ ⟨A3, c3, _, rfl, O3, ⟨by rcases hA3 with rfl | rfl; exact h1; have := lt_of_heap hg0; simp [ob]; omega, by intro b hb; rcases hA3 with rfl | rfl; exact .inl hb; simp [ob] at hb; subst hb; exact .inr hK0.size⟩⟩ ⟨(hK0.mono (fun s hs => by cases hs)).trans K2, K2.heap hg0 h1⟩ ⟨by decide, K2⟩
  · intro a w E hC K hK
    obtain ⟨_, h19, rfl⟩ := E.pred 0 _ 19 rfl rfl (by kernel_rfl)
    refine want_none rfl ?_
    go_simp
    exact hK _ rfl
  · intro a w E hC K hK
    obtain ⟨_, h28, rfl⟩ := E.pred 9 _ 28 rfl rfl (by kernel_rfl)
    refine want_none rfl ?_
    go_simp
    exact hK _ rfl
  · intro a w E hC K hK
    obtain ⟨_, h29, rfl⟩ := E.pred 10 _ 29 rfl rfl (by kernel_rfl)
    obtain ⟨v8, h27, V8⟩ := E.pred 8 _ 27 rfl rfl (by kernel_rfl)
    replace V8 : (fun v w => ∃ A' c' vs, v = .slice A' (k + 1) c' ∧ Ow w 0 22 1 A' (k + 1) c' vs ∧ (g ∉ ob A' ∧ ∀ b, b ∈ ob A' → b ∈ ob A ∨ w1.heap.size ≤ b)) v8 w := V8
    obtain ⟨A3, c3, vs3, rfl, O3, hg3⟩ := V8
    refine want_none rfl ?_
    obtain ⟨hK0, hg0⟩ := hC
    have q2 := cell_of hg0 2
    have qz := frozen_of hg0
    go_simp
    exact hK undef _ trivial ⟨(hK0.mono (T := g :: ob A) (fun s hs => .inl (List.mem_cons_of_mem _ hs))).setCell (.inl (by simp)) _, A3, c3, vs3, hg3, hp_set w g 2 _ _ _ hg0, O3.keep ((Kp.refl [g] _).setCell (.inl (by simp)) _) (by intro b hb hs; simp at hs; subst hs; exact hg3.1 hb)⟩ ⟨by decide, (Kp.refl [g] _).setCell (.inl (by simp)) _, A3, c3, hp_set w g 2 _ _ _ hg0⟩
  intro vs w3 hC3 hV
  obtain ⟨K3, A3, c3, vs3, hg3, H4, O3⟩ := hC3
  clear hV
  have q0 : w3.cell? ⟨g, 0, none⟩ = some (.int .i64 n) := cell_of H4 0
  have qz := frozen_of H4
  have HH4 := Lib.hid H4
  clear c0 cc1 c2 H4
  simp only [putAll, Act.put, List.setIfInBounds_toArray]
  dsimp only [List.set]
  go_wp2
  go_ret
  have hv : (.int .i64 ((n : Int) + n1) : Value) = .int .i64 ((n + n1 : Nat) : Int) := by simp
  refine ⟨rfl, g :: ob A3, ?_, ⟨A3, c3, vs3, rfl, hg3.1, ?_, O3.keep ((Kp.refl [g] _).setCell (.inl (by simp)) _) (by intro b hb hs; simp at hs; subst hs; exact hg3.1 hb)⟩, K3.setCell (.inl (by simp)) _⟩
  · intro t ht
    rcases List.mem_cons.1 ht with rfl | ht
    · exact .inl (by simp)
    · exact (hg3.2 t ht).imp (fun h => by simp [h]) id
  · rw [hv]
    exact hp_set w3 g 0 _ _ _ HH4.out
set_option maxHeartbeats 2000000 in
set_option maxRecDepth 100000 in
theorem ChunkFull_walk (n : Nat) (hn : n < 65536) (w0 : World) : Calls Try.prog 14 #[.int .u16 n] w0 (Yes w0) := by
  obtain ⟨M, hM⟩ : ∃ M, n % 5000 = M := ⟨_, rfl⟩
  have hMl : M < 5000 := by omega
  have h1 : (n : Int) % 5000 = (M : Int) := by omega
  have h2 : (n : Int).tmod 5000 = (M : Int) := by rw [Int.tmod_eq_emod_of_nonneg (by omega)]; omega
  clear hM
  go_enter Try.func14, Try.ntmps14
  go_wp2_with fail
  refine (QNew w0).mono ?_
  rintro e w1 ⟨rfl, Q1, K1⟩
  have HQ1 := Lib.hid Q1
  have HK1 := Lib.hid K1
  clear Q1 K1
  go_wp2
  go_loopw [5] (fun i wr => ∃ (k : Nat) (S : List Nat), k ≤ M ∧ i = .int .i64 k ∧ Qu wr w0.heap.size S (min k 4096) (min k 4096) ∧ (∀ s, s ∈ S → w0.heap.size ≤ s) ∧ Kp [] w0 wr) (fun i _ => M - (intOf i).toNat)
  case atStart => exact ⟨0, _, Nat.zero_le _, rfl, HQ1.out, by simp, HK1.out⟩
  case round =>
    obtain ⟨k, S, hk, rfl, hQ, hS, hK⟩ := hrel
    by_cases hkl : k < M
    · by_cases hk4 : k < 4096
      · have e4 : min k 4096 = k := by omega
        rw [e4] at hQ
        have HQ := Lib.hid (hQ.keep ((Kp.refl [] wr).alloc (.cells #[.int .u8 ((k : Int) % 256)] 5)))
        have HS := Lib.hid hS
        have HK := Lib.hid hK
        have HB := Lib.hid (hp_new wr (.cells #[.int .u8 ((k : Int) % 256)] 5) _ rfl)
        have hv : (#[.int .u8 ((k : Int) % 256)] : Array Value).toList.take 1 = [UInt8.ofNat k].map u8 := by simp [u8]
        have HV := Lib.hid hv
        clear hQ hS hK e4 hv
        go_wp2_with fail
        refine (QAdd_one HQ.out hk4 (by omega) (some ⟨wr.heap.size, 0, none⟩) 1 1 [UInt8.ofNat k] (Rd.block HB.out 0 1 1 _ rfl (by omega) HV.out) (by omega) (by omega)).mono ?_
        rintro e w2 ⟨rfl, S', hS', Q2, K2⟩
        have hQ2 : Hid (Qu w2 w0.heap.size S' (min (k + 1) 4096) (min (k + 1) 4096)) := by
          have e : min (k + 1) 4096 = k + 1 := by omega
          rw [e]
          exact Q2
        have hS2 : Hid (∀ s, s ∈ S' → w0.heap.size ≤ s) := fun s hs => (hS' s hs).elim (HS.out s) (fun h => by have := HK.out.size; simp at h; omega)
        have hK2 : Hid (Kp [] w0 w2) := (HK.out.alloc _).then K2 (fun t ht => .inr (HS.out t ht))
        clear Q2 hS' K2 HB HQ
        go_wp2
        go_roundw
        case rel => exact ⟨k + 1, S', by omega, by go_num, hQ2.out, hS2.out, hK2.out⟩
        case measure => simp [intOf]; omega
      · have e4 : min k 4096 = 4096 := by omega
        rw [e4] at hQ
        have HQ := Lib.hid (hQ.keep ((Kp.refl [] wr).alloc (.cells #[.int .u8 ((k : Int) % 256)] 5)))
        have HS := Lib.hid hS
        have HK := Lib.hid hK
        clear hQ hS hK e4
        go_wp2_with fail
        refine (QAdd_full HQ.out _ _ _).mono ?_
        rintro e w2 ⟨rfl, rfl⟩
        have hQ2 : Hid (Qu (wr.alloc (.cells #[.int .u8 ((k : Int) % 256)] 5)) w0.heap.size S (min (k + 1) 4096) (min (k + 1) 4096)) := by
          have e : min (k + 1) 4096 = 4096 := by omega
          rw [e]
          exact HQ.out
        clear HQ
        go_wp2
        go_roundw
        case rel => exact ⟨k + 1, S, by omega, by go_num, hQ2.out, HS.out, HK.out.alloc _⟩
        case measure => simp [intOf]; omega
    · obtain rfl : k = M := by omega
      have HQ := Lib.hid hQ
      have HK := Lib.hid hK
      clear hQ hS hK
      obtain ⟨v, hv⟩ : ∃ v, (if (4096 : Int) < (k : Int) then (4096 : Int) else (k : Int)) = v := ⟨_, rfl⟩
      go_wp2_with fail
      refine (QChunks HQ.out).mono ?_
      rintro e w2 ⟨rfl, rfl⟩
      by_cases hk4 : k < 4096
      · have e4 : min k 4096 = k := by omega
        have HQ' : Hid (Qu wr w0.heap.size S k k) := by have := HQ.out; rwa [e4] at this
        rw [e4]
        clear e4 HQ hv
        have hk5 : ¬ (4096 : Int) < (k : Int) := by omega
        go_wp2_with fail
        refine (QAdd_nil HQ'.out hk4).mono ?_
        rintro e w2 ⟨rfl, rfl⟩
        go_wp2_with fail
        refine (QLen HQ'.out).mono ?_
        rintro e w2 ⟨rfl, rfl⟩
        go_wp2_with fail
        refine (awake01 _).mono ?_
        rintro e w2 ⟨rfl, K2⟩
        go_wp2
        go_ret
        exact ⟨rfl, HK.out.trans K2⟩
      · by_cases hk5 : (4096 : Int) < (k : Int)
        · have hk6 : decide ((k : Int) < 4096) = false := by simp; omega
          have e4 : min k 4096 = 4096 := by omega
          have HQ' : Hid (Qu wr w0.heap.size S 4096 4096) := by have := HQ.out; rwa [e4] at this
          rw [e4]
          clear e4 HQ hv
          go_wp2_with fail
          refine (QAdd_full HQ'.out _ _ _).mono ?_
          rintro e w2 ⟨rfl, rfl⟩
          go_wp2_with fail
          refine (QLen HQ'.out).mono ?_
          rintro e w2 ⟨rfl, rfl⟩
          go_wp2_with fail
          refine (awake01 _).mono ?_
          rintro e w2 ⟨rfl, K2⟩
          go_wp2
          go_ret
          exact ⟨rfl, HK.out.trans K2⟩
        · obtain rfl : k = 4096 := by omega
          have e4 : min 4096 4096 = 4096 := rfl
          have HQ' : Hid (Qu wr w0.heap.size S 4096 4096) := by have := HQ.out; rwa [e4] at this
          rw [e4]
          clear e4 HQ hv
          go_wp2_with fail
          refine (QAdd_full HQ'.out _ _ _).mono ?_
          rintro e w2 ⟨rfl, rfl⟩
          go_wp2_with fail
          refine (QLen HQ'.out).mono ?_
          rintro e w2 ⟨rfl, rfl⟩
          go_wp2_with fail
          refine (awake01 _).mono ?_
          rintro e w2 ⟨rfl, K2⟩
          go_wp2
          go_ret
          exact ⟨rfl, HK.out.trans K2⟩
end Go.Proofs.Ytkmcakneceagpaa
