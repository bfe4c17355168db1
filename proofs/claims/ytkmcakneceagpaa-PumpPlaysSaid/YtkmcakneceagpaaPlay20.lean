/- 'play' of layer 20's laws. -/
import Derived.Test.YtkmcakneceagpaaPumpX
set_option linter.unusedVariables false
set_option linter.unusedSimpArgs false
namespace Go.Proofs.Ytkmcakneceagpaa
open Go.RowKit
/-- below b0 all is as it was -/
def KB (b0 : Nat) (w w' : World) : Prop := ∃ T, (∀ t, t ∈ T → b0 ≤ t) ∧ Kp T w w'
theorem KB.refl (b0 : Nat) (w : World) : KB b0 w w := ⟨[], by simp, Kp.refl _ _⟩
theorem KB.trans {b0 : Nat} {a b c : World} (h : KB b0 a b) (k : KB b0 b c) : KB b0 a c := by
  obtain ⟨T, h1, h2⟩ := h
  obtain ⟨U, k1, k2⟩ := k
  exact ⟨T ++ U, fun t ht => (List.mem_append.1 ht).elim (h1 t) (k1 t), (h2.mono (fun s hs => .inl (List.mem_append.2 (.inl hs)))).trans (k2.mono (fun s hs => .inl (List.mem_append.2 (.inr hs))))⟩
theorem KB.of {b0 : Nat} {T : List Nat} {a b : World} (k : Kp T a b) (h : ∀ t, t ∈ T → b0 ≤ t) : KB b0 a b := ⟨T, h, k⟩
theorem KB.heap {b0 : Nat} {a b : World} (h : KB b0 a b) {x : Nat} {o : Obj} (ho : a.heap[x]? = some o) (hx : x < b0) : b.heap[x]? = some o := by
  obtain ⟨T, h1, h2⟩ := h
  exact h2.heap ho (fun hm => by have := h1 x hm; omega)
theorem KB.cell {b0 : Nat} {a b : World} (h : KB b0 a b) {p : Addr} {v : Value} (ho : a.cell? p = some v) (hx : p.block < b0) : b.cell? p = some v := by
  obtain ⟨T, h1, h2⟩ := h
  exact h2.cell ho (fun hm => by have := h1 _ hm; omega)
theorem KB.below {b0 : Nat} {a b : World} (h : KB b0 a b) (hb : b0 = a.heap.size) : Kp [] a b := by
  obtain ⟨T, h1, h2⟩ := h
  exact h2.mono (fun s hs => .inr (by have := h1 s hs; omega))
set_option maxHeartbeats 1000000 in
set_option maxRecDepth 100000 in
theorem p20end {b0 : Nat} {w0 : World} {u g gb q h C : Nat} {S D1 D2 : List Nat} {s : PSt} (j : JP b0 w0 u g gb q h C S D1 D2 s s) (N : Int) (A : Option Addr) (n c : Nat) (B : Option Addr) (m d : Nat) : Calls Try.prog 96 #[.pointer (some ⟨u, 0, none⟩), .pointer (some ⟨q, 0, none⟩), .agg #[.int .i64 3, .int .i64 N, .slice A n c, .slice B m d]] w0 fun e w' => e = .returned (.bool true) ∧ ∃ S' D1' D2', JP b0 w' u g gb q h C S' D1' D2' (endS s) (endS s) ∧ KB b0 w0 w' := by
  have lp := j.pm.lt
  have lr := j.rp.lt
  have hbs := j.base
  have hbz : b0 ≤ w0.heap.size := by omega
  have hself := j.rp.ring.self
  have hjn : ∀ x, w0.heap.size ≤ x → x ∉ u :: g :: gb :: q :: S := by
    intro x hx hm
    simp only [List.mem_cons] at hm
    rcases hm with rfl | rfl | rfl | rfl | hm
    · omega
    · omega
    · omega
    · omega
    · have := lr.2 x hm; omega
  have K0 : Kp [] w0 (w0.alloc (.cells #[.int .i64 3, .int .i64 N, .slice A n c, .slice B m d] 132)) := (Kp.refl _ _).alloc _
  have HB := Lib.hid (hp_new w0 (.cells #[.int .i64 3, .int .i64 N, .slice A n c, .slice B m d] 132) _ rfl)
  have HJ := Lib.hid (j.keep K0 (by simp))
  clear j
  go_enter Try.func96, Try.ntmps96
  go_wp2_with fail
  refine (PmEndA HJ.out.pm).mono ?_
  rintro e w2 ⟨rfl, K2, P2⟩
  obtain ⟨D', hD', J2⟩ := HJ.out.prog K2 (Nw.refl _ _) P2
  have KB2 := (KB.of K0 (b0 := b0) (by simp)).trans (KB.of K2 (by simp; omega))
  have HJ2 := Lib.hid J2
  clear J2 K2 P2
  go_wp2_with fail
  refine (RpEndA HJ2.out.rp).mono ?_
  rintro e w3 ⟨rfl, K3, P3⟩
  obtain ⟨D3, hD3, J3⟩ := HJ2.out.refd K3 (Nw.refl _ _) (Nw.refl _ _) P3
  have KB3 := KB2.trans (KB.of K3 (by intro t ht; rcases List.mem_cons.1 ht with rfl | ht; omega; exact hbs.2 t ht))
  generalize endV s = v
  clear K3 P3 HJ2
  go_wp2
  go_ret
  exact ⟨rfl, S, D', D3, J3, KB3⟩
set_option maxHeartbeats 1000000 in
set_option maxRecDepth 100000 in
theorem p20cut {b0 : Nat} {w0 : World} {u g gb q h C : Nat} {S D1 D2 : List Nat} {s : PSt} (j : JP b0 w0 u g gb q h C S D1 D2 s s) (W : Int) (hW : ¬ W = 0 ∧ ¬ W = 1 ∧ ¬ W = 2 ∧ ¬ W = 3 ∧ ¬ W = 4 ∧ ¬ W = 5) (N : Int) (A : Option Addr) (n c : Nat) (B : Option Addr) (m d : Nat) : Calls Try.prog 96 #[.pointer (some ⟨u, 0, none⟩), .pointer (some ⟨q, 0, none⟩), .agg #[.int .i64 W, .int .i64 N, .slice A n c, .slice B m d]] w0 fun e w' => e = .returned (.bool true) ∧ ∃ S' D1' D2', JP b0 w' u g gb q h C S' D1' D2' ⟨[], true, none⟩ ⟨[], true, none⟩ ∧ KB b0 w0 w' := by
  have lp := j.pm.lt
  have lr := j.rp.lt
  have hbs := j.base
  have hbz : b0 ≤ w0.heap.size := by omega
  have hself := j.rp.ring.self
  have hjn : ∀ x, w0.heap.size ≤ x → x ∉ u :: g :: gb :: q :: S := by
    intro x hx hm
    simp only [List.mem_cons] at hm
    rcases hm with rfl | rfl | rfl | rfl | hm
    · omega
    · omega
    · omega
    · omega
    · have := lr.2 x hm; omega
  have K0 : Kp [] w0 (w0.alloc (.cells #[.int .i64 W, .int .i64 N, .slice A n c, .slice B m d] 132)) := (Kp.refl _ _).alloc _
  have HB := Lib.hid (hp_new w0 (.cells #[.int .i64 W, .int .i64 N, .slice A n c, .slice B m d] 132) _ rfl)
  have HJ := Lib.hid (j.keep K0 (by simp))
  clear j
  go_enter Try.func96, Try.ntmps96
  obtain ⟨W0, W1, W2, W3, W4, W5⟩ := hW
  go_wp2_with fail
  obtain ⟨l, cl, tl⟩ := s
  refine (PmCut HJ.out.pm).mono ?_
  rintro e w2 ⟨rfl, K2, P2⟩
  obtain ⟨D', hD', J2⟩ := HJ.out.prog K2 (Nw.refl _ _) P2
  have KB2 := (KB.of K0 (b0 := b0) (by simp)).trans (KB.of K2 (by simp; omega))
  have HJ2 := Lib.hid J2
  clear J2 K2 P2
  go_wp2_with fail
  refine (RpCut HJ2.out.rp).mono ?_
  rintro e w3 ⟨rfl, K3, P3⟩
  obtain ⟨D3, hD3, J3⟩ := HJ2.out.refd (S' := [h]) (D' := []) (K3.mono (fun t ht => .inl (by simp at ht; rcases ht with rfl | rfl; simp; simp [hself]))) (fun t ht => .inl (by simp at ht; rw [ht]; exact hself)) (fun t ht => by cases ht) P3
  have KB3 := KB2.trans (KB.of K3 (by intro t ht; simp at ht; rcases ht with rfl | rfl; omega; exact hbs.2 _ hself))
  clear K3 P3 HJ2
  go_wp2
  go_ret
  exact ⟨rfl, [h], D', D3, J3, KB3⟩
set_option maxHeartbeats 1000000 in
set_option maxRecDepth 100000 in
theorem p20next {b0 : Nat} {w0 : World} {u g gb q h C : Nat} {S D1 D2 : List Nat} {s : PSt} (j : JP b0 w0 u g gb q h C S D1 D2 s s) (N : Int) (A : Option Addr) (n c : Nat) (B : Option Addr) (m d : Nat) : Calls Try.prog 96 #[.pointer (some ⟨u, 0, none⟩), .pointer (some ⟨q, 0, none⟩), .agg #[.int .i64 1, .int .i64 N, .slice A n c, .slice B m d]] w0 fun e w' => e = .returned (.bool true) ∧ ∃ S' D1' D2', JP b0 w' u g gb q h C S' D1' D2' s s ∧ KB b0 w0 w' := by
  have lp := j.pm.lt
  have lr := j.rp.lt
  have hbs := j.base
  have hbz : b0 ≤ w0.heap.size := by omega
  have hself := j.rp.ring.self
  have hjn : ∀ x, w0.heap.size ≤ x → x ∉ u :: g :: gb :: q :: S := by
    intro x hx hm
    simp only [List.mem_cons] at hm
    rcases hm with rfl | rfl | rfl | rfl | hm
    · omega
    · omega
    · omega
    · omega
    · have := lr.2 x hm; omega
  have K0 : Kp [] w0 (w0.alloc (.cells #[.int .i64 1, .int .i64 N, .slice A n c, .slice B m d] 132)) := (Kp.refl _ _).alloc _
  have HB := Lib.hid (hp_new w0 (.cells #[.int .i64 1, .int .i64 N, .slice A n c, .slice B m d] 132) _ rfl)
  have HJ := Lib.hid (j.keep K0 (by simp))
  clear j
  go_enter Try.func96, Try.ntmps96
  have lw : w0.heap.size < (w0.alloc (.cells #[.int .i64 1, .int .i64 N, .slice A n c, .slice B m d] 132)).heap.size := by simp
  go_wp2_with fail
  refine (PmNextA HJ.out.pm N).mono ?_
  rintro e w2 ⟨A2, k2, c2, rfl, O2, K2⟩
  have HJ2 := Lib.hid (HJ.out.keep K2 (by simp))
  have HB2 := Lib.hid (K2.heap HB.out (by simp))
  have b1 := cell_of HB2.out 1
  have HO2 := Lib.hid O2
  have q2 := K0.trans K2
  clear O2 K2 K0 HB HJ
  go_wp2_with fail
  refine (RpNextA HJ2.out.rp N).mono ?_
  rintro e w3 ⟨A3, k3, c3, rfl, O3, K3⟩
  have HJ3 := Lib.hid (HJ2.out.keep K3 (by simp))
  have HO2' := Lib.hid (HO2.out.keep K3 (by simp))
  have HO3 := Lib.hid O3
  have q3 := Lib.hid (q2.trans K3)
  clear O3 K3 q2 HB2 b1 HO2 HJ2
  go_wp2_with (with_reducible refine stopAt (o := ⟨some 47, _, _, _, _, _⟩) ?_)
  refine Stop.go (wpList_str rfl 22 5 9 _ rfl Try.underlying22 Try.underlying5 Try.underlying9 rfl HO2'.out.rd ?_)
  go_wp2_with (with_reducible refine stopAt (o := ⟨some 49, _, _, _, _, _⟩) ?_)
  refine Stop.go (wpList_str rfl 22 5 9 _ rfl Try.underlying22 Try.underlying5 Try.underlying9 rfl HO3.out.rd ?_)
  generalize nextB s N = v
  generalize sb _ = v2
  go_wp2
  go_ret
  exact ⟨by simp, S, D1, D2, HJ3.out, KB.of q3.out (by simp)⟩
set_option maxHeartbeats 1000000 in
set_option maxRecDepth 100000 in
theorem p20last {b0 : Nat} {w0 : World} {u g gb q h C : Nat} {S D1 D2 : List Nat} {s : PSt} (j : JP b0 w0 u g gb q h C S D1 D2 s s) (N : Int) (A : Option Addr) (n c : Nat) (B : Option Addr) (m d : Nat) : Calls Try.prog 96 #[.pointer (some ⟨u, 0, none⟩), .pointer (some ⟨q, 0, none⟩), .agg #[.int .i64 5, .int .i64 N, .slice A n c, .slice B m d]] w0 fun e w' => e = .returned (.bool true) ∧ ∃ S' D1' D2', JP b0 w' u g gb q h C S' D1' D2' (lastS s) (lastS s) ∧ KB b0 w0 w' := by
  have lp := j.pm.lt
  have lr := j.rp.lt
  have hbs := j.base
  have hbz : b0 ≤ w0.heap.size := by omega
  have hself := j.rp.ring.self
  have hjn : ∀ x, w0.heap.size ≤ x → x ∉ u :: g :: gb :: q :: S := by
    intro x hx hm
    simp only [List.mem_cons] at hm
    rcases hm with rfl | rfl | rfl | rfl | hm
    · omega
    · omega
    · omega
    · omega
    · have := lr.2 x hm; omega
  have K0 : Kp [] w0 (w0.alloc (.cells #[.int .i64 5, .int .i64 N, .slice A n c, .slice B m d] 132)) := (Kp.refl _ _).alloc _
  have HB := Lib.hid (hp_new w0 (.cells #[.int .i64 5, .int .i64 N, .slice A n c, .slice B m d] 132) _ rfl)
  have HJ := Lib.hid (j.keep K0 (by simp))
  clear j
  go_enter Try.func96, Try.ntmps96
  go_wp2_with fail
  refine (PmLastA HJ.out.pm).mono ?_
  rintro e w2 ⟨A2, k2, c2, rfl, H2, hk2, hb2, K2, P2⟩
  obtain ⟨D', hD', J2⟩ := HJ.out.prog K2 (Nw.refl _ _) P2
  have KB2 := (KB.of K0 (b0 := b0) (by simp)).trans (KB.of K2 (by simp; omega))
  have HJ2 := Lib.hid J2
  have HH2 := Lib.hid H2
  have HB2 : Hid (0 < k2 → ∀ b, b ∈ ob A2 → b ∉ q :: S) := fun hp b hb => (HJ.out.d1 b (hb2 hp b hb).2.2.2.2).1
  clear J2 K2 P2 H2 hb2
  go_wp2_with fail
  refine (RpLastA HJ2.out.rp).mono ?_
  rintro e w3 ⟨A3, k3, c3, rfl, H3, hb3, K3, P3⟩
  obtain ⟨D3, hD3, J3⟩ := HJ2.out.refd K3 (Nw.refl _ _) (Nw.refl _ _) P3
  have KB3 := KB2.trans (KB.of K3 (by intro t ht; rcases List.mem_cons.1 ht with rfl | ht; omega; exact hbs.2 t ht))
  have hk3 : k3 = k2 := by rw [← H3.len, ← HH2.out.len]
  subst hk3
  have HJ3 := Lib.hid J3
  have HH3 := Lib.hid H3
  have HH2' := Lib.hid (HH2.out.keep K3 HB2.out)
  have HKB := Lib.hid KB3
  clear K3 P3 HJ2 hb3 J3 H3 KB3 KB2 HH2 HB2
  go_wp2_with fail
  refine (headers_any HH2'.out HH3.out hk2).mono ?_
  rintro e w4 ⟨rfl, K4⟩
  generalize lastB s = v
  have HJ4 := Lib.hid (HJ3.out.keep K4 (by simp))
  have HK4 := Lib.hid K4
  clear K4
  go_wp2
  go_ret
  exact ⟨by simp, S, D', D3, HJ4.out, HKB.out.trans (KB.of HK4.out (by simp))⟩
end Go.Proofs.Ytkmcakneceagpaa
