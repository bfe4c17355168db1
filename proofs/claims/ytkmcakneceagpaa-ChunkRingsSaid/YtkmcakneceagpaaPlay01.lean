/- 'play' of layer 1's laws. -/
import Derived.Test.YtkmcakneceagpaaRingR
set_option linter.unusedVariables false
set_option linter.unusedSimpArgs false
namespace Go.Proofs.Ytkmcakneceagpaa
open Go.RowKit
theorem Ow.emptyAt (w : World) (x base : Nat) (e : TypeId) (size : Nat) (hx : x = w.heap.size) (hb : base ≤ x) : Ow (w.alloc (.cells #[] e)) base e size (some ⟨x, 0, none⟩) 0 0 [] := by
  subst hx
  exact Ow.empty w base e size hb
theorem Ow.set {w : World} {base : Nat} {e : TypeId} {g n c : Nat} {ys : List UInt8} (h : Ow w base e 1 (some ⟨g, 0, none⟩) n c (ys.map u8)) (k : Nat) (hk : k < n) (v : UInt8) : Ow (w.setCell ⟨g, k, none⟩ (u8 v)) base e 1 (some ⟨g, 0, none⟩) n c ((ys.set k v).map u8) := by
  have hl := h.len
  refine ⟨by simpa using hl, ?_⟩
  rcases h.2 with ⟨he, _⟩ | ⟨g', cap, cur, he, hb, hg, h1, h2, h3, h4⟩
  · cases he
  · injection he with e1 _ e3
    injection e1 with e1
    injection e1 with e1
    subst e1 e3
    refine .inr ⟨g, c, cur.setIfInBounds k (u8 v), rfl, hb, hp_set w g k (u8 v) cur e hg, h1, h2, by simpa using h3, ?_⟩
    rw [List.map_set, ← h4]
    simp only [Array.toList_setIfInBounds, List.take_set]
theorem Ow.some {w : World} {base : Nat} {e : TypeId} {A : Option Addr} {n c : Nat} {ys : List UInt8} (h : Ow w base e 1 A n c (ys.map u8)) (hn : 0 < n) : ∃ g, A = some ⟨g, 0, none⟩ ∧ base ≤ g ∧ g < w.heap.size ∧ ys.length = n ∧ (∀ j, w.frozen? ⟨g, j, none⟩ = false) ∧ ∀ k, k < n → w.cell? ⟨g, k, none⟩ = some (.int .u8 ((ys.getD k 0).toNat : Int)) := by
  have hl : ys.length = n := by have := h.len; simpa using this
  rcases h.2 with ⟨he, h0⟩ | ⟨g, cap, cur, he, hb, hg, h1, h2, h3, h4⟩
  · omega
  · injection he with e1 _ e3
    subst e1 e3
    refine ⟨g, rfl, hb, lt_of_heap hg, hl, frozen_of hg, fun k hk => ?_⟩
    rw [cell_of hg, ← Array.getElem?_toList]
    have h5 : (cur.toList.take (n * 1))[k]? = cur.toList[k]? := by rw [List.getElem?_take, if_pos (by omega)]
    rw [← h5, h4]
    simp [u8, List.getD_eq_getElem?_getD, List.getElem?_eq_getElem (show k < ys.length by omega)]
set_option maxHeartbeats 1000000 in
set_option maxRecDepth 100000 in
theorem play0 {w : World} {g gb C p h : Nat} {l : List UInt8} {S : List Nat} (N : Int) (A : Option Addr) (n c : Nat) (xs : List UInt8) (r : Rg w g gb C p l) (f : Rf w h S C l) (hs : g ∉ S ∧ gb ∉ S) (hx : Rd w A n c xs) (hn : n ≤ 140737488355328) (hlt : 0 < n → ∀ b, b ∈ ob A → b ≠ g ∧ b ≠ gb) :
    Calls Try.prog 66 #[.pointer (some ⟨g, 0, none⟩), .pointer (some ⟨h, 0, none⟩), .agg #[.int .i64 0, .int .i64 N, .slice A n c]] w fun e w' => e = .returned (.bool true) ∧
      ∃ p' S', Rg w' g gb C p' (l ++ xs.take (min n (C - l.length))) ∧ Rf w' h S' C (l ++ xs.take (min n (C - l.length))) ∧ Nw S S' w ∧ Kp (g :: gb :: S) w w' := by
  obtain ⟨lt1, lt2⟩ := r.lt
  have lt3 := f.lt
  have HR := Lib.hid r
  have HF := Lib.hid f
  have HX := Lib.hid hx
  clear r f hx
  go_enter Try.func66, Try.ntmps66
  go_wp2_with (with_reducible refine stopAt (o := ⟨some 20, _, _, _, _, _⟩) ?_)
  have K0 : Kp [] w ((w.alloc (.cells #[.int .i64 0, .int .i64 N, .slice A n c] 82)).alloc (.cells #[] 5)) := ((Kp.refl _ _).alloc _).alloc _
  refine Stop.go (wp_appB rfl _ _ 22 5 rfl Try.underlying22 Try.info5 (w.heap.size + 1) _ 0 0 [] rfl (Ow.emptyAt (w.alloc _) (w.heap.size + 1) (w.heap.size + 1) 5 1 (by simp) (Nat.le_refl _)) A n c xs rfl (HX.out.keep K0 (by simp)) (by omega) (by simp) ?_)
  intro A1 k1 c1 l1 w1 hk1 hl1 O1 K1 hA1
  obtain rfl : k1 = n := by have := hk1.out; omega
  have e := hl1.out
  simp only [List.nil_append] at e
  subst e
  have q1 : Kp [] w w1 := K0.then K1 (by simp [ob])
  have HB1 := Lib.hid (K1.heap (g := w.heap.size) (o := .cells #[.int .i64 0, .int .i64 N, .slice A k1 c] 82) ((hp_old _ _ _ (by simp)).trans (hp_new _ _ _ rfl)) (by simp [ob]))
  have bl1 := lt_of_heap HB1.out
  have ob1 := O1.base
  have R1 := HR.out.keep q1 (by simp) (by simp)
  have F1 := HF.out.keep q1 (by simp)
  have HO1 := Lib.hid O1
  clear K0 K1 hk1 hl1 hA1 O1
  go_wp2_with fail
  refine (RgPut R1 A1 k1 c1 l1 HO1.out.rd hn (by intro _ b hb; have := (ob1 b hb).1; omega)).mono ?_
  rintro e w2 ⟨rfl, K2, R2⟩
  have hSn : ∀ s, s ∈ S → s ∉ [g, gb] := by intro s hs1 hs2; simp at hs2; rcases hs2 with rfl | rfl; exact hs.1 hs1; exact hs.2 hs1
  have F2 := F1.keep K2 hSn
  have O2 := HO1.out.keep K2 (by intro b hb hs2; have := (ob1 b hb).1; simp at hs2; omega)
  have HB2 := Lib.hid (K2.heap HB1.out (by simp; omega))
  have q2 : Kp [g, gb] w w2 := (q1.mono (fun s hs => by cases hs)).trans K2
  have HX2 := Lib.hid (HX.out.keep q2 (by intro hp b hb hs2; have := hlt hp b hb; simp at hs2; omega))
  have HR2 := Lib.hid R2
  have HF2 := Lib.hid F2
  have HO2 := Lib.hid O2
  clear K2 R1 F1 R2 F2 O2 HO1 HB1 q1
  go_wp2
  go_loopw [9] (fun i wr => ∃ (k : Nat) (ys : List UInt8), k ≤ k1 ∧ i = .int .i64 k ∧ Ow wr (w.heap.size + 1) 5 1 A1 k1 c1 (ys.map u8) ∧ Kp (ob A1) w2 wr) (fun i _ => k1 - (intOf i).toNat)
  case atStart => exact ⟨0, l1, Nat.zero_le _, rfl, HO2.out, Kp.refl _ _⟩
  case round =>
    obtain ⟨k, ys, hk, rfl, hO, hK⟩ := hrel
    by_cases hkl : k < k1
    · obtain ⟨g1, rfl, hg1, hg2, hyl, hgz, hgc⟩ := hO.some (by omega)
      have hgk := hgc k hkl
      have hgzk := hgz k
      have HOw := Lib.hid hO
      have HKw := Lib.hid hK
      clear hO hK hgc hgz
      have hyb := (ys.getD k 0).toNat_lt
      generalize hyv : (ys.getD k 0).toNat = y at *
      clear hyv
      have hki : (k : Int) < (k1 : Int) := by omega
      go_wp2
      go_roundw
      case rel =>
        have hv : (Value.int .u8 (((y : Int) + 1) % 256)) = u8 (UInt8.ofNat (y + 1)) := by simp [u8]
        rw [hv]
        exact ⟨k + 1, _, by omega, by go_num, HOw.out.set k hkl _, HKw.out.setCell (.inl (by simp [ob])) _⟩
      case measure => simp [intOf]; omega
    · have hbA := HO2.out.base
      have HB3 := hK.heap HB2.out (fun hb => by have := (hbA _ hb).1; omega)
      have c2 : wr.cell? ⟨w.heap.size, 2, none⟩ = some (.slice A k1 c) := cell_of HB3 2
      have R3 := Lib.hid (HR2.out.keep hK (fun hb => by have := (hbA _ hb).1; omega) (fun hb => by have := (hbA _ hb).1; omega))
      have F3 := HF2.out.keep hK (fun s hs1 hb => by have := (hbA _ hb).1; have := lt3 s hs1; omega)
      have X3 := HX2.out.keep hK (fun hp b hb hb2 => by have h1 := (hbA _ hb2).1; obtain ⟨b', off, hA, hl, _⟩ := HX.out.addr hp; subst hA; simp [ob] at hb; omega)
      have q3 : Kp [g, gb] w wr := q2.then hK (fun t ht => .inr (by have := (hbA t ht).1; omega))
      have z3 := q3.size
      clear HB3 hK hO hbA
      go_wp2_with fail
      refine (RfPut F3 A k1 c l1 X3 hn).mono ?_
      rintro e w4 ⟨rfl, K4, S', hS', F4⟩
      go_wp2
      go_ret
      exact ⟨rfl, p, S', R3.out.keep K4 hs.1 hs.2, F4, fun s hs1 => (hS' s hs1).imp id (fun h => by omega),
        (q3.mono (fun s hs1 => .inl (by simp at hs1 ⊢; rcases hs1 with rfl | rfl <;> simp))).trans (K4.mono (fun s hs1 => .inl (by simp [hs1])))⟩
set_option maxHeartbeats 1000000 in
set_option maxRecDepth 100000 in
theorem play1 {w0 : World} {g gb C p h : Nat} {l : List UInt8} {S : List Nat} (N : Int) (A : Option Addr) (n c : Nat) (r : Rg w0 g gb C p l) (f : Rf w0 h S C l) (hs : g ∉ S ∧ gb ∉ S) :
    Calls Try.prog 66 #[.pointer (some ⟨g, 0, none⟩), .pointer (some ⟨h, 0, none⟩), .agg #[.int .i64 1, .int .i64 N, .slice A n c]] w0 fun e w' => e = .returned (.bool true) ∧
      ∃ p' S', Rg w' g gb C p' (l.drop (mostN N l.length)) ∧ Rf w' h S' C (l.drop (mostN N l.length)) ∧ Nw S S' w0 ∧ Kp (g :: gb :: S) w0 w' := by
  obtain ⟨lt1, lt2⟩ := r.lt
  have lt3 := f.lt
  have HR := Lib.hid r
  have HF := Lib.hid f
  clear r f
  go_enter Try.func66, Try.ntmps66
  go_wp2
  have K0 : Kp [] w0 (w0.alloc (.cells #[.int .i64 1, .int .i64 N, .slice A n c] 82)) := (Kp.refl _ _).alloc _
  have HB := Lib.hid (hp_new w0 (.cells #[.int .i64 1, .int .i64 N, .slice A n c] 82) _ rfl)
  have HR1 := Lib.hid (HR.out.keep K0 (by simp) (by simp))
  have HF1 := Lib.hid (HF.out.keep K0 (by simp))
  generalize hW : w0.alloc (.cells #[.int .i64 1, .int .i64 N, .slice A n c] 82) = w1 at *
  clear hW
  have hB := lt_of_heap HB.out
  have CQ : ∀ v, (∃ k, (match (motive := Nat → Prop) k with | 0 => v = w1.drew | 1 => (∃ p', Rg v g gb C p' (l.drop (mostN N l.length))) ∧ Rf v h S C l ∧ Kp [g] w1 v | _ => (∃ p', Rg v g gb C p' (l.drop (mostN N l.length))) ∧ (∃ S', Nw S S' w1 ∧ Rf v h S' C (l.drop (mostN N l.length))) ∧ Kp (g :: S) w1 v)) → Kp (g :: S) w1 v := by
    rintro v ⟨k, hk⟩
    rcases k with _ | _ | k
    · cases hk; exact (Kp.refl _ w1).drew
    · exact hk.2.2.mono (fun s hs => .inl (by simp at hs; simp [hs]))
    · exact hk.2.2
  refine wp_region_lists (by kernel_rfl) [fun v _ => v = (.pointer (some ⟨g, 0, none⟩)),
      fun v _ => v = (.pointer (some ⟨w0.heap.size, 1, none⟩)),
      fun v _ => v = (.int .i64 N),
      fun v w => ∃ A k c, v = .slice A k c ∧ Rd w A k c (l.take (mostN N l.length)) ∧ ∀ b, b ∈ ob A → w1.heap.size ≤ b,
      fun v _ => v = (.string (sb (l.take (mostN N l.length)))),
      fun v _ => v = (.pointer (some ⟨h, 0, none⟩)),
      fun v _ => v = (.pointer (some ⟨w0.heap.size, 1, none⟩)),
      fun v _ => v = (.int .i64 N),
      fun v w => ∃ A k c, v = .slice A k c ∧ Rd w A k c (l.take (mostN N l.length)) ∧ ∀ b, b ∈ ob A → w1.heap.size ≤ b,
      fun v _ => v = (.string (sb (l.take (mostN N l.length)))),
      fun v _ => v = (.bool true),
      fun v _ => v = (.bool true)] (fun k v => match k with | 0 => v = w1.drew | 1 => (∃ p', Rg v g gb C p' (l.drop (mostN N l.length))) ∧ Rf v h S C l ∧ Kp [g] w1 v | _ => (∃ p', Rg v g gb C p' (l.drop (mostN N l.length))) ∧ (∃ S', Nw S S' w1 ∧ Rf v h S' C (l.drop (mostN N l.length))) ∧ Kp (g :: S) w1 v) (fun k w w' => match k with | 0 => Kp [g] w w' | _ => Kp S w w') [3, 8] (by kernel_rfl) (by kernel_rfl) (by kernel_rfl) (by decide) (by kernel_rfl) ⟨StabsAt.const _, StabsAt.const _, StabsAt.const _, (by intro k v w w' hk hne hR hv; rcases k with _ | _ | k; (exact absurd rfl hne); (obtain ⟨A, k, c, e, hr, hb⟩ := hv; exact ⟨A, k, c, e, hr.keep (S := S) hR (by intro _ b hb1 hs1; have := hb b hb1; have := lt3 b hs1; have := K0.size; omega), hb⟩); (exact absurd hk (by simp))), StabsAt.const _, StabsAt.const _, StabsAt.const _, StabsAt.const _, (by intro k v w w' hk hne hR hv; rcases k with _ | _ | k; (obtain ⟨A, k, c, e, hr, hb⟩ := hv; exact ⟨A, k, c, e, hr.keep (S := [g]) hR (by intro _ b hb1 hs1; have := hb b hb1; have := K0.size; simp at hs1; omega), hb⟩); (exact absurd rfl hne); (exact absurd hk (by simp))), StabsAt.const _, StabsAt.const _, StabsAt.const _, trivial⟩ (rfl) ⟨?_, ?_, ?_, ?_, ?_, ?_, ?_, ?_, ?_, ?_, ?_, ?_, trivial⟩ (by kernel_rfl) ?_
  · intro a w E hC K hK
    have h0 : a.tmps[0]? = some (.pointer (some ⟨g, 0, none⟩)) := (E.out 0 (by kernel_rfl)).trans rfl
    refine want_none rfl ?_
    go_simp
    exact hK _ rfl
  · intro a w E hC K hK
    have h5 : a.tmps[5]? = some (.pointer (some ⟨w0.heap.size, 0, none⟩)) := (E.out 5 (by kernel_rfl)).trans rfl
    refine want_none rfl ?_
    go_simp
    exact hK _ rfl
  · intro a w E hC K hK
    obtain ⟨_, h47, rfl⟩ := E.pred 1 _ 47 rfl rfl (by kernel_rfl)
    refine want_none rfl ?_
    have hq := (CQ _ hC).cell (cell_of HB.out 1) (by intro hm; rcases List.mem_cons.1 hm with e | e; (have e2 : w0.heap.size = g := e; omega); (have e2 : w0.heap.size < w0.heap.size := lt3 _ e; omega))
    go_simp
    exact hK _ rfl
  · intro a w E hC K hK
    obtain ⟨_, h46, rfl⟩ := E.pred 0 _ 46 rfl rfl (by kernel_rfl)
    obtain ⟨_, h48, rfl⟩ := E.pred 2 _ 48 rfl rfl (by kernel_rfl)
    refine want_none rfl ?_
    obtain rfl : w = w1.drew := hC
    go_simp
    refine (RgTake (HR1.out.keep (Kp.refl [] w1).drew (by simp) (by simp)) N).mono ?_
    rintro e w2 ⟨A, k, c, rfl, O2, K2, R2⟩
    go_simp
    exact hK _ _ ⟨A, k, c, rfl, O2.rd, fun b hb => (O2.base b hb).1⟩ ⟨R2, HF1.out.keep K2.undrew (by intro s hs1 hs2; simp at hs2; subst hs2; exact hs.1 hs1), K2.undrew⟩ ⟨by decide, K2⟩
  · intro a w E hC K hK
    obtain ⟨v3, h49, V3⟩ := E.pred 3 _ 49 rfl rfl (by kernel_rfl)
    replace V3 : (fun v w => ∃ A k c, v = .slice A k c ∧ Rd w A k c (l.take (mostN N l.length)) ∧ ∀ b, b ∈ ob A → w1.heap.size ≤ b) v3 w := V3
    refine want_none rfl ?_
    obtain ⟨A, k, c, rfl, hr, _⟩ := V3
    refine wp_str 22 5 9 _ rfl Try.underlying22 Try.underlying5 Try.underlying9 (eval_tmp h49) hr ?_
    exact hK _ rfl
  · intro a w E hC K hK
    have h1 : a.tmps[1]? = some (.pointer (some ⟨h, 0, none⟩)) := (E.out 1 (by kernel_rfl)).trans rfl
    refine want_none rfl ?_
    go_simp
    exact hK _ rfl
  · intro a w E hC K hK
    have h5 : a.tmps[5]? = some (.pointer (some ⟨w0.heap.size, 0, none⟩)) := (E.out 5 (by kernel_rfl)).trans rfl
    refine want_none rfl ?_
    go_simp
    exact hK _ rfl
  · intro a w E hC K hK
    obtain ⟨_, h52, rfl⟩ := E.pred 6 _ 52 rfl rfl (by kernel_rfl)
    refine want_none rfl ?_
    have hq := (CQ _ hC).cell (cell_of HB.out 1) (by intro hm; rcases List.mem_cons.1 hm with e | e; (have e2 : w0.heap.size = g := e; omega); (have e2 : w0.heap.size < w0.heap.size := lt3 _ e; omega))
    go_simp
    exact hK _ rfl
  · intro a w E hC K hK
    obtain ⟨_, h51, rfl⟩ := E.pred 5 _ 51 rfl rfl (by kernel_rfl)
    obtain ⟨_, h53, rfl⟩ := E.pred 7 _ 53 rfl rfl (by kernel_rfl)
    refine want_none rfl ?_
    obtain ⟨⟨p', R1⟩, F1, K1⟩ := hC
    go_simp
    refine (RfTake F1 N).mono ?_
    rintro e w2 ⟨A, k, c, rfl, O2, K2, S', hS', F2⟩
    go_simp
    exact hK _ _ ⟨A, k, c, rfl, O2.rd, fun b hb => by have := (O2.base b hb).1; have := K1.size; omega⟩ ⟨⟨p', R1.keep K2 hs.1 hs.2⟩, ⟨S', fun s hs1 => (hS' s hs1).imp id (fun h => by have := K1.size; omega), F2⟩, (K1.mono (fun s hs1 => .inl (by simp at hs1; simp [hs1]))).trans (K2.mono (fun s hs1 => .inl (by simp [hs1])))⟩ ⟨by decide, K2⟩
  · intro a w E hC K hK
    obtain ⟨v8, h54, V8⟩ := E.pred 8 _ 54 rfl rfl (by kernel_rfl)
    replace V8 : (fun v w => ∃ A k c, v = .slice A k c ∧ Rd w A k c (l.take (mostN N l.length)) ∧ ∀ b, b ∈ ob A → w1.heap.size ≤ b) v8 w := V8
    refine want_none rfl ?_
    obtain ⟨A, k, c, rfl, hr, _⟩ := V8
    refine wp_str 22 5 9 _ rfl Try.underlying22 Try.underlying5 Try.underlying9 (eval_tmp h54) hr ?_
    exact hK _ rfl
  · intro a w E hC K hK
    obtain ⟨_, h50, rfl⟩ := E.pred 4 _ 50 rfl rfl (by kernel_rfl)
    obtain ⟨_, h55, rfl⟩ := E.pred 9 _ 55 rfl rfl (by kernel_rfl)
    refine want_none rfl ?_
    go_simp
    exact hK _ rfl
  · intro a w E hC K hK
    obtain ⟨_, h56, rfl⟩ := E.pred 10 _ 56 rfl rfl (by kernel_rfl)
    refine want_none rfl ?_
    go_simp
    exact hK _ rfl
  intro vs w2 hC hV
  obtain ⟨⟨p', R2⟩, ⟨S', hS', F2⟩, K2⟩ := hC
  have h9 := hV 11 _ rfl (by simp)
  replace h9 : vs 11 = .bool true := h9
  clear hV
  simp only [putAll, Act.put, List.setIfInBounds_toArray]
  dsimp only [List.set]
  go_wp2
  go_ret
  refine ⟨by show Ending.returned (vs 11) = _; rw [h9], p', S', R2, F2, fun s hs1 => (hS' s hs1).imp id (fun h => by have := K0.size; omega), (K0.mono (fun s hs1 => by cases hs1)).trans (K2.mono (fun s hs1 => .inl (by simp at hs1 ⊢; rcases hs1 with rfl | hs1 <;> simp [*])))⟩
set_option maxHeartbeats 1000000 in
set_option maxRecDepth 100000 in
theorem play3 {w0 : World} {g gb C p h : Nat} {l : List UInt8} {S : List Nat} (W N : Int) (h0 : ¬ W = 0) (h1 : ¬ W = 1) (h2 : ¬ W = 2) (A : Option Addr) (n c : Nat) (r : Rg w0 g gb C p l) (f : Rf w0 h S C l) (hs : g ∉ S ∧ gb ∉ S) :
    Calls Try.prog 66 #[.pointer (some ⟨g, 0, none⟩), .pointer (some ⟨h, 0, none⟩), .agg #[.int .i64 W, .int .i64 N, .slice A n c]] w0 fun e w' => e = .returned (.bool true) ∧
      ∃ p' S', Rg w' g gb C p' (l.drop (mostN N l.length)) ∧ Rf w' h S' C (l.drop (mostN N l.length)) ∧ Nw S S' w0 ∧ Kp (g :: gb :: S) w0 w' := by
  obtain ⟨lt1, lt2⟩ := r.lt
  have lt3 := f.lt
  have HR := Lib.hid r
  have HF := Lib.hid f
  clear r f
  go_enter Try.func66, Try.ntmps66
  go_wp2
  have K0 : Kp [] w0 (w0.alloc (.cells #[.int .i64 W, .int .i64 N, .slice A n c] 82)) := (Kp.refl _ _).alloc _
  have HB := Lib.hid (hp_new w0 (.cells #[.int .i64 W, .int .i64 N, .slice A n c] 82) _ rfl)
  have HR1 := Lib.hid (HR.out.keep K0 (by simp) (by simp))
  have HF1 := Lib.hid (HF.out.keep K0 (by simp))
  generalize hW : w0.alloc (.cells #[.int .i64 W, .int .i64 N, .slice A n c] 82) = w1 at *
  clear hW
  have hB := lt_of_heap HB.out
  have CQ : ∀ v, (∃ k, (match (motive := Nat → Prop) k with | 0 => v = w1.drew | 1 => (∃ p', Rg v g gb C p' (l.drop (mostN N l.length))) ∧ Rf v h S C l ∧ Kp [g] w1 v | _ => (∃ p', Rg v g gb C p' (l.drop (mostN N l.length))) ∧ (∃ S', Nw S S' w1 ∧ Rf v h S' C (l.drop (mostN N l.length))) ∧ Kp (g :: S) w1 v)) → Kp (g :: S) w1 v := by
    rintro v ⟨k, hk⟩
    rcases k with _ | _ | k
    · cases hk; exact (Kp.refl _ w1).drew
    · exact hk.2.2.mono (fun s hs => .inl (by simp at hs; simp [hs]))
    · exact hk.2.2
  refine wp_region_lists (by kernel_rfl) [fun v _ => v = (.pointer (some ⟨g, 0, none⟩)),
      fun v _ => v = (.pointer (some ⟨w0.heap.size, 1, none⟩)),
      fun v _ => v = (.int .i64 N),
      fun v w => v = .int .i64 (mostN N l.length : Nat),
      fun v _ => v = (.pointer (some ⟨h, 0, none⟩)),
      fun v _ => v = (.pointer (some ⟨w0.heap.size, 1, none⟩)),
      fun v _ => v = (.int .i64 N),
      fun v w => v = .int .i64 (mostN N l.length : Nat),
      fun v _ => v = (.bool true),
      fun v _ => v = (.bool true)] (fun k v => match k with | 0 => v = w1.drew | 1 => (∃ p', Rg v g gb C p' (l.drop (mostN N l.length))) ∧ Rf v h S C l ∧ Kp [g] w1 v | _ => (∃ p', Rg v g gb C p' (l.drop (mostN N l.length))) ∧ (∃ S', Nw S S' w1 ∧ Rf v h S' C (l.drop (mostN N l.length))) ∧ Kp (g :: S) w1 v) (fun k w w' => True) [3, 7] (by kernel_rfl) (by kernel_rfl) (by kernel_rfl) (by decide) (by kernel_rfl) ⟨StabsAt.const _, StabsAt.const _, StabsAt.const _, StabsAt.const _, StabsAt.const _, StabsAt.const _, StabsAt.const _, StabsAt.const _, StabsAt.const _, StabsAt.const _, trivial⟩ (rfl) ⟨?_, ?_, ?_, ?_, ?_, ?_, ?_, ?_, ?_, ?_, trivial⟩ (by kernel_rfl) ?_
  · intro a w E hC K hK
    have h0 : a.tmps[0]? = some (.pointer (some ⟨g, 0, none⟩)) := (E.out 0 (by kernel_rfl)).trans rfl
    refine want_none rfl ?_
    go_simp
    exact hK _ rfl
  · intro a w E hC K hK
    have h5 : a.tmps[5]? = some (.pointer (some ⟨w0.heap.size, 0, none⟩)) := (E.out 5 (by kernel_rfl)).trans rfl
    refine want_none rfl ?_
    go_simp
    exact hK _ rfl
  · intro a w E hC K hK
    obtain ⟨_, h87, rfl⟩ := E.pred 1 _ 87 rfl rfl (by kernel_rfl)
    refine want_none rfl ?_
    have hq := (CQ _ hC).cell (cell_of HB.out 1) (by intro hm; rcases List.mem_cons.1 hm with e | e; (have e2 : w0.heap.size = g := e; omega); (have e2 : w0.heap.size < w0.heap.size := lt3 _ e; omega))
    go_simp
    exact hK _ rfl
  · intro a w E hC K hK
    obtain ⟨_, h86, rfl⟩ := E.pred 0 _ 86 rfl rfl (by kernel_rfl)
    obtain ⟨_, h88, rfl⟩ := E.pred 2 _ 88 rfl rfl (by kernel_rfl)
    refine want_none rfl ?_
    obtain rfl : w = w1.drew := hC
    go_simp
    refine (RgDrop (HR1.out.keep (Kp.refl [] w1).drew (by simp) (by simp)) N).mono ?_
    rintro e w2 ⟨rfl, K2, R2⟩
    go_simp
    exact hK _ _ rfl ⟨R2, HF1.out.keep K2.undrew (by intro s hs1 hs2; simp at hs2; subst hs2; exact hs.1 hs1), K2.undrew⟩ ⟨by decide, trivial⟩
  · intro a w E hC K hK
    have h1 : a.tmps[1]? = some (.pointer (some ⟨h, 0, none⟩)) := (E.out 1 (by kernel_rfl)).trans rfl
    refine want_none rfl ?_
    go_simp
    exact hK _ rfl
  · intro a w E hC K hK
    have h5 : a.tmps[5]? = some (.pointer (some ⟨w0.heap.size, 0, none⟩)) := (E.out 5 (by kernel_rfl)).trans rfl
    refine want_none rfl ?_
    go_simp
    exact hK _ rfl
  · intro a w E hC K hK
    obtain ⟨_, h91, rfl⟩ := E.pred 5 _ 91 rfl rfl (by kernel_rfl)
    refine want_none rfl ?_
    have hq := (CQ _ hC).cell (cell_of HB.out 1) (by intro hm; rcases List.mem_cons.1 hm with e | e; (have e2 : w0.heap.size = g := e; omega); (have e2 : w0.heap.size < w0.heap.size := lt3 _ e; omega))
    go_simp
    exact hK _ rfl
  · intro a w E hC K hK
    obtain ⟨_, h90, rfl⟩ := E.pred 4 _ 90 rfl rfl (by kernel_rfl)
    obtain ⟨_, h92, rfl⟩ := E.pred 6 _ 92 rfl rfl (by kernel_rfl)
    refine want_none rfl ?_
    obtain ⟨⟨p', R1⟩, F1, K1⟩ := hC
    go_simp
    refine (RfDrop F1 N).mono ?_
    rintro e w2 ⟨rfl, K2, S', hS', F2⟩
    go_simp
    exact hK _ _ rfl ⟨⟨p', R1.keep K2 hs.1 hs.2⟩, ⟨S', fun s hs1 => (hS' s hs1).imp id (fun h => by have := K1.size; omega), F2⟩, (K1.mono (fun s hs1 => .inl (by simp at hs1; simp [hs1]))).trans (K2.mono (fun s hs1 => .inl (by simp [hs1])))⟩ ⟨by decide, trivial⟩
  · intro a w E hC K hK
    obtain ⟨v3, h89, V3⟩ := E.pred 3 _ 89 rfl rfl (by kernel_rfl)
    replace V3 : (fun v w => v = .int .i64 (mostN N l.length : Nat)) v3 w := V3
    obtain rfl := V3
    obtain ⟨v7, h93, V7⟩ := E.pred 7 _ 93 rfl rfl (by kernel_rfl)
    replace V7 : (fun v w => v = .int .i64 (mostN N l.length : Nat)) v7 w := V7
    obtain rfl := V7
    refine want_none rfl ?_
    go_simp
    exact hK _ rfl
  · intro a w E hC K hK
    obtain ⟨_, h94, rfl⟩ := E.pred 8 _ 94 rfl rfl (by kernel_rfl)
    refine want_none rfl ?_
    go_simp
    exact hK _ rfl
  intro vs w2 hC hV
  obtain ⟨⟨p', R2⟩, ⟨S', hS', F2⟩, K2⟩ := hC
  have h9 := hV 9 _ rfl (by simp)
  replace h9 : vs 9 = .bool true := h9
  clear hV
  simp only [putAll, Act.put, List.setIfInBounds_toArray]
  dsimp only [List.set]
  go_wp2
  go_ret
  refine ⟨by show Ending.returned (vs 9) = _; rw [h9], p', S', R2, F2, fun s hs1 => (hS' s hs1).imp id (fun h => by have := K0.size; omega), (K0.mono (fun s hs1 => by cases hs1)).trans (K2.mono (fun s hs1 => .inl (by simp at hs1 ⊢; rcases hs1 with rfl | hs1 <;> simp [*])))⟩
set_option maxHeartbeats 1000000 in
set_option maxRecDepth 100000 in
theorem play2 {w0 : World} {g gb C p h : Nat} {l : List UInt8} {S : List Nat} (N : Int) (A : Option Addr) (n c : Nat) (r : Rg w0 g gb C p l) (f : Rf w0 h S C l) (hs : g ∉ S ∧ gb ∉ S) :
    Calls Try.prog 66 #[.pointer (some ⟨g, 0, none⟩), .pointer (some ⟨h, 0, none⟩), .agg #[.int .i64 2, .int .i64 N, .slice A n c]] w0 fun e w' => e = .returned (.bool true) ∧
      ∃ p' S', Rg w' g gb C p' l ∧ Rf w' h S' C l ∧ Nw S S' w0 ∧ Kp (g :: gb :: S) w0 w' := by
  obtain ⟨lt1, lt2⟩ := r.lt
  have lt3 := f.lt
  have HR := Lib.hid r
  have HF := Lib.hid f
  have hle := r.le
  have hcap := r.cap
  clear r f
  go_enter Try.func66, Try.ntmps66
  have K0 : Kp [] w0 (w0.alloc (.cells #[.int .i64 2, .int .i64 N, .slice A n c] 82)) := (Kp.refl _ _).alloc _
  have HB := Lib.hid (hp_new w0 (.cells #[.int .i64 2, .int .i64 N, .slice A n c] 82) _ rfl)
  have HR1 := Lib.hid (HR.out.keep K0 (by simp) (by simp))
  have HF1 := Lib.hid (HF.out.keep K0 (by simp))
  go_wp2_with fail
  refine (RgPeek HR1.out N).mono ?_
  rintro e w1 ⟨A2, k2, c2, rfl, O2, K1⟩
  have ob2 := O2.base
  simp only [World.size_alloc] at ob2
  have hk2 : k2 = mostN N l.length := by have h1 := O2.len; have := mostN_le N l.length; simp at h1; omega
  have hk2l : k2 ≤ 1048576 := by have := mostN_le N l.length; omega
  have HB1 := Lib.hid (K1.heap HB.out (by simp))
  have K2 := K0.trans K1
  have HR2 := Lib.hid (HR1.out.keep K1 (by simp) (by simp))
  have HF2 := Lib.hid (HF1.out.keep K1 (by simp))
  have HO2 := Lib.hid O2
  have HK2 := Lib.hid hk2
  clear hk2 O2 K1 K0 HB HR1 HF1
  go_wp2
  refine wp_region_list (by kernel_rfl) [fun v _ => v = (.slice A2 k2 c2),
      fun v _ => v = (.string (sb (l.take (mostN N l.length)))),
      fun v _ => v = (.pointer (some ⟨h, 0, none⟩)),
      fun v _ => v = (.pointer (some ⟨w0.heap.size, 1, none⟩)),
      fun v _ => v = (.int .i64 N),
      fun v w => ∃ A k c, v = .slice A k c ∧ Rd w A k c (l.take (mostN N l.length)),
      fun v _ => v = (.string (sb (l.take (mostN N l.length)))),
      fun v _ => v = (.bool true),
      fun v _ => v = (.bool true)] (fun _ v => Kp [] w1 v) (fun w w' => Kp [] w w') [5] (by kernel_rfl) (by kernel_rfl) (by kernel_rfl) (by decide) (by kernel_rfl) ⟨Stab.const _, Stab.const _, Stab.const _, Stab.const _, Stab.const _, (fun v w w' h hv => by obtain ⟨A, k, c, e, hr⟩ := hv; exact ⟨A, k, c, e, hr.keep h (by simp)⟩), Stab.const _, Stab.const _, Stab.const _, trivial⟩ ((Kp.refl [] w1).drew) ⟨?_, ?_, ?_, ?_, ?_, ?_, ?_, ?_, ?_, trivial⟩ (by kernel_rfl) ?_
  · intro a w E hC K hK
    have h10 : a.tmps[10]? = some (.slice A2 k2 c2) := (E.out 10 (by kernel_rfl)).trans rfl
    refine want_none rfl ?_
    go_simp
    exact hK _ rfl
  · intro a w E hC K hK
    obtain ⟨_, h63, rfl⟩ := E.pred 0 _ 63 rfl rfl (by kernel_rfl)
    refine want_none rfl ?_
    obtain ⟨_, hk⟩ := hC
    refine wp_str 22 5 9 _ rfl Try.underlying22 Try.underlying5 Try.underlying9 (eval_tmp h63) (HO2.out.keep hk (by simp)).rd ?_
    exact hK _ rfl
  · intro a w E hC K hK
    have h1 : a.tmps[1]? = some (.pointer (some ⟨h, 0, none⟩)) := (E.out 1 (by kernel_rfl)).trans rfl
    refine want_none rfl ?_
    go_simp
    exact hK _ rfl
  · intro a w E hC K hK
    have h5 : a.tmps[5]? = some (.pointer (some ⟨w0.heap.size, 0, none⟩)) := (E.out 5 (by kernel_rfl)).trans rfl
    refine want_none rfl ?_
    go_simp
    exact hK _ rfl
  · intro a w E hC K hK
    obtain ⟨_, h66, rfl⟩ := E.pred 3 _ 66 rfl rfl (by kernel_rfl)
    refine want_none rfl ?_
    obtain ⟨_, hk⟩ := hC
    have hq := cell_of (hk.heap HB1.out (by simp)) 1
    go_simp
    exact hK _ rfl
  · intro a w E hC K hK
    obtain ⟨_, h65, rfl⟩ := E.pred 2 _ 65 rfl rfl (by kernel_rfl)
    obtain ⟨_, h67, rfl⟩ := E.pred 4 _ 67 rfl rfl (by kernel_rfl)
    refine want_none rfl ?_
    go_simp
    refine (RfPeek (HF2.out.keep hC (by simp)) N).mono ?_
    rintro e w2 ⟨A, k, c, rfl, O3, K3⟩
    go_simp
    exact hK _ _ ⟨A, k, c, rfl, O3.rd⟩ (hC.trans K3) K3
  · intro a w E hC K hK
    obtain ⟨v5, h68, V5⟩ := E.pred 5 _ 68 rfl rfl (by kernel_rfl)
    replace V5 : (fun v w => ∃ A k c, v = .slice A k c ∧ Rd w A k c (l.take (mostN N l.length))) v5 w := V5
    refine want_none rfl ?_
    obtain ⟨A, k, c, rfl, hr⟩ := V5
    refine wp_str 22 5 9 _ rfl Try.underlying22 Try.underlying5 Try.underlying9 (eval_tmp h68) hr ?_
    exact hK _ rfl
  · intro a w E hC K hK
    obtain ⟨_, h64, rfl⟩ := E.pred 1 _ 64 rfl rfl (by kernel_rfl)
    obtain ⟨_, h69, rfl⟩ := E.pred 6 _ 69 rfl rfl (by kernel_rfl)
    refine want_none rfl ?_
    go_simp
    exact hK _ rfl
  · intro a w E hC K hK
    obtain ⟨_, h70, rfl⟩ := E.pred 7 _ 70 rfl rfl (by kernel_rfl)
    refine want_none rfl ?_
    go_simp
    exact hK _ rfl
  intro vs w2 K3 hV
  have h9 := hV 8 _ rfl (by simp)
  replace h9 : vs 8 = .bool true := h9
  clear hV
  simp only [putAll, Act.put, List.setIfInBounds_toArray]
  dsimp only [List.set]
  simp only [Nat.reduceAdd]
  rw [h9]
  clear h9
  generalize vs 0 = v0
  generalize vs 1 = v1
  generalize vs 2 = v2
  generalize vs 3 = v3
  generalize vs 4 = v4
  generalize vs 5 = v5
  generalize vs 6 = v6
  generalize vs 7 = v7
  have HR3 := Lib.hid (HR2.out.keep K3 (by simp) (by simp))
  have HF3 := Lib.hid (HF2.out.keep K3 (by simp))
  have HO3 := Lib.hid (HO2.out.keep K3 (by simp))
  have q3 := K2.trans K3
  clear K2 K3 HR2 HF2 HO2 HB1
  go_wp2
  go_loopw [12] (fun i wr => ∃ (k : Nat) (ys : List UInt8), k ≤ k2 ∧ i = .int .i64 k ∧ Ow wr (w0.heap.size + 1) 5 1 A2 k2 c2 (ys.map u8) ∧ Kp (ob A2) w2 wr) (fun i _ => k2 - (intOf i).toNat)
  case atStart => exact ⟨0, _, Nat.zero_le _, rfl, HO3.out.mono (by simp), Kp.refl _ _⟩
  case round =>
    obtain ⟨k, ys, hk, rfl, hO, hK⟩ := hrel
    by_cases hkl : k < k2
    · obtain ⟨g1, rfl, hg1, hg2, hyl, hgz, hgc⟩ := hO.some (by omega)
      have hgk := hgc k hkl
      have hgzk := hgz k
      have HOw := Lib.hid hO
      have HKw := Lib.hid hK
      clear hO hK hgc hgz
      have hyb := (ys.getD k 0).toNat_lt
      generalize hyv : (ys.getD k 0).toNat = y at *
      clear hyv
      have hki : (k : Int) < (k2 : Int) := by omega
      go_wp2
      go_roundw
      case rel =>
        have hv : (Value.int .u8 (((y : Int) + 1) % 256)) = u8 (UInt8.ofNat (y + 1)) := by simp [u8]
        rw [hv]
        exact ⟨k + 1, _, by omega, by go_num, HOw.out.set k hkl _, HKw.out.setCell (.inl (by simp [ob])) _⟩
      case measure => simp [intOf]; omega
    · have R4 := Lib.hid (HR3.out.keep hK (fun hb => by have := (ob2 _ hb).1; omega) (fun hb => by have := (ob2 _ hb).1; omega))
      have F4 := HF3.out.keep hK (fun s hs1 hb => by have := (ob2 _ hb).1; have := lt3 s hs1; omega)
      have q4 : Kp [] w0 wr := q3.then hK (fun t ht => .inr (by have := (ob2 t ht).1; omega))
      go_wp2
      go_ret
      exact ⟨rfl, p, S, R4.out, F4, Nw.refl _ _, q4.mono (fun s hs1 => by cases hs1)⟩
def nxt01 (C : Nat) (l : List UInt8) (W N : Int) (xs : List UInt8) : List UInt8 :=
  if W = 0 then l ++ xs.take (min xs.length (C - l.length)) else if W = 2 then l else l.drop (mostN N l.length)
theorem play_any {w0 : World} {g gb C p h : Nat} {l : List UInt8} {S : List Nat} (W N : Int) (A : Option Addr) (n c : Nat) (xs : List UInt8) (r : Rg w0 g gb C p l) (f : Rf w0 h S C l) (hs : g ∉ S ∧ gb ∉ S) (hx : Rd w0 A n c xs) (hn : n ≤ 140737488355328) (hlt : 0 < n → ∀ b, b ∈ ob A → b ≠ g ∧ b ≠ gb) :
    Calls Try.prog 66 #[.pointer (some ⟨g, 0, none⟩), .pointer (some ⟨h, 0, none⟩), .agg #[.int .i64 W, .int .i64 N, .slice A n c]] w0 fun e w' => e = .returned (.bool true) ∧
      ∃ p' S', Rg w' g gb C p' (nxt01 C l W N xs) ∧ Rf w' h S' C (nxt01 C l W N xs) ∧ Nw S S' w0 ∧ Kp (g :: gb :: S) w0 w' := by
  by_cases h0 : W = 0
  · subst h0
    have e : nxt01 C l 0 N xs = l ++ xs.take (min n (C - l.length)) := by simp [nxt01, hx.len]
    rw [e]
    exact play0 N A n c xs r f hs hx hn hlt
  by_cases h1 : W = 1
  · subst h1
    exact play1 N A n c r f hs
  by_cases h2 : W = 2
  · subst h2
    exact play2 N A n c r f hs
  have e : nxt01 C l W N xs = l.drop (mostN N l.length) := by simp [nxt01, h0, h2]
  rw [e]
  exact play3 W N h0 h1 h2 A n c r f hs
end Go.Proofs.Ytkmcakneceagpaa
