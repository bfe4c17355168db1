/- Append, two more laws for the walk: so many zero bytes onto a row of the call's own ('append(b, make([]byte, n)...)'), and bytes onto a slice without room. Over any program. -/
import Derived.Test.YtibeaombhjdakaaMem
set_option linter.unusedVariables false
set_option linter.unusedSimpArgs false
namespace Go.Proofs.Ytibeaombhjdakaa
open Go.RowKit

theorem zeroCells_u8 (k : Nat) : Builtin.zeroCells (Value.cells (.int .u8 0)) k = ((List.replicate k (0 : UInt8)).map u8).toArray := by
  apply Array.ext
  · simp [Builtin.zeroCells, Value.cells]
  · intro i h1 h2
    simp [Builtin.zeroCells, Value.cells, u8, Nat.mod_one]

theorem run_appZ {P : Program} (w : World) (t ti ty e : TypeId) (ht : P.underlying t = some (.slice e)) (hti : P.underlying ti = some (.int .i64)) (hi : (P.info? e).map (fun i => (i.zero, i.size, i.bytes)) = some (some (.int .u8 0), 1, 1))
    (base : Nat) (A : Option Addr) (n c : Nat) (l : List UInt8) (HO : Ow w base e 1 A n c (l.map u8)) (k : Nat) (hlen : n + k ≤ 211106232532992) (hbase : base ≤ w.heap.size) :
    ∃ A' c' w', (Builtin.append_ #[t, ti] ty #[.slice A n c, .int .i64 k]).run P w = .ok (.slice A' (n + k) c') w' ∧ Ow w' base e 1 A' (n + k) c' ((l ++ List.replicate k 0).map u8) ∧ Kp (ob A) w w' := by
  obtain ⟨i, hi, hz, hsize, hby⟩ := info_parts hi
  have hl : l.length = n := by have := HO.len; simpa using this
  have hw : IntKind.i64.wrap (k : Int) = (k : Int) := by apply IntWalk.i64_in <;> omega
  have hk0 : ¬ ((k : Int) < 0) := by omega
  have hw0 : IntKind.i64.wrap 0 = 0 := by decide
  have hk48 : ¬ (281474976710656 < (k : Int)) := by omega
  have hmap : (l ++ List.replicate k 0).map u8 = l.map u8 ++ (List.replicate k (0 : UInt8)).map u8 := by rw [List.map_append]
  have hzl : ((List.replicate k (0 : UInt8)).map u8).length = k := by simp
  have hlen2 : (l.map u8 ++ (List.replicate k (0 : UInt8)).map u8).length = (n + k) * 1 := by simp [hl]
  rw [hmap]
  have hmx : n + k ≤ maxLen := by simp only [maxLen]; omega
  have hnx : ∀ old, old < n + k → ¬ (281474976710656 < Builtin.nextslicecap (n + k) old) := fun old ho => by
    have := growslice_fits_wide (bytes := 1) ho (by omega)
    omega
  have h63 : ¬ (9223372036854775807 < (n : Int) + (k : Int)) := by omega
  rcases HO.2 with ⟨he, h0⟩ | ⟨g, cap, cur, he, hbg, hg, hnc, hcm, hcs, htake⟩
  · injection he with h1' _ h3'
    subst h1' h3' h0
    by_cases hk : k = 0
    · subst hk
      refine ⟨none, 0, w, ?_, by simpa using HO, Kp.refl _ _⟩
      simp [Builtin.append_, asInt, asIntOf, hw0, run_underlying ht, run_underlying hti, sizeOf, typeInfo, hi, hsize, hw, hby]
    · simp only [Nat.zero_add] at hlen hlen2 hmx hnx ⊢
      have hz0 : ¬ (k ≤ 0) := by omega
      refine ⟨some ⟨w.heap.size, 0, none⟩, grownCap w k 0 e, w.drew.alloc (.cells (#[] ++ ((List.replicate k (0 : UInt8)).map u8).toArray ++ Builtin.zeroCells (Value.cells (.int .u8 0)) (grownCap w k 0 e - k)) e), ?_, ?_, (Kp.refl _ _).drew.alloc _⟩
      · have hn1 := hnx 0 (by omega)
        have hf := run_firstCells_none (P := P) w.drew 1 0 0 0
        simp [Builtin.append_, asInt, asIntOf, hw0, run_underlying ht, run_underlying hti, sizeOf, typeInfo, zeroValue, hi, hz, hsize, hby, hw, hk0, hk48, hk, hz0, hn1, Question.forced, hf, newRow, grownCap, zeroCells_u8]
        omega
      · have hge := grownCap_ge w k 0 e
        refine ⟨by simpa using hlen2, .inr ⟨w.heap.size, _, _, rfl, hbase, heap_alloc_new w.drew _, hge, grownCap_le_maxLen w k 0 e hmx, ?_, ?_⟩⟩
        · simp only [Array.size_append, List.size_toArray, size_zeroCells, hzl]
          simp [Value.cells]
          omega
        · obtain rfl : l = [] := List.eq_nil_of_length_eq_zero hl
          simp only [Array.toList_append]
          simp
  · injection he with h1' _ h3'
    subst h1' h3'
    by_cases hroom : n + k ≤ c
    · refine ⟨some ⟨g, 0, none⟩, c, w.setRow g (cur.toList.take n ++ (List.replicate k (0 : UInt8)).map u8 ++ cur.toList.drop (n + k)).toArray, ?_, ?_, (Kp.refl _ _).setRow (.inl (by simp [ob])) _⟩
      · by_cases hk : k = 0
        · subst hk
          have hset : w.setRow g (cur.toList.take n ++ (List.replicate 0 (0 : UInt8)).map u8 ++ cur.toList.drop (n + 0)).toArray = w := by
            have : (cur.toList.take n ++ (List.replicate 0 (0 : UInt8)).map u8 ++ cur.toList.drop (n + 0)).toArray = cur := by simp
            rw [this]
            exact setRow_self w g cur e (0, 0) hg
          rw [hset]
          simp [Builtin.append_, asInt, asIntOf, hw0, run_underlying ht, run_underlying hti, sizeOf, typeInfo, hi, hsize, hw, hby, hnc, storeCells]
        · have hst := run_storeCells_at P g n e ((List.replicate k (0 : UInt8)).map u8) 0 cur w hg (by simp; omega) (u8_one _)
          simp only [Nat.add_zero, hzl] at hst
          have hzz := zeroCells_u8 k
          simp only [Value.cells] at hzz
          simp [Builtin.append_, asInt, asIntOf, hw0, run_underlying ht, run_underlying hti, sizeOf, typeInfo, zeroValue, hi, hz, hsize, hby, hw, hk0, hk48, hk, hroom, Addr.add_lit, Value.cells, hzz] at hst ⊢
          rw [hst]
          rfl
      · refine ⟨hlen2, .inr ⟨g, c, _, rfl, hbg, setRow_heap w g cur _ e _ hg, hroom, hcm, ?_, ?_⟩⟩
        · simp
          omega
        · rw [show cur.toList.take n = l.map u8 by simpa using htake, ← hlen2]
          exact List.take_left
    · have hkp : k ≠ 0 := by omega
      have holds : ∀ j u, (l.map u8)[j]? = some u → w.drew.cell? ((⟨g, 0, none⟩ : Addr).add j) = some u := fun j u h => by rw [World.cell?_drew]; exact World.ownsRow.cells HO (g := g) rfl j u h
      have hfo := run_firstCells_some (P := P) w.drew 1 n ⟨g, 0, none⟩ n c (l.map u8) (by simp [hl]) holds
      have hn1 := hnx c (by omega)
      refine ⟨some ⟨w.heap.size, 0, none⟩, grownCap w (n + k) c e, w.drew.alloc (.cells ((l.map u8).toArray ++ ((List.replicate k (0 : UInt8)).map u8).toArray ++ Builtin.zeroCells (Value.cells (.int .u8 0)) (grownCap w (n + k) c e - (n + k))) e), ?_, ?_, (Kp.refl _ _).drew.alloc _⟩
      · have hzz := zeroCells_u8 k
        simp only [Value.cells] at hzz
        simp [Builtin.append_, asInt, asIntOf, hw0, run_underlying ht, run_underlying hti, sizeOf, typeInfo, zeroValue, hi, hz, hsize, hby, hw, hk0, hk48, hkp, hroom, h63, hn1, Question.forced, hfo, newRow, grownCap, Value.cells, hzz]
      · have hge := grownCap_ge w (n + k) c e
        refine ⟨hlen2, .inr ⟨w.heap.size, _, _, rfl, hbase, heap_alloc_new w.drew _, hge, grownCap_le_maxLen w (n + k) c e hmx, ?_, ?_⟩⟩
        · simp only [Array.size_append, List.size_toArray, size_zeroCells, hzl]
          simp [Value.cells, hl]
          omega
        · simp only [Array.toList_append]
          rw [← hlen2]
          exact List.take_left

/-- bytes onto a slice without room: a new row -/
theorem run_appF {P : Program} (w : World) (t ty e : TypeId) (ht : P.underlying t = some (.slice e)) (hi : (P.info? e).map (fun i => (i.zero, i.size, i.bytes)) = some (some (.int .u8 0), 1, 1))
    (base : Nat) (A : Option Addr) (n : Nat) (l : List UInt8) (HR : Rd w A n n l) (A2 : Option Addr) (m c2 : Nat) (l2 : List UInt8) (HR2 : Rd w A2 m c2 l2) (hm : 0 < m) (hlen : n + m ≤ 211106232532992) (hbase : base ≤ w.heap.size) (hnil : n = 0 → A = none) :
    ∃ A' c' w', (Builtin.append_ #[t, t] ty #[.slice A n n, .slice A2 m c2]).run P w = .ok (.slice A' (n + m) c') w' ∧ Ow w' base e 1 A' (n + m) c' ((l ++ l2).map u8) ∧ Kp [] w w' ∧ A' = some ⟨w.heap.size, 0, none⟩ := by
  by_cases h0 : n = 0
  · subst h0
    obtain rfl := hnil rfl
    obtain rfl : l = [] := List.eq_nil_of_length_eq_zero HR.len
    obtain ⟨A', c', w', h1, h2, h3, h4, _⟩ := run_app (P := P) w t ty e (.int .u8 0) 1 1 ht hi rfl (by omega) base none 0 0 [] (Ow.nil _ _ _ _) A2 m c2 (l2.map u8) (by simp [HR2.len]) HR2.at_ (u8_one l2) (by simp only [maxLen]; omega) (by omega) hbase
    refine ⟨A', c', w', h1, by simpa using h2, by simpa [ob] using h3, ?_⟩
    rcases h4 with rfl | h4
    · obtain ⟨_, hh⟩ := h2
      rcases hh with ⟨_, hh⟩ | ⟨g, _, _, he, _⟩
      · omega
      · cases he
    · exact h4
  · obtain ⟨i, hi, hz, hsize, hby⟩ := info_parts hi
    obtain ⟨b, off, rfl, hb, hc⟩ := HR.addr (by omega)
    obtain ⟨b2, off2, rfl, hb2, hc2⟩ := HR2.addr hm
    have hl := HR.len
    have hl2 := HR2.len
    have hadd : ∀ (b off j : Nat), (⟨b, off, none⟩ : Addr).add j = ⟨b, off + j, none⟩ := by intro b off j; unfold Addr.add; split <;> simp_all
    have get : ∀ (l : List UInt8) (j : Nat) (u : Value), (l.map u8)[j]? = some u → j < l.length ∧ u = .int .u8 ((l.getD j 0).toNat : Int) := by
      intro l j u h
      rw [List.getElem?_map] at h
      obtain ⟨x, hx, rfl⟩ := Option.map_eq_some_iff.1 h
      have := (List.getElem?_eq_some_iff.1 hx).1
      exact ⟨this, by simp [u8, List.getD_eq_getElem?_getD, hx]⟩
    have hr := run_append_grow (P := P) w t ty e i (.int .u8 0) ht hi hz ⟨b, off, none⟩ n n (l.map u8) (by simp [hl, hsize]) (fun j u h => by obtain ⟨h1, rfl⟩ := get l j u h; rw [hadd]; exact hc j (by omega))
      ⟨b2, off2, none⟩ m c2 (l2.map u8) (by simp [hl2, hsize]) (fun j u h => by obtain ⟨h1, rfl⟩ := get l2 j u h; rw [hadd]; exact hc2 j (by omega)) (by omega) (by omega) (growslice_fits_wide (by omega) (by rw [hby]; omega))
    have hge := grownCap_ge w (n + m) n e
    have hlen2 : ((l ++ l2).map u8).length = (n + m) * 1 := by simp [hl, hl2]
    refine ⟨_, _, _, hr, ⟨hlen2, .inr ⟨w.heap.size, _, _, rfl, hbase, heap_alloc_new w.drew _, hge, grownCap_le_maxLen w (n + m) n e (by simp only [maxLen]; omega), ?_, ?_⟩⟩, (Kp.refl _ _).drew.alloc _, rfl⟩
    · simp only [Array.size_append, List.size_toArray, size_zeroCells]
      simp [Value.cells, hl, hl2]
      omega
    · rw [← hlen2, List.map_append]
      simp only [Array.toList_append]
      exact List.take_left

section
variable {P : Program} {ops : Array Oper} {rest : List Oper} {o : Oper} {a : Act} {Q : Exit → Act → World → Prop}
theorem wp_appZ {w : World} (hgd : o.guard = none) (s x : Operand) (t ti e : TypeId) (ho : o.op = .call { callee := .builtin .append, args := #[s, x], argTypes := #[t, ti] })
    (ht : P.underlying t = some (.slice e)) (hti : P.underlying ti = some (.int .i64)) (hi : (P.info? e).map (fun i => (i.zero, i.size, i.bytes)) = some (some (.int .u8 0), 1, 1))
    (base : Nat) (A : Option Addr) (n c : Nat) (l : List UInt8) (hs : a.eval s = .slice A n c) (HO : Ow w base e 1 A n c (l.map u8))
    (k : Nat) (hx : a.eval x = .int .i64 k) (hlen : n + k ≤ 211106232532992) (hbase : base ≤ w.heap.size)
    (h : ∀ A' k' c' l' w', Hid (k' = n + k) → Hid (l' = l ++ List.replicate k 0) → Ow w' base e 1 A' k' c' (l'.map u8) → Kp (ob A) w w' → wpList P ops Q rest (a.put o.dst (.slice A' k' c')) w') : wpList P ops Q (o :: rest) a w := by
  refine wpList_plain hgd fun K hK => ?_
  obtain ⟨A', c', w', hr, h2, h3⟩ := run_appZ (P := P) w t ti o.type e ht hti hi base A n c l HO k hlen hbase
  unfold Oper.wp execOp
  simp only [ho, resolve, invoke, builtin, Sem.run_bind, Sem.run_pure, Result.andThen_ok, List.map_toArray, List.map_cons, List.map_nil, hs, hx, hr]
  exact hK _ _ (h A' (n + k) c' _ w' rfl rfl h2 h3)
theorem wp_appF {w : World} (hgd : o.guard = none) (s x : Operand) (t e : TypeId) (ho : o.op = .call { callee := .builtin .append, args := #[s, x], argTypes := #[t, t] })
    (ht : P.underlying t = some (.slice e)) (hi : (P.info? e).map (fun i => (i.zero, i.size, i.bytes)) = some (some (.int .u8 0), 1, 1))
    (base : Nat) (A : Option Addr) (n : Nat) (l : List UInt8) (hs : a.eval s = .slice A n n) (HR : Rd w A n n l)
    (A2 : Option Addr) (m c2 : Nat) (l2 : List UInt8) (hx : a.eval x = .slice A2 m c2) (HR2 : Rd w A2 m c2 l2) (hm : 0 < m) (hlen : n + m ≤ 211106232532992) (hbase : base ≤ w.heap.size) (hnil : n = 0 → A = none)
    (h : ∀ A' k' c' l' w', Hid (k' = n + m) → Hid (l' = l ++ l2) → Ow w' base e 1 A' k' c' (l'.map u8) → Kp [] w w' → A' = some ⟨w.heap.size, 0, none⟩ → wpList P ops Q rest (a.put o.dst (.slice A' k' c')) w') : wpList P ops Q (o :: rest) a w := by
  refine wpList_plain hgd fun K hK => ?_
  obtain ⟨A', c', w', hr, h2, h3, h4⟩ := run_appF (P := P) w t o.type e ht hi base A n l HR A2 m c2 l2 HR2 hm hlen hbase hnil
  unfold Oper.wp execOp
  simp only [ho, resolve, invoke, builtin, Sem.run_bind, Sem.run_pure, Result.andThen_ok, List.map_toArray, List.map_cons, List.map_nil, hs, hx, hr]
  exact hK _ _ (h A' (n + m) c' _ w' rfl rfl h2 h3 h4)
/-- bytes of whatever stands at the other place, none too, onto a slice without room: read -/
theorem run_appX {P : Program} (w : World) (t ty e : TypeId) (ht : P.underlying t = some (.slice e)) (hi : (P.info? e).map (fun i => (i.zero, i.size, i.bytes)) = some (some (.int .u8 0), 1, 1))
    (A : Option Addr) (n : Nat) (l : List UInt8) (HR : Rd w A n n l) (A2 : Option Addr) (m c2 : Nat) (l2 : List UInt8) (HR2 : Rd w A2 m c2 l2) (hlen : n + m ≤ 211106232532992) (hnil : n = 0 → A = none) :
    ∃ A' c' w', (Builtin.append_ #[t, t] ty #[.slice A n n, .slice A2 m c2]).run P w = .ok (.slice A' (n + m) c') w' ∧ Rd w' A' (n + m) c' (l ++ l2) ∧ Kp [] w w' := by
  by_cases hm : m = 0
  · subst hm
    obtain ⟨i, hi, hz, hsize, hby⟩ := info_parts hi
    obtain rfl : l2 = [] := List.eq_nil_of_length_eq_zero HR2.len
    refine ⟨A, n, w, ?_, by simpa using HR, Kp.refl _ _⟩
    cases A <;> cases A2 <;> simp [Builtin.append_, run_underlying ht, sizeOf, typeInfo, hi, hsize, Builtin.lenOf, Builtin.firstCells, storeCells, loadCells, loadCellsFrom]
  · obtain ⟨A', c', w', h1, h2, h3, _⟩ := run_appF (P := P) w t ty e ht hi 0 A n l HR A2 m c2 l2 HR2 (by omega) hlen (by omega) hnil
    exact ⟨A', c', w', h1, h2.rd, h3⟩
theorem wp_appX {w : World} (hgd : o.guard = none) (s x : Operand) (t e : TypeId) (ho : o.op = .call { callee := .builtin .append, args := #[s, x], argTypes := #[t, t] })
    (ht : P.underlying t = some (.slice e)) (hi : (P.info? e).map (fun i => (i.zero, i.size, i.bytes)) = some (some (.int .u8 0), 1, 1))
    (A : Option Addr) (n : Nat) (l : List UInt8) (hs : a.eval s = .slice A n n) (HR : Rd w A n n l)
    (A2 : Option Addr) (m c2 : Nat) (l2 : List UInt8) (hx : a.eval x = .slice A2 m c2) (HR2 : Rd w A2 m c2 l2) (hlen : n + m ≤ 211106232532992) (hnil : n = 0 → A = none)
    (h : ∀ A' k' c' l' w', Hid (k' = n + m) → Hid (l' = l ++ l2) → Rd w' A' k' c' l' → Kp [] w w' → wpList P ops Q rest (a.put o.dst (.slice A' k' c')) w') : wpList P ops Q (o :: rest) a w := by
  refine wpList_plain hgd fun K hK => ?_
  obtain ⟨A', c', w', hr, h2, h3⟩ := run_appX (P := P) w t o.type e ht hi A n l HR A2 m c2 l2 HR2 hlen hnil
  unfold Oper.wp execOp
  simp only [ho, resolve, invoke, builtin, Sem.run_bind, Sem.run_pure, Result.andThen_ok, List.map_toArray, List.map_cons, List.map_nil, hs, hx, hr]
  exact hK _ _ (h A' (n + m) c' _ w' rfl rfl h2 h3)
end
section
variable {P : Program} {o : Oper} {a : Act} {w : World} {K : Act → World → Prop} {Q : Exit → Act → World → Prop}
/-- the same, as one operation -/
theorem op_appX (s x : Operand) (t e : TypeId) (ho : o.op = .call { callee := .builtin .append, args := #[s, x], argTypes := #[t, t] })
    (ht : P.underlying t = some (.slice e)) (hi : (P.info? e).map (fun i => (i.zero, i.size, i.bytes)) = some (some (.int .u8 0), 1, 1))
    (A : Option Addr) (n : Nat) (l : List UInt8) (hs : a.eval s = .slice A n n) (HR : Rd w A n n l)
    (A2 : Option Addr) (m c2 : Nat) (l2 : List UInt8) (hx : a.eval x = .slice A2 m c2) (HR2 : Rd w A2 m c2 l2) (hlen : n + m ≤ 211106232532992) (hnil : n = 0 → A = none)
    (h : ∀ A' c' w', Rd w' A' (n + m) c' (l ++ l2) → Kp [] w w' → K (a.put o.dst (.slice A' (n + m) c')) w') : o.wp P a w K Q := by
  obtain ⟨A', c', w', hr, h2, h3⟩ := run_appX (P := P) w t o.type e ht hi A n l HR A2 m c2 l2 HR2 hlen hnil
  unfold Oper.wp execOp
  simp only [ho, resolve, invoke, builtin, Sem.run_bind, Sem.run_pure, Result.andThen_ok, List.map_toArray, List.map_cons, List.map_nil, hs, hx, hr]
  exact h A' c' w' h2 h3
theorem op_appF (s x : Operand) (t e : TypeId) (ho : o.op = .call { callee := .builtin .append, args := #[s, x], argTypes := #[t, t] })
    (ht : P.underlying t = some (.slice e)) (hi : (P.info? e).map (fun i => (i.zero, i.size, i.bytes)) = some (some (.int .u8 0), 1, 1))
    (base : Nat) (A : Option Addr) (n : Nat) (l : List UInt8) (hs : a.eval s = .slice A n n) (HR : Rd w A n n l)
    (A2 : Option Addr) (m c2 : Nat) (l2 : List UInt8) (hx : a.eval x = .slice A2 m c2) (HR2 : Rd w A2 m c2 l2) (hm : 0 < m) (hlen : n + m ≤ 211106232532992) (hbase : base ≤ w.heap.size) (hnil : n = 0 → A = none)
    (h : ∀ A' c' w', Ow w' base e 1 A' (n + m) c' ((l ++ l2).map u8) → Kp [] w w' → A' = some ⟨w.heap.size, 0, none⟩ → K (a.put o.dst (.slice A' (n + m) c')) w') : o.wp P a w K Q := by
  obtain ⟨A', c', w', hr, h2, h3, h4⟩ := run_appF (P := P) w t o.type e ht hi base A n l HR A2 m c2 l2 HR2 hm hlen hbase hnil
  unfold Oper.wp execOp
  simp only [ho, resolve, invoke, builtin, Sem.run_bind, Sem.run_pure, Result.andThen_ok, List.map_toArray, List.map_cons, List.map_nil, hs, hx, hr]
  exact h A' c' w' h2 h3 h4
/-- bytes onto a row of the call's own, as one operation -/
theorem op_appO (s x : Operand) (t e : TypeId) (ho : o.op = .call { callee := .builtin .append, args := #[s, x], argTypes := #[t, t] })
    (ht : P.underlying t = some (.slice e)) (hi : (P.info? e).map (fun i => (i.zero, i.size, i.bytes)) = some (some (.int .u8 0), 1, 1))
    (base : Nat) (A : Option Addr) (n c : Nat) (l : List UInt8) (hs : a.eval s = .slice A n c) (HO : Ow w base e 1 A n c (l.map u8))
    (A2 : Option Addr) (m c2 : Nat) (l2 : List UInt8) (hx : a.eval x = .slice A2 m c2) (HR : Rd w A2 m c2 l2) (hlen : n + m ≤ 211106232532992) (hbase : base ≤ w.heap.size)
    (h : ∀ A' c' w', Ow w' base e 1 A' (n + m) c' ((l ++ l2).map u8) → Kp (ob A) w w' → (A' = A ∨ A' = some ⟨w.heap.size, 0, none⟩) → K (a.put o.dst (.slice A' (n + m) c')) w') : o.wp P a w K Q := by
  obtain ⟨A', c', w', hr, h2, h3, h4, _⟩ := run_app (P := P) w t o.type e (.int .u8 0) 1 1 ht hi rfl (by omega) base A n c (l.map u8) HO A2 m c2 (l2.map u8) (by simp [HR.len]) HR.at_ (u8_one l2) (by simp only [maxLen]; omega) (by omega) hbase
  unfold Oper.wp execOp
  simp only [ho, resolve, invoke, builtin, Sem.run_bind, Sem.run_pure, Result.andThen_ok, List.map_toArray, List.map_cons, List.map_nil, hs, hx, hr]
  exact h A' c' w' (by rw [List.map_append]; exact h2) h3 h4
end
end Go.Proofs.Ytibeaombhjdakaa
