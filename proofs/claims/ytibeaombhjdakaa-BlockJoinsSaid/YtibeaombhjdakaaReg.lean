/- A region that draws its order, by what each operation leaves: one fact 'V j' for each operation, whatever the order; those of 'cs', which turn the world, come up in their own order. Over any program. -/
import Derived.Orders
import Derived.Tactics
import Derived.KernelRfl
set_option linter.unusedVariables false
namespace Go.Proofs.Ytibeaombhjdakaa

section
variable {P : Program} {ops : Array Oper} {Q : Exit → Act → World → Prop}

/-- does operation o wait for operation i? -/
def waits (o : Oper) (i : Nat) : Bool := o.after.any fun e => Region.binds .any e && e.on == i
/-- does operation j wait for i, through others? -/
def waitsAll (ops : Array Oper) (i : Nat) : Nat → Nat → Bool
  | 0, _ => false
  | n + 1, j => match ops[j]? with
    | some o => o.after.any fun e => Region.binds .any e && (e.on == i || waitsAll ops i n e.on)
    | none => false
/-- the operations of cs wait one for the other -/
def chained (ops : Array Oper) : List Nat → Bool
  | i :: j :: r => waitsAll ops i 40 j && chained ops (j :: r)
  | _ => true
/-- no two operations write one slot -/
def apartDst : List Oper → Bool
  | [] => true
  | o :: r => (match o.dst with | some d => r.all fun p => p.dst != some d | none => true) && apartDst r
def dstsBelow (n : Nat) (l : List Oper) : Bool := l.all fun o => match o.dst with | some d => decide (d < n) | none => true

/-- What is known where operation o comes up. -/
structure EnvAt (ops : Array Oper) (V : Nat → Value → World → Prop) (a0 : Act) (o : Oper) (a : Act) (w : World) : Prop where
  defers : a.defers = a0.defers
  pred : ∀ (i : Nat) (oi : Oper) (d : Tmp), ops[i]? = some oi → oi.dst = some d → waits o i = true → ∃ v, a.tmps[d]? = some v ∧ V i v w
  out : ∀ t, (ops.toList.all fun p => p.dst != some t) = true → a.tmps[t]? = a0.tmps[t]?

/-- An operation that turns the world: stage k. -/
def OblC (P : Program) (ops : Array Oper) (V : Nat → Value → World → Prop) (C : Nat → World → Prop) (RR : Nat → World → World → Prop) (Q : Exit → Act → World → Prop) (a0 : Act) (k j : Nat) (o : Oper) : Prop :=
  ∀ (a : Act) (w : World), EnvAt ops V a0 o a w → C k w → ∀ K : Act → World → Prop, (∀ v w', V j v w' → C (k + 1) w' → RR k w w' → K (a.put o.dst v) w') →
    if Region.wanted o (yielded ops a.tmps) = true then o.wp P a w K Q else K (a.put o.dst undef) w
/-- An operation that leaves the world alone. -/
def OblP (P : Program) (ops : Array Oper) (V : Nat → Value → World → Prop) (C : Nat → World → Prop) (Q : Exit → Act → World → Prop) (a0 : Act) (j : Nat) (o : Oper) : Prop :=
  ∀ (a : Act) (w : World), EnvAt ops V a0 o a w → (∃ k, C k w) → ∀ K : Act → World → Prop, (∀ v, V j v w → K (a.put o.dst v) w) →
    if Region.wanted o (yielded ops a.tmps) = true then o.wp P a w K Q else K (a.put o.dst undef) w
def Obl (P : Program) (ops : Array Oper) (V : Nat → Value → World → Prop) (C : Nat → World → Prop) (RR : Nat → World → World → Prop) (Q : Exit → Act → World → Prop) (a0 : Act) (cs : List Nat) (j : Nat) (o : Oper) : Prop :=
  match cs.idxOf? j with
  | some k => OblC P ops V C RR Q a0 k j o
  | none => OblP P ops V C Q a0 j o
def OblAll (f : Nat → Oper → Prop) : Nat → List Oper → Prop
  | _, [] => True
  | j, o :: r => f j o ∧ OblAll f (j + 1) r

theorem OblAll.get {f : Nat → Oper → Prop} : ∀ (l : List Oper) (n : Nat), OblAll f n l → ∀ (j : Nat) (o : Oper), l[j]? = some o → f (n + j) o
  | [], _, _, j, o, ho => by simp at ho
  | x :: r, n, h, 0, o, ho => by
    simp at ho
    subst ho
    exact h.1
  | x :: r, n, h, j + 1, o, ho => by
    have := OblAll.get r (n + 1) h.2 j o (by simpa using ho)
    rwa [show n + (j + 1) = n + 1 + j by omega]

/-- all operations' values put, one by one -/
def putAll (vs : Nat → Value) : Nat → List Oper → Act → Act
  | _, [], a => a
  | j, o :: r, a => putAll vs (j + 1) r (a.put o.dst (vs j))

theorem apartDst_spec : ∀ (l : List Oper), apartDst l = true → ∀ (i j : Nat) (oi oj : Oper) (d : Tmp), l[i]? = some oi → l[j]? = some oj → oi.dst = some d → oj.dst = some d → i = j
  | [], _, i, j, oi, oj, d, hi, hj, _, _ => by simp at hi
  | x :: r, h, i, j, oi, oj, d, hi, hj, di, dj => by
    simp only [apartDst, Bool.and_eq_true] at h
    cases i with
    | zero =>
      cases j with
      | zero => rfl
      | succ j =>
        simp at hi hj
        subst hi
        have h1 := h.1
        rw [di] at h1
        simp only [List.all_eq_true] at h1
        have := h1 oj (List.mem_of_getElem? hj)
        simp [dj] at this
    | succ i =>
      cases j with
      | zero =>
        simp at hi hj
        subst hj
        have h1 := h.1
        rw [dj] at h1
        simp only [List.all_eq_true] at h1
        have := h1 oi (List.mem_of_getElem? hi)
        simp [di] at this
      | succ j => rw [apartDst_spec r h.2 i j oi oj d (by simpa using hi) (by simpa using hj) di dj]

theorem putAll_defers (vs : Nat → Value) : ∀ (l : List Oper) (n : Nat) (a : Act), (putAll vs n l a).defers = a.defers
  | [], _, _ => rfl
  | o :: r, n, a => by
    rw [putAll, putAll_defers vs r (n + 1)]
    cases o.dst <;> rfl
theorem put_size (a : Act) (d : Option Tmp) (v : Value) : (a.put d v).tmps.size = a.tmps.size := by cases d <;> simp [Act.put]
theorem putAll_size (vs : Nat → Value) : ∀ (l : List Oper) (n : Nat) (a : Act), (putAll vs n l a).tmps.size = a.tmps.size
  | [], _, _ => rfl
  | o :: r, n, a => by rw [putAll, putAll_size vs r (n + 1), put_size]
theorem put_get_same (a : Act) (d : Nat) (v : Value) (h : d < a.tmps.size) : (a.put (some d) v).tmps[d]? = some v := by simp [Act.put, h]
theorem put_get_other (a : Act) (d : Option Tmp) (v : Value) (t : Nat) (h : d ≠ some t) : (a.put d v).tmps[t]? = a.tmps[t]? := by
  cases d with
  | none => rfl
  | some d =>
    have : d ≠ t := fun e => h (by rw [e])
    simp [Act.put, Array.getElem?_setIfInBounds_ne this]
theorem putAll_out (vs : Nat → Value) (t : Nat) : ∀ (l : List Oper) (n : Nat) (a : Act), (∀ o ∈ l, o.dst ≠ some t) → (putAll vs n l a).tmps[t]? = a.tmps[t]?
  | [], _, _, _ => rfl
  | o :: r, n, a, h => by
    rw [putAll, putAll_out vs t r (n + 1) _ (fun p hp => h p (List.mem_cons_of_mem _ hp)), put_get_other _ _ _ _ (h o (List.mem_cons_self ..))]
theorem putAll_at (vs : Nat → Value) (t : Nat) : ∀ (l : List Oper) (n : Nat) (a : Act), apartDst l = true → t < a.tmps.size → ∀ (j : Nat) (o : Oper), l[j]? = some o → o.dst = some t → (putAll vs n l a).tmps[t]? = some (vs (n + j))
  | [], _, _, _, _, j, o, ho, _ => by simp at ho
  | x :: r, n, a, hd, hs, 0, o, ho, hdst => by
    simp at ho
    subst ho
    simp only [apartDst, hdst, Bool.and_eq_true, List.all_eq_true] at hd
    rw [putAll, putAll_out vs t r (n + 1) _ (fun p hp => by simpa using hd.1 p hp), hdst, put_get_same _ _ _ hs]
    rfl
  | x :: r, n, a, hd, hs, j + 1, o, ho, hdst => by
    simp only [apartDst, Bool.and_eq_true] at hd
    rw [putAll, putAll_at vs t r (n + 1) _ hd.2 (by rw [put_size]; exact hs) j o (by simpa using ho) hdst, show n + 1 + j = n + (j + 1) by omega]

/-- The state in the middle: what is listed has left its fact; so many of cs are listed. -/
structure EnvMid (ops : Array Oper) (V : Nat → Value → World → Prop) (C : Nat → World → Prop) (cs : List Nat) (a0 : Act) (listed : Array Bool) (a : Act) (w : World) : Prop where
  defers : a.defers = a0.defers
  size : a.tmps.size = a0.tmps.size
  lsize : listed.size = ops.size
  out : ∀ t, (ops.toList.all fun p => p.dst != some t) = true → a.tmps[t]? = a0.tmps[t]?
  done : ∀ (j : Nat) (o : Oper) (d : Tmp), listed[j]? = some true → ops[j]? = some o → o.dst = some d → ∃ v, a.tmps[d]? = some v ∧ V j v w
  shut : ∀ (j : Nat) (o : Oper), listed[j]? = some true → ops[j]? = some o → ∀ e ∈ o.after, Region.binds .any e = true → listed[e.on]? = some true
  stage : ∃ k, k ≤ cs.length ∧ C k w ∧ (∀ p i, cs[p]? = some i → (listed[i]? = some true ↔ p < k))

theorem waitsAll_listed {listed : Array Bool} (shut : ∀ (j : Nat) (o : Oper), listed[j]? = some true → ops[j]? = some o → ∀ e ∈ o.after, Region.binds .any e = true → listed[e.on]? = some true) (i : Nat) :
    ∀ (n j : Nat), (∀ o : Oper, ops[j]? = some o → ∀ e ∈ o.after, Region.binds .any e = true → listed[e.on]? = some true) → waitsAll ops i n j = true → listed[i]? = some true
  | 0, j, _, h => by simp [waitsAll] at h
  | n + 1, j, hj, h => by
    simp only [waitsAll] at h
    split at h
    · rename_i o ho
      rw [← Array.any_toList, List.any_eq_true] at h
      obtain ⟨e, he, hb⟩ := h
      rw [Array.mem_toList_iff] at he
      simp only [Bool.and_eq_true, Bool.or_eq_true, beq_iff_eq] at hb
      have hl := hj o ho e he hb.1
      rcases hb.2 with rfl | hw
      · exact hl
      · exact waitsAll_listed shut i n e.on (fun o' ho' e' he' hb' => shut e.on o' hl ho' e' he' hb') hw
    · simp at h

theorem chained_get : ∀ (cs : List Nat), chained ops cs = true → ∀ p i j, cs[p]? = some i → cs[p + 1]? = some j → waitsAll ops i 40 j = true
  | [], _, p, i, j, hi, _ => by simp at hi
  | [x], _, p, i, j, _, hj => by simp at hj
  | x :: y :: r, h, 0, i, j, hi, hj => by
    simp at hi hj
    subst hi hj
    simp only [chained, Bool.and_eq_true] at h
    exact h.1
  | x :: y :: r, h, p + 1, i, j, hi, hj => by
    simp only [chained, Bool.and_eq_true] at h
    exact chained_get (y :: r) h.2 p i j (by simpa using hi) (by simpa using hj)

theorem ready_spec {md : Region.Mode} {listed : Array Bool} {i : Nat} (h : i ∈ Region.ready md ops listed) : i < ops.size ∧ listed.getD i true = false ∧ ∃ o, ops[i]? = some o ∧ ∀ e ∈ o.after, Region.binds md e = true → listed.getD e.on false = true := by
  unfold Region.ready at h
  rw [List.mem_filter] at h
  obtain ⟨h1, h2⟩ := h
  have hlt : i < ops.size := List.mem_range.1 h1
  simp only [Bool.and_eq_true, Bool.not_eq_true'] at h2
  refine ⟨hlt, h2.1, ops[i], Array.getElem?_eq_getElem hlt, ?_⟩
  have h3 := h2.2
  rw [Array.getElem?_eq_getElem hlt] at h3
  simp only [Option.map_some, Option.getD_some] at h3
  rw [Array.all_eq_true_iff_forall_mem] at h3
  intro e he hb
  have := h3 e he
  rw [hb] at this
  simpa using this

theorem getD_true {listed : Array Bool} {i : Nat} (h : listed.getD i false = true) : listed[i]? = some true := by
  rw [Array.getD_eq_getD_getElem?] at h
  cases hl : listed[i]? with
  | none => simp [hl] at h
  | some b => simp [hl] at h; rw [h]

theorem env_any (V : Nat → Value → World → Prop) (C : Nat → World → Prop) (RR : Nat → World → World → Prop) (cs : List Nat) (a0 : Act) (hdist : apartDst ops.toList = true) (hbelow : dstsBelow a0.tmps.size ops.toList = true)
    (hnd : cs.Nodup) (hch : chained ops cs = true) (hstab : ∀ k j v w w', cs[k]? ≠ some j → RR k w w' → V j v w → V j v w')
    (hop : ∀ (j : Nat) (o : Oper), ops[j]? = some o → Obl P ops V C RR Q a0 cs j o)
    (hend : ∀ (listed : Array Bool) (a : Act) (w : World), EnvMid ops V C cs a0 listed a w → Region.ready .any ops listed = [] → Q .normal a w) :
    ∀ (fuel : Nat) (listed : Array Bool) (a : Act) (w : World), EnvMid ops V C cs a0 listed a w → fuel + (listed.toList.filter id).length = ops.size → wpAny P .any ops Q fuel listed a w := by
  intro fuel
  induction fuel with
  | zero =>
    intro listed a w E hf
    have hall : Region.ready .any ops listed = [] := by
      rw [List.eq_nil_iff_forall_not_mem]
      intro i hi
      obtain ⟨hlt, hnl, _⟩ := ready_spec hi
      have e1 := E.lsize
      have e2 : listed.toList.length = listed.size := Array.length_toList
      have hl : (listed.toList.filter id).length = listed.toList.length := by omega
      rw [List.length_filter_eq_length_iff] at hl
      have hlt' : i < listed.size := by rw [E.lsize]; exact hlt
      have h1 := hl listed[i] (by simp)
      rw [Array.getD_eq_getD_getElem?, Array.getElem?_eq_getElem hlt'] at hnl
      simp at hnl h1
      rw [h1] at hnl
      cases hnl
    exact ⟨hall, hend listed a w E hall⟩
  | succ fuel ih =>
    intro listed a w E hf
    refine ⟨fun h => hend listed a w E h, fun i hi => ?_⟩
    obtain ⟨hlt, hnl, o, ho, hpre⟩ := ready_spec hi
    have hlt' : i < listed.size := by rw [E.lsize]; exact hlt
    have hnl' : listed[i]? = some false := by
      rw [Array.getD_eq_getD_getElem?, Array.getElem?_eq_getElem hlt'] at hnl
      rw [Array.getElem?_eq_getElem hlt']
      simpa using hnl
    have hpre' : ∀ e ∈ o.after, Region.binds .any e = true → listed[e.on]? = some true := fun e he hb => getD_true (hpre e he hb)
    have EA : EnvAt ops V a0 o a w := ⟨E.defers, fun i' oi d hi' hd hw => by
      unfold waits at hw
      rw [← Array.any_toList, List.any_eq_true] at hw
      obtain ⟨e, he, hb⟩ := hw
      rw [Array.mem_toList_iff] at he
      simp only [Bool.and_eq_true, beq_iff_eq] at hb
      obtain ⟨hb1, rfl⟩ := hb
      exact E.done _ oi d (hpre' e he hb1) hi' hd, E.out⟩
    have hset : ∀ j, (listed.setIfInBounds i true)[j]? = some true ↔ (j = i ∨ listed[j]? = some true) := by
      intro j
      rw [Array.getElem?_setIfInBounds]
      by_cases hj : i = j
      · subst hj; simp [hlt']
      · simp [hj, Ne.symm hj]
    -- the new state, whatever the operation was
    have next : ∀ (v : Value) (w' : World) (k' : Nat), V i v w' → (∀ j u, j ≠ i → V j u w → V j u w') → k' ≤ cs.length → C k' w' → (∀ p j, cs[p]? = some j → ((j = i ∨ listed[j]? = some true) ↔ p < k')) →
        EnvMid ops V C cs a0 (listed.setIfInBounds i true) (a.put o.dst v) w' := by
      intro v w' k' hv hst hk hC hp
      refine ⟨?_, by rw [put_size]; exact E.size, by simp [E.lsize], ?_, ?_, ?_, ⟨k', hk, hC, fun p j hj => by rw [hset]; exact hp p j hj⟩⟩
      · have := E.defers
        cases hd : o.dst <;> simpa [Act.put] using this
      · intro t ht
        have h1 : o.dst ≠ some t := by
          simp only [List.all_eq_true] at ht
          have := ht o (List.mem_of_getElem? (by rw [Array.getElem?_toList]; exact ho))
          simpa using this
        rw [put_get_other _ _ _ _ h1]
        exact E.out t ht
      · intro j oj d hj hoj hd
        rw [hset] at hj
        by_cases hji : j = i
        · subst hji
          rw [ho] at hoj
          obtain rfl := Option.some.inj hoj
          have hds : d < a.tmps.size := by
            rw [E.size]
            unfold dstsBelow at hbelow
            simp only [List.all_eq_true] at hbelow
            have := hbelow o (List.mem_of_getElem? (by rw [Array.getElem?_toList]; exact ho))
            rw [hd] at this
            simpa using this
          exact ⟨v, by rw [hd]; exact put_get_same _ _ _ hds, hv⟩
        · have hl : listed[j]? = some true := by rcases hj with h | h; exact absurd h hji; exact h
          obtain ⟨u, hu, hVu⟩ := E.done j oj d hl hoj hd
          refine ⟨u, ?_, hst j u hji hVu⟩
          have h1 : o.dst ≠ some d := fun e => hji (apartDst_spec ops.toList hdist j i oj o d (by rw [Array.getElem?_toList]; exact hoj) (by rw [Array.getElem?_toList]; exact ho) hd e)
          rw [put_get_other _ _ _ _ h1]
          exact hu
      · intro j oj hj hoj e he hb
        rw [hset] at hj ⊢
        rcases hj with rfl | hj
        · rw [ho] at hoj
          obtain rfl := Option.some.inj hoj
          exact .inr (hpre' e he hb)
        · exact .inr (E.shut j oj hj hoj e he hb)
    have hcount : fuel + ((listed.setIfInBounds i true).toList.filter id).length = ops.size := by
      have h1 : ((listed.setIfInBounds i true).toList.filter id).length = (listed.toList.filter id).length + 1 := by
        rw [Array.toList_setIfInBounds]
        have hi' : i < listed.toList.length := by simpa using hlt'
        have hv : listed.toList[i] = false := by
          have := hnl'
          rw [Array.getElem?_eq_getElem hlt'] at this
          simpa using this
        rw [List.set_eq_take_append_cons_drop, if_pos hi', List.filter_append, List.filter_cons]
        have hsplit : listed.toList = listed.toList.take i ++ listed.toList[i] :: listed.toList.drop (i + 1) := by rw [List.getElem_cons_drop hi', List.take_append_drop]
        have h2 : (listed.toList.filter id).length = ((listed.toList.take i).filter id).length + ((listed.toList.drop (i + 1)).filter id).length := by
          conv => lhs; rw [hsplit]
          rw [List.filter_append, List.filter_cons, hv]
          simp
        rw [h2]
        simp
        omega
      omega
    obtain ⟨k, hk, hCk, hstage⟩ := E.stage
    have hO := hop i o ho
    unfold wpOp
    rw [ho]
    show if Region.wanted o (yielded ops a.tmps) = true then _ else _
    cases hidx : cs.idxOf? i with
    | some p =>
      unfold Obl at hO
      rw [hidx] at hO
      have hp : cs[p]? = some i := by
        rw [List.idxOf?_eq_some_iff] at hidx
        obtain ⟨h1, h2, _⟩ := hidx
        rw [List.getElem?_eq_getElem h1]
        simpa using h2
      have hplt : p < cs.length := (List.getElem?_eq_some_iff.1 hp).1
      have hpk : p = k := by
        have h1 : ¬ p < k := fun h => by
          have := (hstage p i hp).2 h
          rw [hnl'] at this
          cases this
        have h2 : ¬ k < p := fun h => by
          obtain ⟨q, rfl⟩ : ∃ q, p = q + 1 := ⟨p - 1, by omega⟩
          have hq : q < cs.length := by omega
          have hqi : cs[q]? = some cs[q] := List.getElem?_eq_getElem hq
          have hw := chained_get (ops := ops) cs hch q cs[q] i hqi hp
          have hl := waitsAll_listed (ops := ops) E.shut cs[q] 40 i (fun o' ho' e he hb => by rw [ho] at ho'; obtain rfl := Option.some.inj ho'; exact hpre' e he hb) hw
          have := (hstage q cs[q] hqi).1 hl
          omega
        omega
      subst hpk
      have hfin := hO a w EA hCk (fun a' w' => wpAny P .any ops Q fuel (listed.setIfInBounds i true) a' w') (fun v w' hv hC hR => by
        refine ih _ _ _ (next v w' (p + 1) hv (fun j u hji h => hstab p j u w w' (fun e => hji (Option.some.inj (hp.symm.trans e)).symm) hR h) hplt hC ?_) hcount
        intro q j hq
        constructor
        · intro h
          rcases h with rfl | h
          · have : q = p := by
              have hql : q < cs.length := (List.getElem?_eq_some_iff.1 hq).1
              exact (List.getElem?_inj hql hnd).1 (hq.trans hp.symm)
            omega
          · have := (hstage q j hq).1 h
            omega
        · intro h
          by_cases hqp : q = p
          · subst hqp
            rw [hp] at hq
            exact .inl (Option.some.inj hq).symm
          · exact .inr ((hstage q j hq).2 (by omega)))
      split
      · rename_i hw; rw [if_pos hw] at hfin; exact .inl hfin
      · rename_i hw; rw [if_neg hw] at hfin; exact hfin
    | none =>
      unfold Obl at hO
      rw [hidx] at hO
      have hni : i ∉ cs := by
        intro hm
        rw [List.idxOf?_eq_none_iff] at hidx
        exact hidx hm
      have hfin := hO a w EA ⟨k, hCk⟩ (fun a' w' => wpAny P .any ops Q fuel (listed.setIfInBounds i true) a' w') (fun v hv => by
        refine ih _ _ _ (next v w k hv (fun _ _ _ h => h) hk hCk ?_) hcount
        intro q j hq
        have hji : j ≠ i := fun e => hni (e ▸ List.mem_of_getElem? hq)
        simp only [hji, false_or]
        exact hstage q j hq)
      split
      · rename_i hw; rw [if_pos hw] at hfin; exact .inl hfin
      · rename_i hw; rw [if_neg hw] at hfin; exact hfin

/-! ### is an operation carried out? -/
theorem want_none {o : Oper} {f : Nat → Option Bool} {A B : Prop} (hg : o.guard = none) (h : A) : if Region.wanted o f = true then A else B := by
  rw [if_pos (by simp [Region.wanted, hg])]
  exact h
theorem want_yes {o og : Oper} {g d : Nat} {b : Bool} {tm : Array Value} {A B : Prop} (hg : o.guard = some (g, b)) (ho : ops[g]? = some og) (hd : og.dst = some d) (ht : tm[d]? = some (.bool b)) (h : A) :
    if Region.wanted o (yielded ops tm) = true then A else B := by
  rw [if_pos (by simp [Region.wanted, hg, yielded, ho, hd, ht])]
  exact h
theorem want_no {o og : Oper} {g d : Nat} {b : Bool} {v : Value} {tm : Array Value} {A B : Prop} (hg : o.guard = some (g, b)) (ho : ops[g]? = some og) (hd : og.dst = some d) (ht : tm[d]? = some v) (hv : v ≠ .bool b) (h : B) :
    if Region.wanted o (yielded ops tm) = true then A else B := by
  rw [if_neg ?_]
  · exact h
  · simp only [Region.wanted, hg, yielded, ho, hd, ht, Option.bind_some]
    intro hh
    split at hh
    · rename_i b' he
      simp at hh
      subst hh
      exact hv (Option.some.inj he)
    · simp at hh

/-- nothing is ready: all is listed -/
def orderly (ops : List Oper) : Bool := (ops.zipIdx).all fun (o, i) => o.after.all fun e => !Region.binds .any e || decide (e.on < i)
theorem all_listed (hord : orderly ops.toList = true) {listed : Array Bool} (hs : listed.size = ops.size) (h : Region.ready .any ops listed = []) : ∀ j, j < ops.size → listed[j]? = some true := by
  intro j
  induction j using Nat.strongRecOn with
  | _ j ih =>
    intro hj
    have hj' : j < listed.size := by omega
    rw [Array.getElem?_eq_getElem hj']
    cases hl : listed[j] with
    | true => rfl
    | false =>
      exfalso
      have hmem : j ∈ Region.ready .any ops listed := by
        unfold Region.ready
        rw [List.mem_filter]
        refine ⟨List.mem_range.2 hj, ?_⟩
        rw [Array.getElem?_eq_getElem hj, Array.getD_eq_getD_getElem?, Array.getElem?_eq_getElem hj', hl]
        simp only [Option.getD_some, Bool.not_false, Bool.true_and, Option.map_some]
        rw [← Array.all_toList, List.all_eq_true]
        intro e he
        rw [Array.mem_toList_iff] at he
        unfold orderly at hord
        rw [List.all_eq_true] at hord
        have h1 := hord (ops[j], j) (by
          rw [List.mem_zipIdx_iff_getElem?]
          show ops.toList[j]? = some ops[j]
          rw [Array.getElem?_toList]; exact Array.getElem?_eq_getElem hj)
        simp only at h1
        rw [← Array.all_toList, List.all_eq_true] at h1
        have h2 := h1 e (by rw [Array.mem_toList_iff]; exact he)
        simp only [Bool.or_eq_true, Bool.not_eq_true', decide_eq_true_eq] at h2 ⊢
        rcases h2 with h2 | h2
        · exact .inl h2
        · refine .inr ?_
          rw [Array.getD_eq_getD_getElem?, ih e.on h2 (by omega)]
          rfl
      rw [h] at hmem
      cases hmem

/-- THE LAW: a region that draws its order. -/
theorem wp_region_env {rid : Nat} {a0 : Act} {w0 : World} (hm : P.follows .mixedOrders = true) (V : Nat → Value → World → Prop) (C : Nat → World → Prop) (RR : Nat → World → World → Prop) (cs : List Nat)
    (hdist : apartDst ops.toList = true) (hbelow : dstsBelow a0.tmps.size ops.toList = true) (hord : orderly ops.toList = true) (hnd : cs.Nodup) (hch : chained ops cs = true)
    (hstab : ∀ k j v w w', cs[k]? ≠ some j → RR k w w' → V j v w → V j v w') (hC : C 0 w0.drew)
    (hop : OblAll (Obl P ops V C RR Q a0 cs) 0 ops.toList)
    (hcs : cs.all (fun i => decide (i < ops.size)) = true)
    (hend : ∀ (vs : Nat → Value) (w : World), C cs.length w → (∀ j o, ops[j]? = some o → o.dst ≠ none → V j (vs j) w) → Q .normal (putAll vs 0 ops.toList a0) w) :
    (Code.region rid ops true).wp P Q a0 w0 := by
  refine wp_region_any hm ?_
  refine env_any V C RR cs a0 hdist hbelow hnd hch hstab (fun j o ho => by
    have := OblAll.get ops.toList 0 hop j o (by rw [Array.getElem?_toList]; exact ho)
    simpa using this) ?_ ops.size (Array.replicate ops.size false) a0 _ ?_ ?_
  · intro listed a w E hr
    have hall := all_listed hord E.lsize hr
    obtain ⟨k, hk, hCk, hst⟩ := E.stage
    have hkl : k = cs.length := by
      rcases Nat.lt_or_ge k cs.length with h | h
      · have hi : cs[k]? = some cs[k] := List.getElem?_eq_getElem h
        have hlt : cs[k] < ops.size := by
          rw [List.all_eq_true] at hcs
          simpa using hcs cs[k] (List.getElem_mem h)
        have := (hst k cs[k] hi).1 (hall _ hlt)
        omega
      · omega
    subst hkl
    let vs : Nat → Value := fun j => match (ops[j]?).bind (·.dst) with | some d => (a.tmps[d]?).getD undef | none => undef
    have hV : ∀ j o, ops[j]? = some o → o.dst ≠ none → V j (vs j) w := by
      intro j o ho hd
      have hj : j < ops.size := (Array.getElem?_eq_some_iff.1 ho).1
      cases hdd : o.dst with
      | none => exact absurd hdd hd
      | some d =>
        obtain ⟨v, hv, hVv⟩ := E.done j o d (hall j hj) ho hdd
        have : vs j = v := by simp [vs, ho, hdd, hv]
        rw [this]
        exact hVv
    have hfin := hend vs w hCk hV
    have hact : putAll vs 0 ops.toList a0 = a := by
      have ht : (putAll vs 0 ops.toList a0).tmps = a.tmps := by
        apply Array.ext_getElem?
        intro t
        by_cases hout : (ops.toList.all fun p => p.dst != some t) = true
        · rw [E.out t hout]
          refine putAll_out vs t _ _ _ (fun o ho => ?_)
          rw [List.all_eq_true] at hout
          simpa using hout o ho
        · rw [List.all_eq_true] at hout
          obtain ⟨o, ho⟩ := Classical.not_forall.1 hout
          obtain ⟨hmem, hd⟩ := Classical.not_imp.1 ho
          have hd' : o.dst = some t := by simpa using hd
          obtain ⟨j, hj⟩ := List.getElem?_of_mem hmem
          have hjo : ops[j]? = some o := by rw [Array.getElem?_toList] at hj; exact hj
          have htlt : t < a0.tmps.size := by
            unfold dstsBelow at hbelow
            rw [List.all_eq_true] at hbelow
            have := hbelow o hmem
            rw [hd'] at this
            simpa using this
          rw [putAll_at vs t _ 0 _ hdist htlt j o hj hd']
          obtain ⟨v, hv, _⟩ := E.done j o t (hall j (Array.getElem?_eq_some_iff.1 hjo).1) hjo hd'
          have : vs j = v := by simp [vs, hjo, hd', hv]
          rw [hv, Nat.zero_add, this]
      have hd : (putAll vs 0 ops.toList a0).defers = a.defers := by rw [putAll_defers, E.defers]
      cases h1 : putAll vs 0 ops.toList a0
      cases a
      rw [h1] at ht hd
      simp only at ht hd
      rw [ht, hd]
    rw [hact] at hfin
    exact hfin
  · refine ⟨rfl, rfl, by simp, fun _ _ => rfl, fun j o d hj => ?_, fun j o hj => ?_, 0, Nat.zero_le _, hC, fun p i _ => ?_⟩
    · rw [Array.getElem?_replicate] at hj
      split at hj <;> cases hj
    · rw [Array.getElem?_replicate] at hj
      split at hj <;> cases hj
    · constructor
      · intro h
        rw [Array.getElem?_replicate] at h
        split at h <;> cases h
      · intro h; omega
  · have : ((Array.replicate ops.size false).toList.filter id) = [] := by
      rw [List.filter_eq_nil_iff]
      intro b hb
      simp at hb
      simp [hb.2]
    rw [this]
    simp

/-- each fact stays -/
def Stab (RR : World → World → Prop) (F : Value → World → Prop) : Prop := ∀ v w w', RR w w' → F v w → F v w'
def StabAll (RR : World → World → Prop) : List (Value → World → Prop) → Prop
  | [] => True
  | F :: r => Stab RR F ∧ StabAll RR r
theorem Stab.const {RR : World → World → Prop} (F : Value → Prop) : Stab RR (fun v _ => F v) := fun _ _ _ _ h => h
theorem StabAll.get {RR : World → World → Prop} : ∀ (l : List (Value → World → Prop)), StabAll RR l → ∀ (j : Nat) (v : Value) (w w' : World), RR w w' → l.getD j (fun _ _ => True) v w → l.getD j (fun _ _ => True) v w'
  | [], _, j, v, w, w', _, _ => by simp
  | F :: r, h, 0, v, w, w', hR, hv => h.1 v w w' hR hv
  | F :: r, h, j + 1, v, w, w', hR, hv => StabAll.get r h.2 j v w w' hR (by simpa using hv)
/-- the same law, the facts as a list -/
theorem wp_region_list {rid : Nat} {a0 : Act} {w0 : World} (hm : P.follows .mixedOrders = true) (Vs : List (Value → World → Prop)) (C : Nat → World → Prop) (RR : World → World → Prop) (cs : List Nat)
    (hdist : apartDst ops.toList = true) (hbelow : dstsBelow a0.tmps.size ops.toList = true) (hord : orderly ops.toList = true) (hnd : cs.Nodup) (hch : chained ops cs = true)
    (hstab : StabAll RR Vs) (hC : C 0 w0.drew)
    (hop : OblAll (Obl P ops (fun j => Vs.getD j (fun _ _ => True)) C (fun _ => RR) Q a0 cs) 0 ops.toList)
    (hcs : cs.all (fun i => decide (i < ops.size)) = true)
    (hend : ∀ (vs : Nat → Value) (w : World), C cs.length w → (∀ j o, ops[j]? = some o → o.dst ≠ none → Vs.getD j (fun _ _ => True) (vs j) w) → Q .normal (putAll vs 0 ops.toList a0) w) :
    (Code.region rid ops true).wp P Q a0 w0 :=
  wp_region_env hm (fun j => Vs.getD j (fun _ _ => True)) C (fun _ => RR) cs hdist hbelow hord hnd hch (fun _ j v w w' _ => StabAll.get Vs hstab j v w w') hC hop hcs hend
/-- the law, each change with a relation of its own: a fact told by operation j abides the changes at other places alone -/
def StabsAt (RR : Nat → World → World → Prop) (cs : List Nat) (j : Nat) (F : Value → World → Prop) : Prop := ∀ k v w w', k < cs.length → cs[k]? ≠ some j → RR k w w' → F v w → F v w'
def StabsAll (RR : Nat → World → World → Prop) (cs : List Nat) : Nat → List (Value → World → Prop) → Prop
  | _, [] => True
  | j, F :: r => StabsAt RR cs j F ∧ StabsAll RR cs (j + 1) r
theorem StabsAt.const {RR : Nat → World → World → Prop} {cs : List Nat} {j : Nat} (F : Value → Prop) : StabsAt RR cs j (fun v _ => F v) := fun _ _ _ _ _ _ _ h => h
theorem StabsAll.get {RR : Nat → World → World → Prop} {cs : List Nat} : ∀ (l : List (Value → World → Prop)) (n : Nat), StabsAll RR cs n l → ∀ (k j : Nat) (v : Value) (w w' : World), k < cs.length → cs[k]? ≠ some (n + j) → RR k w w' → l.getD j (fun _ _ => True) v w → l.getD j (fun _ _ => True) v w'
  | [], _, _, k, j, v, w, w', _, _, _, _ => by simp
  | F :: r, n, h, k, 0, v, w, w', hk, hc, hR, hv => h.1 k v w w' hk hc hR hv
  | F :: r, n, h, k, j + 1, v, w, w', hk, hc, hR, hv => StabsAll.get r (n + 1) h.2 k j v w w' hk (by rwa [show n + 1 + j = n + (j + 1) by omega]) hR (by simpa using hv)
theorem wp_region_lists {rid : Nat} {a0 : Act} {w0 : World} (hm : P.follows .mixedOrders = true) (Vs : List (Value → World → Prop)) (C : Nat → World → Prop) (RR : Nat → World → World → Prop) (cs : List Nat)
    (hdist : apartDst ops.toList = true) (hbelow : dstsBelow a0.tmps.size ops.toList = true) (hord : orderly ops.toList = true) (hnd : cs.Nodup) (hch : chained ops cs = true)
    (hstab : StabsAll RR cs 0 Vs) (hC : C 0 w0.drew)
    (hop : OblAll (Obl P ops (fun j => Vs.getD j (fun _ _ => True)) C (fun k w w' => k < cs.length ∧ RR k w w') Q a0 cs) 0 ops.toList)
    (hcs : cs.all (fun i => decide (i < ops.size)) = true)
    (hend : ∀ (vs : Nat → Value) (w : World), C cs.length w → (∀ j o, ops[j]? = some o → o.dst ≠ none → Vs.getD j (fun _ _ => True) (vs j) w) → Q .normal (putAll vs 0 ops.toList a0) w) :
    (Code.region rid ops true).wp P Q a0 w0 :=
  wp_region_env hm (fun j => Vs.getD j (fun _ _ => True)) C (fun k w w' => k < cs.length ∧ RR k w w') cs hdist hbelow hord hnd hch (fun k j v w w' hne hR => StabsAll.get Vs 0 hstab k j v w w' hR.1 (by simpa using hne) hR.2) hC hop hcs hend
/-- What is known behind the region. -/
structure EnvEnd (ops : Array Oper) (V : Nat → Value → World → Prop) (a0 a : Act) (w : World) : Prop where
  defers : a.defers = a0.defers
  at_ : ∀ (i : Nat) (oi : Oper) (d : Tmp), ops[i]? = some oi → oi.dst = some d → ∃ v, a.tmps[d]? = some v ∧ V i v w
  out : ∀ t, (ops.toList.all fun p => p.dst != some t) = true → a.tmps[t]? = a0.tmps[t]?
/-- the same law; of the frame behind it the facts alone are told -/
theorem wp_region_end {rid : Nat} {a0 : Act} {w0 : World} (hm : P.follows .mixedOrders = true) (Vs : List (Value → World → Prop)) (C : Nat → World → Prop) (RR : World → World → Prop) (cs : List Nat)
    (hdist : apartDst ops.toList = true) (hbelow : dstsBelow a0.tmps.size ops.toList = true) (hord : orderly ops.toList = true) (hnd : cs.Nodup) (hch : chained ops cs = true)
    (hstab : StabAll RR Vs) (hC : C 0 w0.drew)
    (hop : OblAll (Obl P ops (fun j => Vs.getD j (fun _ _ => True)) C (fun _ => RR) Q a0 cs) 0 ops.toList)
    (hcs : cs.all (fun i => decide (i < ops.size)) = true)
    (hend : ∀ (a : Act) (w : World), C cs.length w → EnvEnd ops (fun j => Vs.getD j (fun _ _ => True)) a0 a w → Q .normal a w) :
    (Code.region rid ops true).wp P Q a0 w0 :=
  wp_region_list hm Vs C RR cs hdist hbelow hord hnd hch hstab hC hop hcs fun vs w hCw hV => hend _ w hCw
    ⟨putAll_defers vs _ _ _, fun i oi d hi hd => by
      have hl : ops.toList[i]? = some oi := by rw [Array.getElem?_toList]; exact hi
      have hlt : d < a0.tmps.size := by
        unfold dstsBelow at hbelow
        rw [List.all_eq_true] at hbelow
        have := hbelow oi (List.mem_of_getElem? hl)
        rw [hd] at this
        simpa using this
      refine ⟨vs i, ?_, hV i oi hi (by simp [hd])⟩
      rw [putAll_at vs d _ 0 _ hdist hlt i oi hl hd, Nat.zero_add], fun t ht => by
      refine putAll_out vs t _ _ _ (fun o ho => ?_)
      rw [List.all_eq_true] at ht
      simpa using ht o ho⟩
end
end Go.Proofs.Ytibeaombhjdakaa
