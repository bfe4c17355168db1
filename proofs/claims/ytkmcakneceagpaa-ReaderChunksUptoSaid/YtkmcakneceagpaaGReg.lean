/- A region that draws its order, by what each operation leaves: one fact 'V j' for each operation, whatever the order; those of 'cs', which turn the world, come up in their own order. Over any program. A region that draws its order: the law of Reg, where operations that only add to the world may come up at any place among the others, and a fact may depend on how far the others have come. Over any program. frame.kind: what the types with numbers put. frame.kind: settings. frame.kinds: what it answers of each type. What the frame at the beginning of any bytes is, as plain data: no program in sight. frame.Parse: its small functions. -/
import Derived.Orders
import Derived.Tactics
import Derived.KernelRfl
import Derived.Test.YtkmcakneceagpaaGMem
set_option linter.unusedSimpArgs false
set_option linter.unusedVariables false
namespace Go.Proofs.Ytkmcakneceagpaa

section
variable {P : Program} {ops : Array Oper} {Q : Exit → Act → World → Prop}

/-- does operation o wait for operation i? -/
def waits (o : Oper) (i : Nat) : Bool := o.after.any fun e => Region.binds .any e && e.on == i
/-- does operation j wait for i, through others? -/
def waitsAll (ops : Array Oper) (i : Nat) : Nat → Nat → Bool
  | 0, _ => false
  | n + 1, j => match ops[j]? with
    | some o => o.after.any fun e => Region.binds .any e && (e.on == i || waitsAll ops i n e.on)
    | none => false
/-- the operations of cs wait one for the other -/
def chained (ops : Array Oper) : List Nat → Bool
  | i :: j :: r => waitsAll ops i 40 j && chained ops (j :: r)
  | _ => true
/-- no two operations write one slot -/
def apartDst : List Oper → Bool
  | [] => true
  | o :: r => (match o.dst with | some d => r.all fun p => p.dst != some d | none => true) && apartDst r
def dstsBelow (n : Nat) (l : List Oper) : Bool := l.all fun o => match o.dst with | some d => decide (d < n) | none => true

/-- What is known where operation o comes up. -/
structure EnvAt (ops : Array Oper) (V : Nat → Value → World → Prop) (a0 : Act) (o : Oper) (a : Act) (w : World) : Prop where
  defers : a.defers = a0.defers
  pred : ∀ (i : Nat) (oi : Oper) (d : Tmp), ops[i]? = some oi → oi.dst = some d → waits o i = true → ∃ v, a.tmps[d]? = some v ∧ V i v w
  out : ∀ t, (ops.toList.all fun p => p.dst != some t) = true → a.tmps[t]? = a0.tmps[t]?

/-- An operation that turns the world: stage k. -/
def OblC (P : Program) (ops : Array Oper) (V : Nat → Value → World → Prop) (C : Nat → World → Prop) (RR : Nat → World → World → Prop) (Q : Exit → Act → World → Prop) (a0 : Act) (k j : Nat) (o : Oper) : Prop :=
  ∀ (a : Act) (w : World), EnvAt ops V a0 o a w → C k w → ∀ K : Act → World → Prop, (∀ v w', V j v w' → C (k + 1) w' → RR k w w' → K (a.put o.dst v) w') →
    if Region.wanted o (yielded ops a.tmps) = true then o.wp P a w K Q else K (a.put o.dst undef) w
/-- An operation that leaves the world alone. -/
def OblP (P : Program) (ops : Array Oper) (V : Nat → Value → World → Prop) (C : Nat → World → Prop) (Q : Exit → Act → World → Prop) (a0 : Act) (j : Nat) (o : Oper) : Prop :=
  ∀ (a : Act) (w : World), EnvAt ops V a0 o a w → (∃ k, C k w) → ∀ K : Act → World → Prop, (∀ v, V j v w → K (a.put o.dst v) w) →
    if Region.wanted o (yielded ops a.tmps) = true then o.wp P a w K Q else K (a.put o.dst undef) w
def Obl (P : Program) (ops : Array Oper) (V : Nat → Value → World → Prop) (C : Nat → World → Prop) (RR : Nat → World → World → Prop) (Q : Exit → Act → World → Prop) (a0 : Act) (cs : List Nat) (j : Nat) (o : Oper) : Prop :=
  match cs.idxOf? j with
  | some k => OblC P ops V C RR Q a0 k j o
  | none => OblP P ops V C Q a0 j o
def OblAll (f : Nat → Oper → Prop) : Nat → List Oper → Prop
  | _, [] => True
  | j, o :: r => f j o ∧ OblAll f (j + 1) r

theorem OblAll.get {f : Nat → Oper → Prop} : ∀ (l : List Oper) (n : Nat), OblAll f n l → ∀ (j : Nat) (o : Oper), l[j]? = some o → f (n + j) o
  | [], _, _, j, o, ho => by simp at ho
  | x :: r, n, h, 0, o, ho => by
    simp at ho
    subst ho
    exact h.1
  | x :: r, n, h, j + 1, o, ho => by
    have := OblAll.get r (n + 1) h.2 j o (by simpa using ho)
    rwa [show n + (j + 1) = n + 1 + j by omega]

/-- all operations' values put, one by one -/
def putAll (vs : Nat → Value) : Nat → List Oper → Act → Act
  | _, [], a => a
  | j, o :: r, a => putAll vs (j + 1) r (a.put o.dst (vs j))

theorem apartDst_spec : ∀ (l : List Oper), apartDst l = true → ∀ (i j : Nat) (oi oj : Oper) (d : Tmp), l[i]? = some oi → l[j]? = some oj → oi.dst = some d → oj.dst = some d → i = j
  | [], _, i, j, oi, oj, d, hi, hj, _, _ => by simp at hi
  | x :: r, h, i, j, oi, oj, d, hi, hj, di, dj => by
    simp only [apartDst, Bool.and_eq_true] at h
    cases i with
    | zero =>
      cases j with
      | zero => rfl
      | succ j =>
        simp at hi hj
        subst hi
        have h1 := h.1
        rw [di] at h1
        simp only [List.all_eq_true] at h1
        have := h1 oj (List.mem_of_getElem? hj)
        simp [dj] at this
    | succ i =>
      cases j with
      | zero =>
        simp at hi hj
        subst hj
        have h1 := h.1
        rw [dj] at h1
        simp only [List.all_eq_true] at h1
        have := h1 oi (List.mem_of_getElem? hi)
        simp [di] at this
      | succ j => rw [apartDst_spec r h.2 i j oi oj d (by simpa using hi) (by simpa using hj) di dj]

theorem putAll_defers (vs : Nat → Value) : ∀ (l : List Oper) (n : Nat) (a : Act), (putAll vs n l a).defers = a.defers
  | [], _, _ => rfl
  | o :: r, n, a => by
    rw [putAll, putAll_defers vs r (n + 1)]
    cases o.dst <;> rfl
theorem put_size (a : Act) (d : Option Tmp) (v : Value) : (a.put d v).tmps.size = a.tmps.size := by cases d <;> simp [Act.put]
theorem putAll_size (vs : Nat → Value) : ∀ (l : List Oper) (n : Nat) (a : Act), (putAll vs n l a).tmps.size = a.tmps.size
  | [], _, _ => rfl
  | o :: r, n, a => by rw [putAll, putAll_size vs r (n + 1), put_size]
theorem put_get_same (a : Act) (d : Nat) (v : Value) (h : d < a.tmps.size) : (a.put (some d) v).tmps[d]? = some v := by simp [Act.put, h]
theorem put_get_other (a : Act) (d : Option Tmp) (v : Value) (t : Nat) (h : d ≠ some t) : (a.put d v).tmps[t]? = a.tmps[t]? := by
  cases d with
  | none => rfl
  | some d =>
    have : d ≠ t := fun e => h (by rw [e])
    simp [Act.put, Array.getElem?_setIfInBounds_ne this]
theorem putAll_out (vs : Nat → Value) (t : Nat) : ∀ (l : List Oper) (n : Nat) (a : Act), (∀ o ∈ l, o.dst ≠ some t) → (putAll vs n l a).tmps[t]? = a.tmps[t]?
  | [], _, _, _ => rfl
  | o :: r, n, a, h => by
    rw [putAll, putAll_out vs t r (n + 1) _ (fun p hp => h p (List.mem_cons_of_mem _ hp)), put_get_other _ _ _ _ (h o (List.mem_cons_self ..))]
theorem putAll_at (vs : Nat → Value) (t : Nat) : ∀ (l : List Oper) (n : Nat) (a : Act), apartDst l = true → t < a.tmps.size → ∀ (j : Nat) (o : Oper), l[j]? = some o → o.dst = some t → (putAll vs n l a).tmps[t]? = some (vs (n + j))
  | [], _, _, _, _, j, o, ho, _ => by simp at ho
  | x :: r, n, a, hd, hs, 0, o, ho, hdst => by
    simp at ho
    subst ho
    simp only [apartDst, hdst, Bool.and_eq_true, List.all_eq_true] at hd
    rw [putAll, putAll_out vs t r (n + 1) _ (fun p hp => by simpa using hd.1 p hp), hdst, put_get_same _ _ _ hs]
    rfl
  | x :: r, n, a, hd, hs, j + 1, o, ho, hdst => by
    simp only [apartDst, Bool.and_eq_true] at hd
    rw [putAll, putAll_at vs t r (n + 1) _ hd.2 (by rw [put_size]; exact hs) j o (by simpa using ho) hdst, show n + 1 + j = n + (j + 1) by omega]

/-- The state in the middle: what is listed has left its fact; so many of cs are listed. -/
structure EnvMid (ops : Array Oper) (V : Nat → Value → World → Prop) (C : Nat → World → Prop) (cs : List Nat) (a0 : Act) (listed : Array Bool) (a : Act) (w : World) : Prop where
  defers : a.defers = a0.defers
  size : a.tmps.size = a0.tmps.size
  lsize : listed.size = ops.size
  out : ∀ t, (ops.toList.all fun p => p.dst != some t) = true → a.tmps[t]? = a0.tmps[t]?
  done : ∀ (j : Nat) (o : Oper) (d : Tmp), listed[j]? = some true → ops[j]? = some o → o.dst = some d → ∃ v, a.tmps[d]? = some v ∧ V j v w
  shut : ∀ (j : Nat) (o : Oper), listed[j]? = some true → ops[j]? = some o → ∀ e ∈ o.after, Region.binds .any e = true → listed[e.on]? = some true
  stage : ∃ k, k ≤ cs.length ∧ C k w ∧ (∀ p i, cs[p]? = some i → (listed[i]? = some true ↔ p < k))

theorem waitsAll_listed {listed : Array Bool} (shut : ∀ (j : Nat) (o : Oper), listed[j]? = some true → ops[j]? = some o → ∀ e ∈ o.after, Region.binds .any e = true → listed[e.on]? = some true) (i : Nat) :
    ∀ (n j : Nat), (∀ o : Oper, ops[j]? = some o → ∀ e ∈ o.after, Region.binds .any e = true → listed[e.on]? = some true) → waitsAll ops i n j = true → listed[i]? = some true
  | 0, j, _, h => by simp [waitsAll] at h
  | n + 1, j, hj, h => by
    simp only [waitsAll] at h
    split at h
    · rename_i o ho
      rw [← Array.any_toList, List.any_eq_true] at h
      obtain ⟨e, he, hb⟩ := h
      rw [Array.mem_toList_iff] at he
      simp only [Bool.and_eq_true, Bool.or_eq_true, beq_iff_eq] at hb
      have hl := hj o ho e he hb.1
      rcases hb.2 with rfl | hw
      · exact hl
      · exact waitsAll_listed shut i n e.on (fun o' ho' e' he' hb' => shut e.on o' hl ho' e' he' hb') hw
    · simp at h

theorem chained_get : ∀ (cs : List Nat), chained ops cs = true → ∀ p i j, cs[p]? = some i → cs[p + 1]? = some j → waitsAll ops i 40 j = true
  | [], _, p, i, j, hi, _ => by simp at hi
  | [x], _, p, i, j, _, hj => by simp at hj
  | x :: y :: r, h, 0, i, j, hi, hj => by
    simp at hi hj
    subst hi hj
    simp only [chained, Bool.and_eq_true] at h
    exact h.1
  | x :: y :: r, h, p + 1, i, j, hi, hj => by
    simp only [chained, Bool.and_eq_true] at h
    exact chained_get (y :: r) h.2 p i j (by simpa using hi) (by simpa using hj)

theorem ready_spec {md : Region.Mode} {listed : Array Bool} {i : Nat} (h : i ∈ Region.ready md ops listed) : i < ops.size ∧ listed.getD i true = false ∧ ∃ o, ops[i]? = some o ∧ ∀ e ∈ o.after, Region.binds md e = true → listed.getD e.on false = true := by
  unfold Region.ready at h
  rw [List.mem_filter] at h
  obtain ⟨h1, h2⟩ := h
  have hlt : i < ops.size := List.mem_range.1 h1
  simp only [Bool.and_eq_true, Bool.not_eq_true'] at h2
  refine ⟨hlt, h2.1, ops[i], Array.getElem?_eq_getElem hlt, ?_⟩
  have h3 := h2.2
  rw [Array.getElem?_eq_getElem hlt] at h3
  simp only [Option.map_some, Option.getD_some] at h3
  rw [Array.all_eq_true_iff_forall_mem] at h3
  intro e he hb
  have := h3 e he
  rw [hb] at this
  simpa using this

theorem getD_true {listed : Array Bool} {i : Nat} (h : listed.getD i false = true) : listed[i]? = some true := by
  rw [Array.getD_eq_getD_getElem?] at h
  cases hl : listed[i]? with
  | none => simp [hl] at h
  | some b => simp [hl] at h; rw [h]

theorem env_any (V : Nat → Value → World → Prop) (C : Nat → World → Prop) (RR : Nat → World → World → Prop) (cs : List Nat) (a0 : Act) (hdist : apartDst ops.toList = true) (hbelow : dstsBelow a0.tmps.size ops.toList = true)
    (hnd : cs.Nodup) (hch : chained ops cs = true) (hstab : ∀ k j v w w', cs[k]? ≠ some j → RR k w w' → V j v w → V j v w')
    (hop : ∀ (j : Nat) (o : Oper), ops[j]? = some o → Obl P ops V C RR Q a0 cs j o)
    (hend : ∀ (listed : Array Bool) (a : Act) (w : World), EnvMid ops V C cs a0 listed a w → Region.ready .any ops listed = [] → Q .normal a w) :
    ∀ (fuel : Nat) (listed : Array Bool) (a : Act) (w : World), EnvMid ops V C cs a0 listed a w → fuel + (listed.toList.filter id).length = ops.size → wpAny P .any ops Q fuel listed a w := by
  intro fuel
  induction fuel with
  | zero =>
    intro listed a w E hf
    have hall : Region.ready .any ops listed = [] := by
      rw [List.eq_nil_iff_forall_not_mem]
      intro i hi
      obtain ⟨hlt, hnl, _⟩ := ready_spec hi
      have e1 := E.lsize
      have e2 : listed.toList.length = listed.size := Array.length_toList
      have hl : (listed.toList.filter id).length = listed.toList.length := by omega
      rw [List.length_filter_eq_length_iff] at hl
      have hlt' : i < listed.size := by rw [E.lsize]; exact hlt
      have h1 := hl listed[i] (by simp)
      rw [Array.getD_eq_getD_getElem?, Array.getElem?_eq_getElem hlt'] at hnl
      simp at hnl h1
      rw [h1] at hnl
      cases hnl
    exact ⟨hall, hend listed a w E hall⟩
  | succ fuel ih =>
    intro listed a w E hf
    refine ⟨fun h => hend listed a w E h, fun i hi => ?_⟩
    obtain ⟨hlt, hnl, o, ho, hpre⟩ := ready_spec hi
    have hlt' : i < listed.size := by rw [E.lsize]; exact hlt
    have hnl' : listed[i]? = some false := by
      rw [Array.getD_eq_getD_getElem?, Array.getElem?_eq_getElem hlt'] at hnl
      rw [Array.getElem?_eq_getElem hlt']
      simpa using hnl
    have hpre' : ∀ e ∈ o.after, Region.binds .any e = true → listed[e.on]? = some true := fun e he hb => getD_true (hpre e he hb)
    have EA : EnvAt ops V a0 o a w := ⟨E.defers, fun i' oi d hi' hd hw => by
      unfold waits at hw
      rw [← Array.any_toList, List.any_eq_true] at hw
      obtain ⟨e, he, hb⟩ := hw
      rw [Array.mem_toList_iff] at he
      simp only [Bool.and_eq_true, beq_iff_eq] at hb
      obtain ⟨hb1, rfl⟩ := hb
      exact E.done _ oi d (hpre' e he hb1) hi' hd, E.out⟩
    have hset : ∀ j, (listed.setIfInBounds i true)[j]? = some true ↔ (j = i ∨ listed[j]? = some true) := by
      intro j
      rw [Array.getElem?_setIfInBounds]
      by_cases hj : i = j
      · subst hj; simp [hlt']
      · simp [hj, Ne.symm hj]
    -- the new state, whatever the operation was
    have next : ∀ (v : Value) (w' : World) (k' : Nat), V i v w' → (∀ j u, j ≠ i → V j u w → V j u w') → k' ≤ cs.length → C k' w' → (∀ p j, cs[p]? = some j → ((j = i ∨ listed[j]? = some true) ↔ p < k')) →
        EnvMid ops V C cs a0 (listed.setIfInBounds i true) (a.put o.dst v) w' := by
      intro v w' k' hv hst hk hC hp
      refine ⟨?_, by rw [put_size]; exact E.size, by simp [E.lsize], ?_, ?_, ?_, ⟨k', hk, hC, fun p j hj => by rw [hset]; exact hp p j hj⟩⟩
      · have := E.defers
        cases hd : o.dst <;> simpa [Act.put] using this
      · intro t ht
        have h1 : o.dst ≠ some t := by
          simp only [List.all_eq_true] at ht
          have := ht o (List.mem_of_getElem? (by rw [Array.getElem?_toList]; exact ho))
          simpa using this
        rw [put_get_other _ _ _ _ h1]
        exact E.out t ht
      · intro j oj d hj hoj hd
        rw [hset] at hj
        by_cases hji : j = i
        · subst hji
          rw [ho] at hoj
          obtain rfl := Option.some.inj hoj
          have hds : d < a.tmps.size := by
            rw [E.size]
            unfold dstsBelow at hbelow
            simp only [List.all_eq_true] at hbelow
            have := hbelow o (List.mem_of_getElem? (by rw [Array.getElem?_toList]; exact ho))
            rw [hd] at this
            simpa using this
          exact ⟨v, by rw [hd]; exact put_get_same _ _ _ hds, hv⟩
        · have hl : listed[j]? = some true := by rcases hj with h | h; exact absurd h hji; exact h
          obtain ⟨u, hu, hVu⟩ := E.done j oj d hl hoj hd
          refine ⟨u, ?_, hst j u hji hVu⟩
          have h1 : o.dst ≠ some d := fun e => hji (apartDst_spec ops.toList hdist j i oj o d (by rw [Array.getElem?_toList]; exact hoj) (by rw [Array.getElem?_toList]; exact ho) hd e)
          rw [put_get_other _ _ _ _ h1]
          exact hu
      · intro j oj hj hoj e he hb
        rw [hset] at hj ⊢
        rcases hj with rfl | hj
        · rw [ho] at hoj
          obtain rfl := Option.some.inj hoj
          exact .inr (hpre' e he hb)
        · exact .inr (E.shut j oj hj hoj e he hb)
    have hcount : fuel + ((listed.setIfInBounds i true).toList.filter id).length = ops.size := by
      have h1 : ((listed.setIfInBounds i true).toList.filter id).length = (listed.toList.filter id).length + 1 := by
        rw [Array.toList_setIfInBounds]
        have hi' : i < listed.toList.length := by simpa using hlt'
        have hv : listed.toList[i] = false := by
          have := hnl'
          rw [Array.getElem?_eq_getElem hlt'] at this
          simpa using this
        rw [List.set_eq_take_append_cons_drop, if_pos hi', List.filter_append, List.filter_cons]
        have hsplit : listed.toList = listed.toList.take i ++ listed.toList[i] :: listed.toList.drop (i + 1) := by rw [List.getElem_cons_drop hi', List.take_append_drop]
        have h2 : (listed.toList.filter id).length = ((listed.toList.take i).filter id).length + ((listed.toList.drop (i + 1)).filter id).length := by
          conv => lhs; rw [hsplit]
          rw [List.filter_append, List.filter_cons, hv]
          simp
        rw [h2]
        simp
        omega
      omega
    obtain ⟨k, hk, hCk, hstage⟩ := E.stage
    have hO := hop i o ho
    unfold wpOp
    rw [ho]
    show if Region.wanted o (yielded ops a.tmps) = true then _ else _
    cases hidx : cs.idxOf? i with
    | some p =>
      unfold Obl at hO
      rw [hidx] at hO
      have hp : cs[p]? = some i := by
        rw [List.idxOf?_eq_some_iff] at hidx
        obtain ⟨h1, h2, _⟩ := hidx
        rw [List.getElem?_eq_getElem h1]
        simpa using h2
      have hplt : p < cs.length := (List.getElem?_eq_some_iff.1 hp).1
      have hpk : p = k := by
        have h1 : ¬ p < k := fun h => by
          have := (hstage p i hp).2 h
          rw [hnl'] at this
          cases this
        have h2 : ¬ k < p := fun h => by
          obtain ⟨q, rfl⟩ : ∃ q, p = q + 1 := ⟨p - 1, by omega⟩
          have hq : q < cs.length := by omega
          have hqi : cs[q]? = some cs[q] := List.getElem?_eq_getElem hq
          have hw := chained_get (ops := ops) cs hch q cs[q] i hqi hp
          have hl := waitsAll_listed (ops := ops) E.shut cs[q] 40 i (fun o' ho' e he hb => by rw [ho] at ho'; obtain rfl := Option.some.inj ho'; exact hpre' e he hb) hw
          have := (hstage q cs[q] hqi).1 hl
          omega
        omega
      subst hpk
      have hfin := hO a w EA hCk (fun a' w' => wpAny P .any ops Q fuel (listed.setIfInBounds i true) a' w') (fun v w' hv hC hR => by
        refine ih _ _ _ (next v w' (p + 1) hv (fun j u hji h => hstab p j u w w' (fun e => hji (Option.some.inj (hp.symm.trans e)).symm) hR h) hplt hC ?_) hcount
        intro q j hq
        constructor
        · intro h
          rcases h with rfl | h
          · have : q = p := by
              have hql : q < cs.length := (List.getElem?_eq_some_iff.1 hq).1
              exact (List.getElem?_inj hql hnd).1 (hq.trans hp.symm)
            omega
          · have := (hstage q j hq).1 h
            omega
        · intro h
          by_cases hqp : q = p
          · subst hqp
            rw [hp] at hq
            exact .inl (Option.some.inj hq).symm
          · exact .inr ((hstage q j hq).2 (by omega)))
      split
      · rename_i hw; rw [if_pos hw] at hfin; exact .inl hfin
      · rename_i hw; rw [if_neg hw] at hfin; exact hfin
    | none =>
      unfold Obl at hO
      rw [hidx] at hO
      have hni : i ∉ cs := by
        intro hm
        rw [List.idxOf?_eq_none_iff] at hidx
        exact hidx hm
      have hfin := hO a w EA ⟨k, hCk⟩ (fun a' w' => wpAny P .any ops Q fuel (listed.setIfInBounds i true) a' w') (fun v hv => by
        refine ih _ _ _ (next v w k hv (fun _ _ _ h => h) hk hCk ?_) hcount
        intro q j hq
        have hji : j ≠ i := fun e => hni (e ▸ List.mem_of_getElem? hq)
        simp only [hji, false_or]
        exact hstage q j hq)
      split
      · rename_i hw; rw [if_pos hw] at hfin; exact .inl hfin
      · rename_i hw; rw [if_neg hw] at hfin; exact hfin

/-! ### is an operation carried out? -/
theorem want_none {o : Oper} {f : Nat → Option Bool} {A B : Prop} (hg : o.guard = none) (h : A) : if Region.wanted o f = true then A else B := by
  rw [if_pos (by simp [Region.wanted, hg])]
  exact h
theorem want_yes {o og : Oper} {g d : Nat} {b : Bool} {tm : Array Value} {A B : Prop} (hg : o.guard = some (g, b)) (ho : ops[g]? = some og) (hd : og.dst = some d) (ht : tm[d]? = some (.bool b)) (h : A) :
    if Region.wanted o (yielded ops tm) = true then A else B := by
  rw [if_pos (by simp [Region.wanted, hg, yielded, ho, hd, ht])]
  exact h
theorem want_no {o og : Oper} {g d : Nat} {b : Bool} {v : Value} {tm : Array Value} {A B : Prop} (hg : o.guard = some (g, b)) (ho : ops[g]? = some og) (hd : og.dst = some d) (ht : tm[d]? = some v) (hv : v ≠ .bool b) (h : B) :
    if Region.wanted o (yielded ops tm) = true then A else B := by
  rw [if_neg ?_]
  · exact h
  · simp only [Region.wanted, hg, yielded, ho, hd, ht, Option.bind_some]
    intro hh
    split at hh
    · rename_i b' he
      simp at hh
      subst hh
      exact hv (Option.some.inj he)
    · simp at hh

/-- nothing is ready: all is listed -/
def orderly (ops : List Oper) : Bool := (ops.zipIdx).all fun (o, i) => o.after.all fun e => !Region.binds .any e || decide (e.on < i)
theorem all_listed (hord : orderly ops.toList = true) {listed : Array Bool} (hs : listed.size = ops.size) (h : Region.ready .any ops listed = []) : ∀ j, j < ops.size → listed[j]? = some true := by
  intro j
  induction j using Nat.strongRecOn with
  | _ j ih =>
    intro hj
    have hj' : j < listed.size := by omega
    rw [Array.getElem?_eq_getElem hj']
    cases hl : listed[j] with
    | true => rfl
    | false =>
      exfalso
      have hmem : j ∈ Region.ready .any ops listed := by
        unfold Region.ready
        rw [List.mem_filter]
        refine ⟨List.mem_range.2 hj, ?_⟩
        rw [Array.getElem?_eq_getElem hj, Array.getD_eq_getD_getElem?, Array.getElem?_eq_getElem hj', hl]
        simp only [Option.getD_some, Bool.not_false, Bool.true_and, Option.map_some]
        rw [← Array.all_toList, List.all_eq_true]
        intro e he
        rw [Array.mem_toList_iff] at he
        unfold orderly at hord
        rw [List.all_eq_true] at hord
        have h1 := hord (ops[j], j) (by
          rw [List.mem_zipIdx_iff_getElem?]
          show ops.toList[j]? = some ops[j]
          rw [Array.getElem?_toList]; exact Array.getElem?_eq_getElem hj)
        simp only at h1
        rw [← Array.all_toList, List.all_eq_true] at h1
        have h2 := h1 e (by rw [Array.mem_toList_iff]; exact he)
        simp only [Bool.or_eq_true, Bool.not_eq_true', decide_eq_true_eq] at h2 ⊢
        rcases h2 with h2 | h2
        · exact .inl h2
        · refine .inr ?_
          rw [Array.getD_eq_getD_getElem?, ih e.on h2 (by omega)]
          rfl
      rw [h] at hmem
      cases hmem

/-- THE LAW: a region that draws its order. -/
theorem wp_region_env {rid : Nat} {a0 : Act} {w0 : World} (hm : P.follows .mixedOrders = true) (V : Nat → Value → World → Prop) (C : Nat → World → Prop) (RR : Nat → World → World → Prop) (cs : List Nat)
    (hdist : apartDst ops.toList = true) (hbelow : dstsBelow a0.tmps.size ops.toList = true) (hord : orderly ops.toList = true) (hnd : cs.Nodup) (hch : chained ops cs = true)
    (hstab : ∀ k j v w w', cs[k]? ≠ some j → RR k w w' → V j v w → V j v w') (hC : C 0 w0.drew)
    (hop : OblAll (Obl P ops V C RR Q a0 cs) 0 ops.toList)
    (hcs : cs.all (fun i => decide (i < ops.size)) = true)
    (hend : ∀ (vs : Nat → Value) (w : World), C cs.length w → (∀ j o, ops[j]? = some o → o.dst ≠ none → V j (vs j) w) → Q .normal (putAll vs 0 ops.toList a0) w) :
    (Code.region rid ops true).wp P Q a0 w0 := by
  refine wp_region_any hm ?_
  refine env_any V C RR cs a0 hdist hbelow hnd hch hstab (fun j o ho => by
    have := OblAll.get ops.toList 0 hop j o (by rw [Array.getElem?_toList]; exact ho)
    simpa using this) ?_ ops.size (Array.replicate ops.size false) a0 _ ?_ ?_
  · intro listed a w E hr
    have hall := all_listed hord E.lsize hr
    obtain ⟨k, hk, hCk, hst⟩ := E.stage
    have hkl : k = cs.length := by
      rcases Nat.lt_or_ge k cs.length with h | h
      · have hi : cs[k]? = some cs[k] := List.getElem?_eq_getElem h
        have hlt : cs[k] < ops.size := by
          rw [List.all_eq_true] at hcs
          simpa using hcs cs[k] (List.getElem_mem h)
        have := (hst k cs[k] hi).1 (hall _ hlt)
        omega
      · omega
    subst hkl
    let vs : Nat → Value := fun j => match (ops[j]?).bind (·.dst) with | some d => (a.tmps[d]?).getD undef | none => undef
    have hV : ∀ j o, ops[j]? = some o → o.dst ≠ none → V j (vs j) w := by
      intro j o ho hd
      have hj : j < ops.size := (Array.getElem?_eq_some_iff.1 ho).1
      cases hdd : o.dst with
      | none => exact absurd hdd hd
      | some d =>
        obtain ⟨v, hv, hVv⟩ := E.done j o d (hall j hj) ho hdd
        have : vs j = v := by simp [vs, ho, hdd, hv]
        rw [this]
        exact hVv
    have hfin := hend vs w hCk hV
    have hact : putAll vs 0 ops.toList a0 = a := by
      have ht : (putAll vs 0 ops.toList a0).tmps = a.tmps := by
        apply Array.ext_getElem?
        intro t
        by_cases hout : (ops.toList.all fun p => p.dst != some t) = true
        · rw [E.out t hout]
          refine putAll_out vs t _ _ _ (fun o ho => ?_)
          rw [List.all_eq_true] at hout
          simpa using hout o ho
        · rw [List.all_eq_true] at hout
          obtain ⟨o, ho⟩ := Classical.not_forall.1 hout
          obtain ⟨hmem, hd⟩ := Classical.not_imp.1 ho
          have hd' : o.dst = some t := by simpa using hd
          obtain ⟨j, hj⟩ := List.getElem?_of_mem hmem
          have hjo : ops[j]? = some o := by rw [Array.getElem?_toList] at hj; exact hj
          have htlt : t < a0.tmps.size := by
            unfold dstsBelow at hbelow
            rw [List.all_eq_true] at hbelow
            have := hbelow o hmem
            rw [hd'] at this
            simpa using this
          rw [putAll_at vs t _ 0 _ hdist htlt j o hj hd']
          obtain ⟨v, hv, _⟩ := E.done j o t (hall j (Array.getElem?_eq_some_iff.1 hjo).1) hjo hd'
          have : vs j = v := by simp [vs, hjo, hd', hv]
          rw [hv, Nat.zero_add, this]
      have hd : (putAll vs 0 ops.toList a0).defers = a.defers := by rw [putAll_defers, E.defers]
      cases h1 : putAll vs 0 ops.toList a0
      cases a
      rw [h1] at ht hd
      simp only at ht hd
      rw [ht, hd]
    rw [hact] at hfin
    exact hfin
  · refine ⟨rfl, rfl, by simp, fun _ _ => rfl, fun j o d hj => ?_, fun j o hj => ?_, 0, Nat.zero_le _, hC, fun p i _ => ?_⟩
    · rw [Array.getElem?_replicate] at hj
      split at hj <;> cases hj
    · rw [Array.getElem?_replicate] at hj
      split at hj <;> cases hj
    · constructor
      · intro h
        rw [Array.getElem?_replicate] at h
        split at h <;> cases h
      · intro h; omega
  · have : ((Array.replicate ops.size false).toList.filter id) = [] := by
      rw [List.filter_eq_nil_iff]
      intro b hb
      simp at hb
      simp [hb.2]
    rw [this]
    simp

/-- each fact stays -/
def Stab (RR : World → World → Prop) (F : Value → World → Prop) : Prop := ∀ v w w', RR w w' → F v w → F v w'
def StabAll (RR : World → World → Prop) : List (Value → World → Prop) → Prop
  | [] => True
  | F :: r => Stab RR F ∧ StabAll RR r
theorem Stab.const {RR : World → World → Prop} (F : Value → Prop) : Stab RR (fun v _ => F v) := fun _ _ _ _ h => h
theorem StabAll.get {RR : World → World → Prop} : ∀ (l : List (Value → World → Prop)), StabAll RR l → ∀ (j : Nat) (v : Value) (w w' : World), RR w w' → l.getD j (fun _ _ => True) v w → l.getD j (fun _ _ => True) v w'
  | [], _, j, v, w, w', _, _ => by simp
  | F :: r, h, 0, v, w, w', hR, hv => h.1 v w w' hR hv
  | F :: r, h, j + 1, v, w, w', hR, hv => StabAll.get r h.2 j v w w' hR (by simpa using hv)
/-- the same law, the facts as a list -/
theorem wp_region_list {rid : Nat} {a0 : Act} {w0 : World} (hm : P.follows .mixedOrders = true) (Vs : List (Value → World → Prop)) (C : Nat → World → Prop) (RR : World → World → Prop) (cs : List Nat)
    (hdist : apartDst ops.toList = true) (hbelow : dstsBelow a0.tmps.size ops.toList = true) (hord : orderly ops.toList = true) (hnd : cs.Nodup) (hch : chained ops cs = true)
    (hstab : StabAll RR Vs) (hC : C 0 w0.drew)
    (hop : OblAll (Obl P ops (fun j => Vs.getD j (fun _ _ => True)) C (fun _ => RR) Q a0 cs) 0 ops.toList)
    (hcs : cs.all (fun i => decide (i < ops.size)) = true)
    (hend : ∀ (vs : Nat → Value) (w : World), C cs.length w → (∀ j o, ops[j]? = some o → o.dst ≠ none → Vs.getD j (fun _ _ => True) (vs j) w) → Q .normal (putAll vs 0 ops.toList a0) w) :
    (Code.region rid ops true).wp P Q a0 w0 :=
  wp_region_env hm (fun j => Vs.getD j (fun _ _ => True)) C (fun _ => RR) cs hdist hbelow hord hnd hch (fun _ j v w w' _ => StabAll.get Vs hstab j v w w') hC hop hcs hend
/-- the law, each change with a relation of its own: a fact told by operation j abides the changes at other places alone -/
def StabsAt (RR : Nat → World → World → Prop) (cs : List Nat) (j : Nat) (F : Value → World → Prop) : Prop := ∀ k v w w', k < cs.length → cs[k]? ≠ some j → RR k w w' → F v w → F v w'
def StabsAll (RR : Nat → World → World → Prop) (cs : List Nat) : Nat → List (Value → World → Prop) → Prop
  | _, [] => True
  | j, F :: r => StabsAt RR cs j F ∧ StabsAll RR cs (j + 1) r
theorem StabsAt.const {RR : Nat → World → World → Prop} {cs : List Nat} {j : Nat} (F : Value → Prop) : StabsAt RR cs j (fun v _ => F v) := fun _ _ _ _ _ _ _ h => h
theorem StabsAll.get {RR : Nat → World → World → Prop} {cs : List Nat} : ∀ (l : List (Value → World → Prop)) (n : Nat), StabsAll RR cs n l → ∀ (k j : Nat) (v : Value) (w w' : World), k < cs.length → cs[k]? ≠ some (n + j) → RR k w w' → l.getD j (fun _ _ => True) v w → l.getD j (fun _ _ => True) v w'
  | [], _, _, k, j, v, w, w', _, _, _, _ => by simp
  | F :: r, n, h, k, 0, v, w, w', hk, hc, hR, hv => h.1 k v w w' hk hc hR hv
  | F :: r, n, h, k, j + 1, v, w, w', hk, hc, hR, hv => StabsAll.get r (n + 1) h.2 k j v w w' hk (by rwa [show n + 1 + j = n + (j + 1) by omega]) hR (by simpa using hv)
theorem wp_region_lists {rid : Nat} {a0 : Act} {w0 : World} (hm : P.follows .mixedOrders = true) (Vs : List (Value → World → Prop)) (C : Nat → World → Prop) (RR : Nat → World → World → Prop) (cs : List Nat)
    (hdist : apartDst ops.toList = true) (hbelow : dstsBelow a0.tmps.size ops.toList = true) (hord : orderly ops.toList = true) (hnd : cs.Nodup) (hch : chained ops cs = true)
    (hstab : StabsAll RR cs 0 Vs) (hC : C 0 w0.drew)
    (hop : OblAll (Obl P ops (fun j => Vs.getD j (fun _ _ => True)) C (fun k w w' => k < cs.length ∧ RR k w w') Q a0 cs) 0 ops.toList)
    (hcs : cs.all (fun i => decide (i < ops.size)) = true)
    (hend : ∀ (vs : Nat → Value) (w : World), C cs.length w → (∀ j o, ops[j]? = some o → o.dst ≠ none → Vs.getD j (fun _ _ => True) (vs j) w) → Q .normal (putAll vs 0 ops.toList a0) w) :
    (Code.region rid ops true).wp P Q a0 w0 :=
  wp_region_env hm (fun j => Vs.getD j (fun _ _ => True)) C (fun k w w' => k < cs.length ∧ RR k w w') cs hdist hbelow hord hnd hch (fun k j v w w' hne hR => StabsAll.get Vs 0 hstab k j v w w' hR.1 (by simpa using hne) hR.2) hC hop hcs hend
/-- What is known behind the region. -/
structure EnvEnd (ops : Array Oper) (V : Nat → Value → World → Prop) (a0 a : Act) (w : World) : Prop where
  defers : a.defers = a0.defers
  at_ : ∀ (i : Nat) (oi : Oper) (d : Tmp), ops[i]? = some oi → oi.dst = some d → ∃ v, a.tmps[d]? = some v ∧ V i v w
  out : ∀ t, (ops.toList.all fun p => p.dst != some t) = true → a.tmps[t]? = a0.tmps[t]?
/-- the same law; of the frame behind it the facts alone are told -/
theorem wp_region_end {rid : Nat} {a0 : Act} {w0 : World} (hm : P.follows .mixedOrders = true) (Vs : List (Value → World → Prop)) (C : Nat → World → Prop) (RR : World → World → Prop) (cs : List Nat)
    (hdist : apartDst ops.toList = true) (hbelow : dstsBelow a0.tmps.size ops.toList = true) (hord : orderly ops.toList = true) (hnd : cs.Nodup) (hch : chained ops cs = true)
    (hstab : StabAll RR Vs) (hC : C 0 w0.drew)
    (hop : OblAll (Obl P ops (fun j => Vs.getD j (fun _ _ => True)) C (fun _ => RR) Q a0 cs) 0 ops.toList)
    (hcs : cs.all (fun i => decide (i < ops.size)) = true)
    (hend : ∀ (a : Act) (w : World), C cs.length w → EnvEnd ops (fun j => Vs.getD j (fun _ _ => True)) a0 a w → Q .normal a w) :
    (Code.region rid ops true).wp P Q a0 w0 :=
  wp_region_list hm Vs C RR cs hdist hbelow hord hnd hch hstab hC hop hcs fun vs w hCw hV => hend _ w hCw
    ⟨putAll_defers vs _ _ _, fun i oi d hi hd => by
      have hl : ops.toList[i]? = some oi := by rw [Array.getElem?_toList]; exact hi
      have hlt : d < a0.tmps.size := by
        unfold dstsBelow at hbelow
        rw [List.all_eq_true] at hbelow
        have := hbelow oi (List.mem_of_getElem? hl)
        rw [hd] at this
        simpa using this
      refine ⟨vs i, ?_, hV i oi hi (by simp [hd])⟩
      rw [putAll_at vs d _ 0 _ hdist hlt i oi hl hd, Nat.zero_add], fun t ht => by
      refine putAll_out vs t _ _ _ (fun o ho => ?_)
      rw [List.all_eq_true] at ht
      simpa using ht o ho⟩
end
end Go.Proofs.Ytkmcakneceagpaa

namespace Go.Proofs.Ytkmcakneceagpaa

section
variable {P : Program} {ops : Array Oper} {Q : Exit → Act → World → Prop}

/-- What is known where operation o comes up, at stage k. -/
structure EnvAt2 (ops : Array Oper) (V : Nat → Nat → Value → World → Prop) (k j : Nat) (a0 : Act) (o : Oper) (a : Act) (w : World) : Prop where
  defers : a.defers = a0.defers
  pred : ∀ (i : Nat) (oi : Oper) (d : Tmp), ops[i]? = some oi → oi.dst = some d → waits o i = true → ∃ v, a.tmps[d]? = some v ∧ V i k v w
  out : ∀ t, (ops.toList.all fun p => p.dst != some t || waits p j) = true → a.tmps[t]? = a0.tmps[t]?
/-- operation j: one of cs (stage p), one of fs (it adds), or another (it reads) -/
def Obl2 (P : Program) (ops : Array Oper) (V : Nat → Nat → Value → World → Prop) (C : Nat → World → Prop) (RC : Nat → World → World → Prop) (RF : World → World → Prop) (Q : Exit → Act → World → Prop) (a0 : Act) (cs fs : List Nat) (j : Nat) (o : Oper) : Prop :=
  match cs.idxOf? j with
  | some p => ∀ (a : Act) (w : World), EnvAt2 ops V p j a0 o a w → C p w → ∀ K : Act → World → Prop, (∀ v w', V j (p + 1) v w' → C (p + 1) w' → RC p w w' → K (a.put o.dst v) w') →
      if Region.wanted o (yielded ops a.tmps) = true then o.wp P a w K Q else K (a.put o.dst undef) w
  | none =>
    if fs.contains j = true then ∀ (k : Nat) (a : Act) (w : World), EnvAt2 ops V k j a0 o a w → C k w → ∀ K : Act → World → Prop, (∀ v w', V j k v w' → C k w' → RF w w' → K (a.put o.dst v) w') →
      if Region.wanted o (yielded ops a.tmps) = true then o.wp P a w K Q else K (a.put o.dst undef) w
    else ∀ (k : Nat) (a : Act) (w : World), EnvAt2 ops V k j a0 o a w → C k w → ∀ K : Act → World → Prop, (∀ v, V j k v w → K (a.put o.dst v) w) →
      if Region.wanted o (yielded ops a.tmps) = true then o.wp P a w K Q else K (a.put o.dst undef) w
/-- The state in the middle: what is listed has left its fact; so many of cs are listed. -/
structure EnvMid2 (ops : Array Oper) (V : Nat → Nat → Value → World → Prop) (C : Nat → World → Prop) (cs : List Nat) (a0 : Act) (listed : Array Bool) (a : Act) (w : World) : Prop where
  defers : a.defers = a0.defers
  size : a.tmps.size = a0.tmps.size
  lsize : listed.size = ops.size
  out : ∀ t, (∀ (j : Nat) (o : Oper), ops[j]? = some o → o.dst = some t → listed[j]? ≠ some true) → a.tmps[t]? = a0.tmps[t]?
  shut : ∀ (j : Nat) (o : Oper), listed[j]? = some true → ops[j]? = some o → ∀ e ∈ o.after, Region.binds .any e = true → listed[e.on]? = some true
  stage : ∃ k, k ≤ cs.length ∧ C k w ∧ (∀ p i, cs[p]? = some i → (listed[i]? = some true ↔ p < k)) ∧ ∀ (j : Nat) (o : Oper) (d : Tmp), listed[j]? = some true → ops[j]? = some o → o.dst = some d → ∃ v, a.tmps[d]? = some v ∧ V j k v w

theorem env_any2 (V : Nat → Nat → Value → World → Prop) (C : Nat → World → Prop) (RC : Nat → World → World → Prop) (RF : World → World → Prop) (cs fs : List Nat) (a0 : Act) (hdist : apartDst ops.toList = true) (hbelow : dstsBelow a0.tmps.size ops.toList = true)
    (hnd : cs.Nodup) (hch : chained ops cs = true) (hstab : ∀ p j v w w', p < cs.length → cs[p]? ≠ some j → RC p w w' → V j p v w → V j (p + 1) v w') (hfree : ∀ k j v w w', RF w w' → V j k v w → V j k v w')
    (hop : ∀ (j : Nat) (o : Oper), ops[j]? = some o → Obl2 P ops V C RC RF Q a0 cs fs j o)
    (hend : ∀ (listed : Array Bool) (a : Act) (w : World), EnvMid2 ops V C cs a0 listed a w → Region.ready .any ops listed = [] → Q .normal a w) :
    ∀ (fuel : Nat) (listed : Array Bool) (a : Act) (w : World), EnvMid2 ops V C cs a0 listed a w → fuel + (listed.toList.filter id).length = ops.size → wpAny P .any ops Q fuel listed a w := by
  intro fuel
  induction fuel with
  | zero =>
    intro listed a w E hf
    have hall : Region.ready .any ops listed = [] := by
      rw [List.eq_nil_iff_forall_not_mem]
      intro i hi
      obtain ⟨hlt, hnl, _⟩ := ready_spec hi
      have e1 := E.lsize
      have e2 : listed.toList.length = listed.size := Array.length_toList
      have hl : (listed.toList.filter id).length = listed.toList.length := by omega
      rw [List.length_filter_eq_length_iff] at hl
      have hlt' : i < listed.size := by rw [E.lsize]; exact hlt
      have h1 := hl listed[i] (by simp)
      rw [Array.getD_eq_getD_getElem?, Array.getElem?_eq_getElem hlt'] at hnl
      simp at hnl h1
      rw [h1] at hnl
      cases hnl
    exact ⟨hall, hend listed a w E hall⟩
  | succ fuel ih =>
    intro listed a w E hf
    refine ⟨fun h => hend listed a w E h, fun i hi => ?_⟩
    obtain ⟨hlt, hnl, o, ho, hpre⟩ := ready_spec hi
    have hlt' : i < listed.size := by rw [E.lsize]; exact hlt
    have hnl' : listed[i]? = some false := by
      rw [Array.getD_eq_getD_getElem?, Array.getElem?_eq_getElem hlt'] at hnl
      rw [Array.getElem?_eq_getElem hlt']
      simpa using hnl
    have hpre' : ∀ e ∈ o.after, Region.binds .any e = true → listed[e.on]? = some true := fun e he hb => getD_true (hpre e he hb)
    obtain ⟨k, hk, hCk, hstage, hdone⟩ := E.stage
    have EA : EnvAt2 ops V k i a0 o a w := ⟨E.defers, fun i' oi d hi' hd hw => by
      unfold waits at hw
      rw [← Array.any_toList, List.any_eq_true] at hw
      obtain ⟨e, he, hb⟩ := hw
      rw [Array.mem_toList_iff] at he
      simp only [Bool.and_eq_true, beq_iff_eq] at hb
      obtain ⟨hb1, rfl⟩ := hb
      exact hdone _ oi d (hpre' e he hb1) hi' hd, fun t ht => E.out t (fun j' o' ho' hd' hl => by
      rw [List.all_eq_true] at ht
      have h1 := ht o' (List.mem_of_getElem? (by rw [Array.getElem?_toList]; exact ho'))
      rw [hd'] at h1
      have h2 : waits o' i = true := by simpa using h1
      unfold waits at h2
      rw [← Array.any_toList, List.any_eq_true] at h2
      obtain ⟨e, he, hb⟩ := h2
      rw [Array.mem_toList_iff] at he
      simp only [Bool.and_eq_true, beq_iff_eq] at hb
      have h3 := E.shut j' o' hl ho' e he hb.1
      rw [hb.2, hnl'] at h3
      cases h3)⟩
    have hset : ∀ j, (listed.setIfInBounds i true)[j]? = some true ↔ (j = i ∨ listed[j]? = some true) := by
      intro j
      rw [Array.getElem?_setIfInBounds]
      by_cases hj : i = j
      · subst hj; simp [hlt']
      · simp [hj, Ne.symm hj]
    -- the new state, whatever the operation was
    have next : ∀ (v : Value) (w' : World) (k' : Nat), V i k' v w' → (∀ j u, j ≠ i → V j k u w → V j k' u w') → k' ≤ cs.length → C k' w' → (∀ p j, cs[p]? = some j → ((j = i ∨ listed[j]? = some true) ↔ p < k')) →
        EnvMid2 ops V C cs a0 (listed.setIfInBounds i true) (a.put o.dst v) w' := by
      intro v w' k' hv hst hk hC hp
      refine ⟨?_, by rw [put_size]; exact E.size, by simp [E.lsize], ?_, ?_, ⟨k', hk, hC, fun p j hj => by rw [hset]; exact hp p j hj, ?_⟩⟩
      · have := E.defers
        cases hd : o.dst <;> simpa [Act.put] using this
      · intro t ht
        have h1 : o.dst ≠ some t := fun e => ht i o ho e (by rw [hset]; exact .inl rfl)
        rw [put_get_other _ _ _ _ h1]
        exact E.out t (fun j' o' ho' hd' hl => ht j' o' ho' hd' (by rw [hset]; exact .inr hl))
      · intro j oj hj hoj e he hb
        rw [hset] at hj ⊢
        rcases hj with rfl | hj
        · rw [ho] at hoj
          obtain rfl := Option.some.inj hoj
          exact .inr (hpre' e he hb)
        · exact .inr (E.shut j oj hj hoj e he hb)
      · intro j oj d hj hoj hd
        rw [hset] at hj
        by_cases hji : j = i
        · subst hji
          rw [ho] at hoj
          obtain rfl := Option.some.inj hoj
          have hds : d < a.tmps.size := by
            rw [E.size]
            unfold dstsBelow at hbelow
            simp only [List.all_eq_true] at hbelow
            have := hbelow o (List.mem_of_getElem? (by rw [Array.getElem?_toList]; exact ho))
            rw [hd] at this
            simpa using this
          exact ⟨v, by rw [hd]; exact put_get_same _ _ _ hds, hv⟩
        · have hl : listed[j]? = some true := by rcases hj with h | h; exact absurd h hji; exact h
          obtain ⟨u, hu, hVu⟩ := hdone j oj d hl hoj hd
          refine ⟨u, ?_, hst j u hji hVu⟩
          have h1 : o.dst ≠ some d := fun e => hji (apartDst_spec ops.toList hdist j i oj o d (by rw [Array.getElem?_toList]; exact hoj) (by rw [Array.getElem?_toList]; exact ho) hd e)
          rw [put_get_other _ _ _ _ h1]
          exact hu
    have hcount : fuel + ((listed.setIfInBounds i true).toList.filter id).length = ops.size := by
      have h1 : ((listed.setIfInBounds i true).toList.filter id).length = (listed.toList.filter id).length + 1 := by
        rw [Array.toList_setIfInBounds]
        have hi' : i < listed.toList.length := by simpa using hlt'
        have hv : listed.toList[i] = false := by
          have := hnl'
          rw [Array.getElem?_eq_getElem hlt'] at this
          simpa using this
        rw [List.set_eq_take_append_cons_drop, if_pos hi', List.filter_append, List.filter_cons]
        have hsplit : listed.toList = listed.toList.take i ++ listed.toList[i] :: listed.toList.drop (i + 1) := by rw [List.getElem_cons_drop hi', List.take_append_drop]
        have h2 : (listed.toList.filter id).length = ((listed.toList.take i).filter id).length + ((listed.toList.drop (i + 1)).filter id).length := by
          conv => lhs; rw [hsplit]
          rw [List.filter_append, List.filter_cons, hv]
          simp
        rw [h2]
        simp
        omega
      omega
    have hO := hop i o ho
    unfold wpOp
    rw [ho]
    show if Region.wanted o (yielded ops a.tmps) = true then _ else _
    cases hidx : cs.idxOf? i with
    | some p =>
      unfold Obl2 at hO
      rw [hidx] at hO
      have hp : cs[p]? = some i := by
        rw [List.idxOf?_eq_some_iff] at hidx
        obtain ⟨h1, h2, _⟩ := hidx
        rw [List.getElem?_eq_getElem h1]
        simpa using h2
      have hplt : p < cs.length := (List.getElem?_eq_some_iff.1 hp).1
      have hpk : p = k := by
        have h1 : ¬ p < k := fun h => by
          have := (hstage p i hp).2 h
          rw [hnl'] at this
          cases this
        have h2 : ¬ k < p := fun h => by
          obtain ⟨q, rfl⟩ : ∃ q, p = q + 1 := ⟨p - 1, by omega⟩
          have hq : q < cs.length := by omega
          have hqi : cs[q]? = some cs[q] := List.getElem?_eq_getElem hq
          have hw := chained_get (ops := ops) cs hch q cs[q] i hqi hp
          have hl := waitsAll_listed (ops := ops) E.shut cs[q] 40 i (fun o' ho' e he hb => by rw [ho] at ho'; obtain rfl := Option.some.inj ho'; exact hpre' e he hb) hw
          have := (hstage q cs[q] hqi).1 hl
          omega
        omega
      subst hpk
      have hfin := hO a w EA hCk (fun a' w' => wpAny P .any ops Q fuel (listed.setIfInBounds i true) a' w') (fun v w' hv hC hR => by
        refine ih _ _ _ (next v w' (p + 1) hv (fun j u hji h => hstab p j u w w' hplt (fun e => hji (Option.some.inj (hp.symm.trans e)).symm) hR h) hplt hC ?_) hcount
        intro q j hq
        constructor
        · intro h
          rcases h with rfl | h
          · have : q = p := by
              have hql : q < cs.length := (List.getElem?_eq_some_iff.1 hq).1
              exact (List.getElem?_inj hql hnd).1 (hq.trans hp.symm)
            omega
          · have := (hstage q j hq).1 h
            omega
        · intro h
          by_cases hqp : q = p
          · subst hqp
            rw [hp] at hq
            exact .inl (Option.some.inj hq).symm
          · exact .inr ((hstage q j hq).2 (by omega)))
      split
      · rename_i hw; rw [if_pos hw] at hfin; exact .inl hfin
      · rename_i hw; rw [if_neg hw] at hfin; exact hfin
    | none =>
      unfold Obl2 at hO
      rw [hidx] at hO
      have hni : i ∉ cs := by
        intro hm
        rw [List.idxOf?_eq_none_iff] at hidx
        exact hidx hm
      have hst : ∀ q j, cs[q]? = some j → ((j = i ∨ listed[j]? = some true) ↔ q < k) := by
        intro q j hq
        have hji : j ≠ i := fun e => hni (e ▸ List.mem_of_getElem? hq)
        simp only [hji, false_or]
        exact hstage q j hq
      have hfin : if Region.wanted o (yielded ops a.tmps) = true then o.wp P a w (fun a' w' => wpAny P .any ops Q fuel (listed.setIfInBounds i true) a' w') Q else wpAny P .any ops Q fuel (listed.setIfInBounds i true) (a.put o.dst undef) w := by
        cases hf : fs.contains i with
        | true =>
          simp only [hf, if_true] at hO
          exact hO k a w EA hCk (fun a' w' => wpAny P .any ops Q fuel (listed.setIfInBounds i true) a' w') (fun v w' hv hC hR => ih _ _ _ (next v w' k hv (fun j u _ h => hfree k j u w w' hR h) hk hC hst) hcount)
        | false =>
          simp only [hf, Bool.false_eq_true, if_false] at hO
          exact hO k a w EA hCk (fun a' w' => wpAny P .any ops Q fuel (listed.setIfInBounds i true) a' w') (fun v hv => ih _ _ _ (next v w k hv (fun _ _ _ h => h) hk hCk hst) hcount)
      split
      · rename_i hw; rw [if_pos hw] at hfin; exact .inl hfin
      · rename_i hw; rw [if_neg hw] at hfin; exact hfin

/-- THE LAW: a region that draws its order. -/
theorem wp_region_env2 {rid : Nat} {a0 : Act} {w0 : World} (hm : P.follows .mixedOrders = true) (V : Nat → Nat → Value → World → Prop) (C : Nat → World → Prop) (RC : Nat → World → World → Prop) (RF : World → World → Prop) (cs fs : List Nat)
    (hdist : apartDst ops.toList = true) (hbelow : dstsBelow a0.tmps.size ops.toList = true) (hord : orderly ops.toList = true) (hnd : cs.Nodup) (hch : chained ops cs = true)
    (hstab : ∀ p j v w w', p < cs.length → cs[p]? ≠ some j → RC p w w' → V j p v w → V j (p + 1) v w') (hfree : ∀ k j v w w', RF w w' → V j k v w → V j k v w') (hC : C 0 w0.drew)
    (hop : OblAll (Obl2 P ops V C RC RF Q a0 cs fs) 0 ops.toList)
    (hcs : cs.all (fun i => decide (i < ops.size)) = true)
    (hend : ∀ (vs : Nat → Value) (w : World), C cs.length w → (∀ j o, ops[j]? = some o → o.dst ≠ none → V j cs.length (vs j) w) → Q .normal (putAll vs 0 ops.toList a0) w) :
    (Code.region rid ops true).wp P Q a0 w0 := by
  refine wp_region_any hm ?_
  refine env_any2 V C RC RF cs fs a0 hdist hbelow hnd hch hstab hfree (fun j o ho => by
    have := OblAll.get ops.toList 0 hop j o (by rw [Array.getElem?_toList]; exact ho)
    simpa using this) ?_ ops.size (Array.replicate ops.size false) a0 _ ?_ ?_
  · intro listed a w E hr
    have hall := all_listed hord E.lsize hr
    obtain ⟨k, hk, hCk, hst, hdone⟩ := E.stage
    have hkl : k = cs.length := by
      rcases Nat.lt_or_ge k cs.length with h | h
      · have hi : cs[k]? = some cs[k] := List.getElem?_eq_getElem h
        have hlt : cs[k] < ops.size := by
          rw [List.all_eq_true] at hcs
          simpa using hcs cs[k] (List.getElem_mem h)
        have := (hst k cs[k] hi).1 (hall _ hlt)
        omega
      · omega
    subst hkl
    let vs : Nat → Value := fun j => match (ops[j]?).bind (·.dst) with | some d => (a.tmps[d]?).getD undef | none => undef
    have hV : ∀ j o, ops[j]? = some o → o.dst ≠ none → V j cs.length (vs j) w := by
      intro j o ho hd
      have hj : j < ops.size := (Array.getElem?_eq_some_iff.1 ho).1
      cases hdd : o.dst with
      | none => exact absurd hdd hd
      | some d =>
        obtain ⟨v, hv, hVv⟩ := hdone j o d (hall j hj) ho hdd
        have : vs j = v := by simp [vs, ho, hdd, hv]
        rw [this]
        exact hVv
    have hfin := hend vs w hCk hV
    have hact : putAll vs 0 ops.toList a0 = a := by
      have ht : (putAll vs 0 ops.toList a0).tmps = a.tmps := by
        apply Array.ext_getElem?
        intro t
        by_cases hout : (ops.toList.all fun p => p.dst != some t) = true
        · rw [E.out t (fun j' o' ho' hd' => by rw [List.all_eq_true] at hout; have := hout o' (List.mem_of_getElem? (by rw [Array.getElem?_toList]; exact ho')); rw [hd'] at this; simp at this)]
          refine putAll_out vs t _ _ _ (fun o ho => ?_)
          rw [List.all_eq_true] at hout
          simpa using hout o ho
        · rw [List.all_eq_true] at hout
          obtain ⟨o, ho⟩ := Classical.not_forall.1 hout
          obtain ⟨hmem, hd⟩ := Classical.not_imp.1 ho
          have hd' : o.dst = some t := by simpa using hd
          obtain ⟨j, hj⟩ := List.getElem?_of_mem hmem
          have hjo : ops[j]? = some o := by rw [Array.getElem?_toList] at hj; exact hj
          have htlt : t < a0.tmps.size := by
            unfold dstsBelow at hbelow
            rw [List.all_eq_true] at hbelow
            have := hbelow o hmem
            rw [hd'] at this
            simpa using this
          rw [putAll_at vs t _ 0 _ hdist htlt j o hj hd']
          obtain ⟨v, hv, _⟩ := hdone j o t (hall j (Array.getElem?_eq_some_iff.1 hjo).1) hjo hd'
          have : vs j = v := by simp [vs, hjo, hd', hv]
          rw [hv, Nat.zero_add, this]
      have hd : (putAll vs 0 ops.toList a0).defers = a.defers := by rw [putAll_defers, E.defers]
      cases h1 : putAll vs 0 ops.toList a0
      cases a
      rw [h1] at ht hd
      simp only at ht hd
      rw [ht, hd]
    rw [hact] at hfin
    exact hfin
  · refine ⟨rfl, rfl, by simp, fun _ _ => rfl, fun j o hj => ?_, 0, Nat.zero_le _, hC, fun p i _ => ?_, fun j o d hj => ?_⟩
    · rw [Array.getElem?_replicate] at hj
      split at hj <;> cases hj
    · constructor
      · intro h
        rw [Array.getElem?_replicate] at h
        split at h <;> cases h
      · intro h; omega
    · rw [Array.getElem?_replicate] at hj
      split at hj <;> cases hj
  · have : ((Array.replicate ops.size false).toList.filter id) = [] := by
      rw [List.filter_eq_nil_iff]
      intro b hb
      simp at hb
      simp [hb.2]
    rw [this]
    simp


/-- a fact abides the changes at other places -/
def StabAt2 (RC : Nat → World → World → Prop) (RF : World → World → Prop) (cs : List Nat) (j : Nat) (F : Nat → Value → World → Prop) : Prop :=
  (∀ p v w w', p < cs.length → cs[p]? ≠ some j → RC p w w' → F p v w → F (p + 1) v w') ∧ ∀ k v w w', RF w w' → F k v w → F k v w'
def StabAll2 (RC : Nat → World → World → Prop) (RF : World → World → Prop) (cs : List Nat) : Nat → List (Nat → Value → World → Prop) → Prop
  | _, [] => True
  | j, F :: r => StabAt2 RC RF cs j F ∧ StabAll2 RC RF cs (j + 1) r
theorem StabAt2.const {RC : Nat → World → World → Prop} {RF : World → World → Prop} {cs : List Nat} {j : Nat} (F : Value → Prop) : StabAt2 RC RF cs j (fun _ v _ => F v) := ⟨fun _ _ _ _ _ _ _ h => h, fun _ _ _ _ _ h => h⟩
/-- a value with a fact that holds from stage lo to stage m -/
theorem StabAt2.span {α : Type} {f : α → Value} {G : α → World → Prop} {lo m : Nat} {RC : Nat → World → World → Prop} {RF : World → World → Prop} {cs : List Nat} {j : Nat} (h1 : ∀ p x w w', lo ≤ p → p < m → p < cs.length → RC p w w' → G x w → G x w') (h2 : ∀ x w w', RF w w' → G x w → G x w') :
    StabAt2 RC RF cs j (fun p v w => ∃ x : α, v = f x ∧ lo ≤ p ∧ (p ≤ m → G x w)) :=
  ⟨fun p v w w' hp _ hR ⟨x, e, hl, hg⟩ => ⟨x, e, by omega, fun hm => h1 p x w w' hl (by omega) hp hR (hg (by omega))⟩, fun k v w w' hR ⟨x, e, hl, hg⟩ => ⟨x, e, hl, fun hm => h2 x w w' hR (hg hm)⟩⟩
theorem StabAll2.get {RC : Nat → World → World → Prop} {RF : World → World → Prop} {cs : List Nat} : ∀ (l : List (Nat → Value → World → Prop)) (n : Nat), StabAll2 RC RF cs n l → ∀ (j : Nat), StabAt2 RC RF cs (n + j) (l.getD j (fun _ _ _ => True))
  | [], _, _, j => by simp [StabAt2]
  | F :: r, n, h, 0 => by simpa using h.1
  | F :: r, n, h, j + 1 => by
    have := StabAll2.get r (n + 1) h.2 j
    rw [show n + 1 + j = n + (j + 1) by omega] at this
    simpa using this
theorem wp_region_st {rid : Nat} {a0 : Act} {w0 : World} (hm : P.follows .mixedOrders = true) (Vs : List (Nat → Value → World → Prop)) (C : Nat → World → Prop) (RC : Nat → World → World → Prop) (RF : World → World → Prop) (cs fs : List Nat)
    (hdist : apartDst ops.toList = true) (hbelow : dstsBelow a0.tmps.size ops.toList = true) (hord : orderly ops.toList = true) (hnd : cs.Nodup) (hch : chained ops cs = true)
    (hstab : StabAll2 RC RF cs 0 Vs) (hC : C 0 w0.drew)
    (hop : OblAll (Obl2 P ops (fun j => Vs.getD j (fun _ _ _ => True)) C RC RF Q a0 cs fs) 0 ops.toList)
    (hcs : cs.all (fun i => decide (i < ops.size)) = true)
    (hend : ∀ (vs : Nat → Value) (w : World), C cs.length w → (∀ j o, ops[j]? = some o → o.dst ≠ none → Vs.getD j (fun _ _ _ => True) cs.length (vs j) w) → Q .normal (putAll vs 0 ops.toList a0) w) :
    (Code.region rid ops true).wp P Q a0 w0 :=
  wp_region_env2 hm (fun j => Vs.getD j (fun _ _ _ => True)) C RC RF cs fs hdist hbelow hord hnd hch
    (fun p j v w w' hp hne hR => (by have := (StabAll2.get Vs 0 hstab j).1 p v w w' hp; rw [Nat.zero_add] at this; exact this hne hR))
    (fun k j v w w' hR => (StabAll2.get Vs 0 hstab j).2 k v w w' hR) hC hop hcs hend
end
end Go.Proofs.Ytkmcakneceagpaa

namespace Go.Proofs.Ytkmcakneceagpaa
open Go.RowKit

set_option maxHeartbeats 1000000 in
set_option maxRecDepth 100000 in
theorem putPush (f : Fr) (l : List UInt8) (w0 : World) (hr : Rd w0 f.pA f.pn f.pc l) (hn : f.pn ≤ 140737488351232) (h0 : 0 ≤ f.last) (h1 : f.last < 2147483648) : Calls Try.prog 176 #[.agg #[.int .i64 f.ty, .int .i64 f.fl, .int .i64 f.st, .slice f.pA f.pn f.pc, .int .i64 f.pad, .int .u32 f.code, .int .i64 f.last, .int .i64 f.inc, .int .i64 f.dep, .bool f.only, .int .i64 f.wt, .slice f.sA f.sn f.sc]] w0 (RdP (bytesOf f.last.toNat 4 ++ l) w0) := by
  obtain ⟨ty, fl, st, pA, pn, pc, pad, code, last, inc, dep, only, wt, sA, sn, sc⟩ := f
  dsimp only at *
  have HR := Lib.hid hr
  clear hr
  go_enter Try.func176, Try.ntmps176
  go_wp2
  have K0 : Kp [] w0 (w0.alloc (.cells #[.int .i64 ty, .int .i64 fl, .int .i64 st, .slice pA pn pc, .int .i64 pad, .int .u32 code, .int .i64 last, .int .i64 inc, .int .i64 dep, .bool only, .int .i64 wt, .slice sA sn sc] 49)) := (Kp.refl _ _).alloc _
  have HB := Lib.hid (hp_new w0 (.cells #[.int .i64 ty, .int .i64 fl, .int .i64 st, .slice pA pn pc, .int .i64 pad, .int .u32 code, .int .i64 last, .int .i64 inc, .int .i64 dep, .bool only, .int .i64 wt, .slice sA sn sc] 49) _ rfl)
  have HR1 := Lib.hid (HR.out.keep K0 (by simp))
  generalize hW : w0.alloc (.cells #[.int .i64 ty, .int .i64 fl, .int .i64 st, .slice pA pn pc, .int .i64 pad, .int .u32 code, .int .i64 last, .int .i64 inc, .int .i64 dep, .bool only, .int .i64 wt, .slice sA sn sc] 49) = w1 at *
  clear hW HR
  have hB := lt_of_heap HB.out
  have CQ : ∀ (k : Nat) v, Kp [] w1 v → Kp [] w1 v := fun _ _ h => h
  refine wp_region_st (by kernel_rfl) [fun _ v _ => v = (.pointer (some ⟨w0.heap.size, 6, none⟩)),
      fun _ v _ => v = (.int .i64 last),
      fun p v w => ∃ x : Option Addr × Nat × Nat, v = .slice x.1 x.2.1 x.2.2 ∧ 1 ≤ p ∧ (p ≤ 1 → Rd w x.1 x.2.1 x.2.2 (bytesOf last.toNat 4) ∧ x.2.1 = 4 ∧ x.2.2 = 4),
      fun _ v _ => v = (.pointer (some ⟨w0.heap.size, 3, none⟩)),
      fun _ v _ => v = (.slice pA pn pc),
      fun p v w => ∃ x : Option Addr × Nat × Nat, v = .slice x.1 x.2.1 x.2.2 ∧ 2 ≤ p ∧ (p ≤ 2 → Rd w x.1 x.2.1 x.2.2 (bytesOf last.toNat 4 ++ l)),
      fun p v w => ∃ x : Option Addr × Nat × Nat, v = .slice x.1 x.2.1 x.2.2 ∧ 2 ≤ p ∧ (p ≤ 2 → Rd w x.1 x.2.1 x.2.2 (bytesOf last.toNat 4 ++ l))] (fun _ w => Kp [] w1 w) (fun p w w' => p < 2 → Kp [] w w') (fun w w' => Kp [] w w') [2, 5] [] (by kernel_rfl) (by kernel_rfl) (by kernel_rfl) (by decide) (by kernel_rfl) ⟨StabAt2.const _, StabAt2.const _, StabAt2.span (f := fun x : Option Addr × Nat × Nat => .slice x.1 x.2.1 x.2.2) (by intro p x w w' h1 h2 h3 hR hG; have K := hR; exact ⟨hG.1.keep (K (by omega)) (by simp), hG.2⟩) (by intro x w w' hR hG; have K := hR; exact ⟨hG.1.keep K (by simp), hG.2⟩), StabAt2.const _, StabAt2.const _, StabAt2.span (f := fun x : Option Addr × Nat × Nat => .slice x.1 x.2.1 x.2.2) (by intro p x w w' h1 h2 h3 hR hG; have K := hR; exact hG.keep (K (by omega)) (by simp)) (by intro x w w' hR hG; have K := hR; exact hG.keep K (by simp)), StabAt2.span (f := fun x : Option Addr × Nat × Nat => .slice x.1 x.2.1 x.2.2) (by intro p x w w' h1 h2 h3 hR hG; have K := hR; exact hG.keep (K (by omega)) (by simp)) (by intro x w w' hR hG; have K := hR; exact hG.keep K (by simp)), trivial⟩ ((Kp.refl _ _).drew) ⟨?_, ?_, ?_, ?_, ?_, ?_, ?_, trivial⟩ (by kernel_rfl) ?_
  · intro q9 a w E hC K hK
    have h1 : a.tmps[1]? = some (.pointer (some ⟨w0.heap.size, 0, none⟩)) := (E.out 1 (by kernel_rfl)).trans rfl
    refine want_none rfl ?_
    go_simp
    exact hK _ rfl
  · intro q9 a w E hC K hK
    obtain ⟨_, h3, rfl⟩ := E.pred 0 _ 3 rfl rfl (by kernel_rfl)
    refine want_none rfl ?_
    have hk := CQ q9 w hC
    have hb := hk.heap HB.out (by simp)
    have g := cell_of hb 6
    go_simp
    exact hK _ rfl
  · intro a w E hC K hK
    obtain ⟨_, h4, rfl⟩ := E.pred 1 _ 4 rfl rfl (by kernel_rfl)
    refine want_none rfl ?_
    go_simp
    refine (fourF last w h0 h1).mono ?_
    rintro e w2 ⟨A, n, rfl, R2, _, K2⟩
    have e4 := R2.len
    rw [bytesOf_length] at e4
    subst e4
    go_simp
    exact hK _ _ ⟨⟨A, 4, 4⟩, rfl, by omega, fun _ => ⟨R2, rfl, rfl⟩⟩ (hC.trans K2) (fun _ => K2)
  · intro q9 a w E hC K hK
    have h1 : a.tmps[1]? = some (.pointer (some ⟨w0.heap.size, 0, none⟩)) := (E.out 1 (by kernel_rfl)).trans rfl
    refine want_none rfl ?_
    go_simp
    exact hK _ rfl
  · intro q9 a w E hC K hK
    obtain ⟨_, h6, rfl⟩ := E.pred 3 _ 6 rfl rfl (by kernel_rfl)
    refine want_none rfl ?_
    have hk := CQ q9 w hC
    have hb := hk.heap HB.out (by simp)
    have g := cell_of hb 3
    go_simp
    exact hK _ rfl
  · intro a w E hC K hK
    obtain ⟨v2, h5, V2⟩ := E.pred 2 _ 5 rfl rfl (by kernel_rfl)
    replace V2 : (fun p v w => ∃ x : Option Addr × Nat × Nat, v = .slice x.1 x.2.1 x.2.2 ∧ 1 ≤ p ∧ (p ≤ 1 → Rd w x.1 x.2.1 x.2.2 (bytesOf last.toNat 4) ∧ x.2.1 = 4 ∧ x.2.2 = 4)) 1 v2 w := V2
    obtain ⟨_, h7, rfl⟩ := E.pred 4 _ 7 rfl rfl (by kernel_rfl)
    refine want_none rfl ?_
    obtain ⟨⟨A2, n2, c2⟩, rfl, _, G2⟩ := V2
    obtain ⟨R2, rfl, rfl⟩ := G2 (by omega)
    refine op_appX (.tmp 5) (.tmp 7) 22 5 rfl Try.underlying22 Try.info5 A2 4 _ (eval_tmp h5) R2 pA pn pc l (eval_tmp h7) (HR1.out.keep hC (by simp)) (by omega) (by omega) ?_
    intro A' c' w2 R K2
    exact hK _ _ ⟨⟨A', _, c'⟩, rfl, by omega, fun _ => R⟩ (hC.trans K2) (fun _ => K2)
  · intro q9 a w E hC K hK
    obtain ⟨v5, h8, V5⟩ := E.pred 5 _ 8 rfl rfl (by kernel_rfl)
    replace V5 : (fun p v w => ∃ x : Option Addr × Nat × Nat, v = .slice x.1 x.2.1 x.2.2 ∧ 2 ≤ p ∧ (p ≤ 2 → Rd w x.1 x.2.1 x.2.2 (bytesOf last.toNat 4 ++ l))) q9 v5 w := V5
    refine want_none rfl ?_
    go_simp
    exact hK _ V5
  intro vs w2 hC hV
  have h9 := hV 6 _ rfl (by simp)
  replace h9 : ∃ x : Option Addr × Nat × Nat, vs 6 = .slice x.1 x.2.1 x.2.2 ∧ 2 ≤ 2 ∧ (2 ≤ 2 → Rd w2 x.1 x.2.1 x.2.2 (bytesOf last.toNat 4 ++ l)) := h9
  obtain ⟨⟨A9, k9, c9⟩, e9, _, R9⟩ := h9
  have HR9 := Lib.hid (R9 (Nat.le_refl _))
  have HK9 := Lib.hid (K0.trans hC)
  clear hV R9 hC
  simp only [putAll, Act.put, List.setIfInBounds_toArray]
  dsimp only [List.set]
  rw [e9]
  go_wp2
  go_ret
  exact ⟨A9, k9, c9, rfl, HR9.out, HK9.out⟩

set_option maxHeartbeats 1000000 in
set_option maxRecDepth 100000 in
theorem putGoaway (f : Fr) (l : List UInt8) (w0 : World) (hr : Rd w0 f.pA f.pn f.pc l) (hn : f.pn ≤ 140737488351232) (h0 : 0 ≤ f.last) (h1 : f.last < 2147483648) (hc : U32 f.code) : Calls Try.prog 180 #[.agg #[.int .i64 f.ty, .int .i64 f.fl, .int .i64 f.st, .slice f.pA f.pn f.pc, .int .i64 f.pad, .int .u32 f.code, .int .i64 f.last, .int .i64 f.inc, .int .i64 f.dep, .bool f.only, .int .i64 f.wt, .slice f.sA f.sn f.sc]] w0 (RdP (bytesOf f.last.toNat 4 ++ bytesOf f.code.toNat 4 ++ l) w0) := by
  obtain ⟨ty, fl, st, pA, pn, pc, pad, code, last, inc, dep, only, wt, sA, sn, sc⟩ := f
  dsimp only at *
  have HR := Lib.hid hr
  clear hr
  go_enter Try.func180, Try.ntmps180
  go_wp2
  have K0 : Kp [] w0 (w0.alloc (.cells #[.int .i64 ty, .int .i64 fl, .int .i64 st, .slice pA pn pc, .int .i64 pad, .int .u32 code, .int .i64 last, .int .i64 inc, .int .i64 dep, .bool only, .int .i64 wt, .slice sA sn sc] 49)) := (Kp.refl _ _).alloc _
  have HB := Lib.hid (hp_new w0 (.cells #[.int .i64 ty, .int .i64 fl, .int .i64 st, .slice pA pn pc, .int .i64 pad, .int .u32 code, .int .i64 last, .int .i64 inc, .int .i64 dep, .bool only, .int .i64 wt, .slice sA sn sc] 49) _ rfl)
  have HR1 := Lib.hid (HR.out.keep K0 (by simp))
  generalize hW : w0.alloc (.cells #[.int .i64 ty, .int .i64 fl, .int .i64 st, .slice pA pn pc, .int .i64 pad, .int .u32 code, .int .i64 last, .int .i64 inc, .int .i64 dep, .bool only, .int .i64 wt, .slice sA sn sc] 49) = w1 at *
  clear hW HR
  have hB := lt_of_heap HB.out
  have CQ : ∀ (k : Nat) v, Kp [] w1 v → Kp [] w1 v := fun _ _ h => h
  have hc1 : 0 ≤ code := hc.1
  have hc2 : code.toNat < 4294967296 := by have := hc.2; omega
  have hc3 : ((code.toNat : Nat) : Int) = code := by omega
  clear hc
  refine wp_region_st (by kernel_rfl) [fun _ v _ => v = (.pointer (some ⟨w0.heap.size, 6, none⟩)),
      fun _ v _ => v = (.int .i64 last),
      fun p v w => ∃ x : Option Addr × Nat × Nat, v = .slice x.1 x.2.1 x.2.2 ∧ 1 ≤ p ∧ (p ≤ 2 → Rd w x.1 x.2.1 x.2.2 (bytesOf last.toNat 4) ∧ x.2.1 = 4 ∧ x.2.2 = 4),
      fun _ v _ => v = (.pointer (some ⟨w0.heap.size, 5, none⟩)),
      fun _ v _ => v = (.int .u32 code),
      fun p v w => ∃ x : Option Addr × Nat × Nat, v = .slice x.1 x.2.1 x.2.2 ∧ 2 ≤ p ∧ (p ≤ 2 → Rd w x.1 x.2.1 x.2.2 (bytesOf code.toNat 4) ∧ x.2.1 = 4 ∧ x.2.2 = 4),
      fun p v w => ∃ x : Option Addr × Nat × Nat, v = .slice x.1 x.2.1 x.2.2 ∧ 3 ≤ p ∧ (p ≤ 3 → Ow w (w1.heap.size) 5 1 x.1 x.2.1 x.2.2 ((bytesOf last.toNat 4 ++ bytesOf code.toNat 4).map u8) ∧ x.2.1 = 8),
      fun _ v _ => v = (.pointer (some ⟨w0.heap.size, 3, none⟩)),
      fun _ v _ => v = (.slice pA pn pc),
      fun p v w => ∃ x : Option Addr × Nat × Nat, v = .slice x.1 x.2.1 x.2.2 ∧ 4 ≤ p ∧ (p ≤ 4 → Rd w x.1 x.2.1 x.2.2 (bytesOf last.toNat 4 ++ bytesOf code.toNat 4 ++ l)),
      fun p v w => ∃ x : Option Addr × Nat × Nat, v = .slice x.1 x.2.1 x.2.2 ∧ 4 ≤ p ∧ (p ≤ 4 → Rd w x.1 x.2.1 x.2.2 (bytesOf last.toNat 4 ++ bytesOf code.toNat 4 ++ l))] (fun _ w => Kp [] w1 w) (fun p w w' => p < 3 → Kp [] w w') (fun w w' => Kp [] w w') [2, 5, 6, 9] [] (by kernel_rfl) (by kernel_rfl) (by kernel_rfl) (by decide) (by kernel_rfl) ⟨StabAt2.const _, StabAt2.const _, StabAt2.span (f := fun x : Option Addr × Nat × Nat => .slice x.1 x.2.1 x.2.2) (by intro p x w w' h1 h2 h3 hR hG; have K := hR; exact ⟨hG.1.keep (K (by omega)) (by simp), hG.2⟩) (by intro x w w' hR hG; have K := hR; exact ⟨hG.1.keep K (by simp), hG.2⟩), StabAt2.const _, StabAt2.const _, StabAt2.span (f := fun x : Option Addr × Nat × Nat => .slice x.1 x.2.1 x.2.2) (by intro p x w w' h1 h2 h3 hR hG; have K := hR; exact ⟨hG.1.keep (K (by omega)) (by simp), hG.2⟩) (by intro x w w' hR hG; have K := hR; exact ⟨hG.1.keep K (by simp), hG.2⟩), StabAt2.span (f := fun x : Option Addr × Nat × Nat => .slice x.1 x.2.1 x.2.2) (by intro p x w w' h1 h2 h3 hR hG; have K := hR; exact ⟨hG.1.keep (K (by omega)) (by simp), hG.2⟩) (by intro x w w' hR hG; have K := hR; exact ⟨hG.1.keep K (by simp), hG.2⟩), StabAt2.const _, StabAt2.const _, StabAt2.span (f := fun x : Option Addr × Nat × Nat => .slice x.1 x.2.1 x.2.2) (by intro p x w w' h1 h2 h3 hR hG; have K := hR; exact hG.keep (K (by omega)) (by simp)) (by intro x w w' hR hG; have K := hR; exact hG.keep K (by simp)), StabAt2.span (f := fun x : Option Addr × Nat × Nat => .slice x.1 x.2.1 x.2.2) (by intro p x w w' h1 h2 h3 hR hG; have K := hR; exact hG.keep (K (by omega)) (by simp)) (by intro x w w' hR hG; have K := hR; exact hG.keep K (by simp)), trivial⟩ ((Kp.refl _ _).drew) ⟨?_, ?_, ?_, ?_, ?_, ?_, ?_, ?_, ?_, ?_, ?_, trivial⟩ (by kernel_rfl) ?_
  · intro q9 a w E hC K hK
    have h1 : a.tmps[1]? = some (.pointer (some ⟨w0.heap.size, 0, none⟩)) := (E.out 1 (by kernel_rfl)).trans rfl
    refine want_none rfl ?_
    go_simp
    exact hK _ rfl
  · intro q9 a w E hC K hK
    obtain ⟨_, h3, rfl⟩ := E.pred 0 _ 3 rfl rfl (by kernel_rfl)
    refine want_none rfl ?_
    have hk := CQ q9 w hC
    have hb := hk.heap HB.out (by simp)
    have g := cell_of hb 6
    go_simp
    exact hK _ rfl
  · intro a w E hC K hK
    obtain ⟨_, h4, rfl⟩ := E.pred 1 _ 4 rfl rfl (by kernel_rfl)
    refine want_none rfl ?_
    go_simp
    refine (fourF last w h0 h1).mono ?_
    rintro e w2 ⟨A, n, rfl, R2, _, K2⟩
    have e4 := R2.len
    rw [bytesOf_length] at e4
    subst e4
    go_simp
    exact hK _ _ ⟨⟨A, 4, 4⟩, rfl, by omega, fun _ => ⟨R2, rfl, rfl⟩⟩ (hC.trans K2) (fun _ => K2)
  · intro q9 a w E hC K hK
    have h1 : a.tmps[1]? = some (.pointer (some ⟨w0.heap.size, 0, none⟩)) := (E.out 1 (by kernel_rfl)).trans rfl
    refine want_none rfl ?_
    go_simp
    exact hK _ rfl
  · intro q9 a w E hC K hK
    obtain ⟨_, h6, rfl⟩ := E.pred 3 _ 6 rfl rfl (by kernel_rfl)
    refine want_none rfl ?_
    have hk := CQ q9 w hC
    have hb := hk.heap HB.out (by simp)
    have g := cell_of hb 5
    go_simp
    exact hK _ rfl
  · intro a w E hC K hK
    obtain ⟨_, h7, rfl⟩ := E.pred 4 _ 7 rfl rfl (by kernel_rfl)
    refine want_none rfl ?_
    go_simp
    have hPut := Put32_any code.toNat w hc2
    rw [hc3] at hPut
    refine hPut.mono ?_
    rintro e w2 ⟨A, n, rfl, R2, _, K2⟩
    have e4 := R2.len
    rw [bytesOf_length] at e4
    subst e4
    go_simp
    exact hK _ _ ⟨⟨A, 4, 4⟩, rfl, by omega, fun _ => ⟨R2, rfl, rfl⟩⟩ (hC.trans K2) (fun _ => K2)
  · intro a w E hC K hK
    obtain ⟨v2, h5, V2⟩ := E.pred 2 _ 5 rfl rfl (by kernel_rfl)
    replace V2 : (fun p v w => ∃ x : Option Addr × Nat × Nat, v = .slice x.1 x.2.1 x.2.2 ∧ 1 ≤ p ∧ (p ≤ 2 → Rd w x.1 x.2.1 x.2.2 (bytesOf last.toNat 4) ∧ x.2.1 = 4 ∧ x.2.2 = 4)) 2 v2 w := V2
    obtain ⟨v5, h8, V5⟩ := E.pred 5 _ 8 rfl rfl (by kernel_rfl)
    replace V5 : (fun p v w => ∃ x : Option Addr × Nat × Nat, v = .slice x.1 x.2.1 x.2.2 ∧ 2 ≤ p ∧ (p ≤ 2 → Rd w x.1 x.2.1 x.2.2 (bytesOf code.toNat 4) ∧ x.2.1 = 4 ∧ x.2.2 = 4)) 2 v5 w := V5
    refine want_none rfl ?_
    obtain ⟨⟨A2, n2, c2⟩, rfl, _, G2⟩ := V2
    obtain ⟨R2, rfl, rfl⟩ := G2 (by omega)
    obtain ⟨⟨A5, n5, c5⟩, rfl, _, G5⟩ := V5
    obtain ⟨R5, rfl, rfl⟩ := G5 (by omega)
    refine op_appF (.tmp 5) (.tmp 8) 22 5 rfl Try.underlying22 Try.info5 w1.heap.size A2 4 _ (eval_tmp h5) R2 A5 4 4 _ (eval_tmp h8) R5 (by omega) (by omega) hC.size (by omega) ?_
    intro A' c' w2 O K2 _
    exact hK _ _ ⟨⟨A', _, c'⟩, rfl, by omega, fun _ => ⟨O, rfl⟩⟩ (hC.trans K2) (fun _ => K2)
  · intro q9 a w E hC K hK
    have h1 : a.tmps[1]? = some (.pointer (some ⟨w0.heap.size, 0, none⟩)) := (E.out 1 (by kernel_rfl)).trans rfl
    refine want_none rfl ?_
    go_simp
    exact hK _ rfl
  · intro q9 a w E hC K hK
    obtain ⟨_, h10, rfl⟩ := E.pred 7 _ 10 rfl rfl (by kernel_rfl)
    refine want_none rfl ?_
    have hk := CQ q9 w hC
    have hb := hk.heap HB.out (by simp)
    have g := cell_of hb 3
    go_simp
    exact hK _ rfl
  · intro a w E hC K hK
    obtain ⟨v6, h9, V6⟩ := E.pred 6 _ 9 rfl rfl (by kernel_rfl)
    replace V6 : (fun p v w => ∃ x : Option Addr × Nat × Nat, v = .slice x.1 x.2.1 x.2.2 ∧ 3 ≤ p ∧ (p ≤ 3 → Ow w (w1.heap.size) 5 1 x.1 x.2.1 x.2.2 ((bytesOf last.toNat 4 ++ bytesOf code.toNat 4).map u8) ∧ x.2.1 = 8)) 3 v6 w := V6
    obtain ⟨_, h11, rfl⟩ := E.pred 8 _ 11 rfl rfl (by kernel_rfl)
    refine want_none rfl ?_
    obtain ⟨⟨A6, n6, c6⟩, rfl, _, G6⟩ := V6
    obtain ⟨O6, rfl⟩ := G6 (by omega)
    refine op_appO (.tmp 9) (.tmp 11) 22 5 rfl Try.underlying22 Try.info5 w1.heap.size A6 8 c6 _ (eval_tmp h9) O6 pA pn pc l (eval_tmp h11) (HR1.out.keep hC (by simp)) (by omega) hC.size ?_
    intro A' c' w2 O K2 _
    exact hK _ _ ⟨⟨A', _, c'⟩, rfl, by omega, fun _ => O.rd⟩ (hC.then K2 (fun t ht => .inr (O6.base t ht).1)) (fun h => absurd h (by omega))
  · intro q9 a w E hC K hK
    obtain ⟨v9, h12, V9⟩ := E.pred 9 _ 12 rfl rfl (by kernel_rfl)
    replace V9 : (fun p v w => ∃ x : Option Addr × Nat × Nat, v = .slice x.1 x.2.1 x.2.2 ∧ 4 ≤ p ∧ (p ≤ 4 → Rd w x.1 x.2.1 x.2.2 (bytesOf last.toNat 4 ++ bytesOf code.toNat 4 ++ l))) q9 v9 w := V9
    refine want_none rfl ?_
    go_simp
    exact hK _ V9
  intro vs w2 hC hV
  have h9 := hV 10 _ rfl (by simp)
  replace h9 : ∃ x : Option Addr × Nat × Nat, vs 10 = .slice x.1 x.2.1 x.2.2 ∧ 4 ≤ 4 ∧ (4 ≤ 4 → Rd w2 x.1 x.2.1 x.2.2 (bytesOf last.toNat 4 ++ bytesOf code.toNat 4 ++ l)) := h9
  obtain ⟨⟨A9, k9, c9⟩, e9, _, R9⟩ := h9
  have HR9 := Lib.hid (R9 (Nat.le_refl _))
  have HK9 := Lib.hid (K0.trans hC)
  clear hV R9 hC
  simp only [putAll, Act.put, List.setIfInBounds_toArray]
  dsimp only [List.set]
  rw [e9]
  go_wp2
  go_ret
  exact ⟨A9, k9, c9, rfl, HR9.out, HK9.out⟩
end Go.Proofs.Ytkmcakneceagpaa

namespace Go.Proofs.Ytkmcakneceagpaa
open Go.RowKit

def setOk (s : Int × Int) : Bool := decide (0 ≤ s.1) && decide (s.1 < 65536)
theorem all_of (ss : List (Int × Int)) (h : ∀ j, j < ss.length → setOk (ss.getD j (0, 0)) = true) : ss.all setOk = true := by
  rw [List.all_eq_true]
  intro x hx
  obtain ⟨j, hj, rfl⟩ := List.getElem_of_mem hx
  have := h j hj
  rwa [List.getD_eq_getElem?_getD, List.getElem?_eq_getElem hj] at this
theorem not_all (ss : List (Int × Int)) (j : Nat) (hj : j < ss.length) (h : setOk (ss.getD j (0, 0)) = false) : ss.all setOk = false := by
  rw [List.all_eq_false]
  refine ⟨ss[j], List.getElem_mem hj, ?_⟩
  rw [List.getD_eq_getElem?_getD, List.getElem?_eq_getElem hj] at h
  simpa using h
theorem setsB_eq (fl : Int) (ss : List (Int × Int)) : setsB fl ss = (ss.all setOk && (ss.isEmpty || !hasB fl 1)) := rfl

theorem u8_of {n : Int} (h0 : 0 ≤ n) (h1 : n ≤ 255) : Value.int .u8 n = u8 (byteOf n) := by rw [u8, (u8_byteOf h0 h1).2]
theorem idB_of {n : Int} (h : idB n = true) : 0 ≤ n ∧ n < 2147483648 := by simp [idB] at h; omega
theorem incB_of {n : Int} (h : (decide (1 ≤ n) && decide (n ≤ 2147483647)) = true) : 0 ≤ n ∧ n < 2147483648 := by simp at h; omega
theorem setsB_of {fl : Int} {ss : List (Int × Int)} (h : setsB fl ss = true) : ∀ j, j < ss.length → setOk (ss.getD j (0, 0)) = true := by
  intro j hj
  rw [setsB_eq, Bool.and_eq_true, List.all_eq_true] at h
  rw [List.getD_eq_getElem?_getD, List.getElem?_eq_getElem hj]
  exact h.1 _ (List.getElem_mem hj)
set_option maxHeartbeats 1000000 in
set_option maxRecDepth 100000 in
theorem maySets (f : Fr) (ss : List (Int × Int)) (w0 : World) (hs : Sd w0 f.sA f.sn f.sc ss) (hn : f.sn * 16 ≤ 140737488351232) (h0 : 0 ≤ f.fl) (h1 : f.fl ≤ 255) : Calls Try.prog 173 #[.agg #[.int .i64 f.ty, .int .i64 f.fl, .int .i64 f.st, .slice f.pA f.pn f.pc, .int .i64 f.pad, .int .u32 f.code, .int .i64 f.last, .int .i64 f.inc, .int .i64 f.dep, .bool f.only, .int .i64 f.wt, .slice f.sA f.sn f.sc]] w0 (BoolK (setsB f.fl ss) w0) := by
  have hb := (bits_has f.fl h0 h1).1
  have HBT := Lib.hid hb
  clear hb
  obtain ⟨ty, fl, st, pA, pn, pc, pad, code, last, inc, dep, only, wt, sA, sn, sc⟩ := f
  dsimp only at *
  have HS := Lib.hid hs
  have hsn : sn ≤ 140737488351232 := by omega
  have hlen := hs.len
  have hcap := hs.cap
  clear hs
  go_enter Try.func173, Try.ntmps173
  go_wp2
  have K0 : Kp [] w0 (w0.alloc (.cells #[.int .i64 ty, .int .i64 fl, .int .i64 st, .slice pA pn pc, .int .i64 pad, .int .u32 code, .int .i64 last, .int .i64 inc, .int .i64 dep, .bool only, .int .i64 wt, .slice sA sn sc] 49)) := (Kp.refl _ _).alloc _
  have HB := Lib.hid (hp_new w0 (.cells #[.int .i64 ty, .int .i64 fl, .int .i64 st, .slice pA pn pc, .int .i64 pad, .int .u32 code, .int .i64 last, .int .i64 inc, .int .i64 dep, .bool only, .int .i64 wt, .slice sA sn sc] 49) _ rfl)
  have HS1 := Lib.hid (HS.out.keep K0 (by simp))
  generalize hW : w0.alloc (.cells #[.int .i64 ty, .int .i64 fl, .int .i64 st, .slice pA pn pc, .int .i64 pad, .int .u32 code, .int .i64 last, .int .i64 inc, .int .i64 dep, .bool only, .int .i64 wt, .slice sA sn sc] 49) = w1 at *
  clear hW HS
  have hB := lt_of_heap HB.out
  have HK0 := Lib.hid K0
  clear K0
  have b11 := cell_of HB.out 11
  have b1 := cell_of HB.out 1
  go_wp2
  go_loopw [8] (fun i wr => ∃ k : Nat, k ≤ sn ∧ i = .int .i64 k ∧ Kp [] w1 wr ∧ ∀ j, j < k → setOk (ss.getD j (0, 0)) = true) (fun i _ => sn - (intOf i).toNat)
  case atStart => exact ⟨0, Nat.zero_le _, rfl, Kp.refl _ _, fun j hj => by omega⟩
  case round =>
    obtain ⟨k, hk, rfl, K, hok⟩ := hrel
    have HOK := Lib.hid hok
    clear hok
    by_cases hkl : k < sn
    · obtain ⟨b, off, rfl, hlt, hc⟩ := (HS1.out.keep K (by simp)).at_ (by omega)
      obtain ⟨c0, c1⟩ := hc k hkl
      obtain ⟨⟨x, y⟩, hxy⟩ : ∃ s, ss.getD k (0, 0) = s := ⟨_, rfl⟩
      rw [hxy] at c0 c1
      dsimp only at c0 c1
      have HXY := Lib.hid hxy
      have HK := Lib.hid K
      clear hxy hc K
      have hki : (k : Int) < (sn : Int) := by omega
      by_cases hx0 : 0 ≤ x
      · by_cases hx1 : x < 65536
        · go_wp2
          generalize hW : World.alloc _ _ = w4
          have K4 : Kp [] wr w4 := by rw [← hW]; (repeat (first | with_reducible exact Kp.refl _ _ | with_reducible assumption | with_reducible refine Kp.alloc ?_ _ | with_reducible refine Kp.drew ?_ | with_reducible refine Kp.drewN ?_ _ | (with_reducible refine Kp.setL ?_ ?_ _; focus (simp; done)) | (with_reducible refine Kp.setR ?_ ?_ _; focus (simp; done)) | (with_reducible refine Kp.setR ?_ ?_ _; focus (simp; omega))))
          go_roundw
          case rel =>
            refine ⟨k + 1, by omega, by go_num, HK.out.trans K4, fun j hj => ?_⟩
            by_cases hjk : j = k
            · rw [hjk, HXY.out]; simp [setOk, hx0, hx1]
            · exact HOK.out j (by omega)
          case measure => simp [intOf]; omega
        · go_wp2
          go_ret
          exact ⟨by rw [setsB_eq, not_all ss k (by omega) (by rw [HXY.out]; simp [setOk]; omega)]; rfl, (HK0.out.trans HK.out).trans (by (repeat (first | with_reducible exact Kp.refl _ _ | with_reducible assumption | with_reducible refine Kp.alloc ?_ _ | with_reducible refine Kp.drew ?_ | with_reducible refine Kp.drewN ?_ _ | (with_reducible refine Kp.setL ?_ ?_ _; focus (simp; done)) | (with_reducible refine Kp.setR ?_ ?_ _; focus (simp; done)) | (with_reducible refine Kp.setR ?_ ?_ _; focus (simp; omega)))))⟩
      · go_wp2
        go_ret
        exact ⟨by rw [setsB_eq, not_all ss k (by omega) (by rw [HXY.out]; simp [setOk]; omega)]; rfl, (HK0.out.trans HK.out).trans (by (repeat (first | with_reducible exact Kp.refl _ _ | with_reducible assumption | with_reducible refine Kp.alloc ?_ _ | with_reducible refine Kp.drew ?_ | with_reducible refine Kp.drewN ?_ _ | (with_reducible refine Kp.setL ?_ ?_ _; focus (simp; done)) | (with_reducible refine Kp.setR ?_ ?_ _; focus (simp; done)) | (with_reducible refine Kp.setR ?_ ?_ _; focus (simp; omega)))))⟩
    · obtain rfl : k = sn := by omega
      have hki : ¬ (k : Int) < (k : Int) := by omega
      have c11 := K.cell b11 (by simp)
      have c1 := K.cell b1 (by simp)
      have e : setsB fl ss = (ss.isEmpty || !hasB fl 1) := by rw [setsB_eq, all_of ss (fun j hj => HOK.out j (by omega))]; rfl
      have HK := Lib.hid K
      have HE := Lib.hid e
      clear K HS1 e
      by_cases hz : k = 0
      · subst hz
        obtain rfl : ss = [] := List.eq_nil_of_length_eq_zero hlen
        go_wp2
        go_ret
        exact ⟨by rw [HE.out]; simp, (HK0.out.trans HK.out).trans (by (repeat (first | with_reducible exact Kp.refl _ _ | with_reducible assumption | with_reducible refine Kp.alloc ?_ _ | with_reducible refine Kp.drew ?_ | with_reducible refine Kp.drewN ?_ _ | (with_reducible refine Kp.setL ?_ ?_ _; focus (simp; done)) | (with_reducible refine Kp.setR ?_ ?_ _; focus (simp; done)) | (with_reducible refine Kp.setR ?_ ?_ _; focus (simp; omega)))))⟩
      · have e2 : ss.isEmpty = false := by cases ss with | nil => simp at hlen; omega | cons => rfl
        have HE2 := Lib.hid e2
        clear e2
        have hz1 : ((k : Int) == 0) = false := by simp; omega
        go_wp2
        go_ret
        exact ⟨by rw [HE.out, HE2.out, ← HBT.out]; simp [bne], (HK0.out.trans HK.out).trans (by (repeat (first | with_reducible exact Kp.refl _ _ | with_reducible assumption | with_reducible refine Kp.alloc ?_ _ | with_reducible refine Kp.drew ?_ | with_reducible refine Kp.drewN ?_ _ | (with_reducible refine Kp.setL ?_ ?_ _; focus (simp; done)) | (with_reducible refine Kp.setR ?_ ?_ _; focus (simp; done)) | (with_reducible refine Kp.setR ?_ ?_ _; focus (simp; omega)))))⟩

set_option maxHeartbeats 1000000 in
set_option maxRecDepth 100000 in
theorem putSets (f : Fr) (ss : List (Int × Int)) (w0 : World) (hs : Sd w0 f.sA f.sn f.sc ss) (hn : f.sn * 16 ≤ 140737488351232) (hok : ∀ j, j < ss.length → setOk (ss.getD j (0, 0)) = true) (hu : ∀ j, U32 (ss.getD j (0, 0)).2) : Calls Try.prog 174 #[.agg #[.int .i64 f.ty, .int .i64 f.fl, .int .i64 f.st, .slice f.pA f.pn f.pc, .int .i64 f.pad, .int .u32 f.code, .int .i64 f.last, .int .i64 f.inc, .int .i64 f.dep, .bool f.only, .int .i64 f.wt, .slice f.sA f.sn f.sc]] w0 (RdP (ss.flatMap setW) w0) := by
  have HOK := Lib.hid hok
  have HU := Lib.hid hu
  clear hok hu
  obtain ⟨ty, fl, st, pA, pn, pc, pad, code, last, inc, dep, only, wt, sA, sn, sc⟩ := f
  dsimp only at *
  have HS := Lib.hid hs
  have hsn : sn ≤ 140737488351232 := by omega
  have hlen := hs.len
  have hcap := hs.cap
  clear hs
  go_enter Try.func174, Try.ntmps174
  go_wp2
  have K0 : Kp [] w0 (w0.alloc (.cells #[.int .i64 ty, .int .i64 fl, .int .i64 st, .slice pA pn pc, .int .i64 pad, .int .u32 code, .int .i64 last, .int .i64 inc, .int .i64 dep, .bool only, .int .i64 wt, .slice sA sn sc] 49)) := (Kp.refl _ _).alloc _
  have HB := Lib.hid (hp_new w0 (.cells #[.int .i64 ty, .int .i64 fl, .int .i64 st, .slice pA pn pc, .int .i64 pad, .int .u32 code, .int .i64 last, .int .i64 inc, .int .i64 dep, .bool only, .int .i64 wt, .slice sA sn sc] 49) _ rfl)
  have HS1 := Lib.hid (HS.out.keep K0 (by simp))
  generalize hW : w0.alloc (.cells #[.int .i64 ty, .int .i64 fl, .int .i64 st, .slice pA pn pc, .int .i64 pad, .int .u32 code, .int .i64 last, .int .i64 inc, .int .i64 dep, .bool only, .int .i64 wt, .slice sA sn sc] 49) = w1 at *
  clear hW HS
  have hB := lt_of_heap HB.out
  have HK0 := Lib.hid K0
  clear K0
  have b11 := cell_of HB.out 11
  go_wp2
  go_loopw [3, 11] (fun b i wr => ∃ (k : Nat) (A : Option Addr) (c : Nat), k ≤ sn ∧ i = .int .i64 k ∧ b = .slice A (6 * k) c ∧ Ow wr w1.heap.size 5 1 A (6 * k) c (((ss.take k).flatMap setW).map u8) ∧ Kp [] w1 wr) (fun _ i _ => sn - (intOf i).toNat)
  case atStart => exact ⟨0, none, 0, Nat.zero_le _, rfl, rfl, Ow.nil _ _ _ _, Kp.refl _ _⟩
  case round =>
    obtain ⟨k, A, c, hk, rfl, rfl, O, K⟩ := hrel
    by_cases hkl : k < sn
    · obtain ⟨b, off, rfl, hlt, hc⟩ := (HS1.out.keep K (by simp)).at_ (by omega)
      obtain ⟨c0, c1⟩ := hc k hkl
      have hk1 := HOK.out k (by omega)
      have hk2 := HU.out k
      have htk : (ss.take (k + 1)).flatMap setW = (ss.take k).flatMap setW ++ setW (ss.getD k (0, 0)) := by
        rw [List.take_succ_eq_append_getElem (by omega), List.flatMap_append, List.getD_eq_getElem?_getD, List.getElem?_eq_getElem (by omega)]
        simp
      have HTK := Lib.hid htk
      obtain ⟨⟨xi, yv⟩, hxy⟩ : ∃ s, ss.getD k (0, 0) = s := ⟨_, rfl⟩
      rw [hxy] at c0 c1 hk1 hk2
      have HXY := Lib.hid hxy
      dsimp only at c0 c1 hk2
      simp [setOk] at hk1
      obtain ⟨xi, rfl⟩ := Int.eq_ofNat_of_zero_le hk1.1
      obtain ⟨yv, rfl⟩ := Int.eq_ofNat_of_zero_le hk2.1
      have hx2 : xi < 65536 := by omega
      have hy2 : yv < 4294967296 := by omega
      have HK := Lib.hid K
      have HO := Lib.hid O
      have hki : (k : Int) < (sn : Int) := by omega
      have hcap6 := O.cap
      clear hxy htk hc K O hk1 hk2
      go_wp2_with fail
      generalize hW : World.alloc _ _ = w2
      have K2 : Kp [] wr w2 := by rw [← hW]; (repeat (first | with_reducible exact Kp.refl _ _ | with_reducible assumption | with_reducible refine Kp.alloc ?_ _ | with_reducible refine Kp.drew ?_ | with_reducible refine Kp.drewN ?_ _ | (with_reducible refine Kp.setL ?_ ?_ _; focus (simp; done)) | (with_reducible refine Kp.setR ?_ ?_ _; focus (simp; done)) | (with_reducible refine Kp.setR ?_ ?_ _; focus (simp; omega))))
      have HC2 := Lib.hid (show w2.heap[wr.heap.size]? = some (.cells #[.int .i64 xi, .int .u32 yv] 197) by rw [← hW]; (repeat (first | with_reducible assumption | (with_reducible refine hp_new _ _ _ ?_; focus (simp; done)) | (with_reducible refine (hp_old _ _ _ ?_).trans ?_; focus (first | omega | (simp; done) | (simp; omega))) | (with_reducible refine (hp_far _ _ _ _ ?_).trans ?_; focus (first | (simp; done) | (simp; omega))) | (with_reducible refine (hp_drew _ _).trans ?_) | (with_reducible refine (hp_drewN _ _ _).trans ?_))))
      clear hW
      refine (Put16_any xi w2 (by omega)).mono ?_
      rintro e w3 ⟨Ax, nx, rfl, Rx, hAx, K3⟩
      rw [putR_yes (by omega)] at Rx
      dsimp only at Rx
      have enx := Rx.len
      rw [bytesOf_length] at enx
      subst enx
      have HRx := Lib.hid Rx
      have HC3 := Lib.hid (K3.heap HC2.out (by simp))
      have HO3 := Lib.hid (HO.out.keep (K2.trans K3) (by simp))
      have hob : ∀ t, t ∈ ob A → w1.heap.size ≤ t ∧ t < wr.heap.size := HO.out.base
      have h3s := K3.size
      have h2s := K2.size
      have hs2 := lt_of_heap HC2.out
      have hw1 := HK.out.size
      have HK3 := Lib.hid ((HK.out.trans K2).trans K3)
      have hAx2 : ∀ t, t ∈ ob Ax → t ∉ ob A := fun t h1 h2 => by have := hAx t h1; have := hob t h2; omega
      have hwn : wr.heap.size ∉ ob A := fun h => by have := hob _ h; omega
      clear Rx HC2 HO K2 K3 HK
      rw [putR_yes (by omega)]
      have CQ : ∀ (k : Nat) v, Kp (ob A) w3 v → Kp (ob A) w3 v := fun _ _ h => h
      go_wp2
      refine wp_region_st (by kernel_rfl) [fun _ v _ => v = (.slice A (6 * k) c),
          fun _ v _ => v = (.slice Ax 2 2),
          fun p v w => ∃ x : Option Addr × Nat × Nat, v = .slice x.1 x.2.1 x.2.2 ∧ 1 ≤ p ∧ (p ≤ 2 → Ow w (w1.heap.size) 5 1 x.1 x.2.1 x.2.2 (((ss.take k).flatMap setW ++ bytesOf xi 2).map u8) ∧ x.2.1 = 6 * k + 2 ∧ (∀ t, t ∈ ob x.1 → t ∈ ob A ∨ w3.heap.size ≤ t)),
          fun _ v _ => v = (.pointer (some ⟨wr.heap.size, 1, none⟩)),
          fun _ v _ => v = (.int .u32 yv),
          fun p v w => ∃ x : Option Addr × Nat × Nat, v = .slice x.1 x.2.1 x.2.2 ∧ 2 ≤ p ∧ (p ≤ 2 → Rd w x.1 x.2.1 x.2.2 (bytesOf yv 4) ∧ x.2.1 = 4),
          fun p v w => ∃ x : Option Addr × Nat × Nat, v = .slice x.1 x.2.1 x.2.2 ∧ 3 ≤ p ∧ (p ≤ 3 → Ow w (w1.heap.size) 5 1 x.1 x.2.1 x.2.2 (((ss.take k).flatMap setW ++ bytesOf xi 2 ++ bytesOf yv 4).map u8) ∧ x.2.1 = 6 * (k + 1)),
          fun p v w => ∃ x : Option Addr × Nat × Nat, v = .slice x.1 x.2.1 x.2.2 ∧ 3 ≤ p ∧ (p ≤ 3 → Ow w (w1.heap.size) 5 1 x.1 x.2.1 x.2.2 (((ss.take k).flatMap setW ++ bytesOf xi 2 ++ bytesOf yv 4).map u8) ∧ x.2.1 = 6 * (k + 1))] (fun p w => (p = 0 → Kp [] w3 w) ∧ Kp (ob A) w3 w) (fun p w w' => p = 1 → Kp [] w w') (fun w w' => Kp [] w w') [2, 5, 6] [] (by kernel_rfl) (by kernel_rfl) (by kernel_rfl) (by decide) (by kernel_rfl) ⟨StabAt2.const _, StabAt2.const _, StabAt2.span (f := fun x : Option Addr × Nat × Nat => .slice x.1 x.2.1 x.2.2) (by intro p x w w' h1 h2 h3 hR hG; have K := hR; exact ⟨hG.1.keep (K (by omega)) (by simp), hG.2⟩) (by intro x w w' hR hG; have K := hR; exact ⟨hG.1.keep K (by simp), hG.2⟩), StabAt2.const _, StabAt2.const _, StabAt2.span (f := fun x : Option Addr × Nat × Nat => .slice x.1 x.2.1 x.2.2) (by intro p x w w' h1 h2 h3 hR hG; have K := hR; exact ⟨hG.1.keep (K (by omega)) (by simp), hG.2⟩) (by intro x w w' hR hG; have K := hR; exact ⟨hG.1.keep K (by simp), hG.2⟩), StabAt2.span (f := fun x : Option Addr × Nat × Nat => .slice x.1 x.2.1 x.2.2) (by intro p x w w' h1 h2 h3 hR hG; have K := hR; exact ⟨hG.1.keep (K (by omega)) (by simp), hG.2⟩) (by intro x w w' hR hG; have K := hR; exact ⟨hG.1.keep K (by simp), hG.2⟩), StabAt2.span (f := fun x : Option Addr × Nat × Nat => .slice x.1 x.2.1 x.2.2) (by intro p x w w' h1 h2 h3 hR hG; have K := hR; exact ⟨hG.1.keep (K (by omega)) (by simp), hG.2⟩) (by intro x w w' hR hG; have K := hR; exact ⟨hG.1.keep K (by simp), hG.2⟩), trivial⟩ (⟨fun _ => (Kp.refl _ _).drew, (Kp.refl _ _).drew⟩) ⟨?_, ?_, ?_, ?_, ?_, ?_, ?_, ?_, trivial⟩ (by kernel_rfl) ?_
      · intro q9 a w E hC K hK
        have h3 : a.tmps[3]? = some (.slice A (6 * k) c) := (E.out 3 (by kernel_rfl)).trans rfl
        refine want_none rfl ?_
        go_simp
        exact hK _ rfl
      · intro q9 a w E hC K hK
        have h6 : a.tmps[6]? = some (.slice Ax 2 2) := (E.out 6 (by kernel_rfl)).trans rfl
        refine want_none rfl ?_
        go_simp
        exact hK _ rfl
      · intro a w E hC K hK
        obtain ⟨_, h21, rfl⟩ := E.pred 0 _ 21 rfl rfl (by kernel_rfl)
        obtain ⟨_, h22, rfl⟩ := E.pred 1 _ 22 rfl rfl (by kernel_rfl)
        refine want_none rfl ?_
        refine op_appO (.tmp 21) (.tmp 22) 22 5 rfl Try.underlying22 Try.info5 w1.heap.size A (6 * k) c _ (eval_tmp h21) (HO3.out.keep (hC.1 rfl) (by simp)) Ax 2 2 _ (eval_tmp h22) (HRx.out.keep (hC.1 rfl) (by simp)) (by omega) (by have := hC.2.size; omega) ?_
        intro A' c' w2 O K2 hA'
        exact hK _ _ ⟨⟨A', _, c'⟩, rfl, by omega, fun _ => ⟨O, rfl, fun t ht => by rcases hA' with rfl | rfl; exact .inl ht; simp [ob] at ht; have := hC.2.size; exact .inr (by omega)⟩⟩ ⟨fun h => by omega, hC.2.trans K2⟩ (fun h => by omega)
      · intro q9 a w E hC K hK
        have h5 : a.tmps[5]? = some (.pointer (some ⟨wr.heap.size, 0, none⟩)) := (E.out 5 (by kernel_rfl)).trans rfl
        refine want_none rfl ?_
        go_simp
        exact hK _ rfl
      · intro q9 a w E hC K hK
        obtain ⟨_, h24, rfl⟩ := E.pred 3 _ 24 rfl rfl (by kernel_rfl)
        refine want_none rfl ?_
        have hk := CQ q9 w hC.2
        have hb := hk.heap HC3.out hwn
        have g := cell_of hb 1
        go_simp
        exact hK _ rfl
      · intro a w E hC K hK
        obtain ⟨_, h25, rfl⟩ := E.pred 4 _ 25 rfl rfl (by kernel_rfl)
        refine want_none rfl ?_
        go_simp
        refine (Put32_any yv w hy2).mono ?_
        rintro e w2 ⟨A5, n5, rfl, R5, _, K2⟩
        have e4 := R5.len
        rw [bytesOf_length] at e4
        subst e4
        go_simp
        exact hK _ _ ⟨⟨A5, 4, 4⟩, rfl, by omega, fun _ => ⟨R5, rfl⟩⟩ ⟨fun h => by omega, hC.2.trans K2.nil⟩ (fun _ => K2)
      · intro a w E hC K hK
        obtain ⟨v2, h23, V2⟩ := E.pred 2 _ 23 rfl rfl (by kernel_rfl)
        replace V2 : (fun p v w => ∃ x : Option Addr × Nat × Nat, v = .slice x.1 x.2.1 x.2.2 ∧ 1 ≤ p ∧ (p ≤ 2 → Ow w (w1.heap.size) 5 1 x.1 x.2.1 x.2.2 (((ss.take k).flatMap setW ++ bytesOf xi 2).map u8) ∧ x.2.1 = 6 * k + 2 ∧ (∀ t, t ∈ ob x.1 → t ∈ ob A ∨ w3.heap.size ≤ t))) 2 v2 w := V2
        obtain ⟨v5, h26, V5⟩ := E.pred 5 _ 26 rfl rfl (by kernel_rfl)
        replace V5 : (fun p v w => ∃ x : Option Addr × Nat × Nat, v = .slice x.1 x.2.1 x.2.2 ∧ 2 ≤ p ∧ (p ≤ 2 → Rd w x.1 x.2.1 x.2.2 (bytesOf yv 4) ∧ x.2.1 = 4)) 2 v5 w := V5
        refine want_none rfl ?_
        obtain ⟨⟨A2, n2, c2⟩, rfl, _, G2⟩ := V2
        obtain ⟨O2, rfl, hA2⟩ := G2 (by omega)
        obtain ⟨⟨A5, n5, c5⟩, rfl, _, G5⟩ := V5
        obtain ⟨R5, rfl⟩ := G5 (by omega)
        refine op_appO (.tmp 23) (.tmp 26) 22 5 rfl Try.underlying22 Try.info5 w1.heap.size A2 _ c2 _ (eval_tmp h23) O2 A5 4 c5 _ (eval_tmp h26) R5 (by omega) (by have := hC.2.size; omega) ?_
        intro A' c' w2 O K2 _
        exact hK _ _ ⟨⟨A', _, c'⟩, rfl, by omega, fun _ => ⟨O, by show 6 * k + 2 + 4 = _; omega⟩⟩ ⟨fun h => by omega, hC.2.then K2 hA2⟩ (fun h => by omega)
      · intro q9 a w E hC K hK
        obtain ⟨v6, h27, V6⟩ := E.pred 6 _ 27 rfl rfl (by kernel_rfl)
        replace V6 : (fun p v w => ∃ x : Option Addr × Nat × Nat, v = .slice x.1 x.2.1 x.2.2 ∧ 3 ≤ p ∧ (p ≤ 3 → Ow w (w1.heap.size) 5 1 x.1 x.2.1 x.2.2 (((ss.take k).flatMap setW ++ bytesOf xi 2 ++ bytesOf yv 4).map u8) ∧ x.2.1 = 6 * (k + 1))) q9 v6 w := V6
        refine want_none rfl ?_
        go_simp
        exact hK _ V6
      intro vs w4 hC hV
      have h9 := hV 7 _ rfl (by simp)
      replace h9 : ∃ x : Option Addr × Nat × Nat, vs 7 = .slice x.1 x.2.1 x.2.2 ∧ 3 ≤ 3 ∧ (3 ≤ 3 → Ow w4 w1.heap.size 5 1 x.1 x.2.1 x.2.2 (((ss.take k).flatMap setW ++ bytesOf xi 2 ++ bytesOf yv 4).map u8) ∧ x.2.1 = 6 * (k + 1)) := h9
      obtain ⟨⟨A9, n9, c9⟩, e9, _, G9⟩ := h9
      obtain ⟨O9, hn9⟩ := G9 (Nat.le_refl _)
      dsimp only at e9 O9 hn9
      subst hn9
      have HO9 := Lib.hid O9
      have HK9 := Lib.hid (HK3.out.then hC.2 (fun t ht => .inr (hob t ht).1))
      clear hV O9 hC
      simp only [putAll, Act.put, List.setIfInBounds_toArray]
      dsimp only [List.set]
      rw [e9]
      go_wp2
      go_roundw
      case rel =>
        refine ⟨k + 1, A9, c9, by omega, by go_num, rfl, ?_, HK9.out⟩
        rw [HTK.out, HXY.out]
        simpa [setW, List.append_assoc] using HO9.out
      case measure => simp [intOf]; omega
    · obtain rfl : k = sn := by omega
      have hki : ¬ (k : Int) < (k : Int) := by omega
      have e : ss.take k = ss := List.take_of_length_le (by omega)
      rw [e] at O
      have HO := Lib.hid O
      have HK := Lib.hid K
      clear O K e
      go_wp2
      go_ret
      exact ⟨_, _, _, rfl, HO.out.rd, HK0.out.trans HK.out⟩
end Go.Proofs.Ytkmcakneceagpaa

namespace Go.Proofs.Ytkmcakneceagpaa
open Go.RowKit

/-- a function as a value -/
@[reducible] def Fv (k : Nat) : Value := .func (.func k) #[] #[]
/-- the rule of so many bytes, the number in block b -/
@[reducible] def Sz (b : Nat) : Value := .func (.func 192) #[] #[.pointer (some ⟨b, 0, none⟩)]
set_option maxHeartbeats 400000 in
theorem sizeF (n : Int) (w : World) : Calls Try.prog 167 #[.int .i64 n] w fun e w' => e = .returned (Sz w.heap.size) ∧ w' = w.alloc (.cells #[.int .i64 n] 3) := by
  go_enter Try.func167, Try.ntmps167
  go_wp2
  go_ret
  exact ⟨rfl, rfl⟩
set_option maxHeartbeats 1000000 in
theorem kinds0 (w : World) : Calls Try.prog 144 #[.int .i64 0] w fun e w' => e = .returned (.agg #[.bool false, .bool false, .bool true, Fv 161, Fv 163, Fv 160, Fv 164]) ∧ Kp [] w w' := by
  go_enter Try.func144, Try.ntmps144
  go_wp2
  exact bodyPost_ret (v := .agg #[.bool false, .bool false, .bool true, Fv 161, Fv 163, Fv 160, Fv 164]) (by simp [results, Try.results144, go_sem]) rfl ⟨rfl, by (repeat (first | with_reducible exact Kp.refl _ _ | with_reducible assumption | with_reducible refine Kp.alloc ?_ _ | with_reducible refine Kp.drew ?_ | with_reducible refine Kp.drewN ?_ _ | (with_reducible refine Kp.setL ?_ ?_ _; focus (simp; done)) | (with_reducible refine Kp.setR ?_ ?_ _; focus (simp; done)) | (with_reducible refine Kp.setR ?_ ?_ _; focus (simp; omega))))⟩
set_option maxHeartbeats 1000000 in
theorem kinds1 (w : World) : Calls Try.prog 144 #[.int .i64 1] w fun e w' => e = .returned (.agg #[.bool false, .bool false, .bool true, Fv 161, Fv 163, Fv 160, Fv 165]) ∧ Kp [] w w' := by
  go_enter Try.func144, Try.ntmps144
  go_wp2
  exact bodyPost_ret (v := .agg #[.bool false, .bool false, .bool true, Fv 161, Fv 163, Fv 160, Fv 165]) (by simp [results, Try.results144, go_sem]) rfl ⟨rfl, by (repeat (first | with_reducible exact Kp.refl _ _ | with_reducible assumption | with_reducible refine Kp.alloc ?_ _ | with_reducible refine Kp.drew ?_ | with_reducible refine Kp.drewN ?_ _ | (with_reducible refine Kp.setL ?_ ?_ _; focus (simp; done)) | (with_reducible refine Kp.setR ?_ ?_ _; focus (simp; done)) | (with_reducible refine Kp.setR ?_ ?_ _; focus (simp; omega))))⟩
set_option maxHeartbeats 1000000 in
theorem kinds2 (w : World) : Calls Try.prog 144 #[.int .i64 2] w fun e w' => ∃ b, e = .returned (.agg #[.bool false, .bool false, .bool false, Sz b, Fv 163, Fv 168, Fv 169]) ∧ w'.heap[b]? = some (.cells #[.int .i64 5] 3) ∧ w.heap.size ≤ b ∧ Kp [] w w' := by
  go_enter Try.func144, Try.ntmps144
  go_wp2
  refine bodyPost_ret (v := .agg #[.bool false, .bool false, .bool false, Sz (w.heap.size + 1), Fv 163, Fv 168, Fv 169]) (by simp [results, Try.results144, go_sem]) rfl ⟨w.heap.size + 1, rfl, ?_, by omega, by (repeat (first | with_reducible exact Kp.refl _ _ | with_reducible assumption | with_reducible refine Kp.alloc ?_ _ | with_reducible refine Kp.drew ?_ | with_reducible refine Kp.drewN ?_ _ | (with_reducible refine Kp.setL ?_ ?_ _; focus (simp; done)) | (with_reducible refine Kp.setR ?_ ?_ _; focus (simp; done)) | (with_reducible refine Kp.setR ?_ ?_ _; focus (simp; omega))))⟩
  (repeat (first | with_reducible assumption | (with_reducible refine hp_new _ _ _ ?_; focus (simp; done)) | (with_reducible refine (hp_old _ _ _ ?_).trans ?_; focus (first | omega | (simp; done) | (simp; omega))) | (with_reducible refine (hp_far _ _ _ _ ?_).trans ?_; focus (first | (simp; done) | (simp; omega))) | (with_reducible refine (hp_drew _ _).trans ?_) | (with_reducible refine (hp_drewN _ _ _).trans ?_)))
set_option maxHeartbeats 1000000 in
theorem kinds3 (w : World) : Calls Try.prog 144 #[.int .i64 3] w fun e w' => ∃ b, e = .returned (.agg #[.bool false, .bool false, .bool false, Sz b, Fv 163, Fv 170, Fv 171]) ∧ w'.heap[b]? = some (.cells #[.int .i64 4] 3) ∧ w.heap.size ≤ b ∧ Kp [] w w' := by
  go_enter Try.func144, Try.ntmps144
  go_wp2
  refine bodyPost_ret (v := .agg #[.bool false, .bool false, .bool false, Sz (w.heap.size + 1), Fv 163, Fv 170, Fv 171]) (by simp [results, Try.results144, go_sem]) rfl ⟨w.heap.size + 1, rfl, ?_, by omega, by (repeat (first | with_reducible exact Kp.refl _ _ | with_reducible assumption | with_reducible refine Kp.alloc ?_ _ | with_reducible refine Kp.drew ?_ | with_reducible refine Kp.drewN ?_ _ | (with_reducible refine Kp.setL ?_ ?_ _; focus (simp; done)) | (with_reducible refine Kp.setR ?_ ?_ _; focus (simp; done)) | (with_reducible refine Kp.setR ?_ ?_ _; focus (simp; omega))))⟩
  (repeat (first | with_reducible assumption | (with_reducible refine hp_new _ _ _ ?_; focus (simp; done)) | (with_reducible refine (hp_old _ _ _ ?_).trans ?_; focus (first | omega | (simp; done) | (simp; omega))) | (with_reducible refine (hp_far _ _ _ _ ?_).trans ?_; focus (first | (simp; done) | (simp; omega))) | (with_reducible refine (hp_drew _ _).trans ?_) | (with_reducible refine (hp_drewN _ _ _).trans ?_)))
set_option maxHeartbeats 1000000 in
theorem kinds4 (w : World) : Calls Try.prog 144 #[.int .i64 4] w fun e w' => e = .returned (.agg #[.bool true, .bool false, .bool false, Fv 172, Fv 173, Fv 174, Fv 175]) ∧ Kp [] w w' := by
  go_enter Try.func144, Try.ntmps144
  go_wp2
  exact bodyPost_ret (v := .agg #[.bool true, .bool false, .bool false, Fv 172, Fv 173, Fv 174, Fv 175]) (by simp [results, Try.results144, go_sem]) rfl ⟨rfl, by (repeat (first | with_reducible exact Kp.refl _ _ | with_reducible assumption | with_reducible refine Kp.alloc ?_ _ | with_reducible refine Kp.drew ?_ | with_reducible refine Kp.drewN ?_ _ | (with_reducible refine Kp.setL ?_ ?_ _; focus (simp; done)) | (with_reducible refine Kp.setR ?_ ?_ _; focus (simp; done)) | (with_reducible refine Kp.setR ?_ ?_ _; focus (simp; omega))))⟩
set_option maxHeartbeats 1000000 in
theorem kinds5 (w : World) : Calls Try.prog 144 #[.int .i64 5] w fun e w' => e = .returned (.agg #[.bool false, .bool false, .bool true, Fv 161, Fv 162, Fv 176, Fv 177]) ∧ Kp [] w w' := by
  go_enter Try.func144, Try.ntmps144
  go_wp2
  exact bodyPost_ret (v := .agg #[.bool false, .bool false, .bool true, Fv 161, Fv 162, Fv 176, Fv 177]) (by simp [results, Try.results144, go_sem]) rfl ⟨rfl, by (repeat (first | with_reducible exact Kp.refl _ _ | with_reducible assumption | with_reducible refine Kp.alloc ?_ _ | with_reducible refine Kp.drew ?_ | with_reducible refine Kp.drewN ?_ _ | (with_reducible refine Kp.setL ?_ ?_ _; focus (simp; done)) | (with_reducible refine Kp.setR ?_ ?_ _; focus (simp; done)) | (with_reducible refine Kp.setR ?_ ?_ _; focus (simp; omega))))⟩
set_option maxHeartbeats 1000000 in
theorem kinds6 (w : World) : Calls Try.prog 144 #[.int .i64 6] w fun e w' => ∃ b, e = .returned (.agg #[.bool true, .bool false, .bool false, Sz b, Fv 178, Fv 160, Fv 164]) ∧ w'.heap[b]? = some (.cells #[.int .i64 8] 3) ∧ w.heap.size ≤ b ∧ Kp [] w w' := by
  go_enter Try.func144, Try.ntmps144
  go_wp2
  refine bodyPost_ret (v := .agg #[.bool true, .bool false, .bool false, Sz (w.heap.size + 1), Fv 178, Fv 160, Fv 164]) (by simp [results, Try.results144, go_sem]) rfl ⟨w.heap.size + 1, rfl, ?_, by omega, by (repeat (first | with_reducible exact Kp.refl _ _ | with_reducible assumption | with_reducible refine Kp.alloc ?_ _ | with_reducible refine Kp.drew ?_ | with_reducible refine Kp.drewN ?_ _ | (with_reducible refine Kp.setL ?_ ?_ _; focus (simp; done)) | (with_reducible refine Kp.setR ?_ ?_ _; focus (simp; done)) | (with_reducible refine Kp.setR ?_ ?_ _; focus (simp; omega))))⟩
  (repeat (first | with_reducible assumption | (with_reducible refine hp_new _ _ _ ?_; focus (simp; done)) | (with_reducible refine (hp_old _ _ _ ?_).trans ?_; focus (first | omega | (simp; done) | (simp; omega))) | (with_reducible refine (hp_far _ _ _ _ ?_).trans ?_; focus (first | (simp; done) | (simp; omega))) | (with_reducible refine (hp_drew _ _).trans ?_) | (with_reducible refine (hp_drewN _ _ _).trans ?_)))
set_option maxHeartbeats 1000000 in
theorem kinds7 (w : World) : Calls Try.prog 144 #[.int .i64 7] w fun e w' => e = .returned (.agg #[.bool true, .bool false, .bool false, Fv 179, Fv 162, Fv 180, Fv 181]) ∧ Kp [] w w' := by
  go_enter Try.func144, Try.ntmps144
  go_wp2
  exact bodyPost_ret (v := .agg #[.bool true, .bool false, .bool false, Fv 179, Fv 162, Fv 180, Fv 181]) (by simp [results, Try.results144, go_sem]) rfl ⟨rfl, by (repeat (first | with_reducible exact Kp.refl _ _ | with_reducible assumption | with_reducible refine Kp.alloc ?_ _ | with_reducible refine Kp.drew ?_ | with_reducible refine Kp.drewN ?_ _ | (with_reducible refine Kp.setL ?_ ?_ _; focus (simp; done)) | (with_reducible refine Kp.setR ?_ ?_ _; focus (simp; done)) | (with_reducible refine Kp.setR ?_ ?_ _; focus (simp; omega))))⟩
set_option maxHeartbeats 1000000 in
theorem kinds8 (w : World) : Calls Try.prog 144 #[.int .i64 8] w fun e w' => ∃ b, e = .returned (.agg #[.bool false, .bool true, .bool false, Sz b, Fv 182, Fv 183, Fv 184]) ∧ w'.heap[b]? = some (.cells #[.int .i64 4] 3) ∧ w.heap.size ≤ b ∧ Kp [] w w' := by
  go_enter Try.func144, Try.ntmps144
  go_wp2
  refine bodyPost_ret (v := .agg #[.bool false, .bool true, .bool false, Sz (w.heap.size + 1), Fv 182, Fv 183, Fv 184]) (by simp [results, Try.results144, go_sem]) rfl ⟨w.heap.size + 1, rfl, ?_, by omega, by (repeat (first | with_reducible exact Kp.refl _ _ | with_reducible assumption | with_reducible refine Kp.alloc ?_ _ | with_reducible refine Kp.drew ?_ | with_reducible refine Kp.drewN ?_ _ | (with_reducible refine Kp.setL ?_ ?_ _; focus (simp; done)) | (with_reducible refine Kp.setR ?_ ?_ _; focus (simp; done)) | (with_reducible refine Kp.setR ?_ ?_ _; focus (simp; omega))))⟩
  (repeat (first | with_reducible assumption | (with_reducible refine hp_new _ _ _ ?_; focus (simp; done)) | (with_reducible refine (hp_old _ _ _ ?_).trans ?_; focus (first | omega | (simp; done) | (simp; omega))) | (with_reducible refine (hp_far _ _ _ _ ?_).trans ?_; focus (first | (simp; done) | (simp; omega))) | (with_reducible refine (hp_drew _ _).trans ?_) | (with_reducible refine (hp_drewN _ _ _).trans ?_)))
set_option maxHeartbeats 1000000 in
theorem kinds9 (w : World) : Calls Try.prog 144 #[.int .i64 9] w fun e w' => e = .returned (.agg #[.bool false, .bool false, .bool false, Fv 161, Fv 163, Fv 160, Fv 164]) ∧ Kp [] w w' := by
  go_enter Try.func144, Try.ntmps144
  go_wp2
  exact bodyPost_ret (v := .agg #[.bool false, .bool false, .bool false, Fv 161, Fv 163, Fv 160, Fv 164]) (by simp [results, Try.results144, go_sem]) rfl ⟨rfl, by (repeat (first | with_reducible exact Kp.refl _ _ | with_reducible assumption | with_reducible refine Kp.alloc ?_ _ | with_reducible refine Kp.drew ?_ | with_reducible refine Kp.drewN ?_ _ | (with_reducible refine Kp.setL ?_ ?_ _; focus (simp; done)) | (with_reducible refine Kp.setR ?_ ?_ _; focus (simp; done)) | (with_reducible refine Kp.setR ?_ ?_ _; focus (simp; omega))))⟩
end Go.Proofs.Ytkmcakneceagpaa

namespace Go.Proofs.Ytkmcakneceagpaa
open Go.RowKit

/-- what Parse answers: the frame, how many bytes were used, the fault (is it one, its stream, its code), the error -/
structure Pq where
  f : Fp
  used : Int
  is : Bool
  xst : Int
  code : Int
  err : Int
def Pq.no (used err : Int) : Pq := ⟨Fp.zero, used, false, 0, 0, err⟩
def Pq.bad (used st code : Int) : Pq := ⟨Fp.zero, used, true, st, code, 0⟩
/-- is a frame's size right? -/
def fitsB (ty fl : Int) (n : Nat) : Bool :=
  if ty = 2 then decide (n = 5) else if ty = 3 ∨ ty = 8 then decide (n = 4) else if ty = 4 then decide (n % 6 = 0) && (decide (n = 0) || !hasB fl 1) else if ty = 6 then decide (n = 8) else if ty = 7 then decide (8 ≤ n) else true
/-- the bytes that a type must have beside its payload -/
def fixedN (ty fl : Int) : Nat := if ty = 5 then 4 else if ty = 1 ∧ hasB fl 32 = true then 5 else 0
/-- the padding, and what stands ahead of it; or a code -/
inductive Un where
  | bad (code : Int)
  | ok (pad : Nat) (l : List UInt8)
def unS (ty fl : Int) (l : List UInt8) : Un :=
  if padF ty fl then
    (if l.length < 1 + fixedN ty fl then .bad 6 else if (l.length : Int) - 1 - (l.getD 0 0).toNat < fixedN ty fl then .bad 1 else .ok (l.getD 0 0).toNat ((l.drop 1).take (l.length - 1 - (l.getD 0 0).toNat)))
  else if l.length < fixedN ty fl then .bad 6 else .ok 0 l
def n31 (l : List UInt8) (i : Nat) : Int := ((be ((l.drop i).take 4) % 2147483648 : Nat) : Int)
def n32 (l : List UInt8) (i : Nat) : Int := ((be ((l.drop i).take 4) : Nat) : Int)
def n16 (l : List UInt8) (i : Nat) : Int := ((be ((l.drop i).take 2) : Nat) : Int)
/-- a priority's bytes -/
def prS (p : Fp) (l : List UInt8) : Fp := { p with dep := n31 l 0, only := decide (128 ≤ (l.getD 0 0).toNat), wt := (l.getD 4 0).toNat + 1 }
/-- the settings in 6 * k bytes -/
def setsS (l : List UInt8) : Nat → List (Int × Int)
  | 0 => []
  | k + 1 => setsS l k ++ [(n16 l (6 * k), n32 l (6 * k + 2))]
/-- what a type reads of its bytes -/
def getS (p : Fp) (l : List UInt8) : Fp :=
  if p.ty = 1 then (if hasB p.fl 32 then { prS p l with pl := l.drop 5 } else { p with pl := l }) else if p.ty = 2 then prS p l else if p.ty = 3 then { p with code := n32 l 0 } else if p.ty = 4 then { p with ss := setsS l (l.length / 6) }
  else if p.ty = 5 then { p with last := n31 l 0, pl := l.drop 4 } else if p.ty = 7 then { p with last := n31 l 0, code := n32 l 4, pl := l.drop 8 } else if p.ty = 8 then { p with inc := n31 l 0 } else { p with pl := l }
def f0S (ty fl st pad : Int) : Fp := ⟨ty, fl, st, [], pad, 0, 0, 0, 0, false, 0, []⟩
/-- the frame within its n bytes -/
def inS (ty fl st : Int) (l : List UInt8) : Pq :=
  let u : Int := 9 + l.length
  if known ty = false then ⟨f0S ty fl st 0, u, false, 0, 0, 0⟩
  else if rightB ty st = false then .bad u 0 1
  else if fitsB ty fl l.length = false then .bad u (if ty = 2 then st else 0) 6
  else match unS ty fl l with
    | .bad c => .bad u 0 c
    | .ok pad m => if ty = 8 ∧ n31 m 0 = 0 then .bad u st 1 else ⟨getS (f0S ty fl st pad) m, u, false, 0, 0, 0⟩
/-- what Parse answers -/
def ps (l : List UInt8) (most : Int) : Pq :=
  if most < 0 then .no 0 1
  else if l.length < 9 then .no 0 3
  else if most < be (l.take 3) then .bad 9 0 6
  else if l.length < 9 + be (l.take 3) then .no 0 3
  else inS (l.getD 3 0).toNat (l.getD 4 0).toNat (n31 l 5) ((l.drop 9).take (be (l.take 3)))
theorem setsS_len (l : List UInt8) (k : Nat) : (setsS l k).length = k := by
  induction k with
  | zero => rfl
  | succ k ih => simp [setsS, ih]
end Go.Proofs.Ytkmcakneceagpaa

namespace Go.Proofs.Ytkmcakneceagpaa
open Go.RowKit

theorem cellsF {w : World} {g : Nat} {a0 a1 a2 a3 a4 a5 a6 a7 a8 a9 a10 a11 : Value} {t : TypeId} (h : w.heap[g]? = some (.cells #[a0, a1, a2, a3, a4, a5, a6, a7, a8, a9, a10, a11] t)) :
    w.cell? ⟨g, 0, none⟩ = some a0 ∧ w.cell? ⟨g, 1, none⟩ = some a1 ∧ w.cell? ⟨g, 2, none⟩ = some a2 ∧ w.cell? ⟨g, 3, none⟩ = some a3 ∧ w.cell? ⟨g, 4, none⟩ = some a4 ∧ w.cell? ⟨g, 5, none⟩ = some a5 ∧ w.cell? ⟨g, 6, none⟩ = some a6 ∧ w.cell? ⟨g, 7, none⟩ = some a7 ∧ w.cell? ⟨g, 8, none⟩ = some a8 ∧ w.cell? ⟨g, 9, none⟩ = some a9 ∧ w.cell? ⟨g, 10, none⟩ = some a10 ∧ w.cell? ⟨g, 11, none⟩ = some a11 ∧ (∀ j, w.frozen? ⟨g, j, none⟩ = false) ∧ g < w.heap.size ∧ g < w.heap.size + 1 :=
  ⟨cell_of h 0, cell_of h 1, cell_of h 2, cell_of h 3, cell_of h 4, cell_of h 5, cell_of h 6, cell_of h 7, cell_of h 8, cell_of h 9, cell_of h 10, cell_of h 11, frozen_of h, lt_of_heap h, Nat.lt_succ_of_lt (lt_of_heap h)⟩

theorem new_at {w w' : World} {o : Obj} (h : w.alloc o = w') : Kp [] w w' ∧ w'.heap[w.heap.size]? = some o := by
  subst h
  exact ⟨(Kp.refl _ _).alloc _, hp_new w o _ rfl⟩
/-- the frame f is p, its slices lie from base on -/
structure FrP (w : World) (base : Nat) (f : Fr) (p : Fp) : Prop where
  eq : f.p p.pl p.ss = p
  rd : Rd w f.pA f.pn f.pc p.pl
  sd : Sd w f.sA f.sn f.sc p.ss
  pb : ∀ b, b ∈ ob f.pA → base ≤ b
  sb : ∀ b, b ∈ ob f.sA → base ≤ b
theorem Sd.nil (w : World) : Sd w none 0 0 [] := ⟨rfl, Nat.le_refl _, fun h => by omega, fun i => by simp; exact ⟨by omega, by omega⟩⟩
/-- what a get leaves -/
def GetR (g : Nat) (p : Fp) (w : World) (e : Ending) (w' : World) : Prop :=
  e = .returned (.agg #[.bool false, .int .i64 0, .int .i64 0]) ∧ ∃ f' : Fr, w'.heap[g]? = some (.cells #[.int .i64 f'.ty, .int .i64 f'.fl, .int .i64 f'.st, .slice f'.pA f'.pn f'.pc, .int .i64 f'.pad, .int .u32 f'.code, .int .i64 f'.last, .int .i64 f'.inc, .int .i64 f'.dep, .bool f'.only, .int .i64 f'.wt, .slice f'.sA f'.sn f'.sc] 49) ∧ FrP w' w.heap.size f' p ∧ Kp [g] w w'

/-! ### fits -/
set_option maxHeartbeats 400000 in
theorem fitsAll (n : Int) (a : Bool) (w : World) : Calls Try.prog 161 #[.int .i64 n, .bool a] w (BoolR true w) := by
  go_enter Try.func161, Try.ntmps161
  go_wp2
  go_ret
  exact ⟨rfl, rfl⟩
set_option maxHeartbeats 400000 in
theorem fitsSz (n : Nat) (a : Bool) (b : Nat) (k : Int) (w : World) (hb : w.heap[b]? = some (.cells #[.int .i64 k] 3)) : Calls Try.prog 192 #[.int .i64 n, .bool a, .pointer (some ⟨b, 0, none⟩)] w (BoolR (decide ((n : Int) = k)) w) := by
  have c0 := cell_of hb 0
  clear hb
  by_cases h : (n : Int) = k
  · have h1 : ((n : Int) == k) = true := by simp [h]
    have e : decide ((n : Int) = k) = true := by simp [h]
    rw [e]
    clear h e
    go_enter Try.func192, Try.ntmps192
    go_wp2
    go_ret
    exact ⟨by simp, rfl⟩
  · have h1 : ((n : Int) == k) = false := by simp [h]
    have e : decide ((n : Int) = k) = false := by simp [h]
    rw [e]
    clear h e
    go_enter Try.func192, Try.ntmps192
    go_wp2
    go_ret
    exact ⟨by simp, rfl⟩
set_option maxHeartbeats 400000 in
theorem fitsSets (n : Nat) (hn : n ≤ 16777216) (a : Bool) (w : World) : Calls Try.prog 172 #[.int .i64 n, .bool a] w (BoolR (decide (n % 6 = 0) && (decide (n = 0) || !a)) w) := by
  by_cases h6 : n % 6 = 0
  · have h1 : ((n : Int) % 6 == 0) = true := by simp; omega
    by_cases h0 : n = 0
    · subst h0
      go_enter Try.func172, Try.ntmps172
      go_wp2
      go_ret
      exact ⟨by simp, rfl⟩
    · have h2 : ((n : Int) == 0) = false := by simp; omega
      have e : (decide (n % 6 = 0) && (decide (n = 0) || !a)) = !a := by simp [h6, h0]
      rw [e]
      clear h6 h0 e
      go_enter Try.func172, Try.ntmps172
      go_wp2
      go_ret
      exact ⟨by simp, rfl⟩
  · have h1 : ((n : Int) % 6 == 0) = false := by simp; omega
    have e : (decide (n % 6 = 0) && (decide (n = 0) || !a)) = false := by simp [h6]
    rw [e]
    clear h6 e
    go_enter Try.func172, Try.ntmps172
    go_wp2
    go_ret
    exact ⟨by simp, rfl⟩
set_option maxHeartbeats 400000 in
theorem fitsEight (n : Nat) (a : Bool) (w : World) : Calls Try.prog 179 #[.int .i64 n, .bool a] w (BoolR (decide (8 ≤ n)) w) := by
  by_cases h : 8 ≤ n
  · have e : decide (8 ≤ n) = true := by simp [h]
    rw [e]
    have h1 : (8 : Int) ≤ (n : Int) := by omega
    clear h e
    go_enter Try.func179, Try.ntmps179
    go_wp2
    go_ret
    exact ⟨by simp, rfl⟩
  · have e : decide (8 ≤ n) = false := by simp [h]
    rw [e]
    have h1 : ¬ (8 : Int) ≤ (n : Int) := by omega
    clear h e
    go_enter Try.func179, Try.ntmps179
    go_wp2
    go_ret
    exact ⟨by simp, rfl⟩

/-! ### get -/
set_option maxHeartbeats 1000000 in
set_option maxRecDepth 100000 in
theorem restF (f : Fr) (g : Nat) (A : Option Addr) (n c : Nat) (l : List UInt8) (w : World) (hB : w.heap[g]? = some (.cells #[.int .i64 f.ty, .int .i64 f.fl, .int .i64 f.st, .slice f.pA f.pn f.pc, .int .i64 f.pad, .int .u32 f.code, .int .i64 f.last, .int .i64 f.inc, .int .i64 f.dep, .bool f.only, .int .i64 f.wt, .slice f.sA f.sn f.sc] 49)) (hr : Rd w A n c l) (hn : n ≤ 140737488355328) :
    Calls Try.prog 164 #[.pointer (some ⟨g, 0, none⟩), .slice A n c] w fun e w' => e = .returned (.agg #[.bool false, .int .i64 0, .int .i64 0]) ∧ ∃ pA pn pc, w'.heap[g]? = some (.cells #[.int .i64 f.ty, .int .i64 f.fl, .int .i64 f.st, .slice pA pn pc, .int .i64 f.pad, .int .u32 f.code, .int .i64 f.last, .int .i64 f.inc, .int .i64 f.dep, .bool f.only, .int .i64 f.wt, .slice f.sA f.sn f.sc] 49) ∧ Ow w' w.heap.size 5 1 pA pn pc (l.map u8) ∧ Kp [g] w w' := by
  have HB := Lib.hid hB
  have HR := Lib.hid hr
  have hg := lt_of_heap hB
  clear hB hr
  go_enter Try.func164, Try.ntmps164
  go_wp2_with (with_reducible refine stopAt (o := ⟨some 7, _, _, _, _, _⟩) ?_)
  generalize hW : World.alloc _ _ = w1
  have K1 : Kp [] w w1 := by rw [← hW]; (repeat (first | with_reducible exact Kp.refl _ _ | with_reducible assumption | with_reducible refine Kp.alloc ?_ _ | with_reducible refine Kp.drew ?_ | with_reducible refine Kp.drewN ?_ _ | (with_reducible refine Kp.setL ?_ ?_ _; focus (simp; done)) | (with_reducible refine Kp.setR ?_ ?_ _; focus (simp; done)) | (with_reducible refine Kp.setR ?_ ?_ _; focus (simp; omega))))
  have HX := Lib.hid (show w1.heap[w.heap.size]? = some (.cells #[.bool false, .int .i64 0, .int .i64 0] 64) by rw [← hW]; (repeat (first | with_reducible assumption | (with_reducible refine hp_new _ _ _ ?_; focus (simp; done)) | (with_reducible refine (hp_old _ _ _ ?_).trans ?_; focus (first | omega | (simp; done) | (simp; omega))) | (with_reducible refine (hp_far _ _ _ _ ?_).trans ?_; focus (first | (simp; done) | (simp; omega))) | (with_reducible refine (hp_drew _ _).trans ?_) | (with_reducible refine (hp_drewN _ _ _).trans ?_))))
  clear hW
  have hs1 := K1.size
  have hsx := lt_of_heap HX.out
  refine Stop.go (wp_appB rfl _ _ 22 5 rfl Try.underlying22 Try.info5 w1.heap.size none 0 0 [] rfl (Ow.nil _ _ _ _) A n c l rfl (HR.out.keep K1 (by simp)) (by omega) (Nat.le_refl _) ?_)
  intro pA pn pc l2 w2 hn2 hl2 O K2 hA2
  have K2' : Kp [] w1 w2 := K2.mono (by simp [ob])
  have HK := Lib.hid (K1.trans K2')
  have HB2 := Lib.hid ((K1.trans K2').heap HB.out (by simp))
  have HX2 := Lib.hid (K2'.heap HX.out (by simp))
  have e : l2 = l := by rw [hl2.out]; rfl
  subst e
  have HO := Lib.hid O
  clear K1 K2 K2' O hl2 hn2 hA2 HX HB
  obtain ⟨f0, f1, f2, f3, f4, f5, f6, f7, f8, f9, f10, f11, fz, fl1, fl2⟩ := cellsF HB2.out
  have x0 := cell_of HX2.out 0
  have x1 := cell_of HX2.out 1
  have x2 := cell_of HX2.out 2
  have xz := frozen_of HX2.out
  go_wp2
  have hgx : ¬ g = w.heap.size := by omega
  generalize hW : World.setCell _ _ _ = W
  have K9 : Kp [g, w.heap.size] w2 W := by rw [← hW]; exact (((((Kp.refl _ _).setCell (.inl (by simp)) _).setCell (.inl (by simp)) _).setCell (.inl (by simp)) _).setCell (.inl (by simp)) _)
  have HB9 : W.heap[g]? = some (.cells #[.int .i64 f.ty, .int .i64 f.fl, .int .i64 f.st, .slice pA pn pc, .int .i64 f.pad, .int .u32 f.code, .int .i64 f.last, .int .i64 f.inc, .int .i64 f.dep, .bool f.only, .int .i64 f.wt, .slice f.sA f.sn f.sc] 49) := by rw [← hW]; exact (hp_far _ _ _ _ (by simp; omega)).trans ((hp_far _ _ _ _ (by simp; omega)).trans ((hp_far _ _ _ _ (by simp; omega)).trans (hp_set _ _ _ _ _ _ HB2.out)))
  have HX9 : W.heap[w.heap.size]? = some (.cells #[.bool false, .int .i64 0, .int .i64 0] 64) := by rw [← hW]; exact hp_set _ _ _ _ _ _ (hp_set _ _ _ _ _ _ (hp_set _ _ _ _ _ _ ((hp_far _ _ _ _ (by simp; omega)).trans HX2.out)))
  refine bodyPost_ret (v := .agg #[.bool false, .int .i64 0, .int .i64 0]) (by simp [results, Try.results164, go_sem, cell_of HX9]) rfl ⟨rfl, pA, pn, pc, HB9, ?_, (HK.out.nil).then K9 (by simp)⟩
  exact (HO.out.keep K9 (fun b hb ht => by have := (HO.out.base b hb).1; simp at ht; omega)).mono hs1

theorem n31_eq {l : List UInt8} {i : Nat} (h : i + 4 ≤ l.length) : (((num 4 l (i : Int)).1 % 2147483648 : Nat) : Int) = n31 l i := by rw [num_ok h]; rfl
theorem n32_eq {l : List UInt8} {i : Nat} (h : i + 4 ≤ l.length) : (((num 4 l (i : Int)).1 : Nat) : Int) = n32 l i := by rw [num_ok h]; rfl
theorem n16_eq {l : List UInt8} {i : Nat} (h : i + 2 ≤ l.length) : (((num 2 l (i : Int)).1 : Nat) : Int) = n16 l i := by rw [num_ok h]; rfl
def NumR (k : IntKind) (x : Int) (w : World) (en : Ending) (w' : World) : Prop := ∃ p q : Int, en = .returned (.tuple #[.int k x, .int .i64 p, .int .i64 q]) ∧ Kp [] w w'
theorem U31_at (A : Option Addr) (n c : Nat) (i : Nat) (l : List UInt8) (w : World) (hn : n ≤ 140737488355328) (hr : Rd w A n c l) (h : i + 4 ≤ n) : Calls Try.prog 51 #[.slice A n c, .int .i64 i] w (NumR .i64 (n31 l i) w) :=
  (U31_any A n c i l w hn hr).mono fun e w' ⟨he, hk⟩ => ⟨_, _, by rw [n31_eq (by rw [hr.len]; exact h)] at he; exact he, hk⟩
theorem U32_at (A : Option Addr) (n c : Nat) (i : Nat) (l : List UInt8) (w : World) (hn : n ≤ 140737488355328) (hr : Rd w A n c l) (h : i + 4 ≤ n) : Calls Try.prog 34 #[.slice A n c, .int .i64 i] w (NumR .u32 (n32 l i) w) :=
  (U32_any A n c i l w hn hr).mono fun e w' ⟨he, hk⟩ => ⟨_, _, by rw [n32_eq (by rw [hr.len]; exact h)] at he; exact he, hk⟩
theorem U16_at (A : Option Addr) (n c : Nat) (i : Nat) (l : List UInt8) (w : World) (hn : n ≤ 140737488355328) (hr : Rd w A n c l) (h : i + 2 ≤ n) : Calls Try.prog 39 #[.slice A n c, .int .i64 i] w (NumR .i64 (n16 l i) w) :=
  (U16_any A n c i l w hn hr).mono fun e w' ⟨he, hk⟩ => ⟨_, _, by rw [n16_eq (by rw [hr.len]; exact h)] at he; exact he, hk⟩

set_option maxHeartbeats 1000000 in
set_option maxRecDepth 100000 in
theorem priorF (f : Fr) (g : Nat) (A : Option Addr) (n c : Nat) (l : List UInt8) (w : World) (hB : w.heap[g]? = some (.cells #[.int .i64 f.ty, .int .i64 f.fl, .int .i64 f.st, .slice f.pA f.pn f.pc, .int .i64 f.pad, .int .u32 f.code, .int .i64 f.last, .int .i64 f.inc, .int .i64 f.dep, .bool f.only, .int .i64 f.wt, .slice f.sA f.sn f.sc] 49)) (hr : Rd w A n c l) (hgA : g ∉ ob A) (h5 : 5 ≤ n) (hn : n ≤ 140737488355328) :
    Calls Try.prog 166 #[.pointer (some ⟨g, 0, none⟩), .slice A n c] w fun e w' => ∃ A', e = .returned (.slice A' (n - 5) (c - 5)) ∧ Rd w' A' (n - 5) (c - 5) (l.drop 5) ∧ g ∉ ob A' ∧ w'.heap[g]? = some (.cells #[.int .i64 f.ty, .int .i64 f.fl, .int .i64 f.st, .slice f.pA f.pn f.pc, .int .i64 f.pad, .int .u32 f.code, .int .i64 f.last, .int .i64 f.inc, .int .i64 (n31 l 0), .bool (decide (128 ≤ (l.getD 0 0).toNat)), .int .i64 ((l.getD 4 0).toNat + 1), .slice f.sA f.sn f.sc] 49) ∧ Kp [g] w w' := by
  obtain ⟨b, off, rfl, hb, hcell⟩ := hr.addr (by omega)
  have hne : ¬ b = g := fun h => hgA (by simp [ob, h])
  have hne2 : ¬ g = b := fun h => hgA (by simp [ob, h])
  have HB := Lib.hid hB
  have HR := Lib.hid hr
  have hcap := hr.cap
  have hg := lt_of_heap hB
  have q0 := hcell 0 (by omega)
  have q4 := hcell 4 (by omega)
  clear hB hr hgA hcell
  have hU := U31_at (some ⟨b, off, none⟩) n c 0 l w hn HR.out (by omega)
  rw [show ((0 : Nat) : Int) = 0 from rfl] at hU
  generalize hx : n31 l 0 = x at hU
  have HX := Lib.hid hx
  have hx0 := (l.getD 0 0).toNat_lt
  have hx4 := (l.getD 4 0).toNat_lt
  generalize hy0 : (l.getD 0 0).toNat = y0 at *
  generalize hy4 : (l.getD 4 0).toNat = y4 at *
  clear hx hy0 hy4
  by_cases hc5 : c = 5
  · subst hc5
    obtain rfl : n = 5 := by omega
    go_enter Try.func166, Try.ntmps166
    go_wp2_with fail
    refine hU.mono ?_
    rintro e w1 ⟨p, q, rfl, K1⟩
    have HB1 := Lib.hid (K1.heap HB.out (by simp))
    have c0 := K1.cell q0 (by simp)
    have c4 := K1.cell q4 (by simp)
    rw [Nat.add_zero] at c0
    obtain ⟨f0, f1, f2, f3, f4, f5, f6, f7, f8, f9, f10, f11, fz, fl1, fl2⟩ := cellsF HB1.out
    have HK1 := Lib.hid K1
    clear hU q0 q4 K1
    go_wp2
    generalize hW : World.setCell _ _ _ = W
    have K9 : Kp [g] w1 W := by rw [← hW]; exact ((((Kp.refl _ _).setCell (.inl (by simp)) _).setCell (.inl (by simp)) _).setCell (.inl (by simp)) _)
    have HB9 : W.heap[g]? = some (.cells #[.int .i64 f.ty, .int .i64 f.fl, .int .i64 f.st, .slice f.pA f.pn f.pc, .int .i64 f.pad, .int .u32 f.code, .int .i64 f.last, .int .i64 f.inc, .int .i64 x, .bool (decide ((128 : Int) ≤ (y0 : Int))), .int .i64 ((y4 : Int) + 1), .slice f.sA f.sn f.sc] 49) := by rw [← hW]; exact hp_set _ _ _ _ _ _ (hp_set _ _ _ _ _ _ (hp_set _ _ _ _ _ _ HB1.out))
    have HR9 := (HR.out.keep HK1.out (by simp)).keep K9 (by intro _ t h1 h2; simp [ob] at h1 h2; omega)
    clear hW
    go_ret
    refine ⟨some ⟨b, off, none⟩, rfl, ?_, ?_, ?_, HK1.out.nil.trans K9⟩
    · have := HR9.sub 5 5 (by omega) (by omega) (A' := some ⟨b, off, none⟩) (by intro b' o' h1 h2; omega)
      rw [List.take_of_length_le (by simp [HR9.len])] at this
      exact this
    · simp [ob]; omega
    · rw [HB9]
      simp
      omega
  · have hc6 : 6 ≤ c := by omega
    go_enter Try.func166, Try.ntmps166
    go_wp2_with fail
    refine hU.mono ?_
    rintro e w1 ⟨p, q, rfl, K1⟩
    have HB1 := Lib.hid (K1.heap HB.out (by simp))
    have c0 := K1.cell q0 (by simp)
    have c4 := K1.cell q4 (by simp)
    rw [Nat.add_zero] at c0
    obtain ⟨f0, f1, f2, f3, f4, f5, f6, f7, f8, f9, f10, f11, fz, fl1, fl2⟩ := cellsF HB1.out
    have HK1 := Lib.hid K1
    clear hU q0 q4 K1
    go_wp2
    generalize hW : World.setCell _ _ _ = W
    have K9 : Kp [g] w1 W := by rw [← hW]; exact ((((Kp.refl _ _).setCell (.inl (by simp)) _).setCell (.inl (by simp)) _).setCell (.inl (by simp)) _)
    have HB9 : W.heap[g]? = some (.cells #[.int .i64 f.ty, .int .i64 f.fl, .int .i64 f.st, .slice f.pA f.pn f.pc, .int .i64 f.pad, .int .u32 f.code, .int .i64 f.last, .int .i64 f.inc, .int .i64 x, .bool (decide ((128 : Int) ≤ (y0 : Int))), .int .i64 ((y4 : Int) + 1), .slice f.sA f.sn f.sc] 49) := by rw [← hW]; exact hp_set _ _ _ _ _ _ (hp_set _ _ _ _ _ _ (hp_set _ _ _ _ _ _ HB1.out))
    have HR9 := (HR.out.keep HK1.out (by simp)).keep K9 (by intro _ t h1 h2; simp [ob] at h1 h2; omega)
    clear hW
    go_ret
    refine ⟨some ⟨b, off + 5, none⟩, rfl, ?_, ?_, ?_, HK1.out.nil.trans K9⟩
    · have := HR9.sub 5 n (by omega) (by omega) (A' := some ⟨b, off + 5, none⟩) (by intro b' o' h1 h2; injection h1 with h1; injection h1 with h1 h3 _; rw [h1, h3])
      rw [List.take_of_length_le (by simp [HR9.len])] at this
      exact this
    · simp [ob]; omega
    · rw [HB9]
      simp
      omega
end Go.Proofs.Ytkmcakneceagpaa
