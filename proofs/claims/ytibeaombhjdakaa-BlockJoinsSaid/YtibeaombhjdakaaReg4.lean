/- A region that draws its order: the law of Reg3, where what is known at a stage may speak of some slots. Over any program. -/
import Derived.Test.YtibeaombhjdakaaReg3
set_option linter.unusedVariables false
namespace Go.Proofs.Ytibeaombhjdakaa

section
variable {P : Program} {ops : Array Oper} {Q : Exit → Act → World → Prop}

/-- operations that only read write none of the slots sl -/
def plainDst (ops : List Oper) (cs fs sl : List Nat) : Bool := (ops.zipIdx).all fun (o, j) => cs.contains j || fs.contains j || (match o.dst with | some d => !sl.contains d | none => true)
theorem plainDst_spec {ops : Array Oper} {cs fs sl : List Nat} (h : plainDst ops.toList cs fs sl = true) {j : Nat} {o : Oper} (ho : ops[j]? = some o) (h1 : j ∉ cs) (h2 : fs.contains j = false) : ∀ d, o.dst = some d → d ∉ sl := by
  intro d hd hm
  unfold plainDst at h
  rw [List.all_eq_true] at h
  have h2' : j ∉ fs := by simpa using h2
  have := h (o, j) (by rw [List.mem_iff_getElem?]; exact ⟨j, by rw [List.getElem?_zipIdx, Array.getElem?_toList, ho]; simp⟩)
  simp [h2', hd, hm, h1] at this
/-- The state in the middle: what is listed has left its fact; so many of cs are listed. -/
structure EnvMid4 (ops : Array Oper) (V : Nat → Nat → Value → World → Prop) (C : Nat → Act → World → Prop) (cs : List Nat) (a0 : Act) (listed : Array Bool) (a : Act) (w : World) : Prop where
  defers : a.defers = a0.defers
  size : a.tmps.size = a0.tmps.size
  lsize : listed.size = ops.size
  out : ∀ t, (∀ (j : Nat) (o : Oper), ops[j]? = some o → o.dst = some t → listed[j]? ≠ some true) → a.tmps[t]? = a0.tmps[t]?
  shut : ∀ (j : Nat) (o : Oper), listed[j]? = some true → ops[j]? = some o → ∀ e ∈ o.after, Region.binds .any e = true → listed[e.on]? = some true
  stage : ∃ k, k ≤ cs.length ∧ C k a w ∧ (∀ p i, cs[p]? = some i → (listed[i]? = some true ↔ p < k)) ∧ ∀ (j : Nat) (o : Oper) (d : Tmp), listed[j]? = some true → ops[j]? = some o → o.dst = some d → ∃ v, a.tmps[d]? = some v ∧ V j k v w

/-- operation j: one of cs (stage p), one of fs (it adds), or another (it reads) -/
def Obl4 (P : Program) (ops : Array Oper) (V : Nat → Nat → Value → World → Prop) (C : Nat → Act → World → Prop) (RC : Nat → World → World → Prop) (RF : World → World → Prop) (Q : Exit → Act → World → Prop) (a0 : Act) (cs fs : List Nat) (j : Nat) (o : Oper) : Prop :=
  match cs.idxOf? j with
  | some p => ∀ (a : Act) (w : World), EnvAt3 ops V cs p j a0 o a w → C p a w → ∀ K : Act → World → Prop, (∀ v w', V j (p + 1) v w' → C (p + 1) (a.put o.dst v) w' → RC p w w' → K (a.put o.dst v) w') →
      if Region.wanted o (yielded ops a.tmps) = true then o.wp P a w K Q else K (a.put o.dst undef) w
  | none =>
    if fs.contains j = true then ∀ (k : Nat) (a : Act) (w : World), EnvAt3 ops V cs k j a0 o a w → C k a w → ∀ K : Act → World → Prop, (∀ v w', V j k v w' → C k (a.put o.dst v) w' → RF w w' → K (a.put o.dst v) w') →
      if Region.wanted o (yielded ops a.tmps) = true then o.wp P a w K Q else K (a.put o.dst undef) w
    else ∀ (k : Nat) (a : Act) (w : World), EnvAt3 ops V cs k j a0 o a w → C k a w → ∀ K : Act → World → Prop, (∀ v, V j k v w → K (a.put o.dst v) w) →
      if Region.wanted o (yielded ops a.tmps) = true then o.wp P a w K Q else K (a.put o.dst undef) w
theorem env_any4 (V : Nat → Nat → Value → World → Prop) (C : Nat → Act → World → Prop) (RC : Nat → World → World → Prop) (RF : World → World → Prop) (cs fs : List Nat) (a0 : Act) (hdist : apartDst ops.toList = true) (hbelow : dstsBelow a0.tmps.size ops.toList = true)
    (sl : List Nat) (hCa : ∀ k a a' w, (∀ t, t ∈ sl → a'.tmps[t]? = a.tmps[t]?) → C k a w → C k a' w) (hsl : plainDst ops.toList cs fs sl = true) (hnd : cs.Nodup) (hch : chained ops cs = true) (hstab : ∀ p j v w w', p < cs.length → cs[p]? ≠ some j → RC p w w' → V j p v w → V j (p + 1) v w') (hfree : ∀ k j v w w', RF w w' → V j k v w → V j k v w')
    (hop : ∀ (j : Nat) (o : Oper), ops[j]? = some o → Obl4 P ops V C RC RF Q a0 cs fs j o)
    (hend : ∀ (listed : Array Bool) (a : Act) (w : World), EnvMid4 ops V C cs a0 listed a w → Region.ready .any ops listed = [] → Q .normal a w) :
    ∀ (fuel : Nat) (listed : Array Bool) (a : Act) (w : World), EnvMid4 ops V C cs a0 listed a w → fuel + (listed.toList.filter id).length = ops.size → wpAny P .any ops Q fuel listed a w := by
  intro fuel
  induction fuel with
  | zero =>
    intro listed a w E hf
    have hall : Region.ready .any ops listed = [] := by
      rw [List.eq_nil_iff_forall_not_mem]
      intro i hi
      obtain ⟨hlt, hnl, _⟩ := ready_spec hi
      have e1 := E.lsize
      have e2 : listed.toList.length = listed.size := Array.length_toList
      have hl : (listed.toList.filter id).length = listed.toList.length := by omega
      rw [List.length_filter_eq_length_iff] at hl
      have hlt' : i < listed.size := by rw [E.lsize]; exact hlt
      have h1 := hl listed[i] (by simp)
      rw [Array.getD_eq_getD_getElem?, Array.getElem?_eq_getElem hlt'] at hnl
      simp at hnl h1
      rw [h1] at hnl
      cases hnl
    exact ⟨hall, hend listed a w E hall⟩
  | succ fuel ih =>
    intro listed a w E hf
    refine ⟨fun h => hend listed a w E h, fun i hi => ?_⟩
    obtain ⟨hlt, hnl, o, ho, hpre⟩ := ready_spec hi
    have hlt' : i < listed.size := by rw [E.lsize]; exact hlt
    have hnl' : listed[i]? = some false := by
      rw [Array.getD_eq_getD_getElem?, Array.getElem?_eq_getElem hlt'] at hnl
      rw [Array.getElem?_eq_getElem hlt']
      simpa using hnl
    have hpre' : ∀ e ∈ o.after, Region.binds .any e = true → listed[e.on]? = some true := fun e he hb => getD_true (hpre e he hb)
    obtain ⟨k, hk, hCk, hstage, hdone⟩ := E.stage
    have EA : EnvAt3 ops V cs k i a0 o a w := ⟨E.defers, fun i' oi d hi' hd hw => by
      unfold waits at hw
      rw [← Array.any_toList, List.any_eq_true] at hw
      obtain ⟨e, he, hb⟩ := hw
      rw [Array.mem_toList_iff] at he
      simp only [Bool.and_eq_true, beq_iff_eq] at hb
      obtain ⟨hb1, rfl⟩ := hb
      exact hdone _ oi d (hpre' e he hb1) hi' hd, fun t ht => E.out t (fun j' o' ho' hd' hl => by
      rw [List.all_eq_true] at ht
      have h1 := ht o' (List.mem_of_getElem? (by rw [Array.getElem?_toList]; exact ho'))
      rw [hd'] at h1
      have h2 : waits o' i = true := by simpa using h1
      unfold waits at h2
      rw [← Array.any_toList, List.any_eq_true] at h2
      obtain ⟨e, he, hb⟩ := h2
      rw [Array.mem_toList_iff] at he
      simp only [Bool.and_eq_true, beq_iff_eq] at hb
      have h3 := E.shut j' o' hl ho' e he hb.1
      rw [hb.2, hnl'] at h3
      cases h3), fun p i' oi hp hoi hw => by
      rcases Nat.lt_or_ge p k with h | h
      · have hl := (hstage p i' hp).2 h
        unfold waits at hw
        rw [← Array.any_toList, List.any_eq_true] at hw
        obtain ⟨e, he, hb⟩ := hw
        rw [Array.mem_toList_iff] at he
        simp only [Bool.and_eq_true, beq_iff_eq] at hb
        have h3 := E.shut i' oi hl hoi e he hb.1
        rw [hb.2, hnl'] at h3
        cases h3
      · exact h⟩
    have hset : ∀ j, (listed.setIfInBounds i true)[j]? = some true ↔ (j = i ∨ listed[j]? = some true) := by
      intro j
      rw [Array.getElem?_setIfInBounds]
      by_cases hj : i = j
      · subst hj; simp [hlt']
      · simp [hj, Ne.symm hj]
    -- the new state, whatever the operation was
    have next : ∀ (v : Value) (w' : World) (k' : Nat), V i k' v w' → (∀ j u, j ≠ i → V j k u w → V j k' u w') → k' ≤ cs.length → C k' (a.put o.dst v) w' → (∀ p j, cs[p]? = some j → ((j = i ∨ listed[j]? = some true) ↔ p < k')) →
        EnvMid4 ops V C cs a0 (listed.setIfInBounds i true) (a.put o.dst v) w' := by
      intro v w' k' hv hst hk hC hp
      refine ⟨?_, by rw [put_size]; exact E.size, by simp [E.lsize], ?_, ?_, ⟨k', hk, hC, fun p j hj => by rw [hset]; exact hp p j hj, ?_⟩⟩
      · have := E.defers
        cases hd : o.dst <;> simpa [Act.put] using this
      · intro t ht
        have h1 : o.dst ≠ some t := fun e => ht i o ho e (by rw [hset]; exact .inl rfl)
        rw [put_get_other _ _ _ _ h1]
        exact E.out t (fun j' o' ho' hd' hl => ht j' o' ho' hd' (by rw [hset]; exact .inr hl))
      · intro j oj hj hoj e he hb
        rw [hset] at hj ⊢
        rcases hj with rfl | hj
        · rw [ho] at hoj
          obtain rfl := Option.some.inj hoj
          exact .inr (hpre' e he hb)
        · exact .inr (E.shut j oj hj hoj e he hb)
      · intro j oj d hj hoj hd
        rw [hset] at hj
        by_cases hji : j = i
        · subst hji
          rw [ho] at hoj
          obtain rfl := Option.some.inj hoj
          have hds : d < a.tmps.size := by
            rw [E.size]
            unfold dstsBelow at hbelow
            simp only [List.all_eq_true] at hbelow
            have := hbelow o (List.mem_of_getElem? (by rw [Array.getElem?_toList]; exact ho))
            rw [hd] at this
            simpa using this
          exact ⟨v, by rw [hd]; exact put_get_same _ _ _ hds, hv⟩
        · have hl : listed[j]? = some true := by rcases hj with h | h; exact absurd h hji; exact h
          obtain ⟨u, hu, hVu⟩ := hdone j oj d hl hoj hd
          refine ⟨u, ?_, hst j u hji hVu⟩
          have h1 : o.dst ≠ some d := fun e => hji (apartDst_spec ops.toList hdist j i oj o d (by rw [Array.getElem?_toList]; exact hoj) (by rw [Array.getElem?_toList]; exact ho) hd e)
          rw [put_get_other _ _ _ _ h1]
          exact hu
    have hcount : fuel + ((listed.setIfInBounds i true).toList.filter id).length = ops.size := by
      have h1 : ((listed.setIfInBounds i true).toList.filter id).length = (listed.toList.filter id).length + 1 := by
        rw [Array.toList_setIfInBounds]
        have hi' : i < listed.toList.length := by simpa using hlt'
        have hv : listed.toList[i] = false := by
          have := hnl'
          rw [Array.getElem?_eq_getElem hlt'] at this
          simpa using this
        rw [List.set_eq_take_append_cons_drop, if_pos hi', List.filter_append, List.filter_cons]
        have hsplit : listed.toList = listed.toList.take i ++ listed.toList[i] :: listed.toList.drop (i + 1) := by rw [List.getElem_cons_drop hi', List.take_append_drop]
        have h2 : (listed.toList.filter id).length = ((listed.toList.take i).filter id).length + ((listed.toList.drop (i + 1)).filter id).length := by
          conv => lhs; rw [hsplit]
          rw [List.filter_append, List.filter_cons, hv]
          simp
        rw [h2]
        simp
        omega
      omega
    have hO := hop i o ho
    unfold wpOp
    rw [ho]
    show if Region.wanted o (yielded ops a.tmps) = true then _ else _
    cases hidx : cs.idxOf? i with
    | some p =>
      unfold Obl4 at hO
      rw [hidx] at hO
      have hp : cs[p]? = some i := by
        rw [List.idxOf?_eq_some_iff] at hidx
        obtain ⟨h1, h2, _⟩ := hidx
        rw [List.getElem?_eq_getElem h1]
        simpa using h2
      have hplt : p < cs.length := (List.getElem?_eq_some_iff.1 hp).1
      have hpk : p = k := by
        have h1 : ¬ p < k := fun h => by
          have := (hstage p i hp).2 h
          rw [hnl'] at this
          cases this
        have h2 : ¬ k < p := fun h => by
          obtain ⟨q, rfl⟩ : ∃ q, p = q + 1 := ⟨p - 1, by omega⟩
          have hq : q < cs.length := by omega
          have hqi : cs[q]? = some cs[q] := List.getElem?_eq_getElem hq
          have hw := chained_get (ops := ops) cs hch q cs[q] i hqi hp
          have hl := waitsAll_listed (ops := ops) E.shut cs[q] 40 i (fun o' ho' e he hb => by rw [ho] at ho'; obtain rfl := Option.some.inj ho'; exact hpre' e he hb) hw
          have := (hstage q cs[q] hqi).1 hl
          omega
        omega
      subst hpk
      have hfin := hO a w EA hCk (fun a' w' => wpAny P .any ops Q fuel (listed.setIfInBounds i true) a' w') (fun v w' hv hC hR => by
        refine ih _ _ _ (next v w' (p + 1) hv (fun j u hji h => hstab p j u w w' hplt (fun e => hji (Option.some.inj (hp.symm.trans e)).symm) hR h) hplt hC ?_) hcount
        intro q j hq
        constructor
        · intro h
          rcases h with rfl | h
          · have : q = p := by
              have hql : q < cs.length := (List.getElem?_eq_some_iff.1 hq).1
              exact (List.getElem?_inj hql hnd).1 (hq.trans hp.symm)
            omega
          · have := (hstage q j hq).1 h
            omega
        · intro h
          by_cases hqp : q = p
          · subst hqp
            rw [hp] at hq
            exact .inl (Option.some.inj hq).symm
          · exact .inr ((hstage q j hq).2 (by omega)))
      split
      · rename_i hw; rw [if_pos hw] at hfin; exact .inl hfin
      · rename_i hw; rw [if_neg hw] at hfin; exact hfin
    | none =>
      unfold Obl4 at hO
      rw [hidx] at hO
      have hni : i ∉ cs := by
        intro hm
        rw [List.idxOf?_eq_none_iff] at hidx
        exact hidx hm
      have hst : ∀ q j, cs[q]? = some j → ((j = i ∨ listed[j]? = some true) ↔ q < k) := by
        intro q j hq
        have hji : j ≠ i := fun e => hni (e ▸ List.mem_of_getElem? hq)
        simp only [hji, false_or]
        exact hstage q j hq
      have hfin : if Region.wanted o (yielded ops a.tmps) = true then o.wp P a w (fun a' w' => wpAny P .any ops Q fuel (listed.setIfInBounds i true) a' w') Q else wpAny P .any ops Q fuel (listed.setIfInBounds i true) (a.put o.dst undef) w := by
        cases hf : fs.contains i with
        | true =>
          simp only [hf, if_true] at hO
          exact hO k a w EA hCk (fun a' w' => wpAny P .any ops Q fuel (listed.setIfInBounds i true) a' w') (fun v w' hv hC hR => ih _ _ _ (next v w' k hv (fun j u _ h => hfree k j u w w' hR h) hk hC hst) hcount)
        | false =>
          simp only [hf, Bool.false_eq_true, if_false] at hO
          exact hO k a w EA hCk (fun a' w' => wpAny P .any ops Q fuel (listed.setIfInBounds i true) a' w') (fun v hv => ih _ _ _ (next v w k hv (fun _ _ _ h => h) hk (hCa k a _ w (fun t ht => put_get_other a o.dst v t (fun e => plainDst_spec hsl ho hni hf t e ht)) hCk) hst) hcount)
      split
      · rename_i hw; rw [if_pos hw] at hfin; exact .inl hfin
      · rename_i hw; rw [if_neg hw] at hfin; exact hfin

/-- THE LAW: a region that draws its order. -/
theorem wp_region_env4 {rid : Nat} {a0 : Act} {w0 : World} (hm : P.follows .mixedOrders = true) (V : Nat → Nat → Value → World → Prop) (C : Nat → Act → World → Prop) (RC : Nat → World → World → Prop) (RF : World → World → Prop) (cs fs : List Nat)
    (hdist : apartDst ops.toList = true) (hbelow : dstsBelow a0.tmps.size ops.toList = true) (hord : orderly ops.toList = true) (sl : List Nat) (hCa : ∀ k a a' w, (∀ t, t ∈ sl → a'.tmps[t]? = a.tmps[t]?) → C k a w → C k a' w) (hsl : plainDst ops.toList cs fs sl = true) (hnd : cs.Nodup) (hch : chained ops cs = true)
    (hstab : ∀ p j v w w', p < cs.length → cs[p]? ≠ some j → RC p w w' → V j p v w → V j (p + 1) v w') (hfree : ∀ k j v w w', RF w w' → V j k v w → V j k v w') (hC : C 0 a0 w0.drew)
    (hop : OblAll (Obl4 P ops V C RC RF Q a0 cs fs) 0 ops.toList)
    (hcs : cs.all (fun i => decide (i < ops.size)) = true)
    (hend : ∀ (vs : Nat → Value) (w : World), C cs.length (putAll vs 0 ops.toList a0) w → (∀ j o, ops[j]? = some o → o.dst ≠ none → V j cs.length (vs j) w) → Q .normal (putAll vs 0 ops.toList a0) w) :
    (Code.region rid ops true).wp P Q a0 w0 := by
  refine wp_region_any hm ?_
  refine env_any4 V C RC RF cs fs a0 hdist hbelow sl hCa hsl hnd hch hstab hfree (fun j o ho => by
    have := OblAll.get ops.toList 0 hop j o (by rw [Array.getElem?_toList]; exact ho)
    simpa using this) ?_ ops.size (Array.replicate ops.size false) a0 _ ?_ ?_
  · intro listed a w E hr
    have hall := all_listed hord E.lsize hr
    obtain ⟨k, hk, hCk, hst, hdone⟩ := E.stage
    have hkl : k = cs.length := by
      rcases Nat.lt_or_ge k cs.length with h | h
      · have hi : cs[k]? = some cs[k] := List.getElem?_eq_getElem h
        have hlt : cs[k] < ops.size := by
          rw [List.all_eq_true] at hcs
          simpa using hcs cs[k] (List.getElem_mem h)
        have := (hst k cs[k] hi).1 (hall _ hlt)
        omega
      · omega
    subst hkl
    let vs : Nat → Value := fun j => match (ops[j]?).bind (·.dst) with | some d => (a.tmps[d]?).getD undef | none => undef
    have hV : ∀ j o, ops[j]? = some o → o.dst ≠ none → V j cs.length (vs j) w := by
      intro j o ho hd
      have hj : j < ops.size := (Array.getElem?_eq_some_iff.1 ho).1
      cases hdd : o.dst with
      | none => exact absurd hdd hd
      | some d =>
        obtain ⟨v, hv, hVv⟩ := hdone j o d (hall j hj) ho hdd
        have : vs j = v := by simp [vs, ho, hdd, hv]
        rw [this]
        exact hVv
    have hact : putAll vs 0 ops.toList a0 = a := by
      have ht : (putAll vs 0 ops.toList a0).tmps = a.tmps := by
        apply Array.ext_getElem?
        intro t
        by_cases hout : (ops.toList.all fun p => p.dst != some t) = true
        · rw [E.out t (fun j' o' ho' hd' => by rw [List.all_eq_true] at hout; have := hout o' (List.mem_of_getElem? (by rw [Array.getElem?_toList]; exact ho')); rw [hd'] at this; simp at this)]
          refine putAll_out vs t _ _ _ (fun o ho => ?_)
          rw [List.all_eq_true] at hout
          simpa using hout o ho
        · rw [List.all_eq_true] at hout
          obtain ⟨o, ho⟩ := Classical.not_forall.1 hout
          obtain ⟨hmem, hd⟩ := Classical.not_imp.1 ho
          have hd' : o.dst = some t := by simpa using hd
          obtain ⟨j, hj⟩ := List.getElem?_of_mem hmem
          have hjo : ops[j]? = some o := by rw [Array.getElem?_toList] at hj; exact hj
          have htlt : t < a0.tmps.size := by
            unfold dstsBelow at hbelow
            rw [List.all_eq_true] at hbelow
            have := hbelow o hmem
            rw [hd'] at this
            simpa using this
          rw [putAll_at vs t _ 0 _ hdist htlt j o hj hd']
          obtain ⟨v, hv, _⟩ := hdone j o t (hall j (Array.getElem?_eq_some_iff.1 hjo).1) hjo hd'
          have : vs j = v := by simp [vs, hjo, hd', hv]
          rw [hv, Nat.zero_add, this]
      have hd : (putAll vs 0 ops.toList a0).defers = a.defers := by rw [putAll_defers, E.defers]
      cases h1 : putAll vs 0 ops.toList a0
      cases a
      rw [h1] at ht hd
      simp only at ht hd
      rw [ht, hd]
    have hfin := hend vs w (by rw [hact]; exact hCk) hV
    rw [hact] at hfin
    exact hfin
  · refine ⟨rfl, rfl, by simp, fun _ _ => rfl, fun j o hj => ?_, 0, Nat.zero_le _, hC, fun p i _ => ?_, fun j o d hj => ?_⟩
    · rw [Array.getElem?_replicate] at hj
      split at hj <;> cases hj
    · constructor
      · intro h
        rw [Array.getElem?_replicate] at h
        split at h <;> cases h
      · intro h; omega
    · rw [Array.getElem?_replicate] at hj
      split at hj <;> cases hj
  · have : ((Array.replicate ops.size false).toList.filter id) = [] := by
      rw [List.filter_eq_nil_iff]
      intro b hb
      simp at hb
      simp [hb.2]
    rw [this]
    simp


theorem wp_region_st4 {rid : Nat} {a0 : Act} {w0 : World} (hm : P.follows .mixedOrders = true) (Vs : List (Nat → Value → World → Prop)) (C : Nat → Act → World → Prop) (RC : Nat → World → World → Prop) (RF : World → World → Prop) (cs fs : List Nat)
    (hdist : apartDst ops.toList = true) (hbelow : dstsBelow a0.tmps.size ops.toList = true) (hord : orderly ops.toList = true) (sl : List Nat) (hCa : ∀ k a a' w, (∀ t, t ∈ sl → a'.tmps[t]? = a.tmps[t]?) → C k a w → C k a' w) (hsl : plainDst ops.toList cs fs sl = true) (hnd : cs.Nodup) (hch : chained ops cs = true)
    (hstab : StabAll2 RC RF cs 0 Vs) (hC : C 0 a0 w0.drew)
    (hop : OblAll (Obl4 P ops (fun j => Vs.getD j (fun _ _ _ => True)) C RC RF Q a0 cs fs) 0 ops.toList)
    (hcs : cs.all (fun i => decide (i < ops.size)) = true)
    (hend : ∀ (vs : Nat → Value) (w : World), C cs.length (putAll vs 0 ops.toList a0) w → (∀ j o, ops[j]? = some o → o.dst ≠ none → Vs.getD j (fun _ _ _ => True) cs.length (vs j) w) → Q .normal (putAll vs 0 ops.toList a0) w) :
    (Code.region rid ops true).wp P Q a0 w0 :=
  wp_region_env4 hm (fun j => Vs.getD j (fun _ _ _ => True)) C RC RF cs fs hdist hbelow hord sl hCa hsl hnd hch
    (fun p j v w w' hp hne hR => (by have := (StabAll2.get Vs 0 hstab j).1 p v w w' hp; rw [Nat.zero_add] at this; exact this hne hR))
    (fun k j v w w' hR => (StabAll2.get Vs 0 hstab j).2 k v w w' hR) hC hop hcs hend
end
end Go.Proofs.Ytibeaombhjdakaa
