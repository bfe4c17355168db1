/- A region that draws its order: the law of Reg3, where what is known at a stage may speak of some slots. Over any program. What is written is read as itself, as plain data: no program in sight. What is read, without padding, is written as the same bytes, but for two bits; too much padding is a fault: as plain data, no program in sight. The program's reader: Next. The program's reader: Next, walked. 'ReaderFails', walked. What two readers tell of the same bytes: as plain data. The program's Next: what it answers is one function of the bytes. -/
import Derived.Test.YtkmcakneceagpaaQPrs6
import Derived.Test.YtkmcakneceagpaaQKin4
set_option linter.unusedSimpArgs false
set_option linter.unusedVariables false
set_option maxHeartbeats 8000000
set_option maxRecDepth 100000
namespace Go.Proofs.Ytkmcakneceagpaa

section
variable {P:Program} {ops:Array Oper} {Q:Exit→Act→World→Prop}

def plainDst (ops:List Oper) (cs fs sl:List Nat):Bool:=(ops.zipIdx).all fun (o,j)=>cs.contains j || fs.contains j || (match o.dst with | some d=>!sl.contains d | none=>true)
theorem plainDst_spec {ops:Array Oper} {cs fs sl:List Nat} (h:plainDst ops.toList cs fs sl=true) {j:Nat} {o:Oper} (ho:ops[j]?=some o) (h1:j∉cs) (h2:fs.contains j=false):∀ d,o.dst=some d→d∉sl:=by
 intro d hd hm
 unfold plainDst at h
 rw [List.all_eq_true] at h
 have h2':j∉fs:=by simpa using h2
 have:=h (o,j) (by rw [List.mem_iff_getElem?]; exact ⟨j,by rw [List.getElem?_zipIdx,Array.getElem?_toList,ho]; simp⟩)
 simp [h2',hd,hm,h1] at this
structure EnvMid4 (ops:Array Oper) (V:Nat→Nat→Value→World→Prop) (C:Nat→Act→World→Prop) (cs:List Nat) (a0:Act) (listed:Array Bool) (a:Act) (w:World):Prop where
 defers:a.defers=a0.defers
 size:a.tmps.size=a0.tmps.size
 lsize:listed.size=ops.size
 out:∀ t,(∀ (j:Nat) (o:Oper),ops[j]?=some o→o.dst=some t→listed[j]?≠some true)→a.tmps[t]?=a0.tmps[t]?
 shut:∀ (j:Nat) (o:Oper),listed[j]?=some true→ops[j]?=some o→∀ e∈o.after,Region.binds .any e=true→listed[e.on]?=some true
 stage:∃ k,k≤cs.length∧C k a w∧(∀ p i,cs[p]?=some i→(listed[i]?=some true ↔ p < k))∧∀ (j:Nat) (o:Oper) (d:Tmp),listed[j]?=some true→ops[j]?=some o→o.dst=some d→∃ v,a.tmps[d]?=some v∧V j k v w

def Obl4 (P:Program) (ops:Array Oper) (V:Nat→Nat→Value→World→Prop) (C:Nat→Act→World→Prop) (RC:Nat→World→World→Prop) (RF:World→World→Prop) (Q:Exit→Act→World→Prop) (a0:Act) (cs fs:List Nat) (j:Nat) (o:Oper):Prop :=
 match cs.idxOf? j with
 | some p=>∀ (a:Act) (w:World),EnvAt3 ops V cs p j a0 o a w→C p a w→∀ K:Act→World→Prop,(∀ v w',V j (p+1) v w'→C (p+1) (a.put o.dst v) w'→RC p w w'→K (a.put o.dst v) w') →
   if Region.wanted o (yielded ops a.tmps)=true then o.wp P a w K Q else K (a.put o.dst undef) w
 | none =>
  if fs.contains j=true then ∀ (k:Nat) (a:Act) (w:World),EnvAt3 ops V cs k j a0 o a w→C k a w→∀ K:Act→World→Prop,(∀ v w',V j k v w'→C k (a.put o.dst v) w'→RF w w'→K (a.put o.dst v) w') →
   if Region.wanted o (yielded ops a.tmps)=true then o.wp P a w K Q else K (a.put o.dst undef) w
  else ∀ (k:Nat) (a:Act) (w:World),EnvAt3 ops V cs k j a0 o a w→C k a w→∀ K:Act→World→Prop,(∀ v,V j k v w→K (a.put o.dst v) w) →
   if Region.wanted o (yielded ops a.tmps)=true then o.wp P a w K Q else K (a.put o.dst undef) w
theorem env_any4 (V:Nat→Nat→Value→World→Prop) (C:Nat→Act→World→Prop) (RC:Nat→World→World→Prop) (RF:World→World→Prop) (cs fs:List Nat) (a0:Act) (hdist:apartDst ops.toList=true) (hbelow:dstsBelow a0.tmps.size ops.toList=true)
  (sl:List Nat) (hCa:∀ k a a' w,(∀ t,t∈sl→a'.tmps[t]?=a.tmps[t]?)→C k a w→C k a' w) (hsl:plainDst ops.toList cs fs sl=true) (hnd:cs.Nodup) (hch:chained ops cs=true) (hstab:∀ p j v w w',p < cs.length→cs[p]?≠some j→RC p w w'→V j p v w→V j (p+1) v w') (hfree:∀ k j v w w',RF w w'→V j k v w→V j k v w')
  (hop:∀ (j:Nat) (o:Oper),ops[j]?=some o→Obl4 P ops V C RC RF Q a0 cs fs j o)
  (hend:∀ (listed:Array Bool) (a:Act) (w:World),EnvMid4 ops V C cs a0 listed a w→Region.ready .any ops listed=[]→Q .normal a w) :
  ∀ (fuel:Nat) (listed:Array Bool) (a:Act) (w:World),EnvMid4 ops V C cs a0 listed a w→fuel+(listed.toList.filter id).length=ops.size→wpAny P .any ops Q fuel listed a w:=by
 intro fuel
 induction fuel with
 | zero =>
  intro listed a w E hf
  have hall:Region.ready .any ops listed=[]:=by
   rw [List.eq_nil_iff_forall_not_mem]
   intro i hi
   obtain ⟨hlt,hnl,_⟩:=ready_spec hi
   have e1:=E.lsize
   have e2:listed.toList.length=listed.size:=Array.length_toList
   have hl:(listed.toList.filter id).length=listed.toList.length:=by omega
   rw [List.length_filter_eq_length_iff] at hl
   have hlt':i < listed.size:=by rw [E.lsize]; exact hlt
   have h1:=hl listed[i] (by simp)
   rw [Array.getD_eq_getD_getElem?,Array.getElem?_eq_getElem hlt'] at hnl
   simp at hnl h1
   rw [h1] at hnl
   cases hnl
  exact ⟨hall,hend listed a w E hall⟩
 | succ fuel ih =>
  intro listed a w E hf
  refine ⟨fun h=>hend listed a w E h,fun i hi=>?_⟩
  obtain ⟨hlt,hnl,o,ho,hpre⟩:=ready_spec hi
  have hlt':i < listed.size:=by rw [E.lsize]; exact hlt
  have hnl':listed[i]?=some false:=by
   rw [Array.getD_eq_getD_getElem?,Array.getElem?_eq_getElem hlt'] at hnl
   rw [Array.getElem?_eq_getElem hlt']
   simpa using hnl
  have hpre':∀ e∈o.after,Region.binds .any e=true→listed[e.on]?=some true:=fun e he hb=>getD_true (hpre e he hb)
  obtain ⟨k,hk,hCk,hstage,hdone⟩:=E.stage
  have EA:EnvAt3 ops V cs k i a0 o a w:=⟨E.defers,fun i' oi d hi' hd hw=>by
   unfold waits at hw
   rw [← Array.any_toList,List.any_eq_true] at hw
   obtain ⟨e,he,hb⟩:=hw
   rw [Array.mem_toList_iff] at he
   simp only [Bool.and_eq_true,beq_iff_eq] at hb
   obtain ⟨hb1,rfl⟩:=hb
   exact hdone _ oi d (hpre' e he hb1) hi' hd,fun t ht=>E.out t (fun j' o' ho' hd' hl=>by
   rw [List.all_eq_true] at ht
   have h1:=ht o' (List.mem_of_getElem? (by rw [Array.getElem?_toList]; exact ho'))
   rw [hd'] at h1
   have h2:waits o' i=true:=by simpa using h1
   unfold waits at h2
   rw [← Array.any_toList,List.any_eq_true] at h2
   obtain ⟨e,he,hb⟩:=h2
   rw [Array.mem_toList_iff] at he
   simp only [Bool.and_eq_true,beq_iff_eq] at hb
   have h3:=E.shut j' o' hl ho' e he hb.1
   rw [hb.2,hnl'] at h3
   cases h3),fun p i' oi hp hoi hw=>by
   rcases Nat.lt_or_ge p k with h | h
   ·have hl:=(hstage p i' hp).2 h
    unfold waits at hw
    rw [← Array.any_toList,List.any_eq_true] at hw
    obtain ⟨e,he,hb⟩:=hw
    rw [Array.mem_toList_iff] at he
    simp only [Bool.and_eq_true,beq_iff_eq] at hb
    have h3:=E.shut i' oi hl hoi e he hb.1
    rw [hb.2,hnl'] at h3
    cases h3
   ·exact h⟩
  have hset:∀ j,(listed.setIfInBounds i true)[j]?=some true ↔ (j=i∨listed[j]?=some true):=by
   intro j
   rw [Array.getElem?_setIfInBounds]
   by_cases hj:i=j
   ·subst hj; simp [hlt']
   ·simp [hj,Ne.symm hj]
  have next:∀ (v:Value) (w':World) (k':Nat),V i k' v w'→(∀ j u,j≠i→V j k u w→V j k' u w')→k'≤cs.length→C k' (a.put o.dst v) w'→(∀ p j,cs[p]?=some j→((j=i∨listed[j]?=some true) ↔ p < k')) →
    EnvMid4 ops V C cs a0 (listed.setIfInBounds i true) (a.put o.dst v) w':=by
   intro v w' k' hv hst hk hC hp
   refine ⟨?_,by rw [put_size]; exact E.size,by simp [E.lsize],?_,?_,⟨k',hk,hC,fun p j hj=>by rw [hset]; exact hp p j hj,?_⟩⟩
   ·have:=E.defers
    cases hd:o.dst <;> simpa [Act.put] using this
   ·intro t ht
    have h1:o.dst≠some t:=fun e=>ht i o ho e (by rw [hset]; exact .inl rfl)
    rw [put_get_other _ _ _ _ h1]
    exact E.out t (fun j' o' ho' hd' hl=>ht j' o' ho' hd' (by rw [hset]; exact .inr hl))
   ·intro j oj hj hoj e he hb
    rw [hset] at hj ⊢
    rcases hj with rfl | hj
    ·rw [ho] at hoj
     obtain rfl:=Option.some.inj hoj
     exact .inr (hpre' e he hb)
    ·exact .inr (E.shut j oj hj hoj e he hb)
   ·intro j oj d hj hoj hd
    rw [hset] at hj
    by_cases hji:j=i
    ·subst hji
     rw [ho] at hoj
     obtain rfl:=Option.some.inj hoj
     have hds:d < a.tmps.size:=by
      rw [E.size]
      unfold dstsBelow at hbelow
      simp only [List.all_eq_true] at hbelow
      have:=hbelow o (List.mem_of_getElem? (by rw [Array.getElem?_toList]; exact ho))
      rw [hd] at this
      simpa using this
     exact ⟨v,by rw [hd]; exact put_get_same _ _ _ hds,hv⟩
    ·have hl:listed[j]?=some true:=by rcases hj with h | h; exact absurd h hji; exact h
     obtain ⟨u,hu,hVu⟩:=hdone j oj d hl hoj hd
     refine ⟨u,?_,hst j u hji hVu⟩
     have h1:o.dst≠some d:=fun e=>hji (apartDst_spec ops.toList hdist j i oj o d (by rw [Array.getElem?_toList]; exact hoj) (by rw [Array.getElem?_toList]; exact ho) hd e)
     rw [put_get_other _ _ _ _ h1]
     exact hu
  have hcount:fuel+((listed.setIfInBounds i true).toList.filter id).length=ops.size:=by
   have h1:((listed.setIfInBounds i true).toList.filter id).length=(listed.toList.filter id).length+1:=by
    rw [Array.toList_setIfInBounds]
    have hi':i < listed.toList.length:=by simpa using hlt'
    have hv:listed.toList[i]=false:=by
     have:=hnl'
     rw [Array.getElem?_eq_getElem hlt'] at this
     simpa using this
    rw [List.set_eq_take_append_cons_drop,if_pos hi',List.filter_append,List.filter_cons]
    have hsplit:listed.toList=listed.toList.take i++listed.toList[i] :: listed.toList.drop (i+1):=by rw [List.getElem_cons_drop hi',List.take_append_drop]
    have h2:(listed.toList.filter id).length=((listed.toList.take i).filter id).length+((listed.toList.drop (i+1)).filter id).length:=by
     conv=>lhs; rw [hsplit]
     rw [List.filter_append,List.filter_cons,hv]
     simp
    rw [h2]
    simp
    omega
   omega
  have hO:=hop i o ho
  unfold wpOp
  rw [ho]
  show if Region.wanted o (yielded ops a.tmps)=true then _ else _
  cases hidx:cs.idxOf? i with
  | some p =>
   unfold Obl4 at hO
   rw [hidx] at hO
   have hp:cs[p]?=some i:=by
    rw [List.idxOf?_eq_some_iff] at hidx
    obtain ⟨h1,h2,_⟩:=hidx
    rw [List.getElem?_eq_getElem h1]
    simpa using h2
   have hplt:p < cs.length:=(List.getElem?_eq_some_iff.1 hp).1
   have hpk:p=k:=by
    have h1:¬ p < k:=fun h=>by
     have:=(hstage p i hp).2 h
     rw [hnl'] at this
     cases this
    have h2:¬ k < p:=fun h=>by
     obtain ⟨q,rfl⟩:∃ q,p=q+1:=⟨p - 1,by omega⟩
     have hq:q < cs.length:=by omega
     have hqi:cs[q]?=some cs[q]:=List.getElem?_eq_getElem hq
     have hw:=chained_get (ops:=ops) cs hch q cs[q] i hqi hp
     have hl:=waitsAll_listed (ops:=ops) E.shut cs[q] 40 i (fun o' ho' e he hb=>by rw [ho] at ho'; obtain rfl:=Option.some.inj ho'; exact hpre' e he hb) hw
     have:=(hstage q cs[q] hqi).1 hl
     omega
    omega
   subst hpk
   have hfin:=hO a w EA hCk (fun a' w'=>wpAny P .any ops Q fuel (listed.setIfInBounds i true) a' w') (fun v w' hv hC hR=>by
    refine ih _ _ _ (next v w' (p+1) hv (fun j u hji h=>hstab p j u w w' hplt (fun e=>hji (Option.some.inj (hp.symm.trans e)).symm) hR h) hplt hC ?_) hcount
    intro q j hq
    constructor
    ·intro h
     rcases h with rfl | h
     ·have:q=p:=by
       have hql:q < cs.length:=(List.getElem?_eq_some_iff.1 hq).1
       exact (List.getElem?_inj hql hnd).1 (hq.trans hp.symm)
      omega
     ·have:=(hstage q j hq).1 h
      omega
    ·intro h
     by_cases hqp:q=p
     ·subst hqp
      rw [hp] at hq
      exact .inl (Option.some.inj hq).symm
     ·exact .inr ((hstage q j hq).2 (by omega)))
   split
   ·rename_i hw; rw [if_pos hw] at hfin; exact .inl hfin
   ·rename_i hw; rw [if_neg hw] at hfin; exact hfin
  | none =>
   unfold Obl4 at hO
   rw [hidx] at hO
   have hni:i∉cs:=by
    intro hm
    rw [List.idxOf?_eq_none_iff] at hidx
    exact hidx hm
   have hst:∀ q j,cs[q]?=some j→((j=i∨listed[j]?=some true) ↔ q < k):=by
    intro q j hq
    have hji:j≠i:=fun e=>hni (e ▸ List.mem_of_getElem? hq)
    simp only [hji,false_or]
    exact hstage q j hq
   have hfin:if Region.wanted o (yielded ops a.tmps)=true then o.wp P a w (fun a' w'=>wpAny P .any ops Q fuel (listed.setIfInBounds i true) a' w') Q else wpAny P .any ops Q fuel (listed.setIfInBounds i true) (a.put o.dst undef) w:=by
    cases hf:fs.contains i with
    | true =>
     simp only [hf,if_true] at hO
     exact hO k a w EA hCk (fun a' w'=>wpAny P .any ops Q fuel (listed.setIfInBounds i true) a' w') (fun v w' hv hC hR=>ih _ _ _ (next v w' k hv (fun j u _ h=>hfree k j u w w' hR h) hk hC hst) hcount)
    | false =>
     simp only [hf,Bool.false_eq_true,if_false] at hO
     exact hO k a w EA hCk (fun a' w'=>wpAny P .any ops Q fuel (listed.setIfInBounds i true) a' w') (fun v hv=>ih _ _ _ (next v w k hv (fun _ _ _ h=>h) hk (hCa k a _ w (fun t ht=>put_get_other a o.dst v t (fun e=>plainDst_spec hsl ho hni hf t e ht)) hCk) hst) hcount)
   split
   ·rename_i hw; rw [if_pos hw] at hfin; exact .inl hfin
   ·rename_i hw; rw [if_neg hw] at hfin; exact hfin

theorem wp_region_env4 {rid:Nat} {a0:Act} {w0:World} (hm:P.follows .mixedOrders=true) (V:Nat→Nat→Value→World→Prop) (C:Nat→Act→World→Prop) (RC:Nat→World→World→Prop) (RF:World→World→Prop) (cs fs:List Nat)
  (hdist:apartDst ops.toList=true) (hbelow:dstsBelow a0.tmps.size ops.toList=true) (hord:orderly ops.toList=true) (sl:List Nat) (hCa:∀ k a a' w,(∀ t,t∈sl→a'.tmps[t]?=a.tmps[t]?)→C k a w→C k a' w) (hsl:plainDst ops.toList cs fs sl=true) (hnd:cs.Nodup) (hch:chained ops cs=true)
  (hstab:∀ p j v w w',p < cs.length→cs[p]?≠some j→RC p w w'→V j p v w→V j (p+1) v w') (hfree:∀ k j v w w',RF w w'→V j k v w→V j k v w') (hC:C 0 a0 w0.drew)
  (hop:OblAll (Obl4 P ops V C RC RF Q a0 cs fs) 0 ops.toList)
  (hcs:cs.all (fun i=>decide (i < ops.size))=true)
  (hend:∀ (vs:Nat→Value) (w:World),C cs.length (putAll vs 0 ops.toList a0) w→(∀ j o,ops[j]?=some o→o.dst≠none→V j cs.length (vs j) w)→Q .normal (putAll vs 0 ops.toList a0) w) :
  (Code.region rid ops true).wp P Q a0 w0:=by
 refine wp_region_any hm ?_
 refine env_any4 V C RC RF cs fs a0 hdist hbelow sl hCa hsl hnd hch hstab hfree (fun j o ho=>by
  have:=OblAll.get ops.toList 0 hop j o (by rw [Array.getElem?_toList]; exact ho)
  simpa using this) ?_ ops.size (Array.replicate ops.size false) a0 _ ?_ ?_
 ·intro listed a w E hr
  have hall:=all_listed hord E.lsize hr
  obtain ⟨k,hk,hCk,hst,hdone⟩:=E.stage
  have hkl:k=cs.length:=by
   rcases Nat.lt_or_ge k cs.length with h | h
   ·have hi:cs[k]?=some cs[k]:=List.getElem?_eq_getElem h
    have hlt:cs[k] < ops.size:=by
     rw [List.all_eq_true] at hcs
     simpa using hcs cs[k] (List.getElem_mem h)
    have:=(hst k cs[k] hi).1 (hall _ hlt)
    omega
   ·omega
  subst hkl
  let vs:Nat→Value:=fun j=>match (ops[j]?).bind (·.dst) with | some d=>(a.tmps[d]?).getD undef | none=>undef
  have hV:∀ j o,ops[j]?=some o→o.dst≠none→V j cs.length (vs j) w:=by
   intro j o ho hd
   have hj:j < ops.size:=(Array.getElem?_eq_some_iff.1 ho).1
   cases hdd:o.dst with
   | none=>exact absurd hdd hd
   | some d =>
    obtain ⟨v,hv,hVv⟩:=hdone j o d (hall j hj) ho hdd
    have:vs j=v:=by simp [vs,ho,hdd,hv]
    rw [this]
    exact hVv
  have hact:putAll vs 0 ops.toList a0=a:=by
   have ht:(putAll vs 0 ops.toList a0).tmps=a.tmps:=by
    apply Array.ext_getElem?
    intro t
    by_cases hout:(ops.toList.all fun p=>p.dst != some t)=true
    ·rw [E.out t (fun j' o' ho' hd'=>by rw [List.all_eq_true] at hout; have:=hout o' (List.mem_of_getElem? (by rw [Array.getElem?_toList]; exact ho')); rw [hd'] at this; simp at this)]
     refine putAll_out vs t _ _ _ (fun o ho=>?_)
     rw [List.all_eq_true] at hout
     simpa using hout o ho
    ·rw [List.all_eq_true] at hout
     obtain ⟨o,ho⟩:=Classical.not_forall.1 hout
     obtain ⟨hmem,hd⟩:=Classical.not_imp.1 ho
     have hd':o.dst=some t:=by simpa using hd
     obtain ⟨j,hj⟩:=List.getElem?_of_mem hmem
     have hjo:ops[j]?=some o:=by rw [Array.getElem?_toList] at hj; exact hj
     have htlt:t < a0.tmps.size:=by
      unfold dstsBelow at hbelow
      rw [List.all_eq_true] at hbelow
      have:=hbelow o hmem
      rw [hd'] at this
      simpa using this
     rw [putAll_at vs t _ 0 _ hdist htlt j o hj hd']
     obtain ⟨v,hv,_⟩:=hdone j o t (hall j (Array.getElem?_eq_some_iff.1 hjo).1) hjo hd'
     have:vs j=v:=by simp [vs,hjo,hd',hv]
     rw [hv,Nat.zero_add,this]
   have hd:(putAll vs 0 ops.toList a0).defers=a.defers:=by rw [putAll_defers,E.defers]
   cases h1:putAll vs 0 ops.toList a0
   cases a
   rw [h1] at ht hd
   simp only at ht hd
   rw [ht,hd]
  have hfin:=hend vs w (by rw [hact]; exact hCk) hV
  rw [hact] at hfin
  exact hfin
 ·refine ⟨rfl,rfl,by simp,fun _ _=>rfl,fun j o hj=>?_,0,Nat.zero_le _,hC,fun p i _=>?_,fun j o d hj=>?_⟩
  ·rw [Array.getElem?_replicate] at hj
   split at hj <;> cases hj
  ·constructor
   ·intro h
    rw [Array.getElem?_replicate] at h
    split at h <;> cases h
   ·intro h; omega
  ·rw [Array.getElem?_replicate] at hj
   split at hj <;> cases hj
 ·have:((Array.replicate ops.size false).toList.filter id)=[]:=by
   rw [List.filter_eq_nil_iff]
   intro b hb
   simp at hb
   simp [hb.2]
  rw [this]
  simp


theorem wp_region_st4 {rid:Nat} {a0:Act} {w0:World} (hm:P.follows .mixedOrders=true) (Vs:List (Nat→Value→World→Prop)) (C:Nat→Act→World→Prop) (RC:Nat→World→World→Prop) (RF:World→World→Prop) (cs fs:List Nat)
  (hdist:apartDst ops.toList=true) (hbelow:dstsBelow a0.tmps.size ops.toList=true) (hord:orderly ops.toList=true) (sl:List Nat) (hCa:∀ k a a' w,(∀ t,t∈sl→a'.tmps[t]?=a.tmps[t]?)→C k a w→C k a' w) (hsl:plainDst ops.toList cs fs sl=true) (hnd:cs.Nodup) (hch:chained ops cs=true)
  (hstab:StabAll2 RC RF cs 0 Vs) (hC:C 0 a0 w0.drew)
  (hop:OblAll (Obl4 P ops (fun j=>Vs.getD j (fun _ _ _=>True)) C RC RF Q a0 cs fs) 0 ops.toList)
  (hcs:cs.all (fun i=>decide (i < ops.size))=true)
  (hend:∀ (vs:Nat→Value) (w:World),C cs.length (putAll vs 0 ops.toList a0) w→(∀ j o,ops[j]?=some o→o.dst≠none→Vs.getD j (fun _ _ _=>True) cs.length (vs j) w)→Q .normal (putAll vs 0 ops.toList a0) w) :
  (Code.region rid ops true).wp P Q a0 w0 :=
 wp_region_env4 hm (fun j=>Vs.getD j (fun _ _ _=>True)) C RC RF cs fs hdist hbelow hord sl hCa hsl hnd hch
  (fun p j v w w' hp hne hR=>(by have:=(StabAll2.get Vs 0 hstab j).1 p v w w' hp; rw [Nat.zero_add] at this; exact this hne hR))
  (fun k j v w w' hR=>(StabAll2.get Vs 0 hstab j).2 k v w w' hR) hC hop hcs hend
end
end Go.Proofs.Ytkmcakneceagpaa

namespace Go.Proofs.Ytkmcakneceagpaa
open Go.RowKit

structure OkP (p:Fp):Prop where
 c0:0≤p.code
 c1:p.code < 4294967296
 ss:∀ s,s∈p.ss→0≤s.2∧s.2 < 4294967296
end Go.Proofs.Ytkmcakneceagpaa

namespace Go.Proofs.Ytkmcakneceagpaa
open Go.RowKit

def low (l:List UInt8) (i:Nat):List UInt8:=l.set i (l.getD i 0 % 128)
theorem sets_ok (l:List UInt8) (k:Nat):∀ s,s∈setsS l k→(0≤s.1∧s.1 < 65536)∧0≤s.2∧s.2 < 4294967296:=by
 induction k with
 | zero=>intro s hs; simp [setsS] at hs
 | succ k ih =>
  intro s hs
  rw [setsS,List.mem_append] at hs
  rcases hs with hs | hs
  ·exact ih s hs
  ·rw [List.mem_singleton] at hs
   subst hs
   have h1:=be_take_lt (l.drop (6 * k)) 2
   have h2:=be_take_lt (l.drop (6 * k+2)) 4
   have e1:(256:Nat) ^ 2=65536:=by decide
   have e2:(256:Nat) ^ 4=4294967296:=by decide
   rw [e1] at h1
   rw [e2] at h2
   simp only [n16,n32]
   omega
theorem n32_lt (l:List UInt8) (i:Nat):0≤n32 l i∧n32 l i < 4294967296:=by
 have h2:=be_take_lt (l.drop i) 4
 have e2:(256:Nat) ^ 4=4294967296:=by decide
 rw [e2] at h2
 simp only [n32]
 omega
theorem getS_ok (ty fl st pad:Int) (m:List UInt8):OkP (getS (f0S ty fl st pad) m):=by
 have h0:=n32_lt m 0
 have h4:=n32_lt m 4
 have hs:=sets_ok m (m.length / 6)
 unfold getS
 split
 ·split <;> exact ⟨by simp [f0S,prS],by simp [f0S,prS],by simp [f0S,prS]⟩
 split
 ·exact ⟨by simp [f0S,prS],by simp [f0S,prS],by simp [f0S,prS]⟩
 split
 ·exact ⟨h0.1,h0.2,by simp [f0S,prS]⟩
 split
 ·exact ⟨by simp [f0S,prS],by simp [f0S,prS],fun s h=>(hs s h).2⟩
 split
 ·exact ⟨by simp [f0S,prS],by simp [f0S,prS],by simp [f0S,prS]⟩
 split
 ·exact ⟨h4.1,h4.2,by simp [f0S,prS]⟩
 split <;> exact ⟨by simp [f0S,prS],by simp [f0S,prS],by simp [f0S,prS]⟩
theorem un_le {ty fl:Int} {l m:List UInt8} {pad:Nat} (h:unS ty fl l=.ok pad m):m.length≤l.length:=by
 unfold unS at h
 split at h
 ·split at h
  ·cases h
  ·split at h
   ·cases h
   ·injection h with h1 h2
    rw [← h2]
    simp only [List.length_take,List.length_drop]
    omega
 ·split at h
  ·cases h
  ·injection h with h1 h2
   rw [← h2]
   exact Nat.le_refl _
theorem getS_small (ty fl st pad:Int) (m:List UInt8):(getS (f0S ty fl st pad) m).pl.length≤m.length∧(getS (f0S ty fl st pad) m).ss.length≤m.length:=by
 have hs:=setsS_len m (m.length / 6)
 unfold getS
 split
 ·split <;> exact ⟨by simp [f0S,prS],by simp [f0S,prS]⟩
 split
 ·exact ⟨by simp [f0S,prS],by simp [f0S,prS]⟩
 split
 ·exact ⟨by simp [f0S],by simp [f0S]⟩
 split
 ·exact ⟨by simp [f0S],by rw [hs]; omega⟩
 split
 ·exact ⟨by simp [f0S],by simp [f0S]⟩
 split
 ·exact ⟨by simp [f0S],by simp [f0S]⟩
 split <;> exact ⟨by simp [f0S],by simp [f0S]⟩
theorem ps_small (l:List UInt8) (most:Int):(ps l most).f.pl.length < 16777216∧(ps l most).f.ss.length < 16777216:=by
 have hz:Fp.zero.pl.length < 16777216∧Fp.zero.ss.length < 16777216:=⟨by decide,by decide⟩
 have hN:=be_take_lt l 3
 have e3:(256:Nat) ^ 3=16777216:=by decide
 rw [e3] at hN
 unfold ps
 split
 ·exact hz
 split
 ·exact hz
 split
 ·exact hz
 split
 ·exact hz
 generalize hq:(l.drop 9).take (be (l.take 3))=q
 have hl:q.length < 16777216:=by rw [← hq]; simp only [List.length_take,List.length_drop]; omega
 unfold inS
 dsimp only
 split
 ·exact ⟨by simp [f0S],by simp [f0S]⟩
 split
 ·exact hz
 split
 ·exact hz
 split
 ·exact hz
 ·rename_i pad m hu
  split
  ·exact hz
  ·have h1:=getS_small (l.getD 3 0).toNat (l.getD 4 0).toNat (n31 l 5) pad m
   have h2:=un_le hu
   dsimp only
   omega
theorem ps_zz (l:List UInt8) (most:Int):(ps l most).f.ss≠[]→(ps l most).f.pad=0∧(ps l most).f.code=0:=by
 have hz:Fp.zero.ss≠[]→Fp.zero.pad=0∧Fp.zero.code=0:=fun _=>⟨rfl,rfl⟩
 unfold ps
 split
 ·exact hz
 split
 ·exact hz
 split
 ·exact hz
 split
 ·exact hz
 unfold inS
 dsimp only
 split
 ·exact fun _=>⟨rfl,rfl⟩
 split
 ·exact hz
 split
 ·exact hz
 split
 ·exact hz
 ·rename_i pad m hu
  split
  ·exact hz
  ·intro hs
   by_cases h4:((l.getD 3 0).toNat:Int)=4
   ·rw [h4] at hu ⊢
    have hp:padF 4 (l.getD 4 0).toNat=false:=by simp [padF,paddedB]
    unfold unS at hu
    rw [hp] at hu
    simp only [Bool.false_eq_true,if_false] at hu
    split at hu
    ·cases hu
    ·injection hu with h1 h2
     subst h1
     exact ⟨by simp [getS,f0S],by simp [getS,f0S]⟩
   ·exfalso
    apply hs
    dsimp only
    unfold getS
    have e:(f0S ((l.getD 3 0).toNat:Int) ((l.getD 4 0).toNat:Int) (n31 l 5) (pad:Int)).ty=((l.getD 3 0).toNat:Int):=rfl
    rw [e]
    split
    ·split <;> simp [f0S,prS]
    split
    ·simp [f0S,prS]
    split
    ·simp [f0S]
    split
    ·simp [f0S]
    split
    ·simp [f0S]
    split <;> simp [f0S]
theorem ps_used (l:List UInt8) (most:Int) (h:(ps l most).err=0):((ps l most).is=true∧(ps l most).xst=0)∨(9≤(ps l most).used∧(ps l most).used≤(l.length:Int)):=by
 unfold ps at h ⊢
 split at h
 ·simp [Pq.no] at h
 rename_i h1
 rw [if_neg h1]
 split at h
 ·simp [Pq.no] at h
 rename_i h2
 rw [if_neg h2]
 split at h
 ·rename_i h3
  rw [if_pos h3]
  exact .inl ⟨rfl,rfl⟩
 rename_i h3
 rw [if_neg h3]
 split at h
 ·simp [Pq.no] at h
 rename_i h4
 rw [if_neg h4]
 right
 have hl:((l.drop 9).take (be (l.take 3))).length=be (l.take 3):=by simp only [List.length_take,List.length_drop]; omega
 have hu:(inS (l.getD 3 0).toNat (l.getD 4 0).toNat (n31 l 5) ((l.drop 9).take (be (l.take 3)))).used=9+(be (l.take 3):Int):=by
  unfold inS
  dsimp only
  rw [hl]
  split
  ·rfl
  split
  ·rfl
  split
  ·rfl
  split
  ·rfl
  ·split <;> rfl
 rw [hu]
 omega
end Go.Proofs.Ytkmcakneceagpaa

namespace Go.Proofs.Ytkmcakneceagpaa
open Go.RowKit
theorem set12 {w:World} {g:Nat} {a0 a1 a2 a3 a4 a5 a6 a7 a8 a9 a10 a11 b0 b1 b2 b3 b4 b5 b6 b7 b8 b9 b10 b11:Value} {t:TypeId} (hg:w.heap[g]?=some (.cells #[a0,a1,a2,a3,a4,a5,a6,a7,a8,a9,a10,a11] t)):(World.setCell (World.setCell (World.setCell (World.setCell (World.setCell (World.setCell (World.setCell (World.setCell (World.setCell (World.setCell (World.setCell (World.setCell w ⟨g,0,none⟩ b0) ⟨g,1,none⟩ b1) ⟨g,2,none⟩ b2) ⟨g,3,none⟩ b3) ⟨g,4,none⟩ b4) ⟨g,5,none⟩ b5) ⟨g,6,none⟩ b6) ⟨g,7,none⟩ b7) ⟨g,8,none⟩ b8) ⟨g,9,none⟩ b9) ⟨g,10,none⟩ b10) ⟨g,11,none⟩ b11).heap[g]?=some (.cells #[b0,b1,b2,b3,b4,b5,b6,b7,b8,b9,b10,b11] t)∧Kp [g] w (World.setCell (World.setCell (World.setCell (World.setCell (World.setCell (World.setCell (World.setCell (World.setCell (World.setCell (World.setCell (World.setCell (World.setCell w ⟨g,0,none⟩ b0) ⟨g,1,none⟩ b1) ⟨g,2,none⟩ b2) ⟨g,3,none⟩ b3) ⟨g,4,none⟩ b4) ⟨g,5,none⟩ b5) ⟨g,6,none⟩ b6) ⟨g,7,none⟩ b7) ⟨g,8,none⟩ b8) ⟨g,9,none⟩ b9) ⟨g,10,none⟩ b10) ⟨g,11,none⟩ b11):=⟨sf11 (sf10 (sf9 (sf8 (sf7 (sf6 (sf5 (sf4 (sf3 (sf2 (sf1 (sf0 (hg)))))))))))),(((((((((((((Kp.refl _ _).setCell (.inl (by simp)) _).setCell (.inl (by simp)) _).setCell (.inl (by simp)) _).setCell (.inl (by simp)) _).setCell (.inl (by simp)) _).setCell (.inl (by simp)) _).setCell (.inl (by simp)) _).setCell (.inl (by simp)) _).setCell (.inl (by simp)) _).setCell (.inl (by simp)) _).setCell (.inl (by simp)) _).setCell (.inl (by simp)) _)⟩
theorem set3 {w:World} {g:Nat} {x0 x1 x2 y0 y1 y2:Value} {t:TypeId} (hg:w.heap[g]?=some (.cells #[x0,x1,x2] t)):(World.setCell (World.setCell (World.setCell w ⟨g,0,none⟩ y0) ⟨g,1,none⟩ y1) ⟨g,2,none⟩ y2).heap[g]?=some (.cells #[y0,y1,y2] t)∧Kp [g] w (World.setCell (World.setCell (World.setCell w ⟨g,0,none⟩ y0) ⟨g,1,none⟩ y1) ⟨g,2,none⟩ y2):=⟨sx2 (sx1 (sx0 (hg))),((((Kp.refl _ _).setCell (.inl (by simp)) _).setCell (.inl (by simp)) _).setCell (.inl (by simp)) _)⟩
def StF (p:Fp) (w w':World):Prop:=∃ (b:Nat) (f:Fr),w.heap[b]?=some (.cells #[.int .i64 0,.int .i64 0,.int .i64 0,.slice none 0 0,.int .i64 0,.int .u32 0,.int .i64 0,.int .i64 0,.int .i64 0,.bool false,.int .i64 0,.slice none 0 0] 49)∧w'.heap[b]?=some (.cells #[.int .i64 f.ty,.int .i64 f.fl,.int .i64 f.st,.slice f.pA f.pn f.pc,.int .i64 f.pad,.int .u32 f.code,.int .i64 f.last,.int .i64 f.inc,.int .i64 f.dep,.bool f.only,.int .i64 f.wt,.slice f.sA f.sn f.sc] 49)∧Kp [b] w w'∧f.pad=p.pad∧f.code=p.code
def StX (w w':World):Prop:=∃ b:Nat,w.heap[b]?=some (.cells #[.bool false,.int .i64 0,.int .i64 0] 64)∧Kp [b] w w'
theorem FrP.stX {w w':World} {base:Nat} {f:Fr} {p:Fp} (h:FrP w base f p) (s:StX w w'):FrP w' base f p:=by
 obtain ⟨b,hz,K⟩:=s
 refine ⟨h.eq,h.rd.keep K (fun hn t ht hs=>?_),h.sd.keep K (fun hn t ht hs=>?_),h.pb,h.sb⟩
 ·simp at hs
  subst hs
  obtain ⟨b,off,hA,hb,hc⟩:=h.rd.addr hn
  rw [hA] at ht
  simp [ob] at ht
  subst ht
  have h1:=hc 0 hn
  rw [cell_of hz] at h1
  have:=Array.mem_of_getElem? h1
  simp at this
 ·simp at hs
  subst hs
  obtain ⟨b,off,hA,hb,hc⟩:=h.sd.at_ hn
  rw [hA] at ht
  simp [ob] at ht
  subst ht
  have h1:=(hc 0 hn).2
  rw [cell_of hz] at h1
  have:=Array.mem_of_getElem? h1
  simp at this
theorem FrP.stF {w w':World} {base:Nat} {f:Fr} {p:Fp} (h:FrP w base f p) (s:StF p w w') (hz:p.ss≠[]→p.pad=0∧p.code=0):FrP w' base f p:=by
 obtain ⟨b,f',hzz,hw,K,e1,e2⟩:=s
 refine ⟨h.eq,h.rd.keep K (fun hn t ht hs=>?_),?_,h.pb,h.sb⟩
 ·simp at hs
  subst hs
  obtain ⟨b,off,hA,hb,hc⟩:=h.rd.addr hn
  rw [hA] at ht
  simp [ob] at ht
  subst ht
  have h1:=hc 0 hn
  rw [cell_of hzz] at h1
  have:=Array.mem_of_getElem? h1
  simp at this
 ·by_cases hn:0 < f.sn
  ·obtain ⟨b',off,hA,hb,hc⟩:=h.sd.at_ hn
   by_cases hbb:b'=b
   ·subst hbb
    have hss:p.ss≠[]:=by have:=h.sd.len; intro h0; rw [h0] at this; simp at this; omega
    obtain ⟨z1,z2⟩:=hz hss
    have key:∀ i,i < f.sn→off+i * 2+1=5:=by
     intro i hi
     have h1:=(hc i hi).2
     rw [cell_of hzz] at h1
     have hlt:off+i * 2+1 < 12:=by have:=(Array.getElem?_eq_some_iff.1 h1).1; simpa using this
     generalize off+i * 2+1=q at *
     rcases q with _ | _ | _ | _ | _ | _ | _ | _ | _ | _ | _ | _ | q <;> first | rfl | (simp at h1; done) | omega
    have k0:=key 0 hn
    have hoff:off=4:=by omega
    subst hoff
    have c0:=hc 0 hn
    refine ⟨h.sd.len,h.sd.cap,fun _=>⟨b',4,hA,lt_of_heap hw,fun i hi=>?_⟩,h.sd.val⟩
    have hi0:i=0:=by have:=key i hi; omega
    subst hi0
    rw [cell_of hzz,cell_of hzz] at c0
    rw [cell_of hw,cell_of hw,← c0.1,← c0.2]
    simp [e1,e2,z1,z2]
   ·exact h.sd.keep K (fun _ t ht hs=>by rw [hA] at ht; simp [ob] at ht hs; omega)
  ·exact ⟨h.sd.len,h.sd.cap,fun h0=>absurd h0 hn,h.sd.val⟩
theorem FrP.rc {w w':World} {base q:Nat} {f:Fr} {p:Fp} (hR:((q=0∧Kp [] w w')∨(q=1∧StF p w w')∨(q=2∧StX w w'))) (h:FrP w base f p) (hz:p.ss≠[]→p.pad=0∧p.code=0):FrP w' base f p:=by
 rcases hR with ⟨_,hR⟩ | ⟨_,hR⟩ | ⟨_,hR⟩
 ·exact h.low hR (by simp) (Nat.le_refl _)
 ·exact h.stF hR hz
 ·exact h.stX hR
theorem RC0 {w w':World} {q b:Nat} {p:Fp} (hq:¬ q=1) (hR:((q=0∧Kp [] w w')∨(q=1∧StF p w w')∨(q=2∧StX w w'))) (h:w.heap[b]?=some (.cells #[.int .i64 0,.int .i64 0,.int .i64 0,.slice none 0 0,.int .i64 0,.int .u32 0,.int .i64 0,.int .i64 0,.int .i64 0,.bool false,.int .i64 0,.slice none 0 0] 49)):w'.heap[b]?=some (.cells #[.int .i64 0,.int .i64 0,.int .i64 0,.slice none 0 0,.int .i64 0,.int .u32 0,.int .i64 0,.int .i64 0,.int .i64 0,.bool false,.int .i64 0,.slice none 0 0] 49):=by
 rcases hR with ⟨_,hR⟩ | ⟨h1,_⟩ | ⟨_,b',hz,K⟩
 ·exact hR.heap h (by simp)
 ·exact absurd h1 hq
 ·exact K.heap h (by intro hb; simp at hb; subst hb; have:=h.symm.trans hz; simp at this)
theorem RC1 {w w':World} {q b:Nat} {p:Fp} (hq:¬ q=2) (hR:((q=0∧Kp [] w w')∨(q=1∧StF p w w')∨(q=2∧StX w w'))) (h:w.heap[b]?=some (.cells #[.bool false,.int .i64 0,.int .i64 0] 64)):w'.heap[b]?=some (.cells #[.bool false,.int .i64 0,.int .i64 0] 64):=by
 rcases hR with ⟨_,hR⟩ | ⟨_,b',f,hz,_,K,_⟩ | ⟨h1,_⟩
 ·exact hR.heap h (by simp)
 ·exact K.heap h (by intro hb; simp at hb; subst hb; have:=h.symm.trans hz; simp at this)
 ·exact absurd h1 hq
inductive Skip (most:Int):List UInt8→List UInt8→Prop
 | refl (l:List UInt8):Skip most l l
 | step {l m:List UInt8} (h0:(ps l most).err=0) (h1:(ps l most).is=false) (h2:known (ps l most).f.ty=false) (h:Skip most (l.drop (ps l most).used.toNat) m):Skip most l m
theorem Skip.trans {most:Int} {a b c:List UInt8} (h:Skip most a b) (k:Skip most b c):Skip most a c:=by
 induction h with
 | refl l=>exact k
 | step h0 h1 h2 _ ih=>exact .step h0 h1 h2 (ih k)
def NextR (most:Int) (g:Nat) (D:List Nat) (xs xc:Int) (l:List UInt8) (w:World) (e:Ending) (w':World):Prop :=
 ∃ l',Skip most l l'∧Kp (g :: D) w w' ∧
  (((ps l' most).err≠0∧e=.returned (.tuple #[.agg #[.int .i64 0,.int .i64 0,.int .i64 0,.slice none 0 0,.int .i64 0,.int .u32 0,.int .i64 0,.int .i64 0,.int .i64 0,.bool false,.int .i64 0,.slice none 0 0],.bool false,.agg #[.bool false,.int .i64 0,.int .i64 0]])∧RdS w' g D most false xs xc l') ∨
   ((ps l' most).err=0∧(ps l' most).is=true∧(ps l' most).xst=0∧e=.returned (.tuple #[.agg #[.int .i64 0,.int .i64 0,.int .i64 0,.slice none 0 0,.int .i64 0,.int .u32 0,.int .i64 0,.int .i64 0,.int .i64 0,.bool false,.int .i64 0,.slice none 0 0],.bool false,.agg #[.bool true,.int .i64 0,.int .i64 (ps l' most).code]])∧RdS w' g D most true 0 (ps l' most).code l') ∨
   ((ps l' most).err=0∧(ps l' most).is=true∧¬ (ps l' most).xst=0∧e=.returned (.tuple #[.agg #[.int .i64 0,.int .i64 0,.int .i64 0,.slice none 0 0,.int .i64 0,.int .u32 0,.int .i64 0,.int .i64 0,.int .i64 0,.bool false,.int .i64 0,.slice none 0 0],.bool false,.agg #[.bool true,.int .i64 (ps l' most).xst,.int .i64 (ps l' most).code]])∧RdS w' g D most false xs xc (l'.drop (ps l' most).used.toNat)) ∨
   ((ps l' most).err=0∧(ps l' most).is=false∧known (ps l' most).f.ty=true∧∃ f:Fr,e=.returned (.tuple #[.agg #[.int .i64 f.ty,.int .i64 f.fl,.int .i64 f.st,.slice f.pA f.pn f.pc,.int .i64 f.pad,.int .u32 f.code,.int .i64 f.last,.int .i64 f.inc,.int .i64 f.dep,.bool f.only,.int .i64 f.wt,.slice f.sA f.sn f.sc],.bool true,.agg #[.bool false,.int .i64 (ps l' most).xst,.int .i64 (ps l' most).code]])∧FrP w' w.heap.size f (ps l' most).f∧RdS w' g D most false xs xc (l'.drop (ps l' most).used.toNat)))
def lenAt (w:World) (g:Nat):Nat:=match w.cell? ⟨g,2,none⟩ with | some (.slice _ n _)=>n | _=>0
end Go.Proofs.Ytkmcakneceagpaa

namespace Go.Proofs.Ytkmcakneceagpaa
open Go.RowKit
theorem RdNext (g:Nat) (D:List Nat) (w:World) (most:Int) (xs xc:Int) (l0:List UInt8) (hs:RdS w g D most false xs xc l0) (hD:∀ t,t∈D→t < w.heap.size) (hm:0≤most) (hl0:l0.length≤281474976710656):Calls Try.prog 103 #[.pointer (some ⟨g,0,none⟩)] w (NextR most g D xs xc l0 w):=by
 obtain ⟨A0,n0,c0,hh0,ho0,hg0,hd0⟩:=hs
 have HD:=Lib.hid hD
 clear hD
 have HH0:=Lib.hid hh0
 have HO0:=Lib.hid ho0
 have hl:=lt_of_heap hh0
 clear hh0 ho0
 go_enter Try.func103,Try.ntmps103
 go_wp2_with fail
 go_step3
 go_wp2_with fail
 generalize hW:World.alloc _ _=w1
 have K1:Kp [] w w1:=by rw [← hW]; with_reducible (repeat (first|exact Kp.refl _ _|assumption|refine Kp.alloc ?_ _|refine Kp.drew ?_|refine Kp.drewN ?_ _|(refine Kp.setL ?_ ?_ _;focus (simp;done))|(refine Kp.setR ?_ ?_ _;focus (first|(simp;done)|(simp;omega)))))
 have HR:=Lib.hid (show w1.heap[w.heap.size]?=some (.cells #[.pointer (some ⟨g,0,none⟩)] 146) by rw [← hW]; with_reducible (repeat (first|assumption|(refine hp_new _ _ _ ?_;focus (simp;done))|refine hpl ?_|(refine hpf ?_ ?_;focus (first|(simp;done)|(simp;omega)))|refine hpd ?_|refine hpe ?_)))
 have HF:=Lib.hid (show w1.heap[w.heap.size+1]?=some (.cells #[.int .i64 0,.int .i64 0,.int .i64 0,.slice none 0 0,.int .i64 0,.int .u32 0,.int .i64 0,.int .i64 0,.int .i64 0,.bool false,.int .i64 0,.slice none 0 0] 49) by rw [← hW]; with_reducible (repeat (first|assumption|(refine hp_new _ _ _ ?_;focus (simp;done))|refine hpl ?_|(refine hpf ?_ ?_;focus (first|(simp;done)|(simp;omega)))|refine hpd ?_|refine hpe ?_)))
 have HX:=Lib.hid (show w1.heap[w.heap.size+1+1]?=some (.cells #[.bool false,.int .i64 0,.int .i64 0] 64) by rw [← hW]; with_reducible (repeat (first|assumption|(refine hp_new _ _ _ ?_;focus (simp;done))|refine hpl ?_|(refine hpf ?_ ?_;focus (first|(simp;done)|(simp;omega)))|refine hpd ?_|refine hpe ?_)))
 clear hW
 have H1:=Lib.hid (K1.heap HH0.out (by simp))
 refine (RdNone g w1 (cell_of H1.out 0)).mono ?_
 rintro e w9 ⟨rfl,rfl⟩
 go_wp2
 go_step3
 go_wp2
 go_loopw [7] (fun _ wr=>∃ l A n c,Skip most l0 l∧wr.heap[g]?=some (.cells #[.bool true,.int .i64 most,.slice A n c,.bool false,.int .i64 xs,.int .i64 xc] 148)∧Ow wr 0 5 1 A n c (l.map u8)∧g∉ob A∧(∀ t,t∈ob A→t∈D)∧l.length≤l0.length∧(∃ T,(∀ t,t∈T→t=g∨t∈D)∧Kp T w1 wr)) (fun _ wr=>lenAt wr g)
 case atStart=>exact ⟨l0,A0,n0,c0,.refl _,H1.out,HO0.out.keep K1 (by simp),hg0,hd0,Nat.le_refl _,[],by simp,Kp.refl _ _⟩
 case round =>
  obtain ⟨l,A,n,c,hsk,hh,ho,hgA,hrb,hll,T,hT,KT⟩:=hrel
  have hw0:w.heap.size∉T:=fun h=>by rcases hT _ h with h | h; omega; have:=HD.out _ h; omega
  have hw1:w.heap.size+1∉T:=fun h=>by rcases hT _ h with h | h; omega; have:=HD.out _ h; omega
  have hw2:w.heap.size+1+1∉T:=fun h=>by rcases hT _ h with h | h; omega; have:=HD.out _ h; omega
  have HB:=Lib.hid (KT.heap HR.out hw0)
  have HF1:=Lib.hid (KT.heap HF.out hw1)
  have HX1:=Lib.hid (KT.heap HX.out hw2)
  have HKT:=Lib.hid (show ∃ T,(∀ t,t∈T→t=g∨t∈D)∧Kp T w wr from ⟨T,hT,(K1.nil (S:=T)).trans KT⟩)
  have HH:=Lib.hid hh
  have HHr:=Lib.hid hh
  have HKT1:=Lib.hid (show ∃ T,(∀ t,t∈T→t=g∨t∈D)∧Kp T w1 wr from ⟨T,hT,KT⟩)
  have HO:=Lib.hid ho
  have HSK:=Lib.hid hsk
  have hln:l.length=n:=by have:=ho.len; simpa using this
  have b0:=cell_of HB.out 0
  have bl:=lt_of_heap HB.out
  have c3:=cell_of hh 3
  have cl:=lt_of_heap hh
  clear hh ho hsk KT hw0 hw1 hw2
  have HRB:=Lib.hid hrb
  clear hrb
  obtain ⟨⟨rf,rused,ris,rst,rcode,rerr⟩,hps⟩:∃ r,ps l most=r:=⟨_,rfl⟩
  have HZZ:=Lib.hid (show rf.ss≠[]→rf.pad=0∧rf.code=0 by have:=ps_zz l most; rw [hps] at this; exact this)
  have HPS:=Lib.hid hps
  clear hps
  go_wp2
  generalize hbx:w.heap.size=bx at *
  refine wp_region_st4 (by kernel_rfl) [fun _ v _=>v=(.pointer (some ⟨g,0,none⟩)),
    fun _ v _=>v=(.pointer (some ⟨g,0,none⟩)),
    fun _ v _=>v=(.pointer (some ⟨g,2,none⟩)),
    fun _ v _=>v=(.slice A n c),
    fun _ v _=>v=(.pointer (some ⟨g,0,none⟩)),
    fun _ v _=>v=(.pointer (some ⟨g,0,none⟩)),
    fun _ v _=>v=(.pointer (some ⟨g,1,none⟩)),
    fun _ v _=>v=(.int .i64 most),
    fun p v w=>∃ x:Fr,v=.tuple #[.agg #[.int .i64 x.ty,.int .i64 x.fl,.int .i64 x.st,.slice x.pA x.pn x.pc,.int .i64 x.pad,.int .u32 x.code,.int .i64 x.last,.int .i64 x.inc,.int .i64 x.dep,.bool x.only,.int .i64 x.wt,.slice x.sA x.sn x.sc],.int .i64 rused,.agg #[.bool ris,.int .i64 rst,.int .i64 rcode],.int .i64 rerr]∧1≤p∧(p≤3→FrP w wr.heap.size x rf),
    fun p v w=>∃ x:Fr,v=.tuple #[.agg #[.int .i64 x.ty,.int .i64 x.fl,.int .i64 x.st,.slice x.pA x.pn x.pc,.int .i64 x.pad,.int .u32 x.code,.int .i64 x.last,.int .i64 x.inc,.int .i64 x.dep,.bool x.only,.int .i64 x.wt,.slice x.sA x.sn x.sc],.int .i64 rused,.agg #[.bool ris,.int .i64 rst,.int .i64 rcode],.int .i64 rerr]∧1≤p∧(p≤3→FrP w wr.heap.size x rf),
    fun p v w=>∃ x:Fr,v=.agg #[.int .i64 x.ty,.int .i64 x.fl,.int .i64 x.st,.slice x.pA x.pn x.pc,.int .i64 x.pad,.int .u32 x.code,.int .i64 x.last,.int .i64 x.inc,.int .i64 x.dep,.bool x.only,.int .i64 x.wt,.slice x.sA x.sn x.sc]∧1≤p∧(p≤3→FrP w wr.heap.size x rf),
    fun _ v _=>v=(.int .i64 rused),
    fun _ v _=>v=(.agg #[.bool ris,.int .i64 rst,.int .i64 rcode]),
    fun _ v _=>v=(.int .i64 rerr),
    fun p v w=>∃ b:Nat,v=.pointer (some ⟨b,0,none⟩)∧wr.heap.size≤b∧(p≤1→w.heap[b]?=some (.cells #[.int .i64 0,.int .i64 0,.int .i64 0,.slice none 0 0,.int .i64 0,.int .u32 0,.int .i64 0,.int .i64 0,.int .i64 0,.bool false,.int .i64 0,.slice none 0 0] 49)),
    fun p v w=>∃ b:Nat,v=.pointer (some ⟨b,0,none⟩)∧wr.heap.size≤b∧(p≤2→w.heap[b]?=some (.cells #[.bool false,.int .i64 0,.int .i64 0] 64)),
    fun _ v _=>True,
    fun _ v _=>v=(.int .i64 rused),
    fun _ v _=>True,
    fun _ v _=>v=(.int .i64 rerr)] (fun p a w=>Kp [] wr w∧(2≤p→∃ b f,a.tmps[6]?=some (.pointer (some ⟨b,0,none⟩))∧wr.heap.size≤b∧w.heap[b]?=some (.cells #[.int .i64 f.ty,.int .i64 f.fl,.int .i64 f.st,.slice f.pA f.pn f.pc,.int .i64 f.pad,.int .u32 f.code,.int .i64 f.last,.int .i64 f.inc,.int .i64 f.dep,.bool f.only,.int .i64 f.wt,.slice f.sA f.sn f.sc] 49)∧FrP w wr.heap.size f rf)∧(3≤p→∃ b,a.tmps[8]?=some (.pointer (some ⟨b,0,none⟩))∧wr.heap.size≤b∧w.heap[b]?=some (.cells #[.bool ris,.int .i64 rst,.int .i64 rcode] 64))) (fun p w w'=>(p=0∧Kp [] w w')∨(p=1∧StF rf w w')∨(p=2∧StX w w')) (fun w w'=>Kp [] w w') [8,16,18] [14,15] (by kernel_rfl) (by kernel_rfl) (by kernel_rfl) [6,8] (fun k a a' w ht h=>by have e6:=ht 6 (by simp); have e8:=ht 8 (by simp); rw [e6,e8]; exact h) (by kernel_rfl) (by decide) (by kernel_rfl) ⟨StabAt2.const _,StabAt2.const _,StabAt2.const _,StabAt2.const _,StabAt2.const _,StabAt2.const _,StabAt2.const _,StabAt2.const _,StabAt2.span (f:=fun x:Fr=>.tuple #[.agg #[.int .i64 x.ty,.int .i64 x.fl,.int .i64 x.st,.slice x.pA x.pn x.pc,.int .i64 x.pad,.int .u32 x.code,.int .i64 x.last,.int .i64 x.inc,.int .i64 x.dep,.bool x.only,.int .i64 x.wt,.slice x.sA x.sn x.sc],.int .i64 rused,.agg #[.bool ris,.int .i64 rst,.int .i64 rcode],.int .i64 rerr]) (by intro p x w w' h1 h2 h3 hR hG; exact FrP.rc hR hG HZZ.out) (by intro x w w' hR hG; exact hG.low hR (by simp) (Nat.le_refl _)),StabAt2.span (f:=fun x:Fr=>.tuple #[.agg #[.int .i64 x.ty,.int .i64 x.fl,.int .i64 x.st,.slice x.pA x.pn x.pc,.int .i64 x.pad,.int .u32 x.code,.int .i64 x.last,.int .i64 x.inc,.int .i64 x.dep,.bool x.only,.int .i64 x.wt,.slice x.sA x.sn x.sc],.int .i64 rused,.agg #[.bool ris,.int .i64 rst,.int .i64 rcode],.int .i64 rerr]) (by intro p x w w' h1 h2 h3 hR hG; exact FrP.rc hR hG HZZ.out) (by intro x w w' hR hG; exact hG.low hR (by simp) (Nat.le_refl _)),StabAt2.span (f:=fun x:Fr=>.agg #[.int .i64 x.ty,.int .i64 x.fl,.int .i64 x.st,.slice x.pA x.pn x.pc,.int .i64 x.pad,.int .u32 x.code,.int .i64 x.last,.int .i64 x.inc,.int .i64 x.dep,.bool x.only,.int .i64 x.wt,.slice x.sA x.sn x.sc]) (by intro p x w w' h1 h2 h3 hR hG; exact FrP.rc hR hG HZZ.out) (by intro x w w' hR hG; exact hG.low hR (by simp) (Nat.le_refl _)),StabAt2.const _,StabAt2.const _,StabAt2.const _,⟨fun p v w w' h1 h2 hR ⟨b,e,h,hz⟩=>⟨b,e,h,fun hp=>RC0 (by omega) hR (hz (by omega))⟩,fun k v w w' hR ⟨b,e,h,hz⟩=>⟨b,e,h,fun hp=>hR.heap (hz hp) (by simp)⟩⟩,⟨fun p v w w' h1 h2 hR ⟨b,e,h,hz⟩=>⟨b,e,h,fun hp=>RC1 (by omega) hR (hz (by omega))⟩,fun k v w w' hR ⟨b,e,h,hz⟩=>⟨b,e,h,fun hp=>hR.heap (hz hp) (by simp)⟩⟩,StabAt2.const _,StabAt2.const _,StabAt2.const _,StabAt2.const _,trivial⟩ (⟨(Kp.refl _ _).drew,fun h=>by omega,fun h=>by omega⟩) ⟨?_,?_,?_,?_,?_,?_,?_,?_,?_,?_,?_,?_,?_,?_,?_,?_,?_,?_,?_,?_,trivial⟩ (by kernel_rfl) ?_
  ·intro q9 a w E hC K hK
   have h1:a.tmps[1]?=some (.pointer (some ⟨bx,0,none⟩)):=(E.out 1 (by kernel_rfl)).trans rfl
   refine want_none rfl ?_
   have hb:=hC.1.heap HB.out (by simp)
   have b0:=cell_of hb 0
   clear hb
   go_simp
   exact hK _ rfl
  ·intro q9 a w E hC K hK
   obtain ⟨_,h22,rfl⟩:=E.pred 0 _ 22 rfl rfl (by kernel_rfl)
   refine want_none rfl ?_
   go_simp
   exact hK _ rfl
  ·intro q9 a w E hC K hK
   obtain ⟨_,h23,rfl⟩:=E.pred 1 _ 23 rfl rfl (by kernel_rfl)
   refine want_none rfl ?_
   go_simp
   exact hK _ rfl
  ·intro q9 a w E hC K hK
   obtain ⟨_,h24,rfl⟩:=E.pred 2 _ 24 rfl rfl (by kernel_rfl)
   refine want_none rfl ?_
   have hh:=hC.1.heap HH.out (by simp)
   have h2:=cell_of hh 2
   have hl2:=lt_of_heap hh
   clear hh
   go_simp
   exact hK _ rfl
  ·intro q9 a w E hC K hK
   have h1:a.tmps[1]?=some (.pointer (some ⟨bx,0,none⟩)):=(E.out 1 (by kernel_rfl)).trans rfl
   refine want_none rfl ?_
   have hb:=hC.1.heap HB.out (by simp)
   have b0:=cell_of hb 0
   clear hb
   go_simp
   exact hK _ rfl
  ·intro q9 a w E hC K hK
   obtain ⟨_,h26,rfl⟩:=E.pred 4 _ 26 rfl rfl (by kernel_rfl)
   refine want_none rfl ?_
   go_simp
   exact hK _ rfl
  ·intro q9 a w E hC K hK
   obtain ⟨_,h27,rfl⟩:=E.pred 5 _ 27 rfl rfl (by kernel_rfl)
   refine want_none rfl ?_
   go_simp
   exact hK _ rfl
  ·intro q9 a w E hC K hK
   obtain ⟨_,h28,rfl⟩:=E.pred 6 _ 28 rfl rfl (by kernel_rfl)
   refine want_none rfl ?_
   have hh:=hC.1.heap HH.out (by simp)
   have h2:=cell_of hh 1
   have hl2:=lt_of_heap hh
   clear hh
   go_simp
   exact hK _ rfl
  ·intro a w E hC K hK
   obtain ⟨_,h25,rfl⟩:=E.pred 3 _ 25 rfl rfl (by kernel_rfl)
   obtain ⟨_,h29,rfl⟩:=E.pred 7 _ 29 rfl rfl (by kernel_rfl)
   refine want_none rfl ?_
   have hrd:=HO.out.rd.keep hC.1 (by simp)
   go_simp
   refine (Parse_any A n c l most w hrd (by omega)).mono ?_
   rw [HPS.out]
   rintro e w2 ⟨f,rfl,hf,K2⟩
   dsimp only at hf
   go_simp
   exact hK _ _ ⟨f,rfl,by omega,fun _=>hf.low (Kp.refl [] w2) (by simp) hC.1.size⟩ ⟨hC.1.trans K2,fun h=>by omega,fun h=>by omega⟩ (.inl ⟨rfl,K2⟩)
  ·intro q9 a w E hC K hK
   obtain ⟨v8,h30,V8⟩:=E.pred 8 _ 30 rfl rfl (by kernel_rfl)
   replace V8:(fun p v w=>∃ x:Fr,v=.tuple #[.agg #[.int .i64 x.ty,.int .i64 x.fl,.int .i64 x.st,.slice x.pA x.pn x.pc,.int .i64 x.pad,.int .u32 x.code,.int .i64 x.last,.int .i64 x.inc,.int .i64 x.dep,.bool x.only,.int .i64 x.wt,.slice x.sA x.sn x.sc],.int .i64 rused,.agg #[.bool ris,.int .i64 rst,.int .i64 rcode],.int .i64 rerr]∧1≤p∧(p≤3→FrP w wr.heap.size x rf)) q9 v8 w:=V8
   obtain ⟨x8,rfl,hl8,hG8⟩:=V8
   refine want_none rfl ?_
   go_simp
   exact hK _ ⟨x8,rfl,hl8,hG8⟩
  ·intro q9 a w E hC K hK
   obtain ⟨v9,h21,V9⟩:=E.pred 9 _ 21 rfl rfl (by kernel_rfl)
   replace V9:(fun p v w=>∃ x:Fr,v=.tuple #[.agg #[.int .i64 x.ty,.int .i64 x.fl,.int .i64 x.st,.slice x.pA x.pn x.pc,.int .i64 x.pad,.int .u32 x.code,.int .i64 x.last,.int .i64 x.inc,.int .i64 x.dep,.bool x.only,.int .i64 x.wt,.slice x.sA x.sn x.sc],.int .i64 rused,.agg #[.bool ris,.int .i64 rst,.int .i64 rcode],.int .i64 rerr]∧1≤p∧(p≤3→FrP w wr.heap.size x rf)) q9 v9 w:=V9
   obtain ⟨x9,rfl,hl9,hG9⟩:=V9
   refine want_none rfl ?_
   go_simp
   exact hK _ ⟨x9,rfl,hl9,hG9⟩
  ·intro q9 a w E hC K hK
   obtain ⟨v9,h21,V9⟩:=E.pred 9 _ 21 rfl rfl (by kernel_rfl)
   replace V9:(fun p v w=>∃ x:Fr,v=.tuple #[.agg #[.int .i64 x.ty,.int .i64 x.fl,.int .i64 x.st,.slice x.pA x.pn x.pc,.int .i64 x.pad,.int .u32 x.code,.int .i64 x.last,.int .i64 x.inc,.int .i64 x.dep,.bool x.only,.int .i64 x.wt,.slice x.sA x.sn x.sc],.int .i64 rused,.agg #[.bool ris,.int .i64 rst,.int .i64 rcode],.int .i64 rerr]∧1≤p∧(p≤3→FrP w wr.heap.size x rf)) q9 v9 w:=V9
   obtain ⟨x9,rfl,hl9,hG9⟩:=V9
   refine want_none rfl ?_
   go_simp
   exact hK _ rfl
  ·intro q9 a w E hC K hK
   obtain ⟨v9,h21,V9⟩:=E.pred 9 _ 21 rfl rfl (by kernel_rfl)
   replace V9:(fun p v w=>∃ x:Fr,v=.tuple #[.agg #[.int .i64 x.ty,.int .i64 x.fl,.int .i64 x.st,.slice x.pA x.pn x.pc,.int .i64 x.pad,.int .u32 x.code,.int .i64 x.last,.int .i64 x.inc,.int .i64 x.dep,.bool x.only,.int .i64 x.wt,.slice x.sA x.sn x.sc],.int .i64 rused,.agg #[.bool ris,.int .i64 rst,.int .i64 rcode],.int .i64 rerr]∧1≤p∧(p≤3→FrP w wr.heap.size x rf)) q9 v9 w:=V9
   obtain ⟨x9,rfl,hl9,hG9⟩:=V9
   refine want_none rfl ?_
   go_simp
   exact hK _ rfl
  ·intro q9 a w E hC K hK
   obtain ⟨v9,h21,V9⟩:=E.pred 9 _ 21 rfl rfl (by kernel_rfl)
   replace V9:(fun p v w=>∃ x:Fr,v=.tuple #[.agg #[.int .i64 x.ty,.int .i64 x.fl,.int .i64 x.st,.slice x.pA x.pn x.pc,.int .i64 x.pad,.int .u32 x.code,.int .i64 x.last,.int .i64 x.inc,.int .i64 x.dep,.bool x.only,.int .i64 x.wt,.slice x.sA x.sn x.sc],.int .i64 rused,.agg #[.bool ris,.int .i64 rst,.int .i64 rcode],.int .i64 rerr]∧1≤p∧(p≤3→FrP w wr.heap.size x rf)) q9 v9 w:=V9
   obtain ⟨x9,rfl,hl9,hG9⟩:=V9
   refine want_none rfl ?_
   go_simp
   exact hK _ rfl
  ·intro q9 a w E hC K hK
   refine want_none rfl ?_
   have hk:=E.lim 1 16 _ rfl rfl (by kernel_rfl)
   go_simp
   exact hK _ _ ⟨w.heap.size,rfl,hC.1.size,fun _=>hp_new _ _ _ rfl⟩ ⟨hC.1.alloc _,fun h=>by omega,fun h=>by omega⟩ ((Kp.refl [] w).alloc _)
  ·intro q9 a w E hC K hK
   refine want_none rfl ?_
   have hk:=E.lim 1 16 _ rfl rfl (by kernel_rfl)
   go_simp
   exact hK _ _ ⟨w.heap.size,rfl,hC.1.size,fun _=>hp_new _ _ _ rfl⟩ ⟨hC.1.alloc _,fun h=>by omega,fun h=>by omega⟩ ((Kp.refl [] w).alloc _)
  ·intro a w E hC K hK
   obtain ⟨v14,h6,V14⟩:=E.pred 14 _ 6 rfl rfl (by kernel_rfl)
   replace V14:(fun p v w=>∃ b:Nat,v=.pointer (some ⟨b,0,none⟩)∧wr.heap.size≤b∧(p≤1→w.heap[b]?=some (.cells #[.int .i64 0,.int .i64 0,.int .i64 0,.slice none 0 0,.int .i64 0,.int .u32 0,.int .i64 0,.int .i64 0,.int .i64 0,.bool false,.int .i64 0,.slice none 0 0] 49))) 1 v14 w:=V14
   obtain ⟨b14,rfl,hl14,hG14⟩:=V14
   obtain ⟨v10,h31,V10⟩:=E.pred 10 _ 31 rfl rfl (by kernel_rfl)
   replace V10:(fun p v w=>∃ x:Fr,v=.agg #[.int .i64 x.ty,.int .i64 x.fl,.int .i64 x.st,.slice x.pA x.pn x.pc,.int .i64 x.pad,.int .u32 x.code,.int .i64 x.last,.int .i64 x.inc,.int .i64 x.dep,.bool x.only,.int .i64 x.wt,.slice x.sA x.sn x.sc]∧1≤p∧(p≤3→FrP w wr.heap.size x rf)) 1 v10 w:=V10
   obtain ⟨x10,rfl,hl10,hG10⟩:=V10
   refine want_none rfl ?_
   have hz:=hG14 (by omega)
   have HZ:=Lib.hid hz
   have HF10:=Lib.hid (hG10 (by omega))
   obtain ⟨q0,q1,q2,q3,q4,q5,q6,q7,q8,q9,q10,q11,qz,qlt,qlt2⟩:=cellsF hz
   clear hz hG10 hG14
   go_simp
   generalize hW:World.setCell _ _ _=w2
   obtain ⟨hs1,hs2⟩:w2.heap[b14]?=some (.cells #[.int .i64 x10.ty,.int .i64 x10.fl,.int .i64 x10.st,.slice x10.pA x10.pn x10.pc,.int .i64 x10.pad,.int .u32 x10.code,.int .i64 x10.last,.int .i64 x10.inc,.int .i64 x10.dep,.bool x10.only,.int .i64 x10.wt,.slice x10.sA x10.sn x10.sc] 49)∧Kp [b14] w w2:=by rw [← hW]; exact set12 HZ.out
   have hst:StF rf w w2:=⟨b14,x10,HZ.out,hs1,hs2,HF10.out.cs.2.2.2.1,HF10.out.cs.2.2.2.2.1⟩
   exact hK undef _ trivial ⟨hC.1.then hs2 (by simp; omega),fun _=>⟨b14,x10,h6,hl14,hs1,HF10.out.stF hst HZZ.out⟩,fun h=>by omega⟩ (.inr (.inl ⟨rfl,hst⟩))
  ·intro q9 a w E hC K hK
   obtain ⟨_,h32,rfl⟩:=E.pred 11 _ 32 rfl rfl (by kernel_rfl)
   refine want_none rfl ?_
   go_simp
   exact hK _ rfl
  ·intro a w E hC K hK
   obtain ⟨v15,h8,V15⟩:=E.pred 15 _ 8 rfl rfl (by kernel_rfl)
   replace V15:(fun p v w=>∃ b:Nat,v=.pointer (some ⟨b,0,none⟩)∧wr.heap.size≤b∧(p≤2→w.heap[b]?=some (.cells #[.bool false,.int .i64 0,.int .i64 0] 64))) 2 v15 w:=V15
   obtain ⟨b15,rfl,hl15,hG15⟩:=V15
   obtain ⟨_,h33,rfl⟩:=E.pred 12 _ 33 rfl rfl (by kernel_rfl)
   refine want_none rfl ?_
   have hz:=hG15 (by omega)
   have HZ:=Lib.hid hz
   have x0:=cell_of hz 0
   have x1:=cell_of hz 1
   have x2:=cell_of hz 2
   have xz:=frozen_of hz
   have xl:=lt_of_heap hz
   have HC2:=Lib.hid (hC.2.1 (by omega))
   clear hz hG15
   go_simp
   generalize hW:World.setCell _ _ _=w2
   obtain ⟨hs1,hs2⟩:w2.heap[b15]?=some (.cells #[.bool ris,.int .i64 rst,.int .i64 rcode] 64)∧Kp [b15] w w2:=by rw [← hW]; exact set3 HZ.out
   have hst:StX w w2:=⟨b15,HZ.out,hs2⟩
   exact hK undef _ trivial ⟨hC.1.then hs2 (by simp; omega),fun _=>by obtain ⟨b,f,e6,hb,hf,hp⟩:=HC2.out; exact ⟨b,f,e6,hb,hs2.heap hf (by intro h; simp at h; subst h; have:=hf.symm.trans HZ.out; simp at this),hp.stX hst⟩,fun _=>⟨b15,h8,hl15,hs1⟩⟩ (.inr (.inr ⟨rfl,hst⟩))
  ·intro q9 a w E hC K hK
   obtain ⟨_,h34,rfl⟩:=E.pred 13 _ 34 rfl rfl (by kernel_rfl)
   refine want_none rfl ?_
   go_simp
   exact hK _ rfl

  intro vs w8 hC hV
  obtain ⟨b6,f6,e6,hb6,hf6,hp6⟩:=hC.2.1 (by simp)
  obtain ⟨b8,e8,hb8,hf8⟩:=hC.2.2 (by simp)
  have h17:vs 17=.int .i64 rused:=hV 17 _ rfl (by simp)
  have h19:vs 19=.int .i64 rerr:=hV 19 _ rfl (by simp)
  obtain ⟨c14,h14,_⟩:=hV 14 _ rfl (by simp)
  obtain ⟨c15,h15,_⟩:=hV 15 _ rfl (by simp)
  have KK:=hC.1
  have HB8:=Lib.hid (KK.heap HB.out (by simp))
  have HX2L:=Lib.hid (lt_of_heap HX1.out)
  have HH8:=Lib.hid (KK.heap HH.out (by simp))
  have HF8:=Lib.hid (KK.heap HF1.out (by simp))
  have HX8:=Lib.hid (KK.heap HX1.out (by simp))
  have HO8:=Lib.hid (HO.out.keep KK (by simp))
  have HG8:=Lib.hid hf6
  have HP8:=Lib.hid hp6
  have HY8:=Lib.hid hf8
  subst hbx
  have K8T:=Lib.hid (show ∃ T,(∀ t,t∈T→t=g∨t∈D)∧Kp T w w8 from HKT.out.imp fun T h=>⟨h.1,h.2.trans KK.nil⟩)
  have K81:=Lib.hid (show ∃ T,(∀ t,t∈T→t=g∨t∈D)∧Kp T w1 w8 from HKT1.out.imp fun T h=>⟨h.1,h.2.trans KK.nil⟩)
  have hsz:w.heap.size≤wr.heap.size:=by obtain ⟨T,_,h⟩:=HKT.out; exact h.size
  have hsz8:=KK.size
  simp only [putAll,Act.put,List.setIfInBounds_toArray]
  dsimp only [List.set]
  simp only [putAll,Act.put,List.setIfInBounds_toArray] at e6 e8
  dsimp only [List.set] at e6 e8
  rw [h14] at e6
  rw [h15] at e8
  have e14:Value.pointer (some ⟨c14,0,none⟩)=.pointer (some ⟨b6,0,none⟩):=Option.some.inj e6
  have e15:Value.pointer (some ⟨c15,0,none⟩)=.pointer (some ⟨b8,0,none⟩):=Option.some.inj e8
  rw [h14,h15,h17,h19,e14,e15]
  clear hV hC e6 e8 e14 e15 h14 h15 h17 h19 hf6 hf8 hp6 HB HH HF1 HX1 HO b0 bl c3 cl
  by_cases herr:rerr=0
  ·subst herr
   have hpu:=ps_used l most (by rw [HPS.out])
   rw [HPS.out] at hpu
   dsimp only at hpu
   obtain ⟨g0,g1,g2,g3,g4,g5,g6,g7,g8,g9,g10,g11,gz,glt,glt2⟩:=cellsF HG8.out
   have y0:=cell_of HY8.out 0
   have y1:=cell_of HY8.out 1
   have y2:=cell_of HY8.out 2
   have yz:=frozen_of HY8.out
   have yl:=lt_of_heap HY8.out
   obtain ⟨q0,q1,q2,q3,q4,q5,q6,q7,q8,q9,q10,q11,qz,qlt,qlt2⟩:=cellsF HF8.out
   have x0:=cell_of HX8.out 0
   have x1:=cell_of HX8.out 1
   have x2:=cell_of HX8.out 2
   have xz:=frozen_of HX8.out
   have p0:=cell_of HB8.out 0
   have pl:=lt_of_heap HB8.out
   have r2:=cell_of HH8.out 2
   have r3:=cell_of HH8.out 3
   have r4:=cell_of HH8.out 4
   have r5:=cell_of HH8.out 5
   have rz:=frozen_of HH8.out
   have rl:=lt_of_heap HH8.out
   rcases bcase3 ris with his | his
   ·subst his
    have hpu2:9≤rused∧rused≤(l.length:Int):=by rcases hpu with ⟨h,_⟩ | h; cases h; exact h
    clear hpu
    obtain ⟨U,rfl⟩:=Int.eq_ofNat_of_zero_le (show 0≤rused by omega)
    obtain ⟨ga,rfl,hga1,hga2,_,_,_⟩:=HO8.out.of (by omega)
    have hgw:ga < w.heap.size:=HD.out ga (HRB.out ga (by simp [ob]))
    have hga:¬ g=ga:=by simpa [ob] using hgA
    go_wp2_with fail
    refine (RdPass g ga w.heap.size 0 U (by omega) n c (by omega) l most false xs xc w8 HB8.out (by omega) (by omega) HH8.out hga HO8.out).mono ?_
    rintro e w9 ⟨rfl,hh9,ho9,K9p⟩
    have HH9:=Lib.hid hh9
    have HO9:=Lib.hid ho9
    have HFs:=Lib.hid (K9p.heap HF8.out (by simp; omega))
    have HXs:=Lib.hid (K9p.heap HX8.out (by simp; omega))
    have HBs:=Lib.hid (K9p.heap HB8.out (by simp; omega))
    have HGs:=Lib.hid (K9p.heap HG8.out (by simp; omega))
    have HYs:=Lib.hid (K9p.heap HY8.out (by simp; omega))
    have HPs:=Lib.hid (HP8.out.low K9p (by simp; omega) (Nat.le_refl _))
    have hsz9:=K9p.size
    have hx2:w.heap.size+1+1 < wr.heap.size:=by have:=HX2L.out; exact this
    have KXT:=Lib.hid (show ∃ T,(∀ t,t∈T→t=g∨t∈D)∧Kp T w w9 from K8T.out.imp' (fun T=>g :: ga :: T) fun T h=>⟨fun t ht=>by rcases List.mem_cons.1 ht with e | e; exact .inl e; rcases List.mem_cons.1 e with e | e; subst e; exact .inr (HRB.out _ (by simp [ob])); exact h.1 t e,(h.2.mono (fun s hs=>.inl (by simp [hs]))).trans (K9p.mono (fun s hs=>.inl (by simp at hs; rcases hs with e | e <;> simp [e])))⟩)
    have KX1:=Lib.hid (show ∃ T,(∀ t,t∈T→t=g∨t∈D)∧Kp T w1 w9 from K81.out.imp' (fun T=>g :: ga :: T) fun T h=>⟨fun t ht=>by rcases List.mem_cons.1 ht with e | e; exact .inl e; rcases List.mem_cons.1 e with e | e; subst e; exact .inr (HRB.out _ (by simp [ob])); exact h.1 t e,(h.2.mono (fun s hs=>.inl (by simp [hs]))).trans (K9p.mono (fun s hs=>.inl (by simp at hs; rcases hs with e | e <;> simp [e])))⟩)
    clear q0 q1 q2 q3 q4 q5 q6 q7 q8 q9 q10 q11 qz qlt qlt2 x0 x1 x2 xz g0 g1 g2 g3 g4 g5 g6 g7 g8 g9 g10 g11 gz glt glt2 y0 y1 y2 yz yl p0 pl r2 r3 r4 r5 rz rl hh9 ho9 K9p HF8 HX8 HB8 HG8 HY8 HP8 HH8 HO8
    obtain ⟨q0,q1,q2,q3,q4,q5,q6,q7,q8,q9,q10,q11,qz,qlt,qlt2⟩:=cellsF HFs.out
    have x0:=cell_of HXs.out 0
    have x1:=cell_of HXs.out 1
    have x2:=cell_of HXs.out 2
    have xz:=frozen_of HXs.out
    obtain ⟨g0,g1,g2,g3,g4,g5,g6,g7,g8,g9,g10,g11,gz,glt,glt2⟩:=cellsF HGs.out
    have y0:=cell_of HYs.out 0
    have y1:=cell_of HYs.out 1
    have y2:=cell_of HYs.out 2
    have yl:=lt_of_heap HYs.out
    have p0:=cell_of HBs.out 0
    have pl:=lt_of_heap HBs.out
    go_wp2_with fail
    refine (Known_any f6.ty _).mono ?_
    rintro e w10 ⟨rfl,rfl⟩
    have hty:f6.ty=rf.ty:=HPs.out.cs.1
    rcases bcase3 (knownB f6.ty) with hkn | hkn
    ·rw [hkn]
     have HKN:=Lib.hid (show known rf.ty=false by rw [← hty]; exact hkn)
     clear hkn hty
     go_wp2
     go_roundw
     case rel=>exact ⟨l.drop U,some ⟨ga,0,none⟩,n - U,c,HSK.out.trans (.step (by rw [HPS.out]) (by rw [HPS.out]) (by rw [HPS.out]; exact HKN.out) (by rw [HPS.out]; exact .refl _)),HH9.out,HO9.out,by simpa [ob] using hga,HRB.out,by simp; omega,KX1.out⟩
     case measure =>
      unfold lenAt
      rw [cell_of HH9.out 2,cell_of HHr.out 2]
      show n - U < n
      omega
    ·rw [hkn]
     have HKN:=Lib.hid (show known rf.ty=true by rw [← hty]; exact hkn)
     clear hkn hty
     go_wp2
     go_region
     go_wp2
     rw [Exit.noGoto_ret]
     generalize hW:World.setCell _ _ _=W
     obtain ⟨HF9,HX9,K9⟩:W.heap[w.heap.size+1]?=some (.cells #[.int .i64 f6.ty,.int .i64 f6.fl,.int .i64 f6.st,.slice f6.pA f6.pn f6.pc,.int .i64 f6.pad,.int .u32 f6.code,.int .i64 f6.last,.int .i64 f6.inc,.int .i64 f6.dep,.bool f6.only,.int .i64 f6.wt,.slice f6.sA f6.sn f6.sc] 49)∧W.heap[w.heap.size+1+1]?=some (.cells #[.bool false,.int .i64 rst,.int .i64 rcode] 64)∧Kp [w.heap.size+1,w.heap.size+1+1] w9 W:=by rw [← hW]; exact set15 (by omega) HFs.out HXs.out
     refine bodyPost_ret (v:=.tuple #[.agg #[.int .i64 f6.ty,.int .i64 f6.fl,.int .i64 f6.st,.slice f6.pA f6.pn f6.pc,.int .i64 f6.pad,.int .u32 f6.code,.int .i64 f6.last,.int .i64 f6.inc,.int .i64 f6.dep,.bool f6.only,.int .i64 f6.wt,.slice f6.sA f6.sn f6.sc],.bool true,.agg #[.bool false,.int .i64 rst,.int .i64 rcode]]) (by simp [results,Try.results103,go_sem,cell_of HF9,cell_of HX9]) rfl ⟨l,HSK.out,?_,?_⟩
     ·obtain ⟨T,hT,KT⟩:=KXT.out
      exact ((KT.mono (fun t ht=>.inl (List.mem_cons.2 (hT t ht)))).then K9 (by intro t ht; simp at ht; right; omega)).drew
     ·rw [HPS.out]
      exact .inr (.inr (.inr ⟨rfl,rfl,HKN.out,f6,rfl,HPs.out.low K9.drew (by simp; omega) (by omega),⟨some ⟨ga,0,none⟩,n - U,c,K9.heap HH9.out (by simp; omega),(HO9.out.keep K9 (by intro t h1 h2; simp [ob] at h1; simp at h2; omega)).keep (Kp.refl [] W).drew (by simp),by simpa [ob] using hga,HRB.out⟩⟩))
   ·subst his
    by_cases hst:rst=0
    ·subst hst
     go_wp2
     have Kst:Kp [g] w8 (World.setCell (World.setCell (World.setCell w8 ⟨g,3,none⟩ (.bool true)) ⟨g,4,none⟩ (.int .i64 0)) ⟨g,5,none⟩ (.int .i64 rcode)):=(((Kp.refl _ _).setCell (.inl (by simp)) _).setCell (.inl (by simp)) _).setCell (.inl (by simp)) _
     have HHs:=Lib.hid (show ((World.setCell (World.setCell (World.setCell w8 ⟨g,3,none⟩ (.bool true)) ⟨g,4,none⟩ (.int .i64 0)) ⟨g,5,none⟩ (.int .i64 rcode)):World).heap[g]?=some (.cells #[.bool true,.int .i64 most,.slice A n c,.bool true,.int .i64 0,.int .i64 rcode] 148) from hp_set _ _ _ _ _ _ (hp_set _ _ _ _ _ _ (hp_set _ _ _ _ _ _ HH8.out)))
     have HFs:=Lib.hid (Kst.heap HF8.out (by simp; omega))
     have HXs:=Lib.hid (Kst.heap HX8.out (by simp; omega))
     have HBs:=Lib.hid (Kst.heap HB8.out (by simp; omega))
     have HOs:=Lib.hid (HO8.out.keep Kst (by intro t h1 h2; simp at h2; subst h2; exact hgA h1))
     have KXT:=Lib.hid (show ∃ T,(∀ t,t∈T→t=g∨t∈D)∧Kp T w (World.setCell (World.setCell (World.setCell w8 ⟨g,3,none⟩ (.bool true)) ⟨g,4,none⟩ (.int .i64 0)) ⟨g,5,none⟩ (.int .i64 rcode)) from K8T.out.imp' (g :: ·) fun T h=>⟨fun t ht=>by rcases List.mem_cons.1 ht with e | e; exact .inl e; exact h.1 t e,(h.2.mono (fun s hs=>.inl (List.mem_cons_of_mem _ hs))).trans (Kst.mono (fun s hs=>.inl (by simp at hs; simp [hs])))⟩)
     clear q0 q1 q2 q3 q4 q5 q6 q7 q8 q9 q10 q11 qz qlt qlt2 x0 x1 x2 xz g0 g1 g2 g3 g4 g5 g6 g7 g8 g9 g10 g11 gz glt glt2 y0 y1 y2 yz yl p0 pl r2 r3 r4 r5 rz rl
     generalize hW:(World.setCell (World.setCell (World.setCell w8 ⟨g,3,none⟩ (.bool true)) ⟨g,4,none⟩ (.int .i64 0)) ⟨g,5,none⟩ (.int .i64 rcode))=wX at *
     clear hW
     obtain ⟨q0,q1,q2,q3,q4,q5,q6,q7,q8,q9,q10,q11,qz,qlt,qlt2⟩:=cellsF HFs.out
     have x0:=cell_of HXs.out 0
     have x1:=cell_of HXs.out 1
     have x2:=cell_of HXs.out 2
     have xz:=frozen_of HXs.out
     have p0:=cell_of HBs.out 0
     have pl:=lt_of_heap HBs.out
     have r3:=cell_of HHs.out 3
     have r4:=cell_of HHs.out 4
     have r5:=cell_of HHs.out 5
     have rl:=lt_of_heap HHs.out
     go_region
     go_wp2
     rw [Exit.noGoto_ret]
     generalize hW:World.setCell _ _ _=W
     obtain ⟨HF9,HX9,K9⟩:W.heap[w.heap.size+1]?=some (.cells #[.int .i64 0,.int .i64 0,.int .i64 0,.slice none 0 0,.int .i64 0,.int .u32 0,.int .i64 0,.int .i64 0,.int .i64 0,.bool false,.int .i64 0,.slice none 0 0] 49)∧W.heap[w.heap.size+1+1]?=some (.cells #[.bool true,.int .i64 0,.int .i64 rcode] 64)∧Kp [w.heap.size+1,w.heap.size+1+1] wX W:=by rw [← hW]; exact set15 (by omega) HFs.out HXs.out
     refine bodyPost_ret (v:=.tuple #[.agg #[.int .i64 0,.int .i64 0,.int .i64 0,.slice none 0 0,.int .i64 0,.int .u32 0,.int .i64 0,.int .i64 0,.int .i64 0,.bool false,.int .i64 0,.slice none 0 0],.bool false,.agg #[.bool true,.int .i64 0,.int .i64 rcode]]) (by simp [results,Try.results103,go_sem,cell_of HF9,cell_of HX9]) rfl ⟨l,HSK.out,?_,?_⟩
     ·obtain ⟨T,hT,KT⟩:=KXT.out
      exact ((KT.mono (fun t ht=>.inl (List.mem_cons.2 (hT t ht)))).then K9 (by intro t ht; simp at ht; right; omega)).drew
     ·rw [HPS.out]
      exact .inr (.inl ⟨rfl,rfl,rfl,rfl,⟨A,n,c,(K9.heap HHs.out (by simp; omega)),(HOs.out.keep K9 (by intro t h1 h2; have:=HD.out t (HRB.out t h1); simp at h2; omega)).keep (Kp.refl [] W).drew (by simp),hgA,HRB.out⟩⟩)
    ·have hsb:(rst == 0)=false:=by simpa using hst
     have hpu2:9≤rused∧rused≤(l.length:Int):=by rcases hpu with ⟨_,h⟩ | h; exact absurd h hst; exact h
     clear hpu
     obtain ⟨U,rfl⟩:=Int.eq_ofNat_of_zero_le (show 0≤rused by omega)
     obtain ⟨ga,rfl,hga1,hga2,_,_,_⟩:=HO8.out.of (by omega)
     have hgw:ga < w.heap.size:=HD.out ga (HRB.out ga (by simp [ob]))
     have hga:¬ g=ga:=by simpa [ob] using hgA
     go_wp2_with fail
     refine (RdPass g ga w.heap.size 0 U (by omega) n c (by omega) l most false xs xc w8 HB8.out (by omega) (by omega) HH8.out hga HO8.out).mono ?_
     rintro e w9 ⟨rfl,hh9,ho9,K9p⟩
     have HH9:=Lib.hid hh9
     have HO9:=Lib.hid ho9
     have HFs:=Lib.hid (K9p.heap HF8.out (by simp; omega))
     have HXs:=Lib.hid (K9p.heap HX8.out (by simp; omega))
     have HBs:=Lib.hid (K9p.heap HB8.out (by simp; omega))
     have HGs:=Lib.hid (K9p.heap HG8.out (by simp; omega))
     have HYs:=Lib.hid (K9p.heap HY8.out (by simp; omega))
     have HPs:=Lib.hid (HP8.out.low K9p (by simp; omega) (Nat.le_refl _))
     have hsz9:=K9p.size
     have hx2:w.heap.size+1+1 < wr.heap.size:=by have:=HX2L.out; exact this
     have KXT:=Lib.hid (show ∃ T,(∀ t,t∈T→t=g∨t∈D)∧Kp T w w9 from K8T.out.imp' (fun T=>g :: ga :: T) fun T h=>⟨fun t ht=>by rcases List.mem_cons.1 ht with e | e; exact .inl e; rcases List.mem_cons.1 e with e | e; subst e; exact .inr (HRB.out _ (by simp [ob])); exact h.1 t e,(h.2.mono (fun s hs=>.inl (by simp [hs]))).trans (K9p.mono (fun s hs=>.inl (by simp at hs; rcases hs with e | e <;> simp [e])))⟩)
     have KX1:=Lib.hid (show ∃ T,(∀ t,t∈T→t=g∨t∈D)∧Kp T w1 w9 from K81.out.imp' (fun T=>g :: ga :: T) fun T h=>⟨fun t ht=>by rcases List.mem_cons.1 ht with e | e; exact .inl e; rcases List.mem_cons.1 e with e | e; subst e; exact .inr (HRB.out _ (by simp [ob])); exact h.1 t e,(h.2.mono (fun s hs=>.inl (by simp [hs]))).trans (K9p.mono (fun s hs=>.inl (by simp at hs; rcases hs with e | e <;> simp [e])))⟩)
     clear q0 q1 q2 q3 q4 q5 q6 q7 q8 q9 q10 q11 qz qlt qlt2 x0 x1 x2 xz g0 g1 g2 g3 g4 g5 g6 g7 g8 g9 g10 g11 gz glt glt2 y0 y1 y2 yz yl p0 pl r2 r3 r4 r5 rz rl hh9 ho9 K9p HF8 HX8 HB8 HG8 HY8 HP8 HH8 HO8
     obtain ⟨q0,q1,q2,q3,q4,q5,q6,q7,q8,q9,q10,q11,qz,qlt,qlt2⟩:=cellsF HFs.out
     have x0:=cell_of HXs.out 0
     have x1:=cell_of HXs.out 1
     have x2:=cell_of HXs.out 2
     have xz:=frozen_of HXs.out
     obtain ⟨g0,g1,g2,g3,g4,g5,g6,g7,g8,g9,g10,g11,gz,glt,glt2⟩:=cellsF HGs.out
     have y0:=cell_of HYs.out 0
     have y1:=cell_of HYs.out 1
     have y2:=cell_of HYs.out 2
     have yl:=lt_of_heap HYs.out
     have p0:=cell_of HBs.out 0
     have pl:=lt_of_heap HBs.out
     go_wp2
     go_region
     go_wp2
     rw [Exit.noGoto_ret]
     generalize hW:World.setCell _ _ _=W
     obtain ⟨HF9,HX9,K9⟩:W.heap[w.heap.size+1]?=some (.cells #[.int .i64 0,.int .i64 0,.int .i64 0,.slice none 0 0,.int .i64 0,.int .u32 0,.int .i64 0,.int .i64 0,.int .i64 0,.bool false,.int .i64 0,.slice none 0 0] 49)∧W.heap[w.heap.size+1+1]?=some (.cells #[.bool true,.int .i64 rst,.int .i64 rcode] 64)∧Kp [w.heap.size+1,w.heap.size+1+1] w9 W:=by rw [← hW]; exact set15 (by omega) HFs.out HXs.out
     refine bodyPost_ret (v:=.tuple #[.agg #[.int .i64 0,.int .i64 0,.int .i64 0,.slice none 0 0,.int .i64 0,.int .u32 0,.int .i64 0,.int .i64 0,.int .i64 0,.bool false,.int .i64 0,.slice none 0 0],.bool false,.agg #[.bool true,.int .i64 rst,.int .i64 rcode]]) (by simp [results,Try.results103,go_sem,cell_of HF9,cell_of HX9]) rfl ⟨l,HSK.out,?_,?_⟩
     ·obtain ⟨T,hT,KT⟩:=KXT.out
      exact ((KT.mono (fun t ht=>.inl (List.mem_cons.2 (hT t ht)))).then K9 (by intro t ht; simp at ht; right; omega)).drew
     ·rw [HPS.out]
      exact .inr (.inr (.inl ⟨rfl,rfl,hst,rfl,⟨some ⟨ga,0,none⟩,n - U,c,K9.heap HH9.out (by simp; omega),(HO9.out.keep K9 (by intro t h1 h2; simp [ob] at h1; simp at h2; omega)).keep (Kp.refl [] W).drew (by simp),by simpa [ob] using hga,HRB.out⟩⟩))
  ·have hez:(rerr != 0)=true:=by simpa using herr
   obtain ⟨q0,q1,q2,q3,q4,q5,q6,q7,q8,q9,q10,q11,qz,qlt,qlt2⟩:=cellsF HF8.out
   have x0:=cell_of HX8.out 0
   have x1:=cell_of HX8.out 1
   have x2:=cell_of HX8.out 2
   have xz:=frozen_of HX8.out
   go_wp2
   try rw [Exit.noGoto_ret]
   generalize hW:World.setCell _ _ _=W
   obtain ⟨HF9,HX9,K9⟩:W.heap[w.heap.size+1]?=some (.cells #[.int .i64 0,.int .i64 0,.int .i64 0,.slice none 0 0,.int .i64 0,.int .u32 0,.int .i64 0,.int .i64 0,.int .i64 0,.bool false,.int .i64 0,.slice none 0 0] 49)∧W.heap[w.heap.size+1+1]?=some (.cells #[.bool false,.int .i64 0,.int .i64 0] 64)∧Kp [w.heap.size+1,w.heap.size+1+1] w8 W:=by rw [← hW]; exact set15 (by omega) HF8.out HX8.out
   refine bodyPost_ret (v:=.tuple #[.agg #[.int .i64 0,.int .i64 0,.int .i64 0,.slice none 0 0,.int .i64 0,.int .u32 0,.int .i64 0,.int .i64 0,.int .i64 0,.bool false,.int .i64 0,.slice none 0 0],.bool false,.agg #[.bool false,.int .i64 0,.int .i64 0]]) (by simp [results,Try.results103,go_sem,cell_of HF9,cell_of HX9]) rfl ⟨l,HSK.out,?_,?_⟩
   ·obtain ⟨T,hT,KT⟩:=K8T.out
    exact ((KT.mono (fun t ht=>.inl (List.mem_cons.2 (hT t ht)))).then K9 (by intro t ht; simp at ht; right; omega))
   ·rw [HPS.out]
    exact .inl ⟨herr,rfl,⟨A,n,c,(K9.heap HH8.out (by simp; omega)),(HO8.out.keep K9 (by intro t h1 h2; have:=HD.out t (HRB.out t h1); simp at h2; omega)),hgA,HRB.out⟩⟩
end Go.Proofs.Ytkmcakneceagpaa

namespace Go.Proofs.Ytkmcakneceagpaa
open Go.RowKit
theorem RdNextS (g:Nat) (w:World) (A:Option Addr) (n c:Nat) (most:Int) (xs xc:Int) (h:w.heap[g]?=some (.cells #[.bool true,.int .i64 most,.slice A n c,.bool true,.int .i64 xs,.int .i64 xc] 148)):Calls Try.prog 103 #[.pointer (some ⟨g,0,none⟩)] w fun e w'=>e=.returned (.tuple #[.agg #[.int .i64 0,.int .i64 0,.int .i64 0,.slice none 0 0,.int .i64 0,.int .u32 0,.int .i64 0,.int .i64 0,.int .i64 0,.bool false,.int .i64 0,.slice none 0 0],.bool false,.agg #[.bool true,.int .i64 xs,.int .i64 xc]])∧Kp [] w w':=by
 have HH:=Lib.hid h
 have hl:=lt_of_heap h
 clear h
 go_enter Try.func103,Try.ntmps103
 go_wp2_with fail
 go_step3
 go_wp2_with fail
 generalize hW:World.alloc _ _=w1
 have K1:Kp [] w w1:=by rw [← hW]; with_reducible (repeat (first|exact Kp.refl _ _|assumption|refine Kp.alloc ?_ _|refine Kp.drew ?_|refine Kp.drewN ?_ _|(refine Kp.setL ?_ ?_ _;focus (simp;done))|(refine Kp.setR ?_ ?_ _;focus (first|(simp;done)|(simp;omega)))))
 have HR:=Lib.hid (show w1.heap[w.heap.size]?=some (.cells #[.pointer (some ⟨g,0,none⟩)] 146) by rw [← hW]; with_reducible (repeat (first|assumption|(refine hp_new _ _ _ ?_;focus (simp;done))|refine hpl ?_|(refine hpf ?_ ?_;focus (first|(simp;done)|(simp;omega)))|refine hpd ?_|refine hpe ?_)))
 have HF:=Lib.hid (show w1.heap[w.heap.size+1]?=some (.cells #[.int .i64 0,.int .i64 0,.int .i64 0,.slice none 0 0,.int .i64 0,.int .u32 0,.int .i64 0,.int .i64 0,.int .i64 0,.bool false,.int .i64 0,.slice none 0 0] 49) by rw [← hW]; with_reducible (repeat (first|assumption|(refine hp_new _ _ _ ?_;focus (simp;done))|refine hpl ?_|(refine hpf ?_ ?_;focus (first|(simp;done)|(simp;omega)))|refine hpd ?_|refine hpe ?_)))
 have HX:=Lib.hid (show w1.heap[w.heap.size+1+1]?=some (.cells #[.bool false,.int .i64 0,.int .i64 0] 64) by rw [← hW]; with_reducible (repeat (first|assumption|(refine hp_new _ _ _ ?_;focus (simp;done))|refine hpl ?_|(refine hpf ?_ ?_;focus (first|(simp;done)|(simp;omega)))|refine hpd ?_|refine hpe ?_)))
 clear hW
 have H1:=Lib.hid (K1.heap HH.out (by simp))
 refine (RdNone g w1 (cell_of H1.out 0)).mono ?_
 rintro e w9 ⟨rfl,rfl⟩
 have r0:=cell_of HR.out 0
 have rl:=lt_of_heap HR.out
 have c3:=cell_of H1.out 3
 have cl:=lt_of_heap H1.out
 have c4:=cell_of H1.out 4
 have c5:=cell_of H1.out 5
 obtain ⟨q0,q1,q2,q3,q4,q5,q6,q7,q8,q9,q10,q11,qz,qlt,qlt2⟩:=cellsF HF.out
 have x0:=cell_of HX.out 0
 have x1:=cell_of HX.out 1
 have x2:=cell_of HX.out 2
 have xz:=frozen_of HX.out
 go_wp2
 go_step3
 go_wp2
 refine wp_loop_once ?_
 go_wp2
 go_region
 go_wp2
 rw [Exit.noGoto_ret]
 generalize hW:World.setCell _ _ _=W
 obtain ⟨HF9,HX9,K9⟩:W.heap[w.heap.size+1]?=some (.cells #[.int .i64 0,.int .i64 0,.int .i64 0,.slice none 0 0,.int .i64 0,.int .u32 0,.int .i64 0,.int .i64 0,.int .i64 0,.bool false,.int .i64 0,.slice none 0 0] 49)∧W.heap[w.heap.size+1+1]?=some (.cells #[.bool true,.int .i64 xs,.int .i64 xc] 64)∧Kp [w.heap.size+1,w.heap.size+1+1] w1 W:=by rw [← hW]; exact set15 (by omega) HF.out HX.out
 refine bodyPost_ret (v:=.tuple #[.agg #[.int .i64 0,.int .i64 0,.int .i64 0,.slice none 0 0,.int .i64 0,.int .u32 0,.int .i64 0,.int .i64 0,.int .i64 0,.bool false,.int .i64 0,.slice none 0 0],.bool false,.agg #[.bool true,.int .i64 xs,.int .i64 xc]]) (by simp [results,Try.results103,go_sem,cell_of HF9,cell_of HX9]) rfl ⟨rfl,(K1.then K9 (by intro t ht; simp at ht; right; omega)).drew⟩
theorem Skip.none {most:Int} {l m:List UInt8} (h:Skip most l m) (h0:(ps l most).err≠0∨(ps l most).is=true):m=l:=by
 cases h with
 | refl=>rfl
 | step h1 h2 _ _=>rcases h0 with h0 | h0; exact absurd h1 h0; rw [h2] at h0; cases h0
end Go.Proofs.Ytkmcakneceagpaa

namespace Go.Proofs.Ytkmcakneceagpaa
open Go.RowKit
def Stuck (most:Int) (l:List UInt8):Prop:=(ps l most).err≠0∨(ps l most).is=true∨known (ps l most).f.ty=true
theorem Skip.det {most:Int} {l a b:List UInt8} (h:Skip most l a) (k:Skip most l b) (ha:Stuck most a) (hb:Stuck most b):a=b:=by
 induction h with
 | refl l =>
  cases k with
  | refl=>rfl
  | step h0 h1 h2 _=>rcases ha with h | h | h; exact absurd h0 h; rw [h1] at h; cases h; rw [h2] at h; cases h
 | step h0 h1 h2 _ ih =>
  cases k with
  | refl=>rcases hb with h | h | h; exact absurd h0 h; rw [h1] at h; cases h; rw [h2] at h; cases h
  | step _ _ _ k=>exact ih k ha
theorem ps_clean (l:List UInt8) (most:Int) (h:(ps l most).is=false):(ps l most).xst=0∧(ps l most).code=0:=by
 unfold ps at h ⊢
 split
 ·exact ⟨rfl,rfl⟩
 rename_i h1
 rw [if_neg h1] at h
 split
 ·exact ⟨rfl,rfl⟩
 rename_i h2
 rw [if_neg h2] at h
 split
 ·rename_i h3; rw [if_pos h3] at h; cases h
 rename_i h3
 rw [if_neg h3] at h
 split
 ·exact ⟨rfl,rfl⟩
 rename_i h4
 rw [if_neg h4] at h
 unfold inS at h ⊢
 dsimp only at h ⊢
 split
 ·exact ⟨rfl,rfl⟩
 rename_i h5
 rw [if_neg h5] at h
 split
 ·rename_i h6; rw [if_pos h6] at h; cases h
 rename_i h6
 rw [if_neg h6] at h
 split
 ·rename_i h7; rw [if_pos h7] at h; cases h
 rename_i h7
 rw [if_neg h7] at h
 split
 ·rename_i c hu; rw [hu] at h; cases h
 ·rename_i pad m hu
  rw [hu] at h
  dsimp only at h
  split
  ·rename_i h8; rw [if_pos h8] at h; cases h
  ·exact ⟨rfl,rfl⟩
theorem OkP.zero:OkP Fp.zero:=⟨by decide,by decide,by simp [Fp.zero]⟩
theorem ps_okp (l:List UInt8) (most:Int):OkP (ps l most).f:=by
 unfold ps
 split
 ·exact OkP.zero
 split
 ·exact OkP.zero
 split
 ·exact OkP.zero
 split
 ·exact OkP.zero
 unfold inS
 dsimp only
 split
 ·exact ⟨by simp [f0S],by simp [f0S],by simp [f0S]⟩
 split
 ·exact OkP.zero
 split
 ·exact OkP.zero
 split
 ·exact OkP.zero
 ·split
  ·exact OkP.zero
  ·exact getS_ok _ _ _ _ _
end Go.Proofs.Ytkmcakneceagpaa

namespace Go.Proofs.Ytkmcakneceagpaa
open Go.RowKit
structure NxO where
 f:Fp
 x:Bool
 p:Bool
 st:Int
 code:Int
 is:Bool
 xs:Int
 xc:Int
 l:List UInt8
def nxO (most:Int) (xs xc:Int) (l:List UInt8):NxO :=
 if (ps l most).err≠0 then ⟨Fp.zero,false,false,0,0,false,xs,xc,l⟩
 else if (ps l most).is=true then
  (if (ps l most).xst=0 then ⟨Fp.zero,false,true,0,(ps l most).code,true,0,(ps l most).code,l⟩
   else ⟨Fp.zero,false,true,(ps l most).xst,(ps l most).code,false,xs,xc,l.drop (ps l most).used.toNat⟩)
 else ⟨(ps l most).f,true,false,0,0,false,xs,xc,l.drop (ps l most).used.toNat⟩
def NxR (most:Int) (is:Bool) (xs xc:Int) (l:List UInt8) (o:NxO):Prop :=
 (is=true∧o=⟨Fp.zero,false,true,xs,xc,true,xs,xc,l⟩)∨(is=false∧∃ m,Skip most l m∧Stuck most m∧o=nxO most xs xc m)
theorem NxR.det {most:Int} {is:Bool} {xs xc:Int} {l:List UInt8} {a b:NxO} (h:NxR most is xs xc l a) (k:NxR most is xs xc l b):a=b:=by
 rcases h with ⟨h1,h2⟩ | ⟨h1,m,h2,h3,h4⟩ <;> rcases k with ⟨k1,k2⟩ | ⟨k1,m',k2,k3,k4⟩
 ·rw [h2,k2]
 ·rw [h1] at k1; cases k1
 ·rw [h1] at k1; cases k1
 ·rw [h4,k4,h2.det k2 h3 k3]
theorem Skip.len {most:Int} {l m:List UInt8} (h:Skip most l m):m.length≤l.length:=by
 induction h with
 | refl l=>exact Nat.le_refl _
 | step _ _ _ _ ih=>simp at ih; omega
theorem zlen:Fp.zero.pl.length < 16777216∧Fp.zero.ss.length < 16777216:=⟨by decide,by decide⟩
theorem nxO_ok (most:Int) (xs xc:Int) (l:List UInt8):OkP (nxO most xs xc l).f∧(nxO most xs xc l).f.pl.length < 16777216∧(nxO most xs xc l).f.ss.length < 16777216:=by
 unfold nxO
 split
 ·exact ⟨OkP.zero,zlen⟩
 split
 ·split
  ·exact ⟨OkP.zero,zlen⟩
  ·exact ⟨OkP.zero,zlen⟩
 ·exact ⟨ps_okp l most,ps_small l most⟩
theorem NxR.ok {most:Int} {is:Bool} {xs xc:Int} {l:List UInt8} {o:NxO} (h:NxR most is xs xc l o):OkP o.f∧o.f.pl.length < 16777216∧o.f.ss.length < 16777216:=by
 rcases h with ⟨_,rfl⟩ | ⟨_,m,_,_,rfl⟩
 ·exact ⟨OkP.zero,zlen⟩
 ·exact nxO_ok _ _ _ _
theorem ps_err_len (l:List UInt8) (most:Int) (h0:0≤most) (h:(ps l most).err≠0):(l.length:Int) < 9+most:=by
 unfold ps at h
 rw [if_neg (by omega)] at h
 split at h
 ·omega
 split at h
 ·exact absurd rfl h
 split at h
 ·rename_i h1 h2 h3
  omega
 ·exfalso
  apply h
  unfold inS
  dsimp only
  split
  ·rfl
  split
  ·rfl
  split
  ·rfl
  split
  ·rfl
  ·split <;> rfl
theorem NxR.tells {most:Int} {is:Bool} {xs xc:Int} {l:List UInt8} {o:NxO} (h:NxR most is xs xc l o) (hm0:0≤most) :
  o.l.length≤l.length∧(is=true→o.l=l∧o.is=true)∧((o.x=true∨(o.p=true∧o.st≠0))→o.is=true∨o.l.length+9≤l.length)∧((o.x=false∧(o.p=false∨o.st=0))→o.is=true∨(o.l.length:Int) < 9+most):=by
 rcases h with ⟨h0,rfl⟩ | ⟨h0,m,h1,h2,rfl⟩
 ·exact ⟨Nat.le_refl _,fun _=>⟨rfl,rfl⟩,fun _=>.inl rfl,fun _=>.inl rfl⟩
 ·have hl:=h1.len
  refine ⟨?_,fun h=>(by rw [h0] at h; cases h),?_,?_⟩
  ·unfold nxO
   split
   ·exact hl
   split
   ·split
    ·exact hl
    ·simp; omega
   ·simp; omega
  ·unfold nxO
   split
   ·intro h; simp at h
   rename_i he
   have hu:=ps_used m most (by simpa using he)
   split
   ·split
    ·intro _; exact .inl rfl
    ·rename_i hx
     rcases hu with ⟨_,h⟩ | ⟨u1,u2⟩
     ·exact absurd h hx
     ·intro _; right; simp; omega
   ·rename_i hi
    rcases hu with ⟨h,_⟩ | ⟨u1,u2⟩
    ·exact absurd h hi
    ·intro _; right; simp; omega
  ·unfold nxO
   split
   ·rename_i he
    intro _; right; exact ps_err_len m most hm0 he
   split
   ·split
    ·intro _; exact .inl rfl
    ·rename_i hx; intro h; simp at h; exact absurd h hx
   ·intro h; simp at h
theorem RdNextB (g:Nat) (D:List Nat) (w:World) (most:Int) (is:Bool) (xs xc:Int) (l:List UInt8) (hs:RdS w g D most is xs xc l) (hD:∀ t,t∈D→t < w.heap.size) (hm:0≤most) (hl:is=true∨l.length≤281474976710656) :
  Calls Try.prog 103 #[.pointer (some ⟨g,0,none⟩)] w fun e w'=>∃ o f,NxR most is xs xc l o∧e=.returned (.tuple #[.agg #[.int .i64 f.ty,.int .i64 f.fl,.int .i64 f.st,.slice f.pA f.pn f.pc,.int .i64 f.pad,.int .u32 f.code,.int .i64 f.last,.int .i64 f.inc,.int .i64 f.dep,.bool f.only,.int .i64 f.wt,.slice f.sA f.sn f.sc],.bool o.x,.agg #[.bool o.p,.int .i64 o.st,.int .i64 o.code]])∧FrP w' w.heap.size f o.f∧RdS w' g D most o.is o.xs o.xc o.l∧Kp (g :: D) w w':=by
 cases is with
 | true =>
  obtain ⟨A,n,c,h1,h2,h3,h4⟩:=hs
  refine (RdNextS g w A n c most xs xc h1).mono ?_
  rintro e w' ⟨rfl,K⟩
  exact ⟨⟨Fp.zero,false,true,xs,xc,true,xs,xc,l⟩,⟨0,0,0,none,0,0,0,0,0,0,0,false,0,none,0,0⟩,.inl ⟨rfl,rfl⟩,rfl,FrP.zero _ _,⟨A,n,c,K.heap h1 (by simp),h2.keep K (by simp),h3,h4⟩,K.nil⟩
 | false =>
  refine (RdNext g D w most xs xc l hs hD hm (by rcases hl with h | h; cases h; exact h)).mono ?_
  rintro e w' ⟨m,hsk,K,hd⟩
  rcases hd with ⟨e1,rfl,S⟩ | ⟨e1,e2,e3,rfl,S⟩ | ⟨e1,e2,e3,rfl,S⟩ | ⟨e1,e2,e3,f,rfl,hf,S⟩
  ·refine ⟨nxO most xs xc m,⟨0,0,0,none,0,0,0,0,0,0,0,false,0,none,0,0⟩,.inr ⟨rfl,m,hsk,.inl e1,rfl⟩,?_,?_,?_,K⟩ <;> (unfold nxO; rw [if_pos e1])
   ·exact FrP.zero _ _
   ·exact S
  ·refine ⟨nxO most xs xc m,⟨0,0,0,none,0,0,0,0,0,0,0,false,0,none,0,0⟩,.inr ⟨rfl,m,hsk,.inr (.inl e2),rfl⟩,?_,?_,?_,K⟩ <;> (unfold nxO; rw [if_neg (by simpa using e1),if_pos e2,if_pos e3])
   ·exact FrP.zero _ _
   ·exact S
  ·refine ⟨nxO most xs xc m,⟨0,0,0,none,0,0,0,0,0,0,0,false,0,none,0,0⟩,.inr ⟨rfl,m,hsk,.inr (.inl e2),rfl⟩,?_,?_,?_,K⟩ <;> (unfold nxO; rw [if_neg (by simpa using e1),if_pos e2,if_neg e3])
   ·exact FrP.zero _ _
   ·exact S
  ·obtain ⟨z1,z2⟩:=ps_clean m most e2
   refine ⟨nxO most xs xc m,f,.inr ⟨rfl,m,hsk,.inr (.inr e3),rfl⟩,?_,?_,?_,K⟩ <;> (unfold nxO; rw [if_neg (by simpa using e1),if_neg (by rw [e2]; decide)])
   ·rw [z1,z2]
   ·exact hf
   ·exact S
end Go.Proofs.Ytkmcakneceagpaa
