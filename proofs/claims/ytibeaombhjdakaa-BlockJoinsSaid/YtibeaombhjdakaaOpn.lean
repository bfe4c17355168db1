/- How arguments that came in are opened, over any program: integers, bools, strings, slices, structs, with the form's own reach; and how a law's row is closed. -/
import Derived.Test.YtibeaombhjdakaaMem
import Derived.ProofKit
import Derived.SizedLaws
import Derived.OpenShut
import Derived.Carry
import Derived.Below
set_option linter.unusedVariables false
namespace Go.Proofs.Ytibeaombhjdakaa
open Go.ChangeShapes Go.WideShapes Go.ChangeAt Go.RowKit

section
variable {H : Type} {enc : TypeId × Value → H} {P : Program} {W : World}

/-- The cells cs read as d at type t, and each string and slice within is in reach. -/
def Tr (enc : TypeId × Value → H) (P : Program) (W : World) (t : TypeId) (cs : List Value) (d : DataW H) : Prop :=
  (∃ fuel ps, DataW.trod enc P W 0 (fun _ => true) true fuel t cs = some (d, ps)) ∧ ∀ n ∈ d.weights P t, n ≤ 140737488351232

theorem Tr.of {t : TypeId} {v : Value} {d : DataW H} {p : List MemPlace} {ts : List TypeId} {ds : List (DataW H)} (h : DataW.Trod enc P W 0 (fun _ => true) true t v d p) (j : Nat) (ht : ts[j]? = some t) (hd : ds[j]? = some d)
    (hs : (DataW.weightsEach P ts ds).all (· ≤ reachBytes) = true) : Tr enc P W t v.cells.toList d := by
  obtain ⟨fuel, hf⟩ := h
  refine ⟨⟨fuel, p, hf⟩, fun n hn => ?_⟩
  have := List.all_eq_true.1 hs n (DataW.weights_mem_each ht hd n hn)
  exact of_decide_eq_true this

theorem Tr.int {t : TypeId} {k : IntKind} {cs : List Value} {d : DataW H} (hu : P.underlying t = some (.int k)) (h : Tr enc P W t cs d) : ∃ n, cs = [.int k n] ∧ d = .lit (.int k n) ∧ (Lit.int k n).wf = true := by
  obtain ⟨⟨fuel, ps, hf⟩, _⟩ := h
  obtain ⟨n, hc, hx, hw⟩ := DataW.trod_int hu hf
  exact ⟨n, hc, (Prod.mk.inj hx).1, hw⟩
theorem Tr.bool {t : TypeId} {cs : List Value} {d : DataW H} (hu : P.underlying t = some .bool) (h : Tr enc P W t cs d) : ∃ b, cs = [.bool b] ∧ d = .lit (.bool b) := by
  obtain ⟨⟨fuel, ps, hf⟩, _⟩ := h
  obtain ⟨b, hc, hx⟩ := DataW.trod_bool hu hf
  exact ⟨b, hc, (Prod.mk.inj hx).1⟩
theorem Tr.string {t : TypeId} {cs : List Value} {d : DataW H} (hu : P.underlying t = some .string) (h : Tr enc P W t cs d) : ∃ s : ByteArray, cs = [.string s] ∧ d = .lit (.string s.data.toList) ∧ s.size ≤ 140737488351232 := by
  obtain ⟨⟨fuel, ps, hf⟩, hw⟩ := h
  obtain ⟨s, hc, hx, _⟩ := DataW.trod_string hu hf
  obtain rfl := (Prod.mk.inj hx).1
  refine ⟨s, hc, rfl, ?_⟩
  have := hw s.data.toList.length (by simp [DataW.weights])
  rwa [Array.length_toList] at this

theorem weightsEach_get {P : Program} {ts : List TypeId} {ds : List (DataW H)} {j : Nat} {t : TypeId} {d : DataW H} (ht : ts[j]? = some t) (hd : ds[j]? = some d) : ∀ n ∈ d.weights P t, n ∈ DataW.weightsEach P ts ds :=
  DataW.weights_mem_each ht hd
theorem weightsAll_get {P : Program} {e : TypeId} : ∀ {ds : List (DataW H)} {j : Nat} {d : DataW H}, ds[j]? = some d → ∀ n ∈ d.weights P e, n ∈ DataW.weightsAll P e ds
  | [], _, _, hd, _, _ => by simp at hd
  | d0 :: ds, 0, d, hd, n, hn => by
    simp at hd
    subst hd
    simp only [DataW.weightsAll, List.mem_append]
    exact .inl hn
  | d0 :: ds, j + 1, d, hd, n, hn => by
    simp only [DataW.weightsAll, List.mem_append]
    exact .inr (weightsAll_get (by simpa using hd) n hn)

/-- A struct: its parts, each with its cells. -/
theorem Tr.struct {t : TypeId} {fs : Array Field} {cs : List Value} {d : DataW H} (hu : P.underlying t = some (.struct fs)) (h : Tr enc P W t cs d) :
    ∃ ds, d = .agg ds ∧ ds.length = fs.size ∧ cs.length = P.cellsOf t ∧ ∀ (i : Nat) (f : Field), fs[i]? = some f → ∃ di, ds[i]? = some di ∧ Tr enc P W f.type ((cs.drop f.offset).take (P.cellsOf f.type)) di := by
  obtain ⟨⟨fuel, ps, hf⟩, hw⟩ := h
  obtain ⟨xs, n, _, hx, hl, hlen, hfi⟩ := DataW.trod_struct hu hf
  obtain rfl := (Prod.mk.inj hx).1
  refine ⟨xs.map (·.1), rfl, by simpa using hlen, hl, fun i f hf' => ?_⟩
  have hi : i < xs.length := by rw [hlen]; exact (Array.getElem?_eq_some_iff.1 hf').1
  have h1 := hfi i f hf'
  rw [List.getElem?_eq_getElem hi] at h1
  refine ⟨xs[i].1, by simp [List.getElem?_eq_getElem hi], ⟨n, xs[i].2, h1⟩, fun m hm => hw m ?_⟩
  simp only [DataW.weights, hu]
  refine weightsEach_get (j := i) ?_ (by simp [List.getElem?_eq_getElem hi]) m hm
  have hft : fs.toList[i]? = some f := by rw [Array.getElem?_toList]; exact hf'
  simp [hft]

/-- A slice: so many elements, each with its cells. -/
theorem Tr.slice {t e : TypeId} {cs : List Value} {d : DataW H} (hu : P.underlying t = some (.slice e)) (hpos : 0 < P.cellsOf e) (h : Tr enc P W t cs d) :
    ∃ A n c ds sp, cs = [.slice A n c] ∧ ds.length = n ∧ n ≤ c ∧ c ≤ maxLen ∧ n * P.bytesOf e ≤ 140737488351232 ∧ (d = .slice ds sp ∨ d = .nil ∧ ds = []) ∧
      ∀ i, i < n → ∃ b off es di, A = some ⟨b, off, none⟩ ∧ b < W.heap.size ∧ ds[i]? = some di ∧ Tr enc P W e es di ∧ es.length = P.cellsOf e ∧ ∀ j u, es[j]? = some u → W.cell? ⟨b, off + i * P.cellsOf e + j, none⟩ = some u := by
  obtain ⟨⟨fuel, ps, hf⟩, hw⟩ := h
  rcases DataW.trod_slice hu hf with ⟨hc, hx⟩ | ⟨a, len, cap, elems, rest, n, _, hc, hx, _, hl, hm, hlen, hel, _, _⟩
  · obtain rfl := (Prod.mk.inj hx).1
    exact ⟨none, 0, 0, [], [], hc, rfl, Nat.le_refl _, Nat.zero_le _, by simp, .inr ⟨rfl, rfl⟩, fun i hi => absurd hi (by omega)⟩
  · obtain rfl := (Prod.mk.inj hx).1
    refine ⟨some a, len, cap, elems.map (·.1), rest.map (·.1), hc, by simpa using hlen, hl, hm, ?_, .inl rfl, fun i hi => ?_⟩
    · have h1 := hw (((elems.map (·.1)).length + (rest.map (·.1)).length) * P.bytesOf e) (by simp [DataW.weights, hu])
      simp only [List.length_map, hlen] at h1
      exact Nat.le_trans (Nat.mul_le_mul_right _ (by omega)) h1
    · have h1 := hel i hi
      have hil : i < elems.length := by omega
      rw [List.getElem?_eq_getElem hil] at h1
      obtain ⟨es, hes, htr⟩ := Option.bind_eq_some_iff.1 h1
      obtain ⟨_, hcells⟩ := World.cells?_some hes
      have hlen2 : es.length = P.cellsOf e := hcells.1
      have h0 := hel 0 (by omega)
      rw [List.getElem?_eq_getElem (show 0 < elems.length by omega)] at h0
      obtain ⟨es0, hes0, _⟩ := Option.bind_eq_some_iff.1 h0
      obtain ⟨_, hlen0, hcells0⟩ := World.cells?_some hes0
      have hc0 : W.cell? a = some es0[0] := by
        have := hcells0 0 (by omega)
        rw [List.getElem?_eq_getElem (by omega)] at this
        simpa [Addr.add] using this
      have hspot := World.cell?_spot hc0
      obtain ⟨b, off, spot⟩ := a
      have hsp : spot = none := hspot
      subst hsp
      have hadd : ∀ j, ((⟨b, off, none⟩ : Addr).add (i * P.cellsOf e)).add j = ⟨b, off + i * P.cellsOf e + j, none⟩ := by
        intro j
        unfold Addr.add
        split <;> split <;> simp_all <;> omega
      refine ⟨b, off, es, elems[i].1, rfl, ?_, by simp [List.getElem?_eq_getElem hil], ⟨⟨n, elems[i].2, htr⟩, fun m hm' => hw m ?_⟩, hlen2, fun j u hu' => ?_⟩
      · exact World.block_lt_of_cell? W _ hc0
      · simp only [DataW.weights, hu]
        refine List.mem_cons_of_mem _ (List.mem_append_left _ (weightsAll_get (j := i) (by simp [List.getElem?_eq_getElem hil]) m hm'))
      · have hj : j < P.cellsOf e := by
          have := (List.getElem?_eq_some_iff.1 hu').1
          omega
        have := hcells.2 j hj
        rw [hadd, hu'] at this
        exact this

/-- A slice of bytes. -/
theorem Tr.bytes {t e : TypeId} {cs : List Value} {d : DataW H} (hu : P.underlying t = some (.slice e)) (he : P.underlying e = some (.int .u8)) (hc1 : P.cellsOf e = 1) (hb1 : P.bytesOf e = 1) (h : Tr enc P W t cs d) :
    ∃ A n c l, cs = [.slice A n c] ∧ Rd W A n c l ∧ n ≤ 140737488351232 ∧ (0 < n → ∀ b, b ∈ ob A → b < W.heap.size) ∧ (∃ ds sp, ds.length = n ∧ (d = .slice ds sp ∨ d = .nil ∧ n = 0)) := by
  obtain ⟨A, n, c, ds, sp, rfl, hlen, hnc, hcm, hby, hd, hel⟩ := h.slice hu (by omega)
  rw [hc1] at hel
  rw [hb1, Nat.mul_one] at hby
  have each : ∀ i, i < n → ∃ (x : UInt8) (b off : Nat), A = some ⟨b, off, none⟩ ∧ b < W.heap.size ∧ W.cell? ⟨b, off + i, none⟩ = some (u8 x) := by
    intro i hi
    obtain ⟨b, off, es, di, hA, hlt, _, htr, _, hcell⟩ := hel i hi
    obtain ⟨m, rfl, _, hwf⟩ := htr.int he
    have hm : 0 ≤ m ∧ m < 256 := by
      simp [Lit.wf, IntKind.min, IntKind.max, IntKind.signed, IntKind.bits] at hwf
      omega
    refine ⟨UInt8.ofNat m.toNat, b, off, hA, hlt, ?_⟩
    have := hcell 0 _ rfl
    simp only [Nat.mul_one, Nat.add_zero] at this
    rw [this, u8]
    congr 2
    simp
    omega
  refine ⟨A, n, c, (List.range n).map fun i => if h : i < n then (each i h).choose else 0, rfl, ⟨by simp, hnc, fun hp => ?_⟩, hby, fun hn b hb => ?_, ds, sp, hlen, ?_⟩
  · have hn : 0 < n := by simpa using hp
    obtain ⟨_, b, off, rfl, hlt, _⟩ := each 0 hn
    refine ⟨b, off, rfl, fun j u hu' => ?_⟩
    have hj : j < n := by
      have := (List.getElem?_eq_some_iff.1 hu').1
      simpa using this
    obtain ⟨b', off', hA', _, hcell'⟩ := (each j hj).choose_spec
    have e1 : b' = b ∧ off' = off := by
      injection hA' with h1
      injection h1 with h2 h3 _
      exact ⟨h2.symm, h3.symm⟩
    rw [e1.1, e1.2] at hcell'
    rw [hcell', ← hu']
    simp [hj]
  · obtain ⟨_, b', off, rfl, hlt, _⟩ := each 0 hn
    obtain rfl : b = b' := by simpa [ob] using hb
    exact hlt
  · rcases hd with h1 | ⟨h1, h2⟩
    · exact .inl h1
    · subst h2
      exact .inr ⟨h1, hlen.symm⟩

/-! ### the row's end -/
theorem trodAll_below {W' : World} (hl : laidOutB P = true) (hb : Below W.heap.size W W') : ∀ {ts : List TypeId} {vs : List Value} {ds : List (DataW H)} {ps : List MemPlace},
    ts.all (fun t => P.readableRec t && decide (t < P.types.size)) = true → DataW.TrodAll enc P W 0 (fun _ => true) true ts vs ds ps → DataW.TrodAll enc P W' 0 (fun b => decide (b < W.heap.size)) true ts vs ds ps
  | [], [], [], _, _, h => h
  | [], [], _ :: _, _, _, h => h.elim
  | [], _ :: _, _, _, _, h => h.elim
  | _ :: _, [], _, _, _, h => h.elim
  | _ :: _, _ :: _, [], _, _, h => h.elim
  | t :: ts, v :: vs, d :: ds, ps, hr, h => by
    simp only [List.all_cons, Bool.and_eq_true, decide_eq_true_eq] at hr
    obtain ⟨p, q, h1, h2, e⟩ := h
    have hlt : ∀ x ∈ p, x.block < W.heap.size := by obtain ⟨m, hm⟩ := h1; exact DataW.trod_lt m _ _ _ hm
    exact ⟨p, q, Below.trod hl hr.1.1 hr.1.2 h1 hb hlt, trodAll_below hl hb hr.2 h2, e⟩
end
end Go.Proofs.Ytibeaombhjdakaa
