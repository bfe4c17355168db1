/- Headers: their cells; slices of them that are read; copy of them. -/
import Derived.Test.YtkmcakneceagpaaRingR
set_option linter.unusedVariables false
set_option linter.unusedSimpArgs false
namespace Go.Proofs.Ytkmcakneceagpaa
open Go.RowKit
abbrev Hdr := ByteArray × ByteArray × Bool
def hcell (h : Hdr) : List Value := [.string h.1, .string h.2.1, .bool h.2.2]
def hcells (l : List Hdr) : List Value := l.flatMap hcell
theorem hcells_len (l : List Hdr) : (hcells l).length = l.length * 3 := by
  induction l with
  | nil => rfl
  | cons h r ih => simp only [hcells, List.flatMap_cons, List.length_append] at ih ⊢; rw [ih]; simp [hcell]; omega
theorem hcells_one (l : List Hdr) : ∀ u ∈ hcells l, u.oneCell' = true := by
  intro u hu
  simp only [hcells, List.mem_flatMap, hcell] at hu
  obtain ⟨h, _, hu⟩ := hu
  simp at hu
  rcases hu with rfl | rfl | rfl <;> rfl
theorem hcells_get (l : List Hdr) : ∀ (i : Nat), i < l.length → (hcells l)[i * 3]? = some (.string (l.getD i default).1) ∧ (hcells l)[i * 3 + 1]? = some (.string (l.getD i default).2.1) ∧ (hcells l)[i * 3 + 2]? = some (.bool (l.getD i default).2.2) := by
  induction l with
  | nil => intro i hi; simp at hi
  | cons h r ih =>
    intro i hi
    cases i with
    | zero => simp [hcells, hcell]
    | succ i =>
      have h1 := ih i (by simpa using hi)
      have e : hcells (h :: r) = [.string h.1, .string h.2.1, .bool h.2.2] ++ hcells r := rfl
      rw [e]
      rw [List.getElem?_append_right (by simp; omega), List.getElem?_append_right (by simp; omega), List.getElem?_append_right (by simp; omega)]
      simp only [List.length_cons, List.length_nil, List.getD_cons_succ]
      rw [show (i + 1) * 3 - (0 + 1 + 1 + 1) = i * 3 by omega, show (i + 1) * 3 + 1 - (0 + 1 + 1 + 1) = i * 3 + 1 by omega, show (i + 1) * 3 + 2 - (0 + 1 + 1 + 1) = i * 3 + 2 by omega]
      exact h1
/-- A slice of headers: n of them, hs. -/
structure Hd (w : World) (A : Option Addr) (n c : Nat) (hs : List Hdr) : Prop where
  len : hs.length = n
  cap : n ≤ c
  at_ : At w A (hcells hs)
theorem Hd.keep {S : List Nat} {w w' : World} {A : Option Addr} {n c : Nat} {hs : List Hdr} (h : Hd w A n c hs) (k : Kp S w w') (hS : 0 < n → ∀ b, b ∈ ob A → b ∉ S) : Hd w' A n c hs :=
  ⟨h.len, h.cap, h.at_.keep k (fun hp => hS (by have := h.len; rw [hcells_len] at hp; omega))⟩
theorem Hd.nil (w : World) (A : Option Addr) (c : Nat) : Hd w A 0 c [] := ⟨rfl, Nat.zero_le _, At.nil _ _⟩
theorem Hd.addr {w : World} {A : Option Addr} {n c : Nat} {hs : List Hdr} (h : Hd w A n c hs) (hn : 0 < n) : ∃ b off, A = some ⟨b, off, none⟩ ∧ b < w.heap.size ∧ ∀ i, i < n → w.cell? ⟨b, off + i * 3, none⟩ = some (.string (hs.getD i default).1) ∧ w.cell? ⟨b, off + i * 3 + 1, none⟩ = some (.string (hs.getD i default).2.1) ∧ w.cell? ⟨b, off + i * 3 + 2, none⟩ = some (.bool (hs.getD i default).2.2) := by
  obtain ⟨b, off, rfl, hc⟩ := h.at_ (by rw [hcells_len, h.len]; omega)
  have hg := fun i hi => hcells_get hs i (by rw [h.len]; exact hi)
  refine ⟨b, off, rfl, World.block_lt_of_cell? w _ (hc 0 _ (by simpa using (hg 0 hn).1)), fun i hi => ⟨hc _ _ (hg i hi).1, ?_, ?_⟩⟩
  · have := hc _ _ (hg i hi).2.1
    rwa [← Nat.add_assoc] at this
  · have := hc _ _ (hg i hi).2.2
    rwa [← Nat.add_assoc] at this
theorem Hd.lt {w : World} {A : Option Addr} {n c : Nat} {hs : List Hdr} (h : Hd w A n c hs) : 0 < n → ∀ b, b ∈ ob A → b < w.heap.size := by
  intro hn b hb
  obtain ⟨b', off, rfl, hl, _⟩ := h.addr hn
  simp [ob] at hb
  omega
theorem Ow.hd {w : World} {base : Nat} {e : TypeId} {A : Option Addr} {n c : Nat} {hs : List Hdr} (h : Ow w base e 3 A n c (hcells hs)) : Hd w A n c hs :=
  ⟨by have := h.len; rw [hcells_len] at this; omega, h.cap.1, h.at_⟩
theorem Try.infoHd : (Try.prog.info? 179).map (fun i => (i.zero, i.size, i.bytes)) = some (some (.agg #[.string ⟨#[]⟩, .string ⟨#[]⟩, .bool false]), 3, 40) := by kernel_rfl
/-- copy of elements of several cells -/
theorem run_copy_rows {P : Program} (w : World) (dT sT ty elem : TypeId) (g o dLen dCap : Nat) (sp : Option Addr) (sLen sCap : Nat) (cur : Array Value) (t : TypeId) (size : Nat) (cs : List Value)
    (hu : P.underlying dT = some (.slice elem)) (hs : (P.info? elem).map (·.size) = some size)
    (hg : w.heap[g]? = some (.cells cur t (0, 0))) (hn : cs.length = Nat.min sLen dLen * size)
    (hsrc : At w sp cs) (hfit : o + cs.length ≤ cur.size) (h1 : ∀ v ∈ cs, v.oneCell' = true) :
    (Builtin.copy_ #[dT, sT] ty #[.slice (some ⟨g, o, none⟩) dLen dCap, .slice sp sLen sCap]).run P w =
      .ok (goInt (Nat.min sLen dLen)) (w.setRow g (cur.toList.take o ++ cs ++ cur.toList.drop (o + cs.length)).toArray) := by
  have hst := run_storeCells_at P g o t cs 0 cur w hg (by simpa using hfit) h1
  cases hq : P.info? elem with
  | none => simp [hq] at hs
  | some i =>
    have hi : i.size = size := by simpa [hq] using hs
    by_cases h0 : cs = []
    · subst h0
      simp only [List.length_nil] at hn
      cases sp with
      | none => simp [Builtin.copy_, run_underlying hu, Builtin.lenOf, Builtin.firstCells, sizeOf, typeInfo, hq, hi, ← hn, loadCells, loadCellsFrom, storeCells, setRow_self w g cur t (0, 0) hg]
      | some a => simp [Builtin.copy_, run_underlying hu, Builtin.lenOf, Builtin.firstCells, sizeOf, typeInfo, hq, hi, ← hn, loadCells, loadCellsFrom, storeCells, setRow_self w g cur t (0, 0) hg]
    · obtain ⟨b, off, rfl, hc⟩ := hsrc (List.length_pos_iff.2 h0)
      have hl := run_loadCells_list (P := P) w ⟨b, off, none⟩ cs (fun j v hv => by
        have hadd : (⟨b, off, none⟩ : Addr).add j = ⟨b, off + j, none⟩ := by unfold Addr.add; split <;> simp_all
        rw [hadd]
        exact hc j v hv)
      simp [Builtin.copy_, run_underlying hu, Builtin.lenOf, Builtin.firstCells, sizeOf, typeInfo, hq, hi, ← hn, hl, hst]
theorem wp_copyRows {P : Program} {w : World} {ops : Array Oper} {rest : List Oper} {o : Oper} {a : Act} {Q : Exit → Act → World → Prop} (hgd : o.guard = none) (d s : Operand) (dT elem : TypeId) (size : Nat)
    (ho : o.op = .call { callee := .builtin .copy, args := #[d, s], argTypes := #[dT, dT] }) (hu : P.underlying dT = some (.slice elem)) (hsz : (P.info? elem).map (·.size) = some size)
    (g off dLen dCap : Nat) (sp : Option Addr) (sLen sCap : Nat) (hd : a.eval d = .slice (some ⟨g, off, none⟩) dLen dCap) (hs : a.eval s = .slice sp sLen sCap)
    (cur : Array Value) (t : TypeId) (hg : w.heap[g]? = some (.cells cur t (0, 0))) (cs : List Value) (hn : cs.length = Nat.min sLen dLen * size)
    (hsrc : At w sp cs) (hfit : off + cs.length ≤ cur.size) (h1 : ∀ v ∈ cs, v.oneCell' = true)
    (h : wpList P ops Q rest (a.put o.dst (goInt (Nat.min sLen dLen))) (w.setRow g (cur.toList.take off ++ cs ++ cur.toList.drop (off + cs.length)).toArray)) : wpList P ops Q (o :: rest) a w := by
  refine wpList_plain hgd fun K hK => ?_
  have hrun := run_copy_rows (P := P) w dT dT o.type elem g off dLen dCap sp sLen sCap cur t size cs hu hsz hg hn hsrc hfit h1
  unfold Oper.wp
  simp only [execOp, ho, resolve, invoke, builtin, hd, hs, hrun, Sem.run_bind, Sem.run_pure, Result.andThen_ok, List.map_toArray, List.map_cons, List.map_nil]
  exact hK _ _ h
/-- 'headers' of the same headers -/
theorem headers_any {w : World} {A B : Option Addr} {n c d : Nat} {hs : List Hdr} (h1 : Hd w A n c hs) (h2 : Hd w B n d hs) (hn : n ≤ 140737488351232) : Calls Try.prog 90 #[.slice A n c, .slice B n d] w fun e w' => e = .returned (.bool true) ∧ Kp [] w w' := by
  have H1 := Lib.hid h1
  have H2 := Lib.hid h2
  clear h1 h2
  go_enter Try.func90, Try.ntmps90
  go_wp2
  go_loopw [5] (fun i wr => ∃ k : Nat, k ≤ n ∧ i = .int .i64 k ∧ Kp [] w wr) (fun i _ => n - (intOf i).toNat)
  case atStart => exact ⟨0, Nat.zero_le _, rfl, Kp.refl _ _⟩
  case round =>
    obtain ⟨k, hk, rfl, hK⟩ := hrel
    by_cases hkl : k < n
    · obtain ⟨b1, o1, rfl, _, hc1⟩ := (H1.out.keep hK (by simp)).addr (by omega)
      obtain ⟨b2, o2, rfl, _, hc2⟩ := (H2.out.keep hK (by simp)).addr (by omega)
      obtain ⟨a0, a1, a2⟩ := hc1 k hkl
      obtain ⟨b0, b1', b2'⟩ := hc2 k hkl
      have HK := Lib.hid hK
      clear hK hc1 hc2
      generalize hs.getD k default = x at *
      obtain ⟨x1, x2, x3⟩ := x
      simp only at a0 a1 a2 b0 b1' b2'
      have hki : (k : Int) < (n : Int) := by omega
      go_wp2
      go_quiet (fail)
      go_wp2
      go_roundw
      case rel => exact ⟨k + 1, by omega, by go_num, HK.out.drewN _⟩
      case measure => simp [intOf]; omega
    · go_wp2
      go_ret
      exact ⟨rfl, hK⟩
end Go.Proofs.Ytkmcakneceagpaa
