/- Words on memory for all walks of this seat, over any program: what a call keeps ('Kp'), byte slices that are read ('Rd'), rows of the call's own ('Ow'), and append, as laws for the walk. -/
import Derived.WalkKit
import Derived.Lib.Hide
import Derived.Deep.QuietTactic
import Derived.BigQuiet
import Derived.Deep.DeepAppendWide
import Derived.Laws.BytesArg
set_option linter.unusedVariables false
namespace Go.Proofs.Ytibeaombhjdakaa
open Go.RowKit

/-! ### worlds -/

/-- All blocks of w stand in w' but those of S. -/
structure Kp (S : List Nat) (w w' : World) : Prop where
  os : w'.os = w.os
  tape : w'.tape = w.tape
  output : w'.output = w.output
  size : w.heap.size ≤ w'.heap.size
  block : ∀ k, k < w.heap.size → k ∉ S → w'.heap[k]? = w.heap[k]?

theorem Kp.refl (S : List Nat) (w : World) : Kp S w w := ⟨rfl, rfl, rfl, Nat.le_refl _, fun _ _ _ => rfl⟩
theorem Kp.trans {S : List Nat} {a b c : World} (h : Kp S a b) (k : Kp S b c) : Kp S a c :=
  ⟨k.os.trans h.os, k.tape.trans h.tape, k.output.trans h.output, Nat.le_trans h.size k.size, fun i hi hn => (k.block i (Nat.lt_of_lt_of_le hi h.size) hn).trans (h.block i hi hn)⟩
/-- the second step turns blocks of S and new ones alone -/
theorem Kp.then {S T : List Nat} {a b c : World} (h : Kp S a b) (k : Kp T b c) (hT : ∀ t, t ∈ T → t ∈ S ∨ a.heap.size ≤ t) : Kp S a c :=
  ⟨k.os.trans h.os, k.tape.trans h.tape, k.output.trans h.output, Nat.le_trans h.size k.size, fun i hi hn =>
    (k.block i (Nat.lt_of_lt_of_le hi h.size) (fun ht => (hT i ht).elim hn (fun h1 => by omega))).trans (h.block i hi hn)⟩
theorem Kp.mono {S T : List Nat} {w w' : World} (h : Kp S w w') (hS : ∀ s, s ∈ S → s ∈ T ∨ w.heap.size ≤ s) : Kp T w w' :=
  ⟨h.os, h.tape, h.output, h.size, fun i hi hn => h.block i hi (fun hs => (hS i hs).elim hn (fun h1 => by omega))⟩
theorem Kp.nil {S : List Nat} {w w' : World} (h : Kp [] w w') : Kp S w w' := h.mono (fun _ hs => by cases hs)
theorem Kp.drew {S : List Nat} {a w : World} (h : Kp S a w) : Kp S a w.drew := ⟨h.os, h.tape, h.output, h.size, h.block⟩
theorem Kp.drewN {S : List Nat} {a w : World} (h : Kp S a w) (n : Nat) : Kp S a (w.drewN n) := ⟨h.os, h.tape, h.output, h.size, h.block⟩
theorem Kp.alloc {S : List Nat} {a w : World} (h : Kp S a w) (o : Obj) : Kp S a (w.alloc o) :=
  ⟨h.os, h.tape, h.output, by have := h.size; simp; omega, fun i hi hn => (Below.heap_alloc _ _ _ (Nat.lt_of_lt_of_le hi h.size)).trans (h.block i hi hn)⟩
theorem Kp.setCell {S : List Nat} {a w : World} (h : Kp S a w) {p : Addr} (hp : p.block ∈ S ∨ a.heap.size ≤ p.block) (u : Value) : Kp S a (w.setCell p u) :=
  ⟨h.os, h.tape, h.output, by have := h.size; simpa using this, fun i hi hn =>
    (Below.heap_setCell _ _ _ _ (fun e => hp.elim (fun h1 => hn (by rw [e]; exact h1)) (fun h1 => by omega))).trans (h.block i hi hn)⟩
theorem Kp.setRow {S : List Nat} {a w : World} (h : Kp S a w) {g : Nat} (hp : g ∈ S ∨ a.heap.size ≤ g) (cs : Array Value) : Kp S a (w.setRow g cs) :=
  ⟨h.os, h.tape, h.output, by have := h.size; simpa using this, fun i hi hn =>
    (setRow_other w g i cs (fun e => hp.elim (fun h1 => hn (by rw [e]; exact h1)) (fun h1 => by omega))).trans (h.block i hi hn)⟩
theorem Kp.below {w w' : World} (h : Kp [] w w') : Below w.heap.size w w' := ⟨h.os, h.tape, h.output, h.size, fun k hk => h.block k hk (by simp)⟩
theorem Kp.ofBelow {w w' : World} (h : Below w.heap.size w w') : Kp [] w w' := ⟨h.os, h.tape, h.output, h.size, fun k hk _ => h.block k hk⟩
/-- over a bound: all that is turned lies from B on -/
theorem Kp.belowAt {S : List Nat} {B : Nat} {w w' : World} (h : Kp S w w') (hS : ∀ s, s ∈ S → B ≤ s) (hB : B ≤ w.heap.size) : Below B w w' :=
  ⟨h.os, h.tape, h.output, h.size, fun k hk => h.block k (by omega) (fun hs => by have := hS k hs; omega)⟩
theorem Kp.cell {S : List Nat} {w w' : World} (h : Kp S w w') {p : Addr} {v : Value} (hc : w.cell? p = some v) (hp : p.block ∉ S) : w'.cell? p = some v :=
  (World.cell?_of_block (w := w) (h.block p.block (World.block_lt_of_cell? w p hc) hp)).trans hc
theorem Kp.heap {S : List Nat} {w w' : World} (h : Kp S w w') {g : Nat} {o : Obj} (hg : w.heap[g]? = some o) (hp : g ∉ S) : w'.heap[g]? = some o :=
  (h.block g (Array.getElem?_eq_some_iff.1 hg).1 hp).trans hg

theorem lt_of_heap {w : World} {g : Nat} {o : Obj} (hg : w.heap[g]? = some o) : g < w.heap.size := (Array.getElem?_eq_some_iff.1 hg).1
theorem cell_of {w : World} {g : Nat} {cs : Array Value} {t : TypeId} {fr : Nat × Nat} (hg : w.heap[g]? = some (.cells cs t fr)) (j : Nat) : w.cell? ⟨g, j, none⟩ = cs[j]? := cell_of_row w g j cs t fr hg
theorem frozen_of {w : World} {g : Nat} {cs : Array Value} {t : TypeId} (hg : w.heap[g]? = some (.cells cs t (0, 0))) (j : Nat) : w.frozen? ⟨g, j, none⟩ = false := frozen_of_row w g j cs t hg

/-- blocks, for simp -/
theorem hp_new (w : World) (o : Obj) (n : Nat) (h : n = w.heap.size) : (w.alloc o).heap[n]? = some o := by subst h; exact heap_alloc_new w o
theorem hp_old (w : World) (o : Obj) (n : Nat) (h : n < w.heap.size) : (w.alloc o).heap[n]? = w.heap[n]? := Below.heap_alloc w o n h
theorem hp_set (w : World) (g i : Nat) (v : Value) (cs : Array Value) (t : TypeId) (h : w.heap[g]? = some (.cells cs t (0, 0))) : (w.setCell ⟨g, i, none⟩ v).heap[g]? = some (.cells (cs.setIfInBounds i v) t (0, 0)) := heap_setCell_same w g i cs t v h
theorem hp_far (w : World) (a : Addr) (v : Value) (n : Nat) (h : n ≠ a.block) : (w.setCell a v).heap[n]? = w.heap[n]? := Below.heap_setCell w a v n h
theorem hp_drew (w : World) (n : Nat) : w.drew.heap[n]? = w.heap[n]? := rfl
theorem hp_drewN (w : World) (k n : Nat) : (w.drewN k).heap[n]? = w.heap[n]? := rfl

/-! ### bytes -/

/-- a byte's value -/
def u8 (b : UInt8) : Value := .int .u8 (b.toNat : Int)
theorem u8_one (l : List UInt8) : ∀ u ∈ l.map u8, u.oneCell' = true := by
  intro u hu
  obtain ⟨_, _, rfl⟩ := List.mem_map.1 hu
  rfl
/-- the block of an address -/
def ob (A : Option Addr) : List Nat := match A with | some a => [a.block] | none => []

/-- Cells xs stand at A, one behind the other. -/
def At (w : World) (A : Option Addr) (xs : List Value) : Prop :=
  0 < xs.length → ∃ b off, A = some ⟨b, off, none⟩ ∧ ∀ j u, xs[j]? = some u → w.cell? ⟨b, off + j, none⟩ = some u
theorem At.nil (w : World) (A : Option Addr) : At w A [] := fun h => by simp at h
theorem At.keep {S : List Nat} {w w' : World} {A : Option Addr} {xs : List Value} (h : At w A xs) (k : Kp S w w') (hS : 0 < xs.length → ∀ b, b ∈ ob A → b ∉ S) : At w' A xs := by
  intro hp
  obtain ⟨b, off, rfl, hc⟩ := h hp
  exact ⟨b, off, rfl, fun j u hu => k.cell (hc j u hu) (hS hp b (by simp [ob]))⟩
theorem At.below {B : Nat} {w w' : World} {A : Option Addr} {xs : List Value} (h : At w A xs) (k : Below B w w') (hB : ∀ b, b ∈ ob A → b < B) : At w' A xs := by
  intro hp
  obtain ⟨b, off, rfl, hc⟩ := h hp
  exact ⟨b, off, rfl, fun j u hu => (k.cell (p := ⟨b, off + j, none⟩) (hB b (by simp [ob]))).trans (hc j u hu)⟩
theorem At.lt {w : World} {A : Option Addr} {xs : List Value} (h : At w A xs) (hp : 0 < xs.length) : ∀ b, b ∈ ob A → b < w.heap.size := by
  obtain ⟨b, off, rfl, hc⟩ := h hp
  intro b' hb'
  obtain rfl : b' = b := by simpa [ob] using hb'
  exact World.block_lt_of_cell? w _ (hc 0 _ (List.getElem?_eq_getElem hp))

/-- A slice of bytes: n of them, l. -/
structure Rd (w : World) (A : Option Addr) (n c : Nat) (l : List UInt8) : Prop where
  len : l.length = n
  cap : n ≤ c
  at_ : At w A (l.map u8)
theorem Rd.nil (w : World) (A : Option Addr) (c : Nat) : Rd w A 0 c [] := ⟨rfl, Nat.zero_le _, At.nil _ _⟩
theorem Rd.keep {S : List Nat} {w w' : World} {A : Option Addr} {n c : Nat} {l : List UInt8} (h : Rd w A n c l) (k : Kp S w w') (hS : 0 < n → ∀ b, b ∈ ob A → b ∉ S) : Rd w' A n c l :=
  ⟨h.len, h.cap, h.at_.keep k (fun hp => hS (by simpa [h.len] using hp))⟩
theorem Rd.below {B : Nat} {w w' : World} {A : Option Addr} {n c : Nat} {l : List UInt8} (h : Rd w A n c l) (k : Below B w w') (hB : ∀ b, b ∈ ob A → b < B) : Rd w' A n c l := ⟨h.len, h.cap, h.at_.below k hB⟩
/-- where there is a byte there is an address -/
theorem Rd.addr {w : World} {A : Option Addr} {n c : Nat} {l : List UInt8} (h : Rd w A n c l) (hn : 0 < n) :
    ∃ b off, A = some ⟨b, off, none⟩ ∧ b < w.heap.size ∧ ∀ j, j < n → w.cell? ⟨b, off + j, none⟩ = some (.int .u8 ((l.getD j 0).toNat : Int)) := by
  have hl : 0 < (l.map u8).length := by simpa [h.len] using hn
  obtain ⟨b, off, rfl, hc⟩ := h.at_ hl
  have hcell : ∀ j, j < n → w.cell? ⟨b, off + j, none⟩ = some (.int .u8 ((l.getD j 0).toNat : Int)) := by
    intro j hj
    have hj' : j < l.length := by have := h.len; omega
    refine hc j _ ?_
    simp [u8, List.getElem?_eq_getElem hj', List.getD_eq_getElem?_getD]
  exact ⟨b, off, rfl, World.block_lt_of_cell? w _ (hcell 0 hn), hcell⟩
theorem map_slice {α β : Type} (f : α → β) (l : List α) (i j : Nat) : ((l.drop i).take j).map f = ((l.map f).drop i).take j := by simp
/-- a part of it: 'b[i:j]' -/
theorem Rd.sub {w : World} {A : Option Addr} {n c : Nat} {l : List UInt8} (h : Rd w A n c l) (i j : Nat) (hij : i ≤ j) (hj : j ≤ n) {A' : Option Addr} (hA : ∀ b off, A = some ⟨b, off, none⟩ → ¬ c = i → A' = some ⟨b, off + i, none⟩) :
    Rd w A' (j - i) (c - i) ((l.drop i).take (j - i)) := by
  have hl := h.len
  have hc := h.cap
  refine ⟨by simp; omega, by omega, fun hp => ?_⟩
  have hp' : 0 < j - i ∧ i < l.length := by simp at hp; omega
  obtain ⟨b, off, rfl, hcell⟩ := h.at_ (by simp; omega)
  refine ⟨b, off + i, hA b off rfl (by omega), fun k u hu => ?_⟩
  rw [map_slice, List.getElem?_take] at hu
  split at hu
  · rw [List.getElem?_drop] at hu
    have := hcell (i + k) u hu
    rwa [← Nat.add_assoc] at this
  · cases hu

/-! ### rows of the call's own -/

/-- The slice '.slice A n c' is a row of the call's own, in a block from 'base' on (or nil); its cells are xs. -/
def Ow (w : World) (base : Nat) (e : TypeId) (size : Nat) (A : Option Addr) (n c : Nat) (xs : List Value) : Prop := w.ownsRow base e size (.slice A n c) n xs
theorem Ow.nil (w : World) (base : Nat) (e : TypeId) (size : Nat) : Ow w base e size none 0 0 [] := World.ownsRow_nil w base e size
theorem Ow.base {w : World} {base n c size : Nat} {e : TypeId} {A : Option Addr} {xs : List Value} (h : Ow w base e size A n c xs) : ∀ b, b ∈ ob A → base ≤ b ∧ b < w.heap.size := by
  intro b hb
  cases A with
  | none => simp [ob] at hb
  | some a =>
    obtain rfl : b = a.block := by simpa [ob] using hb
    exact World.ownsRow.lt h a.block rfl
theorem Ow.keep {S : List Nat} {w w' : World} {base n c size : Nat} {e : TypeId} {A : Option Addr} {xs : List Value} (h : Ow w base e size A n c xs) (k : Kp S w w') (hS : ∀ b, b ∈ ob A → b ∉ S) : Ow w' base e size A n c xs := by
  refine ⟨h.1, ?_⟩
  rcases h.2 with hn | ⟨g, cap, cur, he, hb, hg, rest⟩
  · exact .inl hn
  · refine .inr ⟨g, cap, cur, he, hb, ?_, rest⟩
    injection he with he
    subst he
    exact k.heap hg (hS g (by simp [ob]))
theorem Ow.len {w : World} {base n c size : Nat} {e : TypeId} {A : Option Addr} {xs : List Value} (h : Ow w base e size A n c xs) : xs.length = n * size := h.1
theorem Ow.cap {w : World} {base n c size : Nat} {e : TypeId} {A : Option Addr} {xs : List Value} (h : Ow w base e size A n c xs) : n ≤ c ∧ c ≤ maxLen := by
  rcases h.2 with ⟨he, rfl⟩ | ⟨g, cap, cur, he, _, _, h1, h2, _⟩
  · exact ⟨Nat.zero_le _, by injection he with _ _ hc; subst hc; simp [maxLen]⟩
  · injection he with _ _ hc
    subst hc
    exact ⟨h1, h2⟩
theorem Ow.at_ {w : World} {base n c size : Nat} {e : TypeId} {A : Option Addr} {xs : List Value} (h : Ow w base e size A n c xs) : At w A xs := by
  intro hp
  rcases h.2 with ⟨he, hn⟩ | ⟨g, cap, cur, he, _, hg, _⟩
  · have := h.1; simp [hn] at this; simp [this] at hp
  · injection he with he
    subst he
    refine ⟨g, 0, rfl, fun j u hu => ?_⟩
    have := World.ownsRow.cells h (g := g) rfl j u hu
    have hadd : (⟨g, 0, none⟩ : Addr).add j = ⟨g, 0 + j, none⟩ := by unfold Addr.add; split <;> simp_all
    rwa [hadd] at this
/-- its head stands at the beginning of its block -/
theorem Ow.head {w : World} {base n c size : Nat} {e : TypeId} {A : Option Addr} {xs : List Value} (h : Ow w base e size A n c xs) : (A = none ∧ n = 0 ∧ c = 0) ∨ ∃ g, A = some ⟨g, 0, none⟩ ∧ base ≤ g ∧ g < w.heap.size := by
  rcases h.2 with ⟨he, hn⟩ | ⟨g, cap, cur, he, hb, hg, _⟩
  · injection he with h1 h2 h3
    exact .inl ⟨h1, hn, h3⟩
  · injection he with he
    exact .inr ⟨g, he, hb, lt_of_heap hg⟩
theorem Ow.mono {w : World} {base base' n c size : Nat} {e : TypeId} {A : Option Addr} {xs : List Value} (h : Ow w base e size A n c xs) (hb : base' ≤ base) : Ow w base' e size A n c xs := by
  refine ⟨h.1, ?_⟩
  rcases h.2 with h2 | ⟨g, cap, cur, he, hg, rest⟩
  · exact .inl h2
  · exact .inr ⟨g, cap, cur, he, by omega, rest⟩
/-- A row of bytes of the call's own: read. -/
theorem Ow.rd {w : World} {base n c : Nat} {e : TypeId} {A : Option Addr} {l : List UInt8} (h : Ow w base e 1 A n c (l.map u8)) : Rd w A n c l :=
  ⟨by have := h.len; simpa using this, h.cap.1, h.at_⟩
/-- a new block that is a row whole -/
theorem Ow.new (w : World) (base : Nat) (e : TypeId) (cs : List Value) (size n : Nat) (hb : base ≤ w.heap.size) (hl : cs.length = n * size) (hm : n ≤ maxLen) :
    Ow (w.alloc (.cells cs.toArray e)) base e size (some ⟨w.heap.size, 0, none⟩) n n cs :=
  ⟨hl, .inr ⟨w.heap.size, n, cs.toArray, rfl, hb, heap_alloc_new w _, Nat.le_refl _, hm, by simpa using hl, by rw [List.take_of_length_le (by simp [hl])]⟩⟩

/-- what stands in a block from off on -/
theorem At.block {w : World} {g : Nat} {cs : Array Value} {t : TypeId} {fr : Nat × Nat} (hg : w.heap[g]? = some (.cells cs t fr)) (off : Nat) (xs : List Value) (h : (cs.toList.drop off).take xs.length = xs) : At w (some ⟨g, off, none⟩) xs := by
  intro hp
  refine ⟨g, off, rfl, fun j u hu => ?_⟩
  rw [cell_of hg]
  rw [← h, List.getElem?_take] at hu
  split at hu
  · rw [List.getElem?_drop] at hu
    simpa using hu
  · cases hu
theorem Rd.block {w : World} {g : Nat} {cs : Array Value} {t : TypeId} {fr : Nat × Nat} (hg : w.heap[g]? = some (.cells cs t fr)) (off n c : Nat) (l : List UInt8) (hn : l.length = n) (hc : n ≤ c) (h : (cs.toList.drop off).take n = l.map u8) : Rd w (some ⟨g, off, none⟩) n c l :=
  ⟨hn, hc, At.block hg off _ (by simpa [hn] using h)⟩

/-! ### what a call gives -/

/-- a slice of bytes l that lies in new memory, without room behind it -/
def RdR (l : List UInt8) (w : World) (en : Ending) (w' : World) : Prop :=
  ∃ A n, en = .returned (.slice A n n) ∧ Rd w' A n n l ∧ (∀ b, b ∈ ob A → w.heap.size ≤ b) ∧ Kp [] w w'
/-- the same, and an error's number -/
def RdE (l : List UInt8) (er : Int) (w : World) (en : Ending) (w' : World) : Prop :=
  ∃ A n, en = .returned (.tuple #[.slice A n n, .int .i64 er]) ∧ Rd w' A n n l ∧ (∀ b, b ∈ ob A → w.heap.size ≤ b) ∧ Kp [] w w'
/-- a row of bytes of the call's own -/
def OwR (e : TypeId) (l : List UInt8) (w : World) (en : Ending) (w' : World) : Prop :=
  ∃ A n c, en = .returned (.slice A n c) ∧ Ow w' w.heap.size e 1 A n c (l.map u8) ∧ Kp [] w w'
def OwE (e : TypeId) (l : List UInt8) (er : Int) (w : World) (en : Ending) (w' : World) : Prop :=
  ∃ A n c, en = .returned (.tuple #[.slice A n c, .int .i64 er]) ∧ Ow w' w.heap.size e 1 A n c (l.map u8) ∧ Kp [] w w'

/-! ### append -/

/-- append onto a row of the call's own of what stands at an address: room or not. -/
theorem run_app {P : Program} (w : World) (t ty e : TypeId) (z : Value) (size bytes : Nat) (ht : P.underlying t = some (.slice e)) (hi : (P.info? e).map (fun i => (i.zero, i.size, i.bytes)) = some (some z, size, bytes))
    (hzs : z.cells.size = size) (hsz : 0 < size) (base : Nat) (A : Option Addr) (n c : Nat) (xs : List Value) (HO : Ow w base e size A n c xs) (A2 : Option Addr) (m c2 : Nat) (ys : List Value) (hl : ys.length = m * size)
    (HR : At w A2 ys) (h1 : ∀ u ∈ ys, u.oneCell' = true) (h63 : n + m ≤ maxLen) (hbytes : ((n + m) + (n + m) / 4 + 192) * bytes ≤ 281474976710656) (hbase : base ≤ w.heap.size) :
    ∃ A' c' w', (Builtin.append_ #[t, t] ty #[.slice A n c, .slice A2 m c2]).run P w = .ok (.slice A' (n + m) c') w' ∧ Ow w' base e size A' (n + m) c' (xs ++ ys) ∧ Kp (ob A) w w' ∧
      (A' = A ∨ A' = some ⟨w.heap.size, 0, none⟩) ∧ (0 < n → A' ≠ none) := by
  obtain ⟨i, hi, hz, hsize, hby⟩ := info_parts hi
  have hsmall : n + m ≤ 9223372036854775807 := by simp only [maxLen] at h63; omega
  have hlen : (xs ++ ys).length = (n + m) * size := by rw [List.length_append, HO.len, hl, Nat.add_mul]
  by_cases hm : m = 0
  · -- nothing is appended
    subst hm
    obtain rfl : ys = [] := List.eq_nil_of_length_eq_zero (by simpa using hl)
    refine ⟨A, c, w, ?_, by simpa using HO, Kp.refl _ _, .inl rfl, fun hn => ?_⟩
    · have hnc := HO.cap.1
      cases A with
      | none => cases A2 <;> simp [Builtin.append_, run_underlying ht, sizeOf, typeInfo, hi, Builtin.lenOf, Builtin.firstCells, hnc, loadCells, loadCellsFrom]
      | some a => cases A2 <;> simp [Builtin.append_, run_underlying ht, sizeOf, typeInfo, hi, Builtin.lenOf, Builtin.firstCells, hnc, storeCells, loadCells, loadCellsFrom]
    · rcases HO.head with ⟨_, h0, _⟩ | ⟨g, rfl, _⟩
      · omega
      · simp
  · have hyl : 0 < ys.length := by rw [hl]; exact Nat.mul_pos (by omega) hsz
    obtain ⟨b2, off2, rfl, hc2⟩ := HR hyl
    have hnews : ∀ j u, ys[j]? = some u → w.cell? ((⟨b2, off2, none⟩ : Addr).add j) = some u := by
      intro j u hu
      have hadd : (⟨b2, off2, none⟩ : Addr).add j = ⟨b2, off2 + j, none⟩ := by unfold Addr.add; split <;> simp_all
      rw [hadd]; exact hc2 j u hu
    have hl' : ys.length = m * i.size := by rw [hsize]; exact hl
    have hb48 : ∀ old, old < n + m → Builtin.nextslicecap (n + m) old * i.bytes ≤ 281474976710656 := fun old ho => by rw [hby]; exact growslice_fits_wide ho hbytes
    -- what a new row leaves
    have grown : ∀ (old : Nat), Ow (w.drew.alloc (.cells (xs.toArray ++ ys.toArray ++ Builtin.zeroCells z.cells (grownCap w (n + m) old e - (n + m))) e)) base e size (some ⟨w.heap.size, 0, none⟩) (n + m) (grownCap w (n + m) old e) (xs ++ ys) := by
      intro old
      have hge := grownCap_ge w (n + m) old e
      refine ⟨hlen, .inr ⟨w.heap.size, _, _, rfl, hbase, heap_alloc_new w.drew _, hge, grownCap_le_maxLen w (n + m) old e h63, ?_, ?_⟩⟩
      · simp only [Array.size_append, List.size_toArray, size_zeroCells, hzs, HO.len, hl, ← Nat.add_mul]
        congr 1
        omega
      · simp only [Array.toList_append]
        rw [← hlen]
        exact List.take_left
    rcases HO.2 with ⟨he, h0⟩ | ⟨g, cap, cur, he, hbg, hg, hnc, hcm, hcs, htake⟩
    · injection he with h1' _ h3'
      subst h1' h3' h0
      obtain rfl : xs = [] := List.eq_nil_of_length_eq_zero (by simpa using HO.len)
      have hr := run_append_nil (P := P) w t ty e i z ht hi hz ⟨b2, off2, none⟩ m c2 ys hl' hnews (by omega) (by omega)
        (by have hb := hbytes; simp only [Nat.zero_add] at hb; rw [hby]; exact Nat.le_trans (Nat.mul_le_mul_right _ (by omega)) hb)
      have hgr := grown 0
      simp only [Nat.zero_add, List.nil_append, Array.empty_append] at hgr ⊢
      exact ⟨_, _, _, hr, hgr, (Kp.refl _ _).drew.alloc _, .inr rfl, by simp⟩
    · injection he with h1' _ h3'
      subst h1' h3'
      by_cases hroom : n + m ≤ c
      · have hfit : n * i.size + ys.length ≤ cur.size := by rw [hl, hcs, hsize, ← Nat.add_mul]; exact Nat.mul_le_mul_right _ hroom
        have hr := run_append_room (P := P) w t ty e i ht hi g n c cur hg ⟨b2, off2, none⟩ m c2 ys hl' hnews h1 hroom hfit
        refine ⟨_, _, _, hr, ⟨hlen, .inr ⟨g, c, _, rfl, hbg, setRow_heap w g cur _ e _ hg, hroom, hcm, ?_, ?_⟩⟩, (Kp.refl _ _).setRow (.inl (by simp [ob])) _, .inl rfl, by simp⟩
        · simp only [List.size_toArray, List.length_append, List.length_take, List.length_drop, Array.length_toList]
          omega
        · rw [hsize, htake, ← hlen]
          exact List.take_left
      · have holds : ∀ j u, xs[j]? = some u → w.cell? ((⟨g, 0, none⟩ : Addr).add j) = some u := World.ownsRow.cells HO (g := g) rfl
        have hr := run_append_grow (P := P) w t ty e i z ht hi hz ⟨g, 0, none⟩ n c xs (by rw [hsize]; exact HO.len) holds ⟨b2, off2, none⟩ m c2 ys hl' hnews (by omega) (by omega) (hb48 c (by omega))
        exact ⟨_, _, _, hr, grown c, (Kp.refl _ _).drew.alloc _, .inr rfl, by simp⟩

section
variable {P : Program} {ops : Array Oper} {rest : List Oper} {o : Oper} {a : Act} {Q : Exit → Act → World → Prop}

/-- 'append(s, x...)' for the walk: s a row of the call's own. The new list bears a name of its own. -/
theorem wp_app {w : World} (hgd : o.guard = none) (s x : Operand) (t e : TypeId) (z : Value) (size bytes : Nat) (ho : o.op = .call { callee := .builtin .append, args := #[s, x], argTypes := #[t, t] })
    (ht : P.underlying t = some (.slice e)) (hi : (P.info? e).map (fun i => (i.zero, i.size, i.bytes)) = some (some z, size, bytes))
    (hzs : z.cells.size = size) (hsz : 0 < size) (base : Nat) (A : Option Addr) (n c : Nat) (xs : List Value) (hs : a.eval s = .slice A n c) (HO : Ow w base e size A n c xs)
    (A2 : Option Addr) (m c2 : Nat) (ys : List Value) (hx : a.eval x = .slice A2 m c2) (hl : ys.length = m * size) (HR : At w A2 ys) (h1 : ∀ u ∈ ys, u.oneCell' = true)
    (h63 : n + m ≤ maxLen) (hbytes : ((n + m) + (n + m) / 4 + 192) * bytes ≤ 281474976710656) (hbase : base ≤ w.heap.size)
    (h : ∀ A' k c' w', Hid (k = n + m) → Ow w' base e size A' k c' (xs ++ ys) → Kp (ob A) w w' → (A' = A ∨ A' = some ⟨w.heap.size, 0, none⟩) → wpList P ops Q rest (a.put o.dst (.slice A' k c')) w') : wpList P ops Q (o :: rest) a w := by
  refine wpList_plain hgd fun K hK => ?_
  obtain ⟨A', c', w', hr, h2, h3, h4, _⟩ := run_app (P := P) w t o.type e z size bytes ht hi hzs hsz base A n c xs HO A2 m c2 ys hl HR h1 h63 hbytes hbase
  unfold Oper.wp execOp
  simp only [ho, resolve, invoke, builtin, Sem.run_bind, Sem.run_pure, Result.andThen_ok, List.map_toArray, List.map_cons, List.map_nil, hs, hx, hr]
  exact hK _ _ (h A' (n + m) c' w' rfl h2 h3 h4)

/-- bytes onto bytes -/
theorem wp_appB {w : World} (hgd : o.guard = none) (s x : Operand) (t e : TypeId) (ho : o.op = .call { callee := .builtin .append, args := #[s, x], argTypes := #[t, t] })
    (ht : P.underlying t = some (.slice e)) (hi : (P.info? e).map (fun i => (i.zero, i.size, i.bytes)) = some (some (.int .u8 0), 1, 1))
    (base : Nat) (A : Option Addr) (n c : Nat) (l : List UInt8) (hs : a.eval s = .slice A n c) (HO : Ow w base e 1 A n c (l.map u8))
    (A2 : Option Addr) (m c2 : Nat) (l2 : List UInt8) (hx : a.eval x = .slice A2 m c2) (HR : Rd w A2 m c2 l2)
    (hlen : n + m ≤ 211106232532992) (hbase : base ≤ w.heap.size)
    (h : ∀ A' k c' l' w', Hid (k = n + m) → Hid (l' = l ++ l2) → Ow w' base e 1 A' k c' (l'.map u8) → Kp (ob A) w w' → (A' = A ∨ A' = some ⟨w.heap.size, 0, none⟩) → wpList P ops Q rest (a.put o.dst (.slice A' k c')) w') : wpList P ops Q (o :: rest) a w :=
  wp_app hgd s x t e (.int .u8 0) 1 1 ho ht hi rfl (by omega) base A n c (l.map u8) hs HO A2 m c2 (l2.map u8) hx (by simp [HR.len]) HR.at_ (u8_one l2) (by simp only [maxLen]; omega) (by omega) hbase
    (fun A' k c' w' hk HO' hKp hA => h A' k c' (l ++ l2) w' hk rfl (by rw [List.map_append]; exact HO') hKp hA)
end
/-! ### strings -/
/-- the string of bytes l -/
def sb (l : List UInt8) : ByteArray := ⟨l.toArray⟩
theorem sb_inj {l m : List UInt8} (h : sb l = sb m) : l = m := by
  simpa [sb] using h
theorem run_str {P : Program} {w : World} {A : Option Addr} {n c : Nat} {l : List UInt8} (h : Rd w A n c l) (src e dst : TypeId) (hs : P.underlying src = some (.slice e)) (he : P.underlying e = some (.int .u8)) (hd : P.underlying dst = some .string) :
    (convert src dst (.slice A n c)).run P w = .ok (.string (sb l)) w := by
  have hlen := h.len
  have e1 : strOfNums (l.map fun b => (b.toNat : Int)) = sb l := by
    unfold strOfNums sb
    congr 2
    rw [List.map_map]
    conv => rhs; rw [← List.map_id l]
    apply List.map_congr_left
    intro b _
    simp
  by_cases h0 : n = 0
  · subst h0
    obtain rfl : l = [] := List.eq_nil_of_length_eq_zero hlen
    cases A with
    | none => exact run_convert_bytes_nil w src e hs he _ _ dst hd
    | some a =>
      rw [run_convert_bytes_string w src dst e _ 0 c hs he hd]
      simp [Conv.bytesToString, loadCells, loadCellsFrom]
      rfl
  · obtain ⟨b, off, rfl, _, hc⟩ := h.addr (by omega)
    rw [run_convert_bytes_arg w src e hs he b off n c (l.map fun b => (b.toNat : Int)) (by simpa using hlen) (fun i hi => ?_) dst hd, e1]
    rw [hc i hi]
    simp [List.getD_eq_getElem?_getD, List.getElem?_eq_getElem (show i < l.length by omega)]
section
variable {P : Program} {o : Oper} {a : Act} {w : World} {K : Act → World → Prop} {Q : Exit → Act → World → Prop}
theorem wp_str (src e dst : TypeId) (x : Operand) (ho : o.op = .convert src dst x) (hs : P.underlying src = some (.slice e)) (he : P.underlying e = some (.int .u8)) (hd : P.underlying dst = some .string)
    {A : Option Addr} {n c : Nat} {l : List UInt8} (hx : a.eval x = .slice A n c) (hr : Rd w A n c l) (h : K (a.put o.dst (.string (sb l))) w) : o.wp P a w K Q := by
  unfold Oper.wp execOp
  simp only [ho, hx, run_str hr src e dst hs he hd, Sem.run_bind, Sem.run_pure, Result.andThen_ok]
  exact h
theorem wpList_str {ops : Array Oper} {rest : List Oper} (hgd : o.guard = none) (src e dst : TypeId) (x : Operand) (ho : o.op = .convert src dst x) (hs : P.underlying src = some (.slice e)) (he : P.underlying e = some (.int .u8)) (hd : P.underlying dst = some .string)
    {A : Option Addr} {n c : Nat} {l : List UInt8} (hx : a.eval x = .slice A n c) (hr : Rd w A n c l) (h : wpList P ops Q rest (a.put o.dst (.string (sb l))) w) : wpList P ops Q (o :: rest) a w :=
  wpList_plain hgd fun K hK => wp_str src e dst x ho hs he hd hx hr (hK _ _ h)
theorem eval_tmp {t : Nat} {v : Value} (h : a.tmps[t]? = some v) : a.eval (.tmp t) = v := by simp [Act.eval, h]
end
/-! ### the walk stands still at an operation -/
def Stop (p : Prop) : Prop := p
theorem Stop.go {p : Prop} (h : p) : Stop p := h
theorem stopAt {P : Program} {ops : Array Oper} {Q : Exit → Act → World → Prop} {o : Oper} {rest : List Oper} {a : Act} {w : World} (h : Stop (wpList P ops Q (o :: rest) a w)) : wpList P ops Q (o :: rest) a w := h
theorem Ow.empty (w : World) (base : Nat) (e : TypeId) (size : Nat) (hb : base ≤ w.heap.size) : Ow (w.alloc (.cells #[] e)) base e size (some ⟨w.heap.size, 0, none⟩) 0 0 [] :=
  Ow.new w base e [] size 0 hb (by simp) (by simp [maxLen])
/-- true, and what was there stands -/
def Yes (w : World) (en : Ending) (w' : World) : Prop := en = .returned (.bool true) ∧ Kp [] w w'
end Go.Proofs.Ytibeaombhjdakaa
