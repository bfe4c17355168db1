/- Words on memory for all walks of this seat, over any program: what a call keeps ('Kp'), byte slices that are read ('Rd'), rows of the call's own ('Ow'), and append, as laws for the walk. Plain facts on numbers of bytes, the high byte first: no program in sight. The contracts of layer 2: numbers of bytes, read and put, by the program and by the reference: each gives the plain function 'num' or 'bytesOf'. A frame's head and the known types, by the program. How arguments that came in are opened, over any program: integers, bools, strings, slices, structs, with the form's own reach; and how a law's row is closed. Frames as values: their twelve cells, and how one that came in is opened. A frame as plain data, and the bytes that it is written as: no program in sight. Append, two more laws for the walk: so many zero bytes onto a row of the call's own ('append(b, make([]byte, n)...)'), and bytes onto a slice without room. Over any program. frame.kind: its small functions, and what kinds answers of each type. -/
import Derived.WalkKit
import Derived.Lib.Hide
import Derived.Deep.QuietTactic
import Derived.BigQuiet
import Derived.Deep.DeepAppendWide
import Derived.Laws.BytesArg
import Derived.Laws.BitsLemmas
import Derived.Test.YtkmcakneceagpaaProg
import Derived.WalkLawsBesides
import Derived.WalkSpells
import Derived.Deep.OwnRows
import Derived.ProofKit
import Derived.SizedLaws
import Derived.OpenShut
import Derived.Carry
import Derived.Below
import Derived.Laws.EntriesVeiled
set_option linter.unusedSimpArgs false
set_option linter.unusedVariables false
namespace Go.Proofs.Ytkmcakneceagpaa
open Go.RowKit

/-! ### worlds -/

/-- All blocks of w stand in w' but those of S. -/
structure Kp (S : List Nat) (w w' : World) : Prop where
  os : w'.os = w.os
  tape : w'.tape = w.tape
  output : w'.output = w.output
  size : w.heap.size ≤ w'.heap.size
  block : ∀ k, k < w.heap.size → k ∉ S → w'.heap[k]? = w.heap[k]?

theorem Kp.refl (S : List Nat) (w : World) : Kp S w w := ⟨rfl, rfl, rfl, Nat.le_refl _, fun _ _ _ => rfl⟩
theorem Kp.trans {S : List Nat} {a b c : World} (h : Kp S a b) (k : Kp S b c) : Kp S a c :=
  ⟨k.os.trans h.os, k.tape.trans h.tape, k.output.trans h.output, Nat.le_trans h.size k.size, fun i hi hn => (k.block i (Nat.lt_of_lt_of_le hi h.size) hn).trans (h.block i hi hn)⟩
/-- the second step turns blocks of S and new ones alone -/
theorem Kp.then {S T : List Nat} {a b c : World} (h : Kp S a b) (k : Kp T b c) (hT : ∀ t, t ∈ T → t ∈ S ∨ a.heap.size ≤ t) : Kp S a c :=
  ⟨k.os.trans h.os, k.tape.trans h.tape, k.output.trans h.output, Nat.le_trans h.size k.size, fun i hi hn =>
    (k.block i (Nat.lt_of_lt_of_le hi h.size) (fun ht => (hT i ht).elim hn (fun h1 => by omega))).trans (h.block i hi hn)⟩
theorem Kp.mono {S T : List Nat} {w w' : World} (h : Kp S w w') (hS : ∀ s, s ∈ S → s ∈ T ∨ w.heap.size ≤ s) : Kp T w w' :=
  ⟨h.os, h.tape, h.output, h.size, fun i hi hn => h.block i hi (fun hs => (hS i hs).elim hn (fun h1 => by omega))⟩
theorem Kp.nil {S : List Nat} {w w' : World} (h : Kp [] w w') : Kp S w w' := h.mono (fun _ hs => by cases hs)
theorem Kp.drew {S : List Nat} {a w : World} (h : Kp S a w) : Kp S a w.drew := ⟨h.os, h.tape, h.output, h.size, h.block⟩
theorem Kp.drewN {S : List Nat} {a w : World} (h : Kp S a w) (n : Nat) : Kp S a (w.drewN n) := ⟨h.os, h.tape, h.output, h.size, h.block⟩
theorem Kp.alloc {S : List Nat} {a w : World} (h : Kp S a w) (o : Obj) : Kp S a (w.alloc o) :=
  ⟨h.os, h.tape, h.output, by have := h.size; simp; omega, fun i hi hn => (Below.heap_alloc _ _ _ (Nat.lt_of_lt_of_le hi h.size)).trans (h.block i hi hn)⟩
theorem Kp.setCell {S : List Nat} {a w : World} (h : Kp S a w) {p : Addr} (hp : p.block ∈ S ∨ a.heap.size ≤ p.block) (u : Value) : Kp S a (w.setCell p u) :=
  ⟨h.os, h.tape, h.output, by have := h.size; simpa using this, fun i hi hn =>
    (Below.heap_setCell _ _ _ _ (fun e => hp.elim (fun h1 => hn (by rw [e]; exact h1)) (fun h1 => by omega))).trans (h.block i hi hn)⟩
theorem Kp.setRow {S : List Nat} {a w : World} (h : Kp S a w) {g : Nat} (hp : g ∈ S ∨ a.heap.size ≤ g) (cs : Array Value) : Kp S a (w.setRow g cs) :=
  ⟨h.os, h.tape, h.output, by have := h.size; simpa using this, fun i hi hn =>
    (setRow_other w g i cs (fun e => hp.elim (fun h1 => hn (by rw [e]; exact h1)) (fun h1 => by omega))).trans (h.block i hi hn)⟩
theorem Kp.below {w w' : World} (h : Kp [] w w') : Below w.heap.size w w' := ⟨h.os, h.tape, h.output, h.size, fun k hk => h.block k hk (by simp)⟩
theorem Kp.ofBelow {w w' : World} (h : Below w.heap.size w w') : Kp [] w w' := ⟨h.os, h.tape, h.output, h.size, fun k hk _ => h.block k hk⟩
/-- over a bound: all that is turned lies from B on -/
theorem Kp.belowAt {S : List Nat} {B : Nat} {w w' : World} (h : Kp S w w') (hS : ∀ s, s ∈ S → B ≤ s) (hB : B ≤ w.heap.size) : Below B w w' :=
  ⟨h.os, h.tape, h.output, h.size, fun k hk => h.block k (by omega) (fun hs => by have := hS k hs; omega)⟩
theorem Kp.cell {S : List Nat} {w w' : World} (h : Kp S w w') {p : Addr} {v : Value} (hc : w.cell? p = some v) (hp : p.block ∉ S) : w'.cell? p = some v :=
  (World.cell?_of_block (w := w) (h.block p.block (World.block_lt_of_cell? w p hc) hp)).trans hc
theorem Kp.heap {S : List Nat} {w w' : World} (h : Kp S w w') {g : Nat} {o : Obj} (hg : w.heap[g]? = some o) (hp : g ∉ S) : w'.heap[g]? = some o :=
  (h.block g (Array.getElem?_eq_some_iff.1 hg).1 hp).trans hg

theorem lt_of_heap {w : World} {g : Nat} {o : Obj} (hg : w.heap[g]? = some o) : g < w.heap.size := (Array.getElem?_eq_some_iff.1 hg).1
theorem cell_of {w : World} {g : Nat} {cs : Array Value} {t : TypeId} {fr : Nat × Nat} (hg : w.heap[g]? = some (.cells cs t fr)) (j : Nat) : w.cell? ⟨g, j, none⟩ = cs[j]? := cell_of_row w g j cs t fr hg
theorem frozen_of {w : World} {g : Nat} {cs : Array Value} {t : TypeId} (hg : w.heap[g]? = some (.cells cs t (0, 0))) (j : Nat) : w.frozen? ⟨g, j, none⟩ = false := frozen_of_row w g j cs t hg

/-- blocks, for simp -/
theorem hp_new (w : World) (o : Obj) (n : Nat) (h : n = w.heap.size) : (w.alloc o).heap[n]? = some o := by subst h; exact heap_alloc_new w o
theorem hp_old (w : World) (o : Obj) (n : Nat) (h : n < w.heap.size) : (w.alloc o).heap[n]? = w.heap[n]? := Below.heap_alloc w o n h
theorem hp_set (w : World) (g i : Nat) (v : Value) (cs : Array Value) (t : TypeId) (h : w.heap[g]? = some (.cells cs t (0, 0))) : (w.setCell ⟨g, i, none⟩ v).heap[g]? = some (.cells (cs.setIfInBounds i v) t (0, 0)) := heap_setCell_same w g i cs t v h
theorem hp_far (w : World) (a : Addr) (v : Value) (n : Nat) (h : n ≠ a.block) : (w.setCell a v).heap[n]? = w.heap[n]? := Below.heap_setCell w a v n h
theorem hp_drew (w : World) (n : Nat) : w.drew.heap[n]? = w.heap[n]? := rfl
theorem hp_drewN (w : World) (k n : Nat) : (w.drewN k).heap[n]? = w.heap[n]? := rfl

/-! ### bytes -/

/-- a byte's value -/
def u8 (b : UInt8) : Value := .int .u8 (b.toNat : Int)
theorem u8_one (l : List UInt8) : ∀ u ∈ l.map u8, u.oneCell' = true := by
  intro u hu
  obtain ⟨_, _, rfl⟩ := List.mem_map.1 hu
  rfl
/-- the block of an address -/
def ob (A : Option Addr) : List Nat := match A with | some a => [a.block] | none => []

/-- Cells xs stand at A, one behind the other. -/
def At (w : World) (A : Option Addr) (xs : List Value) : Prop :=
  0 < xs.length → ∃ b off, A = some ⟨b, off, none⟩ ∧ ∀ j u, xs[j]? = some u → w.cell? ⟨b, off + j, none⟩ = some u
theorem At.nil (w : World) (A : Option Addr) : At w A [] := fun h => by simp at h
theorem At.keep {S : List Nat} {w w' : World} {A : Option Addr} {xs : List Value} (h : At w A xs) (k : Kp S w w') (hS : 0 < xs.length → ∀ b, b ∈ ob A → b ∉ S) : At w' A xs := by
  intro hp
  obtain ⟨b, off, rfl, hc⟩ := h hp
  exact ⟨b, off, rfl, fun j u hu => k.cell (hc j u hu) (hS hp b (by simp [ob]))⟩
theorem At.below {B : Nat} {w w' : World} {A : Option Addr} {xs : List Value} (h : At w A xs) (k : Below B w w') (hB : ∀ b, b ∈ ob A → b < B) : At w' A xs := by
  intro hp
  obtain ⟨b, off, rfl, hc⟩ := h hp
  exact ⟨b, off, rfl, fun j u hu => (k.cell (p := ⟨b, off + j, none⟩) (hB b (by simp [ob]))).trans (hc j u hu)⟩
theorem At.lt {w : World} {A : Option Addr} {xs : List Value} (h : At w A xs) (hp : 0 < xs.length) : ∀ b, b ∈ ob A → b < w.heap.size := by
  obtain ⟨b, off, rfl, hc⟩ := h hp
  intro b' hb'
  obtain rfl : b' = b := by simpa [ob] using hb'
  exact World.block_lt_of_cell? w _ (hc 0 _ (List.getElem?_eq_getElem hp))

/-- A slice of bytes: n of them, l. -/
structure Rd (w : World) (A : Option Addr) (n c : Nat) (l : List UInt8) : Prop where
  len : l.length = n
  cap : n ≤ c
  at_ : At w A (l.map u8)
theorem Rd.nil (w : World) (A : Option Addr) (c : Nat) : Rd w A 0 c [] := ⟨rfl, Nat.zero_le _, At.nil _ _⟩
theorem Rd.keep {S : List Nat} {w w' : World} {A : Option Addr} {n c : Nat} {l : List UInt8} (h : Rd w A n c l) (k : Kp S w w') (hS : 0 < n → ∀ b, b ∈ ob A → b ∉ S) : Rd w' A n c l :=
  ⟨h.len, h.cap, h.at_.keep k (fun hp => hS (by simpa [h.len] using hp))⟩
theorem Rd.below {B : Nat} {w w' : World} {A : Option Addr} {n c : Nat} {l : List UInt8} (h : Rd w A n c l) (k : Below B w w') (hB : ∀ b, b ∈ ob A → b < B) : Rd w' A n c l := ⟨h.len, h.cap, h.at_.below k hB⟩
/-- where there is a byte there is an address -/
theorem Rd.addr {w : World} {A : Option Addr} {n c : Nat} {l : List UInt8} (h : Rd w A n c l) (hn : 0 < n) :
    ∃ b off, A = some ⟨b, off, none⟩ ∧ b < w.heap.size ∧ ∀ j, j < n → w.cell? ⟨b, off + j, none⟩ = some (.int .u8 ((l.getD j 0).toNat : Int)) := by
  have hl : 0 < (l.map u8).length := by simpa [h.len] using hn
  obtain ⟨b, off, rfl, hc⟩ := h.at_ hl
  have hcell : ∀ j, j < n → w.cell? ⟨b, off + j, none⟩ = some (.int .u8 ((l.getD j 0).toNat : Int)) := by
    intro j hj
    have hj' : j < l.length := by have := h.len; omega
    refine hc j _ ?_
    simp [u8, List.getElem?_eq_getElem hj', List.getD_eq_getElem?_getD]
  exact ⟨b, off, rfl, World.block_lt_of_cell? w _ (hcell 0 hn), hcell⟩
theorem map_slice {α β : Type} (f : α → β) (l : List α) (i j : Nat) : ((l.drop i).take j).map f = ((l.map f).drop i).take j := by simp
/-- a part of it: 'b[i:j]' -/
theorem Rd.sub {w : World} {A : Option Addr} {n c : Nat} {l : List UInt8} (h : Rd w A n c l) (i j : Nat) (hij : i ≤ j) (hj : j ≤ n) {A' : Option Addr} (hA : ∀ b off, A = some ⟨b, off, none⟩ → ¬ c = i → A' = some ⟨b, off + i, none⟩) :
    Rd w A' (j - i) (c - i) ((l.drop i).take (j - i)) := by
  have hl := h.len
  have hc := h.cap
  refine ⟨by simp; omega, by omega, fun hp => ?_⟩
  have hp' : 0 < j - i ∧ i < l.length := by simp at hp; omega
  obtain ⟨b, off, rfl, hcell⟩ := h.at_ (by simp; omega)
  refine ⟨b, off + i, hA b off rfl (by omega), fun k u hu => ?_⟩
  rw [map_slice, List.getElem?_take] at hu
  split at hu
  · rw [List.getElem?_drop] at hu
    have := hcell (i + k) u hu
    rwa [← Nat.add_assoc] at this
  · cases hu

/-! ### rows of the call's own -/

/-- The slice '.slice A n c' is a row of the call's own, in a block from 'base' on (or nil); its cells are xs. -/
def Ow (w : World) (base : Nat) (e : TypeId) (size : Nat) (A : Option Addr) (n c : Nat) (xs : List Value) : Prop := w.ownsRow base e size (.slice A n c) n xs
theorem Ow.nil (w : World) (base : Nat) (e : TypeId) (size : Nat) : Ow w base e size none 0 0 [] := World.ownsRow_nil w base e size
theorem Ow.base {w : World} {base n c size : Nat} {e : TypeId} {A : Option Addr} {xs : List Value} (h : Ow w base e size A n c xs) : ∀ b, b ∈ ob A → base ≤ b ∧ b < w.heap.size := by
  intro b hb
  cases A with
  | none => simp [ob] at hb
  | some a =>
    obtain rfl : b = a.block := by simpa [ob] using hb
    exact World.ownsRow.lt h a.block rfl
theorem Ow.keep {S : List Nat} {w w' : World} {base n c size : Nat} {e : TypeId} {A : Option Addr} {xs : List Value} (h : Ow w base e size A n c xs) (k : Kp S w w') (hS : ∀ b, b ∈ ob A → b ∉ S) : Ow w' base e size A n c xs := by
  refine ⟨h.1, ?_⟩
  rcases h.2 with hn | ⟨g, cap, cur, he, hb, hg, rest⟩
  · exact .inl hn
  · refine .inr ⟨g, cap, cur, he, hb, ?_, rest⟩
    injection he with he
    subst he
    exact k.heap hg (hS g (by simp [ob]))
theorem Ow.len {w : World} {base n c size : Nat} {e : TypeId} {A : Option Addr} {xs : List Value} (h : Ow w base e size A n c xs) : xs.length = n * size := h.1
theorem Ow.cap {w : World} {base n c size : Nat} {e : TypeId} {A : Option Addr} {xs : List Value} (h : Ow w base e size A n c xs) : n ≤ c ∧ c ≤ maxLen := by
  rcases h.2 with ⟨he, rfl⟩ | ⟨g, cap, cur, he, _, _, h1, h2, _⟩
  · exact ⟨Nat.zero_le _, by injection he with _ _ hc; subst hc; simp [maxLen]⟩
  · injection he with _ _ hc
    subst hc
    exact ⟨h1, h2⟩
theorem Ow.at_ {w : World} {base n c size : Nat} {e : TypeId} {A : Option Addr} {xs : List Value} (h : Ow w base e size A n c xs) : At w A xs := by
  intro hp
  rcases h.2 with ⟨he, hn⟩ | ⟨g, cap, cur, he, _, hg, _⟩
  · have := h.1; simp [hn] at this; simp [this] at hp
  · injection he with he
    subst he
    refine ⟨g, 0, rfl, fun j u hu => ?_⟩
    have := World.ownsRow.cells h (g := g) rfl j u hu
    have hadd : (⟨g, 0, none⟩ : Addr).add j = ⟨g, 0 + j, none⟩ := by unfold Addr.add; split <;> simp_all
    rwa [hadd] at this
/-- its head stands at the beginning of its block -/
theorem Ow.head {w : World} {base n c size : Nat} {e : TypeId} {A : Option Addr} {xs : List Value} (h : Ow w base e size A n c xs) : (A = none ∧ n = 0 ∧ c = 0) ∨ ∃ g, A = some ⟨g, 0, none⟩ ∧ base ≤ g ∧ g < w.heap.size := by
  rcases h.2 with ⟨he, hn⟩ | ⟨g, cap, cur, he, hb, hg, _⟩
  · injection he with h1 h2 h3
    exact .inl ⟨h1, hn, h3⟩
  · injection he with he
    exact .inr ⟨g, he, hb, lt_of_heap hg⟩
theorem Ow.mono {w : World} {base base' n c size : Nat} {e : TypeId} {A : Option Addr} {xs : List Value} (h : Ow w base e size A n c xs) (hb : base' ≤ base) : Ow w base' e size A n c xs := by
  refine ⟨h.1, ?_⟩
  rcases h.2 with h2 | ⟨g, cap, cur, he, hg, rest⟩
  · exact .inl h2
  · exact .inr ⟨g, cap, cur, he, by omega, rest⟩
/-- A row of bytes of the call's own: read. -/
theorem Ow.rd {w : World} {base n c : Nat} {e : TypeId} {A : Option Addr} {l : List UInt8} (h : Ow w base e 1 A n c (l.map u8)) : Rd w A n c l :=
  ⟨by have := h.len; simpa using this, h.cap.1, h.at_⟩
/-- a new block that is a row whole -/
theorem Ow.new (w : World) (base : Nat) (e : TypeId) (cs : List Value) (size n : Nat) (hb : base ≤ w.heap.size) (hl : cs.length = n * size) (hm : n ≤ maxLen) :
    Ow (w.alloc (.cells cs.toArray e)) base e size (some ⟨w.heap.size, 0, none⟩) n n cs :=
  ⟨hl, .inr ⟨w.heap.size, n, cs.toArray, rfl, hb, heap_alloc_new w _, Nat.le_refl _, hm, by simpa using hl, by rw [List.take_of_length_le (by simp [hl])]⟩⟩

/-- what stands in a block from off on -/
theorem At.block {w : World} {g : Nat} {cs : Array Value} {t : TypeId} {fr : Nat × Nat} (hg : w.heap[g]? = some (.cells cs t fr)) (off : Nat) (xs : List Value) (h : (cs.toList.drop off).take xs.length = xs) : At w (some ⟨g, off, none⟩) xs := by
  intro hp
  refine ⟨g, off, rfl, fun j u hu => ?_⟩
  rw [cell_of hg]
  rw [← h, List.getElem?_take] at hu
  split at hu
  · rw [List.getElem?_drop] at hu
    simpa using hu
  · cases hu
theorem Rd.block {w : World} {g : Nat} {cs : Array Value} {t : TypeId} {fr : Nat × Nat} (hg : w.heap[g]? = some (.cells cs t fr)) (off n c : Nat) (l : List UInt8) (hn : l.length = n) (hc : n ≤ c) (h : (cs.toList.drop off).take n = l.map u8) : Rd w (some ⟨g, off, none⟩) n c l :=
  ⟨hn, hc, At.block hg off _ (by simpa [hn] using h)⟩

/-! ### what a call gives -/

/-- a slice of bytes l that lies in new memory, without room behind it -/
def RdR (l : List UInt8) (w : World) (en : Ending) (w' : World) : Prop :=
  ∃ A n, en = .returned (.slice A n n) ∧ Rd w' A n n l ∧ (∀ b, b ∈ ob A → w.heap.size ≤ b) ∧ Kp [] w w'
/-- the same, and an error's number -/
def RdE (l : List UInt8) (er : Int) (w : World) (en : Ending) (w' : World) : Prop :=
  ∃ A n, en = .returned (.tuple #[.slice A n n, .int .i64 er]) ∧ Rd w' A n n l ∧ (∀ b, b ∈ ob A → w.heap.size ≤ b) ∧ Kp [] w w'
/-- a row of bytes of the call's own -/
def OwR (e : TypeId) (l : List UInt8) (w : World) (en : Ending) (w' : World) : Prop :=
  ∃ A n c, en = .returned (.slice A n c) ∧ Ow w' w.heap.size e 1 A n c (l.map u8) ∧ Kp [] w w'
def OwE (e : TypeId) (l : List UInt8) (er : Int) (w : World) (en : Ending) (w' : World) : Prop :=
  ∃ A n c, en = .returned (.tuple #[.slice A n c, .int .i64 er]) ∧ Ow w' w.heap.size e 1 A n c (l.map u8) ∧ Kp [] w w'

/-! ### append -/

/-- append onto a row of the call's own of what stands at an address: room or not. -/
theorem run_app {P : Program} (w : World) (t ty e : TypeId) (z : Value) (size bytes : Nat) (ht : P.underlying t = some (.slice e)) (hi : (P.info? e).map (fun i => (i.zero, i.size, i.bytes)) = some (some z, size, bytes))
    (hzs : z.cells.size = size) (hsz : 0 < size) (base : Nat) (A : Option Addr) (n c : Nat) (xs : List Value) (HO : Ow w base e size A n c xs) (A2 : Option Addr) (m c2 : Nat) (ys : List Value) (hl : ys.length = m * size)
    (HR : At w A2 ys) (h1 : ∀ u ∈ ys, u.oneCell' = true) (h63 : n + m ≤ maxLen) (hbytes : ((n + m) + (n + m) / 4 + 192) * bytes ≤ 281474976710656) (hbase : base ≤ w.heap.size) :
    ∃ A' c' w', (Builtin.append_ #[t, t] ty #[.slice A n c, .slice A2 m c2]).run P w = .ok (.slice A' (n + m) c') w' ∧ Ow w' base e size A' (n + m) c' (xs ++ ys) ∧ Kp (ob A) w w' ∧
      (A' = A ∨ A' = some ⟨w.heap.size, 0, none⟩) ∧ (0 < n → A' ≠ none) := by
  obtain ⟨i, hi, hz, hsize, hby⟩ := info_parts hi
  have hsmall : n + m ≤ 9223372036854775807 := by simp only [maxLen] at h63; omega
  have hlen : (xs ++ ys).length = (n + m) * size := by rw [List.length_append, HO.len, hl, Nat.add_mul]
  by_cases hm : m = 0
  · -- nothing is appended
    subst hm
    obtain rfl : ys = [] := List.eq_nil_of_length_eq_zero (by simpa using hl)
    refine ⟨A, c, w, ?_, by simpa using HO, Kp.refl _ _, .inl rfl, fun hn => ?_⟩
    · have hnc := HO.cap.1
      cases A with
      | none => cases A2 <;> simp [Builtin.append_, run_underlying ht, sizeOf, typeInfo, hi, Builtin.lenOf, Builtin.firstCells, hnc, loadCells, loadCellsFrom]
      | some a => cases A2 <;> simp [Builtin.append_, run_underlying ht, sizeOf, typeInfo, hi, Builtin.lenOf, Builtin.firstCells, hnc, storeCells, loadCells, loadCellsFrom]
    · rcases HO.head with ⟨_, h0, _⟩ | ⟨g, rfl, _⟩
      · omega
      · simp
  · have hyl : 0 < ys.length := by rw [hl]; exact Nat.mul_pos (by omega) hsz
    obtain ⟨b2, off2, rfl, hc2⟩ := HR hyl
    have hnews : ∀ j u, ys[j]? = some u → w.cell? ((⟨b2, off2, none⟩ : Addr).add j) = some u := by
      intro j u hu
      have hadd : (⟨b2, off2, none⟩ : Addr).add j = ⟨b2, off2 + j, none⟩ := by unfold Addr.add; split <;> simp_all
      rw [hadd]; exact hc2 j u hu
    have hl' : ys.length = m * i.size := by rw [hsize]; exact hl
    have hb48 : ∀ old, old < n + m → Builtin.nextslicecap (n + m) old * i.bytes ≤ 281474976710656 := fun old ho => by rw [hby]; exact growslice_fits_wide ho hbytes
    -- what a new row leaves
    have grown : ∀ (old : Nat), Ow (w.drew.alloc (.cells (xs.toArray ++ ys.toArray ++ Builtin.zeroCells z.cells (grownCap w (n + m) old e - (n + m))) e)) base e size (some ⟨w.heap.size, 0, none⟩) (n + m) (grownCap w (n + m) old e) (xs ++ ys) := by
      intro old
      have hge := grownCap_ge w (n + m) old e
      refine ⟨hlen, .inr ⟨w.heap.size, _, _, rfl, hbase, heap_alloc_new w.drew _, hge, grownCap_le_maxLen w (n + m) old e h63, ?_, ?_⟩⟩
      · simp only [Array.size_append, List.size_toArray, size_zeroCells, hzs, HO.len, hl, ← Nat.add_mul]
        congr 1
        omega
      · simp only [Array.toList_append]
        rw [← hlen]
        exact List.take_left
    rcases HO.2 with ⟨he, h0⟩ | ⟨g, cap, cur, he, hbg, hg, hnc, hcm, hcs, htake⟩
    · injection he with h1' _ h3'
      subst h1' h3' h0
      obtain rfl : xs = [] := List.eq_nil_of_length_eq_zero (by simpa using HO.len)
      have hr := run_append_nil (P := P) w t ty e i z ht hi hz ⟨b2, off2, none⟩ m c2 ys hl' hnews (by omega) (by omega)
        (by have hb := hbytes; simp only [Nat.zero_add] at hb; rw [hby]; exact Nat.le_trans (Nat.mul_le_mul_right _ (by omega)) hb)
      have hgr := grown 0
      simp only [Nat.zero_add, List.nil_append, Array.empty_append] at hgr ⊢
      exact ⟨_, _, _, hr, hgr, (Kp.refl _ _).drew.alloc _, .inr rfl, by simp⟩
    · injection he with h1' _ h3'
      subst h1' h3'
      by_cases hroom : n + m ≤ c
      · have hfit : n * i.size + ys.length ≤ cur.size := by rw [hl, hcs, hsize, ← Nat.add_mul]; exact Nat.mul_le_mul_right _ hroom
        have hr := run_append_room (P := P) w t ty e i ht hi g n c cur hg ⟨b2, off2, none⟩ m c2 ys hl' hnews h1 hroom hfit
        refine ⟨_, _, _, hr, ⟨hlen, .inr ⟨g, c, _, rfl, hbg, setRow_heap w g cur _ e _ hg, hroom, hcm, ?_, ?_⟩⟩, (Kp.refl _ _).setRow (.inl (by simp [ob])) _, .inl rfl, by simp⟩
        · simp only [List.size_toArray, List.length_append, List.length_take, List.length_drop, Array.length_toList]
          omega
        · rw [hsize, htake, ← hlen]
          exact List.take_left
      · have holds : ∀ j u, xs[j]? = some u → w.cell? ((⟨g, 0, none⟩ : Addr).add j) = some u := World.ownsRow.cells HO (g := g) rfl
        have hr := run_append_grow (P := P) w t ty e i z ht hi hz ⟨g, 0, none⟩ n c xs (by rw [hsize]; exact HO.len) holds ⟨b2, off2, none⟩ m c2 ys hl' hnews (by omega) (by omega) (hb48 c (by omega))
        exact ⟨_, _, _, hr, grown c, (Kp.refl _ _).drew.alloc _, .inr rfl, by simp⟩

section
variable {P : Program} {ops : Array Oper} {rest : List Oper} {o : Oper} {a : Act} {Q : Exit → Act → World → Prop}

/-- 'append(s, x...)' for the walk: s a row of the call's own. The new list bears a name of its own. -/
theorem wp_app {w : World} (hgd : o.guard = none) (s x : Operand) (t e : TypeId) (z : Value) (size bytes : Nat) (ho : o.op = .call { callee := .builtin .append, args := #[s, x], argTypes := #[t, t] })
    (ht : P.underlying t = some (.slice e)) (hi : (P.info? e).map (fun i => (i.zero, i.size, i.bytes)) = some (some z, size, bytes))
    (hzs : z.cells.size = size) (hsz : 0 < size) (base : Nat) (A : Option Addr) (n c : Nat) (xs : List Value) (hs : a.eval s = .slice A n c) (HO : Ow w base e size A n c xs)
    (A2 : Option Addr) (m c2 : Nat) (ys : List Value) (hx : a.eval x = .slice A2 m c2) (hl : ys.length = m * size) (HR : At w A2 ys) (h1 : ∀ u ∈ ys, u.oneCell' = true)
    (h63 : n + m ≤ maxLen) (hbytes : ((n + m) + (n + m) / 4 + 192) * bytes ≤ 281474976710656) (hbase : base ≤ w.heap.size)
    (h : ∀ A' k c' w', Hid (k = n + m) → Ow w' base e size A' k c' (xs ++ ys) → Kp (ob A) w w' → (A' = A ∨ A' = some ⟨w.heap.size, 0, none⟩) → wpList P ops Q rest (a.put o.dst (.slice A' k c')) w') : wpList P ops Q (o :: rest) a w := by
  refine wpList_plain hgd fun K hK => ?_
  obtain ⟨A', c', w', hr, h2, h3, h4, _⟩ := run_app (P := P) w t o.type e z size bytes ht hi hzs hsz base A n c xs HO A2 m c2 ys hl HR h1 h63 hbytes hbase
  unfold Oper.wp execOp
  simp only [ho, resolve, invoke, builtin, Sem.run_bind, Sem.run_pure, Result.andThen_ok, List.map_toArray, List.map_cons, List.map_nil, hs, hx, hr]
  exact hK _ _ (h A' (n + m) c' w' rfl h2 h3 h4)

/-- bytes onto bytes -/
theorem wp_appB {w : World} (hgd : o.guard = none) (s x : Operand) (t e : TypeId) (ho : o.op = .call { callee := .builtin .append, args := #[s, x], argTypes := #[t, t] })
    (ht : P.underlying t = some (.slice e)) (hi : (P.info? e).map (fun i => (i.zero, i.size, i.bytes)) = some (some (.int .u8 0), 1, 1))
    (base : Nat) (A : Option Addr) (n c : Nat) (l : List UInt8) (hs : a.eval s = .slice A n c) (HO : Ow w base e 1 A n c (l.map u8))
    (A2 : Option Addr) (m c2 : Nat) (l2 : List UInt8) (hx : a.eval x = .slice A2 m c2) (HR : Rd w A2 m c2 l2)
    (hlen : n + m ≤ 211106232532992) (hbase : base ≤ w.heap.size)
    (h : ∀ A' k c' l' w', Hid (k = n + m) → Hid (l' = l ++ l2) → Ow w' base e 1 A' k c' (l'.map u8) → Kp (ob A) w w' → (A' = A ∨ A' = some ⟨w.heap.size, 0, none⟩) → wpList P ops Q rest (a.put o.dst (.slice A' k c')) w') : wpList P ops Q (o :: rest) a w :=
  wp_app hgd s x t e (.int .u8 0) 1 1 ho ht hi rfl (by omega) base A n c (l.map u8) hs HO A2 m c2 (l2.map u8) hx (by simp [HR.len]) HR.at_ (u8_one l2) (by simp only [maxLen]; omega) (by omega) hbase
    (fun A' k c' w' hk HO' hKp hA => h A' k c' (l ++ l2) w' hk rfl (by rw [List.map_append]; exact HO') hKp hA)
end
/-! ### strings -/
/-- the string of bytes l -/
def sb (l : List UInt8) : ByteArray := ⟨l.toArray⟩
theorem sb_inj {l m : List UInt8} (h : sb l = sb m) : l = m := by
  simpa [sb] using h
theorem run_str {P : Program} {w : World} {A : Option Addr} {n c : Nat} {l : List UInt8} (h : Rd w A n c l) (src e dst : TypeId) (hs : P.underlying src = some (.slice e)) (he : P.underlying e = some (.int .u8)) (hd : P.underlying dst = some .string) :
    (convert src dst (.slice A n c)).run P w = .ok (.string (sb l)) w := by
  have hlen := h.len
  have e1 : strOfNums (l.map fun b => (b.toNat : Int)) = sb l := by
    unfold strOfNums sb
    congr 2
    rw [List.map_map]
    conv => rhs; rw [← List.map_id l]
    apply List.map_congr_left
    intro b _
    simp
  by_cases h0 : n = 0
  · subst h0
    obtain rfl : l = [] := List.eq_nil_of_length_eq_zero hlen
    cases A with
    | none => exact run_convert_bytes_nil w src e hs he _ _ dst hd
    | some a =>
      rw [run_convert_bytes_string w src dst e _ 0 c hs he hd]
      simp [Conv.bytesToString, loadCells, loadCellsFrom]
      rfl
  · obtain ⟨b, off, rfl, _, hc⟩ := h.addr (by omega)
    rw [run_convert_bytes_arg w src e hs he b off n c (l.map fun b => (b.toNat : Int)) (by simpa using hlen) (fun i hi => ?_) dst hd, e1]
    rw [hc i hi]
    simp [List.getD_eq_getElem?_getD, List.getElem?_eq_getElem (show i < l.length by omega)]
section
variable {P : Program} {o : Oper} {a : Act} {w : World} {K : Act → World → Prop} {Q : Exit → Act → World → Prop}
theorem wp_str (src e dst : TypeId) (x : Operand) (ho : o.op = .convert src dst x) (hs : P.underlying src = some (.slice e)) (he : P.underlying e = some (.int .u8)) (hd : P.underlying dst = some .string)
    {A : Option Addr} {n c : Nat} {l : List UInt8} (hx : a.eval x = .slice A n c) (hr : Rd w A n c l) (h : K (a.put o.dst (.string (sb l))) w) : o.wp P a w K Q := by
  unfold Oper.wp execOp
  simp only [ho, hx, run_str hr src e dst hs he hd, Sem.run_bind, Sem.run_pure, Result.andThen_ok]
  exact h
theorem wpList_str {ops : Array Oper} {rest : List Oper} (hgd : o.guard = none) (src e dst : TypeId) (x : Operand) (ho : o.op = .convert src dst x) (hs : P.underlying src = some (.slice e)) (he : P.underlying e = some (.int .u8)) (hd : P.underlying dst = some .string)
    {A : Option Addr} {n c : Nat} {l : List UInt8} (hx : a.eval x = .slice A n c) (hr : Rd w A n c l) (h : wpList P ops Q rest (a.put o.dst (.string (sb l))) w) : wpList P ops Q (o :: rest) a w :=
  wpList_plain hgd fun K hK => wp_str src e dst x ho hs he hd hx hr (hK _ _ h)
theorem eval_tmp {t : Nat} {v : Value} (h : a.tmps[t]? = some v) : a.eval (.tmp t) = v := by simp [Act.eval, h]
end
/-! ### the walk stands still at an operation -/
def Stop (p : Prop) : Prop := p
theorem Stop.go {p : Prop} (h : p) : Stop p := h
theorem stopAt {P : Program} {ops : Array Oper} {Q : Exit → Act → World → Prop} {o : Oper} {rest : List Oper} {a : Act} {w : World} (h : Stop (wpList P ops Q (o :: rest) a w)) : wpList P ops Q (o :: rest) a w := h
theorem Ow.empty (w : World) (base : Nat) (e : TypeId) (size : Nat) (hb : base ≤ w.heap.size) : Ow (w.alloc (.cells #[] e)) base e size (some ⟨w.heap.size, 0, none⟩) 0 0 [] :=
  Ow.new w base e [] size 0 hb (by simp) (by simp [maxLen])
/-- true, and what was there stands -/
def Yes (w : World) (en : Ending) (w' : World) : Prop := en = .returned (.bool true) ∧ Kp [] w w'
end Go.Proofs.Ytkmcakneceagpaa

namespace Go.Proofs.Ytkmcakneceagpaa
open Go.RowKit

/-- a number of bytes, the high one first -/
def be (l : List UInt8) : Nat := l.foldl (fun a b => a * 256 + b.toNat) 0
theorem be_nil : be [] = 0 := rfl
theorem be_snoc (l : List UInt8) (b : UInt8) : be (l ++ [b]) = be l * 256 + b.toNat := by simp [be]
theorem be_lt (l : List UInt8) : be l < 256 ^ l.length := by
  suffices h : ∀ (n : Nat) (l : List UInt8), l.length = n → be l < 256 ^ n from h _ l rfl
  intro n
  induction n with
  | zero => intro l hl; obtain rfl := List.eq_nil_of_length_eq_zero hl; simp [be]
  | succ n ih =>
    intro l hl
    have hne : l ≠ [] := by intro h; simp [h] at hl
    have hd : l = l.dropLast ++ [l.getLast hne] := (List.dropLast_concat_getLast hne).symm
    have h1 := ih l.dropLast (by simp [hl])
    have h2 := (l.getLast hne).toNat_lt
    rw [hd, be_snoc, Nat.pow_succ]
    omega
theorem be_take_succ (l : List UInt8) (k : Nat) (h : k < l.length) : be (l.take (k + 1)) = be (l.take k) * 256 + (l.getD k 0).toNat := by
  rw [List.take_succ_eq_append_getElem h, be_snoc]
  simp [List.getD_eq_getElem?_getD, List.getElem?_eq_getElem h]
theorem be_take_lt (l : List UInt8) (k : Nat) : be (l.take k) < 256 ^ k := by
  have h := be_lt (l.take k)
  have h2 : (l.take k).length ≤ k := List.length_take_le _ _
  exact Nat.lt_of_lt_of_le h (Nat.pow_le_pow_right (by omega) h2)

/-- what a number of k bytes at place i is: the number, the place behind, the error -/
def num (k : Nat) (l : List UInt8) (i : Int) : Nat × Int × Int :=
  if i < 0 ∨ (l.length : Int) < i then (0, 0, 1) else if (l.length : Int) - i < k then (0, l.length, 3) else (be ((l.drop i.toNat).take k), i + k, 0)
theorem num_arg {k : Nat} {l : List UInt8} {i : Int} (h : i < 0 ∨ (l.length : Int) < i) : num k l i = (0, 0, 1) := by simp [num, h]
theorem num_short {k : Nat} {l : List UInt8} {i : Int} (h0 : 0 ≤ i) (h1 : i ≤ l.length) (h2 : (l.length : Int) - i < k) : num k l i = (0, (l.length : Int), 3) := by
  unfold num
  rw [if_neg (by omega), if_pos h2]
theorem num_ok {k : Nat} {l : List UInt8} {i : Nat} (h : i + k ≤ l.length) : num k l (i : Int) = (be ((l.drop i).take k), (i : Int) + k, 0) := by
  unfold num
  rw [if_neg (by omega), if_neg (by omega)]
  simp
theorem num_lt (k : Nat) (l : List UInt8) (i : Int) : (num k l i).1 < 256 ^ k := by
  have hp : 0 < 256 ^ k := Nat.pow_pos (by omega)
  unfold num
  split
  · simpa using hp
  · split
    · simpa using hp
    · exact be_take_lt _ _

theorem wraps_u32 (n : Int) (h₀ : 0 ≤ n) (h₁ : n < 2 ^ 32) : IntKind.u32.wrap n = n := by
  rw [IntKind.wrap_u32]
  have e : (2 : Int) ^ 32 = 4294967296 := by decide
  rw [e] at h₁
  omega
/-- one more byte: 'n<<8 | c' of 32 bits -/
theorem or_step (x : Nat) (b : Nat) (hx : x < 16777216) (hb : b < 256) : bits .or .u32 ((x : Int) * 256 % 4294967296) ((b : Int) % 4294967296) = (x : Int) * 256 + b := by
  have e1 : ((x : Int) * 256 % 4294967296) = (x : Int) * 256 := by omega
  have e2 : ((b : Int) % 4294967296) = (b : Int) := by omega
  have e3 : (2 : Int) ^ 32 = 4294967296 := by decide
  have e4 : (2 : Int) ^ 8 = 256 := by decide
  rw [e1, e2]
  have h := bits_join .u32 32 (by decide) wraps_u32 8 ((x : Int) * 256) (b : Int)
  rw [e3, e4] at h
  exact h (by omega) (by omega) (by omega) (by omega) (by omega) (by omega)

/-- n bytes of a number, the high one first -/
def bytesOf (v : Nat) : Nat → List UInt8
  | 0 => []
  | n + 1 => bytesOf (v / 256) n ++ [UInt8.ofNat (v % 256)]
theorem bytesOf_length (v n : Nat) : (bytesOf v n).length = n := by
  induction n generalizing v with
  | zero => rfl
  | succ n ih => simp [bytesOf, ih]
theorem be_bytesOf (v n : Nat) : be (bytesOf v n) = v % 256 ^ n := by
  induction n generalizing v with
  | zero => simp [bytesOf, be, Nat.mod_one]
  | succ n ih =>
    rw [bytesOf, be_snoc, ih, Nat.pow_succ, Nat.mul_comm (256 ^ n) 256, Nat.mod_mul]
    have h : (UInt8.ofNat (v % 256)).toNat = v % 256 := by simp
    rw [h]; omega
theorem bytesOf_drop (v n k : Nat) : (bytesOf v (n + k)).drop k = bytesOf v n := by
  induction n generalizing v with
  | zero => simp [bytesOf, List.drop_eq_nil_iff, bytesOf_length]
  | succ n ih =>
    rw [show n + 1 + k = (n + k) + 1 from by omega, bytesOf, List.drop_append_of_le_length (by rw [bytesOf_length]; omega), ih, bytesOf]
/-- the four bytes of a number, written out -/
theorem bytesOf_four (v : Nat) : bytesOf v 4 = [UInt8.ofNat (v / 16777216 % 256), UInt8.ofNat (v / 65536 % 256), UInt8.ofNat (v / 256 % 256), UInt8.ofNat (v % 256)] := by
  simp [bytesOf, Nat.div_div_eq_div_mul]
/-- a number below a bound, put; or the error -/
def putR (v : Int) (k : Nat) (bound : Int) : List UInt8 × Int := if v < 0 ∨ bound ≤ v then ([], 1) else (bytesOf v.toNat k, 0)
theorem putR_no {v : Int} {k : Nat} {bound : Int} (h : v < 0 ∨ bound ≤ v) : putR v k bound = ([], 1) := by simp [putR, h]
theorem putR_yes {v : Nat} {k : Nat} {bound : Int} (h : (v : Int) < bound) : putR (v : Int) k bound = (bytesOf v k, 0) := by
  unfold putR
  rw [if_neg (by omega)]
  simp
end Go.Proofs.Ytkmcakneceagpaa

namespace Go.Proofs.Ytkmcakneceagpaa
open Go.RowKit

theorem Try.info5 : (Try.prog.info? 5).map (fun i => (i.zero, i.size, i.bytes)) = some (some (.int .u8 0), 1, 1) := by kernel_rfl

/-- three results of a read -/
def Num3 (k1 : IntKind) (x : Int) (p e : Int) (w : World) (en : Ending) (w' : World) : Prop := en = .returned (.tuple #[.int k1 x, .int .i64 p, .int .i64 e]) ∧ Kp [] w w'
theorem Num3.mk {k1 : IntKind} {x x' p p' e e' : Int} {w w' : World} (hx : x = x') (hp : p = p') (he : e = e') (h : Kp [] w w') : Num3 k1 x p e w (.returned (.tuple #[.int k1 x', .int .i64 p', .int .i64 e'])) w' := by
  subst hx hp he
  exact ⟨rfl, h⟩

set_option maxHeartbeats 400000 in
theorem get2_any (A : Option Addr) (n c : Nat) (i : Int) (l : List UInt8) (w : World) (hn : n ≤ 140737488355328) (hr : Rd w A n c l) :
    Calls Try.prog 118 #[.slice A n c, .int .i64 i] w (Num3 .u32 (num 2 l i).1 (num 2 l i).2.1 (num 2 l i).2.2 w) := by
  have hlen := hr.len
  by_cases ha : i < 0 ∨ (l.length : Int) < i
  · rw [num_arg ha]
    rw [hlen] at ha
    clear hlen hr
    rcases ha with h | h
    · go_enter Try.func118, Try.ntmps118
      go_wp2
      go_ret3
      exact ⟨rfl, (Kp.refl _ _).alloc _⟩
    · have h' : ¬ i < 0 := by omega
      go_enter Try.func118, Try.ntmps118
      go_wp2
      go_ret3
      exact ⟨rfl, (Kp.refl _ _).alloc _⟩
  · by_cases hs : (l.length : Int) - i < 2
    · rw [num_short (by omega) (by omega) hs]
      have h0 : 0 ≤ i := by omega
      have h1 : i ≤ n := by omega
      have h2 : (n : Int) - i < 2 := by omega
      have HL := Lib.hid hlen
      clear hlen hr ha hs
      go_enter Try.func118, Try.ntmps118
      go_wp2
      go_ret3
      exact Num3.mk rfl (by rw [HL.out]) rfl ((Kp.refl _ _).alloc _)
    · obtain ⟨j, rfl⟩ := Int.eq_ofNat_of_zero_le (show 0 ≤ i by omega)
      have hj : j + 2 ≤ n := by omega
      obtain ⟨b, off, rfl, hb, hcell⟩ := hr.addr (by omega)
      have hcap := hr.cap
      rw [num_ok (by omega)]
      have HT : Hid (∀ k, k < 2 → be ((l.drop j).take (k + 1)) = be ((l.drop j).take k) * 256 + (l.getD (j + k) 0).toNat) := by
        intro k hk
        rw [be_take_succ _ _ (by simp; omega)]
        simp [List.getD_eq_getElem?_getD]
      clear hlen hr ha hs
      have d1 : decide ((j : Int) < 0) = false := by simp
      have d2 : decide (n < j) = false := by simp; omega
      have d3 : decide ((n : Int) - j < 2) = false := by simp; omega
      go_enter Try.func118, Try.ntmps118
      go_wp2
      go_loop [8, 10, 38] (fun v _ k => ∃ kk : Nat, kk ≤ 2 ∧ k = .int .i64 kk ∧ v = .int .u32 (be ((l.drop j).take kk))) (fun _ _ k => 2 - (intOf k).toNat)
      case atStart => exact ⟨0, by omega, rfl, by simp [be]⟩
      case round =>
        obtain ⟨k, hk, rfl, rfl⟩ := hrel
        by_cases hlt : k < 2
        · have hc2 := hcell (j + k) (by omega)
          rw [← Nat.add_assoc] at hc2
          have HB : Hid (be ((l.drop j).take k) < 16777216) := Nat.lt_of_lt_of_le (be_take_lt (l.drop j) k) (Nat.le_trans (Nat.pow_le_pow_right (by omega) (show k ≤ 3 by omega)) (by decide))
          clear hcell
          go_wp2
          go_round
          case rel =>
            refine ⟨k + 1, by omega, by go_num, ?_⟩
            rw [HT.out k hlt]
            have e := or_step (be ((l.drop j).take k)) (l.getD (j + k) 0).toNat HB.out (l.getD (j + k) 0).toNat_lt
            simp only [List.getD_eq_getElem?_getD] at e ⊢
            rw [e]
            go_num
          case measure => simp [intOf]; omega
        · obtain rfl : k = 2 := by omega
          clear hcell
          go_wp2
          go_quiet (fail)
          go_wp2
          go_ret3
          exact Num3.mk rfl rfl rfl (((Kp.refl _ _).alloc _).drewN _)

set_option maxHeartbeats 400000 in
theorem get3_any (A : Option Addr) (n c : Nat) (i : Int) (l : List UInt8) (w : World) (hn : n ≤ 140737488355328) (hr : Rd w A n c l) :
    Calls Try.prog 122 #[.slice A n c, .int .i64 i] w (Num3 .u32 (num 3 l i).1 (num 3 l i).2.1 (num 3 l i).2.2 w) := by
  have hlen := hr.len
  by_cases ha : i < 0 ∨ (l.length : Int) < i
  · rw [num_arg ha]
    rw [hlen] at ha
    clear hlen hr
    rcases ha with h | h
    · go_enter Try.func122, Try.ntmps122
      go_wp2
      go_ret3
      exact ⟨rfl, (Kp.refl _ _).alloc _⟩
    · have h' : ¬ i < 0 := by omega
      go_enter Try.func122, Try.ntmps122
      go_wp2
      go_ret3
      exact ⟨rfl, (Kp.refl _ _).alloc _⟩
  · by_cases hs : (l.length : Int) - i < 3
    · rw [num_short (by omega) (by omega) hs]
      have h0 : 0 ≤ i := by omega
      have h1 : i ≤ n := by omega
      have h2 : (n : Int) - i < 3 := by omega
      have HL := Lib.hid hlen
      clear hlen hr ha hs
      go_enter Try.func122, Try.ntmps122
      go_wp2
      go_ret3
      exact Num3.mk rfl (by rw [HL.out]) rfl ((Kp.refl _ _).alloc _)
    · obtain ⟨j, rfl⟩ := Int.eq_ofNat_of_zero_le (show 0 ≤ i by omega)
      have hj : j + 3 ≤ n := by omega
      obtain ⟨b, off, rfl, hb, hcell⟩ := hr.addr (by omega)
      have hcap := hr.cap
      rw [num_ok (by omega)]
      have HT : Hid (∀ k, k < 3 → be ((l.drop j).take (k + 1)) = be ((l.drop j).take k) * 256 + (l.getD (j + k) 0).toNat) := by
        intro k hk
        rw [be_take_succ _ _ (by simp; omega)]
        simp [List.getD_eq_getElem?_getD]
      clear hlen hr ha hs
      have d1 : decide ((j : Int) < 0) = false := by simp
      have d2 : decide (n < j) = false := by simp; omega
      have d3 : decide ((n : Int) - j < 3) = false := by simp; omega
      go_enter Try.func122, Try.ntmps122
      go_wp2
      go_loop [8, 10, 38] (fun v _ k => ∃ kk : Nat, kk ≤ 3 ∧ k = .int .i64 kk ∧ v = .int .u32 (be ((l.drop j).take kk))) (fun _ _ k => 3 - (intOf k).toNat)
      case atStart => exact ⟨0, by omega, rfl, by simp [be]⟩
      case round =>
        obtain ⟨k, hk, rfl, rfl⟩ := hrel
        by_cases hlt : k < 3
        · have hc2 := hcell (j + k) (by omega)
          rw [← Nat.add_assoc] at hc2
          have HB : Hid (be ((l.drop j).take k) < 16777216) := Nat.lt_of_lt_of_le (be_take_lt (l.drop j) k) (Nat.le_trans (Nat.pow_le_pow_right (by omega) (show k ≤ 3 by omega)) (by decide))
          clear hcell
          go_wp2
          go_round
          case rel =>
            refine ⟨k + 1, by omega, by go_num, ?_⟩
            rw [HT.out k hlt]
            have e := or_step (be ((l.drop j).take k)) (l.getD (j + k) 0).toNat HB.out (l.getD (j + k) 0).toNat_lt
            simp only [List.getD_eq_getElem?_getD] at e ⊢
            rw [e]
            go_num
          case measure => simp [intOf]; omega
        · obtain rfl : k = 3 := by omega
          clear hcell
          go_wp2
          go_quiet (fail)
          go_wp2
          go_ret3
          exact Num3.mk rfl rfl rfl (((Kp.refl _ _).alloc _).drewN _)

set_option maxHeartbeats 400000 in
theorem get4_any (A : Option Addr) (n c : Nat) (i : Int) (l : List UInt8) (w : World) (hn : n ≤ 140737488355328) (hr : Rd w A n c l) :
    Calls Try.prog 115 #[.slice A n c, .int .i64 i] w (Num3 .u32 (num 4 l i).1 (num 4 l i).2.1 (num 4 l i).2.2 w) := by
  have hlen := hr.len
  by_cases ha : i < 0 ∨ (l.length : Int) < i
  · rw [num_arg ha]
    rw [hlen] at ha
    clear hlen hr
    rcases ha with h | h
    · go_enter Try.func115, Try.ntmps115
      go_wp2
      go_ret3
      exact ⟨rfl, (Kp.refl _ _).alloc _⟩
    · have h' : ¬ i < 0 := by omega
      go_enter Try.func115, Try.ntmps115
      go_wp2
      go_ret3
      exact ⟨rfl, (Kp.refl _ _).alloc _⟩
  · by_cases hs : (l.length : Int) - i < 4
    · rw [num_short (by omega) (by omega) hs]
      have h0 : 0 ≤ i := by omega
      have h1 : i ≤ n := by omega
      have h2 : (n : Int) - i < 4 := by omega
      have HL := Lib.hid hlen
      clear hlen hr ha hs
      go_enter Try.func115, Try.ntmps115
      go_wp2
      go_ret3
      exact Num3.mk rfl (by rw [HL.out]) rfl ((Kp.refl _ _).alloc _)
    · obtain ⟨j, rfl⟩ := Int.eq_ofNat_of_zero_le (show 0 ≤ i by omega)
      have hj : j + 4 ≤ n := by omega
      obtain ⟨b, off, rfl, hb, hcell⟩ := hr.addr (by omega)
      have hcap := hr.cap
      rw [num_ok (by omega)]
      have HT : Hid (∀ k, k < 4 → be ((l.drop j).take (k + 1)) = be ((l.drop j).take k) * 256 + (l.getD (j + k) 0).toNat) := by
        intro k hk
        rw [be_take_succ _ _ (by simp; omega)]
        simp [List.getD_eq_getElem?_getD]
      clear hlen hr ha hs
      have d1 : decide ((j : Int) < 0) = false := by simp
      have d2 : decide (n < j) = false := by simp; omega
      have d3 : decide ((n : Int) - j < 4) = false := by simp; omega
      go_enter Try.func115, Try.ntmps115
      go_wp2
      go_loop [8, 10, 38] (fun v _ k => ∃ kk : Nat, kk ≤ 4 ∧ k = .int .i64 kk ∧ v = .int .u32 (be ((l.drop j).take kk))) (fun _ _ k => 4 - (intOf k).toNat)
      case atStart => exact ⟨0, by omega, rfl, by simp [be]⟩
      case round =>
        obtain ⟨k, hk, rfl, rfl⟩ := hrel
        by_cases hlt : k < 4
        · have hc2 := hcell (j + k) (by omega)
          rw [← Nat.add_assoc] at hc2
          have HB : Hid (be ((l.drop j).take k) < 16777216) := Nat.lt_of_lt_of_le (be_take_lt (l.drop j) k) (Nat.le_trans (Nat.pow_le_pow_right (by omega) (show k ≤ 3 by omega)) (by decide))
          clear hcell
          go_wp2
          go_round
          case rel =>
            refine ⟨k + 1, by omega, by go_num, ?_⟩
            rw [HT.out k hlt]
            have e := or_step (be ((l.drop j).take k)) (l.getD (j + k) 0).toNat HB.out (l.getD (j + k) 0).toNat_lt
            simp only [List.getD_eq_getElem?_getD] at e ⊢
            rw [e]
            go_num
          case measure => simp [intOf]; omega
        · obtain rfl : k = 4 := by omega
          clear hcell
          go_wp2
          go_quiet (fail)
          go_wp2
          go_ret3
          exact Num3.mk rfl rfl rfl (((Kp.refl _ _).alloc _).drewN _)

theorem andNot31 (x : Nat) (hx : x < 4294967296) : bits .andNot .u32 (x : Int) 2147483648 = ((x % 2147483648 : Nat) : Int) := by
  have e : bits .andNot .u32 (x : Int) 2147483648 = bits .and .u32 (x : Int) 2147483647 := by
    unfold bits
    have : ~~~(BitVec.ofInt IntKind.u32.bits 2147483648) = BitVec.ofInt IntKind.u32.bits 2147483647 := by decide
    simp only [this]
  have e3 : (2 : Int) ^ 32 = 4294967296 := by decide
  have e4 : (2 : Int) ^ 31 = 2147483648 := by decide
  have h := bits_mask .u32 32 (by decide) wraps_u32 31 (by decide) (x : Int)
  rw [e3, e4] at h
  rw [e]
  have h2 := h (by omega) (by omega)
  rw [show (2147483648 : Int) - 1 = 2147483647 from rfl] at h2
  rw [h2]
  omega
theorem pow2 : (256 : Nat) ^ 2 = 65536 := by decide
theorem pow3 : (256 : Nat) ^ 3 = 16777216 := by decide
theorem pow4 : (256 : Nat) ^ 4 = 4294967296 := by decide

set_option maxHeartbeats 400000 in
theorem U16_any (A : Option Addr) (n c : Nat) (i : Int) (l : List UInt8) (w : World) (hn : n ≤ 140737488355328) (hr : Rd w A n c l) :
    Calls Try.prog 39 #[.slice A n c, .int .i64 i] w (Num3 .i64 (num 2 l i).1 (num 2 l i).2.1 (num 2 l i).2.2 w) := by
  have hb : (num 2 l i).1 < 65536 := Nat.lt_of_lt_of_eq (num_lt 2 l i) pow2
  go_enter Try.func39, Try.ntmps39
  go_wp2_with (go_at_call 118; refine (get2_any _ _ _ _ _ _ hn hr).mono ?_; rintro e w' ⟨rfl, hk⟩)
  go_ret3
  exact ⟨rfl, hk⟩

set_option maxHeartbeats 400000 in
theorem U24_any (A : Option Addr) (n c : Nat) (i : Int) (l : List UInt8) (w : World) (hn : n ≤ 140737488355328) (hr : Rd w A n c l) :
    Calls Try.prog 47 #[.slice A n c, .int .i64 i] w (Num3 .i64 (num 3 l i).1 (num 3 l i).2.1 (num 3 l i).2.2 w) := by
  have hb : (num 3 l i).1 < 16777216 := Nat.lt_of_lt_of_eq (num_lt 3 l i) pow3
  go_enter Try.func47, Try.ntmps47
  go_wp2_with (go_at_call 122; refine (get3_any _ _ _ _ _ _ hn hr).mono ?_; rintro e w' ⟨rfl, hk⟩)
  go_ret3
  exact ⟨rfl, hk⟩

set_option maxHeartbeats 400000 in
theorem U32_any (A : Option Addr) (n c : Nat) (i : Int) (l : List UInt8) (w : World) (hn : n ≤ 140737488355328) (hr : Rd w A n c l) :
    Calls Try.prog 34 #[.slice A n c, .int .i64 i] w (Num3 .u32 (num 4 l i).1 (num 4 l i).2.1 (num 4 l i).2.2 w) := by
  have hb : (num 4 l i).1 < 4294967296 := Nat.lt_of_lt_of_eq (num_lt 4 l i) pow4
  go_enter Try.func34, Try.ntmps34
  go_wp2_with (go_at_call 115; refine (get4_any _ _ _ _ _ _ hn hr).mono ?_; rintro e w' ⟨rfl, hk⟩)
  go_ret3
  exact ⟨rfl, hk⟩

set_option maxHeartbeats 400000 in
theorem U31_any (A : Option Addr) (n c : Nat) (i : Int) (l : List UInt8) (w : World) (hn : n ≤ 140737488355328) (hr : Rd w A n c l) :
    Calls Try.prog 51 #[.slice A n c, .int .i64 i] w (Num3 .i64 ((num 4 l i).1 % 2147483648 : Nat) (num 4 l i).2.1 (num 4 l i).2.2 w) := by
  have hb : (num 4 l i).1 < 4294967296 := Nat.lt_of_lt_of_eq (num_lt 4 l i) pow4
  have HA := Lib.hid (andNot31 _ hb)
  go_enter Try.func51, Try.ntmps51
  go_wp2_with (go_at_call 115; refine (get4_any _ _ _ _ _ _ hn hr).mono ?_; rintro e w' ⟨rfl, hk⟩)
  go_ret3
  refine Num3.mk ?_ rfl rfl hk
  rw [HA.out]
  unfold wrap64
  omega

/-! ### the program's puts -/
set_option maxHeartbeats 400000 in
theorem Put32_any (n : Nat) (w : World) (hn : n < 4294967296) : Calls Try.prog 36 #[.int .u32 n] w (RdR (bytesOf n 4) w) := by
  go_enter Try.func36, Try.ntmps36
  go_wp2
  go_ret
  refine ⟨_, _, rfl, Rd.block (heap_alloc_new w _) 0 4 4 _ (bytesOf_length _ _) (by omega) ?_, ?_, (Kp.refl _ _).alloc _⟩
  · rw [bytesOf_four]
    simp [u8]
    omega
  · intro b hb
    simp [ob] at hb
    omega
theorem shr16 (n : Nat) : (n : Int) / 65536 = ((n / 65536 : Nat) : Int) := by omega

set_option maxHeartbeats 400000 in
theorem put2_any (n : Int) (w : World) (hw : -9223372036854775808 ≤ n ∧ n ≤ 9223372036854775807) : Calls Try.prog 119 #[.int .i64 n, .int .i64 2, .int .i64 16] w (RdE (putR n 2 65536).1 (putR n 2 65536).2 w) := by
  by_cases h : n < 0 ∨ 65536 ≤ n
  · rw [putR_no h]
    rcases h with h | h
    · go_enter Try.func119, Try.ntmps119
      go_wp2_with fail
      go_ret2
      exact ⟨_, _, rfl, Rd.nil _ _ _, by simp [ob], Kp.refl _ _⟩
    · have h0 : ¬ n < 0 := by omega
      have h1 : (n / 65536 != 0) = true := by simp; omega
      have h2 : ¬ n / 65536 = 0 := by omega
      go_enter Try.func119, Try.ntmps119
      go_wp2_with fail
      go_ret2
      exact ⟨_, _, rfl, Rd.nil _ _ _, by simp [ob], Kp.refl _ _⟩
  · obtain ⟨m, rfl⟩ := Int.eq_ofNat_of_zero_le (show 0 ≤ n by omega)
    have hm : m < 65536 := by omega
    rw [putR_yes (by omega)]
    have h0 : ¬ (m : Int) < 0 := by omega
    have h1 : ((m : Int) / 65536 != 0) = false := by simp; omega
    have h2 : (m : Int) / 65536 = 0 := by omega
    have H2 := Lib.hid h2
    clear h h2 hw
    go_enter Try.func119, Try.ntmps119
    go_wp2_with fail
    refine (Put32_any m w (by omega)).mono ?_
    rintro e w' ⟨A, n', rfl, hr, hf, hk⟩
    obtain rfl : n' = 4 := by rw [← hr.len, bytesOf_length]
    obtain ⟨b, off, rfl, hb, hc⟩ := hr.addr (by omega)
    clear hc
    have HR := Lib.hid hr
    have HF := Lib.hid hf
    clear hr hf
    go_wp2
    go_ret2
    have hs := HR.out.sub (4 - 2) 4 (by omega) (by omega) (A' := some ⟨b, off + (4 - 2), none⟩) (by intro b' off' he _; simp at he; obtain ⟨rfl, rfl⟩ := he; rfl)
    rw [show (bytesOf m 4).drop (4 - 2) = bytesOf m 2 from bytesOf_drop m 2 (4 - 2), List.take_of_length_le (by rw [bytesOf_length]; omega)] at hs
    exact ⟨_, _, rfl, hs, HF.out, hk⟩

set_option maxHeartbeats 400000 in
theorem put3_any (n : Int) (w : World) (hw : -9223372036854775808 ≤ n ∧ n ≤ 9223372036854775807) : Calls Try.prog 119 #[.int .i64 n, .int .i64 3, .int .i64 24] w (RdE (putR n 3 16777216).1 (putR n 3 16777216).2 w) := by
  by_cases h : n < 0 ∨ 16777216 ≤ n
  · rw [putR_no h]
    rcases h with h | h
    · go_enter Try.func119, Try.ntmps119
      go_wp2_with fail
      go_ret2
      exact ⟨_, _, rfl, Rd.nil _ _ _, by simp [ob], Kp.refl _ _⟩
    · have h0 : ¬ n < 0 := by omega
      have h1 : (n / 16777216 != 0) = true := by simp; omega
      have h2 : ¬ n / 16777216 = 0 := by omega
      go_enter Try.func119, Try.ntmps119
      go_wp2_with fail
      go_ret2
      exact ⟨_, _, rfl, Rd.nil _ _ _, by simp [ob], Kp.refl _ _⟩
  · obtain ⟨m, rfl⟩ := Int.eq_ofNat_of_zero_le (show 0 ≤ n by omega)
    have hm : m < 16777216 := by omega
    rw [putR_yes (by omega)]
    have h0 : ¬ (m : Int) < 0 := by omega
    have h1 : ((m : Int) / 16777216 != 0) = false := by simp; omega
    have h2 : (m : Int) / 16777216 = 0 := by omega
    have H2 := Lib.hid h2
    clear h h2 hw
    go_enter Try.func119, Try.ntmps119
    go_wp2_with fail
    refine (Put32_any m w (by omega)).mono ?_
    rintro e w' ⟨A, n', rfl, hr, hf, hk⟩
    obtain rfl : n' = 4 := by rw [← hr.len, bytesOf_length]
    obtain ⟨b, off, rfl, hb, hc⟩ := hr.addr (by omega)
    clear hc
    have HR := Lib.hid hr
    have HF := Lib.hid hf
    clear hr hf
    go_wp2
    go_ret2
    have hs := HR.out.sub (4 - 3) 4 (by omega) (by omega) (A' := some ⟨b, off + (4 - 3), none⟩) (by intro b' off' he _; simp at he; obtain ⟨rfl, rfl⟩ := he; rfl)
    rw [show (bytesOf m 4).drop (4 - 3) = bytesOf m 3 from bytesOf_drop m 3 (4 - 3), List.take_of_length_le (by rw [bytesOf_length]; omega)] at hs
    exact ⟨_, _, rfl, hs, HF.out, hk⟩

set_option maxHeartbeats 400000 in
theorem put4_any (n : Int) (w : World) (hw : -9223372036854775808 ≤ n ∧ n ≤ 9223372036854775807) : Calls Try.prog 119 #[.int .i64 n, .int .i64 4, .int .i64 31] w (RdE (putR n 4 2147483648).1 (putR n 4 2147483648).2 w) := by
  by_cases h : n < 0 ∨ 2147483648 ≤ n
  · rw [putR_no h]
    rcases h with h | h
    · go_enter Try.func119, Try.ntmps119
      go_wp2_with fail
      go_ret2
      exact ⟨_, _, rfl, Rd.nil _ _ _, by simp [ob], Kp.refl _ _⟩
    · have h0 : ¬ n < 0 := by omega
      have h1 : (n / 2147483648 != 0) = true := by simp; omega
      have h2 : ¬ n / 2147483648 = 0 := by omega
      go_enter Try.func119, Try.ntmps119
      go_wp2_with fail
      go_ret2
      exact ⟨_, _, rfl, Rd.nil _ _ _, by simp [ob], Kp.refl _ _⟩
  · obtain ⟨m, rfl⟩ := Int.eq_ofNat_of_zero_le (show 0 ≤ n by omega)
    have hm : m < 2147483648 := by omega
    rw [putR_yes (by omega)]
    have h0 : ¬ (m : Int) < 0 := by omega
    have h1 : ((m : Int) / 2147483648 != 0) = false := by simp; omega
    have h2 : (m : Int) / 2147483648 = 0 := by omega
    have H2 := Lib.hid h2
    clear h h2 hw
    go_enter Try.func119, Try.ntmps119
    go_wp2_with fail
    refine (Put32_any m w (by omega)).mono ?_
    rintro e w' ⟨A, n', rfl, hr, hf, hk⟩
    obtain rfl : n' = 4 := by rw [← hr.len, bytesOf_length]
    obtain ⟨b, off, rfl, hb, hc⟩ := hr.addr (by omega)
    clear hc
    have HR := Lib.hid hr
    have HF := Lib.hid hf
    clear hr hf
    go_wp2
    go_ret2
    have hs := HR.out.sub (4 - 4) 4 (by omega) (by omega) (A' := some ⟨b, off + (4 - 4), none⟩) (by intro b' off' he _; simp at he; obtain ⟨rfl, rfl⟩ := he; rfl)
    rw [show (bytesOf m 4).drop (4 - 4) = bytesOf m 4 from bytesOf_drop m 4 (4 - 4), List.take_of_length_le (by rw [bytesOf_length]; omega)] at hs
    exact ⟨_, _, rfl, hs, HF.out, hk⟩

set_option maxHeartbeats 400000 in
theorem Put16_any (n : Int) (w : World) (hw : -9223372036854775808 ≤ n ∧ n ≤ 9223372036854775807) : Calls Try.prog 41 #[.int .i64 n] w (RdE (putR n 2 65536).1 (putR n 2 65536).2 w) := by
  go_enter Try.func41, Try.ntmps41
  go_wp2_with fail
  refine (put2_any n w hw).mono ?_
  rintro e w' ⟨A, n', rfl, hr, hf, hk⟩
  have HR := Lib.hid hr
  have HF := Lib.hid hf
  clear hr hf
  go_wp2
  go_ret2
  exact ⟨_, _, rfl, HR.out, HF.out, hk⟩

set_option maxHeartbeats 400000 in
theorem Put24_any (n : Int) (w : World) (hw : -9223372036854775808 ≤ n ∧ n ≤ 9223372036854775807) : Calls Try.prog 49 #[.int .i64 n] w (RdE (putR n 3 16777216).1 (putR n 3 16777216).2 w) := by
  go_enter Try.func49, Try.ntmps49
  go_wp2_with fail
  refine (put3_any n w hw).mono ?_
  rintro e w' ⟨A, n', rfl, hr, hf, hk⟩
  have HR := Lib.hid hr
  have HF := Lib.hid hf
  clear hr hf
  go_wp2
  go_ret2
  exact ⟨_, _, rfl, HR.out, HF.out, hk⟩

set_option maxHeartbeats 400000 in
theorem Put31_any (n : Int) (w : World) (hw : -9223372036854775808 ≤ n ∧ n ≤ 9223372036854775807) : Calls Try.prog 53 #[.int .i64 n] w (RdE (putR n 4 2147483648).1 (putR n 4 2147483648).2 w) := by
  go_enter Try.func53, Try.ntmps53
  go_wp2_with fail
  refine (put4_any n w hw).mono ?_
  rintro e w' ⟨A, n', rfl, hr, hf, hk⟩
  have HR := Lib.hid hr
  have HF := Lib.hid hf
  clear hr hf
  go_wp2
  go_ret2
  exact ⟨_, _, rfl, HR.out, HF.out, hk⟩
end Go.Proofs.Ytkmcakneceagpaa

namespace Go.Proofs.Ytkmcakneceagpaa
open Go.RowKit

/-- what a frame's head is -/
def headR (l : List UInt8) : Nat × Nat × Nat × Nat × Int :=
  if l.length < 9 then (0, 0, 0, 0, 3) else ((num 3 l 0).1, (l.getD 3 0).toNat, (l.getD 4 0).toNat, (num 4 l 5).1 % 2147483648, 0)
def Num5 (r : Nat × Nat × Nat × Nat × Int) (w : World) (en : Ending) (w' : World) : Prop :=
  en = .returned (.tuple #[.int .i64 r.1, .int .i64 r.2.1, .int .i64 r.2.2.1, .int .i64 r.2.2.2.1, .int .i64 r.2.2.2.2]) ∧ Kp [] w w'

set_option maxHeartbeats 1000000 in
theorem Head_any (A : Option Addr) (n c : Nat) (l : List UInt8) (w : World) (hn : n ≤ 140737488355328) (hr : Rd w A n c l) :
    Calls Try.prog 55 #[.slice A n c] w (Num5 (headR l) w) := by
  have hlen := hr.len
  by_cases hs : n < 9
  · have e : headR l = (0, 0, 0, 0, 3) := by unfold headR; rw [if_pos (by omega)]
    rw [e]
    clear hlen hr
    go_enter Try.func55, Try.ntmps55
    go_wp2
    exact bodyPost_ret (v := .tuple #[.int .i64 0, .int .i64 0, .int .i64 0, .int .i64 0, .int .i64 3]) (by simp [results, Try.results55, go_sem]) rfl ⟨rfl, Kp.refl _ _⟩
  · have e : headR l = ((num 3 l 0).1, (l.getD 3 0).toNat, (l.getD 4 0).toNat, (num 4 l 5).1 % 2147483648, 0) := by unfold headR; rw [if_neg (by omega)]
    rw [e]
    obtain ⟨b, off, rfl, hb, hc⟩ := hr.addr (by omega)
    have h3 := hc 3 (by omega)
    have h4 := hc 4 (by omega)
    have HR := Lib.hid hr
    clear hlen hr hc e
    go_enter Try.func55, Try.ntmps55
    go_wp2_with fail
    refine (U24_any _ _ _ 0 _ _ hn HR.out).mono ?_
    rintro e w1 ⟨rfl, k1⟩
    have r1 := HR.out.keep k1 (by simp)
    have g3 := k1.cell h3 (by simp)
    have g4 := k1.cell h4 (by simp)
    clear h3 h4 HR hb
    have HR1 := Lib.hid r1
    clear r1
    generalize hx : (num 3 l 0).1 = x1
    have HX := Lib.hid hx
    clear hx
    generalize (num 3 l 0).2.1 = x2
    generalize (num 3 l 0).2.2 = x3
    go_wp2_with fail
    refine (U31_any _ _ _ 5 _ _ hn HR1.out).mono ?_
    rintro e w2 ⟨rfl, k2⟩
    have h3 := k2.cell g3 (by simp)
    have h4 := k2.cell g4 (by simp)
    have HK := Lib.hid (k1.trans k2)
    clear g3 g4 HR1 k1 k2
    generalize hy : (num 4 l 5).1 % 2147483648 = y1
    have HY := Lib.hid hy
    clear hy
    generalize (num 4 l 5).2.1 = y2
    generalize (num 4 l 5).2.2 = y3
    have hb3 := (l.getD 3 0).toNat_lt
    have hb4 := (l.getD 4 0).toNat_lt
    generalize (l.getD 3 0).toNat = b3 at *
    generalize (l.getD 4 0).toNat = b4 at *
    have i3 : (3 : Int) < (n : Int) := by omega
    have i4 : (4 : Int) < (n : Int) := by omega
    go_wp2
    go_quiet (fail)
    go_wp2
    exact bodyPost_ret (v := .tuple #[.int .i64 x1, .int .i64 b3, .int .i64 b4, .int .i64 y1, .int .i64 0]) (by simp [results, Try.results55, go_sem]) rfl ⟨by simp only [HX.out, HY.out], HK.out.drewN _⟩

/-- known types -/
def knownB (k : Int) : Bool := decide (0 ≤ k) && decide (k ≤ 9)
def BoolR (b : Bool) (w : World) (en : Ending) (w' : World) : Prop := en = .returned (.bool b) ∧ w = w'

set_option maxHeartbeats 400000 in
theorem Known_any (k : Int) (w : World) : Calls Try.prog 57 #[.int .i64 k] w (BoolR (knownB k) w) := by
  by_cases h0 : 0 ≤ k
  · by_cases h9 : k ≤ 9
    · have e : knownB k = true := by simp [knownB, h0, h9]
      rw [e]
      go_enter Try.func57, Try.ntmps57
      go_wp2
      go_ret
      exact ⟨by simp, rfl⟩
    · have e : knownB k = false := by simp [knownB, h9]
      rw [e]
      go_enter Try.func57, Try.ntmps57
      go_wp2
      go_ret
      exact ⟨by simp, rfl⟩
  · have e : knownB k = false := by simp [knownB, h0]
    rw [e]
    go_enter Try.func57, Try.ntmps57
    go_wp2
    go_ret
    exact ⟨by simp, rfl⟩

set_option maxHeartbeats 400000 in
theorem awake07 (w : World) : Calls Try.prog 59 #[] w (BoolR true w) := by
  go_enter Try.func59, Try.ntmps59
  go_wp2_with fail
  refine (Known_any 9 w).mono ?_
  rintro e w1 ⟨rfl, rfl⟩
  rw [show knownB 9 = true from rfl]
  go_wp2_with fail
  refine (Known_any 10 w).mono ?_
  rintro e w1 ⟨rfl, rfl⟩
  rw [show knownB 10 = false from rfl]
  go_wp2
  go_ret
  exact ⟨rfl, rfl⟩
end Go.Proofs.Ytkmcakneceagpaa

namespace Go.Proofs.Ytkmcakneceagpaa
open Go.ChangeShapes Go.WideShapes Go.ChangeAt Go.RowKit

section
variable {H : Type} {enc : TypeId × Value → H} {P : Program} {W : World}

/-- The cells cs read as d at type t, and each string and slice within is in reach. -/
def Tr (enc : TypeId × Value → H) (P : Program) (W : World) (t : TypeId) (cs : List Value) (d : DataW H) : Prop :=
  (∃ fuel ps, DataW.trod enc P W 0 (fun _ => true) true fuel t cs = some (d, ps)) ∧ ∀ n ∈ d.weights P t, n ≤ 140737488351232

theorem Tr.of {t : TypeId} {v : Value} {d : DataW H} {p : List MemPlace} {ts : List TypeId} {ds : List (DataW H)} (h : DataW.Trod enc P W 0 (fun _ => true) true t v d p) (j : Nat) (ht : ts[j]? = some t) (hd : ds[j]? = some d)
    (hs : (DataW.weightsEach P ts ds).all (· ≤ reachBytes) = true) : Tr enc P W t v.cells.toList d := by
  obtain ⟨fuel, hf⟩ := h
  refine ⟨⟨fuel, p, hf⟩, fun n hn => ?_⟩
  have := List.all_eq_true.1 hs n (DataW.weights_mem_each ht hd n hn)
  exact of_decide_eq_true this

theorem Tr.int {t : TypeId} {k : IntKind} {cs : List Value} {d : DataW H} (hu : P.underlying t = some (.int k)) (h : Tr enc P W t cs d) : ∃ n, cs = [.int k n] ∧ d = .lit (.int k n) ∧ (Lit.int k n).wf = true := by
  obtain ⟨⟨fuel, ps, hf⟩, _⟩ := h
  obtain ⟨n, hc, hx, hw⟩ := DataW.trod_int hu hf
  exact ⟨n, hc, (Prod.mk.inj hx).1, hw⟩
theorem Tr.bool {t : TypeId} {cs : List Value} {d : DataW H} (hu : P.underlying t = some .bool) (h : Tr enc P W t cs d) : ∃ b, cs = [.bool b] ∧ d = .lit (.bool b) := by
  obtain ⟨⟨fuel, ps, hf⟩, _⟩ := h
  obtain ⟨b, hc, hx⟩ := DataW.trod_bool hu hf
  exact ⟨b, hc, (Prod.mk.inj hx).1⟩
theorem Tr.string {t : TypeId} {cs : List Value} {d : DataW H} (hu : P.underlying t = some .string) (h : Tr enc P W t cs d) : ∃ s : ByteArray, cs = [.string s] ∧ d = .lit (.string s.data.toList) ∧ s.size ≤ 140737488351232 := by
  obtain ⟨⟨fuel, ps, hf⟩, hw⟩ := h
  obtain ⟨s, hc, hx, _⟩ := DataW.trod_string hu hf
  obtain rfl := (Prod.mk.inj hx).1
  refine ⟨s, hc, rfl, ?_⟩
  have := hw s.data.toList.length (by simp [DataW.weights])
  rwa [Array.length_toList] at this

theorem weightsEach_get {P : Program} {ts : List TypeId} {ds : List (DataW H)} {j : Nat} {t : TypeId} {d : DataW H} (ht : ts[j]? = some t) (hd : ds[j]? = some d) : ∀ n ∈ d.weights P t, n ∈ DataW.weightsEach P ts ds :=
  DataW.weights_mem_each ht hd
theorem weightsAll_get {P : Program} {e : TypeId} : ∀ {ds : List (DataW H)} {j : Nat} {d : DataW H}, ds[j]? = some d → ∀ n ∈ d.weights P e, n ∈ DataW.weightsAll P e ds
  | [], _, _, hd, _, _ => by simp at hd
  | d0 :: ds, 0, d, hd, n, hn => by
    simp at hd
    subst hd
    simp only [DataW.weightsAll, List.mem_append]
    exact .inl hn
  | d0 :: ds, j + 1, d, hd, n, hn => by
    simp only [DataW.weightsAll, List.mem_append]
    exact .inr (weightsAll_get (by simpa using hd) n hn)

/-- A struct: its parts, each with its cells. -/
theorem Tr.struct {t : TypeId} {fs : Array Field} {cs : List Value} {d : DataW H} (hu : P.underlying t = some (.struct fs)) (h : Tr enc P W t cs d) :
    ∃ ds, d = .agg ds ∧ ds.length = fs.size ∧ cs.length = P.cellsOf t ∧ ∀ (i : Nat) (f : Field), fs[i]? = some f → ∃ di, ds[i]? = some di ∧ Tr enc P W f.type ((cs.drop f.offset).take (P.cellsOf f.type)) di := by
  obtain ⟨⟨fuel, ps, hf⟩, hw⟩ := h
  obtain ⟨xs, n, _, hx, hl, hlen, hfi⟩ := DataW.trod_struct hu hf
  obtain rfl := (Prod.mk.inj hx).1
  refine ⟨xs.map (·.1), rfl, by simpa using hlen, hl, fun i f hf' => ?_⟩
  have hi : i < xs.length := by rw [hlen]; exact (Array.getElem?_eq_some_iff.1 hf').1
  have h1 := hfi i f hf'
  rw [List.getElem?_eq_getElem hi] at h1
  refine ⟨xs[i].1, by simp [List.getElem?_eq_getElem hi], ⟨n, xs[i].2, h1⟩, fun m hm => hw m ?_⟩
  simp only [DataW.weights, hu]
  refine weightsEach_get (j := i) ?_ (by simp [List.getElem?_eq_getElem hi]) m hm
  have hft : fs.toList[i]? = some f := by rw [Array.getElem?_toList]; exact hf'
  simp [hft]

/-- A slice: so many elements, each with its cells. -/
theorem Tr.slice {t e : TypeId} {cs : List Value} {d : DataW H} (hu : P.underlying t = some (.slice e)) (hpos : 0 < P.cellsOf e) (h : Tr enc P W t cs d) :
    ∃ A n c ds sp, cs = [.slice A n c] ∧ ds.length = n ∧ n ≤ c ∧ c ≤ maxLen ∧ n * P.bytesOf e ≤ 140737488351232 ∧ (d = .slice ds sp ∨ d = .nil ∧ ds = []) ∧
      ∀ i, i < n → ∃ b off es di, A = some ⟨b, off, none⟩ ∧ b < W.heap.size ∧ ds[i]? = some di ∧ Tr enc P W e es di ∧ es.length = P.cellsOf e ∧ ∀ j u, es[j]? = some u → W.cell? ⟨b, off + i * P.cellsOf e + j, none⟩ = some u := by
  obtain ⟨⟨fuel, ps, hf⟩, hw⟩ := h
  rcases DataW.trod_slice hu hf with ⟨hc, hx⟩ | ⟨a, len, cap, elems, rest, n, _, hc, hx, _, hl, hm, hlen, hel, _, _⟩
  · obtain rfl := (Prod.mk.inj hx).1
    exact ⟨none, 0, 0, [], [], hc, rfl, Nat.le_refl _, Nat.zero_le _, by simp, .inr ⟨rfl, rfl⟩, fun i hi => absurd hi (by omega)⟩
  · obtain rfl := (Prod.mk.inj hx).1
    refine ⟨some a, len, cap, elems.map (·.1), rest.map (·.1), hc, by simpa using hlen, hl, hm, ?_, .inl rfl, fun i hi => ?_⟩
    · have h1 := hw (((elems.map (·.1)).length + (rest.map (·.1)).length) * P.bytesOf e) (by simp [DataW.weights, hu])
      simp only [List.length_map, hlen] at h1
      exact Nat.le_trans (Nat.mul_le_mul_right _ (by omega)) h1
    · have h1 := hel i hi
      have hil : i < elems.length := by omega
      rw [List.getElem?_eq_getElem hil] at h1
      obtain ⟨es, hes, htr⟩ := Option.bind_eq_some_iff.1 h1
      obtain ⟨_, hcells⟩ := World.cells?_some hes
      have hlen2 : es.length = P.cellsOf e := hcells.1
      have h0 := hel 0 (by omega)
      rw [List.getElem?_eq_getElem (show 0 < elems.length by omega)] at h0
      obtain ⟨es0, hes0, _⟩ := Option.bind_eq_some_iff.1 h0
      obtain ⟨_, hlen0, hcells0⟩ := World.cells?_some hes0
      have hc0 : W.cell? a = some es0[0] := by
        have := hcells0 0 (by omega)
        rw [List.getElem?_eq_getElem (by omega)] at this
        simpa [Addr.add] using this
      have hspot := World.cell?_spot hc0
      obtain ⟨b, off, spot⟩ := a
      have hsp : spot = none := hspot
      subst hsp
      have hadd : ∀ j, ((⟨b, off, none⟩ : Addr).add (i * P.cellsOf e)).add j = ⟨b, off + i * P.cellsOf e + j, none⟩ := by
        intro j
        unfold Addr.add
        split <;> split <;> simp_all <;> omega
      refine ⟨b, off, es, elems[i].1, rfl, ?_, by simp [List.getElem?_eq_getElem hil], ⟨⟨n, elems[i].2, htr⟩, fun m hm' => hw m ?_⟩, hlen2, fun j u hu' => ?_⟩
      · exact World.block_lt_of_cell? W _ hc0
      · simp only [DataW.weights, hu]
        refine List.mem_cons_of_mem _ (List.mem_append_left _ (weightsAll_get (j := i) (by simp [List.getElem?_eq_getElem hil]) m hm'))
      · have hj : j < P.cellsOf e := by
          have := (List.getElem?_eq_some_iff.1 hu').1
          omega
        have := hcells.2 j hj
        rw [hadd, hu'] at this
        exact this

/-- A slice of bytes. -/
theorem Tr.bytes {t e : TypeId} {cs : List Value} {d : DataW H} (hu : P.underlying t = some (.slice e)) (he : P.underlying e = some (.int .u8)) (hc1 : P.cellsOf e = 1) (hb1 : P.bytesOf e = 1) (h : Tr enc P W t cs d) :
    ∃ A n c l, cs = [.slice A n c] ∧ Rd W A n c l ∧ n ≤ 140737488351232 ∧ (0 < n → ∀ b, b ∈ ob A → b < W.heap.size) ∧ (∃ ds sp, ds.length = n ∧ (d = .slice ds sp ∨ d = .nil ∧ n = 0)) := by
  obtain ⟨A, n, c, ds, sp, rfl, hlen, hnc, hcm, hby, hd, hel⟩ := h.slice hu (by omega)
  rw [hc1] at hel
  rw [hb1, Nat.mul_one] at hby
  have each : ∀ i, i < n → ∃ (x : UInt8) (b off : Nat), A = some ⟨b, off, none⟩ ∧ b < W.heap.size ∧ W.cell? ⟨b, off + i, none⟩ = some (u8 x) := by
    intro i hi
    obtain ⟨b, off, es, di, hA, hlt, _, htr, _, hcell⟩ := hel i hi
    obtain ⟨m, rfl, _, hwf⟩ := htr.int he
    have hm : 0 ≤ m ∧ m < 256 := by
      simp [Lit.wf, IntKind.min, IntKind.max, IntKind.signed, IntKind.bits] at hwf
      omega
    refine ⟨UInt8.ofNat m.toNat, b, off, hA, hlt, ?_⟩
    have := hcell 0 _ rfl
    simp only [Nat.mul_one, Nat.add_zero] at this
    rw [this, u8]
    congr 2
    simp
    omega
  refine ⟨A, n, c, (List.range n).map fun i => if h : i < n then (each i h).choose else 0, rfl, ⟨by simp, hnc, fun hp => ?_⟩, hby, fun hn b hb => ?_, ds, sp, hlen, ?_⟩
  · have hn : 0 < n := by simpa using hp
    obtain ⟨_, b, off, rfl, hlt, _⟩ := each 0 hn
    refine ⟨b, off, rfl, fun j u hu' => ?_⟩
    have hj : j < n := by
      have := (List.getElem?_eq_some_iff.1 hu').1
      simpa using this
    obtain ⟨b', off', hA', _, hcell'⟩ := (each j hj).choose_spec
    have e1 : b' = b ∧ off' = off := by
      injection hA' with h1
      injection h1 with h2 h3 _
      exact ⟨h2.symm, h3.symm⟩
    rw [e1.1, e1.2] at hcell'
    rw [hcell', ← hu']
    simp [hj]
  · obtain ⟨_, b', off, rfl, hlt, _⟩ := each 0 hn
    obtain rfl : b = b' := by simpa [ob] using hb
    exact hlt
  · rcases hd with h1 | ⟨h1, h2⟩
    · exact .inl h1
    · subst h2
      exact .inr ⟨h1, hlen.symm⟩

/-! ### the row's end -/
theorem trodAll_below {W' : World} (hl : laidOutB P = true) (hb : Below W.heap.size W W') : ∀ {ts : List TypeId} {vs : List Value} {ds : List (DataW H)} {ps : List MemPlace},
    ts.all (fun t => P.readableRec t && decide (t < P.types.size)) = true → DataW.TrodAll enc P W 0 (fun _ => true) true ts vs ds ps → DataW.TrodAll enc P W' 0 (fun b => decide (b < W.heap.size)) true ts vs ds ps
  | [], [], [], _, _, h => h
  | [], [], _ :: _, _, _, h => h.elim
  | [], _ :: _, _, _, _, h => h.elim
  | _ :: _, [], _, _, _, h => h.elim
  | _ :: _, _ :: _, [], _, _, h => h.elim
  | t :: ts, v :: vs, d :: ds, ps, hr, h => by
    simp only [List.all_cons, Bool.and_eq_true, decide_eq_true_eq] at hr
    obtain ⟨p, q, h1, h2, e⟩ := h
    have hlt : ∀ x ∈ p, x.block < W.heap.size := by obtain ⟨m, hm⟩ := h1; exact DataW.trod_lt m _ _ _ hm
    exact ⟨p, q, Below.trod hl hr.1.1 hr.1.2 h1 hb hlt, trodAll_below hl hb hr.2 h2, e⟩
end
end Go.Proofs.Ytkmcakneceagpaa

namespace Go.Proofs.Ytkmcakneceagpaa
open Go.ChangeShapes Go.WideShapes Go.ChangeAt Go.RowKit

/-- a frame's cells -/
structure Fr where
  ty : Int
  fl : Int
  st : Int
  pA : Option Addr
  pn : Nat
  pc : Nat
  pad : Int
  code : Int
  last : Int
  inc : Int
  dep : Int
  only : Bool
  wt : Int
  sA : Option Addr
  sn : Nat
  sc : Nat
@[reducible] def Fr.cells (f : Fr) : List Value := [.int .i64 f.ty, .int .i64 f.fl, .int .i64 f.st, .slice f.pA f.pn f.pc, .int .i64 f.pad, .int .u32 f.code, .int .i64 f.last, .int .i64 f.inc, .int .i64 f.dep, .bool f.only, .int .i64 f.wt, .slice f.sA f.sn f.sc]
/-- an int's range -/
@[reducible] def I64 (x : Int) : Prop := -9223372036854775808 ≤ x ∧ x ≤ 9223372036854775807
@[reducible] def U32 (x : Int) : Prop := 0 ≤ x ∧ x < 4294967296
theorem I64.of {x : Int} (h : (Lit.int .i64 x).wf = true) : I64 x := by
  simp [Lit.wf, IntKind.min, IntKind.max, IntKind.signed, IntKind.bits] at h
  exact ⟨by omega, by omega⟩
theorem U32.of {x : Int} (h : (Lit.int .u32 x).wf = true) : U32 x := by
  simp [Lit.wf, IntKind.min, IntKind.max, IntKind.signed, IntKind.bits] at h
  exact ⟨by omega, by omega⟩
/-- settings that are read: n of them -/
structure Sd (w : World) (A : Option Addr) (n c : Nat) (ss : List (Int × Int)) : Prop where
  len : ss.length = n
  cap : n ≤ c
  at_ : 0 < n → ∃ b off, A = some ⟨b, off, none⟩ ∧ b < w.heap.size ∧ ∀ i, i < n → w.cell? ⟨b, off + i * 2, none⟩ = some (.int .i64 (ss.getD i (0, 0)).1) ∧ w.cell? ⟨b, off + i * 2 + 1, none⟩ = some (.int .u32 (ss.getD i (0, 0)).2)
  val : ∀ i, U32 (ss.getD i (0, 0)).2
/-- what is known of a frame that came in: l are its payload's bytes, ss its settings -/
structure FrOk (w : World) (f : Fr) (l : List UInt8) (ss : List (Int × Int)) : Prop where
  ty : I64 f.ty
  fl : I64 f.fl
  st : I64 f.st
  rd : Rd w f.pA f.pn f.pc l
  pn : f.pn ≤ 140737488351232
  plt : 0 < f.pn → ∀ b, b ∈ ob f.pA → b < w.heap.size
  pad : I64 f.pad
  code : U32 f.code
  last : I64 f.last
  inc : I64 f.inc
  dep : I64 f.dep
  wt : I64 f.wt
  sd : Sd w f.sA f.sn f.sc ss
  sn : f.sn * 16 ≤ 140737488351232
theorem Sd.below {B : Nat} {w w' : World} {A : Option Addr} {n c : Nat} {ss : List (Int × Int)} (h : Sd w A n c ss) (k : Below B w w') (hB : 0 < n → ∀ b, b ∈ ob A → b < B) : Sd w' A n c ss :=
  ⟨h.len, h.cap, fun hn => by
    obtain ⟨b, off, rfl, hlt, hc⟩ := h.at_ hn
    have hb : b < B := hB hn b (by simp [ob])
    have := k.size
    exact ⟨b, off, rfl, by omega, fun i hi => ⟨(k.cell (p := ⟨b, off + i * 2, none⟩) hb).trans (hc i hi).1, (k.cell (p := ⟨b, off + i * 2 + 1, none⟩) hb).trans (hc i hi).2⟩⟩, h.val⟩
theorem Sd.keep {T : List Nat} {w w' : World} {A : Option Addr} {n c : Nat} {ss : List (Int × Int)} (h : Sd w A n c ss) (k : Kp T w w') (hS : 0 < n → ∀ b, b ∈ ob A → b ∉ T) : Sd w' A n c ss :=
  ⟨h.len, h.cap, fun hn => by
    obtain ⟨b, off, rfl, hlt, hc⟩ := h.at_ hn
    have hb := hS hn b (by simp [ob])
    have := k.size
    exact ⟨b, off, rfl, by omega, fun i hi => ⟨k.cell (hc i hi).1 hb, k.cell (hc i hi).2 hb⟩⟩, h.val⟩
section
variable {H : Type} {enc : TypeId × Value → H} {W : World}

theorem len2 {α : Type} {cs : List α} (h : cs.length = 2) : ∃ u v, cs = [u, v] := by
  rcases cs with _ | ⟨a, _ | ⟨b, _ | ⟨c, t⟩⟩⟩ <;> simp at h ⊢
theorem Tr.sets {cs : List Value} {d : DataW H} (h : Tr enc Try.prog W 47 cs d) : ∃ A n c ss, cs = [.slice A n c] ∧ Sd W A n c ss ∧ n * 16 ≤ 140737488351232 := by
  obtain ⟨A, n, c, ds, sp, rfl, hlen, hnc, hcm, hby, hd, hel⟩ := h.slice Try.underlying47 (by rw [show Try.prog.cellsOf 197 = 2 by kernel_rfl]; omega)
  have hce : Try.prog.cellsOf 197 = 2 := by kernel_rfl
  have hbe : Try.prog.bytesOf 197 = 16 := by kernel_rfl
  rw [hce] at hel
  rw [hbe] at hby
  have each : ∀ i, i < n → ∃ (x y : Int) (b off : Nat), A = some ⟨b, off, none⟩ ∧ b < W.heap.size ∧ W.cell? ⟨b, off + i * 2, none⟩ = some (.int .i64 x) ∧ W.cell? ⟨b, off + i * 2 + 1, none⟩ = some (.int .u32 y) ∧ U32 y := by
    intro i hi
    obtain ⟨b, off, es, di, hA, hlt, _, htr, hl, hcell⟩ := hel i hi
    obtain ⟨dd, _, _, _, parts⟩ := htr.struct Try.underlying197
    obtain ⟨u, v, rfl⟩ : ∃ u v, es = [u, v] := by
      exact len2 hl
    obtain ⟨d0, _, t0⟩ := parts 0 _ rfl
    obtain ⟨d1, _, t1⟩ := parts 1 _ rfl
    have hc3 : Try.prog.cellsOf 3 = 1 := by kernel_rfl
    have hc4 : Try.prog.cellsOf 23 = 1 := by kernel_rfl
    change Tr enc Try.prog W 3 (List.take (Try.prog.cellsOf 3) [u, v]) d0 at t0
    change Tr enc Try.prog W 23 (List.take (Try.prog.cellsOf 23) [v]) d1 at t1
    rw [hc3] at t0
    rw [hc4] at t1
    change Tr enc Try.prog W 3 [u] d0 at t0
    change Tr enc Try.prog W 23 [v] d1 at t1
    obtain ⟨x, hx, _, _⟩ := t0.int Try.underlying3
    obtain ⟨y, hy, _, wy⟩ := t1.int Try.underlying23
    simp only [List.cons.injEq, and_true] at hx hy
    subst hx hy
    exact ⟨x, y, b, off, hA, hlt, hcell 0 _ rfl, hcell 1 _ rfl, .of wy⟩
  refine ⟨A, n, c, (List.range n).map fun i => if h : i < n then ((each i h).choose, (each i h).choose_spec.choose) else (0, 0), rfl, ⟨by simp, hnc, fun hp => ?_, fun i => ?_⟩, hby⟩
  rotate_left
  · by_cases hi : i < n
    · have := (each i hi).choose_spec.choose_spec.choose_spec.choose_spec.2.2.2.2
      simpa [List.getD, hi] using this
    · simp [List.getD, hi]
      exact ⟨by omega, by omega⟩
  obtain ⟨_, _, b, off, rfl, hlt, _⟩ := each 0 hp
  refine ⟨b, off, rfl, hlt, fun i hi => ?_⟩
  obtain ⟨b', off', hA', _, h1, h2, _⟩ := (each i hi).choose_spec.choose_spec
  have e1 : b' = b ∧ off' = off := by
    injection hA' with h1
    injection h1 with h2 h3 _
    exact ⟨h2.symm, h3.symm⟩
  rw [e1.1, e1.2] at h1 h2
  rw [h1, h2]
  simp [List.getD, hi]

theorem len12 {α : Type} {cs : List α} (h : cs.length = 12) : ∃ x0 x1 x2 x3 x4 x5 x6 x7 x8 x9 x10 x11, cs = [x0, x1, x2, x3, x4, x5, x6, x7, x8, x9, x10, x11] := by
  rcases cs with _ | ⟨y0, _ | ⟨y1, _ | ⟨y2, _ | ⟨y3, _ | ⟨y4, _ | ⟨y5, _ | ⟨y6, _ | ⟨y7, _ | ⟨y8, _ | ⟨y9, _ | ⟨y10, _ | ⟨y11, _ | ⟨y12, t⟩⟩⟩⟩⟩⟩⟩⟩⟩⟩⟩⟩⟩ <;> simp at h ⊢
set_option maxHeartbeats 1000000 in
theorem Tr.frame {cs : List Value} {d : DataW H} (h : Tr enc Try.prog W 49 cs d) : ∃ f l ss, cs = Fr.cells f ∧ FrOk W f l ss := by
  obtain ⟨ds, _, _, hl, parts⟩ := h.struct Try.underlying49
  have hcf : Try.prog.cellsOf 49 = 12 := by kernel_rfl
  have hc1 : Try.prog.cellsOf 3 = 1 := by kernel_rfl
  have hc2 : Try.prog.cellsOf 23 = 1 := by kernel_rfl
  have hc3 : Try.prog.cellsOf 4 = 1 := by kernel_rfl
  have hc4 : Try.prog.cellsOf 22 = 1 := by kernel_rfl
  have hc5 : Try.prog.cellsOf 47 = 1 := by kernel_rfl
  rw [hcf] at hl
  obtain ⟨x0, x1, x2, x3, x4, x5, x6, x7, x8, x9, x10, x11, rfl⟩ : ∃ x0 x1 x2 x3 x4 x5 x6 x7 x8 x9 x10 x11, cs = [x0, x1, x2, x3, x4, x5, x6, x7, x8, x9, x10, x11] := by
    exact len12 hl
  obtain ⟨_, _, t0⟩ := parts 0 _ rfl
  obtain ⟨_, _, t1⟩ := parts 1 _ rfl
  obtain ⟨_, _, t2⟩ := parts 2 _ rfl
  obtain ⟨_, _, t3⟩ := parts 3 _ rfl
  obtain ⟨_, _, t4⟩ := parts 4 _ rfl
  obtain ⟨_, _, t5⟩ := parts 5 _ rfl
  obtain ⟨_, _, t6⟩ := parts 6 _ rfl
  obtain ⟨_, _, t7⟩ := parts 7 _ rfl
  obtain ⟨_, _, t8⟩ := parts 8 _ rfl
  obtain ⟨_, _, t9⟩ := parts 9 _ rfl
  obtain ⟨_, _, t10⟩ := parts 10 _ rfl
  obtain ⟨_, _, t11⟩ := parts 11 _ rfl
  change Tr enc Try.prog W 3 (List.take (Try.prog.cellsOf 3) [x0, x1, x2, x3, x4, x5, x6, x7, x8, x9, x10, x11]) _ at t0
  rw [hc1] at t0
  change Tr enc Try.prog W 3 [x0] _ at t0
  change Tr enc Try.prog W 3 (List.take (Try.prog.cellsOf 3) [x1, x2, x3, x4, x5, x6, x7, x8, x9, x10, x11]) _ at t1
  rw [hc1] at t1
  change Tr enc Try.prog W 3 [x1] _ at t1
  change Tr enc Try.prog W 3 (List.take (Try.prog.cellsOf 3) [x2, x3, x4, x5, x6, x7, x8, x9, x10, x11]) _ at t2
  rw [hc1] at t2
  change Tr enc Try.prog W 3 [x2] _ at t2
  change Tr enc Try.prog W 22 (List.take (Try.prog.cellsOf 22) [x3, x4, x5, x6, x7, x8, x9, x10, x11]) _ at t3
  rw [hc4] at t3
  change Tr enc Try.prog W 22 [x3] _ at t3
  change Tr enc Try.prog W 3 (List.take (Try.prog.cellsOf 3) [x4, x5, x6, x7, x8, x9, x10, x11]) _ at t4
  rw [hc1] at t4
  change Tr enc Try.prog W 3 [x4] _ at t4
  change Tr enc Try.prog W 23 (List.take (Try.prog.cellsOf 23) [x5, x6, x7, x8, x9, x10, x11]) _ at t5
  rw [hc2] at t5
  change Tr enc Try.prog W 23 [x5] _ at t5
  change Tr enc Try.prog W 3 (List.take (Try.prog.cellsOf 3) [x6, x7, x8, x9, x10, x11]) _ at t6
  rw [hc1] at t6
  change Tr enc Try.prog W 3 [x6] _ at t6
  change Tr enc Try.prog W 3 (List.take (Try.prog.cellsOf 3) [x7, x8, x9, x10, x11]) _ at t7
  rw [hc1] at t7
  change Tr enc Try.prog W 3 [x7] _ at t7
  change Tr enc Try.prog W 3 (List.take (Try.prog.cellsOf 3) [x8, x9, x10, x11]) _ at t8
  rw [hc1] at t8
  change Tr enc Try.prog W 3 [x8] _ at t8
  change Tr enc Try.prog W 4 (List.take (Try.prog.cellsOf 4) [x9, x10, x11]) _ at t9
  rw [hc3] at t9
  change Tr enc Try.prog W 4 [x9] _ at t9
  change Tr enc Try.prog W 3 (List.take (Try.prog.cellsOf 3) [x10, x11]) _ at t10
  rw [hc1] at t10
  change Tr enc Try.prog W 3 [x10] _ at t10
  change Tr enc Try.prog W 47 (List.take (Try.prog.cellsOf 47) [x11]) _ at t11
  rw [hc5] at t11
  change Tr enc Try.prog W 47 [x11] _ at t11
  obtain ⟨n0, e0, _, w0⟩ := t0.int Try.underlying3
  obtain ⟨n1, e1, _, w1⟩ := t1.int Try.underlying3
  obtain ⟨n2, e2, _, w2⟩ := t2.int Try.underlying3
  obtain ⟨pA, pn, pc, l, e3, rd, le, plt, _⟩ := t3.bytes Try.underlying22 Try.underlying5 (by kernel_rfl) (by kernel_rfl)
  obtain ⟨n4, e4, _, w4⟩ := t4.int Try.underlying3
  obtain ⟨n5, e5, _, w5⟩ := t5.int Try.underlying23
  obtain ⟨n6, e6, _, w6⟩ := t6.int Try.underlying3
  obtain ⟨n7, e7, _, w7⟩ := t7.int Try.underlying3
  obtain ⟨n8, e8, _, w8⟩ := t8.int Try.underlying3
  obtain ⟨n9, e9, _⟩ := t9.bool Try.underlying4
  obtain ⟨n10, e10, _, w10⟩ := t10.int Try.underlying3
  obtain ⟨sA, sn, sc, ss, e11, sd, hs⟩ := t11.sets
  simp only [List.cons.injEq, and_true] at e0 e1 e2 e3 e4 e5 e6 e7 e8 e9 e10 e11
  subst e0 e1 e2 e3 e4 e5 e6 e7 e8 e9 e10 e11
  exact ⟨⟨n0, n1, n2, pA, pn, pc, n4, n5, n6, n7, n8, n9, n10, sA, sn, sc⟩, l, ss, rfl, ⟨.of w0, .of w1, .of w2, rd, le, plt, .of w4, .of w5, .of w6, .of w7, .of w8, .of w10, sd, hs⟩⟩
end
end Go.Proofs.Ytkmcakneceagpaa

namespace Go.Proofs.Ytkmcakneceagpaa
open Go.RowKit

/-- a frame without memory -/
structure Fp where
  ty : Int
  fl : Int
  st : Int
  pl : List UInt8
  pad : Int
  code : Int
  last : Int
  inc : Int
  dep : Int
  only : Bool
  wt : Int
  ss : List (Int × Int)
def Fp.zero : Fp := ⟨0, 0, 0, [], 0, 0, 0, 0, 0, false, 0, []⟩

def idB (n : Int) : Bool := decide (0 ≤ n) && decide (n ≤ 2147483647)
def hasB (fl k : Int) : Bool := decide (fl / k % 2 = 1)
def paddedB (ty : Int) : Bool := decide (ty = 0) || decide (ty = 1) || decide (ty = 5)
def zeroB (ty : Int) : Bool := decide (ty = 4) || decide (ty = 6) || decide (ty = 7)
def rightB (ty st : Int) : Bool := decide (ty = 8) || (zeroB ty == decide (st = 0))
def prioB (ty fl : Int) : Bool := decide (ty = 2) || (decide (ty = 1) && hasB fl 32)
/-- is a frame padded? -/
def padF (ty fl : Int) : Bool := paddedB ty && hasB fl 8
def setsB (fl : Int) (ss : List (Int × Int)) : Bool := ss.all (fun s => decide (0 ≤ s.1) && decide (s.1 < 65536)) && (ss.isEmpty || !hasB fl 1)
/-- what a type asks of the frame that is written -/
def mayK (p : Fp) : Bool :=
  if p.ty = 6 then decide (p.pl.length = 8) else if p.ty = 8 then decide (1 ≤ p.inc) && decide (p.inc ≤ 2147483647) else if p.ty = 5 ∨ p.ty = 7 then idB p.last else if p.ty = 4 then setsB p.fl p.ss else true
def padOk (p : Fp) : Bool := !paddedB p.ty || (decide (0 ≤ p.pad) && decide (p.pad ≤ 255) && (decide (p.pad ≤ 0) || hasB p.fl 8))
def prioOk (p : Fp) : Bool := !prioB p.ty p.fl || (idB p.dep && decide (1 ≤ p.wt) && decide (p.wt ≤ 256))
def known (ty : Int) : Bool := decide (0 ≤ ty) && decide (ty ≤ 9)
def goodW (p : Fp) : Bool := known p.ty && (decide (0 ≤ p.fl) && decide (p.fl ≤ 255)) && idB p.st && rightB p.ty p.st && mayK p && padOk p && prioOk p
/-- one setting's bytes -/
def setW (s : Int × Int) : List UInt8 := bytesOf s.1.toNat 2 ++ bytesOf s.2.toNat 4
/-- what a type puts -/
def putW (p : Fp) : List UInt8 :=
  if p.ty = 2 then [] else if p.ty = 3 then bytesOf p.code.toNat 4 else if p.ty = 4 then p.ss.flatMap setW else if p.ty = 5 then bytesOf p.last.toNat 4 ++ p.pl
  else if p.ty = 7 then bytesOf p.last.toNat 4 ++ bytesOf p.code.toNat 4 ++ p.pl else if p.ty = 8 then bytesOf p.inc.toNat 4 else p.pl
def byteOf (n : Int) : UInt8 := UInt8.ofNat (n % 256).toNat
def prioW (p : Fp) : List UInt8 := bytesOf (p.dep.toNat + if p.only then 2147483648 else 0) 4 ++ [byteOf (p.wt - 1)]
def bodyW (p : Fp) : List UInt8 :=
  (if padF p.ty p.fl then [byteOf p.pad] else []) ++ (if prioB p.ty p.fl then prioW p else []) ++ putW p ++ (if padF p.ty p.fl then List.replicate p.pad.toNat 0 else [])
/-- what Write answers -/
def wr (p : Fp) : List UInt8 × Int :=
  if goodW p then (if (bodyW p).length < 16777216 then (bytesOf (bodyW p).length 3 ++ [byteOf p.ty, byteOf p.fl] ++ bytesOf p.st.toNat 4 ++ bodyW p, 0) else ([], 2)) else ([], 1)
theorem wr_bad {p : Fp} (h : goodW p = false) : wr p = ([], 1) := by simp [wr, h]
theorem u8_byteOf {n : Int} (h0 : 0 ≤ n) (h1 : n ≤ 255) : (byteOf n).toNat = n.toNat ∧ ((byteOf n).toNat : Int) = n := by
  have h : (byteOf n).toNat = n.toNat := by
    unfold byteOf
    rw [UInt8.toNat_ofNat']
    omega
  exact ⟨h, by rw [h]; omega⟩
theorem flat_len (ss : List (Int × Int)) : (ss.flatMap setW).length = 6 * ss.length := by
  induction ss with
  | nil => rfl
  | cons s r ih => simp only [List.flatMap_cons, List.length_append, ih, List.length_cons, setW, bytesOf_length]; omega
theorem wr_ok {p : Fp} {B : List UInt8} (h : goodW p = true) (hB : bodyW p = B) (hl : B.length < 16777216) : wr p = (bytesOf B.length 3 ++ [byteOf p.ty, byteOf p.fl] ++ bytesOf p.st.toNat 4 ++ B, 0) := by simp [wr, h, hB, hl]
theorem wr_long {p : Fp} {B : List UInt8} (h : goodW p = true) (hB : bodyW p = B) (hl : ¬ B.length < 16777216) : wr p = ([], 2) := by simp [wr, h, hB, hl]
set_option maxRecDepth 100000 in
theorem bits_has (fl : Int) (h0 : 0 ≤ fl) (h1 : fl ≤ 255) : (bits .and .i64 fl 1 != 0) = hasB fl 1 ∧ (bits .and .i64 fl 8 != 0) = hasB fl 8 ∧ (bits .and .i64 fl 32 != 0) = hasB fl 32 ∧ (bits .and .i64 fl 4 != 0) = hasB fl 4 := by
  obtain ⟨n, rfl⟩ := Int.eq_ofNat_of_zero_le h0
  have hn : n < 256 := by omega
  have : ∀ n : Fin 256, (bits .and .i64 (n.val : Int) 1 != 0) = hasB n.val 1 ∧ (bits .and .i64 (n.val : Int) 8 != 0) = hasB n.val 8 ∧ (bits .and .i64 (n.val : Int) 32 != 0) = hasB n.val 32 ∧ (bits .and .i64 (n.val : Int) 4 != 0) = hasB n.val 4 := by decide
  exact this ⟨n, hn⟩
end Go.Proofs.Ytkmcakneceagpaa

namespace Go.Proofs.Ytkmcakneceagpaa
open Go.RowKit

theorem zeroCells_u8 (k : Nat) : Builtin.zeroCells (Value.cells (.int .u8 0)) k = ((List.replicate k (0 : UInt8)).map u8).toArray := by
  apply Array.ext
  · simp [Builtin.zeroCells, Value.cells]
  · intro i h1 h2
    simp [Builtin.zeroCells, Value.cells, u8, Nat.mod_one]

theorem run_appZ {P : Program} (w : World) (t ti ty e : TypeId) (ht : P.underlying t = some (.slice e)) (hti : P.underlying ti = some (.int .i64)) (hi : (P.info? e).map (fun i => (i.zero, i.size, i.bytes)) = some (some (.int .u8 0), 1, 1))
    (base : Nat) (A : Option Addr) (n c : Nat) (l : List UInt8) (HO : Ow w base e 1 A n c (l.map u8)) (k : Nat) (hlen : n + k ≤ 211106232532992) (hbase : base ≤ w.heap.size) :
    ∃ A' c' w', (Builtin.append_ #[t, ti] ty #[.slice A n c, .int .i64 k]).run P w = .ok (.slice A' (n + k) c') w' ∧ Ow w' base e 1 A' (n + k) c' ((l ++ List.replicate k 0).map u8) ∧ Kp (ob A) w w' := by
  obtain ⟨i, hi, hz, hsize, hby⟩ := info_parts hi
  have hl : l.length = n := by have := HO.len; simpa using this
  have hw : IntKind.i64.wrap (k : Int) = (k : Int) := by apply IntWalk.i64_in <;> omega
  have hk0 : ¬ ((k : Int) < 0) := by omega
  have hw0 : IntKind.i64.wrap 0 = 0 := by decide
  have hk48 : ¬ (281474976710656 < (k : Int)) := by omega
  have hmap : (l ++ List.replicate k 0).map u8 = l.map u8 ++ (List.replicate k (0 : UInt8)).map u8 := by rw [List.map_append]
  have hzl : ((List.replicate k (0 : UInt8)).map u8).length = k := by simp
  have hlen2 : (l.map u8 ++ (List.replicate k (0 : UInt8)).map u8).length = (n + k) * 1 := by simp [hl]
  rw [hmap]
  have hmx : n + k ≤ maxLen := by simp only [maxLen]; omega
  have hnx : ∀ old, old < n + k → ¬ (281474976710656 < Builtin.nextslicecap (n + k) old) := fun old ho => by
    have := growslice_fits_wide (bytes := 1) ho (by omega)
    omega
  have h63 : ¬ (9223372036854775807 < (n : Int) + (k : Int)) := by omega
  rcases HO.2 with ⟨he, h0⟩ | ⟨g, cap, cur, he, hbg, hg, hnc, hcm, hcs, htake⟩
  · injection he with h1' _ h3'
    subst h1' h3' h0
    by_cases hk : k = 0
    · subst hk
      refine ⟨none, 0, w, ?_, by simpa using HO, Kp.refl _ _⟩
      simp [Builtin.append_, asInt, asIntOf, hw0, run_underlying ht, run_underlying hti, sizeOf, typeInfo, hi, hsize, hw, hby]
    · simp only [Nat.zero_add] at hlen hlen2 hmx hnx ⊢
      have hz0 : ¬ (k ≤ 0) := by omega
      refine ⟨some ⟨w.heap.size, 0, none⟩, grownCap w k 0 e, w.drew.alloc (.cells (#[] ++ ((List.replicate k (0 : UInt8)).map u8).toArray ++ Builtin.zeroCells (Value.cells (.int .u8 0)) (grownCap w k 0 e - k)) e), ?_, ?_, (Kp.refl _ _).drew.alloc _⟩
      · have hn1 := hnx 0 (by omega)
        have hf := run_firstCells_none (P := P) w.drew 1 0 0 0
        simp [Builtin.append_, asInt, asIntOf, hw0, run_underlying ht, run_underlying hti, sizeOf, typeInfo, zeroValue, hi, hz, hsize, hby, hw, hk0, hk48, hk, hz0, hn1, Question.forced, hf, newRow, grownCap, zeroCells_u8]
        omega
      · have hge := grownCap_ge w k 0 e
        refine ⟨by simpa using hlen2, .inr ⟨w.heap.size, _, _, rfl, hbase, heap_alloc_new w.drew _, hge, grownCap_le_maxLen w k 0 e hmx, ?_, ?_⟩⟩
        · simp only [Array.size_append, List.size_toArray, size_zeroCells, hzl]
          simp [Value.cells]
          omega
        · obtain rfl : l = [] := List.eq_nil_of_length_eq_zero hl
          simp only [Array.toList_append]
          simp
  · injection he with h1' _ h3'
    subst h1' h3'
    by_cases hroom : n + k ≤ c
    · refine ⟨some ⟨g, 0, none⟩, c, w.setRow g (cur.toList.take n ++ (List.replicate k (0 : UInt8)).map u8 ++ cur.toList.drop (n + k)).toArray, ?_, ?_, (Kp.refl _ _).setRow (.inl (by simp [ob])) _⟩
      · by_cases hk : k = 0
        · subst hk
          have hset : w.setRow g (cur.toList.take n ++ (List.replicate 0 (0 : UInt8)).map u8 ++ cur.toList.drop (n + 0)).toArray = w := by
            have : (cur.toList.take n ++ (List.replicate 0 (0 : UInt8)).map u8 ++ cur.toList.drop (n + 0)).toArray = cur := by simp
            rw [this]
            exact setRow_self w g cur e (0, 0) hg
          rw [hset]
          simp [Builtin.append_, asInt, asIntOf, hw0, run_underlying ht, run_underlying hti, sizeOf, typeInfo, hi, hsize, hw, hby, hnc, storeCells]
        · have hst := run_storeCells_at P g n e ((List.replicate k (0 : UInt8)).map u8) 0 cur w hg (by simp; omega) (u8_one _)
          simp only [Nat.add_zero, hzl] at hst
          have hzz := zeroCells_u8 k
          simp only [Value.cells] at hzz
          simp [Builtin.append_, asInt, asIntOf, hw0, run_underlying ht, run_underlying hti, sizeOf, typeInfo, zeroValue, hi, hz, hsize, hby, hw, hk0, hk48, hk, hroom, Addr.add_lit, Value.cells, hzz] at hst ⊢
          rw [hst]
          rfl
      · refine ⟨hlen2, .inr ⟨g, c, _, rfl, hbg, setRow_heap w g cur _ e _ hg, hroom, hcm, ?_, ?_⟩⟩
        · simp
          omega
        · rw [show cur.toList.take n = l.map u8 by simpa using htake, ← hlen2]
          exact List.take_left
    · have hkp : k ≠ 0 := by omega
      have holds : ∀ j u, (l.map u8)[j]? = some u → w.drew.cell? ((⟨g, 0, none⟩ : Addr).add j) = some u := fun j u h => by rw [World.cell?_drew]; exact World.ownsRow.cells HO (g := g) rfl j u h
      have hfo := run_firstCells_some (P := P) w.drew 1 n ⟨g, 0, none⟩ n c (l.map u8) (by simp [hl]) holds
      have hn1 := hnx c (by omega)
      refine ⟨some ⟨w.heap.size, 0, none⟩, grownCap w (n + k) c e, w.drew.alloc (.cells ((l.map u8).toArray ++ ((List.replicate k (0 : UInt8)).map u8).toArray ++ Builtin.zeroCells (Value.cells (.int .u8 0)) (grownCap w (n + k) c e - (n + k))) e), ?_, ?_, (Kp.refl _ _).drew.alloc _⟩
      · have hzz := zeroCells_u8 k
        simp only [Value.cells] at hzz
        simp [Builtin.append_, asInt, asIntOf, hw0, run_underlying ht, run_underlying hti, sizeOf, typeInfo, zeroValue, hi, hz, hsize, hby, hw, hk0, hk48, hkp, hroom, h63, hn1, Question.forced, hfo, newRow, grownCap, Value.cells, hzz]
      · have hge := grownCap_ge w (n + k) c e
        refine ⟨hlen2, .inr ⟨w.heap.size, _, _, rfl, hbase, heap_alloc_new w.drew _, hge, grownCap_le_maxLen w (n + k) c e hmx, ?_, ?_⟩⟩
        · simp only [Array.size_append, List.size_toArray, size_zeroCells, hzl]
          simp [Value.cells, hl]
          omega
        · simp only [Array.toList_append]
          rw [← hlen2]
          exact List.take_left

/-- bytes onto a slice without room: a new row -/
theorem run_appF {P : Program} (w : World) (t ty e : TypeId) (ht : P.underlying t = some (.slice e)) (hi : (P.info? e).map (fun i => (i.zero, i.size, i.bytes)) = some (some (.int .u8 0), 1, 1))
    (base : Nat) (A : Option Addr) (n : Nat) (l : List UInt8) (HR : Rd w A n n l) (A2 : Option Addr) (m c2 : Nat) (l2 : List UInt8) (HR2 : Rd w A2 m c2 l2) (hm : 0 < m) (hlen : n + m ≤ 211106232532992) (hbase : base ≤ w.heap.size) (hnil : n = 0 → A = none) :
    ∃ A' c' w', (Builtin.append_ #[t, t] ty #[.slice A n n, .slice A2 m c2]).run P w = .ok (.slice A' (n + m) c') w' ∧ Ow w' base e 1 A' (n + m) c' ((l ++ l2).map u8) ∧ Kp [] w w' ∧ A' = some ⟨w.heap.size, 0, none⟩ := by
  by_cases h0 : n = 0
  · subst h0
    obtain rfl := hnil rfl
    obtain rfl : l = [] := List.eq_nil_of_length_eq_zero HR.len
    obtain ⟨A', c', w', h1, h2, h3, h4, _⟩ := run_app (P := P) w t ty e (.int .u8 0) 1 1 ht hi rfl (by omega) base none 0 0 [] (Ow.nil _ _ _ _) A2 m c2 (l2.map u8) (by simp [HR2.len]) HR2.at_ (u8_one l2) (by simp only [maxLen]; omega) (by omega) hbase
    refine ⟨A', c', w', h1, by simpa using h2, by simpa [ob] using h3, ?_⟩
    rcases h4 with rfl | h4
    · obtain ⟨_, hh⟩ := h2
      rcases hh with ⟨_, hh⟩ | ⟨g, _, _, he, _⟩
      · omega
      · cases he
    · exact h4
  · obtain ⟨i, hi, hz, hsize, hby⟩ := info_parts hi
    obtain ⟨b, off, rfl, hb, hc⟩ := HR.addr (by omega)
    obtain ⟨b2, off2, rfl, hb2, hc2⟩ := HR2.addr hm
    have hl := HR.len
    have hl2 := HR2.len
    have hadd : ∀ (b off j : Nat), (⟨b, off, none⟩ : Addr).add j = ⟨b, off + j, none⟩ := by intro b off j; unfold Addr.add; split <;> simp_all
    have get : ∀ (l : List UInt8) (j : Nat) (u : Value), (l.map u8)[j]? = some u → j < l.length ∧ u = .int .u8 ((l.getD j 0).toNat : Int) := by
      intro l j u h
      rw [List.getElem?_map] at h
      obtain ⟨x, hx, rfl⟩ := Option.map_eq_some_iff.1 h
      have := (List.getElem?_eq_some_iff.1 hx).1
      exact ⟨this, by simp [u8, List.getD_eq_getElem?_getD, hx]⟩
    have hr := run_append_grow (P := P) w t ty e i (.int .u8 0) ht hi hz ⟨b, off, none⟩ n n (l.map u8) (by simp [hl, hsize]) (fun j u h => by obtain ⟨h1, rfl⟩ := get l j u h; rw [hadd]; exact hc j (by omega))
      ⟨b2, off2, none⟩ m c2 (l2.map u8) (by simp [hl2, hsize]) (fun j u h => by obtain ⟨h1, rfl⟩ := get l2 j u h; rw [hadd]; exact hc2 j (by omega)) (by omega) (by omega) (growslice_fits_wide (by omega) (by rw [hby]; omega))
    have hge := grownCap_ge w (n + m) n e
    have hlen2 : ((l ++ l2).map u8).length = (n + m) * 1 := by simp [hl, hl2]
    refine ⟨_, _, _, hr, ⟨hlen2, .inr ⟨w.heap.size, _, _, rfl, hbase, heap_alloc_new w.drew _, hge, grownCap_le_maxLen w (n + m) n e (by simp only [maxLen]; omega), ?_, ?_⟩⟩, (Kp.refl _ _).drew.alloc _, rfl⟩
    · simp only [Array.size_append, List.size_toArray, size_zeroCells]
      simp [Value.cells, hl, hl2]
      omega
    · rw [← hlen2, List.map_append]
      simp only [Array.toList_append]
      exact List.take_left

section
variable {P : Program} {ops : Array Oper} {rest : List Oper} {o : Oper} {a : Act} {Q : Exit → Act → World → Prop}
theorem wp_appZ {w : World} (hgd : o.guard = none) (s x : Operand) (t ti e : TypeId) (ho : o.op = .call { callee := .builtin .append, args := #[s, x], argTypes := #[t, ti] })
    (ht : P.underlying t = some (.slice e)) (hti : P.underlying ti = some (.int .i64)) (hi : (P.info? e).map (fun i => (i.zero, i.size, i.bytes)) = some (some (.int .u8 0), 1, 1))
    (base : Nat) (A : Option Addr) (n c : Nat) (l : List UInt8) (hs : a.eval s = .slice A n c) (HO : Ow w base e 1 A n c (l.map u8))
    (k : Nat) (hx : a.eval x = .int .i64 k) (hlen : n + k ≤ 211106232532992) (hbase : base ≤ w.heap.size)
    (h : ∀ A' k' c' l' w', Hid (k' = n + k) → Hid (l' = l ++ List.replicate k 0) → Ow w' base e 1 A' k' c' (l'.map u8) → Kp (ob A) w w' → wpList P ops Q rest (a.put o.dst (.slice A' k' c')) w') : wpList P ops Q (o :: rest) a w := by
  refine wpList_plain hgd fun K hK => ?_
  obtain ⟨A', c', w', hr, h2, h3⟩ := run_appZ (P := P) w t ti o.type e ht hti hi base A n c l HO k hlen hbase
  unfold Oper.wp execOp
  simp only [ho, resolve, invoke, builtin, Sem.run_bind, Sem.run_pure, Result.andThen_ok, List.map_toArray, List.map_cons, List.map_nil, hs, hx, hr]
  exact hK _ _ (h A' (n + k) c' _ w' rfl rfl h2 h3)
theorem wp_appF {w : World} (hgd : o.guard = none) (s x : Operand) (t e : TypeId) (ho : o.op = .call { callee := .builtin .append, args := #[s, x], argTypes := #[t, t] })
    (ht : P.underlying t = some (.slice e)) (hi : (P.info? e).map (fun i => (i.zero, i.size, i.bytes)) = some (some (.int .u8 0), 1, 1))
    (base : Nat) (A : Option Addr) (n : Nat) (l : List UInt8) (hs : a.eval s = .slice A n n) (HR : Rd w A n n l)
    (A2 : Option Addr) (m c2 : Nat) (l2 : List UInt8) (hx : a.eval x = .slice A2 m c2) (HR2 : Rd w A2 m c2 l2) (hm : 0 < m) (hlen : n + m ≤ 211106232532992) (hbase : base ≤ w.heap.size) (hnil : n = 0 → A = none)
    (h : ∀ A' k' c' l' w', Hid (k' = n + m) → Hid (l' = l ++ l2) → Ow w' base e 1 A' k' c' (l'.map u8) → Kp [] w w' → A' = some ⟨w.heap.size, 0, none⟩ → wpList P ops Q rest (a.put o.dst (.slice A' k' c')) w') : wpList P ops Q (o :: rest) a w := by
  refine wpList_plain hgd fun K hK => ?_
  obtain ⟨A', c', w', hr, h2, h3, h4⟩ := run_appF (P := P) w t o.type e ht hi base A n l HR A2 m c2 l2 HR2 hm hlen hbase hnil
  unfold Oper.wp execOp
  simp only [ho, resolve, invoke, builtin, Sem.run_bind, Sem.run_pure, Result.andThen_ok, List.map_toArray, List.map_cons, List.map_nil, hs, hx, hr]
  exact hK _ _ (h A' (n + m) c' _ w' rfl rfl h2 h3 h4)
/-- bytes of whatever stands at the other place, none too, onto a slice without room: read -/
theorem run_appX {P : Program} (w : World) (t ty e : TypeId) (ht : P.underlying t = some (.slice e)) (hi : (P.info? e).map (fun i => (i.zero, i.size, i.bytes)) = some (some (.int .u8 0), 1, 1))
    (A : Option Addr) (n : Nat) (l : List UInt8) (HR : Rd w A n n l) (A2 : Option Addr) (m c2 : Nat) (l2 : List UInt8) (HR2 : Rd w A2 m c2 l2) (hlen : n + m ≤ 211106232532992) (hnil : n = 0 → A = none) :
    ∃ A' c' w', (Builtin.append_ #[t, t] ty #[.slice A n n, .slice A2 m c2]).run P w = .ok (.slice A' (n + m) c') w' ∧ Rd w' A' (n + m) c' (l ++ l2) ∧ Kp [] w w' := by
  by_cases hm : m = 0
  · subst hm
    obtain ⟨i, hi, hz, hsize, hby⟩ := info_parts hi
    obtain rfl : l2 = [] := List.eq_nil_of_length_eq_zero HR2.len
    refine ⟨A, n, w, ?_, by simpa using HR, Kp.refl _ _⟩
    cases A <;> cases A2 <;> simp [Builtin.append_, run_underlying ht, sizeOf, typeInfo, hi, hsize, Builtin.lenOf, Builtin.firstCells, storeCells, loadCells, loadCellsFrom]
  · obtain ⟨A', c', w', h1, h2, h3, _⟩ := run_appF (P := P) w t ty e ht hi 0 A n l HR A2 m c2 l2 HR2 (by omega) hlen (by omega) hnil
    exact ⟨A', c', w', h1, h2.rd, h3⟩
theorem wp_appX {w : World} (hgd : o.guard = none) (s x : Operand) (t e : TypeId) (ho : o.op = .call { callee := .builtin .append, args := #[s, x], argTypes := #[t, t] })
    (ht : P.underlying t = some (.slice e)) (hi : (P.info? e).map (fun i => (i.zero, i.size, i.bytes)) = some (some (.int .u8 0), 1, 1))
    (A : Option Addr) (n : Nat) (l : List UInt8) (hs : a.eval s = .slice A n n) (HR : Rd w A n n l)
    (A2 : Option Addr) (m c2 : Nat) (l2 : List UInt8) (hx : a.eval x = .slice A2 m c2) (HR2 : Rd w A2 m c2 l2) (hlen : n + m ≤ 211106232532992) (hnil : n = 0 → A = none)
    (h : ∀ A' k' c' l' w', Hid (k' = n + m) → Hid (l' = l ++ l2) → Rd w' A' k' c' l' → Kp [] w w' → wpList P ops Q rest (a.put o.dst (.slice A' k' c')) w') : wpList P ops Q (o :: rest) a w := by
  refine wpList_plain hgd fun K hK => ?_
  obtain ⟨A', c', w', hr, h2, h3⟩ := run_appX (P := P) w t o.type e ht hi A n l HR A2 m c2 l2 HR2 hlen hnil
  unfold Oper.wp execOp
  simp only [ho, resolve, invoke, builtin, Sem.run_bind, Sem.run_pure, Result.andThen_ok, List.map_toArray, List.map_cons, List.map_nil, hs, hx, hr]
  exact hK _ _ (h A' (n + m) c' _ w' rfl rfl h2 h3)
end
section
variable {P : Program} {o : Oper} {a : Act} {w : World} {K : Act → World → Prop} {Q : Exit → Act → World → Prop}
/-- the same, as one operation -/
theorem op_appX (s x : Operand) (t e : TypeId) (ho : o.op = .call { callee := .builtin .append, args := #[s, x], argTypes := #[t, t] })
    (ht : P.underlying t = some (.slice e)) (hi : (P.info? e).map (fun i => (i.zero, i.size, i.bytes)) = some (some (.int .u8 0), 1, 1))
    (A : Option Addr) (n : Nat) (l : List UInt8) (hs : a.eval s = .slice A n n) (HR : Rd w A n n l)
    (A2 : Option Addr) (m c2 : Nat) (l2 : List UInt8) (hx : a.eval x = .slice A2 m c2) (HR2 : Rd w A2 m c2 l2) (hlen : n + m ≤ 211106232532992) (hnil : n = 0 → A = none)
    (h : ∀ A' c' w', Rd w' A' (n + m) c' (l ++ l2) → Kp [] w w' → K (a.put o.dst (.slice A' (n + m) c')) w') : o.wp P a w K Q := by
  obtain ⟨A', c', w', hr, h2, h3⟩ := run_appX (P := P) w t o.type e ht hi A n l HR A2 m c2 l2 HR2 hlen hnil
  unfold Oper.wp execOp
  simp only [ho, resolve, invoke, builtin, Sem.run_bind, Sem.run_pure, Result.andThen_ok, List.map_toArray, List.map_cons, List.map_nil, hs, hx, hr]
  exact h A' c' w' h2 h3
theorem op_appF (s x : Operand) (t e : TypeId) (ho : o.op = .call { callee := .builtin .append, args := #[s, x], argTypes := #[t, t] })
    (ht : P.underlying t = some (.slice e)) (hi : (P.info? e).map (fun i => (i.zero, i.size, i.bytes)) = some (some (.int .u8 0), 1, 1))
    (base : Nat) (A : Option Addr) (n : Nat) (l : List UInt8) (hs : a.eval s = .slice A n n) (HR : Rd w A n n l)
    (A2 : Option Addr) (m c2 : Nat) (l2 : List UInt8) (hx : a.eval x = .slice A2 m c2) (HR2 : Rd w A2 m c2 l2) (hm : 0 < m) (hlen : n + m ≤ 211106232532992) (hbase : base ≤ w.heap.size) (hnil : n = 0 → A = none)
    (h : ∀ A' c' w', Ow w' base e 1 A' (n + m) c' ((l ++ l2).map u8) → Kp [] w w' → A' = some ⟨w.heap.size, 0, none⟩ → K (a.put o.dst (.slice A' (n + m) c')) w') : o.wp P a w K Q := by
  obtain ⟨A', c', w', hr, h2, h3, h4⟩ := run_appF (P := P) w t o.type e ht hi base A n l HR A2 m c2 l2 HR2 hm hlen hbase hnil
  unfold Oper.wp execOp
  simp only [ho, resolve, invoke, builtin, Sem.run_bind, Sem.run_pure, Result.andThen_ok, List.map_toArray, List.map_cons, List.map_nil, hs, hx, hr]
  exact h A' c' w' h2 h3 h4
/-- bytes onto a row of the call's own, as one operation -/
theorem op_appO (s x : Operand) (t e : TypeId) (ho : o.op = .call { callee := .builtin .append, args := #[s, x], argTypes := #[t, t] })
    (ht : P.underlying t = some (.slice e)) (hi : (P.info? e).map (fun i => (i.zero, i.size, i.bytes)) = some (some (.int .u8 0), 1, 1))
    (base : Nat) (A : Option Addr) (n c : Nat) (l : List UInt8) (hs : a.eval s = .slice A n c) (HO : Ow w base e 1 A n c (l.map u8))
    (A2 : Option Addr) (m c2 : Nat) (l2 : List UInt8) (hx : a.eval x = .slice A2 m c2) (HR : Rd w A2 m c2 l2) (hlen : n + m ≤ 211106232532992) (hbase : base ≤ w.heap.size)
    (h : ∀ A' c' w', Ow w' base e 1 A' (n + m) c' ((l ++ l2).map u8) → Kp (ob A) w w' → (A' = A ∨ A' = some ⟨w.heap.size, 0, none⟩) → K (a.put o.dst (.slice A' (n + m) c')) w') : o.wp P a w K Q := by
  obtain ⟨A', c', w', hr, h2, h3, h4, _⟩ := run_app (P := P) w t o.type e (.int .u8 0) 1 1 ht hi rfl (by omega) base A n c (l.map u8) HO A2 m c2 (l2.map u8) (by simp [HR.len]) HR.at_ (u8_one l2) (by simp only [maxLen]; omega) (by omega) hbase
  unfold Oper.wp execOp
  simp only [ho, resolve, invoke, builtin, Sem.run_bind, Sem.run_pure, Result.andThen_ok, List.map_toArray, List.map_cons, List.map_nil, hs, hx, hr]
  exact h A' c' w' (by rw [List.map_append]; exact h2) h3 h4
end
end Go.Proofs.Ytkmcakneceagpaa

namespace Go.Proofs.Ytkmcakneceagpaa
open Go.RowKit

/-- a bool; what was there stands -/
def BoolK (b : Bool) (w : World) (en : Ending) (w' : World) : Prop := en = .returned (.bool b) ∧ Kp [] w w'
/-- the frame as plain data -/
def Fr.p (f : Fr) (l : List UInt8) (ss : List (Int × Int)) : Fp := ⟨f.ty, f.fl, f.st, l, f.pad, f.code, f.last, f.inc, f.dep, f.only, f.wt, ss⟩
/-- bytes that are read; what was there stands -/
def RdP (l : List UInt8) (w : World) (en : Ending) (w' : World) : Prop := ∃ A n c, en = .returned (.slice A n c) ∧ Rd w' A n c l ∧ Kp [] w w'

set_option maxHeartbeats 400000 in
theorem idF (n : Int) (w : World) : Calls Try.prog 143 #[.int .i64 n] w (BoolR (idB n) w) := by
  by_cases h0 : 0 ≤ n
  · by_cases h9 : n ≤ 2147483647
    · have e : idB n = true := by simp [idB, h0, h9]
      rw [e]
      go_enter Try.func143, Try.ntmps143
      go_wp2
      go_ret
      exact ⟨by simp, rfl⟩
    · have e : idB n = false := by simp [idB, h9]
      rw [e]
      go_enter Try.func143, Try.ntmps143
      go_wp2
      go_ret
      exact ⟨by simp, rfl⟩
  · have e : idB n = false := by simp [idB, h0]
    rw [e]
    go_enter Try.func143, Try.ntmps143
    go_wp2
    go_ret
    exact ⟨by simp, rfl⟩

set_option maxHeartbeats 1000000 in
theorem rightF (z any pd : Bool) (f1 f2 f3 f4 : Value) (st : Int) (w : World) (h1 : f1.cells = #[f1]) (h2 : f2.cells = #[f2]) (h3 : f3.cells = #[f3]) (h4 : f4.cells = #[f4]) :
    Calls Try.prog 145 #[.agg #[.bool z, .bool any, .bool pd, f1, f2, f3, f4], .int .i64 st] w (BoolK (any || (z == decide (st = 0))) w) := by
  by_cases hs : st = 0
  · subst hs
    cases any <;> cases z <;>
    · go_enter Try.func145, Try.ntmps145
      go_wp2
      go_ret
      exact ⟨by simp, by (repeat (first | with_reducible exact Kp.refl _ _ | with_reducible assumption | with_reducible refine Kp.alloc ?_ _ | with_reducible refine Kp.drew ?_ | with_reducible refine Kp.drewN ?_ _ | (with_reducible refine Kp.setL ?_ ?_ _; focus (simp; done)) | (with_reducible refine Kp.setR ?_ ?_ _; focus (simp; done)) | (with_reducible refine Kp.setR ?_ ?_ _; focus (simp; omega))))⟩
  · have e : decide (st = 0) = false := by simp [hs]
    rw [e]
    have hs' : (st == 0) = false := by simp [hs]
    clear e hs
    cases any <;> cases z <;>
    · go_enter Try.func145, Try.ntmps145
      go_wp2
      go_ret
      exact ⟨by simp, by (repeat (first | with_reducible exact Kp.refl _ _ | with_reducible assumption | with_reducible refine Kp.alloc ?_ _ | with_reducible refine Kp.drew ?_ | with_reducible refine Kp.drewN ?_ _ | (with_reducible refine Kp.setL ?_ ?_ _; focus (simp; done)) | (with_reducible refine Kp.setR ?_ ?_ _; focus (simp; done)) | (with_reducible refine Kp.setR ?_ ?_ _; focus (simp; omega))))⟩

set_option maxHeartbeats 1000000 in
theorem weightedF (f : Fr) (w : World) (h0 : 0 ≤ f.fl) (h1 : f.fl ≤ 255) : Calls Try.prog 146 #[.agg #[.int .i64 f.ty, .int .i64 f.fl, .int .i64 f.st, .slice f.pA f.pn f.pc, .int .i64 f.pad, .int .u32 f.code, .int .i64 f.last, .int .i64 f.inc, .int .i64 f.dep, .bool f.only, .int .i64 f.wt, .slice f.sA f.sn f.sc]] w (BoolK (prioB f.ty f.fl) w) := by
  have hb := (bits_has f.fl h0 h1).2.2.1
  by_cases h2 : f.ty = 2
  · have e : prioB f.ty f.fl = true := by simp [prioB, h2]
    rw [e]
    have h2' : (f.ty == 2) = true := by simp [h2]
    clear h2 hb
    go_enter Try.func146, Try.ntmps146
    go_wp2
    go_ret
    exact ⟨by simp, by (repeat (first | with_reducible exact Kp.refl _ _ | with_reducible assumption | with_reducible refine Kp.alloc ?_ _ | with_reducible refine Kp.drew ?_ | with_reducible refine Kp.drewN ?_ _ | (with_reducible refine Kp.setL ?_ ?_ _; focus (simp; done)) | (with_reducible refine Kp.setR ?_ ?_ _; focus (simp; done)) | (with_reducible refine Kp.setR ?_ ?_ _; focus (simp; omega))))⟩
  · have h2' : (f.ty == 2) = false := by simp [h2]
    by_cases h3 : f.ty = 1
    · have e : prioB f.ty f.fl = hasB f.fl 32 := by simp [prioB, h3]
      rw [e, ← hb]
      have h3' : (f.ty == 1) = true := by simp [h3]
      clear h2 h3 hb e
      go_enter Try.func146, Try.ntmps146
      go_wp2
      go_ret
      exact ⟨by simp, by (repeat (first | with_reducible exact Kp.refl _ _ | with_reducible assumption | with_reducible refine Kp.alloc ?_ _ | with_reducible refine Kp.drew ?_ | with_reducible refine Kp.drewN ?_ _ | (with_reducible refine Kp.setL ?_ ?_ _; focus (simp; done)) | (with_reducible refine Kp.setR ?_ ?_ _; focus (simp; done)) | (with_reducible refine Kp.setR ?_ ?_ _; focus (simp; omega))))⟩
    · have e : prioB f.ty f.fl = false := by simp [prioB, h2, h3]
      rw [e]
      have h3' : (f.ty == 1) = false := by simp [h3]
      clear h2 h3 hb e
      go_enter Try.func146, Try.ntmps146
      go_wp2
      go_ret
      exact ⟨by simp, by (repeat (first | with_reducible exact Kp.refl _ _ | with_reducible assumption | with_reducible refine Kp.alloc ?_ _ | with_reducible refine Kp.drew ?_ | with_reducible refine Kp.drewN ?_ _ | (with_reducible refine Kp.setL ?_ ?_ _; focus (simp; done)) | (with_reducible refine Kp.setR ?_ ?_ _; focus (simp; done)) | (with_reducible refine Kp.setR ?_ ?_ _; focus (simp; omega))))⟩

set_option maxHeartbeats 400000 in
theorem fourF (n : Int) (w : World) (h0 : 0 ≤ n) (hn : n < 2147483648) : Calls Try.prog 147 #[.int .i64 n] w (RdR (bytesOf n.toNat 4) w) := by
  obtain ⟨n, rfl⟩ := Int.eq_ofNat_of_zero_le h0
  have hp : (2 : Int) ^ 32 = 4294967296 := by decide
  have e : IntKind.u32.wrap (n : Int) = (n : Int) := wraps_u32 _ (by omega) (by omega)
  rw [Int.toNat_natCast]
  clear hp
  go_enter Try.func147, Try.ntmps147
  go_wp2_with fail
  refine (Put32_any n w (by omega)).mono ?_
  rintro e w1 ⟨A, k, rfl, h1, h2, h3⟩
  go_wp2
  go_ret
  exact ⟨_, _, rfl, h1, h2, h3⟩

/-! ### may -/
set_option maxHeartbeats 400000 in
theorem mayAlways (f : Fr) (w : World) : Calls Try.prog 163 #[.agg #[.int .i64 f.ty, .int .i64 f.fl, .int .i64 f.st, .slice f.pA f.pn f.pc, .int .i64 f.pad, .int .u32 f.code, .int .i64 f.last, .int .i64 f.inc, .int .i64 f.dep, .bool f.only, .int .i64 f.wt, .slice f.sA f.sn f.sc]] w (BoolK true w) := by
  go_enter Try.func163, Try.ntmps163
  go_wp2
  go_ret
  exact ⟨by simp, by (repeat (first | with_reducible exact Kp.refl _ _ | with_reducible assumption | with_reducible refine Kp.alloc ?_ _ | with_reducible refine Kp.drew ?_ | with_reducible refine Kp.drewN ?_ _ | (with_reducible refine Kp.setL ?_ ?_ _; focus (simp; done)) | (with_reducible refine Kp.setR ?_ ?_ _; focus (simp; done)) | (with_reducible refine Kp.setR ?_ ?_ _; focus (simp; omega))))⟩
set_option maxHeartbeats 400000 in
theorem mayLast (f : Fr) (w : World) : Calls Try.prog 162 #[.agg #[.int .i64 f.ty, .int .i64 f.fl, .int .i64 f.st, .slice f.pA f.pn f.pc, .int .i64 f.pad, .int .u32 f.code, .int .i64 f.last, .int .i64 f.inc, .int .i64 f.dep, .bool f.only, .int .i64 f.wt, .slice f.sA f.sn f.sc]] w (BoolK (idB f.last) w) := by
  go_enter Try.func162, Try.ntmps162
  go_wp2_with fail
  refine (idF _ _).mono ?_
  rintro e w1 ⟨rfl, rfl⟩
  go_wp2
  go_ret
  exact ⟨rfl, by (repeat (first | with_reducible exact Kp.refl _ _ | with_reducible assumption | with_reducible refine Kp.alloc ?_ _ | with_reducible refine Kp.drew ?_ | with_reducible refine Kp.drewN ?_ _ | (with_reducible refine Kp.setL ?_ ?_ _; focus (simp; done)) | (with_reducible refine Kp.setR ?_ ?_ _; focus (simp; done)) | (with_reducible refine Kp.setR ?_ ?_ _; focus (simp; omega))))⟩
set_option maxHeartbeats 400000 in
theorem mayEight (f : Fr) (w : World) (hn : f.pn ≤ 140737488351232) : Calls Try.prog 178 #[.agg #[.int .i64 f.ty, .int .i64 f.fl, .int .i64 f.st, .slice f.pA f.pn f.pc, .int .i64 f.pad, .int .u32 f.code, .int .i64 f.last, .int .i64 f.inc, .int .i64 f.dep, .bool f.only, .int .i64 f.wt, .slice f.sA f.sn f.sc]] w (BoolK (decide (f.pn = 8)) w) := by
  by_cases h : f.pn = 8
  · have h' : ((f.pn : Int) == 8) = true := by simp; omega
    go_enter Try.func178, Try.ntmps178
    go_wp2
    go_ret
    exact ⟨by simp [h], by (repeat (first | with_reducible exact Kp.refl _ _ | with_reducible assumption | with_reducible refine Kp.alloc ?_ _ | with_reducible refine Kp.drew ?_ | with_reducible refine Kp.drewN ?_ _ | (with_reducible refine Kp.setL ?_ ?_ _; focus (simp; done)) | (with_reducible refine Kp.setR ?_ ?_ _; focus (simp; done)) | (with_reducible refine Kp.setR ?_ ?_ _; focus (simp; omega))))⟩
  · have h' : ((f.pn : Int) == 8) = false := by simp; omega
    go_enter Try.func178, Try.ntmps178
    go_wp2
    go_ret
    exact ⟨by simp [h], by (repeat (first | with_reducible exact Kp.refl _ _ | with_reducible assumption | with_reducible refine Kp.alloc ?_ _ | with_reducible refine Kp.drew ?_ | with_reducible refine Kp.drewN ?_ _ | (with_reducible refine Kp.setL ?_ ?_ _; focus (simp; done)) | (with_reducible refine Kp.setR ?_ ?_ _; focus (simp; done)) | (with_reducible refine Kp.setR ?_ ?_ _; focus (simp; omega))))⟩
set_option maxHeartbeats 400000 in
theorem mayInc (f : Fr) (w : World) : Calls Try.prog 182 #[.agg #[.int .i64 f.ty, .int .i64 f.fl, .int .i64 f.st, .slice f.pA f.pn f.pc, .int .i64 f.pad, .int .u32 f.code, .int .i64 f.last, .int .i64 f.inc, .int .i64 f.dep, .bool f.only, .int .i64 f.wt, .slice f.sA f.sn f.sc]] w (BoolK (decide (1 ≤ f.inc) && decide (f.inc ≤ 2147483647)) w) := by
  by_cases h0 : 1 ≤ f.inc
  · by_cases h9 : f.inc ≤ 2147483647
    · go_enter Try.func182, Try.ntmps182
      go_wp2
      go_ret
      exact ⟨by simp [h0, h9], by (repeat (first | with_reducible exact Kp.refl _ _ | with_reducible assumption | with_reducible refine Kp.alloc ?_ _ | with_reducible refine Kp.drew ?_ | with_reducible refine Kp.drewN ?_ _ | (with_reducible refine Kp.setL ?_ ?_ _; focus (simp; done)) | (with_reducible refine Kp.setR ?_ ?_ _; focus (simp; done)) | (with_reducible refine Kp.setR ?_ ?_ _; focus (simp; omega))))⟩
    · go_enter Try.func182, Try.ntmps182
      go_wp2
      go_ret
      exact ⟨by simp [h0, h9], by (repeat (first | with_reducible exact Kp.refl _ _ | with_reducible assumption | with_reducible refine Kp.alloc ?_ _ | with_reducible refine Kp.drew ?_ | with_reducible refine Kp.drewN ?_ _ | (with_reducible refine Kp.setL ?_ ?_ _; focus (simp; done)) | (with_reducible refine Kp.setR ?_ ?_ _; focus (simp; done)) | (with_reducible refine Kp.setR ?_ ?_ _; focus (simp; omega))))⟩
  · go_enter Try.func182, Try.ntmps182
    go_wp2
    go_ret
    exact ⟨by simp [h0]; omega, by (repeat (first | with_reducible exact Kp.refl _ _ | with_reducible assumption | with_reducible refine Kp.alloc ?_ _ | with_reducible refine Kp.drew ?_ | with_reducible refine Kp.drewN ?_ _ | (with_reducible refine Kp.setL ?_ ?_ _; focus (simp; done)) | (with_reducible refine Kp.setR ?_ ?_ _; focus (simp; done)) | (with_reducible refine Kp.setR ?_ ?_ _; focus (simp; omega))))⟩

/-! ### put -/
set_option maxHeartbeats 400000 in
theorem putPayload (f : Fr) (l : List UInt8) (w : World) (hr : Rd w f.pA f.pn f.pc l) : Calls Try.prog 160 #[.agg #[.int .i64 f.ty, .int .i64 f.fl, .int .i64 f.st, .slice f.pA f.pn f.pc, .int .i64 f.pad, .int .u32 f.code, .int .i64 f.last, .int .i64 f.inc, .int .i64 f.dep, .bool f.only, .int .i64 f.wt, .slice f.sA f.sn f.sc]] w (RdP l w) := by
  have HR := Lib.hid hr
  clear hr
  go_enter Try.func160, Try.ntmps160
  go_wp2
  go_ret
  exact ⟨_, _, _, rfl, HR.out.keep (S := []) (by (repeat (first | with_reducible exact Kp.refl _ _ | with_reducible assumption | with_reducible refine Kp.alloc ?_ _ | with_reducible refine Kp.drew ?_ | with_reducible refine Kp.drewN ?_ _ | (with_reducible refine Kp.setL ?_ ?_ _; focus (simp; done)) | (with_reducible refine Kp.setR ?_ ?_ _; focus (simp; done)) | (with_reducible refine Kp.setR ?_ ?_ _; focus (simp; omega))))) (by simp), by (repeat (first | with_reducible exact Kp.refl _ _ | with_reducible assumption | with_reducible refine Kp.alloc ?_ _ | with_reducible refine Kp.drew ?_ | with_reducible refine Kp.drewN ?_ _ | (with_reducible refine Kp.setL ?_ ?_ _; focus (simp; done)) | (with_reducible refine Kp.setR ?_ ?_ _; focus (simp; done)) | (with_reducible refine Kp.setR ?_ ?_ _; focus (simp; omega))))⟩
set_option maxHeartbeats 400000 in
theorem putNone (f : Fr) (w : World) : Calls Try.prog 168 #[.agg #[.int .i64 f.ty, .int .i64 f.fl, .int .i64 f.st, .slice f.pA f.pn f.pc, .int .i64 f.pad, .int .u32 f.code, .int .i64 f.last, .int .i64 f.inc, .int .i64 f.dep, .bool f.only, .int .i64 f.wt, .slice f.sA f.sn f.sc]] w (RdP [] w) := by
  go_enter Try.func168, Try.ntmps168
  go_wp2
  go_ret
  exact ⟨_, _, _, rfl, Rd.nil _ _ _, by (repeat (first | with_reducible exact Kp.refl _ _ | with_reducible assumption | with_reducible refine Kp.alloc ?_ _ | with_reducible refine Kp.drew ?_ | with_reducible refine Kp.drewN ?_ _ | (with_reducible refine Kp.setL ?_ ?_ _; focus (simp; done)) | (with_reducible refine Kp.setR ?_ ?_ _; focus (simp; done)) | (with_reducible refine Kp.setR ?_ ?_ _; focus (simp; omega))))⟩
set_option maxHeartbeats 400000 in
theorem putCode (f : Fr) (w : World) (hc : U32 f.code) : Calls Try.prog 170 #[.agg #[.int .i64 f.ty, .int .i64 f.fl, .int .i64 f.st, .slice f.pA f.pn f.pc, .int .i64 f.pad, .int .u32 f.code, .int .i64 f.last, .int .i64 f.inc, .int .i64 f.dep, .bool f.only, .int .i64 f.wt, .slice f.sA f.sn f.sc]] w (RdP (bytesOf f.code.toNat 4) w) := by
  obtain ⟨ty, fl, st, pA, pn, pc, pad, code, last, inc, dep, only, wt, sA, sn, sc⟩ := f
  obtain ⟨n, rfl⟩ := Int.eq_ofNat_of_zero_le hc.1
  have hn : n < 4294967296 := by have := hc.2; simp at this; omega
  clear hc
  go_enter Try.func170, Try.ntmps170
  go_wp2_with fail
  refine (Put32_any n _ hn).mono ?_
  rintro e w1 ⟨A, k, rfl, h1, h2, h3⟩
  go_wp2
  go_ret
  exact ⟨_, _, _, rfl, h1, Kp.trans (by (repeat (first | with_reducible exact Kp.refl _ _ | with_reducible assumption | with_reducible refine Kp.alloc ?_ _ | with_reducible refine Kp.drew ?_ | with_reducible refine Kp.drewN ?_ _ | (with_reducible refine Kp.setL ?_ ?_ _; focus (simp; done)) | (with_reducible refine Kp.setR ?_ ?_ _; focus (simp; done)) | (with_reducible refine Kp.setR ?_ ?_ _; focus (simp; omega))))) h3⟩
set_option maxHeartbeats 400000 in
theorem putInc (f : Fr) (w : World) (h0 : 0 ≤ f.inc) (h1 : f.inc < 2147483648) : Calls Try.prog 183 #[.agg #[.int .i64 f.ty, .int .i64 f.fl, .int .i64 f.st, .slice f.pA f.pn f.pc, .int .i64 f.pad, .int .u32 f.code, .int .i64 f.last, .int .i64 f.inc, .int .i64 f.dep, .bool f.only, .int .i64 f.wt, .slice f.sA f.sn f.sc]] w (RdP (bytesOf f.inc.toNat 4) w) := by
  go_enter Try.func183, Try.ntmps183
  go_wp2_with fail
  refine (fourF _ _ h0 h1).mono ?_
  rintro e w1 ⟨A, k, rfl, h1, h2, h3⟩
  go_wp2
  go_ret
  exact ⟨_, _, _, rfl, h1, Kp.trans (by (repeat (first | with_reducible exact Kp.refl _ _ | with_reducible assumption | with_reducible refine Kp.alloc ?_ _ | with_reducible refine Kp.drew ?_ | with_reducible refine Kp.drewN ?_ _ | (with_reducible refine Kp.setL ?_ ?_ _; focus (simp; done)) | (with_reducible refine Kp.setR ?_ ?_ _; focus (simp; done)) | (with_reducible refine Kp.setR ?_ ?_ _; focus (simp; omega))))) h3⟩
end Go.Proofs.Ytkmcakneceagpaa
