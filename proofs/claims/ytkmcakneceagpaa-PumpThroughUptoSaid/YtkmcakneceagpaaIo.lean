/- Two rows of bytes that a law gathers beside a machine. -/
import Derived.Test.YtkmcakneceagpaaRingR
set_option linter.unusedVariables false
set_option linter.unusedSimpArgs false
namespace Go.Proofs.Ytkmcakneceagpaa
open Go.RowKit
/-- what came in, what went out: two rows of the call's own; M: the machine's blocks -/
structure IO (w0 w : World) (M : List Nat) (A : Option Addr) (n c : Nat) (l : List UInt8) (A' : Option Addr) (n' c' : Nat) (l' : List UInt8) : Prop where
  o1 : Ow w w0.heap.size 5 1 A n c (l.map u8)
  o2 : Ow w w0.heap.size 5 1 A' n' c' (l'.map u8)
  d1 : ∀ b, b ∈ ob A → b ∉ M ∧ b ∉ ob A'
  d2 : ∀ b, b ∈ ob A' → b ∉ M
  kp : Kp [] w0 w
  mb : ∀ s, s ∈ M → w0.heap.size ≤ s ∧ s < w.heap.size
section
variable {w0 w w' : World} {M : List Nat} {A : Option Addr} {n c : Nat} {l : List UInt8} {A' : Option Addr} {n' c' : Nat} {l' : List UInt8}
theorem IO.len1 (h : IO w0 w M A n c l A' n' c' l') : l.length = n := by have := h.o1.len; simpa using this
theorem IO.len2 (h : IO w0 w M A n c l A' n' c' l') : l'.length = n' := by have := h.o2.len; simpa using this
/-- the machine turns, and new blocks -/
theorem IO.keep {T : List Nat} (h : IO w0 w M A n c l A' n' c' l') (k : Kp T w w') (hT : ∀ t, t ∈ T → t ∈ M ∨ w.heap.size ≤ t) : IO w0 w' M A n c l A' n' c' l' :=
  ⟨h.o1.keep k (fun b hb ht => (hT b ht).elim (h.d1 b hb).1 (fun h1 => by have := (h.o1.base b hb).2; omega)),
   h.o2.keep k (fun b hb ht => (hT b ht).elim (h.d2 b hb) (fun h1 => by have := (h.o2.base b hb).2; omega)), h.d1, h.d2,
   h.kp.then k (fun t ht => (hT t ht).elim (fun h1 => .inr (h.mb t h1).1) (fun h1 => .inr (by have := h.kp.size; omega))),
   fun s hs => ⟨(h.mb s hs).1, by have := (h.mb s hs).2; have := k.size; omega⟩⟩
theorem IO.app1 (h : IO w0 w M A n c l A' n' c' l') {B : Option Addr} {k d : Nat} {m : List UInt8} (O : Ow w' w0.heap.size 5 1 B k d (m.map u8)) (K : Kp (ob A) w w') (hB : B = A ∨ B = some ⟨w.heap.size, 0, none⟩) : IO w0 w' M B k d m A' n' c' l' := by
  refine ⟨O, h.o2.keep K (fun b hb hb2 => (h.d1 b hb2).2 hb), fun b hb => ?_, h.d2, h.kp.then K (fun t ht => .inr (h.o1.base t ht).1), fun s hs => ⟨(h.mb s hs).1, by have := (h.mb s hs).2; have := K.size; omega⟩⟩
  rcases hB with rfl | rfl
  · exact h.d1 b hb
  · simp [ob] at hb
    subst hb
    exact ⟨fun hm => by have := (h.mb _ hm).2; omega, fun hm => by have := (h.o2.base _ hm).2; omega⟩
theorem IO.app2 (h : IO w0 w M A n c l A' n' c' l') {B : Option Addr} {k d : Nat} {m : List UInt8} (O : Ow w' w0.heap.size 5 1 B k d (m.map u8)) (K : Kp (ob A') w w') (hB : B = A' ∨ B = some ⟨w.heap.size, 0, none⟩) : IO w0 w' M A n c l B k d m := by
  refine ⟨h.o1.keep K (fun b hb hb2 => (h.d1 b hb).2 hb2), O, fun b hb => ⟨(h.d1 b hb).1, fun hm => ?_⟩, fun b hb => ?_, h.kp.then K (fun t ht => .inr (h.o2.base t ht).1), fun s hs => ⟨(h.mb s hs).1, by have := (h.mb s hs).2; have := K.size; omega⟩⟩
  · rcases hB with rfl | rfl
    · exact (h.d1 b hb).2 hm
    · simp [ob] at hm
      subst hm
      have := (h.o1.base _ hb).2
      omega
  · rcases hB with rfl | rfl
    · exact h.d2 b hb
    · simp [ob] at hb
      subst hb
      exact fun hm => by have := (h.mb _ hm).2; omega
end
/-- slices of bytes that came in: m of them at A -/
def Parts (w : World) (A : Option Addr) (m : Nat) : Prop := ∀ i, i < m → ∃ b off Ai ni ci xs, A = some ⟨b, off, none⟩ ∧ w.cell? ⟨b, off + i, none⟩ = some (.slice Ai ni ci) ∧
  Rd w Ai ni ci xs ∧ ni ≤ 140737488351232 ∧ (0 < ni → ∀ b, b ∈ ob Ai → b < w.heap.size)
end Go.Proofs.Ytkmcakneceagpaa
