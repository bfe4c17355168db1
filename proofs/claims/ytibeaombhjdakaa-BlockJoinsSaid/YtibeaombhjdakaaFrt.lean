/- Frames as values: their twelve cells, and how one that came in is opened. -/
import Derived.Test.YtibeaombhjdakaaOpn
import Derived.Test.YtibeaombhjdakaaProg
set_option linter.unusedVariables false
namespace Go.Proofs.Ytibeaombhjdakaa
open Go.ChangeShapes Go.WideShapes Go.ChangeAt Go.RowKit

/-- a frame's cells -/
structure Fr where
  ty : Int
  fl : Int
  st : Int
  pA : Option Addr
  pn : Nat
  pc : Nat
  pad : Int
  code : Int
  last : Int
  inc : Int
  dep : Int
  only : Bool
  wt : Int
  sA : Option Addr
  sn : Nat
  sc : Nat
@[reducible] def Fr.cells (f : Fr) : List Value := [.int .i64 f.ty, .int .i64 f.fl, .int .i64 f.st, .slice f.pA f.pn f.pc, .int .i64 f.pad, .int .u32 f.code, .int .i64 f.last, .int .i64 f.inc, .int .i64 f.dep, .bool f.only, .int .i64 f.wt, .slice f.sA f.sn f.sc]
/-- an int's range -/
@[reducible] def I64 (x : Int) : Prop := -9223372036854775808 ≤ x ∧ x ≤ 9223372036854775807
@[reducible] def U32 (x : Int) : Prop := 0 ≤ x ∧ x < 4294967296
theorem I64.of {x : Int} (h : (Lit.int .i64 x).wf = true) : I64 x := by
  simp [Lit.wf, IntKind.min, IntKind.max, IntKind.signed, IntKind.bits] at h
  exact ⟨by omega, by omega⟩
theorem U32.of {x : Int} (h : (Lit.int .u32 x).wf = true) : U32 x := by
  simp [Lit.wf, IntKind.min, IntKind.max, IntKind.signed, IntKind.bits] at h
  exact ⟨by omega, by omega⟩
/-- settings that are read: n of them -/
structure Sd (w : World) (A : Option Addr) (n c : Nat) (ss : List (Int × Int)) : Prop where
  len : ss.length = n
  cap : n ≤ c
  at_ : 0 < n → ∃ b off, A = some ⟨b, off, none⟩ ∧ b < w.heap.size ∧ ∀ i, i < n → w.cell? ⟨b, off + i * 2, none⟩ = some (.int .i64 (ss.getD i (0, 0)).1) ∧ w.cell? ⟨b, off + i * 2 + 1, none⟩ = some (.int .u32 (ss.getD i (0, 0)).2)
  val : ∀ i, U32 (ss.getD i (0, 0)).2
/-- what is known of a frame that came in: l are its payload's bytes, ss its settings -/
structure FrOk (w : World) (f : Fr) (l : List UInt8) (ss : List (Int × Int)) : Prop where
  ty : I64 f.ty
  fl : I64 f.fl
  st : I64 f.st
  rd : Rd w f.pA f.pn f.pc l
  pn : f.pn ≤ 140737488351232
  plt : 0 < f.pn → ∀ b, b ∈ ob f.pA → b < w.heap.size
  pad : I64 f.pad
  code : U32 f.code
  last : I64 f.last
  inc : I64 f.inc
  dep : I64 f.dep
  wt : I64 f.wt
  sd : Sd w f.sA f.sn f.sc ss
  sn : f.sn * 16 ≤ 140737488351232
theorem Sd.below {B : Nat} {w w' : World} {A : Option Addr} {n c : Nat} {ss : List (Int × Int)} (h : Sd w A n c ss) (k : Below B w w') (hB : 0 < n → ∀ b, b ∈ ob A → b < B) : Sd w' A n c ss :=
  ⟨h.len, h.cap, fun hn => by
    obtain ⟨b, off, rfl, hlt, hc⟩ := h.at_ hn
    have hb : b < B := hB hn b (by simp [ob])
    have := k.size
    exact ⟨b, off, rfl, by omega, fun i hi => ⟨(k.cell (p := ⟨b, off + i * 2, none⟩) hb).trans (hc i hi).1, (k.cell (p := ⟨b, off + i * 2 + 1, none⟩) hb).trans (hc i hi).2⟩⟩, h.val⟩
theorem Sd.keep {T : List Nat} {w w' : World} {A : Option Addr} {n c : Nat} {ss : List (Int × Int)} (h : Sd w A n c ss) (k : Kp T w w') (hS : 0 < n → ∀ b, b ∈ ob A → b ∉ T) : Sd w' A n c ss :=
  ⟨h.len, h.cap, fun hn => by
    obtain ⟨b, off, rfl, hlt, hc⟩ := h.at_ hn
    have hb := hS hn b (by simp [ob])
    have := k.size
    exact ⟨b, off, rfl, by omega, fun i hi => ⟨k.cell (hc i hi).1 hb, k.cell (hc i hi).2 hb⟩⟩, h.val⟩
section
variable {H : Type} {enc : TypeId × Value → H} {W : World}

theorem len2 {α : Type} {cs : List α} (h : cs.length = 2) : ∃ u v, cs = [u, v] := by
  rcases cs with _ | ⟨a, _ | ⟨b, _ | ⟨c, t⟩⟩⟩ <;> simp at h ⊢
theorem Tr.sets {cs : List Value} {d : DataW H} (h : Tr enc Try.prog W 32 cs d) : ∃ A n c ss, cs = [.slice A n c] ∧ Sd W A n c ss ∧ n * 16 ≤ 140737488351232 := by
  obtain ⟨A, n, c, ds, sp, rfl, hlen, hnc, hcm, hby, hd, hel⟩ := h.slice Try.underlying32 (by rw [show Try.prog.cellsOf 70 = 2 by kernel_rfl]; omega)
  have hce : Try.prog.cellsOf 70 = 2 := by kernel_rfl
  have hbe : Try.prog.bytesOf 70 = 16 := by kernel_rfl
  rw [hce] at hel
  rw [hbe] at hby
  have each : ∀ i, i < n → ∃ (x y : Int) (b off : Nat), A = some ⟨b, off, none⟩ ∧ b < W.heap.size ∧ W.cell? ⟨b, off + i * 2, none⟩ = some (.int .i64 x) ∧ W.cell? ⟨b, off + i * 2 + 1, none⟩ = some (.int .u32 y) ∧ U32 y := by
    intro i hi
    obtain ⟨b, off, es, di, hA, hlt, _, htr, hl, hcell⟩ := hel i hi
    obtain ⟨dd, _, _, _, parts⟩ := htr.struct Try.underlying70
    obtain ⟨u, v, rfl⟩ : ∃ u v, es = [u, v] := by
      exact len2 hl
    obtain ⟨d0, _, t0⟩ := parts 0 _ rfl
    obtain ⟨d1, _, t1⟩ := parts 1 _ rfl
    have hc3 : Try.prog.cellsOf 3 = 1 := by kernel_rfl
    have hc4 : Try.prog.cellsOf 31 = 1 := by kernel_rfl
    change Tr enc Try.prog W 3 (List.take (Try.prog.cellsOf 3) [u, v]) d0 at t0
    change Tr enc Try.prog W 31 (List.take (Try.prog.cellsOf 31) [v]) d1 at t1
    rw [hc3] at t0
    rw [hc4] at t1
    change Tr enc Try.prog W 3 [u] d0 at t0
    change Tr enc Try.prog W 31 [v] d1 at t1
    obtain ⟨x, hx, _, _⟩ := t0.int Try.underlying3
    obtain ⟨y, hy, _, wy⟩ := t1.int Try.underlying31
    simp only [List.cons.injEq, and_true] at hx hy
    subst hx hy
    exact ⟨x, y, b, off, hA, hlt, hcell 0 _ rfl, hcell 1 _ rfl, .of wy⟩
  refine ⟨A, n, c, (List.range n).map fun i => if h : i < n then ((each i h).choose, (each i h).choose_spec.choose) else (0, 0), rfl, ⟨by simp, hnc, fun hp => ?_, fun i => ?_⟩, hby⟩
  rotate_left
  · by_cases hi : i < n
    · have := (each i hi).choose_spec.choose_spec.choose_spec.choose_spec.2.2.2.2
      simpa [List.getD, hi] using this
    · simp [List.getD, hi]
      exact ⟨by omega, by omega⟩
  obtain ⟨_, _, b, off, rfl, hlt, _⟩ := each 0 hp
  refine ⟨b, off, rfl, hlt, fun i hi => ?_⟩
  obtain ⟨b', off', hA', _, h1, h2, _⟩ := (each i hi).choose_spec.choose_spec
  have e1 : b' = b ∧ off' = off := by
    injection hA' with h1
    injection h1 with h2 h3 _
    exact ⟨h2.symm, h3.symm⟩
  rw [e1.1, e1.2] at h1 h2
  rw [h1, h2]
  simp [List.getD, hi]

theorem len12 {α : Type} {cs : List α} (h : cs.length = 12) : ∃ x0 x1 x2 x3 x4 x5 x6 x7 x8 x9 x10 x11, cs = [x0, x1, x2, x3, x4, x5, x6, x7, x8, x9, x10, x11] := by
  rcases cs with _ | ⟨y0, _ | ⟨y1, _ | ⟨y2, _ | ⟨y3, _ | ⟨y4, _ | ⟨y5, _ | ⟨y6, _ | ⟨y7, _ | ⟨y8, _ | ⟨y9, _ | ⟨y10, _ | ⟨y11, _ | ⟨y12, t⟩⟩⟩⟩⟩⟩⟩⟩⟩⟩⟩⟩⟩ <;> simp at h ⊢
set_option maxHeartbeats 1000000 in
theorem Tr.frame {cs : List Value} {d : DataW H} (h : Tr enc Try.prog W 34 cs d) : ∃ f l ss, cs = Fr.cells f ∧ FrOk W f l ss := by
  obtain ⟨ds, _, _, hl, parts⟩ := h.struct Try.underlying34
  have hcf : Try.prog.cellsOf 34 = 12 := by kernel_rfl
  have hc1 : Try.prog.cellsOf 3 = 1 := by kernel_rfl
  have hc2 : Try.prog.cellsOf 31 = 1 := by kernel_rfl
  have hc3 : Try.prog.cellsOf 4 = 1 := by kernel_rfl
  have hc4 : Try.prog.cellsOf 30 = 1 := by kernel_rfl
  have hc5 : Try.prog.cellsOf 32 = 1 := by kernel_rfl
  rw [hcf] at hl
  obtain ⟨x0, x1, x2, x3, x4, x5, x6, x7, x8, x9, x10, x11, rfl⟩ : ∃ x0 x1 x2 x3 x4 x5 x6 x7 x8 x9 x10 x11, cs = [x0, x1, x2, x3, x4, x5, x6, x7, x8, x9, x10, x11] := by
    exact len12 hl
  obtain ⟨_, _, t0⟩ := parts 0 _ rfl
  obtain ⟨_, _, t1⟩ := parts 1 _ rfl
  obtain ⟨_, _, t2⟩ := parts 2 _ rfl
  obtain ⟨_, _, t3⟩ := parts 3 _ rfl
  obtain ⟨_, _, t4⟩ := parts 4 _ rfl
  obtain ⟨_, _, t5⟩ := parts 5 _ rfl
  obtain ⟨_, _, t6⟩ := parts 6 _ rfl
  obtain ⟨_, _, t7⟩ := parts 7 _ rfl
  obtain ⟨_, _, t8⟩ := parts 8 _ rfl
  obtain ⟨_, _, t9⟩ := parts 9 _ rfl
  obtain ⟨_, _, t10⟩ := parts 10 _ rfl
  obtain ⟨_, _, t11⟩ := parts 11 _ rfl
  change Tr enc Try.prog W 3 (List.take (Try.prog.cellsOf 3) [x0, x1, x2, x3, x4, x5, x6, x7, x8, x9, x10, x11]) _ at t0
  rw [hc1] at t0
  change Tr enc Try.prog W 3 [x0] _ at t0
  change Tr enc Try.prog W 3 (List.take (Try.prog.cellsOf 3) [x1, x2, x3, x4, x5, x6, x7, x8, x9, x10, x11]) _ at t1
  rw [hc1] at t1
  change Tr enc Try.prog W 3 [x1] _ at t1
  change Tr enc Try.prog W 3 (List.take (Try.prog.cellsOf 3) [x2, x3, x4, x5, x6, x7, x8, x9, x10, x11]) _ at t2
  rw [hc1] at t2
  change Tr enc Try.prog W 3 [x2] _ at t2
  change Tr enc Try.prog W 30 (List.take (Try.prog.cellsOf 30) [x3, x4, x5, x6, x7, x8, x9, x10, x11]) _ at t3
  rw [hc4] at t3
  change Tr enc Try.prog W 30 [x3] _ at t3
  change Tr enc Try.prog W 3 (List.take (Try.prog.cellsOf 3) [x4, x5, x6, x7, x8, x9, x10, x11]) _ at t4
  rw [hc1] at t4
  change Tr enc Try.prog W 3 [x4] _ at t4
  change Tr enc Try.prog W 31 (List.take (Try.prog.cellsOf 31) [x5, x6, x7, x8, x9, x10, x11]) _ at t5
  rw [hc2] at t5
  change Tr enc Try.prog W 31 [x5] _ at t5
  change Tr enc Try.prog W 3 (List.take (Try.prog.cellsOf 3) [x6, x7, x8, x9, x10, x11]) _ at t6
  rw [hc1] at t6
  change Tr enc Try.prog W 3 [x6] _ at t6
  change Tr enc Try.prog W 3 (List.take (Try.prog.cellsOf 3) [x7, x8, x9, x10, x11]) _ at t7
  rw [hc1] at t7
  change Tr enc Try.prog W 3 [x7] _ at t7
  change Tr enc Try.prog W 3 (List.take (Try.prog.cellsOf 3) [x8, x9, x10, x11]) _ at t8
  rw [hc1] at t8
  change Tr enc Try.prog W 3 [x8] _ at t8
  change Tr enc Try.prog W 4 (List.take (Try.prog.cellsOf 4) [x9, x10, x11]) _ at t9
  rw [hc3] at t9
  change Tr enc Try.prog W 4 [x9] _ at t9
  change Tr enc Try.prog W 3 (List.take (Try.prog.cellsOf 3) [x10, x11]) _ at t10
  rw [hc1] at t10
  change Tr enc Try.prog W 3 [x10] _ at t10
  change Tr enc Try.prog W 32 (List.take (Try.prog.cellsOf 32) [x11]) _ at t11
  rw [hc5] at t11
  change Tr enc Try.prog W 32 [x11] _ at t11
  obtain ⟨n0, e0, _, w0⟩ := t0.int Try.underlying3
  obtain ⟨n1, e1, _, w1⟩ := t1.int Try.underlying3
  obtain ⟨n2, e2, _, w2⟩ := t2.int Try.underlying3
  obtain ⟨pA, pn, pc, l, e3, rd, le, plt, _⟩ := t3.bytes Try.underlying30 Try.underlying5 (by kernel_rfl) (by kernel_rfl)
  obtain ⟨n4, e4, _, w4⟩ := t4.int Try.underlying3
  obtain ⟨n5, e5, _, w5⟩ := t5.int Try.underlying31
  obtain ⟨n6, e6, _, w6⟩ := t6.int Try.underlying3
  obtain ⟨n7, e7, _, w7⟩ := t7.int Try.underlying3
  obtain ⟨n8, e8, _, w8⟩ := t8.int Try.underlying3
  obtain ⟨n9, e9, _⟩ := t9.bool Try.underlying4
  obtain ⟨n10, e10, _, w10⟩ := t10.int Try.underlying3
  obtain ⟨sA, sn, sc, ss, e11, sd, hs⟩ := t11.sets
  simp only [List.cons.injEq, and_true] at e0 e1 e2 e3 e4 e5 e6 e7 e8 e9 e10 e11
  subst e0 e1 e2 e3 e4 e5 e6 e7 e8 e9 e10 e11
  exact ⟨⟨n0, n1, n2, pA, pn, pc, n4, n5, n6, n7, n8, n9, n10, sA, sn, sc⟩, l, ss, rfl, ⟨.of w0, .of w1, .of w2, rd, le, plt, .of w4, .of w5, .of w6, .of w7, .of w8, .of w10, sd, hs⟩⟩
end
end Go.Proofs.Ytibeaombhjdakaa
