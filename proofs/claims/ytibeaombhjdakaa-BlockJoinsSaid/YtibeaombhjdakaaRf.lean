/- A range over a function whose iterator keeps its state in a cell of its own: the words for it. Append in a fenced walk. Lists of frames. -/
import Derived.Test.YtibeaombhjdakaaAlone
import Derived.Test.YtibeaombhjdakaaCls
import Derived.RangeFuncNested
import Derived.RangeFuncBound
import Derived.RangeFuncCalls
import Derived.RangeFuncLeaves
import Derived.Shelf.Abstract
import Derived.Shelf.RegionOpen
import Derived.OwnWalkIn
import Derived.TacticsInMore
import Derived.LoopNIn
import Derived.LoopIn
set_option linter.unusedVariables false
set_option linter.unusedSimpArgs false
namespace Go.Proofs.Ytibeaombhjdakaa
open Go.RowKit Go.Shelf

/-- blocks below b0 stand, but those of S -/
def KX (b0 : Nat) (S : List Nat) (w w' : World) : Prop := ∃ T, (∀ t, t ∈ T → t ∈ S ∨ b0 ≤ t) ∧ Kp T w w'
theorem KX.refl (b0 : Nat) (S : List Nat) (w : World) : KX b0 S w w := ⟨[], by simp, Kp.refl _ _⟩
theorem KX.trans {b0 : Nat} {S : List Nat} {a b c : World} (h : KX b0 S a b) (k : KX b0 S b c) : KX b0 S a c := by
  obtain ⟨T, hT, h1⟩ := h
  obtain ⟨U, hU, h2⟩ := k
  refine ⟨T ++ U, fun t ht => (List.mem_append.1 ht).elim (hT t) (hU t), (h1.mono (fun s hs => .inl (List.mem_append_left _ hs))).trans (h2.mono (fun s hs => .inl (List.mem_append_right _ hs)))⟩
theorem KX.mono {b0 : Nat} {S S' : List Nat} {a b : World} (h : KX b0 S a b) (hS : ∀ s, s ∈ S → s ∈ S') : KX b0 S' a b := by
  obtain ⟨T, hT, h1⟩ := h
  exact ⟨T, fun t ht => (hT t ht).imp_left (hS t), h1⟩
theorem KX.of {b0 : Nat} {S T : List Nat} {a b : World} (k : Kp T a b) (h : ∀ t, t ∈ T → t ∈ S ∨ b0 ≤ t) : KX b0 S a b := ⟨T, h, k⟩
theorem KX.heap {b0 : Nat} {S : List Nat} {a b : World} (h : KX b0 S a b) {x : Nat} {o : Obj} (ho : a.heap[x]? = some o) (hx : x < b0) (hS : x ∉ S) : b.heap[x]? = some o := by
  obtain ⟨T, hT, h1⟩ := h
  exact h1.heap ho (fun ht => (hT x ht).elim hS (fun h2 => by omega))
theorem KX.rd {b0 : Nat} {S : List Nat} {a b : World} (h : KX b0 S a b) {A : Option Addr} {n c : Nat} {l : List UInt8} (hr : Rd a A n c l) (hx : 0 < n → ∀ x, x ∈ ob A → x < b0 ∧ x ∉ S) : Rd b A n c l := by
  obtain ⟨T, hT, h1⟩ := h
  exact hr.keep h1 (fun hn x hxb ht => (hT x ht).elim (hx hn x hxb).2 (fun h2 => by have := (hx hn x hxb).1; omega))
theorem KX.kp {b0 : Nat} {S : List Nat} {a b w0 : World} (h : KX b0 S a b) (h0 : Kp [] w0 a) (hb : w0.heap.size ≤ b0) (hS : ∀ s, s ∈ S → w0.heap.size ≤ s) : Kp [] w0 b := by
  obtain ⟨T, hT, h1⟩ := h
  exact h0.then h1 (fun t ht => .inr ((hT t ht).elim (hS t) (fun h2 => by omega)))
theorem Kp.putObj {S : List Nat} {a w : World} (h : Kp S a w) {l : Nat} (hp : l ∈ S ∨ a.heap.size ≤ l) (o : Obj) : Kp S a (w.putObj l o) :=
  ⟨h.os, h.tape, h.output, by have := h.size; simpa using this, fun i hi hn =>
    (World.putObj_heap_other (fun e => hp.elim (fun h1 => hn (by rw [e]; exact h1)) (fun h1 => by omega))).trans (h.block i hi hn)⟩

section
variable {F : Fence} {fd : Nat} {P : Program} {ops : Array Oper} {rest : List Oper} {o : Oper} {a : Act} {Q : Exit → Act → World → Prop}
theorem stopAtIn {w : World} (h : Stop (wpListIn F fd P ops Q (o :: rest) a w)) : wpListIn F fd P ops Q (o :: rest) a w := h
theorem wp_appIn {w : World} (hgd : o.guard = none) (s x : Operand) (t e : TypeId) (z : Value) (size bytes : Nat) (ho : o.op = .call { callee := .builtin .append, args := #[s, x], argTypes := #[t, t] })
    (ht : P.underlying t = some (.slice e)) (hi : (P.info? e).map (fun i => (i.zero, i.size, i.bytes)) = some (some z, size, bytes))
    (hzs : z.cells.size = size) (hsz : 0 < size) (base : Nat) (A : Option Addr) (n c : Nat) (xs : List Value) (hs : a.eval s = .slice A n c) (HO : Ow w base e size A n c xs)
    (A2 : Option Addr) (m c2 : Nat) (ys : List Value) (hx : a.eval x = .slice A2 m c2) (hl : ys.length = m * size) (HR : At w A2 ys) (h1 : ∀ u ∈ ys, u.oneCell' = true)
    (h63 : n + m ≤ maxLen) (hbytes : ((n + m) + (n + m) / 4 + 192) * bytes ≤ 281474976710656) (hbase : base ≤ w.heap.size)
    (h : ∀ A' k c' w', Hid (k = n + m) → Ow w' base e size A' k c' (xs ++ ys) → Kp (ob A) w w' → (A' = A ∨ A' = some ⟨w.heap.size, 0, none⟩) → wpListIn F fd P ops Q rest (a.put o.dst (.slice A' k c')) w') : wpListIn F fd P ops Q (o :: rest) a w := by
  refine wpListIn_plain hgd fun K hK => ?_
  obtain ⟨A', c', w', hr, h2, h3, h4, _⟩ := run_app (P := P) w t o.type e z size bytes ht hi hzs hsz base A n c xs HO A2 m c2 ys hl HR h1 h63 hbytes hbase
  unfold Oper.wpIn
  refine ⟨?_, ?_⟩
  · simp [Oper.about, ho, resolve, Target.leads, Sem.run_pure]
  · rw [Oper.semAt_plain F _ _ (by rw [ho]; intro c hc'; cases hc')]
    simp [execOp, ho, resolve, invoke, builtin, hs, hx, hr, Result.andThen]
    exact hK _ _ (h A' (n + m) c' w' rfl h2 h3 h4)
theorem wp_appBIn {w : World} (hgd : o.guard = none) (s x : Operand) (t e : TypeId) (ho : o.op = .call { callee := .builtin .append, args := #[s, x], argTypes := #[t, t] })
    (ht : P.underlying t = some (.slice e)) (hi : (P.info? e).map (fun i => (i.zero, i.size, i.bytes)) = some (some (.int .u8 0), 1, 1))
    (base : Nat) (A : Option Addr) (n c : Nat) (l : List UInt8) (hs : a.eval s = .slice A n c) (HO : Ow w base e 1 A n c (l.map u8))
    (A2 : Option Addr) (m c2 : Nat) (l2 : List UInt8) (hx : a.eval x = .slice A2 m c2) (HR : Rd w A2 m c2 l2)
    (hlen : n + m ≤ 211106232532992) (hbase : base ≤ w.heap.size)
    (h : ∀ A' k c' l' w', Hid (k = n + m) → Hid (l' = l ++ l2) → Ow w' base e 1 A' k c' (l'.map u8) → Kp (ob A) w w' → (A' = A ∨ A' = some ⟨w.heap.size, 0, none⟩) → wpListIn F fd P ops Q rest (a.put o.dst (.slice A' k c')) w') : wpListIn F fd P ops Q (o :: rest) a w :=
  wp_appIn hgd s x t e (.int .u8 0) 1 1 ho ht hi rfl (by omega) base A n c (l.map u8) hs HO A2 m c2 (l2.map u8) hx (by simp [HR.len]) HR.at_ (u8_one l2) (by simp only [maxLen]; omega) (by omega) hbase
    (fun A' k c' w' hk HO' hKp hA => h A' k c' (l ++ l2) w' hk rfl (by rw [List.map_append]; exact HO') hKp hA)
end

/-- what a round's body leaves: it goes on; blocks that lay when the loop began stand, but those of S; the loop's two blocks stand -/
def rndPost (b0 : Nat) (S : List Nat) (I : World → Prop) (W : World) : Exit → Act → World → Prop
  | .normal, _, W' => KX b0 S W W' ∧ W'.heap[b0]? = W.heap[b0]? ∧ W'.heap[b0 + 1]? = W.heap[b0 + 1]? ∧ I W'
  | _, _, _ => False

/-- A range over a function that keeps its state in a cell of its own (block Bb): N + 1 rounds, none leaves early; what comes at round k is said by Ar. -/
theorem wpIn_rangeFunc_n {fd : Nat} {P : Program} {g : Operand} {ps : Array Tmp} {assign body : Code} {Q : Exit → Act → World → Prop} {a : Act} {w : World} (h1 : 1 ≤ fd)
    {gf : Nat} {lb : Array Value} (hg : a.eval g = .func (.func gf) #[] lb) (eg : ∀ args w, (callFunc gf args).run P w = .ok (.enter gf args) w)
    (S : List Nat) (Bb : Nat) (hBb : Bb < w.heap.size) (N : Nat) (Ar : Nat → Array Value → World → Prop) (hps : ∀ k x W, Ar k x W → x.size = ps.size) (hArp : ∀ k x W l o, w.heap.size ≤ l → Ar k x W → Ar k x (W.putObj l o))
    (hseq : ∀ (l : Nat) (J : Nat → World → Prop) (W : World), Kp [] w W → (∀ k W v, J k W → J k (W.setCell ⟨Bb, 0, none⟩ v)) →
      (∀ k x W, J k W → k ≤ N → Ar k x W → YieldAt Fence.wide (fd - 1 - 1) P l x W fun e W' => e = .returned (.bool true) ∧ J (k + 1) W' ∧ KX w.heap.size S W W') → J 0 W →
      CallsIn Fence.wide (fd - 1) P gf (#[.func (.yield l) #[] #[]] ++ lb) W fun e W' => (∃ v, e = .returned v) ∧ J (N + 1) W')
    (I : Nat → World → Prop) (hIs : ∀ k W v, I k W → I k (W.setCell ⟨Bb, 0, none⟩ v)) (hIp : ∀ k W l o, w.heap.size ≤ l → l ≤ w.heap.size + 1 → I k W → I k (W.putObj l o)) (hIa : ∀ o o', I 0 ((w.alloc o).alloc o'))
    (hround : ∀ (l k : Nat) (x : Array Value) (W : World), k ≤ N → Ar k x W →
      assign.wpIn (Fence.wide.inRound l) (fd - 1 - 1) P (Exit.then (fun a' W' => W' = W ∧ ∀ W2, I k W2 → Ar k x W2 → body.wpIn (Fence.wide.inRound l) (fd - 1 - 1) P (rndPost w.heap.size S (I (k + 1)) W2) a' W2) (fun _ _ _ => False)) { tmps := (ps.zip x).foldl (fun t (p, v) => t.setIfInBounds p v) a.tmps, defers := [] } W)
    (hdone : ∀ (W : World), I (N + 1) W → W.heap[w.heap.size]? = some (.deferred (some [])) → Q .normal { a with defers := { target := .collected w.heap.size, args := #[] } :: a.defers } W) :
    (Code.rangeFunc g ps assign body).wpIn Fence.wide fd P Q a w := by
  refine wpIn_rangeFunc ?_
  intro fn hfn
  obtain ⟨rec, hrec⟩ : ∃ rec : LoopState → Option Code → Loop, rec = fun st pe => { state := st, pending := pe, fn, tmps := a.tmps, params := ps, assign, body, defers := w.heap.size } := ⟨_, rfl⟩
  obtain ⟨W1, hW1⟩ : ∃ W1, (w.alloc (.deferred (some []))).alloc (.loop (rec .ready none)) = W1 := ⟨_, rfl⟩
  have hL1 : W1.heap[w.heap.size + 1]? = some (.loop (rec .ready none)) := by
    rw [← hW1]; have := World.alloc_heap_new (w.alloc (.deferred (some []))) (.loop (rec .ready none)); rwa [World.size_alloc] at this
  have hK1 : W1.heap[w.heap.size]? = some (.deferred (some [])) := by
    rw [← hW1]; exact (Below.heap_alloc _ _ _ (by simp)).trans (World.alloc_heap_new w _)
  have hI1 : I 0 W1 := by rw [← hW1]; exact hIa _ _
  have hb1 : Kp [] w W1 := by rw [← hW1]; exact ((Kp.refl _ _).alloc _).alloc _
  refine ⟨w.heap.size + 1, [{ target := .collected w.heap.size, args := #[] }], W1, { target := .fn (.func gf) lb, args := #[.func (.yield (w.heap.size + 1)) #[] #[]] }, W1, gf,
    #[.func (.yield (w.heap.size + 1)) #[] #[]] ++ lb, W1, ?_, ?_, ?_, ?_, fun _ => h1, ?_⟩
  · rw [← hW1, hrec]; exact run_enterLoop_outer _ _ _ _ _
  · simp only [resolve, hg]
    simp [go_sem]
  · intro f' hf'; trivial
  · simp [invoke, go_sem, eg]
  · refine (hseq (w.heap.size + 1)
      (fun k W => I k W ∧ W.heap[w.heap.size + 1]? = some (.loop (rec .ready none)) ∧ W.heap[w.heap.size]? = some (.deferred (some [])))
      W1 hb1 (fun k W v hJ => ⟨hIs k W v hJ.1, (hp_far W _ v _ (by simp; omega)).trans hJ.2.1, (hp_far W _ v _ (by simp; omega)).trans hJ.2.2⟩) ?_ ⟨hI1, hL1, hK1⟩).mono ?_
    · rintro k x W ⟨hi, hl, hk⟩ hkN hAr
      have hlt : w.heap.size + 1 < W.heap.size := (Array.getElem?_eq_some_iff.1 hl).1
      have hy := run_yield (P := P) (args := x) hl (by rw [hrec]; exact hps k x W hAr)
      rw [hrec] at hy
      refine ⟨fn, _, assign, body, hy, roundIn_of_wpIn hfn (wpIn_mono (hround _ k x W hkN hAr) ?_)⟩
      intro e a' W' hpre
      cases e with
      | ret => exact hpre.elim
      | exit id => exact hpre.elim
      | goto t => exact hpre.elim
      | panic ch => exact hpre.elim
      | outgrown => exact hpre.elim
      | normal =>
      obtain ⟨e1, hbody⟩ := hpre
      have e2 := e1.symm
      subst e2
      clear e1
      refine ⟨_, run_beginRound hl (by rw [hrec]), ?_⟩
      have hl2 : (W.putObj (w.heap.size + 1) (.loop { rec .ready none with state := .busy })).heap[w.heap.size + 1]? = some (.loop { rec .ready none with state := .busy }) := World.putObj_heap_same hlt
      have hk2 : (W.putObj (w.heap.size + 1) (.loop { rec .ready none with state := .busy })).heap[w.heap.size]? = some (.deferred (some [])) := (World.putObj_heap_other (by omega)).trans hk
      have hX2 : KX w.heap.size S W (W.putObj (w.heap.size + 1) (.loop { rec .ready none with state := .busy })) := KX.of (T := [w.heap.size + 1]) ((Kp.refl _ _).putObj (.inl (by simp)) _) (by simp)
      refine wpIn_mono (hbody _ (hIp _ _ _ _ (by omega) (by omega) hi) (hArp _ _ _ _ _ (by omega) hAr)) ?_
      rintro e a3 W3 hp
      cases e with
      | normal =>
        obtain ⟨hk3, hd3, hr3, hi3⟩ := hp
        have hl3 := hr3.trans hl2
        have hk3' := hd3.trans hk2
        have hr := run_endRound (P := P) none hl3
        rw [hrec] at hr hl3 ⊢
        exact ⟨_, _, hr, rfl, ⟨hIp _ _ _ _ (by omega) (by omega) hi3, World.putObj_heap_same (Array.getElem?_eq_some_iff.1 hl3).1, (World.putObj_heap_other (by omega)).trans hk3'⟩, (hX2.trans hk3).trans (KX.of (T := [w.heap.size + 1]) ((Kp.refl _ _).putObj (.inl (by simp)) _) (by simp))⟩
      | ret => exact hp.elim
      | exit id => exact hp.elim
      | goto t => exact hp.elim
      | panic ch => exact hp.elim
      | outgrown => exact hp.elim
    · rintro e W2 ⟨⟨v, rfl⟩, hi, hl, hk⟩
      exact ⟨none, _, by have := run_endLoop (P := P) hl (by rw [hrec]; simp); rw [hrec] at this; exact this, hdone _ (hIp _ _ _ _ (by omega) (by omega) hi) ((World.putObj_heap_other (by omega)).trans hk)⟩

/-- A list of frames, its rows (its own and each payload's) in blocks from base on and below hi. -/
structure FrL (w : World) (base hi : Nat) (A : Option Addr) (n c : Nat) (fs : List (Fr × List UInt8)) : Prop where
  ow : Ow w base 34 12 A n c (fs.flatMap fun p => Fr.cells p.1)
  len : fs.length = n
  pl : ∀ p, p ∈ fs → Rd w p.1.pA p.1.pn p.1.pc p.2 ∧ ∀ b, b ∈ ob p.1.pA → base ≤ b ∧ b < hi ∧ b ∉ ob A
  rb : ∀ b, b ∈ ob A → b < hi
  hi : hi ≤ w.heap.size
theorem FrL.nil (w : World) (base : Nat) : FrL w base w.heap.size none 0 0 [] := ⟨Ow.nil _ _ _ _, rfl, by simp, by simp [ob], Nat.le_refl _⟩
theorem FrL.keep {T : List Nat} {w w' : World} {base hi : Nat} {A : Option Addr} {n c : Nat} {fs : List (Fr × List UInt8)} (h : FrL w base hi A n c fs) (k : Kp T w w') (hT : ∀ t, t ∈ T → t < base ∨ hi ≤ t) : FrL w' base hi A n c fs :=
  ⟨h.ow.keep k (fun b hb ht => by have := h.rb b hb; have := (h.ow.base b hb).1; exact (hT b ht).elim (by omega) (by omega)), h.len,
   fun p hp => ⟨(h.pl p hp).1.keep k (fun _ b hb ht => by have := (h.pl p hp).2 b hb; exact (hT b ht).elim (by omega) (by omega)), (h.pl p hp).2⟩, h.rb, by have := h.hi; have := k.size; omega⟩
theorem FrL.mono {w : World} {base base' hi hi' : Nat} {A : Option Addr} {n c : Nat} {fs : List (Fr × List UInt8)} (h : FrL w base hi A n c fs) (hb : base' ≤ base) (h1 : hi ≤ hi') (h2 : hi' ≤ w.heap.size) : FrL w base' hi' A n c fs :=
  ⟨h.ow.mono hb, h.len, fun p hp => ⟨(h.pl p hp).1, fun b hx => by have := (h.pl p hp).2 b hx; exact ⟨by omega, by omega, this.2.2⟩⟩, fun b hx => by have := h.rb b hx; omega, h2⟩
/-- one more, its payload in a row of its own -/
theorem FrL.app {w w' : World} {base hi : Nat} {A : Option Addr} {n c : Nat} {fs : List (Fr × List UInt8)} (h : FrL w base hi A n c fs) {f : Fr} {l : List UInt8} (hp : Rd w f.pA f.pn f.pc l) (hb : ∀ b, b ∈ ob f.pA → hi ≤ b ∧ b < w.heap.size) (hbase : base ≤ hi)
    {A' : Option Addr} {k c' : Nat} (O : Ow w' base 34 12 A' k c' ((fs.flatMap fun p => Fr.cells p.1) ++ Fr.cells f)) (hk : k = n + 1) (K : Kp (ob A) w w') (hA : A' = A ∨ A' = some ⟨w.heap.size, 0, none⟩) : FrL w' base w'.heap.size A' k c' (fs ++ [(f, l)]) := by
  have hs := K.size
  have hh := h.hi
  refine ⟨by simpa using O, by simp [h.len, hk], fun p hpm => ?_, fun b hb => (O.base b hb).2, Nat.le_refl _⟩
  have key : Rd w p.1.pA p.1.pn p.1.pc p.2 ∧ ∀ b, b ∈ ob p.1.pA → base ≤ b ∧ b < w.heap.size ∧ b ∉ ob A := by
    rcases List.mem_append.1 hpm with h1 | h1
    · exact ⟨(h.pl p h1).1, fun b hb => by have := (h.pl p h1).2 b hb; exact ⟨this.1, by omega, this.2.2⟩⟩
    · obtain rfl : p = (f, l) := by simpa using h1
      exact ⟨hp, fun b hb' => by have := hb b hb'; exact ⟨by omega, this.2, fun hx => by have := h.rb b hx; omega⟩⟩
  refine ⟨key.1.keep K (fun _ b hb => (key.2 b hb).2.2), fun b hb => ⟨(key.2 b hb).1, by have := (key.2 b hb).2.1; omega, fun hx => ?_⟩⟩
  rcases hA with rfl | rfl
  · exact (key.2 b hb).2.2 hx
  · simp [ob] at hx
    have := (key.2 b hb).2.1
    omega
/-- the cells of one frame of it -/
theorem FrL.cell {w : World} {base hi : Nat} {A : Option Addr} {n c : Nat} {fs : List (Fr × List UInt8)} (h : FrL w base hi A n c fs) (i : Nat) (hin : i < n) :
    ∃ (g : Nat) (p : Fr × List UInt8), A = some ⟨g, 0, none⟩ ∧ g < w.heap.size ∧ fs[i]? = some p ∧ p ∈ fs ∧ ∀ j u, (Fr.cells p.1)[j]? = some u → w.cell? ⟨g, i * 12 + j, none⟩ = some u := by
  have hi' : i < fs.length := by rw [h.len]; exact hin
  obtain ⟨b, off, hA, hc⟩ := h.ow.at_ (by rw [cells_len]; omega)
  rcases h.ow.head with ⟨h0, _⟩ | ⟨g, hg, _, hlt⟩
  · rw [h0] at hA; cases hA
  · rw [hg] at hA
    cases hA
    refine ⟨b, fs[i], hg, hlt, List.getElem?_eq_getElem hi', List.getElem_mem hi', fun j u hu => ?_⟩
    have := hc _ _ (cells_at fs i _ (List.getElem?_eq_getElem hi') j u hu)
    rwa [Nat.zero_add] at this
end Go.Proofs.Ytibeaombhjdakaa
