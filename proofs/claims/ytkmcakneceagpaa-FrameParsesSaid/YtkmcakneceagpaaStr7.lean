/- What the laws of frames that are read have in common. -/
import Derived.Test.YtkmcakneceagpaaPrs7
set_option linter.unusedVariables false
set_option linter.unusedSimpArgs false
set_option linter.unusedSimpArgs false
namespace Go.Proofs.Ytkmcakneceagpaa
open Go.RowKit
theorem wpList_strG {P : Program} {o : Oper} {a : Act} {w : World} {Q : Exit → Act → World → Prop} {ops : Array Oper} {rest : List Oper} {gi : Nat} {gb : Bool} {og : Oper} {gd : Nat} (hgd : o.guard = some (gi, gb)) (hog : ops[gi]? = some og) (hod : og.dst = some gd) (hv : a.tmps[gd]? = some (.bool gb)) (src e dst : TypeId) (x : Operand) (ho : o.op = .convert src dst x) (hs : P.underlying src = some (.slice e)) (he : P.underlying e = some (.int .u8)) (hd : P.underlying dst = some .string)
    {A : Option Addr} {n c : Nat} {l : List UInt8} (hx : a.eval x = .slice A n c) (hr : Rd w A n c l) (h : wpList P ops Q rest (a.put o.dst (.string (sb l))) w) : wpList P ops Q (o :: rest) a w := by
  refine wpList_step (fun K hK => ?_)
  refine want_yes hgd hog hod hv ?_
  exact wp_str src e dst x ho hs he hd hx hr (hK _ _ h)
theorem Ow.put {w : World} {base : Nat} {e : TypeId} {g n c : Nat} {ys : List UInt8} (h : Ow w base e 1 (some ⟨g, 0, none⟩) n c (ys.map u8)) (k : Nat) (hk : k < n) (v : UInt8) : Ow (w.setCell ⟨g, k, none⟩ (u8 v)) base e 1 (some ⟨g, 0, none⟩) n c ((ys.set k v).map u8) := by
  have hl := h.len
  refine ⟨by simpa using hl, ?_⟩
  rcases h.2 with ⟨he, _⟩ | ⟨g', cap, cur, he, hb, hg, h1, h2, h3, h4⟩
  · cases he
  · injection he with e1 _ e3
    injection e1 with e1
    injection e1 with e1
    subst e1 e3
    refine .inr ⟨g, c, cur.setIfInBounds k (u8 v), rfl, hb, hp_set w g k (u8 v) cur e hg, h1, h2, by simpa using h3, ?_⟩
    rw [List.map_set, ← h4]
    simp only [Array.toList_setIfInBounds, List.take_set]
theorem Ow.of {w : World} {base : Nat} {e : TypeId} {A : Option Addr} {n c : Nat} {ys : List UInt8} (h : Ow w base e 1 A n c (ys.map u8)) (hn : 0 < n) : ∃ g, A = some ⟨g, 0, none⟩ ∧ base ≤ g ∧ g < w.heap.size ∧ ys.length = n ∧ (∀ j, w.frozen? ⟨g, j, none⟩ = false) ∧ ∀ k, k < n → w.cell? ⟨g, k, none⟩ = some (.int .u8 ((ys.getD k 0).toNat : Int)) := by
  have hl : ys.length = n := by have := h.len; simpa using this
  rcases h.2 with ⟨he, h0⟩ | ⟨g, cap, cur, he, hb, hg, h1, h2, h3, h4⟩
  · omega
  · injection he with e1 _ e3
    subst e1 e3
    refine ⟨g, rfl, hb, lt_of_heap hg, hl, frozen_of hg, fun k hk => ?_⟩
    rw [cell_of hg, ← Array.getElem?_toList]
    have h5 : (cur.toList.take (n * 1))[k]? = cur.toList[k]? := by rw [List.getElem?_take, if_pos (by omega)]
    rw [← h5, h4]
    simp [u8, List.getD_eq_getElem?_getD, List.getElem?_eq_getElem (show k < ys.length by omega)]
/-- the cells of a frame that is p -/
theorem FrP.cs {w : World} {base : Nat} {f : Fr} {p : Fp} (h : FrP w base f p) : f.ty = p.ty ∧ f.fl = p.fl ∧ f.st = p.st ∧ f.pad = p.pad ∧ f.code = p.code ∧ f.last = p.last ∧ f.inc = p.inc ∧ f.dep = p.dep ∧ f.only = p.only ∧ f.wt = p.wt := by
  have e := h.eq
  obtain ⟨ty, fl, st, pA, pn, pc, pad, code, last, inc, dep, only, wt, sA, sn, sc⟩ := f
  obtain ⟨ty', fl', st', pl, pad', code', last', inc', dep', only', wt', ss⟩ := p
  simp only [Fr.p, Fp.mk.injEq] at e
  simp [e]
end Go.Proofs.Ytkmcakneceagpaa
