/- The program's reader: Next. -/
import Derived.Test.YtkmcakneceagpaaRdP
import Derived.Test.YtkmcakneceagpaaReg4
import Derived.Test.YtkmcakneceagpaaPlnC
set_option linter.unusedVariables false
set_option linter.unusedSimpArgs false
set_option linter.unusedSimpArgs false
namespace Go.Proofs.Ytkmcakneceagpaa
open Go.RowKit
theorem set12 {w : World} {g : Nat} {a0 a1 a2 a3 a4 a5 a6 a7 a8 a9 a10 a11 b0 b1 b2 b3 b4 b5 b6 b7 b8 b9 b10 b11 : Value} {t : TypeId} (hg : w.heap[g]? = some (.cells #[a0, a1, a2, a3, a4, a5, a6, a7, a8, a9, a10, a11] t)) : (World.setCell (World.setCell (World.setCell (World.setCell (World.setCell (World.setCell (World.setCell (World.setCell (World.setCell (World.setCell (World.setCell (World.setCell w ⟨g, 0, none⟩ b0) ⟨g, 1, none⟩ b1) ⟨g, 2, none⟩ b2) ⟨g, 3, none⟩ b3) ⟨g, 4, none⟩ b4) ⟨g, 5, none⟩ b5) ⟨g, 6, none⟩ b6) ⟨g, 7, none⟩ b7) ⟨g, 8, none⟩ b8) ⟨g, 9, none⟩ b9) ⟨g, 10, none⟩ b10) ⟨g, 11, none⟩ b11).heap[g]? = some (.cells #[b0, b1, b2, b3, b4, b5, b6, b7, b8, b9, b10, b11] t) ∧ Kp [g] w (World.setCell (World.setCell (World.setCell (World.setCell (World.setCell (World.setCell (World.setCell (World.setCell (World.setCell (World.setCell (World.setCell (World.setCell w ⟨g, 0, none⟩ b0) ⟨g, 1, none⟩ b1) ⟨g, 2, none⟩ b2) ⟨g, 3, none⟩ b3) ⟨g, 4, none⟩ b4) ⟨g, 5, none⟩ b5) ⟨g, 6, none⟩ b6) ⟨g, 7, none⟩ b7) ⟨g, 8, none⟩ b8) ⟨g, 9, none⟩ b9) ⟨g, 10, none⟩ b10) ⟨g, 11, none⟩ b11) := ⟨sf11 (sf10 (sf9 (sf8 (sf7 (sf6 (sf5 (sf4 (sf3 (sf2 (sf1 (sf0 (hg)))))))))))), (((((((((((((Kp.refl _ _).setCell (.inl (by simp)) _).setCell (.inl (by simp)) _).setCell (.inl (by simp)) _).setCell (.inl (by simp)) _).setCell (.inl (by simp)) _).setCell (.inl (by simp)) _).setCell (.inl (by simp)) _).setCell (.inl (by simp)) _).setCell (.inl (by simp)) _).setCell (.inl (by simp)) _).setCell (.inl (by simp)) _).setCell (.inl (by simp)) _)⟩
theorem set3 {w : World} {g : Nat} {x0 x1 x2 y0 y1 y2 : Value} {t : TypeId} (hg : w.heap[g]? = some (.cells #[x0, x1, x2] t)) : (World.setCell (World.setCell (World.setCell w ⟨g, 0, none⟩ y0) ⟨g, 1, none⟩ y1) ⟨g, 2, none⟩ y2).heap[g]? = some (.cells #[y0, y1, y2] t) ∧ Kp [g] w (World.setCell (World.setCell (World.setCell w ⟨g, 0, none⟩ y0) ⟨g, 1, none⟩ y1) ⟨g, 2, none⟩ y2) := ⟨sx2 (sx1 (sx0 (hg))), ((((Kp.refl _ _).setCell (.inl (by simp)) _).setCell (.inl (by simp)) _).setCell (.inl (by simp)) _)⟩
/-- a frame's cells are laid into a block that held none -/
def StF (p : Fp) (w w' : World) : Prop := ∃ (b : Nat) (f : Fr), w.heap[b]? = some (.cells #[.int .i64 0, .int .i64 0, .int .i64 0, .slice none 0 0, .int .i64 0, .int .u32 0, .int .i64 0, .int .i64 0, .int .i64 0, .bool false, .int .i64 0, .slice none 0 0] 49) ∧ w'.heap[b]? = some (.cells #[.int .i64 f.ty, .int .i64 f.fl, .int .i64 f.st, .slice f.pA f.pn f.pc, .int .i64 f.pad, .int .u32 f.code, .int .i64 f.last, .int .i64 f.inc, .int .i64 f.dep, .bool f.only, .int .i64 f.wt, .slice f.sA f.sn f.sc] 49) ∧ Kp [b] w w' ∧ f.pad = p.pad ∧ f.code = p.code
/-- a fault's cells are laid into a block that held none -/
def StX (w w' : World) : Prop := ∃ b : Nat, w.heap[b]? = some (.cells #[.bool false, .int .i64 0, .int .i64 0] 64) ∧ Kp [b] w w'
theorem FrP.stX {w w' : World} {base : Nat} {f : Fr} {p : Fp} (h : FrP w base f p) (s : StX w w') : FrP w' base f p := by
  obtain ⟨b, hz, K⟩ := s
  refine ⟨h.eq, h.rd.keep K (fun hn t ht hs => ?_), h.sd.keep K (fun hn t ht hs => ?_), h.pb, h.sb⟩
  · simp at hs
    subst hs
    obtain ⟨b, off, hA, hb, hc⟩ := h.rd.addr hn
    rw [hA] at ht
    simp [ob] at ht
    subst ht
    have h1 := hc 0 hn
    rw [cell_of hz] at h1
    have := Array.mem_of_getElem? h1
    simp at this
  · simp at hs
    subst hs
    obtain ⟨b, off, hA, hb, hc⟩ := h.sd.at_ hn
    rw [hA] at ht
    simp [ob] at ht
    subst ht
    have h1 := (hc 0 hn).2
    rw [cell_of hz] at h1
    have := Array.mem_of_getElem? h1
    simp at this
theorem FrP.stF {w w' : World} {base : Nat} {f : Fr} {p : Fp} (h : FrP w base f p) (s : StF p w w') (hz : p.ss ≠ [] → p.pad = 0 ∧ p.code = 0) : FrP w' base f p := by
  obtain ⟨b, f', hzz, hw, K, e1, e2⟩ := s
  refine ⟨h.eq, h.rd.keep K (fun hn t ht hs => ?_), ?_, h.pb, h.sb⟩
  · simp at hs
    subst hs
    obtain ⟨b, off, hA, hb, hc⟩ := h.rd.addr hn
    rw [hA] at ht
    simp [ob] at ht
    subst ht
    have h1 := hc 0 hn
    rw [cell_of hzz] at h1
    have := Array.mem_of_getElem? h1
    simp at this
  · by_cases hn : 0 < f.sn
    · obtain ⟨b', off, hA, hb, hc⟩ := h.sd.at_ hn
      by_cases hbb : b' = b
      · subst hbb
        have hss : p.ss ≠ [] := by have := h.sd.len; intro h0; rw [h0] at this; simp at this; omega
        obtain ⟨z1, z2⟩ := hz hss
        have key : ∀ i, i < f.sn → off + i * 2 + 1 = 5 := by
          intro i hi
          have h1 := (hc i hi).2
          rw [cell_of hzz] at h1
          have hlt : off + i * 2 + 1 < 12 := by have := (Array.getElem?_eq_some_iff.1 h1).1; simpa using this
          generalize off + i * 2 + 1 = q at *
          rcases q with _ | _ | _ | _ | _ | _ | _ | _ | _ | _ | _ | _ | q <;> first | rfl | (simp at h1; done) | omega
        have k0 := key 0 hn
        have hoff : off = 4 := by omega
        subst hoff
        have c0 := hc 0 hn
        refine ⟨h.sd.len, h.sd.cap, fun _ => ⟨b', 4, hA, lt_of_heap hw, fun i hi => ?_⟩, h.sd.val⟩
        have hi0 : i = 0 := by have := key i hi; omega
        subst hi0
        rw [cell_of hzz, cell_of hzz] at c0
        rw [cell_of hw, cell_of hw, ← c0.1, ← c0.2]
        simp [e1, e2, z1, z2]
      · exact h.sd.keep K (fun _ t ht hs => by rw [hA] at ht; simp [ob] at ht hs; omega)
    · exact ⟨h.sd.len, h.sd.cap, fun h0 => absurd h0 hn, h.sd.val⟩
theorem FrP.rc {w w' : World} {base q : Nat} {f : Fr} {p : Fp} (hR : ((q = 0 ∧ Kp [] w w') ∨ (q = 1 ∧ StF p w w') ∨ (q = 2 ∧ StX w w'))) (h : FrP w base f p) (hz : p.ss ≠ [] → p.pad = 0 ∧ p.code = 0) : FrP w' base f p := by
  rcases hR with ⟨_, hR⟩ | ⟨_, hR⟩ | ⟨_, hR⟩
  · exact h.low hR (by simp) (Nat.le_refl _)
  · exact h.stF hR hz
  · exact h.stX hR
theorem RC0 {w w' : World} {q b : Nat} {p : Fp} (hq : ¬ q = 1) (hR : ((q = 0 ∧ Kp [] w w') ∨ (q = 1 ∧ StF p w w') ∨ (q = 2 ∧ StX w w'))) (h : w.heap[b]? = some (.cells #[.int .i64 0, .int .i64 0, .int .i64 0, .slice none 0 0, .int .i64 0, .int .u32 0, .int .i64 0, .int .i64 0, .int .i64 0, .bool false, .int .i64 0, .slice none 0 0] 49)) : w'.heap[b]? = some (.cells #[.int .i64 0, .int .i64 0, .int .i64 0, .slice none 0 0, .int .i64 0, .int .u32 0, .int .i64 0, .int .i64 0, .int .i64 0, .bool false, .int .i64 0, .slice none 0 0] 49) := by
  rcases hR with ⟨_, hR⟩ | ⟨h1, _⟩ | ⟨_, b', hz, K⟩
  · exact hR.heap h (by simp)
  · exact absurd h1 hq
  · exact K.heap h (by intro hb; simp at hb; subst hb; have := h.symm.trans hz; simp at this)
theorem RC1 {w w' : World} {q b : Nat} {p : Fp} (hq : ¬ q = 2) (hR : ((q = 0 ∧ Kp [] w w') ∨ (q = 1 ∧ StF p w w') ∨ (q = 2 ∧ StX w w'))) (h : w.heap[b]? = some (.cells #[.bool false, .int .i64 0, .int .i64 0] 64)) : w'.heap[b]? = some (.cells #[.bool false, .int .i64 0, .int .i64 0] 64) := by
  rcases hR with ⟨_, hR⟩ | ⟨_, b', f, hz, _, K, _⟩ | ⟨h1, _⟩
  · exact hR.heap h (by simp)
  · exact K.heap h (by intro hb; simp at hb; subst hb; have := h.symm.trans hz; simp at this)
  · exact absurd h1 hq
/-- frames of unknown types are passed over -/
inductive Skip (most : Int) : List UInt8 → List UInt8 → Prop
  | refl (l : List UInt8) : Skip most l l
  | step {l m : List UInt8} (h0 : (ps l most).err = 0) (h1 : (ps l most).is = false) (h2 : known (ps l most).f.ty = false) (h : Skip most (l.drop (ps l most).used.toNat) m) : Skip most l m
theorem Skip.trans {most : Int} {a b c : List UInt8} (h : Skip most a b) (k : Skip most b c) : Skip most a c := by
  induction h with
  | refl l => exact k
  | step h0 h1 h2 _ ih => exact .step h0 h1 h2 (ih k)
/-- what Next leaves: r is what is told of the bytes behind the unknown frames -/
def NextR (most : Int) (g : Nat) (D : List Nat) (xs xc : Int) (l : List UInt8) (w : World) (e : Ending) (w' : World) : Prop :=
  ∃ l', Skip most l l' ∧ Kp (g :: D) w w' ∧
    (((ps l' most).err ≠ 0 ∧ e = .returned (.tuple #[.agg #[.int .i64 0, .int .i64 0, .int .i64 0, .slice none 0 0, .int .i64 0, .int .u32 0, .int .i64 0, .int .i64 0, .int .i64 0, .bool false, .int .i64 0, .slice none 0 0], .bool false, .agg #[.bool false, .int .i64 0, .int .i64 0]]) ∧ RdS w' g D most false xs xc l') ∨
     ((ps l' most).err = 0 ∧ (ps l' most).is = true ∧ (ps l' most).xst = 0 ∧ e = .returned (.tuple #[.agg #[.int .i64 0, .int .i64 0, .int .i64 0, .slice none 0 0, .int .i64 0, .int .u32 0, .int .i64 0, .int .i64 0, .int .i64 0, .bool false, .int .i64 0, .slice none 0 0], .bool false, .agg #[.bool true, .int .i64 0, .int .i64 (ps l' most).code]]) ∧ RdS w' g D most true 0 (ps l' most).code l') ∨
     ((ps l' most).err = 0 ∧ (ps l' most).is = true ∧ ¬ (ps l' most).xst = 0 ∧ e = .returned (.tuple #[.agg #[.int .i64 0, .int .i64 0, .int .i64 0, .slice none 0 0, .int .i64 0, .int .u32 0, .int .i64 0, .int .i64 0, .int .i64 0, .bool false, .int .i64 0, .slice none 0 0], .bool false, .agg #[.bool true, .int .i64 (ps l' most).xst, .int .i64 (ps l' most).code]]) ∧ RdS w' g D most false xs xc (l'.drop (ps l' most).used.toNat)) ∨
     ((ps l' most).err = 0 ∧ (ps l' most).is = false ∧ known (ps l' most).f.ty = true ∧ ∃ f : Fr, e = .returned (.tuple #[.agg #[.int .i64 f.ty, .int .i64 f.fl, .int .i64 f.st, .slice f.pA f.pn f.pc, .int .i64 f.pad, .int .u32 f.code, .int .i64 f.last, .int .i64 f.inc, .int .i64 f.dep, .bool f.only, .int .i64 f.wt, .slice f.sA f.sn f.sc], .bool true, .agg #[.bool false, .int .i64 (ps l' most).xst, .int .i64 (ps l' most).code]]) ∧ FrP w' w.heap.size f (ps l' most).f ∧ RdS w' g D most false xs xc (l'.drop (ps l' most).used.toNat)))
/-- how many bytes a reader has, out of the world -/
def lenAt (w : World) (g : Nat) : Nat := match w.cell? ⟨g, 2, none⟩ with | some (.slice _ n _) => n | _ => 0
end Go.Proofs.Ytkmcakneceagpaa
