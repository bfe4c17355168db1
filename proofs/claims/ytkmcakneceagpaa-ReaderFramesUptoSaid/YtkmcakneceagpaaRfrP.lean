/- Frames one behind the other, unknown ones between: what a reader tells of them, as plain data. -/
import Derived.Test.YtkmcakneceagpaaGReg4
import Derived.Test.YtkmcakneceagpaaGFrmWr
set_option linter.unusedSimpArgs false
set_option linter.unusedVariables false
namespace Go.Proofs.Ytkmcakneceagpaa
open Go.RowKit
/-- a frame that is written, and what stands behind its bytes -/
structure It where
  f : Fr
  l : List UInt8
  ss : List (Int × Int)
  u : List UInt8
def It.p (it : It) : Fp := it.f.p it.l it.ss
def It.x (it : It) : List UInt8 := (wr it.p).1
def It.b (it : It) : List UInt8 := it.x ++ it.u
/-- an unknown frame -/
def unkB (y : UInt8) : List UInt8 := [0, 0, 0, UInt8.ofNat (10 + y.toNat % 200), y, 0, 0, 0, 1]
def UnkL (u : List UInt8) : Prop := u = [] ∨ ∃ y, u = unkB y
structure ItOk (w : World) (it : It) : Prop where
  ok : WrOk w it.f it.l it.ss
  e0 : (wr it.p).2 = 0
  len : it.x.length ≤ 16384
  u : UnkL it.u
theorem WrOk.okp {w : World} {f : Fr} {l : List UInt8} {ss : List (Int × Int)} (h : WrOk w f l ss) : OkP (f.p l ss) := ⟨h.code.1, h.code.2, fun s hs => by
  obtain ⟨j, hj, rfl⟩ := List.getElem_of_mem hs
  have hj' : j < ss.length := hj
  have h1 := h.sd.val j
  rw [List.getD_eq_getElem?_getD, List.getElem?_eq_getElem hj'] at h1
  exact h1⟩
theorem ps_most (l : List UInt8) (m m' : Int) (h0 : 0 ≤ m) (h : (be (l.take 3) : Int) ≤ m) (h' : m ≤ m') : ps l m = ps l m' := by
  unfold ps
  have a1 : ¬ m < 0 := by omega
  have a2 : ¬ m' < 0 := by omega
  have a3 : ¬ m < (be (l.take 3) : Int) := by omega
  have a4 : ¬ m' < (be (l.take 3) : Int) := by omega
  simp only [a1, a2, a3, a4, if_false]
theorem ps_it {w : World} {it : It} (h : ItOk w it) (r : List UInt8) : ps (it.x ++ r) 16384 = ⟨cano it.p, (it.x.length : Int), false, 0, 0, 0⟩ := by
  have hl := wr_len h.e0
  have hx : it.x.length = 9 + (bodyW it.p).length := hl
  have e := ps_wr it.p h.ok.okp h.e0 r
  obtain ⟨g, hb, e2⟩ := wr_eq h.e0
  have h3 : be ((it.x ++ r).take 3) = (bodyW it.p).length := by
    have e3 : (it.x ++ r).take 3 = bytesOf (bodyW it.p).length 3 := by
      unfold It.x
      rw [e2]
      simp only [List.append_assoc]
      exact List.take_left' (bytesOf_length _ _)
    rw [e3]
    rw [be_bytesOf]
    exact Nat.mod_eq_of_lt hb
  have h16 := h.len
  rw [ps_most (it.x ++ r) 16384 16777215 (by omega) (by omega) (by omega), show it.x ++ r = (wr it.p).1 ++ r from rfl, e]
  congr 1
  omega
theorem ps_unk (y : UInt8) (r : List UInt8) : (ps (unkB y ++ r) 16384).err = 0 ∧ (ps (unkB y ++ r) 16384).is = false ∧ known (ps (unkB y ++ r) 16384).f.ty = false ∧ (ps (unkB y ++ r) 16384).used = 9 := by
  have hn : (UInt8.ofNat (10 + y.toNat % 200)).toNat = 10 + y.toNat % 200 := by rw [UInt8.toNat_ofNat']; omega
  obtain ⟨z, hz⟩ : ∃ z, UInt8.ofNat (10 + y.toNat % 200) = z := ⟨_, rfl⟩
  have hk : known (z.toNat : Int) = false := by
    rw [hz] at hn
    unfold known
    simp
    omega
  have h3 : be ((unkB y ++ r).take 3) = 0 := rfl
  unfold ps
  rw [if_neg (by omega), if_neg (by simp [unkB]), h3, if_neg (by omega), if_neg (by simp [unkB])]
  have e3 : ((unkB y ++ r).getD 3 0) = z := by rw [← hz]; rfl
  rw [e3]
  unfold inS
  dsimp only
  rw [if_pos hk]
  refine ⟨rfl, rfl, hk, ?_⟩
  simp
theorem skip_u {u : List UInt8} (h : UnkL u) (r : List UInt8) : Skip 16384 (u ++ r) r := by
  rcases h with rfl | ⟨y, rfl⟩
  · exact .refl _
  · obtain ⟨h1, h2, h3, h4⟩ := ps_unk y r
    refine .step h1 h2 h3 ?_
    rw [h4]
    exact .refl _
theorem nx_it {w : World} {it : It} (h : ItOk w it) {u : List UInt8} (hu : UnkL u) (r : List UInt8) : NxR 16384 false 0 0 (u ++ (it.x ++ r)) ⟨cano it.p, true, false, 0, 0, false, 0, 0, r⟩ := by
  have e := ps_it h r
  obtain ⟨g, hb, e2⟩ := wr_eq h.e0
  refine .inr ⟨rfl, it.x ++ r, skip_u hu _, .inr (.inr ?_), ?_⟩
  · rw [e]
    exact (good_of g).1
  · unfold nxO
    rw [e]
    simp
theorem nx_end {u : List UInt8} (hu : UnkL u) : NxR 16384 false 0 0 u ⟨Fp.zero, false, false, 0, 0, false, 0, 0, []⟩ := by
  have e : ps [] 16384 = .no 0 3 := rfl
  have h := skip_u hu []
  rw [List.append_nil] at h
  exact .inr ⟨rfl, [], h, .inl (by rw [e]; decide), by unfold nxO; rw [e]; rfl⟩
/-- all bytes -/
def itsB (its : List It) : List UInt8 := its.flatMap It.b
/-- what is left before the k-th is told -/
def leftB (its : List It) (k : Nat) : List UInt8 := (if k = 0 then [] else ((its.getD (k - 1) ⟨⟨0, 0, 0, none, 0, 0, 0, 0, 0, 0, 0, false, 0, none, 0, 0⟩, [], [], []⟩).u)) ++ itsB (its.drop k)
theorem leftB_u (its : List It) (k : Nat) (hk : k ≤ its.length) (w : World) (h : ∀ it, it ∈ its → ItOk w it) : ∃ u, UnkL u ∧ leftB its k = u ++ itsB (its.drop k) := by
  unfold leftB
  split
  · exact ⟨[], .inl rfl, rfl⟩
  · refine ⟨_, ?_, rfl⟩
    have hlt : k - 1 < its.length := by omega
    rw [List.getD_eq_getElem?_getD, List.getElem?_eq_getElem hlt]
    exact (h _ (List.getElem_mem hlt)).u
theorem leftB_nx (its : List It) (k : Nat) (hk : k < its.length) (w : World) (h : ∀ it, it ∈ its → ItOk w it) : NxR 16384 false 0 0 (leftB its k) ⟨cano its[k].p, true, false, 0, 0, false, 0, 0, leftB its (k + 1)⟩ := by
  obtain ⟨u, hu, e⟩ := leftB_u its k (by omega) w h
  have e1 : itsB (its.drop k) = its[k].x ++ leftB its (k + 1) := by
    rw [List.drop_eq_getElem_cons hk]
    unfold itsB leftB
    rw [List.flatMap_cons, if_neg (by omega), Nat.add_sub_cancel, List.getD_eq_getElem?_getD, List.getElem?_eq_getElem hk]
    simp [It.b, itsB]
  rw [e, e1]
  exact nx_it (h _ (List.getElem_mem hk)) hu _
theorem leftB_end (its : List It) (w : World) (h : ∀ it, it ∈ its → ItOk w it) : NxR 16384 false 0 0 (leftB its its.length) ⟨Fp.zero, false, false, 0, 0, false, 0, 0, []⟩ := by
  obtain ⟨u, hu, e⟩ := leftB_u its its.length (Nat.le_refl _) w h
  rw [e, List.drop_length]
  simp only [itsB, List.flatMap_nil, List.append_nil]
  exact nx_end hu
theorem leftB_zero (its : List It) : leftB its 0 = itsB its := rfl
end Go.Proofs.Ytkmcakneceagpaa
