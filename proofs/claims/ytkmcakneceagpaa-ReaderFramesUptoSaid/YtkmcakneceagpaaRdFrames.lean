/- 'ReaderFrames', walked. -/
import Derived.Test.YtkmcakneceagpaaRfrP
import Derived.Test.YtkmcakneceagpaaGRfWr
import Derived.Test.YtkmcakneceagpaaOpnFrs
set_option linter.unusedSimpArgs false
set_option linter.unusedVariables false
namespace Go.Proofs.Ytkmcakneceagpaa
open Go.RowKit
theorem infoFr8 : (Try.prog.info? 49).map (fun i => (i.zero, i.size, i.bytes)) = some (some (.agg #[.int .i64 0, .int .i64 0, .int .i64 0, .slice none 0 0, .int .i64 0, .int .u32 0, .int .i64 0, .int .i64 0, .int .i64 0, .bool false, .int .i64 0, .slice none 0 0]), 12, 128) := by kernel_rfl
theorem can_pl (p : Fp) : (cano p).pl.length ≤ p.pl.length := by unfold cano; dsimp only; split <;> simp
theorem can_ss (p : Fp) : (cano p).ss.length ≤ p.ss.length := by unfold cano; dsimp only; split <;> simp
theorem can_ok {p : Fp} (h : OkP p) : OkP (cano p) := by
  refine ⟨?_, ?_, fun s hs => ?_⟩
  · unfold cano; dsimp only; split; exact h.c0; omega
  · unfold cano; dsimp only; split; exact h.c1; omega
  · unfold cano at hs; dsimp only at hs; split at hs
    · exact h.ss s hs
    · cases hs
theorem unkB_map (y : UInt8) : (unkB y).map u8 = [.int .u8 0, .int .u8 0, .int .u8 0, .int .u8 ((10 + y.toNat % 200 : Nat) : Int), .int .u8 (y.toNat : Int), .int .u8 0, .int .u8 0, .int .u8 0, .int .u8 1] := by
  have hn : (UInt8.ofNat (10 + y.toNat % 200)).toNat = 10 + y.toNat % 200 := by rw [UInt8.toNat_ofNat']; omega
  simp only [unkB, List.map_cons, List.map_nil, u8, hn]
  rfl
def itsF (its : List It) : List (Fr × List UInt8) := its.map fun it => (it.f, it.l)
/-- what is gathered: the bytes, the frames -/
structure FrsJ (w0 w : World) (Ab : Option Addr) (nb cb : Nat) (Aw : Option Addr) (nw cw : Nat) (lb : List UInt8) (its : List It) : Prop where
  o1 : Ow w w0.heap.size 5 1 Ab nb cb (lb.map u8)
  o2 : Ow w w0.heap.size 49 12 Aw nw cw ((itsF its).flatMap fun p => Fr.cells p.1)
  d : ∀ t, t ∈ ob Ab → t ∉ ob Aw
  ok : ∀ it, it ∈ its → ItOk w0 it
  kp : Kp [] w0 w
section
variable {w0 w w' : World} {Ab : Option Addr} {nb cb : Nat} {Aw : Option Addr} {nw cw : Nat} {lb : List UInt8} {its : List It}
theorem FrsJ.keep (h : FrsJ w0 w Ab nb cb Aw nw cw lb its) (k : Kp [] w w') : FrsJ w0 w' Ab nb cb Aw nw cw lb its :=
  ⟨h.o1.keep k (by simp), h.o2.keep k (by simp), h.d, h.ok, h.kp.trans k⟩
theorem FrsJ.lenB (h : FrsJ w0 w Ab nb cb Aw nw cw lb its) : lb.length = nb := by have := h.o1.len; simpa using this
theorem FrsJ.lenW (h : FrsJ w0 w Ab nb cb Aw nw cw lb its) : its.length = nw := by have h1 := h.o2.len; rw [cells_len] at h1; simp [itsF] at h1; omega
theorem FrsJ.app1 {A' : Option Addr} {k c : Nat} {m : List UInt8} (h : FrsJ w0 w Ab nb cb Aw nw cw lb its) (O : Ow w' w0.heap.size 5 1 A' k c (m.map u8)) (K : Kp (ob Ab) w w') (hA : A' = Ab ∨ A' = some ⟨w.heap.size, 0, none⟩) : FrsJ w0 w' A' k c Aw nw cw m its := by
  refine ⟨O, h.o2.keep K (fun b hb hb2 => h.d b hb2 hb), fun t ht => ?_, h.ok, h.kp.then K (fun t ht => .inr (h.o1.base t ht).1)⟩
  rcases hA with rfl | rfl
  · exact h.d t ht
  · simp [ob] at ht
    subst ht
    exact fun hm => by have := (h.o2.base _ hm).2; omega
theorem FrsJ.app2 {A' : Option Addr} {k c : Nat} {it : It} (h : FrsJ w0 w Ab nb cb Aw nw cw lb its) (O : Ow w' w0.heap.size 49 12 A' k c (((itsF its).flatMap fun p => Fr.cells p.1) ++ Fr.cells it.f)) (K : Kp (ob Aw) w w') (hA : A' = Aw ∨ A' = some ⟨w.heap.size, 0, none⟩) (ok : ItOk w0 it) : FrsJ w0 w' Ab nb cb A' k c lb (its ++ [it]) := by
  refine ⟨h.o1.keep K (fun b hb hb2 => h.d b hb hb2), ?_, fun t ht hm => ?_, fun x hx => ?_, h.kp.then K (fun t ht => .inr (h.o2.base t ht).1)⟩
  · have e : (itsF (its ++ [it])).flatMap (fun p => Fr.cells p.1) = ((itsF its).flatMap fun p => Fr.cells p.1) ++ Fr.cells it.f := by simp [itsF]
    rw [e]
    exact O
  · rcases hA with rfl | rfl
    · exact h.d t ht hm
    · simp [ob] at hm
      subst hm
      have := (h.o1.base _ ht).2
      omega
  · rcases List.mem_append.1 hx with h1 | h1
    · exact h.ok x h1
    · rw [List.mem_singleton] at h1
      subst h1
      exact ok
/-- what stands behind the last one is told afterwards -/
theorem FrsJ.last {it it' : It} (h : FrsJ w0 w Ab nb cb Aw nw cw lb (its ++ [it])) (hf : it'.f = it.f) (hl : it'.l = it.l) (ok : ItOk w0 it') : FrsJ w0 w Ab nb cb Aw nw cw lb (its ++ [it']) := by
  refine ⟨h.o1, ?_, h.d, fun x hx => ?_, h.kp⟩
  · have e : itsF (its ++ [it']) = itsF (its ++ [it]) := by simp [itsF, hf, hl]
    rw [e]
    exact h.o2
  · rcases List.mem_append.1 hx with h1 | h1
    · exact h.ok x (List.mem_append_left _ h1)
    · rw [List.mem_singleton] at h1
      subst h1
      exact ok
theorem FrsJ.cell (h : FrsJ w0 w Ab nb cb Aw nw cw lb its) (i : Nat) (hi : i < its.length) : ∃ g, Aw = some ⟨g, 0, none⟩ ∧ g < w.heap.size ∧ ∀ j u, (Fr.cells its[i].f)[j]? = some u → w.cell? ⟨g, i * 12 + j, none⟩ = some u := by
  have hl : (itsF its).length = its.length := by simp [itsF]
  obtain ⟨b, off, hA, hc⟩ := h.o2.at_ (by rw [cells_len]; omega)
  rcases h.o2.head with ⟨h0, _⟩ | ⟨g, hg, _, hlt⟩
  · rw [h0] at hA; cases hA
  · rw [hg] at hA
    cases hA
    refine ⟨b, hg, hlt, fun j u hu => ?_⟩
    have := hc _ _ (cells_at (itsF its) i (its[i].f, its[i].l) (by simp [itsF, List.getElem?_eq_getElem hi]) j u hu)
    rwa [Nat.zero_add] at this
end
/-- the second loop: the reader, the frames that are wanted -/
structure FrsL (w0 w : World) (g : Nat) (D : List Nat) (Aw : Option Addr) (nw cw : Nat) (its : List It) (l : List UInt8) : Prop where
  rd : RdS w g D 16384 false 0 0 l
  dl : ∀ t, t ∈ D → w0.heap.size ≤ t ∧ t < w.heap.size ∧ t ∉ ob Aw
  gl : w0.heap.size ≤ g ∧ g ∉ ob Aw
  j : FrsJ w0 w none 0 0 Aw nw cw [] its
theorem FrsL.keep {w0 w w' : World} {g : Nat} {D : List Nat} {Aw : Option Addr} {nw cw : Nat} {its : List It} {l : List UInt8} (h : FrsL w0 w g D Aw nw cw its l) (k : Kp [] w w') : FrsL w0 w' g D Aw nw cw its l :=
  ⟨h.rd.keep k (by simp) (by simp), fun t ht => by have := h.dl t ht; have := k.size; exact ⟨by omega, by omega, (h.dl t ht).2.2⟩, h.gl, h.j.keep k⟩
theorem FrsL.step {w0 w w' : World} {g : Nat} {D : List Nat} {Aw : Option Addr} {nw cw : Nat} {its : List It} {l l' : List UInt8} (h : FrsL w0 w g D Aw nw cw its l) (s : RdS w' g D 16384 false 0 0 l') (k : Kp (g :: D) w w') : FrsL w0 w' g D Aw nw cw its l' := by
  refine ⟨s, fun t ht => by have := h.dl t ht; have := k.size; exact ⟨by omega, by omega, (h.dl t ht).2.2⟩, h.gl, ⟨Ow.nil _ _ _ _, h.j.o2.keep k (fun b hb hs => ?_), by simp [ob], h.j.ok, h.j.kp.then k (fun t ht => ?_)⟩⟩
  · rcases List.mem_cons.1 hs with e | e
    · subst e; exact h.gl.2 hb
    · exact (h.dl b e).2.2 hb
  · rcases List.mem_cons.1 ht with e | e
    · subst e; exact .inr h.gl.1
    · exact .inr (h.dl t e).1
theorem itsB_snoc (its : List It) (it : It) : itsB (its ++ [it]) = itsB its ++ it.b := by simp [itsB]
set_option maxHeartbeats 8000000 in
set_option maxRecDepth 100000 in
theorem ReaderFrames_walk (A : Option Addr) (n c : Nat) (B : Option Addr) (nu cu : Nat) (lu : List UInt8) (w0 : World) (hf : Frs w0 A n) (hn : n ≤ 1048576) (hu : Rd w0 B nu cu lu) (hnu : nu ≤ 140737488351232) :
    Calls Try.prog 33 #[.slice A n c, .slice B nu cu] w0 (Yes w0) := by
  have HF := Lib.hid hf
  have HU0 := Lib.hid hu
  clear hf hu
  go_enter Try.func33, Try.ntmps33
  have HJ0 : Hid (FrsJ w0 w0 none 0 0 none 0 0 [] []) := ⟨Ow.nil _ _ _ _, Ow.nil _ _ _ _, by simp [ob], by simp, Kp.refl _ _⟩
  go_wp2
  go_loopw [5, 6, 7] (fun bv wv i wr => ∃ (k : Nat) (Ab : Option Addr) (nb cb : Nat) (Aw : Option Addr) (nw cw : Nat) (its : List It), k ≤ n ∧ i = .int .i64 k ∧ bv = .slice Ab nb cb ∧ wv = .slice Aw nw cw ∧ FrsJ w0 wr Ab nb cb Aw nw cw (itsB its) its ∧ nb ≤ 16393 * k ∧ nw ≤ k) (fun _ _ i _ => n - (intOf i).toNat)
  case atStart => exact ⟨0, none, 0, 0, none, 0, 0, [], Nat.zero_le _, rfl, rfl, rfl, HJ0.out, by omega, by omega⟩
  case round =>
    clear HJ0
    obtain ⟨k, Ab, nb, cb, Aw, nw, cw, its, hk, rfl, rfl, rfl, hJ, hnb, hnw⟩ := hrel
    have HJ := Lib.hid hJ
    have hkp := Lib.hid hJ.kp
    clear hJ
    by_cases hkl : k < n
    · have hki : (k : Int) < (n : Int) := by omega
      obtain ⟨b, off, f, l, ss, rfl, hb, ok, hc⟩ := HF.out k hkl
      have q0 := hkp.out.cell (hc 0 _ rfl) (by simp)
      have q1 := hkp.out.cell (hc 1 _ rfl) (by simp)
      have q2 := hkp.out.cell (hc 2 _ rfl) (by simp)
      have q3 := hkp.out.cell (hc 3 _ rfl) (by simp)
      have q4 := hkp.out.cell (hc 4 _ rfl) (by simp)
      have q5 := hkp.out.cell (hc 5 _ rfl) (by simp)
      have q6 := hkp.out.cell (hc 6 _ rfl) (by simp)
      have q7 := hkp.out.cell (hc 7 _ rfl) (by simp)
      have q8 := hkp.out.cell (hc 8 _ rfl) (by simp)
      have q9 := hkp.out.cell (hc 9 _ rfl) (by simp)
      have q10 := hkp.out.cell (hc 10 _ rfl) (by simp)
      have q11 := hkp.out.cell (hc 11 _ rfl) (by simp)
      rw [Nat.add_zero] at q0
      have HC := Lib.hid hc
      have HW0 := Lib.hid ok.wr
      have HW1 := Lib.hid (ok.wr.kp8 hkp.out)
      clear hc ok
      go_wp2_with fail
      refine (refWrite_any f l ss wr HW1.out).mono ?_
      rintro e w2 ⟨A1, n1, c1, rfl, O1, K2⟩
      clear q0 q1 q2 q3 q4 q5 q6 q7 q8 q9 q10 q11
      obtain ⟨x, hx⟩ : ∃ x, It.x ⟨f, l, ss, []⟩ = x := ⟨_, rfl⟩
      obtain ⟨er, her⟩ : ∃ er, (Go.Proofs.Ytkmcakneceagpaa.wr (f.p l ss)).2 = er := ⟨_, rfl⟩
      have O1' : Ow w2 wr.heap.size 5 1 A1 n1 c1 ((It.x ⟨f, l, ss, []⟩).map Go.Proofs.Ytkmcakneceagpaa.u8) := O1
      rw [hx] at O1'
      rw [her]
      have hn1 : x.length = n1 := by have := O1'.len; simpa using this
      have HO1 := Lib.hid O1'
      have HX := Lib.hid hx
      have HER := Lib.hid her
      have HJ2 := Lib.hid (HJ.out.keep K2)
      clear hx her O1 O1' HJ hkp HW1 K2
      by_cases h0 : er = 0
      · subst h0
        by_cases h16 : n1 ≤ 16384
        · have h16i : (n1 : Int) ≤ 16384 := by omega
          go_wp2_with (with_reducible refine stopAt (o := ⟨some 42, _, _, _, _, _⟩) ?_)
          refine Stop.go (wp_appB rfl _ _ 22 5 rfl Try.underlying22 Try.info5 w0.heap.size Ab nb cb (itsB its) rfl HJ2.out.o1 A1 n1 c1 x rfl HO1.out.rd (by omega) HJ2.out.kp.size ?_)
          intro A3 n3 c3 l3 w3 hn3 hl3 O3 K3 hA3
          have HJ3 := Lib.hid (HJ2.out.app1 O3 K3 hA3)
          have HKP := Lib.hid HJ3.out.kp
          have hn3a : n3 ≤ nb + n1 := Nat.le_of_eq hn3.out
          have HN3 := Lib.hid hn3.out
          have HL3 := Lib.hid hl3.out
          clear O3 K3 hA3 HJ2 HO1 hn3 hl3
          have q0 := HKP.out.cell (HC.out 0 _ rfl) (by simp)
          have q1 := HKP.out.cell (HC.out 1 _ rfl) (by simp)
          have q2 := HKP.out.cell (HC.out 2 _ rfl) (by simp)
          have q3 := HKP.out.cell (HC.out 3 _ rfl) (by simp)
          have q4 := HKP.out.cell (HC.out 4 _ rfl) (by simp)
          have q5 := HKP.out.cell (HC.out 5 _ rfl) (by simp)
          have q6 := HKP.out.cell (HC.out 6 _ rfl) (by simp)
          have q7 := HKP.out.cell (HC.out 7 _ rfl) (by simp)
          have q8 := HKP.out.cell (HC.out 8 _ rfl) (by simp)
          have q9 := HKP.out.cell (HC.out 9 _ rfl) (by simp)
          have q10 := HKP.out.cell (HC.out 10 _ rfl) (by simp)
          have q11 := HKP.out.cell (HC.out 11 _ rfl) (by simp)
          rw [Nat.add_zero] at q0
          go_wp2_with (with_reducible refine stopAt (o := ⟨some 49, _, _, _, _, _⟩) ?_)
          generalize hW : World.alloc _ _ = w4
          have K4 : Kp [] w3 w4 := by rw [← hW]; (repeat (first | with_reducible exact Kp.refl _ _ | with_reducible assumption | with_reducible refine Kp.alloc ?_ _ | with_reducible refine Kp.drew ?_ | with_reducible refine Kp.drewN ?_ _ | (with_reducible refine Kp.setL ?_ ?_ _; focus (simp; done)) | (with_reducible refine Kp.setR ?_ ?_ _; focus (simp; done)) | (with_reducible refine Kp.setR ?_ ?_ _; focus (simp; omega))))
          have HN := Lib.hid (show w4.heap[w3.heap.size]? = some (.cells #[.int .i64 f.ty, .int .i64 f.fl, .int .i64 f.st, .slice f.pA f.pn f.pc, .int .i64 f.pad, .int .u32 f.code, .int .i64 f.last, .int .i64 f.inc, .int .i64 f.dep, .bool f.only, .int .i64 f.wt, .slice f.sA f.sn f.sc] 49) by rw [← hW]; (repeat (first | with_reducible assumption | (with_reducible refine hp_new _ _ _ ?_; focus (simp; done)) | (with_reducible refine (hp_old _ _ _ ?_).trans ?_; focus (first | omega | (simp; done) | (simp; omega))) | (with_reducible refine (hp_far _ _ _ _ ?_).trans ?_; focus (first | (simp; done) | (simp; omega))) | (with_reducible refine (hp_drew _ _).trans ?_) | (with_reducible refine (hp_drewN _ _ _).trans ?_))))
          have HJ4 := Lib.hid (HJ3.out.keep K4)
          clear hW K4 HJ3 q0 q1 q2 q3 q4 q5 q6 q7 q8 q9 q10 q11
          refine Stop.go (wp_app rfl _ _ 41 49 (.agg #[.int .i64 0, .int .i64 0, .int .i64 0, .slice none 0 0, .int .i64 0, .int .u32 0, .int .i64 0, .int .i64 0, .int .i64 0, .bool false, .int .i64 0, .slice none 0 0]) 12 128 rfl Try.underlying41 infoFr8 rfl (by decide) w0.heap.size Aw nw cw ((itsF its).flatMap fun p => Fr.cells p.1) rfl HJ4.out.o2 (some ⟨w3.heap.size, 0, none⟩) 1 1 (Fr.cells f) rfl rfl (At.block HN.out 0 _ rfl) (by intro u hu; simp at hu; rcases hu with rfl | rfl | rfl | rfl | rfl | rfl | rfl | rfl | rfl | rfl | rfl | rfl <;> rfl) (by simp only [maxLen]; omega) (by omega) HJ4.out.kp.size ?_)
          intro A6 k6 c6 w6 hk6 O6 K6 hA6
          have HOK : Hid (ItOk w0 ⟨f, l, ss, []⟩) := ⟨HW0.out, HER.out, by rw [HX.out]; omega, .inl rfl⟩
          have HJ6 := Lib.hid (HJ4.out.app2 (it := ⟨f, l, ss, []⟩) O6 K6 hA6 HOK.out)
          have hk6a : k6 ≤ nw + 1 := Nat.le_of_eq hk6.out
          have HK6 := Lib.hid hk6.out
          clear O6 K6 hA6 HJ4 HN hk6 HKP
          have HSN := Lib.hid (show itsB (its ++ [⟨f, l, ss, []⟩]) = l3 by rw [itsB_snoc, HL3.out]; simp [It.b, HX.out])
          obtain ⟨r2, hr2⟩ : ∃ r2 : Nat, k % 2 = r2 := ⟨_, rfl⟩
          have hm1 : ((k : Int).tmod 2) = (r2 : Int) := by rw [← hr2]; simp [Int.tmod]
          have hm2 : ((k : Int) % 2) = (r2 : Int) := by rw [← hr2]; simp
          clear hr2
          by_cases hun : 0 < nu ∧ r2 = 0
          · obtain ⟨hu0, rfl⟩ := hun
            have hm3 : ((k : Int).tmod 2) = 0 := hm1
            have hm4 : ((k : Int) % 2) = 0 := hm2
            clear hm1 hm2
            have hui : (0 : Int) < (nu : Int) := by omega
            obtain ⟨bu, ou, rfl, hbu, hcu⟩ := HU0.out.addr hu0
            have hc0 := hcu 0 hu0
            rw [Nat.add_zero] at hc0
            obtain ⟨y, hy⟩ : ∃ y, lu.getD 0 0 = y := ⟨_, rfl⟩
            rw [hy] at hc0
            have HU := Lib.hid hc0
            obtain ⟨z, hz⟩ : ∃ z : Nat, y.toNat % 200 = z := ⟨_, rfl⟩
            have hz1 : z < 200 := by omega
            have HM := Lib.hid (show ((y.toNat : Int).tmod 200) = (z : Int) ∧ ((y.toNat : Int) % 200) = (z : Int) from ⟨by rw [← hz]; simp [Int.tmod], by rw [← hz]; simp⟩)
            have HWR := Lib.hid (show IntKind.u8.wrap (10 + (z : Int)) = 10 + (z : Int) by rw [IntWalk.u8_in _ (by omega)])
            have HUB := Lib.hid (show (unkB y).map Go.Proofs.Ytkmcakneceagpaa.u8 = [.int .u8 0, .int .u8 0, .int .u8 0, .int .u8 (10 + (z : Int)), .int .u8 (y.toNat : Int), .int .u8 0, .int .u8 0, .int .u8 0, .int .u8 1] by rw [unkB_map, hz]; rfl)
            clear hz
            obtain ⟨its2, hi2⟩ : ∃ z, its ++ [(⟨f, l, ss, []⟩ : It)] = z := ⟨_, rfl⟩
            rw [hi2] at HJ6
            have HI2 := Lib.hid hi2
            clear hcu hc0 hy hi2
            go_wp2
            clear hm3 hm4
            refine wp_region_st3 (by kernel_rfl) [fun _ v _ => v = (.slice A3 n3 c3),
                fun _ v _ => v = (.slice (some ⟨bu, ou, none⟩) nu cu),
                fun _ v _ => v = (.pointer (some ⟨bu, ou, none⟩)),
                fun _ v _ => v = (.int .u8 (y.toNat : Int)),
                fun _ v _ => v = (.int .u8 (z : Int)),
                fun _ v _ => v = (.int .u8 (10 + (z : Int))),
                fun _ v _ => v = (.slice (some ⟨bu, ou, none⟩) nu cu),
                fun _ v _ => v = (.pointer (some ⟨bu, ou, none⟩)),
                fun _ v _ => v = (.int .u8 (y.toNat : Int)),
                fun p v w => ∃ x : Option Addr × Nat × Nat, v = .slice x.1 x.2.1 x.2.2 ∧ 0 ≤ p ∧ (p ≤ 0 → Rd w x.1 x.2.1 x.2.2 (unkB y) ∧ x.2.1 = 9),
                fun p v w => ∃ x : Option Addr × Nat × Nat, v = .slice x.1 x.2.1 x.2.2 ∧ 1 ≤ p ∧ (p ≤ 1 → FrsJ w0 w x.1 x.2.1 x.2.2 A6 k6 c6 (l3 ++ unkB y) its2 ∧ x.2.1 = n3 + 9),
                fun p v w => ∃ x : Option Addr × Nat × Nat, v = .slice x.1 x.2.1 x.2.2 ∧ 1 ≤ p ∧ (p ≤ 1 → FrsJ w0 w x.1 x.2.1 x.2.2 A6 k6 c6 (l3 ++ unkB y) its2 ∧ x.2.1 = n3 + 9)] (fun p w => (p = 0 → Kp [] w6 w) ∧ Kp [] w0 w) (fun p w w' => p < 0 → Kp [] w w') (fun w w' => Kp [] w w') [10] [9] (by kernel_rfl) (by kernel_rfl) (by kernel_rfl) (by decide) (by kernel_rfl) ⟨StabAt2.const _, StabAt2.const _, StabAt2.const _, StabAt2.const _, StabAt2.const _, StabAt2.const _, StabAt2.const _, StabAt2.const _, StabAt2.const _, StabAt2.span (f := fun x : Option Addr × Nat × Nat => .slice x.1 x.2.1 x.2.2) (by intro p x w w' h1 h2 h3 hR hG; have K := hR; exact ⟨hG.1.keep (K (by omega)) (by simp), hG.2⟩) (by intro x w w' hR hG; have K := hR; exact ⟨hG.1.keep K (by simp), hG.2⟩), StabAt2.span (f := fun x : Option Addr × Nat × Nat => .slice x.1 x.2.1 x.2.2) (by intro p x w w' h1 h2 h3 hR hG; omega) (by intro x w w' hR hG; exact ⟨hG.1.keep hR, hG.2⟩), StabAt2.span (f := fun x : Option Addr × Nat × Nat => .slice x.1 x.2.1 x.2.2) (by intro p x w w' h1 h2 h3 hR hG; omega) (by intro x w w' hR hG; exact ⟨hG.1.keep hR, hG.2⟩), trivial⟩ (⟨fun _ => (Kp.refl _ _).drew, HJ6.out.kp.drew⟩) ⟨?_, ?_, ?_, ?_, ?_, ?_, ?_, ?_, ?_, ?_, ?_, ?_, trivial⟩ (by kernel_rfl) ?_
            · intro q9 a w E hC K hK
              have h5 : a.tmps[5]? = some (.slice A3 n3 c3) := (E.out 5 (by kernel_rfl)).trans rfl
              refine want_none rfl ?_
              go_simp
              exact hK _ rfl
            · intro q9 a w E hC K hK
              have h1 : a.tmps[1]? = some (.slice (some ⟨bu, ou, none⟩) nu cu) := (E.out 1 (by kernel_rfl)).trans rfl
              refine want_none rfl ?_
              go_simp
              exact hK _ rfl
            · intro q9 a w E hC K hK
              obtain ⟨_, h59, rfl⟩ := E.pred 1 _ 59 rfl rfl (by kernel_rfl)
              refine want_none rfl ?_
              go_simp
              exact hK _ (by simp)
            · intro q9 a w E hC K hK
              obtain ⟨_, h60, rfl⟩ := E.pred 2 _ 60 rfl rfl (by kernel_rfl)
              refine want_none rfl ?_
              have h0 := hC.2.cell HU.out (by simp)
              go_simp
              exact hK _ rfl
            · intro q9 a w E hC K hK
              obtain ⟨_, h61, rfl⟩ := E.pred 3 _ 61 rfl rfl (by kernel_rfl)
              refine want_none rfl ?_
              obtain ⟨hm1, hm2⟩ := HM.out
              go_simp
              exact hK _ rfl
            · intro q9 a w E hC K hK
              obtain ⟨_, h62, rfl⟩ := E.pred 4 _ 62 rfl rfl (by kernel_rfl)
              refine want_none rfl ?_
              have hwr : IntKind.u8.wrap (10 + (z : Int)) = 10 + (z : Int) := HWR.out
              go_simp
              first | exact hK _ rfl | exact hK _ (by rw [hwr])
            · intro q9 a w E hC K hK
              have h1 : a.tmps[1]? = some (.slice (some ⟨bu, ou, none⟩) nu cu) := (E.out 1 (by kernel_rfl)).trans rfl
              refine want_none rfl ?_
              go_simp
              exact hK _ rfl
            · intro q9 a w E hC K hK
              obtain ⟨_, h64, rfl⟩ := E.pred 6 _ 64 rfl rfl (by kernel_rfl)
              refine want_none rfl ?_
              go_simp
              exact hK _ (by simp)
            · intro q9 a w E hC K hK
              obtain ⟨_, h65, rfl⟩ := E.pred 7 _ 65 rfl rfl (by kernel_rfl)
              refine want_none rfl ?_
              have h0 := hC.2.cell HU.out (by simp)
              go_simp
              exact hK _ rfl
            · intro q9 a w E hC K hK
              obtain ⟨_, h63, rfl⟩ := E.pred 5 _ 63 rfl rfl (by kernel_rfl)
              obtain ⟨_, h66, rfl⟩ := E.pred 8 _ 66 rfl rfl (by kernel_rfl)
              refine want_none rfl ?_
              go_simp
              refine hK _ _ ⟨⟨some ⟨w.heap.size, 0, none⟩, 9, 9⟩, rfl, by omega, fun _ => ⟨Rd.block (hp_new _ _ _ rfl) 0 9 9 _ rfl (Nat.le_refl _) ?_, rfl⟩⟩ ⟨fun h => (hC.1 h).alloc _, hC.2.alloc _⟩ ((Kp.refl [] w).alloc _)
              rw [HUB.out]
              rfl
            · intro a w E hC K hK
              obtain ⟨_, h58, rfl⟩ := E.pred 0 _ 58 rfl rfl (by kernel_rfl)
              obtain ⟨v9, h67, V9⟩ := E.pred 9 _ 67 rfl rfl (by kernel_rfl)
              replace V9 : (fun p v w => ∃ x : Option Addr × Nat × Nat, v = .slice x.1 x.2.1 x.2.2 ∧ 0 ≤ p ∧ (p ≤ 0 → Rd w x.1 x.2.1 x.2.2 (unkB y) ∧ x.2.1 = 9)) 0 v9 w := V9
              refine want_none rfl ?_
              obtain ⟨⟨A9, n9, c9⟩, rfl, _, G9⟩ := V9
              obtain ⟨R9, e9⟩ := G9 (by omega)
              dsimp only at R9 e9
              subst e9
              have J := HJ6.out.keep (hC.1 rfl)
              refine op_appO (.tmp 58) (.tmp 67) 22 5 rfl Try.underlying22 Try.info5 w0.heap.size A3 n3 c3 l3 (eval_tmp h58) J.o1 A9 9 c9 (unkB y) (eval_tmp h67) R9 (by omega) J.kp.size ?_
              intro A' c' w2 O K2 hA2
              exact hK _ _ ⟨⟨A', _, c'⟩, rfl, by omega, fun _ => ⟨J.app1 O K2 hA2, rfl⟩⟩ ⟨fun h => by omega, (J.app1 O K2 hA2).kp⟩ (fun h => by omega)
            · intro q9 a w E hC K hK
              obtain ⟨v10, h68, V10⟩ := E.pred 10 _ 68 rfl rfl (by kernel_rfl)
              replace V10 : (fun p v w => ∃ x : Option Addr × Nat × Nat, v = .slice x.1 x.2.1 x.2.2 ∧ 1 ≤ p ∧ (p ≤ 1 → FrsJ w0 w x.1 x.2.1 x.2.2 A6 k6 c6 (l3 ++ unkB y) its2 ∧ x.2.1 = n3 + 9)) q9 v10 w := V10
              obtain ⟨x10, rfl, hl10, hG10⟩ := V10
              refine want_none rfl ?_
              go_simp
              exact hK _ ⟨x10, rfl, hl10, hG10⟩
            intro vs w8 hC hV
            obtain ⟨⟨A8, n8, c8⟩, e11, _, hG⟩ := hV 11 _ rfl (by simp)
            obtain ⟨J8, e8⟩ := hG (by simp)
            dsimp only at e11 J8 e8
            rw [← HI2.out] at J8
            have HJ8 := Lib.hid (J8.last (it' := ⟨f, l, ss, unkB y⟩) rfl rfl ⟨HOK.out.ok, HOK.out.e0, HOK.out.len, .inr ⟨y, rfl⟩⟩)
            have HS8 := Lib.hid (show itsB (its ++ [⟨f, l, ss, unkB y⟩]) = l3 ++ unkB y by rw [itsB_snoc, HL3.out]; simp [It.b]; exact HX.out)
            clear hV hC hG J8 HJ6
            simp only [putAll, Act.put, List.setIfInBounds_toArray, Nat.zero_add, Nat.reduceAdd]
            dsimp only [List.set]
            rw [e11]
            go_wp2
            go_roundw
            case rel => exact ⟨k + 1, A8, n8, c8, A6, k6, c6, its ++ [⟨f, l, ss, unkB y⟩], by omega, by go_num, rfl, rfl, by rw [HS8.out]; exact HJ8.out, by omega, by omega⟩
            case measure => simp [intOf]; omega
          · by_cases hu0 : 0 < nu
            · have hui : (0 : Int) < (nu : Int) := by omega
              have hr0 : ¬ (r2 : Int) = 0 := by omega
              clear hun
              go_wp2
              go_roundw
              case rel => exact ⟨k + 1, A3, n3, c3, A6, k6, c6, its ++ [⟨f, l, ss, []⟩], by omega, by go_num, rfl, rfl, by rw [HSN.out]; exact HJ6.out, by omega, by omega⟩
              case measure => simp [intOf]; omega
            · obtain rfl : nu = 0 := by omega
              clear hun
              go_wp2
              go_roundw
              case rel => exact ⟨k + 1, A3, n3, c3, A6, k6, c6, its ++ [⟨f, l, ss, []⟩], by omega, by go_num, rfl, rfl, by rw [HSN.out]; exact HJ6.out, by omega, by omega⟩
              case measure => simp [intOf]; omega
        · have h16i : ¬ (n1 : Int) ≤ 16384 := by omega
          go_wp2
          go_roundw
          case rel => exact ⟨k + 1, Ab, nb, cb, Aw, nw, cw, its, by omega, by go_num, rfl, rfl, HJ2.out, by omega, by omega⟩
          case measure => simp [intOf]; omega
      · go_wp2
        go_roundw
        case rel => exact ⟨k + 1, Ab, nb, cb, Aw, nw, cw, its, by omega, by go_num, rfl, rfl, HJ2.out, by omega, by omega⟩
        case measure => simp [intOf]; omega
    · have hki : ¬ (k : Int) < (n : Int) := by omega
      have hlb := HJ.out.lenB
      have hlw := HJ.out.lenW
      have ho1 := HJ.out.o1.base
      have ho2 := HJ.out.o2.base
      have hnw2 : nw ≤ 1048576 := by omega
      have HB1 := Lib.hid ho1
      have HB2 := Lib.hid ho2
      clear ho1 ho2 hkp
      go_wp2_with fail
      refine (RdNew 16384 (by omega) (by omega) _).mono ?_
      rintro e w2 ⟨g, rfl, hg0, S2, K2⟩
      have hg1 : wr.heap.size ≤ g := by omega
      clear hg0
      have HJ2 := Lib.hid (HJ.out.keep K2)
      have hs2 := K2.size
      have HS2 := Lib.hid S2
      clear S2 K2
      go_wp2_with fail
      refine (RdFeed g [] w2 Ab nb cb (itsB its) [] 16384 0 0 HS2.out HJ2.out.o1.rd (by simp; omega)).mono ?_
      rintro e w3 ⟨rfl, D, d1, d2, S3, K3⟩
      have HL3 : Hid (FrsL w0 w3 g D Aw nw cw its (leftB its 0)) := by
        refine ⟨S3, fun t ht => ?_, ?_, ⟨Ow.nil _ _ _ _, HJ2.out.o2.keep K3 ?_, by simp [ob], HJ2.out.ok, HJ2.out.kp.then K3 ?_⟩⟩
        · rcases d1 t ht with h1 | h1
          · cases h1
          · refine ⟨by have := HJ2.out.kp.size; omega, d2 t ht, fun hm => ?_⟩
            have := HB2.out t hm
            omega
        · exact ⟨by have := HJ.out.kp.size; omega, fun hm => by have := HB2.out g hm; omega⟩
        · intro t ht hm
          simp at hm
          have := HB2.out t ht
          omega
        · intro t ht
          simp at ht
          have := HJ.out.kp.size
          omega
      have HLB : Hid ((leftB its 0).length ≤ 17196646400) := by
        show (itsB its).length ≤ _
        omega
      clear S3 K3 d1 d2 HS2 HJ2 HJ HB1 HB2
      go_wp2
      go_loopw [12] (fun i wr => ∃ k : Nat, k ≤ nw ∧ i = .int .i64 k ∧ FrsL w0 wr g D Aw nw cw its (leftB its k) ∧ (leftB its k).length ≤ 17196646400) (fun i _ => nw - (intOf i).toNat)
      case atStart => exact ⟨0, Nat.zero_le _, rfl, HL3.out, HLB.out⟩
      case round =>
        clear HL3 HLB hkl hki hk
        obtain ⟨k, hk, rfl, hL, hlen⟩ := hrel
        have HL := Lib.hid hL
        have hrd := hL.rd
        have dl := fun t ht => (hL.dl t ht).2.1
        clear hL
        by_cases hkl : k < nw
        · have hki : (k : Int) < (nw : Int) := by omega
          have hkl2 : k < its.length := by omega
          have HNX := Lib.hid (leftB_nx its k hkl2 w0 HL.out.j.ok)
          go_wp2_with fail
          refine (RdNextB g D wr 16384 false 0 0 (leftB its k) hrd dl (by omega) (.inr (by omega))).mono ?_
          rintro e w4 ⟨o, f, hO, rfl, hf, S4, K4⟩
          obtain rfl := hO.det HNX.out
          have hlen2 := (hO.tells (by omega)).1
          dsimp only at hlen2 hf S4 ⊢
          have HL4 := Lib.hid (HL.out.step S4 K4)
          have HPF := Lib.hid hf
          have hlen3 : (leftB its (k + 1)).length ≤ 17196646400 := by omega
          clear hO hf S4 K4 hrd dl HL HNX hlen hlen2
          go_wp2
          generalize hW : World.alloc _ _ = x3
          have K5 : Kp [] w4 x3 := by rw [← hW]; (repeat (first | with_reducible exact Kp.refl _ _ | with_reducible assumption | with_reducible refine Kp.alloc ?_ _ | with_reducible refine Kp.drew ?_ | with_reducible refine Kp.drewN ?_ _ | (with_reducible refine Kp.setL ?_ ?_ _; focus (simp; done)) | (with_reducible refine Kp.setR ?_ ?_ _; focus (simp; done)) | (with_reducible refine Kp.setR ?_ ?_ _; focus (simp; omega))))
          have HFB := Lib.hid (show x3.heap[w4.heap.size]? = some (.cells #[.int .i64 f.ty, .int .i64 f.fl, .int .i64 f.st, .slice f.pA f.pn f.pc, .int .i64 f.pad, .int .u32 f.code, .int .i64 f.last, .int .i64 f.inc, .int .i64 f.dep, .bool f.only, .int .i64 f.wt, .slice f.sA f.sn f.sc] 49) by rw [← hW]; (repeat (first | with_reducible assumption | (with_reducible refine hp_new _ _ _ ?_; focus (simp; done)) | (with_reducible refine (hp_old _ _ _ ?_).trans ?_; focus (first | omega | (simp; done) | (simp; omega))) | (with_reducible refine (hp_far _ _ _ _ ?_).trans ?_; focus (first | (simp; done) | (simp; omega))) | (with_reducible refine (hp_drew _ _).trans ?_) | (with_reducible refine (hp_drewN _ _ _).trans ?_))))
          have HYB := Lib.hid (show x3.heap[w4.heap.size + 1]? = some (.cells #[.bool false, .int .i64 0, .int .i64 0] 64) by rw [← hW]; (repeat (first | with_reducible assumption | (with_reducible refine hp_new _ _ _ ?_; focus (simp; done)) | (with_reducible refine (hp_old _ _ _ ?_).trans ?_; focus (first | omega | (simp; done) | (simp; omega))) | (with_reducible refine (hp_far _ _ _ _ ?_).trans ?_; focus (first | (simp; done) | (simp; omega))) | (with_reducible refine (hp_drew _ _).trans ?_) | (with_reducible refine (hp_drewN _ _ _).trans ?_))))
          have HL5 := Lib.hid (HL4.out.keep K5)
          have hit := HL5.out.j.ok _ (List.getElem_mem hkl2)
          obtain ⟨gw, rfl, hgw, hcw⟩ := HL5.out.j.cell k hkl2
          have HTY2 := Lib.hid (show f.ty = its[k].f.ty from HPF.out.cs.1)
          obtain ⟨gd, _, _⟩ := wr_eq hit.e0
          have okp := hit.ok.okp
          have hsm := ps_small (its[k].x ++ []) 16384
          rw [ps_it hit []] at hsm
          have HWF := Lib.hid ((HPF.out.low K5 (by simp) (Nat.le_refl _)).wrok (can_ok okp) hsm.1 hsm.2)
          have HWG := Lib.hid (hit.ok.kp8 HL5.out.j.kp)
          have HWR2 : Hid (Go.Proofs.Ytkmcakneceagpaa.wr (f.p (cano its[k].p).pl (cano its[k].p).ss) = Go.Proofs.Ytkmcakneceagpaa.wr (its[k].f.p its[k].l its[k].ss)) := by
            show _ = _
            rw [HPF.out.eq]
            exact wr_cano _ gd
          have HC2 := Lib.hid hcw
          clear hW HL4 HPF K5 hit hcw gd okp hsm
          generalize its[k].f = f2 at HC2 HWG HWR2 HTY2
          generalize w4.heap.size = f11 at HFB HYB ⊢
          refine wp_region_st3 (by kernel_rfl) [fun _ v _ => v = (.bool true),
              fun _ v _ => v = (.bool false),
              fun _ v _ => v = (.bool false),
              fun _ v _ => v = (.pointer (some ⟨f11 + 1, 0, none⟩)),
              fun _ v _ => v = (.bool false),
              fun _ v _ => v = (.bool false),
              fun _ v _ => v = (.bool false),
              fun _ v _ => v = (.agg #[.int .i64 f.ty, .int .i64 f.fl, .int .i64 f.st, .slice f.pA f.pn f.pc, .int .i64 f.pad, .int .u32 f.code, .int .i64 f.last, .int .i64 f.inc, .int .i64 f.dep, .bool f.only, .int .i64 f.wt, .slice f.sA f.sn f.sc]),
              fun _ v _ => v = (.slice (some ⟨gw, 0, none⟩) nw cw),
              fun _ v _ => v = (.int .i64 (k : Int)),
              fun _ v _ => v = (.pointer (some ⟨gw, k * 12, none⟩)),
              fun _ v _ => v = (.agg #[.int .i64 f2.ty, .int .i64 f2.fl, .int .i64 f2.st, .slice f2.pA f2.pn f2.pc, .int .i64 f2.pad, .int .u32 f2.code, .int .i64 f2.last, .int .i64 f2.inc, .int .i64 f2.dep, .bool f2.only, .int .i64 f2.wt, .slice f2.sA f2.sn f2.sc]),
              fun _ v _ => v = .bool true,
              fun _ v _ => v = (.bool false),
              fun _ v _ => v = (.bool false)] (fun _ w => Kp [] x3 w) (fun _ w w' => Kp [] w w') (fun w w' => Kp [] w w') [12] [] (by kernel_rfl) (by kernel_rfl) (by kernel_rfl) (by decide) (by kernel_rfl) ⟨StabAt2.const _, StabAt2.const _, StabAt2.const _, StabAt2.const _, StabAt2.const _, StabAt2.const _, StabAt2.const _, StabAt2.const _, StabAt2.const _, StabAt2.const _, StabAt2.const _, StabAt2.const _, StabAt2.const _, StabAt2.const _, StabAt2.const _, trivial⟩ ((Kp.refl _ _).drew) ⟨?_, ?_, ?_, ?_, ?_, ?_, ?_, ?_, ?_, ?_, ?_, ?_, ?_, ?_, ?_, trivial⟩ (by kernel_rfl) ?_
          · intro q9 a w E hC K hK
            have h14 : a.tmps[14]? = some (.bool true) := (E.out 14 (by kernel_rfl)).trans rfl
            refine want_none rfl ?_
            go_simp
            exact hK _ rfl
          · intro q9 a w E hC K hK
            obtain ⟨_, h90, rfl⟩ := E.pred 0 _ 90 rfl rfl (by kernel_rfl)
            refine want_none rfl ?_
            go_simp
            exact hK _ rfl
          · intro q9 a w E hC K hK
            obtain ⟨_, h91, rfl⟩ := E.pred 1 _ 91 rfl rfl (by kernel_rfl)
            refine want_none rfl ?_
            go_simp
            exact hK _ rfl
          · intro q9 a w E hC K hK
            have h15 : a.tmps[15]? = some (.pointer (some ⟨f11 + 1, 0, none⟩)) := (E.out 15 (by kernel_rfl)).trans rfl
            obtain ⟨_, h92, rfl⟩ := E.pred 2 _ 92 rfl rfl (by kernel_rfl)
            refine want_yes rfl rfl rfl h92 ?_
            go_simp
            exact hK _ rfl
          · intro q9 a w E hC K hK
            obtain ⟨_, h93, rfl⟩ := E.pred 3 _ 93 rfl rfl (by kernel_rfl)
            obtain ⟨_, h92, rfl⟩ := E.pred 2 _ 92 rfl rfl (by kernel_rfl)
            refine want_yes rfl rfl rfl h92 ?_
            have hx := hC.heap HYB.out (by simp)
            have x0 := cell_of hx 0
            have xl := lt_of_heap hx
            clear hx
            go_simp
            exact hK _ rfl
          · intro q9 a w E hC K hK
            obtain ⟨_, h92, rfl⟩ := E.pred 2 _ 92 rfl rfl (by kernel_rfl)
            obtain ⟨_, h94, rfl⟩ := E.pred 4 _ 94 rfl rfl (by kernel_rfl)
            refine want_none rfl ?_
            go_simp
            exact hK _ rfl
          · intro q9 a w E hC K hK
            obtain ⟨_, h95, rfl⟩ := E.pred 5 _ 95 rfl rfl (by kernel_rfl)
            refine want_none rfl ?_
            go_simp
            exact hK _ rfl
          · intro q9 a w E hC K hK
            have h13 : a.tmps[13]? = some (.pointer (some ⟨f11, 0, none⟩)) := (E.out 13 (by kernel_rfl)).trans rfl
            obtain ⟨_, h96, rfl⟩ := E.pred 6 _ 96 rfl rfl (by kernel_rfl)
            refine want_yes rfl rfl rfl h96 ?_
            have hf := hC.heap HFB.out (by simp)
            obtain ⟨q0, q1, q2, q3, q4, q5, q6, q7, q8, q9', q10, q11, qz, qlt, qlt2⟩ := cellsF hf
            clear hf
            go_simp
            exact hK _ rfl
          · intro q9 a w E hC K hK
            have h6 : a.tmps[6]? = some (.slice (some ⟨gw, 0, none⟩) nw cw) := (E.out 6 (by kernel_rfl)).trans rfl
            obtain ⟨_, h96, rfl⟩ := E.pred 6 _ 96 rfl rfl (by kernel_rfl)
            refine want_yes rfl rfl rfl h96 ?_
            go_simp
            exact hK _ rfl
          · intro q9 a w E hC K hK
            have h12 : a.tmps[12]? = some (.int .i64 (k : Int)) := (E.out 12 (by kernel_rfl)).trans rfl
            obtain ⟨_, h96, rfl⟩ := E.pred 6 _ 96 rfl rfl (by kernel_rfl)
            refine want_yes rfl rfl rfl h96 ?_
            go_simp
            exact hK _ rfl
          · intro q9 a w E hC K hK
            obtain ⟨_, h98, rfl⟩ := E.pred 8 _ 98 rfl rfl (by kernel_rfl)
            obtain ⟨_, h99, rfl⟩ := E.pred 9 _ 99 rfl rfl (by kernel_rfl)
            obtain ⟨_, h96, rfl⟩ := E.pred 6 _ 96 rfl rfl (by kernel_rfl)
            refine want_yes rfl rfl rfl h96 ?_
            go_simp
            first | exact hK _ rfl | exact hK _ (by simp)
          · intro q9 a w E hC K hK
            obtain ⟨_, h100, rfl⟩ := E.pred 10 _ 100 rfl rfl (by kernel_rfl)
            obtain ⟨_, h96, rfl⟩ := E.pred 6 _ 96 rfl rfl (by kernel_rfl)
            refine want_yes rfl rfl rfl h96 ?_
            have c0 := hC.cell (HC2.out 0 _ rfl) (by simp)
            have c1 := hC.cell (HC2.out 1 _ rfl) (by simp)
            have c2 := hC.cell (HC2.out 2 _ rfl) (by simp)
            have c3 := hC.cell (HC2.out 3 _ rfl) (by simp)
            have c4 := hC.cell (HC2.out 4 _ rfl) (by simp)
            have c5 := hC.cell (HC2.out 5 _ rfl) (by simp)
            have c6 := hC.cell (HC2.out 6 _ rfl) (by simp)
            have c7 := hC.cell (HC2.out 7 _ rfl) (by simp)
            have c8 := hC.cell (HC2.out 8 _ rfl) (by simp)
            have c9 := hC.cell (HC2.out 9 _ rfl) (by simp)
            have c10 := hC.cell (HC2.out 10 _ rfl) (by simp)
            have c11 := hC.cell (HC2.out 11 _ rfl) (by simp)
            rw [Nat.add_zero] at c0
            go_simp
            exact hK _ rfl
          · intro a w E hC K hK
            obtain ⟨_, h97, rfl⟩ := E.pred 7 _ 97 rfl rfl (by kernel_rfl)
            obtain ⟨_, h101, rfl⟩ := E.pred 11 _ 101 rfl rfl (by kernel_rfl)
            obtain ⟨_, h96, rfl⟩ := E.pred 6 _ 96 rfl rfl (by kernel_rfl)
            refine want_yes rfl rfl rfl h96 ?_
            have hh := Lib.hid hC
            clear hC
            go_simp
            refine (same08w f f2 _ _ _ _ w (HWF.out.kp8 hh.out) (HWG.out.kp8 hh.out) HWR2.out HTY2.out).mono ?_
            rintro e w2 ⟨rfl, K2⟩
            go_simp
            exact hK _ _ rfl (hh.out.trans K2) K2
          · intro q9 a w E hC K hK
            obtain ⟨v12, h102, V12⟩ := E.pred 12 _ 102 rfl rfl (by kernel_rfl)
            replace V12 : (fun _ v _ => v = .bool true) q9 v12 w := V12
            obtain rfl := V12
            obtain ⟨_, h96, rfl⟩ := E.pred 6 _ 96 rfl rfl (by kernel_rfl)
            refine want_yes rfl rfl rfl h96 ?_
            go_simp
            exact hK _ rfl
          · intro q9 a w E hC K hK
            obtain ⟨_, h96, rfl⟩ := E.pred 6 _ 96 rfl rfl (by kernel_rfl)
            obtain ⟨_, h103, rfl⟩ := E.pred 13 _ 103 rfl rfl (by kernel_rfl)
            refine want_none rfl ?_
            go_simp
            exact hK _ rfl
          intro vs x8 hC hV
          have e14 : vs 14 = .bool false := hV 14 _ rfl (by simp)
          have HL8 := Lib.hid (HL5.out.keep hC)
          clear hV hC HL5 HFB HYB HC2 HWF HWG HWR2 HTY2
          simp only [putAll, Act.put, List.setIfInBounds_toArray, Nat.zero_add, Nat.reduceAdd]
          dsimp only [List.set]
          rw [e14]
          go_wp2
          go_roundw
          case rel => exact ⟨k + 1, by omega, by go_num, HL8.out, hlen3⟩
          case measure => simp [intOf]; omega
        · obtain rfl : k = nw := by omega
          have hkw : its.length = k := hlw
          have HNX := Lib.hid (leftB_end its w0 HL.out.j.ok)
          rw [hkw] at HNX
          go_wp2_with fail
          refine (RdNextB g D wr 16384 false 0 0 (leftB its k) hrd dl (by omega) (.inr (by omega))).mono ?_
          rintro e w4 ⟨o, f, hO, rfl, hf, S4, K4⟩
          obtain rfl := hO.det HNX.out
          dsimp only at S4 ⊢
          have HK4 := Lib.hid (HL.out.step S4 K4).j.kp
          have HS4 := Lib.hid S4
          clear hO hf S4 K4 hrd dl HL HNX
          go_wp2_with fail
          generalize hW : World.alloc _ _ = x3
          have K5 : Kp [] w4 x3 := by rw [← hW]; (repeat (first | with_reducible exact Kp.refl _ _ | with_reducible assumption | with_reducible refine Kp.alloc ?_ _ | with_reducible refine Kp.drew ?_ | with_reducible refine Kp.drewN ?_ _ | (with_reducible refine Kp.setL ?_ ?_ _; focus (simp; done)) | (with_reducible refine Kp.setR ?_ ?_ _; focus (simp; done)) | (with_reducible refine Kp.setR ?_ ?_ _; focus (simp; omega))))
          have HYB := Lib.hid (show x3.heap[w4.heap.size + 1]? = some (.cells #[.bool false, .int .i64 0, .int .i64 0] 64) by rw [← hW]; (repeat (first | with_reducible assumption | (with_reducible refine hp_new _ _ _ ?_; focus (simp; done)) | (with_reducible refine (hp_old _ _ _ ?_).trans ?_; focus (first | omega | (simp; done) | (simp; omega))) | (with_reducible refine (hp_far _ _ _ _ ?_).trans ?_; focus (first | (simp; done) | (simp; omega))) | (with_reducible refine (hp_drew _ _).trans ?_) | (with_reducible refine (hp_drewN _ _ _).trans ?_))))
          have hy0 := cell_of HYB.out 0
          have HK5 := Lib.hid (HK4.out.trans K5)
          obtain ⟨rA, rn, rc, hr1, hr2, _, _⟩ := HS4.out.keep K5 (by simp) (by simp)
          obtain rfl : rn = 0 := by have := hr2.len; simpa using this.symm
          have HR1 := Lib.hid hr1
          clear hW hr1 hr2 HS4 HK4 K5
          refine (RdRest g x3 rA 0 rc 16384 false 0 0 HR1.out).mono ?_
          rintro e w5 ⟨rfl, K6⟩
          have HR2 := Lib.hid (K6.heap HR1.out (by simp))
          have HK6 := Lib.hid (HK5.out.trans K6)
          clear K6 HR1 HK5 HYB hy0
          go_wp2_with fail
          refine (RdFailed g w5 rA 0 rc 16384 false 0 0 HR2.out).mono ?_
          rintro e w6 ⟨rfl, K7⟩
          have HK7 := Lib.hid (HK6.out.trans K7)
          clear K7
          go_wp2
          go_ret
          exact ⟨rfl, HK7.out⟩
end Go.Proofs.Ytkmcakneceagpaa
