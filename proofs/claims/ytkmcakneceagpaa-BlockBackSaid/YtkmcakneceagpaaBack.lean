/- 'BlockBack', walked. -/
import Derived.Test.YtkmcakneceagpaaBound
set_option linter.unusedVariables false
set_option linter.unusedSimpArgs false
set_option linter.unusedSimpArgs false
namespace Go.Proofs.Ytkmcakneceagpaa
open Go.RowKit

/-- the state behind k frames of a block -/
def bst (id : Int) (k : Nat) : Int := if k = 0 then 0 else id
def ben (en : Bool) (k : Nat) : Bool := if k = 0 then false else en

theorem b04 : bits .and .i64 0 4 = 0 := by decide
theorem b14 : bits .and .i64 1 4 = 0 := by decide
theorem b44 : bits .and .i64 4 4 = 4 := by decide
theorem b54 : bits .and .i64 5 4 = 4 := by decide
theorem b01 : bits .and .i64 0 1 = 0 := by decide
theorem b11 : bits .and .i64 1 1 = 1 := by decide
theorem b41' : bits .and .i64 4 1 = 0 := by decide
theorem b51 : bits .and .i64 5 1 = 1 := by decide
theorem piece_take (most : Nat) (b : List UInt8) (k : Nat) : b.take (k * most) ++ piece most b k = b.take ((k + 1) * most) := by
  unfold piece
  rw [Nat.add_mul, Nat.one_mul, List.take_add]

theorem jstep_more {id : Int} (hid : 1 ≤ id) {en : Bool} {M : Nat} {b : List UInt8} (hM : 1 ≤ M) (hb : b.length ≤ 65536) {k : Nat} {p : Fr × List UInt8} (h : SpF id en M b k p) (hk : k < cutsN M b.length) :
    jstep 65536 (bst id k) (ben en k) (b.take (k * M)) p.1.ty p.1.fl p.1.st p.2 = .more (bst id (k + 1)) (ben en (k + 1)) (b.take ((k + 1) * M)) := by
  obtain ⟨h1, h2, h3, h4⟩ := h
  rw [h1, h2, h3, h4, ← piece_take]
  have hlen : ¬ 65536 < (b.take (k * M)).length + (piece M b k).length := by rw [← List.length_append, piece_take, List.length_take]; omega
  have hn : ¬ k = cutsN M b.length := by omega
  have e0 : ¬ id = 0 := by omega
  unfold jstep bst ben
  generalize b.take (k * M) ++ piece M b k = bb
  generalize (b.take (k * M)).length + (piece M b k).length = L at hlen
  have e9 : ¬ (1 : Int) = 9 := by decide
  have hk1 : ¬ k + 1 = 0 := by omega
  by_cases hk0 : k = 0
  · simp only [if_pos hk0, if_neg hn, if_neg hk1, if_neg e9, if_neg hlen, and_self, if_true, Int.add_zero]
    cases en <;> simp [b04, b14, b01, b11]
  · simp only [if_neg hk0, if_neg hn, if_neg hk1, if_neg hlen, e0, false_and, if_false, and_self, if_true, Int.add_zero]
    simp [b04]

theorem jstep_whole {id : Int} (hid : 1 ≤ id) {en : Bool} {M : Nat} {b : List UInt8} (hM : 1 ≤ M) (hb : b.length ≤ 65536) {k : Nat} {p : Fr × List UInt8} (h : SpF id en M b k p) (hk : k = cutsN M b.length) :
    jstep 65536 (bst id k) (ben en k) (b.take (k * M)) p.1.ty p.1.fl p.1.st p.2 = .whole (if en then 5 else 4) id b := by
  obtain ⟨h1, h2, h3, h4⟩ := h
  have hge := cutsN_ge hM (Nat.le_of_eq hk.symm)
  have hall : b.take (k * M) ++ piece M b k = b := by rw [piece_take, List.take_of_length_le]; rw [Nat.add_mul, Nat.one_mul]; exact hge
  rw [h1, h2, h3, h4]
  have hlen : ¬ 65536 < (b.take (k * M)).length + (piece M b k).length := by rw [← List.length_append, hall]; omega
  have e0 : ¬ id = 0 := by omega
  unfold jstep bst ben
  simp only [hall]
  generalize (b.take (k * M)).length + (piece M b k).length = L at hlen
  have e9 : ¬ (1 : Int) = 9 := by decide
  by_cases hk0 : k = 0
  · simp only [if_pos hk0, if_pos hk, if_neg e9, if_neg hlen, and_self, if_true]
    cases en <;> simp [b44, b54, b41', b51]
  · simp only [if_neg hk0, if_pos hk, if_neg hlen, e0, false_and, if_false, and_self, if_true]
    simp [b44]

/-- the joiner between two rounds -/
def BkS (id : Int) (en : Bool) (M : Nat) (b : List UInt8) (nL g : Nat) (k : Nat) (w : World) : Prop :=
  ∃ st en' l, JS w g 65536 g st en' l ∧ (k < nL → st = bst id k ∧ en' = ben en k ∧ l = b.take (k * M)) ∧ (k = nL → st = 0 ∧ l = [])

set_option maxRecDepth 100000 in
set_option maxHeartbeats 2000000 in
theorem BlockBack_walk (s : Nat) (hs : s < 4294967296) (A : Option Addr) (n c : Nat) (b : List UInt8) (en : Bool) (m : Nat) (hm : m < 65536) (w0 : World) (hr : Rd w0 A n c b) (hn : n ≤ 140737488351232) (hlt : 0 < n → ∀ x, x ∈ ob A → x < w0.heap.size) :
    Calls Try.prog 17 #[.int .u32 s, .slice A n c, .bool en, .int .u16 m] w0 (Yes w0) := by
  have HR := Lib.hid hr
  have HLT := Lib.hid hlt
  have hbl := hr.len
  clear hr hlt
  subst hbl
  obtain ⟨q, hq⟩ : ∃ q : Nat, s % 2147483647 = q := ⟨_, rfl⟩
  have hq0 : q < 2147483647 := by omega
  have hq1 : ((s : Int).tmod 2147483647) = (q : Int) := by rw [← hq]; simp [Int.tmod]
  have hq2 : ((s : Int) % 2147483647) = (q : Int) := by rw [← hq]; simp
  obtain ⟨d, hd⟩ : ∃ d : Nat, b.length / (1 + m) = d := ⟨_, rfl⟩
  have hd1 : ((b.length : Int).tdiv (1 + (m : Int))) = (d : Int) := by rw [← hd, show (1 + (m : Int)) = ((1 + m : Nat) : Int) by omega]; rfl
  have hd2 : ((b.length : Int) / (1 + (m : Int))) = (d : Int) := by rw [← hd]; simp
  have hd3 : d ≤ b.length := by rw [← hd]; exact Nat.div_le_self _ _
  by_cases hbig : 65536 < b.length ∨ 5000 < d
  · go_enter Try.func17, Try.ntmps17
    go_wp2_with fail
    all_goals
      refine (Awake w0).mono ?_
      rintro e w6 ⟨rfl, k6⟩
      go_wp2
      go_ret
      exact ⟨rfl, k6⟩
  · have hn6 : b.length ≤ 65536 := by omega
    have hd5 : d ≤ 5000 := by omega
    clear hbig
    go_enter Try.func17, Try.ntmps17
    go_wp2_with fail
    have hSp := SplitOk (1 + (q : Int)) (by omega) A b.length c b en (1 + m) (by omega) (by omega) w0 HR.out hn HLT.out (by omega)
    rw [show ((1 + m : Nat) : Int) = 1 + (m : Int) by omega] at hSp
    refine hSp.mono ?_
    rintro e w1 ⟨AL, nL, cL, fs, rfl, hnL, F, hkey, K1⟩
    clear hSp
    have HF := Lib.hid F
    have HKEY := Lib.hid hkey
    have HNL := Lib.hid hnL
    have HK1 := Lib.hid K1
    have hcL := F.ow.cap.1
    have hnL0 : ((nL : Int) == 0) = false := by simp; omega
    have hnL5 : nL ≤ 5001 := by have : cutsN (1 + m) b.length ≤ 5000 := Nat.le_trans (Nat.div_le_div_right (Nat.sub_le _ _)) (by omega); omega
    clear F hkey hnL K1
    go_wp2_with fail
    refine (JNew 65536 (by omega) w1).mono ?_
    rintro e w2 ⟨g, rfl, hj, hg, K2⟩
    subst hg
    have hlt := lt_of_heap hj
    have HJ : Hid (JS w2 w1.heap.size 65536 w1.heap.size 0 false []) := ⟨⟨none, 0, 0, hj, Ow.nil _ _ _ _, by simp [ob]⟩, by simp, K2.size⟩
    have HF2 := Lib.hid (HF.out.keep K2 (by simp))
    have HK2 := Lib.hid (HK1.out.trans K2)
    have hsz := HK1.out.size
    clear hj K2 HF
    obtain ⟨sz, hsz0⟩ : ∃ sz, w0.heap.size = sz := ⟨_, rfl⟩
    go_wp2
    go_loopw [15] (fun i wr => ∃ k : Nat, k ≤ nL ∧ i = .int .i64 k ∧ FrL wr w0.heap.size w1.heap.size AL nL cL fs ∧ Kp [] w0 wr ∧ BkS (1 + (q : Int)) en (1 + m) b nL w1.heap.size k wr) (fun i _ => nL - (intOf i).toNat)
    case atStart => exact ⟨0, Nat.zero_le _, rfl, HF2.out, HK2.out, 0, false, [], HJ.out, fun _ => ⟨rfl, rfl, by simp⟩, fun h => by have := HNL.out; omega⟩
    case round =>
      obtain ⟨k, hk, rfl, F, K, st, en', l, hJ, hopen, hend⟩ := hrel
      by_cases hkl : k < nL
      · have hki : (k : Int) < (nL : Int) := by omega
        obtain ⟨rfl, rfl, rfl⟩ := hopen hkl
        obtain ⟨g, p, rfl, hg, hp, hpm, hc⟩ := F.cell k hkl
        have hsp := HKEY.out k p hp
        have hpl := (F.pl p hpm).2
        have HP := Lib.hid (F.pl p hpm).1
        obtain ⟨f, lf⟩ := p
        dsimp only at hc hsp hpl HP
        have q0 := hc 0 _ rfl
        have q1 := hc 1 _ rfl
        have q2 := hc 2 _ rfl
        have q3 := hc 3 _ rfl
        have q4 := hc 4 _ rfl
        have q5 := hc 5 _ rfl
        have q6 := hc 6 _ rfl
        have q7 := hc 7 _ rfl
        have q8 := hc 8 _ rfl
        have q9 := hc 9 _ rfl
        have q10 := hc 10 _ rfl
        have q11 := hc 11 _ rfl
        rw [Nat.add_zero] at q0
        have HJ := Lib.hid hJ
        have HK := Lib.hid K
        have HF := Lib.hid F
        have hpn0 := HP.out.len
        have hpn1 : f.pn ≤ 1 + m := by have e9 : lf = piece (1 + m) b k := hsp.pl; rw [← hpn0, e9]; simp [piece]; omega
        have hpn : f.pn ≤ 140737488351232 := by omega
        clear hJ K F hc hp hpm hopen hend
        go_wp2_with fail
        by_cases hlast : k = cutsN (1 + m) b.length
        · refine (InP wr w1.heap.size 65536 w1.heap.size (by omega) _ _ _ f lf HJ.out HP.out (fun hp x hx => by have := (hpl x hx).2.1; omega) hpn).mono ?_
          rintro e w3 hpost
          rw [jstep_whole (by omega) (by omega) (by omega) hsp hlast] at hpost
          clear q0 q1 q2 q4 q5 q6 q7 q8 q9 q10 q11
          obtain ⟨A2, n2, c2, rfl, J3, O3, hg3, hl3, K3⟩ := hpost
          clear hl3
          have HK3 := Lib.hid (K3.kp HK.out (by omega) (by simp; omega))
          have HF3 := Lib.hid (by obtain ⟨T, hT, h1⟩ := K3; exact HF.out.keep h1 (fun t ht => by have := hT t ht; simp at this; omega))
          have p3 : w3.cell? ⟨g, k * 12 + 3, none⟩ = some (.slice f.pA f.pn f.pc) := by obtain ⟨T, hT, h1⟩ := K3; exact h1.cell q3 (fun ht => by have := hT _ ht; have := HF.out.rb g (by simp [ob]); simp at *; omega)
          have hg3 : g < w3.heap.size := World.block_lt_of_cell? w3 _ p3
          have hg4 : g < w3.heap.size + 1 := by omega
          have HJ3 := Lib.hid J3
          clear J3 K3 HK HF HJ HP q3
          have hkc : (nL : Int) - 1 = (k : Int) := by have := HNL.out; omega
          have hpni : ¬ (1 + (m : Int)) < (f.pn : Int) := by omega
          clear hlast
          obtain ⟨fv, hfv⟩ : ∃ fv : Int, (if en then (5 : Int) else 4) = fv := ⟨_, rfl⟩
          rw [hfv]
          have hf0 : 0 ≤ fv := by rw [← hfv]; split <;> omega
          have hf2 : ((fv % 2 == 1) != en) = false := by rw [← hfv]; cases en <;> rfl
          have hf1 : ((fv % 2 == 1) == en) = true := by rw [← hfv]; cases en <;> rfl
          clear hfv
          go_wp2_with (with_reducible refine stopAt (o := ⟨some 110, _, _, _, _, _⟩) ?_)
          refine Stop.go (wpList_strQ rfl rfl rfl (by rfl) 22 5 9 _ rfl Try.underlying22 Try.underlying5 Try.underlying9 rfl (O3.rd.keep (S := []) (by (repeat (first | with_reducible exact Kp.refl _ _ | with_reducible assumption | with_reducible refine Kp.alloc ?_ _ | with_reducible refine Kp.drew ?_ | with_reducible refine Kp.drewN ?_ _ | (with_reducible refine Kp.setL ?_ ?_ _; focus (simp; done)) | (with_reducible refine Kp.setR ?_ ?_ _; focus (simp; done)) | (with_reducible refine Kp.setR ?_ ?_ _; focus (simp; omega))))) (by simp)) ?_)
          go_wp2_with (with_reducible refine stopAt (o := ⟨some 112, _, _, _, _, _⟩) ?_)
          refine Stop.go (wpList_strQ rfl rfl rfl (by rfl) 22 5 9 _ rfl Try.underlying22 Try.underlying5 Try.underlying9 rfl (by refine Rd.keep (S := []) (HR.out.keep HK3.out (by simp)) ?_ (by simp); (repeat (first | with_reducible exact Kp.refl _ _ | with_reducible assumption | with_reducible refine Kp.alloc ?_ _ | with_reducible refine Kp.drew ?_ | with_reducible refine Kp.drewN ?_ _ | (with_reducible refine Kp.setL ?_ ?_ _; focus (simp; done)) | (with_reducible refine Kp.setR ?_ ?_ _; focus (simp; done)) | (with_reducible refine Kp.setR ?_ ?_ _; focus (simp; omega))))) ?_)
          go_wp2
          generalize hW : World.alloc _ _ = w4
          have K4 : Kp [] w3 w4 := by rw [← hW]; (repeat (first | with_reducible exact Kp.refl _ _ | with_reducible assumption | with_reducible refine Kp.alloc ?_ _ | with_reducible refine Kp.drew ?_ | with_reducible refine Kp.drewN ?_ _ | (with_reducible refine Kp.setL ?_ ?_ _; focus (simp; done)) | (with_reducible refine Kp.setR ?_ ?_ _; focus (simp; done)) | (with_reducible refine Kp.setR ?_ ?_ _; focus (simp; omega))))
          go_roundw
          case rel => exact ⟨k + 1, by omega, by go_num, HF3.out.keep K4 (by simp), HK3.out.trans K4, _, _, _, HJ3.out.keep K4 (by simp), fun h => by omega, fun _ => ⟨rfl, rfl⟩⟩
          case measure => simp [intOf]; omega
        · refine (InP wr w1.heap.size 65536 w1.heap.size (by omega) _ _ _ f lf HJ.out HP.out (fun hp x hx => by have := (hpl x hx).2.1; omega) hpn).mono ?_
          rintro e w3 hpost
          rw [jstep_more (by omega) (by omega) (by omega) hsp (by have := HNL.out; omega)] at hpost
          clear q0 q1 q2 q4 q5 q6 q7 q8 q9 q10 q11
          obtain ⟨rfl, J3, K3⟩ := hpost
          have HK3 := Lib.hid (K3.kp HK.out (by omega) (by simp; omega))
          have HF3 := Lib.hid (by obtain ⟨T, hT, h1⟩ := K3; exact HF.out.keep h1 (fun t ht => by have := hT t ht; simp at this; omega))
          have p3 : w3.cell? ⟨g, k * 12 + 3, none⟩ = some (.slice f.pA f.pn f.pc) := by obtain ⟨T, hT, h1⟩ := K3; exact h1.cell q3 (fun ht => by have := hT _ ht; have := HF.out.rb g (by simp [ob]); simp at *; omega)
          have hg3 : g < w3.heap.size := World.block_lt_of_cell? w3 _ p3
          have hg4 : g < w3.heap.size + 1 := by omega
          have HJ3 := Lib.hid J3
          clear J3 K3 HK HF HJ HP q3
          have hkc : ((k : Int) == (nL : Int) - 1) = false := by have := HNL.out; simp; omega
          have hpni : ¬ (1 + (m : Int)) < (f.pn : Int) := by omega
          go_wp2
          generalize hW : World.alloc _ _ = w4
          have K4 : Kp [] w3 w4 := by rw [← hW]; (repeat (first | with_reducible exact Kp.refl _ _ | with_reducible assumption | with_reducible refine Kp.alloc ?_ _ | with_reducible refine Kp.drew ?_ | with_reducible refine Kp.drewN ?_ _ | (with_reducible refine Kp.setL ?_ ?_ _; focus (simp; done)) | (with_reducible refine Kp.setR ?_ ?_ _; focus (simp; done)) | (with_reducible refine Kp.setR ?_ ?_ _; focus (simp; omega))))
          go_roundw
          case rel =>
            exact ⟨k + 1, by omega, by go_num, HF3.out.keep K4 (by simp), HK3.out.trans K4, _, _, _, HJ3.out.keep K4 (by simp), fun _ => ⟨rfl, rfl, rfl⟩, fun h => by have := HNL.out; omega⟩
          case measure => simp [intOf]; omega
      · obtain rfl : k = nL := by omega
        obtain ⟨rfl, rfl⟩ := hend rfl
        have HJ := Lib.hid hJ
        have HK := Lib.hid K
        clear hJ F K hopen hend hkl hk
        go_wp2_with fail
        refine HJ.out.strm.mono ?_
        rintro e w3 ⟨rfl, rfl⟩
        go_wp2_with fail
        refine HJ.out.held.mono ?_
        rintro e w3 ⟨rfl, rfl⟩
        go_wp2
        go_ret
        exact ⟨by simp, HK.out⟩
end Go.Proofs.Ytkmcakneceagpaa
