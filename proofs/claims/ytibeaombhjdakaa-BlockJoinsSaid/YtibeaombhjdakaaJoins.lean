/- 'BlockJoins', walked. -/
import Derived.Test.YtibeaombhjdakaaRJoD
import Derived.Test.YtibeaombhjdakaaSplits
import Derived.Test.YtibeaombhjdakaaOpnFrs
import Derived.Test.YtibeaombhjdakaaReg4
set_option linter.unusedVariables false
set_option linter.unusedSimpArgs false
set_option linter.unusedSimpArgs false
namespace Go.Proofs.Ytibeaombhjdakaa
open Go.RowKit
theorem cells12 {w : World} {g : Nat} {a0 a1 a2 a3 a4 a5 a6 a7 a8 a9 a10 a11 : Value} {t : TypeId} (h : w.heap[g]? = some (.cells #[a0, a1, a2, a3, a4, a5, a6, a7, a8, a9, a10, a11] t)) :
    w.cell? ⟨g, 0, none⟩ = some a0 ∧ w.cell? ⟨g, 1, none⟩ = some a1 ∧ w.cell? ⟨g, 2, none⟩ = some a2 ∧ w.cell? ⟨g, 3, none⟩ = some a3 ∧ w.cell? ⟨g, 4, none⟩ = some a4 ∧ w.cell? ⟨g, 5, none⟩ = some a5 ∧ w.cell? ⟨g, 6, none⟩ = some a6 ∧ w.cell? ⟨g, 7, none⟩ = some a7 ∧ w.cell? ⟨g, 8, none⟩ = some a8 ∧ w.cell? ⟨g, 9, none⟩ = some a9 ∧ w.cell? ⟨g, 10, none⟩ = some a10 ∧ w.cell? ⟨g, 11, none⟩ = some a11 ∧ (∀ j, w.frozen? ⟨g, j, none⟩ = false) ∧ g < w.heap.size ∧ g < w.heap.size + 1 :=
  ⟨cell_of h 0, cell_of h 1, cell_of h 2, cell_of h 3, cell_of h 4, cell_of h 5, cell_of h 6, cell_of h 7, cell_of h 8, cell_of h 9, cell_of h 10, cell_of h 11, frozen_of h, lt_of_heap h, Nat.lt_succ_of_lt (lt_of_heap h)⟩
theorem jstep_idle {most : Nat} {st : Int} {en : Bool} {l : List UInt8} {ty fl fst : Int} {lf : List UInt8} (h : st = 0 → en = false ∧ l = []) (hf : fst = 0 → ty ≠ 1 ∧ ty ≠ 9) (h0 : ((jstep most st en l ty fl fst lf).nx st en l).1 = 0) : ((jstep most st en l ty fl fst lf).nx st en l).2.1 = false ∧ ((jstep most st en l ty fl fst lf).nx st en l).2.2 = [] := by
  revert h0
  unfold jstep
  split
  · split
    · exact fun _ => ⟨rfl, rfl⟩
    · split
      · split
        · exact fun _ => ⟨rfl, rfl⟩
        · split
          · intro h0; exact absurd ‹ty = 1› (hf h0).1
          · exact fun _ => ⟨rfl, rfl⟩
      · exact fun h0 => h h0
  · split
    · split
      · exact fun _ => ⟨rfl, rfl⟩
      · split
        · intro h0
          rename_i h1 h2 _ _
          exact absurd h2.1 (hf (h2.2.trans h0)).2
        · exact fun _ => ⟨rfl, rfl⟩
    · exact fun _ => ⟨rfl, rfl⟩
set_option maxRecDepth 100000 in
set_option maxHeartbeats 8000000 in
theorem BlockJoins_walk (most : Int) (A : Option Addr) (n c : Nat) (w0 : World) (hf : Frs w0 A n) (hnc : n ≤ c) (hn : n * 128 ≤ 140737488351232) :
    Calls Try.prog 3 #[.int .i64 most, .slice A n c] w0 (Yes w0) := by
  have HFR := Lib.hid hf
  clear hf
  by_cases hmo : 0 ≤ most ∧ most ≤ 65536
  · obtain ⟨M, rfl⟩ := Int.eq_ofNat_of_zero_le hmo.1
    have hM : M ≤ 65536 := by omega
    clear hmo
    go_enter Try.func3, Try.ntmps3
    go_wp2_with fail
    refine (JNew M hM _).mono ?_
    rintro e w1 ⟨g, rfl, hj, hg, K1⟩
    have hg1 : w0.heap.size ≤ g := by omega
    clear hg
    go_wp2_with fail
    refine (RJNew M hM _).mono ?_
    rintro e w2 ⟨h, rfl, hq, hh, K2⟩
    have hh1 : w1.heap.size ≤ h := by omega
    clear hh
    have hS := lt_of_heap hj
    have hQ := lt_of_heap hq
    have HT0 : Hid (TwoJ w0 w2 g h [] [] M 0 false [] 0 false []) := ⟨⟨⟨none, 0, 0, hj.keep K2 (by simp), Ow.nil _ _ _ _, by simp [ob], by simp [ob]⟩, by simp⟩, ⟨⟨none, 0, 0, hq, Ow.nil _ _ _ _, by simp [ob], by simp [ob]⟩, by simp⟩, by simp, by simp, by have := K1.size; have := K2.size; omega, K1.trans K2⟩
    clear hj hq hg1 hh1 K1 K2 hS hQ
    go_wp2
    go_loopw [9] (fun i wr => ∃ (k : Nat) (D E : List Nat) (st : Int) (en : Bool) (l : List UInt8), k ≤ n ∧ i = .int .i64 k ∧ TwoJ w0 wr g h D E M st en l st en l ∧ (st = 0 → en = false ∧ l = [])) (fun i _ => n - (intOf i).toNat)
    case atStart => exact ⟨0, [], [], 0, false, [], Nat.zero_le _, rfl, HT0.out, fun _ => ⟨rfl, rfl⟩⟩
    case round =>
      obtain ⟨k, D, E, st, en, l, hk, rfl, hT, hid⟩ := hrel
      have HT := Lib.hid hT
      have HID := Lib.hid hid
      clear HT0 hid
      by_cases hkl : k < n
      · have hki : (k : Int) < (n : Int) := by omega
        obtain ⟨b, off, f, lf, ss, rfl, hb, ok, hc⟩ := HFR.out k hkl
        have hK := hT.kp
        have q0 := hK.cell (hc 0 _ rfl) (by simp)
        have q1 := hK.cell (hc 1 _ rfl) (by simp)
        have q2 := hK.cell (hc 2 _ rfl) (by simp)
        have q3 := hK.cell (hc 3 _ rfl) (by simp)
        have q4 := hK.cell (hc 4 _ rfl) (by simp)
        have q5 := hK.cell (hc 5 _ rfl) (by simp)
        have q6 := hK.cell (hc 6 _ rfl) (by simp)
        have q7 := hK.cell (hc 7 _ rfl) (by simp)
        have q8 := hK.cell (hc 8 _ rfl) (by simp)
        have q9 := hK.cell (hc 9 _ rfl) (by simp)
        have q10 := hK.cell (hc 10 _ rfl) (by simp)
        have q11 := hK.cell (hc 11 _ rfl) (by simp)
        rw [Nat.add_zero] at q0
        have HP := Lib.hid (ok.rd.keep hK (by simp))
        have hpn := ok.pn
        have hpl := ok.plt
        have hfl := ok.fl
        clear hT hK hc ok
        by_cases hneg : f.st < 0
        · go_wp2
          go_roundw
          case rel => exact ⟨k + 1, D, E, st, en, l, by omega, by go_num, HT.out.keep (by (repeat (first | with_reducible exact Kp.refl _ _ | with_reducible assumption | with_reducible refine Kp.alloc ?_ _ | with_reducible refine Kp.drew ?_ | with_reducible refine Kp.drewN ?_ _ | (with_reducible refine Kp.setL ?_ ?_ _; focus (simp; done)) | (with_reducible refine Kp.setR ?_ ?_ _; focus (simp; done)) | (with_reducible refine Kp.setR ?_ ?_ _; focus (simp; omega))))), HID.out⟩
          case measure => simp [intOf]; omega
        · by_cases hnegf : f.fl < 0
          · go_wp2
            go_roundw
            case rel => exact ⟨k + 1, D, E, st, en, l, by omega, by go_num, HT.out.keep (by (repeat (first | with_reducible exact Kp.refl _ _ | with_reducible assumption | with_reducible refine Kp.alloc ?_ _ | with_reducible refine Kp.drew ?_ | with_reducible refine Kp.drewN ?_ _ | (with_reducible refine Kp.setL ?_ ?_ _; focus (simp; done)) | (with_reducible refine Kp.setR ?_ ?_ _; focus (simp; done)) | (with_reducible refine Kp.setR ?_ ?_ _; focus (simp; omega))))), HID.out⟩
            case measure => simp [intOf]; omega
          · obtain ⟨F, hfF⟩ := Int.eq_ofNat_of_zero_le (show 0 ≤ f.fl by omega)
            have hF : F ≤ 9223372036854775807 := by omega
            have HFF := Lib.hid hfF
            clear hfF hfl
            cases hz : f.st == 0 with
            | false =>
              have HI := Lib.hid (show f.st = 0 → f.ty ≠ 1 ∧ f.ty ≠ 9 from fun e => by simp [e] at hz)
              go_wp2_with fail
              generalize hW : World.alloc _ _ = x1
              have K1 : Kp [] wr x1 := by rw [← hW]; (repeat (first | with_reducible exact Kp.refl _ _ | with_reducible assumption | with_reducible refine Kp.alloc ?_ _ | with_reducible refine Kp.drew ?_ | with_reducible refine Kp.drewN ?_ _ | (with_reducible refine Kp.setL ?_ ?_ _; focus (simp; done)) | (with_reducible refine Kp.setR ?_ ?_ _; focus (simp; done)) | (with_reducible refine Kp.setR ?_ ?_ _; focus (simp; omega))))
              have HB := Lib.hid (show x1.heap[wr.heap.size]? = some (.cells #[.int .i64 f.ty, .int .i64 f.fl, .int .i64 f.st, .slice f.pA f.pn f.pc, .int .i64 f.pad, .int .u32 f.code, .int .i64 f.last, .int .i64 f.inc, .int .i64 f.dep, .bool f.only, .int .i64 f.wt, .slice f.sA f.sn f.sc] 34) by rw [← hW]; (repeat (first | with_reducible assumption | (with_reducible refine hp_new _ _ _ ?_; focus (simp; done)) | (with_reducible refine (hp_old _ _ _ ?_).trans ?_; focus (first | omega | (simp; done) | (simp; omega))) | (with_reducible refine (hp_far _ _ _ _ ?_).trans ?_; focus (first | (simp; done) | (simp; omega))) | (with_reducible refine (hp_drew _ _).trans ?_) | (with_reducible refine (hp_drewN _ _ _).trans ?_))))
              have hT1 := HT.out.keep K1
              have HT1 := Lib.hid hT1
              have HP1 := Lib.hid (HP.out.keep K1 (by simp))
              have hd1 := fun t ht => (hT1.dl t ht).2.1
              have hwr := HT.out.gl
              have hwd := HT.out.dl
              have hwe := HT.out.el
              have hx1 := K1.size
              clear hW q0 q1 q2 q3 q4 q5 q6 q7 q8 q9 q10 q11 K1
              refine (InD x1 g D M hM st en l f lf hT1.rd HP1.out (fun hp x hx => by have := hpl hp x hx; have := hT1.gl; omega) hpn).mono ?_
              rintro e x2 ⟨fo, D2, rfl, he1, hr1, hb1, S2, d1, d2, K2⟩
              generalize hr : jstep M st en l f.ty f.fl f.st lf = r at he1 hr1 S2 ⊢
              have HR := Lib.hid hr
              have HT2 := Lib.hid (hT1.stepD S2 K2 d1 d2)
              have HB2 := Lib.hid (K2.heap HB.out (fun hh => by rcases List.mem_cons.1 hh with e | e; omega; have := hwd _ e; omega))
              have hk2 : Kp [] x1 x2 ∨ True := .inr trivial
              have HP2 := Lib.hid (HP1.out.keep K2 (fun hp x hx hh => by have h1 := hpl hp x hx; rcases List.mem_cons.1 hh with e | e; omega; have := hwd _ e; omega))
              have HE1 := Lib.hid he1
              have HR1 := Lib.hid hr1
              have HB1 := Lib.hid hb1
              have hx2 := K2.size
              obtain ⟨c0, c1, c2, c3, c4, c5, c6, c7, c8, c9, c10, c11, cz, cl, cl2⟩ := cells12 HB2.out
              clear hr hT1 S2 HT1 HP1 HB hd1 K2 d1 d2 he1 hr1 hb1 hk2 HP
              go_wp2_with fail
              generalize hW : World.alloc _ _ = x3
              have K3 : Kp [] x2 x3 := by rw [← hW]; (repeat (first | with_reducible exact Kp.refl _ _ | with_reducible assumption | with_reducible refine Kp.alloc ?_ _ | with_reducible refine Kp.drew ?_ | with_reducible refine Kp.drewN ?_ _ | (with_reducible refine Kp.setL ?_ ?_ _; focus (simp; done)) | (with_reducible refine Kp.setR ?_ ?_ _; focus (simp; done)) | (with_reducible refine Kp.setR ?_ ?_ _; focus (simp; omega))))
              have HB3 := Lib.hid (K3.heap HB2.out (by simp))
              have HF := Lib.hid (show x3.heap[x2.heap.size]? = some (.cells #[.int .i64 fo.ty, .int .i64 fo.fl, .int .i64 fo.st, .slice fo.pA fo.pn fo.pc, .int .i64 fo.pad, .int .u32 fo.code, .int .i64 fo.last, .int .i64 fo.inc, .int .i64 fo.dep, .bool fo.only, .int .i64 fo.wt, .slice fo.sA fo.sn fo.sc] 34) by rw [← hW]; (repeat (first | with_reducible assumption | (with_reducible refine hp_new _ _ _ ?_; focus (simp; done)) | (with_reducible refine (hp_old _ _ _ ?_).trans ?_; focus (first | omega | (simp; done) | (simp; omega))) | (with_reducible refine (hp_far _ _ _ _ ?_).trans ?_; focus (first | (simp; done) | (simp; omega))) | (with_reducible refine (hp_drew _ _).trans ?_) | (with_reducible refine (hp_drewN _ _ _).trans ?_))))
              have HY := Lib.hid (show x3.heap[x2.heap.size + 1]? = some (.cells #[.bool r.bad, .int .i64 0, .int .i64 r.cd] 36) by rw [← hW]; (repeat (first | with_reducible assumption | (with_reducible refine hp_new _ _ _ ?_; focus (simp; done)) | (with_reducible refine (hp_old _ _ _ ?_).trans ?_; focus (first | omega | (simp; done) | (simp; omega))) | (with_reducible refine (hp_far _ _ _ _ ?_).trans ?_; focus (first | (simp; done) | (simp; omega))) | (with_reducible refine (hp_drew _ _).trans ?_) | (with_reducible refine (hp_drewN _ _ _).trans ?_))))
              have hT3 := HT2.out.keep K3
              have HT3 := Lib.hid hT3
              have HP3 := Lib.hid (HP2.out.keep K3 (by simp))
              have HR3 := Lib.hid (HR1.out.keep K3 (by simp))
              have he3 := fun t ht => (hT3.el t ht).2.1
              have hx3 := K3.size
              clear hW K3 HT2 HP2 HR1 HB2 HB3 c0 c1 c2 c3 c4 c5 c6 c7 c8 c9 c10 c11 cz cl cl2
              refine (RInD x3 h E M hM st en l f F hF HFF.out lf hT3.rq HID.out HP3.out (fun hp x hx => by have := hpl hp x hx; omega) hpn).mono ?_
              rw [HR.out]
              rintro e x4 ⟨fo2, E4, rfl, he2, hr2, hb2, S4, e1, e2, K4⟩
              have hx4 := K4.size
              have HT4 := Lib.hid (HT3.out.stepE S4 K4 e1 e2)
              have HF4 := Lib.hid (K4.heap HF.out (fun hh => by rcases List.mem_cons.1 hh with e | e; omega; have := hwe _ e; omega))
              have HY4 := Lib.hid (K4.heap HY.out (fun hh => by rcases List.mem_cons.1 hh with e | e; omega; have := hwe _ e; omega))
              have HR4 := Lib.hid (HR3.out.keep K4 (fun hp x hx hh => by
                have h2 : x < w0.heap.size ∨ x ∈ D ∨ x1.heap.size ≤ x := by
                  rcases HB1.out hp x hx with h3 | h3 | h3
                  · exact .inl (hpl h3.1 x h3.2)
                  · exact .inr (.inl h3)
                  · exact .inr (.inr h3)
                rcases List.mem_cons.1 hh with e | e
                · subst e
                  rcases h2 with h3 | h3 | h3
                  · omega
                  · exact (hwd _ h3).2.2.1 rfl
                  · omega
                · have h4 := hwe x e
                  rcases h2 with h3 | h3 | h3
                  · omega
                  · exact (hwd _ h3).2.2.2 e
                  · omega))
              have HEQ := Lib.hid (show fo.ty = fo2.ty ∧ fo.fl = fo2.fl ∧ fo.st = fo2.st from ⟨HE1.out.1.trans he2.1.symm, HE1.out.2.1.trans he2.2.1.symm, HE1.out.2.2.trans he2.2.2.symm⟩)
              have HR2 := Lib.hid hr2
              clear HF HY HR3 HT3 K4 S4 e1 e2 he2 hr2 hb2 HB1 HE1 he3 hT3
              go_wp2
              generalize hW : World.alloc _ _ = x5
              have K5 : Kp [] x4 x5 := by rw [← hW]; (repeat (first | with_reducible exact Kp.refl _ _ | with_reducible assumption | with_reducible refine Kp.alloc ?_ _ | with_reducible refine Kp.drew ?_ | with_reducible refine Kp.drewN ?_ _ | (with_reducible refine Kp.setL ?_ ?_ _; focus (simp; done)) | (with_reducible refine Kp.setR ?_ ?_ _; focus (simp; done)) | (with_reducible refine Kp.setR ?_ ?_ _; focus (simp; omega))))
              have HG := Lib.hid (show x5.heap[x4.heap.size]? = some (.cells #[.int .i64 fo2.ty, .int .i64 fo2.fl, .int .i64 fo2.st, .slice fo2.pA fo2.pn fo2.pc, .int .i64 fo2.pad, .int .u32 fo2.code, .int .i64 fo2.last, .int .i64 fo2.inc, .int .i64 fo2.dep, .bool fo2.only, .int .i64 fo2.wt, .slice fo2.sA fo2.sn fo2.sc] 34) by rw [← hW]; (repeat (first | with_reducible assumption | (with_reducible refine hp_new _ _ _ ?_; focus (simp; done)) | (with_reducible refine (hp_old _ _ _ ?_).trans ?_; focus (first | omega | (simp; done) | (simp; omega))) | (with_reducible refine (hp_far _ _ _ _ ?_).trans ?_; focus (first | (simp; done) | (simp; omega))) | (with_reducible refine (hp_drew _ _).trans ?_) | (with_reducible refine (hp_drewN _ _ _).trans ?_))))
              have HZ := Lib.hid (show x5.heap[x4.heap.size + 1]? = some (.cells #[.bool r.bad, .int .i64 0, .int .i64 r.cd] 36) by rw [← hW]; (repeat (first | with_reducible assumption | (with_reducible refine hp_new _ _ _ ?_; focus (simp; done)) | (with_reducible refine (hp_old _ _ _ ?_).trans ?_; focus (first | omega | (simp; done) | (simp; omega))) | (with_reducible refine (hp_far _ _ _ _ ?_).trans ?_; focus (first | (simp; done) | (simp; omega))) | (with_reducible refine (hp_drew _ _).trans ?_) | (with_reducible refine (hp_drewN _ _ _).trans ?_))))
              have HF := Lib.hid (K5.heap HF4.out (by simp))
              have HY := Lib.hid (K5.heap HY4.out (by simp))
              have HRA := Lib.hid (HR4.out.keep K5 (by simp))
              have HRB := Lib.hid (HR2.out.keep K5 (by simp))
              have HT5 := Lib.hid (HT4.out.keep K5)
              have HID5 := Lib.hid (jstep_idle (most := M) (fl := f.fl) (lf := lf) HID.out HI.out)
              rw [HR.out] at HID5
              clear hW HT4 HF4 HY4 HR4 HR2 K5 HID HI HR HT hx1 hx2 hx3 hx4 hwr hwd hwe
              generalize r.done = od_ at HF HY HG HZ HT5 HID5 ⊢
              generalize r.bad = ob_ at HF HY HG HZ HT5 HID5 ⊢
              generalize r.cd = oc_ at HF HY HG HZ HT5 HID5 ⊢
              generalize r.nx st en l = nx at HT5 HID5
              obtain ⟨st2, en2, l2⟩ := nx
              dsimp only at HT5 HID5
              obtain ⟨⟨rA, rn, rc, hr1, hr2, _, _⟩, _⟩ := HT5.out.rd
              obtain ⟨⟨qA, qn, qc, hq1, hq2, _, _⟩, _⟩ := HT5.out.rq
              have hqr : qn = rn := by have h1 := hr2.len; have h2 := hq2.len; simp at h1 h2; omega
              subst hqr
              have HRD := Lib.hid hr1
              have HRQ := Lib.hid hq1
              clear hr1 hr2 hq1 hq2
              generalize x2.heap.size = f11 at HF HY ⊢
              generalize x4.heap.size = f14 at HG HZ ⊢
              refine wp_region_st3 (by kernel_rfl) [fun _ v _ => v = (.agg #[.int .i64 fo.ty, .int .i64 fo.fl, .int .i64 fo.st, .slice fo.pA fo.pn fo.pc, .int .i64 fo.pad, .int .u32 fo.code, .int .i64 fo.last, .int .i64 fo.inc, .int .i64 fo.dep, .bool fo.only, .int .i64 fo.wt, .slice fo.sA fo.sn fo.sc]),
                  fun _ v _ => v = (.agg #[.int .i64 fo2.ty, .int .i64 fo2.fl, .int .i64 fo2.st, .slice fo2.pA fo2.pn fo2.pc, .int .i64 fo2.pad, .int .u32 fo2.code, .int .i64 fo2.last, .int .i64 fo2.inc, .int .i64 fo2.dep, .bool fo2.only, .int .i64 fo2.wt, .slice fo2.sA fo2.sn fo2.sc]),
                  fun _ v _ => v = .bool true,
                  fun _ v _ => v = (.bool false),
                  fun _ v _ => v = (.bool false),
                  fun _ v _ => v = (.bool od_),
                  fun _ v _ => v = (.bool od_),
                  fun _ v _ => v = (.bool false),
                  fun _ v _ => v = (.bool false),
                  fun _ v _ => v = (.bool false),
                  fun _ v _ => v = (.agg #[.bool ob_, .int .i64 0, .int .i64 oc_]),
                  fun _ v _ => v = (.agg #[.bool ob_, .int .i64 0, .int .i64 oc_]),
                  fun _ v _ => v = (.bool false),
                  fun _ v _ => v = (.bool false),
                  fun _ v _ => v = (.bool false),
                  fun _ v _ => v = (.pointer (some ⟨g, 0, none⟩)),
                  fun _ v _ => v = .int .i64 st2,
                  fun _ v _ => v = (.pointer (some ⟨h, 0, none⟩)),
                  fun _ v _ => v = (.pointer (some ⟨h, 0, none⟩)),
                  fun _ v _ => v = (.pointer (some ⟨h, 1, none⟩)),
                  fun _ v _ => v = (.int .i64 st2),
                  fun _ v _ => v = (.bool false),
                  fun _ v _ => v = (.bool false),
                  fun _ v _ => v = (.bool false),
                  fun _ v _ => v = (.pointer (some ⟨g, 0, none⟩)),
                  fun _ v _ => v = .int .i64 (qn : Int),
                  fun _ v _ => v = (.pointer (some ⟨h, 0, none⟩)),
                  fun _ v _ => v = (.pointer (some ⟨h, 0, none⟩)),
                  fun _ v _ => v = (.pointer (some ⟨h, 3, none⟩)),
                  fun _ v _ => v = (.slice qA qn qc),
                  fun _ v _ => v = (.int .i64 (qn : Int)),
                  fun _ v _ => v = (.bool false),
                  fun _ v _ => v = (.bool false)] (fun _ w => Kp [] x5 w) (fun _ w w' => Kp [] w w') (fun w w' => Kp [] w w') [2, 16, 25] [] (by kernel_rfl) (by kernel_rfl) (by kernel_rfl) (by decide) (by kernel_rfl) ⟨StabAt2.const _, StabAt2.const _, StabAt2.const _, StabAt2.const _, StabAt2.const _, StabAt2.const _, StabAt2.const _, StabAt2.const _, StabAt2.const _, StabAt2.const _, StabAt2.const _, StabAt2.const _, StabAt2.const _, StabAt2.const _, StabAt2.const _, StabAt2.const _, StabAt2.const _, StabAt2.const _, StabAt2.const _, StabAt2.const _, StabAt2.const _, StabAt2.const _, StabAt2.const _, StabAt2.const _, StabAt2.const _, StabAt2.const _, StabAt2.const _, StabAt2.const _, StabAt2.const _, StabAt2.const _, StabAt2.const _, StabAt2.const _, StabAt2.const _, trivial⟩ ((Kp.refl _ _).drew) ⟨?_, ?_, ?_, ?_, ?_, ?_, ?_, ?_, ?_, ?_, ?_, ?_, ?_, ?_, ?_, ?_, ?_, ?_, ?_, ?_, ?_, ?_, ?_, ?_, ?_, ?_, ?_, ?_, ?_, ?_, ?_, ?_, ?_, trivial⟩ (by kernel_rfl) ?_
              · intro q9 a w E hC K hK
                have h11 : a.tmps[11]? = some (.pointer (some ⟨f11, 0, none⟩)) := (E.out 11 (by kernel_rfl)).trans rfl
                refine want_none rfl ?_
                have hf := hC.heap HF.out (by simp)
                have q0 := cell_of hf 0
                have q1 := cell_of hf 1
                have q2 := cell_of hf 2
                have q3 := cell_of hf 3
                have q4 := cell_of hf 4
                have q5 := cell_of hf 5
                have q6 := cell_of hf 6
                have q7 := cell_of hf 7
                have q8 := cell_of hf 8
                have q9 := cell_of hf 9
                have q10 := cell_of hf 10
                have q11 := cell_of hf 11
                have ql := lt_of_heap hf
                clear hf
                go_simp
                exact hK _ rfl
              · intro q9 a w E hC K hK
                have h14 : a.tmps[14]? = some (.pointer (some ⟨f14, 0, none⟩)) := (E.out 14 (by kernel_rfl)).trans rfl
                refine want_none rfl ?_
                have hf := hC.heap HG.out (by simp)
                have q0 := cell_of hf 0
                have q1 := cell_of hf 1
                have q2 := cell_of hf 2
                have q3 := cell_of hf 3
                have q4 := cell_of hf 4
                have q5 := cell_of hf 5
                have q6 := cell_of hf 6
                have q7 := cell_of hf 7
                have q8 := cell_of hf 8
                have q9 := cell_of hf 9
                have q10 := cell_of hf 10
                have q11 := cell_of hf 11
                have ql := lt_of_heap hf
                clear hf
                go_simp
                exact hK _ rfl
              · intro a w E hC K hK
                obtain ⟨_, h88, rfl⟩ := E.pred 0 _ 88 rfl rfl (by kernel_rfl)
                obtain ⟨_, h89, rfl⟩ := E.pred 1 _ 89 rfl rfl (by kernel_rfl)
                refine want_none rfl ?_
                have hh := Lib.hid hC
                clear hC
                go_simp
                refine (SameT fo fo2 _ w HEQ.out.1 HEQ.out.2.1 HEQ.out.2.2 (HRA.out.keep hh.out (by simp)) (HRB.out.keep hh.out (by simp))).mono ?_
                rintro e w2 ⟨rfl, K2⟩
                go_simp
                exact hK _ _ rfl (hh.out.trans K2) K2
              · intro q9 a w E hC K hK
                obtain ⟨v2, h90, V2⟩ := E.pred 2 _ 90 rfl rfl (by kernel_rfl)
                replace V2 : (fun _ v _ => v = .bool true) q9 v2 w := V2
                obtain rfl := V2
                refine want_none rfl ?_
                go_simp
                exact hK _ rfl
              · intro q9 a w E hC K hK
                obtain ⟨_, h91, rfl⟩ := E.pred 3 _ 91 rfl rfl (by kernel_rfl)
                refine want_none rfl ?_
                go_simp
                exact hK _ rfl
              · intro q9 a w E hC K hK
                have h12 : a.tmps[12]? = some (.bool od_) := (E.out 12 (by kernel_rfl)).trans rfl
                obtain ⟨_, h92, rfl⟩ := E.pred 4 _ 92 rfl rfl (by kernel_rfl)
                refine want_yes rfl rfl rfl h92 ?_
                go_simp
                exact hK _ rfl
              · intro q9 a w E hC K hK
                have h15 : a.tmps[15]? = some (.bool od_) := (E.out 15 (by kernel_rfl)).trans rfl
                obtain ⟨_, h92, rfl⟩ := E.pred 4 _ 92 rfl rfl (by kernel_rfl)
                refine want_yes rfl rfl rfl h92 ?_
                go_simp
                exact hK _ rfl
              · intro q9 a w E hC K hK
                obtain ⟨_, h93, rfl⟩ := E.pred 5 _ 93 rfl rfl (by kernel_rfl)
                obtain ⟨_, h94, rfl⟩ := E.pred 6 _ 94 rfl rfl (by kernel_rfl)
                obtain ⟨_, h92, rfl⟩ := E.pred 4 _ 92 rfl rfl (by kernel_rfl)
                refine want_yes rfl rfl rfl h92 ?_
                go_simp
                exact hK _ rfl
              · intro q9 a w E hC K hK
                obtain ⟨_, h92, rfl⟩ := E.pred 4 _ 92 rfl rfl (by kernel_rfl)
                obtain ⟨_, h95, rfl⟩ := E.pred 7 _ 95 rfl rfl (by kernel_rfl)
                refine want_none rfl ?_
                go_simp
                exact hK _ rfl
              · intro q9 a w E hC K hK
                obtain ⟨_, h96, rfl⟩ := E.pred 8 _ 96 rfl rfl (by kernel_rfl)
                refine want_none rfl ?_
                go_simp
                exact hK _ rfl
              · intro q9 a w E hC K hK
                have h13 : a.tmps[13]? = some (.pointer (some ⟨f11 + 1, 0, none⟩)) := (E.out 13 (by kernel_rfl)).trans rfl
                obtain ⟨_, h97, rfl⟩ := E.pred 9 _ 97 rfl rfl (by kernel_rfl)
                refine want_yes rfl rfl rfl h97 ?_
                have hx := hC.heap HY.out (by simp)
                have x0 := cell_of hx 0
                have x1 := cell_of hx 1
                have x2 := cell_of hx 2
                have xl := lt_of_heap hx
                clear hx
                go_simp
                exact hK _ rfl
              · intro q9 a w E hC K hK
                have h16 : a.tmps[16]? = some (.pointer (some ⟨f14 + 1, 0, none⟩)) := (E.out 16 (by kernel_rfl)).trans rfl
                obtain ⟨_, h97, rfl⟩ := E.pred 9 _ 97 rfl rfl (by kernel_rfl)
                refine want_yes rfl rfl rfl h97 ?_
                have hx := hC.heap HZ.out (by simp)
                have x0 := cell_of hx 0
                have x1 := cell_of hx 1
                have x2 := cell_of hx 2
                have xl := lt_of_heap hx
                clear hx
                go_simp
                exact hK _ rfl
              · intro q9 a w E hC K hK
                obtain ⟨_, h98, rfl⟩ := E.pred 10 _ 98 rfl rfl (by kernel_rfl)
                obtain ⟨_, h99, rfl⟩ := E.pred 11 _ 99 rfl rfl (by kernel_rfl)
                obtain ⟨_, h97, rfl⟩ := E.pred 9 _ 97 rfl rfl (by kernel_rfl)
                refine want_yes rfl rfl rfl h97 ?_
                go_simp
                exact hK _ rfl
              · intro q9 a w E hC K hK
                obtain ⟨_, h97, rfl⟩ := E.pred 9 _ 97 rfl rfl (by kernel_rfl)
                obtain ⟨_, h100, rfl⟩ := E.pred 12 _ 100 rfl rfl (by kernel_rfl)
                refine want_none rfl ?_
                go_simp
                exact hK _ rfl
              · intro q9 a w E hC K hK
                obtain ⟨_, h101, rfl⟩ := E.pred 13 _ 101 rfl rfl (by kernel_rfl)
                refine want_none rfl ?_
                go_simp
                exact hK _ rfl
              · intro q9 a w E hC K hK
                have h5 : a.tmps[5]? = some (.pointer (some ⟨g, 0, none⟩)) := (E.out 5 (by kernel_rfl)).trans rfl
                obtain ⟨_, h102, rfl⟩ := E.pred 14 _ 102 rfl rfl (by kernel_rfl)
                refine want_yes rfl rfl rfl h102 ?_
                go_simp
                exact hK _ rfl
              · intro a w E hC K hK
                obtain ⟨_, h103, rfl⟩ := E.pred 15 _ 103 rfl rfl (by kernel_rfl)
                obtain ⟨_, h102, rfl⟩ := E.pred 14 _ 102 rfl rfl (by kernel_rfl)
                refine want_yes rfl rfl rfl h102 ?_
                have hr := HRD.out.keep hC (by simp)
                have hh := Lib.hid hC
                clear hC
                go_simp
                refine (JStream hr).mono ?_
                rintro e w2 ⟨rfl, rfl⟩
                go_simp
                exact hK _ _ rfl hh.out (Kp.refl _ _)
              · intro q9 a w E hC K hK
                have h7 : a.tmps[7]? = some (.pointer (some ⟨h, 0, none⟩)) := (E.out 7 (by kernel_rfl)).trans rfl
                obtain ⟨_, h102, rfl⟩ := E.pred 14 _ 102 rfl rfl (by kernel_rfl)
                refine want_yes rfl rfl rfl h102 ?_
                go_simp
                exact hK _ rfl
              · intro q9 a w E hC K hK
                obtain ⟨_, h105, rfl⟩ := E.pred 17 _ 105 rfl rfl (by kernel_rfl)
                obtain ⟨_, h102, rfl⟩ := E.pred 14 _ 102 rfl rfl (by kernel_rfl)
                refine want_yes rfl rfl rfl h102 ?_
                have hr := hC.heap HRQ.out (by simp)
                have hl2 := lt_of_heap hr
                clear hr
                go_simp
                exact hK _ rfl
              · intro q9 a w E hC K hK
                obtain ⟨_, h106, rfl⟩ := E.pred 18 _ 106 rfl rfl (by kernel_rfl)
                obtain ⟨_, h102, rfl⟩ := E.pred 14 _ 102 rfl rfl (by kernel_rfl)
                refine want_yes rfl rfl rfl h102 ?_
                go_simp
                exact hK _ rfl
              · intro q9 a w E hC K hK
                obtain ⟨_, h107, rfl⟩ := E.pred 19 _ 107 rfl rfl (by kernel_rfl)
                obtain ⟨_, h102, rfl⟩ := E.pred 14 _ 102 rfl rfl (by kernel_rfl)
                refine want_yes rfl rfl rfl h102 ?_
                have hr := hC.heap HRQ.out (by simp)
                have c1 := cell_of hr 1
                have hl2 := lt_of_heap hr
                clear hr
                go_simp
                exact hK _ rfl
              · intro q9 a w E hC K hK
                obtain ⟨v16, h104, V16⟩ := E.pred 16 _ 104 rfl rfl (by kernel_rfl)
                replace V16 : (fun _ v _ => v = .int .i64 st2) q9 v16 w := V16
                obtain rfl := V16
                obtain ⟨_, h108, rfl⟩ := E.pred 20 _ 108 rfl rfl (by kernel_rfl)
                obtain ⟨_, h102, rfl⟩ := E.pred 14 _ 102 rfl rfl (by kernel_rfl)
                refine want_yes rfl rfl rfl h102 ?_
                go_simp
                exact hK _ rfl
              · intro q9 a w E hC K hK
                obtain ⟨_, h102, rfl⟩ := E.pred 14 _ 102 rfl rfl (by kernel_rfl)
                obtain ⟨_, h109, rfl⟩ := E.pred 21 _ 109 rfl rfl (by kernel_rfl)
                refine want_none rfl ?_
                go_simp
                exact hK _ rfl
              · intro q9 a w E hC K hK
                obtain ⟨_, h110, rfl⟩ := E.pred 22 _ 110 rfl rfl (by kernel_rfl)
                refine want_none rfl ?_
                go_simp
                exact hK _ rfl
              · intro q9 a w E hC K hK
                have h5 : a.tmps[5]? = some (.pointer (some ⟨g, 0, none⟩)) := (E.out 5 (by kernel_rfl)).trans rfl
                obtain ⟨_, h111, rfl⟩ := E.pred 23 _ 111 rfl rfl (by kernel_rfl)
                refine want_yes rfl rfl rfl h111 ?_
                go_simp
                exact hK _ rfl
              · intro a w E hC K hK
                obtain ⟨_, h112, rfl⟩ := E.pred 24 _ 112 rfl rfl (by kernel_rfl)
                obtain ⟨_, h111, rfl⟩ := E.pred 23 _ 111 rfl rfl (by kernel_rfl)
                refine want_yes rfl rfl rfl h111 ?_
                have hr := HRD.out.keep hC (by simp)
                have hh := Lib.hid hC
                clear hC
                go_simp
                refine (JHeld hr).mono ?_
                rintro e w2 ⟨rfl, rfl⟩
                go_simp
                exact hK _ _ rfl hh.out (Kp.refl _ _)
              · intro q9 a w E hC K hK
                have h7 : a.tmps[7]? = some (.pointer (some ⟨h, 0, none⟩)) := (E.out 7 (by kernel_rfl)).trans rfl
                obtain ⟨_, h111, rfl⟩ := E.pred 23 _ 111 rfl rfl (by kernel_rfl)
                refine want_yes rfl rfl rfl h111 ?_
                go_simp
                exact hK _ rfl
              · intro q9 a w E hC K hK
                obtain ⟨_, h114, rfl⟩ := E.pred 26 _ 114 rfl rfl (by kernel_rfl)
                obtain ⟨_, h111, rfl⟩ := E.pred 23 _ 111 rfl rfl (by kernel_rfl)
                refine want_yes rfl rfl rfl h111 ?_
                have hr := hC.heap HRQ.out (by simp)
                have hl2 := lt_of_heap hr
                clear hr
                go_simp
                exact hK _ rfl
              · intro q9 a w E hC K hK
                obtain ⟨_, h115, rfl⟩ := E.pred 27 _ 115 rfl rfl (by kernel_rfl)
                obtain ⟨_, h111, rfl⟩ := E.pred 23 _ 111 rfl rfl (by kernel_rfl)
                refine want_yes rfl rfl rfl h111 ?_
                go_simp
                exact hK _ rfl
              · intro q9 a w E hC K hK
                obtain ⟨_, h116, rfl⟩ := E.pred 28 _ 116 rfl rfl (by kernel_rfl)
                obtain ⟨_, h111, rfl⟩ := E.pred 23 _ 111 rfl rfl (by kernel_rfl)
                refine want_yes rfl rfl rfl h111 ?_
                have hr := hC.heap HRQ.out (by simp)
                have c3 := cell_of hr 3
                have hl2 := lt_of_heap hr
                clear hr
                go_simp
                exact hK _ rfl
              · intro q9 a w E hC K hK
                obtain ⟨_, h117, rfl⟩ := E.pred 29 _ 117 rfl rfl (by kernel_rfl)
                obtain ⟨_, h111, rfl⟩ := E.pred 23 _ 111 rfl rfl (by kernel_rfl)
                refine want_yes rfl rfl rfl h111 ?_
                go_simp
                exact hK _ rfl
              · intro q9 a w E hC K hK
                obtain ⟨v25, h113, V25⟩ := E.pred 25 _ 113 rfl rfl (by kernel_rfl)
                replace V25 : (fun _ v _ => v = .int .i64 (qn : Int)) q9 v25 w := V25
                obtain rfl := V25
                obtain ⟨_, h118, rfl⟩ := E.pred 30 _ 118 rfl rfl (by kernel_rfl)
                obtain ⟨_, h111, rfl⟩ := E.pred 23 _ 111 rfl rfl (by kernel_rfl)
                refine want_yes rfl rfl rfl h111 ?_
                go_simp
                exact hK _ rfl
              · intro q9 a w E hC K hK
                obtain ⟨_, h111, rfl⟩ := E.pred 23 _ 111 rfl rfl (by kernel_rfl)
                obtain ⟨_, h119, rfl⟩ := E.pred 31 _ 119 rfl rfl (by kernel_rfl)
                refine want_none rfl ?_
                go_simp
                exact hK _ rfl
              intro vs x8 hC hV
              have e32 : vs 32 = .bool false := hV 32 _ rfl (by simp)
              have HT8 := Lib.hid (HT5.out.keep hC)
              clear hV hC HT5 HF HY HG HZ HRA HRB HRD HRQ
              simp only [putAll, Act.put, List.setIfInBounds_toArray]
              dsimp only [List.set]
              rw [e32]
              go_wp2
              go_roundw
              case rel => exact ⟨k + 1, D2, E4, st2, en2, l2, by omega, by go_num, HT8.out, HID5.out⟩
              case measure => simp [intOf]; omega
            | true =>
              cases h1 : f.ty == 1 with
              | true =>
                go_wp2
                go_roundw
                case rel => exact ⟨k + 1, D, E, st, en, l, by omega, by go_num, HT.out.keep (by (repeat (first | with_reducible exact Kp.refl _ _ | with_reducible assumption | with_reducible refine Kp.alloc ?_ _ | with_reducible refine Kp.drew ?_ | with_reducible refine Kp.drewN ?_ _ | (with_reducible refine Kp.setL ?_ ?_ _; focus (simp; done)) | (with_reducible refine Kp.setR ?_ ?_ _; focus (simp; done)) | (with_reducible refine Kp.setR ?_ ?_ _; focus (simp; omega))))), HID.out⟩
                case measure => simp [intOf]; omega
              | false =>
                cases h9 : f.ty == 9 with
                | true =>
                  go_wp2
                  go_roundw
                  case rel => exact ⟨k + 1, D, E, st, en, l, by omega, by go_num, HT.out.keep (by (repeat (first | with_reducible exact Kp.refl _ _ | with_reducible assumption | with_reducible refine Kp.alloc ?_ _ | with_reducible refine Kp.drew ?_ | with_reducible refine Kp.drewN ?_ _ | (with_reducible refine Kp.setL ?_ ?_ _; focus (simp; done)) | (with_reducible refine Kp.setR ?_ ?_ _; focus (simp; done)) | (with_reducible refine Kp.setR ?_ ?_ _; focus (simp; omega))))), HID.out⟩
                  case measure => simp [intOf]; omega
                | false =>
                  have HI := Lib.hid (show f.st = 0 → f.ty ≠ 1 ∧ f.ty ≠ 9 from fun _ => ⟨by simpa using h1, by simpa using h9⟩)
                  go_wp2_with fail
                  generalize hW : World.alloc _ _ = x1
                  have K1 : Kp [] wr x1 := by rw [← hW]; (repeat (first | with_reducible exact Kp.refl _ _ | with_reducible assumption | with_reducible refine Kp.alloc ?_ _ | with_reducible refine Kp.drew ?_ | with_reducible refine Kp.drewN ?_ _ | (with_reducible refine Kp.setL ?_ ?_ _; focus (simp; done)) | (with_reducible refine Kp.setR ?_ ?_ _; focus (simp; done)) | (with_reducible refine Kp.setR ?_ ?_ _; focus (simp; omega))))
                  have HB := Lib.hid (show x1.heap[wr.heap.size]? = some (.cells #[.int .i64 f.ty, .int .i64 f.fl, .int .i64 f.st, .slice f.pA f.pn f.pc, .int .i64 f.pad, .int .u32 f.code, .int .i64 f.last, .int .i64 f.inc, .int .i64 f.dep, .bool f.only, .int .i64 f.wt, .slice f.sA f.sn f.sc] 34) by rw [← hW]; (repeat (first | with_reducible assumption | (with_reducible refine hp_new _ _ _ ?_; focus (simp; done)) | (with_reducible refine (hp_old _ _ _ ?_).trans ?_; focus (first | omega | (simp; done) | (simp; omega))) | (with_reducible refine (hp_far _ _ _ _ ?_).trans ?_; focus (first | (simp; done) | (simp; omega))) | (with_reducible refine (hp_drew _ _).trans ?_) | (with_reducible refine (hp_drewN _ _ _).trans ?_))))
                  have hT1 := HT.out.keep K1
                  have HT1 := Lib.hid hT1
                  have HP1 := Lib.hid (HP.out.keep K1 (by simp))
                  have hd1 := fun t ht => (hT1.dl t ht).2.1
                  have hwr := HT.out.gl
                  have hwd := HT.out.dl
                  have hwe := HT.out.el
                  have hx1 := K1.size
                  clear hW q0 q1 q2 q3 q4 q5 q6 q7 q8 q9 q10 q11 K1
                  refine (InD x1 g D M hM st en l f lf hT1.rd HP1.out (fun hp x hx => by have := hpl hp x hx; have := hT1.gl; omega) hpn).mono ?_
                  rintro e x2 ⟨fo, D2, rfl, he1, hr1, hb1, S2, d1, d2, K2⟩
                  generalize hr : jstep M st en l f.ty f.fl f.st lf = r at he1 hr1 S2 ⊢
                  have HR := Lib.hid hr
                  have HT2 := Lib.hid (hT1.stepD S2 K2 d1 d2)
                  have HB2 := Lib.hid (K2.heap HB.out (fun hh => by rcases List.mem_cons.1 hh with e | e; omega; have := hwd _ e; omega))
                  have hk2 : Kp [] x1 x2 ∨ True := .inr trivial
                  have HP2 := Lib.hid (HP1.out.keep K2 (fun hp x hx hh => by have h1 := hpl hp x hx; rcases List.mem_cons.1 hh with e | e; omega; have := hwd _ e; omega))
                  have HE1 := Lib.hid he1
                  have HR1 := Lib.hid hr1
                  have HB1 := Lib.hid hb1
                  have hx2 := K2.size
                  obtain ⟨c0, c1, c2, c3, c4, c5, c6, c7, c8, c9, c10, c11, cz, cl, cl2⟩ := cells12 HB2.out
                  clear hr hT1 S2 HT1 HP1 HB hd1 K2 d1 d2 he1 hr1 hb1 hk2 HP
                  go_wp2_with fail
                  generalize hW : World.alloc _ _ = x3
                  have K3 : Kp [] x2 x3 := by rw [← hW]; (repeat (first | with_reducible exact Kp.refl _ _ | with_reducible assumption | with_reducible refine Kp.alloc ?_ _ | with_reducible refine Kp.drew ?_ | with_reducible refine Kp.drewN ?_ _ | (with_reducible refine Kp.setL ?_ ?_ _; focus (simp; done)) | (with_reducible refine Kp.setR ?_ ?_ _; focus (simp; done)) | (with_reducible refine Kp.setR ?_ ?_ _; focus (simp; omega))))
                  have HB3 := Lib.hid (K3.heap HB2.out (by simp))
                  have HF := Lib.hid (show x3.heap[x2.heap.size]? = some (.cells #[.int .i64 fo.ty, .int .i64 fo.fl, .int .i64 fo.st, .slice fo.pA fo.pn fo.pc, .int .i64 fo.pad, .int .u32 fo.code, .int .i64 fo.last, .int .i64 fo.inc, .int .i64 fo.dep, .bool fo.only, .int .i64 fo.wt, .slice fo.sA fo.sn fo.sc] 34) by rw [← hW]; (repeat (first | with_reducible assumption | (with_reducible refine hp_new _ _ _ ?_; focus (simp; done)) | (with_reducible refine (hp_old _ _ _ ?_).trans ?_; focus (first | omega | (simp; done) | (simp; omega))) | (with_reducible refine (hp_far _ _ _ _ ?_).trans ?_; focus (first | (simp; done) | (simp; omega))) | (with_reducible refine (hp_drew _ _).trans ?_) | (with_reducible refine (hp_drewN _ _ _).trans ?_))))
                  have HY := Lib.hid (show x3.heap[x2.heap.size + 1]? = some (.cells #[.bool r.bad, .int .i64 0, .int .i64 r.cd] 36) by rw [← hW]; (repeat (first | with_reducible assumption | (with_reducible refine hp_new _ _ _ ?_; focus (simp; done)) | (with_reducible refine (hp_old _ _ _ ?_).trans ?_; focus (first | omega | (simp; done) | (simp; omega))) | (with_reducible refine (hp_far _ _ _ _ ?_).trans ?_; focus (first | (simp; done) | (simp; omega))) | (with_reducible refine (hp_drew _ _).trans ?_) | (with_reducible refine (hp_drewN _ _ _).trans ?_))))
                  have hT3 := HT2.out.keep K3
                  have HT3 := Lib.hid hT3
                  have HP3 := Lib.hid (HP2.out.keep K3 (by simp))
                  have HR3 := Lib.hid (HR1.out.keep K3 (by simp))
                  have he3 := fun t ht => (hT3.el t ht).2.1
                  have hx3 := K3.size
                  clear hW K3 HT2 HP2 HR1 HB2 HB3 c0 c1 c2 c3 c4 c5 c6 c7 c8 c9 c10 c11 cz cl cl2
                  refine (RInD x3 h E M hM st en l f F hF HFF.out lf hT3.rq HID.out HP3.out (fun hp x hx => by have := hpl hp x hx; omega) hpn).mono ?_
                  rw [HR.out]
                  rintro e x4 ⟨fo2, E4, rfl, he2, hr2, hb2, S4, e1, e2, K4⟩
                  have hx4 := K4.size
                  have HT4 := Lib.hid (HT3.out.stepE S4 K4 e1 e2)
                  have HF4 := Lib.hid (K4.heap HF.out (fun hh => by rcases List.mem_cons.1 hh with e | e; omega; have := hwe _ e; omega))
                  have HY4 := Lib.hid (K4.heap HY.out (fun hh => by rcases List.mem_cons.1 hh with e | e; omega; have := hwe _ e; omega))
                  have HR4 := Lib.hid (HR3.out.keep K4 (fun hp x hx hh => by
                    have h2 : x < w0.heap.size ∨ x ∈ D ∨ x1.heap.size ≤ x := by
                      rcases HB1.out hp x hx with h3 | h3 | h3
                      · exact .inl (hpl h3.1 x h3.2)
                      · exact .inr (.inl h3)
                      · exact .inr (.inr h3)
                    rcases List.mem_cons.1 hh with e | e
                    · subst e
                      rcases h2 with h3 | h3 | h3
                      · omega
                      · exact (hwd _ h3).2.2.1 rfl
                      · omega
                    · have h4 := hwe x e
                      rcases h2 with h3 | h3 | h3
                      · omega
                      · exact (hwd _ h3).2.2.2 e
                      · omega))
                  have HEQ := Lib.hid (show fo.ty = fo2.ty ∧ fo.fl = fo2.fl ∧ fo.st = fo2.st from ⟨HE1.out.1.trans he2.1.symm, HE1.out.2.1.trans he2.2.1.symm, HE1.out.2.2.trans he2.2.2.symm⟩)
                  have HR2 := Lib.hid hr2
                  clear HF HY HR3 HT3 K4 S4 e1 e2 he2 hr2 hb2 HB1 HE1 he3 hT3
                  go_wp2
                  generalize hW : World.alloc _ _ = x5
                  have K5 : Kp [] x4 x5 := by rw [← hW]; (repeat (first | with_reducible exact Kp.refl _ _ | with_reducible assumption | with_reducible refine Kp.alloc ?_ _ | with_reducible refine Kp.drew ?_ | with_reducible refine Kp.drewN ?_ _ | (with_reducible refine Kp.setL ?_ ?_ _; focus (simp; done)) | (with_reducible refine Kp.setR ?_ ?_ _; focus (simp; done)) | (with_reducible refine Kp.setR ?_ ?_ _; focus (simp; omega))))
                  have HG := Lib.hid (show x5.heap[x4.heap.size]? = some (.cells #[.int .i64 fo2.ty, .int .i64 fo2.fl, .int .i64 fo2.st, .slice fo2.pA fo2.pn fo2.pc, .int .i64 fo2.pad, .int .u32 fo2.code, .int .i64 fo2.last, .int .i64 fo2.inc, .int .i64 fo2.dep, .bool fo2.only, .int .i64 fo2.wt, .slice fo2.sA fo2.sn fo2.sc] 34) by rw [← hW]; (repeat (first | with_reducible assumption | (with_reducible refine hp_new _ _ _ ?_; focus (simp; done)) | (with_reducible refine (hp_old _ _ _ ?_).trans ?_; focus (first | omega | (simp; done) | (simp; omega))) | (with_reducible refine (hp_far _ _ _ _ ?_).trans ?_; focus (first | (simp; done) | (simp; omega))) | (with_reducible refine (hp_drew _ _).trans ?_) | (with_reducible refine (hp_drewN _ _ _).trans ?_))))
                  have HZ := Lib.hid (show x5.heap[x4.heap.size + 1]? = some (.cells #[.bool r.bad, .int .i64 0, .int .i64 r.cd] 36) by rw [← hW]; (repeat (first | with_reducible assumption | (with_reducible refine hp_new _ _ _ ?_; focus (simp; done)) | (with_reducible refine (hp_old _ _ _ ?_).trans ?_; focus (first | omega | (simp; done) | (simp; omega))) | (with_reducible refine (hp_far _ _ _ _ ?_).trans ?_; focus (first | (simp; done) | (simp; omega))) | (with_reducible refine (hp_drew _ _).trans ?_) | (with_reducible refine (hp_drewN _ _ _).trans ?_))))
                  have HF := Lib.hid (K5.heap HF4.out (by simp))
                  have HY := Lib.hid (K5.heap HY4.out (by simp))
                  have HRA := Lib.hid (HR4.out.keep K5 (by simp))
                  have HRB := Lib.hid (HR2.out.keep K5 (by simp))
                  have HT5 := Lib.hid (HT4.out.keep K5)
                  have HID5 := Lib.hid (jstep_idle (most := M) (fl := f.fl) (lf := lf) HID.out HI.out)
                  rw [HR.out] at HID5
                  clear hW HT4 HF4 HY4 HR4 HR2 K5 HID HI HR HT hx1 hx2 hx3 hx4 hwr hwd hwe
                  generalize r.done = od_ at HF HY HG HZ HT5 HID5 ⊢
                  generalize r.bad = ob_ at HF HY HG HZ HT5 HID5 ⊢
                  generalize r.cd = oc_ at HF HY HG HZ HT5 HID5 ⊢
                  generalize r.nx st en l = nx at HT5 HID5
                  obtain ⟨st2, en2, l2⟩ := nx
                  dsimp only at HT5 HID5
                  obtain ⟨⟨rA, rn, rc, hr1, hr2, _, _⟩, _⟩ := HT5.out.rd
                  obtain ⟨⟨qA, qn, qc, hq1, hq2, _, _⟩, _⟩ := HT5.out.rq
                  have hqr : qn = rn := by have h1 := hr2.len; have h2 := hq2.len; simp at h1 h2; omega
                  subst hqr
                  have HRD := Lib.hid hr1
                  have HRQ := Lib.hid hq1
                  clear hr1 hr2 hq1 hq2
                  generalize x2.heap.size = f11 at HF HY ⊢
                  generalize x4.heap.size = f14 at HG HZ ⊢
                  refine wp_region_st3 (by kernel_rfl) [fun _ v _ => v = (.agg #[.int .i64 fo.ty, .int .i64 fo.fl, .int .i64 fo.st, .slice fo.pA fo.pn fo.pc, .int .i64 fo.pad, .int .u32 fo.code, .int .i64 fo.last, .int .i64 fo.inc, .int .i64 fo.dep, .bool fo.only, .int .i64 fo.wt, .slice fo.sA fo.sn fo.sc]),
                      fun _ v _ => v = (.agg #[.int .i64 fo2.ty, .int .i64 fo2.fl, .int .i64 fo2.st, .slice fo2.pA fo2.pn fo2.pc, .int .i64 fo2.pad, .int .u32 fo2.code, .int .i64 fo2.last, .int .i64 fo2.inc, .int .i64 fo2.dep, .bool fo2.only, .int .i64 fo2.wt, .slice fo2.sA fo2.sn fo2.sc]),
                      fun _ v _ => v = .bool true,
                      fun _ v _ => v = (.bool false),
                      fun _ v _ => v = (.bool false),
                      fun _ v _ => v = (.bool od_),
                      fun _ v _ => v = (.bool od_),
                      fun _ v _ => v = (.bool false),
                      fun _ v _ => v = (.bool false),
                      fun _ v _ => v = (.bool false),
                      fun _ v _ => v = (.agg #[.bool ob_, .int .i64 0, .int .i64 oc_]),
                      fun _ v _ => v = (.agg #[.bool ob_, .int .i64 0, .int .i64 oc_]),
                      fun _ v _ => v = (.bool false),
                      fun _ v _ => v = (.bool false),
                      fun _ v _ => v = (.bool false),
                      fun _ v _ => v = (.pointer (some ⟨g, 0, none⟩)),
                      fun _ v _ => v = .int .i64 st2,
                      fun _ v _ => v = (.pointer (some ⟨h, 0, none⟩)),
                      fun _ v _ => v = (.pointer (some ⟨h, 0, none⟩)),
                      fun _ v _ => v = (.pointer (some ⟨h, 1, none⟩)),
                      fun _ v _ => v = (.int .i64 st2),
                      fun _ v _ => v = (.bool false),
                      fun _ v _ => v = (.bool false),
                      fun _ v _ => v = (.bool false),
                      fun _ v _ => v = (.pointer (some ⟨g, 0, none⟩)),
                      fun _ v _ => v = .int .i64 (qn : Int),
                      fun _ v _ => v = (.pointer (some ⟨h, 0, none⟩)),
                      fun _ v _ => v = (.pointer (some ⟨h, 0, none⟩)),
                      fun _ v _ => v = (.pointer (some ⟨h, 3, none⟩)),
                      fun _ v _ => v = (.slice qA qn qc),
                      fun _ v _ => v = (.int .i64 (qn : Int)),
                      fun _ v _ => v = (.bool false),
                      fun _ v _ => v = (.bool false)] (fun _ w => Kp [] x5 w) (fun _ w w' => Kp [] w w') (fun w w' => Kp [] w w') [2, 16, 25] [] (by kernel_rfl) (by kernel_rfl) (by kernel_rfl) (by decide) (by kernel_rfl) ⟨StabAt2.const _, StabAt2.const _, StabAt2.const _, StabAt2.const _, StabAt2.const _, StabAt2.const _, StabAt2.const _, StabAt2.const _, StabAt2.const _, StabAt2.const _, StabAt2.const _, StabAt2.const _, StabAt2.const _, StabAt2.const _, StabAt2.const _, StabAt2.const _, StabAt2.const _, StabAt2.const _, StabAt2.const _, StabAt2.const _, StabAt2.const _, StabAt2.const _, StabAt2.const _, StabAt2.const _, StabAt2.const _, StabAt2.const _, StabAt2.const _, StabAt2.const _, StabAt2.const _, StabAt2.const _, StabAt2.const _, StabAt2.const _, StabAt2.const _, trivial⟩ ((Kp.refl _ _).drew) ⟨?_, ?_, ?_, ?_, ?_, ?_, ?_, ?_, ?_, ?_, ?_, ?_, ?_, ?_, ?_, ?_, ?_, ?_, ?_, ?_, ?_, ?_, ?_, ?_, ?_, ?_, ?_, ?_, ?_, ?_, ?_, ?_, ?_, trivial⟩ (by kernel_rfl) ?_
                  · intro q9 a w E hC K hK
                    have h11 : a.tmps[11]? = some (.pointer (some ⟨f11, 0, none⟩)) := (E.out 11 (by kernel_rfl)).trans rfl
                    refine want_none rfl ?_
                    have hf := hC.heap HF.out (by simp)
                    have q0 := cell_of hf 0
                    have q1 := cell_of hf 1
                    have q2 := cell_of hf 2
                    have q3 := cell_of hf 3
                    have q4 := cell_of hf 4
                    have q5 := cell_of hf 5
                    have q6 := cell_of hf 6
                    have q7 := cell_of hf 7
                    have q8 := cell_of hf 8
                    have q9 := cell_of hf 9
                    have q10 := cell_of hf 10
                    have q11 := cell_of hf 11
                    have ql := lt_of_heap hf
                    clear hf
                    go_simp
                    exact hK _ rfl
                  · intro q9 a w E hC K hK
                    have h14 : a.tmps[14]? = some (.pointer (some ⟨f14, 0, none⟩)) := (E.out 14 (by kernel_rfl)).trans rfl
                    refine want_none rfl ?_
                    have hf := hC.heap HG.out (by simp)
                    have q0 := cell_of hf 0
                    have q1 := cell_of hf 1
                    have q2 := cell_of hf 2
                    have q3 := cell_of hf 3
                    have q4 := cell_of hf 4
                    have q5 := cell_of hf 5
                    have q6 := cell_of hf 6
                    have q7 := cell_of hf 7
                    have q8 := cell_of hf 8
                    have q9 := cell_of hf 9
                    have q10 := cell_of hf 10
                    have q11 := cell_of hf 11
                    have ql := lt_of_heap hf
                    clear hf
                    go_simp
                    exact hK _ rfl
                  · intro a w E hC K hK
                    obtain ⟨_, h88, rfl⟩ := E.pred 0 _ 88 rfl rfl (by kernel_rfl)
                    obtain ⟨_, h89, rfl⟩ := E.pred 1 _ 89 rfl rfl (by kernel_rfl)
                    refine want_none rfl ?_
                    have hh := Lib.hid hC
                    clear hC
                    go_simp
                    refine (SameT fo fo2 _ w HEQ.out.1 HEQ.out.2.1 HEQ.out.2.2 (HRA.out.keep hh.out (by simp)) (HRB.out.keep hh.out (by simp))).mono ?_
                    rintro e w2 ⟨rfl, K2⟩
                    go_simp
                    exact hK _ _ rfl (hh.out.trans K2) K2
                  · intro q9 a w E hC K hK
                    obtain ⟨v2, h90, V2⟩ := E.pred 2 _ 90 rfl rfl (by kernel_rfl)
                    replace V2 : (fun _ v _ => v = .bool true) q9 v2 w := V2
                    obtain rfl := V2
                    refine want_none rfl ?_
                    go_simp
                    exact hK _ rfl
                  · intro q9 a w E hC K hK
                    obtain ⟨_, h91, rfl⟩ := E.pred 3 _ 91 rfl rfl (by kernel_rfl)
                    refine want_none rfl ?_
                    go_simp
                    exact hK _ rfl
                  · intro q9 a w E hC K hK
                    have h12 : a.tmps[12]? = some (.bool od_) := (E.out 12 (by kernel_rfl)).trans rfl
                    obtain ⟨_, h92, rfl⟩ := E.pred 4 _ 92 rfl rfl (by kernel_rfl)
                    refine want_yes rfl rfl rfl h92 ?_
                    go_simp
                    exact hK _ rfl
                  · intro q9 a w E hC K hK
                    have h15 : a.tmps[15]? = some (.bool od_) := (E.out 15 (by kernel_rfl)).trans rfl
                    obtain ⟨_, h92, rfl⟩ := E.pred 4 _ 92 rfl rfl (by kernel_rfl)
                    refine want_yes rfl rfl rfl h92 ?_
                    go_simp
                    exact hK _ rfl
                  · intro q9 a w E hC K hK
                    obtain ⟨_, h93, rfl⟩ := E.pred 5 _ 93 rfl rfl (by kernel_rfl)
                    obtain ⟨_, h94, rfl⟩ := E.pred 6 _ 94 rfl rfl (by kernel_rfl)
                    obtain ⟨_, h92, rfl⟩ := E.pred 4 _ 92 rfl rfl (by kernel_rfl)
                    refine want_yes rfl rfl rfl h92 ?_
                    go_simp
                    exact hK _ rfl
                  · intro q9 a w E hC K hK
                    obtain ⟨_, h92, rfl⟩ := E.pred 4 _ 92 rfl rfl (by kernel_rfl)
                    obtain ⟨_, h95, rfl⟩ := E.pred 7 _ 95 rfl rfl (by kernel_rfl)
                    refine want_none rfl ?_
                    go_simp
                    exact hK _ rfl
                  · intro q9 a w E hC K hK
                    obtain ⟨_, h96, rfl⟩ := E.pred 8 _ 96 rfl rfl (by kernel_rfl)
                    refine want_none rfl ?_
                    go_simp
                    exact hK _ rfl
                  · intro q9 a w E hC K hK
                    have h13 : a.tmps[13]? = some (.pointer (some ⟨f11 + 1, 0, none⟩)) := (E.out 13 (by kernel_rfl)).trans rfl
                    obtain ⟨_, h97, rfl⟩ := E.pred 9 _ 97 rfl rfl (by kernel_rfl)
                    refine want_yes rfl rfl rfl h97 ?_
                    have hx := hC.heap HY.out (by simp)
                    have x0 := cell_of hx 0
                    have x1 := cell_of hx 1
                    have x2 := cell_of hx 2
                    have xl := lt_of_heap hx
                    clear hx
                    go_simp
                    exact hK _ rfl
                  · intro q9 a w E hC K hK
                    have h16 : a.tmps[16]? = some (.pointer (some ⟨f14 + 1, 0, none⟩)) := (E.out 16 (by kernel_rfl)).trans rfl
                    obtain ⟨_, h97, rfl⟩ := E.pred 9 _ 97 rfl rfl (by kernel_rfl)
                    refine want_yes rfl rfl rfl h97 ?_
                    have hx := hC.heap HZ.out (by simp)
                    have x0 := cell_of hx 0
                    have x1 := cell_of hx 1
                    have x2 := cell_of hx 2
                    have xl := lt_of_heap hx
                    clear hx
                    go_simp
                    exact hK _ rfl
                  · intro q9 a w E hC K hK
                    obtain ⟨_, h98, rfl⟩ := E.pred 10 _ 98 rfl rfl (by kernel_rfl)
                    obtain ⟨_, h99, rfl⟩ := E.pred 11 _ 99 rfl rfl (by kernel_rfl)
                    obtain ⟨_, h97, rfl⟩ := E.pred 9 _ 97 rfl rfl (by kernel_rfl)
                    refine want_yes rfl rfl rfl h97 ?_
                    go_simp
                    exact hK _ rfl
                  · intro q9 a w E hC K hK
                    obtain ⟨_, h97, rfl⟩ := E.pred 9 _ 97 rfl rfl (by kernel_rfl)
                    obtain ⟨_, h100, rfl⟩ := E.pred 12 _ 100 rfl rfl (by kernel_rfl)
                    refine want_none rfl ?_
                    go_simp
                    exact hK _ rfl
                  · intro q9 a w E hC K hK
                    obtain ⟨_, h101, rfl⟩ := E.pred 13 _ 101 rfl rfl (by kernel_rfl)
                    refine want_none rfl ?_
                    go_simp
                    exact hK _ rfl
                  · intro q9 a w E hC K hK
                    have h5 : a.tmps[5]? = some (.pointer (some ⟨g, 0, none⟩)) := (E.out 5 (by kernel_rfl)).trans rfl
                    obtain ⟨_, h102, rfl⟩ := E.pred 14 _ 102 rfl rfl (by kernel_rfl)
                    refine want_yes rfl rfl rfl h102 ?_
                    go_simp
                    exact hK _ rfl
                  · intro a w E hC K hK
                    obtain ⟨_, h103, rfl⟩ := E.pred 15 _ 103 rfl rfl (by kernel_rfl)
                    obtain ⟨_, h102, rfl⟩ := E.pred 14 _ 102 rfl rfl (by kernel_rfl)
                    refine want_yes rfl rfl rfl h102 ?_
                    have hr := HRD.out.keep hC (by simp)
                    have hh := Lib.hid hC
                    clear hC
                    go_simp
                    refine (JStream hr).mono ?_
                    rintro e w2 ⟨rfl, rfl⟩
                    go_simp
                    exact hK _ _ rfl hh.out (Kp.refl _ _)
                  · intro q9 a w E hC K hK
                    have h7 : a.tmps[7]? = some (.pointer (some ⟨h, 0, none⟩)) := (E.out 7 (by kernel_rfl)).trans rfl
                    obtain ⟨_, h102, rfl⟩ := E.pred 14 _ 102 rfl rfl (by kernel_rfl)
                    refine want_yes rfl rfl rfl h102 ?_
                    go_simp
                    exact hK _ rfl
                  · intro q9 a w E hC K hK
                    obtain ⟨_, h105, rfl⟩ := E.pred 17 _ 105 rfl rfl (by kernel_rfl)
                    obtain ⟨_, h102, rfl⟩ := E.pred 14 _ 102 rfl rfl (by kernel_rfl)
                    refine want_yes rfl rfl rfl h102 ?_
                    have hr := hC.heap HRQ.out (by simp)
                    have hl2 := lt_of_heap hr
                    clear hr
                    go_simp
                    exact hK _ rfl
                  · intro q9 a w E hC K hK
                    obtain ⟨_, h106, rfl⟩ := E.pred 18 _ 106 rfl rfl (by kernel_rfl)
                    obtain ⟨_, h102, rfl⟩ := E.pred 14 _ 102 rfl rfl (by kernel_rfl)
                    refine want_yes rfl rfl rfl h102 ?_
                    go_simp
                    exact hK _ rfl
                  · intro q9 a w E hC K hK
                    obtain ⟨_, h107, rfl⟩ := E.pred 19 _ 107 rfl rfl (by kernel_rfl)
                    obtain ⟨_, h102, rfl⟩ := E.pred 14 _ 102 rfl rfl (by kernel_rfl)
                    refine want_yes rfl rfl rfl h102 ?_
                    have hr := hC.heap HRQ.out (by simp)
                    have c1 := cell_of hr 1
                    have hl2 := lt_of_heap hr
                    clear hr
                    go_simp
                    exact hK _ rfl
                  · intro q9 a w E hC K hK
                    obtain ⟨v16, h104, V16⟩ := E.pred 16 _ 104 rfl rfl (by kernel_rfl)
                    replace V16 : (fun _ v _ => v = .int .i64 st2) q9 v16 w := V16
                    obtain rfl := V16
                    obtain ⟨_, h108, rfl⟩ := E.pred 20 _ 108 rfl rfl (by kernel_rfl)
                    obtain ⟨_, h102, rfl⟩ := E.pred 14 _ 102 rfl rfl (by kernel_rfl)
                    refine want_yes rfl rfl rfl h102 ?_
                    go_simp
                    exact hK _ rfl
                  · intro q9 a w E hC K hK
                    obtain ⟨_, h102, rfl⟩ := E.pred 14 _ 102 rfl rfl (by kernel_rfl)
                    obtain ⟨_, h109, rfl⟩ := E.pred 21 _ 109 rfl rfl (by kernel_rfl)
                    refine want_none rfl ?_
                    go_simp
                    exact hK _ rfl
                  · intro q9 a w E hC K hK
                    obtain ⟨_, h110, rfl⟩ := E.pred 22 _ 110 rfl rfl (by kernel_rfl)
                    refine want_none rfl ?_
                    go_simp
                    exact hK _ rfl
                  · intro q9 a w E hC K hK
                    have h5 : a.tmps[5]? = some (.pointer (some ⟨g, 0, none⟩)) := (E.out 5 (by kernel_rfl)).trans rfl
                    obtain ⟨_, h111, rfl⟩ := E.pred 23 _ 111 rfl rfl (by kernel_rfl)
                    refine want_yes rfl rfl rfl h111 ?_
                    go_simp
                    exact hK _ rfl
                  · intro a w E hC K hK
                    obtain ⟨_, h112, rfl⟩ := E.pred 24 _ 112 rfl rfl (by kernel_rfl)
                    obtain ⟨_, h111, rfl⟩ := E.pred 23 _ 111 rfl rfl (by kernel_rfl)
                    refine want_yes rfl rfl rfl h111 ?_
                    have hr := HRD.out.keep hC (by simp)
                    have hh := Lib.hid hC
                    clear hC
                    go_simp
                    refine (JHeld hr).mono ?_
                    rintro e w2 ⟨rfl, rfl⟩
                    go_simp
                    exact hK _ _ rfl hh.out (Kp.refl _ _)
                  · intro q9 a w E hC K hK
                    have h7 : a.tmps[7]? = some (.pointer (some ⟨h, 0, none⟩)) := (E.out 7 (by kernel_rfl)).trans rfl
                    obtain ⟨_, h111, rfl⟩ := E.pred 23 _ 111 rfl rfl (by kernel_rfl)
                    refine want_yes rfl rfl rfl h111 ?_
                    go_simp
                    exact hK _ rfl
                  · intro q9 a w E hC K hK
                    obtain ⟨_, h114, rfl⟩ := E.pred 26 _ 114 rfl rfl (by kernel_rfl)
                    obtain ⟨_, h111, rfl⟩ := E.pred 23 _ 111 rfl rfl (by kernel_rfl)
                    refine want_yes rfl rfl rfl h111 ?_
                    have hr := hC.heap HRQ.out (by simp)
                    have hl2 := lt_of_heap hr
                    clear hr
                    go_simp
                    exact hK _ rfl
                  · intro q9 a w E hC K hK
                    obtain ⟨_, h115, rfl⟩ := E.pred 27 _ 115 rfl rfl (by kernel_rfl)
                    obtain ⟨_, h111, rfl⟩ := E.pred 23 _ 111 rfl rfl (by kernel_rfl)
                    refine want_yes rfl rfl rfl h111 ?_
                    go_simp
                    exact hK _ rfl
                  · intro q9 a w E hC K hK
                    obtain ⟨_, h116, rfl⟩ := E.pred 28 _ 116 rfl rfl (by kernel_rfl)
                    obtain ⟨_, h111, rfl⟩ := E.pred 23 _ 111 rfl rfl (by kernel_rfl)
                    refine want_yes rfl rfl rfl h111 ?_
                    have hr := hC.heap HRQ.out (by simp)
                    have c3 := cell_of hr 3
                    have hl2 := lt_of_heap hr
                    clear hr
                    go_simp
                    exact hK _ rfl
                  · intro q9 a w E hC K hK
                    obtain ⟨_, h117, rfl⟩ := E.pred 29 _ 117 rfl rfl (by kernel_rfl)
                    obtain ⟨_, h111, rfl⟩ := E.pred 23 _ 111 rfl rfl (by kernel_rfl)
                    refine want_yes rfl rfl rfl h111 ?_
                    go_simp
                    exact hK _ rfl
                  · intro q9 a w E hC K hK
                    obtain ⟨v25, h113, V25⟩ := E.pred 25 _ 113 rfl rfl (by kernel_rfl)
                    replace V25 : (fun _ v _ => v = .int .i64 (qn : Int)) q9 v25 w := V25
                    obtain rfl := V25
                    obtain ⟨_, h118, rfl⟩ := E.pred 30 _ 118 rfl rfl (by kernel_rfl)
                    obtain ⟨_, h111, rfl⟩ := E.pred 23 _ 111 rfl rfl (by kernel_rfl)
                    refine want_yes rfl rfl rfl h111 ?_
                    go_simp
                    exact hK _ rfl
                  · intro q9 a w E hC K hK
                    obtain ⟨_, h111, rfl⟩ := E.pred 23 _ 111 rfl rfl (by kernel_rfl)
                    obtain ⟨_, h119, rfl⟩ := E.pred 31 _ 119 rfl rfl (by kernel_rfl)
                    refine want_none rfl ?_
                    go_simp
                    exact hK _ rfl
                  intro vs x8 hC hV
                  have e32 : vs 32 = .bool false := hV 32 _ rfl (by simp)
                  have HT8 := Lib.hid (HT5.out.keep hC)
                  clear hV hC HT5 HF HY HG HZ HRA HRB HRD HRQ
                  simp only [putAll, Act.put, List.setIfInBounds_toArray]
                  dsimp only [List.set]
                  rw [e32]
                  go_wp2
                  go_roundw
                  case rel => exact ⟨k + 1, D2, E4, st2, en2, l2, by omega, by go_num, HT8.out, HID5.out⟩
                  case measure => simp [intOf]; omega
      · have hki : ¬ (k : Int) < (n : Int) := by omega
        have K2 := Lib.hid HT.out.kp
        clear HT
        go_wp2_with fail
        refine (Awake _).mono ?_
        rintro e w6 ⟨rfl, K6⟩
        go_wp2
        go_ret
        exact ⟨rfl, K2.out.trans K6⟩
  · go_enter Try.func3, Try.ntmps3
    go_wp2_with fail
    refine (JNew_no most (by omega) _).mono ?_
    rintro e w1 ⟨rfl, K1⟩
    go_wp2_with fail
    refine (RJNew_no most (by omega) _).mono ?_
    rintro e w2 ⟨rfl, K2⟩
    have K3 := Lib.hid (K1.trans K2)
    clear K1 K2
    go_wp2
    go_loopw [9] (fun i wr => i = .int .i64 0 ∧ Kp [] w0 wr) (fun _ _ => 0)
    case atStart => exact ⟨rfl, K3.out⟩
    case round =>
      obtain ⟨rfl, k5⟩ := hrel
      go_wp2_with fail
      refine (Awake _).mono ?_
      rintro e w6 ⟨rfl, k6⟩
      go_wp2
      go_ret
      exact ⟨rfl, k5.trans k6⟩
end Go.Proofs.Ytibeaombhjdakaa
