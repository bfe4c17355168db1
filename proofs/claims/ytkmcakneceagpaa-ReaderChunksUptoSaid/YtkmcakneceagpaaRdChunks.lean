/- 'ReaderChunks', walked. -/
import Derived.Test.YtkmcakneceagpaaGRdCut
set_option linter.unusedSimpArgs false
set_option linter.unusedVariables false
namespace Go.Proofs.Ytkmcakneceagpaa
open Go.RowKit
section
variable {w0 w w' : World} {Al : Option Addr} {nl cl : Nat} {Ax : Option Addr} {nx cx : Nat} {fs : List (Fr × Fp)} {xs : List (Int × Int)} {M M' : List Nat}
theorem AllJ.cellF (h : AllJ w0 w Al nl cl Ax nx cx fs xs M) (i : Nat) (hi : i < fs.length) : ∃ g, Al = some ⟨g, 0, none⟩ ∧ g < w.heap.size ∧ ∀ j u, (Fr.cells fs[i].1)[j]? = some u → w.cell? ⟨g, i * 12 + j, none⟩ = some u := by
  have hl : (fsF fs).length = fs.length := by simp [fsF]
  obtain ⟨b, off, hA, hc⟩ := h.ol.at_ (by rw [cells_len]; omega)
  rcases h.ol.head with ⟨h0, _⟩ | ⟨g, hg, _, hlt⟩
  · rw [h0] at hA; cases hA
  · rw [hg] at hA
    cases hA
    refine ⟨b, hg, hlt, fun j u hu => ?_⟩
    have := hc _ _ (cells_at (fsF fs) i (fs[i].1, fs[i].2.pl) (by simp [fsF, List.getElem?_eq_getElem hi]) j u hu)
    rwa [Nat.zero_add] at this
theorem AllJ.cellX (h : AllJ w0 w Al nl cl Ax nx cx fs xs M) (i : Nat) (hi : i < xs.length) : ∃ g, Ax = some ⟨g, 0, none⟩ ∧ g < w.heap.size ∧ ∀ j u, (xcs xs[i])[j]? = some u → w.cell? ⟨g, i * 3 + j, none⟩ = some u := by
  obtain ⟨b, off, hA, hc⟩ := h.ox.at_ (by rw [xcs_len]; omega)
  rcases h.ox.head with ⟨h0, _⟩ | ⟨g, hg, _, hlt⟩
  · rw [h0] at hA; cases hA
  · rw [hg] at hA
    cases hA
    refine ⟨b, hg, hlt, fun j u hu => ?_⟩
    have := hc _ _ (xcs_at xs i xs[i] (List.getElem?_eq_getElem hi) j u hu)
    rwa [Nat.zero_add] at this
end
set_option maxHeartbeats 8000000 in
set_option maxRecDepth 100000 in
theorem ReaderChunks_walk (A : Option Addr) (n c : Nat) (l : List UInt8) (B : Option Addr) (m d : Nat) (lb : List UInt8) (C : Option Addr) (p q : Nat) (lc : List UInt8) (w0 : World) (hr : Rd w0 A n c l) (hb : Rd w0 B m d lb) (hm : m ≤ 1048576) (hc : Rd w0 C p q lc) (hp : p ≤ 1048576) :
    Calls Try.prog 31 #[.slice A n c, .slice B m d, .slice C p q] w0 (Yes w0) := by
  have HR := Lib.hid hr
  have HB := Lib.hid hb
  have HC := Lib.hid hc
  have hnl := hr.len
  clear hr hb hc
  by_cases hn : n ≤ 4000
  · have hni : (n : Int) ≤ 4000 := by omega
    have HL := Lib.hid (show l.length ≤ 4000 by omega)
    clear hnl
    go_enter Try.func31, Try.ntmps31
    go_wp2_with fail
    refine (Cut_any A n c l B m d lb w0 HR.out hn HB.out hm).mono ?_
    rintro e w1 ⟨A1, n1, c1, qs, rfl, O1, q1, b1, m1, K1⟩
    have HK1 := Lib.hid K1
    have HO1 := Lib.hid O1
    have HQ1 := Lib.hid q1
    have HB1 := Lib.hid b1
    clear K1 O1 q1 b1
    go_wp2_with fail
    refine (All_any A1 n1 c1 w0.heap.size qs l w1 HO1.out (fun p hp => (HQ1.out p hp).1.keep HK1.out (by simp)) HB1.out HL.out m1).mono ?_
    rintro e w2 ⟨Al, nl, cl, Ax, nx, cx, fs, xs, M, is, a, l2, rfl, J2, hnl, hnx, D2⟩
    have HJ2 := Lib.hid J2
    have HD2 := Lib.hid D2
    have HK2 := Lib.hid (HK1.out.trans J2.kp)
    clear J2 D2 HO1 HQ1 HB1 HK1
    go_wp2_with fail
    refine (Cut_any A n c l C p q lc w2 (HR.out.keep HK2.out (by simp)) hn (HC.out.keep HK2.out (by simp)) hp).mono ?_
    rintro e w3 ⟨A3, n3, c3, qt, rfl, O3, q3, b3, m3, K3⟩
    have HK3 := Lib.hid K3
    have HO3 := Lib.hid O3
    have HQ3 := Lib.hid q3
    have HB3 := Lib.hid b3
    clear K3 O3 q3 b3
    go_wp2_with fail
    refine (All_any A3 n3 c3 w2.heap.size qt l w3 HO3.out (fun p hp => (HQ3.out p hp).1.keep HK3.out (by simp)) HB3.out HL.out m3).mono ?_
    rintro e w4 ⟨Bl, ml, bl, Bx, mx, bx, gs, ys, N, is', a', l4, rfl, J4, hml, hmx, D4⟩
    have HJ4 := Lib.hid J4
    have HJ2' := Lib.hid (HJ2.out.keep (HK3.out.trans J4.kp))
    have HK4 := Lib.hid (HK2.out.trans (HK3.out.trans J4.kp))
    obtain ⟨e1, e2⟩ := HD2.out.det D4
    subst e2
    have hgf : gs.length = fs.length := by have := congrArg List.length e1; simpa [fsP] using this.symm
    have h1 := HJ2.out.lenL
    have h2 := J4.lenL
    have h3 := HJ2.out.lenX
    have h4 := J4.lenX
    obtain rfl : ml = nl := by omega
    obtain rfl : mx = nx := by omega
    have HFL := Lib.hid h1
    have HGL := Lib.hid h2
    have HXL := Lib.hid h3
    have HEE := Lib.hid e1
    clear J4 D4 HJ2 HK2 HK3 HO3 HQ3 HB3 HD2 h1 h2 h3 h4 hgf e1 m1 m3
    go_wp2
    go_loopw [13] (fun i wr => ∃ k : Nat, k ≤ ml ∧ i = .int .i64 k ∧ Kp [] w4 wr) (fun i _ => ml - (intOf i).toNat)
    case atStart => exact ⟨0, Nat.zero_le _, rfl, Kp.refl _ _⟩
    case round =>
      obtain ⟨k, hk, rfl, hkp⟩ := hrel
      have HKP := Lib.hid hkp
      clear hkp
      by_cases hkl : k < ml
      · have hki : (k : Int) < (ml : Int) := by omega
        have hkf : k < fs.length := by rw [HFL.out]; exact hkl
        have hkg : k < gs.length := by rw [HGL.out]; exact hkl
        obtain ⟨ga, rfl, hga, hca⟩ := (HJ2'.out.keep HKP.out).cellF k hkf
        obtain ⟨gb, rfl, hgb, hcb⟩ := (HJ4.out.keep HKP.out).cellF k hkg
        obtain ⟨oa1, oa2, _⟩ := (HJ2'.out.keep HKP.out).ok _ (List.getElem_mem hkf)
        obtain ⟨ob1, ob2, _⟩ := (HJ4.out.keep HKP.out).ok _ (List.getElem_mem hkg)
        have hpe : fs[k].2 = gs[k].2 := by
          have e := HEE.out
          have e3 : (fsP fs)[k]? = (fsP gs)[k]? := by rw [e]
          simpa [fsP, List.getElem?_eq_getElem hkf, List.getElem?_eq_getElem hkg] using e3
        have HCA := Lib.hid hca
        have HCB := Lib.hid hcb
        have HWA := Lib.hid oa1
        have HWB := Lib.hid ob1
        have HWE := Lib.hid (show Go.Proofs.Ytkmcakneceagpaa.wr (fs[k].1.p fs[k].2.pl fs[k].2.ss) = Go.Proofs.Ytkmcakneceagpaa.wr (gs[k].1.p gs[k].2.pl gs[k].2.ss) by rw [oa2, ob2, hpe])
        have HTY := Lib.hid (show fs[k].1.ty = gs[k].1.ty by have x1 := congrArg Fp.ty oa2; have x2 := congrArg Fp.ty ob2; have x3 := congrArg Fp.ty hpe; exact x1.trans (x3.trans x2.symm))
        clear hca hcb oa1 oa2 ob1 ob2 hpe
        generalize fs[k].1 = f1 at HCA HWA HWE HTY
        generalize gs[k].1 = f2 at HCB HWB HWE HTY
        go_wp2
        refine wp_region_st3 (by kernel_rfl) [fun _ v _ => v = (.slice (some ⟨ga, 0, none⟩) ml cl),
            fun _ v _ => v = (.int .i64 (k : Int)),
            fun _ v _ => v = (.pointer (some ⟨ga, k * 12, none⟩)),
            fun _ v _ => v = (.agg #[.int .i64 f1.ty, .int .i64 f1.fl, .int .i64 f1.st, .slice f1.pA f1.pn f1.pc, .int .i64 f1.pad, .int .u32 f1.code, .int .i64 f1.last, .int .i64 f1.inc, .int .i64 f1.dep, .bool f1.only, .int .i64 f1.wt, .slice f1.sA f1.sn f1.sc]),
            fun _ v _ => v = (.slice (some ⟨gb, 0, none⟩) ml bl),
            fun _ v _ => v = (.int .i64 (k : Int)),
            fun _ v _ => v = (.pointer (some ⟨gb, k * 12, none⟩)),
            fun _ v _ => v = (.agg #[.int .i64 f2.ty, .int .i64 f2.fl, .int .i64 f2.st, .slice f2.pA f2.pn f2.pc, .int .i64 f2.pad, .int .u32 f2.code, .int .i64 f2.last, .int .i64 f2.inc, .int .i64 f2.dep, .bool f2.only, .int .i64 f2.wt, .slice f2.sA f2.sn f2.sc]),
            fun _ v _ => v = .bool true,
            fun _ v _ => v = (.bool false)] (fun _ w => Kp [] wr w) (fun _ w w' => Kp [] w w') (fun w w' => Kp [] w w') [8] [] (by kernel_rfl) (by kernel_rfl) (by kernel_rfl) (by decide) (by kernel_rfl) ⟨StabAt2.const _, StabAt2.const _, StabAt2.const _, StabAt2.const _, StabAt2.const _, StabAt2.const _, StabAt2.const _, StabAt2.const _, StabAt2.const _, StabAt2.const _, trivial⟩ ((Kp.refl _ _).drew) ⟨?_, ?_, ?_, ?_, ?_, ?_, ?_, ?_, ?_, ?_, trivial⟩ (by kernel_rfl) ?_
        · intro q9 a w E hC K hK
          have h7 : a.tmps[7]? = some (.slice (some ⟨ga, 0, none⟩) ml cl) := (E.out 7 (by kernel_rfl)).trans rfl
          refine want_none rfl ?_
          go_simp
          exact hK _ rfl
        · intro q9 a w E hC K hK
          have h13 : a.tmps[13]? = some (.int .i64 (k : Int)) := (E.out 13 (by kernel_rfl)).trans rfl
          refine want_none rfl ?_
          go_simp
          exact hK _ rfl
        · intro q9 a w E hC K hK
          obtain ⟨_, h61, rfl⟩ := E.pred 0 _ 61 rfl rfl (by kernel_rfl)
          obtain ⟨_, h62, rfl⟩ := E.pred 1 _ 62 rfl rfl (by kernel_rfl)
          refine want_none rfl ?_
          go_simp
          first | exact hK _ rfl | exact hK _ (by simp)
        · intro q9 a w E hC K hK
          obtain ⟨_, h63, rfl⟩ := E.pred 2 _ 63 rfl rfl (by kernel_rfl)
          refine want_none rfl ?_
          have c0 := hC.cell (HCA.out 0 _ rfl) (by simp)
          have c1 := hC.cell (HCA.out 1 _ rfl) (by simp)
          have c2 := hC.cell (HCA.out 2 _ rfl) (by simp)
          have c3 := hC.cell (HCA.out 3 _ rfl) (by simp)
          have c4 := hC.cell (HCA.out 4 _ rfl) (by simp)
          have c5 := hC.cell (HCA.out 5 _ rfl) (by simp)
          have c6 := hC.cell (HCA.out 6 _ rfl) (by simp)
          have c7 := hC.cell (HCA.out 7 _ rfl) (by simp)
          have c8 := hC.cell (HCA.out 8 _ rfl) (by simp)
          have c9 := hC.cell (HCA.out 9 _ rfl) (by simp)
          have c10 := hC.cell (HCA.out 10 _ rfl) (by simp)
          have c11 := hC.cell (HCA.out 11 _ rfl) (by simp)
          rw [Nat.add_zero] at c0
          go_simp
          exact hK _ rfl
        · intro q9 a w E hC K hK
          have h10 : a.tmps[10]? = some (.slice (some ⟨gb, 0, none⟩) ml bl) := (E.out 10 (by kernel_rfl)).trans rfl
          refine want_none rfl ?_
          go_simp
          exact hK _ rfl
        · intro q9 a w E hC K hK
          have h13 : a.tmps[13]? = some (.int .i64 (k : Int)) := (E.out 13 (by kernel_rfl)).trans rfl
          refine want_none rfl ?_
          go_simp
          exact hK _ rfl
        · intro q9 a w E hC K hK
          obtain ⟨_, h65, rfl⟩ := E.pred 4 _ 65 rfl rfl (by kernel_rfl)
          obtain ⟨_, h66, rfl⟩ := E.pred 5 _ 66 rfl rfl (by kernel_rfl)
          refine want_none rfl ?_
          go_simp
          first | exact hK _ rfl | exact hK _ (by simp)
        · intro q9 a w E hC K hK
          obtain ⟨_, h67, rfl⟩ := E.pred 6 _ 67 rfl rfl (by kernel_rfl)
          refine want_none rfl ?_
          have c0 := hC.cell (HCB.out 0 _ rfl) (by simp)
          have c1 := hC.cell (HCB.out 1 _ rfl) (by simp)
          have c2 := hC.cell (HCB.out 2 _ rfl) (by simp)
          have c3 := hC.cell (HCB.out 3 _ rfl) (by simp)
          have c4 := hC.cell (HCB.out 4 _ rfl) (by simp)
          have c5 := hC.cell (HCB.out 5 _ rfl) (by simp)
          have c6 := hC.cell (HCB.out 6 _ rfl) (by simp)
          have c7 := hC.cell (HCB.out 7 _ rfl) (by simp)
          have c8 := hC.cell (HCB.out 8 _ rfl) (by simp)
          have c9 := hC.cell (HCB.out 9 _ rfl) (by simp)
          have c10 := hC.cell (HCB.out 10 _ rfl) (by simp)
          have c11 := hC.cell (HCB.out 11 _ rfl) (by simp)
          rw [Nat.add_zero] at c0
          go_simp
          exact hK _ rfl
        · intro a w E hC K hK
          obtain ⟨_, h64, rfl⟩ := E.pred 3 _ 64 rfl rfl (by kernel_rfl)
          obtain ⟨_, h68, rfl⟩ := E.pred 7 _ 68 rfl rfl (by kernel_rfl)
          refine want_none rfl ?_
          have hh := Lib.hid hC
          clear hC
          go_simp
          refine (same08w f1 f2 _ _ _ _ w (HWA.out.kp8 hh.out) (HWB.out.kp8 hh.out) HWE.out HTY.out).mono ?_
          rintro e w2 ⟨rfl, K2⟩
          go_simp
          exact hK _ _ rfl (hh.out.trans K2) K2
        · intro q9 a w E hC K hK
          obtain ⟨v8, h69, V8⟩ := E.pred 8 _ 69 rfl rfl (by kernel_rfl)
          replace V8 : (fun _ v _ => v = .bool true) q9 v8 w := V8
          obtain rfl := V8
          refine want_none rfl ?_
          go_simp
          exact hK _ rfl
        intro vs x8 hC hV
        have e9 : vs 9 = .bool false := hV 9 _ rfl (by simp)
        have HK8 := Lib.hid (HKP.out.trans hC)
        clear hV hC HCA HCB HWA HWB HWE HTY
        simp only [putAll, Act.put, List.setIfInBounds_toArray, Nat.zero_add, Nat.reduceAdd]
        dsimp only [List.set]
        rw [e9]
        go_wp2
        go_roundw
        case rel => exact ⟨k + 1, by omega, by go_num, HK8.out⟩
        case measure => simp [intOf]; omega
      · have hki : ¬ (k : Int) < (ml : Int) := by omega
        go_wp2
        go_loopw [14] (fun i wr => ∃ k : Nat, k ≤ mx ∧ i = .int .i64 k ∧ Kp [] w4 wr) (fun i _ => mx - (intOf i).toNat)
        case atStart => exact ⟨0, Nat.zero_le _, rfl, HKP.out⟩
        case round =>
          clear HKP
          obtain ⟨j, hj, rfl, hkp⟩ := hrel
          have HKP := Lib.hid hkp
          clear hkp
          by_cases hjl : j < mx
          · have hji : (j : Int) < (mx : Int) := by omega
            have hjx : j < xs.length := by rw [HXL.out]; exact hjl
            obtain ⟨ga, rfl, hga, hca⟩ := (HJ2'.out.keep HKP.out).cellX j hjx
            obtain ⟨gb, rfl, hgb, hcb⟩ := (HJ4.out.keep HKP.out).cellX j hjx
            have c0 := hca 0 _ rfl
            have c1 := hca 1 _ rfl
            have c2 := hca 2 _ rfl
            have d0 := hcb 0 _ rfl
            have d1 := hcb 1 _ rfl
            have d2 := hcb 2 _ rfl
            rw [Nat.add_zero] at c0 d0
            clear hca hcb
            go_wp2
            go_region
            go_wp2
            go_roundw
            case rel => exact ⟨j + 1, by omega, by go_num, HKP.out.drew⟩
            case measure => simp [intOf]; omega
          · have hji : ¬ (j : Int) < (mx : Int) := by omega
            go_wp2_with fail
            refine (awake08 _).mono ?_
            rintro e w6 ⟨rfl, k6⟩
            go_wp2
            go_ret
            exact ⟨rfl, (HK4.out.trans HKP.out).trans k6⟩
  · have hni : ¬ (n : Int) ≤ 4000 := by omega
    clear hnl
    go_enter Try.func31, Try.ntmps31
    go_wp2_with fail
    refine (awake08 _).mono ?_
    rintro e w6 ⟨rfl, k6⟩
    go_wp2
    go_ret
    exact ⟨rfl, k6⟩
end Go.Proofs.Ytkmcakneceagpaa
