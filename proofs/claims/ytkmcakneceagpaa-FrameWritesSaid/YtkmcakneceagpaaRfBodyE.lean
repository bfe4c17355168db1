/- The reference's body of layer 7, walked (settings). -/
import Derived.Test.YtkmcakneceagpaaRfBody
set_option linter.unusedVariables false
set_option linter.unusedSimpArgs false
set_option linter.unusedSimpArgs false
namespace Go.Proofs.Ytkmcakneceagpaa
open Go.RowKit
set_option maxHeartbeats 4000000 in
set_option maxRecDepth 100000 in
theorem rbody4 (f : Fr) (l : List UInt8) (ss : List (Int × Int)) (w0 : World) (ok : WrOk w0 f l ss) (hty : f.ty = 4) (hgd : goodW (f.p l ss) = true) :
    Calls Try.prog 149 #[.agg #[.int .i64 f.ty, .int .i64 f.fl, .int .i64 f.st, .slice f.pA f.pn f.pc, .int .i64 f.pad, .int .u32 f.code, .int .i64 f.last, .int .i64 f.inc, .int .i64 f.dep, .bool f.only, .int .i64 f.wt, .slice f.sA f.sn f.sc]] w0 (RdP (bodyW (f.p l ss)) w0) := by
  obtain ⟨hkn, ⟨hfl0, hfl1⟩, hst, hri, hmy, hpo, hpr⟩ := goodW_of hgd
  obtain ⟨hrd, hpn, hcode, hsd, hsn⟩ := ok
  obtain ⟨ty, fl, st, pA, pn, pc, pad, code, last, inc, dep, only, wt, sA, sn, sc⟩ := f
  dsimp only [Fr.p] at *
  subst hty
  have HRD := Lib.hid hrd
  have HSD := Lib.hid hsd
  clear hgd hkn hst hri hrd hsd
  have hlt0 : 0 < sn → ∀ bb, bb ∈ ob sA → bb < w0.heap.size := fun hp bb hb => by
    obtain ⟨b2, o2, rfl, h1, _⟩ := HSD.out.at_ hp
    simp [ob] at hb
    omega
  have HLT0 := Lib.hid hlt0
  clear hlt0
  have HSOK := Lib.hid (setsB_of (show setsB fl ss = true by simpa [mayK] using hmy))
  have HPRI := Lib.hid (show prioB 4 fl = false by simp [prioB])
  clear hmy hpo hpr
  have HBD := Lib.hid (show bodyW ((⟨4, fl, st, l, pad, code, last, inc, dep, only, wt, ss⟩ : Fp)) = (ss.flatMap setW) by
    simp [bodyW, Fr.p, padF, paddedB, prioB, putW])
  obtain ⟨BB, hBB⟩ : ∃ B, bodyW ((⟨4, fl, st, l, pad, code, last, inc, dep, only, wt, ss⟩ : Fp)) = B := ⟨_, rfl⟩
  rw [show bodyW _ = BB from hBB]
  rw [hBB] at HBD
  clear hBB
  go_enter Try.func149, Try.ntmps149
  go_wp2_with fail
  have K0 : Kp [] w0 (w0.alloc (.cells #[.int .i64 4, .int .i64 fl, .int .i64 st, .slice pA pn pc, .int .i64 pad, .int .u32 code, .int .i64 last, .int .i64 inc, .int .i64 dep, .bool only, .int .i64 wt, .slice sA sn sc] 49)) := (Kp.refl _ _).alloc _
  have HB := Lib.hid (hp_new w0 (.cells #[.int .i64 4, .int .i64 fl, .int .i64 st, .slice pA pn pc, .int .i64 pad, .int .u32 code, .int .i64 last, .int .i64 inc, .int .i64 dep, .bool only, .int .i64 wt, .slice sA sn sc] 49) _ rfl)
  have HK := Lib.hid K0
  generalize hW : w0.alloc (.cells #[.int .i64 4, .int .i64 fl, .int .i64 st, .slice pA pn pc, .int .i64 pad, .int .u32 code, .int .i64 last, .int .i64 inc, .int .i64 dep, .bool only, .int .i64 wt, .slice sA sn sc] 49) = w1 at *
  clear hW
  have hs1 := K0.size
  clear K0
  obtain ⟨bs, hbs⟩ : ∃ bs, w1.heap.size = bs := ⟨_, rfl⟩
  have hbsz : bs ≤ w1.heap.size := by omega
  have hBb : w0.heap.size < bs := by have := lt_of_heap HB.out; omega
  clear hbs
  obtain ⟨f_0, f_1, f_2, f_3, f_4, f_5, f_6, f_7, f_8, f_9, f_10, f_11, hltB, hltB1⟩ := cells12 HB.out
  refine (rpad4 _).mono ?_
  rintro e w1 ⟨rfl, rfl⟩
  go_wp2_with fail
  refine (rprio4 fl _ hfl0 hfl1).mono ?_
  rintro e w1 ⟨rfl, rfl⟩
  rw [HPRI.out]
  have hlen := HSD.out.len
  have hcap := HSD.out.cap
  have hsn' : sn ≤ 140737488351232 := by omega
  have HS1 := Lib.hid (HSD.out.keep HK.out (by simp))
  go_wp2
  go_loopw [3, 5] (fun v i wr => ∃ (k : Nat) (A : Option Addr) (c : Nat), k ≤ sn ∧ i = .int .i64 k ∧ v = .slice A (6 * k) c ∧ Ow wr bs 5 1 A (6 * k) c (((ss.take k).flatMap setW).map u8) ∧ Kp [] w0 wr ∧ bs ≤ wr.heap.size ∧ wr.heap[w0.heap.size]? = some (.cells #[.int .i64 4, .int .i64 fl, .int .i64 st, .slice pA pn pc, .int .i64 pad, .int .u32 code, .int .i64 last, .int .i64 inc, .int .i64 dep, .bool only, .int .i64 wt, .slice sA sn sc] 49)) (fun _ i _ => sn - (intOf i).toNat)
  case atStart => exact ⟨0, none, 0, Nat.zero_le _, rfl, rfl, Ow.nil _ _ _ _, HK.out, hbsz, HB.out⟩
  case round =>
    obtain ⟨k, A, c, hk, rfl, rfl, O, K, hbs2, hB⟩ := hrel
    clear HB HK HS1 hbsz f_0 f_1 f_2 f_3 f_4 f_5 f_6 f_7 f_8 f_9 f_10 f_11 hltB hltB1
    have HO := Lib.hid O
    have HK := Lib.hid K
    have HB := Lib.hid hB
    have hbsz := hbs2
    have hcO := O.cap
    clear O K hB hbs2
    by_cases hkl : k < sn
    · obtain ⟨bb, off, rfl, hlt, hc⟩ := (HSD.out.keep HK.out (by simp)).at_ (by omega)
      obtain ⟨c0, c1⟩ := hc k hkl
      have hk1 := HSOK.out k (by omega)
      have hk2 := HSD.out.val k
      have HTK := Lib.hid (show (ss.take (k + 1)).flatMap setW = (ss.take k).flatMap setW ++ setW (ss.getD k (0, 0)) by
        rw [List.take_succ_eq_append_getElem (by omega), List.flatMap_append, List.getD_eq_getElem?_getD, List.getElem?_eq_getElem (by omega)]
        simp)
      obtain ⟨⟨xi, yv⟩, hxy⟩ : ∃ s, ss.getD k (0, 0) = s := ⟨_, rfl⟩
      rw [hxy] at c0 c1 hk1 hk2
      have HXY := Lib.hid hxy
      dsimp only at c0 c1 hk2
      simp [setOk] at hk1
      obtain ⟨xi, rfl⟩ := Int.eq_ofNat_of_zero_le hk1.1
      obtain ⟨yv, rfl⟩ := Int.eq_ofNat_of_zero_le hk2.1
      have HX2 := Lib.hid (show xi < 65536 by omega)
      have HY2 := Lib.hid (show yv < 4294967296 by omega)
      have hki : (k : Int) < (sn : Int) := by omega
      have hobb : bb < w0.heap.size := HLT0.out (by omega) bb (by simp [ob])
      clear hxy hc hk1 hk2
      obtain ⟨f_0, f_1, f_2, f_3, f_4, f_5, f_6, f_7, f_8, f_9, f_10, f_11, hltB, hltB1⟩ := cells12 HB.out
      go_wp2_with fail
      refine (refPut16_any xi _ (by have := HX2.out; omega)).mono ?_
      rintro e w3 ⟨Ax, nx, cx, rfl, Ox, K3⟩
      rw [putR_yes (by have := HX2.out; omega)] at Ox ⊢
      dsimp only at Ox ⊢
      have hnx : nx = 2 := by have := Ox.len; simp [bytesOf_length] at this; omega
      subst hnx
      have HRX := Lib.hid Ox.rd
      clear Ox
      have c1' := K3.cell c1 (by simp)
      clear c0 c1
      have HO' := Lib.hid (HO.out.keep K3 (by simp))
      clear HO
      have HO := HO'
      clear HO'
      have hbsz' : bs ≤ _ := Nat.le_trans hbsz K3.size
      clear hbsz
      have hbsz := hbsz'
      clear hbsz'
      have HB' := Lib.hid (K3.heap HB.out (by simp))
      have HK' := Lib.hid (HK.out.trans K3)
      clear f_0 f_1 f_2 f_3 f_4 f_5 f_6 f_7 f_8 f_9 f_10 f_11 hltB hltB1 HB HK K3
      have HB := HB'
      have HK := HK'
      clear HB' HK'
      obtain ⟨f_0, f_1, f_2, f_3, f_4, f_5, f_6, f_7, f_8, f_9, f_10, f_11, hltB, hltB1⟩ := cells12 HB.out
      have hAb : bb ∉ ob A := fun hx => by have := (HO.out.base _ hx).1; omega
      go_wp2_with (with_reducible refine stopAt (o := ⟨some 68, _, _, _, _, _⟩) ?_)
      refine Stop.go (wp_appB rfl _ _ 22 5 rfl Try.underlying22 Try.info5 bs A (6 * k) c ((ss.take k).flatMap setW) rfl HO.out Ax 2 cx (bytesOf xi 2) rfl HRX.out (by omega) (by omega) ?_)
      intro A5 n5 c5 l5 w5 hn5 hl5 O5 K5 hA5
      clear hA5
      have c1'' := K5.cell c1' hAb
      clear c1' HRX
      have HB' := Lib.hid (K5.heap HB.out (by intro hx; have := (HO.out.base _ hx).1; omega))
      have HK' := Lib.hid (HK.out.then K5 (fun t ht => .inr (by have := (HO.out.base t ht).1; omega)))
      have hbsz' : bs ≤ _ := Nat.le_trans hbsz K5.size
      clear f_0 f_1 f_2 f_3 f_4 f_5 f_6 f_7 f_8 f_9 f_10 f_11 hltB hltB1 HB HK hbsz
      have HB := HB'
      have HK := HK'
      have hbsz := hbsz'
      clear HB' HK' hbsz'
      obtain ⟨f_0, f_1, f_2, f_3, f_4, f_5, f_6, f_7, f_8, f_9, f_10, f_11, hltB, hltB1⟩ := cells12 HB.out
      clear HO K5
      have hc5 := O5.cap.1
      have hN5a : n5 ≤ 6 * k + 2 := Nat.le_of_eq hn5.out
      have HN5 := Lib.hid hn5.out
      have HO := Lib.hid O5
      clear O5 hn5
      go_wp2_with fail
      refine (refPut32_any yv _ HY2.out).mono ?_
      rintro e w6 ⟨Ay, ny, cy, rfl, Oy, K6⟩
      have hny : ny = 4 := by have := Oy.len; simp [bytesOf_length] at this; omega
      subst hny
      have HRY := Lib.hid Oy.rd
      clear Oy
      have HO' := Lib.hid (HO.out.keep K6 (by simp))
      clear HO
      have HO := HO'
      clear HO'
      have hbsz' : bs ≤ _ := Nat.le_trans hbsz K6.size
      clear hbsz
      have hbsz := hbsz'
      clear hbsz'
      have HB' := Lib.hid (K6.heap HB.out (by simp))
      have HK' := Lib.hid (HK.out.trans K6)
      clear f_0 f_1 f_2 f_3 f_4 f_5 f_6 f_7 f_8 f_9 f_10 f_11 hltB hltB1 HB HK K6
      have HB := HB'
      have HK := HK'
      clear HB' HK'
      obtain ⟨f_0, f_1, f_2, f_3, f_4, f_5, f_6, f_7, f_8, f_9, f_10, f_11, hltB, hltB1⟩ := cells12 HB.out
      go_wp2_with (with_reducible refine stopAt (o := ⟨some 77, _, _, _, _, _⟩) ?_)
      refine Stop.go (wp_appB rfl _ _ 22 5 rfl Try.underlying22 Try.info5 bs A5 n5 c5 l5 rfl HO.out Ay 4 cy (bytesOf yv 4) rfl HRY.out (by omega) (by omega) ?_)
      intro A7 n7 c7 l7 w7 hn7 hl7 O7 K7 hA7
      clear hA7 HRY
      have HB' := Lib.hid (K7.heap HB.out (by intro hx; have := (HO.out.base _ hx).1; omega))
      have HK' := Lib.hid (HK.out.then K7 (fun t ht => .inr (by have := (HO.out.base t ht).1; omega)))
      have hbsz' : bs ≤ _ := Nat.le_trans hbsz K7.size
      clear f_0 f_1 f_2 f_3 f_4 f_5 f_6 f_7 f_8 f_9 f_10 f_11 hltB hltB1 HB HK hbsz
      have HB := HB'
      have HK := HK'
      have hbsz := hbsz'
      clear HB' HK' hbsz'
      obtain ⟨f_0, f_1, f_2, f_3, f_4, f_5, f_6, f_7, f_8, f_9, f_10, f_11, hltB, hltB1⟩ := cells12 HB.out
      clear HO K7 f_0 f_1 f_2 f_3 f_4 f_5 f_6 f_7 f_8 f_9 f_10 f_11
      have hn7' : n7 = 6 * (k + 1) := by have := hn7.out; have := HN5.out; omega
      subst hn7'
      have HO := Lib.hid O7
      clear O7 hn7
      go_wp2
      go_roundw
      case rel =>
        refine ⟨k + 1, A7, c7, by omega, by go_num, rfl, ?_, HK.out, hbsz, HB.out⟩
        rw [HTK.out, HXY.out]
        have := HO.out
        rw [hl7.out, hl5.out] at this
        simpa [setW, List.append_assoc] using this
      case measure => simp [intOf]; omega
    · obtain rfl : k = sn := by omega
      have hki : ¬ (k : Int) < (k : Int) := by omega
      have e : ss.take k = ss := List.take_of_length_le (by omega)
      have HO' := HO.out
      rw [e] at HO'
      have HO2 := Lib.hid HO'
      clear HO HO' e
      obtain ⟨f_0, f_1, f_2, f_3, f_4, f_5, f_6, f_7, f_8, f_9, f_10, f_11, hltB, hltB1⟩ := cells12 HB.out
      have hl := HBD.out
      have HL := Lib.hid hl
      clear hl
      go_wp2
      go_ret
      exact ⟨_, _, _, rfl, by rw [HL.out]; exact HO2.out.rd, HK.out⟩
end Go.Proofs.Ytkmcakneceagpaa
