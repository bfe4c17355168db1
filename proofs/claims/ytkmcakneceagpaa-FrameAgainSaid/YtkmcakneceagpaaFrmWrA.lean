/- frame.Write, walked, type by type (A). -/
import Derived.Test.YtkmcakneceagpaaFrmWr
set_option linter.unusedVariables false
set_option linter.unusedSimpArgs false
set_option linter.unusedSimpArgs false
namespace Go.Proofs.Ytkmcakneceagpaa
open Go.RowKit
set_option maxHeartbeats 4000000 in
set_option maxRecDepth 100000 in
theorem write0f (f : Fr) (l : List UInt8) (ss : List (Int × Int)) (w0 : World) (ok : WrOk w0 f l ss) (hty : f.ty = 0) (hfl0 : 0 ≤ f.fl) (hfl1 : f.fl ≤ 255) (hst : idB f.st = true) (h8 : hasB f.fl 8 = false) :
  Calls Try.prog 98 #[.agg #[.int .i64 f.ty, .int .i64 f.fl, .int .i64 f.st, .slice f.pA f.pn f.pc, .int .i64 f.pad, .int .u32 f.code, .int .i64 f.last, .int .i64 f.inc, .int .i64 f.dep, .bool f.only, .int .i64 f.wt, .slice f.sA f.sn f.sc]] w0 (OwE 5 (wr (f.p l ss)).1 (wr (f.p l ss)).2 w0) := by
 obtain ⟨hb1, hb8, hb32, hb4⟩ := bits_has f.fl hfl0 hfl1
 obtain ⟨hrd, hpn, hcode, hsd, hsn⟩ := ok
 obtain ⟨ty, fl, st, pA, pn, pc, pad, code, last, inc, dep, only, wt, sA, sn, sc⟩ := f
 dsimp only at *
 subst hty
 rw [h8] at hb8
 have HRD := Lib.hid hrd
 have HSD := Lib.hid hsd
 have HST := Lib.hid hst
 clear hst hrd hsd hb1 hb32 hb4
 by_cases hs : st = 0
 ·have e : wr ((⟨0, fl, st, pA, pn, pc, pad, code, last, inc, dep, only, wt, sA, sn, sc⟩ : Fr).p l ss) = ([], 1) := wr_bad (by simp [goodW, Fr.p, known, rightB, zeroB, mayK, padOk, paddedB, prioOk, prioB, padF, hs])
  rw [e]
  clear e
  have HRI := Lib.hid (show (false || (false == decide (st = 0))) = false by simp [hs])
  clear hs
  go_enter Try.func98, Try.ntmps98
  go_wp2_with fail
  refine (Known_any 0 _).mono ?_
  rintro e w1 ⟨rfl, rfl⟩
  rw [show knownB 0 = true from rfl]
  go_wp2_with fail
  refine (idF st _).mono ?_
  rintro e w1 ⟨rfl, rfl⟩
  rw [HST.out]
  go_wp2_with fail
  refine (kinds0 _).mono ?_
  rintro e w2 ⟨rfl, K2⟩
  have HB := Lib.hid (K2.heap (hp_new w0 (.cells #[.int .i64 0, .int .i64 fl, .int .i64 st, .slice pA pn pc, .int .i64 pad, .int .u32 code, .int .i64 last, .int .i64 inc, .int .i64 dep, .bool only, .int .i64 wt, .slice sA sn sc] 49) _ rfl) (by simp))
  have HK := Lib.hid (((Kp.refl [] w0).alloc (.cells #[.int .i64 0, .int .i64 fl, .int .i64 st, .slice pA pn pc, .int .i64 pad, .int .u32 code, .int .i64 last, .int .i64 inc, .int .i64 dep, .bool only, .int .i64 wt, .slice sA sn sc] 49)).trans K2)
  clear K2
  obtain ⟨f0, f1, f2, f3, f4, f5, f6, f7, f8, f9, f10, f11, hltB, hltB1⟩ := cells12 HB.out
  go_wp2_with fail
  have K3 : Kp [] w2 (w2.alloc (.cells #[.bool false, .bool false, .bool true, Fv 161, Fv 163, Fv 160, Fv 164] 185)) := (Kp.refl _ _).alloc _
  have HKB := Lib.hid (hp_new w2 (.cells #[.bool false, .bool false, .bool true, Fv 161, Fv 163, Fv 160, Fv 164] 185) _ rfl)
  clear f0 f1 f2 f3 f4 f5 f6 f7 f8 f9 f10 f11 hltB hltB1
  replace HB := Lib.hid (K3.heap HB.out (by simp))
  replace HK := Lib.hid (HK.out.trans K3)
  clear K3
  generalize hkb : w2.heap.size = kb at *
  generalize hW : w2.alloc (.cells #[.bool false, .bool false, .bool true, Fv 161, Fv 163, Fv 160, Fv 164] 185) = w3 at *
  clear hW hkb
  refine (rightF false false true (Fv 161) (Fv 163) (Fv 160) (Fv 164) st _ rfl rfl rfl rfl).mono ?_
  rintro e w4 ⟨rfl, K4⟩
  rw [HRI.out]
  replace HB := Lib.hid (K4.heap HB.out (by simp))
  replace HK := Lib.hid (HK.out.trans K4)
  replace HKB := Lib.hid (K4.heap HKB.out (by simp))
  clear K4
  obtain ⟨f0, f1, f2, f3, f4, f5, f6, f7, f8, f9, f10, f11, hltB, hltB1⟩ := cells12 HB.out
  obtain ⟨k0, k1, k2, k3, k4, k5, k6, hltK, hltK1⟩ := cells7 HKB.out
  go_wp2
  go_ret2
  exact ⟨none, 0, 0, rfl, Ow.nil _ _ _ _, HK.out⟩
 ·have HRI := Lib.hid (show (false || (false == decide (st = 0))) = true by simp [hs])
  have HS := Lib.hid hs
  clear hs
  by_cases hpad0 : 0 ≤ pad
  ·by_cases hpad1 : pad ≤ 255
   ·by_cases hpad2 : pad ≤ 0
    ·have HPRI := Lib.hid (show prioB 0 fl = false by simp [prioB])
     have hgood : goodW ((⟨0, fl, st, pA, pn, pc, pad, code, last, inc, dep, only, wt, sA, sn, sc⟩ : Fr).p l ss) = true := by simp [goodW, Fr.p, known, rightB, zeroB, mayK, padOk, paddedB, prioOk, prioB, padF, HST.out, HS.out, h8, hfl0, hfl1, hpad0, hpad1, hpad2]
     have HG := Lib.hid hgood
     clear hgood
     obtain ⟨⟨R1, R2⟩, hR⟩ : ∃ R, wr ((⟨0, fl, st, pA, pn, pc, pad, code, last, inc, dep, only, wt, sA, sn, sc⟩ : Fr).p l ss) = R := ⟨_, rfl⟩
     rw [hR]
     have HRR := Lib.hid hR
     clear hR
     dsimp only
     obtain ⟨hst0, hst1⟩ := idB_of HST.out
     have hbd : bodyW ((⟨0, fl, st, pA, pn, pc, pad, code, last, inc, dep, only, wt, sA, sn, sc⟩ : Fr).p l ss) = (l) := by
      simp [bodyW, Fr.p, padF, paddedB, prioB, putW, h8]
     have HBD := Lib.hid hbd
     clear hbd
     go_enter Try.func98, Try.ntmps98
     go_wp2_with fail
     refine (Known_any 0 _).mono ?_
     rintro e w1 ⟨rfl, rfl⟩
     rw [show knownB 0 = true from rfl]
     go_wp2_with fail
     refine (idF st _).mono ?_
     rintro e w1 ⟨rfl, rfl⟩
     rw [HST.out]
     go_wp2_with fail
     refine (kinds0 _).mono ?_
     rintro e w2 ⟨rfl, K2⟩
     have HB := Lib.hid (K2.heap (hp_new w0 (.cells #[.int .i64 0, .int .i64 fl, .int .i64 st, .slice pA pn pc, .int .i64 pad, .int .u32 code, .int .i64 last, .int .i64 inc, .int .i64 dep, .bool only, .int .i64 wt, .slice sA sn sc] 49) _ rfl) (by simp))
     have HK := Lib.hid (((Kp.refl [] w0).alloc (.cells #[.int .i64 0, .int .i64 fl, .int .i64 st, .slice pA pn pc, .int .i64 pad, .int .u32 code, .int .i64 last, .int .i64 inc, .int .i64 dep, .bool only, .int .i64 wt, .slice sA sn sc] 49)).trans K2)
     clear K2
     obtain ⟨f0, f1, f2, f3, f4, f5, f6, f7, f8, f9, f10, f11, hltB, hltB1⟩ := cells12 HB.out
     go_wp2_with fail
     have K3 : Kp [] w2 (w2.alloc (.cells #[.bool false, .bool false, .bool true, Fv 161, Fv 163, Fv 160, Fv 164] 185)) := (Kp.refl _ _).alloc _
     have HKB := Lib.hid (hp_new w2 (.cells #[.bool false, .bool false, .bool true, Fv 161, Fv 163, Fv 160, Fv 164] 185) _ rfl)
     clear f0 f1 f2 f3 f4 f5 f6 f7 f8 f9 f10 f11 hltB hltB1
     replace HB := Lib.hid (K3.heap HB.out (by simp))
     replace HK := Lib.hid (HK.out.trans K3)
     clear K3
     generalize hkb : w2.heap.size = kb at *
     generalize hW : w2.alloc (.cells #[.bool false, .bool false, .bool true, Fv 161, Fv 163, Fv 160, Fv 164] 185) = w3 at *
     clear hW hkb
     refine (rightF false false true (Fv 161) (Fv 163) (Fv 160) (Fv 164) st _ rfl rfl rfl rfl).mono ?_
     rintro e w4 ⟨rfl, K4⟩
     rw [HRI.out]
     replace HB := Lib.hid (K4.heap HB.out (by simp))
     replace HK := Lib.hid (HK.out.trans K4)
     replace HKB := Lib.hid (K4.heap HKB.out (by simp))
     clear K4
     obtain ⟨f0, f1, f2, f3, f4, f5, f6, f7, f8, f9, f10, f11, hltB, hltB1⟩ := cells12 HB.out
     obtain ⟨k0, k1, k2, k3, k4, k5, k6, hltK, hltK1⟩ := cells7 HKB.out
     go_wp2_with fail
     refine (mayAlways (⟨0, fl, st, pA, pn, pc, pad, code, last, inc, dep, only, wt, sA, sn, sc⟩ : Fr) _).mono ?_
     rintro e w5 ⟨rfl, K5⟩
     clear f0 f1 f2 f3 f4 f5 f6 f7 f8 f9 f10 f11 hltB hltB1 k0 k1 k2 k3 k4 k5 k6 hltK hltK1
     replace HB := Lib.hid (K5.heap HB.out (by simp))
     replace HK := Lib.hid (HK.out.trans K5)
     replace HKB := Lib.hid (K5.heap HKB.out (by simp))
     clear K5
     obtain ⟨f0, f1, f2, f3, f4, f5, f6, f7, f8, f9, f10, f11, hltB, hltB1⟩ := cells12 HB.out
     obtain ⟨k0, k1, k2, k3, k4, k5, k6, hltK, hltK1⟩ := cells7 HKB.out
     go_wp2_with fail
     refine (weightedF (⟨0, fl, st, pA, pn, pc, pad, code, last, inc, dep, only, wt, sA, sn, sc⟩ : Fr) _ hfl0 hfl1).mono ?_
     rintro e w6 ⟨rfl, K6⟩
     rw [HPRI.out]
     clear f0 f1 f2 f3 f4 f5 f6 f7 f8 f9 f10 f11 hltB hltB1 k0 k1 k2 k3 k4 k5 k6 hltK hltK1
     replace HB := Lib.hid (K6.heap HB.out (by simp))
     replace HK := Lib.hid (HK.out.trans K6)
     replace HKB := Lib.hid (K6.heap HKB.out (by simp))
     clear K6
     obtain ⟨f0, f1, f2, f3, f4, f5, f6, f7, f8, f9, f10, f11, hltB, hltB1⟩ := cells12 HB.out
     obtain ⟨k0, k1, k2, k3, k4, k5, k6, hltK, hltK1⟩ := cells7 HKB.out
     try simp only [Int.not_lt, Int.not_le] at *
     obtain ⟨bs, hbs⟩ : ∃ bs, w6.heap.size = bs := ⟨_, rfl⟩
     have hbsz : bs ≤ w6.heap.size := by omega
     have hBb : w0.heap.size < bs := by have := lt_of_heap HB.out; omega
     have hKb : kb < bs := by have := lt_of_heap HKB.out; omega
     clear hbs
     go_wp2_with fail
     refine (weightedF (⟨0, fl, st, pA, pn, pc, pad, code, last, inc, dep, only, wt, sA, sn, sc⟩ : Fr) _ hfl0 hfl1).mono ?_
     rintro e w9 ⟨rfl, K9⟩
     rw [HPRI.out]
     replace hbsz : bs ≤ _ := Nat.le_trans hbsz K9.size
     clear f0 f1 f2 f3 f4 f5 f6 f7 f8 f9 f10 f11 hltB hltB1 k0 k1 k2 k3 k4 k5 k6 hltK hltK1
     replace HB := Lib.hid (K9.heap HB.out (by simp))
     replace HK := Lib.hid (HK.out.trans K9)
     replace HKB := Lib.hid (K9.heap HKB.out (by simp))
     clear K9
     obtain ⟨f0, f1, f2, f3, f4, f5, f6, f7, f8, f9, f10, f11, hltB, hltB1⟩ := cells12 HB.out
     obtain ⟨k0, k1, k2, k3, k4, k5, k6, hltK, hltK1⟩ := cells7 HKB.out
     go_wp2_with fail
     refine (putPayload (⟨0, fl, st, pA, pn, pc, pad, code, last, inc, dep, only, wt, sA, sn, sc⟩ : Fr) l _ (HRD.out.keep HK.out (by simp))).mono ?_
     rintro e w14 ⟨Ap, np, cp, rfl, Rp, K14⟩
     have hnp : np ≤ 140737488351300 := by have h1 := Rp.len; have h2 := HRD.out.len; have h3 := HSD.out.len; (try simp [bytesOf_length] at h1); omega
     have HRP := Lib.hid Rp
     clear Rp
     replace hbsz : bs ≤ _ := Nat.le_trans hbsz K14.size
     clear f0 f1 f2 f3 f4 f5 f6 f7 f8 f9 f10 f11 hltB hltB1 k0 k1 k2 k3 k4 k5 k6 hltK hltK1
     replace HB := Lib.hid (K14.heap HB.out (by simp))
     replace HK := Lib.hid (HK.out.trans K14)
     replace HKB := Lib.hid (K14.heap HKB.out (by simp))
     clear K14
     obtain ⟨f0, f1, f2, f3, f4, f5, f6, f7, f8, f9, f10, f11, hltB, hltB1⟩ := cells12 HB.out
     obtain ⟨k0, k1, k2, k3, k4, k5, k6, hltK, hltK1⟩ := cells7 HKB.out
     go_wp2_with (with_reducible refine stopAt (o := ⟨some 124, _, _, _, _, _⟩) ?_)
     refine Stop.go (wp_appB rfl _ _ 22 5 rfl Try.underlying22 Try.info5 bs none 0 0 [] rfl (Ow.nil _ _ _ _) Ap np cp (l) rfl HRP.out (by omega) (by omega) ?_)
     intro A15 n15 c15 l15 w15 hn15 hl15 O15 K15 hA15
     clear hA15
     have K15' : Kp [] _ w15 := K15.mono (by simp [ob])
     clear K15
     replace hbsz : bs ≤ _ := Nat.le_trans hbsz K15'.size
     clear f0 f1 f2 f3 f4 f5 f6 f7 f8 f9 f10 f11 hltB hltB1 k0 k1 k2 k3 k4 k5 k6 hltK hltK1
     replace HB := Lib.hid (K15'.heap HB.out (by simp))
     replace HK := Lib.hid (HK.out.trans K15')
     replace HKB := Lib.hid (K15'.heap HKB.out (by simp))
     clear K15'
     obtain ⟨f0, f1, f2, f3, f4, f5, f6, f7, f8, f9, f10, f11, hltB, hltB1⟩ := cells12 HB.out
     obtain ⟨k0, k1, k2, k3, k4, k5, k6, hltK, hltK1⟩ := cells7 HKB.out
     have hc15 := O15.cap.1
     have hN15a : n15 ≤ 0 + np := Nat.le_of_eq hn15.out
     have hN15b : 0 + np ≤ n15 := Nat.le_of_eq hn15.out.symm
     have HO := Lib.hid O15
     clear O15 hn15
     clear HRP
     have hlc : l15.length = n15 := by have := HO.out.len; simpa using this
     have hlb : l15 = (l) := by rw [hl15.out]; simp
     have HLB := Lib.hid hlb
     have HLC := Lib.hid hlc
     clear hlb hlc hl15
     by_cases hbig : n15 < 16777216
     ·have hpw : putR (n15 : Int) 3 16777216 = (bytesOf n15 3, 0) := putR_yes (by omega)
      have HPW := Lib.hid hpw
      clear hpw
      go_wp2_with fail
      refine (Put24_any (n15 : Int) _ (by omega)).mono ?_
      rintro e w17 ⟨Ao, no, rfl, Ro, _, K17⟩
      rw [HPW.out] at Ro ⊢
      dsimp only at Ro ⊢
      have eno := Ro.len
      rw [bytesOf_length] at eno
      subst eno
      have HRO := Lib.hid Ro
      clear Ro
      replace HO := Lib.hid (HO.out.keep K17 (by simp))
      replace hbsz : bs ≤ _ := Nat.le_trans hbsz K17.size
      clear f0 f1 f2 f3 f4 f5 f6 f7 f8 f9 f10 f11 hltB hltB1 k0 k1 k2 k3 k4 k5 k6 hltK hltK1
      replace HB := Lib.hid (K17.heap HB.out (by simp))
      replace HK := Lib.hid (HK.out.trans K17)
      replace HKB := Lib.hid (K17.heap HKB.out (by simp))
      clear K17
      obtain ⟨f0, f1, f2, f3, f4, f5, f6, f7, f8, f9, f10, f11, hltB, hltB1⟩ := cells12 HB.out
      obtain ⟨k0, k1, k2, k3, k4, k5, k6, hltK, hltK1⟩ := cells7 HKB.out
      go_wp2_with (with_reducible refine stopAt (o := ⟨some 146, _, _, _, _, _⟩) ?_)
      generalize hW : World.alloc _ _ = w18
      have K18 : Kp [] w17 w18 := by rw [← hW]; (repeat (first | with_reducible exact Kp.refl _ _ | with_reducible assumption | with_reducible refine Kp.alloc ?_ _ | with_reducible refine Kp.drew ?_ | with_reducible refine Kp.drewN ?_ _ | (with_reducible refine Kp.setL ?_ ?_ _; focus (simp; done)) | (with_reducible refine Kp.setR ?_ ?_ _; focus (simp; done)) | (with_reducible refine Kp.setR ?_ ?_ _; focus (simp; omega))))
      have HN18 := Lib.hid (show w18.heap[w17.heap.size]? = some (.cells #[.int .u8 0, .int .u8 fl] 5) by rw [← hW]; (repeat (first | with_reducible assumption | (with_reducible refine hp_new _ _ _ ?_; focus (simp; done)) | (with_reducible refine (hp_old _ _ _ ?_).trans ?_; focus (first | omega | (simp; done) | (simp; omega))) | (with_reducible refine (hp_far _ _ _ _ ?_).trans ?_; focus (first | (simp; done) | (simp; omega))) | (with_reducible refine (hp_drew _ _).trans ?_) | (with_reducible refine (hp_drewN _ _ _).trans ?_))))
      clear hW
      have HRO' := Lib.hid (HRO.out.keep K18 (by simp))
      clear HRO
      replace HO := Lib.hid (HO.out.keep K18 (by simp))
      replace hbsz : bs ≤ _ := Nat.le_trans hbsz K18.size
      clear f0 f1 f2 f3 f4 f5 f6 f7 f8 f9 f10 f11 hltB hltB1 k0 k1 k2 k3 k4 k5 k6 hltK hltK1
      replace HB := Lib.hid (K18.heap HB.out (by simp))
      replace HK := Lib.hid (HK.out.trans K18)
      replace HKB := Lib.hid (K18.heap HKB.out (by simp))
      clear K18
      obtain ⟨f0, f1, f2, f3, f4, f5, f6, f7, f8, f9, f10, f11, hltB, hltB1⟩ := cells12 HB.out
      obtain ⟨k0, k1, k2, k3, k4, k5, k6, hltK, hltK1⟩ := cells7 HKB.out
      refine Stop.go (wp_appF rfl _ _ 22 5 rfl Try.underlying22 Try.info5 bs Ao 3 (bytesOf n15 3) rfl HRO'.out (some ⟨w17.heap.size, 0, none⟩) 2 2 [byteOf 0, byteOf fl] rfl (Rd.block HN18.out 0 2 2 _ rfl (Nat.le_refl _) (by simp; exact ⟨u8_of (by omega) (by omega), u8_of hfl0 hfl1⟩)) (by omega) (by omega) (by omega) (by omega) ?_)
      intro A19 n19 c19 l19 w19 hn19 hl19 O19 K19 hA19
      have hxb : ∀ t, t ∈ ob A15 → t ∉ ob A19 := by
       intro t h1 h2
       have := (HO.out.base t h1).2
       rw [hA19] at h2
       simp [ob] at h2
       omega
      clear HN18 HRO' hA19
      replace HO := Lib.hid (HO.out.keep K19 (by simp))
      replace hbsz : bs ≤ _ := Nat.le_trans hbsz K19.size
      clear f0 f1 f2 f3 f4 f5 f6 f7 f8 f9 f10 f11 hltB hltB1 k0 k1 k2 k3 k4 k5 k6 hltK hltK1
      replace HB := Lib.hid (K19.heap HB.out (by simp))
      replace HK := Lib.hid (HK.out.trans K19)
      replace HKB := Lib.hid (K19.heap HKB.out (by simp))
      clear K19
      obtain ⟨f0, f1, f2, f3, f4, f5, f6, f7, f8, f9, f10, f11, hltB, hltB1⟩ := cells12 HB.out
      obtain ⟨k0, k1, k2, k3, k4, k5, k6, hltK, hltK1⟩ := cells7 HKB.out
      have hN19a : n19 ≤ 3 + 2 := Nat.le_of_eq hn19.out
      have HP := Lib.hid O19
      clear O19 hn19
      go_wp2_with fail
      refine (fourF st _ hst0 hst1).mono ?_
      rintro e w20 ⟨A4, n4, rfl, R4, _, K20⟩
      have en4 := R4.len
      rw [bytesOf_length] at en4
      subst en4
      have HP' := Lib.hid (HP.out.keep K20 (by simp))
      clear HP
      have HR4 := Lib.hid R4
      clear R4
      replace HO := Lib.hid (HO.out.keep K20 (by simp))
      replace hbsz : bs ≤ _ := Nat.le_trans hbsz K20.size
      clear f0 f1 f2 f3 f4 f5 f6 f7 f8 f9 f10 f11 hltB hltB1 k0 k1 k2 k3 k4 k5 k6 hltK hltK1
      replace HB := Lib.hid (K20.heap HB.out (by simp))
      replace HK := Lib.hid (HK.out.trans K20)
      replace HKB := Lib.hid (K20.heap HKB.out (by simp))
      clear K20
      obtain ⟨f0, f1, f2, f3, f4, f5, f6, f7, f8, f9, f10, f11, hltB, hltB1⟩ := cells12 HB.out
      obtain ⟨k0, k1, k2, k3, k4, k5, k6, hltK, hltK1⟩ := cells7 HKB.out
      go_wp2_with (with_reducible refine stopAt (o := ⟨some 151, _, _, _, _, _⟩) ?_)
      refine Stop.go (wp_appB rfl _ _ 22 5 rfl Try.underlying22 Try.info5 bs A19 n19 c19 l19 rfl HP'.out A4 4 4 _ rfl HR4.out (by omega) (by omega) ?_)
      intro A21 n21 c21 l21 w21 hn21 hl21 O21 K21 hA21
      have hN21a : n21 ≤ n19 + 4 := Nat.le_of_eq hn21.out
      have HR21 := Lib.hid (HO.out.keep K21 hxb).rd
      clear f0 f1 f2 f3 f4 f5 f6 f7 f8 f9 f10 f11 hltB hltB1 k0 k1 k2 k3 k4 k5 k6 hltK hltK1
      replace HB := Lib.hid (K21.heap HB.out (by intro hx; have := (HP'.out.base _ hx).1; omega))
      replace HK := Lib.hid (HK.out.then K21 (fun t ht => .inr (by have := (HP'.out.base t ht).1; omega)))
      replace HKB := Lib.hid (K21.heap HKB.out (by intro hx; have := (HP'.out.base _ hx).1; omega))
      replace hbsz : bs ≤ _ := Nat.le_trans hbsz K21.size
      obtain ⟨f0, f1, f2, f3, f4, f5, f6, f7, f8, f9, f10, f11, hltB, hltB1⟩ := cells12 HB.out
      obtain ⟨k0, k1, k2, k3, k4, k5, k6, hltK, hltK1⟩ := cells7 HKB.out
      clear HO HP' hA21 hn21 HR4 hxb K21
      have HO := Lib.hid O21
      have hc21 := O21.cap.1
      clear O21
      go_wp2_with (with_reducible refine stopAt (o := ⟨some 153, _, _, _, _, _⟩) ?_)
      refine Stop.go (wp_appB rfl _ _ 22 5 rfl Try.underlying22 Try.info5 bs A21 n21 c21 l21 rfl HO.out A15 n15 c15 l15 rfl HR21.out (by omega) (by omega) ?_)
      intro A22 n22 c22 l22 w22 hn22 hl22 O22 K22 hA22
      have HK22 := Lib.hid (HK.out.then K22 (fun t ht => .inr (by have := (HO.out.base t ht).1; omega)))
      have HO22 := Lib.hid O22
      clear O22 K22 hA22 hn22 HR21
      have hw := wr_ok (HG.out) (rfl : bodyW ((⟨0, fl, st, pA, pn, pc, pad, code, last, inc, dep, only, wt, sA, sn, sc⟩ : Fr).p l ss) = _) (by rw [HBD.out, ← HLB.out, HLC.out]; exact hbig)
      have hp := HRR.out.symm.trans hw
      have h1 : R1 = l22 := by
       have := congrArg Prod.fst hp
       dsimp only at this
       rw [this, hl22.out, hl21.out, hl19.out, HBD.out, ← HLB.out, HLC.out]
       rfl
      have h2 : R2 = 0 := congrArg Prod.snd hp
      have H1 := Lib.hid h1
      subst h2
      clear hw hp h1
      go_wp2
      go_ret2
      exact ⟨A22, n22, c22, rfl, by rw [H1.out]; exact HO22.out.mono (by omega), HK22.out⟩
     ·have hpw : putR (n15 : Int) 3 16777216 = ([], 1) := putR_no (by omega)
      have HPW := Lib.hid hpw
      clear hpw
      go_wp2_with fail
      refine (Put24_any (n15 : Int) _ (by omega)).mono ?_
      rintro e w17 ⟨Ao, no, rfl, Ro, _, K17⟩
      rw [HPW.out] at Ro ⊢
      dsimp only at Ro ⊢
      have HK17 := Lib.hid (HK.out.trans K17)
      have hw := wr_long (HG.out) (rfl : bodyW ((⟨0, fl, st, pA, pn, pc, pad, code, last, inc, dep, only, wt, sA, sn, sc⟩ : Fr).p l ss) = _) (by rw [HBD.out, ← HLB.out, HLC.out]; exact hbig)
      have hp := HRR.out.symm.trans hw
      have h1 : R1 = [] := congrArg Prod.fst hp
      have h2 : R2 = 2 := congrArg Prod.snd hp
      subst h1 h2
      clear hw hp K17 Ro
      go_wp2
      go_ret2
      exact ⟨none, 0, 0, rfl, Ow.nil _ _ _ _, HK17.out⟩
    ·have e : wr ((⟨0, fl, st, pA, pn, pc, pad, code, last, inc, dep, only, wt, sA, sn, sc⟩ : Fr).p l ss) = ([], 1) := wr_bad (by simp [goodW, Fr.p, known, rightB, zeroB, mayK, padOk, paddedB, prioOk, prioB, padF, hpad2, h8])
     rw [e]
     clear e
     go_enter Try.func98, Try.ntmps98
     go_wp2_with fail
     refine (Known_any 0 _).mono ?_
     rintro e w1 ⟨rfl, rfl⟩
     rw [show knownB 0 = true from rfl]
     go_wp2_with fail
     refine (idF st _).mono ?_
     rintro e w1 ⟨rfl, rfl⟩
     rw [HST.out]
     go_wp2_with fail
     refine (kinds0 _).mono ?_
     rintro e w2 ⟨rfl, K2⟩
     have HB := Lib.hid (K2.heap (hp_new w0 (.cells #[.int .i64 0, .int .i64 fl, .int .i64 st, .slice pA pn pc, .int .i64 pad, .int .u32 code, .int .i64 last, .int .i64 inc, .int .i64 dep, .bool only, .int .i64 wt, .slice sA sn sc] 49) _ rfl) (by simp))
     have HK := Lib.hid (((Kp.refl [] w0).alloc (.cells #[.int .i64 0, .int .i64 fl, .int .i64 st, .slice pA pn pc, .int .i64 pad, .int .u32 code, .int .i64 last, .int .i64 inc, .int .i64 dep, .bool only, .int .i64 wt, .slice sA sn sc] 49)).trans K2)
     clear K2
     obtain ⟨f0, f1, f2, f3, f4, f5, f6, f7, f8, f9, f10, f11, hltB, hltB1⟩ := cells12 HB.out
     go_wp2_with fail
     have K3 : Kp [] w2 (w2.alloc (.cells #[.bool false, .bool false, .bool true, Fv 161, Fv 163, Fv 160, Fv 164] 185)) := (Kp.refl _ _).alloc _
     have HKB := Lib.hid (hp_new w2 (.cells #[.bool false, .bool false, .bool true, Fv 161, Fv 163, Fv 160, Fv 164] 185) _ rfl)
     clear f0 f1 f2 f3 f4 f5 f6 f7 f8 f9 f10 f11 hltB hltB1
     replace HB := Lib.hid (K3.heap HB.out (by simp))
     replace HK := Lib.hid (HK.out.trans K3)
     clear K3
     generalize hkb : w2.heap.size = kb at *
     generalize hW : w2.alloc (.cells #[.bool false, .bool false, .bool true, Fv 161, Fv 163, Fv 160, Fv 164] 185) = w3 at *
     clear hW hkb
     refine (rightF false false true (Fv 161) (Fv 163) (Fv 160) (Fv 164) st _ rfl rfl rfl rfl).mono ?_
     rintro e w4 ⟨rfl, K4⟩
     rw [HRI.out]
     replace HB := Lib.hid (K4.heap HB.out (by simp))
     replace HK := Lib.hid (HK.out.trans K4)
     replace HKB := Lib.hid (K4.heap HKB.out (by simp))
     clear K4
     obtain ⟨f0, f1, f2, f3, f4, f5, f6, f7, f8, f9, f10, f11, hltB, hltB1⟩ := cells12 HB.out
     obtain ⟨k0, k1, k2, k3, k4, k5, k6, hltK, hltK1⟩ := cells7 HKB.out
     go_wp2_with fail
     refine (mayAlways (⟨0, fl, st, pA, pn, pc, pad, code, last, inc, dep, only, wt, sA, sn, sc⟩ : Fr) _).mono ?_
     rintro e w5 ⟨rfl, K5⟩
     clear f0 f1 f2 f3 f4 f5 f6 f7 f8 f9 f10 f11 hltB hltB1 k0 k1 k2 k3 k4 k5 k6 hltK hltK1
     replace HB := Lib.hid (K5.heap HB.out (by simp))
     replace HK := Lib.hid (HK.out.trans K5)
     replace HKB := Lib.hid (K5.heap HKB.out (by simp))
     clear K5
     obtain ⟨f0, f1, f2, f3, f4, f5, f6, f7, f8, f9, f10, f11, hltB, hltB1⟩ := cells12 HB.out
     obtain ⟨k0, k1, k2, k3, k4, k5, k6, hltK, hltK1⟩ := cells7 HKB.out
     go_wp2
     go_ret2
     exact ⟨none, 0, 0, rfl, Ow.nil _ _ _ _, HK.out⟩
   ·have e : wr ((⟨0, fl, st, pA, pn, pc, pad, code, last, inc, dep, only, wt, sA, sn, sc⟩ : Fr).p l ss) = ([], 1) := wr_bad (by simp [goodW, Fr.p, known, rightB, zeroB, mayK, padOk, paddedB, prioOk, prioB, padF, hpad1])
    rw [e]
    clear e
    go_enter Try.func98, Try.ntmps98
    go_wp2_with fail
    refine (Known_any 0 _).mono ?_
    rintro e w1 ⟨rfl, rfl⟩
    rw [show knownB 0 = true from rfl]
    go_wp2_with fail
    refine (idF st _).mono ?_
    rintro e w1 ⟨rfl, rfl⟩
    rw [HST.out]
    go_wp2_with fail
    refine (kinds0 _).mono ?_
    rintro e w2 ⟨rfl, K2⟩
    have HB := Lib.hid (K2.heap (hp_new w0 (.cells #[.int .i64 0, .int .i64 fl, .int .i64 st, .slice pA pn pc, .int .i64 pad, .int .u32 code, .int .i64 last, .int .i64 inc, .int .i64 dep, .bool only, .int .i64 wt, .slice sA sn sc] 49) _ rfl) (by simp))
    have HK := Lib.hid (((Kp.refl [] w0).alloc (.cells #[.int .i64 0, .int .i64 fl, .int .i64 st, .slice pA pn pc, .int .i64 pad, .int .u32 code, .int .i64 last, .int .i64 inc, .int .i64 dep, .bool only, .int .i64 wt, .slice sA sn sc] 49)).trans K2)
    clear K2
    obtain ⟨f0, f1, f2, f3, f4, f5, f6, f7, f8, f9, f10, f11, hltB, hltB1⟩ := cells12 HB.out
    go_wp2_with fail
    have K3 : Kp [] w2 (w2.alloc (.cells #[.bool false, .bool false, .bool true, Fv 161, Fv 163, Fv 160, Fv 164] 185)) := (Kp.refl _ _).alloc _
    have HKB := Lib.hid (hp_new w2 (.cells #[.bool false, .bool false, .bool true, Fv 161, Fv 163, Fv 160, Fv 164] 185) _ rfl)
    clear f0 f1 f2 f3 f4 f5 f6 f7 f8 f9 f10 f11 hltB hltB1
    replace HB := Lib.hid (K3.heap HB.out (by simp))
    replace HK := Lib.hid (HK.out.trans K3)
    clear K3
    generalize hkb : w2.heap.size = kb at *
    generalize hW : w2.alloc (.cells #[.bool false, .bool false, .bool true, Fv 161, Fv 163, Fv 160, Fv 164] 185) = w3 at *
    clear hW hkb
    refine (rightF false false true (Fv 161) (Fv 163) (Fv 160) (Fv 164) st _ rfl rfl rfl rfl).mono ?_
    rintro e w4 ⟨rfl, K4⟩
    rw [HRI.out]
    replace HB := Lib.hid (K4.heap HB.out (by simp))
    replace HK := Lib.hid (HK.out.trans K4)
    replace HKB := Lib.hid (K4.heap HKB.out (by simp))
    clear K4
    obtain ⟨f0, f1, f2, f3, f4, f5, f6, f7, f8, f9, f10, f11, hltB, hltB1⟩ := cells12 HB.out
    obtain ⟨k0, k1, k2, k3, k4, k5, k6, hltK, hltK1⟩ := cells7 HKB.out
    go_wp2_with fail
    refine (mayAlways (⟨0, fl, st, pA, pn, pc, pad, code, last, inc, dep, only, wt, sA, sn, sc⟩ : Fr) _).mono ?_
    rintro e w5 ⟨rfl, K5⟩
    clear f0 f1 f2 f3 f4 f5 f6 f7 f8 f9 f10 f11 hltB hltB1 k0 k1 k2 k3 k4 k5 k6 hltK hltK1
    replace HB := Lib.hid (K5.heap HB.out (by simp))
    replace HK := Lib.hid (HK.out.trans K5)
    replace HKB := Lib.hid (K5.heap HKB.out (by simp))
    clear K5
    obtain ⟨f0, f1, f2, f3, f4, f5, f6, f7, f8, f9, f10, f11, hltB, hltB1⟩ := cells12 HB.out
    obtain ⟨k0, k1, k2, k3, k4, k5, k6, hltK, hltK1⟩ := cells7 HKB.out
    go_wp2
    go_ret2
    exact ⟨none, 0, 0, rfl, Ow.nil _ _ _ _, HK.out⟩
  ·have e : wr ((⟨0, fl, st, pA, pn, pc, pad, code, last, inc, dep, only, wt, sA, sn, sc⟩ : Fr).p l ss) = ([], 1) := wr_bad (by simp [goodW, Fr.p, known, rightB, zeroB, mayK, padOk, paddedB, prioOk, prioB, padF, hpad0])
   rw [e]
   clear e
   go_enter Try.func98, Try.ntmps98
   go_wp2_with fail
   refine (Known_any 0 _).mono ?_
   rintro e w1 ⟨rfl, rfl⟩
   rw [show knownB 0 = true from rfl]
   go_wp2_with fail
   refine (idF st _).mono ?_
   rintro e w1 ⟨rfl, rfl⟩
   rw [HST.out]
   go_wp2_with fail
   refine (kinds0 _).mono ?_
   rintro e w2 ⟨rfl, K2⟩
   have HB := Lib.hid (K2.heap (hp_new w0 (.cells #[.int .i64 0, .int .i64 fl, .int .i64 st, .slice pA pn pc, .int .i64 pad, .int .u32 code, .int .i64 last, .int .i64 inc, .int .i64 dep, .bool only, .int .i64 wt, .slice sA sn sc] 49) _ rfl) (by simp))
   have HK := Lib.hid (((Kp.refl [] w0).alloc (.cells #[.int .i64 0, .int .i64 fl, .int .i64 st, .slice pA pn pc, .int .i64 pad, .int .u32 code, .int .i64 last, .int .i64 inc, .int .i64 dep, .bool only, .int .i64 wt, .slice sA sn sc] 49)).trans K2)
   clear K2
   obtain ⟨f0, f1, f2, f3, f4, f5, f6, f7, f8, f9, f10, f11, hltB, hltB1⟩ := cells12 HB.out
   go_wp2_with fail
   have K3 : Kp [] w2 (w2.alloc (.cells #[.bool false, .bool false, .bool true, Fv 161, Fv 163, Fv 160, Fv 164] 185)) := (Kp.refl _ _).alloc _
   have HKB := Lib.hid (hp_new w2 (.cells #[.bool false, .bool false, .bool true, Fv 161, Fv 163, Fv 160, Fv 164] 185) _ rfl)
   clear f0 f1 f2 f3 f4 f5 f6 f7 f8 f9 f10 f11 hltB hltB1
   replace HB := Lib.hid (K3.heap HB.out (by simp))
   replace HK := Lib.hid (HK.out.trans K3)
   clear K3
   generalize hkb : w2.heap.size = kb at *
   generalize hW : w2.alloc (.cells #[.bool false, .bool false, .bool true, Fv 161, Fv 163, Fv 160, Fv 164] 185) = w3 at *
   clear hW hkb
   refine (rightF false false true (Fv 161) (Fv 163) (Fv 160) (Fv 164) st _ rfl rfl rfl rfl).mono ?_
   rintro e w4 ⟨rfl, K4⟩
   rw [HRI.out]
   replace HB := Lib.hid (K4.heap HB.out (by simp))
   replace HK := Lib.hid (HK.out.trans K4)
   replace HKB := Lib.hid (K4.heap HKB.out (by simp))
   clear K4
   obtain ⟨f0, f1, f2, f3, f4, f5, f6, f7, f8, f9, f10, f11, hltB, hltB1⟩ := cells12 HB.out
   obtain ⟨k0, k1, k2, k3, k4, k5, k6, hltK, hltK1⟩ := cells7 HKB.out
   go_wp2_with fail
   refine (mayAlways (⟨0, fl, st, pA, pn, pc, pad, code, last, inc, dep, only, wt, sA, sn, sc⟩ : Fr) _).mono ?_
   rintro e w5 ⟨rfl, K5⟩
   clear f0 f1 f2 f3 f4 f5 f6 f7 f8 f9 f10 f11 hltB hltB1 k0 k1 k2 k3 k4 k5 k6 hltK hltK1
   replace HB := Lib.hid (K5.heap HB.out (by simp))
   replace HK := Lib.hid (HK.out.trans K5)
   replace HKB := Lib.hid (K5.heap HKB.out (by simp))
   clear K5
   obtain ⟨f0, f1, f2, f3, f4, f5, f6, f7, f8, f9, f10, f11, hltB, hltB1⟩ := cells12 HB.out
   obtain ⟨k0, k1, k2, k3, k4, k5, k6, hltK, hltK1⟩ := cells7 HKB.out
   go_wp2
   go_ret2
   exact ⟨none, 0, 0, rfl, Ow.nil _ _ _ _, HK.out⟩
set_option maxHeartbeats 4000000 in
set_option maxRecDepth 100000 in
theorem write0t (f : Fr) (l : List UInt8) (ss : List (Int × Int)) (w0 : World) (ok : WrOk w0 f l ss) (hty : f.ty = 0) (hfl0 : 0 ≤ f.fl) (hfl1 : f.fl ≤ 255) (hst : idB f.st = true) (h8 : hasB f.fl 8 = true) :
  Calls Try.prog 98 #[.agg #[.int .i64 f.ty, .int .i64 f.fl, .int .i64 f.st, .slice f.pA f.pn f.pc, .int .i64 f.pad, .int .u32 f.code, .int .i64 f.last, .int .i64 f.inc, .int .i64 f.dep, .bool f.only, .int .i64 f.wt, .slice f.sA f.sn f.sc]] w0 (OwE 5 (wr (f.p l ss)).1 (wr (f.p l ss)).2 w0) := by
 obtain ⟨hb1, hb8, hb32, hb4⟩ := bits_has f.fl hfl0 hfl1
 obtain ⟨hrd, hpn, hcode, hsd, hsn⟩ := ok
 obtain ⟨ty, fl, st, pA, pn, pc, pad, code, last, inc, dep, only, wt, sA, sn, sc⟩ := f
 dsimp only at *
 subst hty
 rw [h8] at hb8
 have HRD := Lib.hid hrd
 have HSD := Lib.hid hsd
 have HST := Lib.hid hst
 clear hst hrd hsd hb1 hb32 hb4
 by_cases hs : st = 0
 ·have e : wr ((⟨0, fl, st, pA, pn, pc, pad, code, last, inc, dep, only, wt, sA, sn, sc⟩ : Fr).p l ss) = ([], 1) := wr_bad (by simp [goodW, Fr.p, known, rightB, zeroB, mayK, padOk, paddedB, prioOk, prioB, padF, hs])
  rw [e]
  clear e
  have HRI := Lib.hid (show (false || (false == decide (st = 0))) = false by simp [hs])
  clear hs
  go_enter Try.func98, Try.ntmps98
  go_wp2_with fail
  refine (Known_any 0 _).mono ?_
  rintro e w1 ⟨rfl, rfl⟩
  rw [show knownB 0 = true from rfl]
  go_wp2_with fail
  refine (idF st _).mono ?_
  rintro e w1 ⟨rfl, rfl⟩
  rw [HST.out]
  go_wp2_with fail
  refine (kinds0 _).mono ?_
  rintro e w2 ⟨rfl, K2⟩
  have HB := Lib.hid (K2.heap (hp_new w0 (.cells #[.int .i64 0, .int .i64 fl, .int .i64 st, .slice pA pn pc, .int .i64 pad, .int .u32 code, .int .i64 last, .int .i64 inc, .int .i64 dep, .bool only, .int .i64 wt, .slice sA sn sc] 49) _ rfl) (by simp))
  have HK := Lib.hid (((Kp.refl [] w0).alloc (.cells #[.int .i64 0, .int .i64 fl, .int .i64 st, .slice pA pn pc, .int .i64 pad, .int .u32 code, .int .i64 last, .int .i64 inc, .int .i64 dep, .bool only, .int .i64 wt, .slice sA sn sc] 49)).trans K2)
  clear K2
  obtain ⟨f0, f1, f2, f3, f4, f5, f6, f7, f8, f9, f10, f11, hltB, hltB1⟩ := cells12 HB.out
  go_wp2_with fail
  have K3 : Kp [] w2 (w2.alloc (.cells #[.bool false, .bool false, .bool true, Fv 161, Fv 163, Fv 160, Fv 164] 185)) := (Kp.refl _ _).alloc _
  have HKB := Lib.hid (hp_new w2 (.cells #[.bool false, .bool false, .bool true, Fv 161, Fv 163, Fv 160, Fv 164] 185) _ rfl)
  clear f0 f1 f2 f3 f4 f5 f6 f7 f8 f9 f10 f11 hltB hltB1
  replace HB := Lib.hid (K3.heap HB.out (by simp))
  replace HK := Lib.hid (HK.out.trans K3)
  clear K3
  generalize hkb : w2.heap.size = kb at *
  generalize hW : w2.alloc (.cells #[.bool false, .bool false, .bool true, Fv 161, Fv 163, Fv 160, Fv 164] 185) = w3 at *
  clear hW hkb
  refine (rightF false false true (Fv 161) (Fv 163) (Fv 160) (Fv 164) st _ rfl rfl rfl rfl).mono ?_
  rintro e w4 ⟨rfl, K4⟩
  rw [HRI.out]
  replace HB := Lib.hid (K4.heap HB.out (by simp))
  replace HK := Lib.hid (HK.out.trans K4)
  replace HKB := Lib.hid (K4.heap HKB.out (by simp))
  clear K4
  obtain ⟨f0, f1, f2, f3, f4, f5, f6, f7, f8, f9, f10, f11, hltB, hltB1⟩ := cells12 HB.out
  obtain ⟨k0, k1, k2, k3, k4, k5, k6, hltK, hltK1⟩ := cells7 HKB.out
  go_wp2
  go_ret2
  exact ⟨none, 0, 0, rfl, Ow.nil _ _ _ _, HK.out⟩
 ·have HRI := Lib.hid (show (false || (false == decide (st = 0))) = true by simp [hs])
  have HS := Lib.hid hs
  clear hs
  by_cases hpad0 : 0 ≤ pad
  ·by_cases hpad1 : pad ≤ 255
   ·by_cases hpad3 : 0 < pad
    ·have HPRI := Lib.hid (show prioB 0 fl = false by simp [prioB])
     obtain ⟨pd, rfl⟩ := Int.eq_ofNat_of_zero_le hpad0
     have hgood : goodW ((⟨0, fl, st, pA, pn, pc, (pd : Int), code, last, inc, dep, only, wt, sA, sn, sc⟩ : Fr).p l ss) = true := by simp [goodW, Fr.p, known, rightB, zeroB, mayK, padOk, paddedB, prioOk, prioB, padF, HST.out, HS.out, h8, hfl0, hfl1, hpad0, hpad1]
     have HG := Lib.hid hgood
     clear hgood
     obtain ⟨⟨R1, R2⟩, hR⟩ : ∃ R, wr ((⟨0, fl, st, pA, pn, pc, (pd : Int), code, last, inc, dep, only, wt, sA, sn, sc⟩ : Fr).p l ss) = R := ⟨_, rfl⟩
     rw [hR]
     have HRR := Lib.hid hR
     clear hR
     dsimp only
     obtain ⟨hst0, hst1⟩ := idB_of HST.out
     have hbd : bodyW ((⟨0, fl, st, pA, pn, pc, (pd : Int), code, last, inc, dep, only, wt, sA, sn, sc⟩ : Fr).p l ss) = [byteOf pd] ++ (l) ++ List.replicate pd 0 := by
      simp [bodyW, Fr.p, padF, paddedB, prioB, putW, h8]
     have HBD := Lib.hid hbd
     clear hbd
     go_enter Try.func98, Try.ntmps98
     go_wp2_with fail
     refine (Known_any 0 _).mono ?_
     rintro e w1 ⟨rfl, rfl⟩
     rw [show knownB 0 = true from rfl]
     go_wp2_with fail
     refine (idF st _).mono ?_
     rintro e w1 ⟨rfl, rfl⟩
     rw [HST.out]
     go_wp2_with fail
     refine (kinds0 _).mono ?_
     rintro e w2 ⟨rfl, K2⟩
     have HB := Lib.hid (K2.heap (hp_new w0 (.cells #[.int .i64 0, .int .i64 fl, .int .i64 st, .slice pA pn pc, .int .i64 (pd : Int), .int .u32 code, .int .i64 last, .int .i64 inc, .int .i64 dep, .bool only, .int .i64 wt, .slice sA sn sc] 49) _ rfl) (by simp))
     have HK := Lib.hid (((Kp.refl [] w0).alloc (.cells #[.int .i64 0, .int .i64 fl, .int .i64 st, .slice pA pn pc, .int .i64 (pd : Int), .int .u32 code, .int .i64 last, .int .i64 inc, .int .i64 dep, .bool only, .int .i64 wt, .slice sA sn sc] 49)).trans K2)
     clear K2
     obtain ⟨f0, f1, f2, f3, f4, f5, f6, f7, f8, f9, f10, f11, hltB, hltB1⟩ := cells12 HB.out
     go_wp2_with fail
     have K3 : Kp [] w2 (w2.alloc (.cells #[.bool false, .bool false, .bool true, Fv 161, Fv 163, Fv 160, Fv 164] 185)) := (Kp.refl _ _).alloc _
     have HKB := Lib.hid (hp_new w2 (.cells #[.bool false, .bool false, .bool true, Fv 161, Fv 163, Fv 160, Fv 164] 185) _ rfl)
     clear f0 f1 f2 f3 f4 f5 f6 f7 f8 f9 f10 f11 hltB hltB1
     replace HB := Lib.hid (K3.heap HB.out (by simp))
     replace HK := Lib.hid (HK.out.trans K3)
     clear K3
     generalize hkb : w2.heap.size = kb at *
     generalize hW : w2.alloc (.cells #[.bool false, .bool false, .bool true, Fv 161, Fv 163, Fv 160, Fv 164] 185) = w3 at *
     clear hW hkb
     refine (rightF false false true (Fv 161) (Fv 163) (Fv 160) (Fv 164) st _ rfl rfl rfl rfl).mono ?_
     rintro e w4 ⟨rfl, K4⟩
     rw [HRI.out]
     replace HB := Lib.hid (K4.heap HB.out (by simp))
     replace HK := Lib.hid (HK.out.trans K4)
     replace HKB := Lib.hid (K4.heap HKB.out (by simp))
     clear K4
     obtain ⟨f0, f1, f2, f3, f4, f5, f6, f7, f8, f9, f10, f11, hltB, hltB1⟩ := cells12 HB.out
     obtain ⟨k0, k1, k2, k3, k4, k5, k6, hltK, hltK1⟩ := cells7 HKB.out
     go_wp2_with fail
     refine (mayAlways (⟨0, fl, st, pA, pn, pc, (pd : Int), code, last, inc, dep, only, wt, sA, sn, sc⟩ : Fr) _).mono ?_
     rintro e w5 ⟨rfl, K5⟩
     clear f0 f1 f2 f3 f4 f5 f6 f7 f8 f9 f10 f11 hltB hltB1 k0 k1 k2 k3 k4 k5 k6 hltK hltK1
     replace HB := Lib.hid (K5.heap HB.out (by simp))
     replace HK := Lib.hid (HK.out.trans K5)
     replace HKB := Lib.hid (K5.heap HKB.out (by simp))
     clear K5
     obtain ⟨f0, f1, f2, f3, f4, f5, f6, f7, f8, f9, f10, f11, hltB, hltB1⟩ := cells12 HB.out
     obtain ⟨k0, k1, k2, k3, k4, k5, k6, hltK, hltK1⟩ := cells7 HKB.out
     go_wp2_with fail
     refine (weightedF (⟨0, fl, st, pA, pn, pc, (pd : Int), code, last, inc, dep, only, wt, sA, sn, sc⟩ : Fr) _ hfl0 hfl1).mono ?_
     rintro e w6 ⟨rfl, K6⟩
     rw [HPRI.out]
     clear f0 f1 f2 f3 f4 f5 f6 f7 f8 f9 f10 f11 hltB hltB1 k0 k1 k2 k3 k4 k5 k6 hltK hltK1
     replace HB := Lib.hid (K6.heap HB.out (by simp))
     replace HK := Lib.hid (HK.out.trans K6)
     replace HKB := Lib.hid (K6.heap HKB.out (by simp))
     clear K6
     obtain ⟨f0, f1, f2, f3, f4, f5, f6, f7, f8, f9, f10, f11, hltB, hltB1⟩ := cells12 HB.out
     obtain ⟨k0, k1, k2, k3, k4, k5, k6, hltK, hltK1⟩ := cells7 HKB.out
     try simp only [Int.not_lt, Int.not_le] at *
     obtain ⟨bs, hbs⟩ : ∃ bs, w6.heap.size = bs := ⟨_, rfl⟩
     have hbsz : bs ≤ w6.heap.size := by omega
     have hBb : w0.heap.size < bs := by have := lt_of_heap HB.out; omega
     have hKb : kb < bs := by have := lt_of_heap HKB.out; omega
     clear hbs
     go_wp2_with (with_reducible refine stopAt (o := ⟨some 99, _, _, _, _, _⟩) ?_)
     generalize hW : World.alloc _ _ = w7
     have K7 : Kp [] w6 w7 := by rw [← hW]; (repeat (first | with_reducible exact Kp.refl _ _ | with_reducible assumption | with_reducible refine Kp.alloc ?_ _ | with_reducible refine Kp.drew ?_ | with_reducible refine Kp.drewN ?_ _ | (with_reducible refine Kp.setL ?_ ?_ _; focus (simp; done)) | (with_reducible refine Kp.setR ?_ ?_ _; focus (simp; done)) | (with_reducible refine Kp.setR ?_ ?_ _; focus (simp; omega))))
     have HN7 := Lib.hid (show w7.heap[w6.heap.size]? = some (.cells #[.int .u8 (pd : Int)] 5) by rw [← hW]; (repeat (first | with_reducible assumption | (with_reducible refine hp_new _ _ _ ?_; focus (simp; done)) | (with_reducible refine (hp_old _ _ _ ?_).trans ?_; focus (first | omega | (simp; done) | (simp; omega))) | (with_reducible refine (hp_far _ _ _ _ ?_).trans ?_; focus (first | (simp; done) | (simp; omega))) | (with_reducible refine (hp_drew _ _).trans ?_) | (with_reducible refine (hp_drewN _ _ _).trans ?_))))
     clear hW
     replace hbsz : bs ≤ _ := Nat.le_trans hbsz K7.size
     clear f0 f1 f2 f3 f4 f5 f6 f7 f8 f9 f10 f11 hltB hltB1 k0 k1 k2 k3 k4 k5 k6 hltK hltK1
     replace HB := Lib.hid (K7.heap HB.out (by simp))
     replace HK := Lib.hid (HK.out.trans K7)
     replace HKB := Lib.hid (K7.heap HKB.out (by simp))
     clear K7
     obtain ⟨f0, f1, f2, f3, f4, f5, f6, f7, f8, f9, f10, f11, hltB, hltB1⟩ := cells12 HB.out
     obtain ⟨k0, k1, k2, k3, k4, k5, k6, hltK, hltK1⟩ := cells7 HKB.out
     refine Stop.go (wp_appB rfl _ _ 22 5 rfl Try.underlying22 Try.info5 bs none 0 0 [] rfl (Ow.nil _ _ _ _) (some ⟨w6.heap.size, 0, none⟩) 1 1 [byteOf (pd : Int)] rfl (Rd.block HN7.out 0 1 1 [byteOf _] rfl (Nat.le_refl _) (by simp; exact u8_of hpad0 hpad1)) (by omega) (by omega) ?_)
     intro A8 n8 c8 l8 w8 hn8 hl8 O8 K8 hA8
     clear hA8
     have K8' : Kp [] _ w8 := K8.mono (by simp [ob])
     clear K8
     replace hbsz : bs ≤ _ := Nat.le_trans hbsz K8'.size
     clear f0 f1 f2 f3 f4 f5 f6 f7 f8 f9 f10 f11 hltB hltB1 k0 k1 k2 k3 k4 k5 k6 hltK hltK1
     replace HB := Lib.hid (K8'.heap HB.out (by simp))
     replace HK := Lib.hid (HK.out.trans K8')
     replace HKB := Lib.hid (K8'.heap HKB.out (by simp))
     clear K8'
     obtain ⟨f0, f1, f2, f3, f4, f5, f6, f7, f8, f9, f10, f11, hltB, hltB1⟩ := cells12 HB.out
     obtain ⟨k0, k1, k2, k3, k4, k5, k6, hltK, hltK1⟩ := cells7 HKB.out
     have hc8 := O8.cap.1
     have hN8a : n8 ≤ 1 := Nat.le_of_eq hn8.out
     have hN8b : 1 ≤ n8 := Nat.le_of_eq hn8.out.symm
     have HO := Lib.hid O8
     clear O8 hn8
     clear HN7
     go_wp2_with fail
     refine (weightedF (⟨0, fl, st, pA, pn, pc, (pd : Int), code, last, inc, dep, only, wt, sA, sn, sc⟩ : Fr) _ hfl0 hfl1).mono ?_
     rintro e w9 ⟨rfl, K9⟩
     rw [HPRI.out]
     replace HO := Lib.hid (HO.out.keep K9 (by simp))
     replace hbsz : bs ≤ _ := Nat.le_trans hbsz K9.size
     clear f0 f1 f2 f3 f4 f5 f6 f7 f8 f9 f10 f11 hltB hltB1 k0 k1 k2 k3 k4 k5 k6 hltK hltK1
     replace HB := Lib.hid (K9.heap HB.out (by simp))
     replace HK := Lib.hid (HK.out.trans K9)
     replace HKB := Lib.hid (K9.heap HKB.out (by simp))
     clear K9
     obtain ⟨f0, f1, f2, f3, f4, f5, f6, f7, f8, f9, f10, f11, hltB, hltB1⟩ := cells12 HB.out
     obtain ⟨k0, k1, k2, k3, k4, k5, k6, hltK, hltK1⟩ := cells7 HKB.out
     go_wp2_with fail
     refine (putPayload (⟨0, fl, st, pA, pn, pc, (pd : Int), code, last, inc, dep, only, wt, sA, sn, sc⟩ : Fr) l _ (HRD.out.keep HK.out (by simp))).mono ?_
     rintro e w14 ⟨Ap, np, cp, rfl, Rp, K14⟩
     have hnp : np ≤ 140737488351300 := by have h1 := Rp.len; have h2 := HRD.out.len; have h3 := HSD.out.len; (try simp [bytesOf_length] at h1); omega
     have HRP := Lib.hid Rp
     clear Rp
     replace HO := Lib.hid (HO.out.keep K14 (by simp))
     replace hbsz : bs ≤ _ := Nat.le_trans hbsz K14.size
     clear f0 f1 f2 f3 f4 f5 f6 f7 f8 f9 f10 f11 hltB hltB1 k0 k1 k2 k3 k4 k5 k6 hltK hltK1
     replace HB := Lib.hid (K14.heap HB.out (by simp))
     replace HK := Lib.hid (HK.out.trans K14)
     replace HKB := Lib.hid (K14.heap HKB.out (by simp))
     clear K14
     obtain ⟨f0, f1, f2, f3, f4, f5, f6, f7, f8, f9, f10, f11, hltB, hltB1⟩ := cells12 HB.out
     obtain ⟨k0, k1, k2, k3, k4, k5, k6, hltK, hltK1⟩ := cells7 HKB.out
     go_wp2_with (with_reducible refine stopAt (o := ⟨some 124, _, _, _, _, _⟩) ?_)
     refine Stop.go (wp_appB rfl _ _ 22 5 rfl Try.underlying22 Try.info5 bs A8 n8 c8 l8 rfl HO.out Ap np cp (l) rfl HRP.out (by omega) (by omega) ?_)
     intro A15 n15 c15 l15 w15 hn15 hl15 O15 K15 hA15
     clear hA15
     clear f0 f1 f2 f3 f4 f5 f6 f7 f8 f9 f10 f11 hltB hltB1 k0 k1 k2 k3 k4 k5 k6 hltK hltK1
     replace HB := Lib.hid (K15.heap HB.out (by intro hx; have := (HO.out.base _ hx).1; omega))
     replace HK := Lib.hid (HK.out.then K15 (fun t ht => .inr (by have := (HO.out.base t ht).1; omega)))
     replace HKB := Lib.hid (K15.heap HKB.out (by intro hx; have := (HO.out.base _ hx).1; omega))
     replace hbsz : bs ≤ _ := Nat.le_trans hbsz K15.size
     obtain ⟨f0, f1, f2, f3, f4, f5, f6, f7, f8, f9, f10, f11, hltB, hltB1⟩ := cells12 HB.out
     obtain ⟨k0, k1, k2, k3, k4, k5, k6, hltK, hltK1⟩ := cells7 HKB.out
     clear HO K15
     have hc15 := O15.cap.1
     have hN15a : n15 ≤ n8 + np := Nat.le_of_eq hn15.out
     have hN15b : n8 + np ≤ n15 := Nat.le_of_eq hn15.out.symm
     have HO := Lib.hid O15
     clear O15 hn15
     clear HRP
     go_wp2_with (with_reducible refine stopAt (o := ⟨some 129, _, _, _, _, _⟩) ?_)
     refine Stop.go (wp_appZ rfl _ _ 22 3 5 rfl Try.underlying22 Try.underlying3 Try.info5 bs A15 n15 c15 l15 rfl HO.out pd rfl (by omega) (by omega) ?_)
     intro A16 n16 c16 l16 w16 hn16 hl16 O16 K16
     clear f0 f1 f2 f3 f4 f5 f6 f7 f8 f9 f10 f11 hltB hltB1 k0 k1 k2 k3 k4 k5 k6 hltK hltK1
     replace HB := Lib.hid (K16.heap HB.out (by intro hx; have := (HO.out.base _ hx).1; omega))
     replace HK := Lib.hid (HK.out.then K16 (fun t ht => .inr (by have := (HO.out.base t ht).1; omega)))
     replace HKB := Lib.hid (K16.heap HKB.out (by intro hx; have := (HO.out.base _ hx).1; omega))
     replace hbsz : bs ≤ _ := Nat.le_trans hbsz K16.size
     obtain ⟨f0, f1, f2, f3, f4, f5, f6, f7, f8, f9, f10, f11, hltB, hltB1⟩ := cells12 HB.out
     obtain ⟨k0, k1, k2, k3, k4, k5, k6, hltK, hltK1⟩ := cells7 HKB.out
     clear HO K16
     have hc16 := O16.cap.1
     have hN16a : n16 ≤ n15 + pd := Nat.le_of_eq hn16.out
     have hN16b : n15 + pd ≤ n16 := Nat.le_of_eq hn16.out.symm
     have HO := Lib.hid O16
     clear O16 hn16
     have hlc : l16.length = n16 := by have := HO.out.len; simpa using this
     have hlb : l16 = [byteOf pd] ++ (l) ++ List.replicate pd 0 := by rw [hl16.out, hl15.out, hl8.out]; simp
     have HLB := Lib.hid hlb
     have HLC := Lib.hid hlc
     clear hlb hlc hl16 hl15 hl8
     by_cases hbig : n16 < 16777216
     ·have hpw : putR (n16 : Int) 3 16777216 = (bytesOf n16 3, 0) := putR_yes (by omega)
      have HPW := Lib.hid hpw
      clear hpw
      go_wp2_with fail
      refine (Put24_any (n16 : Int) _ (by omega)).mono ?_
      rintro e w17 ⟨Ao, no, rfl, Ro, _, K17⟩
      rw [HPW.out] at Ro ⊢
      dsimp only at Ro ⊢
      have eno := Ro.len
      rw [bytesOf_length] at eno
      subst eno
      have HRO := Lib.hid Ro
      clear Ro
      replace HO := Lib.hid (HO.out.keep K17 (by simp))
      replace hbsz : bs ≤ _ := Nat.le_trans hbsz K17.size
      clear f0 f1 f2 f3 f4 f5 f6 f7 f8 f9 f10 f11 hltB hltB1 k0 k1 k2 k3 k4 k5 k6 hltK hltK1
      replace HB := Lib.hid (K17.heap HB.out (by simp))
      replace HK := Lib.hid (HK.out.trans K17)
      replace HKB := Lib.hid (K17.heap HKB.out (by simp))
      clear K17
      obtain ⟨f0, f1, f2, f3, f4, f5, f6, f7, f8, f9, f10, f11, hltB, hltB1⟩ := cells12 HB.out
      obtain ⟨k0, k1, k2, k3, k4, k5, k6, hltK, hltK1⟩ := cells7 HKB.out
      go_wp2_with (with_reducible refine stopAt (o := ⟨some 146, _, _, _, _, _⟩) ?_)
      generalize hW : World.alloc _ _ = w18
      have K18 : Kp [] w17 w18 := by rw [← hW]; (repeat (first | with_reducible exact Kp.refl _ _ | with_reducible assumption | with_reducible refine Kp.alloc ?_ _ | with_reducible refine Kp.drew ?_ | with_reducible refine Kp.drewN ?_ _ | (with_reducible refine Kp.setL ?_ ?_ _; focus (simp; done)) | (with_reducible refine Kp.setR ?_ ?_ _; focus (simp; done)) | (with_reducible refine Kp.setR ?_ ?_ _; focus (simp; omega))))
      have HN18 := Lib.hid (show w18.heap[w17.heap.size]? = some (.cells #[.int .u8 0, .int .u8 fl] 5) by rw [← hW]; (repeat (first | with_reducible assumption | (with_reducible refine hp_new _ _ _ ?_; focus (simp; done)) | (with_reducible refine (hp_old _ _ _ ?_).trans ?_; focus (first | omega | (simp; done) | (simp; omega))) | (with_reducible refine (hp_far _ _ _ _ ?_).trans ?_; focus (first | (simp; done) | (simp; omega))) | (with_reducible refine (hp_drew _ _).trans ?_) | (with_reducible refine (hp_drewN _ _ _).trans ?_))))
      clear hW
      have HRO' := Lib.hid (HRO.out.keep K18 (by simp))
      clear HRO
      replace HO := Lib.hid (HO.out.keep K18 (by simp))
      replace hbsz : bs ≤ _ := Nat.le_trans hbsz K18.size
      clear f0 f1 f2 f3 f4 f5 f6 f7 f8 f9 f10 f11 hltB hltB1 k0 k1 k2 k3 k4 k5 k6 hltK hltK1
      replace HB := Lib.hid (K18.heap HB.out (by simp))
      replace HK := Lib.hid (HK.out.trans K18)
      replace HKB := Lib.hid (K18.heap HKB.out (by simp))
      clear K18
      obtain ⟨f0, f1, f2, f3, f4, f5, f6, f7, f8, f9, f10, f11, hltB, hltB1⟩ := cells12 HB.out
      obtain ⟨k0, k1, k2, k3, k4, k5, k6, hltK, hltK1⟩ := cells7 HKB.out
      refine Stop.go (wp_appF rfl _ _ 22 5 rfl Try.underlying22 Try.info5 bs Ao 3 (bytesOf n16 3) rfl HRO'.out (some ⟨w17.heap.size, 0, none⟩) 2 2 [byteOf 0, byteOf fl] rfl (Rd.block HN18.out 0 2 2 _ rfl (Nat.le_refl _) (by simp; exact ⟨u8_of (by omega) (by omega), u8_of hfl0 hfl1⟩)) (by omega) (by omega) (by omega) (by omega) ?_)
      intro A19 n19 c19 l19 w19 hn19 hl19 O19 K19 hA19
      have hxb : ∀ t, t ∈ ob A16 → t ∉ ob A19 := by
       intro t h1 h2
       have := (HO.out.base t h1).2
       rw [hA19] at h2
       simp [ob] at h2
       omega
      clear HN18 HRO' hA19
      replace HO := Lib.hid (HO.out.keep K19 (by simp))
      replace hbsz : bs ≤ _ := Nat.le_trans hbsz K19.size
      clear f0 f1 f2 f3 f4 f5 f6 f7 f8 f9 f10 f11 hltB hltB1 k0 k1 k2 k3 k4 k5 k6 hltK hltK1
      replace HB := Lib.hid (K19.heap HB.out (by simp))
      replace HK := Lib.hid (HK.out.trans K19)
      replace HKB := Lib.hid (K19.heap HKB.out (by simp))
      clear K19
      obtain ⟨f0, f1, f2, f3, f4, f5, f6, f7, f8, f9, f10, f11, hltB, hltB1⟩ := cells12 HB.out
      obtain ⟨k0, k1, k2, k3, k4, k5, k6, hltK, hltK1⟩ := cells7 HKB.out
      have hN19a : n19 ≤ 3 + 2 := Nat.le_of_eq hn19.out
      have HP := Lib.hid O19
      clear O19 hn19
      go_wp2_with fail
      refine (fourF st _ hst0 hst1).mono ?_
      rintro e w20 ⟨A4, n4, rfl, R4, _, K20⟩
      have en4 := R4.len
      rw [bytesOf_length] at en4
      subst en4
      have HP' := Lib.hid (HP.out.keep K20 (by simp))
      clear HP
      have HR4 := Lib.hid R4
      clear R4
      replace HO := Lib.hid (HO.out.keep K20 (by simp))
      replace hbsz : bs ≤ _ := Nat.le_trans hbsz K20.size
      clear f0 f1 f2 f3 f4 f5 f6 f7 f8 f9 f10 f11 hltB hltB1 k0 k1 k2 k3 k4 k5 k6 hltK hltK1
      replace HB := Lib.hid (K20.heap HB.out (by simp))
      replace HK := Lib.hid (HK.out.trans K20)
      replace HKB := Lib.hid (K20.heap HKB.out (by simp))
      clear K20
      obtain ⟨f0, f1, f2, f3, f4, f5, f6, f7, f8, f9, f10, f11, hltB, hltB1⟩ := cells12 HB.out
      obtain ⟨k0, k1, k2, k3, k4, k5, k6, hltK, hltK1⟩ := cells7 HKB.out
      go_wp2_with (with_reducible refine stopAt (o := ⟨some 151, _, _, _, _, _⟩) ?_)
      refine Stop.go (wp_appB rfl _ _ 22 5 rfl Try.underlying22 Try.info5 bs A19 n19 c19 l19 rfl HP'.out A4 4 4 _ rfl HR4.out (by omega) (by omega) ?_)
      intro A21 n21 c21 l21 w21 hn21 hl21 O21 K21 hA21
      have hN21a : n21 ≤ n19 + 4 := Nat.le_of_eq hn21.out
      have HR21 := Lib.hid (HO.out.keep K21 hxb).rd
      clear f0 f1 f2 f3 f4 f5 f6 f7 f8 f9 f10 f11 hltB hltB1 k0 k1 k2 k3 k4 k5 k6 hltK hltK1
      replace HB := Lib.hid (K21.heap HB.out (by intro hx; have := (HP'.out.base _ hx).1; omega))
      replace HK := Lib.hid (HK.out.then K21 (fun t ht => .inr (by have := (HP'.out.base t ht).1; omega)))
      replace HKB := Lib.hid (K21.heap HKB.out (by intro hx; have := (HP'.out.base _ hx).1; omega))
      replace hbsz : bs ≤ _ := Nat.le_trans hbsz K21.size
      obtain ⟨f0, f1, f2, f3, f4, f5, f6, f7, f8, f9, f10, f11, hltB, hltB1⟩ := cells12 HB.out
      obtain ⟨k0, k1, k2, k3, k4, k5, k6, hltK, hltK1⟩ := cells7 HKB.out
      clear HO HP' hA21 hn21 HR4 hxb K21
      have HO := Lib.hid O21
      have hc21 := O21.cap.1
      clear O21
      go_wp2_with (with_reducible refine stopAt (o := ⟨some 153, _, _, _, _, _⟩) ?_)
      refine Stop.go (wp_appB rfl _ _ 22 5 rfl Try.underlying22 Try.info5 bs A21 n21 c21 l21 rfl HO.out A16 n16 c16 l16 rfl HR21.out (by omega) (by omega) ?_)
      intro A22 n22 c22 l22 w22 hn22 hl22 O22 K22 hA22
      have HK22 := Lib.hid (HK.out.then K22 (fun t ht => .inr (by have := (HO.out.base t ht).1; omega)))
      have HO22 := Lib.hid O22
      clear O22 K22 hA22 hn22 HR21
      have hw := wr_ok (HG.out) (rfl : bodyW ((⟨0, fl, st, pA, pn, pc, (pd : Int), code, last, inc, dep, only, wt, sA, sn, sc⟩ : Fr).p l ss) = _) (by rw [HBD.out, ← HLB.out, HLC.out]; exact hbig)
      have hp := HRR.out.symm.trans hw
      have h1 : R1 = l22 := by
       have := congrArg Prod.fst hp
       dsimp only at this
       rw [this, hl22.out, hl21.out, hl19.out, HBD.out, ← HLB.out, HLC.out]
       rfl
      have h2 : R2 = 0 := congrArg Prod.snd hp
      have H1 := Lib.hid h1
      subst h2
      clear hw hp h1
      go_wp2
      go_ret2
      exact ⟨A22, n22, c22, rfl, by rw [H1.out]; exact HO22.out.mono (by omega), HK22.out⟩
     ·have hpw : putR (n16 : Int) 3 16777216 = ([], 1) := putR_no (by omega)
      have HPW := Lib.hid hpw
      clear hpw
      go_wp2_with fail
      refine (Put24_any (n16 : Int) _ (by omega)).mono ?_
      rintro e w17 ⟨Ao, no, rfl, Ro, _, K17⟩
      rw [HPW.out] at Ro ⊢
      dsimp only at Ro ⊢
      have HK17 := Lib.hid (HK.out.trans K17)
      have hw := wr_long (HG.out) (rfl : bodyW ((⟨0, fl, st, pA, pn, pc, (pd : Int), code, last, inc, dep, only, wt, sA, sn, sc⟩ : Fr).p l ss) = _) (by rw [HBD.out, ← HLB.out, HLC.out]; exact hbig)
      have hp := HRR.out.symm.trans hw
      have h1 : R1 = [] := congrArg Prod.fst hp
      have h2 : R2 = 2 := congrArg Prod.snd hp
      subst h1 h2
      clear hw hp K17 Ro
      go_wp2
      go_ret2
      exact ⟨none, 0, 0, rfl, Ow.nil _ _ _ _, HK17.out⟩
    ·have HPRI := Lib.hid (show prioB 0 fl = false by simp [prioB])
     obtain ⟨pd, rfl⟩ := Int.eq_ofNat_of_zero_le hpad0
     have hgood : goodW ((⟨0, fl, st, pA, pn, pc, (pd : Int), code, last, inc, dep, only, wt, sA, sn, sc⟩ : Fr).p l ss) = true := by simp [goodW, Fr.p, known, rightB, zeroB, mayK, padOk, paddedB, prioOk, prioB, padF, HST.out, HS.out, h8, hfl0, hfl1, hpad0, hpad1]
     have HG := Lib.hid hgood
     clear hgood
     obtain ⟨⟨R1, R2⟩, hR⟩ : ∃ R, wr ((⟨0, fl, st, pA, pn, pc, (pd : Int), code, last, inc, dep, only, wt, sA, sn, sc⟩ : Fr).p l ss) = R := ⟨_, rfl⟩
     rw [hR]
     have HRR := Lib.hid hR
     clear hR
     dsimp only
     obtain ⟨hst0, hst1⟩ := idB_of HST.out
     have hbd : bodyW ((⟨0, fl, st, pA, pn, pc, (pd : Int), code, last, inc, dep, only, wt, sA, sn, sc⟩ : Fr).p l ss) = [byteOf pd] ++ (l) ++ List.replicate pd 0 := by
      simp [bodyW, Fr.p, padF, paddedB, prioB, putW, h8]
     have HBD := Lib.hid hbd
     clear hbd
     go_enter Try.func98, Try.ntmps98
     go_wp2_with fail
     refine (Known_any 0 _).mono ?_
     rintro e w1 ⟨rfl, rfl⟩
     rw [show knownB 0 = true from rfl]
     go_wp2_with fail
     refine (idF st _).mono ?_
     rintro e w1 ⟨rfl, rfl⟩
     rw [HST.out]
     go_wp2_with fail
     refine (kinds0 _).mono ?_
     rintro e w2 ⟨rfl, K2⟩
     have HB := Lib.hid (K2.heap (hp_new w0 (.cells #[.int .i64 0, .int .i64 fl, .int .i64 st, .slice pA pn pc, .int .i64 (pd : Int), .int .u32 code, .int .i64 last, .int .i64 inc, .int .i64 dep, .bool only, .int .i64 wt, .slice sA sn sc] 49) _ rfl) (by simp))
     have HK := Lib.hid (((Kp.refl [] w0).alloc (.cells #[.int .i64 0, .int .i64 fl, .int .i64 st, .slice pA pn pc, .int .i64 (pd : Int), .int .u32 code, .int .i64 last, .int .i64 inc, .int .i64 dep, .bool only, .int .i64 wt, .slice sA sn sc] 49)).trans K2)
     clear K2
     obtain ⟨f0, f1, f2, f3, f4, f5, f6, f7, f8, f9, f10, f11, hltB, hltB1⟩ := cells12 HB.out
     go_wp2_with fail
     have K3 : Kp [] w2 (w2.alloc (.cells #[.bool false, .bool false, .bool true, Fv 161, Fv 163, Fv 160, Fv 164] 185)) := (Kp.refl _ _).alloc _
     have HKB := Lib.hid (hp_new w2 (.cells #[.bool false, .bool false, .bool true, Fv 161, Fv 163, Fv 160, Fv 164] 185) _ rfl)
     clear f0 f1 f2 f3 f4 f5 f6 f7 f8 f9 f10 f11 hltB hltB1
     replace HB := Lib.hid (K3.heap HB.out (by simp))
     replace HK := Lib.hid (HK.out.trans K3)
     clear K3
     generalize hkb : w2.heap.size = kb at *
     generalize hW : w2.alloc (.cells #[.bool false, .bool false, .bool true, Fv 161, Fv 163, Fv 160, Fv 164] 185) = w3 at *
     clear hW hkb
     refine (rightF false false true (Fv 161) (Fv 163) (Fv 160) (Fv 164) st _ rfl rfl rfl rfl).mono ?_
     rintro e w4 ⟨rfl, K4⟩
     rw [HRI.out]
     replace HB := Lib.hid (K4.heap HB.out (by simp))
     replace HK := Lib.hid (HK.out.trans K4)
     replace HKB := Lib.hid (K4.heap HKB.out (by simp))
     clear K4
     obtain ⟨f0, f1, f2, f3, f4, f5, f6, f7, f8, f9, f10, f11, hltB, hltB1⟩ := cells12 HB.out
     obtain ⟨k0, k1, k2, k3, k4, k5, k6, hltK, hltK1⟩ := cells7 HKB.out
     go_wp2_with fail
     refine (mayAlways (⟨0, fl, st, pA, pn, pc, (pd : Int), code, last, inc, dep, only, wt, sA, sn, sc⟩ : Fr) _).mono ?_
     rintro e w5 ⟨rfl, K5⟩
     clear f0 f1 f2 f3 f4 f5 f6 f7 f8 f9 f10 f11 hltB hltB1 k0 k1 k2 k3 k4 k5 k6 hltK hltK1
     replace HB := Lib.hid (K5.heap HB.out (by simp))
     replace HK := Lib.hid (HK.out.trans K5)
     replace HKB := Lib.hid (K5.heap HKB.out (by simp))
     clear K5
     obtain ⟨f0, f1, f2, f3, f4, f5, f6, f7, f8, f9, f10, f11, hltB, hltB1⟩ := cells12 HB.out
     obtain ⟨k0, k1, k2, k3, k4, k5, k6, hltK, hltK1⟩ := cells7 HKB.out
     go_wp2_with fail
     refine (weightedF (⟨0, fl, st, pA, pn, pc, (pd : Int), code, last, inc, dep, only, wt, sA, sn, sc⟩ : Fr) _ hfl0 hfl1).mono ?_
     rintro e w6 ⟨rfl, K6⟩
     rw [HPRI.out]
     clear f0 f1 f2 f3 f4 f5 f6 f7 f8 f9 f10 f11 hltB hltB1 k0 k1 k2 k3 k4 k5 k6 hltK hltK1
     replace HB := Lib.hid (K6.heap HB.out (by simp))
     replace HK := Lib.hid (HK.out.trans K6)
     replace HKB := Lib.hid (K6.heap HKB.out (by simp))
     clear K6
     obtain ⟨f0, f1, f2, f3, f4, f5, f6, f7, f8, f9, f10, f11, hltB, hltB1⟩ := cells12 HB.out
     obtain ⟨k0, k1, k2, k3, k4, k5, k6, hltK, hltK1⟩ := cells7 HKB.out
     try simp only [Int.not_lt, Int.not_le] at *
     obtain ⟨bs, hbs⟩ : ∃ bs, w6.heap.size = bs := ⟨_, rfl⟩
     have hbsz : bs ≤ w6.heap.size := by omega
     have hBb : w0.heap.size < bs := by have := lt_of_heap HB.out; omega
     have hKb : kb < bs := by have := lt_of_heap HKB.out; omega
     clear hbs
     go_wp2_with (with_reducible refine stopAt (o := ⟨some 99, _, _, _, _, _⟩) ?_)
     generalize hW : World.alloc _ _ = w7
     have K7 : Kp [] w6 w7 := by rw [← hW]; (repeat (first | with_reducible exact Kp.refl _ _ | with_reducible assumption | with_reducible refine Kp.alloc ?_ _ | with_reducible refine Kp.drew ?_ | with_reducible refine Kp.drewN ?_ _ | (with_reducible refine Kp.setL ?_ ?_ _; focus (simp; done)) | (with_reducible refine Kp.setR ?_ ?_ _; focus (simp; done)) | (with_reducible refine Kp.setR ?_ ?_ _; focus (simp; omega))))
     have HN7 := Lib.hid (show w7.heap[w6.heap.size]? = some (.cells #[.int .u8 (pd : Int)] 5) by rw [← hW]; (repeat (first | with_reducible assumption | (with_reducible refine hp_new _ _ _ ?_; focus (simp; done)) | (with_reducible refine (hp_old _ _ _ ?_).trans ?_; focus (first | omega | (simp; done) | (simp; omega))) | (with_reducible refine (hp_far _ _ _ _ ?_).trans ?_; focus (first | (simp; done) | (simp; omega))) | (with_reducible refine (hp_drew _ _).trans ?_) | (with_reducible refine (hp_drewN _ _ _).trans ?_))))
     clear hW
     replace hbsz : bs ≤ _ := Nat.le_trans hbsz K7.size
     clear f0 f1 f2 f3 f4 f5 f6 f7 f8 f9 f10 f11 hltB hltB1 k0 k1 k2 k3 k4 k5 k6 hltK hltK1
     replace HB := Lib.hid (K7.heap HB.out (by simp))
     replace HK := Lib.hid (HK.out.trans K7)
     replace HKB := Lib.hid (K7.heap HKB.out (by simp))
     clear K7
     obtain ⟨f0, f1, f2, f3, f4, f5, f6, f7, f8, f9, f10, f11, hltB, hltB1⟩ := cells12 HB.out
     obtain ⟨k0, k1, k2, k3, k4, k5, k6, hltK, hltK1⟩ := cells7 HKB.out
     refine Stop.go (wp_appB rfl _ _ 22 5 rfl Try.underlying22 Try.info5 bs none 0 0 [] rfl (Ow.nil _ _ _ _) (some ⟨w6.heap.size, 0, none⟩) 1 1 [byteOf (pd : Int)] rfl (Rd.block HN7.out 0 1 1 [byteOf _] rfl (Nat.le_refl _) (by simp; exact u8_of hpad0 hpad1)) (by omega) (by omega) ?_)
     intro A8 n8 c8 l8 w8 hn8 hl8 O8 K8 hA8
     clear hA8
     have K8' : Kp [] _ w8 := K8.mono (by simp [ob])
     clear K8
     replace hbsz : bs ≤ _ := Nat.le_trans hbsz K8'.size
     clear f0 f1 f2 f3 f4 f5 f6 f7 f8 f9 f10 f11 hltB hltB1 k0 k1 k2 k3 k4 k5 k6 hltK hltK1
     replace HB := Lib.hid (K8'.heap HB.out (by simp))
     replace HK := Lib.hid (HK.out.trans K8')
     replace HKB := Lib.hid (K8'.heap HKB.out (by simp))
     clear K8'
     obtain ⟨f0, f1, f2, f3, f4, f5, f6, f7, f8, f9, f10, f11, hltB, hltB1⟩ := cells12 HB.out
     obtain ⟨k0, k1, k2, k3, k4, k5, k6, hltK, hltK1⟩ := cells7 HKB.out
     have hc8 := O8.cap.1
     have hN8a : n8 ≤ 1 := Nat.le_of_eq hn8.out
     have hN8b : 1 ≤ n8 := Nat.le_of_eq hn8.out.symm
     have HO := Lib.hid O8
     clear O8 hn8
     clear HN7
     go_wp2_with fail
     refine (weightedF (⟨0, fl, st, pA, pn, pc, (pd : Int), code, last, inc, dep, only, wt, sA, sn, sc⟩ : Fr) _ hfl0 hfl1).mono ?_
     rintro e w9 ⟨rfl, K9⟩
     rw [HPRI.out]
     replace HO := Lib.hid (HO.out.keep K9 (by simp))
     replace hbsz : bs ≤ _ := Nat.le_trans hbsz K9.size
     clear f0 f1 f2 f3 f4 f5 f6 f7 f8 f9 f10 f11 hltB hltB1 k0 k1 k2 k3 k4 k5 k6 hltK hltK1
     replace HB := Lib.hid (K9.heap HB.out (by simp))
     replace HK := Lib.hid (HK.out.trans K9)
     replace HKB := Lib.hid (K9.heap HKB.out (by simp))
     clear K9
     obtain ⟨f0, f1, f2, f3, f4, f5, f6, f7, f8, f9, f10, f11, hltB, hltB1⟩ := cells12 HB.out
     obtain ⟨k0, k1, k2, k3, k4, k5, k6, hltK, hltK1⟩ := cells7 HKB.out
     go_wp2_with fail
     refine (putPayload (⟨0, fl, st, pA, pn, pc, (pd : Int), code, last, inc, dep, only, wt, sA, sn, sc⟩ : Fr) l _ (HRD.out.keep HK.out (by simp))).mono ?_
     rintro e w14 ⟨Ap, np, cp, rfl, Rp, K14⟩
     have hnp : np ≤ 140737488351300 := by have h1 := Rp.len; have h2 := HRD.out.len; have h3 := HSD.out.len; (try simp [bytesOf_length] at h1); omega
     have HRP := Lib.hid Rp
     clear Rp
     replace HO := Lib.hid (HO.out.keep K14 (by simp))
     replace hbsz : bs ≤ _ := Nat.le_trans hbsz K14.size
     clear f0 f1 f2 f3 f4 f5 f6 f7 f8 f9 f10 f11 hltB hltB1 k0 k1 k2 k3 k4 k5 k6 hltK hltK1
     replace HB := Lib.hid (K14.heap HB.out (by simp))
     replace HK := Lib.hid (HK.out.trans K14)
     replace HKB := Lib.hid (K14.heap HKB.out (by simp))
     clear K14
     obtain ⟨f0, f1, f2, f3, f4, f5, f6, f7, f8, f9, f10, f11, hltB, hltB1⟩ := cells12 HB.out
     obtain ⟨k0, k1, k2, k3, k4, k5, k6, hltK, hltK1⟩ := cells7 HKB.out
     go_wp2_with (with_reducible refine stopAt (o := ⟨some 124, _, _, _, _, _⟩) ?_)
     refine Stop.go (wp_appB rfl _ _ 22 5 rfl Try.underlying22 Try.info5 bs A8 n8 c8 l8 rfl HO.out Ap np cp (l) rfl HRP.out (by omega) (by omega) ?_)
     intro A15 n15 c15 l15 w15 hn15 hl15 O15 K15 hA15
     clear hA15
     clear f0 f1 f2 f3 f4 f5 f6 f7 f8 f9 f10 f11 hltB hltB1 k0 k1 k2 k3 k4 k5 k6 hltK hltK1
     replace HB := Lib.hid (K15.heap HB.out (by intro hx; have := (HO.out.base _ hx).1; omega))
     replace HK := Lib.hid (HK.out.then K15 (fun t ht => .inr (by have := (HO.out.base t ht).1; omega)))
     replace HKB := Lib.hid (K15.heap HKB.out (by intro hx; have := (HO.out.base _ hx).1; omega))
     replace hbsz : bs ≤ _ := Nat.le_trans hbsz K15.size
     obtain ⟨f0, f1, f2, f3, f4, f5, f6, f7, f8, f9, f10, f11, hltB, hltB1⟩ := cells12 HB.out
     obtain ⟨k0, k1, k2, k3, k4, k5, k6, hltK, hltK1⟩ := cells7 HKB.out
     clear HO K15
     have hc15 := O15.cap.1
     have hN15a : n15 ≤ n8 + np := Nat.le_of_eq hn15.out
     have hN15b : n8 + np ≤ n15 := Nat.le_of_eq hn15.out.symm
     have HO := Lib.hid O15
     clear O15 hn15
     clear HRP
     go_wp2_with (with_reducible refine stopAt (o := ⟨some 129, _, _, _, _, _⟩) ?_)
     refine Stop.go (wp_appZ rfl _ _ 22 3 5 rfl Try.underlying22 Try.underlying3 Try.info5 bs A15 n15 c15 l15 rfl HO.out pd rfl (by omega) (by omega) ?_)
     intro A16 n16 c16 l16 w16 hn16 hl16 O16 K16
     clear f0 f1 f2 f3 f4 f5 f6 f7 f8 f9 f10 f11 hltB hltB1 k0 k1 k2 k3 k4 k5 k6 hltK hltK1
     replace HB := Lib.hid (K16.heap HB.out (by intro hx; have := (HO.out.base _ hx).1; omega))
     replace HK := Lib.hid (HK.out.then K16 (fun t ht => .inr (by have := (HO.out.base t ht).1; omega)))
     replace HKB := Lib.hid (K16.heap HKB.out (by intro hx; have := (HO.out.base _ hx).1; omega))
     replace hbsz : bs ≤ _ := Nat.le_trans hbsz K16.size
     obtain ⟨f0, f1, f2, f3, f4, f5, f6, f7, f8, f9, f10, f11, hltB, hltB1⟩ := cells12 HB.out
     obtain ⟨k0, k1, k2, k3, k4, k5, k6, hltK, hltK1⟩ := cells7 HKB.out
     clear HO K16
     have hc16 := O16.cap.1
     have hN16a : n16 ≤ n15 + pd := Nat.le_of_eq hn16.out
     have hN16b : n15 + pd ≤ n16 := Nat.le_of_eq hn16.out.symm
     have HO := Lib.hid O16
     clear O16 hn16
     have hlc : l16.length = n16 := by have := HO.out.len; simpa using this
     have hlb : l16 = [byteOf pd] ++ (l) ++ List.replicate pd 0 := by rw [hl16.out, hl15.out, hl8.out]; simp
     have HLB := Lib.hid hlb
     have HLC := Lib.hid hlc
     clear hlb hlc hl16 hl15 hl8
     by_cases hbig : n16 < 16777216
     ·have hpw : putR (n16 : Int) 3 16777216 = (bytesOf n16 3, 0) := putR_yes (by omega)
      have HPW := Lib.hid hpw
      clear hpw
      go_wp2_with fail
      refine (Put24_any (n16 : Int) _ (by omega)).mono ?_
      rintro e w17 ⟨Ao, no, rfl, Ro, _, K17⟩
      rw [HPW.out] at Ro ⊢
      dsimp only at Ro ⊢
      have eno := Ro.len
      rw [bytesOf_length] at eno
      subst eno
      have HRO := Lib.hid Ro
      clear Ro
      replace HO := Lib.hid (HO.out.keep K17 (by simp))
      replace hbsz : bs ≤ _ := Nat.le_trans hbsz K17.size
      clear f0 f1 f2 f3 f4 f5 f6 f7 f8 f9 f10 f11 hltB hltB1 k0 k1 k2 k3 k4 k5 k6 hltK hltK1
      replace HB := Lib.hid (K17.heap HB.out (by simp))
      replace HK := Lib.hid (HK.out.trans K17)
      replace HKB := Lib.hid (K17.heap HKB.out (by simp))
      clear K17
      obtain ⟨f0, f1, f2, f3, f4, f5, f6, f7, f8, f9, f10, f11, hltB, hltB1⟩ := cells12 HB.out
      obtain ⟨k0, k1, k2, k3, k4, k5, k6, hltK, hltK1⟩ := cells7 HKB.out
      go_wp2_with (with_reducible refine stopAt (o := ⟨some 146, _, _, _, _, _⟩) ?_)
      generalize hW : World.alloc _ _ = w18
      have K18 : Kp [] w17 w18 := by rw [← hW]; (repeat (first | with_reducible exact Kp.refl _ _ | with_reducible assumption | with_reducible refine Kp.alloc ?_ _ | with_reducible refine Kp.drew ?_ | with_reducible refine Kp.drewN ?_ _ | (with_reducible refine Kp.setL ?_ ?_ _; focus (simp; done)) | (with_reducible refine Kp.setR ?_ ?_ _; focus (simp; done)) | (with_reducible refine Kp.setR ?_ ?_ _; focus (simp; omega))))
      have HN18 := Lib.hid (show w18.heap[w17.heap.size]? = some (.cells #[.int .u8 0, .int .u8 fl] 5) by rw [← hW]; (repeat (first | with_reducible assumption | (with_reducible refine hp_new _ _ _ ?_; focus (simp; done)) | (with_reducible refine (hp_old _ _ _ ?_).trans ?_; focus (first | omega | (simp; done) | (simp; omega))) | (with_reducible refine (hp_far _ _ _ _ ?_).trans ?_; focus (first | (simp; done) | (simp; omega))) | (with_reducible refine (hp_drew _ _).trans ?_) | (with_reducible refine (hp_drewN _ _ _).trans ?_))))
      clear hW
      have HRO' := Lib.hid (HRO.out.keep K18 (by simp))
      clear HRO
      replace HO := Lib.hid (HO.out.keep K18 (by simp))
      replace hbsz : bs ≤ _ := Nat.le_trans hbsz K18.size
      clear f0 f1 f2 f3 f4 f5 f6 f7 f8 f9 f10 f11 hltB hltB1 k0 k1 k2 k3 k4 k5 k6 hltK hltK1
      replace HB := Lib.hid (K18.heap HB.out (by simp))
      replace HK := Lib.hid (HK.out.trans K18)
      replace HKB := Lib.hid (K18.heap HKB.out (by simp))
      clear K18
      obtain ⟨f0, f1, f2, f3, f4, f5, f6, f7, f8, f9, f10, f11, hltB, hltB1⟩ := cells12 HB.out
      obtain ⟨k0, k1, k2, k3, k4, k5, k6, hltK, hltK1⟩ := cells7 HKB.out
      refine Stop.go (wp_appF rfl _ _ 22 5 rfl Try.underlying22 Try.info5 bs Ao 3 (bytesOf n16 3) rfl HRO'.out (some ⟨w17.heap.size, 0, none⟩) 2 2 [byteOf 0, byteOf fl] rfl (Rd.block HN18.out 0 2 2 _ rfl (Nat.le_refl _) (by simp; exact ⟨u8_of (by omega) (by omega), u8_of hfl0 hfl1⟩)) (by omega) (by omega) (by omega) (by omega) ?_)
      intro A19 n19 c19 l19 w19 hn19 hl19 O19 K19 hA19
      have hxb : ∀ t, t ∈ ob A16 → t ∉ ob A19 := by
       intro t h1 h2
       have := (HO.out.base t h1).2
       rw [hA19] at h2
       simp [ob] at h2
       omega
      clear HN18 HRO' hA19
      replace HO := Lib.hid (HO.out.keep K19 (by simp))
      replace hbsz : bs ≤ _ := Nat.le_trans hbsz K19.size
      clear f0 f1 f2 f3 f4 f5 f6 f7 f8 f9 f10 f11 hltB hltB1 k0 k1 k2 k3 k4 k5 k6 hltK hltK1
      replace HB := Lib.hid (K19.heap HB.out (by simp))
      replace HK := Lib.hid (HK.out.trans K19)
      replace HKB := Lib.hid (K19.heap HKB.out (by simp))
      clear K19
      obtain ⟨f0, f1, f2, f3, f4, f5, f6, f7, f8, f9, f10, f11, hltB, hltB1⟩ := cells12 HB.out
      obtain ⟨k0, k1, k2, k3, k4, k5, k6, hltK, hltK1⟩ := cells7 HKB.out
      have hN19a : n19 ≤ 3 + 2 := Nat.le_of_eq hn19.out
      have HP := Lib.hid O19
      clear O19 hn19
      go_wp2_with fail
      refine (fourF st _ hst0 hst1).mono ?_
      rintro e w20 ⟨A4, n4, rfl, R4, _, K20⟩
      have en4 := R4.len
      rw [bytesOf_length] at en4
      subst en4
      have HP' := Lib.hid (HP.out.keep K20 (by simp))
      clear HP
      have HR4 := Lib.hid R4
      clear R4
      replace HO := Lib.hid (HO.out.keep K20 (by simp))
      replace hbsz : bs ≤ _ := Nat.le_trans hbsz K20.size
      clear f0 f1 f2 f3 f4 f5 f6 f7 f8 f9 f10 f11 hltB hltB1 k0 k1 k2 k3 k4 k5 k6 hltK hltK1
      replace HB := Lib.hid (K20.heap HB.out (by simp))
      replace HK := Lib.hid (HK.out.trans K20)
      replace HKB := Lib.hid (K20.heap HKB.out (by simp))
      clear K20
      obtain ⟨f0, f1, f2, f3, f4, f5, f6, f7, f8, f9, f10, f11, hltB, hltB1⟩ := cells12 HB.out
      obtain ⟨k0, k1, k2, k3, k4, k5, k6, hltK, hltK1⟩ := cells7 HKB.out
      go_wp2_with (with_reducible refine stopAt (o := ⟨some 151, _, _, _, _, _⟩) ?_)
      refine Stop.go (wp_appB rfl _ _ 22 5 rfl Try.underlying22 Try.info5 bs A19 n19 c19 l19 rfl HP'.out A4 4 4 _ rfl HR4.out (by omega) (by omega) ?_)
      intro A21 n21 c21 l21 w21 hn21 hl21 O21 K21 hA21
      have hN21a : n21 ≤ n19 + 4 := Nat.le_of_eq hn21.out
      have HR21 := Lib.hid (HO.out.keep K21 hxb).rd
      clear f0 f1 f2 f3 f4 f5 f6 f7 f8 f9 f10 f11 hltB hltB1 k0 k1 k2 k3 k4 k5 k6 hltK hltK1
      replace HB := Lib.hid (K21.heap HB.out (by intro hx; have := (HP'.out.base _ hx).1; omega))
      replace HK := Lib.hid (HK.out.then K21 (fun t ht => .inr (by have := (HP'.out.base t ht).1; omega)))
      replace HKB := Lib.hid (K21.heap HKB.out (by intro hx; have := (HP'.out.base _ hx).1; omega))
      replace hbsz : bs ≤ _ := Nat.le_trans hbsz K21.size
      obtain ⟨f0, f1, f2, f3, f4, f5, f6, f7, f8, f9, f10, f11, hltB, hltB1⟩ := cells12 HB.out
      obtain ⟨k0, k1, k2, k3, k4, k5, k6, hltK, hltK1⟩ := cells7 HKB.out
      clear HO HP' hA21 hn21 HR4 hxb K21
      have HO := Lib.hid O21
      have hc21 := O21.cap.1
      clear O21
      go_wp2_with (with_reducible refine stopAt (o := ⟨some 153, _, _, _, _, _⟩) ?_)
      refine Stop.go (wp_appB rfl _ _ 22 5 rfl Try.underlying22 Try.info5 bs A21 n21 c21 l21 rfl HO.out A16 n16 c16 l16 rfl HR21.out (by omega) (by omega) ?_)
      intro A22 n22 c22 l22 w22 hn22 hl22 O22 K22 hA22
      have HK22 := Lib.hid (HK.out.then K22 (fun t ht => .inr (by have := (HO.out.base t ht).1; omega)))
      have HO22 := Lib.hid O22
      clear O22 K22 hA22 hn22 HR21
      have hw := wr_ok (HG.out) (rfl : bodyW ((⟨0, fl, st, pA, pn, pc, (pd : Int), code, last, inc, dep, only, wt, sA, sn, sc⟩ : Fr).p l ss) = _) (by rw [HBD.out, ← HLB.out, HLC.out]; exact hbig)
      have hp := HRR.out.symm.trans hw
      have h1 : R1 = l22 := by
       have := congrArg Prod.fst hp
       dsimp only at this
       rw [this, hl22.out, hl21.out, hl19.out, HBD.out, ← HLB.out, HLC.out]
       rfl
      have h2 : R2 = 0 := congrArg Prod.snd hp
      have H1 := Lib.hid h1
      subst h2
      clear hw hp h1
      go_wp2
      go_ret2
      exact ⟨A22, n22, c22, rfl, by rw [H1.out]; exact HO22.out.mono (by omega), HK22.out⟩
     ·have hpw : putR (n16 : Int) 3 16777216 = ([], 1) := putR_no (by omega)
      have HPW := Lib.hid hpw
      clear hpw
      go_wp2_with fail
      refine (Put24_any (n16 : Int) _ (by omega)).mono ?_
      rintro e w17 ⟨Ao, no, rfl, Ro, _, K17⟩
      rw [HPW.out] at Ro ⊢
      dsimp only at Ro ⊢
      have HK17 := Lib.hid (HK.out.trans K17)
      have hw := wr_long (HG.out) (rfl : bodyW ((⟨0, fl, st, pA, pn, pc, (pd : Int), code, last, inc, dep, only, wt, sA, sn, sc⟩ : Fr).p l ss) = _) (by rw [HBD.out, ← HLB.out, HLC.out]; exact hbig)
      have hp := HRR.out.symm.trans hw
      have h1 : R1 = [] := congrArg Prod.fst hp
      have h2 : R2 = 2 := congrArg Prod.snd hp
      subst h1 h2
      clear hw hp K17 Ro
      go_wp2
      go_ret2
      exact ⟨none, 0, 0, rfl, Ow.nil _ _ _ _, HK17.out⟩
   ·have e : wr ((⟨0, fl, st, pA, pn, pc, pad, code, last, inc, dep, only, wt, sA, sn, sc⟩ : Fr).p l ss) = ([], 1) := wr_bad (by simp [goodW, Fr.p, known, rightB, zeroB, mayK, padOk, paddedB, prioOk, prioB, padF, hpad1])
    rw [e]
    clear e
    go_enter Try.func98, Try.ntmps98
    go_wp2_with fail
    refine (Known_any 0 _).mono ?_
    rintro e w1 ⟨rfl, rfl⟩
    rw [show knownB 0 = true from rfl]
    go_wp2_with fail
    refine (idF st _).mono ?_
    rintro e w1 ⟨rfl, rfl⟩
    rw [HST.out]
    go_wp2_with fail
    refine (kinds0 _).mono ?_
    rintro e w2 ⟨rfl, K2⟩
    have HB := Lib.hid (K2.heap (hp_new w0 (.cells #[.int .i64 0, .int .i64 fl, .int .i64 st, .slice pA pn pc, .int .i64 pad, .int .u32 code, .int .i64 last, .int .i64 inc, .int .i64 dep, .bool only, .int .i64 wt, .slice sA sn sc] 49) _ rfl) (by simp))
    have HK := Lib.hid (((Kp.refl [] w0).alloc (.cells #[.int .i64 0, .int .i64 fl, .int .i64 st, .slice pA pn pc, .int .i64 pad, .int .u32 code, .int .i64 last, .int .i64 inc, .int .i64 dep, .bool only, .int .i64 wt, .slice sA sn sc] 49)).trans K2)
    clear K2
    obtain ⟨f0, f1, f2, f3, f4, f5, f6, f7, f8, f9, f10, f11, hltB, hltB1⟩ := cells12 HB.out
    go_wp2_with fail
    have K3 : Kp [] w2 (w2.alloc (.cells #[.bool false, .bool false, .bool true, Fv 161, Fv 163, Fv 160, Fv 164] 185)) := (Kp.refl _ _).alloc _
    have HKB := Lib.hid (hp_new w2 (.cells #[.bool false, .bool false, .bool true, Fv 161, Fv 163, Fv 160, Fv 164] 185) _ rfl)
    clear f0 f1 f2 f3 f4 f5 f6 f7 f8 f9 f10 f11 hltB hltB1
    replace HB := Lib.hid (K3.heap HB.out (by simp))
    replace HK := Lib.hid (HK.out.trans K3)
    clear K3
    generalize hkb : w2.heap.size = kb at *
    generalize hW : w2.alloc (.cells #[.bool false, .bool false, .bool true, Fv 161, Fv 163, Fv 160, Fv 164] 185) = w3 at *
    clear hW hkb
    refine (rightF false false true (Fv 161) (Fv 163) (Fv 160) (Fv 164) st _ rfl rfl rfl rfl).mono ?_
    rintro e w4 ⟨rfl, K4⟩
    rw [HRI.out]
    replace HB := Lib.hid (K4.heap HB.out (by simp))
    replace HK := Lib.hid (HK.out.trans K4)
    replace HKB := Lib.hid (K4.heap HKB.out (by simp))
    clear K4
    obtain ⟨f0, f1, f2, f3, f4, f5, f6, f7, f8, f9, f10, f11, hltB, hltB1⟩ := cells12 HB.out
    obtain ⟨k0, k1, k2, k3, k4, k5, k6, hltK, hltK1⟩ := cells7 HKB.out
    go_wp2_with fail
    refine (mayAlways (⟨0, fl, st, pA, pn, pc, pad, code, last, inc, dep, only, wt, sA, sn, sc⟩ : Fr) _).mono ?_
    rintro e w5 ⟨rfl, K5⟩
    clear f0 f1 f2 f3 f4 f5 f6 f7 f8 f9 f10 f11 hltB hltB1 k0 k1 k2 k3 k4 k5 k6 hltK hltK1
    replace HB := Lib.hid (K5.heap HB.out (by simp))
    replace HK := Lib.hid (HK.out.trans K5)
    replace HKB := Lib.hid (K5.heap HKB.out (by simp))
    clear K5
    obtain ⟨f0, f1, f2, f3, f4, f5, f6, f7, f8, f9, f10, f11, hltB, hltB1⟩ := cells12 HB.out
    obtain ⟨k0, k1, k2, k3, k4, k5, k6, hltK, hltK1⟩ := cells7 HKB.out
    go_wp2
    go_ret2
    exact ⟨none, 0, 0, rfl, Ow.nil _ _ _ _, HK.out⟩
  ·have e : wr ((⟨0, fl, st, pA, pn, pc, pad, code, last, inc, dep, only, wt, sA, sn, sc⟩ : Fr).p l ss) = ([], 1) := wr_bad (by simp [goodW, Fr.p, known, rightB, zeroB, mayK, padOk, paddedB, prioOk, prioB, padF, hpad0])
   rw [e]
   clear e
   go_enter Try.func98, Try.ntmps98
   go_wp2_with fail
   refine (Known_any 0 _).mono ?_
   rintro e w1 ⟨rfl, rfl⟩
   rw [show knownB 0 = true from rfl]
   go_wp2_with fail
   refine (idF st _).mono ?_
   rintro e w1 ⟨rfl, rfl⟩
   rw [HST.out]
   go_wp2_with fail
   refine (kinds0 _).mono ?_
   rintro e w2 ⟨rfl, K2⟩
   have HB := Lib.hid (K2.heap (hp_new w0 (.cells #[.int .i64 0, .int .i64 fl, .int .i64 st, .slice pA pn pc, .int .i64 pad, .int .u32 code, .int .i64 last, .int .i64 inc, .int .i64 dep, .bool only, .int .i64 wt, .slice sA sn sc] 49) _ rfl) (by simp))
   have HK := Lib.hid (((Kp.refl [] w0).alloc (.cells #[.int .i64 0, .int .i64 fl, .int .i64 st, .slice pA pn pc, .int .i64 pad, .int .u32 code, .int .i64 last, .int .i64 inc, .int .i64 dep, .bool only, .int .i64 wt, .slice sA sn sc] 49)).trans K2)
   clear K2
   obtain ⟨f0, f1, f2, f3, f4, f5, f6, f7, f8, f9, f10, f11, hltB, hltB1⟩ := cells12 HB.out
   go_wp2_with fail
   have K3 : Kp [] w2 (w2.alloc (.cells #[.bool false, .bool false, .bool true, Fv 161, Fv 163, Fv 160, Fv 164] 185)) := (Kp.refl _ _).alloc _
   have HKB := Lib.hid (hp_new w2 (.cells #[.bool false, .bool false, .bool true, Fv 161, Fv 163, Fv 160, Fv 164] 185) _ rfl)
   clear f0 f1 f2 f3 f4 f5 f6 f7 f8 f9 f10 f11 hltB hltB1
   replace HB := Lib.hid (K3.heap HB.out (by simp))
   replace HK := Lib.hid (HK.out.trans K3)
   clear K3
   generalize hkb : w2.heap.size = kb at *
   generalize hW : w2.alloc (.cells #[.bool false, .bool false, .bool true, Fv 161, Fv 163, Fv 160, Fv 164] 185) = w3 at *
   clear hW hkb
   refine (rightF false false true (Fv 161) (Fv 163) (Fv 160) (Fv 164) st _ rfl rfl rfl rfl).mono ?_
   rintro e w4 ⟨rfl, K4⟩
   rw [HRI.out]
   replace HB := Lib.hid (K4.heap HB.out (by simp))
   replace HK := Lib.hid (HK.out.trans K4)
   replace HKB := Lib.hid (K4.heap HKB.out (by simp))
   clear K4
   obtain ⟨f0, f1, f2, f3, f4, f5, f6, f7, f8, f9, f10, f11, hltB, hltB1⟩ := cells12 HB.out
   obtain ⟨k0, k1, k2, k3, k4, k5, k6, hltK, hltK1⟩ := cells7 HKB.out
   go_wp2_with fail
   refine (mayAlways (⟨0, fl, st, pA, pn, pc, pad, code, last, inc, dep, only, wt, sA, sn, sc⟩ : Fr) _).mono ?_
   rintro e w5 ⟨rfl, K5⟩
   clear f0 f1 f2 f3 f4 f5 f6 f7 f8 f9 f10 f11 hltB hltB1 k0 k1 k2 k3 k4 k5 k6 hltK hltK1
   replace HB := Lib.hid (K5.heap HB.out (by simp))
   replace HK := Lib.hid (HK.out.trans K5)
   replace HKB := Lib.hid (K5.heap HKB.out (by simp))
   clear K5
   obtain ⟨f0, f1, f2, f3, f4, f5, f6, f7, f8, f9, f10, f11, hltB, hltB1⟩ := cells12 HB.out
   obtain ⟨k0, k1, k2, k3, k4, k5, k6, hltK, hltK1⟩ := cells7 HKB.out
   go_wp2
   go_ret2
   exact ⟨none, 0, 0, rfl, Ow.nil _ _ _ _, HK.out⟩
end Go.Proofs.Ytkmcakneceagpaa
