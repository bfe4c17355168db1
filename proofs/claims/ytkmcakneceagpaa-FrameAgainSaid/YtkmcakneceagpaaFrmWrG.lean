/- frame.Write, walked, type by type (E). -/
import Derived.Test.YtkmcakneceagpaaFrmWrE
set_option linter.unusedVariables false
set_option linter.unusedSimpArgs false
set_option linter.unusedSimpArgs false
namespace Go.Proofs.Ytkmcakneceagpaa
open Go.RowKit
set_option maxHeartbeats 4000000 in
set_option maxRecDepth 100000 in
theorem write1tt_bad (f : Fr) (l : List UInt8) (ss : List (Int × Int)) (w0 : World) (ok : WrOk w0 f l ss) (hty : f.ty = 1) (hfl0 : 0 ≤ f.fl) (hfl1 : f.fl ≤ 255) (hst : idB f.st = true) (hgd : goodW (f.p l ss) = false) (h8 : hasB f.fl 8 = true) (h32 : hasB f.fl 32 = true) :
  Calls Try.prog 98 #[.agg #[.int .i64 f.ty, .int .i64 f.fl, .int .i64 f.st, .slice f.pA f.pn f.pc, .int .i64 f.pad, .int .u32 f.code, .int .i64 f.last, .int .i64 f.inc, .int .i64 f.dep, .bool f.only, .int .i64 f.wt, .slice f.sA f.sn f.sc]] w0 (OwE 5 (wr (f.p l ss)).1 (wr (f.p l ss)).2 w0) := by
 obtain ⟨hb1, hb8, hb32, hb4⟩ := bits_has f.fl hfl0 hfl1
 obtain ⟨hrd, hpn, hcode, hsd, hsn⟩ := ok
 obtain ⟨ty, fl, st, pA, pn, pc, pad, code, last, inc, dep, only, wt, sA, sn, sc⟩ := f
 dsimp only at *
 subst hty
 have HGD := Lib.hid hgd
 clear hgd
 rw [h8] at hb8
 have HRD := Lib.hid hrd
 have HSD := Lib.hid hsd
 have HST := Lib.hid hst
 clear hst hrd hsd hb1 hb32 hb4
 by_cases hs : st = 0
 ·have e : wr ((⟨1, fl, st, pA, pn, pc, pad, code, last, inc, dep, only, wt, sA, sn, sc⟩ : Fr).p l ss) = ([], 1) := wr_bad (by simp [goodW, Fr.p, known, rightB, zeroB, mayK, padOk, paddedB, prioOk, prioB, padF, hs])
  rw [e]
  clear e
  have HRI := Lib.hid (show (false || (false == decide (st = 0))) = false by simp [hs])
  clear hs
  go_enter Try.func98, Try.ntmps98
  go_wp2_with fail
  refine (Known_any 1 _).mono ?_
  rintro e w1 ⟨rfl, rfl⟩
  rw [show knownB 1 = true from rfl]
  go_wp2_with fail
  refine (idF st _).mono ?_
  rintro e w1 ⟨rfl, rfl⟩
  rw [HST.out]
  go_wp2_with fail
  refine (kinds1 _).mono ?_
  rintro e w2 ⟨rfl, K2⟩
  have HB := Lib.hid (K2.heap (hp_new w0 (.cells #[.int .i64 1, .int .i64 fl, .int .i64 st, .slice pA pn pc, .int .i64 pad, .int .u32 code, .int .i64 last, .int .i64 inc, .int .i64 dep, .bool only, .int .i64 wt, .slice sA sn sc] 49) _ rfl) (by simp))
  have HK := Lib.hid (((Kp.refl [] w0).alloc (.cells #[.int .i64 1, .int .i64 fl, .int .i64 st, .slice pA pn pc, .int .i64 pad, .int .u32 code, .int .i64 last, .int .i64 inc, .int .i64 dep, .bool only, .int .i64 wt, .slice sA sn sc] 49)).trans K2)
  clear K2
  obtain ⟨f0, f1, f2, f3, f4, f5, f6, f7, f8, f9, f10, f11, hltB, hltB1⟩ := cells12 HB.out
  go_wp2_with fail
  have K3 : Kp [] w2 (w2.alloc (.cells #[.bool false, .bool false, .bool true, Fv 161, Fv 163, Fv 160, Fv 165] 185)) := (Kp.refl _ _).alloc _
  have HKB := Lib.hid (hp_new w2 (.cells #[.bool false, .bool false, .bool true, Fv 161, Fv 163, Fv 160, Fv 165] 185) _ rfl)
  clear f0 f1 f2 f3 f4 f5 f6 f7 f8 f9 f10 f11 hltB hltB1
  replace HB := Lib.hid (K3.heap HB.out (by simp))
  replace HK := Lib.hid (HK.out.trans K3)
  clear K3
  generalize hkb : w2.heap.size = kb at *
  generalize hW : w2.alloc (.cells #[.bool false, .bool false, .bool true, Fv 161, Fv 163, Fv 160, Fv 165] 185) = w3 at *
  clear hW hkb
  refine (rightF false false true (Fv 161) (Fv 163) (Fv 160) (Fv 165) st _ rfl rfl rfl rfl).mono ?_
  rintro e w4 ⟨rfl, K4⟩
  rw [HRI.out]
  replace HB := Lib.hid (K4.heap HB.out (by simp))
  replace HK := Lib.hid (HK.out.trans K4)
  replace HKB := Lib.hid (K4.heap HKB.out (by simp))
  clear K4
  obtain ⟨f0, f1, f2, f3, f4, f5, f6, f7, f8, f9, f10, f11, hltB, hltB1⟩ := cells12 HB.out
  obtain ⟨k0, k1, k2, k3, k4, k5, k6, hltK, hltK1⟩ := cells7 HKB.out
  go_wp2
  go_ret2
  exact ⟨none, 0, 0, rfl, Ow.nil _ _ _ _, HK.out⟩
 ·have HRI := Lib.hid (show (false || (false == decide (st = 0))) = true by simp [hs])
  have HS := Lib.hid hs
  clear hs
  by_cases hpad0 : 0 ≤ pad
  ·by_cases hpad1 : pad ≤ 255
   ·by_cases hpad3 : 0 < pad
    ·have HPRI := Lib.hid (show prioB 1 fl = true by simp [prioB, h32])
     by_cases hd : idB dep = true
     ·have HDEP := Lib.hid hd
      by_cases hw0 : 1 ≤ wt
      ·by_cases hw1 : wt ≤ 256
       ·clear hd
        obtain ⟨pd, rfl⟩ := Int.eq_ofNat_of_zero_le hpad0
        obtain ⟨hde0, hde1⟩ := idB_of HDEP.out
        obtain ⟨dn, rfl⟩ := Int.eq_ofNat_of_zero_le hde0
        have hw32 : IntKind.u32.wrap (dn : Int) = (dn : Int) := wraps_u32 _ (by omega) (by rw [show (2 : Int) ^ 32 = 4294967296 by decide]; omega)
        have HWT := Lib.hid (show 0 ≤ wt - 1 ∧ wt - 1 ≤ 255 by omega)
        have HWS := Lib.hid (show IntKind.i64.wrap (wt - 1) = wt - 1 ∧ IntKind.u8.wrap (wt - 1) = wt - 1 from ⟨IntWalk.i64_in _ (by omega), by rw [IntKind.wrap_u8]; omega⟩)
        have HDN := Lib.hid (show dn < 4294967296 by omega)
        have HDN2 := Lib.hid (show dn < 2147483648 by omega)
        clear hde1
        have hgood : goodW ((⟨1, fl, st, pA, pn, pc, (pd : Int), code, last, inc, (dn : Int), only, wt, sA, sn, sc⟩ : Fr).p l ss) = true := by simp [goodW, Fr.p, known, rightB, zeroB, mayK, padOk, paddedB, prioOk, prioB, padF, HST.out, HS.out, h8, h32, hfl0, hfl1, hpad0, hpad1, HDEP.out, hw0, hw1]
        have HG := Lib.hid hgood
        exact absurd (HGD.out.symm.trans HG.out) (by decide)
       ·have e : wr ((⟨1, fl, st, pA, pn, pc, pad, code, last, inc, dep, only, wt, sA, sn, sc⟩ : Fr).p l ss) = ([], 1) := wr_bad (by simp [goodW, Fr.p, known, rightB, zeroB, mayK, padOk, paddedB, prioOk, prioB, padF, hw1, h32])
        rw [e]
        clear e
        clear hd
        go_enter Try.func98, Try.ntmps98
        go_wp2_with fail
        refine (Known_any 1 _).mono ?_
        rintro e w1 ⟨rfl, rfl⟩
        rw [show knownB 1 = true from rfl]
        go_wp2_with fail
        refine (idF st _).mono ?_
        rintro e w1 ⟨rfl, rfl⟩
        rw [HST.out]
        go_wp2_with fail
        refine (kinds1 _).mono ?_
        rintro e w2 ⟨rfl, K2⟩
        have HB := Lib.hid (K2.heap (hp_new w0 (.cells #[.int .i64 1, .int .i64 fl, .int .i64 st, .slice pA pn pc, .int .i64 pad, .int .u32 code, .int .i64 last, .int .i64 inc, .int .i64 dep, .bool only, .int .i64 wt, .slice sA sn sc] 49) _ rfl) (by simp))
        have HK := Lib.hid (((Kp.refl [] w0).alloc (.cells #[.int .i64 1, .int .i64 fl, .int .i64 st, .slice pA pn pc, .int .i64 pad, .int .u32 code, .int .i64 last, .int .i64 inc, .int .i64 dep, .bool only, .int .i64 wt, .slice sA sn sc] 49)).trans K2)
        clear K2
        obtain ⟨f0, f1, f2, f3, f4, f5, f6, f7, f8, f9, f10, f11, hltB, hltB1⟩ := cells12 HB.out
        go_wp2_with fail
        have K3 : Kp [] w2 (w2.alloc (.cells #[.bool false, .bool false, .bool true, Fv 161, Fv 163, Fv 160, Fv 165] 185)) := (Kp.refl _ _).alloc _
        have HKB := Lib.hid (hp_new w2 (.cells #[.bool false, .bool false, .bool true, Fv 161, Fv 163, Fv 160, Fv 165] 185) _ rfl)
        clear f0 f1 f2 f3 f4 f5 f6 f7 f8 f9 f10 f11 hltB hltB1
        replace HB := Lib.hid (K3.heap HB.out (by simp))
        replace HK := Lib.hid (HK.out.trans K3)
        clear K3
        generalize hkb : w2.heap.size = kb at *
        generalize hW : w2.alloc (.cells #[.bool false, .bool false, .bool true, Fv 161, Fv 163, Fv 160, Fv 165] 185) = w3 at *
        clear hW hkb
        refine (rightF false false true (Fv 161) (Fv 163) (Fv 160) (Fv 165) st _ rfl rfl rfl rfl).mono ?_
        rintro e w4 ⟨rfl, K4⟩
        rw [HRI.out]
        replace HB := Lib.hid (K4.heap HB.out (by simp))
        replace HK := Lib.hid (HK.out.trans K4)
        replace HKB := Lib.hid (K4.heap HKB.out (by simp))
        clear K4
        obtain ⟨f0, f1, f2, f3, f4, f5, f6, f7, f8, f9, f10, f11, hltB, hltB1⟩ := cells12 HB.out
        obtain ⟨k0, k1, k2, k3, k4, k5, k6, hltK, hltK1⟩ := cells7 HKB.out
        go_wp2_with fail
        refine (mayAlways (⟨1, fl, st, pA, pn, pc, pad, code, last, inc, dep, only, wt, sA, sn, sc⟩ : Fr) _).mono ?_
        rintro e w5 ⟨rfl, K5⟩
        clear f0 f1 f2 f3 f4 f5 f6 f7 f8 f9 f10 f11 hltB hltB1 k0 k1 k2 k3 k4 k5 k6 hltK hltK1
        replace HB := Lib.hid (K5.heap HB.out (by simp))
        replace HK := Lib.hid (HK.out.trans K5)
        replace HKB := Lib.hid (K5.heap HKB.out (by simp))
        clear K5
        obtain ⟨f0, f1, f2, f3, f4, f5, f6, f7, f8, f9, f10, f11, hltB, hltB1⟩ := cells12 HB.out
        obtain ⟨k0, k1, k2, k3, k4, k5, k6, hltK, hltK1⟩ := cells7 HKB.out
        go_wp2_with fail
        refine (weightedF (⟨1, fl, st, pA, pn, pc, pad, code, last, inc, dep, only, wt, sA, sn, sc⟩ : Fr) _ hfl0 hfl1).mono ?_
        rintro e w6 ⟨rfl, K6⟩
        rw [HPRI.out]
        clear f0 f1 f2 f3 f4 f5 f6 f7 f8 f9 f10 f11 hltB hltB1 k0 k1 k2 k3 k4 k5 k6 hltK hltK1
        replace HB := Lib.hid (K6.heap HB.out (by simp))
        replace HK := Lib.hid (HK.out.trans K6)
        replace HKB := Lib.hid (K6.heap HKB.out (by simp))
        clear K6
        obtain ⟨f0, f1, f2, f3, f4, f5, f6, f7, f8, f9, f10, f11, hltB, hltB1⟩ := cells12 HB.out
        obtain ⟨k0, k1, k2, k3, k4, k5, k6, hltK, hltK1⟩ := cells7 HKB.out
        go_wp2_with fail
        refine (idF dep _).mono ?_
        rintro e w7 ⟨rfl, rfl⟩
        rw [HDEP.out]
        go_wp2
        go_ret2
        exact ⟨none, 0, 0, rfl, Ow.nil _ _ _ _, HK.out⟩
      ·have e : wr ((⟨1, fl, st, pA, pn, pc, pad, code, last, inc, dep, only, wt, sA, sn, sc⟩ : Fr).p l ss) = ([], 1) := wr_bad (by simp [goodW, Fr.p, known, rightB, zeroB, mayK, padOk, paddedB, prioOk, prioB, padF, hw0, h32])
       rw [e]
       clear e
       clear hd
       go_enter Try.func98, Try.ntmps98
       go_wp2_with fail
       refine (Known_any 1 _).mono ?_
       rintro e w1 ⟨rfl, rfl⟩
       rw [show knownB 1 = true from rfl]
       go_wp2_with fail
       refine (idF st _).mono ?_
       rintro e w1 ⟨rfl, rfl⟩
       rw [HST.out]
       go_wp2_with fail
       refine (kinds1 _).mono ?_
       rintro e w2 ⟨rfl, K2⟩
       have HB := Lib.hid (K2.heap (hp_new w0 (.cells #[.int .i64 1, .int .i64 fl, .int .i64 st, .slice pA pn pc, .int .i64 pad, .int .u32 code, .int .i64 last, .int .i64 inc, .int .i64 dep, .bool only, .int .i64 wt, .slice sA sn sc] 49) _ rfl) (by simp))
       have HK := Lib.hid (((Kp.refl [] w0).alloc (.cells #[.int .i64 1, .int .i64 fl, .int .i64 st, .slice pA pn pc, .int .i64 pad, .int .u32 code, .int .i64 last, .int .i64 inc, .int .i64 dep, .bool only, .int .i64 wt, .slice sA sn sc] 49)).trans K2)
       clear K2
       obtain ⟨f0, f1, f2, f3, f4, f5, f6, f7, f8, f9, f10, f11, hltB, hltB1⟩ := cells12 HB.out
       go_wp2_with fail
       have K3 : Kp [] w2 (w2.alloc (.cells #[.bool false, .bool false, .bool true, Fv 161, Fv 163, Fv 160, Fv 165] 185)) := (Kp.refl _ _).alloc _
       have HKB := Lib.hid (hp_new w2 (.cells #[.bool false, .bool false, .bool true, Fv 161, Fv 163, Fv 160, Fv 165] 185) _ rfl)
       clear f0 f1 f2 f3 f4 f5 f6 f7 f8 f9 f10 f11 hltB hltB1
       replace HB := Lib.hid (K3.heap HB.out (by simp))
       replace HK := Lib.hid (HK.out.trans K3)
       clear K3
       generalize hkb : w2.heap.size = kb at *
       generalize hW : w2.alloc (.cells #[.bool false, .bool false, .bool true, Fv 161, Fv 163, Fv 160, Fv 165] 185) = w3 at *
       clear hW hkb
       refine (rightF false false true (Fv 161) (Fv 163) (Fv 160) (Fv 165) st _ rfl rfl rfl rfl).mono ?_
       rintro e w4 ⟨rfl, K4⟩
       rw [HRI.out]
       replace HB := Lib.hid (K4.heap HB.out (by simp))
       replace HK := Lib.hid (HK.out.trans K4)
       replace HKB := Lib.hid (K4.heap HKB.out (by simp))
       clear K4
       obtain ⟨f0, f1, f2, f3, f4, f5, f6, f7, f8, f9, f10, f11, hltB, hltB1⟩ := cells12 HB.out
       obtain ⟨k0, k1, k2, k3, k4, k5, k6, hltK, hltK1⟩ := cells7 HKB.out
       go_wp2_with fail
       refine (mayAlways (⟨1, fl, st, pA, pn, pc, pad, code, last, inc, dep, only, wt, sA, sn, sc⟩ : Fr) _).mono ?_
       rintro e w5 ⟨rfl, K5⟩
       clear f0 f1 f2 f3 f4 f5 f6 f7 f8 f9 f10 f11 hltB hltB1 k0 k1 k2 k3 k4 k5 k6 hltK hltK1
       replace HB := Lib.hid (K5.heap HB.out (by simp))
       replace HK := Lib.hid (HK.out.trans K5)
       replace HKB := Lib.hid (K5.heap HKB.out (by simp))
       clear K5
       obtain ⟨f0, f1, f2, f3, f4, f5, f6, f7, f8, f9, f10, f11, hltB, hltB1⟩ := cells12 HB.out
       obtain ⟨k0, k1, k2, k3, k4, k5, k6, hltK, hltK1⟩ := cells7 HKB.out
       go_wp2_with fail
       refine (weightedF (⟨1, fl, st, pA, pn, pc, pad, code, last, inc, dep, only, wt, sA, sn, sc⟩ : Fr) _ hfl0 hfl1).mono ?_
       rintro e w6 ⟨rfl, K6⟩
       rw [HPRI.out]
       clear f0 f1 f2 f3 f4 f5 f6 f7 f8 f9 f10 f11 hltB hltB1 k0 k1 k2 k3 k4 k5 k6 hltK hltK1
       replace HB := Lib.hid (K6.heap HB.out (by simp))
       replace HK := Lib.hid (HK.out.trans K6)
       replace HKB := Lib.hid (K6.heap HKB.out (by simp))
       clear K6
       obtain ⟨f0, f1, f2, f3, f4, f5, f6, f7, f8, f9, f10, f11, hltB, hltB1⟩ := cells12 HB.out
       obtain ⟨k0, k1, k2, k3, k4, k5, k6, hltK, hltK1⟩ := cells7 HKB.out
       go_wp2_with fail
       refine (idF dep _).mono ?_
       rintro e w7 ⟨rfl, rfl⟩
       rw [HDEP.out]
       go_wp2
       go_ret2
       exact ⟨none, 0, 0, rfl, Ow.nil _ _ _ _, HK.out⟩
     ·have hd' : idB dep = false := by simpa using hd
      have HDEP := Lib.hid hd'
      have e : wr ((⟨1, fl, st, pA, pn, pc, pad, code, last, inc, dep, only, wt, sA, sn, sc⟩ : Fr).p l ss) = ([], 1) := wr_bad (by simp [goodW, Fr.p, known, rightB, zeroB, mayK, padOk, paddedB, prioOk, prioB, padF, hd, h32])
      rw [e]
      clear e
      clear hd hd'
      go_enter Try.func98, Try.ntmps98
      go_wp2_with fail
      refine (Known_any 1 _).mono ?_
      rintro e w1 ⟨rfl, rfl⟩
      rw [show knownB 1 = true from rfl]
      go_wp2_with fail
      refine (idF st _).mono ?_
      rintro e w1 ⟨rfl, rfl⟩
      rw [HST.out]
      go_wp2_with fail
      refine (kinds1 _).mono ?_
      rintro e w2 ⟨rfl, K2⟩
      have HB := Lib.hid (K2.heap (hp_new w0 (.cells #[.int .i64 1, .int .i64 fl, .int .i64 st, .slice pA pn pc, .int .i64 pad, .int .u32 code, .int .i64 last, .int .i64 inc, .int .i64 dep, .bool only, .int .i64 wt, .slice sA sn sc] 49) _ rfl) (by simp))
      have HK := Lib.hid (((Kp.refl [] w0).alloc (.cells #[.int .i64 1, .int .i64 fl, .int .i64 st, .slice pA pn pc, .int .i64 pad, .int .u32 code, .int .i64 last, .int .i64 inc, .int .i64 dep, .bool only, .int .i64 wt, .slice sA sn sc] 49)).trans K2)
      clear K2
      obtain ⟨f0, f1, f2, f3, f4, f5, f6, f7, f8, f9, f10, f11, hltB, hltB1⟩ := cells12 HB.out
      go_wp2_with fail
      have K3 : Kp [] w2 (w2.alloc (.cells #[.bool false, .bool false, .bool true, Fv 161, Fv 163, Fv 160, Fv 165] 185)) := (Kp.refl _ _).alloc _
      have HKB := Lib.hid (hp_new w2 (.cells #[.bool false, .bool false, .bool true, Fv 161, Fv 163, Fv 160, Fv 165] 185) _ rfl)
      clear f0 f1 f2 f3 f4 f5 f6 f7 f8 f9 f10 f11 hltB hltB1
      replace HB := Lib.hid (K3.heap HB.out (by simp))
      replace HK := Lib.hid (HK.out.trans K3)
      clear K3
      generalize hkb : w2.heap.size = kb at *
      generalize hW : w2.alloc (.cells #[.bool false, .bool false, .bool true, Fv 161, Fv 163, Fv 160, Fv 165] 185) = w3 at *
      clear hW hkb
      refine (rightF false false true (Fv 161) (Fv 163) (Fv 160) (Fv 165) st _ rfl rfl rfl rfl).mono ?_
      rintro e w4 ⟨rfl, K4⟩
      rw [HRI.out]
      replace HB := Lib.hid (K4.heap HB.out (by simp))
      replace HK := Lib.hid (HK.out.trans K4)
      replace HKB := Lib.hid (K4.heap HKB.out (by simp))
      clear K4
      obtain ⟨f0, f1, f2, f3, f4, f5, f6, f7, f8, f9, f10, f11, hltB, hltB1⟩ := cells12 HB.out
      obtain ⟨k0, k1, k2, k3, k4, k5, k6, hltK, hltK1⟩ := cells7 HKB.out
      go_wp2_with fail
      refine (mayAlways (⟨1, fl, st, pA, pn, pc, pad, code, last, inc, dep, only, wt, sA, sn, sc⟩ : Fr) _).mono ?_
      rintro e w5 ⟨rfl, K5⟩
      clear f0 f1 f2 f3 f4 f5 f6 f7 f8 f9 f10 f11 hltB hltB1 k0 k1 k2 k3 k4 k5 k6 hltK hltK1
      replace HB := Lib.hid (K5.heap HB.out (by simp))
      replace HK := Lib.hid (HK.out.trans K5)
      replace HKB := Lib.hid (K5.heap HKB.out (by simp))
      clear K5
      obtain ⟨f0, f1, f2, f3, f4, f5, f6, f7, f8, f9, f10, f11, hltB, hltB1⟩ := cells12 HB.out
      obtain ⟨k0, k1, k2, k3, k4, k5, k6, hltK, hltK1⟩ := cells7 HKB.out
      go_wp2_with fail
      refine (weightedF (⟨1, fl, st, pA, pn, pc, pad, code, last, inc, dep, only, wt, sA, sn, sc⟩ : Fr) _ hfl0 hfl1).mono ?_
      rintro e w6 ⟨rfl, K6⟩
      rw [HPRI.out]
      clear f0 f1 f2 f3 f4 f5 f6 f7 f8 f9 f10 f11 hltB hltB1 k0 k1 k2 k3 k4 k5 k6 hltK hltK1
      replace HB := Lib.hid (K6.heap HB.out (by simp))
      replace HK := Lib.hid (HK.out.trans K6)
      replace HKB := Lib.hid (K6.heap HKB.out (by simp))
      clear K6
      obtain ⟨f0, f1, f2, f3, f4, f5, f6, f7, f8, f9, f10, f11, hltB, hltB1⟩ := cells12 HB.out
      obtain ⟨k0, k1, k2, k3, k4, k5, k6, hltK, hltK1⟩ := cells7 HKB.out
      go_wp2_with fail
      refine (idF dep _).mono ?_
      rintro e w7 ⟨rfl, rfl⟩
      rw [HDEP.out]
      go_wp2
      go_ret2
      exact ⟨none, 0, 0, rfl, Ow.nil _ _ _ _, HK.out⟩
    ·have HPRI := Lib.hid (show prioB 1 fl = true by simp [prioB, h32])
     by_cases hd : idB dep = true
     ·have HDEP := Lib.hid hd
      by_cases hw0 : 1 ≤ wt
      ·by_cases hw1 : wt ≤ 256
       ·clear hd
        obtain ⟨pd, rfl⟩ := Int.eq_ofNat_of_zero_le hpad0
        obtain ⟨hde0, hde1⟩ := idB_of HDEP.out
        obtain ⟨dn, rfl⟩ := Int.eq_ofNat_of_zero_le hde0
        have hw32 : IntKind.u32.wrap (dn : Int) = (dn : Int) := wraps_u32 _ (by omega) (by rw [show (2 : Int) ^ 32 = 4294967296 by decide]; omega)
        have HWT := Lib.hid (show 0 ≤ wt - 1 ∧ wt - 1 ≤ 255 by omega)
        have HWS := Lib.hid (show IntKind.i64.wrap (wt - 1) = wt - 1 ∧ IntKind.u8.wrap (wt - 1) = wt - 1 from ⟨IntWalk.i64_in _ (by omega), by rw [IntKind.wrap_u8]; omega⟩)
        have HDN := Lib.hid (show dn < 4294967296 by omega)
        have HDN2 := Lib.hid (show dn < 2147483648 by omega)
        clear hde1
        have hgood : goodW ((⟨1, fl, st, pA, pn, pc, (pd : Int), code, last, inc, (dn : Int), only, wt, sA, sn, sc⟩ : Fr).p l ss) = true := by simp [goodW, Fr.p, known, rightB, zeroB, mayK, padOk, paddedB, prioOk, prioB, padF, HST.out, HS.out, h8, h32, hfl0, hfl1, hpad0, hpad1, HDEP.out, hw0, hw1]
        have HG := Lib.hid hgood
        exact absurd (HGD.out.symm.trans HG.out) (by decide)
       ·have e : wr ((⟨1, fl, st, pA, pn, pc, pad, code, last, inc, dep, only, wt, sA, sn, sc⟩ : Fr).p l ss) = ([], 1) := wr_bad (by simp [goodW, Fr.p, known, rightB, zeroB, mayK, padOk, paddedB, prioOk, prioB, padF, hw1, h32])
        rw [e]
        clear e
        clear hd
        go_enter Try.func98, Try.ntmps98
        go_wp2_with fail
        refine (Known_any 1 _).mono ?_
        rintro e w1 ⟨rfl, rfl⟩
        rw [show knownB 1 = true from rfl]
        go_wp2_with fail
        refine (idF st _).mono ?_
        rintro e w1 ⟨rfl, rfl⟩
        rw [HST.out]
        go_wp2_with fail
        refine (kinds1 _).mono ?_
        rintro e w2 ⟨rfl, K2⟩
        have HB := Lib.hid (K2.heap (hp_new w0 (.cells #[.int .i64 1, .int .i64 fl, .int .i64 st, .slice pA pn pc, .int .i64 pad, .int .u32 code, .int .i64 last, .int .i64 inc, .int .i64 dep, .bool only, .int .i64 wt, .slice sA sn sc] 49) _ rfl) (by simp))
        have HK := Lib.hid (((Kp.refl [] w0).alloc (.cells #[.int .i64 1, .int .i64 fl, .int .i64 st, .slice pA pn pc, .int .i64 pad, .int .u32 code, .int .i64 last, .int .i64 inc, .int .i64 dep, .bool only, .int .i64 wt, .slice sA sn sc] 49)).trans K2)
        clear K2
        obtain ⟨f0, f1, f2, f3, f4, f5, f6, f7, f8, f9, f10, f11, hltB, hltB1⟩ := cells12 HB.out
        go_wp2_with fail
        have K3 : Kp [] w2 (w2.alloc (.cells #[.bool false, .bool false, .bool true, Fv 161, Fv 163, Fv 160, Fv 165] 185)) := (Kp.refl _ _).alloc _
        have HKB := Lib.hid (hp_new w2 (.cells #[.bool false, .bool false, .bool true, Fv 161, Fv 163, Fv 160, Fv 165] 185) _ rfl)
        clear f0 f1 f2 f3 f4 f5 f6 f7 f8 f9 f10 f11 hltB hltB1
        replace HB := Lib.hid (K3.heap HB.out (by simp))
        replace HK := Lib.hid (HK.out.trans K3)
        clear K3
        generalize hkb : w2.heap.size = kb at *
        generalize hW : w2.alloc (.cells #[.bool false, .bool false, .bool true, Fv 161, Fv 163, Fv 160, Fv 165] 185) = w3 at *
        clear hW hkb
        refine (rightF false false true (Fv 161) (Fv 163) (Fv 160) (Fv 165) st _ rfl rfl rfl rfl).mono ?_
        rintro e w4 ⟨rfl, K4⟩
        rw [HRI.out]
        replace HB := Lib.hid (K4.heap HB.out (by simp))
        replace HK := Lib.hid (HK.out.trans K4)
        replace HKB := Lib.hid (K4.heap HKB.out (by simp))
        clear K4
        obtain ⟨f0, f1, f2, f3, f4, f5, f6, f7, f8, f9, f10, f11, hltB, hltB1⟩ := cells12 HB.out
        obtain ⟨k0, k1, k2, k3, k4, k5, k6, hltK, hltK1⟩ := cells7 HKB.out
        go_wp2_with fail
        refine (mayAlways (⟨1, fl, st, pA, pn, pc, pad, code, last, inc, dep, only, wt, sA, sn, sc⟩ : Fr) _).mono ?_
        rintro e w5 ⟨rfl, K5⟩
        clear f0 f1 f2 f3 f4 f5 f6 f7 f8 f9 f10 f11 hltB hltB1 k0 k1 k2 k3 k4 k5 k6 hltK hltK1
        replace HB := Lib.hid (K5.heap HB.out (by simp))
        replace HK := Lib.hid (HK.out.trans K5)
        replace HKB := Lib.hid (K5.heap HKB.out (by simp))
        clear K5
        obtain ⟨f0, f1, f2, f3, f4, f5, f6, f7, f8, f9, f10, f11, hltB, hltB1⟩ := cells12 HB.out
        obtain ⟨k0, k1, k2, k3, k4, k5, k6, hltK, hltK1⟩ := cells7 HKB.out
        go_wp2_with fail
        refine (weightedF (⟨1, fl, st, pA, pn, pc, pad, code, last, inc, dep, only, wt, sA, sn, sc⟩ : Fr) _ hfl0 hfl1).mono ?_
        rintro e w6 ⟨rfl, K6⟩
        rw [HPRI.out]
        clear f0 f1 f2 f3 f4 f5 f6 f7 f8 f9 f10 f11 hltB hltB1 k0 k1 k2 k3 k4 k5 k6 hltK hltK1
        replace HB := Lib.hid (K6.heap HB.out (by simp))
        replace HK := Lib.hid (HK.out.trans K6)
        replace HKB := Lib.hid (K6.heap HKB.out (by simp))
        clear K6
        obtain ⟨f0, f1, f2, f3, f4, f5, f6, f7, f8, f9, f10, f11, hltB, hltB1⟩ := cells12 HB.out
        obtain ⟨k0, k1, k2, k3, k4, k5, k6, hltK, hltK1⟩ := cells7 HKB.out
        go_wp2_with fail
        refine (idF dep _).mono ?_
        rintro e w7 ⟨rfl, rfl⟩
        rw [HDEP.out]
        go_wp2
        go_ret2
        exact ⟨none, 0, 0, rfl, Ow.nil _ _ _ _, HK.out⟩
      ·have e : wr ((⟨1, fl, st, pA, pn, pc, pad, code, last, inc, dep, only, wt, sA, sn, sc⟩ : Fr).p l ss) = ([], 1) := wr_bad (by simp [goodW, Fr.p, known, rightB, zeroB, mayK, padOk, paddedB, prioOk, prioB, padF, hw0, h32])
       rw [e]
       clear e
       clear hd
       go_enter Try.func98, Try.ntmps98
       go_wp2_with fail
       refine (Known_any 1 _).mono ?_
       rintro e w1 ⟨rfl, rfl⟩
       rw [show knownB 1 = true from rfl]
       go_wp2_with fail
       refine (idF st _).mono ?_
       rintro e w1 ⟨rfl, rfl⟩
       rw [HST.out]
       go_wp2_with fail
       refine (kinds1 _).mono ?_
       rintro e w2 ⟨rfl, K2⟩
       have HB := Lib.hid (K2.heap (hp_new w0 (.cells #[.int .i64 1, .int .i64 fl, .int .i64 st, .slice pA pn pc, .int .i64 pad, .int .u32 code, .int .i64 last, .int .i64 inc, .int .i64 dep, .bool only, .int .i64 wt, .slice sA sn sc] 49) _ rfl) (by simp))
       have HK := Lib.hid (((Kp.refl [] w0).alloc (.cells #[.int .i64 1, .int .i64 fl, .int .i64 st, .slice pA pn pc, .int .i64 pad, .int .u32 code, .int .i64 last, .int .i64 inc, .int .i64 dep, .bool only, .int .i64 wt, .slice sA sn sc] 49)).trans K2)
       clear K2
       obtain ⟨f0, f1, f2, f3, f4, f5, f6, f7, f8, f9, f10, f11, hltB, hltB1⟩ := cells12 HB.out
       go_wp2_with fail
       have K3 : Kp [] w2 (w2.alloc (.cells #[.bool false, .bool false, .bool true, Fv 161, Fv 163, Fv 160, Fv 165] 185)) := (Kp.refl _ _).alloc _
       have HKB := Lib.hid (hp_new w2 (.cells #[.bool false, .bool false, .bool true, Fv 161, Fv 163, Fv 160, Fv 165] 185) _ rfl)
       clear f0 f1 f2 f3 f4 f5 f6 f7 f8 f9 f10 f11 hltB hltB1
       replace HB := Lib.hid (K3.heap HB.out (by simp))
       replace HK := Lib.hid (HK.out.trans K3)
       clear K3
       generalize hkb : w2.heap.size = kb at *
       generalize hW : w2.alloc (.cells #[.bool false, .bool false, .bool true, Fv 161, Fv 163, Fv 160, Fv 165] 185) = w3 at *
       clear hW hkb
       refine (rightF false false true (Fv 161) (Fv 163) (Fv 160) (Fv 165) st _ rfl rfl rfl rfl).mono ?_
       rintro e w4 ⟨rfl, K4⟩
       rw [HRI.out]
       replace HB := Lib.hid (K4.heap HB.out (by simp))
       replace HK := Lib.hid (HK.out.trans K4)
       replace HKB := Lib.hid (K4.heap HKB.out (by simp))
       clear K4
       obtain ⟨f0, f1, f2, f3, f4, f5, f6, f7, f8, f9, f10, f11, hltB, hltB1⟩ := cells12 HB.out
       obtain ⟨k0, k1, k2, k3, k4, k5, k6, hltK, hltK1⟩ := cells7 HKB.out
       go_wp2_with fail
       refine (mayAlways (⟨1, fl, st, pA, pn, pc, pad, code, last, inc, dep, only, wt, sA, sn, sc⟩ : Fr) _).mono ?_
       rintro e w5 ⟨rfl, K5⟩
       clear f0 f1 f2 f3 f4 f5 f6 f7 f8 f9 f10 f11 hltB hltB1 k0 k1 k2 k3 k4 k5 k6 hltK hltK1
       replace HB := Lib.hid (K5.heap HB.out (by simp))
       replace HK := Lib.hid (HK.out.trans K5)
       replace HKB := Lib.hid (K5.heap HKB.out (by simp))
       clear K5
       obtain ⟨f0, f1, f2, f3, f4, f5, f6, f7, f8, f9, f10, f11, hltB, hltB1⟩ := cells12 HB.out
       obtain ⟨k0, k1, k2, k3, k4, k5, k6, hltK, hltK1⟩ := cells7 HKB.out
       go_wp2_with fail
       refine (weightedF (⟨1, fl, st, pA, pn, pc, pad, code, last, inc, dep, only, wt, sA, sn, sc⟩ : Fr) _ hfl0 hfl1).mono ?_
       rintro e w6 ⟨rfl, K6⟩
       rw [HPRI.out]
       clear f0 f1 f2 f3 f4 f5 f6 f7 f8 f9 f10 f11 hltB hltB1 k0 k1 k2 k3 k4 k5 k6 hltK hltK1
       replace HB := Lib.hid (K6.heap HB.out (by simp))
       replace HK := Lib.hid (HK.out.trans K6)
       replace HKB := Lib.hid (K6.heap HKB.out (by simp))
       clear K6
       obtain ⟨f0, f1, f2, f3, f4, f5, f6, f7, f8, f9, f10, f11, hltB, hltB1⟩ := cells12 HB.out
       obtain ⟨k0, k1, k2, k3, k4, k5, k6, hltK, hltK1⟩ := cells7 HKB.out
       go_wp2_with fail
       refine (idF dep _).mono ?_
       rintro e w7 ⟨rfl, rfl⟩
       rw [HDEP.out]
       go_wp2
       go_ret2
       exact ⟨none, 0, 0, rfl, Ow.nil _ _ _ _, HK.out⟩
     ·have hd' : idB dep = false := by simpa using hd
      have HDEP := Lib.hid hd'
      have e : wr ((⟨1, fl, st, pA, pn, pc, pad, code, last, inc, dep, only, wt, sA, sn, sc⟩ : Fr).p l ss) = ([], 1) := wr_bad (by simp [goodW, Fr.p, known, rightB, zeroB, mayK, padOk, paddedB, prioOk, prioB, padF, hd, h32])
      rw [e]
      clear e
      clear hd hd'
      go_enter Try.func98, Try.ntmps98
      go_wp2_with fail
      refine (Known_any 1 _).mono ?_
      rintro e w1 ⟨rfl, rfl⟩
      rw [show knownB 1 = true from rfl]
      go_wp2_with fail
      refine (idF st _).mono ?_
      rintro e w1 ⟨rfl, rfl⟩
      rw [HST.out]
      go_wp2_with fail
      refine (kinds1 _).mono ?_
      rintro e w2 ⟨rfl, K2⟩
      have HB := Lib.hid (K2.heap (hp_new w0 (.cells #[.int .i64 1, .int .i64 fl, .int .i64 st, .slice pA pn pc, .int .i64 pad, .int .u32 code, .int .i64 last, .int .i64 inc, .int .i64 dep, .bool only, .int .i64 wt, .slice sA sn sc] 49) _ rfl) (by simp))
      have HK := Lib.hid (((Kp.refl [] w0).alloc (.cells #[.int .i64 1, .int .i64 fl, .int .i64 st, .slice pA pn pc, .int .i64 pad, .int .u32 code, .int .i64 last, .int .i64 inc, .int .i64 dep, .bool only, .int .i64 wt, .slice sA sn sc] 49)).trans K2)
      clear K2
      obtain ⟨f0, f1, f2, f3, f4, f5, f6, f7, f8, f9, f10, f11, hltB, hltB1⟩ := cells12 HB.out
      go_wp2_with fail
      have K3 : Kp [] w2 (w2.alloc (.cells #[.bool false, .bool false, .bool true, Fv 161, Fv 163, Fv 160, Fv 165] 185)) := (Kp.refl _ _).alloc _
      have HKB := Lib.hid (hp_new w2 (.cells #[.bool false, .bool false, .bool true, Fv 161, Fv 163, Fv 160, Fv 165] 185) _ rfl)
      clear f0 f1 f2 f3 f4 f5 f6 f7 f8 f9 f10 f11 hltB hltB1
      replace HB := Lib.hid (K3.heap HB.out (by simp))
      replace HK := Lib.hid (HK.out.trans K3)
      clear K3
      generalize hkb : w2.heap.size = kb at *
      generalize hW : w2.alloc (.cells #[.bool false, .bool false, .bool true, Fv 161, Fv 163, Fv 160, Fv 165] 185) = w3 at *
      clear hW hkb
      refine (rightF false false true (Fv 161) (Fv 163) (Fv 160) (Fv 165) st _ rfl rfl rfl rfl).mono ?_
      rintro e w4 ⟨rfl, K4⟩
      rw [HRI.out]
      replace HB := Lib.hid (K4.heap HB.out (by simp))
      replace HK := Lib.hid (HK.out.trans K4)
      replace HKB := Lib.hid (K4.heap HKB.out (by simp))
      clear K4
      obtain ⟨f0, f1, f2, f3, f4, f5, f6, f7, f8, f9, f10, f11, hltB, hltB1⟩ := cells12 HB.out
      obtain ⟨k0, k1, k2, k3, k4, k5, k6, hltK, hltK1⟩ := cells7 HKB.out
      go_wp2_with fail
      refine (mayAlways (⟨1, fl, st, pA, pn, pc, pad, code, last, inc, dep, only, wt, sA, sn, sc⟩ : Fr) _).mono ?_
      rintro e w5 ⟨rfl, K5⟩
      clear f0 f1 f2 f3 f4 f5 f6 f7 f8 f9 f10 f11 hltB hltB1 k0 k1 k2 k3 k4 k5 k6 hltK hltK1
      replace HB := Lib.hid (K5.heap HB.out (by simp))
      replace HK := Lib.hid (HK.out.trans K5)
      replace HKB := Lib.hid (K5.heap HKB.out (by simp))
      clear K5
      obtain ⟨f0, f1, f2, f3, f4, f5, f6, f7, f8, f9, f10, f11, hltB, hltB1⟩ := cells12 HB.out
      obtain ⟨k0, k1, k2, k3, k4, k5, k6, hltK, hltK1⟩ := cells7 HKB.out
      go_wp2_with fail
      refine (weightedF (⟨1, fl, st, pA, pn, pc, pad, code, last, inc, dep, only, wt, sA, sn, sc⟩ : Fr) _ hfl0 hfl1).mono ?_
      rintro e w6 ⟨rfl, K6⟩
      rw [HPRI.out]
      clear f0 f1 f2 f3 f4 f5 f6 f7 f8 f9 f10 f11 hltB hltB1 k0 k1 k2 k3 k4 k5 k6 hltK hltK1
      replace HB := Lib.hid (K6.heap HB.out (by simp))
      replace HK := Lib.hid (HK.out.trans K6)
      replace HKB := Lib.hid (K6.heap HKB.out (by simp))
      clear K6
      obtain ⟨f0, f1, f2, f3, f4, f5, f6, f7, f8, f9, f10, f11, hltB, hltB1⟩ := cells12 HB.out
      obtain ⟨k0, k1, k2, k3, k4, k5, k6, hltK, hltK1⟩ := cells7 HKB.out
      go_wp2_with fail
      refine (idF dep _).mono ?_
      rintro e w7 ⟨rfl, rfl⟩
      rw [HDEP.out]
      go_wp2
      go_ret2
      exact ⟨none, 0, 0, rfl, Ow.nil _ _ _ _, HK.out⟩
   ·have e : wr ((⟨1, fl, st, pA, pn, pc, pad, code, last, inc, dep, only, wt, sA, sn, sc⟩ : Fr).p l ss) = ([], 1) := wr_bad (by simp [goodW, Fr.p, known, rightB, zeroB, mayK, padOk, paddedB, prioOk, prioB, padF, hpad1])
    rw [e]
    clear e
    go_enter Try.func98, Try.ntmps98
    go_wp2_with fail
    refine (Known_any 1 _).mono ?_
    rintro e w1 ⟨rfl, rfl⟩
    rw [show knownB 1 = true from rfl]
    go_wp2_with fail
    refine (idF st _).mono ?_
    rintro e w1 ⟨rfl, rfl⟩
    rw [HST.out]
    go_wp2_with fail
    refine (kinds1 _).mono ?_
    rintro e w2 ⟨rfl, K2⟩
    have HB := Lib.hid (K2.heap (hp_new w0 (.cells #[.int .i64 1, .int .i64 fl, .int .i64 st, .slice pA pn pc, .int .i64 pad, .int .u32 code, .int .i64 last, .int .i64 inc, .int .i64 dep, .bool only, .int .i64 wt, .slice sA sn sc] 49) _ rfl) (by simp))
    have HK := Lib.hid (((Kp.refl [] w0).alloc (.cells #[.int .i64 1, .int .i64 fl, .int .i64 st, .slice pA pn pc, .int .i64 pad, .int .u32 code, .int .i64 last, .int .i64 inc, .int .i64 dep, .bool only, .int .i64 wt, .slice sA sn sc] 49)).trans K2)
    clear K2
    obtain ⟨f0, f1, f2, f3, f4, f5, f6, f7, f8, f9, f10, f11, hltB, hltB1⟩ := cells12 HB.out
    go_wp2_with fail
    have K3 : Kp [] w2 (w2.alloc (.cells #[.bool false, .bool false, .bool true, Fv 161, Fv 163, Fv 160, Fv 165] 185)) := (Kp.refl _ _).alloc _
    have HKB := Lib.hid (hp_new w2 (.cells #[.bool false, .bool false, .bool true, Fv 161, Fv 163, Fv 160, Fv 165] 185) _ rfl)
    clear f0 f1 f2 f3 f4 f5 f6 f7 f8 f9 f10 f11 hltB hltB1
    replace HB := Lib.hid (K3.heap HB.out (by simp))
    replace HK := Lib.hid (HK.out.trans K3)
    clear K3
    generalize hkb : w2.heap.size = kb at *
    generalize hW : w2.alloc (.cells #[.bool false, .bool false, .bool true, Fv 161, Fv 163, Fv 160, Fv 165] 185) = w3 at *
    clear hW hkb
    refine (rightF false false true (Fv 161) (Fv 163) (Fv 160) (Fv 165) st _ rfl rfl rfl rfl).mono ?_
    rintro e w4 ⟨rfl, K4⟩
    rw [HRI.out]
    replace HB := Lib.hid (K4.heap HB.out (by simp))
    replace HK := Lib.hid (HK.out.trans K4)
    replace HKB := Lib.hid (K4.heap HKB.out (by simp))
    clear K4
    obtain ⟨f0, f1, f2, f3, f4, f5, f6, f7, f8, f9, f10, f11, hltB, hltB1⟩ := cells12 HB.out
    obtain ⟨k0, k1, k2, k3, k4, k5, k6, hltK, hltK1⟩ := cells7 HKB.out
    go_wp2_with fail
    refine (mayAlways (⟨1, fl, st, pA, pn, pc, pad, code, last, inc, dep, only, wt, sA, sn, sc⟩ : Fr) _).mono ?_
    rintro e w5 ⟨rfl, K5⟩
    clear f0 f1 f2 f3 f4 f5 f6 f7 f8 f9 f10 f11 hltB hltB1 k0 k1 k2 k3 k4 k5 k6 hltK hltK1
    replace HB := Lib.hid (K5.heap HB.out (by simp))
    replace HK := Lib.hid (HK.out.trans K5)
    replace HKB := Lib.hid (K5.heap HKB.out (by simp))
    clear K5
    obtain ⟨f0, f1, f2, f3, f4, f5, f6, f7, f8, f9, f10, f11, hltB, hltB1⟩ := cells12 HB.out
    obtain ⟨k0, k1, k2, k3, k4, k5, k6, hltK, hltK1⟩ := cells7 HKB.out
    go_wp2
    go_ret2
    exact ⟨none, 0, 0, rfl, Ow.nil _ _ _ _, HK.out⟩
  ·have e : wr ((⟨1, fl, st, pA, pn, pc, pad, code, last, inc, dep, only, wt, sA, sn, sc⟩ : Fr).p l ss) = ([], 1) := wr_bad (by simp [goodW, Fr.p, known, rightB, zeroB, mayK, padOk, paddedB, prioOk, prioB, padF, hpad0])
   rw [e]
   clear e
   go_enter Try.func98, Try.ntmps98
   go_wp2_with fail
   refine (Known_any 1 _).mono ?_
   rintro e w1 ⟨rfl, rfl⟩
   rw [show knownB 1 = true from rfl]
   go_wp2_with fail
   refine (idF st _).mono ?_
   rintro e w1 ⟨rfl, rfl⟩
   rw [HST.out]
   go_wp2_with fail
   refine (kinds1 _).mono ?_
   rintro e w2 ⟨rfl, K2⟩
   have HB := Lib.hid (K2.heap (hp_new w0 (.cells #[.int .i64 1, .int .i64 fl, .int .i64 st, .slice pA pn pc, .int .i64 pad, .int .u32 code, .int .i64 last, .int .i64 inc, .int .i64 dep, .bool only, .int .i64 wt, .slice sA sn sc] 49) _ rfl) (by simp))
   have HK := Lib.hid (((Kp.refl [] w0).alloc (.cells #[.int .i64 1, .int .i64 fl, .int .i64 st, .slice pA pn pc, .int .i64 pad, .int .u32 code, .int .i64 last, .int .i64 inc, .int .i64 dep, .bool only, .int .i64 wt, .slice sA sn sc] 49)).trans K2)
   clear K2
   obtain ⟨f0, f1, f2, f3, f4, f5, f6, f7, f8, f9, f10, f11, hltB, hltB1⟩ := cells12 HB.out
   go_wp2_with fail
   have K3 : Kp [] w2 (w2.alloc (.cells #[.bool false, .bool false, .bool true, Fv 161, Fv 163, Fv 160, Fv 165] 185)) := (Kp.refl _ _).alloc _
   have HKB := Lib.hid (hp_new w2 (.cells #[.bool false, .bool false, .bool true, Fv 161, Fv 163, Fv 160, Fv 165] 185) _ rfl)
   clear f0 f1 f2 f3 f4 f5 f6 f7 f8 f9 f10 f11 hltB hltB1
   replace HB := Lib.hid (K3.heap HB.out (by simp))
   replace HK := Lib.hid (HK.out.trans K3)
   clear K3
   generalize hkb : w2.heap.size = kb at *
   generalize hW : w2.alloc (.cells #[.bool false, .bool false, .bool true, Fv 161, Fv 163, Fv 160, Fv 165] 185) = w3 at *
   clear hW hkb
   refine (rightF false false true (Fv 161) (Fv 163) (Fv 160) (Fv 165) st _ rfl rfl rfl rfl).mono ?_
   rintro e w4 ⟨rfl, K4⟩
   rw [HRI.out]
   replace HB := Lib.hid (K4.heap HB.out (by simp))
   replace HK := Lib.hid (HK.out.trans K4)
   replace HKB := Lib.hid (K4.heap HKB.out (by simp))
   clear K4
   obtain ⟨f0, f1, f2, f3, f4, f5, f6, f7, f8, f9, f10, f11, hltB, hltB1⟩ := cells12 HB.out
   obtain ⟨k0, k1, k2, k3, k4, k5, k6, hltK, hltK1⟩ := cells7 HKB.out
   go_wp2_with fail
   refine (mayAlways (⟨1, fl, st, pA, pn, pc, pad, code, last, inc, dep, only, wt, sA, sn, sc⟩ : Fr) _).mono ?_
   rintro e w5 ⟨rfl, K5⟩
   clear f0 f1 f2 f3 f4 f5 f6 f7 f8 f9 f10 f11 hltB hltB1 k0 k1 k2 k3 k4 k5 k6 hltK hltK1
   replace HB := Lib.hid (K5.heap HB.out (by simp))
   replace HK := Lib.hid (HK.out.trans K5)
   replace HKB := Lib.hid (K5.heap HKB.out (by simp))
   clear K5
   obtain ⟨f0, f1, f2, f3, f4, f5, f6, f7, f8, f9, f10, f11, hltB, hltB1⟩ := cells12 HB.out
   obtain ⟨k0, k1, k2, k3, k4, k5, k6, hltK, hltK1⟩ := cells7 HKB.out
   go_wp2
   go_ret2
   exact ⟨none, 0, 0, rfl, Ow.nil _ _ _ _, HK.out⟩
end Go.Proofs.Ytkmcakneceagpaa
