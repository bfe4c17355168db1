/- frame.Write, walked, type by type (E). -/
import Derived.Test.YtkmcakneceagpaaFrmWr
set_option linter.unusedVariables false
set_option linter.unusedSimpArgs false
set_option linter.unusedSimpArgs false
namespace Go.Proofs.Ytkmcakneceagpaa
open Go.RowKit
theorem prioW_t (p : Fp) (v : Nat) (h : p.only = true) (hv : v = p.dep.toNat + 2147483648) : prioW p = bytesOf v 4 ++ [byteOf (p.wt - 1)] := by
 unfold prioW
 rw [if_pos h, ← hv]
theorem prioW_f (p : Fp) (v : Nat) (h : p.only = false) (hv : v = p.dep.toNat) : prioW p = bytesOf v 4 ++ [byteOf (p.wt - 1)] := by
 unfold prioW
 rw [if_neg (by rw [h]; decide), Nat.add_zero, ← hv]
theorem or31 (n : Nat) (h : n < 2147483648) : bits .or .u32 (n : Int) 2147483648 = ((n + 2147483648 : Nat) : Int) := by
 have e1 : (2 : Nat) ^ 32 = 4294967296 := by decide
 have e3 : (2 : Nat) ^ 31 = 2147483648 := by decide
 have h1 := (bits_nat .u32 32 (by decide) wraps_u32 n 2147483648 (by omega) (by omega)).2
 rw [show ((2147483648 : Nat) : Int) = 2147483648 from rfl] at h1
 rw [h1, Nat.or_comm, Nat.add_comm]
 have h2 := Nat.two_pow_add_eq_or_of_lt (i := 31) (b := n) (by omega) 1
 rw [Nat.mul_one, e3] at h2
 rw [h2]
set_option maxHeartbeats 4000000 in
set_option maxRecDepth 100000 in
theorem write2_bad (f : Fr) (l : List UInt8) (ss : List (Int × Int)) (w0 : World) (ok : WrOk w0 f l ss) (hty : f.ty = 2) (hfl0 : 0 ≤ f.fl) (hfl1 : f.fl ≤ 255) (hst : idB f.st = true) (hgd : goodW (f.p l ss) = false) :
  Calls Try.prog 98 #[.agg #[.int .i64 f.ty, .int .i64 f.fl, .int .i64 f.st, .slice f.pA f.pn f.pc, .int .i64 f.pad, .int .u32 f.code, .int .i64 f.last, .int .i64 f.inc, .int .i64 f.dep, .bool f.only, .int .i64 f.wt, .slice f.sA f.sn f.sc]] w0 (OwE 5 (wr (f.p l ss)).1 (wr (f.p l ss)).2 w0) := by
 obtain ⟨hb1, hb8, hb32, hb4⟩ := bits_has f.fl hfl0 hfl1
 obtain ⟨hrd, hpn, hcode, hsd, hsn⟩ := ok
 obtain ⟨ty, fl, st, pA, pn, pc, pad, code, last, inc, dep, only, wt, sA, sn, sc⟩ := f
 dsimp only at *
 subst hty
 have HGD := Lib.hid hgd
 clear hgd
 have HRD := Lib.hid hrd
 have HSD := Lib.hid hsd
 have HST := Lib.hid hst
 clear hst hrd hsd hb1 hb32 hb4 hb8
 by_cases hs : st = 0
 ·have e : wr ((⟨2, fl, st, pA, pn, pc, pad, code, last, inc, dep, only, wt, sA, sn, sc⟩ : Fr).p l ss) = ([], 1) := wr_bad (by simp [goodW, Fr.p, known, rightB, zeroB, mayK, padOk, paddedB, prioOk, prioB, padF, hs])
  rw [e]
  clear e
  have HRI := Lib.hid (show (false || (false == decide (st = 0))) = false by simp [hs])
  clear hs
  go_enter Try.func98, Try.ntmps98
  go_wp2_with fail
  refine (Known_any 2 _).mono ?_
  rintro e w1 ⟨rfl, rfl⟩
  rw [show knownB 2 = true from rfl]
  go_wp2_with fail
  refine (idF st _).mono ?_
  rintro e w1 ⟨rfl, rfl⟩
  rw [HST.out]
  go_wp2_with fail
  refine (kinds2 _).mono ?_
  rintro e w2 ⟨b, rfl, _, _, K2⟩
  have HB := Lib.hid (K2.heap (hp_new w0 (.cells #[.int .i64 2, .int .i64 fl, .int .i64 st, .slice pA pn pc, .int .i64 pad, .int .u32 code, .int .i64 last, .int .i64 inc, .int .i64 dep, .bool only, .int .i64 wt, .slice sA sn sc] 49) _ rfl) (by simp))
  have HK := Lib.hid (((Kp.refl [] w0).alloc (.cells #[.int .i64 2, .int .i64 fl, .int .i64 st, .slice pA pn pc, .int .i64 pad, .int .u32 code, .int .i64 last, .int .i64 inc, .int .i64 dep, .bool only, .int .i64 wt, .slice sA sn sc] 49)).trans K2)
  clear K2
  obtain ⟨f0, f1, f2, f3, f4, f5, f6, f7, f8, f9, f10, f11, hltB, hltB1⟩ := cells12 HB.out
  go_wp2_with fail
  have K3 : Kp [] w2 (w2.alloc (.cells #[.bool false, .bool false, .bool false, Sz b, Fv 163, Fv 168, Fv 169] 185)) := (Kp.refl _ _).alloc _
  have HKB := Lib.hid (hp_new w2 (.cells #[.bool false, .bool false, .bool false, Sz b, Fv 163, Fv 168, Fv 169] 185) _ rfl)
  clear f0 f1 f2 f3 f4 f5 f6 f7 f8 f9 f10 f11 hltB hltB1
  replace HB := Lib.hid (K3.heap HB.out (by simp))
  replace HK := Lib.hid (HK.out.trans K3)
  clear K3
  generalize hkb : w2.heap.size = kb at *
  generalize hW : w2.alloc (.cells #[.bool false, .bool false, .bool false, Sz b, Fv 163, Fv 168, Fv 169] 185) = w3 at *
  clear hW hkb
  refine (rightF false false false (Sz b) (Fv 163) (Fv 168) (Fv 169) st _ rfl rfl rfl rfl).mono ?_
  rintro e w4 ⟨rfl, K4⟩
  rw [HRI.out]
  replace HB := Lib.hid (K4.heap HB.out (by simp))
  replace HK := Lib.hid (HK.out.trans K4)
  replace HKB := Lib.hid (K4.heap HKB.out (by simp))
  clear K4
  obtain ⟨f0, f1, f2, f3, f4, f5, f6, f7, f8, f9, f10, f11, hltB, hltB1⟩ := cells12 HB.out
  obtain ⟨k0, k1, k2, k3, k4, k5, k6, hltK, hltK1⟩ := cells7 HKB.out
  go_wp2
  go_ret2
  exact ⟨none, 0, 0, rfl, Ow.nil _ _ _ _, HK.out⟩
 ·have HRI := Lib.hid (show (false || (false == decide (st = 0))) = true by simp [hs])
  have HS := Lib.hid hs
  clear hs
  have HPRI := Lib.hid (show prioB 2 fl = true by simp [prioB])
  by_cases hd : idB dep = true
  ·have HDEP := Lib.hid hd
   by_cases hw0 : 1 ≤ wt
   ·by_cases hw1 : wt ≤ 256
    ·clear hd
     obtain ⟨hde0, hde1⟩ := idB_of HDEP.out
     obtain ⟨dn, rfl⟩ := Int.eq_ofNat_of_zero_le hde0
     have hw32 : IntKind.u32.wrap (dn : Int) = (dn : Int) := wraps_u32 _ (by omega) (by rw [show (2 : Int) ^ 32 = 4294967296 by decide]; omega)
     have HWT := Lib.hid (show 0 ≤ wt - 1 ∧ wt - 1 ≤ 255 by omega)
     have HWS := Lib.hid (show IntKind.i64.wrap (wt - 1) = wt - 1 ∧ IntKind.u8.wrap (wt - 1) = wt - 1 from ⟨IntWalk.i64_in _ (by omega), by rw [IntKind.wrap_u8]; omega⟩)
     have HDN := Lib.hid (show dn < 4294967296 by omega)
     have HDN2 := Lib.hid (show dn < 2147483648 by omega)
     clear hde1
     have hgood : goodW ((⟨2, fl, st, pA, pn, pc, pad, code, last, inc, (dn : Int), only, wt, sA, sn, sc⟩ : Fr).p l ss) = true := by simp [goodW, Fr.p, known, rightB, zeroB, mayK, padOk, paddedB, prioOk, prioB, padF, HST.out, HS.out, hfl0, hfl1, HDEP.out, hw0, hw1]
     have HG := Lib.hid hgood
     exact absurd (HGD.out.symm.trans HG.out) (by decide)
    ·have e : wr ((⟨2, fl, st, pA, pn, pc, pad, code, last, inc, dep, only, wt, sA, sn, sc⟩ : Fr).p l ss) = ([], 1) := wr_bad (by simp [goodW, Fr.p, known, rightB, zeroB, mayK, padOk, paddedB, prioOk, prioB, padF, hw1])
     rw [e]
     clear e
     clear hd
     go_enter Try.func98, Try.ntmps98
     go_wp2_with fail
     refine (Known_any 2 _).mono ?_
     rintro e w1 ⟨rfl, rfl⟩
     rw [show knownB 2 = true from rfl]
     go_wp2_with fail
     refine (idF st _).mono ?_
     rintro e w1 ⟨rfl, rfl⟩
     rw [HST.out]
     go_wp2_with fail
     refine (kinds2 _).mono ?_
     rintro e w2 ⟨b, rfl, _, _, K2⟩
     have HB := Lib.hid (K2.heap (hp_new w0 (.cells #[.int .i64 2, .int .i64 fl, .int .i64 st, .slice pA pn pc, .int .i64 pad, .int .u32 code, .int .i64 last, .int .i64 inc, .int .i64 dep, .bool only, .int .i64 wt, .slice sA sn sc] 49) _ rfl) (by simp))
     have HK := Lib.hid (((Kp.refl [] w0).alloc (.cells #[.int .i64 2, .int .i64 fl, .int .i64 st, .slice pA pn pc, .int .i64 pad, .int .u32 code, .int .i64 last, .int .i64 inc, .int .i64 dep, .bool only, .int .i64 wt, .slice sA sn sc] 49)).trans K2)
     clear K2
     obtain ⟨f0, f1, f2, f3, f4, f5, f6, f7, f8, f9, f10, f11, hltB, hltB1⟩ := cells12 HB.out
     go_wp2_with fail
     have K3 : Kp [] w2 (w2.alloc (.cells #[.bool false, .bool false, .bool false, Sz b, Fv 163, Fv 168, Fv 169] 185)) := (Kp.refl _ _).alloc _
     have HKB := Lib.hid (hp_new w2 (.cells #[.bool false, .bool false, .bool false, Sz b, Fv 163, Fv 168, Fv 169] 185) _ rfl)
     clear f0 f1 f2 f3 f4 f5 f6 f7 f8 f9 f10 f11 hltB hltB1
     replace HB := Lib.hid (K3.heap HB.out (by simp))
     replace HK := Lib.hid (HK.out.trans K3)
     clear K3
     generalize hkb : w2.heap.size = kb at *
     generalize hW : w2.alloc (.cells #[.bool false, .bool false, .bool false, Sz b, Fv 163, Fv 168, Fv 169] 185) = w3 at *
     clear hW hkb
     refine (rightF false false false (Sz b) (Fv 163) (Fv 168) (Fv 169) st _ rfl rfl rfl rfl).mono ?_
     rintro e w4 ⟨rfl, K4⟩
     rw [HRI.out]
     replace HB := Lib.hid (K4.heap HB.out (by simp))
     replace HK := Lib.hid (HK.out.trans K4)
     replace HKB := Lib.hid (K4.heap HKB.out (by simp))
     clear K4
     obtain ⟨f0, f1, f2, f3, f4, f5, f6, f7, f8, f9, f10, f11, hltB, hltB1⟩ := cells12 HB.out
     obtain ⟨k0, k1, k2, k3, k4, k5, k6, hltK, hltK1⟩ := cells7 HKB.out
     go_wp2_with fail
     refine (mayAlways (⟨2, fl, st, pA, pn, pc, pad, code, last, inc, dep, only, wt, sA, sn, sc⟩ : Fr) _).mono ?_
     rintro e w5 ⟨rfl, K5⟩
     clear f0 f1 f2 f3 f4 f5 f6 f7 f8 f9 f10 f11 hltB hltB1 k0 k1 k2 k3 k4 k5 k6 hltK hltK1
     replace HB := Lib.hid (K5.heap HB.out (by simp))
     replace HK := Lib.hid (HK.out.trans K5)
     replace HKB := Lib.hid (K5.heap HKB.out (by simp))
     clear K5
     obtain ⟨f0, f1, f2, f3, f4, f5, f6, f7, f8, f9, f10, f11, hltB, hltB1⟩ := cells12 HB.out
     obtain ⟨k0, k1, k2, k3, k4, k5, k6, hltK, hltK1⟩ := cells7 HKB.out
     go_wp2_with fail
     refine (weightedF (⟨2, fl, st, pA, pn, pc, pad, code, last, inc, dep, only, wt, sA, sn, sc⟩ : Fr) _ hfl0 hfl1).mono ?_
     rintro e w6 ⟨rfl, K6⟩
     rw [HPRI.out]
     clear f0 f1 f2 f3 f4 f5 f6 f7 f8 f9 f10 f11 hltB hltB1 k0 k1 k2 k3 k4 k5 k6 hltK hltK1
     replace HB := Lib.hid (K6.heap HB.out (by simp))
     replace HK := Lib.hid (HK.out.trans K6)
     replace HKB := Lib.hid (K6.heap HKB.out (by simp))
     clear K6
     obtain ⟨f0, f1, f2, f3, f4, f5, f6, f7, f8, f9, f10, f11, hltB, hltB1⟩ := cells12 HB.out
     obtain ⟨k0, k1, k2, k3, k4, k5, k6, hltK, hltK1⟩ := cells7 HKB.out
     go_wp2_with fail
     refine (idF dep _).mono ?_
     rintro e w7 ⟨rfl, rfl⟩
     rw [HDEP.out]
     go_wp2
     go_ret2
     exact ⟨none, 0, 0, rfl, Ow.nil _ _ _ _, HK.out⟩
   ·have e : wr ((⟨2, fl, st, pA, pn, pc, pad, code, last, inc, dep, only, wt, sA, sn, sc⟩ : Fr).p l ss) = ([], 1) := wr_bad (by simp [goodW, Fr.p, known, rightB, zeroB, mayK, padOk, paddedB, prioOk, prioB, padF, hw0])
    rw [e]
    clear e
    clear hd
    go_enter Try.func98, Try.ntmps98
    go_wp2_with fail
    refine (Known_any 2 _).mono ?_
    rintro e w1 ⟨rfl, rfl⟩
    rw [show knownB 2 = true from rfl]
    go_wp2_with fail
    refine (idF st _).mono ?_
    rintro e w1 ⟨rfl, rfl⟩
    rw [HST.out]
    go_wp2_with fail
    refine (kinds2 _).mono ?_
    rintro e w2 ⟨b, rfl, _, _, K2⟩
    have HB := Lib.hid (K2.heap (hp_new w0 (.cells #[.int .i64 2, .int .i64 fl, .int .i64 st, .slice pA pn pc, .int .i64 pad, .int .u32 code, .int .i64 last, .int .i64 inc, .int .i64 dep, .bool only, .int .i64 wt, .slice sA sn sc] 49) _ rfl) (by simp))
    have HK := Lib.hid (((Kp.refl [] w0).alloc (.cells #[.int .i64 2, .int .i64 fl, .int .i64 st, .slice pA pn pc, .int .i64 pad, .int .u32 code, .int .i64 last, .int .i64 inc, .int .i64 dep, .bool only, .int .i64 wt, .slice sA sn sc] 49)).trans K2)
    clear K2
    obtain ⟨f0, f1, f2, f3, f4, f5, f6, f7, f8, f9, f10, f11, hltB, hltB1⟩ := cells12 HB.out
    go_wp2_with fail
    have K3 : Kp [] w2 (w2.alloc (.cells #[.bool false, .bool false, .bool false, Sz b, Fv 163, Fv 168, Fv 169] 185)) := (Kp.refl _ _).alloc _
    have HKB := Lib.hid (hp_new w2 (.cells #[.bool false, .bool false, .bool false, Sz b, Fv 163, Fv 168, Fv 169] 185) _ rfl)
    clear f0 f1 f2 f3 f4 f5 f6 f7 f8 f9 f10 f11 hltB hltB1
    replace HB := Lib.hid (K3.heap HB.out (by simp))
    replace HK := Lib.hid (HK.out.trans K3)
    clear K3
    generalize hkb : w2.heap.size = kb at *
    generalize hW : w2.alloc (.cells #[.bool false, .bool false, .bool false, Sz b, Fv 163, Fv 168, Fv 169] 185) = w3 at *
    clear hW hkb
    refine (rightF false false false (Sz b) (Fv 163) (Fv 168) (Fv 169) st _ rfl rfl rfl rfl).mono ?_
    rintro e w4 ⟨rfl, K4⟩
    rw [HRI.out]
    replace HB := Lib.hid (K4.heap HB.out (by simp))
    replace HK := Lib.hid (HK.out.trans K4)
    replace HKB := Lib.hid (K4.heap HKB.out (by simp))
    clear K4
    obtain ⟨f0, f1, f2, f3, f4, f5, f6, f7, f8, f9, f10, f11, hltB, hltB1⟩ := cells12 HB.out
    obtain ⟨k0, k1, k2, k3, k4, k5, k6, hltK, hltK1⟩ := cells7 HKB.out
    go_wp2_with fail
    refine (mayAlways (⟨2, fl, st, pA, pn, pc, pad, code, last, inc, dep, only, wt, sA, sn, sc⟩ : Fr) _).mono ?_
    rintro e w5 ⟨rfl, K5⟩
    clear f0 f1 f2 f3 f4 f5 f6 f7 f8 f9 f10 f11 hltB hltB1 k0 k1 k2 k3 k4 k5 k6 hltK hltK1
    replace HB := Lib.hid (K5.heap HB.out (by simp))
    replace HK := Lib.hid (HK.out.trans K5)
    replace HKB := Lib.hid (K5.heap HKB.out (by simp))
    clear K5
    obtain ⟨f0, f1, f2, f3, f4, f5, f6, f7, f8, f9, f10, f11, hltB, hltB1⟩ := cells12 HB.out
    obtain ⟨k0, k1, k2, k3, k4, k5, k6, hltK, hltK1⟩ := cells7 HKB.out
    go_wp2_with fail
    refine (weightedF (⟨2, fl, st, pA, pn, pc, pad, code, last, inc, dep, only, wt, sA, sn, sc⟩ : Fr) _ hfl0 hfl1).mono ?_
    rintro e w6 ⟨rfl, K6⟩
    rw [HPRI.out]
    clear f0 f1 f2 f3 f4 f5 f6 f7 f8 f9 f10 f11 hltB hltB1 k0 k1 k2 k3 k4 k5 k6 hltK hltK1
    replace HB := Lib.hid (K6.heap HB.out (by simp))
    replace HK := Lib.hid (HK.out.trans K6)
    replace HKB := Lib.hid (K6.heap HKB.out (by simp))
    clear K6
    obtain ⟨f0, f1, f2, f3, f4, f5, f6, f7, f8, f9, f10, f11, hltB, hltB1⟩ := cells12 HB.out
    obtain ⟨k0, k1, k2, k3, k4, k5, k6, hltK, hltK1⟩ := cells7 HKB.out
    go_wp2_with fail
    refine (idF dep _).mono ?_
    rintro e w7 ⟨rfl, rfl⟩
    rw [HDEP.out]
    go_wp2
    go_ret2
    exact ⟨none, 0, 0, rfl, Ow.nil _ _ _ _, HK.out⟩
  ·have hd' : idB dep = false := by simpa using hd
   have HDEP := Lib.hid hd'
   have e : wr ((⟨2, fl, st, pA, pn, pc, pad, code, last, inc, dep, only, wt, sA, sn, sc⟩ : Fr).p l ss) = ([], 1) := wr_bad (by simp [goodW, Fr.p, known, rightB, zeroB, mayK, padOk, paddedB, prioOk, prioB, padF, hd])
   rw [e]
   clear e
   clear hd hd'
   go_enter Try.func98, Try.ntmps98
   go_wp2_with fail
   refine (Known_any 2 _).mono ?_
   rintro e w1 ⟨rfl, rfl⟩
   rw [show knownB 2 = true from rfl]
   go_wp2_with fail
   refine (idF st _).mono ?_
   rintro e w1 ⟨rfl, rfl⟩
   rw [HST.out]
   go_wp2_with fail
   refine (kinds2 _).mono ?_
   rintro e w2 ⟨b, rfl, _, _, K2⟩
   have HB := Lib.hid (K2.heap (hp_new w0 (.cells #[.int .i64 2, .int .i64 fl, .int .i64 st, .slice pA pn pc, .int .i64 pad, .int .u32 code, .int .i64 last, .int .i64 inc, .int .i64 dep, .bool only, .int .i64 wt, .slice sA sn sc] 49) _ rfl) (by simp))
   have HK := Lib.hid (((Kp.refl [] w0).alloc (.cells #[.int .i64 2, .int .i64 fl, .int .i64 st, .slice pA pn pc, .int .i64 pad, .int .u32 code, .int .i64 last, .int .i64 inc, .int .i64 dep, .bool only, .int .i64 wt, .slice sA sn sc] 49)).trans K2)
   clear K2
   obtain ⟨f0, f1, f2, f3, f4, f5, f6, f7, f8, f9, f10, f11, hltB, hltB1⟩ := cells12 HB.out
   go_wp2_with fail
   have K3 : Kp [] w2 (w2.alloc (.cells #[.bool false, .bool false, .bool false, Sz b, Fv 163, Fv 168, Fv 169] 185)) := (Kp.refl _ _).alloc _
   have HKB := Lib.hid (hp_new w2 (.cells #[.bool false, .bool false, .bool false, Sz b, Fv 163, Fv 168, Fv 169] 185) _ rfl)
   clear f0 f1 f2 f3 f4 f5 f6 f7 f8 f9 f10 f11 hltB hltB1
   replace HB := Lib.hid (K3.heap HB.out (by simp))
   replace HK := Lib.hid (HK.out.trans K3)
   clear K3
   generalize hkb : w2.heap.size = kb at *
   generalize hW : w2.alloc (.cells #[.bool false, .bool false, .bool false, Sz b, Fv 163, Fv 168, Fv 169] 185) = w3 at *
   clear hW hkb
   refine (rightF false false false (Sz b) (Fv 163) (Fv 168) (Fv 169) st _ rfl rfl rfl rfl).mono ?_
   rintro e w4 ⟨rfl, K4⟩
   rw [HRI.out]
   replace HB := Lib.hid (K4.heap HB.out (by simp))
   replace HK := Lib.hid (HK.out.trans K4)
   replace HKB := Lib.hid (K4.heap HKB.out (by simp))
   clear K4
   obtain ⟨f0, f1, f2, f3, f4, f5, f6, f7, f8, f9, f10, f11, hltB, hltB1⟩ := cells12 HB.out
   obtain ⟨k0, k1, k2, k3, k4, k5, k6, hltK, hltK1⟩ := cells7 HKB.out
   go_wp2_with fail
   refine (mayAlways (⟨2, fl, st, pA, pn, pc, pad, code, last, inc, dep, only, wt, sA, sn, sc⟩ : Fr) _).mono ?_
   rintro e w5 ⟨rfl, K5⟩
   clear f0 f1 f2 f3 f4 f5 f6 f7 f8 f9 f10 f11 hltB hltB1 k0 k1 k2 k3 k4 k5 k6 hltK hltK1
   replace HB := Lib.hid (K5.heap HB.out (by simp))
   replace HK := Lib.hid (HK.out.trans K5)
   replace HKB := Lib.hid (K5.heap HKB.out (by simp))
   clear K5
   obtain ⟨f0, f1, f2, f3, f4, f5, f6, f7, f8, f9, f10, f11, hltB, hltB1⟩ := cells12 HB.out
   obtain ⟨k0, k1, k2, k3, k4, k5, k6, hltK, hltK1⟩ := cells7 HKB.out
   go_wp2_with fail
   refine (weightedF (⟨2, fl, st, pA, pn, pc, pad, code, last, inc, dep, only, wt, sA, sn, sc⟩ : Fr) _ hfl0 hfl1).mono ?_
   rintro e w6 ⟨rfl, K6⟩
   rw [HPRI.out]
   clear f0 f1 f2 f3 f4 f5 f6 f7 f8 f9 f10 f11 hltB hltB1 k0 k1 k2 k3 k4 k5 k6 hltK hltK1
   replace HB := Lib.hid (K6.heap HB.out (by simp))
   replace HK := Lib.hid (HK.out.trans K6)
   replace HKB := Lib.hid (K6.heap HKB.out (by simp))
   clear K6
   obtain ⟨f0, f1, f2, f3, f4, f5, f6, f7, f8, f9, f10, f11, hltB, hltB1⟩ := cells12 HB.out
   obtain ⟨k0, k1, k2, k3, k4, k5, k6, hltK, hltK1⟩ := cells7 HKB.out
   go_wp2_with fail
   refine (idF dep _).mono ?_
   rintro e w7 ⟨rfl, rfl⟩
   rw [HDEP.out]
   go_wp2
   go_ret2
   exact ⟨none, 0, 0, rfl, Ow.nil _ _ _ _, HK.out⟩
set_option maxHeartbeats 4000000 in
set_option maxRecDepth 100000 in
theorem write2_okf (f : Fr) (l : List UInt8) (ss : List (Int × Int)) (w0 : World) (ok : WrOk w0 f l ss) (hty : f.ty = 2) (hfl0 : 0 ≤ f.fl) (hfl1 : f.fl ≤ 255) (hst : idB f.st = true) (hgd : goodW (f.p l ss) = true) (ho : f.only = false) :
  Calls Try.prog 98 #[.agg #[.int .i64 f.ty, .int .i64 f.fl, .int .i64 f.st, .slice f.pA f.pn f.pc, .int .i64 f.pad, .int .u32 f.code, .int .i64 f.last, .int .i64 f.inc, .int .i64 f.dep, .bool f.only, .int .i64 f.wt, .slice f.sA f.sn f.sc]] w0 (OwE 5 (wr (f.p l ss)).1 (wr (f.p l ss)).2 w0) := by
 obtain ⟨hb1, hb8, hb32, hb4⟩ := bits_has f.fl hfl0 hfl1
 obtain ⟨hrd, hpn, hcode, hsd, hsn⟩ := ok
 obtain ⟨ty, fl, st, pA, pn, pc, pad, code, last, inc, dep, only, wt, sA, sn, sc⟩ := f
 dsimp only at *
 subst hty
 subst ho
 have HGD := Lib.hid hgd
 clear hgd
 have HRD := Lib.hid hrd
 have HSD := Lib.hid hsd
 have HST := Lib.hid hst
 clear hst hrd hsd hb1 hb32 hb4 hb8
 by_cases hs : st = 0
 ·exact absurd (HGD.out.symm.trans (show goodW ((⟨2, fl, st, pA, pn, pc, pad, code, last, inc, dep, false, wt, sA, sn, sc⟩ : Fr).p l ss) = false by simp [goodW, Fr.p, known, rightB, zeroB, mayK, padOk, paddedB, prioOk, prioB, padF, hs])) (by decide)
 ·have HRI := Lib.hid (show (false || (false == decide (st = 0))) = true by simp [hs])
  have HS := Lib.hid hs
  clear hs
  have HPRI := Lib.hid (show prioB 2 fl = true by simp [prioB])
  by_cases hd : idB dep = true
  ·have HDEP := Lib.hid hd
   by_cases hw0 : 1 ≤ wt
   ·by_cases hw1 : wt ≤ 256
    ·clear hd
     obtain ⟨hde0, hde1⟩ := idB_of HDEP.out
     obtain ⟨dn, rfl⟩ := Int.eq_ofNat_of_zero_le hde0
     have hw32 : IntKind.u32.wrap (dn : Int) = (dn : Int) := wraps_u32 _ (by omega) (by rw [show (2 : Int) ^ 32 = 4294967296 by decide]; omega)
     have HWT := Lib.hid (show 0 ≤ wt - 1 ∧ wt - 1 ≤ 255 by omega)
     have HWS := Lib.hid (show IntKind.i64.wrap (wt - 1) = wt - 1 ∧ IntKind.u8.wrap (wt - 1) = wt - 1 from ⟨IntWalk.i64_in _ (by omega), by rw [IntKind.wrap_u8]; omega⟩)
     have HDN := Lib.hid (show dn < 4294967296 by omega)
     have HDN2 := Lib.hid (show dn < 2147483648 by omega)
     clear hde1
     have hgood : goodW ((⟨2, fl, st, pA, pn, pc, pad, code, last, inc, (dn : Int), false, wt, sA, sn, sc⟩ : Fr).p l ss) = true := by simp [goodW, Fr.p, known, rightB, zeroB, mayK, padOk, paddedB, prioOk, prioB, padF, HST.out, HS.out, hfl0, hfl1, HDEP.out, hw0, hw1]
     have HG := Lib.hid hgood
     clear hgood
     obtain ⟨⟨R1, R2⟩, hR⟩ : ∃ R, wr ((⟨2, fl, st, pA, pn, pc, pad, code, last, inc, (dn : Int), false, wt, sA, sn, sc⟩ : Fr).p l ss) = R := ⟨_, rfl⟩
     rw [hR]
     have HRR := Lib.hid hR
     clear hR
     dsimp only
     obtain ⟨hst0, hst1⟩ := idB_of HST.out
     have HPW := Lib.hid (show prioW ((⟨2, fl, st, pA, pn, pc, pad, code, last, inc, (dn : Int), false, wt, sA, sn, sc⟩ : Fr).p l ss) = bytesOf dn 4 ++ [byteOf (wt - 1)] from prioW_f _ dn rfl rfl)
     have hbd : bodyW ((⟨2, fl, st, pA, pn, pc, pad, code, last, inc, (dn : Int), false, wt, sA, sn, sc⟩ : Fr).p l ss) = (bytesOf dn 4 ++ [byteOf (wt - 1)]) ++ ([]) := by
      unfold bodyW
      rw [HPW.out]
      simp [Fr.p, padF, paddedB, prioB, putW]
     have HBD := Lib.hid hbd
     clear hbd
     go_enter Try.func98, Try.ntmps98
     go_wp2_with fail
     refine (Known_any 2 _).mono ?_
     rintro e w1 ⟨rfl, rfl⟩
     rw [show knownB 2 = true from rfl]
     go_wp2_with fail
     refine (idF st _).mono ?_
     rintro e w1 ⟨rfl, rfl⟩
     rw [HST.out]
     go_wp2_with fail
     refine (kinds2 _).mono ?_
     rintro e w2 ⟨b, rfl, _, _, K2⟩
     have HB := Lib.hid (K2.heap (hp_new w0 (.cells #[.int .i64 2, .int .i64 fl, .int .i64 st, .slice pA pn pc, .int .i64 pad, .int .u32 code, .int .i64 last, .int .i64 inc, .int .i64 (dn : Int), .bool false, .int .i64 wt, .slice sA sn sc] 49) _ rfl) (by simp))
     have HK := Lib.hid (((Kp.refl [] w0).alloc (.cells #[.int .i64 2, .int .i64 fl, .int .i64 st, .slice pA pn pc, .int .i64 pad, .int .u32 code, .int .i64 last, .int .i64 inc, .int .i64 (dn : Int), .bool false, .int .i64 wt, .slice sA sn sc] 49)).trans K2)
     clear K2
     obtain ⟨f0, f1, f2, f3, f4, f5, f6, f7, f8, f9, f10, f11, hltB, hltB1⟩ := cells12 HB.out
     go_wp2_with fail
     have K3 : Kp [] w2 (w2.alloc (.cells #[.bool false, .bool false, .bool false, Sz b, Fv 163, Fv 168, Fv 169] 185)) := (Kp.refl _ _).alloc _
     have HKB := Lib.hid (hp_new w2 (.cells #[.bool false, .bool false, .bool false, Sz b, Fv 163, Fv 168, Fv 169] 185) _ rfl)
     clear f0 f1 f2 f3 f4 f5 f6 f7 f8 f9 f10 f11 hltB hltB1
     replace HB := Lib.hid (K3.heap HB.out (by simp))
     replace HK := Lib.hid (HK.out.trans K3)
     clear K3
     generalize hkb : w2.heap.size = kb at *
     generalize hW : w2.alloc (.cells #[.bool false, .bool false, .bool false, Sz b, Fv 163, Fv 168, Fv 169] 185) = w3 at *
     clear hW hkb
     refine (rightF false false false (Sz b) (Fv 163) (Fv 168) (Fv 169) st _ rfl rfl rfl rfl).mono ?_
     rintro e w4 ⟨rfl, K4⟩
     rw [HRI.out]
     replace HB := Lib.hid (K4.heap HB.out (by simp))
     replace HK := Lib.hid (HK.out.trans K4)
     replace HKB := Lib.hid (K4.heap HKB.out (by simp))
     clear K4
     obtain ⟨f0, f1, f2, f3, f4, f5, f6, f7, f8, f9, f10, f11, hltB, hltB1⟩ := cells12 HB.out
     obtain ⟨k0, k1, k2, k3, k4, k5, k6, hltK, hltK1⟩ := cells7 HKB.out
     go_wp2_with fail
     refine (mayAlways (⟨2, fl, st, pA, pn, pc, pad, code, last, inc, (dn : Int), false, wt, sA, sn, sc⟩ : Fr) _).mono ?_
     rintro e w5 ⟨rfl, K5⟩
     clear f0 f1 f2 f3 f4 f5 f6 f7 f8 f9 f10 f11 hltB hltB1 k0 k1 k2 k3 k4 k5 k6 hltK hltK1
     replace HB := Lib.hid (K5.heap HB.out (by simp))
     replace HK := Lib.hid (HK.out.trans K5)
     replace HKB := Lib.hid (K5.heap HKB.out (by simp))
     clear K5
     obtain ⟨f0, f1, f2, f3, f4, f5, f6, f7, f8, f9, f10, f11, hltB, hltB1⟩ := cells12 HB.out
     obtain ⟨k0, k1, k2, k3, k4, k5, k6, hltK, hltK1⟩ := cells7 HKB.out
     go_wp2_with fail
     refine (weightedF (⟨2, fl, st, pA, pn, pc, pad, code, last, inc, (dn : Int), false, wt, sA, sn, sc⟩ : Fr) _ hfl0 hfl1).mono ?_
     rintro e w6 ⟨rfl, K6⟩
     rw [HPRI.out]
     clear f0 f1 f2 f3 f4 f5 f6 f7 f8 f9 f10 f11 hltB hltB1 k0 k1 k2 k3 k4 k5 k6 hltK hltK1
     replace HB := Lib.hid (K6.heap HB.out (by simp))
     replace HK := Lib.hid (HK.out.trans K6)
     replace HKB := Lib.hid (K6.heap HKB.out (by simp))
     clear K6
     obtain ⟨f0, f1, f2, f3, f4, f5, f6, f7, f8, f9, f10, f11, hltB, hltB1⟩ := cells12 HB.out
     obtain ⟨k0, k1, k2, k3, k4, k5, k6, hltK, hltK1⟩ := cells7 HKB.out
     go_wp2_with fail
     refine (idF (dn : Int) _).mono ?_
     rintro e w7 ⟨rfl, rfl⟩
     rw [HDEP.out]
     try simp only [Int.not_lt, Int.not_le] at *
     obtain ⟨bs, hbs⟩ : ∃ bs, w6.heap.size = bs := ⟨_, rfl⟩
     have hbsz : bs ≤ w6.heap.size := by omega
     have hBb : w0.heap.size < bs := by have := lt_of_heap HB.out; omega
     have hKb : kb < bs := by have := lt_of_heap HKB.out; omega
     clear hbs
     go_wp2_with fail
     refine (weightedF (⟨2, fl, st, pA, pn, pc, pad, code, last, inc, (dn : Int), false, wt, sA, sn, sc⟩ : Fr) _ hfl0 hfl1).mono ?_
     rintro e w9 ⟨rfl, K9⟩
     rw [HPRI.out]
     replace hbsz : bs ≤ _ := Nat.le_trans hbsz K9.size
     clear f0 f1 f2 f3 f4 f5 f6 f7 f8 f9 f10 f11 hltB hltB1 k0 k1 k2 k3 k4 k5 k6 hltK hltK1
     replace HB := Lib.hid (K9.heap HB.out (by simp))
     replace HK := Lib.hid (HK.out.trans K9)
     replace HKB := Lib.hid (K9.heap HKB.out (by simp))
     clear K9
     obtain ⟨f0, f1, f2, f3, f4, f5, f6, f7, f8, f9, f10, f11, hltB, hltB1⟩ := cells12 HB.out
     obtain ⟨k0, k1, k2, k3, k4, k5, k6, hltK, hltK1⟩ := cells7 HKB.out
     have hBA : w0.heap.size ∉ ob (none : Option Addr) := by intro hx; have := ((Ow.nil w9 bs 5 1).base _ hx).1; omega
     have hAl : ∀ t, t ∈ ob (none : Option Addr) → t < w9.heap.size := fun t ht => ((Ow.nil w9 bs 5 1).base t ht).2
     go_wp2
     refine wp_region_st (by kernel_rfl) [fun _ v _ => v = (.slice none 0 0),
       fun _ v _ => v = (.int .u32 dn),
       fun p v w => ∃ x : Option Addr × Nat × Nat, v = .slice x.1 x.2.1 x.2.2 ∧ 1 ≤ p ∧ (p ≤ 1 → Rd w x.1 x.2.1 x.2.2 (bytesOf dn 4) ∧ x.2.1 = 4 ∧ x.2.2 = 4),
       fun p v w => ∃ x : Option Addr × Nat × Nat, v = .slice x.1 x.2.1 x.2.2 ∧ 2 ≤ p ∧ (p ≤ 2 → Ow w bs 5 1 x.1 x.2.1 x.2.2 (([] ++ bytesOf dn 4).map u8) ∧ x.2.1 = 0 + 4 ∧ (∀ t, t ∈ ob x.1 → t ∈ ob (none : Option Addr) ∨ w9.heap.size ≤ t)),
       fun _ v _ => v = (.pointer (some ⟨w0.heap.size, 10, none⟩)),
       fun _ v _ => v = (.int .i64 wt),
       fun _ v _ => v = (.int .i64 (wt - 1)),
       fun _ v _ => v = (.int .u8 (wt - 1)),
       fun p v w => ∃ x : Option Addr × Nat × Nat, v = .slice x.1 x.2.1 x.2.2 ∧ 0 ≤ p ∧ (p ≤ 2 → Rd w x.1 x.2.1 x.2.2 [byteOf (wt - 1)] ∧ x.2.1 = 1 ∧ (∀ t, t ∈ ob x.1 → w9.heap.size ≤ t)),
       fun p v w => ∃ x : Option Addr × Nat × Nat, v = .slice x.1 x.2.1 x.2.2 ∧ 3 ≤ p ∧ (p ≤ 3 → Ow w bs 5 1 x.1 x.2.1 x.2.2 (([] ++ bytesOf dn 4 ++ [byteOf (wt - 1)]).map u8) ∧ x.2.1 = 0 + 4 + 1),
       fun p v w => ∃ x : Option Addr × Nat × Nat, v = .slice x.1 x.2.1 x.2.2 ∧ 3 ≤ p ∧ (p ≤ 3 → Ow w bs 5 1 x.1 x.2.1 x.2.2 (([] ++ bytesOf dn 4 ++ [byteOf (wt - 1)]).map u8) ∧ x.2.1 = 0 + 4 + 1)] (fun p w => Kp (ob (none : Option Addr)) w9 w ∧ (p ≤ 1 → Kp [] w9 w)) (fun p w w' => (p = 0 → Kp [] w w') ∧ (p = 1 → Kp (ob (none : Option Addr)) w w')) (fun w w' => Kp [] w w') [2, 3, 9] [8] (by kernel_rfl) (by kernel_rfl) (by kernel_rfl) (by decide) (by kernel_rfl) ⟨StabAt2.const _, StabAt2.const _, StabAt2.span (f := fun x : Option Addr × Nat × Nat => .slice x.1 x.2.1 x.2.2) (by intro p x w w' h1 h2; omega) (by intro x w w' hR hG; exact ⟨hG.1.keep hR (by simp), hG.2⟩), StabAt2.span (f := fun x : Option Addr × Nat × Nat => .slice x.1 x.2.1 x.2.2) (by intro p x w w' h1 h2; omega) (by intro x w w' hR hG; exact ⟨hG.1.keep hR (by simp), hG.2⟩), StabAt2.const _, StabAt2.const _, StabAt2.const _, StabAt2.const _, StabAt2.span (f := fun x : Option Addr × Nat × Nat => .slice x.1 x.2.1 x.2.2) (by intro p x w w' h1 h2 h3 hR hG; refine ⟨?_, hG.2⟩; rcases p with _ | _ | p; exact hG.1.keep (hR.1 rfl) (by simp); exact hG.1.keep (hR.2 rfl) (fun _ t ht hA => by have := hG.2.2 t ht; have := hAl t hA; omega); omega) (by intro x w w' hR hG; exact ⟨hG.1.keep hR (by simp), hG.2⟩), StabAt2.span (f := fun x : Option Addr × Nat × Nat => .slice x.1 x.2.1 x.2.2) (by intro p x w w' h1 h2; omega) (by intro x w w' hR hG; exact ⟨hG.1.keep hR (by simp), hG.2⟩), StabAt2.span (f := fun x : Option Addr × Nat × Nat => .slice x.1 x.2.1 x.2.2) (by intro p x w w' h1 h2; omega) (by intro x w w' hR hG; exact ⟨hG.1.keep hR (by simp), hG.2⟩), trivial⟩ (⟨(Kp.refl _ _).drew, fun _ => (Kp.refl _ _).drew⟩) ⟨?_, ?_, ?_, ?_, ?_, ?_, ?_, ?_, ?_, ?_, ?_, trivial⟩ (by kernel_rfl) ?_
     ·as_aux_lemma =>
       intro q9 a w E hC K hK
       have h6 : a.tmps[6]? = some (.slice none 0 0) := (E.out 6 (by kernel_rfl)).trans rfl
       refine want_none rfl ?_
       go_simp
       exact hK _ rfl
     ·as_aux_lemma =>
       intro q9 a w E hC K hK
       have h7 : a.tmps[7]? = some (.int .u32 dn) := (E.out 7 (by kernel_rfl)).trans rfl
       refine want_none rfl ?_
       go_simp
       exact hK _ rfl
     ·as_aux_lemma =>
       intro a w E hC K hK
       obtain ⟨_, h110, rfl⟩ := E.pred 1 _ 110 rfl rfl (by kernel_rfl)
       refine want_none rfl ?_
       go_simp
       refine (Put32_any dn w HDN.out).mono ?_
       rintro e w2 ⟨A2, n2, rfl, R2, _, K2⟩
       have e4 := R2.len
       rw [bytesOf_length] at e4
       subst e4
       go_simp
       exact hK _ _ ⟨⟨A2, 4, 4⟩, rfl, by omega, fun _ => ⟨R2, rfl, rfl⟩⟩ ⟨hC.1.trans K2.nil, fun h => (hC.2 (by omega)).trans K2⟩ ⟨fun _ => K2, fun h => by omega⟩
     ·as_aux_lemma =>
       intro a w E hC K hK
       obtain ⟨_, h109, rfl⟩ := E.pred 0 _ 109 rfl rfl (by kernel_rfl)
       obtain ⟨v2, h111, V2⟩ := E.pred 2 _ 111 rfl rfl (by kernel_rfl)
       replace V2 : (fun p v w => ∃ x : Option Addr × Nat × Nat, v = .slice x.1 x.2.1 x.2.2 ∧ 1 ≤ p ∧ (p ≤ 1 → Rd w x.1 x.2.1 x.2.2 (bytesOf dn 4) ∧ x.2.1 = 4 ∧ x.2.2 = 4)) 1 v2 w := V2
       refine want_none rfl ?_
       obtain ⟨⟨A2, n2, c2⟩, rfl, _, G2⟩ := V2
       obtain ⟨R2, rfl, rfl⟩ := G2 (by omega)
       refine op_appO (.tmp 109) (.tmp 111) 22 5 rfl Try.underlying22 Try.info5 bs none 0 0 [] (eval_tmp h109) ((Ow.nil w9 bs 5 1).keep (hC.2 (by omega)) (by simp)) A2 4 4 _ (eval_tmp h111) R2 (by omega) (by have := hC.1.size; omega) ?_
       intro A' c' w2 O K2 hA'
       exact hK _ _ ⟨⟨A', _, c'⟩, rfl, by omega, fun _ => ⟨O, rfl, fun t ht => by rcases hA' with rfl | rfl; exact .inl ht; simp [ob] at ht; have := hC.1.size; exact .inr (by omega)⟩⟩ ⟨hC.1.trans K2, fun h => by omega⟩ ⟨fun h => by omega, fun _ => K2⟩
     ·as_aux_lemma =>
       intro q9 a w E hC K hK
       have h1 : a.tmps[1]? = some (.pointer (some ⟨w0.heap.size, 0, none⟩)) := (E.out 1 (by kernel_rfl)).trans rfl
       refine want_none rfl ?_
       go_simp
       exact hK _ rfl
     ·as_aux_lemma =>
       intro q9 a w E hC K hK
       obtain ⟨_, h113, rfl⟩ := E.pred 4 _ 113 rfl rfl (by kernel_rfl)
       refine want_none rfl ?_
       have hb := hC.1.heap HB.out hBA
       have g := cell_of hb 10
       go_simp
       exact hK _ rfl
     ·as_aux_lemma =>
       intro q9 a w E hC K hK
       obtain ⟨_, h114, rfl⟩ := E.pred 5 _ 114 rfl rfl (by kernel_rfl)
       refine want_none rfl ?_
       have e1 := HWS.out.1
       go_simp
       exact hK _ rfl
     ·as_aux_lemma =>
       intro q9 a w E hC K hK
       obtain ⟨_, h115, rfl⟩ := E.pred 6 _ 115 rfl rfl (by kernel_rfl)
       refine want_none rfl ?_
       have e1 := HWS.out.2
       go_simp
       exact hK _ rfl
     ·as_aux_lemma =>
       intro q9 a w E hC K hK
       obtain ⟨_, h116, rfl⟩ := E.pred 7 _ 116 rfl rfl (by kernel_rfl)
       refine want_none rfl ?_
       go_simp
       have hsz := hC.1.size
       exact hK _ _ ⟨⟨some ⟨w.heap.size, 0, none⟩, 1, 1⟩, rfl, by omega, fun _ => ⟨Rd.block (hp_new w _ _ rfl) 0 1 1 [byteOf (wt - 1)] rfl (Nat.le_refl _) (by simp; exact u8_of HWT.out.1 HWT.out.2), rfl, by simp [ob]; omega⟩⟩ ⟨hC.1.alloc _, fun h => (hC.2 h).alloc _⟩ ((Kp.refl _ _).alloc _)
     ·as_aux_lemma =>
       intro a w E hC K hK
       obtain ⟨v3, h112, V3⟩ := E.pred 3 _ 112 rfl rfl (by kernel_rfl)
       replace V3 : (fun p v w => ∃ x : Option Addr × Nat × Nat, v = .slice x.1 x.2.1 x.2.2 ∧ 2 ≤ p ∧ (p ≤ 2 → Ow w bs 5 1 x.1 x.2.1 x.2.2 (([] ++ bytesOf dn 4).map u8) ∧ x.2.1 = 0 + 4 ∧ (∀ t, t ∈ ob x.1 → t ∈ ob (none : Option Addr) ∨ w9.heap.size ≤ t))) 2 v3 w := V3
       obtain ⟨v8, h117, V8⟩ := E.pred 8 _ 117 rfl rfl (by kernel_rfl)
       replace V8 : (fun p v w => ∃ x : Option Addr × Nat × Nat, v = .slice x.1 x.2.1 x.2.2 ∧ 0 ≤ p ∧ (p ≤ 2 → Rd w x.1 x.2.1 x.2.2 [byteOf (wt - 1)] ∧ x.2.1 = 1 ∧ (∀ t, t ∈ ob x.1 → w9.heap.size ≤ t))) 2 v8 w := V8
       refine want_none rfl ?_
       obtain ⟨⟨A2, n2, c2⟩, rfl, _, G2⟩ := V3
       obtain ⟨O2, rfl, hA2⟩ := G2 (by omega)
       obtain ⟨⟨A8, n8, c8⟩, rfl, _, G8⟩ := V8
       obtain ⟨R8, rfl, _⟩ := G8 (by omega)
       refine op_appO (.tmp 112) (.tmp 117) 22 5 rfl Try.underlying22 Try.info5 bs A2 _ c2 _ (eval_tmp h112) O2 A8 1 c8 _ (eval_tmp h117) R8 (by omega) (by have := hC.1.size; omega) ?_
       intro A' c' w2 O K2 _
       exact hK _ _ ⟨⟨A', _, c'⟩, rfl, by omega, fun _ => ⟨O, rfl⟩⟩ ⟨hC.1.then K2 hA2, fun h => by omega⟩ ⟨fun h => by omega, fun h => by omega⟩
     ·as_aux_lemma =>
       intro q9 a w E hC K hK
       obtain ⟨v9, h118, V9⟩ := E.pred 9 _ 118 rfl rfl (by kernel_rfl)
       replace V9 : (fun p v w => ∃ x : Option Addr × Nat × Nat, v = .slice x.1 x.2.1 x.2.2 ∧ 3 ≤ p ∧ (p ≤ 3 → Ow w bs 5 1 x.1 x.2.1 x.2.2 (([] ++ bytesOf dn 4 ++ [byteOf (wt - 1)]).map u8) ∧ x.2.1 = 0 + 4 + 1)) q9 v9 w := V9
       refine want_none rfl ?_
       go_simp
       exact hK _ V9
     intro vs w13 hC hV
     have h9 := hV 10 _ rfl (by simp)
     replace h9 : ∃ x : Option Addr × Nat × Nat, vs 10 = .slice x.1 x.2.1 x.2.2 ∧ 3 ≤ 3 ∧ (3 ≤ 3 → Ow w13 bs 5 1 x.1 x.2.1 x.2.2 (([] ++ bytesOf dn 4 ++ [byteOf (wt - 1)]).map u8) ∧ x.2.1 = 0 + 4 + 1) := h9
     obtain ⟨⟨A13, n13, c13⟩, e13, _, G13⟩ := h9
     obtain ⟨O13, hn13⟩ := G13 (Nat.le_refl _)
     clear G13
     dsimp only at e13 O13 hn13
     obtain ⟨l13, hl13⟩ : ∃ l : List UInt8, l = [] ++ bytesOf dn 4 ++ [byteOf (wt - 1)] := ⟨_, rfl⟩
     rw [← hl13] at O13
     replace hl13 := Lib.hid hl13
     have hn13' : n13 = 5 := hn13
     subst hn13'
     clear hn13
     have hc13 := O13.cap.1
     have K13 : Kp (ob (none : Option Addr)) w9 w13 := hC.1
     clear hV hC hBA hAl
     have K13' : Kp [] w9 w13 := K13
     clear K13
     replace hbsz : bs ≤ _ := Nat.le_trans hbsz K13'.size
     clear f0 f1 f2 f3 f4 f5 f6 f7 f8 f9 f10 f11 hltB hltB1 k0 k1 k2 k3 k4 k5 k6 hltK hltK1
     replace HB := Lib.hid (K13'.heap HB.out (by simp))
     replace HK := Lib.hid (HK.out.trans K13')
     replace HKB := Lib.hid (K13'.heap HKB.out (by simp))
     clear K13'
     obtain ⟨f0, f1, f2, f3, f4, f5, f6, f7, f8, f9, f10, f11, hltB, hltB1⟩ := cells12 HB.out
     obtain ⟨k0, k1, k2, k3, k4, k5, k6, hltK, hltK1⟩ := cells7 HKB.out
     have HO := Lib.hid O13
     clear O13
     simp only [putAll, Act.put, List.setIfInBounds_toArray]
     dsimp only [List.set]
     rw [e13]
     clear e13
     go_wp2_with fail
     refine (putNone (⟨2, fl, st, pA, pn, pc, pad, code, last, inc, (dn : Int), false, wt, sA, sn, sc⟩ : Fr) _).mono ?_
     rintro e w14 ⟨Ap, np, cp, rfl, Rp, K14⟩
     have hnp : np ≤ 140737488351300 := by have h1 := Rp.len; have h2 := HRD.out.len; have h3 := HSD.out.len; (try simp [bytesOf_length] at h1); omega
     have HRP := Lib.hid Rp
     clear Rp
     replace HO := Lib.hid (HO.out.keep K14 (by simp))
     replace hbsz : bs ≤ _ := Nat.le_trans hbsz K14.size
     clear f0 f1 f2 f3 f4 f5 f6 f7 f8 f9 f10 f11 hltB hltB1 k0 k1 k2 k3 k4 k5 k6 hltK hltK1
     replace HB := Lib.hid (K14.heap HB.out (by simp))
     replace HK := Lib.hid (HK.out.trans K14)
     replace HKB := Lib.hid (K14.heap HKB.out (by simp))
     clear K14
     obtain ⟨f0, f1, f2, f3, f4, f5, f6, f7, f8, f9, f10, f11, hltB, hltB1⟩ := cells12 HB.out
     obtain ⟨k0, k1, k2, k3, k4, k5, k6, hltK, hltK1⟩ := cells7 HKB.out
     go_wp2_with (with_reducible refine stopAt (o := ⟨some 124, _, _, _, _, _⟩) ?_)
     refine Stop.go (wp_appB rfl _ _ 22 5 rfl Try.underlying22 Try.info5 bs A13 5 c13 l13 rfl HO.out Ap np cp ([]) rfl HRP.out (by omega) (by omega) ?_)
     intro A15 n15 c15 l15 w15 hn15 hl15 O15 K15 hA15
     clear hA15
     clear f0 f1 f2 f3 f4 f5 f6 f7 f8 f9 f10 f11 hltB hltB1 k0 k1 k2 k3 k4 k5 k6 hltK hltK1
     replace HB := Lib.hid (K15.heap HB.out (by intro hx; have := (HO.out.base _ hx).1; omega))
     replace HK := Lib.hid (HK.out.then K15 (fun t ht => .inr (by have := (HO.out.base t ht).1; omega)))
     replace HKB := Lib.hid (K15.heap HKB.out (by intro hx; have := (HO.out.base _ hx).1; omega))
     replace hbsz : bs ≤ _ := Nat.le_trans hbsz K15.size
     obtain ⟨f0, f1, f2, f3, f4, f5, f6, f7, f8, f9, f10, f11, hltB, hltB1⟩ := cells12 HB.out
     obtain ⟨k0, k1, k2, k3, k4, k5, k6, hltK, hltK1⟩ := cells7 HKB.out
     clear HO K15
     have hc15 := O15.cap.1
     have hN15a : n15 ≤ 5 + np := Nat.le_of_eq hn15.out
     have hN15b : 5 + np ≤ n15 := Nat.le_of_eq hn15.out.symm
     have HO := Lib.hid O15
     clear O15 hn15
     clear HRP
     have hlc : l15.length = n15 := by have := HO.out.len; simpa using this
     have hlb : l15 = (bytesOf dn 4 ++ [byteOf (wt - 1)]) ++ ([]) := by rw [hl15.out, hl13.out]; simp
     have HLB := Lib.hid hlb
     have HLC := Lib.hid hlc
     clear hlb hlc hl15 hl13
     by_cases hbig : n15 < 16777216
     ·as_aux_lemma =>
       have hpw : putR (n15 : Int) 3 16777216 = (bytesOf n15 3, 0) := putR_yes (by omega)
       have HPW := Lib.hid hpw
       clear hpw
       go_wp2_with fail
       refine (Put24_any (n15 : Int) _ (by omega)).mono ?_
       rintro e w17 ⟨Ao, no, rfl, Ro, _, K17⟩
       rw [HPW.out] at Ro ⊢
       dsimp only at Ro ⊢
       have eno := Ro.len
       rw [bytesOf_length] at eno
       subst eno
       have HRO := Lib.hid Ro
       clear Ro
       replace HO := Lib.hid (HO.out.keep K17 (by simp))
       replace hbsz : bs ≤ _ := Nat.le_trans hbsz K17.size
       clear f0 f1 f2 f3 f4 f5 f6 f7 f8 f9 f10 f11 hltB hltB1 k0 k1 k2 k3 k4 k5 k6 hltK hltK1
       replace HB := Lib.hid (K17.heap HB.out (by simp))
       replace HK := Lib.hid (HK.out.trans K17)
       replace HKB := Lib.hid (K17.heap HKB.out (by simp))
       clear K17
       obtain ⟨f0, f1, f2, f3, f4, f5, f6, f7, f8, f9, f10, f11, hltB, hltB1⟩ := cells12 HB.out
       obtain ⟨k0, k1, k2, k3, k4, k5, k6, hltK, hltK1⟩ := cells7 HKB.out
       go_wp2_with (with_reducible refine stopAt (o := ⟨some 146, _, _, _, _, _⟩) ?_)
       generalize hW : World.alloc _ _ = w18
       have K18 : Kp [] w17 w18 := by rw [← hW]; (repeat (first | with_reducible exact Kp.refl _ _ | with_reducible assumption | with_reducible refine Kp.alloc ?_ _ | with_reducible refine Kp.drew ?_ | with_reducible refine Kp.drewN ?_ _ | (with_reducible refine Kp.setL ?_ ?_ _; focus (simp; done)) | (with_reducible refine Kp.setR ?_ ?_ _; focus (simp; done)) | (with_reducible refine Kp.setR ?_ ?_ _; focus (simp; omega))))
       have HN18 := Lib.hid (show w18.heap[w17.heap.size]? = some (.cells #[.int .u8 2, .int .u8 fl] 5) by rw [← hW]; (repeat (first | with_reducible assumption | (with_reducible refine hp_new _ _ _ ?_; focus (simp; done)) | (with_reducible refine (hp_old _ _ _ ?_).trans ?_; focus (first | omega | (simp; done) | (simp; omega))) | (with_reducible refine (hp_far _ _ _ _ ?_).trans ?_; focus (first | (simp; done) | (simp; omega))) | (with_reducible refine (hp_drew _ _).trans ?_) | (with_reducible refine (hp_drewN _ _ _).trans ?_))))
       clear hW
       have HRO' := Lib.hid (HRO.out.keep K18 (by simp))
       clear HRO
       replace HO := Lib.hid (HO.out.keep K18 (by simp))
       replace hbsz : bs ≤ _ := Nat.le_trans hbsz K18.size
       clear f0 f1 f2 f3 f4 f5 f6 f7 f8 f9 f10 f11 hltB hltB1 k0 k1 k2 k3 k4 k5 k6 hltK hltK1
       replace HB := Lib.hid (K18.heap HB.out (by simp))
       replace HK := Lib.hid (HK.out.trans K18)
       replace HKB := Lib.hid (K18.heap HKB.out (by simp))
       clear K18
       obtain ⟨f0, f1, f2, f3, f4, f5, f6, f7, f8, f9, f10, f11, hltB, hltB1⟩ := cells12 HB.out
       obtain ⟨k0, k1, k2, k3, k4, k5, k6, hltK, hltK1⟩ := cells7 HKB.out
       refine Stop.go (wp_appF rfl _ _ 22 5 rfl Try.underlying22 Try.info5 bs Ao 3 (bytesOf n15 3) rfl HRO'.out (some ⟨w17.heap.size, 0, none⟩) 2 2 [byteOf 2, byteOf fl] rfl (Rd.block HN18.out 0 2 2 _ rfl (Nat.le_refl _) (by simp; exact ⟨u8_of (by omega) (by omega), u8_of hfl0 hfl1⟩)) (by omega) (by omega) (by omega) (by omega) ?_)
       intro A19 n19 c19 l19 w19 hn19 hl19 O19 K19 hA19
       have hxb : ∀ t, t ∈ ob A15 → t ∉ ob A19 := by
        intro t h1 h2
        have := (HO.out.base t h1).2
        rw [hA19] at h2
        simp [ob] at h2
        omega
       clear HN18 HRO' hA19
       replace HO := Lib.hid (HO.out.keep K19 (by simp))
       replace hbsz : bs ≤ _ := Nat.le_trans hbsz K19.size
       clear f0 f1 f2 f3 f4 f5 f6 f7 f8 f9 f10 f11 hltB hltB1 k0 k1 k2 k3 k4 k5 k6 hltK hltK1
       replace HB := Lib.hid (K19.heap HB.out (by simp))
       replace HK := Lib.hid (HK.out.trans K19)
       replace HKB := Lib.hid (K19.heap HKB.out (by simp))
       clear K19
       obtain ⟨f0, f1, f2, f3, f4, f5, f6, f7, f8, f9, f10, f11, hltB, hltB1⟩ := cells12 HB.out
       obtain ⟨k0, k1, k2, k3, k4, k5, k6, hltK, hltK1⟩ := cells7 HKB.out
       have hN19a : n19 ≤ 3 + 2 := Nat.le_of_eq hn19.out
       have HP := Lib.hid O19
       clear O19 hn19
       go_wp2_with fail
       refine (fourF st _ hst0 hst1).mono ?_
       rintro e w20 ⟨A4, n4, rfl, R4, _, K20⟩
       have en4 := R4.len
       rw [bytesOf_length] at en4
       subst en4
       have HP' := Lib.hid (HP.out.keep K20 (by simp))
       clear HP
       have HR4 := Lib.hid R4
       clear R4
       replace HO := Lib.hid (HO.out.keep K20 (by simp))
       replace hbsz : bs ≤ _ := Nat.le_trans hbsz K20.size
       clear f0 f1 f2 f3 f4 f5 f6 f7 f8 f9 f10 f11 hltB hltB1 k0 k1 k2 k3 k4 k5 k6 hltK hltK1
       replace HB := Lib.hid (K20.heap HB.out (by simp))
       replace HK := Lib.hid (HK.out.trans K20)
       replace HKB := Lib.hid (K20.heap HKB.out (by simp))
       clear K20
       obtain ⟨f0, f1, f2, f3, f4, f5, f6, f7, f8, f9, f10, f11, hltB, hltB1⟩ := cells12 HB.out
       obtain ⟨k0, k1, k2, k3, k4, k5, k6, hltK, hltK1⟩ := cells7 HKB.out
       go_wp2_with (with_reducible refine stopAt (o := ⟨some 151, _, _, _, _, _⟩) ?_)
       refine Stop.go (wp_appB rfl _ _ 22 5 rfl Try.underlying22 Try.info5 bs A19 n19 c19 l19 rfl HP'.out A4 4 4 _ rfl HR4.out (by omega) (by omega) ?_)
       intro A21 n21 c21 l21 w21 hn21 hl21 O21 K21 hA21
       have hN21a : n21 ≤ n19 + 4 := Nat.le_of_eq hn21.out
       have HR21 := Lib.hid (HO.out.keep K21 hxb).rd
       clear f0 f1 f2 f3 f4 f5 f6 f7 f8 f9 f10 f11 hltB hltB1 k0 k1 k2 k3 k4 k5 k6 hltK hltK1
       replace HB := Lib.hid (K21.heap HB.out (by intro hx; have := (HP'.out.base _ hx).1; omega))
       replace HK := Lib.hid (HK.out.then K21 (fun t ht => .inr (by have := (HP'.out.base t ht).1; omega)))
       replace HKB := Lib.hid (K21.heap HKB.out (by intro hx; have := (HP'.out.base _ hx).1; omega))
       replace hbsz : bs ≤ _ := Nat.le_trans hbsz K21.size
       obtain ⟨f0, f1, f2, f3, f4, f5, f6, f7, f8, f9, f10, f11, hltB, hltB1⟩ := cells12 HB.out
       obtain ⟨k0, k1, k2, k3, k4, k5, k6, hltK, hltK1⟩ := cells7 HKB.out
       clear HO HP' hA21 hn21 HR4 hxb K21
       have HO := Lib.hid O21
       have hc21 := O21.cap.1
       clear O21
       go_wp2_with (with_reducible refine stopAt (o := ⟨some 153, _, _, _, _, _⟩) ?_)
       refine Stop.go (wp_appB rfl _ _ 22 5 rfl Try.underlying22 Try.info5 bs A21 n21 c21 l21 rfl HO.out A15 n15 c15 l15 rfl HR21.out (by omega) (by omega) ?_)
       intro A22 n22 c22 l22 w22 hn22 hl22 O22 K22 hA22
       have HK22 := Lib.hid (HK.out.then K22 (fun t ht => .inr (by have := (HO.out.base t ht).1; omega)))
       have HO22 := Lib.hid O22
       clear O22 K22 hA22 hn22 HR21
       have hw := wr_ok (HG.out) (rfl : bodyW ((⟨2, fl, st, pA, pn, pc, pad, code, last, inc, (dn : Int), false, wt, sA, sn, sc⟩ : Fr).p l ss) = _) (by rw [HBD.out, ← HLB.out, HLC.out]; exact hbig)
       have hp := HRR.out.symm.trans hw
       have h1 : R1 = l22 := by
        have := congrArg Prod.fst hp
        dsimp only at this
        rw [this, hl22.out, hl21.out, hl19.out, HBD.out, ← HLB.out, HLC.out]
        rfl
       have h2 : R2 = 0 := congrArg Prod.snd hp
       have H1 := Lib.hid h1
       subst h2
       clear hw hp h1
       go_wp2
       go_ret2
       exact ⟨A22, n22, c22, rfl, by rw [H1.out]; exact HO22.out.mono (by omega), HK22.out⟩
     ·as_aux_lemma =>
       have hpw : putR (n15 : Int) 3 16777216 = ([], 1) := putR_no (by omega)
       have HPW := Lib.hid hpw
       clear hpw
       go_wp2_with fail
       refine (Put24_any (n15 : Int) _ (by omega)).mono ?_
       rintro e w17 ⟨Ao, no, rfl, Ro, _, K17⟩
       rw [HPW.out] at Ro ⊢
       dsimp only at Ro ⊢
       have HK17 := Lib.hid (HK.out.trans K17)
       have hw := wr_long (HG.out) (rfl : bodyW ((⟨2, fl, st, pA, pn, pc, pad, code, last, inc, (dn : Int), false, wt, sA, sn, sc⟩ : Fr).p l ss) = _) (by rw [HBD.out, ← HLB.out, HLC.out]; exact hbig)
       have hp := HRR.out.symm.trans hw
       have h1 : R1 = [] := congrArg Prod.fst hp
       have h2 : R2 = 2 := congrArg Prod.snd hp
       subst h1 h2
       clear hw hp K17 Ro
       go_wp2
       go_ret2
       exact ⟨none, 0, 0, rfl, Ow.nil _ _ _ _, HK17.out⟩
    ·exact absurd (HGD.out.symm.trans (show goodW ((⟨2, fl, st, pA, pn, pc, pad, code, last, inc, dep, false, wt, sA, sn, sc⟩ : Fr).p l ss) = false by simp [goodW, Fr.p, known, rightB, zeroB, mayK, padOk, paddedB, prioOk, prioB, padF, hw1])) (by decide)
   ·exact absurd (HGD.out.symm.trans (show goodW ((⟨2, fl, st, pA, pn, pc, pad, code, last, inc, dep, false, wt, sA, sn, sc⟩ : Fr).p l ss) = false by simp [goodW, Fr.p, known, rightB, zeroB, mayK, padOk, paddedB, prioOk, prioB, padF, hw0])) (by decide)
  ·have hd' : idB dep = false := by simpa using hd
   have HDEP := Lib.hid hd'
   exact absurd (HGD.out.symm.trans (show goodW ((⟨2, fl, st, pA, pn, pc, pad, code, last, inc, dep, false, wt, sA, sn, sc⟩ : Fr).p l ss) = false by simp [goodW, Fr.p, known, rightB, zeroB, mayK, padOk, paddedB, prioOk, prioB, padF, hd])) (by decide)
end Go.Proofs.Ytkmcakneceagpaa
