/- The reference's body of layer 7, walked (D). -/
import Derived.Test.YtkmcakneceagpaaRfBody
set_option linter.unusedVariables false
set_option linter.unusedSimpArgs false
set_option linter.unusedSimpArgs false
namespace Go.Proofs.Ytkmcakneceagpaa
open Go.RowKit
set_option maxHeartbeats 4000000 in
set_option maxRecDepth 100000 in
theorem rbody1ft_f (f : Fr) (l : List UInt8) (ss : List (Int × Int)) (w0 : World) (ok : WrOk w0 f l ss) (hty : f.ty = 1) (hgd : goodW (f.p l ss) = true) (h8 : hasB f.fl 8 = false) (h32 : hasB f.fl 32 = true) (ho : f.only = false) :
    Calls Try.prog 149 #[.agg #[.int .i64 f.ty, .int .i64 f.fl, .int .i64 f.st, .slice f.pA f.pn f.pc, .int .i64 f.pad, .int .u32 f.code, .int .i64 f.last, .int .i64 f.inc, .int .i64 f.dep, .bool f.only, .int .i64 f.wt, .slice f.sA f.sn f.sc]] w0 (RdP (bodyW (f.p l ss)) w0) := by
  obtain ⟨hkn, ⟨hfl0, hfl1⟩, hst, hri, hmy, hpo, hpr⟩ := goodW_of hgd
  obtain ⟨hrd, hpn, hcode, hsd, hsn⟩ := ok
  obtain ⟨ty, fl, st, pA, pn, pc, pad, code, last, inc, dep, only, wt, sA, sn, sc⟩ := f
  dsimp only [Fr.p] at *
  subst hty
  subst ho
  have HRD := Lib.hid hrd
  have HSD := Lib.hid hsd
  clear hgd hkn hst hri hrd hsd
  obtain ⟨hpad0, hpad1⟩ : 0 ≤ pad ∧ pad ≤ 255 := by simp [padOk, paddedB] at hpo; omega
  have H8 := Lib.hid h8
  clear h8
  obtain ⟨hdb, hw0, hw1⟩ : idB dep = true ∧ 1 ≤ wt ∧ wt ≤ 256 := by simp [prioOk, prioB, h32] at hpr; exact ⟨hpr.1.1, hpr.1.2, hpr.2⟩
  have HPRI := Lib.hid (show prioB 1 fl = true by simp [prioB, h32])
  clear h32
  clear hmy hpo hpr
  obtain ⟨hde0, hde1⟩ := idB_of hdb
  obtain ⟨dn, rfl⟩ := Int.eq_ofNat_of_zero_le hde0
  have HDN2 := Lib.hid (show dn < 2147483648 by omega)
  clear hde1 hdb
  obtain ⟨vn, hv⟩ : ∃ v : Nat, v = dn + 0 := ⟨_, rfl⟩
  have HV := Lib.hid hv
  clear hv
  have HPW := Lib.hid (show prioW ((⟨1, fl, st, l, pad, code, last, inc, (dn : Int), false, wt, ss⟩ : Fp)) = bytesOf vn 4 ++ [byteOf (wt - 1)] from prioW_f _ vn rfl HV.out)
  have HBD := Lib.hid (show bodyW ((⟨1, fl, st, l, pad, code, last, inc, (dn : Int), false, wt, ss⟩ : Fp)) = (bytesOf vn 4 ++ [byteOf (wt - 1)]) ++ (l) by
    unfold bodyW
    rw [HPW.out]
    simp [Fr.p, padF, paddedB, prioB, putW, H8.out, (show hasB fl 32 = true by have := HPRI.out; simpa [prioB] using this)])
  obtain ⟨BB, hBB⟩ : ∃ B, bodyW ((⟨1, fl, st, l, pad, code, last, inc, (dn : Int), false, wt, ss⟩ : Fp)) = B := ⟨_, rfl⟩
  rw [show bodyW _ = BB from hBB]
  rw [hBB] at HBD
  clear hBB
  go_enter Try.func149, Try.ntmps149
  go_wp2_with fail
  have K0 : Kp [] w0 (w0.alloc (.cells #[.int .i64 1, .int .i64 fl, .int .i64 st, .slice pA pn pc, .int .i64 pad, .int .u32 code, .int .i64 last, .int .i64 inc, .int .i64 (dn : Int), .bool false, .int .i64 wt, .slice sA sn sc] 49)) := (Kp.refl _ _).alloc _
  have HB := Lib.hid (hp_new w0 (.cells #[.int .i64 1, .int .i64 fl, .int .i64 st, .slice pA pn pc, .int .i64 pad, .int .u32 code, .int .i64 last, .int .i64 inc, .int .i64 (dn : Int), .bool false, .int .i64 wt, .slice sA sn sc] 49) _ rfl)
  have HK := Lib.hid K0
  generalize hW : w0.alloc (.cells #[.int .i64 1, .int .i64 fl, .int .i64 st, .slice pA pn pc, .int .i64 pad, .int .u32 code, .int .i64 last, .int .i64 inc, .int .i64 (dn : Int), .bool false, .int .i64 wt, .slice sA sn sc] 49) = w1 at *
  clear hW
  have hs1 := K0.size
  clear K0
  obtain ⟨bs, hbs⟩ : ∃ bs, w1.heap.size = bs := ⟨_, rfl⟩
  have hbsz : bs ≤ w1.heap.size := by omega
  have hBb : w0.heap.size < bs := by have := lt_of_heap HB.out; omega
  clear hbs
  obtain ⟨f_0, f_1, f_2, f_3, f_4, f_5, f_6, f_7, f_8, f_9, f_10, f_11, hltB, hltB1⟩ := cells12 HB.out
  refine (rpad1 _).mono ?_
  rintro e w1 ⟨rfl, rfl⟩
  go_wp2_with fail
  refine (hasF fl 8 _ hfl0 hfl1 (by omega) (by omega)).mono ?_
  rintro e w1 ⟨rfl, rfl⟩
  rw [H8.out]
  go_wp2_with fail
  refine (rprio1 fl _ hfl0 hfl1).mono ?_
  rintro e w1 ⟨rfl, rfl⟩
  rw [HPRI.out]
  go_wp2_with fail
  refine (rprif 1 fl st pA pn pc pad code last inc dn wt sA sn sc _ HDN2 hw0 hw1 vn HV).mono ?_
  rintro e w12 ⟨Aq, nq, cq, rfl, Oq, K12⟩
  have hnq : nq = 5 := by have := Oq.len; simp [bytesOf_length] at this; omega
  subst hnq
  have HRQ := Lib.hid Oq.rd
  clear Oq
  have hbsz' : bs ≤ _ := Nat.le_trans hbsz K12.size
  clear hbsz
  have hbsz := hbsz'
  clear hbsz'
  have HB' := Lib.hid (K12.heap HB.out (by simp))
  have HK' := Lib.hid (HK.out.trans K12)
  clear f_0 f_1 f_2 f_3 f_4 f_5 f_6 f_7 f_8 f_9 f_10 f_11 hltB hltB1 HB HK K12
  have HB := HB'
  have HK := HK'
  clear HB' HK'
  obtain ⟨f_0, f_1, f_2, f_3, f_4, f_5, f_6, f_7, f_8, f_9, f_10, f_11, hltB, hltB1⟩ := cells12 HB.out
  go_wp2_with (with_reducible refine stopAt (o := ⟨some 31, _, _, _, _, _⟩) ?_)
  refine Stop.go (wp_appB rfl _ _ 22 5 rfl Try.underlying22 Try.info5 bs none 0 0 [] rfl (Ow.nil _ _ _ _) Aq 5 cq (bytesOf vn 4 ++ [byteOf (wt - 1)]) rfl HRQ.out (by omega) (by omega) ?_)
  intro A13 n13 c13 l13 w13 hn13 hl13 O13 K13 hA13
  clear hA13
  have K13' : Kp [] _ w13 := K13.mono (by simp [ob])
  clear K13
  have hbsz' : bs ≤ _ := Nat.le_trans hbsz K13'.size
  clear hbsz
  have hbsz := hbsz'
  clear hbsz'
  have HB' := Lib.hid (K13'.heap HB.out (by simp))
  have HK' := Lib.hid (HK.out.trans K13')
  clear f_0 f_1 f_2 f_3 f_4 f_5 f_6 f_7 f_8 f_9 f_10 f_11 hltB hltB1 HB HK K13'
  have HB := HB'
  have HK := HK'
  clear HB' HK'
  obtain ⟨f_0, f_1, f_2, f_3, f_4, f_5, f_6, f_7, f_8, f_9, f_10, f_11, hltB, hltB1⟩ := cells12 HB.out
  have hc13 := O13.cap.1
  have hN13a : n13 ≤ 0 + 5 := Nat.le_of_eq hn13.out
  have hN13b : 0 + 5 ≤ n13 := Nat.le_of_eq hn13.out.symm
  have HO := Lib.hid O13
  clear O13 hn13
  clear HRQ
  have HRL := Lib.hid (HRD.out.keep HK.out (by simp))
  go_wp2_with (with_reducible refine stopAt (o := ⟨some 101, _, _, _, _, _⟩) ?_)
  refine Stop.go (wp_appB rfl _ _ 22 5 rfl Try.underlying22 Try.info5 bs A13 n13 c13 l13 rfl HO.out pA pn pc l rfl HRL.out (by omega) (by omega) ?_)
  intro A20 n20 c20 l20 w20 hn20 hl20 O20 K20 hA20
  clear hA20
  have HB' := Lib.hid (K20.heap HB.out (by intro hx; have := (HO.out.base _ hx).1; omega))
  have HK' := Lib.hid (HK.out.then K20 (fun t ht => .inr (by have := (HO.out.base t ht).1; omega)))
  have hbsz' : bs ≤ _ := Nat.le_trans hbsz K20.size
  clear f_0 f_1 f_2 f_3 f_4 f_5 f_6 f_7 f_8 f_9 f_10 f_11 hltB hltB1 HB HK hbsz
  have HB := HB'
  have HK := HK'
  have hbsz := hbsz'
  clear HB' HK' hbsz'
  obtain ⟨f_0, f_1, f_2, f_3, f_4, f_5, f_6, f_7, f_8, f_9, f_10, f_11, hltB, hltB1⟩ := cells12 HB.out
  clear HO K20
  have hc20 := O20.cap.1
  have hN20a : n20 ≤ n13 + pn := Nat.le_of_eq hn20.out
  have hN20b : n13 + pn ≤ n20 := Nat.le_of_eq hn20.out.symm
  have HO := Lib.hid O20
  clear O20 hn20
  clear HRL
  have e : l20 = (bytesOf vn 4 ++ [byteOf (wt - 1)]) ++ (l) := by rw [hl20.out, hl13.out]; simp
  have HE := Lib.hid e
  clear e
  have hl := HBD.out
  have HL := Lib.hid hl
  clear hl
  go_wp2
  go_ret
  exact ⟨_, _, _, rfl, by rw [HL.out]; rw [← HE.out]; exact HO.out.rd, HK.out⟩
set_option maxHeartbeats 4000000 in
set_option maxRecDepth 100000 in
theorem rbody1ft_t (f : Fr) (l : List UInt8) (ss : List (Int × Int)) (w0 : World) (ok : WrOk w0 f l ss) (hty : f.ty = 1) (hgd : goodW (f.p l ss) = true) (h8 : hasB f.fl 8 = false) (h32 : hasB f.fl 32 = true) (ho : f.only = true) :
    Calls Try.prog 149 #[.agg #[.int .i64 f.ty, .int .i64 f.fl, .int .i64 f.st, .slice f.pA f.pn f.pc, .int .i64 f.pad, .int .u32 f.code, .int .i64 f.last, .int .i64 f.inc, .int .i64 f.dep, .bool f.only, .int .i64 f.wt, .slice f.sA f.sn f.sc]] w0 (RdP (bodyW (f.p l ss)) w0) := by
  obtain ⟨hkn, ⟨hfl0, hfl1⟩, hst, hri, hmy, hpo, hpr⟩ := goodW_of hgd
  obtain ⟨hrd, hpn, hcode, hsd, hsn⟩ := ok
  obtain ⟨ty, fl, st, pA, pn, pc, pad, code, last, inc, dep, only, wt, sA, sn, sc⟩ := f
  dsimp only [Fr.p] at *
  subst hty
  subst ho
  have HRD := Lib.hid hrd
  have HSD := Lib.hid hsd
  clear hgd hkn hst hri hrd hsd
  obtain ⟨hpad0, hpad1⟩ : 0 ≤ pad ∧ pad ≤ 255 := by simp [padOk, paddedB] at hpo; omega
  have H8 := Lib.hid h8
  clear h8
  obtain ⟨hdb, hw0, hw1⟩ : idB dep = true ∧ 1 ≤ wt ∧ wt ≤ 256 := by simp [prioOk, prioB, h32] at hpr; exact ⟨hpr.1.1, hpr.1.2, hpr.2⟩
  have HPRI := Lib.hid (show prioB 1 fl = true by simp [prioB, h32])
  clear h32
  clear hmy hpo hpr
  obtain ⟨hde0, hde1⟩ := idB_of hdb
  obtain ⟨dn, rfl⟩ := Int.eq_ofNat_of_zero_le hde0
  have HDN2 := Lib.hid (show dn < 2147483648 by omega)
  clear hde1 hdb
  obtain ⟨vn, hv⟩ : ∃ v : Nat, v = dn + 2147483648 := ⟨_, rfl⟩
  have HV := Lib.hid hv
  clear hv
  have HPW := Lib.hid (show prioW ((⟨1, fl, st, l, pad, code, last, inc, (dn : Int), true, wt, ss⟩ : Fp)) = bytesOf vn 4 ++ [byteOf (wt - 1)] from prioW_t _ vn rfl HV.out)
  have HBD := Lib.hid (show bodyW ((⟨1, fl, st, l, pad, code, last, inc, (dn : Int), true, wt, ss⟩ : Fp)) = (bytesOf vn 4 ++ [byteOf (wt - 1)]) ++ (l) by
    unfold bodyW
    rw [HPW.out]
    simp [Fr.p, padF, paddedB, prioB, putW, H8.out, (show hasB fl 32 = true by have := HPRI.out; simpa [prioB] using this)])
  obtain ⟨BB, hBB⟩ : ∃ B, bodyW ((⟨1, fl, st, l, pad, code, last, inc, (dn : Int), true, wt, ss⟩ : Fp)) = B := ⟨_, rfl⟩
  rw [show bodyW _ = BB from hBB]
  rw [hBB] at HBD
  clear hBB
  go_enter Try.func149, Try.ntmps149
  go_wp2_with fail
  have K0 : Kp [] w0 (w0.alloc (.cells #[.int .i64 1, .int .i64 fl, .int .i64 st, .slice pA pn pc, .int .i64 pad, .int .u32 code, .int .i64 last, .int .i64 inc, .int .i64 (dn : Int), .bool true, .int .i64 wt, .slice sA sn sc] 49)) := (Kp.refl _ _).alloc _
  have HB := Lib.hid (hp_new w0 (.cells #[.int .i64 1, .int .i64 fl, .int .i64 st, .slice pA pn pc, .int .i64 pad, .int .u32 code, .int .i64 last, .int .i64 inc, .int .i64 (dn : Int), .bool true, .int .i64 wt, .slice sA sn sc] 49) _ rfl)
  have HK := Lib.hid K0
  generalize hW : w0.alloc (.cells #[.int .i64 1, .int .i64 fl, .int .i64 st, .slice pA pn pc, .int .i64 pad, .int .u32 code, .int .i64 last, .int .i64 inc, .int .i64 (dn : Int), .bool true, .int .i64 wt, .slice sA sn sc] 49) = w1 at *
  clear hW
  have hs1 := K0.size
  clear K0
  obtain ⟨bs, hbs⟩ : ∃ bs, w1.heap.size = bs := ⟨_, rfl⟩
  have hbsz : bs ≤ w1.heap.size := by omega
  have hBb : w0.heap.size < bs := by have := lt_of_heap HB.out; omega
  clear hbs
  obtain ⟨f_0, f_1, f_2, f_3, f_4, f_5, f_6, f_7, f_8, f_9, f_10, f_11, hltB, hltB1⟩ := cells12 HB.out
  refine (rpad1 _).mono ?_
  rintro e w1 ⟨rfl, rfl⟩
  go_wp2_with fail
  refine (hasF fl 8 _ hfl0 hfl1 (by omega) (by omega)).mono ?_
  rintro e w1 ⟨rfl, rfl⟩
  rw [H8.out]
  go_wp2_with fail
  refine (rprio1 fl _ hfl0 hfl1).mono ?_
  rintro e w1 ⟨rfl, rfl⟩
  rw [HPRI.out]
  go_wp2_with fail
  refine (rprit 1 fl st pA pn pc pad code last inc dn wt sA sn sc _ HDN2 hw0 hw1 vn HV).mono ?_
  rintro e w12 ⟨Aq, nq, cq, rfl, Oq, K12⟩
  have hnq : nq = 5 := by have := Oq.len; simp [bytesOf_length] at this; omega
  subst hnq
  have HRQ := Lib.hid Oq.rd
  clear Oq
  have hbsz' : bs ≤ _ := Nat.le_trans hbsz K12.size
  clear hbsz
  have hbsz := hbsz'
  clear hbsz'
  have HB' := Lib.hid (K12.heap HB.out (by simp))
  have HK' := Lib.hid (HK.out.trans K12)
  clear f_0 f_1 f_2 f_3 f_4 f_5 f_6 f_7 f_8 f_9 f_10 f_11 hltB hltB1 HB HK K12
  have HB := HB'
  have HK := HK'
  clear HB' HK'
  obtain ⟨f_0, f_1, f_2, f_3, f_4, f_5, f_6, f_7, f_8, f_9, f_10, f_11, hltB, hltB1⟩ := cells12 HB.out
  go_wp2_with (with_reducible refine stopAt (o := ⟨some 31, _, _, _, _, _⟩) ?_)
  refine Stop.go (wp_appB rfl _ _ 22 5 rfl Try.underlying22 Try.info5 bs none 0 0 [] rfl (Ow.nil _ _ _ _) Aq 5 cq (bytesOf vn 4 ++ [byteOf (wt - 1)]) rfl HRQ.out (by omega) (by omega) ?_)
  intro A13 n13 c13 l13 w13 hn13 hl13 O13 K13 hA13
  clear hA13
  have K13' : Kp [] _ w13 := K13.mono (by simp [ob])
  clear K13
  have hbsz' : bs ≤ _ := Nat.le_trans hbsz K13'.size
  clear hbsz
  have hbsz := hbsz'
  clear hbsz'
  have HB' := Lib.hid (K13'.heap HB.out (by simp))
  have HK' := Lib.hid (HK.out.trans K13')
  clear f_0 f_1 f_2 f_3 f_4 f_5 f_6 f_7 f_8 f_9 f_10 f_11 hltB hltB1 HB HK K13'
  have HB := HB'
  have HK := HK'
  clear HB' HK'
  obtain ⟨f_0, f_1, f_2, f_3, f_4, f_5, f_6, f_7, f_8, f_9, f_10, f_11, hltB, hltB1⟩ := cells12 HB.out
  have hc13 := O13.cap.1
  have hN13a : n13 ≤ 0 + 5 := Nat.le_of_eq hn13.out
  have hN13b : 0 + 5 ≤ n13 := Nat.le_of_eq hn13.out.symm
  have HO := Lib.hid O13
  clear O13 hn13
  clear HRQ
  have HRL := Lib.hid (HRD.out.keep HK.out (by simp))
  go_wp2_with (with_reducible refine stopAt (o := ⟨some 101, _, _, _, _, _⟩) ?_)
  refine Stop.go (wp_appB rfl _ _ 22 5 rfl Try.underlying22 Try.info5 bs A13 n13 c13 l13 rfl HO.out pA pn pc l rfl HRL.out (by omega) (by omega) ?_)
  intro A20 n20 c20 l20 w20 hn20 hl20 O20 K20 hA20
  clear hA20
  have HB' := Lib.hid (K20.heap HB.out (by intro hx; have := (HO.out.base _ hx).1; omega))
  have HK' := Lib.hid (HK.out.then K20 (fun t ht => .inr (by have := (HO.out.base t ht).1; omega)))
  have hbsz' : bs ≤ _ := Nat.le_trans hbsz K20.size
  clear f_0 f_1 f_2 f_3 f_4 f_5 f_6 f_7 f_8 f_9 f_10 f_11 hltB hltB1 HB HK hbsz
  have HB := HB'
  have HK := HK'
  have hbsz := hbsz'
  clear HB' HK' hbsz'
  obtain ⟨f_0, f_1, f_2, f_3, f_4, f_5, f_6, f_7, f_8, f_9, f_10, f_11, hltB, hltB1⟩ := cells12 HB.out
  clear HO K20
  have hc20 := O20.cap.1
  have hN20a : n20 ≤ n13 + pn := Nat.le_of_eq hn20.out
  have hN20b : n13 + pn ≤ n20 := Nat.le_of_eq hn20.out.symm
  have HO := Lib.hid O20
  clear O20 hn20
  clear HRL
  have e : l20 = (bytesOf vn 4 ++ [byteOf (wt - 1)]) ++ (l) := by rw [hl20.out, hl13.out]; simp
  have HE := Lib.hid e
  clear e
  have hl := HBD.out
  have HL := Lib.hid hl
  clear hl
  go_wp2
  go_ret
  exact ⟨_, _, _, rfl, by rw [HL.out]; rw [← HE.out]; exact HO.out.rd, HK.out⟩
set_option maxHeartbeats 4000000 in
set_option maxRecDepth 100000 in
theorem rbody1tt_f (f : Fr) (l : List UInt8) (ss : List (Int × Int)) (w0 : World) (ok : WrOk w0 f l ss) (hty : f.ty = 1) (hgd : goodW (f.p l ss) = true) (h8 : hasB f.fl 8 = true) (h32 : hasB f.fl 32 = true) (ho : f.only = false) :
    Calls Try.prog 149 #[.agg #[.int .i64 f.ty, .int .i64 f.fl, .int .i64 f.st, .slice f.pA f.pn f.pc, .int .i64 f.pad, .int .u32 f.code, .int .i64 f.last, .int .i64 f.inc, .int .i64 f.dep, .bool f.only, .int .i64 f.wt, .slice f.sA f.sn f.sc]] w0 (RdP (bodyW (f.p l ss)) w0) := by
  obtain ⟨hkn, ⟨hfl0, hfl1⟩, hst, hri, hmy, hpo, hpr⟩ := goodW_of hgd
  obtain ⟨hrd, hpn, hcode, hsd, hsn⟩ := ok
  obtain ⟨ty, fl, st, pA, pn, pc, pad, code, last, inc, dep, only, wt, sA, sn, sc⟩ := f
  dsimp only [Fr.p] at *
  subst hty
  subst ho
  have HRD := Lib.hid hrd
  have HSD := Lib.hid hsd
  clear hgd hkn hst hri hrd hsd
  obtain ⟨hpad0, hpad1⟩ : 0 ≤ pad ∧ pad ≤ 255 := by simp [padOk, paddedB] at hpo; omega
  have H8 := Lib.hid h8
  clear h8
  obtain ⟨hdb, hw0, hw1⟩ : idB dep = true ∧ 1 ≤ wt ∧ wt ≤ 256 := by simp [prioOk, prioB, h32] at hpr; exact ⟨hpr.1.1, hpr.1.2, hpr.2⟩
  have HPRI := Lib.hid (show prioB 1 fl = true by simp [prioB, h32])
  clear h32
  clear hmy hpo hpr
  obtain ⟨pd, rfl⟩ := Int.eq_ofNat_of_zero_le hpad0
  obtain ⟨hde0, hde1⟩ := idB_of hdb
  obtain ⟨dn, rfl⟩ := Int.eq_ofNat_of_zero_le hde0
  have HDN2 := Lib.hid (show dn < 2147483648 by omega)
  clear hde1 hdb
  obtain ⟨vn, hv⟩ : ∃ v : Nat, v = dn + 0 := ⟨_, rfl⟩
  have HV := Lib.hid hv
  clear hv
  have HPW := Lib.hid (show prioW ((⟨1, fl, st, l, (pd : Int), code, last, inc, (dn : Int), false, wt, ss⟩ : Fp)) = bytesOf vn 4 ++ [byteOf (wt - 1)] from prioW_f _ vn rfl HV.out)
  have HBD := Lib.hid (show bodyW ((⟨1, fl, st, l, (pd : Int), code, last, inc, (dn : Int), false, wt, ss⟩ : Fp)) = [byteOf pd] ++ (bytesOf vn 4 ++ [byteOf (wt - 1)]) ++ (l) ++ List.replicate pd 0 by
    unfold bodyW
    rw [HPW.out]
    simp [Fr.p, padF, paddedB, prioB, putW, H8.out, (show hasB fl 32 = true by have := HPRI.out; simpa [prioB] using this)])
  obtain ⟨BB, hBB⟩ : ∃ B, bodyW ((⟨1, fl, st, l, (pd : Int), code, last, inc, (dn : Int), false, wt, ss⟩ : Fp)) = B := ⟨_, rfl⟩
  rw [show bodyW _ = BB from hBB]
  rw [hBB] at HBD
  clear hBB
  go_enter Try.func149, Try.ntmps149
  go_wp2_with fail
  have K0 : Kp [] w0 (w0.alloc (.cells #[.int .i64 1, .int .i64 fl, .int .i64 st, .slice pA pn pc, .int .i64 (pd : Int), .int .u32 code, .int .i64 last, .int .i64 inc, .int .i64 (dn : Int), .bool false, .int .i64 wt, .slice sA sn sc] 49)) := (Kp.refl _ _).alloc _
  have HB := Lib.hid (hp_new w0 (.cells #[.int .i64 1, .int .i64 fl, .int .i64 st, .slice pA pn pc, .int .i64 (pd : Int), .int .u32 code, .int .i64 last, .int .i64 inc, .int .i64 (dn : Int), .bool false, .int .i64 wt, .slice sA sn sc] 49) _ rfl)
  have HK := Lib.hid K0
  generalize hW : w0.alloc (.cells #[.int .i64 1, .int .i64 fl, .int .i64 st, .slice pA pn pc, .int .i64 (pd : Int), .int .u32 code, .int .i64 last, .int .i64 inc, .int .i64 (dn : Int), .bool false, .int .i64 wt, .slice sA sn sc] 49) = w1 at *
  clear hW
  have hs1 := K0.size
  clear K0
  obtain ⟨bs, hbs⟩ : ∃ bs, w1.heap.size = bs := ⟨_, rfl⟩
  have hbsz : bs ≤ w1.heap.size := by omega
  have hBb : w0.heap.size < bs := by have := lt_of_heap HB.out; omega
  clear hbs
  obtain ⟨f_0, f_1, f_2, f_3, f_4, f_5, f_6, f_7, f_8, f_9, f_10, f_11, hltB, hltB1⟩ := cells12 HB.out
  refine (rpad1 _).mono ?_
  rintro e w1 ⟨rfl, rfl⟩
  go_wp2_with fail
  refine (hasF fl 8 _ hfl0 hfl1 (by omega) (by omega)).mono ?_
  rintro e w1 ⟨rfl, rfl⟩
  rw [H8.out]
  go_wp2_with (with_reducible refine stopAt (o := ⟨some 22, _, _, _, _, _⟩) ?_)
  generalize hW : World.alloc _ _ = w7
  have K7 : Kp [] w1 w7 := by rw [← hW]; (repeat (first | with_reducible exact Kp.refl _ _ | with_reducible assumption | with_reducible refine Kp.alloc ?_ _ | with_reducible refine Kp.drew ?_ | with_reducible refine Kp.drewN ?_ _ | (with_reducible refine Kp.setL ?_ ?_ _; focus (simp; done)) | (with_reducible refine Kp.setR ?_ ?_ _; focus (simp; done)) | (with_reducible refine Kp.setR ?_ ?_ _; focus (simp; omega))))
  have HN7 := Lib.hid (show w7.heap[w1.heap.size]? = some (.cells #[.int .u8 (pd : Int)] 5) by rw [← hW]; (repeat (first | with_reducible assumption | (with_reducible refine hp_new _ _ _ ?_; focus (simp; done)) | (with_reducible refine (hp_old _ _ _ ?_).trans ?_; focus (first | omega | (simp; done) | (simp; omega))) | (with_reducible refine (hp_far _ _ _ _ ?_).trans ?_; focus (first | (simp; done) | (simp; omega))) | (with_reducible refine (hp_drew _ _).trans ?_) | (with_reducible refine (hp_drewN _ _ _).trans ?_))))
  clear hW
  have hbsz' : bs ≤ _ := Nat.le_trans hbsz K7.size
  clear hbsz
  have hbsz := hbsz'
  clear hbsz'
  have HB' := Lib.hid (K7.heap HB.out (by simp))
  have HK' := Lib.hid (HK.out.trans K7)
  clear f_0 f_1 f_2 f_3 f_4 f_5 f_6 f_7 f_8 f_9 f_10 f_11 hltB hltB1 HB HK K7
  have HB := HB'
  have HK := HK'
  clear HB' HK'
  obtain ⟨f_0, f_1, f_2, f_3, f_4, f_5, f_6, f_7, f_8, f_9, f_10, f_11, hltB, hltB1⟩ := cells12 HB.out
  refine Stop.go (wp_appB rfl _ _ 22 5 rfl Try.underlying22 Try.info5 bs none 0 0 [] rfl (Ow.nil _ _ _ _) (some ⟨w1.heap.size, 0, none⟩) 1 1 [byteOf pd] rfl (Rd.block HN7.out 0 1 1 [byteOf _] rfl (Nat.le_refl _) (by simp; exact u8_of hpad0 hpad1)) (by omega) (by omega) ?_)
  intro A8 n8 c8 l8 w8 hn8 hl8 O8 K8 hA8
  clear hA8
  have K8' : Kp [] _ w8 := K8.mono (by simp [ob])
  clear K8
  have hbsz' : bs ≤ _ := Nat.le_trans hbsz K8'.size
  clear hbsz
  have hbsz := hbsz'
  clear hbsz'
  have HB' := Lib.hid (K8'.heap HB.out (by simp))
  have HK' := Lib.hid (HK.out.trans K8')
  clear f_0 f_1 f_2 f_3 f_4 f_5 f_6 f_7 f_8 f_9 f_10 f_11 hltB hltB1 HB HK K8'
  have HB := HB'
  have HK := HK'
  clear HB' HK'
  obtain ⟨f_0, f_1, f_2, f_3, f_4, f_5, f_6, f_7, f_8, f_9, f_10, f_11, hltB, hltB1⟩ := cells12 HB.out
  have hc8 := O8.cap.1
  have hN8a : n8 ≤ 1 := Nat.le_of_eq hn8.out
  have hN8b : 1 ≤ n8 := Nat.le_of_eq hn8.out.symm
  have HO := Lib.hid O8
  clear O8 hn8
  clear HN7
  go_wp2_with fail
  refine (rprio1 fl _ hfl0 hfl1).mono ?_
  rintro e w1 ⟨rfl, rfl⟩
  rw [HPRI.out]
  go_wp2_with fail
  refine (rprif 1 fl st pA pn pc (pd : Int) code last inc dn wt sA sn sc _ HDN2 hw0 hw1 vn HV).mono ?_
  rintro e w12 ⟨Aq, nq, cq, rfl, Oq, K12⟩
  have hnq : nq = 5 := by have := Oq.len; simp [bytesOf_length] at this; omega
  subst hnq
  have HRQ := Lib.hid Oq.rd
  clear Oq
  have HO' := Lib.hid (HO.out.keep K12 (by simp))
  clear HO
  have HO := HO'
  clear HO'
  have hbsz' : bs ≤ _ := Nat.le_trans hbsz K12.size
  clear hbsz
  have hbsz := hbsz'
  clear hbsz'
  have HB' := Lib.hid (K12.heap HB.out (by simp))
  have HK' := Lib.hid (HK.out.trans K12)
  clear f_0 f_1 f_2 f_3 f_4 f_5 f_6 f_7 f_8 f_9 f_10 f_11 hltB hltB1 HB HK K12
  have HB := HB'
  have HK := HK'
  clear HB' HK'
  obtain ⟨f_0, f_1, f_2, f_3, f_4, f_5, f_6, f_7, f_8, f_9, f_10, f_11, hltB, hltB1⟩ := cells12 HB.out
  go_wp2_with (with_reducible refine stopAt (o := ⟨some 31, _, _, _, _, _⟩) ?_)
  refine Stop.go (wp_appB rfl _ _ 22 5 rfl Try.underlying22 Try.info5 bs A8 n8 c8 l8 rfl HO.out Aq 5 cq (bytesOf vn 4 ++ [byteOf (wt - 1)]) rfl HRQ.out (by omega) (by omega) ?_)
  intro A13 n13 c13 l13 w13 hn13 hl13 O13 K13 hA13
  clear hA13
  have HB' := Lib.hid (K13.heap HB.out (by intro hx; have := (HO.out.base _ hx).1; omega))
  have HK' := Lib.hid (HK.out.then K13 (fun t ht => .inr (by have := (HO.out.base t ht).1; omega)))
  have hbsz' : bs ≤ _ := Nat.le_trans hbsz K13.size
  clear f_0 f_1 f_2 f_3 f_4 f_5 f_6 f_7 f_8 f_9 f_10 f_11 hltB hltB1 HB HK hbsz
  have HB := HB'
  have HK := HK'
  have hbsz := hbsz'
  clear HB' HK' hbsz'
  obtain ⟨f_0, f_1, f_2, f_3, f_4, f_5, f_6, f_7, f_8, f_9, f_10, f_11, hltB, hltB1⟩ := cells12 HB.out
  clear HO K13
  have hc13 := O13.cap.1
  have hN13a : n13 ≤ n8 + 5 := Nat.le_of_eq hn13.out
  have hN13b : n8 + 5 ≤ n13 := Nat.le_of_eq hn13.out.symm
  have HO := Lib.hid O13
  clear O13 hn13
  clear HRQ
  have HRL := Lib.hid (HRD.out.keep HK.out (by simp))
  go_wp2_with (with_reducible refine stopAt (o := ⟨some 101, _, _, _, _, _⟩) ?_)
  refine Stop.go (wp_appB rfl _ _ 22 5 rfl Try.underlying22 Try.info5 bs A13 n13 c13 l13 rfl HO.out pA pn pc l rfl HRL.out (by omega) (by omega) ?_)
  intro A20 n20 c20 l20 w20 hn20 hl20 O20 K20 hA20
  clear hA20
  have HB' := Lib.hid (K20.heap HB.out (by intro hx; have := (HO.out.base _ hx).1; omega))
  have HK' := Lib.hid (HK.out.then K20 (fun t ht => .inr (by have := (HO.out.base t ht).1; omega)))
  have hbsz' : bs ≤ _ := Nat.le_trans hbsz K20.size
  clear f_0 f_1 f_2 f_3 f_4 f_5 f_6 f_7 f_8 f_9 f_10 f_11 hltB hltB1 HB HK hbsz
  have HB := HB'
  have HK := HK'
  have hbsz := hbsz'
  clear HB' HK' hbsz'
  obtain ⟨f_0, f_1, f_2, f_3, f_4, f_5, f_6, f_7, f_8, f_9, f_10, f_11, hltB, hltB1⟩ := cells12 HB.out
  clear HO K20
  have hc20 := O20.cap.1
  have hN20a : n20 ≤ n13 + pn := Nat.le_of_eq hn20.out
  have hN20b : n13 + pn ≤ n20 := Nat.le_of_eq hn20.out.symm
  have HO := Lib.hid O20
  clear O20 hn20
  clear HRL
  go_wp2_with (with_reducible refine stopAt (o := ⟨some 106, _, _, _, _, _⟩) ?_)
  refine Stop.go (wp_appZ rfl _ _ 22 3 5 rfl Try.underlying22 Try.underlying3 Try.info5 bs A20 n20 c20 l20 rfl HO.out pd rfl (by omega) (by omega) ?_)
  intro A21 n21 c21 l21 w21 hn21 hl21 O21 K21
  have HB' := Lib.hid (K21.heap HB.out (by intro hx; have := (HO.out.base _ hx).1; omega))
  have HK' := Lib.hid (HK.out.then K21 (fun t ht => .inr (by have := (HO.out.base t ht).1; omega)))
  have hbsz' : bs ≤ _ := Nat.le_trans hbsz K21.size
  clear f_0 f_1 f_2 f_3 f_4 f_5 f_6 f_7 f_8 f_9 f_10 f_11 hltB hltB1 HB HK hbsz
  have HB := HB'
  have HK := HK'
  have hbsz := hbsz'
  clear HB' HK' hbsz'
  obtain ⟨f_0, f_1, f_2, f_3, f_4, f_5, f_6, f_7, f_8, f_9, f_10, f_11, hltB, hltB1⟩ := cells12 HB.out
  clear HO K21
  have hc21 := O21.cap.1
  have HO := Lib.hid O21
  clear O21 hn21
  have e : l21 = [byteOf pd] ++ (bytesOf vn 4 ++ [byteOf (wt - 1)]) ++ (l) ++ List.replicate pd 0 := by rw [hl21.out, hl20.out, hl13.out, hl8.out]; simp
  have HE := Lib.hid e
  clear e
  have hl := HBD.out
  have HL := Lib.hid hl
  clear hl
  go_wp2
  go_ret
  exact ⟨_, _, _, rfl, by rw [HL.out]; rw [← HE.out]; exact HO.out.rd, HK.out⟩
set_option maxHeartbeats 4000000 in
set_option maxRecDepth 100000 in
theorem rbody1tt_t (f : Fr) (l : List UInt8) (ss : List (Int × Int)) (w0 : World) (ok : WrOk w0 f l ss) (hty : f.ty = 1) (hgd : goodW (f.p l ss) = true) (h8 : hasB f.fl 8 = true) (h32 : hasB f.fl 32 = true) (ho : f.only = true) :
    Calls Try.prog 149 #[.agg #[.int .i64 f.ty, .int .i64 f.fl, .int .i64 f.st, .slice f.pA f.pn f.pc, .int .i64 f.pad, .int .u32 f.code, .int .i64 f.last, .int .i64 f.inc, .int .i64 f.dep, .bool f.only, .int .i64 f.wt, .slice f.sA f.sn f.sc]] w0 (RdP (bodyW (f.p l ss)) w0) := by
  obtain ⟨hkn, ⟨hfl0, hfl1⟩, hst, hri, hmy, hpo, hpr⟩ := goodW_of hgd
  obtain ⟨hrd, hpn, hcode, hsd, hsn⟩ := ok
  obtain ⟨ty, fl, st, pA, pn, pc, pad, code, last, inc, dep, only, wt, sA, sn, sc⟩ := f
  dsimp only [Fr.p] at *
  subst hty
  subst ho
  have HRD := Lib.hid hrd
  have HSD := Lib.hid hsd
  clear hgd hkn hst hri hrd hsd
  obtain ⟨hpad0, hpad1⟩ : 0 ≤ pad ∧ pad ≤ 255 := by simp [padOk, paddedB] at hpo; omega
  have H8 := Lib.hid h8
  clear h8
  obtain ⟨hdb, hw0, hw1⟩ : idB dep = true ∧ 1 ≤ wt ∧ wt ≤ 256 := by simp [prioOk, prioB, h32] at hpr; exact ⟨hpr.1.1, hpr.1.2, hpr.2⟩
  have HPRI := Lib.hid (show prioB 1 fl = true by simp [prioB, h32])
  clear h32
  clear hmy hpo hpr
  obtain ⟨pd, rfl⟩ := Int.eq_ofNat_of_zero_le hpad0
  obtain ⟨hde0, hde1⟩ := idB_of hdb
  obtain ⟨dn, rfl⟩ := Int.eq_ofNat_of_zero_le hde0
  have HDN2 := Lib.hid (show dn < 2147483648 by omega)
  clear hde1 hdb
  obtain ⟨vn, hv⟩ : ∃ v : Nat, v = dn + 2147483648 := ⟨_, rfl⟩
  have HV := Lib.hid hv
  clear hv
  have HPW := Lib.hid (show prioW ((⟨1, fl, st, l, (pd : Int), code, last, inc, (dn : Int), true, wt, ss⟩ : Fp)) = bytesOf vn 4 ++ [byteOf (wt - 1)] from prioW_t _ vn rfl HV.out)
  have HBD := Lib.hid (show bodyW ((⟨1, fl, st, l, (pd : Int), code, last, inc, (dn : Int), true, wt, ss⟩ : Fp)) = [byteOf pd] ++ (bytesOf vn 4 ++ [byteOf (wt - 1)]) ++ (l) ++ List.replicate pd 0 by
    unfold bodyW
    rw [HPW.out]
    simp [Fr.p, padF, paddedB, prioB, putW, H8.out, (show hasB fl 32 = true by have := HPRI.out; simpa [prioB] using this)])
  obtain ⟨BB, hBB⟩ : ∃ B, bodyW ((⟨1, fl, st, l, (pd : Int), code, last, inc, (dn : Int), true, wt, ss⟩ : Fp)) = B := ⟨_, rfl⟩
  rw [show bodyW _ = BB from hBB]
  rw [hBB] at HBD
  clear hBB
  go_enter Try.func149, Try.ntmps149
  go_wp2_with fail
  have K0 : Kp [] w0 (w0.alloc (.cells #[.int .i64 1, .int .i64 fl, .int .i64 st, .slice pA pn pc, .int .i64 (pd : Int), .int .u32 code, .int .i64 last, .int .i64 inc, .int .i64 (dn : Int), .bool true, .int .i64 wt, .slice sA sn sc] 49)) := (Kp.refl _ _).alloc _
  have HB := Lib.hid (hp_new w0 (.cells #[.int .i64 1, .int .i64 fl, .int .i64 st, .slice pA pn pc, .int .i64 (pd : Int), .int .u32 code, .int .i64 last, .int .i64 inc, .int .i64 (dn : Int), .bool true, .int .i64 wt, .slice sA sn sc] 49) _ rfl)
  have HK := Lib.hid K0
  generalize hW : w0.alloc (.cells #[.int .i64 1, .int .i64 fl, .int .i64 st, .slice pA pn pc, .int .i64 (pd : Int), .int .u32 code, .int .i64 last, .int .i64 inc, .int .i64 (dn : Int), .bool true, .int .i64 wt, .slice sA sn sc] 49) = w1 at *
  clear hW
  have hs1 := K0.size
  clear K0
  obtain ⟨bs, hbs⟩ : ∃ bs, w1.heap.size = bs := ⟨_, rfl⟩
  have hbsz : bs ≤ w1.heap.size := by omega
  have hBb : w0.heap.size < bs := by have := lt_of_heap HB.out; omega
  clear hbs
  obtain ⟨f_0, f_1, f_2, f_3, f_4, f_5, f_6, f_7, f_8, f_9, f_10, f_11, hltB, hltB1⟩ := cells12 HB.out
  refine (rpad1 _).mono ?_
  rintro e w1 ⟨rfl, rfl⟩
  go_wp2_with fail
  refine (hasF fl 8 _ hfl0 hfl1 (by omega) (by omega)).mono ?_
  rintro e w1 ⟨rfl, rfl⟩
  rw [H8.out]
  go_wp2_with (with_reducible refine stopAt (o := ⟨some 22, _, _, _, _, _⟩) ?_)
  generalize hW : World.alloc _ _ = w7
  have K7 : Kp [] w1 w7 := by rw [← hW]; (repeat (first | with_reducible exact Kp.refl _ _ | with_reducible assumption | with_reducible refine Kp.alloc ?_ _ | with_reducible refine Kp.drew ?_ | with_reducible refine Kp.drewN ?_ _ | (with_reducible refine Kp.setL ?_ ?_ _; focus (simp; done)) | (with_reducible refine Kp.setR ?_ ?_ _; focus (simp; done)) | (with_reducible refine Kp.setR ?_ ?_ _; focus (simp; omega))))
  have HN7 := Lib.hid (show w7.heap[w1.heap.size]? = some (.cells #[.int .u8 (pd : Int)] 5) by rw [← hW]; (repeat (first | with_reducible assumption | (with_reducible refine hp_new _ _ _ ?_; focus (simp; done)) | (with_reducible refine (hp_old _ _ _ ?_).trans ?_; focus (first | omega | (simp; done) | (simp; omega))) | (with_reducible refine (hp_far _ _ _ _ ?_).trans ?_; focus (first | (simp; done) | (simp; omega))) | (with_reducible refine (hp_drew _ _).trans ?_) | (with_reducible refine (hp_drewN _ _ _).trans ?_))))
  clear hW
  have hbsz' : bs ≤ _ := Nat.le_trans hbsz K7.size
  clear hbsz
  have hbsz := hbsz'
  clear hbsz'
  have HB' := Lib.hid (K7.heap HB.out (by simp))
  have HK' := Lib.hid (HK.out.trans K7)
  clear f_0 f_1 f_2 f_3 f_4 f_5 f_6 f_7 f_8 f_9 f_10 f_11 hltB hltB1 HB HK K7
  have HB := HB'
  have HK := HK'
  clear HB' HK'
  obtain ⟨f_0, f_1, f_2, f_3, f_4, f_5, f_6, f_7, f_8, f_9, f_10, f_11, hltB, hltB1⟩ := cells12 HB.out
  refine Stop.go (wp_appB rfl _ _ 22 5 rfl Try.underlying22 Try.info5 bs none 0 0 [] rfl (Ow.nil _ _ _ _) (some ⟨w1.heap.size, 0, none⟩) 1 1 [byteOf pd] rfl (Rd.block HN7.out 0 1 1 [byteOf _] rfl (Nat.le_refl _) (by simp; exact u8_of hpad0 hpad1)) (by omega) (by omega) ?_)
  intro A8 n8 c8 l8 w8 hn8 hl8 O8 K8 hA8
  clear hA8
  have K8' : Kp [] _ w8 := K8.mono (by simp [ob])
  clear K8
  have hbsz' : bs ≤ _ := Nat.le_trans hbsz K8'.size
  clear hbsz
  have hbsz := hbsz'
  clear hbsz'
  have HB' := Lib.hid (K8'.heap HB.out (by simp))
  have HK' := Lib.hid (HK.out.trans K8')
  clear f_0 f_1 f_2 f_3 f_4 f_5 f_6 f_7 f_8 f_9 f_10 f_11 hltB hltB1 HB HK K8'
  have HB := HB'
  have HK := HK'
  clear HB' HK'
  obtain ⟨f_0, f_1, f_2, f_3, f_4, f_5, f_6, f_7, f_8, f_9, f_10, f_11, hltB, hltB1⟩ := cells12 HB.out
  have hc8 := O8.cap.1
  have hN8a : n8 ≤ 1 := Nat.le_of_eq hn8.out
  have hN8b : 1 ≤ n8 := Nat.le_of_eq hn8.out.symm
  have HO := Lib.hid O8
  clear O8 hn8
  clear HN7
  go_wp2_with fail
  refine (rprio1 fl _ hfl0 hfl1).mono ?_
  rintro e w1 ⟨rfl, rfl⟩
  rw [HPRI.out]
  go_wp2_with fail
  refine (rprit 1 fl st pA pn pc (pd : Int) code last inc dn wt sA sn sc _ HDN2 hw0 hw1 vn HV).mono ?_
  rintro e w12 ⟨Aq, nq, cq, rfl, Oq, K12⟩
  have hnq : nq = 5 := by have := Oq.len; simp [bytesOf_length] at this; omega
  subst hnq
  have HRQ := Lib.hid Oq.rd
  clear Oq
  have HO' := Lib.hid (HO.out.keep K12 (by simp))
  clear HO
  have HO := HO'
  clear HO'
  have hbsz' : bs ≤ _ := Nat.le_trans hbsz K12.size
  clear hbsz
  have hbsz := hbsz'
  clear hbsz'
  have HB' := Lib.hid (K12.heap HB.out (by simp))
  have HK' := Lib.hid (HK.out.trans K12)
  clear f_0 f_1 f_2 f_3 f_4 f_5 f_6 f_7 f_8 f_9 f_10 f_11 hltB hltB1 HB HK K12
  have HB := HB'
  have HK := HK'
  clear HB' HK'
  obtain ⟨f_0, f_1, f_2, f_3, f_4, f_5, f_6, f_7, f_8, f_9, f_10, f_11, hltB, hltB1⟩ := cells12 HB.out
  go_wp2_with (with_reducible refine stopAt (o := ⟨some 31, _, _, _, _, _⟩) ?_)
  refine Stop.go (wp_appB rfl _ _ 22 5 rfl Try.underlying22 Try.info5 bs A8 n8 c8 l8 rfl HO.out Aq 5 cq (bytesOf vn 4 ++ [byteOf (wt - 1)]) rfl HRQ.out (by omega) (by omega) ?_)
  intro A13 n13 c13 l13 w13 hn13 hl13 O13 K13 hA13
  clear hA13
  have HB' := Lib.hid (K13.heap HB.out (by intro hx; have := (HO.out.base _ hx).1; omega))
  have HK' := Lib.hid (HK.out.then K13 (fun t ht => .inr (by have := (HO.out.base t ht).1; omega)))
  have hbsz' : bs ≤ _ := Nat.le_trans hbsz K13.size
  clear f_0 f_1 f_2 f_3 f_4 f_5 f_6 f_7 f_8 f_9 f_10 f_11 hltB hltB1 HB HK hbsz
  have HB := HB'
  have HK := HK'
  have hbsz := hbsz'
  clear HB' HK' hbsz'
  obtain ⟨f_0, f_1, f_2, f_3, f_4, f_5, f_6, f_7, f_8, f_9, f_10, f_11, hltB, hltB1⟩ := cells12 HB.out
  clear HO K13
  have hc13 := O13.cap.1
  have hN13a : n13 ≤ n8 + 5 := Nat.le_of_eq hn13.out
  have hN13b : n8 + 5 ≤ n13 := Nat.le_of_eq hn13.out.symm
  have HO := Lib.hid O13
  clear O13 hn13
  clear HRQ
  have HRL := Lib.hid (HRD.out.keep HK.out (by simp))
  go_wp2_with (with_reducible refine stopAt (o := ⟨some 101, _, _, _, _, _⟩) ?_)
  refine Stop.go (wp_appB rfl _ _ 22 5 rfl Try.underlying22 Try.info5 bs A13 n13 c13 l13 rfl HO.out pA pn pc l rfl HRL.out (by omega) (by omega) ?_)
  intro A20 n20 c20 l20 w20 hn20 hl20 O20 K20 hA20
  clear hA20
  have HB' := Lib.hid (K20.heap HB.out (by intro hx; have := (HO.out.base _ hx).1; omega))
  have HK' := Lib.hid (HK.out.then K20 (fun t ht => .inr (by have := (HO.out.base t ht).1; omega)))
  have hbsz' : bs ≤ _ := Nat.le_trans hbsz K20.size
  clear f_0 f_1 f_2 f_3 f_4 f_5 f_6 f_7 f_8 f_9 f_10 f_11 hltB hltB1 HB HK hbsz
  have HB := HB'
  have HK := HK'
  have hbsz := hbsz'
  clear HB' HK' hbsz'
  obtain ⟨f_0, f_1, f_2, f_3, f_4, f_5, f_6, f_7, f_8, f_9, f_10, f_11, hltB, hltB1⟩ := cells12 HB.out
  clear HO K20
  have hc20 := O20.cap.1
  have hN20a : n20 ≤ n13 + pn := Nat.le_of_eq hn20.out
  have hN20b : n13 + pn ≤ n20 := Nat.le_of_eq hn20.out.symm
  have HO := Lib.hid O20
  clear O20 hn20
  clear HRL
  go_wp2_with (with_reducible refine stopAt (o := ⟨some 106, _, _, _, _, _⟩) ?_)
  refine Stop.go (wp_appZ rfl _ _ 22 3 5 rfl Try.underlying22 Try.underlying3 Try.info5 bs A20 n20 c20 l20 rfl HO.out pd rfl (by omega) (by omega) ?_)
  intro A21 n21 c21 l21 w21 hn21 hl21 O21 K21
  have HB' := Lib.hid (K21.heap HB.out (by intro hx; have := (HO.out.base _ hx).1; omega))
  have HK' := Lib.hid (HK.out.then K21 (fun t ht => .inr (by have := (HO.out.base t ht).1; omega)))
  have hbsz' : bs ≤ _ := Nat.le_trans hbsz K21.size
  clear f_0 f_1 f_2 f_3 f_4 f_5 f_6 f_7 f_8 f_9 f_10 f_11 hltB hltB1 HB HK hbsz
  have HB := HB'
  have HK := HK'
  have hbsz := hbsz'
  clear HB' HK' hbsz'
  obtain ⟨f_0, f_1, f_2, f_3, f_4, f_5, f_6, f_7, f_8, f_9, f_10, f_11, hltB, hltB1⟩ := cells12 HB.out
  clear HO K21
  have hc21 := O21.cap.1
  have HO := Lib.hid O21
  clear O21 hn21
  have e : l21 = [byteOf pd] ++ (bytesOf vn 4 ++ [byteOf (wt - 1)]) ++ (l) ++ List.replicate pd 0 := by rw [hl21.out, hl20.out, hl13.out, hl8.out]; simp
  have HE := Lib.hid e
  clear e
  have hl := HBD.out
  have HL := Lib.hid hl
  clear hl
  go_wp2
  go_ret
  exact ⟨_, _, _, rfl, by rw [HL.out]; rw [← HE.out]; exact HO.out.rd, HK.out⟩
end Go.Proofs.Ytkmcakneceagpaa
