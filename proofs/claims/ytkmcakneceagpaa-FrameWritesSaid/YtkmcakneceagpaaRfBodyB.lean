/- The reference's body of layer 7, walked (B). -/
import Derived.Test.YtkmcakneceagpaaRfBody
set_option linter.unusedVariables false
set_option linter.unusedSimpArgs false
set_option linter.unusedSimpArgs false
namespace Go.Proofs.Ytkmcakneceagpaa
open Go.RowKit
set_option maxHeartbeats 4000000 in
set_option maxRecDepth 100000 in
theorem rbody5t (f : Fr) (l : List UInt8) (ss : List (Int × Int)) (w0 : World) (ok : WrOk w0 f l ss) (hty : f.ty = 5) (hgd : goodW (f.p l ss) = true) (h8 : hasB f.fl 8 = true) :
    Calls Try.prog 149 #[.agg #[.int .i64 f.ty, .int .i64 f.fl, .int .i64 f.st, .slice f.pA f.pn f.pc, .int .i64 f.pad, .int .u32 f.code, .int .i64 f.last, .int .i64 f.inc, .int .i64 f.dep, .bool f.only, .int .i64 f.wt, .slice f.sA f.sn f.sc]] w0 (RdP (bodyW (f.p l ss)) w0) := by
  obtain ⟨hkn, ⟨hfl0, hfl1⟩, hst, hri, hmy, hpo, hpr⟩ := goodW_of hgd
  obtain ⟨hrd, hpn, hcode, hsd, hsn⟩ := ok
  obtain ⟨ty, fl, st, pA, pn, pc, pad, code, last, inc, dep, only, wt, sA, sn, sc⟩ := f
  dsimp only [Fr.p] at *
  subst hty
  have HRD := Lib.hid hrd
  have HSD := Lib.hid hsd
  clear hgd hkn hst hri hrd hsd
  obtain ⟨hpad0, hpad1⟩ : 0 ≤ pad ∧ pad ≤ 255 := by simp [padOk, paddedB] at hpo; omega
  have H8 := Lib.hid h8
  clear h8
  obtain ⟨hla0, hla1⟩ := idB_of (show idB last = true by simpa [mayK] using hmy)
  have HPRI := Lib.hid (show prioB 5 fl = false by simp [prioB])
  clear hmy hpo hpr
  obtain ⟨pd, rfl⟩ := Int.eq_ofNat_of_zero_le hpad0
  have HBD := Lib.hid (show bodyW ((⟨5, fl, st, l, (pd : Int), code, last, inc, dep, only, wt, ss⟩ : Fp)) = [byteOf pd] ++ (bytesOf last.toNat 4 ++ l) ++ List.replicate pd 0 by
    simp [bodyW, Fr.p, padF, paddedB, prioB, putW, H8.out])
  obtain ⟨BB, hBB⟩ : ∃ B, bodyW ((⟨5, fl, st, l, (pd : Int), code, last, inc, dep, only, wt, ss⟩ : Fp)) = B := ⟨_, rfl⟩
  rw [show bodyW _ = BB from hBB]
  rw [hBB] at HBD
  clear hBB
  go_enter Try.func149, Try.ntmps149
  go_wp2_with fail
  have K0 : Kp [] w0 (w0.alloc (.cells #[.int .i64 5, .int .i64 fl, .int .i64 st, .slice pA pn pc, .int .i64 (pd : Int), .int .u32 code, .int .i64 last, .int .i64 inc, .int .i64 dep, .bool only, .int .i64 wt, .slice sA sn sc] 49)) := (Kp.refl _ _).alloc _
  have HB := Lib.hid (hp_new w0 (.cells #[.int .i64 5, .int .i64 fl, .int .i64 st, .slice pA pn pc, .int .i64 (pd : Int), .int .u32 code, .int .i64 last, .int .i64 inc, .int .i64 dep, .bool only, .int .i64 wt, .slice sA sn sc] 49) _ rfl)
  have HK := Lib.hid K0
  generalize hW : w0.alloc (.cells #[.int .i64 5, .int .i64 fl, .int .i64 st, .slice pA pn pc, .int .i64 (pd : Int), .int .u32 code, .int .i64 last, .int .i64 inc, .int .i64 dep, .bool only, .int .i64 wt, .slice sA sn sc] 49) = w1 at *
  clear hW
  have hs1 := K0.size
  clear K0
  obtain ⟨bs, hbs⟩ : ∃ bs, w1.heap.size = bs := ⟨_, rfl⟩
  have hbsz : bs ≤ w1.heap.size := by omega
  have hBb : w0.heap.size < bs := by have := lt_of_heap HB.out; omega
  clear hbs
  obtain ⟨f_0, f_1, f_2, f_3, f_4, f_5, f_6, f_7, f_8, f_9, f_10, f_11, hltB, hltB1⟩ := cells12 HB.out
  refine (rpad5 _).mono ?_
  rintro e w1 ⟨rfl, rfl⟩
  go_wp2_with fail
  refine (hasF fl 8 _ hfl0 hfl1 (by omega) (by omega)).mono ?_
  rintro e w1 ⟨rfl, rfl⟩
  rw [H8.out]
  go_wp2_with (with_reducible refine stopAt (o := ⟨some 22, _, _, _, _, _⟩) ?_)
  generalize hW : World.alloc _ _ = w7
  have K7 : Kp [] w1 w7 := by rw [← hW]; (repeat (first | with_reducible exact Kp.refl _ _ | with_reducible assumption | with_reducible refine Kp.alloc ?_ _ | with_reducible refine Kp.drew ?_ | with_reducible refine Kp.drewN ?_ _ | (with_reducible refine Kp.setL ?_ ?_ _; focus (simp; done)) | (with_reducible refine Kp.setR ?_ ?_ _; focus (simp; done)) | (with_reducible refine Kp.setR ?_ ?_ _; focus (simp; omega))))
  have HN7 := Lib.hid (show w7.heap[w1.heap.size]? = some (.cells #[.int .u8 (pd : Int)] 5) by rw [← hW]; (repeat (first | with_reducible assumption | (with_reducible refine hp_new _ _ _ ?_; focus (simp; done)) | (with_reducible refine (hp_old _ _ _ ?_).trans ?_; focus (first | omega | (simp; done) | (simp; omega))) | (with_reducible refine (hp_far _ _ _ _ ?_).trans ?_; focus (first | (simp; done) | (simp; omega))) | (with_reducible refine (hp_drew _ _).trans ?_) | (with_reducible refine (hp_drewN _ _ _).trans ?_))))
  clear hW
  have hbsz' : bs ≤ _ := Nat.le_trans hbsz K7.size
  clear hbsz
  have hbsz := hbsz'
  clear hbsz'
  have HB' := Lib.hid (K7.heap HB.out (by simp))
  have HK' := Lib.hid (HK.out.trans K7)
  clear f_0 f_1 f_2 f_3 f_4 f_5 f_6 f_7 f_8 f_9 f_10 f_11 hltB hltB1 HB HK K7
  have HB := HB'
  have HK := HK'
  clear HB' HK'
  obtain ⟨f_0, f_1, f_2, f_3, f_4, f_5, f_6, f_7, f_8, f_9, f_10, f_11, hltB, hltB1⟩ := cells12 HB.out
  refine Stop.go (wp_appB rfl _ _ 22 5 rfl Try.underlying22 Try.info5 bs none 0 0 [] rfl (Ow.nil _ _ _ _) (some ⟨w1.heap.size, 0, none⟩) 1 1 [byteOf pd] rfl (Rd.block HN7.out 0 1 1 [byteOf _] rfl (Nat.le_refl _) (by simp; exact u8_of hpad0 hpad1)) (by omega) (by omega) ?_)
  intro A8 n8 c8 l8 w8 hn8 hl8 O8 K8 hA8
  clear hA8
  have K8' : Kp [] _ w8 := K8.mono (by simp [ob])
  clear K8
  have hbsz' : bs ≤ _ := Nat.le_trans hbsz K8'.size
  clear hbsz
  have hbsz := hbsz'
  clear hbsz'
  have HB' := Lib.hid (K8'.heap HB.out (by simp))
  have HK' := Lib.hid (HK.out.trans K8')
  clear f_0 f_1 f_2 f_3 f_4 f_5 f_6 f_7 f_8 f_9 f_10 f_11 hltB hltB1 HB HK K8'
  have HB := HB'
  have HK := HK'
  clear HB' HK'
  obtain ⟨f_0, f_1, f_2, f_3, f_4, f_5, f_6, f_7, f_8, f_9, f_10, f_11, hltB, hltB1⟩ := cells12 HB.out
  have hc8 := O8.cap.1
  have hN8a : n8 ≤ 1 := Nat.le_of_eq hn8.out
  have hN8b : 1 ≤ n8 := Nat.le_of_eq hn8.out.symm
  have HO := Lib.hid O8
  clear O8 hn8
  clear HN7
  go_wp2_with fail
  refine (rprio5 fl _ hfl0 hfl1).mono ?_
  rintro e w1 ⟨rfl, rfl⟩
  rw [HPRI.out]
  go_wp2_with fail
  refine (rfourF last _ hla0 hla1).mono ?_
  rintro e w14 ⟨Ap, np, cp, rfl, Op, K14⟩
  have hnp : np = 4 := by have := Op.len; simp [bytesOf_length] at this; omega
  subst hnp
  have HRP := Lib.hid Op.rd
  clear Op
  have HO' := Lib.hid (HO.out.keep K14 (by simp))
  clear HO
  have HO := HO'
  clear HO'
  have hbsz' : bs ≤ _ := Nat.le_trans hbsz K14.size
  clear hbsz
  have hbsz := hbsz'
  clear hbsz'
  have HB' := Lib.hid (K14.heap HB.out (by simp))
  have HK' := Lib.hid (HK.out.trans K14)
  clear f_0 f_1 f_2 f_3 f_4 f_5 f_6 f_7 f_8 f_9 f_10 f_11 hltB hltB1 HB HK K14
  have HB := HB'
  have HK := HK'
  clear HB' HK'
  obtain ⟨f_0, f_1, f_2, f_3, f_4, f_5, f_6, f_7, f_8, f_9, f_10, f_11, hltB, hltB1⟩ := cells12 HB.out
  go_wp2_with (with_reducible refine stopAt (o := ⟨some 85, _, _, _, _, _⟩) ?_)
  refine Stop.go (wp_appB rfl _ _ 22 5 rfl Try.underlying22 Try.info5 bs A8 n8 c8 l8 rfl HO.out Ap 4 cp (bytesOf last.toNat 4) rfl HRP.out (by omega) (by omega) ?_)
  intro A15 n15 c15 l15 w15 hn15 hl15 O15 K15 hA15
  clear hA15
  have HB' := Lib.hid (K15.heap HB.out (by intro hx; have := (HO.out.base _ hx).1; omega))
  have HK' := Lib.hid (HK.out.then K15 (fun t ht => .inr (by have := (HO.out.base t ht).1; omega)))
  have hbsz' : bs ≤ _ := Nat.le_trans hbsz K15.size
  clear f_0 f_1 f_2 f_3 f_4 f_5 f_6 f_7 f_8 f_9 f_10 f_11 hltB hltB1 HB HK hbsz
  have HB := HB'
  have HK := HK'
  have hbsz := hbsz'
  clear HB' HK' hbsz'
  obtain ⟨f_0, f_1, f_2, f_3, f_4, f_5, f_6, f_7, f_8, f_9, f_10, f_11, hltB, hltB1⟩ := cells12 HB.out
  clear HO K15
  have hc15 := O15.cap.1
  have hN15a : n15 ≤ n8 + 4 := Nat.le_of_eq hn15.out
  have hN15b : n8 + 4 ≤ n15 := Nat.le_of_eq hn15.out.symm
  have HO := Lib.hid O15
  clear O15 hn15
  clear HRP
  have HRL := Lib.hid (HRD.out.keep HK.out (by simp))
  go_wp2_with (with_reducible refine stopAt (o := ⟨some 101, _, _, _, _, _⟩) ?_)
  refine Stop.go (wp_appB rfl _ _ 22 5 rfl Try.underlying22 Try.info5 bs A15 n15 c15 l15 rfl HO.out pA pn pc l rfl HRL.out (by omega) (by omega) ?_)
  intro A20 n20 c20 l20 w20 hn20 hl20 O20 K20 hA20
  clear hA20
  have HB' := Lib.hid (K20.heap HB.out (by intro hx; have := (HO.out.base _ hx).1; omega))
  have HK' := Lib.hid (HK.out.then K20 (fun t ht => .inr (by have := (HO.out.base t ht).1; omega)))
  have hbsz' : bs ≤ _ := Nat.le_trans hbsz K20.size
  clear f_0 f_1 f_2 f_3 f_4 f_5 f_6 f_7 f_8 f_9 f_10 f_11 hltB hltB1 HB HK hbsz
  have HB := HB'
  have HK := HK'
  have hbsz := hbsz'
  clear HB' HK' hbsz'
  obtain ⟨f_0, f_1, f_2, f_3, f_4, f_5, f_6, f_7, f_8, f_9, f_10, f_11, hltB, hltB1⟩ := cells12 HB.out
  clear HO K20
  have hc20 := O20.cap.1
  have hN20a : n20 ≤ n15 + pn := Nat.le_of_eq hn20.out
  have hN20b : n15 + pn ≤ n20 := Nat.le_of_eq hn20.out.symm
  have HO := Lib.hid O20
  clear O20 hn20
  clear HRL
  go_wp2_with (with_reducible refine stopAt (o := ⟨some 106, _, _, _, _, _⟩) ?_)
  refine Stop.go (wp_appZ rfl _ _ 22 3 5 rfl Try.underlying22 Try.underlying3 Try.info5 bs A20 n20 c20 l20 rfl HO.out pd rfl (by omega) (by omega) ?_)
  intro A21 n21 c21 l21 w21 hn21 hl21 O21 K21
  have HB' := Lib.hid (K21.heap HB.out (by intro hx; have := (HO.out.base _ hx).1; omega))
  have HK' := Lib.hid (HK.out.then K21 (fun t ht => .inr (by have := (HO.out.base t ht).1; omega)))
  have hbsz' : bs ≤ _ := Nat.le_trans hbsz K21.size
  clear f_0 f_1 f_2 f_3 f_4 f_5 f_6 f_7 f_8 f_9 f_10 f_11 hltB hltB1 HB HK hbsz
  have HB := HB'
  have HK := HK'
  have hbsz := hbsz'
  clear HB' HK' hbsz'
  obtain ⟨f_0, f_1, f_2, f_3, f_4, f_5, f_6, f_7, f_8, f_9, f_10, f_11, hltB, hltB1⟩ := cells12 HB.out
  clear HO K21
  have hc21 := O21.cap.1
  have HO := Lib.hid O21
  clear O21 hn21
  have e : l21 = [byteOf pd] ++ (bytesOf last.toNat 4 ++ l) ++ List.replicate pd 0 := by rw [hl21.out, hl20.out, hl15.out, hl8.out]; simp
  have HE := Lib.hid e
  clear e
  have hl := HBD.out
  have HL := Lib.hid hl
  clear hl
  go_wp2
  go_ret
  exact ⟨_, _, _, rfl, by rw [HL.out]; rw [← HE.out]; exact HO.out.rd, HK.out⟩
set_option maxHeartbeats 4000000 in
set_option maxRecDepth 100000 in
theorem rbody6 (f : Fr) (l : List UInt8) (ss : List (Int × Int)) (w0 : World) (ok : WrOk w0 f l ss) (hty : f.ty = 6) (hgd : goodW (f.p l ss) = true) :
    Calls Try.prog 149 #[.agg #[.int .i64 f.ty, .int .i64 f.fl, .int .i64 f.st, .slice f.pA f.pn f.pc, .int .i64 f.pad, .int .u32 f.code, .int .i64 f.last, .int .i64 f.inc, .int .i64 f.dep, .bool f.only, .int .i64 f.wt, .slice f.sA f.sn f.sc]] w0 (RdP (bodyW (f.p l ss)) w0) := by
  obtain ⟨hkn, ⟨hfl0, hfl1⟩, hst, hri, hmy, hpo, hpr⟩ := goodW_of hgd
  obtain ⟨hrd, hpn, hcode, hsd, hsn⟩ := ok
  obtain ⟨ty, fl, st, pA, pn, pc, pad, code, last, inc, dep, only, wt, sA, sn, sc⟩ := f
  dsimp only [Fr.p] at *
  subst hty
  have HRD := Lib.hid hrd
  have HSD := Lib.hid hsd
  clear hgd hkn hst hri hrd hsd
  have HPRI := Lib.hid (show prioB 6 fl = false by simp [prioB])
  clear hmy hpo hpr
  have HBD := Lib.hid (show bodyW ((⟨6, fl, st, l, pad, code, last, inc, dep, only, wt, ss⟩ : Fp)) = (l) by
    simp [bodyW, Fr.p, padF, paddedB, prioB, putW])
  obtain ⟨BB, hBB⟩ : ∃ B, bodyW ((⟨6, fl, st, l, pad, code, last, inc, dep, only, wt, ss⟩ : Fp)) = B := ⟨_, rfl⟩
  rw [show bodyW _ = BB from hBB]
  rw [hBB] at HBD
  clear hBB
  go_enter Try.func149, Try.ntmps149
  go_wp2_with fail
  have K0 : Kp [] w0 (w0.alloc (.cells #[.int .i64 6, .int .i64 fl, .int .i64 st, .slice pA pn pc, .int .i64 pad, .int .u32 code, .int .i64 last, .int .i64 inc, .int .i64 dep, .bool only, .int .i64 wt, .slice sA sn sc] 49)) := (Kp.refl _ _).alloc _
  have HB := Lib.hid (hp_new w0 (.cells #[.int .i64 6, .int .i64 fl, .int .i64 st, .slice pA pn pc, .int .i64 pad, .int .u32 code, .int .i64 last, .int .i64 inc, .int .i64 dep, .bool only, .int .i64 wt, .slice sA sn sc] 49) _ rfl)
  have HK := Lib.hid K0
  generalize hW : w0.alloc (.cells #[.int .i64 6, .int .i64 fl, .int .i64 st, .slice pA pn pc, .int .i64 pad, .int .u32 code, .int .i64 last, .int .i64 inc, .int .i64 dep, .bool only, .int .i64 wt, .slice sA sn sc] 49) = w1 at *
  clear hW
  have hs1 := K0.size
  clear K0
  obtain ⟨bs, hbs⟩ : ∃ bs, w1.heap.size = bs := ⟨_, rfl⟩
  have hbsz : bs ≤ w1.heap.size := by omega
  have hBb : w0.heap.size < bs := by have := lt_of_heap HB.out; omega
  clear hbs
  obtain ⟨f_0, f_1, f_2, f_3, f_4, f_5, f_6, f_7, f_8, f_9, f_10, f_11, hltB, hltB1⟩ := cells12 HB.out
  refine (rpad6 _).mono ?_
  rintro e w1 ⟨rfl, rfl⟩
  go_wp2_with fail
  refine (rprio6 fl _ hfl0 hfl1).mono ?_
  rintro e w1 ⟨rfl, rfl⟩
  rw [HPRI.out]
  have HRL := Lib.hid (HRD.out.keep HK.out (by simp))
  go_wp2_with (with_reducible refine stopAt (o := ⟨some 101, _, _, _, _, _⟩) ?_)
  refine Stop.go (wp_appB rfl _ _ 22 5 rfl Try.underlying22 Try.info5 bs none 0 0 [] rfl (Ow.nil _ _ _ _) pA pn pc l rfl HRL.out (by omega) (by omega) ?_)
  intro A20 n20 c20 l20 w20 hn20 hl20 O20 K20 hA20
  clear hA20
  have K20' : Kp [] _ w20 := K20.mono (by simp [ob])
  clear K20
  have hbsz' : bs ≤ _ := Nat.le_trans hbsz K20'.size
  clear hbsz
  have hbsz := hbsz'
  clear hbsz'
  have HB' := Lib.hid (K20'.heap HB.out (by simp))
  have HK' := Lib.hid (HK.out.trans K20')
  clear f_0 f_1 f_2 f_3 f_4 f_5 f_6 f_7 f_8 f_9 f_10 f_11 hltB hltB1 HB HK K20'
  have HB := HB'
  have HK := HK'
  clear HB' HK'
  obtain ⟨f_0, f_1, f_2, f_3, f_4, f_5, f_6, f_7, f_8, f_9, f_10, f_11, hltB, hltB1⟩ := cells12 HB.out
  have hc20 := O20.cap.1
  have hN20a : n20 ≤ 0 + pn := Nat.le_of_eq hn20.out
  have hN20b : 0 + pn ≤ n20 := Nat.le_of_eq hn20.out.symm
  have HO := Lib.hid O20
  clear O20 hn20
  clear HRL
  have e : l20 = (l) := by rw [hl20.out]; simp
  have HE := Lib.hid e
  clear e
  have hl := HBD.out
  have HL := Lib.hid hl
  clear hl
  go_wp2
  go_ret
  exact ⟨_, _, _, rfl, by rw [HL.out]; rw [← HE.out]; exact HO.out.rd, HK.out⟩
set_option maxHeartbeats 4000000 in
set_option maxRecDepth 100000 in
theorem rbody9 (f : Fr) (l : List UInt8) (ss : List (Int × Int)) (w0 : World) (ok : WrOk w0 f l ss) (hty : f.ty = 9) (hgd : goodW (f.p l ss) = true) :
    Calls Try.prog 149 #[.agg #[.int .i64 f.ty, .int .i64 f.fl, .int .i64 f.st, .slice f.pA f.pn f.pc, .int .i64 f.pad, .int .u32 f.code, .int .i64 f.last, .int .i64 f.inc, .int .i64 f.dep, .bool f.only, .int .i64 f.wt, .slice f.sA f.sn f.sc]] w0 (RdP (bodyW (f.p l ss)) w0) := by
  obtain ⟨hkn, ⟨hfl0, hfl1⟩, hst, hri, hmy, hpo, hpr⟩ := goodW_of hgd
  obtain ⟨hrd, hpn, hcode, hsd, hsn⟩ := ok
  obtain ⟨ty, fl, st, pA, pn, pc, pad, code, last, inc, dep, only, wt, sA, sn, sc⟩ := f
  dsimp only [Fr.p] at *
  subst hty
  have HRD := Lib.hid hrd
  have HSD := Lib.hid hsd
  clear hgd hkn hst hri hrd hsd
  have HPRI := Lib.hid (show prioB 9 fl = false by simp [prioB])
  clear hmy hpo hpr
  have HBD := Lib.hid (show bodyW ((⟨9, fl, st, l, pad, code, last, inc, dep, only, wt, ss⟩ : Fp)) = (l) by
    simp [bodyW, Fr.p, padF, paddedB, prioB, putW])
  obtain ⟨BB, hBB⟩ : ∃ B, bodyW ((⟨9, fl, st, l, pad, code, last, inc, dep, only, wt, ss⟩ : Fp)) = B := ⟨_, rfl⟩
  rw [show bodyW _ = BB from hBB]
  rw [hBB] at HBD
  clear hBB
  go_enter Try.func149, Try.ntmps149
  go_wp2_with fail
  have K0 : Kp [] w0 (w0.alloc (.cells #[.int .i64 9, .int .i64 fl, .int .i64 st, .slice pA pn pc, .int .i64 pad, .int .u32 code, .int .i64 last, .int .i64 inc, .int .i64 dep, .bool only, .int .i64 wt, .slice sA sn sc] 49)) := (Kp.refl _ _).alloc _
  have HB := Lib.hid (hp_new w0 (.cells #[.int .i64 9, .int .i64 fl, .int .i64 st, .slice pA pn pc, .int .i64 pad, .int .u32 code, .int .i64 last, .int .i64 inc, .int .i64 dep, .bool only, .int .i64 wt, .slice sA sn sc] 49) _ rfl)
  have HK := Lib.hid K0
  generalize hW : w0.alloc (.cells #[.int .i64 9, .int .i64 fl, .int .i64 st, .slice pA pn pc, .int .i64 pad, .int .u32 code, .int .i64 last, .int .i64 inc, .int .i64 dep, .bool only, .int .i64 wt, .slice sA sn sc] 49) = w1 at *
  clear hW
  have hs1 := K0.size
  clear K0
  obtain ⟨bs, hbs⟩ : ∃ bs, w1.heap.size = bs := ⟨_, rfl⟩
  have hbsz : bs ≤ w1.heap.size := by omega
  have hBb : w0.heap.size < bs := by have := lt_of_heap HB.out; omega
  clear hbs
  obtain ⟨f_0, f_1, f_2, f_3, f_4, f_5, f_6, f_7, f_8, f_9, f_10, f_11, hltB, hltB1⟩ := cells12 HB.out
  refine (rpad9 _).mono ?_
  rintro e w1 ⟨rfl, rfl⟩
  go_wp2_with fail
  refine (rprio9 fl _ hfl0 hfl1).mono ?_
  rintro e w1 ⟨rfl, rfl⟩
  rw [HPRI.out]
  have HRL := Lib.hid (HRD.out.keep HK.out (by simp))
  go_wp2_with (with_reducible refine stopAt (o := ⟨some 101, _, _, _, _, _⟩) ?_)
  refine Stop.go (wp_appB rfl _ _ 22 5 rfl Try.underlying22 Try.info5 bs none 0 0 [] rfl (Ow.nil _ _ _ _) pA pn pc l rfl HRL.out (by omega) (by omega) ?_)
  intro A20 n20 c20 l20 w20 hn20 hl20 O20 K20 hA20
  clear hA20
  have K20' : Kp [] _ w20 := K20.mono (by simp [ob])
  clear K20
  have hbsz' : bs ≤ _ := Nat.le_trans hbsz K20'.size
  clear hbsz
  have hbsz := hbsz'
  clear hbsz'
  have HB' := Lib.hid (K20'.heap HB.out (by simp))
  have HK' := Lib.hid (HK.out.trans K20')
  clear f_0 f_1 f_2 f_3 f_4 f_5 f_6 f_7 f_8 f_9 f_10 f_11 hltB hltB1 HB HK K20'
  have HB := HB'
  have HK := HK'
  clear HB' HK'
  obtain ⟨f_0, f_1, f_2, f_3, f_4, f_5, f_6, f_7, f_8, f_9, f_10, f_11, hltB, hltB1⟩ := cells12 HB.out
  have hc20 := O20.cap.1
  have hN20a : n20 ≤ 0 + pn := Nat.le_of_eq hn20.out
  have hN20b : 0 + pn ≤ n20 := Nat.le_of_eq hn20.out.symm
  have HO := Lib.hid O20
  clear O20 hn20
  clear HRL
  have e : l20 = (l) := by rw [hl20.out]; simp
  have HE := Lib.hid e
  clear e
  have hl := HBD.out
  have HL := Lib.hid hl
  clear hl
  go_wp2
  go_ret
  exact ⟨_, _, _, rfl, by rw [HL.out]; rw [← HE.out]; exact HO.out.rd, HK.out⟩
set_option maxHeartbeats 4000000 in
set_option maxRecDepth 100000 in
theorem rbody7 (f : Fr) (l : List UInt8) (ss : List (Int × Int)) (w0 : World) (ok : WrOk w0 f l ss) (hty : f.ty = 7) (hgd : goodW (f.p l ss) = true) :
    Calls Try.prog 149 #[.agg #[.int .i64 f.ty, .int .i64 f.fl, .int .i64 f.st, .slice f.pA f.pn f.pc, .int .i64 f.pad, .int .u32 f.code, .int .i64 f.last, .int .i64 f.inc, .int .i64 f.dep, .bool f.only, .int .i64 f.wt, .slice f.sA f.sn f.sc]] w0 (RdP (bodyW (f.p l ss)) w0) := by
  obtain ⟨hkn, ⟨hfl0, hfl1⟩, hst, hri, hmy, hpo, hpr⟩ := goodW_of hgd
  obtain ⟨hrd, hpn, hcode, hsd, hsn⟩ := ok
  obtain ⟨ty, fl, st, pA, pn, pc, pad, code, last, inc, dep, only, wt, sA, sn, sc⟩ := f
  dsimp only [Fr.p] at *
  subst hty
  have HRD := Lib.hid hrd
  have HSD := Lib.hid hsd
  clear hgd hkn hst hri hrd hsd
  obtain ⟨hla0, hla1⟩ := idB_of (show idB last = true by simpa [mayK] using hmy)
  have HPRI := Lib.hid (show prioB 7 fl = false by simp [prioB])
  clear hmy hpo hpr
  have HBD := Lib.hid (show bodyW ((⟨7, fl, st, l, pad, code, last, inc, dep, only, wt, ss⟩ : Fp)) = (bytesOf last.toNat 4 ++ bytesOf code.toNat 4 ++ l) by
    simp [bodyW, Fr.p, padF, paddedB, prioB, putW])
  obtain ⟨BB, hBB⟩ : ∃ B, bodyW ((⟨7, fl, st, l, pad, code, last, inc, dep, only, wt, ss⟩ : Fp)) = B := ⟨_, rfl⟩
  rw [show bodyW _ = BB from hBB]
  rw [hBB] at HBD
  clear hBB
  go_enter Try.func149, Try.ntmps149
  go_wp2_with fail
  have K0 : Kp [] w0 (w0.alloc (.cells #[.int .i64 7, .int .i64 fl, .int .i64 st, .slice pA pn pc, .int .i64 pad, .int .u32 code, .int .i64 last, .int .i64 inc, .int .i64 dep, .bool only, .int .i64 wt, .slice sA sn sc] 49)) := (Kp.refl _ _).alloc _
  have HB := Lib.hid (hp_new w0 (.cells #[.int .i64 7, .int .i64 fl, .int .i64 st, .slice pA pn pc, .int .i64 pad, .int .u32 code, .int .i64 last, .int .i64 inc, .int .i64 dep, .bool only, .int .i64 wt, .slice sA sn sc] 49) _ rfl)
  have HK := Lib.hid K0
  generalize hW : w0.alloc (.cells #[.int .i64 7, .int .i64 fl, .int .i64 st, .slice pA pn pc, .int .i64 pad, .int .u32 code, .int .i64 last, .int .i64 inc, .int .i64 dep, .bool only, .int .i64 wt, .slice sA sn sc] 49) = w1 at *
  clear hW
  have hs1 := K0.size
  clear K0
  obtain ⟨bs, hbs⟩ : ∃ bs, w1.heap.size = bs := ⟨_, rfl⟩
  have hbsz : bs ≤ w1.heap.size := by omega
  have hBb : w0.heap.size < bs := by have := lt_of_heap HB.out; omega
  clear hbs
  obtain ⟨f_0, f_1, f_2, f_3, f_4, f_5, f_6, f_7, f_8, f_9, f_10, f_11, hltB, hltB1⟩ := cells12 HB.out
  refine (rpad7 _).mono ?_
  rintro e w1 ⟨rfl, rfl⟩
  go_wp2_with fail
  refine (rprio7 fl _ hfl0 hfl1).mono ?_
  rintro e w1 ⟨rfl, rfl⟩
  rw [HPRI.out]
  go_wp2_with fail
  refine (rfourF last _ hla0 hla1).mono ?_
  rintro e w14 ⟨Ap, np, cp, rfl, Op, K14⟩
  have hnp : np = 4 := by have := Op.len; simp [bytesOf_length] at this; omega
  subst hnp
  have HRP := Lib.hid Op.rd
  clear Op
  have hbsz' : bs ≤ _ := Nat.le_trans hbsz K14.size
  clear hbsz
  have hbsz := hbsz'
  clear hbsz'
  have HB' := Lib.hid (K14.heap HB.out (by simp))
  have HK' := Lib.hid (HK.out.trans K14)
  clear f_0 f_1 f_2 f_3 f_4 f_5 f_6 f_7 f_8 f_9 f_10 f_11 hltB hltB1 HB HK K14
  have HB := HB'
  have HK := HK'
  clear HB' HK'
  obtain ⟨f_0, f_1, f_2, f_3, f_4, f_5, f_6, f_7, f_8, f_9, f_10, f_11, hltB, hltB1⟩ := cells12 HB.out
  go_wp2_with (with_reducible refine stopAt (o := ⟨some 92, _, _, _, _, _⟩) ?_)
  refine Stop.go (wp_appB rfl _ _ 22 5 rfl Try.underlying22 Try.info5 bs none 0 0 [] rfl (Ow.nil _ _ _ _) Ap 4 cp (bytesOf last.toNat 4) rfl HRP.out (by omega) (by omega) ?_)
  intro A15 n15 c15 l15 w15 hn15 hl15 O15 K15 hA15
  clear hA15
  have K15' : Kp [] _ w15 := K15.mono (by simp [ob])
  clear K15
  have hbsz' : bs ≤ _ := Nat.le_trans hbsz K15'.size
  clear hbsz
  have hbsz := hbsz'
  clear hbsz'
  have HB' := Lib.hid (K15'.heap HB.out (by simp))
  have HK' := Lib.hid (HK.out.trans K15')
  clear f_0 f_1 f_2 f_3 f_4 f_5 f_6 f_7 f_8 f_9 f_10 f_11 hltB hltB1 HB HK K15'
  have HB := HB'
  have HK := HK'
  clear HB' HK'
  obtain ⟨f_0, f_1, f_2, f_3, f_4, f_5, f_6, f_7, f_8, f_9, f_10, f_11, hltB, hltB1⟩ := cells12 HB.out
  have hc15 := O15.cap.1
  have hN15a : n15 ≤ 0 + 4 := Nat.le_of_eq hn15.out
  have hN15b : 0 + 4 ≤ n15 := Nat.le_of_eq hn15.out.symm
  have HO := Lib.hid O15
  clear O15 hn15
  clear HRP
  have hcd1 : 0 ≤ code := hcode.1
  have HCD := Lib.hid (show code.toNat < 4294967296 by have := hcode.2; omega)
  have HCE := Lib.hid (show ((code.toNat : Nat) : Int) = code by omega)
  clear hcode
  go_wp2_with fail
  have hPut := refPut32_any code.toNat
  rw [HCE.out] at hPut
  refine (hPut _ HCD.out).mono ?_
  clear hPut
  rintro e w17 ⟨Aq, nq, cq, rfl, Oq, K17⟩
  have hnq : nq = 4 := by have := Oq.len; simp [bytesOf_length] at this; omega
  subst hnq
  have HRQ := Lib.hid Oq.rd
  clear Oq
  have HO' := Lib.hid (HO.out.keep K17 (by simp))
  clear HO
  have HO := HO'
  clear HO'
  have hbsz' : bs ≤ _ := Nat.le_trans hbsz K17.size
  clear hbsz
  have hbsz := hbsz'
  clear hbsz'
  have HB' := Lib.hid (K17.heap HB.out (by simp))
  have HK' := Lib.hid (HK.out.trans K17)
  clear f_0 f_1 f_2 f_3 f_4 f_5 f_6 f_7 f_8 f_9 f_10 f_11 hltB hltB1 HB HK K17
  have HB := HB'
  have HK := HK'
  clear HB' HK'
  obtain ⟨f_0, f_1, f_2, f_3, f_4, f_5, f_6, f_7, f_8, f_9, f_10, f_11, hltB, hltB1⟩ := cells12 HB.out
  go_wp2_with (with_reducible refine stopAt (o := ⟨some 97, _, _, _, _, _⟩) ?_)
  refine Stop.go (wp_appB rfl _ _ 22 5 rfl Try.underlying22 Try.info5 bs A15 n15 c15 l15 rfl HO.out Aq 4 cq (bytesOf code.toNat 4) rfl HRQ.out (by omega) (by omega) ?_)
  intro A18 n18 c18 l18 w18 hn18 hl18 O18 K18 hA18
  clear hA18
  have HB' := Lib.hid (K18.heap HB.out (by intro hx; have := (HO.out.base _ hx).1; omega))
  have HK' := Lib.hid (HK.out.then K18 (fun t ht => .inr (by have := (HO.out.base t ht).1; omega)))
  have hbsz' : bs ≤ _ := Nat.le_trans hbsz K18.size
  clear f_0 f_1 f_2 f_3 f_4 f_5 f_6 f_7 f_8 f_9 f_10 f_11 hltB hltB1 HB HK hbsz
  have HB := HB'
  have HK := HK'
  have hbsz := hbsz'
  clear HB' HK' hbsz'
  obtain ⟨f_0, f_1, f_2, f_3, f_4, f_5, f_6, f_7, f_8, f_9, f_10, f_11, hltB, hltB1⟩ := cells12 HB.out
  clear HO K18
  have hc18 := O18.cap.1
  have hN18a : n18 ≤ n15 + 4 := Nat.le_of_eq hn18.out
  have hN18b : n15 + 4 ≤ n18 := Nat.le_of_eq hn18.out.symm
  have HO := Lib.hid O18
  clear O18 hn18
  clear HRQ
  have HRL := Lib.hid (HRD.out.keep HK.out (by simp))
  go_wp2_with (with_reducible refine stopAt (o := ⟨some 101, _, _, _, _, _⟩) ?_)
  refine Stop.go (wp_appB rfl _ _ 22 5 rfl Try.underlying22 Try.info5 bs A18 n18 c18 l18 rfl HO.out pA pn pc l rfl HRL.out (by omega) (by omega) ?_)
  intro A20 n20 c20 l20 w20 hn20 hl20 O20 K20 hA20
  clear hA20
  have HB' := Lib.hid (K20.heap HB.out (by intro hx; have := (HO.out.base _ hx).1; omega))
  have HK' := Lib.hid (HK.out.then K20 (fun t ht => .inr (by have := (HO.out.base t ht).1; omega)))
  have hbsz' : bs ≤ _ := Nat.le_trans hbsz K20.size
  clear f_0 f_1 f_2 f_3 f_4 f_5 f_6 f_7 f_8 f_9 f_10 f_11 hltB hltB1 HB HK hbsz
  have HB := HB'
  have HK := HK'
  have hbsz := hbsz'
  clear HB' HK' hbsz'
  obtain ⟨f_0, f_1, f_2, f_3, f_4, f_5, f_6, f_7, f_8, f_9, f_10, f_11, hltB, hltB1⟩ := cells12 HB.out
  clear HO K20
  have hc20 := O20.cap.1
  have hN20a : n20 ≤ n18 + pn := Nat.le_of_eq hn20.out
  have hN20b : n18 + pn ≤ n20 := Nat.le_of_eq hn20.out.symm
  have HO := Lib.hid O20
  clear O20 hn20
  clear HRL
  have e : l20 = (bytesOf last.toNat 4 ++ bytesOf code.toNat 4 ++ l) := by rw [hl20.out, hl18.out, hl15.out]; simp
  have HE := Lib.hid e
  clear e
  have hl := HBD.out
  have HL := Lib.hid hl
  clear hl
  go_wp2
  go_ret
  exact ⟨_, _, _, rfl, by rw [HL.out]; rw [← HE.out]; exact HO.out.rd, HK.out⟩
end Go.Proofs.Ytkmcakneceagpaa
