/- The reference's Write of layer 7, whole. 'same' of layer 8's laws. The cells of frames one behind the other. The reference's Parse: its small functions. Numbers and heads out of very long bytes, by the reference. The reference's Parse: the ways on which no frame of a known type is told. -/
import Derived.Test.YtkmcakneceagpaaRfMayA
import Derived.Test.YtkmcakneceagpaaRfMayB
import Derived.Test.YtkmcakneceagpaaRfMayC
import Derived.Test.YtkmcakneceagpaaGRfMayD
import Derived.Test.YtkmcakneceagpaaGPriP
import Derived.Test.YtkmcakneceagpaaGPrs6
import Derived.Test.YtkmcakneceagpaaGReg4
import Derived.Test.YtkmcakneceagpaaGMem
import Derived.Test.YtkmcakneceagpaaGFrmWr
import Derived.Test.YtkmcakneceagpaaGReg
set_option linter.unusedSimpArgs false
set_option linter.unusedVariables false
namespace Go.Proofs.Ytkmcakneceagpaa
open Go.RowKit
theorem bcase (b : Bool) : b = false ∨ b = true := by cases b <;> simp
theorem known_of' {n : Int} (h : known n = true) : n = 0 ∨ n = 1 ∨ n = 2 ∨ n = 3 ∨ n = 4 ∨ n = 5 ∨ n = 6 ∨ n = 7 ∨ n = 8 ∨ n = 9 := by
  simp [known] at h
  omega
set_option maxHeartbeats 2000000 in
set_option maxRecDepth 100000 in
theorem rmay_any (f : Fr) (l : List UInt8) (ss : List (Int × Int)) (w : World) (ok : WrOk w f l ss) (hkn : known f.ty = true) :
    Calls Try.prog 148 #[.agg #[.int .i64 f.ty, .int .i64 f.fl, .int .i64 f.st, .slice f.pA f.pn f.pc, .int .i64 f.pad, .int .u32 f.code, .int .i64 f.last, .int .i64 f.inc, .int .i64 f.dep, .bool f.only, .int .i64 f.wt, .slice f.sA f.sn f.sc]] w (BoolK (goodW (f.p l ss)) w) := by
  rcases known_of' hkn with hty | hty | hty | hty | hty | hty | hty | hty | hty | hty
  · exact rmay0 f l ss w ok hty
  · exact rmay1 f l ss w ok hty
  · exact rmay2 f l ss w ok hty
  · exact rmay3 f l ss w ok hty
  · exact rmay4 f l ss w ok hty
  · exact rmay5 f l ss w ok hty
  · exact rmay6 f l ss w ok hty
  · exact rmay7 f l ss w ok hty
  · exact rmay8 f l ss w ok hty
  · exact rmay9 f l ss w ok hty
set_option maxHeartbeats 2000000 in
set_option maxRecDepth 100000 in
theorem rbody_any (f : Fr) (l : List UInt8) (ss : List (Int × Int)) (w : World) (ok : WrOk w f l ss) (hg : goodW (f.p l ss) = true) :
    Calls Try.prog 149 #[.agg #[.int .i64 f.ty, .int .i64 f.fl, .int .i64 f.st, .slice f.pA f.pn f.pc, .int .i64 f.pad, .int .u32 f.code, .int .i64 f.last, .int .i64 f.inc, .int .i64 f.dep, .bool f.only, .int .i64 f.wt, .slice f.sA f.sn f.sc]] w (RdP (bodyW (f.p l ss)) w) := by
  have hkn : known f.ty = true := (goodW_of hg).1
  rcases known_of' hkn with hty | hty | hty | hty | hty | hty | hty | hty | hty | hty
  · cases h8 : hasB f.fl 8
    · exact rbody0f f l ss w ok hty hg h8
    · exact rbody0t f l ss w ok hty hg h8
  · cases h8 : hasB f.fl 8 <;> cases h32 : hasB f.fl 32
    · exact rbody1ff f l ss w ok hty hg h8 h32
    · rcases bcase f.only with ho | ho
      · exact rbody1ft_f f l ss w ok hty hg h8 h32 ho
      · exact rbody1ft_t f l ss w ok hty hg h8 h32 ho
    · exact rbody1tf f l ss w ok hty hg h8 h32
    · rcases bcase f.only with ho | ho
      · exact rbody1tt_f f l ss w ok hty hg h8 h32 ho
      · exact rbody1tt_t f l ss w ok hty hg h8 h32 ho
  · rcases bcase f.only with ho | ho
    · exact rbody2_f f l ss w ok hty hg ho
    · exact rbody2_t f l ss w ok hty hg ho
  · exact rbody3 f l ss w ok hty hg
  · exact rbody4 f l ss w ok hty hg
  · cases h8 : hasB f.fl 8
    · exact rbody5f f l ss w ok hty hg h8
    · exact rbody5t f l ss w ok hty hg h8
  · exact rbody6 f l ss w ok hty hg
  · exact rbody7 f l ss w ok hty hg
  · exact rbody8 f l ss w ok hty hg
  · exact rbody9 f l ss w ok hty hg
theorem bodyW_len (p : Fp) (h : goodW p = true) (hl : p.pl.length ≤ 140737488351232) (hs : p.ss.length * 16 ≤ 140737488351232) : (bodyW p).length ≤ 140737488352000 := by
  obtain ⟨_, _, _, _, _, h6, _⟩ := goodW_of h
  have hpad : padF p.ty p.fl = true → p.pad.toNat ≤ 255 := by
    intro hp
    have h1 : paddedB p.ty = true := by simp only [padF, Bool.and_eq_true] at hp; exact hp.1
    unfold padOk at h6
    rw [h1] at h6
    simp at h6
    omega
  have h1 : (putW p).length ≤ 140737488351300 := by
    unfold putW
    repeat' split
    all_goals (try simp only [flat_len])
    all_goals (try simp [bytesOf_length])
    all_goals omega
  have h2 : (if padF p.ty p.fl then [byteOf p.pad] else []).length ≤ 1 := by split <;> simp
  have h3 : (if prioB p.ty p.fl then prioW p else []).length ≤ 5 := by split <;> simp [prioW, bytesOf_length]
  have h4 : (if padF p.ty p.fl then List.replicate p.pad.toNat (0 : UInt8) else []).length ≤ 255 := by
    split
    · rename_i hp; simpa using hpad hp
    · simp
  unfold bodyW
  simp only [List.length_append]
  omega

set_option maxHeartbeats 4000000 in
set_option maxRecDepth 100000 in
theorem refWrite_any (f : Fr) (l : List UInt8) (ss : List (Int × Int)) (w0 : World) (ok : WrOk w0 f l ss) :
    Calls Try.prog 99 #[.agg #[.int .i64 f.ty, .int .i64 f.fl, .int .i64 f.st, .slice f.pA f.pn f.pc, .int .i64 f.pad, .int .u32 f.code, .int .i64 f.last, .int .i64 f.inc, .int .i64 f.dep, .bool f.only, .int .i64 f.wt, .slice f.sA f.sn f.sc]] w0 (OwE 5 (wr (f.p l ss)).1 (wr (f.p l ss)).2 w0) := by
  obtain ⟨⟨R1, R2⟩, hR⟩ : ∃ R, wr (f.p l ss) = R := ⟨_, rfl⟩
  rw [hR]
  have HRR := Lib.hid hR
  clear hR
  dsimp only
  have HOK := Lib.hid ok
  clear ok
  have K0 : Kp [] w0 (w0.alloc (.cells #[.int .i64 f.ty, .int .i64 f.fl, .int .i64 f.st, .slice f.pA f.pn f.pc, .int .i64 f.pad, .int .u32 f.code, .int .i64 f.last, .int .i64 f.inc, .int .i64 f.dep, .bool f.only, .int .i64 f.wt, .slice f.sA f.sn f.sc] 49)) := (Kp.refl _ _).alloc _
  have hOK1 : WrOk (w0.alloc (.cells #[.int .i64 f.ty, .int .i64 f.fl, .int .i64 f.st, .slice f.pA f.pn f.pc, .int .i64 f.pad, .int .u32 f.code, .int .i64 f.last, .int .i64 f.inc, .int .i64 f.dep, .bool f.only, .int .i64 f.wt, .slice f.sA f.sn f.sc] 49)) f l ss := ⟨HOK.out.rd.keep K0 (by simp), HOK.out.pn, HOK.out.code, HOK.out.sd.keep K0 (by simp), HOK.out.sn⟩
  have HOK1 := Lib.hid hOK1
  have HB := Lib.hid (hp_new w0 (.cells #[.int .i64 f.ty, .int .i64 f.fl, .int .i64 f.st, .slice f.pA f.pn f.pc, .int .i64 f.pad, .int .u32 f.code, .int .i64 f.last, .int .i64 f.inc, .int .i64 f.dep, .bool f.only, .int .i64 f.wt, .slice f.sA f.sn f.sc] 49) _ rfl)
  have HK := Lib.hid K0
  clear hOK1 K0
  by_cases hkn : known f.ty = true
  · have HKN := Lib.hid (show knownB f.ty = true from hkn)
    by_cases hg : goodW (f.p l ss) = true
    · have hw := goodW_of hg
      have hfl0 : 0 ≤ f.fl := hw.2.1.1
      have hfl1 : f.fl ≤ 255 := hw.2.1.2
      have hst := idB_of (show idB f.st = true from hw.2.2.1)
      have hst0 := hst.1
      have hst1 := hst.2
      have hty : 0 ≤ f.ty ∧ f.ty ≤ 255 := by have := known_of' hkn; omega
      have hty0 := hty.1
      have hty1 := hty.2
      have HG := Lib.hid hg
      have HKN2 := Lib.hid hkn
      have hbl := bodyW_len (f.p l ss) hg (by show l.length ≤ _; rw [HOK.out.rd.len]; exact HOK.out.pn) (by show ss.length * 16 ≤ _; rw [HOK.out.sd.len]; exact HOK.out.sn)
      obtain ⟨BB, hBB⟩ : ∃ B, bodyW (f.p l ss) = B := ⟨_, rfl⟩
      rw [hBB] at hbl
      have HBB := Lib.hid hBB
      clear hw hst hty hg hkn hBB
      go_enter Try.func99, Try.ntmps99
      go_wp2_with fail
      generalize hW : w0.alloc (.cells #[.int .i64 f.ty, .int .i64 f.fl, .int .i64 f.st, .slice f.pA f.pn f.pc, .int .i64 f.pad, .int .u32 f.code, .int .i64 f.last, .int .i64 f.inc, .int .i64 f.dep, .bool f.only, .int .i64 f.wt, .slice f.sA f.sn f.sc] 49) = w1 at *
      clear hW
      have f_0 := cell_of HB.out 0
      refine (refKnown_any f.ty _).mono ?_
      rintro e w2 ⟨rfl, rfl⟩
      rw [HKN.out]
      have f_1 := cell_of HB.out 1
      have f_2 := cell_of HB.out 2
      have f_3 := cell_of HB.out 3
      have f_4 := cell_of HB.out 4
      have f_5 := cell_of HB.out 5
      have f_6 := cell_of HB.out 6
      have f_7 := cell_of HB.out 7
      have f_8 := cell_of HB.out 8
      have f_9 := cell_of HB.out 9
      have f_10 := cell_of HB.out 10
      have f_11 := cell_of HB.out 11
      go_wp2_with fail
      refine (rmay_any f l ss _ HOK1.out HKN2.out).mono ?_
      rintro e w3 ⟨rfl, K3⟩
      rw [HG.out]
      have HOK3 := Lib.hid (show WrOk w3 f l ss from ⟨HOK1.out.rd.keep K3 (by simp), HOK1.out.pn, HOK1.out.code, HOK1.out.sd.keep K3 (by simp), HOK1.out.sn⟩)
      have HK3 := Lib.hid (HK.out.trans K3)
      have HB3 := Lib.hid (K3.heap HB.out (by simp))
      clear HK HB K3 HOK1 f_0 f_1 f_2 f_3 f_4 f_5 f_6 f_7 f_8 f_9 f_10 f_11
      have f_0 := cell_of HB3.out 0
      have f_1 := cell_of HB3.out 1
      have f_2 := cell_of HB3.out 2
      have f_3 := cell_of HB3.out 3
      have f_4 := cell_of HB3.out 4
      have f_5 := cell_of HB3.out 5
      have f_6 := cell_of HB3.out 6
      have f_7 := cell_of HB3.out 7
      have f_8 := cell_of HB3.out 8
      have f_9 := cell_of HB3.out 9
      have f_10 := cell_of HB3.out 10
      have f_11 := cell_of HB3.out 11
      go_wp2_with fail
      refine (rbody_any f l ss _ HOK3.out HG.out).mono ?_
      rintro e w4 ⟨Ab, nb, cb, rfl, Rb, K4⟩
      rw [HBB.out] at Rb
      have hnb := Rb.len
      subst hnb
      have HRB := Lib.hid Rb
      have HK4 := Lib.hid (HK3.out.trans K4)
      have HB4 := Lib.hid (K4.heap HB3.out (by simp))
      clear HK3 HB3 K4 HOK3 Rb f_0 f_1 f_2 f_3 f_4 f_5 f_6 f_7 f_8 f_9 f_10 f_11
      have f_0 := cell_of HB4.out 0
      have f_1 := cell_of HB4.out 1
      have f_2 := cell_of HB4.out 2
      have f_3 := cell_of HB4.out 3
      have f_4 := cell_of HB4.out 4
      have f_5 := cell_of HB4.out 5
      have f_6 := cell_of HB4.out 6
      have f_7 := cell_of HB4.out 7
      have f_8 := cell_of HB4.out 8
      have f_9 := cell_of HB4.out 9
      have f_10 := cell_of HB4.out 10
      have f_11 := cell_of HB4.out 11
      go_wp2_with fail
      refine (refPut24_any (BB.length : Int) _ (by omega)).mono ?_
      rintro e w5 ⟨Ao, no, co, rfl, Oo, K5⟩
      have HK5 := Lib.hid (HK4.out.trans K5)
      have HB5 := Lib.hid (K5.heap HB4.out (by simp))
      have HRB5 := Lib.hid (HRB.out.keep K5 (by simp))
      have HRBL := HRB
      have HS5 := Lib.hid K5.size
      have HS4 := Lib.hid (lt_of_heap HB4.out)
      clear HK4 HB4 K5 HRB f_0 f_1 f_2 f_3 f_4 f_5 f_6 f_7 f_8 f_9 f_10 f_11
      have f_0 := cell_of HB5.out 0
      have f_1 := cell_of HB5.out 1
      have f_2 := cell_of HB5.out 2
      have f_3 := cell_of HB5.out 3
      have f_4 := cell_of HB5.out 4
      have f_5 := cell_of HB5.out 5
      have f_6 := cell_of HB5.out 6
      have f_7 := cell_of HB5.out 7
      have f_8 := cell_of HB5.out 8
      have f_9 := cell_of HB5.out 9
      have f_10 := cell_of HB5.out 10
      have f_11 := cell_of HB5.out 11
      have hltB := lt_of_heap HB5.out
      by_cases hbig : BB.length < 16777216
      · have HPW := Lib.hid (show putR (BB.length : Int) 3 16777216 = (bytesOf BB.length 3, 0) from putR_yes (by omega))
        rw [HPW.out] at Oo ⊢
        dsimp only at Oo ⊢
        have hno : no = 3 := by have := Oo.len; simp [bytesOf_length] at this; omega
        subst hno
        have hO5 := Oo
        clear Oo
        have HBL := Lib.hid (fun (hp : 0 < BB.length) => HRBL.out.at_.lt (by simpa using hp))
        obtain ⟨bs, hbs⟩ : ∃ bs, w4.heap.size = bs := ⟨_, rfl⟩
        rw [hbs] at hO5 HBL
        have hbsz : bs ≤ w5.heap.size := by have := HS5.out; omega
        have hBb : w0.heap.size < bs := by have := HS4.out; omega
        clear hbs HS4 HS5
        have HO := Lib.hid hO5
        have hcO := hO5.cap.1
        clear hO5
        have HB := HB5
        have HK := HK5
        have HRB := HRB5
        clear HB5 HK5 HRB5 HRBL
        have hltB1 := Nat.lt_succ_of_lt hltB
        go_wp2_with (with_reducible refine stopAt (o := ⟨some 34, _, _, _, _, _⟩) ?_)
        generalize hW : World.alloc _ _ = w7
        have K7 : Kp [] w5 w7 := by rw [← hW]; (repeat (first | with_reducible exact Kp.refl _ _ | with_reducible assumption | with_reducible refine Kp.alloc ?_ _ | with_reducible refine Kp.drew ?_ | with_reducible refine Kp.drewN ?_ _ | (with_reducible refine Kp.setL ?_ ?_ _; focus (simp; done)) | (with_reducible refine Kp.setR ?_ ?_ _; focus (simp; done)) | (with_reducible refine Kp.setR ?_ ?_ _; focus (simp; omega))))
        have HN7 := Lib.hid (show w7.heap[w5.heap.size]? = some (.cells #[.int .u8 f.ty, .int .u8 f.fl] 5) by rw [← hW]; (repeat (first | with_reducible assumption | (with_reducible refine hp_new _ _ _ ?_; focus (simp; done)) | (with_reducible refine (hp_old _ _ _ ?_).trans ?_; focus (first | omega | (simp; done) | (simp; omega))) | (with_reducible refine (hp_far _ _ _ _ ?_).trans ?_; focus (first | (simp; done) | (simp; omega))) | (with_reducible refine (hp_drew _ _).trans ?_) | (with_reducible refine (hp_drewN _ _ _).trans ?_))))
        clear hW
        have HRB' := Lib.hid (HRB.out.keep K7 (by simp))
        clear HRB
        have HRB := HRB'
        clear HRB'
        have HO' := Lib.hid (HO.out.keep K7 (by simp))
        clear HO
        have HO := HO'
        clear HO'
        have hbsz' : bs ≤ _ := Nat.le_trans hbsz K7.size
        clear hbsz
        have hbsz := hbsz'
        clear hbsz'
        have HB' := Lib.hid (K7.heap HB.out (by simp))
        have HK' := Lib.hid (HK.out.trans K7)
        clear f_0 f_1 f_2 f_3 f_4 f_5 f_6 f_7 f_8 f_9 f_10 f_11 hltB hltB1 HB HK K7
        have HB := HB'
        have HK := HK'
        clear HB' HK'
        obtain ⟨f_0, f_1, f_2, f_3, f_4, f_5, f_6, f_7, f_8, f_9, f_10, f_11, hltB, hltB1⟩ := cells12 HB.out
        refine Stop.go (wp_appB rfl _ _ 22 5 rfl Try.underlying22 Try.info5 bs Ao 3 co (bytesOf BB.length 3) rfl HO.out (some ⟨w5.heap.size, 0, none⟩) 2 2 [byteOf f.ty, byteOf f.fl] rfl (Rd.block HN7.out 0 2 2 _ rfl (Nat.le_refl _) (by simp; exact ⟨u8_of hty0 hty1, u8_of hfl0 hfl1⟩)) (by omega) (by omega) ?_)
        intro A8 n8 c8 l8 w8 hn8 hl8 O8 K8 hA8
        clear hA8 HN7
        have HRB' := Lib.hid (HRB.out.keep K8 (fun hp x h1 h2 => by have := HBL.out hp x h1; have := (HO.out.base x h2).1; omega))
        clear HRB
        have HRB := HRB'
        clear HRB'
        have HB' := Lib.hid (K8.heap HB.out (by intro hx; have := (HO.out.base _ hx).1; omega))
        have HK' := Lib.hid (HK.out.then K8 (fun t ht => .inr (by have := (HO.out.base t ht).1; omega)))
        have hbsz' : bs ≤ _ := Nat.le_trans hbsz K8.size
        clear f_0 f_1 f_2 f_3 f_4 f_5 f_6 f_7 f_8 f_9 f_10 f_11 hltB hltB1 HB HK hbsz
        have HB := HB'
        have HK := HK'
        have hbsz := hbsz'
        clear HB' HK' hbsz'
        obtain ⟨f_0, f_1, f_2, f_3, f_4, f_5, f_6, f_7, f_8, f_9, f_10, f_11, hltB, hltB1⟩ := cells12 HB.out
        clear HO K8
        have hc8 := O8.cap.1
        have hN8a : n8 ≤ 3 + 2 := Nat.le_of_eq hn8.out
        have HO := Lib.hid O8
        clear O8 hn8
        go_wp2_with fail
        refine (rfourF f.st _ hst0 hst1).mono ?_
        rintro e w9 ⟨A4, n4, c4, rfl, O4, K9⟩
        have hn4 : n4 = 4 := by have := O4.len; simp [bytesOf_length] at this; omega
        subst hn4
        have HR4 := Lib.hid O4.rd
        clear O4
        have HRB' := Lib.hid (HRB.out.keep K9 (by simp))
        clear HRB
        have HRB := HRB'
        clear HRB'
        have HO' := Lib.hid (HO.out.keep K9 (by simp))
        clear HO
        have HO := HO'
        clear HO'
        have hbsz' : bs ≤ _ := Nat.le_trans hbsz K9.size
        clear hbsz
        have hbsz := hbsz'
        clear hbsz'
        have HB' := Lib.hid (K9.heap HB.out (by simp))
        have HK' := Lib.hid (HK.out.trans K9)
        clear f_0 f_1 f_2 f_3 f_4 f_5 f_6 f_7 f_8 f_9 f_10 f_11 hltB hltB1 HB HK K9
        have HB := HB'
        have HK := HK'
        clear HB' HK'
        obtain ⟨f_0, f_1, f_2, f_3, f_4, f_5, f_6, f_7, f_8, f_9, f_10, f_11, hltB, hltB1⟩ := cells12 HB.out
        go_wp2_with (with_reducible refine stopAt (o := ⟨some 39, _, _, _, _, _⟩) ?_)
        refine Stop.go (wp_appB rfl _ _ 22 5 rfl Try.underlying22 Try.info5 bs A8 n8 c8 l8 rfl HO.out A4 4 c4 (bytesOf f.st.toNat 4) rfl HR4.out (by omega) (by omega) ?_)
        intro A10 n10 c10 l10 w10 hn10 hl10 O10 K10 hA10
        clear hA10 HR4
        have HRB' := Lib.hid (HRB.out.keep K10 (fun hp x h1 h2 => by have := HBL.out hp x h1; have := (HO.out.base x h2).1; omega))
        clear HRB
        have HRB := HRB'
        clear HRB'
        have HB' := Lib.hid (K10.heap HB.out (by intro hx; have := (HO.out.base _ hx).1; omega))
        have HK' := Lib.hid (HK.out.then K10 (fun t ht => .inr (by have := (HO.out.base t ht).1; omega)))
        have hbsz' : bs ≤ _ := Nat.le_trans hbsz K10.size
        clear f_0 f_1 f_2 f_3 f_4 f_5 f_6 f_7 f_8 f_9 f_10 f_11 hltB hltB1 HB HK hbsz
        have HB := HB'
        have HK := HK'
        have hbsz := hbsz'
        clear HB' HK' hbsz'
        obtain ⟨f_0, f_1, f_2, f_3, f_4, f_5, f_6, f_7, f_8, f_9, f_10, f_11, hltB, hltB1⟩ := cells12 HB.out
        clear HO K10
        have hc10 := O10.cap.1
        have hN10a : n10 ≤ n8 + 4 := Nat.le_of_eq hn10.out
        have HO := Lib.hid O10
        clear O10 hn10
        go_wp2_with (with_reducible refine stopAt (o := ⟨some 42, _, _, _, _, _⟩) ?_)
        refine Stop.go (wp_appB rfl _ _ 22 5 rfl Try.underlying22 Try.info5 bs A10 n10 c10 l10 rfl HO.out Ab BB.length cb BB rfl HRB.out (by omega) (by omega) ?_)
        intro A12 n12 c12 l12 w12 hn12 hl12 O12 K12 hA12
        have HK12 := Lib.hid (HK.out.then K12 (fun t ht => .inr (by have := (HO.out.base t ht).1; omega)))
        have HO12 := Lib.hid O12
        clear O12 K12 hA12 hn12
        have hw := wr_ok HG.out HBB.out hbig
        have hp := HRR.out.symm.trans hw
        have h1 : R1 = l12 := by
          have := congrArg Prod.fst hp
          dsimp only at this
          rw [this, hl12.out, hl10.out, hl8.out]
          rfl
        have h2 : R2 = 0 := congrArg Prod.snd hp
        have H1 := Lib.hid h1
        subst h2
        clear hw hp h1
        go_wp2
        go_ret2
        exact ⟨A12, n12, c12, rfl, by rw [H1.out]; exact HO12.out.mono (by omega), HK12.out⟩
      · have HPW := Lib.hid (show putR (BB.length : Int) 3 16777216 = ([], 1) from putR_no (by omega))
        rw [HPW.out] at Oo ⊢
        dsimp only at Oo ⊢
        have hw := wr_long HG.out HBB.out hbig
        have hp := HRR.out.symm.trans hw
        have h1 : R1 = [] := congrArg Prod.fst hp
        have h2 : R2 = 2 := congrArg Prod.snd hp
        subst h1 h2
        clear hw hp Oo
        go_wp2
        go_ret2
        exact ⟨none, 0, 0, rfl, Ow.nil _ _ _ _, HK5.out⟩
    · have hg' : goodW (f.p l ss) = false := by simpa using hg
      have hp := HRR.out.symm.trans (wr_bad hg')
      have h1 : R1 = [] := congrArg Prod.fst hp
      have h2 : R2 = 1 := congrArg Prod.snd hp
      have HG := Lib.hid hg'
      have HKN2 := Lib.hid hkn
      subst h1 h2
      clear hp hg hg' hkn
      go_enter Try.func99, Try.ntmps99
      go_wp2_with fail
      generalize hW : w0.alloc (.cells #[.int .i64 f.ty, .int .i64 f.fl, .int .i64 f.st, .slice f.pA f.pn f.pc, .int .i64 f.pad, .int .u32 f.code, .int .i64 f.last, .int .i64 f.inc, .int .i64 f.dep, .bool f.only, .int .i64 f.wt, .slice f.sA f.sn f.sc] 49) = w1 at *
      clear hW
      refine (refKnown_any f.ty _).mono ?_
      rintro e w2 ⟨rfl, rfl⟩
      rw [HKN.out]
      have f_0 := cell_of HB.out 0
      have f_1 := cell_of HB.out 1
      have f_2 := cell_of HB.out 2
      have f_3 := cell_of HB.out 3
      have f_4 := cell_of HB.out 4
      have f_5 := cell_of HB.out 5
      have f_6 := cell_of HB.out 6
      have f_7 := cell_of HB.out 7
      have f_8 := cell_of HB.out 8
      have f_9 := cell_of HB.out 9
      have f_10 := cell_of HB.out 10
      have f_11 := cell_of HB.out 11
      go_wp2_with fail
      refine (rmay_any f l ss _ HOK1.out HKN2.out).mono ?_
      rintro e w3 ⟨rfl, K3⟩
      rw [HG.out]
      have HK3 := Lib.hid (HK.out.trans K3)
      clear K3 f_0 f_1 f_2 f_3 f_4 f_5 f_6 f_7 f_8 f_9 f_10 f_11
      go_wp2
      go_ret2
      exact ⟨none, 0, 0, rfl, Ow.nil _ _ _ _, HK3.out⟩
  · have hkn' : known f.ty = false := by simpa using hkn
    have hp := HRR.out.symm.trans (wr_bad (show goodW (f.p l ss) = false by simp [goodW, Fr.p, hkn']))
    have h1 : R1 = [] := congrArg Prod.fst hp
    have h2 : R2 = 1 := congrArg Prod.snd hp
    have HKN := Lib.hid (show knownB f.ty = false from hkn')
    subst h1 h2
    clear hp hkn hkn'
    go_enter Try.func99, Try.ntmps99
    go_wp2_with fail
    refine (refKnown_any f.ty _).mono ?_
    rintro e w2 ⟨rfl, rfl⟩
    rw [HKN.out]
    go_wp2
    go_ret2
    exact ⟨none, 0, 0, rfl, Ow.nil _ _ _ _, HK.out⟩
end Go.Proofs.Ytkmcakneceagpaa

namespace Go.Proofs.Ytkmcakneceagpaa
open Go.RowKit
theorem WrOk.kp8 {w w' : World} {f : Fr} {l : List UInt8} {ss : List (Int × Int)} (h : WrOk w f l ss) (k : Kp [] w w') : WrOk w' f l ss := ⟨h.rd.keep k (by simp), h.pn, h.code, h.sd.keep k (by simp), h.sn⟩
theorem FrP.wrok {w : World} {b : Nat} {f : Fr} {p : Fp} (h : FrP w b f p) (ok : OkP p) (h1 : p.pl.length < 16777216) (h2 : p.ss.length < 16777216) : WrOk w f p.pl p.ss := by
  have e1 := h.rd.len
  have e2 := h.sd.len
  have e3 := h.cs.2.2.2.2.1
  exact ⟨h.rd, by omega, by rw [e3]; exact ⟨ok.c0, ok.c1⟩, h.sd, by omega⟩
set_option maxHeartbeats 4000000 in
set_option maxRecDepth 100000 in
theorem same08w (f g : Fr) (pl pl' : List UInt8) (ss ss' : List (Int × Int)) (w0 : World) (hf : WrOk w0 f pl ss) (hg : WrOk w0 g pl' ss') (hwr : wr (f.p pl ss) = wr (g.p pl' ss')) (hty : f.ty = g.ty) :
    Calls Try.prog 111 #[.agg #[.int .i64 f.ty, .int .i64 f.fl, .int .i64 f.st, .slice f.pA f.pn f.pc, .int .i64 f.pad, .int .u32 f.code, .int .i64 f.last, .int .i64 f.inc, .int .i64 f.dep, .bool f.only, .int .i64 f.wt, .slice f.sA f.sn f.sc], .agg #[.int .i64 g.ty, .int .i64 g.fl, .int .i64 g.st, .slice g.pA g.pn g.pc, .int .i64 g.pad, .int .u32 g.code, .int .i64 g.last, .int .i64 g.inc, .int .i64 g.dep, .bool g.only, .int .i64 g.wt, .slice g.sA g.sn g.sc]] w0 (Yes w0) := by
  have HTY := Lib.hid hty
  have HWF := Lib.hid hf
  have HWG := Lib.hid hg
  have HEG := Lib.hid hwr.symm
  clear hf hg hwr hty
  obtain ⟨⟨x, e⟩, hx⟩ : ∃ r, wr (f.p pl ss) = r := ⟨_, rfl⟩
  have HX := Lib.hid hx
  clear hx
  go_enter Try.func111, Try.ntmps111
  go_wp2_with fail
  generalize hW : World.alloc _ _ = w1
  have K1 : Kp [] w0 w1 := by rw [← hW]; (repeat (first | with_reducible exact Kp.refl _ _ | with_reducible assumption | with_reducible refine Kp.alloc ?_ _ | with_reducible refine Kp.drew ?_ | with_reducible refine Kp.drewN ?_ _ | (with_reducible refine Kp.setL ?_ ?_ _; focus (simp; done)) | (with_reducible refine Kp.setR ?_ ?_ _; focus (simp; done)) | (with_reducible refine Kp.setR ?_ ?_ _; focus (simp; omega))))
  have HA := Lib.hid (show w1.heap[w0.heap.size]? = some (.cells #[.int .i64 f.ty, .int .i64 f.fl, .int .i64 f.st, .slice f.pA f.pn f.pc, .int .i64 f.pad, .int .u32 f.code, .int .i64 f.last, .int .i64 f.inc, .int .i64 f.dep, .bool f.only, .int .i64 f.wt, .slice f.sA f.sn f.sc] 49) by rw [← hW]; (repeat (first | with_reducible assumption | (with_reducible refine hp_new _ _ _ ?_; focus (simp; done)) | (with_reducible refine (hp_old _ _ _ ?_).trans ?_; focus (first | omega | (simp; done) | (simp; omega))) | (with_reducible refine (hp_far _ _ _ _ ?_).trans ?_; focus (first | (simp; done) | (simp; omega))) | (with_reducible refine (hp_drew _ _).trans ?_) | (with_reducible refine (hp_drewN _ _ _).trans ?_))))
  have HB := Lib.hid (show w1.heap[w0.heap.size + 1]? = some (.cells #[.int .i64 g.ty, .int .i64 g.fl, .int .i64 g.st, .slice g.pA g.pn g.pc, .int .i64 g.pad, .int .u32 g.code, .int .i64 g.last, .int .i64 g.inc, .int .i64 g.dep, .bool g.only, .int .i64 g.wt, .slice g.sA g.sn g.sc] 49) by rw [← hW]; (repeat (first | with_reducible assumption | (with_reducible refine hp_new _ _ _ ?_; focus (simp; done)) | (with_reducible refine (hp_old _ _ _ ?_).trans ?_; focus (first | omega | (simp; done) | (simp; omega))) | (with_reducible refine (hp_far _ _ _ _ ?_).trans ?_; focus (first | (simp; done) | (simp; omega))) | (with_reducible refine (hp_drew _ _).trans ?_) | (with_reducible refine (hp_drewN _ _ _).trans ?_))))
  clear hW
  refine (refWrite_any f pl ss w1 (HWF.out.kp8 K1)).mono ?_
  rintro e1 w2 ⟨A1, n1, c1, rfl, O1, K2⟩
  rw [HX.out] at O1 ⊢
  dsimp only at O1 ⊢
  have HO1 := Lib.hid O1.rd
  have HA2 := Lib.hid (K2.heap HA.out (by simp))
  have HB2 := Lib.hid (K2.heap HB.out (by simp))
  have HK2 := Lib.hid (K1.trans K2)
  clear O1 K1 K2 HA HB
  obtain ⟨a0, a1, a2, a3, a4, a5, a6, a7, a8, a9, a10, a11, az, alt, alt2⟩ := cellsF HA2.out
  obtain ⟨b0, b1, b2, b3, b4, b5, b6, b7, b8, b9, b10, b11, bz, blt, blt2⟩ := cellsF HB2.out
  go_wp2_with fail
  refine (refWrite_any g pl' ss' w2 (HWG.out.kp8 HK2.out)).mono ?_
  rintro e1 w3 ⟨A3, n3, c3, rfl, O3, K3⟩
  rw [HEG.out, HX.out] at O3 ⊢
  dsimp only at O3 ⊢
  have HO3 := Lib.hid O3.rd
  have HO1' := Lib.hid (HO1.out.keep K3 (by simp))
  have HA3 := Lib.hid (K3.heap HA2.out (by simp))
  have HB3 := Lib.hid (K3.heap HB2.out (by simp))
  have HK3 := Lib.hid (HK2.out.trans K3)
  clear O3 K3 HA2 HB2 HK2 HO1 a0 a1 a2 a3 a4 a5 a6 a7 a8 a9 a10 a11 az alt alt2 b0 b1 b2 b3 b4 b5 b6 b7 b8 b9 b10 b11 bz blt blt2
  obtain ⟨a0, a1, a2, a3, a4, a5, a6, a7, a8, a9, a10, a11, az, alt, alt2⟩ := cellsF HA3.out
  obtain ⟨b0, b1, b2, b3, b4, b5, b6, b7, b8, b9, b10, b11, bz, blt, blt2⟩ := cellsF HB3.out
  go_wp2_with (with_reducible refine stopAt (o := ⟨some 20, _, _, _, _, _⟩) ?_)
  refine Stop.go (wpList_str rfl 22 5 9 _ rfl Try.underlying22 Try.underlying5 Try.underlying9 rfl (HO1'.out) ?_)
  go_wp2_with (with_reducible refine stopAt (o := ⟨some 22, _, _, _, _, _⟩) ?_)
  refine Stop.go (wpList_str rfl 22 5 9 _ rfl Try.underlying22 Try.underlying5 Try.underlying9 rfl (HO3.out) ?_)
  have hty := HTY.out
  go_wp2
  go_ret
  exact ⟨by simp, HK3.out⟩
theorem same08 (f g : Fr) (p : Fp) (b b' : Nat) (w0 : World) (hf : FrP w0 b f p) (hg : FrP w0 b' g p) (ok : OkP p) (h1 : p.pl.length < 16777216) (h2 : p.ss.length < 16777216) :
    Calls Try.prog 111 #[.agg #[.int .i64 f.ty, .int .i64 f.fl, .int .i64 f.st, .slice f.pA f.pn f.pc, .int .i64 f.pad, .int .u32 f.code, .int .i64 f.last, .int .i64 f.inc, .int .i64 f.dep, .bool f.only, .int .i64 f.wt, .slice f.sA f.sn f.sc], .agg #[.int .i64 g.ty, .int .i64 g.fl, .int .i64 g.st, .slice g.pA g.pn g.pc, .int .i64 g.pad, .int .u32 g.code, .int .i64 g.last, .int .i64 g.inc, .int .i64 g.dep, .bool g.only, .int .i64 g.wt, .slice g.sA g.sn g.sc]] w0 (Yes w0) :=
  same08w f g p.pl p.pl p.ss p.ss w0 (hf.wrok ok h1 h2) (hg.wrok ok h1 h2) (by rw [hf.eq, hg.eq]) (hf.cs.1.trans hg.cs.1.symm)
end Go.Proofs.Ytkmcakneceagpaa

namespace Go.Proofs.Ytkmcakneceagpaa
open Go.RowKit
theorem cells_len (fs : List (Fr × List UInt8)) : (fs.flatMap fun p => Fr.cells p.1).length = fs.length * 12 := by
  induction fs with
  | nil => rfl
  | cons p fs ih => simp only [List.flatMap_cons, List.length_append, ih]; simp; omega
theorem cells_at : ∀ (fs : List (Fr × List UInt8)) (i : Nat) (p : Fr × List UInt8), fs[i]? = some p → ∀ j u, (Fr.cells p.1)[j]? = some u → (fs.flatMap fun p => Fr.cells p.1)[i * 12 + j]? = some u
  | [], i, p, h, _, _, _ => by simp at h
  | q :: fs, 0, p, h, j, u, hu => by
    simp at h
    subst h
    simp only [List.flatMap_cons, Nat.zero_mul, Nat.zero_add]
    rw [List.getElem?_append_left (List.getElem?_eq_some_iff.1 hu).1]
    exact hu
  | q :: fs, i + 1, p, h, j, u, hu => by
    simp only [List.flatMap_cons]
    rw [List.getElem?_append_right (by simp; omega)]
    have := cells_at fs i p (by simpa using h) j u hu
    rw [← this]
    congr 1
    simp
    omega
end Go.Proofs.Ytkmcakneceagpaa

namespace Go.Proofs.Ytkmcakneceagpaa
open Go.RowKit
theorem rset12 {w : World} {g : Nat} {a0 a1 a2 a3 a4 a5 a6 a7 a8 a9 a10 a11 b0 b1 b2 b3 b4 b5 b6 b7 b8 b9 b10 b11 : Value} {t : TypeId} (hg : w.heap[g]? = some (.cells #[a0, a1, a2, a3, a4, a5, a6, a7, a8, a9, a10, a11] t)) : (World.setCell (World.setCell (World.setCell (World.setCell (World.setCell (World.setCell (World.setCell (World.setCell (World.setCell (World.setCell (World.setCell (World.setCell w ⟨g, 0, none⟩ b0) ⟨g, 1, none⟩ b1) ⟨g, 2, none⟩ b2) ⟨g, 3, none⟩ b3) ⟨g, 4, none⟩ b4) ⟨g, 5, none⟩ b5) ⟨g, 6, none⟩ b6) ⟨g, 7, none⟩ b7) ⟨g, 8, none⟩ b8) ⟨g, 9, none⟩ b9) ⟨g, 10, none⟩ b10) ⟨g, 11, none⟩ b11).heap[g]? = some (.cells #[b0, b1, b2, b3, b4, b5, b6, b7, b8, b9, b10, b11] t) ∧ Kp [g] w (World.setCell (World.setCell (World.setCell (World.setCell (World.setCell (World.setCell (World.setCell (World.setCell (World.setCell (World.setCell (World.setCell (World.setCell w ⟨g, 0, none⟩ b0) ⟨g, 1, none⟩ b1) ⟨g, 2, none⟩ b2) ⟨g, 3, none⟩ b3) ⟨g, 4, none⟩ b4) ⟨g, 5, none⟩ b5) ⟨g, 6, none⟩ b6) ⟨g, 7, none⟩ b7) ⟨g, 8, none⟩ b8) ⟨g, 9, none⟩ b9) ⟨g, 10, none⟩ b10) ⟨g, 11, none⟩ b11) := ⟨sf11 (sf10 (sf9 (sf8 (sf7 (sf6 (sf5 (sf4 (sf3 (sf2 (sf1 (sf0 (hg)))))))))))), (((((((((((((Kp.refl _ _).setCell (.inl (by simp)) _).setCell (.inl (by simp)) _).setCell (.inl (by simp)) _).setCell (.inl (by simp)) _).setCell (.inl (by simp)) _).setCell (.inl (by simp)) _).setCell (.inl (by simp)) _).setCell (.inl (by simp)) _).setCell (.inl (by simp)) _).setCell (.inl (by simp)) _).setCell (.inl (by simp)) _).setCell (.inl (by simp)) _)⟩
theorem rset3 {w : World} {g : Nat} {x0 x1 x2 y0 y1 y2 : Value} {t : TypeId} (hg : w.heap[g]? = some (.cells #[x0, x1, x2] t)) : (World.setCell (World.setCell (World.setCell w ⟨g, 0, none⟩ y0) ⟨g, 1, none⟩ y1) ⟨g, 2, none⟩ y2).heap[g]? = some (.cells #[y0, y1, y2] t) ∧ Kp [g] w (World.setCell (World.setCell (World.setCell w ⟨g, 0, none⟩ y0) ⟨g, 1, none⟩ y1) ⟨g, 2, none⟩ y2) := ⟨sx2 (sx1 (sx0 (hg))), ((((Kp.refl _ _).setCell (.inl (by simp)) _).setCell (.inl (by simp)) _).setCell (.inl (by simp)) _)⟩
set_option maxHeartbeats 1000000 in
theorem rfault (code : Int) (w : World) : Calls Try.prog 152 #[.int .i64 code] w fun e w' => e = .returned (.agg #[.bool true, .int .i64 0, .int .i64 code]) ∧ Kp [] w w' := by
  go_enter Try.func152, Try.ntmps152
  go_wp2
  refine bodyPost_ret (v := .agg #[.bool true, .int .i64 0, .int .i64 code]) (by simp [results, Try.results152, go_sem]) rfl ⟨rfl, by (repeat (first | with_reducible exact Kp.refl _ _ | with_reducible assumption | with_reducible refine Kp.alloc ?_ _ | with_reducible refine Kp.drew ?_ | with_reducible refine Kp.drewN ?_ _ | (with_reducible refine Kp.setL ?_ ?_ _; focus (simp; done)) | (with_reducible refine Kp.setR ?_ ?_ _; focus (simp; done)) | (with_reducible refine Kp.setR ?_ ?_ _; focus (simp; omega))))⟩
set_option maxHeartbeats 1000000 in
theorem rsize0 (fl st : Int) (n : Nat) (hn : n ≤ 16777216) (w : World) (hf0 : 0 ≤ fl) (hf1 : fl ≤ 255) : Calls Try.prog 154 #[.agg #[.int .i64 0, .int .i64 fl, .int .i64 st, .slice none 0 0, .int .i64 0, .int .u32 0, .int .i64 0, .int .i64 0, .int .i64 0, .bool false, .int .i64 0, .slice none 0 0], .int .i64 n] w (BoolK (!fitsB 0 fl n) w) := by
  go_enter Try.func154, Try.ntmps154
  go_wp2
  go_ret
  exact ⟨by simp [fitsB], by (repeat (first | with_reducible exact Kp.refl _ _ | with_reducible assumption | with_reducible refine Kp.alloc ?_ _ | with_reducible refine Kp.drew ?_ | with_reducible refine Kp.drewN ?_ _ | (with_reducible refine Kp.setL ?_ ?_ _; focus (simp; done)) | (with_reducible refine Kp.setR ?_ ?_ _; focus (simp; done)) | (with_reducible refine Kp.setR ?_ ?_ _; focus (simp; omega))))⟩
set_option maxHeartbeats 1000000 in
theorem rsize1 (fl st : Int) (n : Nat) (hn : n ≤ 16777216) (w : World) (hf0 : 0 ≤ fl) (hf1 : fl ≤ 255) : Calls Try.prog 154 #[.agg #[.int .i64 1, .int .i64 fl, .int .i64 st, .slice none 0 0, .int .i64 0, .int .u32 0, .int .i64 0, .int .i64 0, .int .i64 0, .bool false, .int .i64 0, .slice none 0 0], .int .i64 n] w (BoolK (!fitsB 1 fl n) w) := by
  go_enter Try.func154, Try.ntmps154
  go_wp2
  go_ret
  exact ⟨by simp [fitsB], by (repeat (first | with_reducible exact Kp.refl _ _ | with_reducible assumption | with_reducible refine Kp.alloc ?_ _ | with_reducible refine Kp.drew ?_ | with_reducible refine Kp.drewN ?_ _ | (with_reducible refine Kp.setL ?_ ?_ _; focus (simp; done)) | (with_reducible refine Kp.setR ?_ ?_ _; focus (simp; done)) | (with_reducible refine Kp.setR ?_ ?_ _; focus (simp; omega))))⟩
set_option maxHeartbeats 1000000 in
theorem rsize2 (fl st : Int) (n : Nat) (hn : n ≤ 16777216) (w : World) (hf0 : 0 ≤ fl) (hf1 : fl ≤ 255) : Calls Try.prog 154 #[.agg #[.int .i64 2, .int .i64 fl, .int .i64 st, .slice none 0 0, .int .i64 0, .int .u32 0, .int .i64 0, .int .i64 0, .int .i64 0, .bool false, .int .i64 0, .slice none 0 0], .int .i64 n] w (BoolK (!fitsB 2 fl n) w) := by
  by_cases h : n = 5
  · subst h
    go_enter Try.func154, Try.ntmps154
    go_wp2
    go_ret
    exact ⟨by simp [fitsB], by (repeat (first | with_reducible exact Kp.refl _ _ | with_reducible assumption | with_reducible refine Kp.alloc ?_ _ | with_reducible refine Kp.drew ?_ | with_reducible refine Kp.drewN ?_ _ | (with_reducible refine Kp.setL ?_ ?_ _; focus (simp; done)) | (with_reducible refine Kp.setR ?_ ?_ _; focus (simp; done)) | (with_reducible refine Kp.setR ?_ ?_ _; focus (simp; omega))))⟩
  · have h1 : ((n : Int) != 5) = true := by simp; omega
    go_enter Try.func154, Try.ntmps154
    go_wp2
    go_ret
    exact ⟨by simp [fitsB, h], by (repeat (first | with_reducible exact Kp.refl _ _ | with_reducible assumption | with_reducible refine Kp.alloc ?_ _ | with_reducible refine Kp.drew ?_ | with_reducible refine Kp.drewN ?_ _ | (with_reducible refine Kp.setL ?_ ?_ _; focus (simp; done)) | (with_reducible refine Kp.setR ?_ ?_ _; focus (simp; done)) | (with_reducible refine Kp.setR ?_ ?_ _; focus (simp; omega))))⟩
set_option maxHeartbeats 1000000 in
theorem rsize3 (fl st : Int) (n : Nat) (hn : n ≤ 16777216) (w : World) (hf0 : 0 ≤ fl) (hf1 : fl ≤ 255) : Calls Try.prog 154 #[.agg #[.int .i64 3, .int .i64 fl, .int .i64 st, .slice none 0 0, .int .i64 0, .int .u32 0, .int .i64 0, .int .i64 0, .int .i64 0, .bool false, .int .i64 0, .slice none 0 0], .int .i64 n] w (BoolK (!fitsB 3 fl n) w) := by
  by_cases h : n = 4
  · subst h
    go_enter Try.func154, Try.ntmps154
    go_wp2
    go_ret
    exact ⟨by simp [fitsB], by (repeat (first | with_reducible exact Kp.refl _ _ | with_reducible assumption | with_reducible refine Kp.alloc ?_ _ | with_reducible refine Kp.drew ?_ | with_reducible refine Kp.drewN ?_ _ | (with_reducible refine Kp.setL ?_ ?_ _; focus (simp; done)) | (with_reducible refine Kp.setR ?_ ?_ _; focus (simp; done)) | (with_reducible refine Kp.setR ?_ ?_ _; focus (simp; omega))))⟩
  · have h1 : ((n : Int) != 4) = true := by simp; omega
    go_enter Try.func154, Try.ntmps154
    go_wp2
    go_ret
    exact ⟨by simp [fitsB, h], by (repeat (first | with_reducible exact Kp.refl _ _ | with_reducible assumption | with_reducible refine Kp.alloc ?_ _ | with_reducible refine Kp.drew ?_ | with_reducible refine Kp.drewN ?_ _ | (with_reducible refine Kp.setL ?_ ?_ _; focus (simp; done)) | (with_reducible refine Kp.setR ?_ ?_ _; focus (simp; done)) | (with_reducible refine Kp.setR ?_ ?_ _; focus (simp; omega))))⟩
set_option maxHeartbeats 1000000 in
theorem rsize4 (fl st : Int) (n : Nat) (hn : n ≤ 16777216) (w : World) (hf0 : 0 ≤ fl) (hf1 : fl ≤ 255) : Calls Try.prog 154 #[.agg #[.int .i64 4, .int .i64 fl, .int .i64 st, .slice none 0 0, .int .i64 0, .int .u32 0, .int .i64 0, .int .i64 0, .int .i64 0, .bool false, .int .i64 0, .slice none 0 0], .int .i64 n] w (BoolK (!fitsB 4 fl n) w) := by
  have e4 : fitsB 4 fl n = (decide (n % 6 = 0) && (decide (n = 0) || !hasB fl 1)) := by simp [fitsB]
  rw [e4]
  by_cases h6 : n % 6 = 0
  · have h1 : ((n : Int) % 6 != 0) = false := by simp; omega
    have h1t : ((n : Int).tmod 6 != 0) = false := by rw [Int.tmod_eq_emod_of_nonneg (by omega)]; exact h1
    by_cases h0 : n = 0
    · subst h0
      go_enter Try.func154, Try.ntmps154
      go_wp2
      go_ret
      exact ⟨by simp, by (repeat (first | with_reducible exact Kp.refl _ _ | with_reducible assumption | with_reducible refine Kp.alloc ?_ _ | with_reducible refine Kp.drew ?_ | with_reducible refine Kp.drewN ?_ _ | (with_reducible refine Kp.setL ?_ ?_ _; focus (simp; done)) | (with_reducible refine Kp.setR ?_ ?_ _; focus (simp; done)) | (with_reducible refine Kp.setR ?_ ?_ _; focus (simp; omega))))⟩
    · have h2 : (0 : Int) < (n : Int) := by omega
      go_enter Try.func154, Try.ntmps154
      go_wp2_with fail
      refine (hasF fl 1 _ hf0 hf1 (by omega) (by omega)).mono ?_
      rintro e w1 ⟨rfl, rfl⟩
      go_wp2
      go_ret
      exact ⟨by simp [h6, h0], by (repeat (first | with_reducible exact Kp.refl _ _ | with_reducible assumption | with_reducible refine Kp.alloc ?_ _ | with_reducible refine Kp.drew ?_ | with_reducible refine Kp.drewN ?_ _ | (with_reducible refine Kp.setL ?_ ?_ _; focus (simp; done)) | (with_reducible refine Kp.setR ?_ ?_ _; focus (simp; done)) | (with_reducible refine Kp.setR ?_ ?_ _; focus (simp; omega))))⟩
  · have h1 : ((n : Int) % 6 != 0) = true := by simp; omega
    have h1t : ((n : Int).tmod 6 != 0) = true := by rw [Int.tmod_eq_emod_of_nonneg (by omega)]; exact h1
    go_enter Try.func154, Try.ntmps154
    go_wp2
    go_ret
    exact ⟨by simp [h6], by (repeat (first | with_reducible exact Kp.refl _ _ | with_reducible assumption | with_reducible refine Kp.alloc ?_ _ | with_reducible refine Kp.drew ?_ | with_reducible refine Kp.drewN ?_ _ | (with_reducible refine Kp.setL ?_ ?_ _; focus (simp; done)) | (with_reducible refine Kp.setR ?_ ?_ _; focus (simp; done)) | (with_reducible refine Kp.setR ?_ ?_ _; focus (simp; omega))))⟩
set_option maxHeartbeats 1000000 in
theorem rsize5 (fl st : Int) (n : Nat) (hn : n ≤ 16777216) (w : World) (hf0 : 0 ≤ fl) (hf1 : fl ≤ 255) : Calls Try.prog 154 #[.agg #[.int .i64 5, .int .i64 fl, .int .i64 st, .slice none 0 0, .int .i64 0, .int .u32 0, .int .i64 0, .int .i64 0, .int .i64 0, .bool false, .int .i64 0, .slice none 0 0], .int .i64 n] w (BoolK (!fitsB 5 fl n) w) := by
  go_enter Try.func154, Try.ntmps154
  go_wp2
  go_ret
  exact ⟨by simp [fitsB], by (repeat (first | with_reducible exact Kp.refl _ _ | with_reducible assumption | with_reducible refine Kp.alloc ?_ _ | with_reducible refine Kp.drew ?_ | with_reducible refine Kp.drewN ?_ _ | (with_reducible refine Kp.setL ?_ ?_ _; focus (simp; done)) | (with_reducible refine Kp.setR ?_ ?_ _; focus (simp; done)) | (with_reducible refine Kp.setR ?_ ?_ _; focus (simp; omega))))⟩
set_option maxHeartbeats 1000000 in
theorem rsize6 (fl st : Int) (n : Nat) (hn : n ≤ 16777216) (w : World) (hf0 : 0 ≤ fl) (hf1 : fl ≤ 255) : Calls Try.prog 154 #[.agg #[.int .i64 6, .int .i64 fl, .int .i64 st, .slice none 0 0, .int .i64 0, .int .u32 0, .int .i64 0, .int .i64 0, .int .i64 0, .bool false, .int .i64 0, .slice none 0 0], .int .i64 n] w (BoolK (!fitsB 6 fl n) w) := by
  by_cases h : n = 8
  · subst h
    go_enter Try.func154, Try.ntmps154
    go_wp2
    go_ret
    exact ⟨by simp [fitsB], by (repeat (first | with_reducible exact Kp.refl _ _ | with_reducible assumption | with_reducible refine Kp.alloc ?_ _ | with_reducible refine Kp.drew ?_ | with_reducible refine Kp.drewN ?_ _ | (with_reducible refine Kp.setL ?_ ?_ _; focus (simp; done)) | (with_reducible refine Kp.setR ?_ ?_ _; focus (simp; done)) | (with_reducible refine Kp.setR ?_ ?_ _; focus (simp; omega))))⟩
  · have h1 : ((n : Int) != 8) = true := by simp; omega
    go_enter Try.func154, Try.ntmps154
    go_wp2
    go_ret
    exact ⟨by simp [fitsB, h], by (repeat (first | with_reducible exact Kp.refl _ _ | with_reducible assumption | with_reducible refine Kp.alloc ?_ _ | with_reducible refine Kp.drew ?_ | with_reducible refine Kp.drewN ?_ _ | (with_reducible refine Kp.setL ?_ ?_ _; focus (simp; done)) | (with_reducible refine Kp.setR ?_ ?_ _; focus (simp; done)) | (with_reducible refine Kp.setR ?_ ?_ _; focus (simp; omega))))⟩
set_option maxHeartbeats 1000000 in
theorem rsize7 (fl st : Int) (n : Nat) (hn : n ≤ 16777216) (w : World) (hf0 : 0 ≤ fl) (hf1 : fl ≤ 255) : Calls Try.prog 154 #[.agg #[.int .i64 7, .int .i64 fl, .int .i64 st, .slice none 0 0, .int .i64 0, .int .u32 0, .int .i64 0, .int .i64 0, .int .i64 0, .bool false, .int .i64 0, .slice none 0 0], .int .i64 n] w (BoolK (!fitsB 7 fl n) w) := by
  by_cases h : n < 8
  · have h1 : (n : Int) < 8 := by omega
    go_enter Try.func154, Try.ntmps154
    go_wp2
    go_ret
    exact ⟨by simp [fitsB, h], by (repeat (first | with_reducible exact Kp.refl _ _ | with_reducible assumption | with_reducible refine Kp.alloc ?_ _ | with_reducible refine Kp.drew ?_ | with_reducible refine Kp.drewN ?_ _ | (with_reducible refine Kp.setL ?_ ?_ _; focus (simp; done)) | (with_reducible refine Kp.setR ?_ ?_ _; focus (simp; done)) | (with_reducible refine Kp.setR ?_ ?_ _; focus (simp; omega))))⟩
  · have h1 : ¬ (n : Int) < 8 := by omega
    go_enter Try.func154, Try.ntmps154
    go_wp2
    go_ret
    exact ⟨by simp [fitsB]; omega, by (repeat (first | with_reducible exact Kp.refl _ _ | with_reducible assumption | with_reducible refine Kp.alloc ?_ _ | with_reducible refine Kp.drew ?_ | with_reducible refine Kp.drewN ?_ _ | (with_reducible refine Kp.setL ?_ ?_ _; focus (simp; done)) | (with_reducible refine Kp.setR ?_ ?_ _; focus (simp; done)) | (with_reducible refine Kp.setR ?_ ?_ _; focus (simp; omega))))⟩
set_option maxHeartbeats 1000000 in
theorem rsize8 (fl st : Int) (n : Nat) (hn : n ≤ 16777216) (w : World) (hf0 : 0 ≤ fl) (hf1 : fl ≤ 255) : Calls Try.prog 154 #[.agg #[.int .i64 8, .int .i64 fl, .int .i64 st, .slice none 0 0, .int .i64 0, .int .u32 0, .int .i64 0, .int .i64 0, .int .i64 0, .bool false, .int .i64 0, .slice none 0 0], .int .i64 n] w (BoolK (!fitsB 8 fl n) w) := by
  by_cases h : n = 4
  · subst h
    go_enter Try.func154, Try.ntmps154
    go_wp2
    go_ret
    exact ⟨by simp [fitsB], by (repeat (first | with_reducible exact Kp.refl _ _ | with_reducible assumption | with_reducible refine Kp.alloc ?_ _ | with_reducible refine Kp.drew ?_ | with_reducible refine Kp.drewN ?_ _ | (with_reducible refine Kp.setL ?_ ?_ _; focus (simp; done)) | (with_reducible refine Kp.setR ?_ ?_ _; focus (simp; done)) | (with_reducible refine Kp.setR ?_ ?_ _; focus (simp; omega))))⟩
  · have h1 : ((n : Int) != 4) = true := by simp; omega
    go_enter Try.func154, Try.ntmps154
    go_wp2
    go_ret
    exact ⟨by simp [fitsB, h], by (repeat (first | with_reducible exact Kp.refl _ _ | with_reducible assumption | with_reducible refine Kp.alloc ?_ _ | with_reducible refine Kp.drew ?_ | with_reducible refine Kp.drewN ?_ _ | (with_reducible refine Kp.setL ?_ ?_ _; focus (simp; done)) | (with_reducible refine Kp.setR ?_ ?_ _; focus (simp; done)) | (with_reducible refine Kp.setR ?_ ?_ _; focus (simp; omega))))⟩
set_option maxHeartbeats 1000000 in
theorem rsize9 (fl st : Int) (n : Nat) (hn : n ≤ 16777216) (w : World) (hf0 : 0 ≤ fl) (hf1 : fl ≤ 255) : Calls Try.prog 154 #[.agg #[.int .i64 9, .int .i64 fl, .int .i64 st, .slice none 0 0, .int .i64 0, .int .u32 0, .int .i64 0, .int .i64 0, .int .i64 0, .bool false, .int .i64 0, .slice none 0 0], .int .i64 n] w (BoolK (!fitsB 9 fl n) w) := by
  go_enter Try.func154, Try.ntmps154
  go_wp2
  go_ret
  exact ⟨by simp [fitsB], by (repeat (first | with_reducible exact Kp.refl _ _ | with_reducible assumption | with_reducible refine Kp.alloc ?_ _ | with_reducible refine Kp.drew ?_ | with_reducible refine Kp.drewN ?_ _ | (with_reducible refine Kp.setL ?_ ?_ _; focus (simp; done)) | (with_reducible refine Kp.setR ?_ ?_ _; focus (simp; done)) | (with_reducible refine Kp.setR ?_ ?_ _; focus (simp; omega))))⟩
theorem refU31_at (A : Option Addr) (n c : Nat) (i : Nat) (l : List UInt8) (w : World) (hn : n ≤ 140737488355328) (hr : Rd w A n c l) (h : i + 4 ≤ n) : Calls Try.prog 52 #[.slice A n c, .int .i64 i] w (NumR .i64 (n31 l i) w) :=
  (refU31_any A n c i l w hn hr).mono fun e w' ⟨he, hk⟩ => ⟨_, _, by rw [n31_eq (by rw [hr.len]; exact h)] at he; exact he, hk⟩
theorem refU32_at (A : Option Addr) (n c : Nat) (i : Nat) (l : List UInt8) (w : World) (hn : n ≤ 140737488355328) (hr : Rd w A n c l) (h : i + 4 ≤ n) : Calls Try.prog 35 #[.slice A n c, .int .i64 i] w (NumR .u32 (n32 l i) w) :=
  (refU32_any A n c i l w hn hr).mono fun e w' ⟨he, hk⟩ => ⟨_, _, by rw [n32_eq (by rw [hr.len]; exact h)] at he; exact he, hk⟩
theorem refU16_at (A : Option Addr) (n c : Nat) (i : Nat) (l : List UInt8) (w : World) (hn : n ≤ 140737488355328) (hr : Rd w A n c l) (h : i + 2 ≤ n) : Calls Try.prog 40 #[.slice A n c, .int .i64 i] w (NumR .i64 (n16 l i) w) :=
  (refU16_any A n c i l w hn hr).mono fun e w' ⟨he, hk⟩ => ⟨_, _, by rw [n16_eq (by rw [hr.len]; exact h)] at he; exact he, hk⟩
set_option maxHeartbeats 2000000 in
set_option maxRecDepth 100000 in
theorem rprior (f : Fr) (A : Option Addr) (n c : Nat) (l : List UInt8) (w : World) (hr : Rd w A n c l) (h5 : 5 ≤ n) (hn : n ≤ 140737488355328) :
    Calls Try.prog 191 #[.agg #[.int .i64 f.ty, .int .i64 f.fl, .int .i64 f.st, .slice f.pA f.pn f.pc, .int .i64 f.pad, .int .u32 f.code, .int .i64 f.last, .int .i64 f.inc, .int .i64 f.dep, .bool f.only, .int .i64 f.wt, .slice f.sA f.sn f.sc], .slice A n c] w fun e w' => e = .returned (.agg #[.int .i64 f.ty, .int .i64 f.fl, .int .i64 f.st, .slice f.pA f.pn f.pc, .int .i64 f.pad, .int .u32 f.code, .int .i64 f.last, .int .i64 f.inc, .int .i64 (n31 l 0), .bool (decide (128 ≤ (l.getD 0 0).toNat)), .int .i64 ((l.getD 4 0).toNat + 1), .slice f.sA f.sn f.sc]) ∧ Kp [] w w' := by
  obtain ⟨b, off, rfl, hb, hcell⟩ := hr.addr (by omega)
  have HR := Lib.hid hr
  have hcap := hr.cap
  have Q0 := Lib.hid (hcell 0 (by omega))
  have Q4 := Lib.hid (hcell 4 (by omega))
  clear hcell hr
  generalize hx : n31 l 0 = x
  have HX := Lib.hid hx
  have hx0 := (l.getD 0 0).toNat_lt
  have hx4 := (l.getD 4 0).toNat_lt
  generalize hy0 : (l.getD 0 0).toNat = y0 at *
  generalize hy4 : (l.getD 4 0).toNat = y4 at *
  clear hx hy0 hy4
  go_enter Try.func191, Try.ntmps191
  go_wp2_with fail
  generalize hW : World.alloc _ _ = w1
  have K1 : Kp [] w w1 := by rw [← hW]; (repeat (first | with_reducible exact Kp.refl _ _ | with_reducible assumption | with_reducible refine Kp.alloc ?_ _ | with_reducible refine Kp.drew ?_ | with_reducible refine Kp.drewN ?_ _ | (with_reducible refine Kp.setL ?_ ?_ _; focus (simp; done)) | (with_reducible refine Kp.setR ?_ ?_ _; focus (simp; done)) | (with_reducible refine Kp.setR ?_ ?_ _; focus (simp; omega))))
  have HB := Lib.hid (show w1.heap[w.heap.size]? = some (.cells #[.int .i64 f.ty, .int .i64 f.fl, .int .i64 f.st, .slice f.pA f.pn f.pc, .int .i64 f.pad, .int .u32 f.code, .int .i64 f.last, .int .i64 f.inc, .int .i64 f.dep, .bool f.only, .int .i64 f.wt, .slice f.sA f.sn f.sc] 49) by rw [← hW]; (repeat (first | with_reducible assumption | (with_reducible refine hp_new _ _ _ ?_; focus (simp; done)) | (with_reducible refine (hp_old _ _ _ ?_).trans ?_; focus (first | omega | (simp; done) | (simp; omega))) | (with_reducible refine (hp_far _ _ _ _ ?_).trans ?_; focus (first | (simp; done) | (simp; omega))) | (with_reducible refine (hp_drew _ _).trans ?_) | (with_reducible refine (hp_drewN _ _ _).trans ?_))))
  have HF := Lib.hid (show w1.heap[w.heap.size + 1]? = some (.cells #[.int .i64 0, .int .i64 0, .int .i64 0, .slice none 0 0, .int .i64 0, .int .u32 0, .int .i64 0, .int .i64 0, .int .i64 0, .bool false, .int .i64 0, .slice none 0 0] 49) by rw [← hW]; (repeat (first | with_reducible assumption | (with_reducible refine hp_new _ _ _ ?_; focus (simp; done)) | (with_reducible refine (hp_old _ _ _ ?_).trans ?_; focus (first | omega | (simp; done) | (simp; omega))) | (with_reducible refine (hp_far _ _ _ _ ?_).trans ?_; focus (first | (simp; done) | (simp; omega))) | (with_reducible refine (hp_drew _ _).trans ?_) | (with_reducible refine (hp_drewN _ _ _).trans ?_))))
  clear hW
  have hU := refU31_at (some ⟨b, off, none⟩) n c 0 l w1 hn (HR.out.keep K1 (by simp)) (by omega)
  rw [show ((0 : Nat) : Int) = 0 from rfl, HX.out] at hU
  refine hU.mono ?_
  rintro e w2 ⟨p, q, rfl, K2⟩
  clear hU
  have HK2 := Lib.hid (K1.trans K2)
  have HB2 := Lib.hid (K2.heap HB.out (by simp))
  have HF2 := Lib.hid (K2.heap HF.out (by simp))
  have c0 := HK2.out.cell Q0.out (by simp)
  have c4 := HK2.out.cell Q4.out (by simp)
  rw [Nat.add_zero] at c0
  clear K1 K2 HB HF
  obtain ⟨f0, f1, f2, f3, f4, f5, f6, f7, f8, f9, f10, f11, fz, fl1, fl2⟩ := cellsF HB2.out
  obtain ⟨g0, g1, g2, g3, g4, g5, g6, g7, g8, g9, g10, g11, gz, gl1, gl2⟩ := cellsF HF2.out
  go_wp2
  generalize hW : World.setCell _ _ _ = W
  have K3 : Kp [w.heap.size] w2 (World.setCell (World.setCell (World.setCell w2 ⟨w.heap.size, 8, none⟩ (.int .i64 x)) ⟨w.heap.size, 9, none⟩ (.bool (decide ((128 : Int) ≤ (y0 : Int))))) ⟨w.heap.size, 10, none⟩ (.int .i64 ((y4 : Int) + 1))) := (((Kp.refl _ _).setCell (.inl (by simp)) _).setCell (.inl (by simp)) _).setCell (.inl (by simp)) _
  obtain ⟨HF9, K9⟩ : W.heap[w.heap.size + 1]? = some (.cells #[.int .i64 f.ty, .int .i64 f.fl, .int .i64 f.st, .slice f.pA f.pn f.pc, .int .i64 f.pad, .int .u32 f.code, .int .i64 f.last, .int .i64 f.inc, .int .i64 x, .bool (decide ((128 : Int) ≤ (y0 : Int))), .int .i64 ((y4 : Int) + 1), .slice f.sA f.sn f.sc] 49) ∧ Kp [w.heap.size + 1] (World.setCell (World.setCell (World.setCell w2 ⟨w.heap.size, 8, none⟩ (.int .i64 x)) ⟨w.heap.size, 9, none⟩ (.bool (decide ((128 : Int) ≤ (y0 : Int))))) ⟨w.heap.size, 10, none⟩ (.int .i64 ((y4 : Int) + 1))) W := by rw [← hW]; exact rset12 (K3.heap HF2.out (by simp))
  refine bodyPost_ret (v := .agg #[.int .i64 f.ty, .int .i64 f.fl, .int .i64 f.st, .slice f.pA f.pn f.pc, .int .i64 f.pad, .int .u32 f.code, .int .i64 f.last, .int .i64 f.inc, .int .i64 x, .bool (decide ((128 : Int) ≤ (y0 : Int))), .int .i64 ((y4 : Int) + 1), .slice f.sA f.sn f.sc]) (by simp [results, Try.results191, go_sem, cell_of HF9]) rfl ⟨by simp; omega, (HK2.out.then K3 (by simp)).then K9 (by simp)⟩
end Go.Proofs.Ytkmcakneceagpaa

namespace Go.Proofs.Ytkmcakneceagpaa
open Go.RowKit
set_option maxHeartbeats 400000 in
theorem number3_big (A : Option Addr) (n c : Nat) (i : Int) (l : List UInt8) (w : World) (hn : n ≤ 281474976710656) (hr : Rd w A n c l) :
    Calls Try.prog 116 #[.slice A n c, .int .i64 i, .int .i64 3] w (Num3 .u64 (num 3 l i).1 (num 3 l i).2.1 (num 3 l i).2.2 w) := by
  have hlen := hr.len
  by_cases ha : i < 0 ∨ (l.length : Int) < i
  · rw [num_arg ha]
    rw [hlen] at ha
    clear hlen hr
    rcases ha with h | h
    · go_enter Try.func116, Try.ntmps116
      go_wp2
      go_ret3
      exact ⟨rfl, Kp.refl _ _⟩
    · have h' : ¬ i < 0 := by omega
      go_enter Try.func116, Try.ntmps116
      go_wp2
      go_ret3
      exact ⟨rfl, Kp.refl _ _⟩
  · by_cases hs : (l.length : Int) - i < 3
    · rw [num_short (by omega) (by omega) hs]
      have h0 : 0 ≤ i := by omega
      have h1 : i ≤ n := by omega
      have h2 : (n : Int) - i < 3 := by omega
      have HL := Lib.hid hlen
      clear hlen hr ha hs
      go_enter Try.func116, Try.ntmps116
      go_wp2
      go_ret3
      exact Num3.mk rfl (by rw [HL.out]) rfl (Kp.refl _ _)
    · obtain ⟨j, rfl⟩ := Int.eq_ofNat_of_zero_le (show 0 ≤ i by omega)
      have hj : j + 3 ≤ n := by omega
      obtain ⟨b, off, rfl, hb, hcell⟩ := hr.addr (by omega)
      have hcap := hr.cap
      rw [num_ok (by omega)]
      have HT : Hid (∀ k, k < 3 → be ((l.drop j).take (k + 1)) = be ((l.drop j).take k) * 256 + (l.getD (j + k) 0).toNat) := by
        intro k hk
        rw [be_take_succ _ _ (by simp; omega)]
        simp [List.getD_eq_getElem?_getD]
      clear hlen hr ha hs
      have d1 : decide ((j : Int) < 0) = false := by simp
      have d2 : decide (n < j) = false := by simp; omega
      have d3 : decide ((n : Int) - j < 3) = false := by simp; omega
      go_enter Try.func116, Try.ntmps116
      go_wp2
      go_loop [9, 10] (fun v k => ∃ kk : Nat, kk ≤ 3 ∧ k = .int .i64 kk ∧ v = .int .u64 (be ((l.drop j).take kk))) (fun _ k => 3 - (intOf k).toNat)
      case atStart => exact ⟨0, by omega, rfl, by simp [be]⟩
      case round =>
        obtain ⟨k, hk, rfl, rfl⟩ := hrel
        by_cases hlt : k < 3
        · have hc2 := hcell (j + k) (by omega)
          have HB : be ((l.drop j).take k) < 16777216 := Nat.lt_of_lt_of_le (be_take_lt (l.drop j) k) (Nat.le_trans (Nat.pow_le_pow_right (by omega) (show k ≤ 3 by omega)) (by decide))
          have HC : (l.getD (j + k) 0).toNat < 256 := (l.getD (j + k) 0).toNat_lt
          simp only [List.getD_eq_getElem?_getD] at HC
          clear hcell
          go_wp2
          go_round
          case rel =>
            refine ⟨k + 1, by omega, by go_num, ?_⟩
            rw [HT.out k hlt]
            simp only [List.getD_eq_getElem?_getD]
            go_num
          case measure => simp [intOf]; omega
        · obtain rfl : k = 3 := by omega
          clear hcell
          go_wp2
          go_ret3
          exact Num3.mk rfl rfl rfl (Kp.refl _ _)
set_option maxHeartbeats 400000 in
theorem number4_big (A : Option Addr) (n c : Nat) (i : Int) (l : List UInt8) (w : World) (hn : n ≤ 281474976710656) (hr : Rd w A n c l) :
    Calls Try.prog 116 #[.slice A n c, .int .i64 i, .int .i64 4] w (Num3 .u64 (num 4 l i).1 (num 4 l i).2.1 (num 4 l i).2.2 w) := by
  have hlen := hr.len
  by_cases ha : i < 0 ∨ (l.length : Int) < i
  · rw [num_arg ha]
    rw [hlen] at ha
    clear hlen hr
    rcases ha with h | h
    · go_enter Try.func116, Try.ntmps116
      go_wp2
      go_ret3
      exact ⟨rfl, Kp.refl _ _⟩
    · have h' : ¬ i < 0 := by omega
      go_enter Try.func116, Try.ntmps116
      go_wp2
      go_ret3
      exact ⟨rfl, Kp.refl _ _⟩
  · by_cases hs : (l.length : Int) - i < 4
    · rw [num_short (by omega) (by omega) hs]
      have h0 : 0 ≤ i := by omega
      have h1 : i ≤ n := by omega
      have h2 : (n : Int) - i < 4 := by omega
      have HL := Lib.hid hlen
      clear hlen hr ha hs
      go_enter Try.func116, Try.ntmps116
      go_wp2
      go_ret3
      exact Num3.mk rfl (by rw [HL.out]) rfl (Kp.refl _ _)
    · obtain ⟨j, rfl⟩ := Int.eq_ofNat_of_zero_le (show 0 ≤ i by omega)
      have hj : j + 4 ≤ n := by omega
      obtain ⟨b, off, rfl, hb, hcell⟩ := hr.addr (by omega)
      have hcap := hr.cap
      rw [num_ok (by omega)]
      have HT : Hid (∀ k, k < 4 → be ((l.drop j).take (k + 1)) = be ((l.drop j).take k) * 256 + (l.getD (j + k) 0).toNat) := by
        intro k hk
        rw [be_take_succ _ _ (by simp; omega)]
        simp [List.getD_eq_getElem?_getD]
      clear hlen hr ha hs
      have d1 : decide ((j : Int) < 0) = false := by simp
      have d2 : decide (n < j) = false := by simp; omega
      have d3 : decide ((n : Int) - j < 4) = false := by simp; omega
      go_enter Try.func116, Try.ntmps116
      go_wp2
      go_loop [9, 10] (fun v k => ∃ kk : Nat, kk ≤ 4 ∧ k = .int .i64 kk ∧ v = .int .u64 (be ((l.drop j).take kk))) (fun _ k => 4 - (intOf k).toNat)
      case atStart => exact ⟨0, by omega, rfl, by simp [be]⟩
      case round =>
        obtain ⟨k, hk, rfl, rfl⟩ := hrel
        by_cases hlt : k < 4
        · have hc2 := hcell (j + k) (by omega)
          have HB : be ((l.drop j).take k) < 16777216 := Nat.lt_of_lt_of_le (be_take_lt (l.drop j) k) (Nat.le_trans (Nat.pow_le_pow_right (by omega) (show k ≤ 3 by omega)) (by decide))
          have HC : (l.getD (j + k) 0).toNat < 256 := (l.getD (j + k) 0).toNat_lt
          simp only [List.getD_eq_getElem?_getD] at HC
          clear hcell
          go_wp2
          go_round
          case rel =>
            refine ⟨k + 1, by omega, by go_num, ?_⟩
            rw [HT.out k hlt]
            simp only [List.getD_eq_getElem?_getD]
            go_num
          case measure => simp [intOf]; omega
        · obtain rfl : k = 4 := by omega
          clear hcell
          go_wp2
          go_ret3
          exact Num3.mk rfl rfl rfl (Kp.refl _ _)
set_option maxHeartbeats 400000 in
theorem refU24_big (A : Option Addr) (n c : Nat) (i : Int) (l : List UInt8) (w : World) (hn : n ≤ 281474976710656) (hr : Rd w A n c l) :
    Calls Try.prog 48 #[.slice A n c, .int .i64 i] w (Num3 .i64 (num 3 l i).1 (num 3 l i).2.1 (num 3 l i).2.2 w) := by
  have hb : (num 3 l i).1 < 16777216 := Nat.lt_of_lt_of_eq (num_lt 3 l i) pow3
  go_enter Try.func48, Try.ntmps48
  go_wp2_with (go_at_call 116; refine (number3_big _ _ _ _ _ _ hn hr).mono ?_; rintro e w' ⟨rfl, hk⟩)
  go_ret3
  exact Num3.mk (by first | rfl | omega) rfl rfl hk
set_option maxHeartbeats 400000 in
theorem refU31_big (A : Option Addr) (n c : Nat) (i : Int) (l : List UInt8) (w : World) (hn : n ≤ 281474976710656) (hr : Rd w A n c l) :
    Calls Try.prog 52 #[.slice A n c, .int .i64 i] w (Num3 .i64 ((num 4 l i).1 % 2147483648 : Nat) (num 4 l i).2.1 (num 4 l i).2.2 w) := by
  have hb : (num 4 l i).1 < 4294967296 := Nat.lt_of_lt_of_eq (num_lt 4 l i) pow4
  go_enter Try.func52, Try.ntmps52
  go_wp2_with (go_at_call 116; refine (number4_big _ _ _ _ _ _ hn hr).mono ?_; rintro e w' ⟨rfl, hk⟩)
  go_ret3
  refine Num3.mk ?_ rfl rfl hk
  first | rfl | omega | (unfold wrap64; omega)
set_option maxHeartbeats 1000000 in
theorem refHead_big (A : Option Addr) (n c : Nat) (l : List UInt8) (w : World) (hn : n ≤ 281474976710656) (hr : Rd w A n c l) :
    Calls Try.prog 56 #[.slice A n c] w (Num5 (headR l) w) := by
  have hlen := hr.len
  by_cases hs : n < 9
  · have e : headR l = (0, 0, 0, 0, 3) := by unfold headR; rw [if_pos (by omega)]
    rw [e]
    clear hlen hr
    go_enter Try.func56, Try.ntmps56
    go_wp2
    exact bodyPost_ret (v := .tuple #[.int .i64 0, .int .i64 0, .int .i64 0, .int .i64 0, .int .i64 3]) (by simp [results, Try.results56, go_sem]) rfl ⟨rfl, Kp.refl _ _⟩
  · have e : headR l = ((num 3 l 0).1, (l.getD 3 0).toNat, (l.getD 4 0).toNat, (num 4 l 5).1 % 2147483648, 0) := by unfold headR; rw [if_neg (by omega)]
    rw [e]
    obtain ⟨b, off, rfl, hb, hc⟩ := hr.addr (by omega)
    have h3 := hc 3 (by omega)
    have h4 := hc 4 (by omega)
    have HR := Lib.hid hr
    clear hlen hr hc e
    go_enter Try.func56, Try.ntmps56
    go_wp2_with fail
    refine (refU24_big _ _ _ 0 _ _ hn HR.out).mono ?_
    rintro e w1 ⟨rfl, k1⟩
    have r1 := HR.out.keep k1 (by simp)
    have g3 := k1.cell h3 (by simp)
    have g4 := k1.cell h4 (by simp)
    clear h3 h4 HR hb
    have HR1 := Lib.hid r1
    clear r1
    generalize hx : (num 3 l 0).1 = x1
    have HX := Lib.hid hx
    clear hx
    generalize (num 3 l 0).2.1 = x2
    generalize (num 3 l 0).2.2 = x3
    go_wp2_with fail
    refine (refU31_big _ _ _ 5 _ _ hn HR1.out).mono ?_
    rintro e w2 ⟨rfl, k2⟩
    have h3 := k2.cell g3 (by simp)
    have h4 := k2.cell g4 (by simp)
    have HK := Lib.hid (k1.trans k2)
    clear g3 g4 HR1 k1 k2
    generalize hy : (num 4 l 5).1 % 2147483648 = y1
    have HY := Lib.hid hy
    clear hy
    generalize (num 4 l 5).2.1 = y2
    generalize (num 4 l 5).2.2 = y3
    have hb3 := (l.getD 3 0).toNat_lt
    have hb4 := (l.getD 4 0).toNat_lt
    generalize (l.getD 3 0).toNat = b3 at *
    generalize (l.getD 4 0).toNat = b4 at *
    have i3 : (3 : Int) < (n : Int) := by omega
    have i4 : (4 : Int) < (n : Int) := by omega
    go_wp2
    go_quiet (fail)
    go_wp2
    exact bodyPost_ret (v := .tuple #[.int .i64 x1, .int .i64 b3, .int .i64 b4, .int .i64 y1, .int .i64 0]) (by simp [results, Try.results56, go_sem]) rfl ⟨by simp only [HX.out, HY.out], HK.out.drewN _⟩
end Go.Proofs.Ytkmcakneceagpaa

namespace Go.Proofs.Ytkmcakneceagpaa
open Go.RowKit
set_option maxHeartbeats 4000000 in
set_option maxRecDepth 100000 in
theorem rparseNeg (A : Option Addr) (n c : Nat) (l : List UInt8) (most : Int) (w : World) (hr : Rd w A n c l) (hn : n ≤ 281474976710656) (hm : most < 0) : Calls Try.prog 101 #[.slice A n c, .int .i64 most] w (ParseR (.no 0 1) w) := by
  go_enter Try.func101, Try.ntmps101
  go_wp2
  refine bodyPost_ret (v := .tuple #[.agg #[.int .i64 0, .int .i64 0, .int .i64 0, .slice none 0 0, .int .i64 0, .int .u32 0, .int .i64 0, .int .i64 0, .int .i64 0, .bool false, .int .i64 0, .slice none 0 0], .int .i64 0, .agg #[.bool false, .int .i64 0, .int .i64 0], .int .i64 1]) (by simp [results, Try.results101, go_sem]) rfl ⟨(⟨0, 0, 0, none, 0, 0, 0, 0, 0, 0, 0, false, 0, none, 0, 0⟩ : Fr), rfl, FrP.zero _ _, by (repeat (first | with_reducible exact Kp.refl _ _ | with_reducible assumption | with_reducible refine Kp.alloc ?_ _ | with_reducible refine Kp.drew ?_ | with_reducible refine Kp.drewN ?_ _ | (with_reducible refine Kp.setL ?_ ?_ _; focus (simp; done)) | (with_reducible refine Kp.setR ?_ ?_ _; focus (simp; done)) | (with_reducible refine Kp.setR ?_ ?_ _; focus (simp; omega))))⟩
set_option maxHeartbeats 4000000 in
set_option maxRecDepth 100000 in
theorem rparseShort (A : Option Addr) (n c : Nat) (l : List UInt8) (most : Int) (w : World) (hr : Rd w A n c l) (hn : n ≤ 281474976710656) (hm : 0 ≤ most) (h9 : n < 9) : Calls Try.prog 101 #[.slice A n c, .int .i64 most] w (ParseR (.no 0 3) w) := by
  have HR := Lib.hid hr
  have e : headR l = (0, 0, 0, 0, 3) := by unfold headR; rw [if_pos (by rw [hr.len]; exact h9)]
  have HH := Lib.hid e
  clear hr e
  go_enter Try.func101, Try.ntmps101
  go_wp2_with fail
  generalize hW : World.alloc _ _ = w1
  have K1 : Kp [] w w1 := by rw [← hW]; (repeat (first | with_reducible exact Kp.refl _ _ | with_reducible assumption | with_reducible refine Kp.alloc ?_ _ | with_reducible refine Kp.drew ?_ | with_reducible refine Kp.drewN ?_ _ | (with_reducible refine Kp.setL ?_ ?_ _; focus (simp; done)) | (with_reducible refine Kp.setR ?_ ?_ _; focus (simp; done)) | (with_reducible refine Kp.setR ?_ ?_ _; focus (simp; omega))))
  have HF := Lib.hid (show w1.heap[w.heap.size]? = some (.cells #[.int .i64 0, .int .i64 0, .int .i64 0, .slice none 0 0, .int .i64 0, .int .u32 0, .int .i64 0, .int .i64 0, .int .i64 0, .bool false, .int .i64 0, .slice none 0 0] 49) by rw [← hW]; (repeat (first | with_reducible assumption | (with_reducible refine hp_new _ _ _ ?_; focus (simp; done)) | (with_reducible refine (hp_old _ _ _ ?_).trans ?_; focus (first | omega | (simp; done) | (simp; omega))) | (with_reducible refine (hp_far _ _ _ _ ?_).trans ?_; focus (first | (simp; done) | (simp; omega))) | (with_reducible refine (hp_drew _ _).trans ?_) | (with_reducible refine (hp_drewN _ _ _).trans ?_))))
  have HX := Lib.hid (show w1.heap[w.heap.size + 1]? = some (.cells #[.bool false, .int .i64 0, .int .i64 0] 64) by rw [← hW]; (repeat (first | with_reducible assumption | (with_reducible refine hp_new _ _ _ ?_; focus (simp; done)) | (with_reducible refine (hp_old _ _ _ ?_).trans ?_; focus (first | omega | (simp; done) | (simp; omega))) | (with_reducible refine (hp_far _ _ _ _ ?_).trans ?_; focus (first | (simp; done) | (simp; omega))) | (with_reducible refine (hp_drew _ _).trans ?_) | (with_reducible refine (hp_drewN _ _ _).trans ?_))))
  clear hW
  refine (refHead_big A n c l w1 hn (HR.out.keep K1 (by simp))).mono ?_
  rintro e w2 ⟨rfl, K2⟩
  rw [HH.out]
  dsimp only
  have HF2 := Lib.hid (K2.heap HF.out (by simp))
  have HX2 := Lib.hid (K2.heap HX.out (by simp))
  have HK2 := Lib.hid (K1.trans K2)
  clear HF HX K1 K2
  obtain ⟨q0, q1, q2, q3, q4, q5, q6, q7, q8, q9, q10, q11, qz, qlt, qlt2⟩ := cellsF HF2.out
  have x0 := cell_of HX2.out 0
  have x1 := cell_of HX2.out 1
  have x2 := cell_of HX2.out 2
  have xz := frozen_of HX2.out
  go_wp2
  generalize hW : World.setCell _ _ _ = W
  obtain ⟨HF9, HX9, K9⟩ : W.heap[w.heap.size]? = some (.cells #[.int .i64 0, .int .i64 0, .int .i64 0, .slice none 0 0, .int .i64 0, .int .u32 0, .int .i64 0, .int .i64 0, .int .i64 0, .bool false, .int .i64 0, .slice none 0 0] 49) ∧ W.heap[w.heap.size + 1]? = some (.cells #[.bool false, .int .i64 0, .int .i64 0] 64) ∧ Kp [w.heap.size, w.heap.size + 1] w2 W := by rw [← hW]; exact set15 (by omega) HF2.out HX2.out
  refine bodyPost_ret (v := .tuple #[.agg #[.int .i64 0, .int .i64 0, .int .i64 0, .slice none 0 0, .int .i64 0, .int .u32 0, .int .i64 0, .int .i64 0, .int .i64 0, .bool false, .int .i64 0, .slice none 0 0], .int .i64 0, .agg #[.bool false, .int .i64 0, .int .i64 0], .int .i64 3]) (by simp [results, Try.results101, go_sem, cell_of HF9, cell_of HX9]) rfl ⟨(⟨0, 0, 0, none, 0, 0, 0, 0, 0, 0, 0, false, 0, none, 0, 0⟩ : Fr), rfl, FrP.zero _ _, (HK2.out.then K9 (by simp))⟩
set_option maxHeartbeats 4000000 in
set_option maxRecDepth 100000 in
theorem rparseLong (A : Option Addr) (n c : Nat) (l : List UInt8) (most : Int) (w : World) (hr : Rd w A n c l) (hn : n ≤ 281474976710656) (hm : 0 ≤ most) (h9 : ¬ n < 9) (N : Nat) (hN : be (l.take 3) = N) (hb : most < (N : Int)) : Calls Try.prog 101 #[.slice A n c, .int .i64 most] w (ParseR (.bad 9 0 6) w) := by
  have HR := Lib.hid hr
  have e := head_of (l := l) (by rw [hr.len]; exact h9)
  rw [hN] at e
  obtain ⟨T, hT⟩ : ∃ T, (l.getD 3 0).toNat = T := ⟨_, rfl⟩
  obtain ⟨F, hF⟩ : ∃ F, (l.getD 4 0).toNat = F := ⟨_, rfl⟩
  obtain ⟨S, hS⟩ : ∃ S, be ((l.drop 5).take 4) % 2147483648 = S := ⟨_, rfl⟩
  rw [hT, hF, hS] at e
  have HH := Lib.hid e
  clear hr e hT hF hS hN
  go_enter Try.func101, Try.ntmps101
  go_wp2_with fail
  generalize hW : World.alloc _ _ = w1
  have K1 : Kp [] w w1 := by rw [← hW]; (repeat (first | with_reducible exact Kp.refl _ _ | with_reducible assumption | with_reducible refine Kp.alloc ?_ _ | with_reducible refine Kp.drew ?_ | with_reducible refine Kp.drewN ?_ _ | (with_reducible refine Kp.setL ?_ ?_ _; focus (simp; done)) | (with_reducible refine Kp.setR ?_ ?_ _; focus (simp; done)) | (with_reducible refine Kp.setR ?_ ?_ _; focus (simp; omega))))
  have HF := Lib.hid (show w1.heap[w.heap.size]? = some (.cells #[.int .i64 0, .int .i64 0, .int .i64 0, .slice none 0 0, .int .i64 0, .int .u32 0, .int .i64 0, .int .i64 0, .int .i64 0, .bool false, .int .i64 0, .slice none 0 0] 49) by rw [← hW]; (repeat (first | with_reducible assumption | (with_reducible refine hp_new _ _ _ ?_; focus (simp; done)) | (with_reducible refine (hp_old _ _ _ ?_).trans ?_; focus (first | omega | (simp; done) | (simp; omega))) | (with_reducible refine (hp_far _ _ _ _ ?_).trans ?_; focus (first | (simp; done) | (simp; omega))) | (with_reducible refine (hp_drew _ _).trans ?_) | (with_reducible refine (hp_drewN _ _ _).trans ?_))))
  have HX := Lib.hid (show w1.heap[w.heap.size + 1]? = some (.cells #[.bool false, .int .i64 0, .int .i64 0] 64) by rw [← hW]; (repeat (first | with_reducible assumption | (with_reducible refine hp_new _ _ _ ?_; focus (simp; done)) | (with_reducible refine (hp_old _ _ _ ?_).trans ?_; focus (first | omega | (simp; done) | (simp; omega))) | (with_reducible refine (hp_far _ _ _ _ ?_).trans ?_; focus (first | (simp; done) | (simp; omega))) | (with_reducible refine (hp_drew _ _).trans ?_) | (with_reducible refine (hp_drewN _ _ _).trans ?_))))
  clear hW
  refine (refHead_big A n c l w1 hn (HR.out.keep K1 (by simp))).mono ?_
  rintro e w2 ⟨rfl, K2⟩
  rw [HH.out]
  dsimp only
  have HF2 := Lib.hid (K2.heap HF.out (by simp))
  have HX2 := Lib.hid (K2.heap HX.out (by simp))
  have HK2 := Lib.hid (K1.trans K2)
  clear HF HX K1 K2
  obtain ⟨q0, q1, q2, q3, q4, q5, q6, q7, q8, q9, q10, q11, qz, qlt, qlt2⟩ := cellsF HF2.out
  have x0 := cell_of HX2.out 0
  have x1 := cell_of HX2.out 1
  have x2 := cell_of HX2.out 2
  have xz := frozen_of HX2.out
  go_wp2_with fail
  refine (rfault 6 _).mono ?_
  rintro e w3 ⟨rfl, K3⟩
  have HF3 := Lib.hid (K3.heap HF2.out (by simp))
  have HX3 := Lib.hid (K3.heap HX2.out (by simp))
  have HK3 := Lib.hid (HK2.out.trans K3)
  clear K3 HF2 HX2 HK2 q0 q1 q2 q3 q4 q5 q6 q7 q8 q9 q10 q11 qz qlt qlt2 x0 x1 x2 xz
  obtain ⟨q0, q1, q2, q3, q4, q5, q6, q7, q8, q9, q10, q11, qz, qlt, qlt2⟩ := cellsF HF3.out
  have x0 := cell_of HX3.out 0
  have x1 := cell_of HX3.out 1
  have x2 := cell_of HX3.out 2
  have xz := frozen_of HX3.out
  go_wp2
  generalize hW : World.setCell _ _ _ = W
  obtain ⟨HF9, HX9, K9⟩ : W.heap[w.heap.size]? = some (.cells #[.int .i64 0, .int .i64 0, .int .i64 0, .slice none 0 0, .int .i64 0, .int .u32 0, .int .i64 0, .int .i64 0, .int .i64 0, .bool false, .int .i64 0, .slice none 0 0] 49) ∧ W.heap[w.heap.size + 1]? = some (.cells #[.bool true, .int .i64 0, .int .i64 6] 64) ∧ Kp [w.heap.size, w.heap.size + 1] w3 W := by rw [← hW]; exact set15 (by omega) HF3.out HX3.out
  refine bodyPost_ret (v := .tuple #[.agg #[.int .i64 0, .int .i64 0, .int .i64 0, .slice none 0 0, .int .i64 0, .int .u32 0, .int .i64 0, .int .i64 0, .int .i64 0, .bool false, .int .i64 0, .slice none 0 0], .int .i64 9, .agg #[.bool true, .int .i64 0, .int .i64 6], .int .i64 0]) (by simp [results, Try.results101, go_sem, cell_of HF9, cell_of HX9]) rfl ⟨(⟨0, 0, 0, none, 0, 0, 0, 0, 0, 0, 0, false, 0, none, 0, 0⟩ : Fr), rfl, FrP.zero _ _, (HK3.out.then K9 (by simp))⟩
set_option maxHeartbeats 4000000 in
set_option maxRecDepth 100000 in
theorem rparseCut (A : Option Addr) (n c : Nat) (l : List UInt8) (most : Int) (w : World) (hr : Rd w A n c l) (hn : n ≤ 281474976710656) (hm : 0 ≤ most) (h9 : ¬ n < 9) (N : Nat) (hN : be (l.take 3) = N) (hb : ¬ most < (N : Int)) (hc : n < 9 + N) : Calls Try.prog 101 #[.slice A n c, .int .i64 most] w (ParseR (.no 0 3) w) := by
  have HR := Lib.hid hr
  have e := head_of (l := l) (by rw [hr.len]; exact h9)
  rw [hN] at e
  have HN2 := Lib.hid (show N < 16777216 by have := be_take_lt l 3; rw [hN] at this; have e3 : (256 : Nat) ^ 3 = 16777216 := by decide
                                            omega)
  obtain ⟨T, hT⟩ : ∃ T, (l.getD 3 0).toNat = T := ⟨_, rfl⟩
  obtain ⟨F, hF⟩ : ∃ F, (l.getD 4 0).toNat = F := ⟨_, rfl⟩
  obtain ⟨S, hS⟩ : ∃ S, be ((l.drop 5).take 4) % 2147483648 = S := ⟨_, rfl⟩
  rw [hT, hF, hS] at e
  have HH := Lib.hid e
  clear hr e hT hF hS hN
  go_enter Try.func101, Try.ntmps101
  go_wp2_with fail
  generalize hW : World.alloc _ _ = w1
  have K1 : Kp [] w w1 := by rw [← hW]; (repeat (first | with_reducible exact Kp.refl _ _ | with_reducible assumption | with_reducible refine Kp.alloc ?_ _ | with_reducible refine Kp.drew ?_ | with_reducible refine Kp.drewN ?_ _ | (with_reducible refine Kp.setL ?_ ?_ _; focus (simp; done)) | (with_reducible refine Kp.setR ?_ ?_ _; focus (simp; done)) | (with_reducible refine Kp.setR ?_ ?_ _; focus (simp; omega))))
  have HF := Lib.hid (show w1.heap[w.heap.size]? = some (.cells #[.int .i64 0, .int .i64 0, .int .i64 0, .slice none 0 0, .int .i64 0, .int .u32 0, .int .i64 0, .int .i64 0, .int .i64 0, .bool false, .int .i64 0, .slice none 0 0] 49) by rw [← hW]; (repeat (first | with_reducible assumption | (with_reducible refine hp_new _ _ _ ?_; focus (simp; done)) | (with_reducible refine (hp_old _ _ _ ?_).trans ?_; focus (first | omega | (simp; done) | (simp; omega))) | (with_reducible refine (hp_far _ _ _ _ ?_).trans ?_; focus (first | (simp; done) | (simp; omega))) | (with_reducible refine (hp_drew _ _).trans ?_) | (with_reducible refine (hp_drewN _ _ _).trans ?_))))
  have HX := Lib.hid (show w1.heap[w.heap.size + 1]? = some (.cells #[.bool false, .int .i64 0, .int .i64 0] 64) by rw [← hW]; (repeat (first | with_reducible assumption | (with_reducible refine hp_new _ _ _ ?_; focus (simp; done)) | (with_reducible refine (hp_old _ _ _ ?_).trans ?_; focus (first | omega | (simp; done) | (simp; omega))) | (with_reducible refine (hp_far _ _ _ _ ?_).trans ?_; focus (first | (simp; done) | (simp; omega))) | (with_reducible refine (hp_drew _ _).trans ?_) | (with_reducible refine (hp_drewN _ _ _).trans ?_))))
  clear hW
  refine (refHead_big A n c l w1 hn (HR.out.keep K1 (by simp))).mono ?_
  rintro e w2 ⟨rfl, K2⟩
  rw [HH.out]
  dsimp only
  have HF2 := Lib.hid (K2.heap HF.out (by simp))
  have HX2 := Lib.hid (K2.heap HX.out (by simp))
  have HK2 := Lib.hid (K1.trans K2)
  clear HF HX K1 K2
  obtain ⟨q0, q1, q2, q3, q4, q5, q6, q7, q8, q9, q10, q11, qz, qlt, qlt2⟩ := cellsF HF2.out
  have x0 := cell_of HX2.out 0
  have x1 := cell_of HX2.out 1
  have x2 := cell_of HX2.out 2
  have xz := frozen_of HX2.out
  have hN2 := HN2.out
  go_wp2
  generalize hW : World.setCell _ _ _ = W
  obtain ⟨HF9, HX9, K9⟩ : W.heap[w.heap.size]? = some (.cells #[.int .i64 0, .int .i64 0, .int .i64 0, .slice none 0 0, .int .i64 0, .int .u32 0, .int .i64 0, .int .i64 0, .int .i64 0, .bool false, .int .i64 0, .slice none 0 0] 49) ∧ W.heap[w.heap.size + 1]? = some (.cells #[.bool false, .int .i64 0, .int .i64 0] 64) ∧ Kp [w.heap.size, w.heap.size + 1] w2 W := by rw [← hW]; exact set15 (by omega) HF2.out HX2.out
  refine bodyPost_ret (v := .tuple #[.agg #[.int .i64 0, .int .i64 0, .int .i64 0, .slice none 0 0, .int .i64 0, .int .u32 0, .int .i64 0, .int .i64 0, .int .i64 0, .bool false, .int .i64 0, .slice none 0 0], .int .i64 0, .agg #[.bool false, .int .i64 0, .int .i64 0], .int .i64 3]) (by simp [results, Try.results101, go_sem, cell_of HF9, cell_of HX9]) rfl ⟨(⟨0, 0, 0, none, 0, 0, 0, 0, 0, 0, 0, false, 0, none, 0, 0⟩ : Fr), rfl, FrP.zero _ _, (HK2.out.then K9 (by simp))⟩
end Go.Proofs.Ytkmcakneceagpaa
