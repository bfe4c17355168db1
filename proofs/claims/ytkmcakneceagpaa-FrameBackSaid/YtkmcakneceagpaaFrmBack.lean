/- 'FrameBack', walked. -/
import Derived.Test.YtkmcakneceagpaaFrmLaw
set_option linter.unusedVariables false
set_option linter.unusedSimpArgs false
set_option linter.unusedSimpArgs false
namespace Go.Proofs.Ytkmcakneceagpaa
open Go.RowKit
theorem cano_pl (p : Fp) : (cano p).pl.length ≤ p.pl.length := by unfold cano; dsimp only; split <;> simp
theorem cano_ss (p : Fp) : (cano p).ss.length ≤ p.ss.length := by unfold cano; dsimp only; split <;> simp
theorem cano_code {p : Fp} (h : OkP p) : U32 (cano p).code := by unfold cano; dsimp only; split; exact ⟨h.c0, h.c1⟩; exact ⟨by omega, by omega⟩
theorem wr_empty {p : Fp} (h : ¬ (wr p).2 = 0) : (wr p).1 = [] := by
  unfold wr at h ⊢
  split
  · rename_i hg
    rw [if_pos hg] at h
    split
    · rename_i hl
      rw [if_pos hl] at h
      exact absurd rfl h
    · rfl
  · rfl
set_option maxHeartbeats 8000000 in
set_option maxRecDepth 100000 in
theorem FrameBack_walk (f : Fr) (l : List UInt8) (ss : List (Int × Int)) (A : Option Addr) (n c : Nat) (y : List UInt8) (w0 : World) (ok : WrOk w0 f l ss) (hy : Rd w0 A n c y) (hn : n ≤ 140737488351232) :
    Calls Try.prog 25 #[.agg #[.int .i64 f.ty, .int .i64 f.fl, .int .i64 f.st, .slice f.pA f.pn f.pc, .int .i64 f.pad, .int .u32 f.code, .int .i64 f.last, .int .i64 f.inc, .int .i64 f.dep, .bool f.only, .int .i64 f.wt, .slice f.sA f.sn f.sc], .slice A n c] w0 (Yes w0) := by
  obtain ⟨ty, fl, st, pA, pn, pc, pad, code, last, inc, dep, only, wt, sA, sn, sc⟩ := f
  have HOK := Lib.hid ok
  have HRD := Lib.hid ok.rd
  have HSD := Lib.hid ok.sd
  have HY := Lib.hid hy
  clear ok hy
  dsimp only at *
  obtain ⟨R2, hR⟩ : ∃ R, (wr (⟨ty, fl, st, l, pad, code, last, inc, dep, only, wt, ss⟩ : Fp)).2 = R := ⟨_, rfl⟩
  have HR := Lib.hid hR
  by_cases h0 : R2 = 0
  · subst h0
    have hwl := wr_len hR
    obtain ⟨hgd, hbl, _⟩ := wr_eq hR
    have okp : OkP (⟨ty, fl, st, l, pad, code, last, inc, dep, only, wt, ss⟩ : Fp) := ⟨HOK.out.code.1, HOK.out.code.2, fun s hs => by
      obtain ⟨j, hj, rfl⟩ := List.getElem_of_mem hs
      have := HSD.out.val j
      rwa [List.getD_eq_getElem?_getD, List.getElem?_eq_getElem hj] at this⟩
    have HPS := Lib.hid (ps_wr _ okp hR y)
    have HAG := Lib.hid (wr_cano _ hgd)
    have HCD := Lib.hid (cano_code okp)
    have HPL := Lib.hid (cano_pl (⟨ty, fl, st, l, pad, code, last, inc, dep, only, wt, ss⟩ : Fp))
    have HSL := Lib.hid (cano_ss (⟨ty, fl, st, l, pad, code, last, inc, dep, only, wt, ss⟩ : Fp))
    have HKN := Lib.hid (show known ty = true from (good_of hgd).1)
    obtain ⟨x, hx⟩ : ∃ x, (wr (⟨ty, fl, st, l, pad, code, last, inc, dep, only, wt, ss⟩ : Fp)).1 = x := ⟨_, rfl⟩
    rw [hx] at hwl HPS
    have HX := Lib.hid hx
    have HWL := Lib.hid hwl
    have hxl : 9 ≤ x.length := by omega
    have hxm : x.length < 16777225 := by omega
    clear hR hx hwl hbl hgd okp
    go_enter Try.func25, Try.ntmps25
    go_wp2_with fail
    generalize hW : World.alloc _ _ = w1
    have K1 : Kp [] w0 w1 := by rw [← hW]; (repeat (first | with_reducible exact Kp.refl _ _ | with_reducible assumption | with_reducible refine Kp.alloc ?_ _ | with_reducible refine Kp.drew ?_ | with_reducible refine Kp.drewN ?_ _ | (with_reducible refine Kp.setL ?_ ?_ _; focus (simp; done)) | (with_reducible refine Kp.setR ?_ ?_ _; focus (simp; done)) | (with_reducible refine Kp.setR ?_ ?_ _; focus (simp; omega))))
    have HB := Lib.hid (show w1.heap[w0.heap.size]? = some (.cells #[.int .i64 ty, .int .i64 fl, .int .i64 st, .slice pA pn pc, .int .i64 pad, .int .u32 code, .int .i64 last, .int .i64 inc, .int .i64 dep, .bool only, .int .i64 wt, .slice sA sn sc] 49) by rw [← hW]; (repeat (first | with_reducible assumption | (with_reducible refine hp_new _ _ _ ?_; focus (simp; done)) | (with_reducible refine (hp_old _ _ _ ?_).trans ?_; focus (first | omega | (simp; done) | (simp; omega))) | (with_reducible refine (hp_far _ _ _ _ ?_).trans ?_; focus (first | (simp; done) | (simp; omega))) | (with_reducible refine (hp_drew _ _).trans ?_) | (with_reducible refine (hp_drewN _ _ _).trans ?_))))
    clear hW
    refine (Write_any ⟨ty, fl, st, pA, pn, pc, pad, code, last, inc, dep, only, wt, sA, sn, sc⟩ l ss _ (HOK.out.kp K1)).mono ?_
    rintro e w2 ⟨A1, n1, c1, rfl, O, K2⟩
    have hx' : (wr ((⟨ty, fl, st, pA, pn, pc, pad, code, last, inc, dep, only, wt, sA, sn, sc⟩ : Fr).p l ss)).1 = x := HX.out
    have hr' : (wr ((⟨ty, fl, st, pA, pn, pc, pad, code, last, inc, dep, only, wt, sA, sn, sc⟩ : Fr).p l ss)).2 = 0 := HR.out
    rw [hx'] at O
    rw [hr']
    clear hx' hr'
    have hn1 : x.length = n1 := by have := O.len; simpa using this
    subst hn1
    have HO := Lib.hid O.rd
    have HB2 := Lib.hid (K2.heap HB.out (by simp))
    have HK2 := Lib.hid (K1.trans K2)
    clear O HB K1 K2
    go_wp2_with (with_reducible refine stopAt (o := ⟨some 28, _, _, _, _, _⟩) ?_)
    have k0 : Kp [] w2 (w2.alloc (.cells #[] 5)) := (Kp.refl _ _).alloc _
    refine Stop.go (wp_appB rfl _ _ 22 5 rfl Try.underlying22 Try.info5 w2.heap.size _ 0 0 [] rfl (Ow.empty w2 w2.heap.size 5 1 (Nat.le_refl _)) A1 x.length c1 x rfl (HO.out.keep k0 (by simp)) (by omega) (by simp) ?_)
    intro A3 n3 c3 l3 w3 hn3 hl3 O3 K3 hA3
    have HK3 := Lib.hid (k0.then K3 (by simp [ob]))
    have hs3 := HK3.out.size
    have hn3a : n3 ≤ x.length := by have := hn3.out; omega
    have hn3b : x.length ≤ n3 := by have := hn3.out; omega
    obtain rfl : l3 = x := by rw [hl3.out]; rfl
    clear hn3 hl3 K3 hA3 k0
    have HO3 := Lib.hid O3
    clear O3
    go_wp2_with (with_reducible refine stopAt (o := ⟨some 30, _, _, _, _, _⟩) ?_)
    refine Stop.go (wp_appB rfl _ _ 22 5 rfl Try.underlying22 Try.info5 w2.heap.size A3 n3 c3 l3 rfl HO3.out A n c y rfl (HY.out.keep (HK2.out.trans HK3.out) (by simp)) (by omega) hs3 ?_)
    intro A5 n5 c5 l5 w5 hn5 hl5 O5 K5 hA5
    have hb5 := HO3.out.base
    have HK5 := Lib.hid (HK3.out.then K5 (fun t ht => .inr (hb5 t ht).1))
    have hn5a : n5 ≤ n3 + n := Nat.le_of_eq hn5.out
    obtain rfl : l5 = l3 ++ y := hl5.out
    clear hn5 hl5 K5 hA5 HK3 hb5
    have HR5 := Lib.hid O5.rd
    clear O5 HO3
    have HB5 := Lib.hid (HK5.out.heap HB2.out (by simp))
    clear HB2
    obtain ⟨f_0, f_1, f_2, f_3, f_4, f_5, f_6, f_7, f_8, f_9, f_10, f_11, hltB, hltB1⟩ := cells12 HB5.out
    go_wp2_with fail
    refine (Parse_any A5 n5 c5 (l3 ++ y) 16777215 w5 HR5.out (by omega)).mono ?_
    rintro e w6 ⟨f2, rfl, hf2, K6⟩
    rw [HPS.out] at hf2 ⊢
    dsimp only at hf2 ⊢
    have HB6 := Lib.hid (K6.heap HB5.out (by simp))
    have HK6 := Lib.hid ((HK2.out.trans HK5.out).trans K6)
    have HO6 := Lib.hid (HO.out.keep (HK5.out.trans K6) (by simp))
    clear f_0 f_1 f_2 f_3 f_4 f_5 f_6 f_7 f_8 f_9 f_10 f_11 hltB hltB1 HB5 HK5 HR5 HO K6
    obtain ⟨f_0, f_1, f_2, f_3, f_4, f_5, f_6, f_7, f_8, f_9, f_10, f_11, hltB, hltB1⟩ := cells12 HB6.out
    have HE := hf2.cs
    have HEQ := hf2.eq
    have HQ := hf2.rd
    have HS2 := hf2.sd
    clear hf2
    obtain ⟨ty2, fl2, st2, qA, qn, qc, pad2, code2, last2, inc2, dep2, only2, wt2, qsA, qsn, qsc⟩ := f2
    dsimp only at *
    have e0 : ty2 = ty := HE.1
    have e1 : fl2 = fl := HE.2.1
    have e2 : st2 = st := HE.2.2.1
    subst e0 e1 e2
    have HE' := Lib.hid HE
    have HEQ' := Lib.hid HEQ
    have HQ' := Lib.hid HQ
    have HS2' := Lib.hid HS2
    clear HE HEQ HQ HS2
    have hu : (9 : Int) + ((bodyW (⟨ty2, fl2, st2, l, pad, code, last, inc, dep, only, wt, ss⟩ : Fp)).length : Int) = (l3.length : Int) := by have := HWL.out; omega
    rw [hu]
    clear hu
    go_wp2_with fail
    generalize hW : World.alloc _ _ = w7
    have K7 : Kp [] w6 w7 := by rw [← hW]; (repeat (first | with_reducible exact Kp.refl _ _ | with_reducible assumption | with_reducible refine Kp.alloc ?_ _ | with_reducible refine Kp.drew ?_ | with_reducible refine Kp.drewN ?_ _ | (with_reducible refine Kp.setL ?_ ?_ _; focus (simp; done)) | (with_reducible refine Kp.setR ?_ ?_ _; focus (simp; done)) | (with_reducible refine Kp.setR ?_ ?_ _; focus (simp; omega))))
    have HF7 := Lib.hid (show w7.heap[w6.heap.size]? = some (.cells #[.int .i64 ty2, .int .i64 fl2, .int .i64 st2, .slice qA qn qc, .int .i64 pad2, .int .u32 code2, .int .i64 last2, .int .i64 inc2, .int .i64 dep2, .bool only2, .int .i64 wt2, .slice qsA qsn qsc] 49) by rw [← hW]; (repeat (first | with_reducible assumption | (with_reducible refine hp_new _ _ _ ?_; focus (simp; done)) | (with_reducible refine (hp_old _ _ _ ?_).trans ?_; focus (first | omega | (simp; done) | (simp; omega))) | (with_reducible refine (hp_far _ _ _ _ ?_).trans ?_; focus (first | (simp; done) | (simp; omega))) | (with_reducible refine (hp_drew _ _).trans ?_) | (with_reducible refine (hp_drewN _ _ _).trans ?_))))
    clear hW f_0 f_1 f_2 f_3 f_4 f_5 f_6 f_7 f_8 f_9 f_10 f_11 hltB hltB1
    refine (Write_any ⟨ty2, fl2, st2, qA, qn, qc, pad2, code2, last2, inc2, dep2, only2, wt2, qsA, qsn, qsc⟩ (cano (⟨ty2, fl2, st2, l, pad, code, last, inc, dep, only, wt, ss⟩ : Fp)).pl (cano (⟨ty2, fl2, st2, l, pad, code, last, inc, dep, only, wt, ss⟩ : Fp)).ss w7 ⟨HQ'.out.keep K7 (by simp), by have h1 := HQ'.out.len; have h2 := HPL.out; have h3 := HRD.out.len; have h4 := HOK.out.pn; dsimp only at *; omega, by have h1 := HE'.out.2.2.2.2.1; have h2 := HCD.out; dsimp only at *; rw [h1]; exact h2, HS2'.out.keep K7 (by simp), by have h1 := HS2'.out.len; have h2 := HSL.out; have h3 := HSD.out.len; have h4 := HOK.out.sn; dsimp only at *; omega⟩).mono ?_
    rintro e w8 ⟨A8, n8, c8, rfl, O8, K8⟩
    have hw' : wr ((⟨ty2, fl2, st2, qA, qn, qc, pad2, code2, last2, inc2, dep2, only2, wt2, qsA, qsn, qsc⟩ : Fr).p (cano (⟨ty2, fl2, st2, l, pad, code, last, inc, dep, only, wt, ss⟩ : Fp)).pl (cano (⟨ty2, fl2, st2, l, pad, code, last, inc, dep, only, wt, ss⟩ : Fp)).ss) = wr (⟨ty2, fl2, st2, l, pad, code, last, inc, dep, only, wt, ss⟩ : Fp) := by rw [HEQ'.out, HAG.out]
    rw [hw', HX.out] at O8
    rw [hw', HR.out]
    clear hw'
    have K78 := K7.trans K8
    have HO8 := Lib.hid O8.rd
    have HL8 := Lib.hid (HO6.out.keep K78 (by simp))
    have HK8 := Lib.hid (HK6.out.trans K78)
    have HD8 := Lib.hid (HRD.out.keep HK8.out (by simp))
    have HB8 := Lib.hid (K78.heap HB6.out (by simp))
    have HF8 := Lib.hid (K8.heap HF7.out (by simp))
    clear O8 K7 K8 HF7 HB6 HO6 HK6
    obtain ⟨f_0, f_1, f_2, f_3, f_4, f_5, f_6, f_7, f_8, f_9, f_10, f_11, hltB, hltB1⟩ := cells12 HB8.out
    obtain ⟨g_0, g_1, g_2, g_3, g_4, g_5, g_6, g_7, g_8, g_9, g_10, g_11, hltF, hltF1⟩ := cells12 HF8.out
    rcases known_cs HKN.out with hty | hty | hty | hty | hty | hty | hty | hty | hty | hty
    · subst hty
      have HE := HE'.out
      have HQ := HQ'.out
      have HS2 := HS2'.out
      have hpl : (cano (⟨0, fl2, st2, l, pad, code, last, inc, dep, only, wt, ss⟩ : Fp)).pl = l := by simp [cano]
      rw [hpl] at HQ
      have HQ2 := Lib.hid (HQ.keep K78 (by simp))
      clear HQ HS2 HE hpl K78
      go_wp2_with (with_reducible refine stopAt (o := ⟨some 78, _, _, _, _, _⟩) ?_)
      refine Stop.go (wpList_strG rfl rfl rfl (by rfl) 22 5 9 _ rfl Try.underlying22 Try.underlying5 Try.underlying9 rfl (HO8.out.keep (S := []) (by (repeat (first | with_reducible exact Kp.refl _ _ | with_reducible assumption | with_reducible refine Kp.alloc ?_ _ | with_reducible refine Kp.drew ?_ | with_reducible refine Kp.drewN ?_ _ | (with_reducible refine Kp.setL ?_ ?_ _; focus (simp; done)) | (with_reducible refine Kp.setR ?_ ?_ _; focus (simp; done)) | (with_reducible refine Kp.setR ?_ ?_ _; focus (simp; omega))))) (by simp)) ?_)
      go_wp2_with (with_reducible refine stopAt (o := ⟨some 80, _, _, _, _, _⟩) ?_)
      refine Stop.go (wpList_strG rfl rfl rfl (by rfl) 22 5 9 _ rfl Try.underlying22 Try.underlying5 Try.underlying9 rfl (HL8.out.keep (S := []) (by (repeat (first | with_reducible exact Kp.refl _ _ | with_reducible assumption | with_reducible refine Kp.alloc ?_ _ | with_reducible refine Kp.drew ?_ | with_reducible refine Kp.drewN ?_ _ | (with_reducible refine Kp.setL ?_ ?_ _; focus (simp; done)) | (with_reducible refine Kp.setR ?_ ?_ _; focus (simp; done)) | (with_reducible refine Kp.setR ?_ ?_ _; focus (simp; omega))))) (by simp)) ?_)
      go_wp2_with (with_reducible refine stopAt (o := ⟨some 93, _, _, _, _, _⟩) ?_)
      refine Stop.go (wpList_str rfl 22 5 9 _ rfl Try.underlying22 Try.underlying5 Try.underlying9 rfl (HQ2.out.keep (S := []) (by (repeat (first | with_reducible exact Kp.refl _ _ | with_reducible assumption | with_reducible refine Kp.alloc ?_ _ | with_reducible refine Kp.drew ?_ | with_reducible refine Kp.drewN ?_ _ | (with_reducible refine Kp.setL ?_ ?_ _; focus (simp; done)) | (with_reducible refine Kp.setR ?_ ?_ _; focus (simp; done)) | (with_reducible refine Kp.setR ?_ ?_ _; focus (simp; omega))))) (by simp)) ?_)
      go_wp2_with (with_reducible refine stopAt (o := ⟨some 96, _, _, _, _, _⟩) ?_)
      refine Stop.go (wpList_str rfl 22 5 9 _ rfl Try.underlying22 Try.underlying5 Try.underlying9 rfl (HD8.out.keep (S := []) (by (repeat (first | with_reducible exact Kp.refl _ _ | with_reducible assumption | with_reducible refine Kp.alloc ?_ _ | with_reducible refine Kp.drew ?_ | with_reducible refine Kp.drewN ?_ _ | (with_reducible refine Kp.setL ?_ ?_ _; focus (simp; done)) | (with_reducible refine Kp.setR ?_ ?_ _; focus (simp; done)) | (with_reducible refine Kp.setR ?_ ?_ _; focus (simp; omega))))) (by simp)) ?_)
      go_wp2
      go_ret
      exact ⟨by simp, HK8.out.trans (by (repeat (first | with_reducible exact Kp.refl _ _ | with_reducible assumption | with_reducible refine Kp.alloc ?_ _ | with_reducible refine Kp.drew ?_ | with_reducible refine Kp.drewN ?_ _ | (with_reducible refine Kp.setL ?_ ?_ _; focus (simp; done)) | (with_reducible refine Kp.setR ?_ ?_ _; focus (simp; done)) | (with_reducible refine Kp.setR ?_ ?_ _; focus (simp; omega)))))⟩
    · subst hty
      have HE := HE'.out
      have HQ := HQ'.out
      have HS2 := HS2'.out
      have hpl : (cano (⟨1, fl2, st2, l, pad, code, last, inc, dep, only, wt, ss⟩ : Fp)).pl = l := by simp [cano]
      rw [hpl] at HQ
      have HQ2 := Lib.hid (HQ.keep K78 (by simp))
      clear HQ HS2 HE hpl K78
      go_wp2_with (with_reducible refine stopAt (o := ⟨some 78, _, _, _, _, _⟩) ?_)
      refine Stop.go (wpList_strG rfl rfl rfl (by rfl) 22 5 9 _ rfl Try.underlying22 Try.underlying5 Try.underlying9 rfl (HO8.out.keep (S := []) (by (repeat (first | with_reducible exact Kp.refl _ _ | with_reducible assumption | with_reducible refine Kp.alloc ?_ _ | with_reducible refine Kp.drew ?_ | with_reducible refine Kp.drewN ?_ _ | (with_reducible refine Kp.setL ?_ ?_ _; focus (simp; done)) | (with_reducible refine Kp.setR ?_ ?_ _; focus (simp; done)) | (with_reducible refine Kp.setR ?_ ?_ _; focus (simp; omega))))) (by simp)) ?_)
      go_wp2_with (with_reducible refine stopAt (o := ⟨some 80, _, _, _, _, _⟩) ?_)
      refine Stop.go (wpList_strG rfl rfl rfl (by rfl) 22 5 9 _ rfl Try.underlying22 Try.underlying5 Try.underlying9 rfl (HL8.out.keep (S := []) (by (repeat (first | with_reducible exact Kp.refl _ _ | with_reducible assumption | with_reducible refine Kp.alloc ?_ _ | with_reducible refine Kp.drew ?_ | with_reducible refine Kp.drewN ?_ _ | (with_reducible refine Kp.setL ?_ ?_ _; focus (simp; done)) | (with_reducible refine Kp.setR ?_ ?_ _; focus (simp; done)) | (with_reducible refine Kp.setR ?_ ?_ _; focus (simp; omega))))) (by simp)) ?_)
      go_wp2_with (with_reducible refine stopAt (o := ⟨some 93, _, _, _, _, _⟩) ?_)
      refine Stop.go (wpList_str rfl 22 5 9 _ rfl Try.underlying22 Try.underlying5 Try.underlying9 rfl (HQ2.out.keep (S := []) (by (repeat (first | with_reducible exact Kp.refl _ _ | with_reducible assumption | with_reducible refine Kp.alloc ?_ _ | with_reducible refine Kp.drew ?_ | with_reducible refine Kp.drewN ?_ _ | (with_reducible refine Kp.setL ?_ ?_ _; focus (simp; done)) | (with_reducible refine Kp.setR ?_ ?_ _; focus (simp; done)) | (with_reducible refine Kp.setR ?_ ?_ _; focus (simp; omega))))) (by simp)) ?_)
      go_wp2_with (with_reducible refine stopAt (o := ⟨some 96, _, _, _, _, _⟩) ?_)
      refine Stop.go (wpList_str rfl 22 5 9 _ rfl Try.underlying22 Try.underlying5 Try.underlying9 rfl (HD8.out.keep (S := []) (by (repeat (first | with_reducible exact Kp.refl _ _ | with_reducible assumption | with_reducible refine Kp.alloc ?_ _ | with_reducible refine Kp.drew ?_ | with_reducible refine Kp.drewN ?_ _ | (with_reducible refine Kp.setL ?_ ?_ _; focus (simp; done)) | (with_reducible refine Kp.setR ?_ ?_ _; focus (simp; done)) | (with_reducible refine Kp.setR ?_ ?_ _; focus (simp; omega))))) (by simp)) ?_)
      go_wp2
      go_ret
      exact ⟨by simp, HK8.out.trans (by (repeat (first | with_reducible exact Kp.refl _ _ | with_reducible assumption | with_reducible refine Kp.alloc ?_ _ | with_reducible refine Kp.drew ?_ | with_reducible refine Kp.drewN ?_ _ | (with_reducible refine Kp.setL ?_ ?_ _; focus (simp; done)) | (with_reducible refine Kp.setR ?_ ?_ _; focus (simp; done)) | (with_reducible refine Kp.setR ?_ ?_ _; focus (simp; omega)))))⟩
    · subst hty
      have HE := HE'.out
      have HQ := HQ'.out
      have HS2 := HS2'.out
      clear HQ HS2 HE K78
      rcases bcase3 ((qsn : Int) == (sn : Int)) with hq1 | hq1
      · go_wp2_with (with_reducible refine stopAt (o := ⟨some 78, _, _, _, _, _⟩) ?_)
        refine Stop.go (wpList_strG rfl rfl rfl (by rfl) 22 5 9 _ rfl Try.underlying22 Try.underlying5 Try.underlying9 rfl (HO8.out.keep (S := []) (by (repeat (first | with_reducible exact Kp.refl _ _ | with_reducible assumption | with_reducible refine Kp.alloc ?_ _ | with_reducible refine Kp.drew ?_ | with_reducible refine Kp.drewN ?_ _ | (with_reducible refine Kp.setL ?_ ?_ _; focus (simp; done)) | (with_reducible refine Kp.setR ?_ ?_ _; focus (simp; done)) | (with_reducible refine Kp.setR ?_ ?_ _; focus (simp; omega))))) (by simp)) ?_)
        go_wp2_with (with_reducible refine stopAt (o := ⟨some 80, _, _, _, _, _⟩) ?_)
        refine Stop.go (wpList_strG rfl rfl rfl (by rfl) 22 5 9 _ rfl Try.underlying22 Try.underlying5 Try.underlying9 rfl (HL8.out.keep (S := []) (by (repeat (first | with_reducible exact Kp.refl _ _ | with_reducible assumption | with_reducible refine Kp.alloc ?_ _ | with_reducible refine Kp.drew ?_ | with_reducible refine Kp.drewN ?_ _ | (with_reducible refine Kp.setL ?_ ?_ _; focus (simp; done)) | (with_reducible refine Kp.setR ?_ ?_ _; focus (simp; done)) | (with_reducible refine Kp.setR ?_ ?_ _; focus (simp; omega))))) (by simp)) ?_)
        go_wp2
        go_ret
        exact ⟨by simp, HK8.out.trans (by (repeat (first | with_reducible exact Kp.refl _ _ | with_reducible assumption | with_reducible refine Kp.alloc ?_ _ | with_reducible refine Kp.drew ?_ | with_reducible refine Kp.drewN ?_ _ | (with_reducible refine Kp.setL ?_ ?_ _; focus (simp; done)) | (with_reducible refine Kp.setR ?_ ?_ _; focus (simp; done)) | (with_reducible refine Kp.setR ?_ ?_ _; focus (simp; omega)))))⟩
      · go_wp2_with (with_reducible refine stopAt (o := ⟨some 78, _, _, _, _, _⟩) ?_)
        refine Stop.go (wpList_strG rfl rfl rfl (by rfl) 22 5 9 _ rfl Try.underlying22 Try.underlying5 Try.underlying9 rfl (HO8.out.keep (S := []) (by (repeat (first | with_reducible exact Kp.refl _ _ | with_reducible assumption | with_reducible refine Kp.alloc ?_ _ | with_reducible refine Kp.drew ?_ | with_reducible refine Kp.drewN ?_ _ | (with_reducible refine Kp.setL ?_ ?_ _; focus (simp; done)) | (with_reducible refine Kp.setR ?_ ?_ _; focus (simp; done)) | (with_reducible refine Kp.setR ?_ ?_ _; focus (simp; omega))))) (by simp)) ?_)
        go_wp2_with (with_reducible refine stopAt (o := ⟨some 80, _, _, _, _, _⟩) ?_)
        refine Stop.go (wpList_strG rfl rfl rfl (by rfl) 22 5 9 _ rfl Try.underlying22 Try.underlying5 Try.underlying9 rfl (HL8.out.keep (S := []) (by (repeat (first | with_reducible exact Kp.refl _ _ | with_reducible assumption | with_reducible refine Kp.alloc ?_ _ | with_reducible refine Kp.drew ?_ | with_reducible refine Kp.drewN ?_ _ | (with_reducible refine Kp.setL ?_ ?_ _; focus (simp; done)) | (with_reducible refine Kp.setR ?_ ?_ _; focus (simp; done)) | (with_reducible refine Kp.setR ?_ ?_ _; focus (simp; omega))))) (by simp)) ?_)
        go_wp2
        go_ret
        exact ⟨by simp, HK8.out.trans (by (repeat (first | with_reducible exact Kp.refl _ _ | with_reducible assumption | with_reducible refine Kp.alloc ?_ _ | with_reducible refine Kp.drew ?_ | with_reducible refine Kp.drewN ?_ _ | (with_reducible refine Kp.setL ?_ ?_ _; focus (simp; done)) | (with_reducible refine Kp.setR ?_ ?_ _; focus (simp; done)) | (with_reducible refine Kp.setR ?_ ?_ _; focus (simp; omega)))))⟩
    · subst hty
      have HE := HE'.out
      have HQ := HQ'.out
      have HS2 := HS2'.out
      have hcd : code2 = code := by simpa [cano] using HE.2.2.2.2.1
      subst hcd
      clear HQ HS2 HE K78
      go_wp2_with (with_reducible refine stopAt (o := ⟨some 78, _, _, _, _, _⟩) ?_)
      refine Stop.go (wpList_strG rfl rfl rfl (by rfl) 22 5 9 _ rfl Try.underlying22 Try.underlying5 Try.underlying9 rfl (HO8.out.keep (S := []) (by (repeat (first | with_reducible exact Kp.refl _ _ | with_reducible assumption | with_reducible refine Kp.alloc ?_ _ | with_reducible refine Kp.drew ?_ | with_reducible refine Kp.drewN ?_ _ | (with_reducible refine Kp.setL ?_ ?_ _; focus (simp; done)) | (with_reducible refine Kp.setR ?_ ?_ _; focus (simp; done)) | (with_reducible refine Kp.setR ?_ ?_ _; focus (simp; omega))))) (by simp)) ?_)
      go_wp2_with (with_reducible refine stopAt (o := ⟨some 80, _, _, _, _, _⟩) ?_)
      refine Stop.go (wpList_strG rfl rfl rfl (by rfl) 22 5 9 _ rfl Try.underlying22 Try.underlying5 Try.underlying9 rfl (HL8.out.keep (S := []) (by (repeat (first | with_reducible exact Kp.refl _ _ | with_reducible assumption | with_reducible refine Kp.alloc ?_ _ | with_reducible refine Kp.drew ?_ | with_reducible refine Kp.drewN ?_ _ | (with_reducible refine Kp.setL ?_ ?_ _; focus (simp; done)) | (with_reducible refine Kp.setR ?_ ?_ _; focus (simp; done)) | (with_reducible refine Kp.setR ?_ ?_ _; focus (simp; omega))))) (by simp)) ?_)
      go_wp2
      go_ret
      exact ⟨by simp, HK8.out.trans (by (repeat (first | with_reducible exact Kp.refl _ _ | with_reducible assumption | with_reducible refine Kp.alloc ?_ _ | with_reducible refine Kp.drew ?_ | with_reducible refine Kp.drewN ?_ _ | (with_reducible refine Kp.setL ?_ ?_ _; focus (simp; done)) | (with_reducible refine Kp.setR ?_ ?_ _; focus (simp; done)) | (with_reducible refine Kp.setR ?_ ?_ _; focus (simp; omega)))))⟩
    · subst hty
      have HE := HE'.out
      have HQ := HQ'.out
      have HS2 := HS2'.out
      have hq : qsn = sn := by have h1 := HS2.len; have h2 := HSD.out.len; simp [cano] at h1; omega
      subst hq
      clear HQ HS2 HE K78
      go_wp2_with (with_reducible refine stopAt (o := ⟨some 78, _, _, _, _, _⟩) ?_)
      refine Stop.go (wpList_strG rfl rfl rfl (by rfl) 22 5 9 _ rfl Try.underlying22 Try.underlying5 Try.underlying9 rfl (HO8.out.keep (S := []) (by (repeat (first | with_reducible exact Kp.refl _ _ | with_reducible assumption | with_reducible refine Kp.alloc ?_ _ | with_reducible refine Kp.drew ?_ | with_reducible refine Kp.drewN ?_ _ | (with_reducible refine Kp.setL ?_ ?_ _; focus (simp; done)) | (with_reducible refine Kp.setR ?_ ?_ _; focus (simp; done)) | (with_reducible refine Kp.setR ?_ ?_ _; focus (simp; omega))))) (by simp)) ?_)
      go_wp2_with (with_reducible refine stopAt (o := ⟨some 80, _, _, _, _, _⟩) ?_)
      refine Stop.go (wpList_strG rfl rfl rfl (by rfl) 22 5 9 _ rfl Try.underlying22 Try.underlying5 Try.underlying9 rfl (HL8.out.keep (S := []) (by (repeat (first | with_reducible exact Kp.refl _ _ | with_reducible assumption | with_reducible refine Kp.alloc ?_ _ | with_reducible refine Kp.drew ?_ | with_reducible refine Kp.drewN ?_ _ | (with_reducible refine Kp.setL ?_ ?_ _; focus (simp; done)) | (with_reducible refine Kp.setR ?_ ?_ _; focus (simp; done)) | (with_reducible refine Kp.setR ?_ ?_ _; focus (simp; omega))))) (by simp)) ?_)
      go_wp2
      go_ret
      exact ⟨by simp, HK8.out.trans (by (repeat (first | with_reducible exact Kp.refl _ _ | with_reducible assumption | with_reducible refine Kp.alloc ?_ _ | with_reducible refine Kp.drew ?_ | with_reducible refine Kp.drewN ?_ _ | (with_reducible refine Kp.setL ?_ ?_ _; focus (simp; done)) | (with_reducible refine Kp.setR ?_ ?_ _; focus (simp; done)) | (with_reducible refine Kp.setR ?_ ?_ _; focus (simp; omega)))))⟩
    · subst hty
      have HE := HE'.out
      have HQ := HQ'.out
      have HS2 := HS2'.out
      clear HQ HS2 HE K78
      rcases bcase3 ((qsn : Int) == (sn : Int)) with hq1 | hq1
      · go_wp2_with (with_reducible refine stopAt (o := ⟨some 78, _, _, _, _, _⟩) ?_)
        refine Stop.go (wpList_strG rfl rfl rfl (by rfl) 22 5 9 _ rfl Try.underlying22 Try.underlying5 Try.underlying9 rfl (HO8.out.keep (S := []) (by (repeat (first | with_reducible exact Kp.refl _ _ | with_reducible assumption | with_reducible refine Kp.alloc ?_ _ | with_reducible refine Kp.drew ?_ | with_reducible refine Kp.drewN ?_ _ | (with_reducible refine Kp.setL ?_ ?_ _; focus (simp; done)) | (with_reducible refine Kp.setR ?_ ?_ _; focus (simp; done)) | (with_reducible refine Kp.setR ?_ ?_ _; focus (simp; omega))))) (by simp)) ?_)
        go_wp2_with (with_reducible refine stopAt (o := ⟨some 80, _, _, _, _, _⟩) ?_)
        refine Stop.go (wpList_strG rfl rfl rfl (by rfl) 22 5 9 _ rfl Try.underlying22 Try.underlying5 Try.underlying9 rfl (HL8.out.keep (S := []) (by (repeat (first | with_reducible exact Kp.refl _ _ | with_reducible assumption | with_reducible refine Kp.alloc ?_ _ | with_reducible refine Kp.drew ?_ | with_reducible refine Kp.drewN ?_ _ | (with_reducible refine Kp.setL ?_ ?_ _; focus (simp; done)) | (with_reducible refine Kp.setR ?_ ?_ _; focus (simp; done)) | (with_reducible refine Kp.setR ?_ ?_ _; focus (simp; omega))))) (by simp)) ?_)
        go_wp2
        go_ret
        exact ⟨by simp, HK8.out.trans (by (repeat (first | with_reducible exact Kp.refl _ _ | with_reducible assumption | with_reducible refine Kp.alloc ?_ _ | with_reducible refine Kp.drew ?_ | with_reducible refine Kp.drewN ?_ _ | (with_reducible refine Kp.setL ?_ ?_ _; focus (simp; done)) | (with_reducible refine Kp.setR ?_ ?_ _; focus (simp; done)) | (with_reducible refine Kp.setR ?_ ?_ _; focus (simp; omega)))))⟩
      · go_wp2_with (with_reducible refine stopAt (o := ⟨some 78, _, _, _, _, _⟩) ?_)
        refine Stop.go (wpList_strG rfl rfl rfl (by rfl) 22 5 9 _ rfl Try.underlying22 Try.underlying5 Try.underlying9 rfl (HO8.out.keep (S := []) (by (repeat (first | with_reducible exact Kp.refl _ _ | with_reducible assumption | with_reducible refine Kp.alloc ?_ _ | with_reducible refine Kp.drew ?_ | with_reducible refine Kp.drewN ?_ _ | (with_reducible refine Kp.setL ?_ ?_ _; focus (simp; done)) | (with_reducible refine Kp.setR ?_ ?_ _; focus (simp; done)) | (with_reducible refine Kp.setR ?_ ?_ _; focus (simp; omega))))) (by simp)) ?_)
        go_wp2_with (with_reducible refine stopAt (o := ⟨some 80, _, _, _, _, _⟩) ?_)
        refine Stop.go (wpList_strG rfl rfl rfl (by rfl) 22 5 9 _ rfl Try.underlying22 Try.underlying5 Try.underlying9 rfl (HL8.out.keep (S := []) (by (repeat (first | with_reducible exact Kp.refl _ _ | with_reducible assumption | with_reducible refine Kp.alloc ?_ _ | with_reducible refine Kp.drew ?_ | with_reducible refine Kp.drewN ?_ _ | (with_reducible refine Kp.setL ?_ ?_ _; focus (simp; done)) | (with_reducible refine Kp.setR ?_ ?_ _; focus (simp; done)) | (with_reducible refine Kp.setR ?_ ?_ _; focus (simp; omega))))) (by simp)) ?_)
        go_wp2
        go_ret
        exact ⟨by simp, HK8.out.trans (by (repeat (first | with_reducible exact Kp.refl _ _ | with_reducible assumption | with_reducible refine Kp.alloc ?_ _ | with_reducible refine Kp.drew ?_ | with_reducible refine Kp.drewN ?_ _ | (with_reducible refine Kp.setL ?_ ?_ _; focus (simp; done)) | (with_reducible refine Kp.setR ?_ ?_ _; focus (simp; done)) | (with_reducible refine Kp.setR ?_ ?_ _; focus (simp; omega)))))⟩
    · subst hty
      have HE := HE'.out
      have HQ := HQ'.out
      have HS2 := HS2'.out
      have hpl : (cano (⟨6, fl2, st2, l, pad, code, last, inc, dep, only, wt, ss⟩ : Fp)).pl = l := by simp [cano]
      rw [hpl] at HQ
      have HQ2 := Lib.hid (HQ.keep K78 (by simp))
      clear HQ HS2 HE hpl K78
      go_wp2_with (with_reducible refine stopAt (o := ⟨some 78, _, _, _, _, _⟩) ?_)
      refine Stop.go (wpList_strG rfl rfl rfl (by rfl) 22 5 9 _ rfl Try.underlying22 Try.underlying5 Try.underlying9 rfl (HO8.out.keep (S := []) (by (repeat (first | with_reducible exact Kp.refl _ _ | with_reducible assumption | with_reducible refine Kp.alloc ?_ _ | with_reducible refine Kp.drew ?_ | with_reducible refine Kp.drewN ?_ _ | (with_reducible refine Kp.setL ?_ ?_ _; focus (simp; done)) | (with_reducible refine Kp.setR ?_ ?_ _; focus (simp; done)) | (with_reducible refine Kp.setR ?_ ?_ _; focus (simp; omega))))) (by simp)) ?_)
      go_wp2_with (with_reducible refine stopAt (o := ⟨some 80, _, _, _, _, _⟩) ?_)
      refine Stop.go (wpList_strG rfl rfl rfl (by rfl) 22 5 9 _ rfl Try.underlying22 Try.underlying5 Try.underlying9 rfl (HL8.out.keep (S := []) (by (repeat (first | with_reducible exact Kp.refl _ _ | with_reducible assumption | with_reducible refine Kp.alloc ?_ _ | with_reducible refine Kp.drew ?_ | with_reducible refine Kp.drewN ?_ _ | (with_reducible refine Kp.setL ?_ ?_ _; focus (simp; done)) | (with_reducible refine Kp.setR ?_ ?_ _; focus (simp; done)) | (with_reducible refine Kp.setR ?_ ?_ _; focus (simp; omega))))) (by simp)) ?_)
      go_wp2_with (with_reducible refine stopAt (o := ⟨some 93, _, _, _, _, _⟩) ?_)
      refine Stop.go (wpList_str rfl 22 5 9 _ rfl Try.underlying22 Try.underlying5 Try.underlying9 rfl (HQ2.out.keep (S := []) (by (repeat (first | with_reducible exact Kp.refl _ _ | with_reducible assumption | with_reducible refine Kp.alloc ?_ _ | with_reducible refine Kp.drew ?_ | with_reducible refine Kp.drewN ?_ _ | (with_reducible refine Kp.setL ?_ ?_ _; focus (simp; done)) | (with_reducible refine Kp.setR ?_ ?_ _; focus (simp; done)) | (with_reducible refine Kp.setR ?_ ?_ _; focus (simp; omega))))) (by simp)) ?_)
      go_wp2_with (with_reducible refine stopAt (o := ⟨some 96, _, _, _, _, _⟩) ?_)
      refine Stop.go (wpList_str rfl 22 5 9 _ rfl Try.underlying22 Try.underlying5 Try.underlying9 rfl (HD8.out.keep (S := []) (by (repeat (first | with_reducible exact Kp.refl _ _ | with_reducible assumption | with_reducible refine Kp.alloc ?_ _ | with_reducible refine Kp.drew ?_ | with_reducible refine Kp.drewN ?_ _ | (with_reducible refine Kp.setL ?_ ?_ _; focus (simp; done)) | (with_reducible refine Kp.setR ?_ ?_ _; focus (simp; done)) | (with_reducible refine Kp.setR ?_ ?_ _; focus (simp; omega))))) (by simp)) ?_)
      go_wp2
      go_ret
      exact ⟨by simp, HK8.out.trans (by (repeat (first | with_reducible exact Kp.refl _ _ | with_reducible assumption | with_reducible refine Kp.alloc ?_ _ | with_reducible refine Kp.drew ?_ | with_reducible refine Kp.drewN ?_ _ | (with_reducible refine Kp.setL ?_ ?_ _; focus (simp; done)) | (with_reducible refine Kp.setR ?_ ?_ _; focus (simp; done)) | (with_reducible refine Kp.setR ?_ ?_ _; focus (simp; omega)))))⟩
    · subst hty
      have HE := HE'.out
      have HQ := HQ'.out
      have HS2 := HS2'.out
      have hpl : (cano (⟨7, fl2, st2, l, pad, code, last, inc, dep, only, wt, ss⟩ : Fp)).pl = l := by simp [cano]
      rw [hpl] at HQ
      have HQ2 := Lib.hid (HQ.keep K78 (by simp))
      clear HQ HS2 HE hpl K78
      go_wp2_with (with_reducible refine stopAt (o := ⟨some 78, _, _, _, _, _⟩) ?_)
      refine Stop.go (wpList_strG rfl rfl rfl (by rfl) 22 5 9 _ rfl Try.underlying22 Try.underlying5 Try.underlying9 rfl (HO8.out.keep (S := []) (by (repeat (first | with_reducible exact Kp.refl _ _ | with_reducible assumption | with_reducible refine Kp.alloc ?_ _ | with_reducible refine Kp.drew ?_ | with_reducible refine Kp.drewN ?_ _ | (with_reducible refine Kp.setL ?_ ?_ _; focus (simp; done)) | (with_reducible refine Kp.setR ?_ ?_ _; focus (simp; done)) | (with_reducible refine Kp.setR ?_ ?_ _; focus (simp; omega))))) (by simp)) ?_)
      go_wp2_with (with_reducible refine stopAt (o := ⟨some 80, _, _, _, _, _⟩) ?_)
      refine Stop.go (wpList_strG rfl rfl rfl (by rfl) 22 5 9 _ rfl Try.underlying22 Try.underlying5 Try.underlying9 rfl (HL8.out.keep (S := []) (by (repeat (first | with_reducible exact Kp.refl _ _ | with_reducible assumption | with_reducible refine Kp.alloc ?_ _ | with_reducible refine Kp.drew ?_ | with_reducible refine Kp.drewN ?_ _ | (with_reducible refine Kp.setL ?_ ?_ _; focus (simp; done)) | (with_reducible refine Kp.setR ?_ ?_ _; focus (simp; done)) | (with_reducible refine Kp.setR ?_ ?_ _; focus (simp; omega))))) (by simp)) ?_)
      go_wp2_with (with_reducible refine stopAt (o := ⟨some 93, _, _, _, _, _⟩) ?_)
      refine Stop.go (wpList_str rfl 22 5 9 _ rfl Try.underlying22 Try.underlying5 Try.underlying9 rfl (HQ2.out.keep (S := []) (by (repeat (first | with_reducible exact Kp.refl _ _ | with_reducible assumption | with_reducible refine Kp.alloc ?_ _ | with_reducible refine Kp.drew ?_ | with_reducible refine Kp.drewN ?_ _ | (with_reducible refine Kp.setL ?_ ?_ _; focus (simp; done)) | (with_reducible refine Kp.setR ?_ ?_ _; focus (simp; done)) | (with_reducible refine Kp.setR ?_ ?_ _; focus (simp; omega))))) (by simp)) ?_)
      go_wp2_with (with_reducible refine stopAt (o := ⟨some 96, _, _, _, _, _⟩) ?_)
      refine Stop.go (wpList_str rfl 22 5 9 _ rfl Try.underlying22 Try.underlying5 Try.underlying9 rfl (HD8.out.keep (S := []) (by (repeat (first | with_reducible exact Kp.refl _ _ | with_reducible assumption | with_reducible refine Kp.alloc ?_ _ | with_reducible refine Kp.drew ?_ | with_reducible refine Kp.drewN ?_ _ | (with_reducible refine Kp.setL ?_ ?_ _; focus (simp; done)) | (with_reducible refine Kp.setR ?_ ?_ _; focus (simp; done)) | (with_reducible refine Kp.setR ?_ ?_ _; focus (simp; omega))))) (by simp)) ?_)
      go_wp2
      go_ret
      exact ⟨by simp, HK8.out.trans (by (repeat (first | with_reducible exact Kp.refl _ _ | with_reducible assumption | with_reducible refine Kp.alloc ?_ _ | with_reducible refine Kp.drew ?_ | with_reducible refine Kp.drewN ?_ _ | (with_reducible refine Kp.setL ?_ ?_ _; focus (simp; done)) | (with_reducible refine Kp.setR ?_ ?_ _; focus (simp; done)) | (with_reducible refine Kp.setR ?_ ?_ _; focus (simp; omega)))))⟩
    · subst hty
      have HE := HE'.out
      have HQ := HQ'.out
      have HS2 := HS2'.out
      have hcd : inc2 = inc := by simpa [cano] using HE.2.2.2.2.2.2.1
      subst hcd
      clear HQ HS2 HE K78
      go_wp2_with (with_reducible refine stopAt (o := ⟨some 78, _, _, _, _, _⟩) ?_)
      refine Stop.go (wpList_strG rfl rfl rfl (by rfl) 22 5 9 _ rfl Try.underlying22 Try.underlying5 Try.underlying9 rfl (HO8.out.keep (S := []) (by (repeat (first | with_reducible exact Kp.refl _ _ | with_reducible assumption | with_reducible refine Kp.alloc ?_ _ | with_reducible refine Kp.drew ?_ | with_reducible refine Kp.drewN ?_ _ | (with_reducible refine Kp.setL ?_ ?_ _; focus (simp; done)) | (with_reducible refine Kp.setR ?_ ?_ _; focus (simp; done)) | (with_reducible refine Kp.setR ?_ ?_ _; focus (simp; omega))))) (by simp)) ?_)
      go_wp2_with (with_reducible refine stopAt (o := ⟨some 80, _, _, _, _, _⟩) ?_)
      refine Stop.go (wpList_strG rfl rfl rfl (by rfl) 22 5 9 _ rfl Try.underlying22 Try.underlying5 Try.underlying9 rfl (HL8.out.keep (S := []) (by (repeat (first | with_reducible exact Kp.refl _ _ | with_reducible assumption | with_reducible refine Kp.alloc ?_ _ | with_reducible refine Kp.drew ?_ | with_reducible refine Kp.drewN ?_ _ | (with_reducible refine Kp.setL ?_ ?_ _; focus (simp; done)) | (with_reducible refine Kp.setR ?_ ?_ _; focus (simp; done)) | (with_reducible refine Kp.setR ?_ ?_ _; focus (simp; omega))))) (by simp)) ?_)
      go_wp2
      go_ret
      exact ⟨by simp, HK8.out.trans (by (repeat (first | with_reducible exact Kp.refl _ _ | with_reducible assumption | with_reducible refine Kp.alloc ?_ _ | with_reducible refine Kp.drew ?_ | with_reducible refine Kp.drewN ?_ _ | (with_reducible refine Kp.setL ?_ ?_ _; focus (simp; done)) | (with_reducible refine Kp.setR ?_ ?_ _; focus (simp; done)) | (with_reducible refine Kp.setR ?_ ?_ _; focus (simp; omega)))))⟩
    · subst hty
      have HE := HE'.out
      have HQ := HQ'.out
      have HS2 := HS2'.out
      have hpl : (cano (⟨9, fl2, st2, l, pad, code, last, inc, dep, only, wt, ss⟩ : Fp)).pl = l := by simp [cano]
      rw [hpl] at HQ
      have HQ2 := Lib.hid (HQ.keep K78 (by simp))
      clear HQ HS2 HE hpl K78
      go_wp2_with (with_reducible refine stopAt (o := ⟨some 78, _, _, _, _, _⟩) ?_)
      refine Stop.go (wpList_strG rfl rfl rfl (by rfl) 22 5 9 _ rfl Try.underlying22 Try.underlying5 Try.underlying9 rfl (HO8.out.keep (S := []) (by (repeat (first | with_reducible exact Kp.refl _ _ | with_reducible assumption | with_reducible refine Kp.alloc ?_ _ | with_reducible refine Kp.drew ?_ | with_reducible refine Kp.drewN ?_ _ | (with_reducible refine Kp.setL ?_ ?_ _; focus (simp; done)) | (with_reducible refine Kp.setR ?_ ?_ _; focus (simp; done)) | (with_reducible refine Kp.setR ?_ ?_ _; focus (simp; omega))))) (by simp)) ?_)
      go_wp2_with (with_reducible refine stopAt (o := ⟨some 80, _, _, _, _, _⟩) ?_)
      refine Stop.go (wpList_strG rfl rfl rfl (by rfl) 22 5 9 _ rfl Try.underlying22 Try.underlying5 Try.underlying9 rfl (HL8.out.keep (S := []) (by (repeat (first | with_reducible exact Kp.refl _ _ | with_reducible assumption | with_reducible refine Kp.alloc ?_ _ | with_reducible refine Kp.drew ?_ | with_reducible refine Kp.drewN ?_ _ | (with_reducible refine Kp.setL ?_ ?_ _; focus (simp; done)) | (with_reducible refine Kp.setR ?_ ?_ _; focus (simp; done)) | (with_reducible refine Kp.setR ?_ ?_ _; focus (simp; omega))))) (by simp)) ?_)
      go_wp2_with (with_reducible refine stopAt (o := ⟨some 93, _, _, _, _, _⟩) ?_)
      refine Stop.go (wpList_str rfl 22 5 9 _ rfl Try.underlying22 Try.underlying5 Try.underlying9 rfl (HQ2.out.keep (S := []) (by (repeat (first | with_reducible exact Kp.refl _ _ | with_reducible assumption | with_reducible refine Kp.alloc ?_ _ | with_reducible refine Kp.drew ?_ | with_reducible refine Kp.drewN ?_ _ | (with_reducible refine Kp.setL ?_ ?_ _; focus (simp; done)) | (with_reducible refine Kp.setR ?_ ?_ _; focus (simp; done)) | (with_reducible refine Kp.setR ?_ ?_ _; focus (simp; omega))))) (by simp)) ?_)
      go_wp2_with (with_reducible refine stopAt (o := ⟨some 96, _, _, _, _, _⟩) ?_)
      refine Stop.go (wpList_str rfl 22 5 9 _ rfl Try.underlying22 Try.underlying5 Try.underlying9 rfl (HD8.out.keep (S := []) (by (repeat (first | with_reducible exact Kp.refl _ _ | with_reducible assumption | with_reducible refine Kp.alloc ?_ _ | with_reducible refine Kp.drew ?_ | with_reducible refine Kp.drewN ?_ _ | (with_reducible refine Kp.setL ?_ ?_ _; focus (simp; done)) | (with_reducible refine Kp.setR ?_ ?_ _; focus (simp; done)) | (with_reducible refine Kp.setR ?_ ?_ _; focus (simp; omega))))) (by simp)) ?_)
      go_wp2
      go_ret
      exact ⟨by simp, HK8.out.trans (by (repeat (first | with_reducible exact Kp.refl _ _ | with_reducible assumption | with_reducible refine Kp.alloc ?_ _ | with_reducible refine Kp.drew ?_ | with_reducible refine Kp.drewN ?_ _ | (with_reducible refine Kp.setL ?_ ?_ _; focus (simp; done)) | (with_reducible refine Kp.setR ?_ ?_ _; focus (simp; done)) | (with_reducible refine Kp.setR ?_ ?_ _; focus (simp; omega)))))⟩
  · go_enter Try.func25, Try.ntmps25
    go_wp2_with fail
    generalize hW : World.alloc _ _ = w1
    have K1 : Kp [] w0 w1 := by rw [← hW]; (repeat (first | with_reducible exact Kp.refl _ _ | with_reducible assumption | with_reducible refine Kp.alloc ?_ _ | with_reducible refine Kp.drew ?_ | with_reducible refine Kp.drewN ?_ _ | (with_reducible refine Kp.setL ?_ ?_ _; focus (simp; done)) | (with_reducible refine Kp.setR ?_ ?_ _; focus (simp; done)) | (with_reducible refine Kp.setR ?_ ?_ _; focus (simp; omega))))
    clear hW
    refine (Write_any ⟨ty, fl, st, pA, pn, pc, pad, code, last, inc, dep, only, wt, sA, sn, sc⟩ l ss _ (HOK.out.kp K1)).mono ?_
    rintro e w2 ⟨A1, n1, c1, rfl, O, K2⟩
    have hbad : (wr ((⟨ty, fl, st, pA, pn, pc, pad, code, last, inc, dep, only, wt, sA, sn, sc⟩ : Fr).p l ss)).1 = [] := wr_empty (by rw [show (wr ((⟨ty, fl, st, pA, pn, pc, pad, code, last, inc, dep, only, wt, sA, sn, sc⟩ : Fr).p l ss)).2 = R2 from HR.out]; exact h0)
    rw [hbad] at O
    rw [show (wr ((⟨ty, fl, st, pA, pn, pc, pad, code, last, inc, dep, only, wt, sA, sn, sc⟩ : Fr).p l ss)).2 = R2 from HR.out]
    obtain rfl : n1 = 0 := by have := O.len; simpa using this.symm
    clear hR O hbad
    have h0b : (R2 != 0) = true := by simpa using h0
    go_wp2_with fail
    refine (awake07 _).mono ?_
    rintro e w4 ⟨rfl, rfl⟩
    go_wp2
    go_ret
    exact ⟨rfl, K1.trans K2⟩
end Go.Proofs.Ytkmcakneceagpaa
