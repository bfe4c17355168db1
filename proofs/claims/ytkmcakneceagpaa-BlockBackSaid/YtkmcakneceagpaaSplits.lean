/- The words of layer 12's laws: awake, same; 'BlockSplits', walked. -/
import Derived.Test.YtkmcakneceagpaaRSplit
import Derived.StillTailTactics
set_option linter.unusedVariables false
set_option linter.unusedSimpArgs false
set_option linter.unusedSimpArgs false
namespace Go.Proofs.Ytkmcakneceagpaa
open Go.RowKit

theorem wpList_strQ {P : Program} {o : Oper} {a : Act} {w : World} {Q : Exit → Act → World → Prop} {ops : Array Oper} {rest : List Oper} {gi : Nat} {gb : Bool} {og : Oper} {gd : Nat} (hgd : o.guard = some (gi, gb)) (hog : ops[gi]? = some og) (hod : og.dst = some gd) (hv : a.tmps[gd]? = some (.bool gb)) (src e dst : TypeId) (x : Operand) (ho : o.op = .convert src dst x) (hs : P.underlying src = some (.slice e)) (he : P.underlying e = some (.int .u8)) (hd : P.underlying dst = some .string)
    {A : Option Addr} {n c : Nat} {l : List UInt8} (hx : a.eval x = .slice A n c) (hr : Rd w A n c l) (h : wpList P ops Q rest (a.put o.dst (.string (sb l))) w) : wpList P ops Q (o :: rest) a w := by
  refine wpList_step (fun K hK => ?_)
  refine want_yes hgd hog hod hv ?_
  exact wp_str src e dst x ho hs he hd hx hr (hK _ _ h)

set_option maxRecDepth 100000 in
set_option maxHeartbeats 1000000 in
theorem SameT (f g : Fr) (l : List UInt8) (w0 : World) (h0 : f.ty = g.ty) (h1 : f.fl = g.fl) (h2 : f.st = g.st) (hf : Rd w0 f.pA f.pn f.pc l) (hg : Rd w0 g.pA g.pn g.pc l) :
    Calls Try.prog 46 #[.agg #[.int .i64 f.ty, .int .i64 f.fl, .int .i64 f.st, .slice f.pA f.pn f.pc, .int .i64 f.pad, .int .u32 f.code, .int .i64 f.last, .int .i64 f.inc, .int .i64 f.dep, .bool f.only, .int .i64 f.wt, .slice f.sA f.sn f.sc], .agg #[.int .i64 g.ty, .int .i64 g.fl, .int .i64 g.st, .slice g.pA g.pn g.pc, .int .i64 g.pad, .int .u32 g.code, .int .i64 g.last, .int .i64 g.inc, .int .i64 g.dep, .bool g.only, .int .i64 g.wt, .slice g.sA g.sn g.sc]] w0 (Yes w0) := by
  have HF := Lib.hid hf
  have HG := Lib.hid hg
  obtain ⟨gty, gfl, gst, gpA, gpn, gpc, gpad, gcode, glast, ginc, gdep, gonly, gwt, gsA, gsn, gsc⟩ := g
  simp only at h0 h1 h2
  subst h0 h1 h2
  clear hf hg
  go_enter Try.func46, Try.ntmps46
  go_wp2_with (with_reducible refine stopAt (o := ⟨some 27, _, _, _, _, _⟩) ?_)
  refine Stop.go (wpList_strQ rfl rfl rfl (by rfl) 22 5 9 _ rfl Try.underlying22 Try.underlying5 Try.underlying9 rfl (HF.out.keep (S := []) (by (repeat (first | with_reducible exact Kp.refl _ _ | with_reducible assumption | with_reducible refine Kp.alloc ?_ _ | with_reducible refine Kp.drew ?_ | with_reducible refine Kp.drewN ?_ _ | (with_reducible refine Kp.setL ?_ ?_ _; focus (simp; done)) | (with_reducible refine Kp.setR ?_ ?_ _; focus (simp; done)) | (with_reducible refine Kp.setR ?_ ?_ _; focus (simp; omega))))) (by simp)) ?_)
  go_wp2_with (with_reducible refine stopAt (o := ⟨some 30, _, _, _, _, _⟩) ?_)
  refine Stop.go (wpList_strQ rfl rfl rfl (by rfl) 22 5 9 _ rfl Try.underlying22 Try.underlying5 Try.underlying9 rfl (HG.out.keep (S := []) (by (repeat (first | with_reducible exact Kp.refl _ _ | with_reducible assumption | with_reducible refine Kp.alloc ?_ _ | with_reducible refine Kp.drew ?_ | with_reducible refine Kp.drewN ?_ _ | (with_reducible refine Kp.setL ?_ ?_ _; focus (simp; done)) | (with_reducible refine Kp.setR ?_ ?_ _; focus (simp; done)) | (with_reducible refine Kp.setR ?_ ?_ _; focus (simp; omega))))) (by simp)) ?_)
  go_wp2
  go_ret
  exact ⟨rfl, by (repeat (first | with_reducible exact Kp.refl _ _ | with_reducible assumption | with_reducible refine Kp.alloc ?_ _ | with_reducible refine Kp.drew ?_ | with_reducible refine Kp.drewN ?_ _ | (with_reducible refine Kp.setL ?_ ?_ _; focus (simp; done)) | (with_reducible refine Kp.setR ?_ ?_ _; focus (simp; done)) | (with_reducible refine Kp.setR ?_ ?_ _; focus (simp; omega))))⟩

set_option maxRecDepth 100000 in
set_option maxHeartbeats 1000000 in
theorem Awake (w0 : World) : Calls Try.prog 43 #[] w0 (Yes w0) := by
  go_enter Try.func43, Try.ntmps43
  go_wp2_with fail
  refine (SplitOk 1 (by omega) none 0 0 [] true 5 (by omega) (by omega) w0 (Rd.nil _ _ _) (by omega) (by simp) (by omega)).mono ?_
  rintro e w1 ⟨AL, nL, cL, fs, rfl, hn, F, hk, K⟩
  obtain rfl : nL = 1 := hn
  obtain ⟨g, p, rfl, hg, hp, _, hc⟩ := F.cell 0 (by omega)
  have hfl := (hk 0 p hp).fl
  have hc1 := hc 1 _ rfl
  rw [hfl] at hc1
  simp [cutsN] at hc1
  have hcap := F.ow.cap.1
  clear hc F hk hp
  go_wp2
  go_ret
  exact ⟨rfl, K⟩

set_option maxRecDepth 100000 in
set_option maxHeartbeats 2000000 in
theorem BlockSplits_walk (st : Int) (hi : I64 st) (A : Option Addr) (n c : Nat) (b : List UInt8) (en : Bool) (most : Int) (hmi : I64 most) (w0 : World) (hr : Rd w0 A n c b) (hn : n ≤ 140737488351232) (hlt : 0 < n → ∀ x, x ∈ ob A → x < w0.heap.size) :
    Calls Try.prog 5 #[.int .i64 st, .slice A n c, .bool en, .int .i64 most] w0 (Yes w0) := by
  have HR := Lib.hid hr
  have HLT := Lib.hid hlt
  have hrc := hr.cap
  clear hr hlt
  have awake : ∀ w, Kp [] w0 w → Calls Try.prog 43 #[] w (Yes w0) := fun w k => (Awake w).mono (fun e w' h => ⟨h.1, k.trans h.2⟩)
  by_cases hm : 1 ≤ most
  · obtain ⟨M, rfl⟩ : ∃ M : Nat, most = (M : Int) := ⟨most.toNat, by omega⟩
    have hM : 1 ≤ M := by omega
    have hM2 : M ≤ 9223372036854775807 := by have := hmi.2; omega
    have hM0 : ¬ (M : Int) = 0 := by omega
    obtain ⟨q, hq⟩ : ∃ q : Nat, n / M = q := ⟨_, rfl⟩
    have hq1 : ((n : Int).tdiv (M : Int)) = (q : Int) := by rw [← hq]; simp [Int.tdiv]
    have hq2 : ((n : Int) / (M : Int)) = (q : Int) := by rw [← hq]; simp
    have hq3 : q ≤ n := by rw [← hq]; exact Nat.div_le_self _ _
    clear hmi
    by_cases hfew : q ≤ 5000
    · have hfew' : (q : Int) ≤ 5000 := by omega
      by_cases hst : 1 ≤ st ∧ st ≤ 2147483647
      · go_enter Try.func5, Try.ntmps5
        go_wp2_with (with_reducible refine stopAt (o := ⟨some 28, _, _, _, _, _⟩) ?_)
        refine Stop.go (wp_appB rfl _ _ 22 5 rfl Try.underlying22 Try.info5 w0.heap.size (some ⟨w0.heap.size, 0, none⟩) 0 0 [] rfl (Ow.empty _ _ _ _ (Nat.le_refl _)) A n c b rfl (HR.out.keep (S := []) ((Kp.refl _ _).alloc _) (by simp)) (by omega) (by simp) ?_)
        intro A3 k3 c3 l3 w3 hk3 hl3 O3 K3 hA3
        have K4 : Kp [] w0 w3 := ((Kp.refl _ _).alloc _).then K3 (by simp [ob])
        have e1 : k3 = n := by have := hk3.out; omega
        have e2 : l3 = b := by rw [hl3.out]; rfl
        have HO3 := Lib.hid O3
        clear K3 hk3 hl3 O3 hA3
        subst e1 e2
        go_wp2_with fail
        refine (SplitOk st hst A3 k3 c3 l3 en M hM hM2 w3 HO3.out.rd hn (fun hp x hx => (HO3.out.base x hx).2) (by omega)).mono ?_
        rintro e w4 ⟨AL, nL, cL, fs, rfl, hnL, F, hkey, K5⟩
        have HF := Lib.hid F
        have HKF := Lib.hid hkey
        have HNL := Lib.hid hnL
        have HK5 := Lib.hid (K4.trans K5)
        have hcL := F.ow.cap.1
        have hnL5 : nL ≤ 5001 := by have : cutsN M k3 ≤ 5000 := Nat.le_trans (Nat.div_le_div_right (Nat.sub_le _ _)) (by omega); omega
        clear F hkey hnL K4 K5
        go_wp2_with fail
        refine (RSplitOk st hst A k3 c l3 en M hM hM2 w4 (HR.out.keep HK5.out (by simp)) hn (fun hp x hx => by have h1 := HLT.out hp x hx; have h2 := HK5.out.size; omega) (by omega)).mono ?_
        rintro e w5 ⟨AM, nM, cM, gs, rfl, hnM, G, hkeyG, K6⟩
        obtain rfl : nM = nL := by have := HNL.out; omega
        have F5 := HF.out.keep K6 (by simp)
        have K7 := HK5.out.trans K6
        have HKG := Lib.hid hkeyG
        have hcM := G.ow.cap.1
        generalize hb1 : w3.heap.size = b1 at F5
        generalize hb2 : w4.heap.size = b2 at F5 G
        generalize hb3 : w5.heap.size = b3 at G
        have HI : Hid (FrL w5 b1 b2 AL nM cL fs ∧ FrL w5 b2 b3 AM nM cM gs ∧ Kp [] w0 w5) := ⟨F5, G, K7⟩
        clear hkeyG F5 G K6 K7 hnM hb1 hb2 hb3 HF HK5 HO3
        go_wp2
        go_loopw [13] (fun i wr => ∃ k : Nat, k ≤ nM ∧ i = .int .i64 k ∧ FrL wr b1 b2 AL nM cL fs ∧ FrL wr b2 b3 AM nM cM gs ∧ Kp [] w0 wr) (fun i _ => nM - (intOf i).toNat)
        case atStart => exact ⟨0, Nat.zero_le _, rfl, HI.out.1, HI.out.2.1, HI.out.2.2⟩
        case round =>
          obtain ⟨k, hk, rfl, F, G, K⟩ := hrel
          by_cases hkl : k < nM
          · obtain ⟨g, p, rfl, hg, hp, hpm, hc⟩ := F.cell k hkl
            obtain ⟨g', p', rfl, hg', hp', hpm', hc'⟩ := G.cell k hkl
            have h1 := HKF.out k p hp
            have h2 := HKG.out k p' hp'
            have HC := Lib.hid (And.intro (h1.ty.trans h2.ty.symm) (And.intro (h1.fl.trans h2.fl.symm) (h1.st.trans h2.st.symm)))
            have HR1 := (F.pl p hpm).1
            have HR2 := (G.pl p' hpm').1
            have hpl : p'.2 = p.2 := h2.pl.trans h1.pl.symm
            rw [hpl] at HR2
            obtain ⟨f1, l1⟩ := p
            obtain ⟨f2, l2⟩ := p'
            dsimp only at hc hc' HC HR1 HR2
            have c0 := hc 0 _ rfl
            have d0 := hc' 0 _ rfl
            have c1 := hc 1 _ rfl
            have d1 := hc' 1 _ rfl
            have c2 := hc 2 _ rfl
            have d2 := hc' 2 _ rfl
            have c3 := hc 3 _ rfl
            have d3 := hc' 3 _ rfl
            have c4 := hc 4 _ rfl
            have d4 := hc' 4 _ rfl
            have c5 := hc 5 _ rfl
            have d5 := hc' 5 _ rfl
            have c6 := hc 6 _ rfl
            have d6 := hc' 6 _ rfl
            have c7 := hc 7 _ rfl
            have d7 := hc' 7 _ rfl
            have c8 := hc 8 _ rfl
            have d8 := hc' 8 _ rfl
            have c9 := hc 9 _ rfl
            have d9 := hc' 9 _ rfl
            have c10 := hc 10 _ rfl
            have d10 := hc' 10 _ rfl
            have c11 := hc 11 _ rfl
            have d11 := hc' 11 _ rfl
            rw [Nat.add_zero] at c0 d0
            have HR1 := Lib.hid HR1
            have HR2 := Lib.hid HR2
            have HF := Lib.hid F
            have HG := Lib.hid G
            have HK := Lib.hid K
            clear hc hc' F G K hp hp' hpm hpm' h1 h2 hpl
            have hki : (k : Int) < (nM : Int) := by omega
            go_wp2
            go_still_tail 8, (by kernel_rfl)
            change wpList _ _ _ _ _ wr.drew
            have K1 : Kp [] wr wr.drew := (Kp.refl _ _).drew
            have HF1 := Lib.hid (HF.out.keep K1 (by simp))
            have HG1 := Lib.hid (HG.out.keep K1 (by simp))
            have HK1 := Lib.hid (HK.out.trans K1)
            have R1 := Lib.hid (HR1.out.keep K1 (by simp))
            have R2 := Lib.hid (HR2.out.keep K1 (by simp))
            clear HR1 HR2 HF HG HK K1 c0 d0 c1 d1 c2 d2 c3 d3 c4 d4 c5 d5 c6 d6 c7 d7 c8 d8 c9 d9 c10 d10 c11 d11
            generalize wr.drew = w6 at *
            go_wp2_with fail
            refine (SameT f1 f2 l1 w6 HC.out.1 HC.out.2.1 HC.out.2.2 R1.out R2.out).mono ?_
            rintro e w7 ⟨rfl, K8⟩
            go_wp2
            go_roundw
            case rel => exact ⟨k + 1, by omega, by go_num, HF1.out.keep K8 (by simp), HG1.out.keep K8 (by simp), HK1.out.trans K8⟩
            case measure => simp [intOf]; omega
          · have hki : ¬ (k : Int) < (nM : Int) := by omega
            go_wp2_with fail
            refine (awake _ K).mono ?_
            rintro e w6 ⟨rfl, k6⟩
            go_wp2
            go_ret
            exact ⟨rfl, k6⟩
      · have hbad : st < 1 ∨ 2147483647 < st ∨ (M : Int) < 1 := by omega
        go_enter Try.func5, Try.ntmps5
        go_wp2_with (with_reducible refine stopAt (o := ⟨some 28, _, _, _, _, _⟩) ?_)
        refine Stop.go (wp_appB rfl _ _ 22 5 rfl Try.underlying22 Try.info5 w0.heap.size (some ⟨w0.heap.size, 0, none⟩) 0 0 [] rfl (Ow.empty _ _ _ _ (Nat.le_refl _)) A n c b rfl (HR.out.keep (S := []) ((Kp.refl _ _).alloc _) (by simp)) (by omega) (by simp) ?_)
        intro A3 k3 c3 l3 w3 hk3 hl3 O3 K3 hA3
        have K4 : Kp [] w0 w3 := ((Kp.refl _ _).alloc _).then K3 (by simp [ob])
        have e1 : k3 = n := by have := hk3.out; omega
        have e2 : l3 = b := by rw [hl3.out]; rfl
        have HO3 := Lib.hid O3
        clear K3 hk3 hl3 O3 hA3
        subst e1 e2
        go_wp2_with fail
        refine (SplitBad _ _ hbad _ _ _ _ _).mono ?_
        rintro e w4 ⟨rfl, rfl⟩
        go_wp2_with fail
        refine (RSplitBad _ _ hbad _ _ _ _ _).mono ?_
        rintro e w5 ⟨rfl, rfl⟩
        go_wp2
        go_loopw [13] (fun i wr => i = .int .i64 0 ∧ Kp [] w0 wr) (fun _ _ => 0)
        case atStart => exact ⟨rfl, K4⟩
        case round =>
          obtain ⟨rfl, k5⟩ := hrel
          go_wp2_with fail
          refine (awake _ k5).mono ?_
          rintro e w6 ⟨rfl, k6⟩
          go_wp2
          go_ret
          exact ⟨rfl, k6⟩
    · have hfew' : ¬ (q : Int) ≤ 5000 := by omega
      go_enter Try.func5, Try.ntmps5
      go_wp2_with fail
      refine (awake _ (by (repeat (first | with_reducible exact Kp.refl _ _ | with_reducible assumption | with_reducible refine Kp.alloc ?_ _ | with_reducible refine Kp.drew ?_ | with_reducible refine Kp.drewN ?_ _ | (with_reducible refine Kp.setL ?_ ?_ _; focus (simp; done)) | (with_reducible refine Kp.setR ?_ ?_ _; focus (simp; done)) | (with_reducible refine Kp.setR ?_ ?_ _; focus (simp; omega)))))).mono ?_
      rintro e w1 ⟨rfl, k1⟩
      go_wp2
      go_ret
      exact ⟨rfl, k1⟩
  · have hbad : st < 1 ∨ 2147483647 < st ∨ most < 1 := by omega
    go_enter Try.func5, Try.ntmps5
    go_wp2_with (with_reducible refine stopAt (o := ⟨some 28, _, _, _, _, _⟩) ?_)
    refine Stop.go (wp_appB rfl _ _ 22 5 rfl Try.underlying22 Try.info5 w0.heap.size (some ⟨w0.heap.size, 0, none⟩) 0 0 [] rfl (Ow.empty _ _ _ _ (Nat.le_refl _)) A n c b rfl (HR.out.keep (S := []) ((Kp.refl _ _).alloc _) (by simp)) (by omega) (by simp) ?_)
    intro A3 k3 c3 l3 w3 hk3 hl3 O3 K3 hA3
    have K4 : Kp [] w0 w3 := ((Kp.refl _ _).alloc _).then K3 (by simp [ob])
    have e1 : k3 = n := by have := hk3.out; omega
    have e2 : l3 = b := by rw [hl3.out]; rfl
    have HO3 := Lib.hid O3
    clear K3 hk3 hl3 O3 hA3
    subst e1 e2
    go_wp2_with fail
    refine (SplitBad _ _ hbad _ _ _ _ _).mono ?_
    rintro e w4 ⟨rfl, rfl⟩
    go_wp2_with fail
    refine (RSplitBad _ _ hbad _ _ _ _ _).mono ?_
    rintro e w5 ⟨rfl, rfl⟩
    go_wp2
    go_loopw [13] (fun i wr => i = .int .i64 0 ∧ Kp [] w0 wr) (fun _ _ => 0)
    case atStart => exact ⟨rfl, K4⟩
    case round =>
      obtain ⟨rfl, k5⟩ := hrel
      go_wp2_with fail
      refine (awake _ k5).mono ?_
      rintro e w6 ⟨rfl, k6⟩
      go_wp2
      go_ret
      exact ⟨rfl, k6⟩
end Go.Proofs.Ytkmcakneceagpaa
