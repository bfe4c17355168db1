/- 'FrameShort', walked. -/
import Derived.Test.YtkmcakneceagpaaFrmLaw
import Derived.Test.YtkmcakneceagpaaSame7
set_option linter.unusedVariables false
set_option linter.unusedSimpArgs false
set_option linter.unusedSimpArgs false
namespace Go.Proofs.Ytkmcakneceagpaa
open Go.RowKit
set_option maxHeartbeats 4000000 in
set_option maxRecDepth 100000 in
theorem FrameShort_walk (f : Fr) (l : List UInt8) (ss : List (Int × Int)) (ct : Nat) (hct : ct < 65536) (w0 : World) (ok : WrOk w0 f l ss) :
    Calls Try.prog 26 #[.agg #[.int .i64 f.ty, .int .i64 f.fl, .int .i64 f.st, .slice f.pA f.pn f.pc, .int .i64 f.pad, .int .u32 f.code, .int .i64 f.last, .int .i64 f.inc, .int .i64 f.dep, .bool f.only, .int .i64 f.wt, .slice f.sA f.sn f.sc], .int .u16 ct] w0 (Yes w0) := by
  have HOK := Lib.hid ok
  clear ok
  obtain ⟨R2, hR⟩ : ∃ R, (wr (f.p l ss)).2 = R := ⟨_, rfl⟩
  have HR := Lib.hid hR
  by_cases h0 : R2 = 0
  · subst h0
    have hwl := wr_len hR
    have hcut := fun k hk => ps_cut (f.p l ss) hR k hk
    obtain ⟨x, hx⟩ : ∃ x, (wr (f.p l ss)).1 = x := ⟨_, rfl⟩
    rw [hx] at hwl hcut
    have HX := Lib.hid hx
    have HCUT := Lib.hid hcut
    have HWL := Lib.hid hwl
    have hbl := (wr_eq hR).2.1
    have hxl : 9 ≤ x.length := by omega
    have hxm : x.length < 16777225 := by omega
    clear hR hx hcut hwl hbl
    go_enter Try.func26, Try.ntmps26
    go_wp2_with fail
    generalize hW : World.alloc _ _ = w1
    have K1 : Kp [] w0 w1 := by rw [← hW]; (repeat (first | with_reducible exact Kp.refl _ _ | with_reducible assumption | with_reducible refine Kp.alloc ?_ _ | with_reducible refine Kp.drew ?_ | with_reducible refine Kp.drewN ?_ _ | (with_reducible refine Kp.setL ?_ ?_ _; focus (simp; done)) | (with_reducible refine Kp.setR ?_ ?_ _; focus (simp; done)) | (with_reducible refine Kp.setR ?_ ?_ _; focus (simp; omega))))
    clear hW
    refine (Write_any f l ss _ (HOK.out.kp K1)).mono ?_
    rintro e w2 ⟨A1, n1, c1, rfl, O, K2⟩
    rw [HX.out] at O
    rw [HR.out]
    have hn1 : x.length = n1 := by have := O.len; simpa using this
    subst hn1
    have HK2 := Lib.hid (K1.trans K2)
    have hcp := O.cap.1
    obtain ⟨g, rfl, hg1, hg2, hg3, hg4, hg5⟩ := O.of (by omega)
    have HRD := Lib.hid O.rd
    clear O K1 K2 hg3 hg4 hg5
    obtain ⟨k, hk⟩ : ∃ k : Nat, ct % x.length = k := ⟨_, rfl⟩
    have hk0 : k < x.length := by rw [← hk]; exact Nat.mod_lt _ (by omega)
    have hk1 : ((ct : Int).tmod (x.length : Int)) = (k : Int) := by rw [← hk]; simp [Int.tmod]
    have hk2 : ((ct : Int) % (x.length : Int)) = (k : Int) := by rw [← hk]; simp
    clear hk
    have hxz : ((x.length : Int) == 0) = false := beq_eq_false_iff_ne.2 (by omega)
    go_wp2_with fail
    have HPC := Lib.hid (HCUT.out k hk0)
    have hrk := HRD.out.sub 0 k (by omega) (by omega) (A' := some ⟨g, 0, none⟩) (by intro b' o' h1 h2; injection h1 with h1; injection h1 with h1 h3 _; rw [h1, ← h3])
    rw [Nat.sub_zero, Nat.sub_zero, List.drop_zero] at hrk
    refine (Parse_any (some ⟨g, 0, none⟩) k c1 _ 16777215 w2 hrk (by omega)).mono ?_
    rintro e w3 ⟨f2, rfl, hf2, K3⟩
    rw [HPC.out] at hf2 ⊢
    simp only [Pq.no] at hf2 ⊢
    have HK3 := Lib.hid (HK2.out.trans K3)
    have HF2 := Lib.hid hf2
    clear hf2 K3 hrk
    go_wp2_with fail
    refine (same07 f2 (⟨0, 0, 0, none, 0, 0, 0, 0, 0, 0, 0, false, 0, none, 0, 0⟩ : Fr) Fp.zero _ 0 _ (HF2.out.low (S := []) (base' := 0) (by (repeat (first | with_reducible exact Kp.refl _ _ | with_reducible assumption | with_reducible refine Kp.alloc ?_ _ | with_reducible refine Kp.drew ?_ | with_reducible refine Kp.drewN ?_ _ | (with_reducible refine Kp.setL ?_ ?_ _; focus (simp; done)) | (with_reducible refine Kp.setR ?_ ?_ _; focus (simp; done)) | (with_reducible refine Kp.setR ?_ ?_ _; focus (simp; omega))))) (by simp) (Nat.zero_le _)) (FrP.zero _ _) (by simp [Fp.zero])).mono ?_
    rintro e w4 ⟨rfl, K4⟩
    go_wp2_with fail
    refine (awake07 _).mono ?_
    rintro e w5 ⟨rfl, rfl⟩
    go_wp2
    go_ret
    exact ⟨rfl, HK3.out.trans (Kp.trans (by (repeat (first | with_reducible exact Kp.refl _ _ | with_reducible assumption | with_reducible refine Kp.alloc ?_ _ | with_reducible refine Kp.drew ?_ | with_reducible refine Kp.drewN ?_ _ | (with_reducible refine Kp.setL ?_ ?_ _; focus (simp; done)) | (with_reducible refine Kp.setR ?_ ?_ _; focus (simp; done)) | (with_reducible refine Kp.setR ?_ ?_ _; focus (simp; omega))))) K4)⟩
  · go_enter Try.func26, Try.ntmps26
    go_wp2_with fail
    generalize hW : World.alloc _ _ = w1
    have K1 : Kp [] w0 w1 := by rw [← hW]; (repeat (first | with_reducible exact Kp.refl _ _ | with_reducible assumption | with_reducible refine Kp.alloc ?_ _ | with_reducible refine Kp.drew ?_ | with_reducible refine Kp.drewN ?_ _ | (with_reducible refine Kp.setL ?_ ?_ _; focus (simp; done)) | (with_reducible refine Kp.setR ?_ ?_ _; focus (simp; done)) | (with_reducible refine Kp.setR ?_ ?_ _; focus (simp; omega))))
    clear hW
    refine (Write_any f l ss _ (HOK.out.kp K1)).mono ?_
    rintro e w2 ⟨A1, n1, c1, rfl, O, K2⟩
    rw [HR.out]
    clear hR
    have h0b : (R2 != 0) = true := by simpa using h0
    go_wp2_with fail
    refine (awake07 _).mono ?_
    rintro e w4 ⟨rfl, rfl⟩
    go_wp2
    go_ret
    exact ⟨rfl, K1.trans K2⟩
end Go.Proofs.Ytkmcakneceagpaa
