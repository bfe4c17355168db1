/- frame.Write, whole. -/
import Derived.Test.YtkmcakneceagpaaFrmWrA
import Derived.Test.YtkmcakneceagpaaFrmWrB
import Derived.Test.YtkmcakneceagpaaFrmWrC
import Derived.Test.YtkmcakneceagpaaFrmWrD
import Derived.Test.YtkmcakneceagpaaFrmWrF
import Derived.Test.YtkmcakneceagpaaFrmWrG
import Derived.Test.YtkmcakneceagpaaFrmWrH
import Derived.Test.YtkmcakneceagpaaFrmWrI
import Derived.Test.YtkmcakneceagpaaFrmWrJ
import Derived.Test.YtkmcakneceagpaaFrmWrK
set_option linter.unusedVariables false
set_option linter.unusedSimpArgs false
set_option linter.unusedSimpArgs false
namespace Go.Proofs.Ytkmcakneceagpaa
open Go.RowKit
theorem bcase2 (b : Bool) : b = false ∨ b = true := by cases b <;> simp
theorem known_of {n : Int} (h : known n = true) : n = 0 ∨ n = 1 ∨ n = 2 ∨ n = 3 ∨ n = 4 ∨ n = 5 ∨ n = 6 ∨ n = 7 ∨ n = 8 ∨ n = 9 := by
  simp [known] at h
  omega
theorem knownB_eq (n : Int) : knownB n = known n := rfl
set_option maxRecDepth 100000 in
theorem write_known (f : Fr) (l : List UInt8) (ss : List (Int × Int)) (w : World) (ok : WrOk w f l ss) (hkn : known f.ty = true) (hfl0 : 0 ≤ f.fl) (hfl1 : f.fl ≤ 255) (hst : idB f.st = true) :
    Calls Try.prog 98 #[.agg #[.int .i64 f.ty, .int .i64 f.fl, .int .i64 f.st, .slice f.pA f.pn f.pc, .int .i64 f.pad, .int .u32 f.code, .int .i64 f.last, .int .i64 f.inc, .int .i64 f.dep, .bool f.only, .int .i64 f.wt, .slice f.sA f.sn f.sc]] w (OwE 5 (wr (f.p l ss)).1 (wr (f.p l ss)).2 w) := by
  rcases known_of hkn with hty | hty | hty | hty | hty | hty | hty | hty | hty | hty
  · cases h8 : hasB f.fl 8
    · exact write0f f l ss w ok hty hfl0 hfl1 hst h8
    · exact write0t f l ss w ok hty hfl0 hfl1 hst h8
  · cases h8 : hasB f.fl 8 <;> cases h32 : hasB f.fl 32
    · exact write1ff f l ss w ok hty hfl0 hfl1 hst h8 h32
    · cases hg : goodW (f.p l ss)
      · exact write1ft_bad f l ss w ok hty hfl0 hfl1 hst hg h8 h32
      · rcases bcase2 f.only with ho | ho
        · exact write1ft_okf f l ss w ok hty hfl0 hfl1 hst hg ho h8 h32
        · exact write1ft_okt f l ss w ok hty hfl0 hfl1 hst hg ho h8 h32
    · exact write1tf f l ss w ok hty hfl0 hfl1 hst h8 h32
    · cases hg : goodW (f.p l ss)
      · exact write1tt_bad f l ss w ok hty hfl0 hfl1 hst hg h8 h32
      · rcases bcase2 f.only with ho | ho
        · exact write1tt_okf f l ss w ok hty hfl0 hfl1 hst hg ho h8 h32
        · exact write1tt_okt f l ss w ok hty hfl0 hfl1 hst hg ho h8 h32
  · cases hg : goodW (f.p l ss)
    · exact write2_bad f l ss w ok hty hfl0 hfl1 hst hg
    · rcases bcase2 f.only with ho | ho
      · exact write2_okf f l ss w ok hty hfl0 hfl1 hst hg ho
      · exact write2_okt f l ss w ok hty hfl0 hfl1 hst hg ho
  · exact write3 f l ss w ok hty hfl0 hfl1 hst
  · exact write4 f l ss w ok hty hfl0 hfl1 hst
  · cases h8 : hasB f.fl 8
    · exact write5f f l ss w ok hty hfl0 hfl1 hst h8
    · exact write5t f l ss w ok hty hfl0 hfl1 hst h8
  · exact write6 f l ss w ok hty hfl0 hfl1 hst
  · exact write7 f l ss w ok hty hfl0 hfl1 hst
  · exact write8 f l ss w ok hty hfl0 hfl1 hst
  · exact write9 f l ss w ok hty hfl0 hfl1 hst
set_option maxHeartbeats 1000000 in
set_option maxRecDepth 100000 in
theorem Write_any (f : Fr) (l : List UInt8) (ss : List (Int × Int)) (w : World) (ok : WrOk w f l ss) :
    Calls Try.prog 98 #[.agg #[.int .i64 f.ty, .int .i64 f.fl, .int .i64 f.st, .slice f.pA f.pn f.pc, .int .i64 f.pad, .int .u32 f.code, .int .i64 f.last, .int .i64 f.inc, .int .i64 f.dep, .bool f.only, .int .i64 f.wt, .slice f.sA f.sn f.sc]] w (OwE 5 (wr (f.p l ss)).1 (wr (f.p l ss)).2 w) := by
  have bad : goodW (f.p l ss) = false → OwE 5 [] 1 w = OwE 5 (wr (f.p l ss)).1 (wr (f.p l ss)).2 w := fun h => by rw [wr_bad h]
  by_cases hkn : known f.ty = true
  · by_cases hfl0 : 0 ≤ f.fl
    · by_cases hfl1 : f.fl ≤ 255
      · by_cases hst : idB f.st = true
        · exact write_known f l ss w ok hkn hfl0 hfl1 hst
        · rw [← bad (by simp [goodW, Fr.p, hst])]
          have HKN := Lib.hid (show knownB f.ty = true from hkn)
          have HST := Lib.hid (show idB f.st = false by simpa using hst)
          clear bad hkn hst ok
          go_enter Try.func98, Try.ntmps98
          go_wp2_with fail
          refine (Known_any f.ty _).mono ?_
          rintro e w1 ⟨rfl, rfl⟩
          rw [HKN.out]
          go_wp2_with fail
          refine (idF f.st _).mono ?_
          rintro e w1 ⟨rfl, rfl⟩
          rw [HST.out]
          go_wp2
          go_ret2
          exact ⟨none, 0, 0, rfl, Ow.nil _ _ _ _, by (repeat (first | with_reducible exact Kp.refl _ _ | with_reducible assumption | with_reducible refine Kp.alloc ?_ _ | with_reducible refine Kp.drew ?_ | with_reducible refine Kp.drewN ?_ _ | (with_reducible refine Kp.setL ?_ ?_ _; focus (simp; done)) | (with_reducible refine Kp.setR ?_ ?_ _; focus (simp; done)) | (with_reducible refine Kp.setR ?_ ?_ _; focus (simp; omega))))⟩
      · rw [← bad (by simp [goodW, Fr.p, hfl1])]
        have HKN := Lib.hid (show knownB f.ty = true from hkn)
        clear bad hkn ok
        go_enter Try.func98, Try.ntmps98
        go_wp2_with fail
        refine (Known_any f.ty _).mono ?_
        rintro e w1 ⟨rfl, rfl⟩
        rw [HKN.out]
        go_wp2
        go_ret2
        exact ⟨none, 0, 0, rfl, Ow.nil _ _ _ _, by (repeat (first | with_reducible exact Kp.refl _ _ | with_reducible assumption | with_reducible refine Kp.alloc ?_ _ | with_reducible refine Kp.drew ?_ | with_reducible refine Kp.drewN ?_ _ | (with_reducible refine Kp.setL ?_ ?_ _; focus (simp; done)) | (with_reducible refine Kp.setR ?_ ?_ _; focus (simp; done)) | (with_reducible refine Kp.setR ?_ ?_ _; focus (simp; omega))))⟩
    · rw [← bad (by simp [goodW, Fr.p, hfl0])]
      have HKN := Lib.hid (show knownB f.ty = true from hkn)
      clear bad hkn ok
      go_enter Try.func98, Try.ntmps98
      go_wp2_with fail
      refine (Known_any f.ty _).mono ?_
      rintro e w1 ⟨rfl, rfl⟩
      rw [HKN.out]
      go_wp2
      go_ret2
      exact ⟨none, 0, 0, rfl, Ow.nil _ _ _ _, by (repeat (first | with_reducible exact Kp.refl _ _ | with_reducible assumption | with_reducible refine Kp.alloc ?_ _ | with_reducible refine Kp.drew ?_ | with_reducible refine Kp.drewN ?_ _ | (with_reducible refine Kp.setL ?_ ?_ _; focus (simp; done)) | (with_reducible refine Kp.setR ?_ ?_ _; focus (simp; done)) | (with_reducible refine Kp.setR ?_ ?_ _; focus (simp; omega))))⟩
  · rw [← bad (by simp [goodW, Fr.p, hkn])]
    have HKN := Lib.hid (show knownB f.ty = false by rw [knownB_eq]; simpa using hkn)
    clear bad hkn ok
    go_enter Try.func98, Try.ntmps98
    go_wp2_with fail
    refine (Known_any f.ty _).mono ?_
    rintro e w1 ⟨rfl, rfl⟩
    rw [HKN.out]
    go_wp2
    go_ret2
    exact ⟨none, 0, 0, rfl, Ow.nil _ _ _ _, by (repeat (first | with_reducible exact Kp.refl _ _ | with_reducible assumption | with_reducible refine Kp.alloc ?_ _ | with_reducible refine Kp.drew ?_ | with_reducible refine Kp.drewN ?_ _ | (with_reducible refine Kp.setL ?_ ?_ _; focus (simp; done)) | (with_reducible refine Kp.setR ?_ ?_ _; focus (simp; done)) | (with_reducible refine Kp.setR ?_ ?_ _; focus (simp; omega))))⟩
end Go.Proofs.Ytkmcakneceagpaa
