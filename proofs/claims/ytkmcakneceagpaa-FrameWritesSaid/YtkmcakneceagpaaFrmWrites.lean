/- 'FrameWrites', walked. -/
import Derived.Test.YtkmcakneceagpaaWrAll
import Derived.Test.YtkmcakneceagpaaRfWr
set_option linter.unusedVariables false
set_option linter.unusedSimpArgs false
set_option linter.unusedSimpArgs false
namespace Go.Proofs.Ytkmcakneceagpaa
open Go.RowKit
theorem WrOk.keep {w w' : World} {f : Fr} {l : List UInt8} {ss : List (Int × Int)} (h : WrOk w f l ss) (k : Kp [] w w') : WrOk w' f l ss := ⟨h.rd.keep k (by simp), h.pn, h.code, h.sd.keep k (by simp), h.sn⟩
set_option maxHeartbeats 2000000 in
set_option maxRecDepth 100000 in
theorem FrameWrites_walk (f : Fr) (l : List UInt8) (ss : List (Int × Int)) (w0 : World) (ok : WrOk w0 f l ss) :
    Calls Try.prog 23 #[.agg #[.int .i64 f.ty, .int .i64 f.fl, .int .i64 f.st, .slice f.pA f.pn f.pc, .int .i64 f.pad, .int .u32 f.code, .int .i64 f.last, .int .i64 f.inc, .int .i64 f.dep, .bool f.only, .int .i64 f.wt, .slice f.sA f.sn f.sc]] w0 (Yes w0) := by
  have HOK := Lib.hid ok
  clear ok
  obtain ⟨⟨R1, R2⟩, hR⟩ : ∃ R, wr (f.p l ss) = R := ⟨_, rfl⟩
  have HR := Lib.hid hR
  clear hR
  go_enter Try.func23, Try.ntmps23
  go_wp2_with fail
  have K0 : Kp [] w0 (w0.alloc (.cells #[.int .i64 f.ty, .int .i64 f.fl, .int .i64 f.st, .slice f.pA f.pn f.pc, .int .i64 f.pad, .int .u32 f.code, .int .i64 f.last, .int .i64 f.inc, .int .i64 f.dep, .bool f.only, .int .i64 f.wt, .slice f.sA f.sn f.sc] 49)) := (Kp.refl _ _).alloc _
  have HB := Lib.hid (hp_new w0 (.cells #[.int .i64 f.ty, .int .i64 f.fl, .int .i64 f.st, .slice f.pA f.pn f.pc, .int .i64 f.pad, .int .u32 f.code, .int .i64 f.last, .int .i64 f.inc, .int .i64 f.dep, .bool f.only, .int .i64 f.wt, .slice f.sA f.sn f.sc] 49) _ rfl)
  have HK := Lib.hid K0
  generalize hW : w0.alloc (.cells #[.int .i64 f.ty, .int .i64 f.fl, .int .i64 f.st, .slice f.pA f.pn f.pc, .int .i64 f.pad, .int .u32 f.code, .int .i64 f.last, .int .i64 f.inc, .int .i64 f.dep, .bool f.only, .int .i64 f.wt, .slice f.sA f.sn f.sc] 49) = w1 at *
  clear hW K0
  refine (Write_any f l ss _ (HOK.out.keep HK.out)).mono ?_
  rintro e w2 ⟨A, n, c, rfl, O, K2⟩
  rw [HR.out] at O ⊢
  dsimp only at O ⊢
  have HO := Lib.hid O
  have HB2 := Lib.hid (K2.heap HB.out (by simp))
  have HK2 := Lib.hid (HK.out.trans K2)
  clear HB HK K2 O
  have f_0 := cell_of HB2.out 0
  have f_1 := cell_of HB2.out 1
  have f_2 := cell_of HB2.out 2
  have f_3 := cell_of HB2.out 3
  have f_4 := cell_of HB2.out 4
  have f_5 := cell_of HB2.out 5
  have f_6 := cell_of HB2.out 6
  have f_7 := cell_of HB2.out 7
  have f_8 := cell_of HB2.out 8
  have f_9 := cell_of HB2.out 9
  have f_10 := cell_of HB2.out 10
  have f_11 := cell_of HB2.out 11
  go_wp2_with fail
  refine (refWrite_any f l ss _ (HOK.out.keep HK2.out)).mono ?_
  rintro e w3 ⟨A', n', c', rfl, O', K3⟩
  rw [HR.out] at O' ⊢
  dsimp only at O' ⊢
  have HO' := Lib.hid O'
  have HO2 := Lib.hid (HO.out.keep K3 (by simp))
  have HK3 := Lib.hid (HK2.out.trans K3)
  clear HB2 HK2 K3 O' HO f_0 f_1 f_2 f_3 f_4 f_5 f_6 f_7 f_8 f_9 f_10 f_11
  go_wp2_with (with_reducible refine stopAt (o := ⟨some 18, _, _, _, _, _⟩) ?_)
  refine Stop.go (wpList_str rfl 22 5 9 _ rfl Try.underlying22 Try.underlying5 Try.underlying9 rfl HO2.out.rd ?_)
  go_wp2_with (with_reducible refine stopAt (o := ⟨some 20, _, _, _, _, _⟩) ?_)
  refine Stop.go (wpList_str rfl 22 5 9 _ rfl Try.underlying22 Try.underlying5 Try.underlying9 rfl HO'.out.rd ?_)
  go_wp2_with fail
  refine (awake07 _).mono ?_
  rintro e w4 ⟨rfl, rfl⟩
  go_wp2
  go_ret
  exact ⟨by simp, HK3.out⟩
end Go.Proofs.Ytkmcakneceagpaa
