/- 'same' of layer 7's laws. -/
import Derived.Test.YtkmcakneceagpaaStr7
set_option linter.unusedVariables false
set_option linter.unusedSimpArgs false
set_option linter.unusedSimpArgs false
namespace Go.Proofs.Ytkmcakneceagpaa
open Go.RowKit
set_option maxHeartbeats 4000000 in
set_option maxRecDepth 100000 in
theorem same07 (f g : Fr) (p : Fp) (b b' : Nat) (w0 : World) (hf : FrP w0 b f p) (hg : FrP w0 b' g p) (hss : p.ss.length ≤ 140737488351232) :
    Calls Try.prog 102 #[.agg #[.int .i64 f.ty, .int .i64 f.fl, .int .i64 f.st, .slice f.pA f.pn f.pc, .int .i64 f.pad, .int .u32 f.code, .int .i64 f.last, .int .i64 f.inc, .int .i64 f.dep, .bool f.only, .int .i64 f.wt, .slice f.sA f.sn f.sc], .agg #[.int .i64 g.ty, .int .i64 g.fl, .int .i64 g.st, .slice g.pA g.pn g.pc, .int .i64 g.pad, .int .u32 g.code, .int .i64 g.last, .int .i64 g.inc, .int .i64 g.dep, .bool g.only, .int .i64 g.wt, .slice g.sA g.sn g.sc]] w0 (Yes w0) := by
  obtain ⟨a0, a1, a2, a3, a4, a5, a6, a7, a8, a9⟩ := hf.cs
  obtain ⟨b0, b1, b2, b3, b4, b5, b6, b7, b8, b9⟩ := hg.cs
  have HF := Lib.hid hf.rd
  have HG := Lib.hid hg.rd
  have HS := Lib.hid hf.sd
  have HT := Lib.hid hg.sd
  have hs1 := hf.sd.len
  have hs2 := hg.sd.len
  have hsc := hf.sd.cap
  have hsd := hg.sd.cap
  clear hf hg
  obtain ⟨fty, ffl, fst, pA, pn, pc, fpad, fcode, flast, finc, fdep, fonly, fwt, sA, sn, sc⟩ := f
  obtain ⟨gty, gfl, gst, gA, gn, gc, gpad, gcode, glast, ginc, gdep, gonly, gwt, tA, tn, tc⟩ := g
  obtain ⟨ty, fl, st, l, pad, code, last, inc, dep, only, wt, ss⟩ := p
  dsimp only at *
  subst a0 a1 a2 a3 a4 a5 a6 a7 a8 a9 b0 b1 b2 b3 b4 b5 b6 b7 b8 b9
  obtain ⟨m, hm⟩ : ∃ m, ss.length = m := ⟨_, rfl⟩
  rw [hm] at hs1 hs2 hss
  subst hs1 hs2
  go_enter Try.func102, Try.ntmps102
  go_wp2_with fail
  rw [run_str (HF.out.keep (S := []) (by (repeat (first | with_reducible exact Kp.refl _ _ | with_reducible assumption | with_reducible refine Kp.alloc ?_ _ | with_reducible refine Kp.drew ?_ | with_reducible refine Kp.drewN ?_ _ | (with_reducible refine Kp.setL ?_ ?_ _; focus (simp; done)) | (with_reducible refine Kp.setR ?_ ?_ _; focus (simp; done)) | (with_reducible refine Kp.setR ?_ ?_ _; focus (simp; omega))))) (by simp)) _ _ _ Try.underlying22 Try.underlying5 Try.underlying9]
  go_wp2_with fail
  rw [run_str (HG.out.keep (S := []) (by (repeat (first | with_reducible exact Kp.refl _ _ | with_reducible assumption | with_reducible refine Kp.alloc ?_ _ | with_reducible refine Kp.drew ?_ | with_reducible refine Kp.drewN ?_ _ | (with_reducible refine Kp.setL ?_ ?_ _; focus (simp; done)) | (with_reducible refine Kp.setR ?_ ?_ _; focus (simp; done)) | (with_reducible refine Kp.setR ?_ ?_ _; focus (simp; omega))))) (by simp)) _ _ _ Try.underlying22 Try.underlying5 Try.underlying9]
  go_wp2
  generalize hW : World.alloc _ _ = w2
  have K2 : Kp [] w0 w2 := by rw [← hW]; (repeat (first | with_reducible exact Kp.refl _ _ | with_reducible assumption | with_reducible refine Kp.alloc ?_ _ | with_reducible refine Kp.drew ?_ | with_reducible refine Kp.drewN ?_ _ | (with_reducible refine Kp.setL ?_ ?_ _; focus (simp; done)) | (with_reducible refine Kp.setR ?_ ?_ _; focus (simp; done)) | (with_reducible refine Kp.setR ?_ ?_ _; focus (simp; omega))))
  have HX := Lib.hid (show w2.heap[w0.heap.size]? = some (.cells #[.int .i64 gty, .int .i64 gfl, .int .i64 gst, .slice pA pn pc, .int .i64 gpad, .int .u32 gcode, .int .i64 glast, .int .i64 ginc, .int .i64 gdep, .bool gonly, .int .i64 gwt, .slice sA m sc] 49) by rw [← hW]; (repeat (first | with_reducible assumption | (with_reducible refine hp_new _ _ _ ?_; focus (simp; done)) | (with_reducible refine (hp_old _ _ _ ?_).trans ?_; focus (first | omega | (simp; done) | (simp; omega))) | (with_reducible refine (hp_far _ _ _ _ ?_).trans ?_; focus (first | (simp; done) | (simp; omega))) | (with_reducible refine (hp_drew _ _).trans ?_) | (with_reducible refine (hp_drewN _ _ _).trans ?_))))
  have HY := Lib.hid (show w2.heap[w0.heap.size + 1]? = some (.cells #[.int .i64 gty, .int .i64 gfl, .int .i64 gst, .slice gA gn gc, .int .i64 gpad, .int .u32 gcode, .int .i64 glast, .int .i64 ginc, .int .i64 gdep, .bool gonly, .int .i64 gwt, .slice tA m tc] 49) by rw [← hW]; (repeat (first | with_reducible assumption | (with_reducible refine hp_new _ _ _ ?_; focus (simp; done)) | (with_reducible refine (hp_old _ _ _ ?_).trans ?_; focus (first | omega | (simp; done) | (simp; omega))) | (with_reducible refine (hp_far _ _ _ _ ?_).trans ?_; focus (first | (simp; done) | (simp; omega))) | (with_reducible refine (hp_drew _ _).trans ?_) | (with_reducible refine (hp_drewN _ _ _).trans ?_))))
  clear hW
  have HK2 := Lib.hid K2
  have HS2 := Lib.hid (HS.out.keep K2 (by simp))
  have HT2 := Lib.hid (HT.out.keep K2 (by simp))
  clear HS HT HF HG K2
  go_loopw [5] (fun i wr => ∃ k : Nat, k ≤ m ∧ i = .int .i64 k ∧ Kp [] w2 wr) (fun i _ => m - (intOf i).toNat)
  case atStart => exact ⟨0, Nat.zero_le _, rfl, Kp.refl _ _⟩
  case round =>
    obtain ⟨k, hk, rfl, K⟩ := hrel
    have x11 := cell_of (K.heap HX.out (by simp)) 11
    have y11 := cell_of (K.heap HY.out (by simp)) 11
    have xl := lt_of_heap (K.heap HX.out (by simp))
    have yl := lt_of_heap (K.heap HY.out (by simp))
    by_cases hkl : k < m
    · obtain ⟨b1, o1, rfl, hlt1, hc1⟩ := (HS2.out.keep K (by simp)).at_ (by omega)
      obtain ⟨b2, o2, rfl, hlt2, hc2⟩ := (HT2.out.keep K (by simp)).at_ (by omega)
      obtain ⟨c0, c1⟩ := hc1 k hkl
      obtain ⟨d0, d1⟩ := hc2 k hkl
      obtain ⟨⟨x, y⟩, hxy⟩ : ∃ s, ss.getD k (0, 0) = s := ⟨_, rfl⟩
      rw [hxy] at c0 c1 d0 d1
      dsimp only at c0 c1 d0 d1
      have HK := Lib.hid K
      clear hxy hc1 hc2 K
      have hki : (k : Int) < (m : Int) := by omega
      go_wp2
      go_region
      go_wp2
      go_roundw
      case rel => exact ⟨k + 1, by omega, by go_num, HK.out.drew⟩
      case measure => simp [intOf]; omega
    · obtain rfl : k = m := by omega
      have hki : ¬ (k : Int) < (k : Int) := by omega
      have HK := Lib.hid K
      clear K
      go_wp2
      go_ret
      exact ⟨rfl, HK2.out.trans HK.out⟩
end Go.Proofs.Ytkmcakneceagpaa
