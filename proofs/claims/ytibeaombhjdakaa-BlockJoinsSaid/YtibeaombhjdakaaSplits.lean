/- The words of layer 12's laws: awake, same; 'BlockSplits', walked. -/
import Derived.Test.YtibeaombhjdakaaRSplit
import Derived.StillTailTactics
set_option linter.unusedVariables false
set_option linter.unusedSimpArgs false
set_option linter.unusedSimpArgs false
namespace Go.Proofs.Ytibeaombhjdakaa
open Go.RowKit

theorem wpList_strQ {P : Program} {o : Oper} {a : Act} {w : World} {Q : Exit → Act → World → Prop} {ops : Array Oper} {rest : List Oper} {gi : Nat} {gb : Bool} {og : Oper} {gd : Nat} (hgd : o.guard = some (gi, gb)) (hog : ops[gi]? = some og) (hod : og.dst = some gd) (hv : a.tmps[gd]? = some (.bool gb)) (src e dst : TypeId) (x : Operand) (ho : o.op = .convert src dst x) (hs : P.underlying src = some (.slice e)) (he : P.underlying e = some (.int .u8)) (hd : P.underlying dst = some .string)
    {A : Option Addr} {n c : Nat} {l : List UInt8} (hx : a.eval x = .slice A n c) (hr : Rd w A n c l) (h : wpList P ops Q rest (a.put o.dst (.string (sb l))) w) : wpList P ops Q (o :: rest) a w := by
  refine wpList_step (fun K hK => ?_)
  refine want_yes hgd hog hod hv ?_
  exact wp_str src e dst x ho hs he hd hx hr (hK _ _ h)

set_option maxRecDepth 100000 in
set_option maxHeartbeats 1000000 in
theorem SameT (f g : Fr) (l : List UInt8) (w0 : World) (h0 : f.ty = g.ty) (h1 : f.fl = g.fl) (h2 : f.st = g.st) (hf : Rd w0 f.pA f.pn f.pc l) (hg : Rd w0 g.pA g.pn g.pc l) :
    Calls Try.prog 8 #[.agg #[.int .i64 f.ty, .int .i64 f.fl, .int .i64 f.st, .slice f.pA f.pn f.pc, .int .i64 f.pad, .int .u32 f.code, .int .i64 f.last, .int .i64 f.inc, .int .i64 f.dep, .bool f.only, .int .i64 f.wt, .slice f.sA f.sn f.sc], .agg #[.int .i64 g.ty, .int .i64 g.fl, .int .i64 g.st, .slice g.pA g.pn g.pc, .int .i64 g.pad, .int .u32 g.code, .int .i64 g.last, .int .i64 g.inc, .int .i64 g.dep, .bool g.only, .int .i64 g.wt, .slice g.sA g.sn g.sc]] w0 (Yes w0) := by
  have HF := Lib.hid hf
  have HG := Lib.hid hg
  obtain ⟨gty, gfl, gst, gpA, gpn, gpc, gpad, gcode, glast, ginc, gdep, gonly, gwt, gsA, gsn, gsc⟩ := g
  simp only at h0 h1 h2
  subst h0 h1 h2
  clear hf hg
  go_enter Try.func8, Try.ntmps8
  go_wp2_with (with_reducible refine stopAt (o := ⟨some 27, _, _, _, _, _⟩) ?_)
  refine Stop.go (wpList_strQ rfl rfl rfl (by rfl) 30 5 9 _ rfl Try.underlying30 Try.underlying5 Try.underlying9 rfl (HF.out.keep (S := []) (by (repeat (first | with_reducible exact Kp.refl _ _ | with_reducible assumption | with_reducible refine Kp.alloc ?_ _ | with_reducible refine Kp.drew ?_ | with_reducible refine Kp.drewN ?_ _ | (with_reducible refine Kp.setL ?_ ?_ _; focus (simp; done)) | (with_reducible refine Kp.setR ?_ ?_ _; focus (simp; done)) | (with_reducible refine Kp.setR ?_ ?_ _; focus (simp; omega))))) (by simp)) ?_)
  go_wp2_with (with_reducible refine stopAt (o := ⟨some 30, _, _, _, _, _⟩) ?_)
  refine Stop.go (wpList_strQ rfl rfl rfl (by rfl) 30 5 9 _ rfl Try.underlying30 Try.underlying5 Try.underlying9 rfl (HG.out.keep (S := []) (by (repeat (first | with_reducible exact Kp.refl _ _ | with_reducible assumption | with_reducible refine Kp.alloc ?_ _ | with_reducible refine Kp.drew ?_ | with_reducible refine Kp.drewN ?_ _ | (with_reducible refine Kp.setL ?_ ?_ _; focus (simp; done)) | (with_reducible refine Kp.setR ?_ ?_ _; focus (simp; done)) | (with_reducible refine Kp.setR ?_ ?_ _; focus (simp; omega))))) (by simp)) ?_)
  go_wp2
  go_ret
  exact ⟨rfl, by (repeat (first | with_reducible exact Kp.refl _ _ | with_reducible assumption | with_reducible refine Kp.alloc ?_ _ | with_reducible refine Kp.drew ?_ | with_reducible refine Kp.drewN ?_ _ | (with_reducible refine Kp.setL ?_ ?_ _; focus (simp; done)) | (with_reducible refine Kp.setR ?_ ?_ _; focus (simp; done)) | (with_reducible refine Kp.setR ?_ ?_ _; focus (simp; omega))))⟩

set_option maxRecDepth 100000 in
set_option maxHeartbeats 1000000 in
theorem Awake (w0 : World) : Calls Try.prog 11 #[] w0 (Yes w0) := by
  go_enter Try.func11, Try.ntmps11
  go_wp2_with fail
  refine (SplitOk 1 (by omega) none 0 0 [] true 5 (by omega) (by omega) w0 (Rd.nil _ _ _) (by omega) (by simp) (by omega)).mono ?_
  rintro e w1 ⟨AL, nL, cL, fs, rfl, hn, F, hk, K⟩
  obtain rfl : nL = 1 := hn
  obtain ⟨g, p, rfl, hg, hp, _, hc⟩ := F.cell 0 (by omega)
  have hfl := (hk 0 p hp).fl
  have hc1 := hc 1 _ rfl
  rw [hfl] at hc1
  simp [cutsN] at hc1
  have hcap := F.ow.cap.1
  clear hc F hk hp
  go_wp2
  go_ret
  exact ⟨rfl, K⟩

end Go.Proofs.Ytibeaombhjdakaa
