/- 'aqueductlaw07.FrameBack' answers true for every input; each argument reads behind the call as it read before. -/
import Derived.Test.YtkmcakneceagpaaRows
import Derived.Test.YtkmcakneceagpaaFrmBack
import Derived.Test.YtkmcakneceagpaaOpn
import Derived.Test.YtkmcakneceagpaaFacts
namespace Go.Proofs.Ytkmcakneceagpaa.frameBack
open Go.ChangeShapes Go.WideShapes Go.ChangeAt Go.RowKit
set_option linter.unusedVariables false

set_option maxRecDepth 100000 in
theorem contract (H : Type) (enc : TypeId × Value → H) (W : World) (base : Nat) (args : Array Value) (ds gs : List (DataW H)) (before : List MemPlace)
    (hval : ∀ (j : Nat) t v, Try.f25.params[j]? = some t → args[j]? = some v → Value.okWide Try.prog W .any base t v)
    (hW : DataW.Whole enc Try.prog Try.f25.params.toList Rows.frameBackSpec.vars false W args.toList ds gs before)
    (hsz : (DataW.weightsEach Try.prog (Try.f25.params.toList ++ []) (ds ++ gs)).all (· ≤ reachBytes) = true) :
    Calls Try.prog 25 args W fun e W' => ∃ v, e = .returned v ∧ Rows.frameBackSpec.post enc Try.prog Try.f25 false true false false W args v W' := by
  have hW' := hW
  obtain ⟨p, q, hA0, hV, rfl, hfz, hnd⟩ := hW
  have hA : DataW.TrodAll enc Try.prog W 0 (fun _ => true) true Try.f25.params.toList args.toList ds p := hA0
  rw [Try.params25] at hA hval hsz
  obtain ⟨v0, vs0, d0, ds0, p0, q0, hargs, rfl, rfl, h0, r0⟩ := trodAll_cons hA
  obtain ⟨v1, vs1, d1, ds1, p1, q1, rfl, rfl, rfl, h1, r1⟩ := trodAll_cons r0
  obtain ⟨rfl, rfl, rfl⟩ := trodAll_nil r1
  obtain rfl : args = #[v0, v1] := by cases args; simp_all
  obtain ⟨rfl, rfl⟩ := trodVars_none hV
  have hlast : ∀ W', Below W.heap.size W W' → DataW.TrodAll enc Try.prog W' 0 (fun b => decide (b < W.heap.size)) true Try.f25.params.toList #[v0, v1].toList [d0, d1] _ := fun W' bel => trodAll_below laidOut bel (by kernel_rfl) hA0
  clear hA0
  have t0 := Tr.of h0 0 rfl rfl hsz
  obtain ⟨cs_f, rfl, _⟩ := okWide_struct Try.underlying49 (hval 0 49 v0 rfl rfl)
  obtain ⟨f, l_f, ss_f, hc_f, ok_f⟩ := Tr.frame t0
  obtain rfl : cs_f = #[.int .i64 f.ty, .int .i64 f.fl, .int .i64 f.st, .slice f.pA f.pn f.pc, .int .i64 f.pad, .int .u32 f.code, .int .i64 f.last, .int .i64 f.inc, .int .i64 f.dep, .bool f.only, .int .i64 f.wt, .slice f.sA f.sn f.sc] := by cases cs_f; exact congrArg Array.mk hc_f
  clear hc_f
  have t1 := Tr.of h1 1 rfl rfl hsz
  obtain ⟨A_b, n_b, c_b, rfl⟩ := okWide_slice Try.underlying22 (hval 1 22 v1 rfl rfl)
  obtain ⟨A', n', c', l_b, he1, rd_b, le_b, lt_b, bk_b⟩ := t1.bytes Try.underlying22 Try.underlying5 (by kernel_rfl) (by kernel_rfl)
  simp only [Value.cells, List.cons.injEq, Value.slice.injEq, and_true] at he1
  obtain ⟨rfl, rfl, rfl⟩ := he1
  refine (FrameBack_walk f l_f ss_f A_b n_b c_b l_b W ok_f.wr rd_b le_b).mono fun e W' ⟨he, hkp⟩ => ?_
  subst he
  exact ⟨_, rfl, _, _, _, [], _, [], hW', trodAll_mk1 (shut_bool Try.underlying4 _), hlast W' hkp.below, rfl, hkp.below.frame _, fun h => by cases h⟩

theorem f_wf : Rows.frameBackRow.wf (OpenSpec.ofChange Rows.frameBackSpec) = true := by kernel_rfl
theorem f_par : Try.f25.params.all (Try.prog.readableRec ·) = true := by kernel_rfl
theorem f_inp : (Rows.frameBackRow.inPlace == Try.prog.inPlace 25) = true := by kernel_rfl
theorem f_unf : (Rows.frameBackRow.unfollowed == Try.prog.unfollowed 25) = true := by kernel_rfl
theorem f_rec : (Rows.frameBackRow.recurses == Try.prog.recurses 25) = true := by kernel_rfl
theorem f_nam : (Rows.frameBackRow.named == Try.prog.varsNamed 25) = true := by kernel_rfl
theorem f_named : Try.prog.funcNamed Rows.frameBackRow.func = some 25 := by kernel_rfl
theorem f_noInit : Try.prog.inits.idxOf? 25 = none := by kernel_rfl
theorem closed : joinedFacts Try.prog 25 Try.f25 Rows.frameBackSpec Rows.frameBackRow = true :=
  closed_of f_wf laidOut mapsRowed f_par (by kernel_rfl) (by rfl) noStops (by rfl) noKnobs f_inp f_unf f_rec f_nam (by kernel_rfl) (by kernel_rfl) (by kernel_rfl) (by kernel_rfl) (by kernel_rfl) (by rfl) (by kernel_rfl) (by kernel_rfl) (by kernel_rfl) (by rw [plainKeys]; rfl) (by rfl) stopsHeard mayEnter (by rw [liftsFinal]; rfl) (by rw [make_cut]; rfl) (by rfl) (by rfl) (by kernel_rfl) (by kernel_rfl)

set_option maxRecDepth 100000 in
theorem lifted (os : Os) (started : os.Started) (H : Type) (enc : TypeId × Value → H) :
    ReturnsInHanded {} Try.checked os 25 .any (Rows.frameBackSpec.pre6 enc Try.prog Try.f25 Rows.frameBackRow.domain false) (Rows.frameBackSpec.post enc Try.prog Try.f25 false true false false) := by
  refine returnsInHanded_of_change_sized (C := Try.checked) own started f_noInit Try.func25
    (ChangeSpec.witness6 (enc := enc) (C := Try.checked) false ⟨#[], #[.agg #[.int .i64 0, .int .i64 0, .int .i64 0, .slice none 0 0, .int .i64 0, .int .u32 0, .int .i64 0, .int .i64 0, .int .i64 0, .bool false, .int .i64 0, .slice none 0 0], .slice none 0 0], []⟩ 8 (by kernel_rfl) (by kernel_rfl) (by kernel_rfl) (by kernel_rfl)) ?_
  intro W base args ds gs before hval hW _ hsz _
  exact contract H enc W base args ds gs before hval hW hsz

theorem over : Rows.frameBackRow.holds Try.pinned (OpenSpec.ofChange Rows.frameBackSpec) :=
  OpenClaim.holds_of_wide 25 Try.f25 rfl rfl rfl rfl rfl rfl rfl ⟨rfl, rfl, rfl, rfl, rfl⟩ rfl rfl rfl rfl rfl f_named Try.func25 closed
    (of_decide_eq_true (by kernel_rfl)) (by unfold Func.isWrapper; first | (rw [if_pos (by decide +kernel)]; kernel_rfl) | (rw [if_neg (by decide +kernel)]; exact ⟨rfl, rfl⟩))
    (fun os started H enc _ => lifted os started H enc)

theorem proved : Rows.FrameBackSaid := over
end Go.Proofs.Ytkmcakneceagpaa.frameBack
