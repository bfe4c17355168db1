/- 'aqueductlaw07.FrameShort' answers true for every input; each argument reads behind the call as it read before. -/
import Derived.Test.YtkmcakneceagpaaRows
import Derived.Test.YtkmcakneceagpaaFrmShort
import Derived.Test.YtkmcakneceagpaaOpn
import Derived.Test.YtkmcakneceagpaaFacts
namespace Go.Proofs.Ytkmcakneceagpaa.frameShort
open Go.ChangeShapes Go.WideShapes Go.ChangeAt Go.RowKit
set_option linter.unusedVariables false

set_option maxRecDepth 100000 in
theorem contract (H : Type) (enc : TypeId × Value → H) (W : World) (base : Nat) (args : Array Value) (ds gs : List (DataW H)) (before : List MemPlace)
    (hval : ∀ (j : Nat) t v, Try.f26.params[j]? = some t → args[j]? = some v → Value.okWide Try.prog W .any base t v)
    (hW : DataW.Whole enc Try.prog Try.f26.params.toList Rows.frameShortSpec.vars false W args.toList ds gs before)
    (hsz : (DataW.weightsEach Try.prog (Try.f26.params.toList ++ []) (ds ++ gs)).all (· ≤ reachBytes) = true) :
    Calls Try.prog 26 args W fun e W' => ∃ v, e = .returned v ∧ Rows.frameShortSpec.post enc Try.prog Try.f26 false true false false W args v W' := by
  have hW' := hW
  obtain ⟨p, q, hA0, hV, rfl, hfz, hnd⟩ := hW
  have hA : DataW.TrodAll enc Try.prog W 0 (fun _ => true) true Try.f26.params.toList args.toList ds p := hA0
  rw [Try.params26] at hA hval hsz
  obtain ⟨v0, vs0, d0, ds0, p0, q0, hargs, rfl, rfl, h0, r0⟩ := trodAll_cons hA
  obtain ⟨v1, vs1, d1, ds1, p1, q1, rfl, rfl, rfl, h1, r1⟩ := trodAll_cons r0
  obtain ⟨rfl, rfl, rfl⟩ := trodAll_nil r1
  obtain rfl : args = #[v0, v1] := by cases args; simp_all
  obtain ⟨rfl, rfl⟩ := trodVars_none hV
  have hlast : ∀ W', Below W.heap.size W W' → DataW.TrodAll enc Try.prog W' 0 (fun b => decide (b < W.heap.size)) true Try.f26.params.toList #[v0, v1].toList [d0, d1] _ := fun W' bel => trodAll_below laidOut bel (by kernel_rfl) hA0
  clear hA0
  have t0 := Tr.of h0 0 rfl rfl hsz
  obtain ⟨cs_f, rfl, _⟩ := okWide_struct Try.underlying49 (hval 0 49 v0 rfl rfl)
  obtain ⟨f, l_f, ss_f, hc_f, ok_f⟩ := Tr.frame t0
  obtain rfl : cs_f = #[.int .i64 f.ty, .int .i64 f.fl, .int .i64 f.st, .slice f.pA f.pn f.pc, .int .i64 f.pad, .int .u32 f.code, .int .i64 f.last, .int .i64 f.inc, .int .i64 f.dep, .bool f.only, .int .i64 f.wt, .slice f.sA f.sn f.sc] := by cases cs_f; exact congrArg Array.mk hc_f
  clear hc_f
  have t1 := Tr.of h1 1 rfl rfl hsz
  obtain ⟨k, rfl, _, _, w_k⟩ := open_int Try.underlying69 (hval 1 69 v1 rfl rfl) h1
  have hk0 : 0 ≤ k ∧ k < 65536 := by
    simp [Lit.wf, IntKind.min, IntKind.max, IntKind.signed, IntKind.bits] at w_k
    omega
  obtain ⟨k, rfl⟩ := Int.eq_ofNat_of_zero_le hk0.1
  have hk1 : k < 65536 := by omega
  refine (FrameShort_walk f l_f ss_f k hk1 W ok_f.wr).mono fun e W' ⟨he, hkp⟩ => ?_
  subst he
  exact ⟨_, rfl, _, _, _, [], _, [], hW', trodAll_mk1 (shut_bool Try.underlying4 _), hlast W' hkp.below, rfl, hkp.below.frame _, fun h => by cases h⟩

theorem f_wf : Rows.frameShortRow.wf (OpenSpec.ofChange Rows.frameShortSpec) = true := by kernel_rfl
theorem f_par : Try.f26.params.all (Try.prog.readableRec ·) = true := by kernel_rfl
theorem f_inp : (Rows.frameShortRow.inPlace == Try.prog.inPlace 26) = true := by kernel_rfl
theorem f_unf : (Rows.frameShortRow.unfollowed == Try.prog.unfollowed 26) = true := by kernel_rfl
theorem f_rec : (Rows.frameShortRow.recurses == Try.prog.recurses 26) = true := by kernel_rfl
theorem f_nam : (Rows.frameShortRow.named == Try.prog.varsNamed 26) = true := by kernel_rfl
theorem f_named : Try.prog.funcNamed Rows.frameShortRow.func = some 26 := by kernel_rfl
theorem f_noInit : Try.prog.inits.idxOf? 26 = none := by kernel_rfl
theorem closed : joinedFacts Try.prog 26 Try.f26 Rows.frameShortSpec Rows.frameShortRow = true :=
  closed_of f_wf laidOut mapsRowed f_par (by kernel_rfl) (by rfl) noStops (by rfl) noKnobs f_inp f_unf f_rec f_nam (by kernel_rfl) (by kernel_rfl) (by kernel_rfl) (by kernel_rfl) (by kernel_rfl) (by rfl) (by kernel_rfl) (by kernel_rfl) (by kernel_rfl) (by rw [plainKeys]; rfl) (by rfl) stopsHeard mayEnter (by rw [liftsFinal]; rfl) (by rw [make_cut]; rfl) (by rfl) (by rfl) (by kernel_rfl) (by kernel_rfl)

set_option maxRecDepth 100000 in
theorem lifted (os : Os) (started : os.Started) (H : Type) (enc : TypeId × Value → H) :
    ReturnsInHanded {} Try.checked os 26 .any (Rows.frameShortSpec.pre6 enc Try.prog Try.f26 Rows.frameShortRow.domain false) (Rows.frameShortSpec.post enc Try.prog Try.f26 false true false false) := by
  refine returnsInHanded_of_change_sized (C := Try.checked) own started f_noInit Try.func26
    (ChangeSpec.witness6 (enc := enc) (C := Try.checked) false ⟨#[], #[.agg #[.int .i64 0, .int .i64 0, .int .i64 0, .slice none 0 0, .int .i64 0, .int .u32 0, .int .i64 0, .int .i64 0, .int .i64 0, .bool false, .int .i64 0, .slice none 0 0], .int .u16 0], []⟩ 8 (by kernel_rfl) (by kernel_rfl) (by kernel_rfl) (by kernel_rfl)) ?_
  intro W base args ds gs before hval hW _ hsz _
  exact contract H enc W base args ds gs before hval hW hsz

theorem over : Rows.frameShortRow.holds Try.pinned (OpenSpec.ofChange Rows.frameShortSpec) :=
  OpenClaim.holds_of_wide 26 Try.f26 rfl rfl rfl rfl rfl rfl rfl ⟨rfl, rfl, rfl, rfl, rfl⟩ rfl rfl rfl rfl rfl f_named Try.func26 closed
    (of_decide_eq_true (by kernel_rfl)) (by unfold Func.isWrapper; first | (rw [if_pos (by decide +kernel)]; kernel_rfl) | (rw [if_neg (by decide +kernel)]; exact ⟨rfl, rfl⟩))
    (fun os started H enc _ => lifted os started H enc)

theorem proved : Rows.FrameShortSaid := over
end Go.Proofs.Ytkmcakneceagpaa.frameShort
