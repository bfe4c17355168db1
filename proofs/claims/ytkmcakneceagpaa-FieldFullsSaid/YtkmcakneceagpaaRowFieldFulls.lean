/- 'aqueductlaw02.FieldFulls' answers true for every input; each argument reads behind the call as it read before. -/
import Derived.Test.YtkmcakneceagpaaRows
import Derived.Test.YtkmcakneceagpaaLawField
import Derived.Test.YtkmcakneceagpaaOpn
import Derived.Test.YtkmcakneceagpaaFacts
namespace Go.Proofs.Ytkmcakneceagpaa.fieldFulls
open Go.ChangeShapes Go.WideShapes Go.ChangeAt Go.RowKit
set_option linter.unusedVariables false

set_option maxRecDepth 100000 in
theorem contract (H : Type) (enc : TypeId × Value → H) (W : World) (base : Nat) (args : Array Value) (ds gs : List (DataW H)) (before : List MemPlace)
    (hval : ∀ (j : Nat) t v, Try.f3.params[j]? = some t → args[j]? = some v → Value.okWide Try.prog W .any base t v)
    (hW : DataW.Whole enc Try.prog Try.f3.params.toList Rows.fieldFullsSpec.vars false W args.toList ds gs before)
    (hsz : (DataW.weightsEach Try.prog (Try.f3.params.toList ++ []) (ds ++ gs)).all (· ≤ reachBytes) = true) :
    Calls Try.prog 3 args W fun e W' => ∃ v, e = .returned v ∧ Rows.fieldFullsSpec.post enc Try.prog Try.f3 false true false false W args v W' := by
  have hW' := hW
  obtain ⟨p, q, hA0, hV, rfl, hfz, hnd⟩ := hW
  have hA : DataW.TrodAll enc Try.prog W 0 (fun _ => true) true Try.f3.params.toList args.toList ds p := hA0
  rw [Try.params3] at hA hval hsz
  obtain ⟨v0, vs0, d0, ds0, p0, q0, hargs, rfl, rfl, h0, r0⟩ := trodAll_cons hA
  obtain ⟨v1, vs1, d1, ds1, p1, q1, rfl, rfl, rfl, h1, r1⟩ := trodAll_cons r0
  obtain ⟨v2, vs2, d2, ds2, p2, q2, rfl, rfl, rfl, h2, r2⟩ := trodAll_cons r1
  obtain ⟨rfl, rfl, rfl⟩ := trodAll_nil r2
  obtain rfl : args = #[v0, v1, v2] := by cases args; simp_all
  obtain ⟨rfl, rfl⟩ := trodVars_none hV
  have hlast : ∀ W', Below W.heap.size W W' → DataW.TrodAll enc Try.prog W' 0 (fun b => decide (b < W.heap.size)) true Try.f3.params.toList #[v0, v1, v2].toList [d0, d1, d2] _ := fun W' bel => trodAll_below laidOut bel (by kernel_rfl) hA0
  clear hA0
  have t0 := Tr.of h0 0 rfl rfl hsz
  obtain ⟨A_b, n_b, c_b, rfl⟩ := okWide_slice Try.underlying22 (hval 0 22 v0 rfl rfl)
  obtain ⟨A', n', c', l_b, he0, rd_b, le_b, lt_b, bk_b⟩ := t0.bytes Try.underlying22 Try.underlying5 (by kernel_rfl) (by kernel_rfl)
  simp only [Value.cells, List.cons.injEq, Value.slice.injEq, and_true] at he0
  obtain ⟨rfl, rfl, rfl⟩ := he0
  have t1 := Tr.of h1 1 rfl rfl hsz
  obtain ⟨i, rfl, _, _, w_i⟩ := open_int Try.underlying3 (hval 1 3 v1 rfl rfl) h1
  have t2 := Tr.of h2 2 rfl rfl hsz
  obtain ⟨m, rfl, _, _, w_m⟩ := open_int Try.underlying23 (hval 2 23 v2 rfl rfl) h2
  have hm : 0 ≤ m ∧ m < 4294967296 := by
    simp [Lit.wf, IntKind.min, IntKind.max, IntKind.signed, IntKind.bits] at w_m
    omega
  obtain ⟨m, rfl⟩ := Int.eq_ofNat_of_zero_le hm.1
  have hm2 : m < 4294967296 := by omega
  refine (FieldFulls_walk A_b n_b c_b i l_b m W (by omega) rd_b hm2).mono fun e W' ⟨he, hkp⟩ => ?_
  subst he
  exact ⟨_, rfl, _, _, _, [], _, [], hW', trodAll_mk1 (shut_bool Try.underlying4 _), hlast W' hkp.below, rfl, hkp.below.frame _, fun h => by cases h⟩

theorem f_wf : Rows.fieldFullsRow.wf (OpenSpec.ofChange Rows.fieldFullsSpec) = true := by kernel_rfl
theorem f_par : Try.f3.params.all (Try.prog.readableRec ·) = true := by kernel_rfl
theorem f_inp : (Rows.fieldFullsRow.inPlace == Try.prog.inPlace 3) = true := by kernel_rfl
theorem f_unf : (Rows.fieldFullsRow.unfollowed == Try.prog.unfollowed 3) = true := by kernel_rfl
theorem f_rec : (Rows.fieldFullsRow.recurses == Try.prog.recurses 3) = true := by kernel_rfl
theorem f_nam : (Rows.fieldFullsRow.named == Try.prog.varsNamed 3) = true := by kernel_rfl
theorem f_named : Try.prog.funcNamed Rows.fieldFullsRow.func = some 3 := by kernel_rfl
theorem f_noInit : Try.prog.inits.idxOf? 3 = none := by kernel_rfl
theorem closed : joinedFacts Try.prog 3 Try.f3 Rows.fieldFullsSpec Rows.fieldFullsRow = true :=
  closed_of f_wf laidOut mapsRowed f_par (by kernel_rfl) (by rfl) noStops (by rfl) noKnobs f_inp f_unf f_rec f_nam (by kernel_rfl) (by kernel_rfl) (by kernel_rfl) (by kernel_rfl) (by kernel_rfl) (by rfl) (by kernel_rfl) (by kernel_rfl) (by kernel_rfl) (by rw [plainKeys]; rfl) (by rfl) stopsHeard mayEnter (by rw [liftsFinal]; rfl) (by rw [make_cut]; rfl) (by rfl) (by rfl) (by kernel_rfl) (by kernel_rfl)

set_option maxRecDepth 100000 in
theorem lifted (os : Os) (started : os.Started) (H : Type) (enc : TypeId × Value → H) :
    ReturnsInHanded {} Try.checked os 3 .any (Rows.fieldFullsSpec.pre6 enc Try.prog Try.f3 Rows.fieldFullsRow.domain false) (Rows.fieldFullsSpec.post enc Try.prog Try.f3 false true false false) := by
  refine returnsInHanded_of_change_sized (C := Try.checked) own started f_noInit Try.func3
    (ChangeSpec.witness6 (enc := enc) (C := Try.checked) false ⟨#[], #[.slice none 0 0, .int .i64 0, .int .u32 0], []⟩ 8 (by kernel_rfl) (by kernel_rfl) (by kernel_rfl) (by kernel_rfl)) ?_
  intro W base args ds gs before hval hW _ hsz _
  exact contract H enc W base args ds gs before hval hW hsz

theorem over : Rows.fieldFullsRow.holds Try.pinned (OpenSpec.ofChange Rows.fieldFullsSpec) :=
  OpenClaim.holds_of_wide 3 Try.f3 rfl rfl rfl rfl rfl rfl rfl ⟨rfl, rfl, rfl, rfl, rfl⟩ rfl rfl rfl rfl rfl f_named Try.func3 closed
    (of_decide_eq_true (by kernel_rfl)) (by unfold Func.isWrapper; first | (rw [if_pos (by decide +kernel)]; kernel_rfl) | (rw [if_neg (by decide +kernel)]; exact ⟨rfl, rfl⟩))
    (fun os started H enc _ => lifted os started H enc)

theorem proved : Rows.FieldFullsSaid := over
end Go.Proofs.Ytkmcakneceagpaa.fieldFulls
