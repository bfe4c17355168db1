/- 'aqueductlaw12.BlockJoins' answers true for every input; each argument reads behind the call as it read before. -/
import Derived.Test.YtibeaombhjdakaaRows
import Derived.Test.YtibeaombhjdakaaJoins
import Derived.Test.YtibeaombhjdakaaOpn
import Derived.Test.YtibeaombhjdakaaFacts
namespace Go.Proofs.Ytibeaombhjdakaa.blockJoins
open Go.ChangeShapes Go.WideShapes Go.ChangeAt Go.RowKit
set_option linter.unusedVariables false

set_option maxRecDepth 100000 in
theorem contract (H : Type) (enc : TypeId × Value → H) (W : World) (base : Nat) (args : Array Value) (ds gs : List (DataW H)) (before : List MemPlace)
    (hval : ∀ (j : Nat) t v, Try.f3.params[j]? = some t → args[j]? = some v → Value.okWide Try.prog W .any base t v)
    (hW : DataW.Whole enc Try.prog Try.f3.params.toList Rows.blockJoinsSpec.vars false W args.toList ds gs before)
    (hsz : (DataW.weightsEach Try.prog (Try.f3.params.toList ++ []) (ds ++ gs)).all (· ≤ reachBytes) = true) :
    Calls Try.prog 3 args W fun e W' => ∃ v, e = .returned v ∧ Rows.blockJoinsSpec.post enc Try.prog Try.f3 false true false false W args v W' := by
  have hW' := hW
  obtain ⟨p, q, hA0, hV, rfl, hfz, hnd⟩ := hW
  have hA : DataW.TrodAll enc Try.prog W 0 (fun _ => true) true Try.f3.params.toList args.toList ds p := hA0
  rw [Try.params3] at hA hval hsz
  obtain ⟨v0, vs0, d0, ds0, p0, q0, hargs, rfl, rfl, h0, r0⟩ := trodAll_cons hA
  obtain ⟨v1, vs1, d1, ds1, p1, q1, rfl, rfl, rfl, h1, r1⟩ := trodAll_cons r0
  obtain ⟨rfl, rfl, rfl⟩ := trodAll_nil r1
  obtain rfl : args = #[v0, v1] := by cases args; simp_all
  obtain ⟨rfl, rfl⟩ := trodVars_none hV
  have hlast : ∀ W', Below W.heap.size W W' → DataW.TrodAll enc Try.prog W' 0 (fun b => decide (b < W.heap.size)) true Try.f3.params.toList #[v0, v1].toList [d0, d1] _ := fun W' bel => trodAll_below laidOut bel (by kernel_rfl) hA0
  clear hA0
  have t0 := Tr.of h0 0 rfl rfl hsz
  obtain ⟨k, rfl, _, _, w_k⟩ := open_int Try.underlying3 (hval 0 3 v0 rfl rfl) h0
  have t1 := Tr.of h1 1 rfl rfl hsz
  obtain ⟨A_s, n_s, c_s, rfl⟩ := okWide_slice Try.underlying22 (hval 1 22 v1 rfl rfl)
  obtain ⟨A', n', c', he1, ok_s, nc_s, le_s, bk_s⟩ := t1.frames
  simp only [Value.cells, List.cons.injEq, Value.slice.injEq, and_true] at he1
  obtain ⟨rfl, rfl, rfl⟩ := he1
  refine (BlockJoins_walk k A_s n_s c_s W ok_s nc_s le_s).mono fun e W' ⟨he, hkp⟩ => ?_
  subst he
  exact ⟨_, rfl, _, _, _, [], _, [], hW', trodAll_mk1 (shut_bool Try.underlying4 _), hlast W' hkp.below, rfl, hkp.below.frame _, fun h => by cases h⟩

theorem f_wf : Rows.blockJoinsRow.wf (OpenSpec.ofChange Rows.blockJoinsSpec) = true := by kernel_rfl
theorem f_par : Try.f3.params.all (Try.prog.readableRec ·) = true := by kernel_rfl
theorem f_inp : (Rows.blockJoinsRow.inPlace == Try.prog.inPlace 3) = true := by kernel_rfl
theorem f_unf : (Rows.blockJoinsRow.unfollowed == Try.prog.unfollowed 3) = true := by kernel_rfl
theorem f_rec : (Rows.blockJoinsRow.recurses == Try.prog.recurses 3) = true := by kernel_rfl
theorem f_nam : (Rows.blockJoinsRow.named == Try.prog.varsNamed 3) = true := by kernel_rfl
theorem f_named : Try.prog.funcNamed Rows.blockJoinsRow.func = some 3 := by kernel_rfl
theorem f_noInit : Try.prog.inits.idxOf? 3 = none := by kernel_rfl
theorem closed : joinedFacts Try.prog 3 Try.f3 Rows.blockJoinsSpec Rows.blockJoinsRow = true :=
  closed_of f_wf laidOut mapsRowed f_par (by kernel_rfl) (by rfl) noStops (by rfl) noKnobs f_inp f_unf f_rec f_nam (by kernel_rfl) (by kernel_rfl) (by kernel_rfl) (by kernel_rfl) (by kernel_rfl) (by rfl) (by kernel_rfl) (by kernel_rfl) (by kernel_rfl) (by rw [plainKeys]; rfl) (by rfl) stopsHeard mayEnter (by rw [liftsFinal]; rfl) (by rw [make_cut]; rfl) (by rfl) (by rfl) (by kernel_rfl) (by kernel_rfl)

set_option maxRecDepth 100000 in
theorem lifted (os : Os) (started : os.Started) (H : Type) (enc : TypeId × Value → H) :
    ReturnsInHanded {} Try.checked os 3 .any (Rows.blockJoinsSpec.pre6 enc Try.prog Try.f3 Rows.blockJoinsRow.domain false) (Rows.blockJoinsSpec.post enc Try.prog Try.f3 false true false false) := by
  refine returnsInHanded_of_change_sized (C := Try.checked) own started f_noInit Try.func3
    (ChangeSpec.witness6 (enc := enc) (C := Try.checked) false ⟨#[], #[.int .i64 0, .slice none 0 0], []⟩ 8 (by kernel_rfl) (by kernel_rfl) (by kernel_rfl) (by kernel_rfl)) ?_
  intro W base args ds gs before hval hW _ hsz _
  exact contract H enc W base args ds gs before hval hW hsz

theorem over : Rows.blockJoinsRow.holds Try.pinned (OpenSpec.ofChange Rows.blockJoinsSpec) :=
  OpenClaim.holds_of_wide 3 Try.f3 rfl rfl rfl rfl rfl rfl rfl ⟨rfl, rfl, rfl, rfl, rfl⟩ rfl rfl rfl rfl rfl f_named Try.func3 closed
    (of_decide_eq_true (by kernel_rfl)) (by unfold Func.isWrapper; first | (rw [if_pos (by decide +kernel)]; kernel_rfl) | (rw [if_neg (by decide +kernel)]; exact ⟨rfl, rfl⟩))
    (fun os started H enc _ => lifted os started H enc)

theorem proved : Rows.BlockJoinsSaid := over
end Go.Proofs.Ytibeaombhjdakaa.blockJoins
