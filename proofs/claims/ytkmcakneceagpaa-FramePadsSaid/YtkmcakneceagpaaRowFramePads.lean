/- 'aqueductlaw07.FramePads' answers true for every input; each argument reads behind the call as it read before. -/
import Derived.Test.YtkmcakneceagpaaRows
import Derived.Test.YtkmcakneceagpaaFrmPads
import Derived.Test.YtkmcakneceagpaaOpn
import Derived.Test.YtkmcakneceagpaaFacts
namespace Go.Proofs.Ytkmcakneceagpaa.framePads
open Go.ChangeShapes Go.WideShapes Go.ChangeAt Go.RowKit
set_option linter.unusedVariables false

set_option maxRecDepth 100000 in
theorem contract (H : Type) (enc : TypeId × Value → H) (W : World) (base : Nat) (args : Array Value) (ds gs : List (DataW H)) (before : List MemPlace)
    (hval : ∀ (j : Nat) t v, Try.f28.params[j]? = some t → args[j]? = some v → Value.okWide Try.prog W .any base t v)
    (hW : DataW.Whole enc Try.prog Try.f28.params.toList Rows.framePadsSpec.vars false W args.toList ds gs before)
    (hsz : (DataW.weightsEach Try.prog (Try.f28.params.toList ++ []) (ds ++ gs)).all (· ≤ reachBytes) = true) :
    Calls Try.prog 28 args W fun e W' => ∃ v, e = .returned v ∧ Rows.framePadsSpec.post enc Try.prog Try.f28 false true false false W args v W' := by
  have hW' := hW
  obtain ⟨p, q, hA0, hV, rfl, hfz, hnd⟩ := hW
  have hA : DataW.TrodAll enc Try.prog W 0 (fun _ => true) true Try.f28.params.toList args.toList ds p := hA0
  rw [Try.params28] at hA hval hsz
  obtain ⟨v0, vs0, d0, ds0, p0, q0, hargs, rfl, rfl, h0, r0⟩ := trodAll_cons hA
  obtain ⟨v1, vs1, d1, ds1, p1, q1, rfl, rfl, rfl, h1, r1⟩ := trodAll_cons r0
  obtain ⟨v2, vs2, d2, ds2, p2, q2, rfl, rfl, rfl, h2, r2⟩ := trodAll_cons r1
  obtain ⟨rfl, rfl, rfl⟩ := trodAll_nil r2
  obtain rfl : args = #[v0, v1, v2] := by cases args; simp_all
  obtain ⟨rfl, rfl⟩ := trodVars_none hV
  have hlast : ∀ W', Below W.heap.size W W' → DataW.TrodAll enc Try.prog W' 0 (fun b => decide (b < W.heap.size)) true Try.f28.params.toList #[v0, v1, v2].toList [d0, d1, d2] _ := fun W' bel => trodAll_below laidOut bel (by kernel_rfl) hA0
  clear hA0
  have t0 := Tr.of h0 0 rfl rfl hsz
  obtain ⟨A_b, n_b, c_b, rfl⟩ := okWide_slice Try.underlying22 (hval 0 22 v0 rfl rfl)
  obtain ⟨A', n', c', l_b, he0, rd_b, le_b, lt_b, bk_b⟩ := t0.bytes Try.underlying22 Try.underlying5 (by kernel_rfl) (by kernel_rfl)
  simp only [Value.cells, List.cons.injEq, Value.slice.injEq, and_true] at he0
  obtain ⟨rfl, rfl, rfl⟩ := he0
  have t1 := Tr.of h1 1 rfl rfl hsz
  obtain ⟨k, rfl, _, _, w_k⟩ := open_int Try.underlying5 (hval 1 5 v1 rfl rfl) h1
  have t2 := Tr.of h2 2 rfl rfl hsz
  obtain ⟨s, rfl, _, _, w_s⟩ := open_int Try.underlying23 (hval 2 23 v2 rfl rfl) h2
  have hk0 : 0 ≤ k ∧ k < 256 := by
    simp [Lit.wf, IntKind.min, IntKind.max, IntKind.signed, IntKind.bits] at w_k
    omega
  obtain ⟨k, rfl⟩ := Int.eq_ofNat_of_zero_le hk0.1
  have hk1 : k < 256 := by omega
  have hs0 : 0 ≤ s ∧ s < 4294967296 := by
    simp [Lit.wf, IntKind.min, IntKind.max, IntKind.signed, IntKind.bits] at w_s
    omega
  obtain ⟨s, rfl⟩ := Int.eq_ofNat_of_zero_le hs0.1
  have hs1 : s < 4294967296 := by omega
  refine (FramePads_walk A_b n_b c_b l_b k hk1 s hs1 W rd_b le_b).mono fun e W' ⟨he, hkp⟩ => ?_
  subst he
  exact ⟨_, rfl, _, _, _, [], _, [], hW', trodAll_mk1 (shut_bool Try.underlying4 _), hlast W' hkp.below, rfl, hkp.below.frame _, fun h => by cases h⟩

theorem f_wf : Rows.framePadsRow.wf (OpenSpec.ofChange Rows.framePadsSpec) = true := by kernel_rfl
theorem f_par : Try.f28.params.all (Try.prog.readableRec ·) = true := by kernel_rfl
theorem f_inp : (Rows.framePadsRow.inPlace == Try.prog.inPlace 28) = true := by kernel_rfl
theorem f_unf : (Rows.framePadsRow.unfollowed == Try.prog.unfollowed 28) = true := by kernel_rfl
theorem f_rec : (Rows.framePadsRow.recurses == Try.prog.recurses 28) = true := by kernel_rfl
theorem f_nam : (Rows.framePadsRow.named == Try.prog.varsNamed 28) = true := by kernel_rfl
theorem f_named : Try.prog.funcNamed Rows.framePadsRow.func = some 28 := by kernel_rfl
theorem f_noInit : Try.prog.inits.idxOf? 28 = none := by kernel_rfl
theorem closed : joinedFacts Try.prog 28 Try.f28 Rows.framePadsSpec Rows.framePadsRow = true :=
  closed_of f_wf laidOut mapsRowed f_par (by kernel_rfl) (by rfl) noStops (by rfl) noKnobs f_inp f_unf f_rec f_nam (by kernel_rfl) (by kernel_rfl) (by kernel_rfl) (by kernel_rfl) (by kernel_rfl) (by rfl) (by kernel_rfl) (by kernel_rfl) (by kernel_rfl) (by rw [plainKeys]; rfl) (by rfl) stopsHeard mayEnter (by rw [liftsFinal]; rfl) (by rw [make_cut]; rfl) (by rfl) (by rfl) (by kernel_rfl) (by kernel_rfl)

set_option maxRecDepth 100000 in
theorem lifted (os : Os) (started : os.Started) (H : Type) (enc : TypeId × Value → H) :
    ReturnsInHanded {} Try.checked os 28 .any (Rows.framePadsSpec.pre6 enc Try.prog Try.f28 Rows.framePadsRow.domain false) (Rows.framePadsSpec.post enc Try.prog Try.f28 false true false false) := by
  refine returnsInHanded_of_change_sized (C := Try.checked) own started f_noInit Try.func28
    (ChangeSpec.witness6 (enc := enc) (C := Try.checked) false ⟨#[], #[.slice none 0 0, .int .u8 0, .int .u32 0], []⟩ 8 (by kernel_rfl) (by kernel_rfl) (by kernel_rfl) (by kernel_rfl)) ?_
  intro W base args ds gs before hval hW _ hsz _
  exact contract H enc W base args ds gs before hval hW hsz

theorem over : Rows.framePadsRow.holds Try.pinned (OpenSpec.ofChange Rows.framePadsSpec) :=
  OpenClaim.holds_of_wide 28 Try.f28 rfl rfl rfl rfl rfl rfl rfl ⟨rfl, rfl, rfl, rfl, rfl⟩ rfl rfl rfl rfl rfl f_named Try.func28 closed
    (of_decide_eq_true (by kernel_rfl)) (by unfold Func.isWrapper; first | (rw [if_pos (by decide +kernel)]; kernel_rfl) | (rw [if_neg (by decide +kernel)]; exact ⟨rfl, rfl⟩))
    (fun os started H enc _ => lifted os started H enc)

theorem proved : Rows.FramePadsSaid := over
end Go.Proofs.Ytkmcakneceagpaa.framePads
