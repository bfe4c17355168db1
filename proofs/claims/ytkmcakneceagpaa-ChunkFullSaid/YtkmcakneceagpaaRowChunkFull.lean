/- 'aqueductlaw01.ChunkFull' answers true for every input; each argument reads behind the call as it read before. -/
import Derived.Test.YtkmcakneceagpaaRows
import Derived.Test.YtkmcakneceagpaaQueue
import Derived.Test.YtkmcakneceagpaaOpn
import Derived.Test.YtkmcakneceagpaaFacts
namespace Go.Proofs.Ytkmcakneceagpaa.chunkFull
open Go.ChangeShapes Go.WideShapes Go.ChangeAt Go.RowKit
set_option linter.unusedVariables false

set_option maxRecDepth 100000 in
theorem contract (H : Type) (enc : TypeId × Value → H) (W : World) (base : Nat) (args : Array Value) (ds gs : List (DataW H)) (before : List MemPlace)
    (hval : ∀ (j : Nat) t v, Try.f14.params[j]? = some t → args[j]? = some v → Value.okWide Try.prog W .any base t v)
    (hW : DataW.Whole enc Try.prog Try.f14.params.toList Rows.chunkFullSpec.vars false W args.toList ds gs before)
    (hsz : (DataW.weightsEach Try.prog (Try.f14.params.toList ++ []) (ds ++ gs)).all (· ≤ reachBytes) = true) :
    Calls Try.prog 14 args W fun e W' => ∃ v, e = .returned v ∧ Rows.chunkFullSpec.post enc Try.prog Try.f14 false true false false W args v W' := by
  have hW' := hW
  obtain ⟨p, q, hA0, hV, rfl, hfz, hnd⟩ := hW
  have hA : DataW.TrodAll enc Try.prog W 0 (fun _ => true) true Try.f14.params.toList args.toList ds p := hA0
  rw [Try.params14] at hA hval hsz
  obtain ⟨v0, vs0, d0, ds0, p0, q0, hargs, rfl, rfl, h0, r0⟩ := trodAll_cons hA
  obtain ⟨rfl, rfl, rfl⟩ := trodAll_nil r0
  obtain rfl : args = #[v0] := by cases args; simp_all
  obtain ⟨rfl, rfl⟩ := trodVars_none hV
  have hlast : ∀ W', Below W.heap.size W W' → DataW.TrodAll enc Try.prog W' 0 (fun b => decide (b < W.heap.size)) true Try.f14.params.toList #[v0].toList [d0] _ := fun W' bel => trodAll_below laidOut bel (by kernel_rfl) hA0
  clear hA0
  have t0 := Tr.of h0 0 rfl rfl hsz
  obtain ⟨k, rfl, _, _, w_k⟩ := open_int Try.underlying69 (hval 0 69 v0 rfl rfl) h0
  have hk0 : 0 ≤ k ∧ k < 65536 := by
    simp [Lit.wf, IntKind.min, IntKind.max, IntKind.signed, IntKind.bits] at w_k
    omega
  obtain ⟨k, rfl⟩ := Int.eq_ofNat_of_zero_le hk0.1
  have hk : k < 65536 := by omega
  refine (ChunkFull_walk k hk W).mono fun e W' ⟨he, hkp⟩ => ?_
  subst he
  exact ⟨_, rfl, _, _, _, [], _, [], hW', trodAll_mk1 (shut_bool Try.underlying4 _), hlast W' hkp.below, rfl, hkp.below.frame _, fun h => by cases h⟩

theorem f_wf : Rows.chunkFullRow.wf (OpenSpec.ofChange Rows.chunkFullSpec) = true := by kernel_rfl
theorem f_par : Try.f14.params.all (Try.prog.readableRec ·) = true := by kernel_rfl
theorem f_inp : (Rows.chunkFullRow.inPlace == Try.prog.inPlace 14) = true := by kernel_rfl
theorem f_unf : (Rows.chunkFullRow.unfollowed == Try.prog.unfollowed 14) = true := by kernel_rfl
theorem f_rec : (Rows.chunkFullRow.recurses == Try.prog.recurses 14) = true := by kernel_rfl
theorem f_nam : (Rows.chunkFullRow.named == Try.prog.varsNamed 14) = true := by kernel_rfl
theorem f_named : Try.prog.funcNamed Rows.chunkFullRow.func = some 14 := by kernel_rfl
theorem f_noInit : Try.prog.inits.idxOf? 14 = none := by kernel_rfl
theorem closed : joinedFacts Try.prog 14 Try.f14 Rows.chunkFullSpec Rows.chunkFullRow = true :=
  closed_of f_wf laidOut mapsRowed f_par (by kernel_rfl) (by rfl) noStops (by rfl) noKnobs f_inp f_unf f_rec f_nam (by kernel_rfl) (by kernel_rfl) (by kernel_rfl) (by kernel_rfl) (by kernel_rfl) (by rfl) (by kernel_rfl) (by kernel_rfl) (by kernel_rfl) (by rw [plainKeys]; rfl) (by rfl) stopsHeard mayEnter (by rw [liftsFinal]; rfl) (by rw [make_cut]; rfl) (by rfl) (by rfl) (by kernel_rfl) (by kernel_rfl)

set_option maxRecDepth 100000 in
theorem lifted (os : Os) (started : os.Started) (H : Type) (enc : TypeId × Value → H) :
    ReturnsInHanded {} Try.checked os 14 .any (Rows.chunkFullSpec.pre6 enc Try.prog Try.f14 Rows.chunkFullRow.domain false) (Rows.chunkFullSpec.post enc Try.prog Try.f14 false true false false) := by
  refine returnsInHanded_of_change_sized (C := Try.checked) own started f_noInit Try.func14
    (ChangeSpec.witness6 (enc := enc) (C := Try.checked) false ⟨#[], #[.int .u16 0], []⟩ 8 (by kernel_rfl) (by kernel_rfl) (by kernel_rfl) (by kernel_rfl)) ?_
  intro W base args ds gs before hval hW _ hsz _
  exact contract H enc W base args ds gs before hval hW hsz

theorem over : Rows.chunkFullRow.holds Try.pinned (OpenSpec.ofChange Rows.chunkFullSpec) :=
  OpenClaim.holds_of_wide 14 Try.f14 rfl rfl rfl rfl rfl rfl rfl ⟨rfl, rfl, rfl, rfl, rfl⟩ rfl rfl rfl rfl rfl f_named Try.func14 closed
    (of_decide_eq_true (by kernel_rfl)) (by unfold Func.isWrapper; first | (rw [if_pos (by decide +kernel)]; kernel_rfl) | (rw [if_neg (by decide +kernel)]; exact ⟨rfl, rfl⟩))
    (fun os started H enc _ => lifted os started H enc)

theorem proved : Rows.ChunkFullSaid := over
end Go.Proofs.Ytkmcakneceagpaa.chunkFull
