/- 'aqueductlaw08.ReaderFrames' answers true for every input, where what comes in is of bulk at most 1048576; each argument reads behind the call as it read before. -/
import Derived.Test.YtkmcakneceagpaaRows
import Derived.Test.YtkmcakneceagpaaRdFrames
import Derived.Test.YtkmcakneceagpaaBulk
import Derived.Test.YtkmcakneceagpaaGMem
import Derived.Test.YtkmcakneceagpaaFacts
import Derived.JoinedCond
import Derived.Deep.CondSized
set_option linter.unusedVariables false
namespace Go.Proofs.Ytkmcakneceagpaa.readerFramesUpto
open Go.ChangeShapes Go.WideShapes Go.ChangeAt Go.RowKit

set_option maxRecDepth 100000 in
theorem contract (H : Type) (enc : TypeId × Value → H) (W : World) (base : Nat) (args : Array Value) (ds gs : List (DataW H)) (before : List MemPlace)
    (hval : ∀ (j : Nat) t v, Try.f33.params[j]? = some t → args[j]? = some v → Value.okWide Try.prog W .any base t v)
    (hW : DataW.Whole enc Try.prog Try.f33.params.toList Rows.readerFramesSpec.vars false W args.toList ds gs before)
    (hsz : (DataW.weightsEach Try.prog (Try.f33.params.toList ++ []) (ds ++ gs)).all (· ≤ reachBytes) = true) (hk : Rows.uptoSmall H (ds ++ gs) = true) :
    Calls Try.prog 33 args W fun e W' => ∃ v, e = .returned v ∧ Rows.readerFramesSpec.post enc Try.prog Try.f33 false true false false W args v W' := by
  have hW' := hW
  obtain ⟨p, q, hA0, hV, rfl, hfz, hnd⟩ := hW
  have hA : DataW.TrodAll enc Try.prog W 0 (fun _ => true) true Try.f33.params.toList args.toList ds p := hA0
  rw [Try.params33] at hA hval hsz
  obtain ⟨v0, vs0, d0, ds0, p0, q0, hargs, rfl, rfl, h0, r0⟩ := trodAll_cons hA
  obtain ⟨v1, vs1, d1, ds1, p1, q1, rfl, rfl, rfl, h1, r1⟩ := trodAll_cons r0
  obtain ⟨rfl, rfl, rfl⟩ := trodAll_nil r1
  obtain rfl : args = #[v0, v1] := by cases args; simp_all
  obtain ⟨rfl, rfl⟩ := trodVars_none hV
  have hlast : ∀ W', Below W.heap.size W W' → DataW.TrodAll enc Try.prog W' 0 (fun b => decide (b < W.heap.size)) true Try.f33.params.toList #[v0, v1].toList [d0, d1] _ := fun W' bel => trodAll_below laidOut bel (by kernel_rfl) hA0
  clear hA0
  have t0 := Tr.of h0 0 rfl rfl hsz
  obtain ⟨A_s, n_s, c_s, rfl⟩ := okWide_slice Try.underlying41 (hval 0 41 v0 rfl rfl)
  have t1 := Tr.of h1 1 rfl rfl hsz
  obtain ⟨A_b, n_b, c_b, rfl⟩ := okWide_slice Try.underlying22 (hval 1 22 v1 rfl rfl)
  obtain ⟨A', n', c', l_b, he1, rd_b, le_b, lt_b, bk_b⟩ := t1.bytes Try.underlying22 Try.underlying5 (by kernel_rfl) (by kernel_rfl)
  simp only [Value.cells, List.cons.injEq, Value.slice.injEq, and_true] at he1
  obtain ⟨rfl, rfl, rfl⟩ := he1
  obtain ⟨A', n', c', he0, ok_s, nc_s, le_s, bk_s⟩ := t0.frames
  simp only [Value.cells, List.cons.injEq, Value.slice.injEq, and_true] at he0
  obtain ⟨rfl, rfl, rfl⟩ := he0
  have hb := bulk_bound hk
  have b1 := bulk_slice bk_s
  have hn : n_s ≤ 1048576 := by
    simp only [Rows.uptoBulkAll, List.append_nil] at hb
    omega
  refine (ReaderFrames_walk A_s n_s c_s A_b n_b c_b l_b W ok_s hn rd_b le_b).mono fun e W' ⟨he, hkp⟩ => ?_
  subst he
  exact ⟨_, rfl, _, _, _, [], _, [], hW', trodAll_mk1 (shut_bool Try.underlying4 _), hlast W' hkp.below, rfl, hkp.below.frame _, fun h => by cases h⟩

theorem f_wf : Rows.readerFramesUptoRow.wf (OpenSpec.ofChange (Rows.OpenSpec.upto Rows.readerFramesSpec).bare) = true := by kernel_rfl
theorem f_par : Try.f33.params.all (Try.prog.readableRec ·) = true := by kernel_rfl
theorem f_inp : (Rows.readerFramesUptoRow.inPlace == Try.prog.inPlace 33) = true := by kernel_rfl
theorem f_unf : (Rows.readerFramesUptoRow.unfollowed == Try.prog.unfollowed 33) = true := by kernel_rfl
theorem f_rec : (Rows.readerFramesUptoRow.recurses == Try.prog.recurses 33) = true := by kernel_rfl
theorem f_nam : (Rows.readerFramesUptoRow.named == Try.prog.varsNamed 33) = true := by kernel_rfl
theorem f_named : Try.prog.funcNamed Rows.readerFramesUptoRow.func = some 33 := by kernel_rfl
theorem f_noInit : Try.prog.inits.idxOf? 33 = none := by kernel_rfl
theorem closed : joinedFacts Try.prog 33 Try.f33 (Rows.OpenSpec.upto Rows.readerFramesSpec).bare Rows.readerFramesUptoRow = true :=
  closed_of f_wf laidOut mapsRowed f_par (by kernel_rfl) (by rfl) noStops (by rfl) noKnobs f_inp f_unf f_rec f_nam (by kernel_rfl) (by kernel_rfl) (by kernel_rfl) (by kernel_rfl) (by kernel_rfl) (by rfl) (by kernel_rfl) (by kernel_rfl) (by kernel_rfl) (by rw [plainKeys]; rfl) (by rfl) stopsHeard mayEnter (by rw [liftsFinal]; rfl) (by rw [make_cut]; rfl) (by rfl) (by rfl) (by kernel_rfl) (by kernel_rfl)

set_option maxRecDepth 100000 in
theorem lifted (os : Os) (started : os.Started) (H : Type) (enc : TypeId × Value → H) (F : Stop.Interp) :
    ReturnsInHanded {} Try.checked os 33 .any ((Rows.OpenSpec.upto Rows.readerFramesSpec).pre6 enc Try.prog Try.f33 Rows.readerFramesUptoRow.domain false) (((Rows.OpenSpec.upto Rows.readerFramesSpec).at F).post enc Try.prog Try.f33 false true false false) := by
  refine returnsInHanded_of_cond_sized (C := Try.checked) (s := Rows.OpenSpec.upto Rows.readerFramesSpec) (k := Rows.uptoSmall) rfl own started f_noInit Try.func33
    (OpenSpec.witness (enc := enc) (C := Try.checked) (s := Rows.OpenSpec.upto Rows.readerFramesSpec) (k := Rows.uptoSmall) rfl false ⟨#[], #[.slice none 0 0, .slice none 0 0], []⟩ 8 (by kernel_rfl) (by kernel_rfl) (by kernel_rfl)
      (x := ([.nil, .nil], [], [])) (by kernel_rfl) rfl (by kernel_rfl)) ?_
  intro W base args ds gs before hval hW _ hk hsz _
  exact contract H enc W base args ds gs before hval hW hsz hk

theorem over : Rows.readerFramesUptoRow.holds Try.pinned (Rows.OpenSpec.upto Rows.readerFramesSpec) :=
  OpenClaim.holds_of_cond 33 Try.f33 rfl rfl rfl rfl rfl rfl rfl ⟨rfl, rfl, rfl, rfl, rfl⟩ rfl rfl rfl rfl rfl f_named Try.func33 closed
    (of_decide_eq_true (by kernel_rfl)) (by unfold Func.isWrapper; first | (rw [if_pos (by decide +kernel)]; kernel_rfl) | (rw [if_neg (by decide +kernel)]; exact ⟨rfl, rfl⟩))
    (fun os started H enc _ F => lifted os started H enc F)

theorem proved : Rows.ReaderFramesUptoSaid := over
end Go.Proofs.Ytkmcakneceagpaa.readerFramesUpto
