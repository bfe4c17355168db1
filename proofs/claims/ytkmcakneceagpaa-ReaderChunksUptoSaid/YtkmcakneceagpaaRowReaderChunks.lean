/- 'aqueductlaw08.ReaderChunks' answers true for every input, where what comes in is of bulk at most 1048576; each argument reads behind the call as it read before. -/
import Derived.Test.YtkmcakneceagpaaRows
import Derived.Test.YtkmcakneceagpaaRdChunks
import Derived.Test.YtkmcakneceagpaaBulk
import Derived.Test.YtkmcakneceagpaaGMem
import Derived.Test.YtkmcakneceagpaaFacts
import Derived.JoinedCond
import Derived.Deep.CondSized
set_option linter.unusedVariables false
namespace Go.Proofs.Ytkmcakneceagpaa.readerChunksUpto
open Go.ChangeShapes Go.WideShapes Go.ChangeAt Go.RowKit

set_option maxRecDepth 100000 in
theorem contract (H : Type) (enc : TypeId × Value → H) (W : World) (base : Nat) (args : Array Value) (ds gs : List (DataW H)) (before : List MemPlace)
    (hval : ∀ (j : Nat) t v, Try.f31.params[j]? = some t → args[j]? = some v → Value.okWide Try.prog W .any base t v)
    (hW : DataW.Whole enc Try.prog Try.f31.params.toList Rows.readerChunksSpec.vars false W args.toList ds gs before)
    (hsz : (DataW.weightsEach Try.prog (Try.f31.params.toList ++ []) (ds ++ gs)).all (· ≤ reachBytes) = true) (hk : Rows.uptoSmall H (ds ++ gs) = true) :
    Calls Try.prog 31 args W fun e W' => ∃ v, e = .returned v ∧ Rows.readerChunksSpec.post enc Try.prog Try.f31 false true false false W args v W' := by
  have hW' := hW
  obtain ⟨p, q, hA0, hV, rfl, hfz, hnd⟩ := hW
  have hA : DataW.TrodAll enc Try.prog W 0 (fun _ => true) true Try.f31.params.toList args.toList ds p := hA0
  rw [Try.params31] at hA hval hsz
  obtain ⟨v0, vs0, d0, ds0, p0, q0, hargs, rfl, rfl, h0, r0⟩ := trodAll_cons hA
  obtain ⟨v1, vs1, d1, ds1, p1, q1, rfl, rfl, rfl, h1, r1⟩ := trodAll_cons r0
  obtain ⟨v2, vs2, d2, ds2, p2, q2, rfl, rfl, rfl, h2, r2⟩ := trodAll_cons r1
  obtain ⟨rfl, rfl, rfl⟩ := trodAll_nil r2
  obtain rfl : args = #[v0, v1, v2] := by cases args; simp_all
  obtain ⟨rfl, rfl⟩ := trodVars_none hV
  have hlast : ∀ W', Below W.heap.size W W' → DataW.TrodAll enc Try.prog W' 0 (fun b => decide (b < W.heap.size)) true Try.f31.params.toList #[v0, v1, v2].toList [d0, d1, d2] _ := fun W' bel => trodAll_below laidOut bel (by kernel_rfl) hA0
  clear hA0
  have t0 := Tr.of h0 0 rfl rfl hsz
  obtain ⟨A_b, n_b, c_b, rfl⟩ := okWide_slice Try.underlying22 (hval 0 22 v0 rfl rfl)
  obtain ⟨A', n', c', l_b, he0, rd_b, le_b, lt_b, bk_b⟩ := t0.bytes Try.underlying22 Try.underlying5 (by kernel_rfl) (by kernel_rfl)
  simp only [Value.cells, List.cons.injEq, Value.slice.injEq, and_true] at he0
  obtain ⟨rfl, rfl, rfl⟩ := he0
  have t1 := Tr.of h1 1 rfl rfl hsz
  obtain ⟨A_s, n_s, c_s, rfl⟩ := okWide_slice Try.underlying22 (hval 1 22 v1 rfl rfl)
  obtain ⟨A', n', c', l_s, he1, rd_s, le_s, lt_s, bk_s⟩ := t1.bytes Try.underlying22 Try.underlying5 (by kernel_rfl) (by kernel_rfl)
  simp only [Value.cells, List.cons.injEq, Value.slice.injEq, and_true] at he1
  obtain ⟨rfl, rfl, rfl⟩ := he1
  have t2 := Tr.of h2 2 rfl rfl hsz
  obtain ⟨A_t, n_t, c_t, rfl⟩ := okWide_slice Try.underlying22 (hval 2 22 v2 rfl rfl)
  obtain ⟨A', n', c', l_t, he2, rd_t, le_t, lt_t, bk_t⟩ := t2.bytes Try.underlying22 Try.underlying5 (by kernel_rfl) (by kernel_rfl)
  simp only [Value.cells, List.cons.injEq, Value.slice.injEq, and_true] at he2
  obtain ⟨rfl, rfl, rfl⟩ := he2
  have hb := bulk_bound hk
  have b1 := bulk_slice bk_s
  have b2 := bulk_slice bk_t
  have hn1 : n_s ≤ 1048576 := by
    simp only [Rows.uptoBulkAll, List.append_nil] at hb
    omega
  have hn2 : n_t ≤ 1048576 := by
    simp only [Rows.uptoBulkAll, List.append_nil] at hb
    omega
  refine (ReaderChunks_walk A_b n_b c_b l_b A_s n_s c_s l_s A_t n_t c_t l_t W rd_b rd_s hn1 rd_t hn2).mono fun e W' ⟨he, hkp⟩ => ?_
  subst he
  exact ⟨_, rfl, _, _, _, [], _, [], hW', trodAll_mk1 (shut_bool Try.underlying4 _), hlast W' hkp.below, rfl, hkp.below.frame _, fun h => by cases h⟩

theorem f_wf : Rows.readerChunksUptoRow.wf (OpenSpec.ofChange (Rows.OpenSpec.upto Rows.readerChunksSpec).bare) = true := by kernel_rfl
theorem f_par : Try.f31.params.all (Try.prog.readableRec ·) = true := by kernel_rfl
theorem f_inp : (Rows.readerChunksUptoRow.inPlace == Try.prog.inPlace 31) = true := by kernel_rfl
theorem f_unf : (Rows.readerChunksUptoRow.unfollowed == Try.prog.unfollowed 31) = true := by kernel_rfl
theorem f_rec : (Rows.readerChunksUptoRow.recurses == Try.prog.recurses 31) = true := by kernel_rfl
theorem f_nam : (Rows.readerChunksUptoRow.named == Try.prog.varsNamed 31) = true := by kernel_rfl
theorem f_named : Try.prog.funcNamed Rows.readerChunksUptoRow.func = some 31 := by kernel_rfl
theorem f_noInit : Try.prog.inits.idxOf? 31 = none := by kernel_rfl
theorem closed : joinedFacts Try.prog 31 Try.f31 (Rows.OpenSpec.upto Rows.readerChunksSpec).bare Rows.readerChunksUptoRow = true :=
  closed_of f_wf laidOut mapsRowed f_par (by kernel_rfl) (by rfl) noStops (by rfl) noKnobs f_inp f_unf f_rec f_nam (by kernel_rfl) (by kernel_rfl) (by kernel_rfl) (by kernel_rfl) (by kernel_rfl) (by rfl) (by kernel_rfl) (by kernel_rfl) (by kernel_rfl) (by rw [plainKeys]; rfl) (by rfl) stopsHeard mayEnter (by rw [liftsFinal]; rfl) (by rw [make_cut]; rfl) (by rfl) (by rfl) (by kernel_rfl) (by kernel_rfl)

set_option maxRecDepth 100000 in
theorem lifted (os : Os) (started : os.Started) (H : Type) (enc : TypeId × Value → H) (F : Stop.Interp) :
    ReturnsInHanded {} Try.checked os 31 .any ((Rows.OpenSpec.upto Rows.readerChunksSpec).pre6 enc Try.prog Try.f31 Rows.readerChunksUptoRow.domain false) (((Rows.OpenSpec.upto Rows.readerChunksSpec).at F).post enc Try.prog Try.f31 false true false false) := by
  refine returnsInHanded_of_cond_sized (C := Try.checked) (s := Rows.OpenSpec.upto Rows.readerChunksSpec) (k := Rows.uptoSmall) rfl own started f_noInit Try.func31
    (OpenSpec.witness (enc := enc) (C := Try.checked) (s := Rows.OpenSpec.upto Rows.readerChunksSpec) (k := Rows.uptoSmall) rfl false ⟨#[], #[.slice none 0 0, .slice none 0 0, .slice none 0 0], []⟩ 8 (by kernel_rfl) (by kernel_rfl) (by kernel_rfl)
      (x := ([.nil, .nil, .nil], [], [])) (by kernel_rfl) rfl (by kernel_rfl)) ?_
  intro W base args ds gs before hval hW _ hk hsz _
  exact contract H enc W base args ds gs before hval hW hsz hk

theorem over : Rows.readerChunksUptoRow.holds Try.pinned (Rows.OpenSpec.upto Rows.readerChunksSpec) :=
  OpenClaim.holds_of_cond 31 Try.f31 rfl rfl rfl rfl rfl rfl rfl ⟨rfl, rfl, rfl, rfl, rfl⟩ rfl rfl rfl rfl rfl f_named Try.func31 closed
    (of_decide_eq_true (by kernel_rfl)) (by unfold Func.isWrapper; first | (rw [if_pos (by decide +kernel)]; kernel_rfl) | (rw [if_neg (by decide +kernel)]; exact ⟨rfl, rfl⟩))
    (fun os started H enc _ F => lifted os started H enc F)

theorem proved : Rows.ReaderChunksUptoSaid := over
end Go.Proofs.Ytkmcakneceagpaa.readerChunksUpto
