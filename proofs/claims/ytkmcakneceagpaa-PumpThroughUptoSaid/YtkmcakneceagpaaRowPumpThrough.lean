/- 'aqueductlaw20.PumpThrough' answers true for every input, where what comes in is of bulk at most 1048576; each argument reads behind the call as it read before. -/
import Derived.Test.YtkmcakneceagpaaRows
import Derived.Test.YtkmcakneceagpaaOpnPar
import Derived.Test.YtkmcakneceagpaaOpnHdr
import Derived.Test.YtkmcakneceagpaaThrough
import Derived.Test.YtkmcakneceagpaaBulk
import Derived.Test.YtkmcakneceagpaaOpn
import Derived.Test.YtkmcakneceagpaaFacts
import Derived.JoinedCond
import Derived.Deep.CondSized
namespace Go.Proofs.Ytkmcakneceagpaa.pumpThroughUpto
open Go.ChangeShapes Go.WideShapes Go.ChangeAt Go.RowKit
set_option linter.unusedVariables false

set_option maxRecDepth 100000 in
theorem contract (H : Type) (enc : TypeId × Value → H) (W : World) (base : Nat) (args : Array Value) (ds gs : List (DataW H)) (before : List MemPlace)
    (hval : ∀ (j : Nat) t v, Try.f19.params[j]? = some t → args[j]? = some v → Value.okWide Try.prog W .any base t v)
    (hW : DataW.Whole enc Try.prog Try.f19.params.toList Rows.pumpThroughSpec.vars false W args.toList ds gs before)
    (hsz : (DataW.weightsEach Try.prog (Try.f19.params.toList ++ []) (ds ++ gs)).all (· ≤ reachBytes) = true) (hk : Rows.uptoSmall H (ds ++ gs) = true) :
    Calls Try.prog 19 args W fun e W' => ∃ v, e = .returned v ∧ Rows.pumpThroughSpec.post enc Try.prog Try.f19 false true false false W args v W' := by
  have hW' := hW
  obtain ⟨p, q, hA0, hV, rfl, hfz, hnd⟩ := hW
  have hA : DataW.TrodAll enc Try.prog W 0 (fun _ => true) true Try.f19.params.toList args.toList ds p := hA0
  rw [Try.params19] at hA hval hsz
  obtain ⟨v0, vs0, d0, ds0, p0, q0, hargs, rfl, rfl, h0, r0⟩ := trodAll_cons hA
  obtain ⟨v1, vs1, d1, ds1, p1, q1, rfl, rfl, rfl, h1, r1⟩ := trodAll_cons r0
  obtain ⟨v2, vs2, d2, ds2, p2, q2, rfl, rfl, rfl, h2, r2⟩ := trodAll_cons r1
  obtain ⟨v3, vs3, d3, ds3, p3, q3, rfl, rfl, rfl, h3, r3⟩ := trodAll_cons r2
  obtain ⟨v4, vs4, d4, ds4, p4, q4, rfl, rfl, rfl, h4, r4⟩ := trodAll_cons r3
  obtain ⟨rfl, rfl, rfl⟩ := trodAll_nil r4
  obtain rfl : args = #[v0, v1, v2, v3, v4] := by cases args; simp_all
  obtain ⟨rfl, rfl⟩ := trodVars_none hV
  have hlast : ∀ W', Below W.heap.size W W' → DataW.TrodAll enc Try.prog W' 0 (fun b => decide (b < W.heap.size)) true Try.f19.params.toList #[v0, v1, v2, v3, v4].toList [d0, d1, d2, d3, d4] _ := fun W' bel => trodAll_below laidOut bel (by kernel_rfl) hA0
  clear hA0
  have t0 := Tr.of h0 0 rfl rfl hsz
  obtain ⟨k, rfl, _, _, w_k⟩ := open_int Try.underlying5 (hval 0 5 v0 rfl rfl) h0
  have t1 := Tr.of h1 1 rfl rfl hsz
  obtain ⟨A_s, n_s, c_s, rfl⟩ := okWide_slice Try.underlying86 (hval 1 86 v1 rfl rfl)
  have t2 := Tr.of h2 2 rfl rfl hsz
  obtain ⟨A_b, n_b, c_b, rfl⟩ := okWide_slice Try.underlying22 (hval 2 22 v2 rfl rfl)
  obtain ⟨A', n', c', l_b, he2, rd_b, le_b, lt_b, bk_b⟩ := t2.bytes Try.underlying22 Try.underlying5 (by kernel_rfl) (by kernel_rfl)
  simp only [Value.cells, List.cons.injEq, Value.slice.injEq, and_true] at he2
  obtain ⟨rfl, rfl, rfl⟩ := he2
  have t3 := Tr.of h3 3 rfl rfl hsz
  obtain ⟨A_t, n_t, c_t, rfl⟩ := okWide_slice Try.underlying110 (hval 3 110 v3 rfl rfl)
  have t4 := Tr.of h4 4 rfl rfl hsz
  obtain ⟨r, rfl, _, _⟩ := open_bool Try.underlying4 (hval 4 4 v4 rfl rfl) h4
  have hk0 : 0 ≤ k ∧ k < 256 := by
    simp [Lit.wf, IntKind.min, IntKind.max, IntKind.signed, IntKind.bits] at w_k
    omega
  obtain ⟨k, rfl⟩ := Int.eq_ofNat_of_zero_le hk0.1
  have hk1 : k < 256 := by omega
  obtain ⟨A', n', c', he1, ok_s, le_s, bk_s⟩ := t1.parts
  simp only [Value.cells, List.cons.injEq, Value.slice.injEq, and_true] at he1
  obtain ⟨rfl, rfl, rfl⟩ := he1
  obtain ⟨A', n', c', hs_t, he3, ok_t, le_t, bk_t⟩ := t3.hdrs
  simp only [Value.cells, List.cons.injEq, Value.slice.injEq, and_true] at he3
  obtain ⟨rfl, rfl, rfl⟩ := he3
  have hb := bulk_bound hk
  have b1 := bulk_slice bk_s
  have hn : n_s ≤ 1048576 := by
    simp only [Rows.uptoBulkAll, List.append_nil] at hb
    omega
  refine (PumpThrough_walk k hk1 A_s n_s c_s A_b n_b c_b l_b A_t n_t c_t hs_t r W ok_s hn rd_b (by omega) ok_t le_t).mono fun e W' ⟨he, hkp⟩ => ?_
  subst he
  exact ⟨_, rfl, _, _, _, [], _, [], hW', trodAll_mk1 (shut_bool Try.underlying4 _), hlast W' hkp.below, rfl, hkp.below.frame _, fun h => by cases h⟩

theorem f_wf : Rows.pumpThroughUptoRow.wf (OpenSpec.ofChange (Rows.OpenSpec.upto Rows.pumpThroughSpec).bare) = true := by kernel_rfl
theorem f_par : Try.f19.params.all (Try.prog.readableRec ·) = true := by kernel_rfl
theorem f_inp : (Rows.pumpThroughUptoRow.inPlace == Try.prog.inPlace 19) = true := by kernel_rfl
theorem f_unf : (Rows.pumpThroughUptoRow.unfollowed == Try.prog.unfollowed 19) = true := by kernel_rfl
theorem f_rec : (Rows.pumpThroughUptoRow.recurses == Try.prog.recurses 19) = true := by kernel_rfl
theorem f_nam : (Rows.pumpThroughUptoRow.named == Try.prog.varsNamed 19) = true := by kernel_rfl
theorem f_named : Try.prog.funcNamed Rows.pumpThroughUptoRow.func = some 19 := by kernel_rfl
theorem f_noInit : Try.prog.inits.idxOf? 19 = none := by kernel_rfl
theorem closed : joinedFacts Try.prog 19 Try.f19 (Rows.OpenSpec.upto Rows.pumpThroughSpec).bare Rows.pumpThroughUptoRow = true :=
  closed_of f_wf laidOut mapsRowed f_par (by kernel_rfl) (by rfl) noStops (by rfl) noKnobs f_inp f_unf f_rec f_nam (by kernel_rfl) (by kernel_rfl) (by kernel_rfl) (by kernel_rfl) (by kernel_rfl) (by rfl) (by kernel_rfl) (by kernel_rfl) (by kernel_rfl) (by rw [plainKeys]; rfl) (by rfl) stopsHeard mayEnter (by rw [liftsFinal]; rfl) (by rw [make_cut]; rfl) (by rfl) (by rfl) (by kernel_rfl) (by kernel_rfl)

set_option maxRecDepth 100000 in
theorem lifted (os : Os) (started : os.Started) (H : Type) (enc : TypeId × Value → H) (F : Stop.Interp) :
    ReturnsInHanded {} Try.checked os 19 .any ((Rows.OpenSpec.upto Rows.pumpThroughSpec).pre6 enc Try.prog Try.f19 Rows.pumpThroughUptoRow.domain false) (((Rows.OpenSpec.upto Rows.pumpThroughSpec).at F).post enc Try.prog Try.f19 false true false false) := by
  refine returnsInHanded_of_cond_sized (C := Try.checked) (s := Rows.OpenSpec.upto Rows.pumpThroughSpec) (k := Rows.uptoSmall) rfl own started f_noInit Try.func19
    (OpenSpec.witness (enc := enc) (C := Try.checked) (s := Rows.OpenSpec.upto Rows.pumpThroughSpec) (k := Rows.uptoSmall) rfl false ⟨#[], #[.int .u8 0, .slice none 0 0, .slice none 0 0, .slice none 0 0, .bool false], []⟩ 8 (by kernel_rfl) (by kernel_rfl) (by kernel_rfl)
      (x := ([.lit (.int .u8 0), .nil, .nil, .nil, .lit (.bool false)], [], [])) (by kernel_rfl) rfl (by kernel_rfl)) ?_
  intro W base args ds gs before hval hW _ hk hsz _
  exact contract H enc W base args ds gs before hval hW hsz hk

theorem over : Rows.pumpThroughUptoRow.holds Try.pinned (Rows.OpenSpec.upto Rows.pumpThroughSpec) :=
  OpenClaim.holds_of_cond 19 Try.f19 rfl rfl rfl rfl rfl rfl rfl ⟨rfl, rfl, rfl, rfl, rfl⟩ rfl rfl rfl rfl rfl f_named Try.func19 closed
    (of_decide_eq_true (by kernel_rfl)) (by unfold Func.isWrapper; first | (rw [if_pos (by decide +kernel)]; kernel_rfl) | (rw [if_neg (by decide +kernel)]; exact ⟨rfl, rfl⟩))
    (fun os started H enc _ F => lifted os started H enc F)

theorem proved : Rows.PumpThroughUptoSaid := over
end Go.Proofs.Ytkmcakneceagpaa.pumpThroughUpto
