/- Closed facts of this seat's program that every row asks: each a theorem of its own. The words of the translation's head are read off its beginning alone. -/
import Derived.Test.YtibeaombhjdakaaRows
import Derived.ProofKit
set_option linter.unusedVariables false
namespace Go.Proofs.Ytibeaombhjdakaa

theorem words_word : ∀ (w r : List Char), (∀ c ∈ w, c ≠ Char.ofNat 32) → wordsSigns (w ++ Char.ofNat 32 :: r) = w :: wordsSigns r
  | [], r, _ => rfl
  | c :: w, r, h => by
    have hc : c ≠ Char.ofNat 32 := h c (List.mem_cons_self ..)
    have ih := words_word w r (fun d hd => h d (List.mem_cons_of_mem _ hd))
    rw [List.cons_append]
    rw [wordsSigns.eq_3 c _ (fun e => hc e), ih]

def hcs (l : List Nat) : List Char := l.map Char.ofNat
def hword1 : List Nat := [104, 97, 114, 110, 101, 115, 115]
def hword2 : List Nat := [52, 100, 100, 55, 55, 100, 52, 48, 51, 52, 102, 50, 55, 99, 98, 49, 51, 99, 97, 51, 99, 55, 54, 51, 48, 50, 49, 97, 100, 101, 99, 50, 51, 99, 48, 55, 56, 101, 48, 51, 56, 49, 102, 55, 52, 99, 56, 53, 48, 49, 56, 101, 52, 49, 49, 56, 100, 49, 100, 49, 50, 100, 56, 50]
def hword3 : List Nat := [99, 117, 116]
def hrest : List Nat := [97, 116, 32, 97, 113, 117, 101, 100, 117, 99, 116, 47, 97, 113, 117, 101, 100, 117, 99, 116, 108, 97, 119, 49, 50, 46, 66, 108, 111, 99, 107, 74, 111, 105, 110, 115]
theorem headAt : Try.prog.initOrder = String.ofList (hcs (hword1 ++ 32 :: (hword2 ++ 32 :: (hword3 ++ 32 :: hrest)))) := by kernel_rfl
theorem noSpace1 : ∀ c ∈ hcs hword1, c ≠ Char.ofNat 32 := by decide
theorem noSpace2 : ∀ c ∈ hcs hword2, c ≠ Char.ofNat 32 := by decide
theorem noSpace3 : ∀ c ∈ hcs hword3, c ≠ Char.ofNat 32 := by decide
theorem hword1_is : hcs hword1 = "harness".toList := by decide
theorem hword3_is : hcs hword3 = "cut".toList := by decide
theorem sumOk : isSumSigns (hcs hword2) = true := by decide
theorem behind_of (h s : List Char) (r : List (List Char)) (hc : ((h == "harness".toList || h == "ownmain".toList) && isSumSigns s) = true) : behindMainWord (h :: s :: r) = r := by
  unfold behindMainWord
  exact if_pos hc
/-- The head's words, as far as anything asks. -/
theorem headWords : ∃ ws, behindMainWord (wordsSigns Try.prog.initOrder.toList) = "cut".toList :: ws := by
  refine ⟨wordsSigns (hcs hrest), ?_⟩
  rw [headAt, String.toList_ofList]
  have e : hcs (hword1 ++ 32 :: (hword2 ++ 32 :: (hword3 ++ 32 :: hrest))) = hcs hword1 ++ Char.ofNat 32 :: (hcs hword2 ++ Char.ofNat 32 :: (hcs hword3 ++ Char.ofNat 32 :: hcs hrest)) := by
    simp only [hcs, List.map_append, List.map_cons]
  rw [e, words_word _ _ noSpace1, words_word _ _ noSpace2, words_word _ _ noSpace3]
  have hc : ((hcs hword1 == "harness".toList || hcs hword1 == "ownmain".toList) && isSumSigns (hcs hword2)) = true := by rw [sumOk, hword1_is]; simp
  rw [behind_of _ _ _ hc, hword3_is]
theorem strip_cut (ws : List (List Char)) : stripLifts liftWords ("cut".toList :: ws) = ([], "cut".toList :: ws) := by
  simp [stripLifts, liftWords]
theorem ne_gc : ("cut".toList == "gc".toList || "cut".toList == "spec".toList) = false := by decide
section
variable {P : Program} {ws : List (List Char)} (h : behindMainWord (wordsSigns P.initOrder.toList) = "cut".toList :: ws)
include h
theorem headLifts_of : P.headLifts = [] := by
  unfold Program.headLifts
  simp only [h, strip_cut, ite_self]
theorem make_of : P.make = some .cut := by
  unfold Program.make
  rw [h]
  simp only [ne_gc, beq_self_eq_true, Bool.true_or, if_true, Bool.false_eq_true, if_false]
theorem liftsFinal_of : P.liftsFinal = false := by
  have h2 := headLifts_of h
  unfold Program.liftsFinal
  have e : (some "cut".toList == some "carried".toList) = false := by decide
  simp only [h2, h, List.head?_cons, e, Bool.false_and, Bool.false_or, List.contains_nil]
theorem mayEnter_of (h1 : P.laysLater = false) (h2 : P.bearsReflect = false) (h3 : P.doorFits [] = true) : P.mayEnter = true := by
  unfold Program.mayEnter
  rw [h]
  have e : ("cut".toList == "carried".toList) = false := by decide
  simp only [ne_gc, e, strip_cut, h1, h2, h3, List.head?_cons, beq_self_eq_true, List.contains_nil, Bool.not_false, Bool.or_true, Bool.and_true, Bool.false_and, Bool.or_false]
end
theorem make_cut : Try.prog.make = some .cut := headWords.elim fun _ h => make_of h
theorem liftsFinal : Try.prog.liftsFinal = false := headWords.elim fun _ h => liftsFinal_of h
theorem laysLater : Try.prog.laysLater = false := by kernel_rfl
theorem bearsReflect : Try.prog.bearsReflect = false := by kernel_rfl
theorem doorFits : Try.prog.doorFits [] = true := by kernel_rfl
theorem mayEnter : Try.prog.mayEnter = true := headWords.elim fun _ h => mayEnter_of h laysLater bearsReflect doorFits
theorem own : ownKnob Try.prog.godebug = none := by kernel_rfl
theorem laidOut : laidOutB Try.prog = true := by kernel_rfl
theorem mapsRowed : Go.mapsRowed Try.prog = true := by kernel_rfl
theorem noStops : (Try.prog.stops == []) = true := by kernel_rfl
theorem noKnobs : (Try.prog.stopKnobs == []) = true := by kernel_rfl
theorem plainKeys : Try.prog.plainKeys = true := by kernel_rfl
theorem stopsHeard : Try.prog.stopsHeard = true := by kernel_rfl
theorem closed_of {P : Program} {f : FuncId} {fn : Func} {s : ChangeSpec} {c : OpenClaim}
    (k_wf : c.wf (OpenSpec.ofChange s) = true)
    (k_laid : laidOutB P = true)
    (k_mapsR : Go.mapsRowed P = true)
    (k_par : fn.params.all (P.readableRec ·) = true)
    (k_tie : namedTie P c.named s.vars = true)
    (k_cs : (c.stops == []) = true)
    (k_ps : (P.stops == []) = true)
    (k_ck : (c.knobs == []) = true)
    (k_pk : (P.stopKnobs == []) = true)
    (k_inp : (c.inPlace == P.inPlace f) = true)
    (k_unf : (c.unfollowed == P.unfollowed f) = true)
    (k_rec : (c.recurses == P.recurses f) = true)
    (k_nam : (c.named == P.varsNamed f) = true)
    (k_maps : (c.maps == (fn.params.toList ++ s.plain.varTypes P).any (P.mapsRec ·)) = true)
    (k_ifs : (c.ifaces == (fn.params.toList ++ s.plain.varTypes P).any (P.ifacesRec ·)) = true)
    (k_mout : (c.mapsOut == P.mapsAmong fn.resultTypes.toList) = true)
    (k_loops : (c.loops == (fn.params.toList ++ s.plain.varTypes P).any (P.loopsFrom ·)) = true)
    (k_wide : (c.wideKeys == (fn.params.toList ++ s.plain.varTypes P ++ fn.resultTypes.toList).any (P.wideKeysFrom ·)) = true)
    (k_vars : s.vars.all (P.varReadable ·) = true)
    (k_res : fn.resultTypes.all (fun t => P.readableRec t && decide (t < P.types.size)) = true)
    (k_ifo : (c.ifacesOut == fn.resultTypes.toList.any (P.ifacesRec ·)) = true)
    (k_lo : (c.loopsOut == fn.resultTypes.toList.any (P.loopsFrom ·)) = true)
    (k_pkeys : (c.plainKeys == P.plainKeys) = true)
    (k_short : c.shortTexts.isNone = true)
    (k_heard : P.stopsHeard = true)
    (k_may : P.mayEnter = true)
    (k_lift : (c.lifted == P.liftsFinal) = true)
    (k_make : (P.make == some c.make) = true)
    (k_kinds : (c.kinds == (if c.domain.isEmpty then [] else fn.params.toList.map fun t => match P.underlying t with | some (.int k) => some k | _ => none)) = true)
    (k_pin : (c.pinned == c.pinnedBy) = true)
    (k_veil : (c.veiled == (fn.params.toList ++ s.plain.varTypes P ++ fn.resultTypes.toList).any (P.veiledRec ·)) = true)
    (k_vfit : c.veiledFits P fn.params.toList (fn.params.toList ++ s.plain.varTypes P ++ fn.resultTypes.toList) = true) :
    joinedFacts P f fn s c = true := by
  unfold joinedFacts
  simp only [Bool.and_eq_true]
  exact ⟨⟨⟨⟨⟨⟨⟨⟨⟨⟨⟨⟨⟨⟨⟨⟨⟨⟨⟨⟨⟨⟨⟨⟨⟨⟨⟨⟨⟨⟨⟨k_wf, k_laid⟩, k_mapsR⟩, k_par⟩, k_tie⟩, k_cs⟩, k_ps⟩, k_ck⟩, k_pk⟩, k_inp⟩, k_unf⟩, k_rec⟩, k_nam⟩, k_maps⟩, k_ifs⟩, k_mout⟩, k_loops⟩, k_wide⟩, k_vars⟩, k_res⟩, k_ifo⟩, k_lo⟩, k_pkeys⟩, k_short⟩, k_heard⟩, k_may⟩, k_lift⟩, k_make⟩, k_kinds⟩, k_pin⟩, k_veil⟩, k_vfit⟩
end Go.Proofs.Ytibeaombhjdakaa
