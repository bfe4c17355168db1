/- 'aqueductlaw08.ReaderPlays' answers true for every input; each argument reads behind the call as it read before. -/
import Derived.Test.YtkmcakneceagpaaRows
import Derived.Test.YtkmcakneceagpaaQRdPlays
import Derived.Test.YtkmcakneceagpaaQMem
import Derived.Test.YtkmcakneceagpaaQFacts
set_option linter.unusedVariables false
set_option maxHeartbeats 8000000
set_option maxRecDepth 100000
namespace Go.Proofs.Ytkmcakneceagpaa.readerPlays
open Go.ChangeShapes Go.WideShapes Go.ChangeAt Go.RowKit

theorem contract (H:Type) (enc:TypeId × Value→H) (W:World) (base:Nat) (args:Array Value) (ds gs:List (DataW H)) (before:List MemPlace)
  (hval:∀ (j:Nat) t v,Try.f32.params[j]?=some t→args[j]?=some v→Value.okWide Try.prog W .any base t v)
  (hW:DataW.Whole enc Try.prog Try.f32.params.toList Rows.readerPlaysSpec.vars false W args.toList ds gs before)
  (hsz:(DataW.weightsEach Try.prog (Try.f32.params.toList++[]) (ds++gs)).all (·≤reachBytes)=true) :
  Calls Try.prog 32 args W fun e W'=>∃ v,e=.returned v∧Rows.readerPlaysSpec.post enc Try.prog Try.f32 false true false false W args v W':=by
 have hW':=hW
 obtain ⟨p,q,hA0,hV,rfl,hfz,hnd⟩:=hW
 have hA:DataW.TrodAll enc Try.prog W 0 (fun _=>true) true Try.f32.params.toList args.toList ds p:=hA0
 rw [Try.params32] at hA hval hsz
 obtain ⟨v0,vs0,d0,ds0,p0,q0,hargs,rfl,rfl,h0,r0⟩:=trodAll_cons hA
 obtain ⟨v1,vs1,d1,ds1,p1,q1,rfl,rfl,rfl,h1,r1⟩:=trodAll_cons r0
 obtain ⟨rfl,rfl,rfl⟩:=trodAll_nil r1
 obtain rfl:args=#[v0,v1]:=by cases args; simp_all
 obtain ⟨rfl,rfl⟩:=trodVars_none hV
 have hlast:∀ W',Below W.heap.size W W'→DataW.TrodAll enc Try.prog W' 0 (fun b=>decide (b < W.heap.size)) true Try.f32.params.toList #[v0,v1].toList [d0,d1] _:=fun W' bel=>trodAll_below laidOut bel (by kernel_rfl) hA0
 clear hA0
 have t0:=Tr.of h0 0 rfl rfl hsz
 obtain ⟨k,rfl,_,_,w_k⟩:=open_int Try.underlying3 (hval 0 3 v0 rfl rfl) h0
 have t1:=Tr.of h1 1 rfl rfl hsz
 obtain ⟨A_s,n_s,c_s,rfl⟩:=okWide_slice Try.underlying86 (hval 1 86 v1 rfl rfl)
 obtain ⟨A',n',c',he1,ok_s,le_s,bk_s⟩:=t1.parts
 simp only [Value.cells,List.cons.injEq,Value.slice.injEq,and_true] at he1
 obtain ⟨rfl,rfl,rfl⟩:=he1
 refine (ReaderPlays_walk k A_s n_s c_s W ok_s le_s).mono fun e W' ⟨he,hkp⟩=>?_
 subst he
 exact ⟨_,rfl,_,_,_,[],_,[],hW',trodAll_mk1 (shut_bool Try.underlying4 _),hlast W' hkp.below,rfl,hkp.below.frame _,fun h=>by cases h⟩

theorem f_wf:Rows.readerPlaysRow.wf (OpenSpec.ofChange Rows.readerPlaysSpec)=true:=by kernel_rfl
theorem f_par:Try.f32.params.all (Try.prog.readableRec ·)=true:=by kernel_rfl
theorem f_inp:(Rows.readerPlaysRow.inPlace == Try.prog.inPlace 32)=true:=by kernel_rfl
theorem f_unf:(Rows.readerPlaysRow.unfollowed == Try.prog.unfollowed 32)=true:=by kernel_rfl
theorem f_rec:(Rows.readerPlaysRow.recurses == Try.prog.recurses 32)=true:=by kernel_rfl
theorem f_nam:(Rows.readerPlaysRow.named == Try.prog.varsNamed 32)=true:=by kernel_rfl
theorem f_named:Try.prog.funcNamed Rows.readerPlaysRow.func=some 32:=by kernel_rfl
theorem f_noInit:Try.prog.inits.idxOf? 32=none:=by kernel_rfl
theorem closed:joinedFacts Try.prog 32 Try.f32 Rows.readerPlaysSpec Rows.readerPlaysRow=true :=
 closed_of f_wf laidOut mapsRowed f_par (by kernel_rfl) (by rfl) noStops (by rfl) noKnobs f_inp f_unf f_rec f_nam (by kernel_rfl) (by kernel_rfl) (by kernel_rfl) (by kernel_rfl) (by kernel_rfl) (by rfl) (by kernel_rfl) (by kernel_rfl) (by kernel_rfl) (by rw [plainKeys]; rfl) (by rfl) stopsHeard mayEnter (by rw [liftsFinal]; rfl) (by rw [make_cut]; rfl) (by rfl) (by rfl) (by kernel_rfl) (by kernel_rfl)

theorem lifted (os:Os) (started:os.Started) (H:Type) (enc:TypeId × Value→H) :
  ReturnsInHanded {} Try.checked os 32 .any (Rows.readerPlaysSpec.pre6 enc Try.prog Try.f32 Rows.readerPlaysRow.domain false) (Rows.readerPlaysSpec.post enc Try.prog Try.f32 false true false false):=by
 refine returnsInHanded_of_change_sized (C:=Try.checked) own started f_noInit Try.func32
  (ChangeSpec.witness6 (enc:=enc) (C:=Try.checked) false ⟨#[],#[.int .i64 0,.slice none 0 0],[]⟩ 8 (by kernel_rfl) (by kernel_rfl) (by kernel_rfl) (by kernel_rfl)) ?_
 intro W base args ds gs before hval hW _ hsz _
 exact contract H enc W base args ds gs before hval hW hsz

theorem over:Rows.readerPlaysRow.holds Try.pinned (OpenSpec.ofChange Rows.readerPlaysSpec) :=
 OpenClaim.holds_of_wide 32 Try.f32 rfl rfl rfl rfl rfl rfl rfl ⟨rfl,rfl,rfl,rfl,rfl⟩ rfl rfl rfl rfl rfl f_named Try.func32 closed
  (of_decide_eq_true (by kernel_rfl)) (by unfold Func.isWrapper; first | (rw [if_pos (by decide +kernel)]; kernel_rfl) | (rw [if_neg (by decide +kernel)]; exact ⟨rfl,rfl⟩))
  (fun os started H enc _=>lifted os started H enc)

theorem proved:Rows.ReaderPlaysSaid:=over
end Go.Proofs.Ytkmcakneceagpaa.readerPlays
