/- Slices of slices of bytes that came in. -/
import Derived.Test.YtkmcakneceagpaaQPrt
import Derived.Test.YtkmcakneceagpaaQMem
import Derived.Test.YtkmcakneceagpaaProg
set_option linter.unusedSimpArgs false
set_option linter.unusedVariables false
set_option maxHeartbeats 8000000
set_option maxRecDepth 100000
namespace Go.Proofs.Ytkmcakneceagpaa
open Go.ChangeShapes Go.WideShapes Go.ChangeAt Go.RowKit
section
variable {H:Type} {enc:TypeId × Value→H} {W:World}
theorem Tr.parts {cs:List Value} {d:DataW H} (h:Tr enc Try.prog W 86 cs d):∃ A n c,cs=[.slice A n c]∧Parts W A n∧n≤140737488351232∧(∃ ds sp,ds.length=n∧(d=.slice ds sp∨d=.nil∧n=0)):=by
 have hce:Try.prog.cellsOf 22=1:=by kernel_rfl
 have hbe:Try.prog.bytesOf 22=24:=by kernel_rfl
 obtain ⟨A,n,c,ds,sp,rfl,hlen,hnc,hcm,hby,hd,hel⟩:=h.slice Try.underlying86 (by rw [hce]; omega)
 rw [hce] at hel
 rw [hbe] at hby
 refine ⟨A,n,c,rfl,fun i hi=>?_,by omega,ds,sp,hlen,?_⟩
 ·obtain ⟨b,off,es,di,hA,hlt,_,htr,hl,hcell⟩:=hel i hi
  obtain ⟨Ai,ni,ci,xs,e2,rd,le,plt,_⟩:=htr.bytes Try.underlying22 Try.underlying5 (by kernel_rfl) (by kernel_rfl)
  subst e2
  have:=hcell 0 _ rfl
  simp only [Nat.mul_one,Nat.add_zero] at this
  exact ⟨b,off,Ai,ni,ci,xs,hA,this,rd,le,plt⟩
 ·rcases hd with h1 | ⟨h1,h2⟩
  ·exact .inl h1
  ·subst h2
   exact .inr ⟨h1,hlen.symm⟩
end
end Go.Proofs.Ytkmcakneceagpaa
