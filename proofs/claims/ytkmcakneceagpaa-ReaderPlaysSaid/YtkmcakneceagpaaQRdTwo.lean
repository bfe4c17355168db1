/- Two readers side by side: the program's and the reference's. -/
import Derived.Test.YtkmcakneceagpaaQRpT
import Derived.Test.YtkmcakneceagpaaQRdF
set_option linter.unusedSimpArgs false
set_option linter.unusedVariables false
set_option maxHeartbeats 8000000
set_option maxRecDepth 100000
namespace Go.Proofs.Ytkmcakneceagpaa
open Go.RowKit
structure Two (w0 w:World) (g h:Nat) (D E:List Nat) (most:Int) (a b:Rst):Prop where
 rd:RdS w g D most a.is a.xs a.xc a.l
 rq:RqS w h E most b.is b.xs b.xc b.l
 dl:∀ t,t∈D→w0.heap.size≤t∧t < w.heap.size∧t≠h∧t∉E
 el:∀ t,t∈E→w0.heap.size≤t∧t < w.heap.size∧t≠g
 gl:w0.heap.size≤g∧g < w.heap.size∧w0.heap.size≤h∧h < w.heap.size∧g≠h
 kp:Kp [] w0 w
theorem Two.keep {w0 w w':World} {g h:Nat} {D E:List Nat} {most:Int} {a b:Rst} (t:Two w0 w g h D E most a b) (k:Kp [] w w'):Two w0 w' g h D E most a b :=
 ⟨t.rd.keep k (by simp) (by simp),t.rq.keep k (by simp) (by simp),fun x hx=>by have h1:=t.dl x hx; have:=k.size; exact ⟨h1.1,by omega,h1.2.2⟩,fun x hx=>by have h1:=t.el x hx; have:=k.size; exact ⟨h1.1,by omega,h1.2.2⟩,by have:=t.gl; have:=k.size; omega,t.kp.trans k⟩
theorem Two.stepD {w0 w w':World} {g h:Nat} {D D' E:List Nat} {most:Int} {a a' b:Rst} (t:Two w0 w g h D E most a b) (s:RdS w' g D' most a'.is a'.xs a'.xc a'.l) (k:Kp (g :: D) w w') (d1:∀ t,t∈D'→t∈D∨w.heap.size≤t) (d2:∀ t,t∈D'→t < w'.heap.size):Two w0 w' g h D' E most a' b:=by
 have hgl:=t.gl
 have hs0:=t.kp.size
 have hs:=k.size
 refine ⟨s,t.rq.keep k ?_ ?_,fun x hx=>?_,fun x hx=>?_,by omega,t.kp.then k ?_⟩
 ·intro hh
  rcases List.mem_cons.1 hh with e | e
  ·omega
  ·exact (t.dl h e).2.2.1 rfl
 ·intro x hx hh
  rcases List.mem_cons.1 hh with e | e
  ·exact (t.el x hx).2.2 e
  ·exact (t.dl x e).2.2.2 hx
 ·have h2:=d2 x hx
  rcases d1 x hx with h1 | h1
  ·have h3:=t.dl x h1
   exact ⟨h3.1,h2,h3.2.2⟩
  ·exact ⟨by omega,h2,by omega,fun he=>by have:=t.el x he; omega⟩
 ·have h3:=t.el x hx
  exact ⟨h3.1,by omega,h3.2.2⟩
 ·intro x hx
  rcases List.mem_cons.1 hx with e | e
  ·right; omega
  ·right; exact (t.dl x e).1
theorem Two.stepE {w0 w w':World} {g h:Nat} {D E E':List Nat} {most:Int} {a b b':Rst} (t:Two w0 w g h D E most a b) (s:RqS w' h E' most b'.is b'.xs b'.xc b'.l) (k:Kp (h :: E) w w') (d1:∀ t,t∈E'→t∈E∨w.heap.size≤t) (d2:∀ t,t∈E'→t < w'.heap.size):Two w0 w' g h D E' most a b':=by
 have hgl:=t.gl
 have hs0:=t.kp.size
 have hs:=k.size
 refine ⟨t.rd.keep k ?_ ?_,s,fun x hx=>?_,fun x hx=>?_,by omega,t.kp.then k ?_⟩
 ·intro hh
  rcases List.mem_cons.1 hh with e | e
  ·omega
  ·exact (t.el g e).2.2 rfl
 ·intro x hx hh
  rcases List.mem_cons.1 hh with e | e
  ·exact (t.dl x hx).2.2.1 e
  ·exact (t.dl x hx).2.2.2 e
 ·have h3:=t.dl x hx
  refine ⟨h3.1,by omega,h3.2.2.1,fun he=>?_⟩
  rcases d1 x he with h1 | h1
  ·exact h3.2.2.2 h1
  ·omega
 ·have h2:=d2 x hx
  rcases d1 x hx with h1 | h1
  ·have h3:=t.el x h1
   exact ⟨h3.1,h2,h3.2.2⟩
  ·exact ⟨by omega,h2,by omega⟩
 ·intro x hx
  rcases List.mem_cons.1 hx with e | e
  ·right; omega
  ·right; exact (t.el x e).1
theorem RqFeedB (g:Nat) (D:List Nat) (w:World) (B:Option Addr) (m d:Nat) (y:List UInt8) (most:Int) (a:Rst) (h:RqS w g D most a.is a.xs a.xc a.l) (hD:∀ t,t∈D→t < w.heap.size) (hy:Rd w B m d y) (hlen:a.is=true∨a.l.length+m≤211106232532992):Calls Try.prog 113 #[.pointer (some ⟨g,0,none⟩),.slice B m d] w fun e w'=>e=.returned (.int .i64 (if a.is=true then 5 else 0))∧∃ D',(∀ t,t∈D'→t∈D∨w.heap.size≤t)∧(∀ t,t∈D'→t < w'.heap.size)∧RqS w' g D' most (a.fed y).is (a.fed y).xs (a.fed y).xc (a.fed y).l∧Kp (g :: D) w w':=by
 obtain ⟨is,xs,xc,l⟩:=a
 cases is with
 | true =>
  obtain ⟨A,n,c,h1,h2,h3,h4⟩:=h
  refine (RqFeedS g w B m d A n c most xs xc h1).mono ?_
  rintro e w' ⟨rfl,K⟩
  exact ⟨rfl,D,fun t h=>.inl h,fun t h=>Nat.lt_of_lt_of_le (hD t h) K.size,⟨A,n,c,K.heap h1 (by simp),h2.keep K (by simp),h3,h4⟩,K.nil⟩
 | false =>
  refine (RqFeed g D w B m d y l most xs xc h hy (by rcases hlen with h | h; cases h; exact h)).mono ?_
  rintro e w' ⟨rfl,D',d1,d2,S,K⟩
  exact ⟨rfl,D',d1,d2,S,K⟩
theorem Two.keepT {w0 w w':World} {g h:Nat} {D E T:List Nat} {most:Int} {a b:Rst} (t:Two w0 w g h D E most a b) (k:Kp T w w') (hT:∀ x,x∈T→x≠g∧x≠h∧x∉D∧x∉E∧w0.heap.size≤x):Two w0 w' g h D E most a b :=
 ⟨t.rd.keep k (fun hh=>(hT g hh).1 rfl) (fun x hx hh=>(hT x hh).2.2.1 hx),t.rq.keep k (fun hh=>(hT h hh).2.1 rfl) (fun x hx hh=>(hT x hh).2.2.2.1 hx),fun x hx=>by have h1:=t.dl x hx; have:=k.size; exact ⟨h1.1,by omega,h1.2.2⟩,fun x hx=>by have h1:=t.el x hx; have:=k.size; exact ⟨h1.1,by omega,h1.2.2⟩,by have:=t.gl; have:=k.size; omega,t.kp.then k (fun x hx=>.inr (hT x hx).2.2.2.2)⟩
def FdC (w0:World) (z g h:Nat) (D E:List Nat) (most:Int) (a b:Rst) (p:Nat) (w:World):Prop :=
 (Kp [] w0 w∧z≤w.heap.size)∧(p≤1→Two w0 w g h D E most a a)∧(p=2→∃ D',Two w0 w g h D' E most b a)∧(3≤p→∃ D' E',Two w0 w g h D' E' most b b)
theorem FdC.keep {w0 w w':World} {z g h:Nat} {D E:List Nat} {most:Int} {a b:Rst} {p:Nat} (c:FdC w0 z g h D E most a b p w) (k:Kp [] w w'):FdC w0 z g h D E most a b p w' :=
 ⟨⟨c.1.1.trans k,Nat.le_trans c.1.2 k.size⟩,fun hp=>(c.2.1 hp).keep k,fun hp=>by obtain ⟨D',t⟩:=c.2.2.1 hp; exact ⟨D',t.keep k⟩,fun hp=>by obtain ⟨D',E',t⟩:=c.2.2.2 hp; exact ⟨D',E',t.keep k⟩⟩
section
variable {w0 w w':World} {z g h:Nat} {D D' E E' T:List Nat} {most:Int} {a b:Rst}
theorem FdC.up0 (c:FdC w0 z g h D E most a b 0 w) (k:Kp T w w') (hT:∀ x,x∈T→x≠g∧x≠h∧x∉D∧x∉E∧w0.heap.size≤x):FdC w0 z g h D E most a b 1 w':=by
 have t':=(c.2.1 (by omega)).keepT k hT
 exact ⟨⟨t'.kp,Nat.le_trans c.1.2 k.size⟩,fun _=>t',fun hp=>by omega,fun hp=>by omega⟩
theorem FdC.up1 (c:FdC w0 z g h D E most a b 1 w) (t:Two w0 w g h D E most a a) (s:RdS w' g D' most b.is b.xs b.xc b.l) (k:Kp (g :: D) w w') (d1:∀ t,t∈D'→t∈D∨w.heap.size≤t) (d2:∀ t,t∈D'→t < w'.heap.size):FdC w0 z g h D E most a b 2 w':=by
 have t':=t.stepD s k d1 d2
 exact ⟨⟨t'.kp,Nat.le_trans c.1.2 k.size⟩,fun hp=>by omega,fun _=>⟨D',t'⟩,fun hp=>by omega⟩
theorem FdC.up2 (c:FdC w0 z g h D E most a b 2 w) (t:Two w0 w g h D' E most b a) (s:RqS w' h E' most b.is b.xs b.xc b.l) (k:Kp (h :: E) w w') (d1:∀ t,t∈E'→t∈E∨w.heap.size≤t) (d2:∀ t,t∈E'→t < w'.heap.size):FdC w0 z g h D E most a b 3 w':=by
 have t':=t.stepE s k d1 d2
 exact ⟨⟨t'.kp,Nat.le_trans c.1.2 k.size⟩,fun hp=>by omega,fun hp=>by omega,fun _=>⟨D',E',t'⟩⟩
end
end Go.Proofs.Ytkmcakneceagpaa
