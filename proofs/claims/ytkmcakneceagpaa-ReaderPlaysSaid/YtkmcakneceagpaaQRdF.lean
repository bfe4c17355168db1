/- The program's reader, failed or not: Feed. Layer 8's laws: readers that are not made, and 'awake'. frame.Write, walked, type by type. -/
import Derived.Test.YtkmcakneceagpaaQReg4
import Derived.Test.YtkmcakneceagpaaQKin4
set_option linter.unusedSimpArgs false
set_option linter.unusedVariables false
set_option maxHeartbeats 8000000
set_option maxRecDepth 100000
namespace Go.Proofs.Ytkmcakneceagpaa
open Go.RowKit
structure Rst where
 is:Bool
 xs:Int
 xc:Int
 l:List UInt8
def NxO.rst (o:NxO):Rst:=⟨o.is,o.xs,o.xc,o.l⟩
def Rst.fed (a:Rst) (y:List UInt8):Rst:=⟨a.is,a.xs,a.xc,if a.is=true then a.l else a.l++y⟩
theorem RdFeedB (g:Nat) (D:List Nat) (w:World) (B:Option Addr) (m d:Nat) (y:List UInt8) (most:Int) (a:Rst) (h:RdS w g D most a.is a.xs a.xc a.l) (hD:∀ t,t∈D→t < w.heap.size) (hy:Rd w B m d y) (hlen:a.is=true∨a.l.length+m≤211106232532992):Calls Try.prog 104 #[.pointer (some ⟨g,0,none⟩),.slice B m d] w fun e w'=>e=.returned (.int .i64 (if a.is=true then 5 else 0))∧∃ D',(∀ t,t∈D'→t∈D∨w.heap.size≤t)∧(∀ t,t∈D'→t < w'.heap.size)∧RdS w' g D' most (a.fed y).is (a.fed y).xs (a.fed y).xc (a.fed y).l∧Kp (g :: D) w w':=by
 obtain ⟨is,xs,xc,l⟩:=a
 cases is with
 | true =>
  obtain ⟨A,n,c,h1,h2,h3,h4⟩:=h
  refine (RdFeedS g w B m d A n c most xs xc h1).mono ?_
  rintro e w' ⟨rfl,K⟩
  exact ⟨rfl,D,fun t h=>.inl h,fun t h=>Nat.lt_of_lt_of_le (hD t h) K.size,⟨A,n,c,K.heap h1 (by simp),h2.keep K (by simp),h3,h4⟩,K.nil⟩
 | false =>
  refine (RdFeed g D w B m d y l most xs xc h hy (by rcases hlen with h | h; cases h; exact h)).mono ?_
  rintro e w' ⟨rfl,D',d1,d2,S,K⟩
  exact ⟨rfl,D',d1,d2,S,K⟩
end Go.Proofs.Ytkmcakneceagpaa

namespace Go.Proofs.Ytkmcakneceagpaa
open Go.RowKit
theorem RdNew_no (most:Int) (h:most < 16384∨16777215 < most) (w:World):Calls Try.prog 107 #[.int .i64 most] w fun e w'=>e=.returned (.tuple #[.pointer none,.int .i64 1])∧Kp [] w w':=by
 by_cases h1:most < 16384
 ·go_enter Try.func107,Try.ntmps107
  go_wp2
  go_ret2
  exact ⟨rfl,Kp.refl _ _⟩
 ·have h2:16777215 < most:=by omega
  go_enter Try.func107,Try.ntmps107
  go_wp2
  go_ret2
  exact ⟨rfl,Kp.refl _ _⟩
theorem RqNew_no (most:Int) (h:most < 16384∨16777215 < most) (w:World):Calls Try.prog 112 #[.int .i64 most] w fun e w'=>e=.returned (.tuple #[.pointer none,.int .i64 1])∧Kp [] w w':=by
 by_cases h1:most < 16384
 ·go_enter Try.func112,Try.ntmps112
  go_wp2
  go_ret2
  exact ⟨rfl,Kp.refl _ _⟩
 ·have h2:16777215 < most:=by omega
  go_enter Try.func112,Try.ntmps112
  go_wp2
  go_ret2
  exact ⟨rfl,Kp.refl _ _⟩
theorem awake08 (w:World):Calls Try.prog 108 #[] w (Yes w):=by
 go_enter Try.func108,Try.ntmps108
 go_wp2_with fail
 refine (RdNew 16384 (by omega) (by omega) _).mono ?_
 rintro e w1 ⟨g,rfl,hg0,S1,K1⟩
 subst hg0
 have HK1:=Lib.hid K1
 have HS1:=Lib.hid S1
 clear K1 S1
 go_wp2_with fail
 generalize hW:World.alloc _ _=w2
 have K2:Kp [] w1 w2:=by rw [← hW]; with_reducible (repeat (first|exact Kp.refl _ _|assumption|refine Kp.alloc ?_ _|refine Kp.drew ?_|refine Kp.drewN ?_ _|(refine Kp.setL ?_ ?_ _;focus (simp;done))|(refine Kp.setR ?_ ?_ _;focus (first|(simp;done)|(simp;omega)))))
 have hx:w2.heap[w1.heap.size]?=some (.cells #[.int .u8 1] 5):=by rw [← hW]; with_reducible (repeat (first|assumption|(refine hp_new _ _ _ ?_;focus (simp;done))|refine hpl ?_|(refine hpf ?_ ?_;focus (first|(simp;done)|(simp;omega)))|refine hpd ?_|refine hpe ?_))
 have R2:Rd w2 (some ⟨w1.heap.size,0,none⟩) 1 1 [1]:=Rd.block hx 0 1 1 _ rfl (Nat.le_refl _) rfl
 have S2:=HS1.out.keep K2 (by simp) (by simp)
 refine (RdFeed w.heap.size [] w2 _ 1 1 _ [] 16384 0 0 S2 R2 (by simp)).mono ?_
 rintro e w3 ⟨rfl,D3,hD3a,hD3b,⟨A3,n3,c3,h1,h2,h3,h4⟩,K3⟩
 have HK3:=Lib.hid ((HK1.out.trans K2).then K3 (by simp))
 have hn3:n3=1:=by have:=h2.len; simpa using this.symm
 subst hn3
 have HH:=Lib.hid h1
 clear hW K2 hx R2 S2 hD3a hD3b K3 h1 h2 h3 h4 HS1 HK1
 go_wp2_with fail
 refine (RdRest w.heap.size w3 A3 1 c3 16384 false 0 0 HH.out).mono ?_
 rintro e w4 ⟨rfl,K4⟩
 have HK4:=Lib.hid (HK3.out.trans K4)
 clear K4 HK3
 go_wp2
 go_ret
 exact ⟨by simp,HK4.out⟩
end Go.Proofs.Ytkmcakneceagpaa

namespace Go.Proofs.Ytkmcakneceagpaa
open Go.RowKit

theorem cells12 {w:World} {g:Nat} {a0 a1 a2 a3 a4 a5 a6 a7 a8 a9 a10 a11:Value} {t:TypeId} (h:w.heap[g]?=some (.cells #[a0,a1,a2,a3,a4,a5,a6,a7,a8,a9,a10,a11] t)):w.cell? ⟨g,0,none⟩=some a0∧w.cell? ⟨g,1,none⟩=some a1∧w.cell? ⟨g,2,none⟩=some a2∧w.cell? ⟨g,3,none⟩=some a3∧w.cell? ⟨g,4,none⟩=some a4∧w.cell? ⟨g,5,none⟩=some a5∧w.cell? ⟨g,6,none⟩=some a6∧w.cell? ⟨g,7,none⟩=some a7∧w.cell? ⟨g,8,none⟩=some a8∧w.cell? ⟨g,9,none⟩=some a9∧w.cell? ⟨g,10,none⟩=some a10∧w.cell? ⟨g,11,none⟩=some a11∧g < w.heap.size∧g < w.heap.size+1 :=
 ⟨cell_of h 0,cell_of h 1,cell_of h 2,cell_of h 3,cell_of h 4,cell_of h 5,cell_of h 6,cell_of h 7,cell_of h 8,cell_of h 9,cell_of h 10,cell_of h 11,lt_of_heap h,Nat.lt_succ_of_lt (lt_of_heap h)⟩
structure WrOk (w:World) (f:Fr) (l:List UInt8) (ss:List (Int × Int)):Prop where
 rd:Rd w f.pA f.pn f.pc l
 pn:f.pn≤140737488351232
 code:U32 f.code
 sd:Sd w f.sA f.sn f.sc ss
 sn:f.sn * 16≤140737488351232
theorem FrOk.wr {w:World} {f:Fr} {l:List UInt8} {ss:List (Int × Int)} (h:FrOk w f l ss):WrOk w f l ss:=⟨h.rd,h.pn,h.code,h.sd,h.sn⟩

end Go.Proofs.Ytkmcakneceagpaa
