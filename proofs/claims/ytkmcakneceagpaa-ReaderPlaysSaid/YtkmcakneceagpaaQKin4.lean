/- frame.kinds: what it answers of each type. What the frame at the beginning of any bytes is, as plain data: no program in sight. frame.Parse: its small functions. frame.kind: what each type reads. frame.kind: what HEADERS reads. frame.kind: what SETTINGS reads. frame.unpad. -/
import Derived.Test.YtkmcakneceagpaaQMem
set_option linter.unusedSimpArgs false
set_option linter.unusedVariables false
set_option maxHeartbeats 8000000
set_option maxRecDepth 100000
namespace Go.Proofs.Ytkmcakneceagpaa
open Go.RowKit

@[reducible] def Fv (k:Nat):Value:=.func (.func k) #[] #[]
@[reducible] def Sz (b:Nat):Value:=.func (.func 192) #[] #[.pointer (some ⟨b,0,none⟩)]
theorem kinds0 (w:World):Calls Try.prog 144 #[.int .i64 0] w fun e w'=>e=.returned (.agg #[.bool false,.bool false,.bool true,Fv 161,Fv 163,Fv 160,Fv 164])∧Kp [] w w':=by
 go_enter Try.func144,Try.ntmps144
 go_wp2
 exact bodyPost_ret (v:=.agg #[.bool false,.bool false,.bool true,Fv 161,Fv 163,Fv 160,Fv 164]) (by simp [results,Try.results144,go_sem]) rfl ⟨rfl,by with_reducible (repeat (first|exact Kp.refl _ _|assumption|refine Kp.alloc ?_ _|refine Kp.drew ?_|refine Kp.drewN ?_ _|(refine Kp.setL ?_ ?_ _;focus (simp;done))|(refine Kp.setR ?_ ?_ _;focus (first|(simp;done)|(simp;omega)))))⟩
theorem kinds1 (w:World):Calls Try.prog 144 #[.int .i64 1] w fun e w'=>e=.returned (.agg #[.bool false,.bool false,.bool true,Fv 161,Fv 163,Fv 160,Fv 165])∧Kp [] w w':=by
 go_enter Try.func144,Try.ntmps144
 go_wp2
 exact bodyPost_ret (v:=.agg #[.bool false,.bool false,.bool true,Fv 161,Fv 163,Fv 160,Fv 165]) (by simp [results,Try.results144,go_sem]) rfl ⟨rfl,by with_reducible (repeat (first|exact Kp.refl _ _|assumption|refine Kp.alloc ?_ _|refine Kp.drew ?_|refine Kp.drewN ?_ _|(refine Kp.setL ?_ ?_ _;focus (simp;done))|(refine Kp.setR ?_ ?_ _;focus (first|(simp;done)|(simp;omega)))))⟩
theorem kinds2 (w:World):Calls Try.prog 144 #[.int .i64 2] w fun e w'=>∃ b,e=.returned (.agg #[.bool false,.bool false,.bool false,Sz b,Fv 163,Fv 168,Fv 169])∧w'.heap[b]?=some (.cells #[.int .i64 5] 3)∧w.heap.size≤b∧Kp [] w w':=by
 go_enter Try.func144,Try.ntmps144
 go_wp2
 refine bodyPost_ret (v:=.agg #[.bool false,.bool false,.bool false,Sz (w.heap.size+1),Fv 163,Fv 168,Fv 169]) (by simp [results,Try.results144,go_sem]) rfl ⟨w.heap.size+1,rfl,?_,by omega,by with_reducible (repeat (first|exact Kp.refl _ _|assumption|refine Kp.alloc ?_ _|refine Kp.drew ?_|refine Kp.drewN ?_ _|(refine Kp.setL ?_ ?_ _;focus (simp;done))|(refine Kp.setR ?_ ?_ _;focus (first|(simp;done)|(simp;omega)))))⟩
 with_reducible (repeat (first|assumption|(refine hp_new _ _ _ ?_;focus (simp;done))|refine hpl ?_|(refine hpf ?_ ?_;focus (first|(simp;done)|(simp;omega)))|refine hpd ?_|refine hpe ?_))
theorem kinds3 (w:World):Calls Try.prog 144 #[.int .i64 3] w fun e w'=>∃ b,e=.returned (.agg #[.bool false,.bool false,.bool false,Sz b,Fv 163,Fv 170,Fv 171])∧w'.heap[b]?=some (.cells #[.int .i64 4] 3)∧w.heap.size≤b∧Kp [] w w':=by
 go_enter Try.func144,Try.ntmps144
 go_wp2
 refine bodyPost_ret (v:=.agg #[.bool false,.bool false,.bool false,Sz (w.heap.size+1),Fv 163,Fv 170,Fv 171]) (by simp [results,Try.results144,go_sem]) rfl ⟨w.heap.size+1,rfl,?_,by omega,by with_reducible (repeat (first|exact Kp.refl _ _|assumption|refine Kp.alloc ?_ _|refine Kp.drew ?_|refine Kp.drewN ?_ _|(refine Kp.setL ?_ ?_ _;focus (simp;done))|(refine Kp.setR ?_ ?_ _;focus (first|(simp;done)|(simp;omega)))))⟩
 with_reducible (repeat (first|assumption|(refine hp_new _ _ _ ?_;focus (simp;done))|refine hpl ?_|(refine hpf ?_ ?_;focus (first|(simp;done)|(simp;omega)))|refine hpd ?_|refine hpe ?_))
theorem kinds4 (w:World):Calls Try.prog 144 #[.int .i64 4] w fun e w'=>e=.returned (.agg #[.bool true,.bool false,.bool false,Fv 172,Fv 173,Fv 174,Fv 175])∧Kp [] w w':=by
 go_enter Try.func144,Try.ntmps144
 go_wp2
 exact bodyPost_ret (v:=.agg #[.bool true,.bool false,.bool false,Fv 172,Fv 173,Fv 174,Fv 175]) (by simp [results,Try.results144,go_sem]) rfl ⟨rfl,by with_reducible (repeat (first|exact Kp.refl _ _|assumption|refine Kp.alloc ?_ _|refine Kp.drew ?_|refine Kp.drewN ?_ _|(refine Kp.setL ?_ ?_ _;focus (simp;done))|(refine Kp.setR ?_ ?_ _;focus (first|(simp;done)|(simp;omega)))))⟩
theorem kinds5 (w:World):Calls Try.prog 144 #[.int .i64 5] w fun e w'=>e=.returned (.agg #[.bool false,.bool false,.bool true,Fv 161,Fv 162,Fv 176,Fv 177])∧Kp [] w w':=by
 go_enter Try.func144,Try.ntmps144
 go_wp2
 exact bodyPost_ret (v:=.agg #[.bool false,.bool false,.bool true,Fv 161,Fv 162,Fv 176,Fv 177]) (by simp [results,Try.results144,go_sem]) rfl ⟨rfl,by with_reducible (repeat (first|exact Kp.refl _ _|assumption|refine Kp.alloc ?_ _|refine Kp.drew ?_|refine Kp.drewN ?_ _|(refine Kp.setL ?_ ?_ _;focus (simp;done))|(refine Kp.setR ?_ ?_ _;focus (first|(simp;done)|(simp;omega)))))⟩
theorem kinds6 (w:World):Calls Try.prog 144 #[.int .i64 6] w fun e w'=>∃ b,e=.returned (.agg #[.bool true,.bool false,.bool false,Sz b,Fv 178,Fv 160,Fv 164])∧w'.heap[b]?=some (.cells #[.int .i64 8] 3)∧w.heap.size≤b∧Kp [] w w':=by
 go_enter Try.func144,Try.ntmps144
 go_wp2
 refine bodyPost_ret (v:=.agg #[.bool true,.bool false,.bool false,Sz (w.heap.size+1),Fv 178,Fv 160,Fv 164]) (by simp [results,Try.results144,go_sem]) rfl ⟨w.heap.size+1,rfl,?_,by omega,by with_reducible (repeat (first|exact Kp.refl _ _|assumption|refine Kp.alloc ?_ _|refine Kp.drew ?_|refine Kp.drewN ?_ _|(refine Kp.setL ?_ ?_ _;focus (simp;done))|(refine Kp.setR ?_ ?_ _;focus (first|(simp;done)|(simp;omega)))))⟩
 with_reducible (repeat (first|assumption|(refine hp_new _ _ _ ?_;focus (simp;done))|refine hpl ?_|(refine hpf ?_ ?_;focus (first|(simp;done)|(simp;omega)))|refine hpd ?_|refine hpe ?_))
theorem kinds7 (w:World):Calls Try.prog 144 #[.int .i64 7] w fun e w'=>e=.returned (.agg #[.bool true,.bool false,.bool false,Fv 179,Fv 162,Fv 180,Fv 181])∧Kp [] w w':=by
 go_enter Try.func144,Try.ntmps144
 go_wp2
 exact bodyPost_ret (v:=.agg #[.bool true,.bool false,.bool false,Fv 179,Fv 162,Fv 180,Fv 181]) (by simp [results,Try.results144,go_sem]) rfl ⟨rfl,by with_reducible (repeat (first|exact Kp.refl _ _|assumption|refine Kp.alloc ?_ _|refine Kp.drew ?_|refine Kp.drewN ?_ _|(refine Kp.setL ?_ ?_ _;focus (simp;done))|(refine Kp.setR ?_ ?_ _;focus (first|(simp;done)|(simp;omega)))))⟩
theorem kinds8 (w:World):Calls Try.prog 144 #[.int .i64 8] w fun e w'=>∃ b,e=.returned (.agg #[.bool false,.bool true,.bool false,Sz b,Fv 182,Fv 183,Fv 184])∧w'.heap[b]?=some (.cells #[.int .i64 4] 3)∧w.heap.size≤b∧Kp [] w w':=by
 go_enter Try.func144,Try.ntmps144
 go_wp2
 refine bodyPost_ret (v:=.agg #[.bool false,.bool true,.bool false,Sz (w.heap.size+1),Fv 182,Fv 183,Fv 184]) (by simp [results,Try.results144,go_sem]) rfl ⟨w.heap.size+1,rfl,?_,by omega,by with_reducible (repeat (first|exact Kp.refl _ _|assumption|refine Kp.alloc ?_ _|refine Kp.drew ?_|refine Kp.drewN ?_ _|(refine Kp.setL ?_ ?_ _;focus (simp;done))|(refine Kp.setR ?_ ?_ _;focus (first|(simp;done)|(simp;omega)))))⟩
 with_reducible (repeat (first|assumption|(refine hp_new _ _ _ ?_;focus (simp;done))|refine hpl ?_|(refine hpf ?_ ?_;focus (first|(simp;done)|(simp;omega)))|refine hpd ?_|refine hpe ?_))
theorem kinds9 (w:World):Calls Try.prog 144 #[.int .i64 9] w fun e w'=>e=.returned (.agg #[.bool false,.bool false,.bool false,Fv 161,Fv 163,Fv 160,Fv 164])∧Kp [] w w':=by
 go_enter Try.func144,Try.ntmps144
 go_wp2
 exact bodyPost_ret (v:=.agg #[.bool false,.bool false,.bool false,Fv 161,Fv 163,Fv 160,Fv 164]) (by simp [results,Try.results144,go_sem]) rfl ⟨rfl,by with_reducible (repeat (first|exact Kp.refl _ _|assumption|refine Kp.alloc ?_ _|refine Kp.drew ?_|refine Kp.drewN ?_ _|(refine Kp.setL ?_ ?_ _;focus (simp;done))|(refine Kp.setR ?_ ?_ _;focus (first|(simp;done)|(simp;omega)))))⟩
end Go.Proofs.Ytkmcakneceagpaa

namespace Go.Proofs.Ytkmcakneceagpaa
open Go.RowKit

structure Pq where
 f:Fp
 used:Int
 is:Bool
 xst:Int
 code:Int
 err:Int
def Pq.no (used err:Int):Pq:=⟨Fp.zero,used,false,0,0,err⟩
def Pq.bad (used st code:Int):Pq:=⟨Fp.zero,used,true,st,code,0⟩
def fitsB (ty fl:Int) (n:Nat):Bool :=
 if ty=2 then decide (n=5) else if ty=3∨ty=8 then decide (n=4) else if ty=4 then decide (n % 6=0) && (decide (n=0) || !hasB fl 1) else if ty=6 then decide (n=8) else if ty=7 then decide (8≤n) else true
def fixedN (ty fl:Int):Nat:=if ty=5 then 4 else if ty=1∧hasB fl 32=true then 5 else 0
inductive Un where
 | bad (code:Int)
 | ok (pad:Nat) (l:List UInt8)
def unS (ty fl:Int) (l:List UInt8):Un :=
 if padF ty fl then
  (if l.length < 1+fixedN ty fl then .bad 6 else if (l.length:Int) - 1 - (l.getD 0 0).toNat < fixedN ty fl then .bad 1 else .ok (l.getD 0 0).toNat ((l.drop 1).take (l.length - 1 - (l.getD 0 0).toNat)))
 else if l.length < fixedN ty fl then .bad 6 else .ok 0 l
def n31 (l:List UInt8) (i:Nat):Int:=((be ((l.drop i).take 4) % 2147483648:Nat):Int)
def n32 (l:List UInt8) (i:Nat):Int:=((be ((l.drop i).take 4):Nat):Int)
def n16 (l:List UInt8) (i:Nat):Int:=((be ((l.drop i).take 2):Nat):Int)
def prS (p:Fp) (l:List UInt8):Fp:={ p with dep:=n31 l 0,only:=decide (128≤(l.getD 0 0).toNat),wt:=(l.getD 4 0).toNat+1 }
def setsS (l:List UInt8):Nat→List (Int × Int)
 | 0=>[]
 | k+1=>setsS l k++[(n16 l (6 * k),n32 l (6 * k+2))]
def getS (p:Fp) (l:List UInt8):Fp :=
 if p.ty=1 then (if hasB p.fl 32 then { prS p l with pl:=l.drop 5 } else { p with pl:=l }) else if p.ty=2 then prS p l else if p.ty=3 then { p with code:=n32 l 0 } else if p.ty=4 then { p with ss:=setsS l (l.length / 6) }
 else if p.ty=5 then { p with last:=n31 l 0,pl:=l.drop 4 } else if p.ty=7 then { p with last:=n31 l 0,code:=n32 l 4,pl:=l.drop 8 } else if p.ty=8 then { p with inc:=n31 l 0 } else { p with pl:=l }
def f0S (ty fl st pad:Int):Fp:=⟨ty,fl,st,[],pad,0,0,0,0,false,0,[]⟩
def inS (ty fl st:Int) (l:List UInt8):Pq :=
 let u:Int:=9+l.length
 if known ty=false then ⟨f0S ty fl st 0,u,false,0,0,0⟩
 else if rightB ty st=false then .bad u 0 1
 else if fitsB ty fl l.length=false then .bad u (if ty=2 then st else 0) 6
 else match unS ty fl l with
  | .bad c=>.bad u 0 c
  | .ok pad m=>if ty=8∧n31 m 0=0 then .bad u st 1 else ⟨getS (f0S ty fl st pad) m,u,false,0,0,0⟩
def ps (l:List UInt8) (most:Int):Pq :=
 if most < 0 then .no 0 1
 else if l.length < 9 then .no 0 3
 else if most < be (l.take 3) then .bad 9 0 6
 else if l.length < 9+be (l.take 3) then .no 0 3
 else inS (l.getD 3 0).toNat (l.getD 4 0).toNat (n31 l 5) ((l.drop 9).take (be (l.take 3)))
theorem setsS_len (l:List UInt8) (k:Nat):(setsS l k).length=k:=by
 induction k with
 | zero=>rfl
 | succ k ih=>simp [setsS,ih]
end Go.Proofs.Ytkmcakneceagpaa

namespace Go.Proofs.Ytkmcakneceagpaa
open Go.RowKit

theorem cellsF {w:World} {g:Nat} {a0 a1 a2 a3 a4 a5 a6 a7 a8 a9 a10 a11:Value} {t:TypeId} (h:w.heap[g]?=some (.cells #[a0,a1,a2,a3,a4,a5,a6,a7,a8,a9,a10,a11] t)) :
  w.cell? ⟨g,0,none⟩=some a0∧w.cell? ⟨g,1,none⟩=some a1∧w.cell? ⟨g,2,none⟩=some a2∧w.cell? ⟨g,3,none⟩=some a3∧w.cell? ⟨g,4,none⟩=some a4∧w.cell? ⟨g,5,none⟩=some a5∧w.cell? ⟨g,6,none⟩=some a6∧w.cell? ⟨g,7,none⟩=some a7∧w.cell? ⟨g,8,none⟩=some a8∧w.cell? ⟨g,9,none⟩=some a9∧w.cell? ⟨g,10,none⟩=some a10∧w.cell? ⟨g,11,none⟩=some a11∧(∀ j,w.frozen? ⟨g,j,none⟩=false)∧g < w.heap.size∧g < w.heap.size+1 :=
 ⟨cell_of h 0,cell_of h 1,cell_of h 2,cell_of h 3,cell_of h 4,cell_of h 5,cell_of h 6,cell_of h 7,cell_of h 8,cell_of h 9,cell_of h 10,cell_of h 11,frozen_of h,lt_of_heap h,Nat.lt_succ_of_lt (lt_of_heap h)⟩

theorem new_at {w w':World} {o:Obj} (h:w.alloc o=w'):Kp [] w w'∧w'.heap[w.heap.size]?=some o:=by
 subst h
 exact ⟨(Kp.refl _ _).alloc _,hp_new w o _ rfl⟩
structure FrP (w:World) (base:Nat) (f:Fr) (p:Fp):Prop where
 eq:f.p p.pl p.ss=p
 rd:Rd w f.pA f.pn f.pc p.pl
 sd:Sd w f.sA f.sn f.sc p.ss
 pb:∀ b,b∈ob f.pA→base≤b
 sb:∀ b,b∈ob f.sA→base≤b
theorem Sd.nil (w:World):Sd w none 0 0 []:=⟨rfl,Nat.le_refl _,fun h=>by omega,fun i=>by simp; exact ⟨by omega,by omega⟩⟩
def GetR (g:Nat) (p:Fp) (w:World) (e:Ending) (w':World):Prop :=
 e=.returned (.agg #[.bool false,.int .i64 0,.int .i64 0])∧∃ f':Fr,w'.heap[g]?=some (.cells #[.int .i64 f'.ty,.int .i64 f'.fl,.int .i64 f'.st,.slice f'.pA f'.pn f'.pc,.int .i64 f'.pad,.int .u32 f'.code,.int .i64 f'.last,.int .i64 f'.inc,.int .i64 f'.dep,.bool f'.only,.int .i64 f'.wt,.slice f'.sA f'.sn f'.sc] 49)∧FrP w' w.heap.size f' p∧Kp [g] w w'

/-! ### fits -/
theorem fitsAll (n:Int) (a:Bool) (w:World):Calls Try.prog 161 #[.int .i64 n,.bool a] w (BoolR true w):=by
 go_enter Try.func161,Try.ntmps161
 go_wp2
 go_ret
 exact ⟨rfl,rfl⟩
theorem fitsSz (n:Nat) (a:Bool) (b:Nat) (k:Int) (w:World) (hb:w.heap[b]?=some (.cells #[.int .i64 k] 3)):Calls Try.prog 192 #[.int .i64 n,.bool a,.pointer (some ⟨b,0,none⟩)] w (BoolR (decide ((n:Int)=k)) w):=by
 have c0:=cell_of hb 0
 clear hb
 by_cases h:(n:Int)=k
 ·have h1:((n:Int) == k)=true:=by simp [h]
  have e:decide ((n:Int)=k)=true:=by simp [h]
  rw [e]
  clear h e
  go_enter Try.func192,Try.ntmps192
  go_wp2
  go_ret
  exact ⟨by simp,rfl⟩
 ·have h1:((n:Int) == k)=false:=by simp [h]
  have e:decide ((n:Int)=k)=false:=by simp [h]
  rw [e]
  clear h e
  go_enter Try.func192,Try.ntmps192
  go_wp2
  go_ret
  exact ⟨by simp,rfl⟩
theorem fitsSets (n:Nat) (hn:n≤16777216) (a:Bool) (w:World):Calls Try.prog 172 #[.int .i64 n,.bool a] w (BoolR (decide (n % 6=0) && (decide (n=0) || !a)) w):=by
 by_cases h6:n % 6=0
 ·have h1:((n:Int) % 6 == 0)=true:=by simp; omega
  by_cases h0:n=0
  ·subst h0
   go_enter Try.func172,Try.ntmps172
   go_wp2
   go_ret
   exact ⟨by simp,rfl⟩
  ·have h2:((n:Int) == 0)=false:=by simp; omega
   have e:(decide (n % 6=0) && (decide (n=0) || !a))=!a:=by simp [h6,h0]
   rw [e]
   clear h6 h0 e
   go_enter Try.func172,Try.ntmps172
   go_wp2
   go_ret
   exact ⟨by simp,rfl⟩
 ·have h1:((n:Int) % 6 == 0)=false:=by simp; omega
  have e:(decide (n % 6=0) && (decide (n=0) || !a))=false:=by simp [h6]
  rw [e]
  clear h6 e
  go_enter Try.func172,Try.ntmps172
  go_wp2
  go_ret
  exact ⟨by simp,rfl⟩
theorem fitsEight (n:Nat) (a:Bool) (w:World):Calls Try.prog 179 #[.int .i64 n,.bool a] w (BoolR (decide (8≤n)) w):=by
 by_cases h:8≤n
 ·have e:decide (8≤n)=true:=by simp [h]
  rw [e]
  have h1:(8:Int)≤(n:Int):=by omega
  clear h e
  go_enter Try.func179,Try.ntmps179
  go_wp2
  go_ret
  exact ⟨by simp,rfl⟩
 ·have e:decide (8≤n)=false:=by simp [h]
  rw [e]
  have h1:¬ (8:Int)≤(n:Int):=by omega
  clear h e
  go_enter Try.func179,Try.ntmps179
  go_wp2
  go_ret
  exact ⟨by simp,rfl⟩

/-! ### get -/
theorem restF (f:Fr) (g:Nat) (A:Option Addr) (n c:Nat) (l:List UInt8) (w:World) (hB:w.heap[g]?=some (.cells #[.int .i64 f.ty,.int .i64 f.fl,.int .i64 f.st,.slice f.pA f.pn f.pc,.int .i64 f.pad,.int .u32 f.code,.int .i64 f.last,.int .i64 f.inc,.int .i64 f.dep,.bool f.only,.int .i64 f.wt,.slice f.sA f.sn f.sc] 49)) (hr:Rd w A n c l) (hn:n≤140737488355328) :
  Calls Try.prog 164 #[.pointer (some ⟨g,0,none⟩),.slice A n c] w fun e w'=>e=.returned (.agg #[.bool false,.int .i64 0,.int .i64 0])∧∃ pA pn pc,w'.heap[g]?=some (.cells #[.int .i64 f.ty,.int .i64 f.fl,.int .i64 f.st,.slice pA pn pc,.int .i64 f.pad,.int .u32 f.code,.int .i64 f.last,.int .i64 f.inc,.int .i64 f.dep,.bool f.only,.int .i64 f.wt,.slice f.sA f.sn f.sc] 49)∧Ow w' w.heap.size 5 1 pA pn pc (l.map u8)∧Kp [g] w w':=by
 have HB:=Lib.hid hB
 have HR:=Lib.hid hr
 have hg:=lt_of_heap hB
 clear hB hr
 go_enter Try.func164,Try.ntmps164
 go_wp2_with (with_reducible refine stopAt (o:=⟨some 7,_,_,_,_,_⟩) ?_)
 generalize hW:World.alloc _ _=w1
 have K1:Kp [] w w1:=by rw [← hW]; with_reducible (repeat (first|exact Kp.refl _ _|assumption|refine Kp.alloc ?_ _|refine Kp.drew ?_|refine Kp.drewN ?_ _|(refine Kp.setL ?_ ?_ _;focus (simp;done))|(refine Kp.setR ?_ ?_ _;focus (first|(simp;done)|(simp;omega)))))
 have HX:=Lib.hid (show w1.heap[w.heap.size]?=some (.cells #[.bool false,.int .i64 0,.int .i64 0] 64) by rw [← hW]; with_reducible (repeat (first|assumption|(refine hp_new _ _ _ ?_;focus (simp;done))|refine hpl ?_|(refine hpf ?_ ?_;focus (first|(simp;done)|(simp;omega)))|refine hpd ?_|refine hpe ?_)))
 clear hW
 have hs1:=K1.size
 have hsx:=lt_of_heap HX.out
 refine Stop.go (wp_appB rfl _ _ 22 5 rfl Try.underlying22 Try.info5 w1.heap.size none 0 0 [] rfl (Ow.nil _ _ _ _) A n c l rfl (HR.out.keep K1 (by simp)) (by omega) (Nat.le_refl _) ?_)
 intro pA pn pc l2 w2 hn2 hl2 O K2 hA2
 have K2':Kp [] w1 w2:=K2.mono (by simp [ob])
 have HK:=Lib.hid (K1.trans K2')
 have HB2:=Lib.hid ((K1.trans K2').heap HB.out (by simp))
 have HX2:=Lib.hid (K2'.heap HX.out (by simp))
 have e:l2=l:=by rw [hl2.out]; rfl
 subst e
 have HO:=Lib.hid O
 clear K1 K2 K2' O hl2 hn2 hA2 HX HB
 obtain ⟨f0,f1,f2,f3,f4,f5,f6,f7,f8,f9,f10,f11,fz,fl1,fl2⟩:=cellsF HB2.out
 have x0:=cell_of HX2.out 0
 have x1:=cell_of HX2.out 1
 have x2:=cell_of HX2.out 2
 have xz:=frozen_of HX2.out
 go_wp2
 have hgx:¬ g=w.heap.size:=by omega
 generalize hW:World.setCell _ _ _=W
 have K9:Kp [g,w.heap.size] w2 W:=by rw [← hW]; exact (((((Kp.refl _ _).setCell (.inl (by simp)) _).setCell (.inl (by simp)) _).setCell (.inl (by simp)) _).setCell (.inl (by simp)) _)
 have HB9:W.heap[g]?=some (.cells #[.int .i64 f.ty,.int .i64 f.fl,.int .i64 f.st,.slice pA pn pc,.int .i64 f.pad,.int .u32 f.code,.int .i64 f.last,.int .i64 f.inc,.int .i64 f.dep,.bool f.only,.int .i64 f.wt,.slice f.sA f.sn f.sc] 49):=by rw [← hW]; exact (hp_far _ _ _ _ (by simp; omega)).trans ((hp_far _ _ _ _ (by simp; omega)).trans ((hp_far _ _ _ _ (by simp; omega)).trans (hp_set _ _ _ _ _ _ HB2.out)))
 have HX9:W.heap[w.heap.size]?=some (.cells #[.bool false,.int .i64 0,.int .i64 0] 64):=by rw [← hW]; exact hp_set _ _ _ _ _ _ (hp_set _ _ _ _ _ _ (hp_set _ _ _ _ _ _ ((hp_far _ _ _ _ (by simp; omega)).trans HX2.out)))
 refine bodyPost_ret (v:=.agg #[.bool false,.int .i64 0,.int .i64 0]) (by simp [results,Try.results164,go_sem,cell_of HX9]) rfl ⟨rfl,pA,pn,pc,HB9,?_,(HK.out.nil).then K9 (by simp)⟩
 exact (HO.out.keep K9 (fun b hb ht=>by have:=(HO.out.base b hb).1; simp at ht; omega)).mono hs1

theorem n31_eq {l:List UInt8} {i:Nat} (h:i+4≤l.length):(((num 4 l (i:Int)).1 % 2147483648:Nat):Int)=n31 l i:=by rw [num_ok h]; rfl
theorem n32_eq {l:List UInt8} {i:Nat} (h:i+4≤l.length):(((num 4 l (i:Int)).1:Nat):Int)=n32 l i:=by rw [num_ok h]; rfl
theorem n16_eq {l:List UInt8} {i:Nat} (h:i+2≤l.length):(((num 2 l (i:Int)).1:Nat):Int)=n16 l i:=by rw [num_ok h]; rfl
def NumR (k:IntKind) (x:Int) (w:World) (en:Ending) (w':World):Prop:=∃ p q:Int,en=.returned (.tuple #[.int k x,.int .i64 p,.int .i64 q])∧Kp [] w w'
theorem U31_at (A:Option Addr) (n c:Nat) (i:Nat) (l:List UInt8) (w:World) (hn:n≤140737488355328) (hr:Rd w A n c l) (h:i+4≤n):Calls Try.prog 51 #[.slice A n c,.int .i64 i] w (NumR .i64 (n31 l i) w) :=
 (U31_any A n c i l w hn hr).mono fun e w' ⟨he,hk⟩=>⟨_,_,by rw [n31_eq (by rw [hr.len]; exact h)] at he; exact he,hk⟩
theorem U32_at (A:Option Addr) (n c:Nat) (i:Nat) (l:List UInt8) (w:World) (hn:n≤140737488355328) (hr:Rd w A n c l) (h:i+4≤n):Calls Try.prog 34 #[.slice A n c,.int .i64 i] w (NumR .u32 (n32 l i) w) :=
 (U32_any A n c i l w hn hr).mono fun e w' ⟨he,hk⟩=>⟨_,_,by rw [n32_eq (by rw [hr.len]; exact h)] at he; exact he,hk⟩
theorem U16_at (A:Option Addr) (n c:Nat) (i:Nat) (l:List UInt8) (w:World) (hn:n≤140737488355328) (hr:Rd w A n c l) (h:i+2≤n):Calls Try.prog 39 #[.slice A n c,.int .i64 i] w (NumR .i64 (n16 l i) w) :=
 (U16_any A n c i l w hn hr).mono fun e w' ⟨he,hk⟩=>⟨_,_,by rw [n16_eq (by rw [hr.len]; exact h)] at he; exact he,hk⟩

theorem priorF (f:Fr) (g:Nat) (A:Option Addr) (n c:Nat) (l:List UInt8) (w:World) (hB:w.heap[g]?=some (.cells #[.int .i64 f.ty,.int .i64 f.fl,.int .i64 f.st,.slice f.pA f.pn f.pc,.int .i64 f.pad,.int .u32 f.code,.int .i64 f.last,.int .i64 f.inc,.int .i64 f.dep,.bool f.only,.int .i64 f.wt,.slice f.sA f.sn f.sc] 49)) (hr:Rd w A n c l) (hgA:g∉ob A) (h5:5≤n) (hn:n≤140737488355328) :
  Calls Try.prog 166 #[.pointer (some ⟨g,0,none⟩),.slice A n c] w fun e w'=>∃ A',e=.returned (.slice A' (n - 5) (c - 5))∧Rd w' A' (n - 5) (c - 5) (l.drop 5)∧g∉ob A'∧w'.heap[g]?=some (.cells #[.int .i64 f.ty,.int .i64 f.fl,.int .i64 f.st,.slice f.pA f.pn f.pc,.int .i64 f.pad,.int .u32 f.code,.int .i64 f.last,.int .i64 f.inc,.int .i64 (n31 l 0),.bool (decide (128≤(l.getD 0 0).toNat)),.int .i64 ((l.getD 4 0).toNat+1),.slice f.sA f.sn f.sc] 49)∧Kp [g] w w':=by
 obtain ⟨b,off,rfl,hb,hcell⟩:=hr.addr (by omega)
 have hne:¬ b=g:=fun h=>hgA (by simp [ob,h])
 have hne2:¬ g=b:=fun h=>hgA (by simp [ob,h])
 have HB:=Lib.hid hB
 have HR:=Lib.hid hr
 have hcap:=hr.cap
 have hg:=lt_of_heap hB
 have q0:=hcell 0 (by omega)
 have q4:=hcell 4 (by omega)
 clear hB hr hgA hcell
 have hU:=U31_at (some ⟨b,off,none⟩) n c 0 l w hn HR.out (by omega)
 rw [show ((0:Nat):Int)=0 from rfl] at hU
 generalize hx:n31 l 0=x at hU
 have HX:=Lib.hid hx
 have hx0:=(l.getD 0 0).toNat_lt
 have hx4:=(l.getD 4 0).toNat_lt
 generalize hy0:(l.getD 0 0).toNat=y0 at *
 generalize hy4:(l.getD 4 0).toNat=y4 at *
 clear hx hy0 hy4
 by_cases hc5:c=5
 ·subst hc5
  obtain rfl:n=5:=by omega
  go_enter Try.func166,Try.ntmps166
  go_wp2_with fail
  refine hU.mono ?_
  rintro e w1 ⟨p,q,rfl,K1⟩
  have HB1:=Lib.hid (K1.heap HB.out (by simp))
  have c0:=K1.cell q0 (by simp)
  have c4:=K1.cell q4 (by simp)
  rw [Nat.add_zero] at c0
  obtain ⟨f0,f1,f2,f3,f4,f5,f6,f7,f8,f9,f10,f11,fz,fl1,fl2⟩:=cellsF HB1.out
  have HK1:=Lib.hid K1
  clear hU q0 q4 K1
  go_wp2
  generalize hW:World.setCell _ _ _=W
  have K9:Kp [g] w1 W:=by rw [← hW]; exact ((((Kp.refl _ _).setCell (.inl (by simp)) _).setCell (.inl (by simp)) _).setCell (.inl (by simp)) _)
  have HB9:W.heap[g]?=some (.cells #[.int .i64 f.ty,.int .i64 f.fl,.int .i64 f.st,.slice f.pA f.pn f.pc,.int .i64 f.pad,.int .u32 f.code,.int .i64 f.last,.int .i64 f.inc,.int .i64 x,.bool (decide ((128:Int)≤(y0:Int))),.int .i64 ((y4:Int)+1),.slice f.sA f.sn f.sc] 49):=by rw [← hW]; exact hp_set _ _ _ _ _ _ (hp_set _ _ _ _ _ _ (hp_set _ _ _ _ _ _ HB1.out))
  have HR9:=(HR.out.keep HK1.out (by simp)).keep K9 (by intro _ t h1 h2; simp [ob] at h1 h2; omega)
  clear hW
  go_ret
  refine ⟨some ⟨b,off,none⟩,rfl,?_,?_,?_,HK1.out.nil.trans K9⟩
  ·have:=HR9.sub 5 5 (by omega) (by omega) (A':=some ⟨b,off,none⟩) (by intro b' o' h1 h2; omega)
   rw [List.take_of_length_le (by simp [HR9.len])] at this
   exact this
  ·simp [ob]; omega
  ·rw [HB9]
   simp
   omega
 ·have hc6:6≤c:=by omega
  go_enter Try.func166,Try.ntmps166
  go_wp2_with fail
  refine hU.mono ?_
  rintro e w1 ⟨p,q,rfl,K1⟩
  have HB1:=Lib.hid (K1.heap HB.out (by simp))
  have c0:=K1.cell q0 (by simp)
  have c4:=K1.cell q4 (by simp)
  rw [Nat.add_zero] at c0
  obtain ⟨f0,f1,f2,f3,f4,f5,f6,f7,f8,f9,f10,f11,fz,fl1,fl2⟩:=cellsF HB1.out
  have HK1:=Lib.hid K1
  clear hU q0 q4 K1
  go_wp2
  generalize hW:World.setCell _ _ _=W
  have K9:Kp [g] w1 W:=by rw [← hW]; exact ((((Kp.refl _ _).setCell (.inl (by simp)) _).setCell (.inl (by simp)) _).setCell (.inl (by simp)) _)
  have HB9:W.heap[g]?=some (.cells #[.int .i64 f.ty,.int .i64 f.fl,.int .i64 f.st,.slice f.pA f.pn f.pc,.int .i64 f.pad,.int .u32 f.code,.int .i64 f.last,.int .i64 f.inc,.int .i64 x,.bool (decide ((128:Int)≤(y0:Int))),.int .i64 ((y4:Int)+1),.slice f.sA f.sn f.sc] 49):=by rw [← hW]; exact hp_set _ _ _ _ _ _ (hp_set _ _ _ _ _ _ (hp_set _ _ _ _ _ _ HB1.out))
  have HR9:=(HR.out.keep HK1.out (by simp)).keep K9 (by intro _ t h1 h2; simp [ob] at h1 h2; omega)
  clear hW
  go_ret
  refine ⟨some ⟨b,off+5,none⟩,rfl,?_,?_,?_,HK1.out.nil.trans K9⟩
  ·have:=HR9.sub 5 n (by omega) (by omega) (A':=some ⟨b,off+5,none⟩) (by intro b' o' h1 h2; injection h1 with h1; injection h1 with h1 h3 _; rw [h1,h3])
   rw [List.take_of_length_le (by simp [HR9.len])] at this
   exact this
  ·simp [ob]; omega
  ·rw [HB9]
   simp
   omega
end Go.Proofs.Ytkmcakneceagpaa

namespace Go.Proofs.Ytkmcakneceagpaa
open Go.RowKit

theorem get3 (fl st pad:Int) (g:Nat) (A:Option Addr) (n c:Nat) (l:List UInt8) (w:World) (hB:w.heap[g]?=some (.cells #[.int .i64 3,.int .i64 fl,.int .i64 st,.slice none 0 0,.int .i64 pad,.int .u32 0,.int .i64 0,.int .i64 0,.int .i64 0,.bool false,.int .i64 0,.slice none 0 0] 49)) (hr:Rd w A n c l) (hgA:g∉ob A) (hn:n≤140737488355328) (h4:4≤n) :
  Calls Try.prog 171 #[.pointer (some ⟨g,0,none⟩),.slice A n c] w (GetR g (getS (f0S 3 fl st pad) l) w):=by
 have HB:=Lib.hid hB
 have HR:=Lib.hid hr
 have hg:=lt_of_heap hB
 have hcap:=hr.cap
 clear hB hr
 go_enter Try.func171,Try.ntmps171
 go_wp2_with fail
 generalize hW:World.alloc _ _=w1
 obtain ⟨K1,hx⟩:=new_at hW
 have HX1:=Lib.hid hx
 have hsx:=lt_of_heap hx
 have HR1:=Lib.hid (HR.out.keep K1 (by simp))
 have HB1:=Lib.hid (K1.heap HB.out (by simp))
 have HK1:=Lib.hid K1
 clear hW hx K1 HB HR
 refine (U32_at A n c 0 l w1 hn HR1.out (by omega)).mono ?_
 rintro e w2 ⟨p2,q2,rfl,K2⟩
 have HX2:=Lib.hid (K2.heap HX1.out (by simp))
 have HR2:=Lib.hid (HR1.out.keep K2 (by simp))
 have HB2:=Lib.hid (K2.heap HB1.out (by simp))
 have HK2:=Lib.hid (HK1.out.trans K2)
 have hs2:=K2.size
 clear HX1 HR1 HB1 HK1 K2
 obtain ⟨f0,f1,f2,f3,f4,f5,f6,f7,f8,f9,f10,f11,fz,fl1,fl2⟩:=cellsF HB2.out
 have x0:=cell_of HX2.out 0
 have x1:=cell_of HX2.out 1
 have x2:=cell_of HX2.out 2
 have xz:=frozen_of HX2.out
 have hgx:¬ g=w.heap.size:=by omega
 go_wp2
 generalize hW:World.setCell _ _ _=W
 have K9:Kp [g,w.heap.size] w2 W:=by rw [← hW]; exact (((((Kp.refl _ _).setCell (.inl (by simp)) _).setCell (.inl (by simp)) _).setCell (.inl (by simp)) _).setCell (.inl (by simp)) _)
 have HB9:W.heap[g]?=some (.cells #[.int .i64 3,.int .i64 fl,.int .i64 st,.slice none 0 0,.int .i64 pad,.int .u32 (n32 l 0),.int .i64 0,.int .i64 0,.int .i64 0,.bool false,.int .i64 0,.slice none 0 0] 49):=by rw [← hW]; exact (hp_far _ _ _ _ (by simp; omega)).trans ((hp_far _ _ _ _ (by simp; omega)).trans ((hp_far _ _ _ _ (by simp; omega)).trans (hp_set _ _ _ _ _ _ (HB2.out))))
 have HX9:W.heap[w.heap.size]?=some (.cells #[.bool false,.int .i64 0,.int .i64 0] 64):=by rw [← hW]; exact hp_set _ _ _ _ _ _ (hp_set _ _ _ _ _ _ (hp_set _ _ _ _ _ _ ((hp_far _ _ _ _ (by simp; omega)).trans (HX2.out))))
 refine bodyPost_ret (v:=.agg #[.bool false,.int .i64 0,.int .i64 0]) (by simp [results,Try.results171,go_sem,cell_of HX9]) rfl ⟨rfl,(⟨3,fl,st,none,0,0,pad,n32 l 0,0,0,0,false,0,none,0,0⟩:Fr),HB9,⟨rfl,Rd.nil _ _ _,Sd.nil _,by simp [ob],by simp [ob]⟩,(HK2.out.nil).then K9 (by simp)⟩

theorem getRest (T:Int) (fl st pad:Int) (g:Nat) (A:Option Addr) (n c:Nat) (l:List UInt8) (w:World) (hB:w.heap[g]?=some (.cells #[.int .i64 T,.int .i64 fl,.int .i64 st,.slice none 0 0,.int .i64 pad,.int .u32 0,.int .i64 0,.int .i64 0,.int .i64 0,.bool false,.int .i64 0,.slice none 0 0] 49)) (hr:Rd w A n c l) (hn:n≤140737488355328) (hT:T=0∨T=6∨T=9) :
  Calls Try.prog 164 #[.pointer (some ⟨g,0,none⟩),.slice A n c] w (GetR g (getS (f0S T fl st pad) l) w):=by
 have e:getS (f0S T fl st pad) l={ f0S T fl st pad with pl:=l }:=by rcases hT with rfl | rfl | rfl <;> rfl
 rw [e]
 refine (restF (⟨T,fl,st,none,0,0,pad,0,0,0,0,false,0,none,0,0⟩:Fr) g A n c l w hB hr hn).mono ?_
 rintro e w' ⟨he,pA,pn,pc,h1,h2,h3⟩
 exact ⟨he,(⟨T,fl,st,pA,pn,pc,pad,0,0,0,0,false,0,none,0,0⟩:Fr),h1,⟨rfl,h2.rd,Sd.nil _,fun b hb=>(h2.base b hb).1,by simp [ob]⟩,h3⟩

theorem get2 (fl st pad:Int) (g:Nat) (A:Option Addr) (n c:Nat) (l:List UInt8) (w:World) (hB:w.heap[g]?=some (.cells #[.int .i64 2,.int .i64 fl,.int .i64 st,.slice none 0 0,.int .i64 pad,.int .u32 0,.int .i64 0,.int .i64 0,.int .i64 0,.bool false,.int .i64 0,.slice none 0 0] 49)) (hr:Rd w A n c l) (hgA:g∉ob A) (hn:n≤140737488355328) (h5:5≤n) :
  Calls Try.prog 169 #[.pointer (some ⟨g,0,none⟩),.slice A n c] w (GetR g (getS (f0S 2 fl st pad) l) w):=by
 have HB:=Lib.hid hB
 have HR:=Lib.hid hr
 have hg:=lt_of_heap hB
 have hcap:=hr.cap
 clear hB hr
 go_enter Try.func169,Try.ntmps169
 go_wp2_with fail
 generalize hW:World.alloc _ _=w1
 obtain ⟨K1,hx⟩:=new_at hW
 have HX1:=Lib.hid hx
 have hsx:=lt_of_heap hx
 have HR1:=Lib.hid (HR.out.keep K1 (by simp))
 have HB1:=Lib.hid (K1.heap HB.out (by simp))
 have HK1:=Lib.hid K1
 clear hW hx K1 HB HR
 refine (priorF (⟨2,fl,st,none,0,0,pad,0,0,0,0,false,0,none,0,0⟩:Fr) g A n c l w1 HB1.out HR1.out hgA h5 hn).mono ?_
 rintro e w2 ⟨A2,rfl,R2,hg2,hB2,K2⟩
 have HX2:=Lib.hid (K2.heap HX1.out (by simp; omega))
 have HB2:=Lib.hid hB2
 have HK2:=Lib.hid (HK1.out.nil.trans K2)
 have hs2:=K2.size
 clear HX1 HR1 HB1 HK1 K2 hB2 R2 hg2
 obtain ⟨f0,f1,f2,f3,f4,f5,f6,f7,f8,f9,f10,f11,fz,fl1,fl2⟩:=cellsF HB2.out
 have x0:=cell_of HX2.out 0
 have x1:=cell_of HX2.out 1
 have x2:=cell_of HX2.out 2
 have xz:=frozen_of HX2.out
 have hgx:¬ g=w.heap.size:=by omega
 go_wp2
 generalize hW:World.setCell _ _ _=W
 have K9:Kp [g,w.heap.size] w2 W:=by rw [← hW]; exact ((((Kp.refl _ _).setCell (.inl (by simp)) _).setCell (.inl (by simp)) _).setCell (.inl (by simp)) _)
 have HB9:W.heap[g]?=some (.cells #[.int .i64 2,.int .i64 fl,.int .i64 st,.slice none 0 0,.int .i64 pad,.int .u32 0,.int .i64 0,.int .i64 0,.int .i64 (n31 l 0),.bool (decide (128≤(l.getD 0 0).toNat)),.int .i64 ((l.getD 4 0).toNat+1),.slice none 0 0] 49):=by rw [← hW]; exact (hp_far _ _ _ _ (by simp; omega)).trans ((hp_far _ _ _ _ (by simp; omega)).trans ((hp_far _ _ _ _ (by simp; omega)).trans (HB2.out)))
 have HX9:W.heap[w.heap.size]?=some (.cells #[.bool false,.int .i64 0,.int .i64 0] 64):=by rw [← hW]; exact hp_set _ _ _ _ _ _ (hp_set _ _ _ _ _ _ (hp_set _ _ _ _ _ _ (HX2.out)))
 refine bodyPost_ret (v:=.agg #[.bool false,.int .i64 0,.int .i64 0]) (by simp [results,Try.results169,go_sem,cell_of HX9]) rfl ⟨rfl,(⟨2,fl,st,none,0,0,pad,0,0,0,n31 l 0,decide (128≤(l.getD 0 0).toNat),(l.getD 4 0).toNat+1,none,0,0⟩:Fr),HB9,⟨rfl,Rd.nil _ _ _,Sd.nil _,by simp [ob],by simp [ob]⟩,(HK2.out).then K9 (by simp)⟩


theorem get8 (fl st pad:Int) (g:Nat) (A:Option Addr) (n c:Nat) (l:List UInt8) (w:World) (hB:w.heap[g]?=some (.cells #[.int .i64 8,.int .i64 fl,.int .i64 st,.slice none 0 0,.int .i64 pad,.int .u32 0,.int .i64 0,.int .i64 0,.int .i64 0,.bool false,.int .i64 0,.slice none 0 0] 49)) (hr:Rd w A n c l) (hgA:g∉ob A) (hn:n≤140737488355328) (h4:4≤n) (hi:¬ n31 l 0=0) :
  Calls Try.prog 184 #[.pointer (some ⟨g,0,none⟩),.slice A n c] w (GetR g (getS (f0S 8 fl st pad) l) w):=by
 have HB:=Lib.hid hB
 have HR:=Lib.hid hr
 have hg:=lt_of_heap hB
 have hcap:=hr.cap
 clear hB hr
 go_enter Try.func184,Try.ntmps184
 go_wp2_with fail
 generalize hW:World.alloc _ _=w1
 obtain ⟨K1,hx⟩:=new_at hW
 have HX1:=Lib.hid hx
 have hsx:=lt_of_heap hx
 have HR1:=Lib.hid (HR.out.keep K1 (by simp))
 have HB1:=Lib.hid (K1.heap HB.out (by simp))
 have HK1:=Lib.hid K1
 clear hW hx K1 HB HR
 have hU:=U31_at A n c 0 l w1 hn HR1.out (by omega)
 rw [show ((0:Nat):Int)=0 from rfl] at hU
 generalize hx:n31 l 0=x at hU hi
 have HX0:=Lib.hid hx
 have hi2:(x == 0)=false:=by simp [hi]
 clear hx hi
 refine (hU).mono ?_
 rintro e w2 ⟨p2,q2,rfl,K2⟩
 have HX2:=Lib.hid (K2.heap HX1.out (by simp))
 have HR2:=Lib.hid (HR1.out.keep K2 (by simp))
 have HB2:=Lib.hid (K2.heap HB1.out (by simp))
 have HK2:=Lib.hid (HK1.out.trans K2)
 have hs2:=K2.size
 clear HX1 HR1 HB1 HK1 K2
 obtain ⟨f0,f1,f2,f3,f4,f5,f6,f7,f8,f9,f10,f11,fz,fl1,fl2⟩:=cellsF HB2.out
 have x0:=cell_of HX2.out 0
 have x1:=cell_of HX2.out 1
 have x2:=cell_of HX2.out 2
 have xz:=frozen_of HX2.out
 clear hU
 have hgx:¬ g=w.heap.size:=by omega
 go_wp2
 generalize hW:World.setCell _ _ _=W
 have K9:Kp [g,w.heap.size] w2 W:=by rw [← hW]; exact (((((Kp.refl _ _).setCell (.inl (by simp)) _).setCell (.inl (by simp)) _).setCell (.inl (by simp)) _).setCell (.inl (by simp)) _)
 have HB9:W.heap[g]?=some (.cells #[.int .i64 8,.int .i64 fl,.int .i64 st,.slice none 0 0,.int .i64 pad,.int .u32 0,.int .i64 0,.int .i64 x,.int .i64 0,.bool false,.int .i64 0,.slice none 0 0] 49):=by rw [← hW]; exact (hp_far _ _ _ _ (by simp; omega)).trans ((hp_far _ _ _ _ (by simp; omega)).trans ((hp_far _ _ _ _ (by simp; omega)).trans (hp_set _ _ _ _ _ _ (HB2.out))))
 have HX9:W.heap[w.heap.size]?=some (.cells #[.bool false,.int .i64 0,.int .i64 0] 64):=by rw [← hW]; exact hp_set _ _ _ _ _ _ (hp_set _ _ _ _ _ _ (hp_set _ _ _ _ _ _ ((hp_far _ _ _ _ (by simp; omega)).trans (HX2.out))))
 refine bodyPost_ret (v:=.agg #[.bool false,.int .i64 0,.int .i64 0]) (by simp [results,Try.results184,go_sem,cell_of HX9]) rfl ⟨rfl,(⟨8,fl,st,none,0,0,pad,0,0,x,0,false,0,none,0,0⟩:Fr),HB9,⟨by rw [← HX0.out]; rfl,Rd.nil _ _ _,Sd.nil _,by simp [ob],by simp [ob]⟩,(HK2.out.nil).then K9 (by simp)⟩

theorem get8b (fl st pad:Int) (g:Nat) (A:Option Addr) (n c:Nat) (l:List UInt8) (w:World) (hB:w.heap[g]?=some (.cells #[.int .i64 8,.int .i64 fl,.int .i64 st,.slice none 0 0,.int .i64 pad,.int .u32 0,.int .i64 0,.int .i64 0,.int .i64 0,.bool false,.int .i64 0,.slice none 0 0] 49)) (hr:Rd w A n c l) (hgA:g∉ob A) (hn:n≤140737488355328) (h4:4≤n) (hi:n31 l 0=0) :
  Calls Try.prog 184 #[.pointer (some ⟨g,0,none⟩),.slice A n c] w fun e w'=>e=.returned (.agg #[.bool true,.int .i64 st,.int .i64 1])∧(∃ f':Fr,w'.heap[g]?=some (.cells #[.int .i64 f'.ty,.int .i64 f'.fl,.int .i64 f'.st,.slice f'.pA f'.pn f'.pc,.int .i64 f'.pad,.int .u32 f'.code,.int .i64 f'.last,.int .i64 f'.inc,.int .i64 f'.dep,.bool f'.only,.int .i64 f'.wt,.slice f'.sA f'.sn f'.sc] 49))∧Kp [g] w w':=by
 have HB:=Lib.hid hB
 have HR:=Lib.hid hr
 have hg:=lt_of_heap hB
 have hcap:=hr.cap
 clear hB hr
 go_enter Try.func184,Try.ntmps184
 go_wp2_with fail
 generalize hW:World.alloc _ _=w1
 obtain ⟨K1,hx⟩:=new_at hW
 have HX1:=Lib.hid hx
 have hsx:=lt_of_heap hx
 have HR1:=Lib.hid (HR.out.keep K1 (by simp))
 have HB1:=Lib.hid (K1.heap HB.out (by simp))
 have HK1:=Lib.hid K1
 clear hW hx K1 HB HR
 have hU:=U31_at A n c 0 l w1 hn HR1.out (by omega)
 rw [show ((0:Nat):Int)=0 from rfl,hi] at hU
 clear hi
 refine (hU).mono ?_
 rintro e w2 ⟨p2,q2,rfl,K2⟩
 have HX2:=Lib.hid (K2.heap HX1.out (by simp))
 have HR2:=Lib.hid (HR1.out.keep K2 (by simp))
 have HB2:=Lib.hid (K2.heap HB1.out (by simp))
 have HK2:=Lib.hid (HK1.out.trans K2)
 have hs2:=K2.size
 clear HX1 HR1 HB1 HK1 K2
 obtain ⟨f0,f1,f2,f3,f4,f5,f6,f7,f8,f9,f10,f11,fz,fl1,fl2⟩:=cellsF HB2.out
 have x0:=cell_of HX2.out 0
 have x1:=cell_of HX2.out 1
 have x2:=cell_of HX2.out 2
 have xz:=frozen_of HX2.out
 clear hU
 have hgx:¬ g=w.heap.size:=by omega
 go_wp2
 generalize hW:World.setCell _ _ _=W
 have K9:Kp [g,w.heap.size] w2 W:=by rw [← hW]; exact (((((Kp.refl _ _).setCell (.inl (by simp)) _).setCell (.inl (by simp)) _).setCell (.inl (by simp)) _).setCell (.inl (by simp)) _)
 have HB9:W.heap[g]?=some (.cells #[.int .i64 8,.int .i64 fl,.int .i64 st,.slice none 0 0,.int .i64 pad,.int .u32 0,.int .i64 0,.int .i64 0,.int .i64 0,.bool false,.int .i64 0,.slice none 0 0] 49):=by rw [← hW]; exact (hp_far _ _ _ _ (by simp; omega)).trans ((hp_far _ _ _ _ (by simp; omega)).trans ((hp_far _ _ _ _ (by simp; omega)).trans (hp_set _ _ _ _ _ _ (HB2.out))))
 have HX9:W.heap[w.heap.size]?=some (.cells #[.bool true,.int .i64 st,.int .i64 1] 64):=by rw [← hW]; exact hp_set _ _ _ _ _ _ (hp_set _ _ _ _ _ _ (hp_set _ _ _ _ _ _ ((hp_far _ _ _ _ (by simp; omega)).trans (HX2.out))))
 refine bodyPost_ret (v:=.agg #[.bool true,.int .i64 st,.int .i64 1]) (by simp [results,Try.results184,go_sem,cell_of HX9]) rfl ⟨rfl,⟨(⟨8,fl,st,none,0,0,pad,0,0,0,0,false,0,none,0,0⟩:Fr),HB9⟩,(HK2.out.nil).then K9 (by simp)⟩


theorem get5 (fl st pad:Int) (g:Nat) (A:Option Addr) (n c:Nat) (l:List UInt8) (w:World) (hB:w.heap[g]?=some (.cells #[.int .i64 5,.int .i64 fl,.int .i64 st,.slice none 0 0,.int .i64 pad,.int .u32 0,.int .i64 0,.int .i64 0,.int .i64 0,.bool false,.int .i64 0,.slice none 0 0] 49)) (hr:Rd w A n c l) (hgA:g∉ob A) (hn:n≤140737488355328) (h4:4≤n) :
  Calls Try.prog 177 #[.pointer (some ⟨g,0,none⟩),.slice A n c] w (GetR g (getS (f0S 5 fl st pad) l) w):=by
 obtain ⟨b,o,rfl,_,_⟩:=hr.addr (by omega)
 by_cases hc:c=4
 ·subst hc
  obtain rfl:n=4:=by have:=hr.cap; omega
  have HB:=Lib.hid hB
  have HR:=Lib.hid hr
  have hg:=lt_of_heap hB
  have hcap:=hr.cap
  clear hB hr
  go_enter Try.func177,Try.ntmps177
  go_wp2_with fail
  generalize hW:World.alloc _ _=w1
  obtain ⟨K1,hx⟩:=new_at hW
  have HX1:=Lib.hid hx
  have hsx:=lt_of_heap hx
  have HR1:=Lib.hid (HR.out.keep K1 (by simp))
  have HB1:=Lib.hid (K1.heap HB.out (by simp))
  have HK1:=Lib.hid K1
  clear hW hx K1 HB HR
  replace HK1:=Lib.hid (HK1.out.nil (S:=[g]))
  refine (U31_at (some ⟨b,o,none⟩) 4 4 0 l w1 hn HR1.out (by omega)).mono ?_
  rintro e w2 ⟨p2,q2,rfl,K2⟩
  have HX2:=Lib.hid (K2.heap HX1.out (by simp))
  have HR2:=Lib.hid (HR1.out.keep K2 (by simp))
  have HB2:=Lib.hid (K2.heap HB1.out (by simp))
  have HK2:=Lib.hid (HK1.out.trans K2.nil)
  have hs2:=K2.size
  clear HX1 HR1 HB1 HK1 K2
  obtain ⟨f0,f1,f2,f3,f4,f5,f6,f7,f8,f9,f10,f11,fz,fl1,fl2⟩:=cellsF HB2.out
  have x0:=cell_of HX2.out 0
  have x1:=cell_of HX2.out 1
  have x2:=cell_of HX2.out 2
  have xz:=frozen_of HX2.out
  go_wp2_with fail
  generalize hW:World.setCell _ _ _=w3
  have K3:Kp [g] w2 w3:=by rw [← hW]; exact (Kp.refl _ _).setCell (.inl (by simp)) _
  have HB3:=Lib.hid (show w3.heap[g]?=some (.cells #[.int .i64 5,.int .i64 fl,.int .i64 st,.slice none 0 0,.int .i64 pad,.int .u32 0,.int .i64 (n31 l 0),.int .i64 0,.int .i64 0,.bool false,.int .i64 0,.slice none 0 0] 49) by rw [← hW]; exact hp_set _ _ _ _ _ _ HB2.out)
  have HX3:=Lib.hid (K3.heap HX2.out (by simp; omega))
  have HR3:=Lib.hid (HR2.out.keep K3 (by intro _ t h1 h2; simp at h2; subst h2; exact hgA h1))
  have HK3:=Lib.hid (HK2.out.trans K3)
  have hs3:=K3.size
  clear hW K3 HB2 HX2 HR2 HK2 f0 f1 f2 f3 f4 f5 f6 f7 f8 f9 f10 f11 fz fl1 fl2 x0 x1 x2 xz
  have hq:=HR3.out.sub 4 4 (by omega) (by omega) (A':=(some ⟨b,o,none⟩)) (by intro b' o' h1 h2; omega)
  rw [List.take_of_length_le (by simp [HR3.out.len])] at hq
  refine (restF (⟨5,fl,st,none,0,0,pad,0,(n31 l 0),0,0,false,0,none,0,0⟩:Fr) g _ _ _ (l.drop 4) _ HB3.out hq (by omega)).mono ?_
  rintro e w8 ⟨rfl,pA,pn,pc,hB8,O8,K8⟩
  have HB8:=Lib.hid hB8
  have HO8:=Lib.hid O8
  have HX8:=Lib.hid (K8.heap HX3.out (by simp; omega))
  have HK8:=Lib.hid (HK3.out.trans K8)
  have hs8:=K8.size
  clear hB8 O8 K8 HK3 HX3 HB3 hq
  obtain ⟨f0,f1,f2,f3,f4,f5,f6,f7,f8,f9,f10,f11,fz,fl1,fl2⟩:=cellsF HB8.out
  have x0:=cell_of HX8.out 0
  have x1:=cell_of HX8.out 1
  have x2:=cell_of HX8.out 2
  have xz:=frozen_of HX8.out
  have hgx:¬ g=w.heap.size:=by omega
  go_wp2
  generalize hW:World.setCell _ _ _=W
  have K9:Kp [w.heap.size] w8 W:=by rw [← hW]; exact ((((Kp.refl _ _).setCell (.inl (by simp)) _).setCell (.inl (by simp)) _).setCell (.inl (by simp)) _)
  have HX9:W.heap[w.heap.size]?=some (.cells #[.bool false,.int .i64 0,.int .i64 0] 64):=by rw [← hW]; exact hp_set _ _ _ _ _ _ (hp_set _ _ _ _ _ _ (hp_set _ _ _ _ _ _ HX8.out))
  refine bodyPost_ret (v:=.agg #[.bool false,.int .i64 0,.int .i64 0]) (by simp [results,Try.results177,go_sem,cell_of HX9]) rfl ⟨rfl,(⟨5,fl,st,pA,pn,pc,pad,0,(n31 l 0),0,0,false,0,none,0,0⟩:Fr),K9.heap HB8.out (by simp; omega),⟨rfl,(HO8.out.keep K9 (fun t ht h2=>by have:=(HO8.out.base t ht).1; simp at h2; omega)).rd,Sd.nil _,fun t ht=>by have:=(HO8.out.base t ht).1; omega,by simp [ob]⟩,HK8.out.then K9 (by simp)⟩
 ·have HB:=Lib.hid hB
  have HR:=Lib.hid hr
  have hg:=lt_of_heap hB
  have hcap:=hr.cap
  clear hB hr
  go_enter Try.func177,Try.ntmps177
  go_wp2_with fail
  generalize hW:World.alloc _ _=w1
  obtain ⟨K1,hx⟩:=new_at hW
  have HX1:=Lib.hid hx
  have hsx:=lt_of_heap hx
  have HR1:=Lib.hid (HR.out.keep K1 (by simp))
  have HB1:=Lib.hid (K1.heap HB.out (by simp))
  have HK1:=Lib.hid K1
  clear hW hx K1 HB HR
  replace HK1:=Lib.hid (HK1.out.nil (S:=[g]))
  refine (U31_at (some ⟨b,o,none⟩) n c 0 l w1 hn HR1.out (by omega)).mono ?_
  rintro e w2 ⟨p2,q2,rfl,K2⟩
  have HX2:=Lib.hid (K2.heap HX1.out (by simp))
  have HR2:=Lib.hid (HR1.out.keep K2 (by simp))
  have HB2:=Lib.hid (K2.heap HB1.out (by simp))
  have HK2:=Lib.hid (HK1.out.trans K2.nil)
  have hs2:=K2.size
  clear HX1 HR1 HB1 HK1 K2
  obtain ⟨f0,f1,f2,f3,f4,f5,f6,f7,f8,f9,f10,f11,fz,fl1,fl2⟩:=cellsF HB2.out
  have x0:=cell_of HX2.out 0
  have x1:=cell_of HX2.out 1
  have x2:=cell_of HX2.out 2
  have xz:=frozen_of HX2.out
  go_wp2_with fail
  generalize hW:World.setCell _ _ _=w3
  have K3:Kp [g] w2 w3:=by rw [← hW]; exact (Kp.refl _ _).setCell (.inl (by simp)) _
  have HB3:=Lib.hid (show w3.heap[g]?=some (.cells #[.int .i64 5,.int .i64 fl,.int .i64 st,.slice none 0 0,.int .i64 pad,.int .u32 0,.int .i64 (n31 l 0),.int .i64 0,.int .i64 0,.bool false,.int .i64 0,.slice none 0 0] 49) by rw [← hW]; exact hp_set _ _ _ _ _ _ HB2.out)
  have HX3:=Lib.hid (K3.heap HX2.out (by simp; omega))
  have HR3:=Lib.hid (HR2.out.keep K3 (by intro _ t h1 h2; simp at h2; subst h2; exact hgA h1))
  have HK3:=Lib.hid (HK2.out.trans K3)
  have hs3:=K3.size
  clear hW K3 HB2 HX2 HR2 HK2 f0 f1 f2 f3 f4 f5 f6 f7 f8 f9 f10 f11 fz fl1 fl2 x0 x1 x2 xz
  have hq:=HR3.out.sub 4 n (by omega) (by omega) (A':=(some ⟨b,o+4,none⟩)) (by intro b' o' h1 h2; injection h1 with h1; injection h1 with h1 h3 _; rw [h1,h3])
  rw [List.take_of_length_le (by simp [HR3.out.len])] at hq
  refine (restF (⟨5,fl,st,none,0,0,pad,0,(n31 l 0),0,0,false,0,none,0,0⟩:Fr) g _ _ _ (l.drop 4) _ HB3.out hq (by omega)).mono ?_
  rintro e w8 ⟨rfl,pA,pn,pc,hB8,O8,K8⟩
  have HB8:=Lib.hid hB8
  have HO8:=Lib.hid O8
  have HX8:=Lib.hid (K8.heap HX3.out (by simp; omega))
  have HK8:=Lib.hid (HK3.out.trans K8)
  have hs8:=K8.size
  clear hB8 O8 K8 HK3 HX3 HB3 hq
  obtain ⟨f0,f1,f2,f3,f4,f5,f6,f7,f8,f9,f10,f11,fz,fl1,fl2⟩:=cellsF HB8.out
  have x0:=cell_of HX8.out 0
  have x1:=cell_of HX8.out 1
  have x2:=cell_of HX8.out 2
  have xz:=frozen_of HX8.out
  have hgx:¬ g=w.heap.size:=by omega
  go_wp2
  generalize hW:World.setCell _ _ _=W
  have K9:Kp [w.heap.size] w8 W:=by rw [← hW]; exact ((((Kp.refl _ _).setCell (.inl (by simp)) _).setCell (.inl (by simp)) _).setCell (.inl (by simp)) _)
  have HX9:W.heap[w.heap.size]?=some (.cells #[.bool false,.int .i64 0,.int .i64 0] 64):=by rw [← hW]; exact hp_set _ _ _ _ _ _ (hp_set _ _ _ _ _ _ (hp_set _ _ _ _ _ _ HX8.out))
  refine bodyPost_ret (v:=.agg #[.bool false,.int .i64 0,.int .i64 0]) (by simp [results,Try.results177,go_sem,cell_of HX9]) rfl ⟨rfl,(⟨5,fl,st,pA,pn,pc,pad,0,(n31 l 0),0,0,false,0,none,0,0⟩:Fr),K9.heap HB8.out (by simp; omega),⟨rfl,(HO8.out.keep K9 (fun t ht h2=>by have:=(HO8.out.base t ht).1; simp at h2; omega)).rd,Sd.nil _,fun t ht=>by have:=(HO8.out.base t ht).1; omega,by simp [ob]⟩,HK8.out.then K9 (by simp)⟩

theorem get7 (fl st pad:Int) (g:Nat) (A:Option Addr) (n c:Nat) (l:List UInt8) (w:World) (hB:w.heap[g]?=some (.cells #[.int .i64 7,.int .i64 fl,.int .i64 st,.slice none 0 0,.int .i64 pad,.int .u32 0,.int .i64 0,.int .i64 0,.int .i64 0,.bool false,.int .i64 0,.slice none 0 0] 49)) (hr:Rd w A n c l) (hgA:g∉ob A) (hn:n≤140737488355328) (h8:8≤n) :
  Calls Try.prog 181 #[.pointer (some ⟨g,0,none⟩),.slice A n c] w (GetR g (getS (f0S 7 fl st pad) l) w):=by
 obtain ⟨b,o,rfl,_,_⟩:=hr.addr (by omega)
 by_cases hc:c=8
 ·subst hc
  obtain rfl:n=8:=by have:=hr.cap; omega
  have HB:=Lib.hid hB
  have HR:=Lib.hid hr
  have hg:=lt_of_heap hB
  have hcap:=hr.cap
  clear hB hr
  go_enter Try.func181,Try.ntmps181
  go_wp2_with fail
  generalize hW:World.alloc _ _=w1
  obtain ⟨K1,hx⟩:=new_at hW
  have HX1:=Lib.hid hx
  have hsx:=lt_of_heap hx
  have HR1:=Lib.hid (HR.out.keep K1 (by simp))
  have HB1:=Lib.hid (K1.heap HB.out (by simp))
  have HK1:=Lib.hid K1
  clear hW hx K1 HB HR
  replace HK1:=Lib.hid (HK1.out.nil (S:=[g]))
  refine (U31_at (some ⟨b,o,none⟩) 8 8 0 l w1 hn HR1.out (by omega)).mono ?_
  rintro e w2 ⟨p2,q2,rfl,K2⟩
  have HX2:=Lib.hid (K2.heap HX1.out (by simp))
  have HR2:=Lib.hid (HR1.out.keep K2 (by simp))
  have HB2:=Lib.hid (K2.heap HB1.out (by simp))
  have HK2:=Lib.hid (HK1.out.trans K2.nil)
  have hs2:=K2.size
  clear HX1 HR1 HB1 HK1 K2
  obtain ⟨f0,f1,f2,f3,f4,f5,f6,f7,f8,f9,f10,f11,fz,fl1,fl2⟩:=cellsF HB2.out
  have x0:=cell_of HX2.out 0
  have x1:=cell_of HX2.out 1
  have x2:=cell_of HX2.out 2
  have xz:=frozen_of HX2.out
  go_wp2_with fail
  generalize hW:World.setCell _ _ _=w3
  have K3:Kp [g] w2 w3:=by rw [← hW]; exact (Kp.refl _ _).setCell (.inl (by simp)) _
  have HB3:=Lib.hid (show w3.heap[g]?=some (.cells #[.int .i64 7,.int .i64 fl,.int .i64 st,.slice none 0 0,.int .i64 pad,.int .u32 0,.int .i64 (n31 l 0),.int .i64 0,.int .i64 0,.bool false,.int .i64 0,.slice none 0 0] 49) by rw [← hW]; exact hp_set _ _ _ _ _ _ HB2.out)
  have HX3:=Lib.hid (K3.heap HX2.out (by simp; omega))
  have HR3:=Lib.hid (HR2.out.keep K3 (by intro _ t h1 h2; simp at h2; subst h2; exact hgA h1))
  have HK3:=Lib.hid (HK2.out.trans K3)
  have hs3:=K3.size
  clear hW K3 HB2 HX2 HR2 HK2 f0 f1 f2 f3 f4 f5 f6 f7 f8 f9 f10 f11 fz fl1 fl2 x0 x1 x2 xz
  refine (U32_at (some ⟨b,o,none⟩) 8 8 4 l w3 hn HR3.out (by omega)).mono ?_
  rintro e w4 ⟨p4,q4,rfl,K4⟩
  have HX4:=Lib.hid (K4.heap HX3.out (by simp))
  have HR4:=Lib.hid (HR3.out.keep K4 (by simp))
  have HB4:=Lib.hid (K4.heap HB3.out (by simp))
  have HK4:=Lib.hid (HK3.out.trans K4.nil)
  have hs4:=K4.size
  clear HX3 HR3 HB3 HK3 K4
  obtain ⟨f0,f1,f2,f3,f4,f5,f6,f7,f8,f9,f10,f11,fz,fl1,fl2⟩:=cellsF HB4.out
  have x0:=cell_of HX4.out 0
  have x1:=cell_of HX4.out 1
  have x2:=cell_of HX4.out 2
  have xz:=frozen_of HX4.out
  go_wp2_with fail
  generalize hW:World.setCell _ _ _=w5
  have K5:Kp [g] w4 w5:=by rw [← hW]; exact (Kp.refl _ _).setCell (.inl (by simp)) _
  have HB5:=Lib.hid (show w5.heap[g]?=some (.cells #[.int .i64 7,.int .i64 fl,.int .i64 st,.slice none 0 0,.int .i64 pad,.int .u32 (n32 l 4),.int .i64 (n31 l 0),.int .i64 0,.int .i64 0,.bool false,.int .i64 0,.slice none 0 0] 49) by rw [← hW]; exact hp_set _ _ _ _ _ _ HB4.out)
  have HX5:=Lib.hid (K5.heap HX4.out (by simp; omega))
  have HR5:=Lib.hid (HR4.out.keep K5 (by intro _ t h1 h2; simp at h2; subst h2; exact hgA h1))
  have HK5:=Lib.hid (HK4.out.trans K5)
  have hs5:=K5.size
  clear hW K5 HB4 HX4 HR4 HK4 f0 f1 f2 f3 f4 f5 f6 f7 f8 f9 f10 f11 fz fl1 fl2 x0 x1 x2 xz
  have hq:=HR5.out.sub 8 8 (by omega) (by omega) (A':=(some ⟨b,o,none⟩)) (by intro b' o' h1 h2; omega)
  rw [List.take_of_length_le (by simp [HR5.out.len])] at hq
  refine (restF (⟨7,fl,st,none,0,0,pad,(n32 l 4),(n31 l 0),0,0,false,0,none,0,0⟩:Fr) g _ _ _ (l.drop 8) _ HB5.out hq (by omega)).mono ?_
  rintro e w8 ⟨rfl,pA,pn,pc,hB8,O8,K8⟩
  have HB8:=Lib.hid hB8
  have HO8:=Lib.hid O8
  have HX8:=Lib.hid (K8.heap HX5.out (by simp; omega))
  have HK8:=Lib.hid (HK5.out.trans K8)
  have hs8:=K8.size
  clear hB8 O8 K8 HK5 HX5 HB5 hq
  obtain ⟨f0,f1,f2,f3,f4,f5,f6,f7,f8,f9,f10,f11,fz,fl1,fl2⟩:=cellsF HB8.out
  have x0:=cell_of HX8.out 0
  have x1:=cell_of HX8.out 1
  have x2:=cell_of HX8.out 2
  have xz:=frozen_of HX8.out
  have hgx:¬ g=w.heap.size:=by omega
  go_wp2
  generalize hW:World.setCell _ _ _=W
  have K9:Kp [w.heap.size] w8 W:=by rw [← hW]; exact ((((Kp.refl _ _).setCell (.inl (by simp)) _).setCell (.inl (by simp)) _).setCell (.inl (by simp)) _)
  have HX9:W.heap[w.heap.size]?=some (.cells #[.bool false,.int .i64 0,.int .i64 0] 64):=by rw [← hW]; exact hp_set _ _ _ _ _ _ (hp_set _ _ _ _ _ _ (hp_set _ _ _ _ _ _ HX8.out))
  refine bodyPost_ret (v:=.agg #[.bool false,.int .i64 0,.int .i64 0]) (by simp [results,Try.results181,go_sem,cell_of HX9]) rfl ⟨rfl,(⟨7,fl,st,pA,pn,pc,pad,(n32 l 4),(n31 l 0),0,0,false,0,none,0,0⟩:Fr),K9.heap HB8.out (by simp; omega),⟨rfl,(HO8.out.keep K9 (fun t ht h2=>by have:=(HO8.out.base t ht).1; simp at h2; omega)).rd,Sd.nil _,fun t ht=>by have:=(HO8.out.base t ht).1; omega,by simp [ob]⟩,HK8.out.then K9 (by simp)⟩
 ·have HB:=Lib.hid hB
  have HR:=Lib.hid hr
  have hg:=lt_of_heap hB
  have hcap:=hr.cap
  clear hB hr
  go_enter Try.func181,Try.ntmps181
  go_wp2_with fail
  generalize hW:World.alloc _ _=w1
  obtain ⟨K1,hx⟩:=new_at hW
  have HX1:=Lib.hid hx
  have hsx:=lt_of_heap hx
  have HR1:=Lib.hid (HR.out.keep K1 (by simp))
  have HB1:=Lib.hid (K1.heap HB.out (by simp))
  have HK1:=Lib.hid K1
  clear hW hx K1 HB HR
  replace HK1:=Lib.hid (HK1.out.nil (S:=[g]))
  refine (U31_at (some ⟨b,o,none⟩) n c 0 l w1 hn HR1.out (by omega)).mono ?_
  rintro e w2 ⟨p2,q2,rfl,K2⟩
  have HX2:=Lib.hid (K2.heap HX1.out (by simp))
  have HR2:=Lib.hid (HR1.out.keep K2 (by simp))
  have HB2:=Lib.hid (K2.heap HB1.out (by simp))
  have HK2:=Lib.hid (HK1.out.trans K2.nil)
  have hs2:=K2.size
  clear HX1 HR1 HB1 HK1 K2
  obtain ⟨f0,f1,f2,f3,f4,f5,f6,f7,f8,f9,f10,f11,fz,fl1,fl2⟩:=cellsF HB2.out
  have x0:=cell_of HX2.out 0
  have x1:=cell_of HX2.out 1
  have x2:=cell_of HX2.out 2
  have xz:=frozen_of HX2.out
  go_wp2_with fail
  generalize hW:World.setCell _ _ _=w3
  have K3:Kp [g] w2 w3:=by rw [← hW]; exact (Kp.refl _ _).setCell (.inl (by simp)) _
  have HB3:=Lib.hid (show w3.heap[g]?=some (.cells #[.int .i64 7,.int .i64 fl,.int .i64 st,.slice none 0 0,.int .i64 pad,.int .u32 0,.int .i64 (n31 l 0),.int .i64 0,.int .i64 0,.bool false,.int .i64 0,.slice none 0 0] 49) by rw [← hW]; exact hp_set _ _ _ _ _ _ HB2.out)
  have HX3:=Lib.hid (K3.heap HX2.out (by simp; omega))
  have HR3:=Lib.hid (HR2.out.keep K3 (by intro _ t h1 h2; simp at h2; subst h2; exact hgA h1))
  have HK3:=Lib.hid (HK2.out.trans K3)
  have hs3:=K3.size
  clear hW K3 HB2 HX2 HR2 HK2 f0 f1 f2 f3 f4 f5 f6 f7 f8 f9 f10 f11 fz fl1 fl2 x0 x1 x2 xz
  refine (U32_at (some ⟨b,o,none⟩) n c 4 l w3 hn HR3.out (by omega)).mono ?_
  rintro e w4 ⟨p4,q4,rfl,K4⟩
  have HX4:=Lib.hid (K4.heap HX3.out (by simp))
  have HR4:=Lib.hid (HR3.out.keep K4 (by simp))
  have HB4:=Lib.hid (K4.heap HB3.out (by simp))
  have HK4:=Lib.hid (HK3.out.trans K4.nil)
  have hs4:=K4.size
  clear HX3 HR3 HB3 HK3 K4
  obtain ⟨f0,f1,f2,f3,f4,f5,f6,f7,f8,f9,f10,f11,fz,fl1,fl2⟩:=cellsF HB4.out
  have x0:=cell_of HX4.out 0
  have x1:=cell_of HX4.out 1
  have x2:=cell_of HX4.out 2
  have xz:=frozen_of HX4.out
  go_wp2_with fail
  generalize hW:World.setCell _ _ _=w5
  have K5:Kp [g] w4 w5:=by rw [← hW]; exact (Kp.refl _ _).setCell (.inl (by simp)) _
  have HB5:=Lib.hid (show w5.heap[g]?=some (.cells #[.int .i64 7,.int .i64 fl,.int .i64 st,.slice none 0 0,.int .i64 pad,.int .u32 (n32 l 4),.int .i64 (n31 l 0),.int .i64 0,.int .i64 0,.bool false,.int .i64 0,.slice none 0 0] 49) by rw [← hW]; exact hp_set _ _ _ _ _ _ HB4.out)
  have HX5:=Lib.hid (K5.heap HX4.out (by simp; omega))
  have HR5:=Lib.hid (HR4.out.keep K5 (by intro _ t h1 h2; simp at h2; subst h2; exact hgA h1))
  have HK5:=Lib.hid (HK4.out.trans K5)
  have hs5:=K5.size
  clear hW K5 HB4 HX4 HR4 HK4 f0 f1 f2 f3 f4 f5 f6 f7 f8 f9 f10 f11 fz fl1 fl2 x0 x1 x2 xz
  have hq:=HR5.out.sub 8 n (by omega) (by omega) (A':=(some ⟨b,o+8,none⟩)) (by intro b' o' h1 h2; injection h1 with h1; injection h1 with h1 h3 _; rw [h1,h3])
  rw [List.take_of_length_le (by simp [HR5.out.len])] at hq
  refine (restF (⟨7,fl,st,none,0,0,pad,(n32 l 4),(n31 l 0),0,0,false,0,none,0,0⟩:Fr) g _ _ _ (l.drop 8) _ HB5.out hq (by omega)).mono ?_
  rintro e w8 ⟨rfl,pA,pn,pc,hB8,O8,K8⟩
  have HB8:=Lib.hid hB8
  have HO8:=Lib.hid O8
  have HX8:=Lib.hid (K8.heap HX5.out (by simp; omega))
  have HK8:=Lib.hid (HK5.out.trans K8)
  have hs8:=K8.size
  clear hB8 O8 K8 HK5 HX5 HB5 hq
  obtain ⟨f0,f1,f2,f3,f4,f5,f6,f7,f8,f9,f10,f11,fz,fl1,fl2⟩:=cellsF HB8.out
  have x0:=cell_of HX8.out 0
  have x1:=cell_of HX8.out 1
  have x2:=cell_of HX8.out 2
  have xz:=frozen_of HX8.out
  have hgx:¬ g=w.heap.size:=by omega
  go_wp2
  generalize hW:World.setCell _ _ _=W
  have K9:Kp [w.heap.size] w8 W:=by rw [← hW]; exact ((((Kp.refl _ _).setCell (.inl (by simp)) _).setCell (.inl (by simp)) _).setCell (.inl (by simp)) _)
  have HX9:W.heap[w.heap.size]?=some (.cells #[.bool false,.int .i64 0,.int .i64 0] 64):=by rw [← hW]; exact hp_set _ _ _ _ _ _ (hp_set _ _ _ _ _ _ (hp_set _ _ _ _ _ _ HX8.out))
  refine bodyPost_ret (v:=.agg #[.bool false,.int .i64 0,.int .i64 0]) (by simp [results,Try.results181,go_sem,cell_of HX9]) rfl ⟨rfl,(⟨7,fl,st,pA,pn,pc,pad,(n32 l 4),(n31 l 0),0,0,false,0,none,0,0⟩:Fr),K9.heap HB8.out (by simp; omega),⟨rfl,(HO8.out.keep K9 (fun t ht h2=>by have:=(HO8.out.base t ht).1; simp at h2; omega)).rd,Sd.nil _,fun t ht=>by have:=(HO8.out.base t ht).1; omega,by simp [ob]⟩,HK8.out.then K9 (by simp)⟩

end Go.Proofs.Ytkmcakneceagpaa

namespace Go.Proofs.Ytkmcakneceagpaa
open Go.RowKit

theorem get1f (fl st pad:Int) (g:Nat) (A:Option Addr) (n c:Nat) (l:List UInt8) (w:World) (hB:w.heap[g]?=some (.cells #[.int .i64 1,.int .i64 fl,.int .i64 st,.slice none 0 0,.int .i64 pad,.int .u32 0,.int .i64 0,.int .i64 0,.int .i64 0,.bool false,.int .i64 0,.slice none 0 0] 49)) (hr:Rd w A n c l) (hgA:g∉ob A) (hn:n≤140737488355328) (hf0:0≤fl) (hf1:fl≤255) (hp:hasB fl 32=false) :
  Calls Try.prog 165 #[.pointer (some ⟨g,0,none⟩),.slice A n c] w (GetR g (getS (f0S 1 fl st pad) l) w):=by
 have e0:getS (f0S 1 fl st pad) l={ f0S 1 fl st pad with pl:=l }:=by simp [getS,f0S,hp]
 rw [e0]
 have HPR:=Lib.hid (show prioB 1 fl=false by simp [prioB,hp])
 clear e0 hp
 have HB:=Lib.hid hB
 have HR:=Lib.hid hr
 have hg:=lt_of_heap hB
 have hcap:=hr.cap
 clear hB hr
 go_enter Try.func165,Try.ntmps165
 obtain ⟨f0,f1,f2,f3,f4,f5,f6,f7,f8,f9,f10,f11,fz,fl1,fl2⟩:=cellsF HB.out
 go_wp2_with fail
 generalize hW:World.alloc _ _=w1
 obtain ⟨K1,hx⟩:=new_at hW
 have HX1:=Lib.hid hx
 have hsx:=lt_of_heap hx
 have HR1:=Lib.hid (HR.out.keep K1 (by simp))
 have HB1:=Lib.hid (K1.heap HB.out (by simp))
 have HK1:=Lib.hid K1
 clear hW hx K1 HB HR f0 f1 f2 f3 f4 f5 f6 f7 f8 f9 f10 f11 fz fl1 fl2
 refine (weightedF (⟨1,fl,st,none,0,0,pad,0,0,0,0,false,0,none,0,0⟩:Fr) _ hf0 hf1).mono ?_
 rintro e w2 ⟨rfl,K2⟩
 rw [HPR.out]
 have HX2:=Lib.hid (K2.heap HX1.out (by simp))
 have HR2:=Lib.hid (HR1.out.keep K2 (by simp))
 have HB2:=Lib.hid (K2.heap HB1.out (by simp))
 have HK2:=Lib.hid ((HK1.out.trans K2).nil (S:=[g]))
 have hs2:=K2.size
 clear HX1 HR1 HB1 HK1 K2
 obtain ⟨f0,f1,f2,f3,f4,f5,f6,f7,f8,f9,f10,f11,fz,fl1,fl2⟩:=cellsF HB2.out
 have x0:=cell_of HX2.out 0
 have x1:=cell_of HX2.out 1
 have x2:=cell_of HX2.out 2
 have xz:=frozen_of HX2.out
 go_wp2_with fail
 have hq:=HR2.out
 clear f0 f1 f2 f3 f4 f5 f6 f7 f8 f9 f10 f11 fz fl1 fl2 x0 x1 x2 xz
 refine (restF (⟨1,fl,st,none,0,0,pad,0,0,0,0,false,0,none,0,0⟩:Fr) g _ _ _ (l) _ HB2.out hq (by omega)).mono ?_
 rintro e w8 ⟨rfl,pA,pn,pc,hB8,O8,K8⟩
 have HB8:=Lib.hid hB8
 have HO8:=Lib.hid O8
 have HX8:=Lib.hid (K8.heap HX2.out (by simp; omega))
 have HK8:=Lib.hid (HK2.out.trans K8)
 have hs8:=K8.size
 clear hB8 O8 K8 HK2 HX2 HB2 hq
 obtain ⟨f0,f1,f2,f3,f4,f5,f6,f7,f8,f9,f10,f11,fz,fl1,fl2⟩:=cellsF HB8.out
 have x0:=cell_of HX8.out 0
 have x1:=cell_of HX8.out 1
 have x2:=cell_of HX8.out 2
 have xz:=frozen_of HX8.out
 have hgx:¬ g=w.heap.size:=by omega
 go_wp2
 generalize hW:World.setCell _ _ _=W
 have K9:Kp [w.heap.size] w8 W:=by rw [← hW]; exact ((((Kp.refl _ _).setCell (.inl (by simp)) _).setCell (.inl (by simp)) _).setCell (.inl (by simp)) _)
 have HX9:W.heap[w.heap.size]?=some (.cells #[.bool false,.int .i64 0,.int .i64 0] 64):=by rw [← hW]; exact hp_set _ _ _ _ _ _ (hp_set _ _ _ _ _ _ (hp_set _ _ _ _ _ _ HX8.out))
 refine bodyPost_ret (v:=.agg #[.bool false,.int .i64 0,.int .i64 0]) (by simp [results,Try.results165,go_sem,cell_of HX9]) rfl ⟨rfl,(⟨1,fl,st,pA,pn,pc,pad,0,0,0,0,false,0,none,0,0⟩:Fr),K9.heap HB8.out (by simp; omega),⟨rfl,(HO8.out.keep K9 (fun t ht h2=>by have:=(HO8.out.base t ht).1; simp at h2; omega)).rd,Sd.nil _,fun t ht=>by have:=(HO8.out.base t ht).1; omega,by simp [ob]⟩,HK8.out.then K9 (by simp)⟩

theorem get1t (fl st pad:Int) (g:Nat) (A:Option Addr) (n c:Nat) (l:List UInt8) (w:World) (hB:w.heap[g]?=some (.cells #[.int .i64 1,.int .i64 fl,.int .i64 st,.slice none 0 0,.int .i64 pad,.int .u32 0,.int .i64 0,.int .i64 0,.int .i64 0,.bool false,.int .i64 0,.slice none 0 0] 49)) (hr:Rd w A n c l) (hgA:g∉ob A) (hn:n≤140737488355328) (hf0:0≤fl) (hf1:fl≤255) (hp:hasB fl 32=true) (h5:5≤n) :
  Calls Try.prog 165 #[.pointer (some ⟨g,0,none⟩),.slice A n c] w (GetR g (getS (f0S 1 fl st pad) l) w):=by
 have e0:getS (f0S 1 fl st pad) l={ prS (f0S 1 fl st pad) l with pl:=l.drop 5 }:=by simp [getS,f0S,hp]
 rw [e0]
 have HPR:=Lib.hid (show prioB 1 fl=true by simp [prioB,hp])
 clear e0 hp
 have HB:=Lib.hid hB
 have HR:=Lib.hid hr
 have hg:=lt_of_heap hB
 have hcap:=hr.cap
 clear hB hr
 go_enter Try.func165,Try.ntmps165
 obtain ⟨f0,f1,f2,f3,f4,f5,f6,f7,f8,f9,f10,f11,fz,fl1,fl2⟩:=cellsF HB.out
 go_wp2_with fail
 generalize hW:World.alloc _ _=w1
 obtain ⟨K1,hx⟩:=new_at hW
 have HX1:=Lib.hid hx
 have hsx:=lt_of_heap hx
 have HR1:=Lib.hid (HR.out.keep K1 (by simp))
 have HB1:=Lib.hid (K1.heap HB.out (by simp))
 have HK1:=Lib.hid K1
 clear hW hx K1 HB HR f0 f1 f2 f3 f4 f5 f6 f7 f8 f9 f10 f11 fz fl1 fl2
 refine (weightedF (⟨1,fl,st,none,0,0,pad,0,0,0,0,false,0,none,0,0⟩:Fr) _ hf0 hf1).mono ?_
 rintro e w2 ⟨rfl,K2⟩
 rw [HPR.out]
 have HX2:=Lib.hid (K2.heap HX1.out (by simp))
 have HR2:=Lib.hid (HR1.out.keep K2 (by simp))
 have HB2:=Lib.hid (K2.heap HB1.out (by simp))
 have HK2:=Lib.hid ((HK1.out.trans K2).nil (S:=[g]))
 have hs2:=K2.size
 clear HX1 HR1 HB1 HK1 K2
 obtain ⟨f0,f1,f2,f3,f4,f5,f6,f7,f8,f9,f10,f11,fz,fl1,fl2⟩:=cellsF HB2.out
 have x0:=cell_of HX2.out 0
 have x1:=cell_of HX2.out 1
 have x2:=cell_of HX2.out 2
 have xz:=frozen_of HX2.out
 go_wp2_with fail
 clear f0 f1 f2 f3 f4 f5 f6 f7 f8 f9 f10 f11 fz fl1 fl2 x0 x1 x2 xz
 refine (priorF (⟨1,fl,st,none,0,0,pad,0,0,0,0,false,0,none,0,0⟩:Fr) g A n c l w2 HB2.out HR2.out hgA h5 hn).mono ?_
 rintro e w3 ⟨A3,rfl,hq,hg3,hB3,K3⟩
 have HX3:=Lib.hid (K3.heap HX2.out (by simp; omega))
 have HB3:=Lib.hid hB3
 have HK3:=Lib.hid (HK2.out.trans K3)
 have hs3:=K3.size
 have hq3:=Lib.hid hq
 clear HX2 HR2 HB2 HK2 K3 hB3 hq
 obtain ⟨f0,f1,f2,f3,f4,f5,f6,f7,f8,f9,f10,f11,fz,fl1,fl2⟩:=cellsF HB3.out
 have x0:=cell_of HX3.out 0
 have x1:=cell_of HX3.out 1
 have x2:=cell_of HX3.out 2
 have xz:=frozen_of HX3.out
 go_wp2_with fail
 have hq:=hq3.out
 clear hq3 f0 f1 f2 f3 f4 f5 f6 f7 f8 f9 f10 f11 fz fl1 fl2 x0 x1 x2 xz
 refine (restF (⟨1,fl,st,none,0,0,pad,0,0,0,(n31 l 0),(decide (128≤(l.getD 0 0).toNat)),((l.getD 4 0).toNat+1),none,0,0⟩:Fr) g A3 _ _ (l.drop 5) _ HB3.out hq (by omega)).mono ?_
 rintro e w8 ⟨rfl,pA,pn,pc,hB8,O8,K8⟩
 have HB8:=Lib.hid hB8
 have HO8:=Lib.hid O8
 have HX8:=Lib.hid (K8.heap HX3.out (by simp; omega))
 have HK8:=Lib.hid (HK3.out.trans K8)
 have hs8:=K8.size
 clear hB8 O8 K8 HK3 HX3 HB3 hq
 obtain ⟨f0,f1,f2,f3,f4,f5,f6,f7,f8,f9,f10,f11,fz,fl1,fl2⟩:=cellsF HB8.out
 have x0:=cell_of HX8.out 0
 have x1:=cell_of HX8.out 1
 have x2:=cell_of HX8.out 2
 have xz:=frozen_of HX8.out
 have hgx:¬ g=w.heap.size:=by omega
 go_wp2
 generalize hW:World.setCell _ _ _=W
 have K9:Kp [w.heap.size] w8 W:=by rw [← hW]; exact ((((Kp.refl _ _).setCell (.inl (by simp)) _).setCell (.inl (by simp)) _).setCell (.inl (by simp)) _)
 have HX9:W.heap[w.heap.size]?=some (.cells #[.bool false,.int .i64 0,.int .i64 0] 64):=by rw [← hW]; exact hp_set _ _ _ _ _ _ (hp_set _ _ _ _ _ _ (hp_set _ _ _ _ _ _ HX8.out))
 refine bodyPost_ret (v:=.agg #[.bool false,.int .i64 0,.int .i64 0]) (by simp [results,Try.results165,go_sem,cell_of HX9]) rfl ⟨rfl,(⟨1,fl,st,pA,pn,pc,pad,0,0,0,(n31 l 0),(decide (128≤(l.getD 0 0).toNat)),((l.getD 4 0).toNat+1),none,0,0⟩:Fr),K9.heap HB8.out (by simp; omega),⟨rfl,(HO8.out.keep K9 (fun t ht h2=>by have:=(HO8.out.base t ht).1; simp at h2; omega)).rd,Sd.nil _,fun t ht=>by have:=(HO8.out.base t ht).1; omega,by simp [ob]⟩,HK8.out.then K9 (by simp)⟩

end Go.Proofs.Ytkmcakneceagpaa

namespace Go.Proofs.Ytkmcakneceagpaa
open Go.RowKit

theorem n16_drop (l:List UInt8) (k i:Nat):n16 (l.drop k) i=n16 l (k+i):=by simp [n16,List.drop_drop]
theorem n32_drop (l:List UInt8) (k i:Nat):n32 (l.drop k) i=n32 l (k+i):=by simp [n32,List.drop_drop]
def setC (s:Int × Int):List Value:=[.int .i64 s.1,.int .u32 s.2]
theorem flat2:∀ (ss:List (Int × Int)) (i:Nat),i < ss.length→(ss.flatMap setC)[i * 2]?=some (.int .i64 (ss.getD i (0,0)).1)∧(ss.flatMap setC)[i * 2+1]?=some (.int .u32 (ss.getD i (0,0)).2)
 | [],i,h=>by simp at h
 | s :: r,0,h=>by simp [setC]
 | s :: r,i+1,h=>by
  have ih:=flat2 r i (by simpa using h)
  have e1:(i+1) * 2=i * 2+2:=by omega
  rw [e1,List.flatMap_cons]
  refine ⟨?_,?_⟩
  ·rw [show setC s++r.flatMap setC=.int .i64 s.1 :: .int .u32 s.2 :: r.flatMap setC from rfl,List.getElem?_cons_succ,List.getElem?_cons_succ,ih.1]
   simp
  ·rw [show i * 2+2+1=(i * 2+1)+1+1 by omega,show setC s++r.flatMap setC=.int .i64 s.1 :: .int .u32 s.2 :: r.flatMap setC from rfl,List.getElem?_cons_succ,List.getElem?_cons_succ,ih.2]
   simp
theorem flat2_len (ss:List (Int × Int)):(ss.flatMap setC).length=ss.length * 2:=by
 induction ss with
 | nil=>rfl
 | cons s r ih=>simp only [List.flatMap_cons,List.length_append,ih,List.length_cons,setC,List.length_nil]; omega
theorem Sd.ofOw {w:World} {base:Nat} {A:Option Addr} {n c:Nat} {ss:List (Int × Int)} (h:Ow w base 197 2 A n c (ss.flatMap setC)) (hl:ss.length=n) (hv:∀ i,U32 (ss.getD i (0,0)).2):Sd w A n c ss :=
 ⟨hl,h.cap.1,fun hn=>by
  obtain ⟨b,off,hA,hc⟩:=h.at_ (by rw [flat2_len]; omega)
  have hlt:=(h.base b (by rw [hA]; simp [ob])).2
  refine ⟨b,off,hA,hlt,fun i hi=>⟨hc (i * 2) _ (flat2 ss i (by omega)).1,?_⟩⟩
  have:=hc (i * 2+1) _ (flat2 ss i (by omega)).2
  rwa [← Nat.add_assoc] at this,hv⟩
theorem n32_u32 (l:List UInt8) (i:Nat):U32 (n32 l i):=by
 have h:=be_take_lt (l.drop i) 4
 have e:(256:Nat) ^ 4=4294967296:=by decide
 rw [e] at h
 unfold n32
 exact ⟨by omega,by omega⟩
theorem setsS_val (l:List UInt8) (k i:Nat):U32 ((setsS l k).getD i (0,0)).2:=by
 induction k with
 | zero=>simp [setsS]; exact ⟨by omega,by omega⟩
 | succ k ih =>
  simp only [setsS,List.getD_eq_getElem?_getD] at ih ⊢
  by_cases hi:i < k
  ·rw [List.getElem?_append_left (by rw [setsS_len]; exact hi)]; exact ih
  ·by_cases hk:i=k
   ·subst hk
    rw [List.getElem?_append_right (by rw [setsS_len]; omega),setsS_len]
    simp
    exact n32_u32 l _
   ·rw [List.getElem?_eq_none (by rw [List.length_append,setsS_len]; simp; omega)]
    exact ⟨by simp,by simp⟩
theorem infoSet:(Try.prog.info? 197).map (fun i=>(i.zero,i.size,i.bytes))=some (some (.agg #[.int .i64 0,.int .u32 0]),2,16):=by kernel_rfl

theorem op_app2 {o:Oper} {a:Act} {w:World} {K:Act→World→Prop} {Q:Exit→Act→World→Prop} {base:Nat} (s x:Operand) (ho:o.op=.call { callee:=.builtin .append,args:=#[s,x],argTypes:=#[47,47] })
  (A:Option Addr) (n c:Nat) (xs:List Value) (hs:a.eval s=.slice A n c) (HO:Ow w base 197 2 A n c xs)
  (A2:Option Addr) (c2:Nat) (y:Int × Int) (hx:a.eval x=.slice A2 1 c2) (HR:At w A2 (setC y)) (hlen:n≤16777216) (hbase:base≤w.heap.size)
  (h:∀ A' c' w',Ow w' base 197 2 A' (n+1) c' (xs++setC y)→Kp (ob A) w w'→(A'=A∨A'=some ⟨w.heap.size,0,none⟩)→K (a.put o.dst (.slice A' (n+1) c')) w'):o.wp Try.prog a w K Q:=by
 obtain ⟨A',c',w',hr,h2,h3,h4,_⟩:=run_app (P:=Try.prog) w 47 o.type 197 (.agg #[.int .i64 0,.int .u32 0]) 2 16 Try.underlying47 infoSet rfl (by omega) base A n c xs HO A2 1 c2 (setC y) rfl HR (by intro u hu; simp [setC] at hu; rcases hu with rfl | rfl <;> rfl) (by simp only [maxLen]; omega) (by omega) hbase
 unfold Oper.wp execOp
 simp only [ho,resolve,invoke,builtin,Sem.run_bind,Sem.run_pure,Result.andThen_ok,List.map_toArray,List.map_cons,List.map_nil,hs,hx,hr]
 exact h A' c' w' h2 h3 h4
theorem get4 (fl st pad:Int) (g:Nat) (A:Option Addr) (n c:Nat) (l:List UInt8) (w:World) (hB:w.heap[g]?=some (.cells #[.int .i64 4,.int .i64 fl,.int .i64 st,.slice none 0 0,.int .i64 pad,.int .u32 0,.int .i64 0,.int .i64 0,.int .i64 0,.bool false,.int .i64 0,.slice none 0 0] 49)) (hr:Rd w A n c l) (hgA:g∉ob A) (hn:n≤140737488355328) (m:Nat) (hm:n=6 * m) (hm2:m≤16777216) :
  Calls Try.prog 175 #[.pointer (some ⟨g,0,none⟩),.slice A n c] w (GetR g (getS (f0S 4 fl st pad) l) w):=by
 subst hm
 have HB:=Lib.hid hB
 have HR:=Lib.hid hr
 have hg:=lt_of_heap hB
 have hcap:=hr.cap
 have HLEN:=Lib.hid hr.len
 have HBA:=Lib.hid (show ∀ t,t∈ob A→0 < 6 * m→t < w.heap.size from fun t ht hp=>hr.at_.lt (by simpa [hr.len] using hp) t ht)
 clear hB hr
 go_enter Try.func175,Try.ntmps175
 go_wp2_with (with_reducible refine stopAt (o:=⟨some 77,_,_,_,_,_⟩) ?_)
 generalize hW:World.alloc _ _=w1
 obtain ⟨K1,hx⟩:=new_at hW
 have HX1:=Lib.hid hx
 have hsx:=lt_of_heap hx
 have HR1:=Lib.hid (HR.out.keep K1 (by simp))
 have HB1:=Lib.hid (K1.heap HB.out (by simp))
 have HK1:=Lib.hid (K1.nil (S:=[g]))
 clear hW hx K1 HB HR
 go_loopw [1] (fun v wr=>∃ (k:Nat) (A' sA:Option Addr) (sc:Nat),k≤m∧v=.slice A' (6 * m - 6 * k) (c - 6 * k)∧Rd wr A' (6 * m - 6 * k) (c - 6 * k) (l.drop (6 * k))∧(∀ t,t∈ob A'→t∈ob A)∧wr.heap[g]?=some (.cells #[.int .i64 4,.int .i64 fl,.int .i64 st,.slice none 0 0,.int .i64 pad,.int .u32 0,.int .i64 0,.int .i64 0,.int .i64 0,.bool false,.int .i64 0,.slice sA k sc] 49)∧Ow wr w1.heap.size 197 2 sA k sc ((setsS l k).flatMap setC)∧wr.heap[w.heap.size]?=some (.cells #[.bool false,.int .i64 0,.int .i64 0] 64)∧Kp [g] w wr∧w1.heap.size≤wr.heap.size) (fun v _=>match v with | .slice _ n _=>n | _=>0)
 case atStart=>exact ⟨0,A,none,0,Nat.zero_le _,rfl,by simpa using HR1.out,fun t h=>h,HB1.out,Ow.nil _ _ _ _,HX1.out,HK1.out,Nat.le_refl _⟩
 case round =>
  obtain ⟨k,A',sA,sc,hk,rfl,hrb,hAA,hBr,hO,hXr,hK,hs1⟩:=hrel
  by_cases hkm:k < m
  ·by_cases hc6:c - 6 * k=6
   ·obtain ⟨b,o,rfl,_,_⟩:=hrb.addr (by omega)
    have HB:=Lib.hid hBr
    have HX:=Lib.hid hXr
    have HR:=Lib.hid hrb
    have HO:=Lib.hid hO
    have HK:=Lib.hid hK
    have hcO:=hO.cap.1
    have hobA:∀ t,t∈ob sA→w1.heap.size≤t∧t < wr.heap.size:=hO.base
    have hgr:g < wr.heap.size:=lt_of_heap hBr
    have hgA2:g∉ob sA:=fun h=>by have:=(hobA g h).1; omega
    have HAA:=Lib.hid hAA
    have hmi:(0:Int) < ((6 * m - 6 * k:Nat):Int):=by omega
    obtain ⟨n',hn'⟩:∃ n',6 * m - 6 * k=n':=⟨_,rfl⟩
    obtain ⟨c',hc'⟩:∃ c',c - 6 * k=c':=⟨_,rfl⟩
    rw [hn',hc'] at HR
    have hc6':c'=6:=by omega
    clear hc6
    rw [hn'] at hmi
    have hn6:6≤n':=by omega
    have hcn:=HR.out.cap
    have hnb:n'≤140737488355328:=by omega
    have HN:=Lib.hid hn'
    have HC:=Lib.hid hc'
    rw [hn',hc']
    clear hBr hXr hrb hO hK hn' hc' hAA HB1 HX1 HK1 HR1
    subst hc6'
    obtain rfl:n'=6:=by omega
    go_wp2_with fail
    generalize hW:World.alloc _ _=w2
    obtain ⟨K2,hy⟩:=new_at hW
    have HY2:=Lib.hid hy
    have HR2:=Lib.hid (HR.out.keep K2 (by simp))
    have hys:=lt_of_heap hy
    clear hW
    have hU:=U16_at (some ⟨b,o,none⟩) 6 6 0 (l.drop (6 * k)) w2 (by omega) HR2.out (by omega)
    rw [show ((0:Nat):Int)=0 from rfl,n16_drop] at hU
    generalize hu:n16 l (6 * k)=u at hU
    have HU:=Lib.hid hu
    refine hU.mono ?_
    clear hU hu
    rintro e w3 ⟨p3,q3,rfl,K3⟩
    have HY3:=Lib.hid (K3.heap HY2.out (by simp))
    have HR3:=Lib.hid (HR2.out.keep K3 (by simp))
    have y0:=cell_of HY3.out 0
    have y1:=cell_of HY3.out 1
    have yz:=frozen_of HY3.out
    have hy3:=lt_of_heap HY3.out
    go_wp2_with fail
    generalize hW:World.setCell _ _ _=w4
    have K4:Kp [wr.heap.size] w3 w4:=by rw [← hW]; exact (Kp.refl _ _).setCell (.inl (by simp)) _
    have HY4:=Lib.hid (show w4.heap[wr.heap.size]?=some (.cells #[.int .i64 u,.int .u32 0] 197) by rw [← hW]; exact hp_set _ _ _ _ _ _ HY3.out)
    have HR4:=Lib.hid (HR3.out.keep K4 (by intro _ t h1 h2; have:=HBA.out t (HAA.out t h1) (by omega); simp at h2; omega))
    clear hW y0 y1 yz
    have hU:=U32_at (some ⟨b,o,none⟩) 6 6 2 (l.drop (6 * k)) w4 (by omega) HR4.out (by omega)
    rw [show ((2:Nat):Int)=2 from rfl,n32_drop] at hU
    generalize hu:n32 l (6 * k+2)=z at hU
    have HZ:=Lib.hid hu
    refine hU.mono ?_
    clear hU hu
    rintro e w5 ⟨p5,q5,rfl,K5⟩
    have HY5:=Lib.hid (K5.heap HY4.out (by simp))
    have y0:=cell_of HY5.out 0
    have y1:=cell_of HY5.out 1
    have yz:=frozen_of HY5.out
    have hy5:=lt_of_heap HY5.out
    go_wp2
    generalize hW:World.setCell _ _ _=w6
    have K6:Kp [wr.heap.size] w5 w6:=by rw [← hW]; exact (Kp.refl _ _).setCell (.inl (by simp)) _
    have HY6:=Lib.hid (show w6.heap[wr.heap.size]?=some (.cells #[.int .i64 u,.int .u32 z] 197) by rw [← hW]; exact hp_set _ _ _ _ _ _ HY5.out)
    have K26:Kp [] wr w6:=((((K2.trans K3).then K4 (by simp)).trans K5).then K6 (by simp))
    have HB6:=Lib.hid (K26.heap HB.out (by simp))
    have HX6:=Lib.hid (K26.heap HX.out (by simp))
    have HR6:=Lib.hid (HR.out.keep K26 (by simp))
    have HO6:=Lib.hid (HO.out.keep K26 (by simp))
    have HK6:=Lib.hid (HK.out.trans K26.nil)
    have hs6:=K26.size
    have hy6:=lt_of_heap HY6.out
    have hwn:wr.heap.size∉g :: ob sA:=by intro h; rcases List.mem_cons.1 h with h | h; omega; have:=hobA _ h; omega
    clear hW HY5 HY4 HY3 HY2 HR4 HR3 HR2 K2 K3 K4 K5 K6 K26 HB HX HR HO HK y0 y1 yz
    refine wp_region_st (by kernel_rfl) [fun _ v _=>v=(.pointer (some ⟨g,0,none⟩)),
      fun _ v _=>v=(.pointer (some ⟨g,0,none⟩)),
      fun _ v _=>v=(.pointer (some ⟨g,0,none⟩)),
      fun _ v _=>v=(.pointer (some ⟨g,11,none⟩)),
      fun _ v _=>v=.slice sA k sc,
      fun _ v _=>v=(.agg #[.int .i64 u,.int .u32 z]),
      fun p v w=>∃ x:Option Addr × Nat × Nat,v=.slice x.1 x.2.1 x.2.2∧0≤p∧(p≤1→At w x.1 (setC (u,z))∧x.2.1=1),
      fun p v w=>∃ x:Option Addr × Nat × Nat,v=.slice x.1 x.2.1 x.2.2∧2≤p∧(p≤2→Ow w w1.heap.size 197 2 x.1 x.2.1 x.2.2 ((setsS l k).flatMap setC++setC (u,z))∧x.2.1=k+1∧g∉ob x.1),
      fun _ v _=>v=(.pointer (some ⟨g,0,none⟩)),
      fun _ v _=>v=(.pointer (some ⟨g,11,none⟩)),
      fun _ v w=>True] (fun p w=>(p≤1→Kp [] w6 w)∧(p≤2→Kp (ob sA) w6 w)∧Kp (g :: ob sA) w6 w∧(3≤p→(∃ (A':Option Addr) (c':Nat),w.heap[g]?=some (.cells #[.int .i64 4,.int .i64 fl,.int .i64 st,.slice none 0 0,.int .i64 pad,.int .u32 0,.int .i64 0,.int .i64 0,.int .i64 0,.bool false,.int .i64 0,.slice A' (k+1) c'] 49)∧Ow w w1.heap.size 197 2 A' (k+1) c' ((setsS l k).flatMap setC++setC (u,z))))) (fun p w w'=>p=0→w'=w) (fun w w'=>Kp [] w w') [4,7,10] [6] (by kernel_rfl) (by kernel_rfl) (by kernel_rfl) (by decide) (by kernel_rfl) ⟨StabAt2.const _,StabAt2.const _,StabAt2.const _,StabAt2.const _,StabAt2.const _,StabAt2.const _,StabAt2.span (f:=fun x:Option Addr × Nat × Nat=>.slice x.1 x.2.1 x.2.2) (by intro p x w w' h1 h2 h3 hR hG; obtain rfl:=hR (by omega); exact hG) (by intro x w w' hR hG; exact ⟨hG.1.keep hR (by simp),hG.2⟩),StabAt2.span (f:=fun x:Option Addr × Nat × Nat=>.slice x.1 x.2.1 x.2.2) (by intro p x w w' h1 h2; omega) (by intro x w w' hR hG; exact ⟨hG.1.keep hR (by simp),hG.2⟩),StabAt2.const _,StabAt2.const _,⟨fun _ _ _ _ _ _ _ h=>h,fun _ _ _ _ _ h=>h⟩,trivial⟩ (⟨fun _=>(Kp.refl _ _).drew,fun _=>(Kp.refl _ _).drew,(Kp.refl _ _).drew,fun h=>by omega⟩) ⟨?_,?_,?_,?_,?_,?_,?_,?_,?_,?_,?_,trivial⟩ (by kernel_rfl) ?_
    ·intro q9 a w E hC K hK
     have h0:a.tmps[0]?=some (.pointer (some ⟨g,0,none⟩)):=(E.out 0 (by kernel_rfl)).trans rfl
     refine want_none rfl ?_
     go_simp
     exact hK _ rfl
    ·intro q9 a w E hC K hK
     have h0:a.tmps[0]?=some (.pointer (some ⟨g,0,none⟩)):=(E.out 0 (by kernel_rfl)).trans rfl
     refine want_none rfl ?_
     go_simp
     exact hK _ rfl
    ·intro q9 a w E hC K hK
     obtain ⟨_,h26,rfl⟩:=E.pred 1 _ 26 rfl rfl (by kernel_rfl)
     refine want_none rfl ?_
     go_simp
     exact hK _ rfl
    ·intro q9 a w E hC K hK
     obtain ⟨_,h27,rfl⟩:=E.pred 2 _ 27 rfl rfl (by kernel_rfl)
     refine want_none rfl ?_
     go_simp
     exact hK _ rfl
    ·intro a w E hC K hK
     obtain ⟨_,h28,rfl⟩:=E.pred 3 _ 28 rfl rfl (by kernel_rfl)
     refine want_none rfl ?_
     have hb:=(hC.1 (by omega)).heap HB6.out (by simp)
     have g1:=cell_of hb 11
     go_simp
     exact hK _ _ rfl ⟨fun _=>hC.1 (by omega),fun _=>hC.2.1 (by omega),hC.2.2.1,fun h=>by omega⟩ (fun _=>rfl)
    ·intro q9 a w E hC K hK
     have h5:a.tmps[5]?=some (.pointer (some ⟨wr.heap.size,0,none⟩)):=(E.out 5 (by kernel_rfl)).trans rfl
     refine want_none rfl ?_
     have hb:=hC.2.2.1.heap HY6.out hwn
     have g0:=cell_of hb 0
     have g1:=cell_of hb 1
     go_simp
     exact hK _ rfl
    ·intro q9 a w E hC K hK
     obtain ⟨_,h30,rfl⟩:=E.pred 5 _ 30 rfl rfl (by kernel_rfl)
     refine want_none rfl ?_
     go_simp
     exact hK _ _ ⟨⟨some ⟨w.heap.size,0,none⟩,1,1⟩,rfl,by omega,fun _=>⟨At.block (hp_new w _ _ rfl) 0 _ rfl,rfl⟩⟩ ⟨fun h=>(hC.1 h).alloc _,fun h=>(hC.2.1 h).alloc _,hC.2.2.1.alloc _,fun h=>by obtain ⟨A',c',q1,q2⟩:=hC.2.2.2 h; have K:=(Kp.refl [] w).alloc (.cells #[.int .i64 u,.int .u32 z] 197); exact ⟨A',c',K.heap q1 (by simp),q2.keep K (by simp)⟩⟩ ((Kp.refl _ _).alloc _)
    ·intro a w E hC K hK
     obtain ⟨v4,h29,V4⟩:=E.pred 4 _ 29 rfl rfl (by kernel_rfl)
     replace V4:(fun _ v _=>v=.slice sA k sc) 1 v4 w:=V4
     obtain rfl:=V4
     obtain ⟨v6,h31,V6⟩:=E.pred 6 _ 31 rfl rfl (by kernel_rfl)
     replace V6:(fun p v w=>∃ x:Option Addr × Nat × Nat,v=.slice x.1 x.2.1 x.2.2∧0≤p∧(p≤1→At w x.1 (setC (u,z))∧x.2.1=1)) 1 v6 w:=V6
     refine want_none rfl ?_
     obtain ⟨⟨A6,n6,c6⟩,rfl,_,G6⟩:=V6
     obtain ⟨R6,rfl⟩:=G6 (by omega)
     refine op_app2 (.tmp 29) (.tmp 31) rfl sA k sc _ (eval_tmp h29) (HO6.out.keep (hC.1 (by omega)) (by simp)) A6 c6 (u,z) (eval_tmp h31) R6 (by omega) (by have:=(hC.1 (by omega)).size; omega) ?_
     intro A' c' w2 O K2 hA'
     exact hK _ _ ⟨⟨A',_,c'⟩,rfl,by omega,fun _=>⟨O,rfl,by rcases hA' with rfl | rfl; exact hgA2; have:=(hC.1 (by omega)).size; simp [ob]; omega⟩⟩ ⟨fun h=>by omega,fun _=>((hC.1 (by omega)).nil).trans K2,hC.2.2.1.trans (K2.mono (fun t ht=>.inl (List.mem_cons_of_mem _ ht))),fun h=>by omega⟩ (fun h=>by omega)
    ·intro q9 a w E hC K hK
     obtain ⟨_,h25,rfl⟩:=E.pred 0 _ 25 rfl rfl (by kernel_rfl)
     refine want_none rfl ?_
     go_simp
     exact hK _ rfl
    ·intro q9 a w E hC K hK
     obtain ⟨_,h33,rfl⟩:=E.pred 8 _ 33 rfl rfl (by kernel_rfl)
     refine want_none rfl ?_
     go_simp
     exact hK _ rfl
    ·intro a w E hC K hK
     obtain ⟨_,h34,rfl⟩:=E.pred 9 _ 34 rfl rfl (by kernel_rfl)
     obtain ⟨v7,h32,V7⟩:=E.pred 7 _ 32 rfl rfl (by kernel_rfl)
     replace V7:(fun p v w=>∃ x:Option Addr × Nat × Nat,v=.slice x.1 x.2.1 x.2.2∧2≤p∧(p≤2→Ow w w1.heap.size 197 2 x.1 x.2.1 x.2.2 ((setsS l k).flatMap setC++setC (u,z))∧x.2.1=k+1∧g∉ob x.1)) 2 v7 w:=V7
     refine want_none rfl ?_
     obtain ⟨⟨A7,n7,c7⟩,rfl,_,G7⟩:=V7
     obtain ⟨O7,rfl,hg7⟩:=G7 (by omega)
     have hb:=(hC.2.1 (by omega)).heap HB6.out hgA2
     have g4:=cell_of hb 11
     have gz:=frozen_of hb
     go_simp
     exact hK undef _ trivial ⟨fun h=>by omega,fun h=>by omega,(hC.2.2.1).setCell (.inl (by simp)) _,fun _=>⟨A7,c7,hp_set _ _ _ _ _ _ hb,O7.keep ((Kp.refl [g] _).setCell (.inl (by simp)) _) (by intro t h1 h2; simp at h2; subst h2; exact hg7 h1)⟩⟩ (fun h=>by omega)
    intro vs w7 hC hV
    obtain ⟨A7,c7,hB7,hO7⟩:=hC.2.2.2 (Nat.le_refl _)
    have HB7:=Lib.hid hB7
    have HO7:=Lib.hid hO7
    have K7:Kp (g :: ob sA) w6 w7:=hC.2.2.1
    have HX7:=Lib.hid (K7.heap HX6.out (by intro h; rcases List.mem_cons.1 h with h | h; omega; have:=hobA _ h; omega))
    have HR7:=Lib.hid (HR6.out.keep K7 (by intro _ t h1 h2; rcases List.mem_cons.1 h2 with h | h; subst h; exact hgA (HAA.out _ h1); have:=hobA _ h; have:=HBA.out _ (HAA.out _ h1) (by omega); omega))
    have HK7:=Lib.hid (HK6.out.then K7 (by intro t ht; rcases List.mem_cons.1 ht with h | h; exact .inl (by simp [h]); have:=hobA _ h; exact .inr (by omega)))
    have hs7:=K7.size
    clear hV hC hB7 hO7 K7
    simp only [putAll,Act.put,List.setIfInBounds_toArray]
    dsimp only [List.set]
    go_wp2
    go_roundw
    case rel =>
     refine ⟨k+1,(some ⟨b,o,none⟩),A7,c7,by omega,by have:=HN.out; have:=HC.out; congr 1 <;> omega,?_,by intro t ht; exact HAA.out t (by simpa [ob] using ht),HB7.out,?_,HX7.out,HK7.out,by omega⟩
     ·have hq:=HR7.out.sub 6 6 (by omega) (by omega) (A':=(some ⟨b,o,none⟩)) (by intro b' o' h1 h2; omega)
      rw [List.take_of_length_le (by rw [List.length_drop,HR7.out.len]; exact Nat.le_refl _),List.drop_drop] at hq
      have e1:6 * m - 6 * (k+1)=6 - 6:=by have:=HN.out; omega
      have e2:c - 6 * (k+1)=6 - 6:=by have:=HC.out; omega
      rw [e1,e2,show 6 * (k+1)=6 * k+6 by omega]
      exact hq
     ·show Ow _ _ _ _ _ _ _ ((setsS l k++[(n16 l (6 * k),n32 l (6 * k+2))]).flatMap setC)
      rw [HU.out,HZ.out,List.flatMap_append]
      simpa using HO7.out
    case measure=>simp
   ·obtain ⟨b,o,rfl,_,_⟩:=hrb.addr (by omega)
    have HB:=Lib.hid hBr
    have HX:=Lib.hid hXr
    have HR:=Lib.hid hrb
    have HO:=Lib.hid hO
    have HK:=Lib.hid hK
    have hcO:=hO.cap.1
    have hobA:∀ t,t∈ob sA→w1.heap.size≤t∧t < wr.heap.size:=hO.base
    have hgr:g < wr.heap.size:=lt_of_heap hBr
    have hgA2:g∉ob sA:=fun h=>by have:=(hobA g h).1; omega
    have HAA:=Lib.hid hAA
    have hmi:(0:Int) < ((6 * m - 6 * k:Nat):Int):=by omega
    obtain ⟨n',hn'⟩:∃ n',6 * m - 6 * k=n':=⟨_,rfl⟩
    obtain ⟨c',hc'⟩:∃ c',c - 6 * k=c':=⟨_,rfl⟩
    rw [hn',hc'] at HR
    have hc6':¬ c'=6:=by omega
    clear hc6
    rw [hn'] at hmi
    have hn6:6≤n':=by omega
    have hcn:=HR.out.cap
    have hnb:n'≤140737488355328:=by omega
    have HN:=Lib.hid hn'
    have HC:=Lib.hid hc'
    rw [hn',hc']
    clear hBr hXr hrb hO hK hn' hc' hAA HB1 HX1 HK1 HR1
    go_wp2_with fail
    generalize hW:World.alloc _ _=w2
    obtain ⟨K2,hy⟩:=new_at hW
    have HY2:=Lib.hid hy
    have HR2:=Lib.hid (HR.out.keep K2 (by simp))
    have hys:=lt_of_heap hy
    clear hW
    have hU:=U16_at (some ⟨b,o,none⟩) n' c' 0 (l.drop (6 * k)) w2 (by omega) HR2.out (by omega)
    rw [show ((0:Nat):Int)=0 from rfl,n16_drop] at hU
    generalize hu:n16 l (6 * k)=u at hU
    have HU:=Lib.hid hu
    refine hU.mono ?_
    clear hU hu
    rintro e w3 ⟨p3,q3,rfl,K3⟩
    have HY3:=Lib.hid (K3.heap HY2.out (by simp))
    have HR3:=Lib.hid (HR2.out.keep K3 (by simp))
    have y0:=cell_of HY3.out 0
    have y1:=cell_of HY3.out 1
    have yz:=frozen_of HY3.out
    have hy3:=lt_of_heap HY3.out
    go_wp2_with fail
    generalize hW:World.setCell _ _ _=w4
    have K4:Kp [wr.heap.size] w3 w4:=by rw [← hW]; exact (Kp.refl _ _).setCell (.inl (by simp)) _
    have HY4:=Lib.hid (show w4.heap[wr.heap.size]?=some (.cells #[.int .i64 u,.int .u32 0] 197) by rw [← hW]; exact hp_set _ _ _ _ _ _ HY3.out)
    have HR4:=Lib.hid (HR3.out.keep K4 (by intro _ t h1 h2; have:=HBA.out t (HAA.out t h1) (by omega); simp at h2; omega))
    clear hW y0 y1 yz
    have hU:=U32_at (some ⟨b,o,none⟩) n' c' 2 (l.drop (6 * k)) w4 (by omega) HR4.out (by omega)
    rw [show ((2:Nat):Int)=2 from rfl,n32_drop] at hU
    generalize hu:n32 l (6 * k+2)=z at hU
    have HZ:=Lib.hid hu
    refine hU.mono ?_
    clear hU hu
    rintro e w5 ⟨p5,q5,rfl,K5⟩
    have HY5:=Lib.hid (K5.heap HY4.out (by simp))
    have y0:=cell_of HY5.out 0
    have y1:=cell_of HY5.out 1
    have yz:=frozen_of HY5.out
    have hy5:=lt_of_heap HY5.out
    go_wp2
    generalize hW:World.setCell _ _ _=w6
    have K6:Kp [wr.heap.size] w5 w6:=by rw [← hW]; exact (Kp.refl _ _).setCell (.inl (by simp)) _
    have HY6:=Lib.hid (show w6.heap[wr.heap.size]?=some (.cells #[.int .i64 u,.int .u32 z] 197) by rw [← hW]; exact hp_set _ _ _ _ _ _ HY5.out)
    have K26:Kp [] wr w6:=((((K2.trans K3).then K4 (by simp)).trans K5).then K6 (by simp))
    have HB6:=Lib.hid (K26.heap HB.out (by simp))
    have HX6:=Lib.hid (K26.heap HX.out (by simp))
    have HR6:=Lib.hid (HR.out.keep K26 (by simp))
    have HO6:=Lib.hid (HO.out.keep K26 (by simp))
    have HK6:=Lib.hid (HK.out.trans K26.nil)
    have hs6:=K26.size
    have hy6:=lt_of_heap HY6.out
    have hwn:wr.heap.size∉g :: ob sA:=by intro h; rcases List.mem_cons.1 h with h | h; omega; have:=hobA _ h; omega
    clear hW HY5 HY4 HY3 HY2 HR4 HR3 HR2 K2 K3 K4 K5 K6 K26 HB HX HR HO HK y0 y1 yz
    refine wp_region_st (by kernel_rfl) [fun _ v _=>v=(.pointer (some ⟨g,0,none⟩)),
      fun _ v _=>v=(.pointer (some ⟨g,0,none⟩)),
      fun _ v _=>v=(.pointer (some ⟨g,0,none⟩)),
      fun _ v _=>v=(.pointer (some ⟨g,11,none⟩)),
      fun _ v _=>v=.slice sA k sc,
      fun _ v _=>v=(.agg #[.int .i64 u,.int .u32 z]),
      fun p v w=>∃ x:Option Addr × Nat × Nat,v=.slice x.1 x.2.1 x.2.2∧0≤p∧(p≤1→At w x.1 (setC (u,z))∧x.2.1=1),
      fun p v w=>∃ x:Option Addr × Nat × Nat,v=.slice x.1 x.2.1 x.2.2∧2≤p∧(p≤2→Ow w w1.heap.size 197 2 x.1 x.2.1 x.2.2 ((setsS l k).flatMap setC++setC (u,z))∧x.2.1=k+1∧g∉ob x.1),
      fun _ v _=>v=(.pointer (some ⟨g,0,none⟩)),
      fun _ v _=>v=(.pointer (some ⟨g,11,none⟩)),
      fun _ v w=>True] (fun p w=>(p≤1→Kp [] w6 w)∧(p≤2→Kp (ob sA) w6 w)∧Kp (g :: ob sA) w6 w∧(3≤p→(∃ (A':Option Addr) (c':Nat),w.heap[g]?=some (.cells #[.int .i64 4,.int .i64 fl,.int .i64 st,.slice none 0 0,.int .i64 pad,.int .u32 0,.int .i64 0,.int .i64 0,.int .i64 0,.bool false,.int .i64 0,.slice A' (k+1) c'] 49)∧Ow w w1.heap.size 197 2 A' (k+1) c' ((setsS l k).flatMap setC++setC (u,z))))) (fun p w w'=>p=0→w'=w) (fun w w'=>Kp [] w w') [4,7,10] [6] (by kernel_rfl) (by kernel_rfl) (by kernel_rfl) (by decide) (by kernel_rfl) ⟨StabAt2.const _,StabAt2.const _,StabAt2.const _,StabAt2.const _,StabAt2.const _,StabAt2.const _,StabAt2.span (f:=fun x:Option Addr × Nat × Nat=>.slice x.1 x.2.1 x.2.2) (by intro p x w w' h1 h2 h3 hR hG; obtain rfl:=hR (by omega); exact hG) (by intro x w w' hR hG; exact ⟨hG.1.keep hR (by simp),hG.2⟩),StabAt2.span (f:=fun x:Option Addr × Nat × Nat=>.slice x.1 x.2.1 x.2.2) (by intro p x w w' h1 h2; omega) (by intro x w w' hR hG; exact ⟨hG.1.keep hR (by simp),hG.2⟩),StabAt2.const _,StabAt2.const _,⟨fun _ _ _ _ _ _ _ h=>h,fun _ _ _ _ _ h=>h⟩,trivial⟩ (⟨fun _=>(Kp.refl _ _).drew,fun _=>(Kp.refl _ _).drew,(Kp.refl _ _).drew,fun h=>by omega⟩) ⟨?_,?_,?_,?_,?_,?_,?_,?_,?_,?_,?_,trivial⟩ (by kernel_rfl) ?_
    ·intro q9 a w E hC K hK
     have h0:a.tmps[0]?=some (.pointer (some ⟨g,0,none⟩)):=(E.out 0 (by kernel_rfl)).trans rfl
     refine want_none rfl ?_
     go_simp
     exact hK _ rfl
    ·intro q9 a w E hC K hK
     have h0:a.tmps[0]?=some (.pointer (some ⟨g,0,none⟩)):=(E.out 0 (by kernel_rfl)).trans rfl
     refine want_none rfl ?_
     go_simp
     exact hK _ rfl
    ·intro q9 a w E hC K hK
     obtain ⟨_,h26,rfl⟩:=E.pred 1 _ 26 rfl rfl (by kernel_rfl)
     refine want_none rfl ?_
     go_simp
     exact hK _ rfl
    ·intro q9 a w E hC K hK
     obtain ⟨_,h27,rfl⟩:=E.pred 2 _ 27 rfl rfl (by kernel_rfl)
     refine want_none rfl ?_
     go_simp
     exact hK _ rfl
    ·intro a w E hC K hK
     obtain ⟨_,h28,rfl⟩:=E.pred 3 _ 28 rfl rfl (by kernel_rfl)
     refine want_none rfl ?_
     have hb:=(hC.1 (by omega)).heap HB6.out (by simp)
     have g1:=cell_of hb 11
     go_simp
     exact hK _ _ rfl ⟨fun _=>hC.1 (by omega),fun _=>hC.2.1 (by omega),hC.2.2.1,fun h=>by omega⟩ (fun _=>rfl)
    ·intro q9 a w E hC K hK
     have h5:a.tmps[5]?=some (.pointer (some ⟨wr.heap.size,0,none⟩)):=(E.out 5 (by kernel_rfl)).trans rfl
     refine want_none rfl ?_
     have hb:=hC.2.2.1.heap HY6.out hwn
     have g0:=cell_of hb 0
     have g1:=cell_of hb 1
     go_simp
     exact hK _ rfl
    ·intro q9 a w E hC K hK
     obtain ⟨_,h30,rfl⟩:=E.pred 5 _ 30 rfl rfl (by kernel_rfl)
     refine want_none rfl ?_
     go_simp
     exact hK _ _ ⟨⟨some ⟨w.heap.size,0,none⟩,1,1⟩,rfl,by omega,fun _=>⟨At.block (hp_new w _ _ rfl) 0 _ rfl,rfl⟩⟩ ⟨fun h=>(hC.1 h).alloc _,fun h=>(hC.2.1 h).alloc _,hC.2.2.1.alloc _,fun h=>by obtain ⟨A',c',q1,q2⟩:=hC.2.2.2 h; have K:=(Kp.refl [] w).alloc (.cells #[.int .i64 u,.int .u32 z] 197); exact ⟨A',c',K.heap q1 (by simp),q2.keep K (by simp)⟩⟩ ((Kp.refl _ _).alloc _)
    ·intro a w E hC K hK
     obtain ⟨v4,h29,V4⟩:=E.pred 4 _ 29 rfl rfl (by kernel_rfl)
     replace V4:(fun _ v _=>v=.slice sA k sc) 1 v4 w:=V4
     obtain rfl:=V4
     obtain ⟨v6,h31,V6⟩:=E.pred 6 _ 31 rfl rfl (by kernel_rfl)
     replace V6:(fun p v w=>∃ x:Option Addr × Nat × Nat,v=.slice x.1 x.2.1 x.2.2∧0≤p∧(p≤1→At w x.1 (setC (u,z))∧x.2.1=1)) 1 v6 w:=V6
     refine want_none rfl ?_
     obtain ⟨⟨A6,n6,c6⟩,rfl,_,G6⟩:=V6
     obtain ⟨R6,rfl⟩:=G6 (by omega)
     refine op_app2 (.tmp 29) (.tmp 31) rfl sA k sc _ (eval_tmp h29) (HO6.out.keep (hC.1 (by omega)) (by simp)) A6 c6 (u,z) (eval_tmp h31) R6 (by omega) (by have:=(hC.1 (by omega)).size; omega) ?_
     intro A' c' w2 O K2 hA'
     exact hK _ _ ⟨⟨A',_,c'⟩,rfl,by omega,fun _=>⟨O,rfl,by rcases hA' with rfl | rfl; exact hgA2; have:=(hC.1 (by omega)).size; simp [ob]; omega⟩⟩ ⟨fun h=>by omega,fun _=>((hC.1 (by omega)).nil).trans K2,hC.2.2.1.trans (K2.mono (fun t ht=>.inl (List.mem_cons_of_mem _ ht))),fun h=>by omega⟩ (fun h=>by omega)
    ·intro q9 a w E hC K hK
     obtain ⟨_,h25,rfl⟩:=E.pred 0 _ 25 rfl rfl (by kernel_rfl)
     refine want_none rfl ?_
     go_simp
     exact hK _ rfl
    ·intro q9 a w E hC K hK
     obtain ⟨_,h33,rfl⟩:=E.pred 8 _ 33 rfl rfl (by kernel_rfl)
     refine want_none rfl ?_
     go_simp
     exact hK _ rfl
    ·intro a w E hC K hK
     obtain ⟨_,h34,rfl⟩:=E.pred 9 _ 34 rfl rfl (by kernel_rfl)
     obtain ⟨v7,h32,V7⟩:=E.pred 7 _ 32 rfl rfl (by kernel_rfl)
     replace V7:(fun p v w=>∃ x:Option Addr × Nat × Nat,v=.slice x.1 x.2.1 x.2.2∧2≤p∧(p≤2→Ow w w1.heap.size 197 2 x.1 x.2.1 x.2.2 ((setsS l k).flatMap setC++setC (u,z))∧x.2.1=k+1∧g∉ob x.1)) 2 v7 w:=V7
     refine want_none rfl ?_
     obtain ⟨⟨A7,n7,c7⟩,rfl,_,G7⟩:=V7
     obtain ⟨O7,rfl,hg7⟩:=G7 (by omega)
     have hb:=(hC.2.1 (by omega)).heap HB6.out hgA2
     have g4:=cell_of hb 11
     have gz:=frozen_of hb
     go_simp
     exact hK undef _ trivial ⟨fun h=>by omega,fun h=>by omega,(hC.2.2.1).setCell (.inl (by simp)) _,fun _=>⟨A7,c7,hp_set _ _ _ _ _ _ hb,O7.keep ((Kp.refl [g] _).setCell (.inl (by simp)) _) (by intro t h1 h2; simp at h2; subst h2; exact hg7 h1)⟩⟩ (fun h=>by omega)
    intro vs w7 hC hV
    obtain ⟨A7,c7,hB7,hO7⟩:=hC.2.2.2 (Nat.le_refl _)
    have HB7:=Lib.hid hB7
    have HO7:=Lib.hid hO7
    have K7:Kp (g :: ob sA) w6 w7:=hC.2.2.1
    have HX7:=Lib.hid (K7.heap HX6.out (by intro h; rcases List.mem_cons.1 h with h | h; omega; have:=hobA _ h; omega))
    have HR7:=Lib.hid (HR6.out.keep K7 (by intro _ t h1 h2; rcases List.mem_cons.1 h2 with h | h; subst h; exact hgA (HAA.out _ h1); have:=hobA _ h; have:=HBA.out _ (HAA.out _ h1) (by omega); omega))
    have HK7:=Lib.hid (HK6.out.then K7 (by intro t ht; rcases List.mem_cons.1 ht with h | h; exact .inl (by simp [h]); have:=hobA _ h; exact .inr (by omega)))
    have hs7:=K7.size
    clear hV hC hB7 hO7 K7
    simp only [putAll,Act.put,List.setIfInBounds_toArray]
    dsimp only [List.set]
    go_wp2
    go_roundw
    case rel =>
     refine ⟨k+1,(some ⟨b,o+6,none⟩),A7,c7,by omega,by have:=HN.out; have:=HC.out; congr 1 <;> omega,?_,by intro t ht; exact HAA.out t (by simpa [ob] using ht),HB7.out,?_,HX7.out,HK7.out,by omega⟩
     ·have hq:=HR7.out.sub 6 n' (by omega) (by omega) (A':=(some ⟨b,o+6,none⟩)) (by intro b' o' h1 h2; injection h1 with h1; injection h1 with h1 h3 _; rw [h1,h3])
      rw [List.take_of_length_le (by rw [List.length_drop,HR7.out.len]; exact Nat.le_refl _),List.drop_drop] at hq
      have e1:6 * m - 6 * (k+1)=n' - 6:=by have:=HN.out; omega
      have e2:c - 6 * (k+1)=c' - 6:=by have:=HC.out; omega
      rw [e1,e2,show 6 * (k+1)=6 * k+6 by omega]
      exact hq
     ·show Ow _ _ _ _ _ _ _ ((setsS l k++[(n16 l (6 * k),n32 l (6 * k+2))]).flatMap setC)
      rw [HU.out,HZ.out,List.flatMap_append]
      simpa using HO7.out
    case measure=>simp; omega
  ·obtain rfl:k=m:=by omega
   rw [Nat.sub_self] at hrb ⊢
   have HK:=Lib.hid hK
   have HB:=Lib.hid hBr
   have HO:=Lib.hid hO
   have HX:=Lib.hid hXr
   have x0:=cell_of hXr 0
   have x1:=cell_of hXr 1
   have x2:=cell_of hXr 2
   have xz:=frozen_of hXr
   clear hK hBr hO hXr hrb HB1 HX1 HK1 HR1
   go_wp2
   generalize hW:World.setCell _ _ _=W
   have K9:Kp [w.heap.size] wr W:=by rw [← hW]; exact ((((Kp.refl _ _).setCell (.inl (by simp)) _).setCell (.inl (by simp)) _).setCell (.inl (by simp)) _)
   have HX9:W.heap[w.heap.size]?=some (.cells #[.bool false,.int .i64 0,.int .i64 0] 64):=by rw [← hW]; exact hp_set _ _ _ _ _ _ (hp_set _ _ _ _ _ _ (hp_set _ _ _ _ _ _ HX.out))
   have hO9:=HO.out.keep K9 (fun t ht h2=>by have:=(HO.out.base t ht).1; simp at h2; omega)
   have e6:(6 * k) / 6=k:=by omega
   refine bodyPost_ret (v:=.agg #[.bool false,.int .i64 0,.int .i64 0]) (by simp [results,Try.results175,go_sem,cell_of HX9]) rfl ⟨rfl,(⟨4,fl,st,none,0,0,pad,0,0,0,0,false,0,sA,k,sc⟩:Fr),K9.heap HB.out (by simp; omega),⟨rfl,Rd.nil _ _ _,?_,by simp [ob],fun t ht=>by have:=(hO9.base t ht).1; omega⟩,HK.out.then K9 (by simp)⟩
   show Sd W sA k sc (setsS l (l.length / 6))
   rw [HLEN.out,e6]
   exact Sd.ofOw hO9 (setsS_len l k) (setsS_val l k)
end Go.Proofs.Ytkmcakneceagpaa

namespace Go.Proofs.Ytkmcakneceagpaa
open Go.RowKit

def UnR (T fl st:Int) (g:Nat) (r:Un) (w:World) (e:Ending) (w':World):Prop :=
 match r with
 | .bad code=>e=.returned (.tuple #[.slice none 0 0,.int .i64 code])∧(∃ f':Fr,w'.heap[g]?=some (.cells #[.int .i64 f'.ty,.int .i64 f'.fl,.int .i64 f'.st,.slice f'.pA f'.pn f'.pc,.int .i64 f'.pad,.int .u32 f'.code,.int .i64 f'.last,.int .i64 f'.inc,.int .i64 f'.dep,.bool f'.only,.int .i64 f'.wt,.slice f'.sA f'.sn f'.sc] 49))∧Kp [g] w w'
 | .ok pad m=>∃ A' n' c',e=.returned (.tuple #[.slice A' n' c',.int .i64 0])∧Rd w' A' n' c' m∧g∉ob A'∧n'≤16777216∧w'.heap[g]?=some (.cells #[.int .i64 T,.int .i64 fl,.int .i64 st,.slice none 0 0,.int .i64 (pad:Int),.int .u32 0,.int .i64 0,.int .i64 0,.int .i64 0,.bool false,.int .i64 0,.slice none 0 0] 49)∧Kp [g] w w'

theorem unpad0 (T fl st:Int) (z any:Bool) (f1 f2 f3 f4:Value) (h1:f1.cells=#[f1]) (h2:f2.cells=#[f2]) (h3:f3.cells=#[f3]) (h4:f4.cells=#[f4]) (hT:¬ T=1) (hT5:¬ T=5) (hT0:¬ T=0) (g:Nat) (A:Option Addr) (n c:Nat) (l:List UInt8) (w:World) (hB:w.heap[g]?=some (.cells #[.int .i64 T,.int .i64 fl,.int .i64 st,.slice none 0 0,.int .i64 0,.int .u32 0,.int .i64 0,.int .i64 0,.int .i64 0,.bool false,.int .i64 0,.slice none 0 0] 49)) (hr:Rd w A n c l) (hgA:g∉ob A) (hn:n≤16777216) :
  Calls Try.prog 151 #[.pointer (some ⟨g,0,none⟩),.agg #[.bool z,.bool any,.bool false,f1,f2,f3,f4],.slice A n c] w (UnR T fl st g (unS T fl l) w):=by
 have e:unS T fl l=.ok 0 l:=by simp [unS,padF,paddedB,hT,hT5,hT0,fixedN]
 rw [e]
 have e1:(T == 1)=false:=by simp [hT]
 have e5:(T == 5)=false:=by simp [hT5]
 have HB:=Lib.hid hB
 have HR:=Lib.hid hr
 have hg:=lt_of_heap hB
 obtain ⟨f0,fb,f2',f3',f4',f5,f6,f7,f8,f9,f10,f11,fz,fl1,fl2⟩:=cellsF hB
 clear hB hr e hT hT5 hT0
 go_enter Try.func151,Try.ntmps151
 go_wp2
 go_ret2
 exact ⟨A,n,c,rfl,HR.out.keep (S:=[]) (by with_reducible (repeat (first|exact Kp.refl _ _|assumption|refine Kp.alloc ?_ _|refine Kp.drew ?_|refine Kp.drewN ?_ _|(refine Kp.setL ?_ ?_ _;focus (simp;done))|(refine Kp.setR ?_ ?_ _;focus (first|(simp;done)|(simp;omega)))))) (by simp),hgA,hn,(hp_old _ _ _ hg).trans HB.out,(Kp.refl _ _).alloc _⟩
theorem unpad0f (fl st:Int) (z any:Bool) (f1 f2 f3 f4:Value) (h1:f1.cells=#[f1]) (h2:f2.cells=#[f2]) (h3:f3.cells=#[f3]) (h4:f4.cells=#[f4]) (hf0:0≤fl) (hf1:fl≤255) (h8:hasB fl 8=false) (g:Nat) (A:Option Addr) (n c:Nat) (l:List UInt8) (w:World) (hB:w.heap[g]?=some (.cells #[.int .i64 0,.int .i64 fl,.int .i64 st,.slice none 0 0,.int .i64 0,.int .u32 0,.int .i64 0,.int .i64 0,.int .i64 0,.bool false,.int .i64 0,.slice none 0 0] 49)) (hr:Rd w A n c l) (hgA:g∉ob A) (hn:n≤16777216) :
  Calls Try.prog 151 #[.pointer (some ⟨g,0,none⟩),.agg #[.bool z,.bool any,.bool true,f1,f2,f3,f4],.slice A n c] w (UnR 0 fl st g (unS 0 fl l) w):=by
 have hp:padF 0 fl=false:=by simp [padF,paddedB,h8]
 have hfx:fixedN 0 fl=0:=by simp [fixedN]
 have hb8:(bits .and .i64 fl 8 == 0)=true:=by
  have:=(bits_has fl hf0 hf1).2.1
  rw [h8] at this
  simpa [bne] using this
 have hlen:=hr.len
 unfold unS
 rw [hp,hfx]
 have HB:=Lib.hid hB
 have HR:=Lib.hid hr
 have HLEN:=Lib.hid hlen
 have hg:=lt_of_heap hB
 have hcap:=hr.cap
 obtain ⟨q0,q1,q2,q3,q4,q5,q6,q7,q8,q9,q10,q11,qz,qlt,qlt2⟩:=cellsF hB
 rw [if_neg (by decide)]
 rw [if_neg (by omega)]
 clear hB hr hp hfx h8 hlen
 go_enter Try.func151,Try.ntmps151
 go_wp2
 go_ret2
 exact ⟨A,n,c,rfl,HR.out.keep (S:=[]) (by with_reducible (repeat (first|exact Kp.refl _ _|assumption|refine Kp.alloc ?_ _|refine Kp.drew ?_|refine Kp.drewN ?_ _|(refine Kp.setL ?_ ?_ _;focus (simp;done))|(refine Kp.setR ?_ ?_ _;focus (first|(simp;done)|(simp;omega)))))) (by simp),hgA,hn,((hp_old _ _ _ hg).trans HB.out),Kp.nil (by with_reducible (repeat (first|exact Kp.refl _ _|assumption|refine Kp.alloc ?_ _|refine Kp.drew ?_|refine Kp.drewN ?_ _|(refine Kp.setL ?_ ?_ _;focus (simp;done))|(refine Kp.setR ?_ ?_ _;focus (first|(simp;done)|(simp;omega))))))⟩
theorem unpad5f (fl st:Int) (z any:Bool) (f1 f2 f3 f4:Value) (h1:f1.cells=#[f1]) (h2:f2.cells=#[f2]) (h3:f3.cells=#[f3]) (h4:f4.cells=#[f4]) (hf0:0≤fl) (hf1:fl≤255) (h8:hasB fl 8=false) (g:Nat) (A:Option Addr) (n c:Nat) (l:List UInt8) (w:World) (hB:w.heap[g]?=some (.cells #[.int .i64 5,.int .i64 fl,.int .i64 st,.slice none 0 0,.int .i64 0,.int .u32 0,.int .i64 0,.int .i64 0,.int .i64 0,.bool false,.int .i64 0,.slice none 0 0] 49)) (hr:Rd w A n c l) (hgA:g∉ob A) (hn:n≤16777216) :
  Calls Try.prog 151 #[.pointer (some ⟨g,0,none⟩),.agg #[.bool z,.bool any,.bool true,f1,f2,f3,f4],.slice A n c] w (UnR 5 fl st g (unS 5 fl l) w):=by
 have hp:padF 5 fl=false:=by simp [padF,paddedB,h8]
 have hfx:fixedN 5 fl=4:=by simp [fixedN]
 have hb8:(bits .and .i64 fl 8 == 0)=true:=by
  have:=(bits_has fl hf0 hf1).2.1
  rw [h8] at this
  simpa [bne] using this
 have hlen:=hr.len
 unfold unS
 rw [hp,hfx]
 have HB:=Lib.hid hB
 have HR:=Lib.hid hr
 have HLEN:=Lib.hid hlen
 have hg:=lt_of_heap hB
 have hcap:=hr.cap
 obtain ⟨q0,q1,q2,q3,q4,q5,q6,q7,q8,q9,q10,q11,qz,qlt,qlt2⟩:=cellsF hB
 rw [if_neg (by decide)]
 by_cases hs:n < 4
 ·rw [if_pos (by omega)]
  clear hB hr hp hfx h8 hlen
  go_enter Try.func151,Try.ntmps151
  go_wp2
  go_ret2
  exact ⟨rfl,⟨(⟨5,fl,st,none,0,0,0,0,0,0,0,false,0,none,0,0⟩:Fr),((hp_old _ _ _ hg).trans HB.out)⟩,Kp.nil (by with_reducible (repeat (first|exact Kp.refl _ _|assumption|refine Kp.alloc ?_ _|refine Kp.drew ?_|refine Kp.drewN ?_ _|(refine Kp.setL ?_ ?_ _;focus (simp;done))|(refine Kp.setR ?_ ?_ _;focus (first|(simp;done)|(simp;omega))))))⟩
 ·rw [if_neg (by omega)]
  clear hB hr hp hfx h8 hlen
  go_enter Try.func151,Try.ntmps151
  go_wp2
  go_ret2
  exact ⟨A,n,c,rfl,HR.out.keep (S:=[]) (by with_reducible (repeat (first|exact Kp.refl _ _|assumption|refine Kp.alloc ?_ _|refine Kp.drew ?_|refine Kp.drewN ?_ _|(refine Kp.setL ?_ ?_ _;focus (simp;done))|(refine Kp.setR ?_ ?_ _;focus (first|(simp;done)|(simp;omega)))))) (by simp),hgA,hn,((hp_old _ _ _ hg).trans HB.out),Kp.nil (by with_reducible (repeat (first|exact Kp.refl _ _|assumption|refine Kp.alloc ?_ _|refine Kp.drew ?_|refine Kp.drewN ?_ _|(refine Kp.setL ?_ ?_ _;focus (simp;done))|(refine Kp.setR ?_ ?_ _;focus (first|(simp;done)|(simp;omega))))))⟩
theorem unpad1ff (fl st:Int) (z any:Bool) (f1 f2 f3 f4:Value) (h1:f1.cells=#[f1]) (h2:f2.cells=#[f2]) (h3:f3.cells=#[f3]) (h4:f4.cells=#[f4]) (hf0:0≤fl) (hf1:fl≤255) (h8:hasB fl 8=false) (h32:hasB fl 32=false) (g:Nat) (A:Option Addr) (n c:Nat) (l:List UInt8) (w:World) (hB:w.heap[g]?=some (.cells #[.int .i64 1,.int .i64 fl,.int .i64 st,.slice none 0 0,.int .i64 0,.int .u32 0,.int .i64 0,.int .i64 0,.int .i64 0,.bool false,.int .i64 0,.slice none 0 0] 49)) (hr:Rd w A n c l) (hgA:g∉ob A) (hn:n≤16777216) :
  Calls Try.prog 151 #[.pointer (some ⟨g,0,none⟩),.agg #[.bool z,.bool any,.bool true,f1,f2,f3,f4],.slice A n c] w (UnR 1 fl st g (unS 1 fl l) w):=by
 have hp:padF 1 fl=false:=by simp [padF,paddedB,h8]
 have hfx:fixedN 1 fl=0:=by simp [fixedN,h32]
 have hb8:(bits .and .i64 fl 8 == 0)=true:=by
  have:=(bits_has fl hf0 hf1).2.1
  rw [h8] at this
  simpa [bne] using this
 have hlen:=hr.len
 unfold unS
 rw [hp,hfx]
 have HPR:=Lib.hid (show prioB 1 fl=false by simp [prioB,h32])
 clear h32
 have HB:=Lib.hid hB
 have HR:=Lib.hid hr
 have HLEN:=Lib.hid hlen
 have hg:=lt_of_heap hB
 have hcap:=hr.cap
 obtain ⟨q0,q1,q2,q3,q4,q5,q6,q7,q8,q9,q10,q11,qz,qlt,qlt2⟩:=cellsF hB
 rw [if_neg (by decide)]
 rw [if_neg (by omega)]
 clear hB hr hp hfx h8 hlen
 go_enter Try.func151,Try.ntmps151
 go_wp2_with fail
 generalize hW:World.alloc _ _=wa
 obtain ⟨K1,hkb⟩:=new_at hW
 have HKa2:=Lib.hid hkb
 have HBa:=Lib.hid (K1.heap HB.out (by simp))
 have HKa:=Lib.hid K1
 clear hW K1 hkb q0 q1 q2 q3 q4 q5 q6 q7 q8 q9 q10 q11 qz qlt qlt2
 refine (weightedF (⟨1,fl,st,none,0,0,0,0,0,0,0,false,0,none,0,0⟩:Fr) _ hf0 hf1).mono ?_
 rintro e w1 ⟨rfl,K2⟩
 rw [HPR.out]
 have HB1:=Lib.hid (K2.heap HBa.out (by simp))
 have HK1:=Lib.hid (HKa.out.trans K2)
 have HKB1:=Lib.hid (K2.heap HKa2.out (by simp))
 have k_2:=cell_of HKB1.out 2
 have k_l:=lt_of_heap HKB1.out
 clear HBa HKa HKa2 K2
 obtain ⟨q0,q1,q2,q3,q4,q5,q6,q7,q8,q9,q10,q11,qz,qlt,qlt2⟩:=cellsF HB1.out
 go_wp2
 go_ret2
 exact ⟨A,n,c,rfl,HR.out.keep (S:=[]) HK1.out (by simp),hgA,hn,HB1.out,Kp.nil HK1.out⟩
theorem unpad1tf (fl st:Int) (z any:Bool) (f1 f2 f3 f4:Value) (h1:f1.cells=#[f1]) (h2:f2.cells=#[f2]) (h3:f3.cells=#[f3]) (h4:f4.cells=#[f4]) (hf0:0≤fl) (hf1:fl≤255) (h8:hasB fl 8=false) (h32:hasB fl 32=true) (g:Nat) (A:Option Addr) (n c:Nat) (l:List UInt8) (w:World) (hB:w.heap[g]?=some (.cells #[.int .i64 1,.int .i64 fl,.int .i64 st,.slice none 0 0,.int .i64 0,.int .u32 0,.int .i64 0,.int .i64 0,.int .i64 0,.bool false,.int .i64 0,.slice none 0 0] 49)) (hr:Rd w A n c l) (hgA:g∉ob A) (hn:n≤16777216) :
  Calls Try.prog 151 #[.pointer (some ⟨g,0,none⟩),.agg #[.bool z,.bool any,.bool true,f1,f2,f3,f4],.slice A n c] w (UnR 1 fl st g (unS 1 fl l) w):=by
 have hp:padF 1 fl=false:=by simp [padF,paddedB,h8]
 have hfx:fixedN 1 fl=5:=by simp [fixedN,h32]
 have hb8:(bits .and .i64 fl 8 == 0)=true:=by
  have:=(bits_has fl hf0 hf1).2.1
  rw [h8] at this
  simpa [bne] using this
 have hlen:=hr.len
 unfold unS
 rw [hp,hfx]
 have HPR:=Lib.hid (show prioB 1 fl=true by simp [prioB,h32])
 clear h32
 have HB:=Lib.hid hB
 have HR:=Lib.hid hr
 have HLEN:=Lib.hid hlen
 have hg:=lt_of_heap hB
 have hcap:=hr.cap
 obtain ⟨q0,q1,q2,q3,q4,q5,q6,q7,q8,q9,q10,q11,qz,qlt,qlt2⟩:=cellsF hB
 rw [if_neg (by decide)]
 by_cases hs:n < 5
 ·rw [if_pos (by omega)]
  clear hB hr hp hfx h8 hlen
  go_enter Try.func151,Try.ntmps151
  go_wp2_with fail
  generalize hW:World.alloc _ _=wa
  obtain ⟨K1,hkb⟩:=new_at hW
  have HKa2:=Lib.hid hkb
  have HBa:=Lib.hid (K1.heap HB.out (by simp))
  have HKa:=Lib.hid K1
  clear hW K1 hkb q0 q1 q2 q3 q4 q5 q6 q7 q8 q9 q10 q11 qz qlt qlt2
  refine (weightedF (⟨1,fl,st,none,0,0,0,0,0,0,0,false,0,none,0,0⟩:Fr) _ hf0 hf1).mono ?_
  rintro e w1 ⟨rfl,K2⟩
  rw [HPR.out]
  have HB1:=Lib.hid (K2.heap HBa.out (by simp))
  have HK1:=Lib.hid (HKa.out.trans K2)
  have HKB1:=Lib.hid (K2.heap HKa2.out (by simp))
  have k_2:=cell_of HKB1.out 2
  have k_l:=lt_of_heap HKB1.out
  clear HBa HKa HKa2 K2
  obtain ⟨q0,q1,q2,q3,q4,q5,q6,q7,q8,q9,q10,q11,qz,qlt,qlt2⟩:=cellsF HB1.out
  go_wp2
  go_ret2
  exact ⟨rfl,⟨(⟨1,fl,st,none,0,0,0,0,0,0,0,false,0,none,0,0⟩:Fr),HB1.out⟩,Kp.nil HK1.out⟩
 ·rw [if_neg (by omega)]
  clear hB hr hp hfx h8 hlen
  go_enter Try.func151,Try.ntmps151
  go_wp2_with fail
  generalize hW:World.alloc _ _=wa
  obtain ⟨K1,hkb⟩:=new_at hW
  have HKa2:=Lib.hid hkb
  have HBa:=Lib.hid (K1.heap HB.out (by simp))
  have HKa:=Lib.hid K1
  clear hW K1 hkb q0 q1 q2 q3 q4 q5 q6 q7 q8 q9 q10 q11 qz qlt qlt2
  refine (weightedF (⟨1,fl,st,none,0,0,0,0,0,0,0,false,0,none,0,0⟩:Fr) _ hf0 hf1).mono ?_
  rintro e w1 ⟨rfl,K2⟩
  rw [HPR.out]
  have HB1:=Lib.hid (K2.heap HBa.out (by simp))
  have HK1:=Lib.hid (HKa.out.trans K2)
  have HKB1:=Lib.hid (K2.heap HKa2.out (by simp))
  have k_2:=cell_of HKB1.out 2
  have k_l:=lt_of_heap HKB1.out
  clear HBa HKa HKa2 K2
  obtain ⟨q0,q1,q2,q3,q4,q5,q6,q7,q8,q9,q10,q11,qz,qlt,qlt2⟩:=cellsF HB1.out
  go_wp2
  go_ret2
  exact ⟨A,n,c,rfl,HR.out.keep (S:=[]) HK1.out (by simp),hgA,hn,HB1.out,Kp.nil HK1.out⟩
theorem unpad0t (fl st:Int) (z any:Bool) (f1 f2 f3 f4:Value) (h1:f1.cells=#[f1]) (h2:f2.cells=#[f2]) (h3:f3.cells=#[f3]) (h4:f4.cells=#[f4]) (hf0:0≤fl) (hf1:fl≤255) (h8:hasB fl 8=true) (g:Nat) (A:Option Addr) (n c:Nat) (l:List UInt8) (w:World) (hB:w.heap[g]?=some (.cells #[.int .i64 0,.int .i64 fl,.int .i64 st,.slice none 0 0,.int .i64 0,.int .u32 0,.int .i64 0,.int .i64 0,.int .i64 0,.bool false,.int .i64 0,.slice none 0 0] 49)) (hr:Rd w A n c l) (hgA:g∉ob A) (hn:n≤16777216) :
  Calls Try.prog 151 #[.pointer (some ⟨g,0,none⟩),.agg #[.bool z,.bool any,.bool true,f1,f2,f3,f4],.slice A n c] w (UnR 0 fl st g (unS 0 fl l) w):=by
 have hp:padF 0 fl=true:=by simp [padF,paddedB,h8]
 have hfx:fixedN 0 fl=0:=by simp [fixedN]
 have hb8:(bits .and .i64 fl 8 == 0)=false:=by
  have:=(bits_has fl hf0 hf1).2.1
  rw [h8] at this
  simpa [bne] using this
 have hlen:=hr.len
 unfold unS
 rw [hp,hfx]
 have HB:=Lib.hid hB
 have HR:=Lib.hid hr
 have HLEN:=Lib.hid hlen
 have hg:=lt_of_heap hB
 have hcap:=hr.cap
 obtain ⟨q0,q1,q2,q3,q4,q5,q6,q7,q8,q9,q10,q11,qz,qlt,qlt2⟩:=cellsF hB
 rw [if_pos rfl]
 by_cases hs:n < 1+0
 ·rw [if_pos (by omega)]
  clear hB hr hp hfx h8 hlen
  go_enter Try.func151,Try.ntmps151
  go_wp2
  go_ret2
  exact ⟨rfl,⟨(⟨0,fl,st,none,0,0,0,0,0,0,0,false,0,none,0,0⟩:Fr),((hp_old _ _ _ hg).trans HB.out)⟩,Kp.nil (by with_reducible (repeat (first|exact Kp.refl _ _|assumption|refine Kp.alloc ?_ _|refine Kp.drew ?_|refine Kp.drewN ?_ _|(refine Kp.setL ?_ ?_ _;focus (simp;done))|(refine Kp.setR ?_ ?_ _;focus (first|(simp;done)|(simp;omega))))))⟩
 ·rw [if_neg (by omega)]
  obtain ⟨b,o,rfl,hbw,hcell⟩:=hr.addr (by omega)
  obtain ⟨n1,rfl⟩:∃ n1,n=n1+1:=⟨n - 1,by omega⟩
  obtain ⟨c1,rfl⟩:∃ c1,c=c1+1:=⟨c - 1,by omega⟩
  have hy:=(l.getD 0 0).toNat_lt
  have hQ:=hcell 0 (by omega)
  rw [Nat.add_zero] at hQ
  generalize hyd:(l.getD 0 0).toNat=y at *
  have hbg:¬ b=g:=fun h=>hgA (by simp [ob,h])
  have HQ0:=Lib.hid hQ
  have HWY:=Lib.hid (show IntKind.i64.wrap (y:Int)=(y:Int) from IntWalk.i64_in _ (by omega))
  have hll:(l.length:Int) - 1=(n1:Int):=by omega
  have hl1:l.length - 1=n1:=by omega
  rw [hll,hl1]
  clear hB hr hp hfx h8 hcell hlen hQ hyd hll hl1
  by_cases hbd:(n1:Int) - (y:Int) < ((0:Nat):Int)
  ·by_cases hc1:c1=0
   ·subst hc1
    rw [if_pos hbd]
    have hbd':(n1:Int) - (y:Int) < 0:=by simpa using hbd
    clear hbd
    obtain rfl:n1=0:=by omega
    go_enter Try.func151,Try.ntmps151
    go_wp2
    generalize hW:World.alloc _ _=w1
    obtain ⟨K1,_⟩:=new_at hW
    have HB1:=Lib.hid (K1.heap HB.out (by simp))
    have HK1:=Lib.hid K1
    clear hW K1 q0 q1 q2 q3 q4 q5 q6 q7 q8 q9 q10 q11 qz qlt qlt2
    have HQ:=Lib.hid (HK1.out.cell HQ0.out (by simp))
    have HR1:=Lib.hid (HR.out.keep HK1.out (by simp))
    refine wp_region_st (by kernel_rfl) [fun _ v _=>v=(.pointer (some ⟨g,0,none⟩)),
      fun _ v _=>v=(.slice (some ⟨b,o,none⟩) 1 1),
      fun _ v _=>v=(.pointer (some ⟨b,o,none⟩)),
      fun _ v _=>v=(.int .u8 (y:Int)),
      fun _ v _=>v=(.int .i64 (y:Int)),
      fun _ v _=>v=(.slice (some ⟨b,o,none⟩) 1 1),
      fun _ v _=>v=(.slice (some ⟨b,o,none⟩) 0 0),
      fun _ v _=>v=(.pointer (some ⟨g,0,none⟩)),
      fun _ v _=>v=(.pointer (some ⟨g,4,none⟩)),
      fun _ v w=>True,
      fun _ v _=>v=(.slice (some ⟨b,o,none⟩) 0 0)] (fun p w=>Kp [g] w1 w∧(p≤0→Kp [] w1 w)∧(1≤p→w.heap[g]?=some (.cells #[.int .i64 0,.int .i64 fl,.int .i64 st,.slice none 0 0,.int .i64 (y:Int),.int .u32 0,.int .i64 0,.int .i64 0,.int .i64 0,.bool false,.int .i64 0,.slice none 0 0] 49))) (fun _ _ _=>True) (fun w w'=>Kp [] w w') [9] [] (by kernel_rfl) (by kernel_rfl) (by kernel_rfl) (by decide) (by kernel_rfl) ⟨StabAt2.const _,StabAt2.const _,StabAt2.const _,StabAt2.const _,StabAt2.const _,StabAt2.const _,StabAt2.const _,StabAt2.const _,StabAt2.const _,⟨fun _ _ _ _ _ _ _ h=>h,fun _ _ _ _ _ h=>h⟩,StabAt2.const _,trivial⟩ (⟨(Kp.refl _ _).drew,fun _=>(Kp.refl _ _).drew,fun h=>by omega⟩) ⟨?_,?_,?_,?_,?_,?_,?_,?_,?_,?_,?_,trivial⟩ (by kernel_rfl) ?_
    ·intro q9 a w E hC K hK
     have h0:a.tmps[0]?=some (.pointer (some ⟨g,0,none⟩)):=(E.out 0 (by kernel_rfl)).trans rfl
     refine want_none rfl ?_
     go_simp
     exact hK _ rfl
    ·intro q9 a w E hC K hK
     have h2:a.tmps[2]?=some (.slice (some ⟨b,o,none⟩) 1 1):=(E.out 2 (by kernel_rfl)).trans rfl
     refine want_none rfl ?_
     go_simp
     exact hK _ rfl
    ·intro q9 a w E hC K hK
     obtain ⟨_,h50,rfl⟩:=E.pred 1 _ 50 rfl rfl (by kernel_rfl)
     refine want_none rfl ?_
     go_simp
     exact hK _ rfl
    ·intro q9 a w E hC K hK
     obtain ⟨_,h51,rfl⟩:=E.pred 2 _ 51 rfl rfl (by kernel_rfl)
     refine want_none rfl ?_
     have g1:=hC.1.cell HQ.out (by simp [hbg])
     go_simp
     exact hK _ rfl
    ·intro q9 a w E hC K hK
     obtain ⟨_,h52,rfl⟩:=E.pred 3 _ 52 rfl rfl (by kernel_rfl)
     refine want_none rfl ?_
     have e1:=HWY.out
     go_simp
     exact hK _ rfl
    ·intro q9 a w E hC K hK
     have h2:a.tmps[2]?=some (.slice (some ⟨b,o,none⟩) 1 1):=(E.out 2 (by kernel_rfl)).trans rfl
     refine want_none rfl ?_
     go_simp
     exact hK _ rfl
    ·intro q9 a w E hC K hK
     obtain ⟨_,h54,rfl⟩:=E.pred 5 _ 54 rfl rfl (by kernel_rfl)
     refine want_none rfl ?_
     go_simp
     exact hK _ rfl
    ·intro q9 a w E hC K hK
     obtain ⟨_,h49,rfl⟩:=E.pred 0 _ 49 rfl rfl (by kernel_rfl)
     refine want_none rfl ?_
     go_simp
     exact hK _ rfl
    ·intro q9 a w E hC K hK
     obtain ⟨_,h56,rfl⟩:=E.pred 7 _ 56 rfl rfl (by kernel_rfl)
     refine want_none rfl ?_
     go_simp
     exact hK _ rfl
    ·intro a w E hC K hK
     obtain ⟨_,h57,rfl⟩:=E.pred 8 _ 57 rfl rfl (by kernel_rfl)
     obtain ⟨_,h53,rfl⟩:=E.pred 4 _ 53 rfl rfl (by kernel_rfl)
     refine want_none rfl ?_
     have hb:=(hC.2.1 (by omega)).heap HB1.out (by simp)
     have g4:=cell_of hb 4
     have gz:=frozen_of hb
     go_simp
     exact hK undef _ trivial ⟨hC.1.setCell (.inl (by simp)) _,fun h=>by omega,fun _=>hp_set _ _ _ _ _ _ hb⟩ trivial
    ·intro q9 a w E hC K hK
     obtain ⟨_,h55,rfl⟩:=E.pred 6 _ 55 rfl rfl (by kernel_rfl)
     refine want_none rfl ?_
     go_simp
     exact hK _ rfl
    intro vs w7 hC hV
    have h10:=hV 10 _ rfl (by simp)
    replace h10:vs 10=(.slice (some ⟨b,o,none⟩) 0 0):=h10
    have HB7:=Lib.hid (hC.2.2 (Nat.le_refl _))
    have HR7:=Lib.hid (HR1.out.keep hC.1 (by intro _ t h1 h2; simp at h2; subst h2; exact hgA h1))
    have HK7:=Lib.hid ((Kp.nil HK1.out).trans hC.1)
    clear hV hC HB1 HR1 HK1 HQ
    simp only [putAll,Act.put,List.setIfInBounds_toArray]
    dsimp only [List.set]
    rw [h10]
    clear h10
    obtain ⟨q0,q1,q2,q3,q4,q5,q6,q7,q8,q9,q10,q11,qz,qlt,qlt2⟩:=cellsF HB7.out
    go_wp2
    go_ret2
    exact ⟨rfl,⟨(⟨0,fl,st,none,0,0,(y:Int),0,0,0,0,false,0,none,0,0⟩:Fr),HB7.out⟩,HK7.out⟩
   ·rw [if_pos hbd]
    have hbd':(n1:Int) - (y:Int) < 0:=by simpa using hbd
    clear hbd
    go_enter Try.func151,Try.ntmps151
    go_wp2
    generalize hW:World.alloc _ _=w1
    obtain ⟨K1,_⟩:=new_at hW
    have HB1:=Lib.hid (K1.heap HB.out (by simp))
    have HK1:=Lib.hid K1
    clear hW K1 q0 q1 q2 q3 q4 q5 q6 q7 q8 q9 q10 q11 qz qlt qlt2
    have HQ:=Lib.hid (HK1.out.cell HQ0.out (by simp))
    have HR1:=Lib.hid (HR.out.keep HK1.out (by simp))
    refine wp_region_st (by kernel_rfl) [fun _ v _=>v=(.pointer (some ⟨g,0,none⟩)),
      fun _ v _=>v=(.slice (some ⟨b,o,none⟩) (n1+1) (c1+1)),
      fun _ v _=>v=(.pointer (some ⟨b,o,none⟩)),
      fun _ v _=>v=(.int .u8 (y:Int)),
      fun _ v _=>v=(.int .i64 (y:Int)),
      fun _ v _=>v=(.slice (some ⟨b,o,none⟩) (n1+1) (c1+1)),
      fun _ v _=>v=(.slice (some ⟨b,o+1,none⟩) n1 c1),
      fun _ v _=>v=(.pointer (some ⟨g,0,none⟩)),
      fun _ v _=>v=(.pointer (some ⟨g,4,none⟩)),
      fun _ v w=>True,
      fun _ v _=>v=(.slice (some ⟨b,o+1,none⟩) n1 c1)] (fun p w=>Kp [g] w1 w∧(p≤0→Kp [] w1 w)∧(1≤p→w.heap[g]?=some (.cells #[.int .i64 0,.int .i64 fl,.int .i64 st,.slice none 0 0,.int .i64 (y:Int),.int .u32 0,.int .i64 0,.int .i64 0,.int .i64 0,.bool false,.int .i64 0,.slice none 0 0] 49))) (fun _ _ _=>True) (fun w w'=>Kp [] w w') [9] [] (by kernel_rfl) (by kernel_rfl) (by kernel_rfl) (by decide) (by kernel_rfl) ⟨StabAt2.const _,StabAt2.const _,StabAt2.const _,StabAt2.const _,StabAt2.const _,StabAt2.const _,StabAt2.const _,StabAt2.const _,StabAt2.const _,⟨fun _ _ _ _ _ _ _ h=>h,fun _ _ _ _ _ h=>h⟩,StabAt2.const _,trivial⟩ (⟨(Kp.refl _ _).drew,fun _=>(Kp.refl _ _).drew,fun h=>by omega⟩) ⟨?_,?_,?_,?_,?_,?_,?_,?_,?_,?_,?_,trivial⟩ (by kernel_rfl) ?_
    ·intro q9 a w E hC K hK
     have h0:a.tmps[0]?=some (.pointer (some ⟨g,0,none⟩)):=(E.out 0 (by kernel_rfl)).trans rfl
     refine want_none rfl ?_
     go_simp
     exact hK _ rfl
    ·intro q9 a w E hC K hK
     have h2:a.tmps[2]?=some (.slice (some ⟨b,o,none⟩) (n1+1) (c1+1)):=(E.out 2 (by kernel_rfl)).trans rfl
     refine want_none rfl ?_
     go_simp
     exact hK _ rfl
    ·intro q9 a w E hC K hK
     obtain ⟨_,h50,rfl⟩:=E.pred 1 _ 50 rfl rfl (by kernel_rfl)
     refine want_none rfl ?_
     go_simp
     exact hK _ rfl
    ·intro q9 a w E hC K hK
     obtain ⟨_,h51,rfl⟩:=E.pred 2 _ 51 rfl rfl (by kernel_rfl)
     refine want_none rfl ?_
     have g1:=hC.1.cell HQ.out (by simp [hbg])
     go_simp
     exact hK _ rfl
    ·intro q9 a w E hC K hK
     obtain ⟨_,h52,rfl⟩:=E.pred 3 _ 52 rfl rfl (by kernel_rfl)
     refine want_none rfl ?_
     have e1:=HWY.out
     go_simp
     exact hK _ rfl
    ·intro q9 a w E hC K hK
     have h2:a.tmps[2]?=some (.slice (some ⟨b,o,none⟩) (n1+1) (c1+1)):=(E.out 2 (by kernel_rfl)).trans rfl
     refine want_none rfl ?_
     go_simp
     exact hK _ rfl
    ·intro q9 a w E hC K hK
     obtain ⟨_,h54,rfl⟩:=E.pred 5 _ 54 rfl rfl (by kernel_rfl)
     refine want_none rfl ?_
     go_simp
     exact hK _ rfl
    ·intro q9 a w E hC K hK
     obtain ⟨_,h49,rfl⟩:=E.pred 0 _ 49 rfl rfl (by kernel_rfl)
     refine want_none rfl ?_
     go_simp
     exact hK _ rfl
    ·intro q9 a w E hC K hK
     obtain ⟨_,h56,rfl⟩:=E.pred 7 _ 56 rfl rfl (by kernel_rfl)
     refine want_none rfl ?_
     go_simp
     exact hK _ rfl
    ·intro a w E hC K hK
     obtain ⟨_,h57,rfl⟩:=E.pred 8 _ 57 rfl rfl (by kernel_rfl)
     obtain ⟨_,h53,rfl⟩:=E.pred 4 _ 53 rfl rfl (by kernel_rfl)
     refine want_none rfl ?_
     have hb:=(hC.2.1 (by omega)).heap HB1.out (by simp)
     have g4:=cell_of hb 4
     have gz:=frozen_of hb
     go_simp
     exact hK undef _ trivial ⟨hC.1.setCell (.inl (by simp)) _,fun h=>by omega,fun _=>hp_set _ _ _ _ _ _ hb⟩ trivial
    ·intro q9 a w E hC K hK
     obtain ⟨_,h55,rfl⟩:=E.pred 6 _ 55 rfl rfl (by kernel_rfl)
     refine want_none rfl ?_
     go_simp
     exact hK _ rfl
    intro vs w7 hC hV
    have h10:=hV 10 _ rfl (by simp)
    replace h10:vs 10=(.slice (some ⟨b,o+1,none⟩) n1 c1):=h10
    have HB7:=Lib.hid (hC.2.2 (Nat.le_refl _))
    have HR7:=Lib.hid (HR1.out.keep hC.1 (by intro _ t h1 h2; simp at h2; subst h2; exact hgA h1))
    have HK7:=Lib.hid ((Kp.nil HK1.out).trans hC.1)
    clear hV hC HB1 HR1 HK1 HQ
    simp only [putAll,Act.put,List.setIfInBounds_toArray]
    dsimp only [List.set]
    rw [h10]
    clear h10
    obtain ⟨q0,q1,q2,q3,q4,q5,q6,q7,q8,q9,q10,q11,qz,qlt,qlt2⟩:=cellsF HB7.out
    go_wp2
    go_ret2
    exact ⟨rfl,⟨(⟨0,fl,st,none,0,0,(y:Int),0,0,0,0,false,0,none,0,0⟩:Fr),HB7.out⟩,HK7.out⟩
  ·by_cases hc1:c1=0
   ·subst hc1
    rw [if_neg hbd]
    have hbd':¬ (n1:Int) - (y:Int) < 0:=by simpa using hbd
    clear hbd
    obtain rfl:n1=0:=by omega
    go_enter Try.func151,Try.ntmps151
    go_wp2
    generalize hW:World.alloc _ _=w1
    obtain ⟨K1,_⟩:=new_at hW
    have HB1:=Lib.hid (K1.heap HB.out (by simp))
    have HK1:=Lib.hid K1
    clear hW K1 q0 q1 q2 q3 q4 q5 q6 q7 q8 q9 q10 q11 qz qlt qlt2
    have HQ:=Lib.hid (HK1.out.cell HQ0.out (by simp))
    have HR1:=Lib.hid (HR.out.keep HK1.out (by simp))
    refine wp_region_st (by kernel_rfl) [fun _ v _=>v=(.pointer (some ⟨g,0,none⟩)),
      fun _ v _=>v=(.slice (some ⟨b,o,none⟩) 1 1),
      fun _ v _=>v=(.pointer (some ⟨b,o,none⟩)),
      fun _ v _=>v=(.int .u8 (y:Int)),
      fun _ v _=>v=(.int .i64 (y:Int)),
      fun _ v _=>v=(.slice (some ⟨b,o,none⟩) 1 1),
      fun _ v _=>v=(.slice (some ⟨b,o,none⟩) 0 0),
      fun _ v _=>v=(.pointer (some ⟨g,0,none⟩)),
      fun _ v _=>v=(.pointer (some ⟨g,4,none⟩)),
      fun _ v w=>True,
      fun _ v _=>v=(.slice (some ⟨b,o,none⟩) 0 0)] (fun p w=>Kp [g] w1 w∧(p≤0→Kp [] w1 w)∧(1≤p→w.heap[g]?=some (.cells #[.int .i64 0,.int .i64 fl,.int .i64 st,.slice none 0 0,.int .i64 (y:Int),.int .u32 0,.int .i64 0,.int .i64 0,.int .i64 0,.bool false,.int .i64 0,.slice none 0 0] 49))) (fun _ _ _=>True) (fun w w'=>Kp [] w w') [9] [] (by kernel_rfl) (by kernel_rfl) (by kernel_rfl) (by decide) (by kernel_rfl) ⟨StabAt2.const _,StabAt2.const _,StabAt2.const _,StabAt2.const _,StabAt2.const _,StabAt2.const _,StabAt2.const _,StabAt2.const _,StabAt2.const _,⟨fun _ _ _ _ _ _ _ h=>h,fun _ _ _ _ _ h=>h⟩,StabAt2.const _,trivial⟩ (⟨(Kp.refl _ _).drew,fun _=>(Kp.refl _ _).drew,fun h=>by omega⟩) ⟨?_,?_,?_,?_,?_,?_,?_,?_,?_,?_,?_,trivial⟩ (by kernel_rfl) ?_
    ·intro q9 a w E hC K hK
     have h0:a.tmps[0]?=some (.pointer (some ⟨g,0,none⟩)):=(E.out 0 (by kernel_rfl)).trans rfl
     refine want_none rfl ?_
     go_simp
     exact hK _ rfl
    ·intro q9 a w E hC K hK
     have h2:a.tmps[2]?=some (.slice (some ⟨b,o,none⟩) 1 1):=(E.out 2 (by kernel_rfl)).trans rfl
     refine want_none rfl ?_
     go_simp
     exact hK _ rfl
    ·intro q9 a w E hC K hK
     obtain ⟨_,h50,rfl⟩:=E.pred 1 _ 50 rfl rfl (by kernel_rfl)
     refine want_none rfl ?_
     go_simp
     exact hK _ rfl
    ·intro q9 a w E hC K hK
     obtain ⟨_,h51,rfl⟩:=E.pred 2 _ 51 rfl rfl (by kernel_rfl)
     refine want_none rfl ?_
     have g1:=hC.1.cell HQ.out (by simp [hbg])
     go_simp
     exact hK _ rfl
    ·intro q9 a w E hC K hK
     obtain ⟨_,h52,rfl⟩:=E.pred 3 _ 52 rfl rfl (by kernel_rfl)
     refine want_none rfl ?_
     have e1:=HWY.out
     go_simp
     exact hK _ rfl
    ·intro q9 a w E hC K hK
     have h2:a.tmps[2]?=some (.slice (some ⟨b,o,none⟩) 1 1):=(E.out 2 (by kernel_rfl)).trans rfl
     refine want_none rfl ?_
     go_simp
     exact hK _ rfl
    ·intro q9 a w E hC K hK
     obtain ⟨_,h54,rfl⟩:=E.pred 5 _ 54 rfl rfl (by kernel_rfl)
     refine want_none rfl ?_
     go_simp
     exact hK _ rfl
    ·intro q9 a w E hC K hK
     obtain ⟨_,h49,rfl⟩:=E.pred 0 _ 49 rfl rfl (by kernel_rfl)
     refine want_none rfl ?_
     go_simp
     exact hK _ rfl
    ·intro q9 a w E hC K hK
     obtain ⟨_,h56,rfl⟩:=E.pred 7 _ 56 rfl rfl (by kernel_rfl)
     refine want_none rfl ?_
     go_simp
     exact hK _ rfl
    ·intro a w E hC K hK
     obtain ⟨_,h57,rfl⟩:=E.pred 8 _ 57 rfl rfl (by kernel_rfl)
     obtain ⟨_,h53,rfl⟩:=E.pred 4 _ 53 rfl rfl (by kernel_rfl)
     refine want_none rfl ?_
     have hb:=(hC.2.1 (by omega)).heap HB1.out (by simp)
     have g4:=cell_of hb 4
     have gz:=frozen_of hb
     go_simp
     exact hK undef _ trivial ⟨hC.1.setCell (.inl (by simp)) _,fun h=>by omega,fun _=>hp_set _ _ _ _ _ _ hb⟩ trivial
    ·intro q9 a w E hC K hK
     obtain ⟨_,h55,rfl⟩:=E.pred 6 _ 55 rfl rfl (by kernel_rfl)
     refine want_none rfl ?_
     go_simp
     exact hK _ rfl
    intro vs w7 hC hV
    have h10:=hV 10 _ rfl (by simp)
    replace h10:vs 10=(.slice (some ⟨b,o,none⟩) 0 0):=h10
    have HB7:=Lib.hid (hC.2.2 (Nat.le_refl _))
    have HR7:=Lib.hid (HR1.out.keep hC.1 (by intro _ t h1 h2; simp at h2; subst h2; exact hgA h1))
    have HK7:=Lib.hid ((Kp.nil HK1.out).trans hC.1)
    clear hV hC HB1 HR1 HK1 HQ
    simp only [putAll,Act.put,List.setIfInBounds_toArray]
    dsimp only [List.set]
    rw [h10]
    clear h10
    obtain ⟨q0,q1,q2,q3,q4,q5,q6,q7,q8,q9,q10,q11,qz,qlt,qlt2⟩:=cellsF HB7.out
    go_wp2
    go_ret2
    have hq:=HR7.out.sub 1 (1+(0 - y)) (by omega) (by omega) (A':=(some ⟨b,o,none⟩)) (by intro b' o' h1 h2; omega)
    have eq1:1+(0 - y) - 1=0 - y:=by omega
    rw [eq1] at hq
    rw [Nat.zero_sub] at hq
    exact ⟨(some ⟨b,o,none⟩),0,0,rfl,by rw [Nat.zero_sub]; exact ⟨hq.len,Nat.le_refl _,hq.at_⟩,by simp [ob]; omega,by omega,HB7.out,HK7.out⟩
   ·rw [if_neg hbd]
    have hbd':¬ (n1:Int) - (y:Int) < 0:=by simpa using hbd
    clear hbd
    go_enter Try.func151,Try.ntmps151
    go_wp2
    generalize hW:World.alloc _ _=w1
    obtain ⟨K1,_⟩:=new_at hW
    have HB1:=Lib.hid (K1.heap HB.out (by simp))
    have HK1:=Lib.hid K1
    clear hW K1 q0 q1 q2 q3 q4 q5 q6 q7 q8 q9 q10 q11 qz qlt qlt2
    have HQ:=Lib.hid (HK1.out.cell HQ0.out (by simp))
    have HR1:=Lib.hid (HR.out.keep HK1.out (by simp))
    refine wp_region_st (by kernel_rfl) [fun _ v _=>v=(.pointer (some ⟨g,0,none⟩)),
      fun _ v _=>v=(.slice (some ⟨b,o,none⟩) (n1+1) (c1+1)),
      fun _ v _=>v=(.pointer (some ⟨b,o,none⟩)),
      fun _ v _=>v=(.int .u8 (y:Int)),
      fun _ v _=>v=(.int .i64 (y:Int)),
      fun _ v _=>v=(.slice (some ⟨b,o,none⟩) (n1+1) (c1+1)),
      fun _ v _=>v=(.slice (some ⟨b,o+1,none⟩) n1 c1),
      fun _ v _=>v=(.pointer (some ⟨g,0,none⟩)),
      fun _ v _=>v=(.pointer (some ⟨g,4,none⟩)),
      fun _ v w=>True,
      fun _ v _=>v=(.slice (some ⟨b,o+1,none⟩) n1 c1)] (fun p w=>Kp [g] w1 w∧(p≤0→Kp [] w1 w)∧(1≤p→w.heap[g]?=some (.cells #[.int .i64 0,.int .i64 fl,.int .i64 st,.slice none 0 0,.int .i64 (y:Int),.int .u32 0,.int .i64 0,.int .i64 0,.int .i64 0,.bool false,.int .i64 0,.slice none 0 0] 49))) (fun _ _ _=>True) (fun w w'=>Kp [] w w') [9] [] (by kernel_rfl) (by kernel_rfl) (by kernel_rfl) (by decide) (by kernel_rfl) ⟨StabAt2.const _,StabAt2.const _,StabAt2.const _,StabAt2.const _,StabAt2.const _,StabAt2.const _,StabAt2.const _,StabAt2.const _,StabAt2.const _,⟨fun _ _ _ _ _ _ _ h=>h,fun _ _ _ _ _ h=>h⟩,StabAt2.const _,trivial⟩ (⟨(Kp.refl _ _).drew,fun _=>(Kp.refl _ _).drew,fun h=>by omega⟩) ⟨?_,?_,?_,?_,?_,?_,?_,?_,?_,?_,?_,trivial⟩ (by kernel_rfl) ?_
    ·intro q9 a w E hC K hK
     have h0:a.tmps[0]?=some (.pointer (some ⟨g,0,none⟩)):=(E.out 0 (by kernel_rfl)).trans rfl
     refine want_none rfl ?_
     go_simp
     exact hK _ rfl
    ·intro q9 a w E hC K hK
     have h2:a.tmps[2]?=some (.slice (some ⟨b,o,none⟩) (n1+1) (c1+1)):=(E.out 2 (by kernel_rfl)).trans rfl
     refine want_none rfl ?_
     go_simp
     exact hK _ rfl
    ·intro q9 a w E hC K hK
     obtain ⟨_,h50,rfl⟩:=E.pred 1 _ 50 rfl rfl (by kernel_rfl)
     refine want_none rfl ?_
     go_simp
     exact hK _ rfl
    ·intro q9 a w E hC K hK
     obtain ⟨_,h51,rfl⟩:=E.pred 2 _ 51 rfl rfl (by kernel_rfl)
     refine want_none rfl ?_
     have g1:=hC.1.cell HQ.out (by simp [hbg])
     go_simp
     exact hK _ rfl
    ·intro q9 a w E hC K hK
     obtain ⟨_,h52,rfl⟩:=E.pred 3 _ 52 rfl rfl (by kernel_rfl)
     refine want_none rfl ?_
     have e1:=HWY.out
     go_simp
     exact hK _ rfl
    ·intro q9 a w E hC K hK
     have h2:a.tmps[2]?=some (.slice (some ⟨b,o,none⟩) (n1+1) (c1+1)):=(E.out 2 (by kernel_rfl)).trans rfl
     refine want_none rfl ?_
     go_simp
     exact hK _ rfl
    ·intro q9 a w E hC K hK
     obtain ⟨_,h54,rfl⟩:=E.pred 5 _ 54 rfl rfl (by kernel_rfl)
     refine want_none rfl ?_
     go_simp
     exact hK _ rfl
    ·intro q9 a w E hC K hK
     obtain ⟨_,h49,rfl⟩:=E.pred 0 _ 49 rfl rfl (by kernel_rfl)
     refine want_none rfl ?_
     go_simp
     exact hK _ rfl
    ·intro q9 a w E hC K hK
     obtain ⟨_,h56,rfl⟩:=E.pred 7 _ 56 rfl rfl (by kernel_rfl)
     refine want_none rfl ?_
     go_simp
     exact hK _ rfl
    ·intro a w E hC K hK
     obtain ⟨_,h57,rfl⟩:=E.pred 8 _ 57 rfl rfl (by kernel_rfl)
     obtain ⟨_,h53,rfl⟩:=E.pred 4 _ 53 rfl rfl (by kernel_rfl)
     refine want_none rfl ?_
     have hb:=(hC.2.1 (by omega)).heap HB1.out (by simp)
     have g4:=cell_of hb 4
     have gz:=frozen_of hb
     go_simp
     exact hK undef _ trivial ⟨hC.1.setCell (.inl (by simp)) _,fun h=>by omega,fun _=>hp_set _ _ _ _ _ _ hb⟩ trivial
    ·intro q9 a w E hC K hK
     obtain ⟨_,h55,rfl⟩:=E.pred 6 _ 55 rfl rfl (by kernel_rfl)
     refine want_none rfl ?_
     go_simp
     exact hK _ rfl
    intro vs w7 hC hV
    have h10:=hV 10 _ rfl (by simp)
    replace h10:vs 10=(.slice (some ⟨b,o+1,none⟩) n1 c1):=h10
    have HB7:=Lib.hid (hC.2.2 (Nat.le_refl _))
    have HR7:=Lib.hid (HR1.out.keep hC.1 (by intro _ t h1 h2; simp at h2; subst h2; exact hgA h1))
    have HK7:=Lib.hid ((Kp.nil HK1.out).trans hC.1)
    clear hV hC HB1 HR1 HK1 HQ
    simp only [putAll,Act.put,List.setIfInBounds_toArray]
    dsimp only [List.set]
    rw [h10]
    clear h10
    obtain ⟨q0,q1,q2,q3,q4,q5,q6,q7,q8,q9,q10,q11,qz,qlt,qlt2⟩:=cellsF HB7.out
    go_wp2
    go_ret2
    have hq:=HR7.out.sub 1 (1+(n1 - y)) (by omega) (by omega) (A':=(some ⟨b,o+1,none⟩)) (by intro b' o' h1 h2; injection h1 with h1; injection h1 with h1 h3 _; rw [h1,h3])
    have eq1:1+(n1 - y) - 1=n1 - y:=by omega
    rw [eq1] at hq
    exact ⟨(some ⟨b,o+1,none⟩),n1 - y,n1 - y,rfl,⟨hq.len,Nat.le_refl _,hq.at_⟩,by simp [ob]; omega,by omega,HB7.out,HK7.out⟩
end Go.Proofs.Ytkmcakneceagpaa
