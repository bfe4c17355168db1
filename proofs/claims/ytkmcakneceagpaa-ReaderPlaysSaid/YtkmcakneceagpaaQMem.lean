/- Words on memory for all walks of this seat, over any program: what a call keeps ('Kp'), byte slices that are read ('Rd'), rows of the call's own ('Ow'), and append, as laws for the walk. Plain facts on numbers of bytes, the high byte first: no program in sight. The contracts of layer 2: numbers of bytes, read and put, by the program and by the reference: each gives the plain function 'num' or 'bytesOf'. A frame's head and the known types, by the program. How arguments that came in are opened, over any program: integers, bools, strings, slices, structs, with the form's own reach; and how a law's row is closed. Frames as values: their twelve cells, and how one that came in is opened. A frame as plain data, and the bytes that it is written as: no program in sight. Append, two more laws for the walk: so many zero bytes onto a row of the call's own ('append(b, make([]byte, n)...)'), and bytes onto a slice without room. Over any program. frame.kind: its small functions, and what kinds answers of each type. A region that draws its order, by what each operation leaves: one fact 'V j' for each operation, whatever the order; those of 'cs', which turn the world, come up in their own order. Over any program. A region that draws its order: the law of Reg, where operations that only add to the world may come up at any place among the others, and a fact may depend on how far the others have come. Over any program. frame.kind: what the types with numbers put. frame.kind: settings. -/
import Derived.WalkKit
import Derived.Lib.Hide
import Derived.Deep.QuietTactic
import Derived.BigQuiet
import Derived.Deep.DeepAppendWide
import Derived.Laws.BytesArg
import Derived.Laws.BitsLemmas
import Derived.Test.YtkmcakneceagpaaProg
import Derived.WalkLawsBesides
import Derived.WalkSpells
import Derived.Deep.OwnRows
import Derived.ProofKit
import Derived.SizedLaws
import Derived.OpenShut
import Derived.Carry
import Derived.Below
import Derived.Laws.EntriesVeiled
import Derived.Orders
import Derived.Tactics
import Derived.KernelRfl
set_option linter.unusedSimpArgs false
set_option linter.unusedVariables false
set_option maxHeartbeats 8000000
set_option maxRecDepth 100000
namespace Go.Proofs.Ytkmcakneceagpaa
open Go.RowKit

/-! ### worlds -/

structure Kp (S:List Nat) (w w':World):Prop where
 os:w'.os=w.os
 tape:w'.tape=w.tape
 output:w'.output=w.output
 size:w.heap.size≤w'.heap.size
 block:∀ k,k < w.heap.size→k∉S→w'.heap[k]?=w.heap[k]?

theorem Kp.refl (S:List Nat) (w:World):Kp S w w:=⟨rfl,rfl,rfl,Nat.le_refl _,fun _ _ _=>rfl⟩
theorem Kp.trans {S:List Nat} {a b c:World} (h:Kp S a b) (k:Kp S b c):Kp S a c :=
 ⟨k.os.trans h.os,k.tape.trans h.tape,k.output.trans h.output,Nat.le_trans h.size k.size,fun i hi hn=>(k.block i (Nat.lt_of_lt_of_le hi h.size) hn).trans (h.block i hi hn)⟩
theorem Kp.then {S T:List Nat} {a b c:World} (h:Kp S a b) (k:Kp T b c) (hT:∀ t,t∈T→t∈S∨a.heap.size≤t):Kp S a c :=
 ⟨k.os.trans h.os,k.tape.trans h.tape,k.output.trans h.output,Nat.le_trans h.size k.size,fun i hi hn =>
  (k.block i (Nat.lt_of_lt_of_le hi h.size) (fun ht=>(hT i ht).elim hn (fun h1=>by omega))).trans (h.block i hi hn)⟩
theorem Kp.mono {S T:List Nat} {w w':World} (h:Kp S w w') (hS:∀ s,s∈S→s∈T∨w.heap.size≤s):Kp T w w' :=
 ⟨h.os,h.tape,h.output,h.size,fun i hi hn=>h.block i hi (fun hs=>(hS i hs).elim hn (fun h1=>by omega))⟩
theorem Kp.nil {S:List Nat} {w w':World} (h:Kp [] w w'):Kp S w w':=h.mono (fun _ hs=>by cases hs)
theorem Kp.drew {S:List Nat} {a w:World} (h:Kp S a w):Kp S a w.drew:=⟨h.os,h.tape,h.output,h.size,h.block⟩
theorem Kp.drewN {S:List Nat} {a w:World} (h:Kp S a w) (n:Nat):Kp S a (w.drewN n):=⟨h.os,h.tape,h.output,h.size,h.block⟩
theorem Kp.alloc {S:List Nat} {a w:World} (h:Kp S a w) (o:Obj):Kp S a (w.alloc o) :=
 ⟨h.os,h.tape,h.output,by have:=h.size; simp; omega,fun i hi hn=>(Below.heap_alloc _ _ _ (Nat.lt_of_lt_of_le hi h.size)).trans (h.block i hi hn)⟩
theorem Kp.setCell {S:List Nat} {a w:World} (h:Kp S a w) {p:Addr} (hp:p.block∈S∨a.heap.size≤p.block) (u:Value):Kp S a (w.setCell p u) :=
 ⟨h.os,h.tape,h.output,by have:=h.size; simpa using this,fun i hi hn =>
  (Below.heap_setCell _ _ _ _ (fun e=>hp.elim (fun h1=>hn (by rw [e]; exact h1)) (fun h1=>by omega))).trans (h.block i hi hn)⟩
theorem Kp.setRow {S:List Nat} {a w:World} (h:Kp S a w) {g:Nat} (hp:g∈S∨a.heap.size≤g) (cs:Array Value):Kp S a (w.setRow g cs) :=
 ⟨h.os,h.tape,h.output,by have:=h.size; simpa using this,fun i hi hn =>
  (setRow_other w g i cs (fun e=>hp.elim (fun h1=>hn (by rw [e]; exact h1)) (fun h1=>by omega))).trans (h.block i hi hn)⟩
theorem Kp.below {w w':World} (h:Kp [] w w'):Below w.heap.size w w':=⟨h.os,h.tape,h.output,h.size,fun k hk=>h.block k hk (by simp)⟩
theorem Kp.cell {S:List Nat} {w w':World} (h:Kp S w w') {p:Addr} {v:Value} (hc:w.cell? p=some v) (hp:p.block∉S):w'.cell? p=some v :=
 (World.cell?_of_block (w:=w) (h.block p.block (World.block_lt_of_cell? w p hc) hp)).trans hc
theorem Kp.heap {S:List Nat} {w w':World} (h:Kp S w w') {g:Nat} {o:Obj} (hg:w.heap[g]?=some o) (hp:g∉S):w'.heap[g]?=some o :=
 (h.block g (Array.getElem?_eq_some_iff.1 hg).1 hp).trans hg

theorem lt_of_heap {w:World} {g:Nat} {o:Obj} (hg:w.heap[g]?=some o):g < w.heap.size:=(Array.getElem?_eq_some_iff.1 hg).1
theorem cell_of {w:World} {g:Nat} {cs:Array Value} {t:TypeId} {fr:Nat × Nat} (hg:w.heap[g]?=some (.cells cs t fr)) (j:Nat):w.cell? ⟨g,j,none⟩=cs[j]?:=cell_of_row w g j cs t fr hg
theorem frozen_of {w:World} {g:Nat} {cs:Array Value} {t:TypeId} (hg:w.heap[g]?=some (.cells cs t (0,0))) (j:Nat):w.frozen? ⟨g,j,none⟩=false:=frozen_of_row w g j cs t hg

theorem hp_new (w:World) (o:Obj) (n:Nat) (h:n=w.heap.size):(w.alloc o).heap[n]?=some o:=by subst h; exact heap_alloc_new w o
theorem hp_old (w:World) (o:Obj) (n:Nat) (h:n < w.heap.size):(w.alloc o).heap[n]?=w.heap[n]?:=Below.heap_alloc w o n h
theorem hp_set (w:World) (g i:Nat) (v:Value) (cs:Array Value) (t:TypeId) (h:w.heap[g]?=some (.cells cs t (0,0))):(w.setCell ⟨g,i,none⟩ v).heap[g]?=some (.cells (cs.setIfInBounds i v) t (0,0)):=heap_setCell_same w g i cs t v h
theorem hp_far (w:World) (a:Addr) (v:Value) (n:Nat) (h:n≠a.block):(w.setCell a v).heap[n]?=w.heap[n]?:=Below.heap_setCell w a v n h
theorem hpl {w:World} {n:Nat} {x o:Obj} (h:w.heap[n]?=some x):(w.alloc o).heap[n]?=some x:=(hp_old w o n (Array.getElem?_eq_some_iff.1 h).1).trans h
theorem hpf {w:World} {n:Nat} {x:Obj} {a:Addr} {v:Value} (hn:n≠a.block) (h:w.heap[n]?=some x):(w.setCell a v).heap[n]?=some x:=(hp_far w a v n hn).trans h
theorem hpd {w:World} {n:Nat} {x:Obj} (h:w.heap[n]?=some x):w.drew.heap[n]?=some x:=h
theorem hpe {w:World} {k n:Nat} {x:Obj} (h:w.heap[n]?=some x):(w.drewN k).heap[n]?=some x:=h
/-! ### bytes -/

def u8 (b:UInt8):Value:=.int .u8 (b.toNat:Int)
theorem u8_one (l:List UInt8):∀ u∈l.map u8,u.oneCell'=true:=by
 intro u hu
 obtain ⟨_,_,rfl⟩:=List.mem_map.1 hu
 rfl
def ob (A:Option Addr):List Nat:=match A with | some a=>[a.block] | none=>[]

def At (w:World) (A:Option Addr) (xs:List Value):Prop :=
 0 < xs.length→∃ b off,A=some ⟨b,off,none⟩∧∀ j u,xs[j]?=some u→w.cell? ⟨b,off+j,none⟩=some u
theorem At.nil (w:World) (A:Option Addr):At w A []:=fun h=>by simp at h
theorem At.keep {S:List Nat} {w w':World} {A:Option Addr} {xs:List Value} (h:At w A xs) (k:Kp S w w') (hS:0 < xs.length→∀ b,b∈ob A→b∉S):At w' A xs:=by
 intro hp
 obtain ⟨b,off,rfl,hc⟩:=h hp
 exact ⟨b,off,rfl,fun j u hu=>k.cell (hc j u hu) (hS hp b (by simp [ob]))⟩
theorem At.below {B:Nat} {w w':World} {A:Option Addr} {xs:List Value} (h:At w A xs) (k:Below B w w') (hB:∀ b,b∈ob A→b < B):At w' A xs:=by
 intro hp
 obtain ⟨b,off,rfl,hc⟩:=h hp
 exact ⟨b,off,rfl,fun j u hu=>(k.cell (p:=⟨b,off+j,none⟩) (hB b (by simp [ob]))).trans (hc j u hu)⟩
theorem At.lt {w:World} {A:Option Addr} {xs:List Value} (h:At w A xs) (hp:0 < xs.length):∀ b,b∈ob A→b < w.heap.size:=by
 obtain ⟨b,off,rfl,hc⟩:=h hp
 intro b' hb'
 obtain rfl:b'=b:=by simpa [ob] using hb'
 exact World.block_lt_of_cell? w _ (hc 0 _ (List.getElem?_eq_getElem hp))

structure Rd (w:World) (A:Option Addr) (n c:Nat) (l:List UInt8):Prop where
 len:l.length=n
 cap:n≤c
 at_:At w A (l.map u8)
theorem Rd.nil (w:World) (A:Option Addr) (c:Nat):Rd w A 0 c []:=⟨rfl,Nat.zero_le _,At.nil _ _⟩
theorem Rd.keep {S:List Nat} {w w':World} {A:Option Addr} {n c:Nat} {l:List UInt8} (h:Rd w A n c l) (k:Kp S w w') (hS:0 < n→∀ b,b∈ob A→b∉S):Rd w' A n c l :=
 ⟨h.len,h.cap,h.at_.keep k (fun hp=>hS (by simpa [h.len] using hp))⟩
theorem Rd.below {B:Nat} {w w':World} {A:Option Addr} {n c:Nat} {l:List UInt8} (h:Rd w A n c l) (k:Below B w w') (hB:∀ b,b∈ob A→b < B):Rd w' A n c l:=⟨h.len,h.cap,h.at_.below k hB⟩
theorem Rd.addr {w:World} {A:Option Addr} {n c:Nat} {l:List UInt8} (h:Rd w A n c l) (hn:0 < n) :
  ∃ b off,A=some ⟨b,off,none⟩∧b < w.heap.size∧∀ j,j < n→w.cell? ⟨b,off+j,none⟩=some (.int .u8 ((l.getD j 0).toNat:Int)):=by
 have hl:0 < (l.map u8).length:=by simpa [h.len] using hn
 obtain ⟨b,off,rfl,hc⟩:=h.at_ hl
 have hcell:∀ j,j < n→w.cell? ⟨b,off+j,none⟩=some (.int .u8 ((l.getD j 0).toNat:Int)):=by
  intro j hj
  have hj':j < l.length:=by have:=h.len; omega
  refine hc j _ ?_
  simp [u8,List.getElem?_eq_getElem hj',List.getD_eq_getElem?_getD]
 exact ⟨b,off,rfl,World.block_lt_of_cell? w _ (hcell 0 hn),hcell⟩
theorem map_slice {α β:Type} (f:α→β) (l:List α) (i j:Nat):((l.drop i).take j).map f=((l.map f).drop i).take j:=by simp
theorem Rd.sub {w:World} {A:Option Addr} {n c:Nat} {l:List UInt8} (h:Rd w A n c l) (i j:Nat) (hij:i≤j) (hj:j≤n) {A':Option Addr} (hA:∀ b off,A=some ⟨b,off,none⟩→¬ c=i→A'=some ⟨b,off+i,none⟩) :
  Rd w A' (j - i) (c - i) ((l.drop i).take (j - i)):=by
 have hl:=h.len
 have hc:=h.cap
 refine ⟨by simp; omega,by omega,fun hp=>?_⟩
 have hp':0 < j - i∧i < l.length:=by simp at hp; omega
 obtain ⟨b,off,rfl,hcell⟩:=h.at_ (by simp; omega)
 refine ⟨b,off+i,hA b off rfl (by omega),fun k u hu=>?_⟩
 rw [map_slice,List.getElem?_take] at hu
 split at hu
 ·rw [List.getElem?_drop] at hu
  have:=hcell (i+k) u hu
  rwa [← Nat.add_assoc] at this
 ·cases hu

/-! ### rows of the call's own -/

def Ow (w:World) (base:Nat) (e:TypeId) (size:Nat) (A:Option Addr) (n c:Nat) (xs:List Value):Prop:=w.ownsRow base e size (.slice A n c) n xs
theorem Ow.nil (w:World) (base:Nat) (e:TypeId) (size:Nat):Ow w base e size none 0 0 []:=World.ownsRow_nil w base e size
theorem Ow.base {w:World} {base n c size:Nat} {e:TypeId} {A:Option Addr} {xs:List Value} (h:Ow w base e size A n c xs):∀ b,b∈ob A→base≤b∧b < w.heap.size:=by
 intro b hb
 cases A with
 | none=>simp [ob] at hb
 | some a =>
  obtain rfl:b=a.block:=by simpa [ob] using hb
  exact World.ownsRow.lt h a.block rfl
theorem Ow.keep {S:List Nat} {w w':World} {base n c size:Nat} {e:TypeId} {A:Option Addr} {xs:List Value} (h:Ow w base e size A n c xs) (k:Kp S w w') (hS:∀ b,b∈ob A→b∉S):Ow w' base e size A n c xs:=by
 refine ⟨h.1,?_⟩
 rcases h.2 with hn | ⟨g,cap,cur,he,hb,hg,rest⟩
 ·exact .inl hn
 ·refine .inr ⟨g,cap,cur,he,hb,?_,rest⟩
  injection he with he
  subst he
  exact k.heap hg (hS g (by simp [ob]))
theorem Ow.len {w:World} {base n c size:Nat} {e:TypeId} {A:Option Addr} {xs:List Value} (h:Ow w base e size A n c xs):xs.length=n * size:=h.1
theorem Ow.cap {w:World} {base n c size:Nat} {e:TypeId} {A:Option Addr} {xs:List Value} (h:Ow w base e size A n c xs):n≤c∧c≤maxLen:=by
 rcases h.2 with ⟨he,rfl⟩ | ⟨g,cap,cur,he,_,_,h1,h2,_⟩
 ·exact ⟨Nat.zero_le _,by injection he with _ _ hc; subst hc; simp [maxLen]⟩
 ·injection he with _ _ hc
  subst hc
  exact ⟨h1,h2⟩
theorem Ow.at_ {w:World} {base n c size:Nat} {e:TypeId} {A:Option Addr} {xs:List Value} (h:Ow w base e size A n c xs):At w A xs:=by
 intro hp
 rcases h.2 with ⟨he,hn⟩ | ⟨g,cap,cur,he,_,hg,_⟩
 ·have:=h.1; simp [hn] at this; simp [this] at hp
 ·injection he with he
  subst he
  refine ⟨g,0,rfl,fun j u hu=>?_⟩
  have:=World.ownsRow.cells h (g:=g) rfl j u hu
  have hadd:(⟨g,0,none⟩:Addr).add j=⟨g,0+j,none⟩:=by unfold Addr.add; split <;> simp_all
  rwa [hadd] at this
theorem Ow.head {w:World} {base n c size:Nat} {e:TypeId} {A:Option Addr} {xs:List Value} (h:Ow w base e size A n c xs):(A=none∧n=0∧c=0)∨∃ g,A=some ⟨g,0,none⟩∧base≤g∧g < w.heap.size:=by
 rcases h.2 with ⟨he,hn⟩ | ⟨g,cap,cur,he,hb,hg,_⟩
 ·injection he with h1 h2 h3
  exact .inl ⟨h1,hn,h3⟩
 ·injection he with he
  exact .inr ⟨g,he,hb,lt_of_heap hg⟩
theorem Ow.mono {w:World} {base base' n c size:Nat} {e:TypeId} {A:Option Addr} {xs:List Value} (h:Ow w base e size A n c xs) (hb:base'≤base):Ow w base' e size A n c xs:=by
 refine ⟨h.1,?_⟩
 rcases h.2 with h2 | ⟨g,cap,cur,he,hg,rest⟩
 ·exact .inl h2
 ·exact .inr ⟨g,cap,cur,he,by omega,rest⟩
theorem Ow.rd {w:World} {base n c:Nat} {e:TypeId} {A:Option Addr} {l:List UInt8} (h:Ow w base e 1 A n c (l.map u8)):Rd w A n c l :=
 ⟨by have:=h.len; simpa using this,h.cap.1,h.at_⟩
theorem Ow.new (w:World) (base:Nat) (e:TypeId) (cs:List Value) (size n:Nat) (hb:base≤w.heap.size) (hl:cs.length=n * size) (hm:n≤maxLen) :
  Ow (w.alloc (.cells cs.toArray e)) base e size (some ⟨w.heap.size,0,none⟩) n n cs :=
 ⟨hl,.inr ⟨w.heap.size,n,cs.toArray,rfl,hb,heap_alloc_new w _,Nat.le_refl _,hm,by simpa using hl,by rw [List.take_of_length_le (by simp [hl])]⟩⟩

theorem At.block {w:World} {g:Nat} {cs:Array Value} {t:TypeId} {fr:Nat × Nat} (hg:w.heap[g]?=some (.cells cs t fr)) (off:Nat) (xs:List Value) (h:(cs.toList.drop off).take xs.length=xs):At w (some ⟨g,off,none⟩) xs:=by
 intro hp
 refine ⟨g,off,rfl,fun j u hu=>?_⟩
 rw [cell_of hg]
 rw [← h,List.getElem?_take] at hu
 split at hu
 ·rw [List.getElem?_drop] at hu
  simpa using hu
 ·cases hu
theorem Rd.block {w:World} {g:Nat} {cs:Array Value} {t:TypeId} {fr:Nat × Nat} (hg:w.heap[g]?=some (.cells cs t fr)) (off n c:Nat) (l:List UInt8) (hn:l.length=n) (hc:n≤c) (h:(cs.toList.drop off).take n=l.map u8):Rd w (some ⟨g,off,none⟩) n c l :=
 ⟨hn,hc,At.block hg off _ (by simpa [hn] using h)⟩

/-! ### what a call gives -/

def RdR (l:List UInt8) (w:World) (en:Ending) (w':World):Prop :=
 ∃ A n,en=.returned (.slice A n n)∧Rd w' A n n l∧(∀ b,b∈ob A→w.heap.size≤b)∧Kp [] w w'
def RdE (l:List UInt8) (er:Int) (w:World) (en:Ending) (w':World):Prop :=
 ∃ A n,en=.returned (.tuple #[.slice A n n,.int .i64 er])∧Rd w' A n n l∧(∀ b,b∈ob A→w.heap.size≤b)∧Kp [] w w'
def OwR (e:TypeId) (l:List UInt8) (w:World) (en:Ending) (w':World):Prop :=
 ∃ A n c,en=.returned (.slice A n c)∧Ow w' w.heap.size e 1 A n c (l.map u8)∧Kp [] w w'
def OwE (e:TypeId) (l:List UInt8) (er:Int) (w:World) (en:Ending) (w':World):Prop :=
 ∃ A n c,en=.returned (.tuple #[.slice A n c,.int .i64 er])∧Ow w' w.heap.size e 1 A n c (l.map u8)∧Kp [] w w'

/-! ### append -/

theorem run_app {P:Program} (w:World) (t ty e:TypeId) (z:Value) (size bytes:Nat) (ht:P.underlying t=some (.slice e)) (hi:(P.info? e).map (fun i=>(i.zero,i.size,i.bytes))=some (some z,size,bytes))
  (hzs:z.cells.size=size) (hsz:0 < size) (base:Nat) (A:Option Addr) (n c:Nat) (xs:List Value) (HO:Ow w base e size A n c xs) (A2:Option Addr) (m c2:Nat) (ys:List Value) (hl:ys.length=m * size)
  (HR:At w A2 ys) (h1:∀ u∈ys,u.oneCell'=true) (h63:n+m≤maxLen) (hbytes:((n+m)+(n+m) / 4+192) * bytes≤281474976710656) (hbase:base≤w.heap.size) :
  ∃ A' c' w',(Builtin.append_ #[t,t] ty #[.slice A n c,.slice A2 m c2]).run P w=.ok (.slice A' (n+m) c') w'∧Ow w' base e size A' (n+m) c' (xs++ys)∧Kp (ob A) w w' ∧
   (A'=A∨A'=some ⟨w.heap.size,0,none⟩)∧(0 < n→A'≠none):=by
 obtain ⟨i,hi,hz,hsize,hby⟩:=info_parts hi
 have hsmall:n+m≤9223372036854775807:=by simp only [maxLen] at h63; omega
 have hlen:(xs++ys).length=(n+m) * size:=by rw [List.length_append,HO.len,hl,Nat.add_mul]
 by_cases hm:m=0
 ·-- nothing is appended
  subst hm
  obtain rfl:ys=[]:=List.eq_nil_of_length_eq_zero (by simpa using hl)
  refine ⟨A,c,w,?_,by simpa using HO,Kp.refl _ _,.inl rfl,fun hn=>?_⟩
  ·have hnc:=HO.cap.1
   cases A with
   | none=>cases A2 <;> simp [Builtin.append_,run_underlying ht,sizeOf,typeInfo,hi,Builtin.lenOf,Builtin.firstCells,hnc,loadCells,loadCellsFrom]
   | some a=>cases A2 <;> simp [Builtin.append_,run_underlying ht,sizeOf,typeInfo,hi,Builtin.lenOf,Builtin.firstCells,hnc,storeCells,loadCells,loadCellsFrom]
  ·rcases HO.head with ⟨_,h0,_⟩ | ⟨g,rfl,_⟩
   ·omega
   ·simp
 ·have hyl:0 < ys.length:=by rw [hl]; exact Nat.mul_pos (by omega) hsz
  obtain ⟨b2,off2,rfl,hc2⟩:=HR hyl
  have hnews:∀ j u,ys[j]?=some u→w.cell? ((⟨b2,off2,none⟩:Addr).add j)=some u:=by
   intro j u hu
   have hadd:(⟨b2,off2,none⟩:Addr).add j=⟨b2,off2+j,none⟩:=by unfold Addr.add; split <;> simp_all
   rw [hadd]; exact hc2 j u hu
  have hl':ys.length=m * i.size:=by rw [hsize]; exact hl
  have hb48:∀ old,old < n+m→Builtin.nextslicecap (n+m) old * i.bytes≤281474976710656:=fun old ho=>by rw [hby]; exact growslice_fits_wide ho hbytes
  have grown:∀ (old:Nat),Ow (w.drew.alloc (.cells (xs.toArray++ys.toArray++Builtin.zeroCells z.cells (grownCap w (n+m) old e - (n+m))) e)) base e size (some ⟨w.heap.size,0,none⟩) (n+m) (grownCap w (n+m) old e) (xs++ys):=by
   intro old
   have hge:=grownCap_ge w (n+m) old e
   refine ⟨hlen,.inr ⟨w.heap.size,_,_,rfl,hbase,heap_alloc_new w.drew _,hge,grownCap_le_maxLen w (n+m) old e h63,?_,?_⟩⟩
   ·simp only [Array.size_append,List.size_toArray,size_zeroCells,hzs,HO.len,hl,← Nat.add_mul]
    congr 1
    omega
   ·simp only [Array.toList_append]
    rw [← hlen]
    exact List.take_left
  rcases HO.2 with ⟨he,h0⟩ | ⟨g,cap,cur,he,hbg,hg,hnc,hcm,hcs,htake⟩
  ·injection he with h1' _ h3'
   subst h1' h3' h0
   obtain rfl:xs=[]:=List.eq_nil_of_length_eq_zero (by simpa using HO.len)
   have hr:=run_append_nil (P:=P) w t ty e i z ht hi hz ⟨b2,off2,none⟩ m c2 ys hl' hnews (by omega) (by omega)
    (by have hb:=hbytes; simp only [Nat.zero_add] at hb; rw [hby]; exact Nat.le_trans (Nat.mul_le_mul_right _ (by omega)) hb)
   have hgr:=grown 0
   simp only [Nat.zero_add,List.nil_append,Array.empty_append] at hgr ⊢
   exact ⟨_,_,_,hr,hgr,(Kp.refl _ _).drew.alloc _,.inr rfl,by simp⟩
  ·injection he with h1' _ h3'
   subst h1' h3'
   by_cases hroom:n+m≤c
   ·have hfit:n * i.size+ys.length≤cur.size:=by rw [hl,hcs,hsize,← Nat.add_mul]; exact Nat.mul_le_mul_right _ hroom
    have hr:=run_append_room (P:=P) w t ty e i ht hi g n c cur hg ⟨b2,off2,none⟩ m c2 ys hl' hnews h1 hroom hfit
    refine ⟨_,_,_,hr,⟨hlen,.inr ⟨g,c,_,rfl,hbg,setRow_heap w g cur _ e _ hg,hroom,hcm,?_,?_⟩⟩,(Kp.refl _ _).setRow (.inl (by simp [ob])) _,.inl rfl,by simp⟩
    ·simp only [List.size_toArray,List.length_append,List.length_take,List.length_drop,Array.length_toList]
     omega
    ·rw [hsize,htake,← hlen]
     exact List.take_left
   ·have holds:∀ j u,xs[j]?=some u→w.cell? ((⟨g,0,none⟩:Addr).add j)=some u:=World.ownsRow.cells HO (g:=g) rfl
    have hr:=run_append_grow (P:=P) w t ty e i z ht hi hz ⟨g,0,none⟩ n c xs (by rw [hsize]; exact HO.len) holds ⟨b2,off2,none⟩ m c2 ys hl' hnews (by omega) (by omega) (hb48 c (by omega))
    exact ⟨_,_,_,hr,grown c,(Kp.refl _ _).drew.alloc _,.inr rfl,by simp⟩

section
variable {P:Program} {ops:Array Oper} {rest:List Oper} {o:Oper} {a:Act} {Q:Exit→Act→World→Prop}

theorem wp_app {w:World} (hgd:o.guard=none) (s x:Operand) (t e:TypeId) (z:Value) (size bytes:Nat) (ho:o.op=.call { callee:=.builtin .append,args:=#[s,x],argTypes:=#[t,t] })
  (ht:P.underlying t=some (.slice e)) (hi:(P.info? e).map (fun i=>(i.zero,i.size,i.bytes))=some (some z,size,bytes))
  (hzs:z.cells.size=size) (hsz:0 < size) (base:Nat) (A:Option Addr) (n c:Nat) (xs:List Value) (hs:a.eval s=.slice A n c) (HO:Ow w base e size A n c xs)
  (A2:Option Addr) (m c2:Nat) (ys:List Value) (hx:a.eval x=.slice A2 m c2) (hl:ys.length=m * size) (HR:At w A2 ys) (h1:∀ u∈ys,u.oneCell'=true)
  (h63:n+m≤maxLen) (hbytes:((n+m)+(n+m) / 4+192) * bytes≤281474976710656) (hbase:base≤w.heap.size)
  (h:∀ A' k c' w',Hid (k=n+m)→Ow w' base e size A' k c' (xs++ys)→Kp (ob A) w w'→(A'=A∨A'=some ⟨w.heap.size,0,none⟩)→wpList P ops Q rest (a.put o.dst (.slice A' k c')) w'):wpList P ops Q (o :: rest) a w:=by
 refine wpList_plain hgd fun K hK=>?_
 obtain ⟨A',c',w',hr,h2,h3,h4,_⟩:=run_app (P:=P) w t o.type e z size bytes ht hi hzs hsz base A n c xs HO A2 m c2 ys hl HR h1 h63 hbytes hbase
 unfold Oper.wp execOp
 simp only [ho,resolve,invoke,builtin,Sem.run_bind,Sem.run_pure,Result.andThen_ok,List.map_toArray,List.map_cons,List.map_nil,hs,hx,hr]
 exact hK _ _ (h A' (n+m) c' w' rfl h2 h3 h4)

theorem wp_appB {w:World} (hgd:o.guard=none) (s x:Operand) (t e:TypeId) (ho:o.op=.call { callee:=.builtin .append,args:=#[s,x],argTypes:=#[t,t] })
  (ht:P.underlying t=some (.slice e)) (hi:(P.info? e).map (fun i=>(i.zero,i.size,i.bytes))=some (some (.int .u8 0),1,1))
  (base:Nat) (A:Option Addr) (n c:Nat) (l:List UInt8) (hs:a.eval s=.slice A n c) (HO:Ow w base e 1 A n c (l.map u8))
  (A2:Option Addr) (m c2:Nat) (l2:List UInt8) (hx:a.eval x=.slice A2 m c2) (HR:Rd w A2 m c2 l2)
  (hlen:n+m≤211106232532992) (hbase:base≤w.heap.size)
  (h:∀ A' k c' l' w',Hid (k=n+m)→Hid (l'=l++l2)→Ow w' base e 1 A' k c' (l'.map u8)→Kp (ob A) w w'→(A'=A∨A'=some ⟨w.heap.size,0,none⟩)→wpList P ops Q rest (a.put o.dst (.slice A' k c')) w'):wpList P ops Q (o :: rest) a w :=
 wp_app hgd s x t e (.int .u8 0) 1 1 ho ht hi rfl (by omega) base A n c (l.map u8) hs HO A2 m c2 (l2.map u8) hx (by simp [HR.len]) HR.at_ (u8_one l2) (by simp only [maxLen]; omega) (by omega) hbase
  (fun A' k c' w' hk HO' hKp hA=>h A' k c' (l++l2) w' hk rfl (by rw [List.map_append]; exact HO') hKp hA)
end
/-! ### strings -/
def sb (l:List UInt8):ByteArray:=⟨l.toArray⟩
theorem run_str {P:Program} {w:World} {A:Option Addr} {n c:Nat} {l:List UInt8} (h:Rd w A n c l) (src e dst:TypeId) (hs:P.underlying src=some (.slice e)) (he:P.underlying e=some (.int .u8)) (hd:P.underlying dst=some .string) :
  (convert src dst (.slice A n c)).run P w=.ok (.string (sb l)) w:=by
 have hlen:=h.len
 have e1:strOfNums (l.map fun b=>(b.toNat:Int))=sb l:=by
  unfold strOfNums sb
  congr 2
  rw [List.map_map]
  conv=>rhs; rw [← List.map_id l]
  apply List.map_congr_left
  intro b _
  simp
 by_cases h0:n=0
 ·subst h0
  obtain rfl:l=[]:=List.eq_nil_of_length_eq_zero hlen
  cases A with
  | none=>exact run_convert_bytes_nil w src e hs he _ _ dst hd
  | some a =>
   rw [run_convert_bytes_string w src dst e _ 0 c hs he hd]
   simp [Conv.bytesToString,loadCells,loadCellsFrom]
   rfl
 ·obtain ⟨b,off,rfl,_,hc⟩:=h.addr (by omega)
  rw [run_convert_bytes_arg w src e hs he b off n c (l.map fun b=>(b.toNat:Int)) (by simpa using hlen) (fun i hi=>?_) dst hd,e1]
  rw [hc i hi]
  simp [List.getD_eq_getElem?_getD,List.getElem?_eq_getElem (show i < l.length by omega)]
section
variable {P:Program} {o:Oper} {a:Act} {w:World} {K:Act→World→Prop} {Q:Exit→Act→World→Prop}
theorem wp_str (src e dst:TypeId) (x:Operand) (ho:o.op=.convert src dst x) (hs:P.underlying src=some (.slice e)) (he:P.underlying e=some (.int .u8)) (hd:P.underlying dst=some .string)
  {A:Option Addr} {n c:Nat} {l:List UInt8} (hx:a.eval x=.slice A n c) (hr:Rd w A n c l) (h:K (a.put o.dst (.string (sb l))) w):o.wp P a w K Q:=by
 unfold Oper.wp execOp
 simp only [ho,hx,run_str hr src e dst hs he hd,Sem.run_bind,Sem.run_pure,Result.andThen_ok]
 exact h
theorem wpList_str {ops:Array Oper} {rest:List Oper} (hgd:o.guard=none) (src e dst:TypeId) (x:Operand) (ho:o.op=.convert src dst x) (hs:P.underlying src=some (.slice e)) (he:P.underlying e=some (.int .u8)) (hd:P.underlying dst=some .string)
  {A:Option Addr} {n c:Nat} {l:List UInt8} (hx:a.eval x=.slice A n c) (hr:Rd w A n c l) (h:wpList P ops Q rest (a.put o.dst (.string (sb l))) w):wpList P ops Q (o :: rest) a w :=
 wpList_plain hgd fun K hK=>wp_str src e dst x ho hs he hd hx hr (hK _ _ h)
theorem eval_tmp {t:Nat} {v:Value} (h:a.tmps[t]?=some v):a.eval (.tmp t)=v:=by simp [Act.eval,h]
end
/-! ### the walk stands still at an operation -/
def Stop (p:Prop):Prop:=p
theorem Stop.go {p:Prop} (h:p):Stop p:=h
theorem stopAt {P:Program} {ops:Array Oper} {Q:Exit→Act→World→Prop} {o:Oper} {rest:List Oper} {a:Act} {w:World} (h:Stop (wpList P ops Q (o :: rest) a w)):wpList P ops Q (o :: rest) a w:=h
theorem Ow.empty (w:World) (base:Nat) (e:TypeId) (size:Nat) (hb:base≤w.heap.size):Ow (w.alloc (.cells #[] e)) base e size (some ⟨w.heap.size,0,none⟩) 0 0 [] :=
 Ow.new w base e [] size 0 hb (by simp) (by simp [maxLen])
def Yes (w:World) (en:Ending) (w':World):Prop:=en=.returned (.bool true)∧Kp [] w w'
end Go.Proofs.Ytkmcakneceagpaa

namespace Go.Proofs.Ytkmcakneceagpaa
open Go.RowKit

def be (l:List UInt8):Nat:=l.foldl (fun a b=>a * 256+b.toNat) 0
theorem be_snoc (l:List UInt8) (b:UInt8):be (l++[b])=be l * 256+b.toNat:=by simp [be]
theorem be_lt (l:List UInt8):be l < 256 ^ l.length:=by
 suffices h:∀ (n:Nat) (l:List UInt8),l.length=n→be l < 256 ^ n from h _ l rfl
 intro n
 induction n with
 | zero=>intro l hl; obtain rfl:=List.eq_nil_of_length_eq_zero hl; simp [be]
 | succ n ih =>
  intro l hl
  have hne:l≠[]:=by intro h; simp [h] at hl
  have hd:l=l.dropLast++[l.getLast hne]:=(List.dropLast_concat_getLast hne).symm
  have h1:=ih l.dropLast (by simp [hl])
  have h2:=(l.getLast hne).toNat_lt
  rw [hd,be_snoc,Nat.pow_succ]
  omega
theorem be_take_succ (l:List UInt8) (k:Nat) (h:k < l.length):be (l.take (k+1))=be (l.take k) * 256+(l.getD k 0).toNat:=by
 rw [List.take_succ_eq_append_getElem h,be_snoc]
 simp [List.getD_eq_getElem?_getD,List.getElem?_eq_getElem h]
theorem be_take_lt (l:List UInt8) (k:Nat):be (l.take k) < 256 ^ k:=by
 have h:=be_lt (l.take k)
 have h2:(l.take k).length≤k:=List.length_take_le _ _
 exact Nat.lt_of_lt_of_le h (Nat.pow_le_pow_right (by omega) h2)

def num (k:Nat) (l:List UInt8) (i:Int):Nat × Int × Int :=
 if i < 0∨(l.length:Int) < i then (0,0,1) else if (l.length:Int) - i < k then (0,l.length,3) else (be ((l.drop i.toNat).take k),i+k,0)
theorem num_arg {k:Nat} {l:List UInt8} {i:Int} (h:i < 0∨(l.length:Int) < i):num k l i=(0,0,1):=by simp [num,h]
theorem num_short {k:Nat} {l:List UInt8} {i:Int} (h0:0≤i) (h1:i≤l.length) (h2:(l.length:Int) - i < k):num k l i=(0,(l.length:Int),3):=by
 unfold num
 rw [if_neg (by omega),if_pos h2]
theorem num_ok {k:Nat} {l:List UInt8} {i:Nat} (h:i+k≤l.length):num k l (i:Int)=(be ((l.drop i).take k),(i:Int)+k,0):=by
 unfold num
 rw [if_neg (by omega),if_neg (by omega)]
 simp
theorem num_lt (k:Nat) (l:List UInt8) (i:Int):(num k l i).1 < 256 ^ k:=by
 have hp:0 < 256 ^ k:=Nat.pow_pos (by omega)
 unfold num
 split
 ·simpa using hp
 ·split
  ·simpa using hp
  ·exact be_take_lt _ _

theorem wraps_u32 (n:Int) (h₀:0≤n) (h₁:n < 2 ^ 32):IntKind.u32.wrap n=n:=by
 rw [IntKind.wrap_u32]
 have e:(2:Int) ^ 32=4294967296:=by decide
 rw [e] at h₁
 omega
theorem or_step (x:Nat) (b:Nat) (hx:x < 16777216) (hb:b < 256):bits .or .u32 ((x:Int) * 256 % 4294967296) ((b:Int) % 4294967296)=(x:Int) * 256+b:=by
 have e1:((x:Int) * 256 % 4294967296)=(x:Int) * 256:=by omega
 have e2:((b:Int) % 4294967296)=(b:Int):=by omega
 have e3:(2:Int) ^ 32=4294967296:=by decide
 have e4:(2:Int) ^ 8=256:=by decide
 rw [e1,e2]
 have h:=bits_join .u32 32 (by decide) wraps_u32 8 ((x:Int) * 256) (b:Int)
 rw [e3,e4] at h
 exact h (by omega) (by omega) (by omega) (by omega) (by omega) (by omega)

def bytesOf (v:Nat):Nat→List UInt8
 | 0=>[]
 | n+1=>bytesOf (v / 256) n++[UInt8.ofNat (v % 256)]
theorem bytesOf_length (v n:Nat):(bytesOf v n).length=n:=by
 induction n generalizing v with
 | zero=>rfl
 | succ n ih=>simp [bytesOf,ih]
theorem bytesOf_drop (v n k:Nat):(bytesOf v (n+k)).drop k=bytesOf v n:=by
 induction n generalizing v with
 | zero=>simp [bytesOf,List.drop_eq_nil_iff,bytesOf_length]
 | succ n ih =>
  rw [show n+1+k=(n+k)+1 from by omega,bytesOf,List.drop_append_of_le_length (by rw [bytesOf_length]; omega),ih,bytesOf]
theorem bytesOf_four (v:Nat):bytesOf v 4=[UInt8.ofNat (v / 16777216 % 256),UInt8.ofNat (v / 65536 % 256),UInt8.ofNat (v / 256 % 256),UInt8.ofNat (v % 256)]:=by
 simp [bytesOf,Nat.div_div_eq_div_mul]
def putR (v:Int) (k:Nat) (bound:Int):List UInt8 × Int:=if v < 0∨bound≤v then ([],1) else (bytesOf v.toNat k,0)
theorem putR_no {v:Int} {k:Nat} {bound:Int} (h:v < 0∨bound≤v):putR v k bound=([],1):=by simp [putR,h]
theorem putR_yes {v:Nat} {k:Nat} {bound:Int} (h:(v:Int) < bound):putR (v:Int) k bound=(bytesOf v k,0):=by
 unfold putR
 rw [if_neg (by omega)]
 simp
end Go.Proofs.Ytkmcakneceagpaa

namespace Go.Proofs.Ytkmcakneceagpaa
open Go.RowKit

theorem Try.info5:(Try.prog.info? 5).map (fun i=>(i.zero,i.size,i.bytes))=some (some (.int .u8 0),1,1):=by kernel_rfl

def Num3 (k1:IntKind) (x:Int) (p e:Int) (w:World) (en:Ending) (w':World):Prop:=en=.returned (.tuple #[.int k1 x,.int .i64 p,.int .i64 e])∧Kp [] w w'
theorem Num3.mk {k1:IntKind} {x x' p p' e e':Int} {w w':World} (hx:x=x') (hp:p=p') (he:e=e') (h:Kp [] w w'):Num3 k1 x p e w (.returned (.tuple #[.int k1 x',.int .i64 p',.int .i64 e'])) w':=by
 subst hx hp he
 exact ⟨rfl,h⟩

theorem get2_any (A:Option Addr) (n c:Nat) (i:Int) (l:List UInt8) (w:World) (hn:n≤140737488355328) (hr:Rd w A n c l) :
  Calls Try.prog 118 #[.slice A n c,.int .i64 i] w (Num3 .u32 (num 2 l i).1 (num 2 l i).2.1 (num 2 l i).2.2 w):=by
 have hlen:=hr.len
 by_cases ha:i < 0∨(l.length:Int) < i
 ·rw [num_arg ha]
  rw [hlen] at ha
  clear hlen hr
  rcases ha with h | h
  ·go_enter Try.func118,Try.ntmps118
   go_wp2
   go_ret3
   exact ⟨rfl,(Kp.refl _ _).alloc _⟩
  ·have h':¬ i < 0:=by omega
   go_enter Try.func118,Try.ntmps118
   go_wp2
   go_ret3
   exact ⟨rfl,(Kp.refl _ _).alloc _⟩
 ·by_cases hs:(l.length:Int) - i < 2
  ·rw [num_short (by omega) (by omega) hs]
   have h0:0≤i:=by omega
   have h1:i≤n:=by omega
   have h2:(n:Int) - i < 2:=by omega
   have HL:=Lib.hid hlen
   clear hlen hr ha hs
   go_enter Try.func118,Try.ntmps118
   go_wp2
   go_ret3
   exact Num3.mk rfl (by rw [HL.out]) rfl ((Kp.refl _ _).alloc _)
  ·obtain ⟨j,rfl⟩:=Int.eq_ofNat_of_zero_le (show 0≤i by omega)
   have hj:j+2≤n:=by omega
   obtain ⟨b,off,rfl,hb,hcell⟩:=hr.addr (by omega)
   have hcap:=hr.cap
   rw [num_ok (by omega)]
   have HT:Hid (∀ k,k < 2→be ((l.drop j).take (k+1))=be ((l.drop j).take k) * 256+(l.getD (j+k) 0).toNat):=by
    intro k hk
    rw [be_take_succ _ _ (by simp; omega)]
    simp [List.getD_eq_getElem?_getD]
   clear hlen hr ha hs
   have d1:decide ((j:Int) < 0)=false:=by simp
   have d2:decide (n < j)=false:=by simp; omega
   have d3:decide ((n:Int) - j < 2)=false:=by simp; omega
   go_enter Try.func118,Try.ntmps118
   go_wp2
   go_loop [8,10,38] (fun v _ k=>∃ kk:Nat,kk≤2∧k=.int .i64 kk∧v=.int .u32 (be ((l.drop j).take kk))) (fun _ _ k=>2 - (intOf k).toNat)
   case atStart=>exact ⟨0,by omega,rfl,by simp [be]⟩
   case round =>
    obtain ⟨k,hk,rfl,rfl⟩:=hrel
    by_cases hlt:k < 2
    ·have hc2:=hcell (j+k) (by omega)
     rw [← Nat.add_assoc] at hc2
     have HB:Hid (be ((l.drop j).take k) < 16777216):=Nat.lt_of_lt_of_le (be_take_lt (l.drop j) k) (Nat.le_trans (Nat.pow_le_pow_right (by omega) (show k≤3 by omega)) (by decide))
     clear hcell
     go_wp2
     go_round
     case rel =>
      refine ⟨k+1,by omega,by go_num,?_⟩
      rw [HT.out k hlt]
      have e:=or_step (be ((l.drop j).take k)) (l.getD (j+k) 0).toNat HB.out (l.getD (j+k) 0).toNat_lt
      simp only [List.getD_eq_getElem?_getD] at e ⊢
      rw [e]
      go_num
     case measure=>simp [intOf]; omega
    ·obtain rfl:k=2:=by omega
     clear hcell
     go_wp2
     go_quiet (fail)
     go_wp2
     go_ret3
     exact Num3.mk rfl rfl rfl (((Kp.refl _ _).alloc _).drewN _)

theorem get4_any (A:Option Addr) (n c:Nat) (i:Int) (l:List UInt8) (w:World) (hn:n≤140737488355328) (hr:Rd w A n c l) :
  Calls Try.prog 115 #[.slice A n c,.int .i64 i] w (Num3 .u32 (num 4 l i).1 (num 4 l i).2.1 (num 4 l i).2.2 w):=by
 have hlen:=hr.len
 by_cases ha:i < 0∨(l.length:Int) < i
 ·rw [num_arg ha]
  rw [hlen] at ha
  clear hlen hr
  rcases ha with h | h
  ·go_enter Try.func115,Try.ntmps115
   go_wp2
   go_ret3
   exact ⟨rfl,(Kp.refl _ _).alloc _⟩
  ·have h':¬ i < 0:=by omega
   go_enter Try.func115,Try.ntmps115
   go_wp2
   go_ret3
   exact ⟨rfl,(Kp.refl _ _).alloc _⟩
 ·by_cases hs:(l.length:Int) - i < 4
  ·rw [num_short (by omega) (by omega) hs]
   have h0:0≤i:=by omega
   have h1:i≤n:=by omega
   have h2:(n:Int) - i < 4:=by omega
   have HL:=Lib.hid hlen
   clear hlen hr ha hs
   go_enter Try.func115,Try.ntmps115
   go_wp2
   go_ret3
   exact Num3.mk rfl (by rw [HL.out]) rfl ((Kp.refl _ _).alloc _)
  ·obtain ⟨j,rfl⟩:=Int.eq_ofNat_of_zero_le (show 0≤i by omega)
   have hj:j+4≤n:=by omega
   obtain ⟨b,off,rfl,hb,hcell⟩:=hr.addr (by omega)
   have hcap:=hr.cap
   rw [num_ok (by omega)]
   have HT:Hid (∀ k,k < 4→be ((l.drop j).take (k+1))=be ((l.drop j).take k) * 256+(l.getD (j+k) 0).toNat):=by
    intro k hk
    rw [be_take_succ _ _ (by simp; omega)]
    simp [List.getD_eq_getElem?_getD]
   clear hlen hr ha hs
   have d1:decide ((j:Int) < 0)=false:=by simp
   have d2:decide (n < j)=false:=by simp; omega
   have d3:decide ((n:Int) - j < 4)=false:=by simp; omega
   go_enter Try.func115,Try.ntmps115
   go_wp2
   go_loop [8,10,38] (fun v _ k=>∃ kk:Nat,kk≤4∧k=.int .i64 kk∧v=.int .u32 (be ((l.drop j).take kk))) (fun _ _ k=>4 - (intOf k).toNat)
   case atStart=>exact ⟨0,by omega,rfl,by simp [be]⟩
   case round =>
    obtain ⟨k,hk,rfl,rfl⟩:=hrel
    by_cases hlt:k < 4
    ·have hc2:=hcell (j+k) (by omega)
     rw [← Nat.add_assoc] at hc2
     have HB:Hid (be ((l.drop j).take k) < 16777216):=Nat.lt_of_lt_of_le (be_take_lt (l.drop j) k) (Nat.le_trans (Nat.pow_le_pow_right (by omega) (show k≤3 by omega)) (by decide))
     clear hcell
     go_wp2
     go_round
     case rel =>
      refine ⟨k+1,by omega,by go_num,?_⟩
      rw [HT.out k hlt]
      have e:=or_step (be ((l.drop j).take k)) (l.getD (j+k) 0).toNat HB.out (l.getD (j+k) 0).toNat_lt
      simp only [List.getD_eq_getElem?_getD] at e ⊢
      rw [e]
      go_num
     case measure=>simp [intOf]; omega
    ·obtain rfl:k=4:=by omega
     clear hcell
     go_wp2
     go_quiet (fail)
     go_wp2
     go_ret3
     exact Num3.mk rfl rfl rfl (((Kp.refl _ _).alloc _).drewN _)

theorem andNot31 (x:Nat) (hx:x < 4294967296):bits .andNot .u32 (x:Int) 2147483648=((x % 2147483648:Nat):Int):=by
 have e:bits .andNot .u32 (x:Int) 2147483648=bits .and .u32 (x:Int) 2147483647:=by
  unfold bits
  have : ~~~(BitVec.ofInt IntKind.u32.bits 2147483648)=BitVec.ofInt IntKind.u32.bits 2147483647:=by decide
  simp only [this]
 have e3:(2:Int) ^ 32=4294967296:=by decide
 have e4:(2:Int) ^ 31=2147483648:=by decide
 have h:=bits_mask .u32 32 (by decide) wraps_u32 31 (by decide) (x:Int)
 rw [e3,e4] at h
 rw [e]
 have h2:=h (by omega) (by omega)
 rw [show (2147483648:Int) - 1=2147483647 from rfl] at h2
 rw [h2]
 omega
theorem pow2:(256:Nat) ^ 2=65536:=by decide
theorem pow3:(256:Nat) ^ 3=16777216:=by decide
theorem pow4:(256:Nat) ^ 4=4294967296:=by decide

theorem U16_any (A:Option Addr) (n c:Nat) (i:Int) (l:List UInt8) (w:World) (hn:n≤140737488355328) (hr:Rd w A n c l) :
  Calls Try.prog 39 #[.slice A n c,.int .i64 i] w (Num3 .i64 (num 2 l i).1 (num 2 l i).2.1 (num 2 l i).2.2 w):=by
 have hb:(num 2 l i).1 < 65536:=Nat.lt_of_lt_of_eq (num_lt 2 l i) pow2
 go_enter Try.func39,Try.ntmps39
 go_wp2_with (go_at_call 118; refine (get2_any _ _ _ _ _ _ hn hr).mono ?_; rintro e w' ⟨rfl,hk⟩)
 go_ret3
 exact ⟨rfl,hk⟩

theorem U32_any (A:Option Addr) (n c:Nat) (i:Int) (l:List UInt8) (w:World) (hn:n≤140737488355328) (hr:Rd w A n c l) :
  Calls Try.prog 34 #[.slice A n c,.int .i64 i] w (Num3 .u32 (num 4 l i).1 (num 4 l i).2.1 (num 4 l i).2.2 w):=by
 have hb:(num 4 l i).1 < 4294967296:=Nat.lt_of_lt_of_eq (num_lt 4 l i) pow4
 go_enter Try.func34,Try.ntmps34
 go_wp2_with (go_at_call 115; refine (get4_any _ _ _ _ _ _ hn hr).mono ?_; rintro e w' ⟨rfl,hk⟩)
 go_ret3
 exact ⟨rfl,hk⟩

theorem U31_any (A:Option Addr) (n c:Nat) (i:Int) (l:List UInt8) (w:World) (hn:n≤140737488355328) (hr:Rd w A n c l) :
  Calls Try.prog 51 #[.slice A n c,.int .i64 i] w (Num3 .i64 ((num 4 l i).1 % 2147483648:Nat) (num 4 l i).2.1 (num 4 l i).2.2 w):=by
 have hb:(num 4 l i).1 < 4294967296:=Nat.lt_of_lt_of_eq (num_lt 4 l i) pow4
 have HA:=Lib.hid (andNot31 _ hb)
 go_enter Try.func51,Try.ntmps51
 go_wp2_with (go_at_call 115; refine (get4_any _ _ _ _ _ _ hn hr).mono ?_; rintro e w' ⟨rfl,hk⟩)
 go_ret3
 refine Num3.mk ?_ rfl rfl hk
 rw [HA.out]
 unfold wrap64
 omega

/-! ### the program's puts -/
theorem Put32_any (n:Nat) (w:World) (hn:n < 4294967296):Calls Try.prog 36 #[.int .u32 n] w (RdR (bytesOf n 4) w):=by
 go_enter Try.func36,Try.ntmps36
 go_wp2
 go_ret
 refine ⟨_,_,rfl,Rd.block (heap_alloc_new w _) 0 4 4 _ (bytesOf_length _ _) (by omega) ?_,?_,(Kp.refl _ _).alloc _⟩
 ·rw [bytesOf_four]
  simp [u8]
  omega
 ·intro b hb
  simp [ob] at hb
  omega
theorem put2_any (n:Int) (w:World) (hw:-9223372036854775808≤n∧n≤9223372036854775807):Calls Try.prog 119 #[.int .i64 n,.int .i64 2,.int .i64 16] w (RdE (putR n 2 65536).1 (putR n 2 65536).2 w):=by
 by_cases h:n < 0∨65536≤n
 ·rw [putR_no h]
  rcases h with h | h
  ·go_enter Try.func119,Try.ntmps119
   go_wp2_with fail
   go_ret2
   exact ⟨_,_,rfl,Rd.nil _ _ _,by simp [ob],Kp.refl _ _⟩
  ·have h0:¬ n < 0:=by omega
   have h1:(n / 65536 != 0)=true:=by simp; omega
   have h2:¬ n / 65536=0:=by omega
   go_enter Try.func119,Try.ntmps119
   go_wp2_with fail
   go_ret2
   exact ⟨_,_,rfl,Rd.nil _ _ _,by simp [ob],Kp.refl _ _⟩
 ·obtain ⟨m,rfl⟩:=Int.eq_ofNat_of_zero_le (show 0≤n by omega)
  have hm:m < 65536:=by omega
  rw [putR_yes (by omega)]
  have h0:¬ (m:Int) < 0:=by omega
  have h1:((m:Int) / 65536 != 0)=false:=by simp; omega
  have h2:(m:Int) / 65536=0:=by omega
  have H2:=Lib.hid h2
  clear h h2 hw
  go_enter Try.func119,Try.ntmps119
  go_wp2_with fail
  refine (Put32_any m w (by omega)).mono ?_
  rintro e w' ⟨A,n',rfl,hr,hf,hk⟩
  obtain rfl:n'=4:=by rw [← hr.len,bytesOf_length]
  obtain ⟨b,off,rfl,hb,hc⟩:=hr.addr (by omega)
  clear hc
  have HR:=Lib.hid hr
  have HF:=Lib.hid hf
  clear hr hf
  go_wp2
  go_ret2
  have hs:=HR.out.sub (4 - 2) 4 (by omega) (by omega) (A':=some ⟨b,off+(4 - 2),none⟩) (by intro b' off' he _; simp at he; obtain ⟨rfl,rfl⟩:=he; rfl)
  rw [show (bytesOf m 4).drop (4 - 2)=bytesOf m 2 from bytesOf_drop m 2 (4 - 2),List.take_of_length_le (by rw [bytesOf_length]; omega)] at hs
  exact ⟨_,_,rfl,hs,HF.out,hk⟩

theorem Put16_any (n:Int) (w:World) (hw:-9223372036854775808≤n∧n≤9223372036854775807):Calls Try.prog 41 #[.int .i64 n] w (RdE (putR n 2 65536).1 (putR n 2 65536).2 w):=by
 go_enter Try.func41,Try.ntmps41
 go_wp2_with fail
 refine (put2_any n w hw).mono ?_
 rintro e w' ⟨A,n',rfl,hr,hf,hk⟩
 have HR:=Lib.hid hr
 have HF:=Lib.hid hf
 clear hr hf
 go_wp2
 go_ret2
 exact ⟨_,_,rfl,HR.out,HF.out,hk⟩

end Go.Proofs.Ytkmcakneceagpaa

namespace Go.Proofs.Ytkmcakneceagpaa
open Go.RowKit

def headR (l:List UInt8):Nat × Nat × Nat × Nat × Int :=
 if l.length < 9 then (0,0,0,0,3) else ((num 3 l 0).1,(l.getD 3 0).toNat,(l.getD 4 0).toNat,(num 4 l 5).1 % 2147483648,0)
def Num5 (r:Nat × Nat × Nat × Nat × Int) (w:World) (en:Ending) (w':World):Prop :=
 en=.returned (.tuple #[.int .i64 r.1,.int .i64 r.2.1,.int .i64 r.2.2.1,.int .i64 r.2.2.2.1,.int .i64 r.2.2.2.2])∧Kp [] w w'

def knownB (k:Int):Bool:=decide (0≤k) && decide (k≤9)
def BoolR (b:Bool) (w:World) (en:Ending) (w':World):Prop:=en=.returned (.bool b)∧w=w'

theorem Known_any (k:Int) (w:World):Calls Try.prog 57 #[.int .i64 k] w (BoolR (knownB k) w):=by
 by_cases h0:0≤k
 ·by_cases h9:k≤9
  ·have e:knownB k=true:=by simp [knownB,h0,h9]
   rw [e]
   go_enter Try.func57,Try.ntmps57
   go_wp2
   go_ret
   exact ⟨by simp,rfl⟩
  ·have e:knownB k=false:=by simp [knownB,h9]
   rw [e]
   go_enter Try.func57,Try.ntmps57
   go_wp2
   go_ret
   exact ⟨by simp,rfl⟩
 ·have e:knownB k=false:=by simp [knownB,h0]
  rw [e]
  go_enter Try.func57,Try.ntmps57
  go_wp2
  go_ret
  exact ⟨by simp,rfl⟩

end Go.Proofs.Ytkmcakneceagpaa

namespace Go.Proofs.Ytkmcakneceagpaa
open Go.ChangeShapes Go.WideShapes Go.ChangeAt Go.RowKit

section
variable {H:Type} {enc:TypeId × Value→H} {P:Program} {W:World}

def Tr (enc:TypeId × Value→H) (P:Program) (W:World) (t:TypeId) (cs:List Value) (d:DataW H):Prop :=
 (∃ fuel ps,DataW.trod enc P W 0 (fun _=>true) true fuel t cs=some (d,ps))∧∀ n∈d.weights P t,n≤140737488351232

theorem Tr.of {t:TypeId} {v:Value} {d:DataW H} {p:List MemPlace} {ts:List TypeId} {ds:List (DataW H)} (h:DataW.Trod enc P W 0 (fun _=>true) true t v d p) (j:Nat) (ht:ts[j]?=some t) (hd:ds[j]?=some d)
  (hs:(DataW.weightsEach P ts ds).all (·≤reachBytes)=true):Tr enc P W t v.cells.toList d:=by
 obtain ⟨fuel,hf⟩:=h
 refine ⟨⟨fuel,p,hf⟩,fun n hn=>?_⟩
 have:=List.all_eq_true.1 hs n (DataW.weights_mem_each ht hd n hn)
 exact of_decide_eq_true this

theorem Tr.int {t:TypeId} {k:IntKind} {cs:List Value} {d:DataW H} (hu:P.underlying t=some (.int k)) (h:Tr enc P W t cs d):∃ n,cs=[.int k n]∧d=.lit (.int k n)∧(Lit.int k n).wf=true:=by
 obtain ⟨⟨fuel,ps,hf⟩,_⟩:=h
 obtain ⟨n,hc,hx,hw⟩:=DataW.trod_int hu hf
 exact ⟨n,hc,(Prod.mk.inj hx).1,hw⟩
theorem Tr.bool {t:TypeId} {cs:List Value} {d:DataW H} (hu:P.underlying t=some .bool) (h:Tr enc P W t cs d):∃ b,cs=[.bool b]∧d=.lit (.bool b):=by
 obtain ⟨⟨fuel,ps,hf⟩,_⟩:=h
 obtain ⟨b,hc,hx⟩:=DataW.trod_bool hu hf
 exact ⟨b,hc,(Prod.mk.inj hx).1⟩
theorem Tr.string {t:TypeId} {cs:List Value} {d:DataW H} (hu:P.underlying t=some .string) (h:Tr enc P W t cs d):∃ s:ByteArray,cs=[.string s]∧d=.lit (.string s.data.toList)∧s.size≤140737488351232:=by
 obtain ⟨⟨fuel,ps,hf⟩,hw⟩:=h
 obtain ⟨s,hc,hx,_⟩:=DataW.trod_string hu hf
 obtain rfl:=(Prod.mk.inj hx).1
 refine ⟨s,hc,rfl,?_⟩
 have:=hw s.data.toList.length (by simp [DataW.weights])
 rwa [Array.length_toList] at this

theorem weightsEach_get {P:Program} {ts:List TypeId} {ds:List (DataW H)} {j:Nat} {t:TypeId} {d:DataW H} (ht:ts[j]?=some t) (hd:ds[j]?=some d):∀ n∈d.weights P t,n∈DataW.weightsEach P ts ds :=
 DataW.weights_mem_each ht hd
theorem weightsAll_get {P:Program} {e:TypeId}:∀ {ds:List (DataW H)} {j:Nat} {d:DataW H},ds[j]?=some d→∀ n∈d.weights P e,n∈DataW.weightsAll P e ds
 | [],_,_,hd,_,_=>by simp at hd
 | d0 :: ds,0,d,hd,n,hn=>by
  simp at hd
  subst hd
  simp only [DataW.weightsAll,List.mem_append]
  exact .inl hn
 | d0 :: ds,j+1,d,hd,n,hn=>by
  simp only [DataW.weightsAll,List.mem_append]
  exact .inr (weightsAll_get (by simpa using hd) n hn)

theorem Tr.struct {t:TypeId} {fs:Array Field} {cs:List Value} {d:DataW H} (hu:P.underlying t=some (.struct fs)) (h:Tr enc P W t cs d) :
  ∃ ds,d=.agg ds∧ds.length=fs.size∧cs.length=P.cellsOf t∧∀ (i:Nat) (f:Field),fs[i]?=some f→∃ di,ds[i]?=some di∧Tr enc P W f.type ((cs.drop f.offset).take (P.cellsOf f.type)) di:=by
 obtain ⟨⟨fuel,ps,hf⟩,hw⟩:=h
 obtain ⟨xs,n,_,hx,hl,hlen,hfi⟩:=DataW.trod_struct hu hf
 obtain rfl:=(Prod.mk.inj hx).1
 refine ⟨xs.map (·.1),rfl,by simpa using hlen,hl,fun i f hf'=>?_⟩
 have hi:i < xs.length:=by rw [hlen]; exact (Array.getElem?_eq_some_iff.1 hf').1
 have h1:=hfi i f hf'
 rw [List.getElem?_eq_getElem hi] at h1
 refine ⟨xs[i].1,by simp [List.getElem?_eq_getElem hi],⟨n,xs[i].2,h1⟩,fun m hm=>hw m ?_⟩
 simp only [DataW.weights,hu]
 refine weightsEach_get (j:=i) ?_ (by simp [List.getElem?_eq_getElem hi]) m hm
 have hft:fs.toList[i]?=some f:=by rw [Array.getElem?_toList]; exact hf'
 simp [hft]

theorem Tr.slice {t e:TypeId} {cs:List Value} {d:DataW H} (hu:P.underlying t=some (.slice e)) (hpos:0 < P.cellsOf e) (h:Tr enc P W t cs d) :
  ∃ A n c ds sp,cs=[.slice A n c]∧ds.length=n∧n≤c∧c≤maxLen∧n * P.bytesOf e≤140737488351232∧(d=.slice ds sp∨d=.nil∧ds=[]) ∧
   ∀ i,i < n→∃ b off es di,A=some ⟨b,off,none⟩∧b < W.heap.size∧ds[i]?=some di∧Tr enc P W e es di∧es.length=P.cellsOf e∧∀ j u,es[j]?=some u→W.cell? ⟨b,off+i * P.cellsOf e+j,none⟩=some u:=by
 obtain ⟨⟨fuel,ps,hf⟩,hw⟩:=h
 rcases DataW.trod_slice hu hf with ⟨hc,hx⟩ | ⟨a,len,cap,elems,rest,n,_,hc,hx,_,hl,hm,hlen,hel,_,_⟩
 ·obtain rfl:=(Prod.mk.inj hx).1
  exact ⟨none,0,0,[],[],hc,rfl,Nat.le_refl _,Nat.zero_le _,by simp,.inr ⟨rfl,rfl⟩,fun i hi=>absurd hi (by omega)⟩
 ·obtain rfl:=(Prod.mk.inj hx).1
  refine ⟨some a,len,cap,elems.map (·.1),rest.map (·.1),hc,by simpa using hlen,hl,hm,?_,.inl rfl,fun i hi=>?_⟩
  ·have h1:=hw (((elems.map (·.1)).length+(rest.map (·.1)).length) * P.bytesOf e) (by simp [DataW.weights,hu])
   simp only [List.length_map,hlen] at h1
   exact Nat.le_trans (Nat.mul_le_mul_right _ (by omega)) h1
  ·have h1:=hel i hi
   have hil:i < elems.length:=by omega
   rw [List.getElem?_eq_getElem hil] at h1
   obtain ⟨es,hes,htr⟩:=Option.bind_eq_some_iff.1 h1
   obtain ⟨_,hcells⟩:=World.cells?_some hes
   have hlen2:es.length=P.cellsOf e:=hcells.1
   have h0:=hel 0 (by omega)
   rw [List.getElem?_eq_getElem (show 0 < elems.length by omega)] at h0
   obtain ⟨es0,hes0,_⟩:=Option.bind_eq_some_iff.1 h0
   obtain ⟨_,hlen0,hcells0⟩:=World.cells?_some hes0
   have hc0:W.cell? a=some es0[0]:=by
    have:=hcells0 0 (by omega)
    rw [List.getElem?_eq_getElem (by omega)] at this
    simpa [Addr.add] using this
   have hspot:=World.cell?_spot hc0
   obtain ⟨b,off,spot⟩:=a
   have hsp:spot=none:=hspot
   subst hsp
   have hadd:∀ j,((⟨b,off,none⟩:Addr).add (i * P.cellsOf e)).add j=⟨b,off+i * P.cellsOf e+j,none⟩:=by
    intro j
    unfold Addr.add
    split <;> split <;> simp_all <;> omega
   refine ⟨b,off,es,elems[i].1,rfl,?_,by simp [List.getElem?_eq_getElem hil],⟨⟨n,elems[i].2,htr⟩,fun m hm'=>hw m ?_⟩,hlen2,fun j u hu'=>?_⟩
   ·exact World.block_lt_of_cell? W _ hc0
   ·simp only [DataW.weights,hu]
    refine List.mem_cons_of_mem _ (List.mem_append_left _ (weightsAll_get (j:=i) (by simp [List.getElem?_eq_getElem hil]) m hm'))
   ·have hj:j < P.cellsOf e:=by
     have:=(List.getElem?_eq_some_iff.1 hu').1
     omega
    have:=hcells.2 j hj
    rw [hadd,hu'] at this
    exact this

theorem Tr.bytes {t e:TypeId} {cs:List Value} {d:DataW H} (hu:P.underlying t=some (.slice e)) (he:P.underlying e=some (.int .u8)) (hc1:P.cellsOf e=1) (hb1:P.bytesOf e=1) (h:Tr enc P W t cs d) :
  ∃ A n c l,cs=[.slice A n c]∧Rd W A n c l∧n≤140737488351232∧(0 < n→∀ b,b∈ob A→b < W.heap.size)∧(∃ ds sp,ds.length=n∧(d=.slice ds sp∨d=.nil∧n=0)):=by
 obtain ⟨A,n,c,ds,sp,rfl,hlen,hnc,hcm,hby,hd,hel⟩:=h.slice hu (by omega)
 rw [hc1] at hel
 rw [hb1,Nat.mul_one] at hby
 have each:∀ i,i < n→∃ (x:UInt8) (b off:Nat),A=some ⟨b,off,none⟩∧b < W.heap.size∧W.cell? ⟨b,off+i,none⟩=some (u8 x):=by
  intro i hi
  obtain ⟨b,off,es,di,hA,hlt,_,htr,_,hcell⟩:=hel i hi
  obtain ⟨m,rfl,_,hwf⟩:=htr.int he
  have hm:0≤m∧m < 256:=by
   simp [Lit.wf,IntKind.min,IntKind.max,IntKind.signed,IntKind.bits] at hwf
   omega
  refine ⟨UInt8.ofNat m.toNat,b,off,hA,hlt,?_⟩
  have:=hcell 0 _ rfl
  simp only [Nat.mul_one,Nat.add_zero] at this
  rw [this,u8]
  congr 2
  simp
  omega
 refine ⟨A,n,c,(List.range n).map fun i=>if h:i < n then (each i h).choose else 0,rfl,⟨by simp,hnc,fun hp=>?_⟩,hby,fun hn b hb=>?_,ds,sp,hlen,?_⟩
 ·have hn:0 < n:=by simpa using hp
  obtain ⟨_,b,off,rfl,hlt,_⟩:=each 0 hn
  refine ⟨b,off,rfl,fun j u hu'=>?_⟩
  have hj:j < n:=by
   have:=(List.getElem?_eq_some_iff.1 hu').1
   simpa using this
  obtain ⟨b',off',hA',_,hcell'⟩:=(each j hj).choose_spec
  have e1:b'=b∧off'=off:=by
   injection hA' with h1
   injection h1 with h2 h3 _
   exact ⟨h2.symm,h3.symm⟩
  rw [e1.1,e1.2] at hcell'
  rw [hcell',← hu']
  simp [hj]
 ·obtain ⟨_,b',off,rfl,hlt,_⟩:=each 0 hn
  obtain rfl:b=b':=by simpa [ob] using hb
  exact hlt
 ·rcases hd with h1 | ⟨h1,h2⟩
  ·exact .inl h1
  ·subst h2
   exact .inr ⟨h1,hlen.symm⟩

/-! ### the row's end -/
theorem trodAll_below {W':World} (hl:laidOutB P=true) (hb:Below W.heap.size W W'):∀ {ts:List TypeId} {vs:List Value} {ds:List (DataW H)} {ps:List MemPlace},
  ts.all (fun t=>P.readableRec t && decide (t < P.types.size))=true→DataW.TrodAll enc P W 0 (fun _=>true) true ts vs ds ps→DataW.TrodAll enc P W' 0 (fun b=>decide (b < W.heap.size)) true ts vs ds ps
 | [],[],[],_,_,h=>h
 | [],[],_ :: _,_,_,h=>h.elim
 | [],_ :: _,_,_,_,h=>h.elim
 | _ :: _,[],_,_,_,h=>h.elim
 | _ :: _,_ :: _,[],_,_,h=>h.elim
 | t :: ts,v :: vs,d :: ds,ps,hr,h=>by
  simp only [List.all_cons,Bool.and_eq_true,decide_eq_true_eq] at hr
  obtain ⟨p,q,h1,h2,e⟩:=h
  have hlt:∀ x∈p,x.block < W.heap.size:=by obtain ⟨m,hm⟩:=h1; exact DataW.trod_lt m _ _ _ hm
  exact ⟨p,q,Below.trod hl hr.1.1 hr.1.2 h1 hb hlt,trodAll_below hl hb hr.2 h2,e⟩
end
end Go.Proofs.Ytkmcakneceagpaa

namespace Go.Proofs.Ytkmcakneceagpaa
open Go.ChangeShapes Go.WideShapes Go.ChangeAt Go.RowKit

structure Fr where
 ty:Int
 fl:Int
 st:Int
 pA:Option Addr
 pn:Nat
 pc:Nat
 pad:Int
 code:Int
 last:Int
 inc:Int
 dep:Int
 only:Bool
 wt:Int
 sA:Option Addr
 sn:Nat
 sc:Nat
@[reducible] def Fr.cells (f:Fr):List Value:=[.int .i64 f.ty,.int .i64 f.fl,.int .i64 f.st,.slice f.pA f.pn f.pc,.int .i64 f.pad,.int .u32 f.code,.int .i64 f.last,.int .i64 f.inc,.int .i64 f.dep,.bool f.only,.int .i64 f.wt,.slice f.sA f.sn f.sc]
@[reducible] def I64 (x:Int):Prop:=-9223372036854775808≤x∧x≤9223372036854775807
@[reducible] def U32 (x:Int):Prop:=0≤x∧x < 4294967296
theorem I64.of {x:Int} (h:(Lit.int .i64 x).wf=true):I64 x:=by
 simp [Lit.wf,IntKind.min,IntKind.max,IntKind.signed,IntKind.bits] at h
 exact ⟨by omega,by omega⟩
theorem U32.of {x:Int} (h:(Lit.int .u32 x).wf=true):U32 x:=by
 simp [Lit.wf,IntKind.min,IntKind.max,IntKind.signed,IntKind.bits] at h
 exact ⟨by omega,by omega⟩
structure Sd (w:World) (A:Option Addr) (n c:Nat) (ss:List (Int × Int)):Prop where
 len:ss.length=n
 cap:n≤c
 at_:0 < n→∃ b off,A=some ⟨b,off,none⟩∧b < w.heap.size∧∀ i,i < n→w.cell? ⟨b,off+i * 2,none⟩=some (.int .i64 (ss.getD i (0,0)).1)∧w.cell? ⟨b,off+i * 2+1,none⟩=some (.int .u32 (ss.getD i (0,0)).2)
 val:∀ i,U32 (ss.getD i (0,0)).2
structure FrOk (w:World) (f:Fr) (l:List UInt8) (ss:List (Int × Int)):Prop where
 ty:I64 f.ty
 fl:I64 f.fl
 st:I64 f.st
 rd:Rd w f.pA f.pn f.pc l
 pn:f.pn≤140737488351232
 plt:0 < f.pn→∀ b,b∈ob f.pA→b < w.heap.size
 pad:I64 f.pad
 code:U32 f.code
 last:I64 f.last
 inc:I64 f.inc
 dep:I64 f.dep
 wt:I64 f.wt
 sd:Sd w f.sA f.sn f.sc ss
 sn:f.sn * 16≤140737488351232
theorem Sd.below {B:Nat} {w w':World} {A:Option Addr} {n c:Nat} {ss:List (Int × Int)} (h:Sd w A n c ss) (k:Below B w w') (hB:0 < n→∀ b,b∈ob A→b < B):Sd w' A n c ss :=
 ⟨h.len,h.cap,fun hn=>by
  obtain ⟨b,off,rfl,hlt,hc⟩:=h.at_ hn
  have hb:b < B:=hB hn b (by simp [ob])
  have:=k.size
  exact ⟨b,off,rfl,by omega,fun i hi=>⟨(k.cell (p:=⟨b,off+i * 2,none⟩) hb).trans (hc i hi).1,(k.cell (p:=⟨b,off+i * 2+1,none⟩) hb).trans (hc i hi).2⟩⟩,h.val⟩
theorem Sd.keep {T:List Nat} {w w':World} {A:Option Addr} {n c:Nat} {ss:List (Int × Int)} (h:Sd w A n c ss) (k:Kp T w w') (hS:0 < n→∀ b,b∈ob A→b∉T):Sd w' A n c ss :=
 ⟨h.len,h.cap,fun hn=>by
  obtain ⟨b,off,rfl,hlt,hc⟩:=h.at_ hn
  have hb:=hS hn b (by simp [ob])
  have:=k.size
  exact ⟨b,off,rfl,by omega,fun i hi=>⟨k.cell (hc i hi).1 hb,k.cell (hc i hi).2 hb⟩⟩,h.val⟩
section
variable {H:Type} {enc:TypeId × Value→H} {W:World}

theorem len2 {α:Type} {cs:List α} (h:cs.length=2):∃ u v,cs=[u,v]:=by
 rcases cs with _ | ⟨a,_ | ⟨b,_ | ⟨c,t⟩⟩⟩ <;> simp at h ⊢
theorem Tr.sets {cs:List Value} {d:DataW H} (h:Tr enc Try.prog W 47 cs d):∃ A n c ss,cs=[.slice A n c]∧Sd W A n c ss∧n * 16≤140737488351232:=by
 obtain ⟨A,n,c,ds,sp,rfl,hlen,hnc,hcm,hby,hd,hel⟩:=h.slice Try.underlying47 (by rw [show Try.prog.cellsOf 197=2 by kernel_rfl]; omega)
 have hce:Try.prog.cellsOf 197=2:=by kernel_rfl
 have hbe:Try.prog.bytesOf 197=16:=by kernel_rfl
 rw [hce] at hel
 rw [hbe] at hby
 have each:∀ i,i < n→∃ (x y:Int) (b off:Nat),A=some ⟨b,off,none⟩∧b < W.heap.size∧W.cell? ⟨b,off+i * 2,none⟩=some (.int .i64 x)∧W.cell? ⟨b,off+i * 2+1,none⟩=some (.int .u32 y)∧U32 y:=by
  intro i hi
  obtain ⟨b,off,es,di,hA,hlt,_,htr,hl,hcell⟩:=hel i hi
  obtain ⟨dd,_,_,_,parts⟩:=htr.struct Try.underlying197
  obtain ⟨u,v,rfl⟩:∃ u v,es=[u,v]:=by
   exact len2 hl
  obtain ⟨d0,_,t0⟩:=parts 0 _ rfl
  obtain ⟨d1,_,t1⟩:=parts 1 _ rfl
  have hc3:Try.prog.cellsOf 3=1:=by kernel_rfl
  have hc4:Try.prog.cellsOf 23=1:=by kernel_rfl
  change Tr enc Try.prog W 3 (List.take (Try.prog.cellsOf 3) [u,v]) d0 at t0
  change Tr enc Try.prog W 23 (List.take (Try.prog.cellsOf 23) [v]) d1 at t1
  rw [hc3] at t0
  rw [hc4] at t1
  change Tr enc Try.prog W 3 [u] d0 at t0
  change Tr enc Try.prog W 23 [v] d1 at t1
  obtain ⟨x,hx,_,_⟩:=t0.int Try.underlying3
  obtain ⟨y,hy,_,wy⟩:=t1.int Try.underlying23
  simp only [List.cons.injEq,and_true] at hx hy
  subst hx hy
  exact ⟨x,y,b,off,hA,hlt,hcell 0 _ rfl,hcell 1 _ rfl,.of wy⟩
 refine ⟨A,n,c,(List.range n).map fun i=>if h:i < n then ((each i h).choose,(each i h).choose_spec.choose) else (0,0),rfl,⟨by simp,hnc,fun hp=>?_,fun i=>?_⟩,hby⟩
 rotate_left
 ·by_cases hi:i < n
  ·have:=(each i hi).choose_spec.choose_spec.choose_spec.choose_spec.2.2.2.2
   simpa [List.getD,hi] using this
  ·simp [List.getD,hi]
   exact ⟨by omega,by omega⟩
 obtain ⟨_,_,b,off,rfl,hlt,_⟩:=each 0 hp
 refine ⟨b,off,rfl,hlt,fun i hi=>?_⟩
 obtain ⟨b',off',hA',_,h1,h2,_⟩:=(each i hi).choose_spec.choose_spec
 have e1:b'=b∧off'=off:=by
  injection hA' with h1
  injection h1 with h2 h3 _
  exact ⟨h2.symm,h3.symm⟩
 rw [e1.1,e1.2] at h1 h2
 rw [h1,h2]
 simp [List.getD,hi]

theorem len12 {α:Type} {cs:List α} (h:cs.length=12):∃ x0 x1 x2 x3 x4 x5 x6 x7 x8 x9 x10 x11,cs=[x0,x1,x2,x3,x4,x5,x6,x7,x8,x9,x10,x11]:=by
 rcases cs with _ | ⟨y0,_ | ⟨y1,_ | ⟨y2,_ | ⟨y3,_ | ⟨y4,_ | ⟨y5,_ | ⟨y6,_ | ⟨y7,_ | ⟨y8,_ | ⟨y9,_ | ⟨y10,_ | ⟨y11,_ | ⟨y12,t⟩⟩⟩⟩⟩⟩⟩⟩⟩⟩⟩⟩⟩ <;> simp at h ⊢
theorem Tr.frame {cs:List Value} {d:DataW H} (h:Tr enc Try.prog W 49 cs d):∃ f l ss,cs=Fr.cells f∧FrOk W f l ss:=by
 obtain ⟨ds,_,_,hl,parts⟩:=h.struct Try.underlying49
 have hcf:Try.prog.cellsOf 49=12:=by kernel_rfl
 have hc1:Try.prog.cellsOf 3=1:=by kernel_rfl
 have hc2:Try.prog.cellsOf 23=1:=by kernel_rfl
 have hc3:Try.prog.cellsOf 4=1:=by kernel_rfl
 have hc4:Try.prog.cellsOf 22=1:=by kernel_rfl
 have hc5:Try.prog.cellsOf 47=1:=by kernel_rfl
 rw [hcf] at hl
 obtain ⟨x0,x1,x2,x3,x4,x5,x6,x7,x8,x9,x10,x11,rfl⟩:∃ x0 x1 x2 x3 x4 x5 x6 x7 x8 x9 x10 x11,cs=[x0,x1,x2,x3,x4,x5,x6,x7,x8,x9,x10,x11]:=by
  exact len12 hl
 obtain ⟨_,_,t0⟩:=parts 0 _ rfl
 obtain ⟨_,_,t1⟩:=parts 1 _ rfl
 obtain ⟨_,_,t2⟩:=parts 2 _ rfl
 obtain ⟨_,_,t3⟩:=parts 3 _ rfl
 obtain ⟨_,_,t4⟩:=parts 4 _ rfl
 obtain ⟨_,_,t5⟩:=parts 5 _ rfl
 obtain ⟨_,_,t6⟩:=parts 6 _ rfl
 obtain ⟨_,_,t7⟩:=parts 7 _ rfl
 obtain ⟨_,_,t8⟩:=parts 8 _ rfl
 obtain ⟨_,_,t9⟩:=parts 9 _ rfl
 obtain ⟨_,_,t10⟩:=parts 10 _ rfl
 obtain ⟨_,_,t11⟩:=parts 11 _ rfl
 change Tr enc Try.prog W 3 (List.take (Try.prog.cellsOf 3) [x0,x1,x2,x3,x4,x5,x6,x7,x8,x9,x10,x11]) _ at t0
 rw [hc1] at t0
 change Tr enc Try.prog W 3 [x0] _ at t0
 change Tr enc Try.prog W 3 (List.take (Try.prog.cellsOf 3) [x1,x2,x3,x4,x5,x6,x7,x8,x9,x10,x11]) _ at t1
 rw [hc1] at t1
 change Tr enc Try.prog W 3 [x1] _ at t1
 change Tr enc Try.prog W 3 (List.take (Try.prog.cellsOf 3) [x2,x3,x4,x5,x6,x7,x8,x9,x10,x11]) _ at t2
 rw [hc1] at t2
 change Tr enc Try.prog W 3 [x2] _ at t2
 change Tr enc Try.prog W 22 (List.take (Try.prog.cellsOf 22) [x3,x4,x5,x6,x7,x8,x9,x10,x11]) _ at t3
 rw [hc4] at t3
 change Tr enc Try.prog W 22 [x3] _ at t3
 change Tr enc Try.prog W 3 (List.take (Try.prog.cellsOf 3) [x4,x5,x6,x7,x8,x9,x10,x11]) _ at t4
 rw [hc1] at t4
 change Tr enc Try.prog W 3 [x4] _ at t4
 change Tr enc Try.prog W 23 (List.take (Try.prog.cellsOf 23) [x5,x6,x7,x8,x9,x10,x11]) _ at t5
 rw [hc2] at t5
 change Tr enc Try.prog W 23 [x5] _ at t5
 change Tr enc Try.prog W 3 (List.take (Try.prog.cellsOf 3) [x6,x7,x8,x9,x10,x11]) _ at t6
 rw [hc1] at t6
 change Tr enc Try.prog W 3 [x6] _ at t6
 change Tr enc Try.prog W 3 (List.take (Try.prog.cellsOf 3) [x7,x8,x9,x10,x11]) _ at t7
 rw [hc1] at t7
 change Tr enc Try.prog W 3 [x7] _ at t7
 change Tr enc Try.prog W 3 (List.take (Try.prog.cellsOf 3) [x8,x9,x10,x11]) _ at t8
 rw [hc1] at t8
 change Tr enc Try.prog W 3 [x8] _ at t8
 change Tr enc Try.prog W 4 (List.take (Try.prog.cellsOf 4) [x9,x10,x11]) _ at t9
 rw [hc3] at t9
 change Tr enc Try.prog W 4 [x9] _ at t9
 change Tr enc Try.prog W 3 (List.take (Try.prog.cellsOf 3) [x10,x11]) _ at t10
 rw [hc1] at t10
 change Tr enc Try.prog W 3 [x10] _ at t10
 change Tr enc Try.prog W 47 (List.take (Try.prog.cellsOf 47) [x11]) _ at t11
 rw [hc5] at t11
 change Tr enc Try.prog W 47 [x11] _ at t11
 obtain ⟨n0,e0,_,w0⟩:=t0.int Try.underlying3
 obtain ⟨n1,e1,_,w1⟩:=t1.int Try.underlying3
 obtain ⟨n2,e2,_,w2⟩:=t2.int Try.underlying3
 obtain ⟨pA,pn,pc,l,e3,rd,le,plt,_⟩:=t3.bytes Try.underlying22 Try.underlying5 (by kernel_rfl) (by kernel_rfl)
 obtain ⟨n4,e4,_,w4⟩:=t4.int Try.underlying3
 obtain ⟨n5,e5,_,w5⟩:=t5.int Try.underlying23
 obtain ⟨n6,e6,_,w6⟩:=t6.int Try.underlying3
 obtain ⟨n7,e7,_,w7⟩:=t7.int Try.underlying3
 obtain ⟨n8,e8,_,w8⟩:=t8.int Try.underlying3
 obtain ⟨n9,e9,_⟩:=t9.bool Try.underlying4
 obtain ⟨n10,e10,_,w10⟩:=t10.int Try.underlying3
 obtain ⟨sA,sn,sc,ss,e11,sd,hs⟩:=t11.sets
 simp only [List.cons.injEq,and_true] at e0 e1 e2 e3 e4 e5 e6 e7 e8 e9 e10 e11
 subst e0 e1 e2 e3 e4 e5 e6 e7 e8 e9 e10 e11
 exact ⟨⟨n0,n1,n2,pA,pn,pc,n4,n5,n6,n7,n8,n9,n10,sA,sn,sc⟩,l,ss,rfl,⟨.of w0,.of w1,.of w2,rd,le,plt,.of w4,.of w5,.of w6,.of w7,.of w8,.of w10,sd,hs⟩⟩
end
end Go.Proofs.Ytkmcakneceagpaa

namespace Go.Proofs.Ytkmcakneceagpaa
open Go.RowKit

structure Fp where
 ty:Int
 fl:Int
 st:Int
 pl:List UInt8
 pad:Int
 code:Int
 last:Int
 inc:Int
 dep:Int
 only:Bool
 wt:Int
 ss:List (Int × Int)
def Fp.zero:Fp:=⟨0,0,0,[],0,0,0,0,0,false,0,[]⟩

def idB (n:Int):Bool:=decide (0≤n) && decide (n≤2147483647)
def hasB (fl k:Int):Bool:=decide (fl / k % 2=1)
def paddedB (ty:Int):Bool:=decide (ty=0) || decide (ty=1) || decide (ty=5)
def zeroB (ty:Int):Bool:=decide (ty=4) || decide (ty=6) || decide (ty=7)
def rightB (ty st:Int):Bool:=decide (ty=8) || (zeroB ty == decide (st=0))
def prioB (ty fl:Int):Bool:=decide (ty=2) || (decide (ty=1) && hasB fl 32)
def padF (ty fl:Int):Bool:=paddedB ty && hasB fl 8
def setsB (fl:Int) (ss:List (Int × Int)):Bool:=ss.all (fun s=>decide (0≤s.1) && decide (s.1 < 65536)) && (ss.isEmpty || !hasB fl 1)
def mayK (p:Fp):Bool :=
 if p.ty=6 then decide (p.pl.length=8) else if p.ty=8 then decide (1≤p.inc) && decide (p.inc≤2147483647) else if p.ty=5∨p.ty=7 then idB p.last else if p.ty=4 then setsB p.fl p.ss else true
def padOk (p:Fp):Bool:=!paddedB p.ty || (decide (0≤p.pad) && decide (p.pad≤255) && (decide (p.pad≤0) || hasB p.fl 8))
def prioOk (p:Fp):Bool:=!prioB p.ty p.fl || (idB p.dep && decide (1≤p.wt) && decide (p.wt≤256))
def known (ty:Int):Bool:=decide (0≤ty) && decide (ty≤9)
def goodW (p:Fp):Bool:=known p.ty && (decide (0≤p.fl) && decide (p.fl≤255)) && idB p.st && rightB p.ty p.st && mayK p && padOk p && prioOk p
def setW (s:Int × Int):List UInt8:=bytesOf s.1.toNat 2++bytesOf s.2.toNat 4
def putW (p:Fp):List UInt8 :=
 if p.ty=2 then [] else if p.ty=3 then bytesOf p.code.toNat 4 else if p.ty=4 then p.ss.flatMap setW else if p.ty=5 then bytesOf p.last.toNat 4++p.pl
 else if p.ty=7 then bytesOf p.last.toNat 4++bytesOf p.code.toNat 4++p.pl else if p.ty=8 then bytesOf p.inc.toNat 4 else p.pl
def byteOf (n:Int):UInt8:=UInt8.ofNat (n % 256).toNat
def prioW (p:Fp):List UInt8:=bytesOf (p.dep.toNat+if p.only then 2147483648 else 0) 4++[byteOf (p.wt - 1)]
def bodyW (p:Fp):List UInt8 :=
 (if padF p.ty p.fl then [byteOf p.pad] else [])++(if prioB p.ty p.fl then prioW p else [])++putW p++(if padF p.ty p.fl then List.replicate p.pad.toNat 0 else [])
def wr (p:Fp):List UInt8 × Int :=
 if goodW p then (if (bodyW p).length < 16777216 then (bytesOf (bodyW p).length 3++[byteOf p.ty,byteOf p.fl]++bytesOf p.st.toNat 4++bodyW p,0) else ([],2)) else ([],1)
theorem wr_bad {p:Fp} (h:goodW p=false):wr p=([],1):=by simp [wr,h]
theorem u8_byteOf {n:Int} (h0:0≤n) (h1:n≤255):(byteOf n).toNat=n.toNat∧((byteOf n).toNat:Int)=n:=by
 have h:(byteOf n).toNat=n.toNat:=by
  unfold byteOf
  rw [UInt8.toNat_ofNat']
  omega
 exact ⟨h,by rw [h]; omega⟩
theorem flat_len (ss:List (Int × Int)):(ss.flatMap setW).length=6 * ss.length:=by
 induction ss with
 | nil=>rfl
 | cons s r ih=>simp only [List.flatMap_cons,List.length_append,ih,List.length_cons,setW,bytesOf_length]; omega
theorem wr_ok {p:Fp} {B:List UInt8} (h:goodW p=true) (hB:bodyW p=B) (hl:B.length < 16777216):wr p=(bytesOf B.length 3++[byteOf p.ty,byteOf p.fl]++bytesOf p.st.toNat 4++B,0):=by simp [wr,h,hB,hl]
theorem wr_long {p:Fp} {B:List UInt8} (h:goodW p=true) (hB:bodyW p=B) (hl:¬ B.length < 16777216):wr p=([],2):=by simp [wr,h,hB,hl]
theorem bits_has (fl:Int) (h0:0≤fl) (h1:fl≤255):(bits .and .i64 fl 1 != 0)=hasB fl 1∧(bits .and .i64 fl 8 != 0)=hasB fl 8∧(bits .and .i64 fl 32 != 0)=hasB fl 32∧(bits .and .i64 fl 4 != 0)=hasB fl 4:=by
 obtain ⟨n,rfl⟩:=Int.eq_ofNat_of_zero_le h0
 have hn:n < 256:=by omega
 have:∀ n:Fin 256,(bits .and .i64 (n.val:Int) 1 != 0)=hasB n.val 1∧(bits .and .i64 (n.val:Int) 8 != 0)=hasB n.val 8∧(bits .and .i64 (n.val:Int) 32 != 0)=hasB n.val 32∧(bits .and .i64 (n.val:Int) 4 != 0)=hasB n.val 4:=by decide
 exact this ⟨n,hn⟩
end Go.Proofs.Ytkmcakneceagpaa

namespace Go.Proofs.Ytkmcakneceagpaa
open Go.RowKit

theorem zeroCells_u8 (k:Nat):Builtin.zeroCells (Value.cells (.int .u8 0)) k=((List.replicate k (0:UInt8)).map u8).toArray:=by
 apply Array.ext
 ·simp [Builtin.zeroCells,Value.cells]
 ·intro i h1 h2
  simp [Builtin.zeroCells,Value.cells,u8,Nat.mod_one]

theorem run_appZ {P:Program} (w:World) (t ti ty e:TypeId) (ht:P.underlying t=some (.slice e)) (hti:P.underlying ti=some (.int .i64)) (hi:(P.info? e).map (fun i=>(i.zero,i.size,i.bytes))=some (some (.int .u8 0),1,1))
  (base:Nat) (A:Option Addr) (n c:Nat) (l:List UInt8) (HO:Ow w base e 1 A n c (l.map u8)) (k:Nat) (hlen:n+k≤211106232532992) (hbase:base≤w.heap.size) :
  ∃ A' c' w',(Builtin.append_ #[t,ti] ty #[.slice A n c,.int .i64 k]).run P w=.ok (.slice A' (n+k) c') w'∧Ow w' base e 1 A' (n+k) c' ((l++List.replicate k 0).map u8)∧Kp (ob A) w w':=by
 obtain ⟨i,hi,hz,hsize,hby⟩:=info_parts hi
 have hl:l.length=n:=by have:=HO.len; simpa using this
 have hw:IntKind.i64.wrap (k:Int)=(k:Int):=by apply IntWalk.i64_in <;> omega
 have hk0:¬ ((k:Int) < 0):=by omega
 have hw0:IntKind.i64.wrap 0=0:=by decide
 have hk48:¬ (281474976710656 < (k:Int)):=by omega
 have hmap:(l++List.replicate k 0).map u8=l.map u8++(List.replicate k (0:UInt8)).map u8:=by rw [List.map_append]
 have hzl:((List.replicate k (0:UInt8)).map u8).length=k:=by simp
 have hlen2:(l.map u8++(List.replicate k (0:UInt8)).map u8).length=(n+k) * 1:=by simp [hl]
 rw [hmap]
 have hmx:n+k≤maxLen:=by simp only [maxLen]; omega
 have hnx:∀ old,old < n+k→¬ (281474976710656 < Builtin.nextslicecap (n+k) old):=fun old ho=>by
  have:=growslice_fits_wide (bytes:=1) ho (by omega)
  omega
 have h63:¬ (9223372036854775807 < (n:Int)+(k:Int)):=by omega
 rcases HO.2 with ⟨he,h0⟩ | ⟨g,cap,cur,he,hbg,hg,hnc,hcm,hcs,htake⟩
 ·injection he with h1' _ h3'
  subst h1' h3' h0
  by_cases hk:k=0
  ·subst hk
   refine ⟨none,0,w,?_,by simpa using HO,Kp.refl _ _⟩
   simp [Builtin.append_,asInt,asIntOf,hw0,run_underlying ht,run_underlying hti,sizeOf,typeInfo,hi,hsize,hw,hby]
  ·simp only [Nat.zero_add] at hlen hlen2 hmx hnx ⊢
   have hz0:¬ (k≤0):=by omega
   refine ⟨some ⟨w.heap.size,0,none⟩,grownCap w k 0 e,w.drew.alloc (.cells (#[]++((List.replicate k (0:UInt8)).map u8).toArray++Builtin.zeroCells (Value.cells (.int .u8 0)) (grownCap w k 0 e - k)) e),?_,?_,(Kp.refl _ _).drew.alloc _⟩
   ·have hn1:=hnx 0 (by omega)
    have hf:=run_firstCells_none (P:=P) w.drew 1 0 0 0
    simp [Builtin.append_,asInt,asIntOf,hw0,run_underlying ht,run_underlying hti,sizeOf,typeInfo,zeroValue,hi,hz,hsize,hby,hw,hk0,hk48,hk,hz0,hn1,Question.forced,hf,newRow,grownCap,zeroCells_u8]
    omega
   ·have hge:=grownCap_ge w k 0 e
    refine ⟨by simpa using hlen2,.inr ⟨w.heap.size,_,_,rfl,hbase,heap_alloc_new w.drew _,hge,grownCap_le_maxLen w k 0 e hmx,?_,?_⟩⟩
    ·simp only [Array.size_append,List.size_toArray,size_zeroCells,hzl]
     simp [Value.cells]
     omega
    ·obtain rfl:l=[]:=List.eq_nil_of_length_eq_zero hl
     simp only [Array.toList_append]
     simp
 ·injection he with h1' _ h3'
  subst h1' h3'
  by_cases hroom:n+k≤c
  ·refine ⟨some ⟨g,0,none⟩,c,w.setRow g (cur.toList.take n++(List.replicate k (0:UInt8)).map u8++cur.toList.drop (n+k)).toArray,?_,?_,(Kp.refl _ _).setRow (.inl (by simp [ob])) _⟩
   ·by_cases hk:k=0
    ·subst hk
     have hset:w.setRow g (cur.toList.take n++(List.replicate 0 (0:UInt8)).map u8++cur.toList.drop (n+0)).toArray=w:=by
      have:(cur.toList.take n++(List.replicate 0 (0:UInt8)).map u8++cur.toList.drop (n+0)).toArray=cur:=by simp
      rw [this]
      exact setRow_self w g cur e (0,0) hg
     rw [hset]
     simp [Builtin.append_,asInt,asIntOf,hw0,run_underlying ht,run_underlying hti,sizeOf,typeInfo,hi,hsize,hw,hby,hnc,storeCells]
    ·have hst:=run_storeCells_at P g n e ((List.replicate k (0:UInt8)).map u8) 0 cur w hg (by simp; omega) (u8_one _)
     simp only [Nat.add_zero,hzl] at hst
     have hzz:=zeroCells_u8 k
     simp only [Value.cells] at hzz
     simp [Builtin.append_,asInt,asIntOf,hw0,run_underlying ht,run_underlying hti,sizeOf,typeInfo,zeroValue,hi,hz,hsize,hby,hw,hk0,hk48,hk,hroom,Addr.add_lit,Value.cells,hzz] at hst ⊢
     rw [hst]
     rfl
   ·refine ⟨hlen2,.inr ⟨g,c,_,rfl,hbg,setRow_heap w g cur _ e _ hg,hroom,hcm,?_,?_⟩⟩
    ·simp
     omega
    ·rw [show cur.toList.take n=l.map u8 by simpa using htake,← hlen2]
     exact List.take_left
  ·have hkp:k≠0:=by omega
   have holds:∀ j u,(l.map u8)[j]?=some u→w.drew.cell? ((⟨g,0,none⟩:Addr).add j)=some u:=fun j u h=>by rw [World.cell?_drew]; exact World.ownsRow.cells HO (g:=g) rfl j u h
   have hfo:=run_firstCells_some (P:=P) w.drew 1 n ⟨g,0,none⟩ n c (l.map u8) (by simp [hl]) holds
   have hn1:=hnx c (by omega)
   refine ⟨some ⟨w.heap.size,0,none⟩,grownCap w (n+k) c e,w.drew.alloc (.cells ((l.map u8).toArray++((List.replicate k (0:UInt8)).map u8).toArray++Builtin.zeroCells (Value.cells (.int .u8 0)) (grownCap w (n+k) c e - (n+k))) e),?_,?_,(Kp.refl _ _).drew.alloc _⟩
   ·have hzz:=zeroCells_u8 k
    simp only [Value.cells] at hzz
    simp [Builtin.append_,asInt,asIntOf,hw0,run_underlying ht,run_underlying hti,sizeOf,typeInfo,zeroValue,hi,hz,hsize,hby,hw,hk0,hk48,hkp,hroom,h63,hn1,Question.forced,hfo,newRow,grownCap,Value.cells,hzz]
   ·have hge:=grownCap_ge w (n+k) c e
    refine ⟨hlen2,.inr ⟨w.heap.size,_,_,rfl,hbase,heap_alloc_new w.drew _,hge,grownCap_le_maxLen w (n+k) c e hmx,?_,?_⟩⟩
    ·simp only [Array.size_append,List.size_toArray,size_zeroCells,hzl]
     simp [Value.cells,hl]
     omega
    ·simp only [Array.toList_append]
     rw [← hlen2]
     exact List.take_left

section
variable {P:Program} {ops:Array Oper} {rest:List Oper} {o:Oper} {a:Act} {Q:Exit→Act→World→Prop}
theorem wp_appZ {w:World} (hgd:o.guard=none) (s x:Operand) (t ti e:TypeId) (ho:o.op=.call { callee:=.builtin .append,args:=#[s,x],argTypes:=#[t,ti] })
  (ht:P.underlying t=some (.slice e)) (hti:P.underlying ti=some (.int .i64)) (hi:(P.info? e).map (fun i=>(i.zero,i.size,i.bytes))=some (some (.int .u8 0),1,1))
  (base:Nat) (A:Option Addr) (n c:Nat) (l:List UInt8) (hs:a.eval s=.slice A n c) (HO:Ow w base e 1 A n c (l.map u8))
  (k:Nat) (hx:a.eval x=.int .i64 k) (hlen:n+k≤211106232532992) (hbase:base≤w.heap.size)
  (h:∀ A' k' c' l' w',Hid (k'=n+k)→Hid (l'=l++List.replicate k 0)→Ow w' base e 1 A' k' c' (l'.map u8)→Kp (ob A) w w'→wpList P ops Q rest (a.put o.dst (.slice A' k' c')) w'):wpList P ops Q (o :: rest) a w:=by
 refine wpList_plain hgd fun K hK=>?_
 obtain ⟨A',c',w',hr,h2,h3⟩:=run_appZ (P:=P) w t ti o.type e ht hti hi base A n c l HO k hlen hbase
 unfold Oper.wp execOp
 simp only [ho,resolve,invoke,builtin,Sem.run_bind,Sem.run_pure,Result.andThen_ok,List.map_toArray,List.map_cons,List.map_nil,hs,hx,hr]
 exact hK _ _ (h A' (n+k) c' _ w' rfl rfl h2 h3)
end
section
variable {P:Program} {o:Oper} {a:Act} {w:World} {K:Act→World→Prop} {Q:Exit→Act→World→Prop}
theorem op_appO (s x:Operand) (t e:TypeId) (ho:o.op=.call { callee:=.builtin .append,args:=#[s,x],argTypes:=#[t,t] })
  (ht:P.underlying t=some (.slice e)) (hi:(P.info? e).map (fun i=>(i.zero,i.size,i.bytes))=some (some (.int .u8 0),1,1))
  (base:Nat) (A:Option Addr) (n c:Nat) (l:List UInt8) (hs:a.eval s=.slice A n c) (HO:Ow w base e 1 A n c (l.map u8))
  (A2:Option Addr) (m c2:Nat) (l2:List UInt8) (hx:a.eval x=.slice A2 m c2) (HR:Rd w A2 m c2 l2) (hlen:n+m≤211106232532992) (hbase:base≤w.heap.size)
  (h:∀ A' c' w',Ow w' base e 1 A' (n+m) c' ((l++l2).map u8)→Kp (ob A) w w'→(A'=A∨A'=some ⟨w.heap.size,0,none⟩)→K (a.put o.dst (.slice A' (n+m) c')) w'):o.wp P a w K Q:=by
 obtain ⟨A',c',w',hr,h2,h3,h4,_⟩:=run_app (P:=P) w t o.type e (.int .u8 0) 1 1 ht hi rfl (by omega) base A n c (l.map u8) HO A2 m c2 (l2.map u8) (by simp [HR.len]) HR.at_ (u8_one l2) (by simp only [maxLen]; omega) (by omega) hbase
 unfold Oper.wp execOp
 simp only [ho,resolve,invoke,builtin,Sem.run_bind,Sem.run_pure,Result.andThen_ok,List.map_toArray,List.map_cons,List.map_nil,hs,hx,hr]
 exact h A' c' w' (by rw [List.map_append]; exact h2) h3 h4
end
end Go.Proofs.Ytkmcakneceagpaa

namespace Go.Proofs.Ytkmcakneceagpaa
open Go.RowKit

def BoolK (b:Bool) (w:World) (en:Ending) (w':World):Prop:=en=.returned (.bool b)∧Kp [] w w'
def Fr.p (f:Fr) (l:List UInt8) (ss:List (Int × Int)):Fp:=⟨f.ty,f.fl,f.st,l,f.pad,f.code,f.last,f.inc,f.dep,f.only,f.wt,ss⟩
def RdP (l:List UInt8) (w:World) (en:Ending) (w':World):Prop:=∃ A n c,en=.returned (.slice A n c)∧Rd w' A n c l∧Kp [] w w'

theorem rightF (z any pd:Bool) (f1 f2 f3 f4:Value) (st:Int) (w:World) (h1:f1.cells=#[f1]) (h2:f2.cells=#[f2]) (h3:f3.cells=#[f3]) (h4:f4.cells=#[f4]) :
  Calls Try.prog 145 #[.agg #[.bool z,.bool any,.bool pd,f1,f2,f3,f4],.int .i64 st] w (BoolK (any || (z == decide (st=0))) w):=by
 by_cases hs:st=0
 ·subst hs
  cases any <;> cases z <;>
  ·go_enter Try.func145,Try.ntmps145
   go_wp2
   go_ret
   exact ⟨by simp,by with_reducible (repeat (first|exact Kp.refl _ _|assumption|refine Kp.alloc ?_ _|refine Kp.drew ?_|refine Kp.drewN ?_ _|(refine Kp.setL ?_ ?_ _;focus (simp;done))|(refine Kp.setR ?_ ?_ _;focus (first|(simp;done)|(simp;omega)))))⟩
 ·have e:decide (st=0)=false:=by simp [hs]
  rw [e]
  have hs':(st == 0)=false:=by simp [hs]
  clear e hs
  cases any <;> cases z <;>
  ·go_enter Try.func145,Try.ntmps145
   go_wp2
   go_ret
   exact ⟨by simp,by with_reducible (repeat (first|exact Kp.refl _ _|assumption|refine Kp.alloc ?_ _|refine Kp.drew ?_|refine Kp.drewN ?_ _|(refine Kp.setL ?_ ?_ _;focus (simp;done))|(refine Kp.setR ?_ ?_ _;focus (first|(simp;done)|(simp;omega)))))⟩

theorem weightedF (f:Fr) (w:World) (h0:0≤f.fl) (h1:f.fl≤255):Calls Try.prog 146 #[.agg #[.int .i64 f.ty,.int .i64 f.fl,.int .i64 f.st,.slice f.pA f.pn f.pc,.int .i64 f.pad,.int .u32 f.code,.int .i64 f.last,.int .i64 f.inc,.int .i64 f.dep,.bool f.only,.int .i64 f.wt,.slice f.sA f.sn f.sc]] w (BoolK (prioB f.ty f.fl) w):=by
 have hb:=(bits_has f.fl h0 h1).2.2.1
 by_cases h2:f.ty=2
 ·have e:prioB f.ty f.fl=true:=by simp [prioB,h2]
  rw [e]
  have h2':(f.ty == 2)=true:=by simp [h2]
  clear h2 hb
  go_enter Try.func146,Try.ntmps146
  go_wp2
  go_ret
  exact ⟨by simp,by with_reducible (repeat (first|exact Kp.refl _ _|assumption|refine Kp.alloc ?_ _|refine Kp.drew ?_|refine Kp.drewN ?_ _|(refine Kp.setL ?_ ?_ _;focus (simp;done))|(refine Kp.setR ?_ ?_ _;focus (first|(simp;done)|(simp;omega)))))⟩
 ·have h2':(f.ty == 2)=false:=by simp [h2]
  by_cases h3:f.ty=1
  ·have e:prioB f.ty f.fl=hasB f.fl 32:=by simp [prioB,h3]
   rw [e,← hb]
   have h3':(f.ty == 1)=true:=by simp [h3]
   clear h2 h3 hb e
   go_enter Try.func146,Try.ntmps146
   go_wp2
   go_ret
   exact ⟨by simp,by with_reducible (repeat (first|exact Kp.refl _ _|assumption|refine Kp.alloc ?_ _|refine Kp.drew ?_|refine Kp.drewN ?_ _|(refine Kp.setL ?_ ?_ _;focus (simp;done))|(refine Kp.setR ?_ ?_ _;focus (first|(simp;done)|(simp;omega)))))⟩
  ·have e:prioB f.ty f.fl=false:=by simp [prioB,h2,h3]
   rw [e]
   have h3':(f.ty == 1)=false:=by simp [h3]
   clear h2 h3 hb e
   go_enter Try.func146,Try.ntmps146
   go_wp2
   go_ret
   exact ⟨by simp,by with_reducible (repeat (first|exact Kp.refl _ _|assumption|refine Kp.alloc ?_ _|refine Kp.drew ?_|refine Kp.drewN ?_ _|(refine Kp.setL ?_ ?_ _;focus (simp;done))|(refine Kp.setR ?_ ?_ _;focus (first|(simp;done)|(simp;omega)))))⟩

/-! ### may -/
/-! ### put -/
end Go.Proofs.Ytkmcakneceagpaa

namespace Go.Proofs.Ytkmcakneceagpaa

section
variable {P:Program} {ops:Array Oper} {Q:Exit→Act→World→Prop}

def waits (o:Oper) (i:Nat):Bool:=o.after.any fun e=>Region.binds .any e && e.on == i
def waitsAll (ops:Array Oper) (i:Nat):Nat→Nat→Bool
 | 0,_=>false
 | n+1,j=>match ops[j]? with
  | some o=>o.after.any fun e=>Region.binds .any e && (e.on == i || waitsAll ops i n e.on)
  | none=>false
def chained (ops:Array Oper):List Nat→Bool
 | i :: j :: r=>waitsAll ops i 40 j && chained ops (j :: r)
 | _=>true
def apartDst:List Oper→Bool
 | []=>true
 | o :: r=>(match o.dst with | some d=>r.all fun p=>p.dst != some d | none=>true) && apartDst r
def dstsBelow (n:Nat) (l:List Oper):Bool:=l.all fun o=>match o.dst with | some d=>decide (d < n) | none=>true

def OblAll (f:Nat→Oper→Prop):Nat→List Oper→Prop
 | _,[]=>True
 | j,o :: r=>f j o∧OblAll f (j+1) r

theorem OblAll.get {f:Nat→Oper→Prop}:∀ (l:List Oper) (n:Nat),OblAll f n l→∀ (j:Nat) (o:Oper),l[j]?=some o→f (n+j) o
 | [],_,_,j,o,ho=>by simp at ho
 | x :: r,n,h,0,o,ho=>by
  simp at ho
  subst ho
  exact h.1
 | x :: r,n,h,j+1,o,ho=>by
  have:=OblAll.get r (n+1) h.2 j o (by simpa using ho)
  rwa [show n+(j+1)=n+1+j by omega]

def putAll (vs:Nat→Value):Nat→List Oper→Act→Act
 | _,[],a=>a
 | j,o :: r,a=>putAll vs (j+1) r (a.put o.dst (vs j))

theorem apartDst_spec:∀ (l:List Oper),apartDst l=true→∀ (i j:Nat) (oi oj:Oper) (d:Tmp),l[i]?=some oi→l[j]?=some oj→oi.dst=some d→oj.dst=some d→i=j
 | [],_,i,j,oi,oj,d,hi,hj,_,_=>by simp at hi
 | x :: r,h,i,j,oi,oj,d,hi,hj,di,dj=>by
  simp only [apartDst,Bool.and_eq_true] at h
  cases i with
  | zero =>
   cases j with
   | zero=>rfl
   | succ j =>
    simp at hi hj
    subst hi
    have h1:=h.1
    rw [di] at h1
    simp only [List.all_eq_true] at h1
    have:=h1 oj (List.mem_of_getElem? hj)
    simp [dj] at this
  | succ i =>
   cases j with
   | zero =>
    simp at hi hj
    subst hj
    have h1:=h.1
    rw [dj] at h1
    simp only [List.all_eq_true] at h1
    have:=h1 oi (List.mem_of_getElem? hi)
    simp [di] at this
   | succ j=>rw [apartDst_spec r h.2 i j oi oj d (by simpa using hi) (by simpa using hj) di dj]

theorem putAll_defers (vs:Nat→Value):∀ (l:List Oper) (n:Nat) (a:Act),(putAll vs n l a).defers=a.defers
 | [],_,_=>rfl
 | o :: r,n,a=>by
  rw [putAll,putAll_defers vs r (n+1)]
  cases o.dst <;> rfl
theorem put_size (a:Act) (d:Option Tmp) (v:Value):(a.put d v).tmps.size=a.tmps.size:=by cases d <;> simp [Act.put]
theorem put_get_same (a:Act) (d:Nat) (v:Value) (h:d < a.tmps.size):(a.put (some d) v).tmps[d]?=some v:=by simp [Act.put,h]
theorem put_get_other (a:Act) (d:Option Tmp) (v:Value) (t:Nat) (h:d≠some t):(a.put d v).tmps[t]?=a.tmps[t]?:=by
 cases d with
 | none=>rfl
 | some d =>
  have:d≠t:=fun e=>h (by rw [e])
  simp [Act.put,Array.getElem?_setIfInBounds_ne this]
theorem putAll_out (vs:Nat→Value) (t:Nat):∀ (l:List Oper) (n:Nat) (a:Act),(∀ o∈l,o.dst≠some t)→(putAll vs n l a).tmps[t]?=a.tmps[t]?
 | [],_,_,_=>rfl
 | o :: r,n,a,h=>by
  rw [putAll,putAll_out vs t r (n+1) _ (fun p hp=>h p (List.mem_cons_of_mem _ hp)),put_get_other _ _ _ _ (h o (List.mem_cons_self ..))]
theorem putAll_at (vs:Nat→Value) (t:Nat):∀ (l:List Oper) (n:Nat) (a:Act),apartDst l=true→t < a.tmps.size→∀ (j:Nat) (o:Oper),l[j]?=some o→o.dst=some t→(putAll vs n l a).tmps[t]?=some (vs (n+j))
 | [],_,_,_,_,j,o,ho,_=>by simp at ho
 | x :: r,n,a,hd,hs,0,o,ho,hdst=>by
  simp at ho
  subst ho
  simp only [apartDst,hdst,Bool.and_eq_true,List.all_eq_true] at hd
  rw [putAll,putAll_out vs t r (n+1) _ (fun p hp=>by simpa using hd.1 p hp),hdst,put_get_same _ _ _ hs]
  rfl
 | x :: r,n,a,hd,hs,j+1,o,ho,hdst=>by
  simp only [apartDst,Bool.and_eq_true] at hd
  rw [putAll,putAll_at vs t r (n+1) _ hd.2 (by rw [put_size]; exact hs) j o (by simpa using ho) hdst,show n+1+j=n+(j+1) by omega]

theorem waitsAll_listed {listed:Array Bool} (shut:∀ (j:Nat) (o:Oper),listed[j]?=some true→ops[j]?=some o→∀ e∈o.after,Region.binds .any e=true→listed[e.on]?=some true) (i:Nat) :
  ∀ (n j:Nat),(∀ o:Oper,ops[j]?=some o→∀ e∈o.after,Region.binds .any e=true→listed[e.on]?=some true)→waitsAll ops i n j=true→listed[i]?=some true
 | 0,j,_,h=>by simp [waitsAll] at h
 | n+1,j,hj,h=>by
  simp only [waitsAll] at h
  split at h
  ·rename_i o ho
   rw [← Array.any_toList,List.any_eq_true] at h
   obtain ⟨e,he,hb⟩:=h
   rw [Array.mem_toList_iff] at he
   simp only [Bool.and_eq_true,Bool.or_eq_true,beq_iff_eq] at hb
   have hl:=hj o ho e he hb.1
   rcases hb.2 with rfl | hw
   ·exact hl
   ·exact waitsAll_listed shut i n e.on (fun o' ho' e' he' hb'=>shut e.on o' hl ho' e' he' hb') hw
  ·simp at h

theorem chained_get:∀ (cs:List Nat),chained ops cs=true→∀ p i j,cs[p]?=some i→cs[p+1]?=some j→waitsAll ops i 40 j=true
 | [],_,p,i,j,hi,_=>by simp at hi
 | [x],_,p,i,j,_,hj=>by simp at hj
 | x :: y :: r,h,0,i,j,hi,hj=>by
  simp at hi hj
  subst hi hj
  simp only [chained,Bool.and_eq_true] at h
  exact h.1
 | x :: y :: r,h,p+1,i,j,hi,hj=>by
  simp only [chained,Bool.and_eq_true] at h
  exact chained_get (y :: r) h.2 p i j (by simpa using hi) (by simpa using hj)

theorem ready_spec {md:Region.Mode} {listed:Array Bool} {i:Nat} (h:i∈Region.ready md ops listed):i < ops.size∧listed.getD i true=false∧∃ o,ops[i]?=some o∧∀ e∈o.after,Region.binds md e=true→listed.getD e.on false=true:=by
 unfold Region.ready at h
 rw [List.mem_filter] at h
 obtain ⟨h1,h2⟩:=h
 have hlt:i < ops.size:=List.mem_range.1 h1
 simp only [Bool.and_eq_true,Bool.not_eq_true'] at h2
 refine ⟨hlt,h2.1,ops[i],Array.getElem?_eq_getElem hlt,?_⟩
 have h3:=h2.2
 rw [Array.getElem?_eq_getElem hlt] at h3
 simp only [Option.map_some,Option.getD_some] at h3
 rw [Array.all_eq_true_iff_forall_mem] at h3
 intro e he hb
 have:=h3 e he
 rw [hb] at this
 simpa using this

theorem getD_true {listed:Array Bool} {i:Nat} (h:listed.getD i false=true):listed[i]?=some true:=by
 rw [Array.getD_eq_getD_getElem?] at h
 cases hl:listed[i]? with
 | none=>simp [hl] at h
 | some b=>simp [hl] at h; rw [h]

/-! ### is an operation carried out? -/
theorem want_none {o:Oper} {f:Nat→Option Bool} {A B:Prop} (hg:o.guard=none) (h:A):if Region.wanted o f=true then A else B:=by
 rw [if_pos (by simp [Region.wanted,hg])]
 exact h
theorem want_yes {o og:Oper} {g d:Nat} {b:Bool} {tm:Array Value} {A B:Prop} (hg:o.guard=some (g,b)) (ho:ops[g]?=some og) (hd:og.dst=some d) (ht:tm[d]?=some (.bool b)) (h:A) :
  if Region.wanted o (yielded ops tm)=true then A else B:=by
 rw [if_pos (by simp [Region.wanted,hg,yielded,ho,hd,ht])]
 exact h
def orderly (ops:List Oper):Bool:=(ops.zipIdx).all fun (o,i)=>o.after.all fun e=>!Region.binds .any e || decide (e.on < i)
theorem all_listed (hord:orderly ops.toList=true) {listed:Array Bool} (hs:listed.size=ops.size) (h:Region.ready .any ops listed=[]):∀ j,j < ops.size→listed[j]?=some true:=by
 intro j
 induction j using Nat.strongRecOn with
 | _ j ih =>
  intro hj
  have hj':j < listed.size:=by omega
  rw [Array.getElem?_eq_getElem hj']
  cases hl:listed[j] with
  | true=>rfl
  | false =>
   exfalso
   have hmem:j∈Region.ready .any ops listed:=by
    unfold Region.ready
    rw [List.mem_filter]
    refine ⟨List.mem_range.2 hj,?_⟩
    rw [Array.getElem?_eq_getElem hj,Array.getD_eq_getD_getElem?,Array.getElem?_eq_getElem hj',hl]
    simp only [Option.getD_some,Bool.not_false,Bool.true_and,Option.map_some]
    rw [← Array.all_toList,List.all_eq_true]
    intro e he
    rw [Array.mem_toList_iff] at he
    unfold orderly at hord
    rw [List.all_eq_true] at hord
    have h1:=hord (ops[j],j) (by
     rw [List.mem_zipIdx_iff_getElem?]
     show ops.toList[j]?=some ops[j]
     rw [Array.getElem?_toList]; exact Array.getElem?_eq_getElem hj)
    simp only at h1
    rw [← Array.all_toList,List.all_eq_true] at h1
    have h2:=h1 e (by rw [Array.mem_toList_iff]; exact he)
    simp only [Bool.or_eq_true,Bool.not_eq_true',decide_eq_true_eq] at h2 ⊢
    rcases h2 with h2 | h2
    ·exact .inl h2
    ·refine .inr ?_
     rw [Array.getD_eq_getD_getElem?,ih e.on h2 (by omega)]
     rfl
   rw [h] at hmem
   cases hmem

def Stab (RR:World→World→Prop) (F:Value→World→Prop):Prop:=∀ v w w',RR w w'→F v w→F v w'
def StabAll (RR:World→World→Prop):List (Value→World→Prop)→Prop
 | []=>True
 | F :: r=>Stab RR F∧StabAll RR r
theorem Stab.const {RR:World→World→Prop} (F:Value→Prop):Stab RR (fun v _=>F v):=fun _ _ _ _ h=>h
theorem StabAll.get {RR:World→World→Prop}:∀ (l:List (Value→World→Prop)),StabAll RR l→∀ (j:Nat) (v:Value) (w w':World),RR w w'→l.getD j (fun _ _=>True) v w→l.getD j (fun _ _=>True) v w'
 | [],_,j,v,w,w',_,_=>by simp
 | F :: r,h,0,v,w,w',hR,hv=>h.1 v w w' hR hv
 | F :: r,h,j+1,v,w,w',hR,hv=>StabAll.get r h.2 j v w w' hR (by simpa using hv)
def StabsAt (RR:Nat→World→World→Prop) (cs:List Nat) (j:Nat) (F:Value→World→Prop):Prop:=∀ k v w w',k < cs.length→cs[k]?≠some j→RR k w w'→F v w→F v w'
def StabsAll (RR:Nat→World→World→Prop) (cs:List Nat):Nat→List (Value→World→Prop)→Prop
 | _,[]=>True
 | j,F :: r=>StabsAt RR cs j F∧StabsAll RR cs (j+1) r
theorem StabsAt.const {RR:Nat→World→World→Prop} {cs:List Nat} {j:Nat} (F:Value→Prop):StabsAt RR cs j (fun v _=>F v):=fun _ _ _ _ _ _ _ h=>h
theorem StabsAll.get {RR:Nat→World→World→Prop} {cs:List Nat}:∀ (l:List (Value→World→Prop)) (n:Nat),StabsAll RR cs n l→∀ (k j:Nat) (v:Value) (w w':World),k < cs.length→cs[k]?≠some (n+j)→RR k w w'→l.getD j (fun _ _=>True) v w→l.getD j (fun _ _=>True) v w'
 | [],_,_,k,j,v,w,w',_,_,_,_=>by simp
 | F :: r,n,h,k,0,v,w,w',hk,hc,hR,hv=>h.1 k v w w' hk hc hR hv
 | F :: r,n,h,k,j+1,v,w,w',hk,hc,hR,hv=>StabsAll.get r (n+1) h.2 k j v w w' hk (by rwa [show n+1+j=n+(j+1) by omega]) hR (by simpa using hv)
end
end Go.Proofs.Ytkmcakneceagpaa

namespace Go.Proofs.Ytkmcakneceagpaa

section
variable {P:Program} {ops:Array Oper} {Q:Exit→Act→World→Prop}

structure EnvAt2 (ops:Array Oper) (V:Nat→Nat→Value→World→Prop) (k j:Nat) (a0:Act) (o:Oper) (a:Act) (w:World):Prop where
 defers:a.defers=a0.defers
 pred:∀ (i:Nat) (oi:Oper) (d:Tmp),ops[i]?=some oi→oi.dst=some d→waits o i=true→∃ v,a.tmps[d]?=some v∧V i k v w
 out:∀ t,(ops.toList.all fun p=>p.dst != some t || waits p j)=true→a.tmps[t]?=a0.tmps[t]?
def Obl2 (P:Program) (ops:Array Oper) (V:Nat→Nat→Value→World→Prop) (C:Nat→World→Prop) (RC:Nat→World→World→Prop) (RF:World→World→Prop) (Q:Exit→Act→World→Prop) (a0:Act) (cs fs:List Nat) (j:Nat) (o:Oper):Prop :=
 match cs.idxOf? j with
 | some p=>∀ (a:Act) (w:World),EnvAt2 ops V p j a0 o a w→C p w→∀ K:Act→World→Prop,(∀ v w',V j (p+1) v w'→C (p+1) w'→RC p w w'→K (a.put o.dst v) w') →
   if Region.wanted o (yielded ops a.tmps)=true then o.wp P a w K Q else K (a.put o.dst undef) w
 | none =>
  if fs.contains j=true then ∀ (k:Nat) (a:Act) (w:World),EnvAt2 ops V k j a0 o a w→C k w→∀ K:Act→World→Prop,(∀ v w',V j k v w'→C k w'→RF w w'→K (a.put o.dst v) w') →
   if Region.wanted o (yielded ops a.tmps)=true then o.wp P a w K Q else K (a.put o.dst undef) w
  else ∀ (k:Nat) (a:Act) (w:World),EnvAt2 ops V k j a0 o a w→C k w→∀ K:Act→World→Prop,(∀ v,V j k v w→K (a.put o.dst v) w) →
   if Region.wanted o (yielded ops a.tmps)=true then o.wp P a w K Q else K (a.put o.dst undef) w
structure EnvMid2 (ops:Array Oper) (V:Nat→Nat→Value→World→Prop) (C:Nat→World→Prop) (cs:List Nat) (a0:Act) (listed:Array Bool) (a:Act) (w:World):Prop where
 defers:a.defers=a0.defers
 size:a.tmps.size=a0.tmps.size
 lsize:listed.size=ops.size
 out:∀ t,(∀ (j:Nat) (o:Oper),ops[j]?=some o→o.dst=some t→listed[j]?≠some true)→a.tmps[t]?=a0.tmps[t]?
 shut:∀ (j:Nat) (o:Oper),listed[j]?=some true→ops[j]?=some o→∀ e∈o.after,Region.binds .any e=true→listed[e.on]?=some true
 stage:∃ k,k≤cs.length∧C k w∧(∀ p i,cs[p]?=some i→(listed[i]?=some true ↔ p < k))∧∀ (j:Nat) (o:Oper) (d:Tmp),listed[j]?=some true→ops[j]?=some o→o.dst=some d→∃ v,a.tmps[d]?=some v∧V j k v w

theorem env_any2 (V:Nat→Nat→Value→World→Prop) (C:Nat→World→Prop) (RC:Nat→World→World→Prop) (RF:World→World→Prop) (cs fs:List Nat) (a0:Act) (hdist:apartDst ops.toList=true) (hbelow:dstsBelow a0.tmps.size ops.toList=true)
  (hnd:cs.Nodup) (hch:chained ops cs=true) (hstab:∀ p j v w w',p < cs.length→cs[p]?≠some j→RC p w w'→V j p v w→V j (p+1) v w') (hfree:∀ k j v w w',RF w w'→V j k v w→V j k v w')
  (hop:∀ (j:Nat) (o:Oper),ops[j]?=some o→Obl2 P ops V C RC RF Q a0 cs fs j o)
  (hend:∀ (listed:Array Bool) (a:Act) (w:World),EnvMid2 ops V C cs a0 listed a w→Region.ready .any ops listed=[]→Q .normal a w) :
  ∀ (fuel:Nat) (listed:Array Bool) (a:Act) (w:World),EnvMid2 ops V C cs a0 listed a w→fuel+(listed.toList.filter id).length=ops.size→wpAny P .any ops Q fuel listed a w:=by
 intro fuel
 induction fuel with
 | zero =>
  intro listed a w E hf
  have hall:Region.ready .any ops listed=[]:=by
   rw [List.eq_nil_iff_forall_not_mem]
   intro i hi
   obtain ⟨hlt,hnl,_⟩:=ready_spec hi
   have e1:=E.lsize
   have e2:listed.toList.length=listed.size:=Array.length_toList
   have hl:(listed.toList.filter id).length=listed.toList.length:=by omega
   rw [List.length_filter_eq_length_iff] at hl
   have hlt':i < listed.size:=by rw [E.lsize]; exact hlt
   have h1:=hl listed[i] (by simp)
   rw [Array.getD_eq_getD_getElem?,Array.getElem?_eq_getElem hlt'] at hnl
   simp at hnl h1
   rw [h1] at hnl
   cases hnl
  exact ⟨hall,hend listed a w E hall⟩
 | succ fuel ih =>
  intro listed a w E hf
  refine ⟨fun h=>hend listed a w E h,fun i hi=>?_⟩
  obtain ⟨hlt,hnl,o,ho,hpre⟩:=ready_spec hi
  have hlt':i < listed.size:=by rw [E.lsize]; exact hlt
  have hnl':listed[i]?=some false:=by
   rw [Array.getD_eq_getD_getElem?,Array.getElem?_eq_getElem hlt'] at hnl
   rw [Array.getElem?_eq_getElem hlt']
   simpa using hnl
  have hpre':∀ e∈o.after,Region.binds .any e=true→listed[e.on]?=some true:=fun e he hb=>getD_true (hpre e he hb)
  obtain ⟨k,hk,hCk,hstage,hdone⟩:=E.stage
  have EA:EnvAt2 ops V k i a0 o a w:=⟨E.defers,fun i' oi d hi' hd hw=>by
   unfold waits at hw
   rw [← Array.any_toList,List.any_eq_true] at hw
   obtain ⟨e,he,hb⟩:=hw
   rw [Array.mem_toList_iff] at he
   simp only [Bool.and_eq_true,beq_iff_eq] at hb
   obtain ⟨hb1,rfl⟩:=hb
   exact hdone _ oi d (hpre' e he hb1) hi' hd,fun t ht=>E.out t (fun j' o' ho' hd' hl=>by
   rw [List.all_eq_true] at ht
   have h1:=ht o' (List.mem_of_getElem? (by rw [Array.getElem?_toList]; exact ho'))
   rw [hd'] at h1
   have h2:waits o' i=true:=by simpa using h1
   unfold waits at h2
   rw [← Array.any_toList,List.any_eq_true] at h2
   obtain ⟨e,he,hb⟩:=h2
   rw [Array.mem_toList_iff] at he
   simp only [Bool.and_eq_true,beq_iff_eq] at hb
   have h3:=E.shut j' o' hl ho' e he hb.1
   rw [hb.2,hnl'] at h3
   cases h3)⟩
  have hset:∀ j,(listed.setIfInBounds i true)[j]?=some true ↔ (j=i∨listed[j]?=some true):=by
   intro j
   rw [Array.getElem?_setIfInBounds]
   by_cases hj:i=j
   ·subst hj; simp [hlt']
   ·simp [hj,Ne.symm hj]
  have next:∀ (v:Value) (w':World) (k':Nat),V i k' v w'→(∀ j u,j≠i→V j k u w→V j k' u w')→k'≤cs.length→C k' w'→(∀ p j,cs[p]?=some j→((j=i∨listed[j]?=some true) ↔ p < k')) →
    EnvMid2 ops V C cs a0 (listed.setIfInBounds i true) (a.put o.dst v) w':=by
   intro v w' k' hv hst hk hC hp
   refine ⟨?_,by rw [put_size]; exact E.size,by simp [E.lsize],?_,?_,⟨k',hk,hC,fun p j hj=>by rw [hset]; exact hp p j hj,?_⟩⟩
   ·have:=E.defers
    cases hd:o.dst <;> simpa [Act.put] using this
   ·intro t ht
    have h1:o.dst≠some t:=fun e=>ht i o ho e (by rw [hset]; exact .inl rfl)
    rw [put_get_other _ _ _ _ h1]
    exact E.out t (fun j' o' ho' hd' hl=>ht j' o' ho' hd' (by rw [hset]; exact .inr hl))
   ·intro j oj hj hoj e he hb
    rw [hset] at hj ⊢
    rcases hj with rfl | hj
    ·rw [ho] at hoj
     obtain rfl:=Option.some.inj hoj
     exact .inr (hpre' e he hb)
    ·exact .inr (E.shut j oj hj hoj e he hb)
   ·intro j oj d hj hoj hd
    rw [hset] at hj
    by_cases hji:j=i
    ·subst hji
     rw [ho] at hoj
     obtain rfl:=Option.some.inj hoj
     have hds:d < a.tmps.size:=by
      rw [E.size]
      unfold dstsBelow at hbelow
      simp only [List.all_eq_true] at hbelow
      have:=hbelow o (List.mem_of_getElem? (by rw [Array.getElem?_toList]; exact ho))
      rw [hd] at this
      simpa using this
     exact ⟨v,by rw [hd]; exact put_get_same _ _ _ hds,hv⟩
    ·have hl:listed[j]?=some true:=by rcases hj with h | h; exact absurd h hji; exact h
     obtain ⟨u,hu,hVu⟩:=hdone j oj d hl hoj hd
     refine ⟨u,?_,hst j u hji hVu⟩
     have h1:o.dst≠some d:=fun e=>hji (apartDst_spec ops.toList hdist j i oj o d (by rw [Array.getElem?_toList]; exact hoj) (by rw [Array.getElem?_toList]; exact ho) hd e)
     rw [put_get_other _ _ _ _ h1]
     exact hu
  have hcount:fuel+((listed.setIfInBounds i true).toList.filter id).length=ops.size:=by
   have h1:((listed.setIfInBounds i true).toList.filter id).length=(listed.toList.filter id).length+1:=by
    rw [Array.toList_setIfInBounds]
    have hi':i < listed.toList.length:=by simpa using hlt'
    have hv:listed.toList[i]=false:=by
     have:=hnl'
     rw [Array.getElem?_eq_getElem hlt'] at this
     simpa using this
    rw [List.set_eq_take_append_cons_drop,if_pos hi',List.filter_append,List.filter_cons]
    have hsplit:listed.toList=listed.toList.take i++listed.toList[i] :: listed.toList.drop (i+1):=by rw [List.getElem_cons_drop hi',List.take_append_drop]
    have h2:(listed.toList.filter id).length=((listed.toList.take i).filter id).length+((listed.toList.drop (i+1)).filter id).length:=by
     conv=>lhs; rw [hsplit]
     rw [List.filter_append,List.filter_cons,hv]
     simp
    rw [h2]
    simp
    omega
   omega
  have hO:=hop i o ho
  unfold wpOp
  rw [ho]
  show if Region.wanted o (yielded ops a.tmps)=true then _ else _
  cases hidx:cs.idxOf? i with
  | some p =>
   unfold Obl2 at hO
   rw [hidx] at hO
   have hp:cs[p]?=some i:=by
    rw [List.idxOf?_eq_some_iff] at hidx
    obtain ⟨h1,h2,_⟩:=hidx
    rw [List.getElem?_eq_getElem h1]
    simpa using h2
   have hplt:p < cs.length:=(List.getElem?_eq_some_iff.1 hp).1
   have hpk:p=k:=by
    have h1:¬ p < k:=fun h=>by
     have:=(hstage p i hp).2 h
     rw [hnl'] at this
     cases this
    have h2:¬ k < p:=fun h=>by
     obtain ⟨q,rfl⟩:∃ q,p=q+1:=⟨p - 1,by omega⟩
     have hq:q < cs.length:=by omega
     have hqi:cs[q]?=some cs[q]:=List.getElem?_eq_getElem hq
     have hw:=chained_get (ops:=ops) cs hch q cs[q] i hqi hp
     have hl:=waitsAll_listed (ops:=ops) E.shut cs[q] 40 i (fun o' ho' e he hb=>by rw [ho] at ho'; obtain rfl:=Option.some.inj ho'; exact hpre' e he hb) hw
     have:=(hstage q cs[q] hqi).1 hl
     omega
    omega
   subst hpk
   have hfin:=hO a w EA hCk (fun a' w'=>wpAny P .any ops Q fuel (listed.setIfInBounds i true) a' w') (fun v w' hv hC hR=>by
    refine ih _ _ _ (next v w' (p+1) hv (fun j u hji h=>hstab p j u w w' hplt (fun e=>hji (Option.some.inj (hp.symm.trans e)).symm) hR h) hplt hC ?_) hcount
    intro q j hq
    constructor
    ·intro h
     rcases h with rfl | h
     ·have:q=p:=by
       have hql:q < cs.length:=(List.getElem?_eq_some_iff.1 hq).1
       exact (List.getElem?_inj hql hnd).1 (hq.trans hp.symm)
      omega
     ·have:=(hstage q j hq).1 h
      omega
    ·intro h
     by_cases hqp:q=p
     ·subst hqp
      rw [hp] at hq
      exact .inl (Option.some.inj hq).symm
     ·exact .inr ((hstage q j hq).2 (by omega)))
   split
   ·rename_i hw; rw [if_pos hw] at hfin; exact .inl hfin
   ·rename_i hw; rw [if_neg hw] at hfin; exact hfin
  | none =>
   unfold Obl2 at hO
   rw [hidx] at hO
   have hni:i∉cs:=by
    intro hm
    rw [List.idxOf?_eq_none_iff] at hidx
    exact hidx hm
   have hst:∀ q j,cs[q]?=some j→((j=i∨listed[j]?=some true) ↔ q < k):=by
    intro q j hq
    have hji:j≠i:=fun e=>hni (e ▸ List.mem_of_getElem? hq)
    simp only [hji,false_or]
    exact hstage q j hq
   have hfin:if Region.wanted o (yielded ops a.tmps)=true then o.wp P a w (fun a' w'=>wpAny P .any ops Q fuel (listed.setIfInBounds i true) a' w') Q else wpAny P .any ops Q fuel (listed.setIfInBounds i true) (a.put o.dst undef) w:=by
    cases hf:fs.contains i with
    | true =>
     simp only [hf,if_true] at hO
     exact hO k a w EA hCk (fun a' w'=>wpAny P .any ops Q fuel (listed.setIfInBounds i true) a' w') (fun v w' hv hC hR=>ih _ _ _ (next v w' k hv (fun j u _ h=>hfree k j u w w' hR h) hk hC hst) hcount)
    | false =>
     simp only [hf,Bool.false_eq_true,if_false] at hO
     exact hO k a w EA hCk (fun a' w'=>wpAny P .any ops Q fuel (listed.setIfInBounds i true) a' w') (fun v hv=>ih _ _ _ (next v w k hv (fun _ _ _ h=>h) hk hCk hst) hcount)
   split
   ·rename_i hw; rw [if_pos hw] at hfin; exact .inl hfin
   ·rename_i hw; rw [if_neg hw] at hfin; exact hfin

theorem wp_region_env2 {rid:Nat} {a0:Act} {w0:World} (hm:P.follows .mixedOrders=true) (V:Nat→Nat→Value→World→Prop) (C:Nat→World→Prop) (RC:Nat→World→World→Prop) (RF:World→World→Prop) (cs fs:List Nat)
  (hdist:apartDst ops.toList=true) (hbelow:dstsBelow a0.tmps.size ops.toList=true) (hord:orderly ops.toList=true) (hnd:cs.Nodup) (hch:chained ops cs=true)
  (hstab:∀ p j v w w',p < cs.length→cs[p]?≠some j→RC p w w'→V j p v w→V j (p+1) v w') (hfree:∀ k j v w w',RF w w'→V j k v w→V j k v w') (hC:C 0 w0.drew)
  (hop:OblAll (Obl2 P ops V C RC RF Q a0 cs fs) 0 ops.toList)
  (hcs:cs.all (fun i=>decide (i < ops.size))=true)
  (hend:∀ (vs:Nat→Value) (w:World),C cs.length w→(∀ j o,ops[j]?=some o→o.dst≠none→V j cs.length (vs j) w)→Q .normal (putAll vs 0 ops.toList a0) w) :
  (Code.region rid ops true).wp P Q a0 w0:=by
 refine wp_region_any hm ?_
 refine env_any2 V C RC RF cs fs a0 hdist hbelow hnd hch hstab hfree (fun j o ho=>by
  have:=OblAll.get ops.toList 0 hop j o (by rw [Array.getElem?_toList]; exact ho)
  simpa using this) ?_ ops.size (Array.replicate ops.size false) a0 _ ?_ ?_
 ·intro listed a w E hr
  have hall:=all_listed hord E.lsize hr
  obtain ⟨k,hk,hCk,hst,hdone⟩:=E.stage
  have hkl:k=cs.length:=by
   rcases Nat.lt_or_ge k cs.length with h | h
   ·have hi:cs[k]?=some cs[k]:=List.getElem?_eq_getElem h
    have hlt:cs[k] < ops.size:=by
     rw [List.all_eq_true] at hcs
     simpa using hcs cs[k] (List.getElem_mem h)
    have:=(hst k cs[k] hi).1 (hall _ hlt)
    omega
   ·omega
  subst hkl
  let vs:Nat→Value:=fun j=>match (ops[j]?).bind (·.dst) with | some d=>(a.tmps[d]?).getD undef | none=>undef
  have hV:∀ j o,ops[j]?=some o→o.dst≠none→V j cs.length (vs j) w:=by
   intro j o ho hd
   have hj:j < ops.size:=(Array.getElem?_eq_some_iff.1 ho).1
   cases hdd:o.dst with
   | none=>exact absurd hdd hd
   | some d =>
    obtain ⟨v,hv,hVv⟩:=hdone j o d (hall j hj) ho hdd
    have:vs j=v:=by simp [vs,ho,hdd,hv]
    rw [this]
    exact hVv
  have hfin:=hend vs w hCk hV
  have hact:putAll vs 0 ops.toList a0=a:=by
   have ht:(putAll vs 0 ops.toList a0).tmps=a.tmps:=by
    apply Array.ext_getElem?
    intro t
    by_cases hout:(ops.toList.all fun p=>p.dst != some t)=true
    ·rw [E.out t (fun j' o' ho' hd'=>by rw [List.all_eq_true] at hout; have:=hout o' (List.mem_of_getElem? (by rw [Array.getElem?_toList]; exact ho')); rw [hd'] at this; simp at this)]
     refine putAll_out vs t _ _ _ (fun o ho=>?_)
     rw [List.all_eq_true] at hout
     simpa using hout o ho
    ·rw [List.all_eq_true] at hout
     obtain ⟨o,ho⟩:=Classical.not_forall.1 hout
     obtain ⟨hmem,hd⟩:=Classical.not_imp.1 ho
     have hd':o.dst=some t:=by simpa using hd
     obtain ⟨j,hj⟩:=List.getElem?_of_mem hmem
     have hjo:ops[j]?=some o:=by rw [Array.getElem?_toList] at hj; exact hj
     have htlt:t < a0.tmps.size:=by
      unfold dstsBelow at hbelow
      rw [List.all_eq_true] at hbelow
      have:=hbelow o hmem
      rw [hd'] at this
      simpa using this
     rw [putAll_at vs t _ 0 _ hdist htlt j o hj hd']
     obtain ⟨v,hv,_⟩:=hdone j o t (hall j (Array.getElem?_eq_some_iff.1 hjo).1) hjo hd'
     have:vs j=v:=by simp [vs,hjo,hd',hv]
     rw [hv,Nat.zero_add,this]
   have hd:(putAll vs 0 ops.toList a0).defers=a.defers:=by rw [putAll_defers,E.defers]
   cases h1:putAll vs 0 ops.toList a0
   cases a
   rw [h1] at ht hd
   simp only at ht hd
   rw [ht,hd]
  rw [hact] at hfin
  exact hfin
 ·refine ⟨rfl,rfl,by simp,fun _ _=>rfl,fun j o hj=>?_,0,Nat.zero_le _,hC,fun p i _=>?_,fun j o d hj=>?_⟩
  ·rw [Array.getElem?_replicate] at hj
   split at hj <;> cases hj
  ·constructor
   ·intro h
    rw [Array.getElem?_replicate] at h
    split at h <;> cases h
   ·intro h; omega
  ·rw [Array.getElem?_replicate] at hj
   split at hj <;> cases hj
 ·have:((Array.replicate ops.size false).toList.filter id)=[]:=by
   rw [List.filter_eq_nil_iff]
   intro b hb
   simp at hb
   simp [hb.2]
  rw [this]
  simp


def StabAt2 (RC:Nat→World→World→Prop) (RF:World→World→Prop) (cs:List Nat) (j:Nat) (F:Nat→Value→World→Prop):Prop :=
 (∀ p v w w',p < cs.length→cs[p]?≠some j→RC p w w'→F p v w→F (p+1) v w')∧∀ k v w w',RF w w'→F k v w→F k v w'
def StabAll2 (RC:Nat→World→World→Prop) (RF:World→World→Prop) (cs:List Nat):Nat→List (Nat→Value→World→Prop)→Prop
 | _,[]=>True
 | j,F :: r=>StabAt2 RC RF cs j F∧StabAll2 RC RF cs (j+1) r
theorem StabAt2.const {RC:Nat→World→World→Prop} {RF:World→World→Prop} {cs:List Nat} {j:Nat} (F:Value→Prop):StabAt2 RC RF cs j (fun _ v _=>F v):=⟨fun _ _ _ _ _ _ _ h=>h,fun _ _ _ _ _ h=>h⟩
theorem StabAt2.span {α:Type} {f:α→Value} {G:α→World→Prop} {lo m:Nat} {RC:Nat→World→World→Prop} {RF:World→World→Prop} {cs:List Nat} {j:Nat} (h1:∀ p x w w',lo≤p→p < m→p < cs.length→RC p w w'→G x w→G x w') (h2:∀ x w w',RF w w'→G x w→G x w') :
  StabAt2 RC RF cs j (fun p v w=>∃ x:α,v=f x∧lo≤p∧(p≤m→G x w)) :=
 ⟨fun p v w w' hp _ hR ⟨x,e,hl,hg⟩=>⟨x,e,by omega,fun hm=>h1 p x w w' hl (by omega) hp hR (hg (by omega))⟩,fun k v w w' hR ⟨x,e,hl,hg⟩=>⟨x,e,hl,fun hm=>h2 x w w' hR (hg hm)⟩⟩
theorem StabAll2.get {RC:Nat→World→World→Prop} {RF:World→World→Prop} {cs:List Nat}:∀ (l:List (Nat→Value→World→Prop)) (n:Nat),StabAll2 RC RF cs n l→∀ (j:Nat),StabAt2 RC RF cs (n+j) (l.getD j (fun _ _ _=>True))
 | [],_,_,j=>by simp [StabAt2]
 | F :: r,n,h,0=>by simpa using h.1
 | F :: r,n,h,j+1=>by
  have:=StabAll2.get r (n+1) h.2 j
  rw [show n+1+j=n+(j+1) by omega] at this
  simpa using this
theorem wp_region_st {rid:Nat} {a0:Act} {w0:World} (hm:P.follows .mixedOrders=true) (Vs:List (Nat→Value→World→Prop)) (C:Nat→World→Prop) (RC:Nat→World→World→Prop) (RF:World→World→Prop) (cs fs:List Nat)
  (hdist:apartDst ops.toList=true) (hbelow:dstsBelow a0.tmps.size ops.toList=true) (hord:orderly ops.toList=true) (hnd:cs.Nodup) (hch:chained ops cs=true)
  (hstab:StabAll2 RC RF cs 0 Vs) (hC:C 0 w0.drew)
  (hop:OblAll (Obl2 P ops (fun j=>Vs.getD j (fun _ _ _=>True)) C RC RF Q a0 cs fs) 0 ops.toList)
  (hcs:cs.all (fun i=>decide (i < ops.size))=true)
  (hend:∀ (vs:Nat→Value) (w:World),C cs.length w→(∀ j o,ops[j]?=some o→o.dst≠none→Vs.getD j (fun _ _ _=>True) cs.length (vs j) w)→Q .normal (putAll vs 0 ops.toList a0) w) :
  (Code.region rid ops true).wp P Q a0 w0 :=
 wp_region_env2 hm (fun j=>Vs.getD j (fun _ _ _=>True)) C RC RF cs fs hdist hbelow hord hnd hch
  (fun p j v w w' hp hne hR=>(by have:=(StabAll2.get Vs 0 hstab j).1 p v w w' hp; rw [Nat.zero_add] at this; exact this hne hR))
  (fun k j v w w' hR=>(StabAll2.get Vs 0 hstab j).2 k v w w' hR) hC hop hcs hend
end
end Go.Proofs.Ytkmcakneceagpaa

namespace Go.Proofs.Ytkmcakneceagpaa
open Go.RowKit

end Go.Proofs.Ytkmcakneceagpaa

namespace Go.Proofs.Ytkmcakneceagpaa
open Go.RowKit

def setOk (s:Int × Int):Bool:=decide (0≤s.1) && decide (s.1 < 65536)
theorem all_of (ss:List (Int × Int)) (h:∀ j,j < ss.length→setOk (ss.getD j (0,0))=true):ss.all setOk=true:=by
 rw [List.all_eq_true]
 intro x hx
 obtain ⟨j,hj,rfl⟩:=List.getElem_of_mem hx
 have:=h j hj
 rwa [List.getD_eq_getElem?_getD,List.getElem?_eq_getElem hj] at this
theorem not_all (ss:List (Int × Int)) (j:Nat) (hj:j < ss.length) (h:setOk (ss.getD j (0,0))=false):ss.all setOk=false:=by
 rw [List.all_eq_false]
 refine ⟨ss[j],List.getElem_mem hj,?_⟩
 rw [List.getD_eq_getElem?_getD,List.getElem?_eq_getElem hj] at h
 simpa using h
theorem setsB_eq (fl:Int) (ss:List (Int × Int)):setsB fl ss=(ss.all setOk && (ss.isEmpty || !hasB fl 1)):=rfl

theorem u8_of {n:Int} (h0:0≤n) (h1:n≤255):Value.int .u8 n=u8 (byteOf n):=by rw [u8,(u8_byteOf h0 h1).2]
theorem idB_of {n:Int} (h:idB n=true):0≤n∧n < 2147483648:=by simp [idB] at h; omega
theorem setsB_of {fl:Int} {ss:List (Int × Int)} (h:setsB fl ss=true):∀ j,j < ss.length→setOk (ss.getD j (0,0))=true:=by
 intro j hj
 rw [setsB_eq,Bool.and_eq_true,List.all_eq_true] at h
 rw [List.getD_eq_getElem?_getD,List.getElem?_eq_getElem hj]
 exact h.1 _ (List.getElem_mem hj)
theorem maySets (f:Fr) (ss:List (Int × Int)) (w0:World) (hs:Sd w0 f.sA f.sn f.sc ss) (hn:f.sn * 16≤140737488351232) (h0:0≤f.fl) (h1:f.fl≤255):Calls Try.prog 173 #[.agg #[.int .i64 f.ty,.int .i64 f.fl,.int .i64 f.st,.slice f.pA f.pn f.pc,.int .i64 f.pad,.int .u32 f.code,.int .i64 f.last,.int .i64 f.inc,.int .i64 f.dep,.bool f.only,.int .i64 f.wt,.slice f.sA f.sn f.sc]] w0 (BoolK (setsB f.fl ss) w0):=by
 have hb:=(bits_has f.fl h0 h1).1
 have HBT:=Lib.hid hb
 clear hb
 obtain ⟨ty,fl,st,pA,pn,pc,pad,code,last,inc,dep,only,wt,sA,sn,sc⟩:=f
 dsimp only at *
 have HS:=Lib.hid hs
 have hsn:sn≤140737488351232:=by omega
 have hlen:=hs.len
 have hcap:=hs.cap
 clear hs
 go_enter Try.func173,Try.ntmps173
 go_wp2
 have K0:Kp [] w0 (w0.alloc (.cells #[.int .i64 ty,.int .i64 fl,.int .i64 st,.slice pA pn pc,.int .i64 pad,.int .u32 code,.int .i64 last,.int .i64 inc,.int .i64 dep,.bool only,.int .i64 wt,.slice sA sn sc] 49)):=(Kp.refl _ _).alloc _
 have HB:=Lib.hid (hp_new w0 (.cells #[.int .i64 ty,.int .i64 fl,.int .i64 st,.slice pA pn pc,.int .i64 pad,.int .u32 code,.int .i64 last,.int .i64 inc,.int .i64 dep,.bool only,.int .i64 wt,.slice sA sn sc] 49) _ rfl)
 have HS1:=Lib.hid (HS.out.keep K0 (by simp))
 generalize hW:w0.alloc (.cells #[.int .i64 ty,.int .i64 fl,.int .i64 st,.slice pA pn pc,.int .i64 pad,.int .u32 code,.int .i64 last,.int .i64 inc,.int .i64 dep,.bool only,.int .i64 wt,.slice sA sn sc] 49)=w1 at *
 clear hW HS
 have hB:=lt_of_heap HB.out
 have HK0:=Lib.hid K0
 clear K0
 have b11:=cell_of HB.out 11
 have b1:=cell_of HB.out 1
 go_wp2
 go_loopw [8] (fun i wr=>∃ k:Nat,k≤sn∧i=.int .i64 k∧Kp [] w1 wr∧∀ j,j < k→setOk (ss.getD j (0,0))=true) (fun i _=>sn - (intOf i).toNat)
 case atStart=>exact ⟨0,Nat.zero_le _,rfl,Kp.refl _ _,fun j hj=>by omega⟩
 case round =>
  obtain ⟨k,hk,rfl,K,hok⟩:=hrel
  have HOK:=Lib.hid hok
  clear hok
  by_cases hkl:k < sn
  ·obtain ⟨b,off,rfl,hlt,hc⟩:=(HS1.out.keep K (by simp)).at_ (by omega)
   obtain ⟨c0,c1⟩:=hc k hkl
   obtain ⟨⟨x,y⟩,hxy⟩:∃ s,ss.getD k (0,0)=s:=⟨_,rfl⟩
   rw [hxy] at c0 c1
   dsimp only at c0 c1
   have HXY:=Lib.hid hxy
   have HK:=Lib.hid K
   clear hxy hc K
   have hki:(k:Int) < (sn:Int):=by omega
   by_cases hx0:0≤x
   ·by_cases hx1:x < 65536
    ·go_wp2
     generalize hW:World.alloc _ _=w4
     have K4:Kp [] wr w4:=by rw [← hW]; with_reducible (repeat (first|exact Kp.refl _ _|assumption|refine Kp.alloc ?_ _|refine Kp.drew ?_|refine Kp.drewN ?_ _|(refine Kp.setL ?_ ?_ _;focus (simp;done))|(refine Kp.setR ?_ ?_ _;focus (first|(simp;done)|(simp;omega)))))
     go_roundw
     case rel =>
      refine ⟨k+1,by omega,by go_num,HK.out.trans K4,fun j hj=>?_⟩
      by_cases hjk:j=k
      ·rw [hjk,HXY.out]; simp [setOk,hx0,hx1]
      ·exact HOK.out j (by omega)
     case measure=>simp [intOf]; omega
    ·go_wp2
     go_ret
     exact ⟨by rw [setsB_eq,not_all ss k (by omega) (by rw [HXY.out]; simp [setOk]; omega)]; rfl,(HK0.out.trans HK.out).trans (by with_reducible (repeat (first|exact Kp.refl _ _|assumption|refine Kp.alloc ?_ _|refine Kp.drew ?_|refine Kp.drewN ?_ _|(refine Kp.setL ?_ ?_ _;focus (simp;done))|(refine Kp.setR ?_ ?_ _;focus (first|(simp;done)|(simp;omega))))))⟩
   ·go_wp2
    go_ret
    exact ⟨by rw [setsB_eq,not_all ss k (by omega) (by rw [HXY.out]; simp [setOk]; omega)]; rfl,(HK0.out.trans HK.out).trans (by with_reducible (repeat (first|exact Kp.refl _ _|assumption|refine Kp.alloc ?_ _|refine Kp.drew ?_|refine Kp.drewN ?_ _|(refine Kp.setL ?_ ?_ _;focus (simp;done))|(refine Kp.setR ?_ ?_ _;focus (first|(simp;done)|(simp;omega))))))⟩
  ·obtain rfl:k=sn:=by omega
   have hki:¬ (k:Int) < (k:Int):=by omega
   have c11:=K.cell b11 (by simp)
   have c1:=K.cell b1 (by simp)
   have e:setsB fl ss=(ss.isEmpty || !hasB fl 1):=by rw [setsB_eq,all_of ss (fun j hj=>HOK.out j (by omega))]; rfl
   have HK:=Lib.hid K
   have HE:=Lib.hid e
   clear K HS1 e
   by_cases hz:k=0
   ·subst hz
    obtain rfl:ss=[]:=List.eq_nil_of_length_eq_zero hlen
    go_wp2
    go_ret
    exact ⟨by rw [HE.out]; simp,(HK0.out.trans HK.out).trans (by with_reducible (repeat (first|exact Kp.refl _ _|assumption|refine Kp.alloc ?_ _|refine Kp.drew ?_|refine Kp.drewN ?_ _|(refine Kp.setL ?_ ?_ _;focus (simp;done))|(refine Kp.setR ?_ ?_ _;focus (first|(simp;done)|(simp;omega))))))⟩
   ·have e2:ss.isEmpty=false:=by cases ss with | nil=>simp at hlen; omega | cons=>rfl
    have HE2:=Lib.hid e2
    clear e2
    have hz1:((k:Int) == 0)=false:=by simp; omega
    go_wp2
    go_ret
    exact ⟨by rw [HE.out,HE2.out,← HBT.out]; simp [bne],(HK0.out.trans HK.out).trans (by with_reducible (repeat (first|exact Kp.refl _ _|assumption|refine Kp.alloc ?_ _|refine Kp.drew ?_|refine Kp.drewN ?_ _|(refine Kp.setL ?_ ?_ _;focus (simp;done))|(refine Kp.setR ?_ ?_ _;focus (first|(simp;done)|(simp;omega))))))⟩

theorem putSets (f:Fr) (ss:List (Int × Int)) (w0:World) (hs:Sd w0 f.sA f.sn f.sc ss) (hn:f.sn * 16≤140737488351232) (hok:∀ j,j < ss.length→setOk (ss.getD j (0,0))=true) (hu:∀ j,U32 (ss.getD j (0,0)).2):Calls Try.prog 174 #[.agg #[.int .i64 f.ty,.int .i64 f.fl,.int .i64 f.st,.slice f.pA f.pn f.pc,.int .i64 f.pad,.int .u32 f.code,.int .i64 f.last,.int .i64 f.inc,.int .i64 f.dep,.bool f.only,.int .i64 f.wt,.slice f.sA f.sn f.sc]] w0 (RdP (ss.flatMap setW) w0):=by
 have HOK:=Lib.hid hok
 have HU:=Lib.hid hu
 clear hok hu
 obtain ⟨ty,fl,st,pA,pn,pc,pad,code,last,inc,dep,only,wt,sA,sn,sc⟩:=f
 dsimp only at *
 have HS:=Lib.hid hs
 have hsn:sn≤140737488351232:=by omega
 have hlen:=hs.len
 have hcap:=hs.cap
 clear hs
 go_enter Try.func174,Try.ntmps174
 go_wp2
 have K0:Kp [] w0 (w0.alloc (.cells #[.int .i64 ty,.int .i64 fl,.int .i64 st,.slice pA pn pc,.int .i64 pad,.int .u32 code,.int .i64 last,.int .i64 inc,.int .i64 dep,.bool only,.int .i64 wt,.slice sA sn sc] 49)):=(Kp.refl _ _).alloc _
 have HB:=Lib.hid (hp_new w0 (.cells #[.int .i64 ty,.int .i64 fl,.int .i64 st,.slice pA pn pc,.int .i64 pad,.int .u32 code,.int .i64 last,.int .i64 inc,.int .i64 dep,.bool only,.int .i64 wt,.slice sA sn sc] 49) _ rfl)
 have HS1:=Lib.hid (HS.out.keep K0 (by simp))
 generalize hW:w0.alloc (.cells #[.int .i64 ty,.int .i64 fl,.int .i64 st,.slice pA pn pc,.int .i64 pad,.int .u32 code,.int .i64 last,.int .i64 inc,.int .i64 dep,.bool only,.int .i64 wt,.slice sA sn sc] 49)=w1 at *
 clear hW HS
 have hB:=lt_of_heap HB.out
 have HK0:=Lib.hid K0
 clear K0
 have b11:=cell_of HB.out 11
 go_wp2
 go_loopw [3,11] (fun b i wr=>∃ (k:Nat) (A:Option Addr) (c:Nat),k≤sn∧i=.int .i64 k∧b=.slice A (6 * k) c∧Ow wr w1.heap.size 5 1 A (6 * k) c (((ss.take k).flatMap setW).map u8)∧Kp [] w1 wr) (fun _ i _=>sn - (intOf i).toNat)
 case atStart=>exact ⟨0,none,0,Nat.zero_le _,rfl,rfl,Ow.nil _ _ _ _,Kp.refl _ _⟩
 case round =>
  obtain ⟨k,A,c,hk,rfl,rfl,O,K⟩:=hrel
  by_cases hkl:k < sn
  ·obtain ⟨b,off,rfl,hlt,hc⟩:=(HS1.out.keep K (by simp)).at_ (by omega)
   obtain ⟨c0,c1⟩:=hc k hkl
   have hk1:=HOK.out k (by omega)
   have hk2:=HU.out k
   have htk:(ss.take (k+1)).flatMap setW=(ss.take k).flatMap setW++setW (ss.getD k (0,0)):=by
    rw [List.take_succ_eq_append_getElem (by omega),List.flatMap_append,List.getD_eq_getElem?_getD,List.getElem?_eq_getElem (by omega)]
    simp
   have HTK:=Lib.hid htk
   obtain ⟨⟨xi,yv⟩,hxy⟩:∃ s,ss.getD k (0,0)=s:=⟨_,rfl⟩
   rw [hxy] at c0 c1 hk1 hk2
   have HXY:=Lib.hid hxy
   dsimp only at c0 c1 hk2
   simp [setOk] at hk1
   obtain ⟨xi,rfl⟩:=Int.eq_ofNat_of_zero_le hk1.1
   obtain ⟨yv,rfl⟩:=Int.eq_ofNat_of_zero_le hk2.1
   have hx2:xi < 65536:=by omega
   have hy2:yv < 4294967296:=by omega
   have HK:=Lib.hid K
   have HO:=Lib.hid O
   have hki:(k:Int) < (sn:Int):=by omega
   have hcap6:=O.cap
   clear hxy htk hc K O hk1 hk2
   go_wp2_with fail
   generalize hW:World.alloc _ _=w2
   have K2:Kp [] wr w2:=by rw [← hW]; with_reducible (repeat (first|exact Kp.refl _ _|assumption|refine Kp.alloc ?_ _|refine Kp.drew ?_|refine Kp.drewN ?_ _|(refine Kp.setL ?_ ?_ _;focus (simp;done))|(refine Kp.setR ?_ ?_ _;focus (first|(simp;done)|(simp;omega)))))
   have HC2:=Lib.hid (show w2.heap[wr.heap.size]?=some (.cells #[.int .i64 xi,.int .u32 yv] 197) by rw [← hW]; with_reducible (repeat (first|assumption|(refine hp_new _ _ _ ?_;focus (simp;done))|refine hpl ?_|(refine hpf ?_ ?_;focus (first|(simp;done)|(simp;omega)))|refine hpd ?_|refine hpe ?_)))
   clear hW
   refine (Put16_any xi w2 (by omega)).mono ?_
   rintro e w3 ⟨Ax,nx,rfl,Rx,hAx,K3⟩
   rw [putR_yes (by omega)] at Rx
   dsimp only at Rx
   have enx:=Rx.len
   rw [bytesOf_length] at enx
   subst enx
   have HRx:=Lib.hid Rx
   have HC3:=Lib.hid (K3.heap HC2.out (by simp))
   have HO3:=Lib.hid (HO.out.keep (K2.trans K3) (by simp))
   have hob:∀ t,t∈ob A→w1.heap.size≤t∧t < wr.heap.size:=HO.out.base
   have h3s:=K3.size
   have h2s:=K2.size
   have hs2:=lt_of_heap HC2.out
   have hw1:=HK.out.size
   have HK3:=Lib.hid ((HK.out.trans K2).trans K3)
   have hAx2:∀ t,t∈ob Ax→t∉ob A:=fun t h1 h2=>by have:=hAx t h1; have:=hob t h2; omega
   have hwn:wr.heap.size∉ob A:=fun h=>by have:=hob _ h; omega
   clear Rx HC2 HO K2 K3 HK
   rw [putR_yes (by omega)]
   have CQ:∀ (k:Nat) v,Kp (ob A) w3 v→Kp (ob A) w3 v:=fun _ _ h=>h
   go_wp2
   refine wp_region_st (by kernel_rfl) [fun _ v _=>v=(.slice A (6 * k) c),
     fun _ v _=>v=(.slice Ax 2 2),
     fun p v w=>∃ x:Option Addr × Nat × Nat,v=.slice x.1 x.2.1 x.2.2∧1≤p∧(p≤2→Ow w (w1.heap.size) 5 1 x.1 x.2.1 x.2.2 (((ss.take k).flatMap setW++bytesOf xi 2).map u8)∧x.2.1=6 * k+2∧(∀ t,t∈ob x.1→t∈ob A∨w3.heap.size≤t)),
     fun _ v _=>v=(.pointer (some ⟨wr.heap.size,1,none⟩)),
     fun _ v _=>v=(.int .u32 yv),
     fun p v w=>∃ x:Option Addr × Nat × Nat,v=.slice x.1 x.2.1 x.2.2∧2≤p∧(p≤2→Rd w x.1 x.2.1 x.2.2 (bytesOf yv 4)∧x.2.1=4),
     fun p v w=>∃ x:Option Addr × Nat × Nat,v=.slice x.1 x.2.1 x.2.2∧3≤p∧(p≤3→Ow w (w1.heap.size) 5 1 x.1 x.2.1 x.2.2 (((ss.take k).flatMap setW++bytesOf xi 2++bytesOf yv 4).map u8)∧x.2.1=6 * (k+1)),
     fun p v w=>∃ x:Option Addr × Nat × Nat,v=.slice x.1 x.2.1 x.2.2∧3≤p∧(p≤3→Ow w (w1.heap.size) 5 1 x.1 x.2.1 x.2.2 (((ss.take k).flatMap setW++bytesOf xi 2++bytesOf yv 4).map u8)∧x.2.1=6 * (k+1))] (fun p w=>(p=0→Kp [] w3 w)∧Kp (ob A) w3 w) (fun p w w'=>p=1→Kp [] w w') (fun w w'=>Kp [] w w') [2,5,6] [] (by kernel_rfl) (by kernel_rfl) (by kernel_rfl) (by decide) (by kernel_rfl) ⟨StabAt2.const _,StabAt2.const _,StabAt2.span (f:=fun x:Option Addr × Nat × Nat=>.slice x.1 x.2.1 x.2.2) (by intro p x w w' h1 h2 h3 hR hG; have K:=hR; exact ⟨hG.1.keep (K (by omega)) (by simp),hG.2⟩) (by intro x w w' hR hG; have K:=hR; exact ⟨hG.1.keep K (by simp),hG.2⟩),StabAt2.const _,StabAt2.const _,StabAt2.span (f:=fun x:Option Addr × Nat × Nat=>.slice x.1 x.2.1 x.2.2) (by intro p x w w' h1 h2 h3 hR hG; have K:=hR; exact ⟨hG.1.keep (K (by omega)) (by simp),hG.2⟩) (by intro x w w' hR hG; have K:=hR; exact ⟨hG.1.keep K (by simp),hG.2⟩),StabAt2.span (f:=fun x:Option Addr × Nat × Nat=>.slice x.1 x.2.1 x.2.2) (by intro p x w w' h1 h2 h3 hR hG; have K:=hR; exact ⟨hG.1.keep (K (by omega)) (by simp),hG.2⟩) (by intro x w w' hR hG; have K:=hR; exact ⟨hG.1.keep K (by simp),hG.2⟩),StabAt2.span (f:=fun x:Option Addr × Nat × Nat=>.slice x.1 x.2.1 x.2.2) (by intro p x w w' h1 h2 h3 hR hG; have K:=hR; exact ⟨hG.1.keep (K (by omega)) (by simp),hG.2⟩) (by intro x w w' hR hG; have K:=hR; exact ⟨hG.1.keep K (by simp),hG.2⟩),trivial⟩ (⟨fun _=>(Kp.refl _ _).drew,(Kp.refl _ _).drew⟩) ⟨?_,?_,?_,?_,?_,?_,?_,?_,trivial⟩ (by kernel_rfl) ?_
   ·intro q9 a w E hC K hK
    have h3:a.tmps[3]?=some (.slice A (6 * k) c):=(E.out 3 (by kernel_rfl)).trans rfl
    refine want_none rfl ?_
    go_simp
    exact hK _ rfl
   ·intro q9 a w E hC K hK
    have h6:a.tmps[6]?=some (.slice Ax 2 2):=(E.out 6 (by kernel_rfl)).trans rfl
    refine want_none rfl ?_
    go_simp
    exact hK _ rfl
   ·intro a w E hC K hK
    obtain ⟨_,h21,rfl⟩:=E.pred 0 _ 21 rfl rfl (by kernel_rfl)
    obtain ⟨_,h22,rfl⟩:=E.pred 1 _ 22 rfl rfl (by kernel_rfl)
    refine want_none rfl ?_
    refine op_appO (.tmp 21) (.tmp 22) 22 5 rfl Try.underlying22 Try.info5 w1.heap.size A (6 * k) c _ (eval_tmp h21) (HO3.out.keep (hC.1 rfl) (by simp)) Ax 2 2 _ (eval_tmp h22) (HRx.out.keep (hC.1 rfl) (by simp)) (by omega) (by have:=hC.2.size; omega) ?_
    intro A' c' w2 O K2 hA'
    exact hK _ _ ⟨⟨A',_,c'⟩,rfl,by omega,fun _=>⟨O,rfl,fun t ht=>by rcases hA' with rfl | rfl; exact .inl ht; simp [ob] at ht; have:=hC.2.size; exact .inr (by omega)⟩⟩ ⟨fun h=>by omega,hC.2.trans K2⟩ (fun h=>by omega)
   ·intro q9 a w E hC K hK
    have h5:a.tmps[5]?=some (.pointer (some ⟨wr.heap.size,0,none⟩)):=(E.out 5 (by kernel_rfl)).trans rfl
    refine want_none rfl ?_
    go_simp
    exact hK _ rfl
   ·intro q9 a w E hC K hK
    obtain ⟨_,h24,rfl⟩:=E.pred 3 _ 24 rfl rfl (by kernel_rfl)
    refine want_none rfl ?_
    have hk:=CQ q9 w hC.2
    have hb:=hk.heap HC3.out hwn
    have g:=cell_of hb 1
    go_simp
    exact hK _ rfl
   ·intro a w E hC K hK
    obtain ⟨_,h25,rfl⟩:=E.pred 4 _ 25 rfl rfl (by kernel_rfl)
    refine want_none rfl ?_
    go_simp
    refine (Put32_any yv w hy2).mono ?_
    rintro e w2 ⟨A5,n5,rfl,R5,_,K2⟩
    have e4:=R5.len
    rw [bytesOf_length] at e4
    subst e4
    go_simp
    exact hK _ _ ⟨⟨A5,4,4⟩,rfl,by omega,fun _=>⟨R5,rfl⟩⟩ ⟨fun h=>by omega,hC.2.trans K2.nil⟩ (fun _=>K2)
   ·intro a w E hC K hK
    obtain ⟨v2,h23,V2⟩:=E.pred 2 _ 23 rfl rfl (by kernel_rfl)
    replace V2:(fun p v w=>∃ x:Option Addr × Nat × Nat,v=.slice x.1 x.2.1 x.2.2∧1≤p∧(p≤2→Ow w (w1.heap.size) 5 1 x.1 x.2.1 x.2.2 (((ss.take k).flatMap setW++bytesOf xi 2).map u8)∧x.2.1=6 * k+2∧(∀ t,t∈ob x.1→t∈ob A∨w3.heap.size≤t))) 2 v2 w:=V2
    obtain ⟨v5,h26,V5⟩:=E.pred 5 _ 26 rfl rfl (by kernel_rfl)
    replace V5:(fun p v w=>∃ x:Option Addr × Nat × Nat,v=.slice x.1 x.2.1 x.2.2∧2≤p∧(p≤2→Rd w x.1 x.2.1 x.2.2 (bytesOf yv 4)∧x.2.1=4)) 2 v5 w:=V5
    refine want_none rfl ?_
    obtain ⟨⟨A2,n2,c2⟩,rfl,_,G2⟩:=V2
    obtain ⟨O2,rfl,hA2⟩:=G2 (by omega)
    obtain ⟨⟨A5,n5,c5⟩,rfl,_,G5⟩:=V5
    obtain ⟨R5,rfl⟩:=G5 (by omega)
    refine op_appO (.tmp 23) (.tmp 26) 22 5 rfl Try.underlying22 Try.info5 w1.heap.size A2 _ c2 _ (eval_tmp h23) O2 A5 4 c5 _ (eval_tmp h26) R5 (by omega) (by have:=hC.2.size; omega) ?_
    intro A' c' w2 O K2 _
    exact hK _ _ ⟨⟨A',_,c'⟩,rfl,by omega,fun _=>⟨O,by show 6 * k+2+4=_; omega⟩⟩ ⟨fun h=>by omega,hC.2.then K2 hA2⟩ (fun h=>by omega)
   ·intro q9 a w E hC K hK
    obtain ⟨v6,h27,V6⟩:=E.pred 6 _ 27 rfl rfl (by kernel_rfl)
    replace V6:(fun p v w=>∃ x:Option Addr × Nat × Nat,v=.slice x.1 x.2.1 x.2.2∧3≤p∧(p≤3→Ow w (w1.heap.size) 5 1 x.1 x.2.1 x.2.2 (((ss.take k).flatMap setW++bytesOf xi 2++bytesOf yv 4).map u8)∧x.2.1=6 * (k+1))) q9 v6 w:=V6
    refine want_none rfl ?_
    go_simp
    exact hK _ V6
   intro vs w4 hC hV
   have h9:=hV 7 _ rfl (by simp)
   replace h9:∃ x:Option Addr × Nat × Nat,vs 7=.slice x.1 x.2.1 x.2.2∧3≤3∧(3≤3→Ow w4 w1.heap.size 5 1 x.1 x.2.1 x.2.2 (((ss.take k).flatMap setW++bytesOf xi 2++bytesOf yv 4).map u8)∧x.2.1=6 * (k+1)):=h9
   obtain ⟨⟨A9,n9,c9⟩,e9,_,G9⟩:=h9
   obtain ⟨O9,hn9⟩:=G9 (Nat.le_refl _)
   dsimp only at e9 O9 hn9
   subst hn9
   have HO9:=Lib.hid O9
   have HK9:=Lib.hid (HK3.out.then hC.2 (fun t ht=>.inr (hob t ht).1))
   clear hV O9 hC
   simp only [putAll,Act.put,List.setIfInBounds_toArray]
   dsimp only [List.set]
   rw [e9]
   go_wp2
   go_roundw
   case rel =>
    refine ⟨k+1,A9,c9,by omega,by go_num,rfl,?_,HK9.out⟩
    rw [HTK.out,HXY.out]
    simpa [setW,List.append_assoc] using HO9.out
   case measure=>simp [intOf]; omega
  ·obtain rfl:k=sn:=by omega
   have hki:¬ (k:Int) < (k:Int):=by omega
   have e:ss.take k=ss:=List.take_of_length_le (by omega)
   rw [e] at O
   have HO:=Lib.hid O
   have HK:=Lib.hid K
   clear O K e
   go_wp2
   go_ret
   exact ⟨_,_,_,rfl,HO.out.rd,HK0.out.trans HK.out⟩
end Go.Proofs.Ytkmcakneceagpaa
