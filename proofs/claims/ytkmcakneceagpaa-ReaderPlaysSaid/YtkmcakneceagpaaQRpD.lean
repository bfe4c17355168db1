/- The reference's Parse: what each type reads. -/
import Derived.Test.YtkmcakneceagpaaQFieldRef
set_option linter.unusedSimpArgs false
set_option linter.unusedVariables false
set_option maxHeartbeats 8000000
set_option maxRecDepth 100000
namespace Go.Proofs.Ytkmcakneceagpaa
open Go.RowKit
def FldR (p:Fp) (w:World) (e:Ending) (w':World):Prop :=
 ∃ f:Fr,e=.returned (.tuple #[.agg #[.int .i64 f.ty,.int .i64 f.fl,.int .i64 f.st,.slice f.pA f.pn f.pc,.int .i64 f.pad,.int .u32 f.code,.int .i64 f.last,.int .i64 f.inc,.int .i64 f.dep,.bool f.only,.int .i64 f.wt,.slice f.sA f.sn f.sc],.agg #[.bool false,.int .i64 0,.int .i64 0]])∧FrP w' w.heap.size f p∧Kp [] w w'
def FldX (st:Int) (w:World) (e:Ending) (w':World):Prop :=
 ∃ f:Fr,e=.returned (.tuple #[.agg #[.int .i64 f.ty,.int .i64 f.fl,.int .i64 f.st,.slice f.pA f.pn f.pc,.int .i64 f.pad,.int .u32 f.code,.int .i64 f.last,.int .i64 f.inc,.int .i64 f.dep,.bool f.only,.int .i64 f.wt,.slice f.sA f.sn f.sc],.agg #[.bool true,.int .i64 st,.int .i64 1]])∧Kp [] w w'
theorem rfields0 (fl st pad:Int) (A:Option Addr) (n c:Nat) (l:List UInt8) (w:World) (hr:Rd w A n c l) (hn:n≤16777216):Calls Try.prog 156 #[.agg #[.int .i64 0,.int .i64 fl,.int .i64 st,.slice none 0 0,.int .i64 pad,.int .u32 0,.int .i64 0,.int .i64 0,.int .i64 0,.bool false,.int .i64 0,.slice none 0 0],.slice A n c] w (FldR (getS (f0S 0 fl st pad) l) w):=by
 have HR:=Lib.hid hr
 clear hr
 go_enter Try.func156,Try.ntmps156
 go_wp2_with (with_reducible refine stopAt (o:=⟨some 122,_,_,_,_,_⟩) ?_)
 generalize hW:World.alloc (World.alloc (World.alloc w _) _) _=w1
 have hsz:w1.heap.size=w.heap.size+1+1+1:=by rw [← hW]; simp
 have K1:Kp [] w w1:=by rw [← hW]; with_reducible (repeat (first|exact Kp.refl _ _|assumption|refine Kp.alloc ?_ _|refine Kp.drew ?_|refine Kp.drewN ?_ _|(refine Kp.setL ?_ ?_ _;focus (simp;done))|(refine Kp.setR ?_ ?_ _;focus (first|(simp;done)|(simp;omega)))))
 have HB:=Lib.hid (show w1.heap[w.heap.size]?=some (.cells #[.int .i64 0,.int .i64 fl,.int .i64 st,.slice none 0 0,.int .i64 pad,.int .u32 0,.int .i64 0,.int .i64 0,.int .i64 0,.bool false,.int .i64 0,.slice none 0 0] 49) by rw [← hW]; with_reducible (repeat (first|assumption|(refine hp_new _ _ _ ?_;focus (simp;done))|refine hpl ?_|(refine hpf ?_ ?_;focus (first|(simp;done)|(simp;omega)))|refine hpd ?_|refine hpe ?_)))
 have HF:=Lib.hid (show w1.heap[w.heap.size+1]?=some (.cells #[.int .i64 0,.int .i64 0,.int .i64 0,.slice none 0 0,.int .i64 0,.int .u32 0,.int .i64 0,.int .i64 0,.int .i64 0,.bool false,.int .i64 0,.slice none 0 0] 49) by rw [← hW]; with_reducible (repeat (first|assumption|(refine hp_new _ _ _ ?_;focus (simp;done))|refine hpl ?_|(refine hpf ?_ ?_;focus (first|(simp;done)|(simp;omega)))|refine hpd ?_|refine hpe ?_)))
 have HX:=Lib.hid (show w1.heap[w.heap.size+2]?=some (.cells #[.bool false,.int .i64 0,.int .i64 0] 64) by rw [← hW]; with_reducible (repeat (first|assumption|(refine hp_new _ _ _ ?_;focus (simp;done))|refine hpl ?_|(refine hpf ?_ ?_;focus (first|(simp;done)|(simp;omega)))|refine hpd ?_|refine hpe ?_)))
 have HK:=Lib.hid K1
 clear hW K1
 rw [← hsz]
 clear hsz
 have HLB:=Lib.hid (show w.heap.size+2 < w1.heap.size from lt_of_heap HX.out)
 have k0:Kp [] w1 (w1.alloc (.cells #[] 5)):=(Kp.refl _ _).alloc _
 refine Stop.go (wp_appB rfl _ _ 22 5 rfl Try.underlying22 Try.info5 w1.heap.size _ 0 0 [] rfl (Ow.empty w1 w1.heap.size 5 1 (Nat.le_refl _)) A n c (l) rfl (HR.out.keep (HK.out.trans k0) (by simp)) (by omega) (by simp) ?_)
 intro A5 n5 c5 l5 w5 hn5 hl5 O5 K5 hA5
 have HK5:=Lib.hid (k0.then K5 (by simp [ob]))
 have e5:l5=l:=by rw [hl5.out]; rfl
 rw [e5] at O5
 clear e5 hn5 hl5 K5 hA5 k0
 have HO5:=Lib.hid O5
 clear O5
 replace HB:=Lib.hid (HK5.out.heap HB.out (by simp))
 replace HF:=Lib.hid (HK5.out.heap HF.out (by simp))
 replace HX:=Lib.hid (HK5.out.heap HX.out (by simp))
 have hs5:=HK.out.size
 obtain ⟨q0,q1,q2,q3,q4,q5,q6,q7,q8,q9,q10,q11,qz,qlt,qlt2⟩:=cellsF HB.out
 obtain ⟨z0,z1,z2,z3,z4,z5,z6,z7,z8,z9,z10,z11,zz,zlt,zlt2⟩:=cellsF HF.out
 have x0:=cell_of HX.out 0
 have x1:=cell_of HX.out 1
 have x2:=cell_of HX.out 2
 have xz:=frozen_of HX.out
 go_wp2
 generalize hW:World.setCell _ _ _=W
 have K3:Kp [w.heap.size] w5 (World.setCell w5 ⟨w.heap.size,3,none⟩ (.slice A5 n5 c5)):=(Kp.refl _ _).setCell (.inl (by simp)) _
 obtain ⟨HF9,HX9,K9⟩:W.heap[w.heap.size+1]?=some (.cells #[.int .i64 0,.int .i64 fl,.int .i64 st,.slice A5 n5 c5,.int .i64 pad,.int .u32 0,.int .i64 0,.int .i64 0,.int .i64 0,.bool false,.int .i64 0,.slice none 0 0] 49)∧W.heap[w.heap.size+2]?=some (.cells #[.bool false,.int .i64 0,.int .i64 0] 64)∧Kp [w.heap.size+1,w.heap.size+2] (World.setCell w5 ⟨w.heap.size,3,none⟩ (.slice A5 n5 c5)) W:=by rw [← hW]; exact set15 (by omega) (K3.heap HF.out (by simp <;> omega)) (K3.heap HX.out (by simp <;> omega))
 refine bodyPost_ret (v:=.tuple #[.agg #[.int .i64 0,.int .i64 fl,.int .i64 st,.slice A5 n5 c5,.int .i64 pad,.int .u32 0,.int .i64 0,.int .i64 0,.int .i64 0,.bool false,.int .i64 0,.slice none 0 0],.agg #[.bool false,.int .i64 0,.int .i64 0]]) (by simp [results,Try.results156,go_sem,cell_of HF9,cell_of HX9]) rfl ⟨(⟨0,fl,st,A5,n5,c5,pad,0,0,0,0,false,0,none,0,0⟩:Fr),rfl,⟨rfl,((HO5.out.keep K3 ?_).keep K9 ?_).rd,Sd.nil _,fun t ht=>?_,by simp [ob]⟩,(((HK.out.trans HK5.out).then K3 (by simp)).then K9 (by simp))⟩
 ·intro t ht h2; have:=(HO5.out.base t ht).1; have:=lt_of_heap HB.out; have:=HLB.out; simp at h2; omega
 ·intro t ht h2; have:=(HO5.out.base t ht).1; have:=HLB.out; simp at h2; omega
 ·have:=(HO5.out.base t ht).1; omega
theorem rfields6 (fl st pad:Int) (A:Option Addr) (n c:Nat) (l:List UInt8) (w:World) (hr:Rd w A n c l) (hn:n≤16777216):Calls Try.prog 156 #[.agg #[.int .i64 6,.int .i64 fl,.int .i64 st,.slice none 0 0,.int .i64 pad,.int .u32 0,.int .i64 0,.int .i64 0,.int .i64 0,.bool false,.int .i64 0,.slice none 0 0],.slice A n c] w (FldR (getS (f0S 6 fl st pad) l) w):=by
 have HR:=Lib.hid hr
 clear hr
 go_enter Try.func156,Try.ntmps156
 go_wp2_with (with_reducible refine stopAt (o:=⟨some 122,_,_,_,_,_⟩) ?_)
 generalize hW:World.alloc (World.alloc (World.alloc w _) _) _=w1
 have hsz:w1.heap.size=w.heap.size+1+1+1:=by rw [← hW]; simp
 have K1:Kp [] w w1:=by rw [← hW]; with_reducible (repeat (first|exact Kp.refl _ _|assumption|refine Kp.alloc ?_ _|refine Kp.drew ?_|refine Kp.drewN ?_ _|(refine Kp.setL ?_ ?_ _;focus (simp;done))|(refine Kp.setR ?_ ?_ _;focus (first|(simp;done)|(simp;omega)))))
 have HB:=Lib.hid (show w1.heap[w.heap.size]?=some (.cells #[.int .i64 6,.int .i64 fl,.int .i64 st,.slice none 0 0,.int .i64 pad,.int .u32 0,.int .i64 0,.int .i64 0,.int .i64 0,.bool false,.int .i64 0,.slice none 0 0] 49) by rw [← hW]; with_reducible (repeat (first|assumption|(refine hp_new _ _ _ ?_;focus (simp;done))|refine hpl ?_|(refine hpf ?_ ?_;focus (first|(simp;done)|(simp;omega)))|refine hpd ?_|refine hpe ?_)))
 have HF:=Lib.hid (show w1.heap[w.heap.size+1]?=some (.cells #[.int .i64 0,.int .i64 0,.int .i64 0,.slice none 0 0,.int .i64 0,.int .u32 0,.int .i64 0,.int .i64 0,.int .i64 0,.bool false,.int .i64 0,.slice none 0 0] 49) by rw [← hW]; with_reducible (repeat (first|assumption|(refine hp_new _ _ _ ?_;focus (simp;done))|refine hpl ?_|(refine hpf ?_ ?_;focus (first|(simp;done)|(simp;omega)))|refine hpd ?_|refine hpe ?_)))
 have HX:=Lib.hid (show w1.heap[w.heap.size+2]?=some (.cells #[.bool false,.int .i64 0,.int .i64 0] 64) by rw [← hW]; with_reducible (repeat (first|assumption|(refine hp_new _ _ _ ?_;focus (simp;done))|refine hpl ?_|(refine hpf ?_ ?_;focus (first|(simp;done)|(simp;omega)))|refine hpd ?_|refine hpe ?_)))
 have HK:=Lib.hid K1
 clear hW K1
 rw [← hsz]
 clear hsz
 have HLB:=Lib.hid (show w.heap.size+2 < w1.heap.size from lt_of_heap HX.out)
 have k0:Kp [] w1 (w1.alloc (.cells #[] 5)):=(Kp.refl _ _).alloc _
 refine Stop.go (wp_appB rfl _ _ 22 5 rfl Try.underlying22 Try.info5 w1.heap.size _ 0 0 [] rfl (Ow.empty w1 w1.heap.size 5 1 (Nat.le_refl _)) A n c (l) rfl (HR.out.keep (HK.out.trans k0) (by simp)) (by omega) (by simp) ?_)
 intro A5 n5 c5 l5 w5 hn5 hl5 O5 K5 hA5
 have HK5:=Lib.hid (k0.then K5 (by simp [ob]))
 have e5:l5=l:=by rw [hl5.out]; rfl
 rw [e5] at O5
 clear e5 hn5 hl5 K5 hA5 k0
 have HO5:=Lib.hid O5
 clear O5
 replace HB:=Lib.hid (HK5.out.heap HB.out (by simp))
 replace HF:=Lib.hid (HK5.out.heap HF.out (by simp))
 replace HX:=Lib.hid (HK5.out.heap HX.out (by simp))
 have hs5:=HK.out.size
 obtain ⟨q0,q1,q2,q3,q4,q5,q6,q7,q8,q9,q10,q11,qz,qlt,qlt2⟩:=cellsF HB.out
 obtain ⟨z0,z1,z2,z3,z4,z5,z6,z7,z8,z9,z10,z11,zz,zlt,zlt2⟩:=cellsF HF.out
 have x0:=cell_of HX.out 0
 have x1:=cell_of HX.out 1
 have x2:=cell_of HX.out 2
 have xz:=frozen_of HX.out
 go_wp2
 generalize hW:World.setCell _ _ _=W
 have K3:Kp [w.heap.size] w5 (World.setCell w5 ⟨w.heap.size,3,none⟩ (.slice A5 n5 c5)):=(Kp.refl _ _).setCell (.inl (by simp)) _
 obtain ⟨HF9,HX9,K9⟩:W.heap[w.heap.size+1]?=some (.cells #[.int .i64 6,.int .i64 fl,.int .i64 st,.slice A5 n5 c5,.int .i64 pad,.int .u32 0,.int .i64 0,.int .i64 0,.int .i64 0,.bool false,.int .i64 0,.slice none 0 0] 49)∧W.heap[w.heap.size+2]?=some (.cells #[.bool false,.int .i64 0,.int .i64 0] 64)∧Kp [w.heap.size+1,w.heap.size+2] (World.setCell w5 ⟨w.heap.size,3,none⟩ (.slice A5 n5 c5)) W:=by rw [← hW]; exact set15 (by omega) (K3.heap HF.out (by simp <;> omega)) (K3.heap HX.out (by simp <;> omega))
 refine bodyPost_ret (v:=.tuple #[.agg #[.int .i64 6,.int .i64 fl,.int .i64 st,.slice A5 n5 c5,.int .i64 pad,.int .u32 0,.int .i64 0,.int .i64 0,.int .i64 0,.bool false,.int .i64 0,.slice none 0 0],.agg #[.bool false,.int .i64 0,.int .i64 0]]) (by simp [results,Try.results156,go_sem,cell_of HF9,cell_of HX9]) rfl ⟨(⟨6,fl,st,A5,n5,c5,pad,0,0,0,0,false,0,none,0,0⟩:Fr),rfl,⟨rfl,((HO5.out.keep K3 ?_).keep K9 ?_).rd,Sd.nil _,fun t ht=>?_,by simp [ob]⟩,(((HK.out.trans HK5.out).then K3 (by simp)).then K9 (by simp))⟩
 ·intro t ht h2; have:=(HO5.out.base t ht).1; have:=lt_of_heap HB.out; have:=HLB.out; simp at h2; omega
 ·intro t ht h2; have:=(HO5.out.base t ht).1; have:=HLB.out; simp at h2; omega
 ·have:=(HO5.out.base t ht).1; omega
theorem rfields9 (fl st pad:Int) (A:Option Addr) (n c:Nat) (l:List UInt8) (w:World) (hr:Rd w A n c l) (hn:n≤16777216):Calls Try.prog 156 #[.agg #[.int .i64 9,.int .i64 fl,.int .i64 st,.slice none 0 0,.int .i64 pad,.int .u32 0,.int .i64 0,.int .i64 0,.int .i64 0,.bool false,.int .i64 0,.slice none 0 0],.slice A n c] w (FldR (getS (f0S 9 fl st pad) l) w):=by
 have HR:=Lib.hid hr
 clear hr
 go_enter Try.func156,Try.ntmps156
 go_wp2_with (with_reducible refine stopAt (o:=⟨some 122,_,_,_,_,_⟩) ?_)
 generalize hW:World.alloc (World.alloc (World.alloc w _) _) _=w1
 have hsz:w1.heap.size=w.heap.size+1+1+1:=by rw [← hW]; simp
 have K1:Kp [] w w1:=by rw [← hW]; with_reducible (repeat (first|exact Kp.refl _ _|assumption|refine Kp.alloc ?_ _|refine Kp.drew ?_|refine Kp.drewN ?_ _|(refine Kp.setL ?_ ?_ _;focus (simp;done))|(refine Kp.setR ?_ ?_ _;focus (first|(simp;done)|(simp;omega)))))
 have HB:=Lib.hid (show w1.heap[w.heap.size]?=some (.cells #[.int .i64 9,.int .i64 fl,.int .i64 st,.slice none 0 0,.int .i64 pad,.int .u32 0,.int .i64 0,.int .i64 0,.int .i64 0,.bool false,.int .i64 0,.slice none 0 0] 49) by rw [← hW]; with_reducible (repeat (first|assumption|(refine hp_new _ _ _ ?_;focus (simp;done))|refine hpl ?_|(refine hpf ?_ ?_;focus (first|(simp;done)|(simp;omega)))|refine hpd ?_|refine hpe ?_)))
 have HF:=Lib.hid (show w1.heap[w.heap.size+1]?=some (.cells #[.int .i64 0,.int .i64 0,.int .i64 0,.slice none 0 0,.int .i64 0,.int .u32 0,.int .i64 0,.int .i64 0,.int .i64 0,.bool false,.int .i64 0,.slice none 0 0] 49) by rw [← hW]; with_reducible (repeat (first|assumption|(refine hp_new _ _ _ ?_;focus (simp;done))|refine hpl ?_|(refine hpf ?_ ?_;focus (first|(simp;done)|(simp;omega)))|refine hpd ?_|refine hpe ?_)))
 have HX:=Lib.hid (show w1.heap[w.heap.size+2]?=some (.cells #[.bool false,.int .i64 0,.int .i64 0] 64) by rw [← hW]; with_reducible (repeat (first|assumption|(refine hp_new _ _ _ ?_;focus (simp;done))|refine hpl ?_|(refine hpf ?_ ?_;focus (first|(simp;done)|(simp;omega)))|refine hpd ?_|refine hpe ?_)))
 have HK:=Lib.hid K1
 clear hW K1
 rw [← hsz]
 clear hsz
 have HLB:=Lib.hid (show w.heap.size+2 < w1.heap.size from lt_of_heap HX.out)
 have k0:Kp [] w1 (w1.alloc (.cells #[] 5)):=(Kp.refl _ _).alloc _
 refine Stop.go (wp_appB rfl _ _ 22 5 rfl Try.underlying22 Try.info5 w1.heap.size _ 0 0 [] rfl (Ow.empty w1 w1.heap.size 5 1 (Nat.le_refl _)) A n c (l) rfl (HR.out.keep (HK.out.trans k0) (by simp)) (by omega) (by simp) ?_)
 intro A5 n5 c5 l5 w5 hn5 hl5 O5 K5 hA5
 have HK5:=Lib.hid (k0.then K5 (by simp [ob]))
 have e5:l5=l:=by rw [hl5.out]; rfl
 rw [e5] at O5
 clear e5 hn5 hl5 K5 hA5 k0
 have HO5:=Lib.hid O5
 clear O5
 replace HB:=Lib.hid (HK5.out.heap HB.out (by simp))
 replace HF:=Lib.hid (HK5.out.heap HF.out (by simp))
 replace HX:=Lib.hid (HK5.out.heap HX.out (by simp))
 have hs5:=HK.out.size
 obtain ⟨q0,q1,q2,q3,q4,q5,q6,q7,q8,q9,q10,q11,qz,qlt,qlt2⟩:=cellsF HB.out
 obtain ⟨z0,z1,z2,z3,z4,z5,z6,z7,z8,z9,z10,z11,zz,zlt,zlt2⟩:=cellsF HF.out
 have x0:=cell_of HX.out 0
 have x1:=cell_of HX.out 1
 have x2:=cell_of HX.out 2
 have xz:=frozen_of HX.out
 go_wp2
 generalize hW:World.setCell _ _ _=W
 have K3:Kp [w.heap.size] w5 (World.setCell w5 ⟨w.heap.size,3,none⟩ (.slice A5 n5 c5)):=(Kp.refl _ _).setCell (.inl (by simp)) _
 obtain ⟨HF9,HX9,K9⟩:W.heap[w.heap.size+1]?=some (.cells #[.int .i64 9,.int .i64 fl,.int .i64 st,.slice A5 n5 c5,.int .i64 pad,.int .u32 0,.int .i64 0,.int .i64 0,.int .i64 0,.bool false,.int .i64 0,.slice none 0 0] 49)∧W.heap[w.heap.size+2]?=some (.cells #[.bool false,.int .i64 0,.int .i64 0] 64)∧Kp [w.heap.size+1,w.heap.size+2] (World.setCell w5 ⟨w.heap.size,3,none⟩ (.slice A5 n5 c5)) W:=by rw [← hW]; exact set15 (by omega) (K3.heap HF.out (by simp <;> omega)) (K3.heap HX.out (by simp <;> omega))
 refine bodyPost_ret (v:=.tuple #[.agg #[.int .i64 9,.int .i64 fl,.int .i64 st,.slice A5 n5 c5,.int .i64 pad,.int .u32 0,.int .i64 0,.int .i64 0,.int .i64 0,.bool false,.int .i64 0,.slice none 0 0],.agg #[.bool false,.int .i64 0,.int .i64 0]]) (by simp [results,Try.results156,go_sem,cell_of HF9,cell_of HX9]) rfl ⟨(⟨9,fl,st,A5,n5,c5,pad,0,0,0,0,false,0,none,0,0⟩:Fr),rfl,⟨rfl,((HO5.out.keep K3 ?_).keep K9 ?_).rd,Sd.nil _,fun t ht=>?_,by simp [ob]⟩,(((HK.out.trans HK5.out).then K3 (by simp)).then K9 (by simp))⟩
 ·intro t ht h2; have:=(HO5.out.base t ht).1; have:=lt_of_heap HB.out; have:=HLB.out; simp at h2; omega
 ·intro t ht h2; have:=(HO5.out.base t ht).1; have:=HLB.out; simp at h2; omega
 ·have:=(HO5.out.base t ht).1; omega
theorem rfields3 (fl st pad:Int) (A:Option Addr) (n c:Nat) (l:List UInt8) (w:World) (hr:Rd w A n c l) (hn:n≤16777216) (h4:4≤n):Calls Try.prog 156 #[.agg #[.int .i64 3,.int .i64 fl,.int .i64 st,.slice none 0 0,.int .i64 pad,.int .u32 0,.int .i64 0,.int .i64 0,.int .i64 0,.bool false,.int .i64 0,.slice none 0 0],.slice A n c] w (FldR (getS (f0S 3 fl st pad) l) w):=by
 have HR:=Lib.hid hr
 clear hr
 go_enter Try.func156,Try.ntmps156
 go_wp2_with fail
 generalize hW:World.alloc (World.alloc (World.alloc w _) _) _=w1
 have hsz:w1.heap.size=w.heap.size+1+1+1:=by rw [← hW]; simp
 have K1:Kp [] w w1:=by rw [← hW]; with_reducible (repeat (first|exact Kp.refl _ _|assumption|refine Kp.alloc ?_ _|refine Kp.drew ?_|refine Kp.drewN ?_ _|(refine Kp.setL ?_ ?_ _;focus (simp;done))|(refine Kp.setR ?_ ?_ _;focus (first|(simp;done)|(simp;omega)))))
 have HB:=Lib.hid (show w1.heap[w.heap.size]?=some (.cells #[.int .i64 3,.int .i64 fl,.int .i64 st,.slice none 0 0,.int .i64 pad,.int .u32 0,.int .i64 0,.int .i64 0,.int .i64 0,.bool false,.int .i64 0,.slice none 0 0] 49) by rw [← hW]; with_reducible (repeat (first|assumption|(refine hp_new _ _ _ ?_;focus (simp;done))|refine hpl ?_|(refine hpf ?_ ?_;focus (first|(simp;done)|(simp;omega)))|refine hpd ?_|refine hpe ?_)))
 have HF:=Lib.hid (show w1.heap[w.heap.size+1]?=some (.cells #[.int .i64 0,.int .i64 0,.int .i64 0,.slice none 0 0,.int .i64 0,.int .u32 0,.int .i64 0,.int .i64 0,.int .i64 0,.bool false,.int .i64 0,.slice none 0 0] 49) by rw [← hW]; with_reducible (repeat (first|assumption|(refine hp_new _ _ _ ?_;focus (simp;done))|refine hpl ?_|(refine hpf ?_ ?_;focus (first|(simp;done)|(simp;omega)))|refine hpd ?_|refine hpe ?_)))
 have HX:=Lib.hid (show w1.heap[w.heap.size+2]?=some (.cells #[.bool false,.int .i64 0,.int .i64 0] 64) by rw [← hW]; with_reducible (repeat (first|assumption|(refine hp_new _ _ _ ?_;focus (simp;done))|refine hpl ?_|(refine hpf ?_ ?_;focus (first|(simp;done)|(simp;omega)))|refine hpd ?_|refine hpe ?_)))
 have HK:=Lib.hid K1
 clear hW K1
 refine (refU32_at A n c 0 l w1 (by omega) (HR.out.keep HK.out (by simp)) (by omega)).mono ?_
 rintro e v2 ⟨p2,q2,rfl,K2⟩
 replace HB:=Lib.hid (K2.heap HB.out (by simp))
 replace HF:=Lib.hid (K2.heap HF.out (by simp))
 replace HX:=Lib.hid (K2.heap HX.out (by simp))
 replace HK:=Lib.hid (HK.out.trans K2)
 clear K2
 obtain ⟨q0,q1,q2,q3,q4,q5,q6,q7,q8,q9,q10,q11,qz,qlt,qlt2⟩:=cellsF HB.out
 obtain ⟨z0,z1,z2,z3,z4,z5,z6,z7,z8,z9,z10,z11,zz,zlt,zlt2⟩:=cellsF HF.out
 have x0:=cell_of HX.out 0
 have x1:=cell_of HX.out 1
 have x2:=cell_of HX.out 2
 have xz:=frozen_of HX.out
 go_wp2
 have K3:Kp [w.heap.size] v2 (World.setCell v2 ⟨w.heap.size,5,none⟩ (.int .u32 (n32 l 0))):=(Kp.refl _ _).setCell (.inl (by simp)) _
 replace HF:=Lib.hid (K3.heap HF.out (by simp <;> omega))
 replace HX:=Lib.hid (K3.heap HX.out (by simp <;> omega))
 replace HK:=Lib.hid (HK.out.then K3 (by simp))
 generalize hW:World.setCell _ _ _=W
 obtain ⟨HF9,HX9,K9⟩:W.heap[w.heap.size+1]?=some (.cells #[.int .i64 3,.int .i64 fl,.int .i64 st,.slice none 0 0,.int .i64 pad,.int .u32 (n32 l 0),.int .i64 0,.int .i64 0,.int .i64 0,.bool false,.int .i64 0,.slice none 0 0] 49)∧W.heap[w.heap.size+2]?=some (.cells #[.bool false,.int .i64 0,.int .i64 0] 64)∧Kp [w.heap.size+1,w.heap.size+2] (World.setCell v2 ⟨w.heap.size,5,none⟩ (.int .u32 (n32 l 0))) W:=by rw [← hW]; exact set15 (by omega) HF.out HX.out
 refine bodyPost_ret (v:=.tuple #[.agg #[.int .i64 3,.int .i64 fl,.int .i64 st,.slice none 0 0,.int .i64 pad,.int .u32 (n32 l 0),.int .i64 0,.int .i64 0,.int .i64 0,.bool false,.int .i64 0,.slice none 0 0],.agg #[.bool false,.int .i64 0,.int .i64 0]]) (by simp [results,Try.results156,go_sem,cell_of HF9,cell_of HX9]) rfl ⟨(⟨3,fl,st,none,0,0,pad,(n32 l 0),0,0,0,false,0,none,0,0⟩:Fr),rfl,⟨rfl,Rd.nil _ _ _,Sd.nil _,by simp [ob],by simp [ob]⟩,HK.out.then K9 (by simp)⟩
theorem rfields2 (fl st pad:Int) (A:Option Addr) (n c:Nat) (l:List UInt8) (w:World) (hr:Rd w A n c l) (hn:n≤16777216) (h5:5≤n):Calls Try.prog 156 #[.agg #[.int .i64 2,.int .i64 fl,.int .i64 st,.slice none 0 0,.int .i64 pad,.int .u32 0,.int .i64 0,.int .i64 0,.int .i64 0,.bool false,.int .i64 0,.slice none 0 0],.slice A n c] w (FldR (getS (f0S 2 fl st pad) l) w):=by
 have HR:=Lib.hid hr
 clear hr
 obtain ⟨x,hx⟩:∃ x,n31 l 0=x:=⟨_,rfl⟩
 obtain ⟨y0,hy0⟩:∃ y,(l.getD 0 0).toNat=y:=⟨_,rfl⟩
 obtain ⟨y4,hy4⟩:∃ y,(l.getD 4 0).toNat=y:=⟨_,rfl⟩
 have HX0:=Lib.hid hx
 have HY0:=Lib.hid hy0
 have HY4:=Lib.hid hy4
 clear hx hy0 hy4
 go_enter Try.func156,Try.ntmps156
 go_wp2_with fail
 generalize hW:World.alloc (World.alloc (World.alloc w _) _) _=w1
 have hsz:w1.heap.size=w.heap.size+1+1+1:=by rw [← hW]; simp
 have K1:Kp [] w w1:=by rw [← hW]; with_reducible (repeat (first|exact Kp.refl _ _|assumption|refine Kp.alloc ?_ _|refine Kp.drew ?_|refine Kp.drewN ?_ _|(refine Kp.setL ?_ ?_ _;focus (simp;done))|(refine Kp.setR ?_ ?_ _;focus (first|(simp;done)|(simp;omega)))))
 have HB:=Lib.hid (show w1.heap[w.heap.size]?=some (.cells #[.int .i64 2,.int .i64 fl,.int .i64 st,.slice none 0 0,.int .i64 pad,.int .u32 0,.int .i64 0,.int .i64 0,.int .i64 0,.bool false,.int .i64 0,.slice none 0 0] 49) by rw [← hW]; with_reducible (repeat (first|assumption|(refine hp_new _ _ _ ?_;focus (simp;done))|refine hpl ?_|(refine hpf ?_ ?_;focus (first|(simp;done)|(simp;omega)))|refine hpd ?_|refine hpe ?_)))
 have HF:=Lib.hid (show w1.heap[w.heap.size+1]?=some (.cells #[.int .i64 0,.int .i64 0,.int .i64 0,.slice none 0 0,.int .i64 0,.int .u32 0,.int .i64 0,.int .i64 0,.int .i64 0,.bool false,.int .i64 0,.slice none 0 0] 49) by rw [← hW]; with_reducible (repeat (first|assumption|(refine hp_new _ _ _ ?_;focus (simp;done))|refine hpl ?_|(refine hpf ?_ ?_;focus (first|(simp;done)|(simp;omega)))|refine hpd ?_|refine hpe ?_)))
 have HX:=Lib.hid (show w1.heap[w.heap.size+2]?=some (.cells #[.bool false,.int .i64 0,.int .i64 0] 64) by rw [← hW]; with_reducible (repeat (first|assumption|(refine hp_new _ _ _ ?_;focus (simp;done))|refine hpl ?_|(refine hpf ?_ ?_;focus (first|(simp;done)|(simp;omega)))|refine hpd ?_|refine hpe ?_)))
 have HK:=Lib.hid K1
 clear hW K1
 have hP:=rprior (⟨2,fl,st,none,0,0,pad,0,0,0,0,false,0,none,0,0⟩:Fr) A n c l w1 (HR.out.keep HK.out (by simp)) h5 (by omega)
 rw [HX0.out,HY0.out,HY4.out] at hP
 refine hP.mono ?_
 clear hP
 rintro e v2 ⟨rfl,K2⟩
 replace HB:=Lib.hid (K2.heap HB.out (by simp))
 replace HF:=Lib.hid (K2.heap HF.out (by simp))
 replace HX:=Lib.hid (K2.heap HX.out (by simp))
 replace HK:=Lib.hid (HK.out.trans K2)
 clear K2
 obtain ⟨q0,q1,q2,q3,q4,q5,q6,q7,q8,q9,q10,q11,qz,qlt,qlt2⟩:=cellsF HB.out
 obtain ⟨z0,z1,z2,z3,z4,z5,z6,z7,z8,z9,z10,z11,zz,zlt,zlt2⟩:=cellsF HF.out
 have x0:=cell_of HX.out 0
 have x1:=cell_of HX.out 1
 have x2:=cell_of HX.out 2
 have xz:=frozen_of HX.out
 go_wp2
 generalize hW:World.setCell _ _ _=W
 obtain ⟨HF9,HX9,K9⟩:W.heap[w.heap.size+1]?=some (.cells #[.int .i64 2,.int .i64 fl,.int .i64 st,.slice none 0 0,.int .i64 pad,.int .u32 0,.int .i64 0,.int .i64 0,.int .i64 x,.bool (decide (128≤y0)),.int .i64 ((y4:Int)+1),.slice none 0 0] 49)∧W.heap[w.heap.size+2]?=some (.cells #[.bool false,.int .i64 0,.int .i64 0] 64)∧Kp [w.heap.size+1,w.heap.size+2] v2 W:=by rw [← hW]; exact set15 (by omega) HF.out HX.out
 refine bodyPost_ret (v:=.tuple #[.agg #[.int .i64 2,.int .i64 fl,.int .i64 st,.slice none 0 0,.int .i64 pad,.int .u32 0,.int .i64 0,.int .i64 0,.int .i64 x,.bool (decide (128≤y0)),.int .i64 ((y4:Int)+1),.slice none 0 0],.agg #[.bool false,.int .i64 0,.int .i64 0]]) (by simp [results,Try.results156,go_sem,cell_of HF9,cell_of HX9]) rfl ⟨(⟨2,fl,st,none,0,0,pad,0,0,0,x,(decide (128≤y0)),((y4:Int)+1),none,0,0⟩:Fr),rfl,⟨(by have a:=HX0.out; have b:=HY0.out; have c':=HY4.out; subst a b c'; rfl),Rd.nil _ _ _,Sd.nil _,by simp [ob],by simp [ob]⟩,HK.out.then K9 (by simp)⟩
theorem rfields8 (fl st pad:Int) (A:Option Addr) (n c:Nat) (l:List UInt8) (w:World) (hr:Rd w A n c l) (hn:n≤16777216) (h4:4≤n) (hi:¬ n31 l 0=0):Calls Try.prog 156 #[.agg #[.int .i64 8,.int .i64 fl,.int .i64 st,.slice none 0 0,.int .i64 pad,.int .u32 0,.int .i64 0,.int .i64 0,.int .i64 0,.bool false,.int .i64 0,.slice none 0 0],.slice A n c] w (FldR (getS (f0S 8 fl st pad) l) w):=by
 have HR:=Lib.hid hr
 clear hr
 obtain ⟨x,hx⟩:∃ x,n31 l 0=x:=⟨_,rfl⟩
 have HX0:=Lib.hid hx
 rw [hx] at hi
 clear hx
 have hxb:(x == 0)=false:=by simpa using hi
 clear hi
 go_enter Try.func156,Try.ntmps156
 go_wp2_with fail
 generalize hW:World.alloc (World.alloc (World.alloc w _) _) _=w1
 have hsz:w1.heap.size=w.heap.size+1+1+1:=by rw [← hW]; simp
 have K1:Kp [] w w1:=by rw [← hW]; with_reducible (repeat (first|exact Kp.refl _ _|assumption|refine Kp.alloc ?_ _|refine Kp.drew ?_|refine Kp.drewN ?_ _|(refine Kp.setL ?_ ?_ _;focus (simp;done))|(refine Kp.setR ?_ ?_ _;focus (first|(simp;done)|(simp;omega)))))
 have HB:=Lib.hid (show w1.heap[w.heap.size]?=some (.cells #[.int .i64 8,.int .i64 fl,.int .i64 st,.slice none 0 0,.int .i64 pad,.int .u32 0,.int .i64 0,.int .i64 0,.int .i64 0,.bool false,.int .i64 0,.slice none 0 0] 49) by rw [← hW]; with_reducible (repeat (first|assumption|(refine hp_new _ _ _ ?_;focus (simp;done))|refine hpl ?_|(refine hpf ?_ ?_;focus (first|(simp;done)|(simp;omega)))|refine hpd ?_|refine hpe ?_)))
 have HF:=Lib.hid (show w1.heap[w.heap.size+1]?=some (.cells #[.int .i64 0,.int .i64 0,.int .i64 0,.slice none 0 0,.int .i64 0,.int .u32 0,.int .i64 0,.int .i64 0,.int .i64 0,.bool false,.int .i64 0,.slice none 0 0] 49) by rw [← hW]; with_reducible (repeat (first|assumption|(refine hp_new _ _ _ ?_;focus (simp;done))|refine hpl ?_|(refine hpf ?_ ?_;focus (first|(simp;done)|(simp;omega)))|refine hpd ?_|refine hpe ?_)))
 have HX:=Lib.hid (show w1.heap[w.heap.size+2]?=some (.cells #[.bool false,.int .i64 0,.int .i64 0] 64) by rw [← hW]; with_reducible (repeat (first|assumption|(refine hp_new _ _ _ ?_;focus (simp;done))|refine hpl ?_|(refine hpf ?_ ?_;focus (first|(simp;done)|(simp;omega)))|refine hpd ?_|refine hpe ?_)))
 have HK:=Lib.hid K1
 clear hW K1
 have hU:=refU31_at A n c 0 l w1 (by omega) (HR.out.keep HK.out (by simp)) (by omega)
 rw [show ((0:Nat):Int)=0 from rfl,HX0.out] at hU
 refine (hU).mono ?_
 clear hU
 rintro e v2 ⟨p2,q2,rfl,K2⟩
 replace HB:=Lib.hid (K2.heap HB.out (by simp))
 replace HF:=Lib.hid (K2.heap HF.out (by simp))
 replace HX:=Lib.hid (K2.heap HX.out (by simp))
 replace HK:=Lib.hid (HK.out.trans K2)
 clear K2
 obtain ⟨q0,q1,q2,q3,q4,q5,q6,q7,q8,q9,q10,q11,qz,qlt,qlt2⟩:=cellsF HB.out
 obtain ⟨z0,z1,z2,z3,z4,z5,z6,z7,z8,z9,z10,z11,zz,zlt,zlt2⟩:=cellsF HF.out
 have x0:=cell_of HX.out 0
 have x1:=cell_of HX.out 1
 have x2:=cell_of HX.out 2
 have xz:=frozen_of HX.out
 go_wp2
 have K3:Kp [w.heap.size] v2 (World.setCell v2 ⟨w.heap.size,7,none⟩ (.int .i64 x)):=(Kp.refl _ _).setCell (.inl (by simp)) _
 replace HF:=Lib.hid (K3.heap HF.out (by simp <;> omega))
 replace HX:=Lib.hid (K3.heap HX.out (by simp <;> omega))
 replace HK:=Lib.hid (HK.out.then K3 (by simp))
 generalize hW:World.setCell _ _ _=W
 obtain ⟨HF9,HX9,K9⟩:W.heap[w.heap.size+1]?=some (.cells #[.int .i64 8,.int .i64 fl,.int .i64 st,.slice none 0 0,.int .i64 pad,.int .u32 0,.int .i64 0,.int .i64 x,.int .i64 0,.bool false,.int .i64 0,.slice none 0 0] 49)∧W.heap[w.heap.size+2]?=some (.cells #[.bool false,.int .i64 0,.int .i64 0] 64)∧Kp [w.heap.size+1,w.heap.size+2] (World.setCell v2 ⟨w.heap.size,7,none⟩ (.int .i64 x)) W:=by rw [← hW]; exact set15 (by omega) HF.out HX.out
 refine bodyPost_ret (v:=.tuple #[.agg #[.int .i64 8,.int .i64 fl,.int .i64 st,.slice none 0 0,.int .i64 pad,.int .u32 0,.int .i64 0,.int .i64 x,.int .i64 0,.bool false,.int .i64 0,.slice none 0 0],.agg #[.bool false,.int .i64 0,.int .i64 0]]) (by simp [results,Try.results156,go_sem,cell_of HF9,cell_of HX9]) rfl ⟨(⟨8,fl,st,none,0,0,pad,0,0,x,0,false,0,none,0,0⟩:Fr),rfl,⟨(by have a:=HX0.out; subst a; rfl),Rd.nil _ _ _,Sd.nil _,by simp [ob],by simp [ob]⟩,HK.out.then K9 (by simp)⟩
theorem rfields8b (fl st pad:Int) (A:Option Addr) (n c:Nat) (l:List UInt8) (w:World) (hr:Rd w A n c l) (hn:n≤16777216) (h4:4≤n) (hi:n31 l 0=0):Calls Try.prog 156 #[.agg #[.int .i64 8,.int .i64 fl,.int .i64 st,.slice none 0 0,.int .i64 pad,.int .u32 0,.int .i64 0,.int .i64 0,.int .i64 0,.bool false,.int .i64 0,.slice none 0 0],.slice A n c] w (FldX st w):=by
 have HR:=Lib.hid hr
 clear hr
 obtain ⟨x,hx⟩:∃ x,n31 l 0=x:=⟨_,rfl⟩
 have HX0:=Lib.hid hx
 rw [hx] at hi
 clear hx
 subst hi
 go_enter Try.func156,Try.ntmps156
 go_wp2_with fail
 generalize hW:World.alloc (World.alloc (World.alloc w _) _) _=w1
 have hsz:w1.heap.size=w.heap.size+1+1+1:=by rw [← hW]; simp
 have K1:Kp [] w w1:=by rw [← hW]; with_reducible (repeat (first|exact Kp.refl _ _|assumption|refine Kp.alloc ?_ _|refine Kp.drew ?_|refine Kp.drewN ?_ _|(refine Kp.setL ?_ ?_ _;focus (simp;done))|(refine Kp.setR ?_ ?_ _;focus (first|(simp;done)|(simp;omega)))))
 have HB:=Lib.hid (show w1.heap[w.heap.size]?=some (.cells #[.int .i64 8,.int .i64 fl,.int .i64 st,.slice none 0 0,.int .i64 pad,.int .u32 0,.int .i64 0,.int .i64 0,.int .i64 0,.bool false,.int .i64 0,.slice none 0 0] 49) by rw [← hW]; with_reducible (repeat (first|assumption|(refine hp_new _ _ _ ?_;focus (simp;done))|refine hpl ?_|(refine hpf ?_ ?_;focus (first|(simp;done)|(simp;omega)))|refine hpd ?_|refine hpe ?_)))
 have HF:=Lib.hid (show w1.heap[w.heap.size+1]?=some (.cells #[.int .i64 0,.int .i64 0,.int .i64 0,.slice none 0 0,.int .i64 0,.int .u32 0,.int .i64 0,.int .i64 0,.int .i64 0,.bool false,.int .i64 0,.slice none 0 0] 49) by rw [← hW]; with_reducible (repeat (first|assumption|(refine hp_new _ _ _ ?_;focus (simp;done))|refine hpl ?_|(refine hpf ?_ ?_;focus (first|(simp;done)|(simp;omega)))|refine hpd ?_|refine hpe ?_)))
 have HX:=Lib.hid (show w1.heap[w.heap.size+2]?=some (.cells #[.bool false,.int .i64 0,.int .i64 0] 64) by rw [← hW]; with_reducible (repeat (first|assumption|(refine hp_new _ _ _ ?_;focus (simp;done))|refine hpl ?_|(refine hpf ?_ ?_;focus (first|(simp;done)|(simp;omega)))|refine hpd ?_|refine hpe ?_)))
 have HK:=Lib.hid K1
 clear hW K1
 have hU:=refU31_at A n c 0 l w1 (by omega) (HR.out.keep HK.out (by simp)) (by omega)
 rw [show ((0:Nat):Int)=0 from rfl,HX0.out] at hU
 refine (hU).mono ?_
 clear hU
 rintro e v2 ⟨p2,q2,rfl,K2⟩
 replace HB:=Lib.hid (K2.heap HB.out (by simp))
 replace HF:=Lib.hid (K2.heap HF.out (by simp))
 replace HX:=Lib.hid (K2.heap HX.out (by simp))
 replace HK:=Lib.hid (HK.out.trans K2)
 clear K2
 obtain ⟨q0,q1,q2,q3,q4,q5,q6,q7,q8,q9,q10,q11,qz,qlt,qlt2⟩:=cellsF HB.out
 obtain ⟨z0,z1,z2,z3,z4,z5,z6,z7,z8,z9,z10,z11,zz,zlt,zlt2⟩:=cellsF HF.out
 have x0:=cell_of HX.out 0
 have x1:=cell_of HX.out 1
 have x2:=cell_of HX.out 2
 have xz:=frozen_of HX.out
 go_wp2
 generalize hW:World.setCell v2 _ _=u2
 have K2:Kp [w.heap.size] v2 u2:=by rw [← hW]; exact (Kp.refl _ _).setCell (.inl (by simp)) _
 replace HB:=Lib.hid (show u2.heap[w.heap.size]?=some (.cells #[.int .i64 8,.int .i64 fl,.int .i64 st,.slice none 0 0,.int .i64 pad,.int .u32 0,.int .i64 0,.int .i64 0,.int .i64 0,.bool false,.int .i64 0,.slice none 0 0] 49) by rw [← hW]; exact hp_set _ _ _ _ _ _ HB.out)
 replace HF:=Lib.hid (K2.heap HF.out (by simp))
 replace HX:=Lib.hid (K2.heap HX.out (by simp <;> omega))
 replace HK:=Lib.hid (HK.out.then K2 (by simp))
 clear hW K2
 clear q0 q1 q2 q3 q4 q5 q6 q7 q8 q9 q10 q11 qz qlt qlt2 z0 z1 z2 z3 z4 z5 z6 z7 z8 z9 z10 z11 zz zlt zlt2 x0 x1 x2 xz
 obtain ⟨q0,q1,q2,q3,q4,q5,q6,q7,q8,q9,q10,q11,qz,qlt,qlt2⟩:=cellsF HB.out
 obtain ⟨z0,z1,z2,z3,z4,z5,z6,z7,z8,z9,z10,z11,zz,zlt,zlt2⟩:=cellsF HF.out
 have x0:=cell_of HX.out 0
 have x1:=cell_of HX.out 1
 have x2:=cell_of HX.out 2
 have xz:=frozen_of HX.out
 go_region
 go_wp2
 generalize hW:World.setCell _ _ _=W
 obtain ⟨HF9,HX9,K9⟩:W.heap[w.heap.size+1]?=some (.cells #[.int .i64 8,.int .i64 fl,.int .i64 st,.slice none 0 0,.int .i64 pad,.int .u32 0,.int .i64 0,.int .i64 0,.int .i64 0,.bool false,.int .i64 0,.slice none 0 0] 49)∧W.heap[w.heap.size+2]?=some (.cells #[.bool true,.int .i64 st,.int .i64 1] 64)∧Kp [w.heap.size+1,w.heap.size+2] u2 W:=by rw [← hW]; exact set15 (by omega) HF.out HX.out
 refine bodyPost_ret (v:=.tuple #[.agg #[.int .i64 8,.int .i64 fl,.int .i64 st,.slice none 0 0,.int .i64 pad,.int .u32 0,.int .i64 0,.int .i64 0,.int .i64 0,.bool false,.int .i64 0,.slice none 0 0],.agg #[.bool true,.int .i64 st,.int .i64 1]]) (by simp [results,Try.results156,go_sem,cell_of HF9,cell_of HX9]) rfl ⟨(⟨8,fl,st,none,0,0,pad,0,0,0,0,false,0,none,0,0⟩:Fr),rfl,(HK.out.then K9 (by simp)).drew⟩
theorem rfields5 (fl st pad:Int) (A:Option Addr) (n c:Nat) (l:List UInt8) (w:World) (hr:Rd w A n c l) (hn:n≤16777216) (hk:4≤n):Calls Try.prog 156 #[.agg #[.int .i64 5,.int .i64 fl,.int .i64 st,.slice none 0 0,.int .i64 pad,.int .u32 0,.int .i64 0,.int .i64 0,.int .i64 0,.bool false,.int .i64 0,.slice none 0 0],.slice A n c] w (FldR (getS (f0S 5 fl st pad) l) w):=by
 obtain ⟨b,o,rfl,_,_⟩:=hr.addr (by omega)
 have HR:=Lib.hid hr
 clear hr
 by_cases hc:c=4
 ·subst hc
  obtain rfl:n=4:=by have:=HR.out.cap; omega
  have hq:=HR.out.sub 4 4 (by omega) (by omega) (A':=(some ⟨b,o,none⟩)) (by intro b' o' h1 h2; omega)
  rw [List.take_of_length_le (by simp [HR.out.len])] at hq
  have HQ:=Lib.hid hq
  clear hq
  go_enter Try.func156,Try.ntmps156
  go_wp2_with fail
  generalize hW:World.alloc (World.alloc (World.alloc w _) _) _=w1
  have hsz:w1.heap.size=w.heap.size+1+1+1:=by rw [← hW]; simp
  have K1:Kp [] w w1:=by rw [← hW]; with_reducible (repeat (first|exact Kp.refl _ _|assumption|refine Kp.alloc ?_ _|refine Kp.drew ?_|refine Kp.drewN ?_ _|(refine Kp.setL ?_ ?_ _;focus (simp;done))|(refine Kp.setR ?_ ?_ _;focus (first|(simp;done)|(simp;omega)))))
  have HB:=Lib.hid (show w1.heap[w.heap.size]?=some (.cells #[.int .i64 5,.int .i64 fl,.int .i64 st,.slice none 0 0,.int .i64 pad,.int .u32 0,.int .i64 0,.int .i64 0,.int .i64 0,.bool false,.int .i64 0,.slice none 0 0] 49) by rw [← hW]; with_reducible (repeat (first|assumption|(refine hp_new _ _ _ ?_;focus (simp;done))|refine hpl ?_|(refine hpf ?_ ?_;focus (first|(simp;done)|(simp;omega)))|refine hpd ?_|refine hpe ?_)))
  have HF:=Lib.hid (show w1.heap[w.heap.size+1]?=some (.cells #[.int .i64 0,.int .i64 0,.int .i64 0,.slice none 0 0,.int .i64 0,.int .u32 0,.int .i64 0,.int .i64 0,.int .i64 0,.bool false,.int .i64 0,.slice none 0 0] 49) by rw [← hW]; with_reducible (repeat (first|assumption|(refine hp_new _ _ _ ?_;focus (simp;done))|refine hpl ?_|(refine hpf ?_ ?_;focus (first|(simp;done)|(simp;omega)))|refine hpd ?_|refine hpe ?_)))
  have HX:=Lib.hid (show w1.heap[w.heap.size+2]?=some (.cells #[.bool false,.int .i64 0,.int .i64 0] 64) by rw [← hW]; with_reducible (repeat (first|assumption|(refine hp_new _ _ _ ?_;focus (simp;done))|refine hpl ?_|(refine hpf ?_ ?_;focus (first|(simp;done)|(simp;omega)))|refine hpd ?_|refine hpe ?_)))
  have HK:=Lib.hid K1
  clear hW K1
  clear hsz
  refine (refU31_at (some ⟨b,o,none⟩) 4 4 0 l w1 (by omega) (HR.out.keep HK.out (by simp)) (by omega)).mono ?_
  rintro e v2 ⟨p2,q2,rfl,K2⟩
  replace HB:=Lib.hid (K2.heap HB.out (by simp))
  replace HF:=Lib.hid (K2.heap HF.out (by simp))
  replace HX:=Lib.hid (K2.heap HX.out (by simp))
  replace HK:=Lib.hid (HK.out.trans K2)
  clear K2
  obtain ⟨q0,q1,q2,q3,q4,q5,q6,q7,q8,q9,q10,q11,qz,qlt,qlt2⟩:=cellsF HB.out
  obtain ⟨z0,z1,z2,z3,z4,z5,z6,z7,z8,z9,z10,z11,zz,zlt,zlt2⟩:=cellsF HF.out
  have x0:=cell_of HX.out 0
  have x1:=cell_of HX.out 1
  have x2:=cell_of HX.out 2
  have xz:=frozen_of HX.out
  go_wp2_with (with_reducible refine stopAt (o:=⟨some 122,_,_,_,_,_⟩) ?_)
  generalize hW:World.setCell v2 _ _=u2
  have hsz:u2.heap.size=v2.heap.size:=by rw [← hW]; simp
  have K2:Kp [w.heap.size] v2 u2:=by rw [← hW]; exact (Kp.refl _ _).setCell (.inl (by simp)) _
  replace HB:=Lib.hid (show u2.heap[w.heap.size]?=some (.cells #[.int .i64 5,.int .i64 fl,.int .i64 st,.slice none 0 0,.int .i64 pad,.int .u32 0,.int .i64 (n31 l 0),.int .i64 0,.int .i64 0,.bool false,.int .i64 0,.slice none 0 0] 49) by rw [← hW]; exact hp_set _ _ _ _ _ _ HB.out)
  replace HF:=Lib.hid (K2.heap HF.out (by simp))
  replace HX:=Lib.hid (K2.heap HX.out (by simp <;> omega))
  replace HK:=Lib.hid (HK.out.then K2 (by simp))
  clear hW K2
  clear q0 q1 q2 q3 q4 q5 q6 q7 q8 q9 q10 q11 qz qlt qlt2 z0 z1 z2 z3 z4 z5 z6 z7 z8 z9 z10 z11 zz zlt zlt2 x0 x1 x2 xz
  rw [← hsz]
  clear hsz
  have HLB:=Lib.hid (show w.heap.size+2 < u2.heap.size from lt_of_heap HX.out)
  have k0:Kp [] u2 (u2.alloc (.cells #[] 5)):=(Kp.refl _ _).alloc _
  refine Stop.go (wp_appB rfl _ _ 22 5 rfl Try.underlying22 Try.info5 u2.heap.size _ 0 0 [] rfl (Ow.empty u2 u2.heap.size 5 1 (Nat.le_refl _)) (some ⟨b,o,none⟩) 0 0 (l.drop 4) rfl (HQ.out.keep (HK.out.trans k0) (by simp)) (by omega) (by simp) ?_)
  intro A5 n5 c5 l5 w5 hn5 hl5 O5 K5 hA5
  have HK5:=Lib.hid (k0.then K5 (by simp [ob]))
  have e5:l5=l.drop 4:=by rw [hl5.out]; rfl
  rw [e5] at O5
  clear e5 hn5 hl5 K5 hA5 k0
  have HO5:=Lib.hid O5
  clear O5
  replace HB:=Lib.hid (HK5.out.heap HB.out (by simp))
  replace HF:=Lib.hid (HK5.out.heap HF.out (by simp))
  replace HX:=Lib.hid (HK5.out.heap HX.out (by simp))
  have hs5:=HK.out.size
  obtain ⟨q0,q1,q2,q3,q4,q5,q6,q7,q8,q9,q10,q11,qz,qlt,qlt2⟩:=cellsF HB.out
  obtain ⟨z0,z1,z2,z3,z4,z5,z6,z7,z8,z9,z10,z11,zz,zlt,zlt2⟩:=cellsF HF.out
  have x0:=cell_of HX.out 0
  have x1:=cell_of HX.out 1
  have x2:=cell_of HX.out 2
  have xz:=frozen_of HX.out
  go_wp2
  generalize hW:World.setCell _ _ _=W
  have K3:Kp [w.heap.size] w5 (World.setCell w5 ⟨w.heap.size,3,none⟩ (.slice A5 n5 c5)):=(Kp.refl _ _).setCell (.inl (by simp)) _
  obtain ⟨HF9,HX9,K9⟩:W.heap[w.heap.size+1]?=some (.cells #[.int .i64 5,.int .i64 fl,.int .i64 st,.slice A5 n5 c5,.int .i64 pad,.int .u32 0,.int .i64 (n31 l 0),.int .i64 0,.int .i64 0,.bool false,.int .i64 0,.slice none 0 0] 49)∧W.heap[w.heap.size+2]?=some (.cells #[.bool false,.int .i64 0,.int .i64 0] 64)∧Kp [w.heap.size+1,w.heap.size+2] (World.setCell w5 ⟨w.heap.size,3,none⟩ (.slice A5 n5 c5)) W:=by rw [← hW]; exact set15 (by omega) (K3.heap HF.out (by simp <;> omega)) (K3.heap HX.out (by simp <;> omega))
  refine bodyPost_ret (v:=.tuple #[.agg #[.int .i64 5,.int .i64 fl,.int .i64 st,.slice A5 n5 c5,.int .i64 pad,.int .u32 0,.int .i64 (n31 l 0),.int .i64 0,.int .i64 0,.bool false,.int .i64 0,.slice none 0 0],.agg #[.bool false,.int .i64 0,.int .i64 0]]) (by simp [results,Try.results156,go_sem,cell_of HF9,cell_of HX9]) rfl ⟨(⟨5,fl,st,A5,n5,c5,pad,0,(n31 l 0),0,0,false,0,none,0,0⟩:Fr),rfl,⟨rfl,((HO5.out.keep K3 ?_).keep K9 ?_).rd,Sd.nil _,fun t ht=>?_,by simp [ob]⟩,(((HK.out.trans HK5.out).then K3 (by simp)).then K9 (by simp))⟩
  ·intro t ht h2; have:=(HO5.out.base t ht).1; have:=lt_of_heap HB.out; have:=HLB.out; simp at h2; omega
  ·intro t ht h2; have:=(HO5.out.base t ht).1; have:=HLB.out; simp at h2; omega
  ·have:=(HO5.out.base t ht).1; omega
 ·have hq:=HR.out.sub 4 n (by omega) (by omega) (A':=(some ⟨b,o+4,none⟩)) (by intro b' o' h1 h2; injection h1 with h1; injection h1 with h1 h3 _; rw [h1,h3])
  rw [List.take_of_length_le (by simp [HR.out.len])] at hq
  have HQ:=Lib.hid hq
  clear hq
  go_enter Try.func156,Try.ntmps156
  go_wp2_with fail
  generalize hW:World.alloc (World.alloc (World.alloc w _) _) _=w1
  have hsz:w1.heap.size=w.heap.size+1+1+1:=by rw [← hW]; simp
  have K1:Kp [] w w1:=by rw [← hW]; with_reducible (repeat (first|exact Kp.refl _ _|assumption|refine Kp.alloc ?_ _|refine Kp.drew ?_|refine Kp.drewN ?_ _|(refine Kp.setL ?_ ?_ _;focus (simp;done))|(refine Kp.setR ?_ ?_ _;focus (first|(simp;done)|(simp;omega)))))
  have HB:=Lib.hid (show w1.heap[w.heap.size]?=some (.cells #[.int .i64 5,.int .i64 fl,.int .i64 st,.slice none 0 0,.int .i64 pad,.int .u32 0,.int .i64 0,.int .i64 0,.int .i64 0,.bool false,.int .i64 0,.slice none 0 0] 49) by rw [← hW]; with_reducible (repeat (first|assumption|(refine hp_new _ _ _ ?_;focus (simp;done))|refine hpl ?_|(refine hpf ?_ ?_;focus (first|(simp;done)|(simp;omega)))|refine hpd ?_|refine hpe ?_)))
  have HF:=Lib.hid (show w1.heap[w.heap.size+1]?=some (.cells #[.int .i64 0,.int .i64 0,.int .i64 0,.slice none 0 0,.int .i64 0,.int .u32 0,.int .i64 0,.int .i64 0,.int .i64 0,.bool false,.int .i64 0,.slice none 0 0] 49) by rw [← hW]; with_reducible (repeat (first|assumption|(refine hp_new _ _ _ ?_;focus (simp;done))|refine hpl ?_|(refine hpf ?_ ?_;focus (first|(simp;done)|(simp;omega)))|refine hpd ?_|refine hpe ?_)))
  have HX:=Lib.hid (show w1.heap[w.heap.size+2]?=some (.cells #[.bool false,.int .i64 0,.int .i64 0] 64) by rw [← hW]; with_reducible (repeat (first|assumption|(refine hp_new _ _ _ ?_;focus (simp;done))|refine hpl ?_|(refine hpf ?_ ?_;focus (first|(simp;done)|(simp;omega)))|refine hpd ?_|refine hpe ?_)))
  have HK:=Lib.hid K1
  clear hW K1
  clear hsz
  refine (refU31_at (some ⟨b,o,none⟩) n c 0 l w1 (by omega) (HR.out.keep HK.out (by simp)) (by omega)).mono ?_
  rintro e v2 ⟨p2,q2,rfl,K2⟩
  replace HB:=Lib.hid (K2.heap HB.out (by simp))
  replace HF:=Lib.hid (K2.heap HF.out (by simp))
  replace HX:=Lib.hid (K2.heap HX.out (by simp))
  replace HK:=Lib.hid (HK.out.trans K2)
  clear K2
  obtain ⟨q0,q1,q2,q3,q4,q5,q6,q7,q8,q9,q10,q11,qz,qlt,qlt2⟩:=cellsF HB.out
  obtain ⟨z0,z1,z2,z3,z4,z5,z6,z7,z8,z9,z10,z11,zz,zlt,zlt2⟩:=cellsF HF.out
  have x0:=cell_of HX.out 0
  have x1:=cell_of HX.out 1
  have x2:=cell_of HX.out 2
  have xz:=frozen_of HX.out
  go_wp2_with (with_reducible refine stopAt (o:=⟨some 122,_,_,_,_,_⟩) ?_)
  generalize hW:World.setCell v2 _ _=u2
  have hsz:u2.heap.size=v2.heap.size:=by rw [← hW]; simp
  have K2:Kp [w.heap.size] v2 u2:=by rw [← hW]; exact (Kp.refl _ _).setCell (.inl (by simp)) _
  replace HB:=Lib.hid (show u2.heap[w.heap.size]?=some (.cells #[.int .i64 5,.int .i64 fl,.int .i64 st,.slice none 0 0,.int .i64 pad,.int .u32 0,.int .i64 (n31 l 0),.int .i64 0,.int .i64 0,.bool false,.int .i64 0,.slice none 0 0] 49) by rw [← hW]; exact hp_set _ _ _ _ _ _ HB.out)
  replace HF:=Lib.hid (K2.heap HF.out (by simp))
  replace HX:=Lib.hid (K2.heap HX.out (by simp <;> omega))
  replace HK:=Lib.hid (HK.out.then K2 (by simp))
  clear hW K2
  clear q0 q1 q2 q3 q4 q5 q6 q7 q8 q9 q10 q11 qz qlt qlt2 z0 z1 z2 z3 z4 z5 z6 z7 z8 z9 z10 z11 zz zlt zlt2 x0 x1 x2 xz
  rw [← hsz]
  clear hsz
  have HLB:=Lib.hid (show w.heap.size+2 < u2.heap.size from lt_of_heap HX.out)
  have k0:Kp [] u2 (u2.alloc (.cells #[] 5)):=(Kp.refl _ _).alloc _
  refine Stop.go (wp_appB rfl _ _ 22 5 rfl Try.underlying22 Try.info5 u2.heap.size _ 0 0 [] rfl (Ow.empty u2 u2.heap.size 5 1 (Nat.le_refl _)) (some ⟨b,o+4,none⟩) (n - 4) (c - 4) (l.drop 4) rfl (HQ.out.keep (HK.out.trans k0) (by simp)) (by omega) (by simp) ?_)
  intro A5 n5 c5 l5 w5 hn5 hl5 O5 K5 hA5
  have HK5:=Lib.hid (k0.then K5 (by simp [ob]))
  have e5:l5=l.drop 4:=by rw [hl5.out]; rfl
  rw [e5] at O5
  clear e5 hn5 hl5 K5 hA5 k0
  have HO5:=Lib.hid O5
  clear O5
  replace HB:=Lib.hid (HK5.out.heap HB.out (by simp))
  replace HF:=Lib.hid (HK5.out.heap HF.out (by simp))
  replace HX:=Lib.hid (HK5.out.heap HX.out (by simp))
  have hs5:=HK.out.size
  obtain ⟨q0,q1,q2,q3,q4,q5,q6,q7,q8,q9,q10,q11,qz,qlt,qlt2⟩:=cellsF HB.out
  obtain ⟨z0,z1,z2,z3,z4,z5,z6,z7,z8,z9,z10,z11,zz,zlt,zlt2⟩:=cellsF HF.out
  have x0:=cell_of HX.out 0
  have x1:=cell_of HX.out 1
  have x2:=cell_of HX.out 2
  have xz:=frozen_of HX.out
  go_wp2
  generalize hW:World.setCell _ _ _=W
  have K3:Kp [w.heap.size] w5 (World.setCell w5 ⟨w.heap.size,3,none⟩ (.slice A5 n5 c5)):=(Kp.refl _ _).setCell (.inl (by simp)) _
  obtain ⟨HF9,HX9,K9⟩:W.heap[w.heap.size+1]?=some (.cells #[.int .i64 5,.int .i64 fl,.int .i64 st,.slice A5 n5 c5,.int .i64 pad,.int .u32 0,.int .i64 (n31 l 0),.int .i64 0,.int .i64 0,.bool false,.int .i64 0,.slice none 0 0] 49)∧W.heap[w.heap.size+2]?=some (.cells #[.bool false,.int .i64 0,.int .i64 0] 64)∧Kp [w.heap.size+1,w.heap.size+2] (World.setCell w5 ⟨w.heap.size,3,none⟩ (.slice A5 n5 c5)) W:=by rw [← hW]; exact set15 (by omega) (K3.heap HF.out (by simp <;> omega)) (K3.heap HX.out (by simp <;> omega))
  refine bodyPost_ret (v:=.tuple #[.agg #[.int .i64 5,.int .i64 fl,.int .i64 st,.slice A5 n5 c5,.int .i64 pad,.int .u32 0,.int .i64 (n31 l 0),.int .i64 0,.int .i64 0,.bool false,.int .i64 0,.slice none 0 0],.agg #[.bool false,.int .i64 0,.int .i64 0]]) (by simp [results,Try.results156,go_sem,cell_of HF9,cell_of HX9]) rfl ⟨(⟨5,fl,st,A5,n5,c5,pad,0,(n31 l 0),0,0,false,0,none,0,0⟩:Fr),rfl,⟨rfl,((HO5.out.keep K3 ?_).keep K9 ?_).rd,Sd.nil _,fun t ht=>?_,by simp [ob]⟩,(((HK.out.trans HK5.out).then K3 (by simp)).then K9 (by simp))⟩
  ·intro t ht h2; have:=(HO5.out.base t ht).1; have:=lt_of_heap HB.out; have:=HLB.out; simp at h2; omega
  ·intro t ht h2; have:=(HO5.out.base t ht).1; have:=HLB.out; simp at h2; omega
  ·have:=(HO5.out.base t ht).1; omega
theorem rfields7 (fl st pad:Int) (A:Option Addr) (n c:Nat) (l:List UInt8) (w:World) (hr:Rd w A n c l) (hn:n≤16777216) (hk:8≤n):Calls Try.prog 156 #[.agg #[.int .i64 7,.int .i64 fl,.int .i64 st,.slice none 0 0,.int .i64 pad,.int .u32 0,.int .i64 0,.int .i64 0,.int .i64 0,.bool false,.int .i64 0,.slice none 0 0],.slice A n c] w (FldR (getS (f0S 7 fl st pad) l) w):=by
 obtain ⟨b,o,rfl,_,_⟩:=hr.addr (by omega)
 have HR:=Lib.hid hr
 clear hr
 by_cases hc:c=8
 ·subst hc
  obtain rfl:n=8:=by have:=HR.out.cap; omega
  have hq:=HR.out.sub 8 8 (by omega) (by omega) (A':=(some ⟨b,o,none⟩)) (by intro b' o' h1 h2; omega)
  rw [List.take_of_length_le (by simp [HR.out.len])] at hq
  have HQ:=Lib.hid hq
  clear hq
  go_enter Try.func156,Try.ntmps156
  go_wp2_with fail
  generalize hW:World.alloc (World.alloc (World.alloc w _) _) _=w1
  have hsz:w1.heap.size=w.heap.size+1+1+1:=by rw [← hW]; simp
  have K1:Kp [] w w1:=by rw [← hW]; with_reducible (repeat (first|exact Kp.refl _ _|assumption|refine Kp.alloc ?_ _|refine Kp.drew ?_|refine Kp.drewN ?_ _|(refine Kp.setL ?_ ?_ _;focus (simp;done))|(refine Kp.setR ?_ ?_ _;focus (first|(simp;done)|(simp;omega)))))
  have HB:=Lib.hid (show w1.heap[w.heap.size]?=some (.cells #[.int .i64 7,.int .i64 fl,.int .i64 st,.slice none 0 0,.int .i64 pad,.int .u32 0,.int .i64 0,.int .i64 0,.int .i64 0,.bool false,.int .i64 0,.slice none 0 0] 49) by rw [← hW]; with_reducible (repeat (first|assumption|(refine hp_new _ _ _ ?_;focus (simp;done))|refine hpl ?_|(refine hpf ?_ ?_;focus (first|(simp;done)|(simp;omega)))|refine hpd ?_|refine hpe ?_)))
  have HF:=Lib.hid (show w1.heap[w.heap.size+1]?=some (.cells #[.int .i64 0,.int .i64 0,.int .i64 0,.slice none 0 0,.int .i64 0,.int .u32 0,.int .i64 0,.int .i64 0,.int .i64 0,.bool false,.int .i64 0,.slice none 0 0] 49) by rw [← hW]; with_reducible (repeat (first|assumption|(refine hp_new _ _ _ ?_;focus (simp;done))|refine hpl ?_|(refine hpf ?_ ?_;focus (first|(simp;done)|(simp;omega)))|refine hpd ?_|refine hpe ?_)))
  have HX:=Lib.hid (show w1.heap[w.heap.size+2]?=some (.cells #[.bool false,.int .i64 0,.int .i64 0] 64) by rw [← hW]; with_reducible (repeat (first|assumption|(refine hp_new _ _ _ ?_;focus (simp;done))|refine hpl ?_|(refine hpf ?_ ?_;focus (first|(simp;done)|(simp;omega)))|refine hpd ?_|refine hpe ?_)))
  have HK:=Lib.hid K1
  clear hW K1
  clear hsz
  refine (refU31_at (some ⟨b,o,none⟩) 8 8 0 l w1 (by omega) (HR.out.keep HK.out (by simp)) (by omega)).mono ?_
  rintro e v2 ⟨p2,q2,rfl,K2⟩
  replace HB:=Lib.hid (K2.heap HB.out (by simp))
  replace HF:=Lib.hid (K2.heap HF.out (by simp))
  replace HX:=Lib.hid (K2.heap HX.out (by simp))
  replace HK:=Lib.hid (HK.out.trans K2)
  clear K2
  obtain ⟨q0,q1,q2,q3,q4,q5,q6,q7,q8,q9,q10,q11,qz,qlt,qlt2⟩:=cellsF HB.out
  obtain ⟨z0,z1,z2,z3,z4,z5,z6,z7,z8,z9,z10,z11,zz,zlt,zlt2⟩:=cellsF HF.out
  have x0:=cell_of HX.out 0
  have x1:=cell_of HX.out 1
  have x2:=cell_of HX.out 2
  have xz:=frozen_of HX.out
  go_wp2_with fail
  generalize hW:World.setCell v2 _ _=u2
  have K2:Kp [w.heap.size] v2 u2:=by rw [← hW]; exact (Kp.refl _ _).setCell (.inl (by simp)) _
  replace HB:=Lib.hid (show u2.heap[w.heap.size]?=some (.cells #[.int .i64 7,.int .i64 fl,.int .i64 st,.slice none 0 0,.int .i64 pad,.int .u32 0,.int .i64 (n31 l 0),.int .i64 0,.int .i64 0,.bool false,.int .i64 0,.slice none 0 0] 49) by rw [← hW]; exact hp_set _ _ _ _ _ _ HB.out)
  replace HF:=Lib.hid (K2.heap HF.out (by simp))
  replace HX:=Lib.hid (K2.heap HX.out (by simp <;> omega))
  replace HK:=Lib.hid (HK.out.then K2 (by simp))
  clear hW K2
  clear q0 q1 q2 q3 q4 q5 q6 q7 q8 q9 q10 q11 qz qlt qlt2 z0 z1 z2 z3 z4 z5 z6 z7 z8 z9 z10 z11 zz zlt zlt2 x0 x1 x2 xz
  refine (refU32_at (some ⟨b,o,none⟩) 8 8 4 l u2 (by omega) (HR.out.keep HK.out (by simp)) (by omega)).mono ?_
  rintro e v3 ⟨p3,q3,rfl,K3⟩
  replace HB:=Lib.hid (K3.heap HB.out (by simp))
  replace HF:=Lib.hid (K3.heap HF.out (by simp))
  replace HX:=Lib.hid (K3.heap HX.out (by simp))
  replace HK:=Lib.hid (HK.out.trans K3)
  clear K3
  obtain ⟨q0,q1,q2,q3,q4,q5,q6,q7,q8,q9,q10,q11,qz,qlt,qlt2⟩:=cellsF HB.out
  obtain ⟨z0,z1,z2,z3,z4,z5,z6,z7,z8,z9,z10,z11,zz,zlt,zlt2⟩:=cellsF HF.out
  have x0:=cell_of HX.out 0
  have x1:=cell_of HX.out 1
  have x2:=cell_of HX.out 2
  have xz:=frozen_of HX.out
  go_wp2_with (with_reducible refine stopAt (o:=⟨some 122,_,_,_,_,_⟩) ?_)
  generalize hW:World.setCell v3 _ _=u3
  have hsz:u3.heap.size=v3.heap.size:=by rw [← hW]; simp
  have K3:Kp [w.heap.size] v3 u3:=by rw [← hW]; exact (Kp.refl _ _).setCell (.inl (by simp)) _
  replace HB:=Lib.hid (show u3.heap[w.heap.size]?=some (.cells #[.int .i64 7,.int .i64 fl,.int .i64 st,.slice none 0 0,.int .i64 pad,.int .u32 (n32 l 4),.int .i64 (n31 l 0),.int .i64 0,.int .i64 0,.bool false,.int .i64 0,.slice none 0 0] 49) by rw [← hW]; exact hp_set _ _ _ _ _ _ HB.out)
  replace HF:=Lib.hid (K3.heap HF.out (by simp))
  replace HX:=Lib.hid (K3.heap HX.out (by simp <;> omega))
  replace HK:=Lib.hid (HK.out.then K3 (by simp))
  clear hW K3
  clear q0 q1 q2 q3 q4 q5 q6 q7 q8 q9 q10 q11 qz qlt qlt2 z0 z1 z2 z3 z4 z5 z6 z7 z8 z9 z10 z11 zz zlt zlt2 x0 x1 x2 xz
  rw [← hsz]
  clear hsz
  have HLB:=Lib.hid (show w.heap.size+2 < u3.heap.size from lt_of_heap HX.out)
  have k0:Kp [] u3 (u3.alloc (.cells #[] 5)):=(Kp.refl _ _).alloc _
  refine Stop.go (wp_appB rfl _ _ 22 5 rfl Try.underlying22 Try.info5 u3.heap.size _ 0 0 [] rfl (Ow.empty u3 u3.heap.size 5 1 (Nat.le_refl _)) (some ⟨b,o,none⟩) 0 0 (l.drop 8) rfl (HQ.out.keep (HK.out.trans k0) (by simp)) (by omega) (by simp) ?_)
  intro A5 n5 c5 l5 w5 hn5 hl5 O5 K5 hA5
  have HK5:=Lib.hid (k0.then K5 (by simp [ob]))
  have e5:l5=l.drop 8:=by rw [hl5.out]; rfl
  rw [e5] at O5
  clear e5 hn5 hl5 K5 hA5 k0
  have HO5:=Lib.hid O5
  clear O5
  replace HB:=Lib.hid (HK5.out.heap HB.out (by simp))
  replace HF:=Lib.hid (HK5.out.heap HF.out (by simp))
  replace HX:=Lib.hid (HK5.out.heap HX.out (by simp))
  have hs5:=HK.out.size
  obtain ⟨q0,q1,q2,q3,q4,q5,q6,q7,q8,q9,q10,q11,qz,qlt,qlt2⟩:=cellsF HB.out
  obtain ⟨z0,z1,z2,z3,z4,z5,z6,z7,z8,z9,z10,z11,zz,zlt,zlt2⟩:=cellsF HF.out
  have x0:=cell_of HX.out 0
  have x1:=cell_of HX.out 1
  have x2:=cell_of HX.out 2
  have xz:=frozen_of HX.out
  go_wp2
  generalize hW:World.setCell _ _ _=W
  have K3:Kp [w.heap.size] w5 (World.setCell w5 ⟨w.heap.size,3,none⟩ (.slice A5 n5 c5)):=(Kp.refl _ _).setCell (.inl (by simp)) _
  obtain ⟨HF9,HX9,K9⟩:W.heap[w.heap.size+1]?=some (.cells #[.int .i64 7,.int .i64 fl,.int .i64 st,.slice A5 n5 c5,.int .i64 pad,.int .u32 (n32 l 4),.int .i64 (n31 l 0),.int .i64 0,.int .i64 0,.bool false,.int .i64 0,.slice none 0 0] 49)∧W.heap[w.heap.size+2]?=some (.cells #[.bool false,.int .i64 0,.int .i64 0] 64)∧Kp [w.heap.size+1,w.heap.size+2] (World.setCell w5 ⟨w.heap.size,3,none⟩ (.slice A5 n5 c5)) W:=by rw [← hW]; exact set15 (by omega) (K3.heap HF.out (by simp <;> omega)) (K3.heap HX.out (by simp <;> omega))
  refine bodyPost_ret (v:=.tuple #[.agg #[.int .i64 7,.int .i64 fl,.int .i64 st,.slice A5 n5 c5,.int .i64 pad,.int .u32 (n32 l 4),.int .i64 (n31 l 0),.int .i64 0,.int .i64 0,.bool false,.int .i64 0,.slice none 0 0],.agg #[.bool false,.int .i64 0,.int .i64 0]]) (by simp [results,Try.results156,go_sem,cell_of HF9,cell_of HX9]) rfl ⟨(⟨7,fl,st,A5,n5,c5,pad,(n32 l 4),(n31 l 0),0,0,false,0,none,0,0⟩:Fr),rfl,⟨rfl,((HO5.out.keep K3 ?_).keep K9 ?_).rd,Sd.nil _,fun t ht=>?_,by simp [ob]⟩,(((HK.out.trans HK5.out).then K3 (by simp)).then K9 (by simp))⟩
  ·intro t ht h2; have:=(HO5.out.base t ht).1; have:=lt_of_heap HB.out; have:=HLB.out; simp at h2; omega
  ·intro t ht h2; have:=(HO5.out.base t ht).1; have:=HLB.out; simp at h2; omega
  ·have:=(HO5.out.base t ht).1; omega
 ·have hq:=HR.out.sub 8 n (by omega) (by omega) (A':=(some ⟨b,o+8,none⟩)) (by intro b' o' h1 h2; injection h1 with h1; injection h1 with h1 h3 _; rw [h1,h3])
  rw [List.take_of_length_le (by simp [HR.out.len])] at hq
  have HQ:=Lib.hid hq
  clear hq
  go_enter Try.func156,Try.ntmps156
  go_wp2_with fail
  generalize hW:World.alloc (World.alloc (World.alloc w _) _) _=w1
  have hsz:w1.heap.size=w.heap.size+1+1+1:=by rw [← hW]; simp
  have K1:Kp [] w w1:=by rw [← hW]; with_reducible (repeat (first|exact Kp.refl _ _|assumption|refine Kp.alloc ?_ _|refine Kp.drew ?_|refine Kp.drewN ?_ _|(refine Kp.setL ?_ ?_ _;focus (simp;done))|(refine Kp.setR ?_ ?_ _;focus (first|(simp;done)|(simp;omega)))))
  have HB:=Lib.hid (show w1.heap[w.heap.size]?=some (.cells #[.int .i64 7,.int .i64 fl,.int .i64 st,.slice none 0 0,.int .i64 pad,.int .u32 0,.int .i64 0,.int .i64 0,.int .i64 0,.bool false,.int .i64 0,.slice none 0 0] 49) by rw [← hW]; with_reducible (repeat (first|assumption|(refine hp_new _ _ _ ?_;focus (simp;done))|refine hpl ?_|(refine hpf ?_ ?_;focus (first|(simp;done)|(simp;omega)))|refine hpd ?_|refine hpe ?_)))
  have HF:=Lib.hid (show w1.heap[w.heap.size+1]?=some (.cells #[.int .i64 0,.int .i64 0,.int .i64 0,.slice none 0 0,.int .i64 0,.int .u32 0,.int .i64 0,.int .i64 0,.int .i64 0,.bool false,.int .i64 0,.slice none 0 0] 49) by rw [← hW]; with_reducible (repeat (first|assumption|(refine hp_new _ _ _ ?_;focus (simp;done))|refine hpl ?_|(refine hpf ?_ ?_;focus (first|(simp;done)|(simp;omega)))|refine hpd ?_|refine hpe ?_)))
  have HX:=Lib.hid (show w1.heap[w.heap.size+2]?=some (.cells #[.bool false,.int .i64 0,.int .i64 0] 64) by rw [← hW]; with_reducible (repeat (first|assumption|(refine hp_new _ _ _ ?_;focus (simp;done))|refine hpl ?_|(refine hpf ?_ ?_;focus (first|(simp;done)|(simp;omega)))|refine hpd ?_|refine hpe ?_)))
  have HK:=Lib.hid K1
  clear hW K1
  clear hsz
  refine (refU31_at (some ⟨b,o,none⟩) n c 0 l w1 (by omega) (HR.out.keep HK.out (by simp)) (by omega)).mono ?_
  rintro e v2 ⟨p2,q2,rfl,K2⟩
  replace HB:=Lib.hid (K2.heap HB.out (by simp))
  replace HF:=Lib.hid (K2.heap HF.out (by simp))
  replace HX:=Lib.hid (K2.heap HX.out (by simp))
  replace HK:=Lib.hid (HK.out.trans K2)
  clear K2
  obtain ⟨q0,q1,q2,q3,q4,q5,q6,q7,q8,q9,q10,q11,qz,qlt,qlt2⟩:=cellsF HB.out
  obtain ⟨z0,z1,z2,z3,z4,z5,z6,z7,z8,z9,z10,z11,zz,zlt,zlt2⟩:=cellsF HF.out
  have x0:=cell_of HX.out 0
  have x1:=cell_of HX.out 1
  have x2:=cell_of HX.out 2
  have xz:=frozen_of HX.out
  go_wp2_with fail
  generalize hW:World.setCell v2 _ _=u2
  have K2:Kp [w.heap.size] v2 u2:=by rw [← hW]; exact (Kp.refl _ _).setCell (.inl (by simp)) _
  replace HB:=Lib.hid (show u2.heap[w.heap.size]?=some (.cells #[.int .i64 7,.int .i64 fl,.int .i64 st,.slice none 0 0,.int .i64 pad,.int .u32 0,.int .i64 (n31 l 0),.int .i64 0,.int .i64 0,.bool false,.int .i64 0,.slice none 0 0] 49) by rw [← hW]; exact hp_set _ _ _ _ _ _ HB.out)
  replace HF:=Lib.hid (K2.heap HF.out (by simp))
  replace HX:=Lib.hid (K2.heap HX.out (by simp <;> omega))
  replace HK:=Lib.hid (HK.out.then K2 (by simp))
  clear hW K2
  clear q0 q1 q2 q3 q4 q5 q6 q7 q8 q9 q10 q11 qz qlt qlt2 z0 z1 z2 z3 z4 z5 z6 z7 z8 z9 z10 z11 zz zlt zlt2 x0 x1 x2 xz
  refine (refU32_at (some ⟨b,o,none⟩) n c 4 l u2 (by omega) (HR.out.keep HK.out (by simp)) (by omega)).mono ?_
  rintro e v3 ⟨p3,q3,rfl,K3⟩
  replace HB:=Lib.hid (K3.heap HB.out (by simp))
  replace HF:=Lib.hid (K3.heap HF.out (by simp))
  replace HX:=Lib.hid (K3.heap HX.out (by simp))
  replace HK:=Lib.hid (HK.out.trans K3)
  clear K3
  obtain ⟨q0,q1,q2,q3,q4,q5,q6,q7,q8,q9,q10,q11,qz,qlt,qlt2⟩:=cellsF HB.out
  obtain ⟨z0,z1,z2,z3,z4,z5,z6,z7,z8,z9,z10,z11,zz,zlt,zlt2⟩:=cellsF HF.out
  have x0:=cell_of HX.out 0
  have x1:=cell_of HX.out 1
  have x2:=cell_of HX.out 2
  have xz:=frozen_of HX.out
  go_wp2_with (with_reducible refine stopAt (o:=⟨some 122,_,_,_,_,_⟩) ?_)
  generalize hW:World.setCell v3 _ _=u3
  have hsz:u3.heap.size=v3.heap.size:=by rw [← hW]; simp
  have K3:Kp [w.heap.size] v3 u3:=by rw [← hW]; exact (Kp.refl _ _).setCell (.inl (by simp)) _
  replace HB:=Lib.hid (show u3.heap[w.heap.size]?=some (.cells #[.int .i64 7,.int .i64 fl,.int .i64 st,.slice none 0 0,.int .i64 pad,.int .u32 (n32 l 4),.int .i64 (n31 l 0),.int .i64 0,.int .i64 0,.bool false,.int .i64 0,.slice none 0 0] 49) by rw [← hW]; exact hp_set _ _ _ _ _ _ HB.out)
  replace HF:=Lib.hid (K3.heap HF.out (by simp))
  replace HX:=Lib.hid (K3.heap HX.out (by simp <;> omega))
  replace HK:=Lib.hid (HK.out.then K3 (by simp))
  clear hW K3
  clear q0 q1 q2 q3 q4 q5 q6 q7 q8 q9 q10 q11 qz qlt qlt2 z0 z1 z2 z3 z4 z5 z6 z7 z8 z9 z10 z11 zz zlt zlt2 x0 x1 x2 xz
  rw [← hsz]
  clear hsz
  have HLB:=Lib.hid (show w.heap.size+2 < u3.heap.size from lt_of_heap HX.out)
  have k0:Kp [] u3 (u3.alloc (.cells #[] 5)):=(Kp.refl _ _).alloc _
  refine Stop.go (wp_appB rfl _ _ 22 5 rfl Try.underlying22 Try.info5 u3.heap.size _ 0 0 [] rfl (Ow.empty u3 u3.heap.size 5 1 (Nat.le_refl _)) (some ⟨b,o+8,none⟩) (n - 8) (c - 8) (l.drop 8) rfl (HQ.out.keep (HK.out.trans k0) (by simp)) (by omega) (by simp) ?_)
  intro A5 n5 c5 l5 w5 hn5 hl5 O5 K5 hA5
  have HK5:=Lib.hid (k0.then K5 (by simp [ob]))
  have e5:l5=l.drop 8:=by rw [hl5.out]; rfl
  rw [e5] at O5
  clear e5 hn5 hl5 K5 hA5 k0
  have HO5:=Lib.hid O5
  clear O5
  replace HB:=Lib.hid (HK5.out.heap HB.out (by simp))
  replace HF:=Lib.hid (HK5.out.heap HF.out (by simp))
  replace HX:=Lib.hid (HK5.out.heap HX.out (by simp))
  have hs5:=HK.out.size
  obtain ⟨q0,q1,q2,q3,q4,q5,q6,q7,q8,q9,q10,q11,qz,qlt,qlt2⟩:=cellsF HB.out
  obtain ⟨z0,z1,z2,z3,z4,z5,z6,z7,z8,z9,z10,z11,zz,zlt,zlt2⟩:=cellsF HF.out
  have x0:=cell_of HX.out 0
  have x1:=cell_of HX.out 1
  have x2:=cell_of HX.out 2
  have xz:=frozen_of HX.out
  go_wp2
  generalize hW:World.setCell _ _ _=W
  have K3:Kp [w.heap.size] w5 (World.setCell w5 ⟨w.heap.size,3,none⟩ (.slice A5 n5 c5)):=(Kp.refl _ _).setCell (.inl (by simp)) _
  obtain ⟨HF9,HX9,K9⟩:W.heap[w.heap.size+1]?=some (.cells #[.int .i64 7,.int .i64 fl,.int .i64 st,.slice A5 n5 c5,.int .i64 pad,.int .u32 (n32 l 4),.int .i64 (n31 l 0),.int .i64 0,.int .i64 0,.bool false,.int .i64 0,.slice none 0 0] 49)∧W.heap[w.heap.size+2]?=some (.cells #[.bool false,.int .i64 0,.int .i64 0] 64)∧Kp [w.heap.size+1,w.heap.size+2] (World.setCell w5 ⟨w.heap.size,3,none⟩ (.slice A5 n5 c5)) W:=by rw [← hW]; exact set15 (by omega) (K3.heap HF.out (by simp <;> omega)) (K3.heap HX.out (by simp <;> omega))
  refine bodyPost_ret (v:=.tuple #[.agg #[.int .i64 7,.int .i64 fl,.int .i64 st,.slice A5 n5 c5,.int .i64 pad,.int .u32 (n32 l 4),.int .i64 (n31 l 0),.int .i64 0,.int .i64 0,.bool false,.int .i64 0,.slice none 0 0],.agg #[.bool false,.int .i64 0,.int .i64 0]]) (by simp [results,Try.results156,go_sem,cell_of HF9,cell_of HX9]) rfl ⟨(⟨7,fl,st,A5,n5,c5,pad,(n32 l 4),(n31 l 0),0,0,false,0,none,0,0⟩:Fr),rfl,⟨rfl,((HO5.out.keep K3 ?_).keep K9 ?_).rd,Sd.nil _,fun t ht=>?_,by simp [ob]⟩,(((HK.out.trans HK5.out).then K3 (by simp)).then K9 (by simp))⟩
  ·intro t ht h2; have:=(HO5.out.base t ht).1; have:=lt_of_heap HB.out; have:=HLB.out; simp at h2; omega
  ·intro t ht h2; have:=(HO5.out.base t ht).1; have:=HLB.out; simp at h2; omega
  ·have:=(HO5.out.base t ht).1; omega
theorem rfields1f (fl st pad:Int) (A:Option Addr) (n c:Nat) (l:List UInt8) (w:World) (hr:Rd w A n c l) (hn:n≤16777216) (hf0:0≤fl) (hf1:fl≤255) (h32:hasB fl 32=false):Calls Try.prog 156 #[.agg #[.int .i64 1,.int .i64 fl,.int .i64 st,.slice none 0 0,.int .i64 pad,.int .u32 0,.int .i64 0,.int .i64 0,.int .i64 0,.bool false,.int .i64 0,.slice none 0 0],.slice A n c] w (FldR (getS (f0S 1 fl st pad) l) w):=by
 have HR:=Lib.hid hr
 have H32:=Lib.hid h32
 have HPR:=Lib.hid (show prioB 1 fl=false by simp [prioB,h32])
 have eg:getS (f0S 1 fl st pad) l=⟨1,fl,st,l,pad,0,0,0,0,false,0,[]⟩:=by simp [getS,f0S,h32]
 rw [eg]
 clear hr h32 eg
 go_enter Try.func156,Try.ntmps156
 go_wp2_with fail
 generalize hW:World.alloc (World.alloc (World.alloc w _) _) _=w1
 have hsz:w1.heap.size=w.heap.size+1+1+1:=by rw [← hW]; simp
 have K1:Kp [] w w1:=by rw [← hW]; with_reducible (repeat (first|exact Kp.refl _ _|assumption|refine Kp.alloc ?_ _|refine Kp.drew ?_|refine Kp.drewN ?_ _|(refine Kp.setL ?_ ?_ _;focus (simp;done))|(refine Kp.setR ?_ ?_ _;focus (first|(simp;done)|(simp;omega)))))
 have HB:=Lib.hid (show w1.heap[w.heap.size]?=some (.cells #[.int .i64 1,.int .i64 fl,.int .i64 st,.slice none 0 0,.int .i64 pad,.int .u32 0,.int .i64 0,.int .i64 0,.int .i64 0,.bool false,.int .i64 0,.slice none 0 0] 49) by rw [← hW]; with_reducible (repeat (first|assumption|(refine hp_new _ _ _ ?_;focus (simp;done))|refine hpl ?_|(refine hpf ?_ ?_;focus (first|(simp;done)|(simp;omega)))|refine hpd ?_|refine hpe ?_)))
 have HF:=Lib.hid (show w1.heap[w.heap.size+1]?=some (.cells #[.int .i64 0,.int .i64 0,.int .i64 0,.slice none 0 0,.int .i64 0,.int .u32 0,.int .i64 0,.int .i64 0,.int .i64 0,.bool false,.int .i64 0,.slice none 0 0] 49) by rw [← hW]; with_reducible (repeat (first|assumption|(refine hp_new _ _ _ ?_;focus (simp;done))|refine hpl ?_|(refine hpf ?_ ?_;focus (first|(simp;done)|(simp;omega)))|refine hpd ?_|refine hpe ?_)))
 have HX:=Lib.hid (show w1.heap[w.heap.size+2]?=some (.cells #[.bool false,.int .i64 0,.int .i64 0] 64) by rw [← hW]; with_reducible (repeat (first|assumption|(refine hp_new _ _ _ ?_;focus (simp;done))|refine hpl ?_|(refine hpf ?_ ?_;focus (first|(simp;done)|(simp;omega)))|refine hpd ?_|refine hpe ?_)))
 have HK:=Lib.hid K1
 clear hW K1
 clear hsz
 refine (rprio1 fl _ hf0 hf1).mono ?_
 rintro e w2 ⟨rfl,rfl⟩
 rw [HPR.out]
 obtain ⟨q0,q1,q2,q3,q4,q5,q6,q7,q8,q9,q10,q11,qz,qlt,qlt2⟩:=cellsF HB.out
 obtain ⟨z0,z1,z2,z3,z4,z5,z6,z7,z8,z9,z10,z11,zz,zlt,zlt2⟩:=cellsF HF.out
 have x0:=cell_of HX.out 0
 have x1:=cell_of HX.out 1
 have x2:=cell_of HX.out 2
 have xz:=frozen_of HX.out
 go_wp2_with (with_reducible refine stopAt (o:=⟨some 122,_,_,_,_,_⟩) ?_)
 clear q0 q1 q2 q3 q4 q5 q6 q7 q8 q9 q10 q11 qz qlt qlt2 z0 z1 z2 z3 z4 z5 z6 z7 z8 z9 z10 z11 zz zlt zlt2 x0 x1 x2 xz
 have HLB:=Lib.hid (show w.heap.size+2 < w1.heap.size from lt_of_heap HX.out)
 have k0:Kp [] w1 (w1.alloc (.cells #[] 5)):=(Kp.refl _ _).alloc _
 refine Stop.go (wp_appB rfl _ _ 22 5 rfl Try.underlying22 Try.info5 w1.heap.size _ 0 0 [] rfl (Ow.empty w1 w1.heap.size 5 1 (Nat.le_refl _)) A n c (l) rfl (HR.out.keep (HK.out.trans k0) (by simp)) (by omega) (by simp) ?_)
 intro A5 n5 c5 l5 w5 hn5 hl5 O5 K5 hA5
 have HK5:=Lib.hid (k0.then K5 (by simp [ob]))
 have e5:l5=l:=by rw [hl5.out]; rfl
 rw [e5] at O5
 clear e5 hn5 hl5 K5 hA5 k0
 have HO5:=Lib.hid O5
 clear O5
 replace HB:=Lib.hid (HK5.out.heap HB.out (by simp))
 replace HF:=Lib.hid (HK5.out.heap HF.out (by simp))
 replace HX:=Lib.hid (HK5.out.heap HX.out (by simp))
 have hs5:=HK.out.size
 obtain ⟨q0,q1,q2,q3,q4,q5,q6,q7,q8,q9,q10,q11,qz,qlt,qlt2⟩:=cellsF HB.out
 obtain ⟨z0,z1,z2,z3,z4,z5,z6,z7,z8,z9,z10,z11,zz,zlt,zlt2⟩:=cellsF HF.out
 have x0:=cell_of HX.out 0
 have x1:=cell_of HX.out 1
 have x2:=cell_of HX.out 2
 have xz:=frozen_of HX.out
 go_wp2
 generalize hW:World.setCell _ _ _=W
 have K3:Kp [w.heap.size] w5 (World.setCell w5 ⟨w.heap.size,3,none⟩ (.slice A5 n5 c5)):=(Kp.refl _ _).setCell (.inl (by simp)) _
 obtain ⟨HF9,HX9,K9⟩:W.heap[w.heap.size+1]?=some (.cells #[.int .i64 1,.int .i64 fl,.int .i64 st,.slice A5 n5 c5,.int .i64 pad,.int .u32 0,.int .i64 0,.int .i64 0,.int .i64 0,.bool false,.int .i64 0,.slice none 0 0] 49)∧W.heap[w.heap.size+2]?=some (.cells #[.bool false,.int .i64 0,.int .i64 0] 64)∧Kp [w.heap.size+1,w.heap.size+2] (World.setCell w5 ⟨w.heap.size,3,none⟩ (.slice A5 n5 c5)) W:=by rw [← hW]; exact set15 (by omega) (K3.heap HF.out (by simp <;> omega)) (K3.heap HX.out (by simp <;> omega))
 refine bodyPost_ret (v:=.tuple #[.agg #[.int .i64 1,.int .i64 fl,.int .i64 st,.slice A5 n5 c5,.int .i64 pad,.int .u32 0,.int .i64 0,.int .i64 0,.int .i64 0,.bool false,.int .i64 0,.slice none 0 0],.agg #[.bool false,.int .i64 0,.int .i64 0]]) (by simp [results,Try.results156,go_sem,cell_of HF9,cell_of HX9]) rfl ⟨(⟨1,fl,st,A5,n5,c5,pad,0,0,0,0,false,0,none,0,0⟩:Fr),rfl,⟨rfl,((HO5.out.keep K3 ?_).keep K9 ?_).rd,Sd.nil _,fun t ht=>?_,by simp [ob]⟩,(((HK.out.trans HK5.out).then K3 (by simp)).then K9 (by simp))⟩
 ·intro t ht h2; have:=(HO5.out.base t ht).1; have:=lt_of_heap HB.out; have:=HLB.out; simp at h2; omega
 ·intro t ht h2; have:=(HO5.out.base t ht).1; have:=HLB.out; simp at h2; omega
 ·have:=(HO5.out.base t ht).1; omega
theorem rfields1t (fl st pad:Int) (A:Option Addr) (n c:Nat) (l:List UInt8) (w:World) (hr:Rd w A n c l) (hn:n≤16777216) (hf0:0≤fl) (hf1:fl≤255) (h32:hasB fl 32=true) (h5:5≤n):Calls Try.prog 156 #[.agg #[.int .i64 1,.int .i64 fl,.int .i64 st,.slice none 0 0,.int .i64 pad,.int .u32 0,.int .i64 0,.int .i64 0,.int .i64 0,.bool false,.int .i64 0,.slice none 0 0],.slice A n c] w (FldR (getS (f0S 1 fl st pad) l) w):=by
 obtain ⟨b,o,rfl,_,_⟩:=hr.addr (by omega)
 have HR:=Lib.hid hr
 have H32:=Lib.hid h32
 have HPR:=Lib.hid (show prioB 1 fl=true by simp [prioB,h32])
 clear hr h32
 obtain ⟨x,hx⟩:∃ x,n31 l 0=x:=⟨_,rfl⟩
 obtain ⟨y0,hy0⟩:∃ y,(l.getD 0 0).toNat=y:=⟨_,rfl⟩
 obtain ⟨y4,hy4⟩:∃ y,(l.getD 4 0).toNat=y:=⟨_,rfl⟩
 have HX0:=Lib.hid hx
 have HY0:=Lib.hid hy0
 have HY4:=Lib.hid hy4
 clear hx hy0 hy4
 have eg:getS (f0S 1 fl st pad) l=⟨1,fl,st,l.drop 5,pad,0,0,0,x,decide (128≤y0),(y4:Int)+1,[]⟩:=by rw [← HX0.out,← HY0.out,← HY4.out]; simp [getS,f0S,prS,H32.out]
 rw [eg]
 clear eg
 by_cases hc:c=5
 ·subst hc
  obtain rfl:n=5:=by have:=HR.out.cap; omega
  have hq:=HR.out.sub 5 5 (by omega) (by omega) (A':=(some ⟨b,o,none⟩)) (by intro b' o' h1 h2; omega)
  rw [List.take_of_length_le (by simp [HR.out.len])] at hq
  have HQ:=Lib.hid hq
  clear hq
  go_enter Try.func156,Try.ntmps156
  go_wp2_with fail
  generalize hW:World.alloc (World.alloc (World.alloc w _) _) _=w1
  have hsz:w1.heap.size=w.heap.size+1+1+1:=by rw [← hW]; simp
  have K1:Kp [] w w1:=by rw [← hW]; with_reducible (repeat (first|exact Kp.refl _ _|assumption|refine Kp.alloc ?_ _|refine Kp.drew ?_|refine Kp.drewN ?_ _|(refine Kp.setL ?_ ?_ _;focus (simp;done))|(refine Kp.setR ?_ ?_ _;focus (first|(simp;done)|(simp;omega)))))
  have HB:=Lib.hid (show w1.heap[w.heap.size]?=some (.cells #[.int .i64 1,.int .i64 fl,.int .i64 st,.slice none 0 0,.int .i64 pad,.int .u32 0,.int .i64 0,.int .i64 0,.int .i64 0,.bool false,.int .i64 0,.slice none 0 0] 49) by rw [← hW]; with_reducible (repeat (first|assumption|(refine hp_new _ _ _ ?_;focus (simp;done))|refine hpl ?_|(refine hpf ?_ ?_;focus (first|(simp;done)|(simp;omega)))|refine hpd ?_|refine hpe ?_)))
  have HF:=Lib.hid (show w1.heap[w.heap.size+1]?=some (.cells #[.int .i64 0,.int .i64 0,.int .i64 0,.slice none 0 0,.int .i64 0,.int .u32 0,.int .i64 0,.int .i64 0,.int .i64 0,.bool false,.int .i64 0,.slice none 0 0] 49) by rw [← hW]; with_reducible (repeat (first|assumption|(refine hp_new _ _ _ ?_;focus (simp;done))|refine hpl ?_|(refine hpf ?_ ?_;focus (first|(simp;done)|(simp;omega)))|refine hpd ?_|refine hpe ?_)))
  have HX:=Lib.hid (show w1.heap[w.heap.size+2]?=some (.cells #[.bool false,.int .i64 0,.int .i64 0] 64) by rw [← hW]; with_reducible (repeat (first|assumption|(refine hp_new _ _ _ ?_;focus (simp;done))|refine hpl ?_|(refine hpf ?_ ?_;focus (first|(simp;done)|(simp;omega)))|refine hpd ?_|refine hpe ?_)))
  have HK:=Lib.hid K1
  clear hW K1
  clear hsz
  refine (rprio1 fl _ hf0 hf1).mono ?_
  rintro e w2 ⟨rfl,rfl⟩
  rw [HPR.out]
  obtain ⟨q0,q1,q2,q3,q4,q5,q6,q7,q8,q9,q10,q11,qz,qlt,qlt2⟩:=cellsF HB.out
  obtain ⟨z0,z1,z2,z3,z4,z5,z6,z7,z8,z9,z10,z11,zz,zlt,zlt2⟩:=cellsF HF.out
  have x0:=cell_of HX.out 0
  have x1:=cell_of HX.out 1
  have x2:=cell_of HX.out 2
  have xz:=frozen_of HX.out
  go_wp2_with fail
  clear q0 q1 q2 q3 q4 q5 q6 q7 q8 q9 q10 q11 qz qlt qlt2 z0 z1 z2 z3 z4 z5 z6 z7 z8 z9 z10 z11 zz zlt zlt2 x0 x1 x2 xz
  have hP:=rprior (⟨1,fl,st,none,0,0,pad,0,0,0,0,false,0,none,0,0⟩:Fr) (some ⟨b,o,none⟩) 5 5 l w1 (HR.out.keep HK.out (by simp)) h5 (by omega)
  rw [HX0.out,HY0.out,HY4.out] at hP
  refine hP.mono ?_
  clear hP
  rintro e v2 ⟨rfl,K2⟩
  replace HB:=Lib.hid (K2.heap HB.out (by simp))
  replace HF:=Lib.hid (K2.heap HF.out (by simp))
  replace HX:=Lib.hid (K2.heap HX.out (by simp))
  replace HK:=Lib.hid (HK.out.trans K2)
  clear K2
  obtain ⟨q0,q1,q2,q3,q4,q5,q6,q7,q8,q9,q10,q11,qz,qlt,qlt2⟩:=cellsF HB.out
  obtain ⟨z0,z1,z2,z3,z4,z5,z6,z7,z8,z9,z10,z11,zz,zlt,zlt2⟩:=cellsF HF.out
  have x0:=cell_of HX.out 0
  have x1:=cell_of HX.out 1
  have x2:=cell_of HX.out 2
  have xz:=frozen_of HX.out
  go_wp2_with (with_reducible refine stopAt (o:=⟨some 122,_,_,_,_,_⟩) ?_)
  generalize hW:World.setCell _ _ _=u2
  have hsz:u2.heap.size=v2.heap.size:=by rw [← hW]; simp
  obtain ⟨hb2,K2⟩:u2.heap[w.heap.size]?=some (.cells #[.int .i64 1,.int .i64 fl,.int .i64 st,.slice none 0 0,.int .i64 pad,.int .u32 0,.int .i64 0,.int .i64 0,.int .i64 x,.bool (decide (128≤y0)),.int .i64 ((y4:Int)+1),.slice none 0 0] 49)∧Kp [w.heap.size] v2 u2:=by rw [← hW]; exact rset12 HB.out
  replace HB:=Lib.hid hb2
  replace HF:=Lib.hid (K2.heap HF.out (by simp))
  replace HX:=Lib.hid (K2.heap HX.out (by simp <;> omega))
  replace HK:=Lib.hid (HK.out.then K2 (by simp))
  clear hW hb2 K2
  clear q0 q1 q2 q3 q4 q5 q6 q7 q8 q9 q10 q11 qz qlt qlt2 z0 z1 z2 z3 z4 z5 z6 z7 z8 z9 z10 z11 zz zlt zlt2 x0 x1 x2 xz
  rw [← hsz]
  clear hsz
  have HLB:=Lib.hid (show w.heap.size+2 < u2.heap.size from lt_of_heap HX.out)
  have k0:Kp [] u2 (u2.alloc (.cells #[] 5)):=(Kp.refl _ _).alloc _
  refine Stop.go (wp_appB rfl _ _ 22 5 rfl Try.underlying22 Try.info5 u2.heap.size _ 0 0 [] rfl (Ow.empty u2 u2.heap.size 5 1 (Nat.le_refl _)) (some ⟨b,o,none⟩) 0 0 (l.drop 5) rfl (HQ.out.keep (HK.out.trans k0) (by simp)) (by omega) (by simp) ?_)
  intro A5 n5 c5 l5 w5 hn5 hl5 O5 K5 hA5
  have HK5:=Lib.hid (k0.then K5 (by simp [ob]))
  have e5:l5=l.drop 5:=by rw [hl5.out]; rfl
  rw [e5] at O5
  clear e5 hn5 hl5 K5 hA5 k0
  have HO5:=Lib.hid O5
  clear O5
  replace HB:=Lib.hid (HK5.out.heap HB.out (by simp))
  replace HF:=Lib.hid (HK5.out.heap HF.out (by simp))
  replace HX:=Lib.hid (HK5.out.heap HX.out (by simp))
  have hs5:=HK.out.size
  obtain ⟨q0,q1,q2,q3,q4,q5,q6,q7,q8,q9,q10,q11,qz,qlt,qlt2⟩:=cellsF HB.out
  obtain ⟨z0,z1,z2,z3,z4,z5,z6,z7,z8,z9,z10,z11,zz,zlt,zlt2⟩:=cellsF HF.out
  have x0:=cell_of HX.out 0
  have x1:=cell_of HX.out 1
  have x2:=cell_of HX.out 2
  have xz:=frozen_of HX.out
  go_wp2
  generalize hW:World.setCell _ _ _=W
  have K3:Kp [w.heap.size] w5 (World.setCell w5 ⟨w.heap.size,3,none⟩ (.slice A5 n5 c5)):=(Kp.refl _ _).setCell (.inl (by simp)) _
  obtain ⟨HF9,HX9,K9⟩:W.heap[w.heap.size+1]?=some (.cells #[.int .i64 1,.int .i64 fl,.int .i64 st,.slice A5 n5 c5,.int .i64 pad,.int .u32 0,.int .i64 0,.int .i64 0,.int .i64 x,.bool (decide (128≤y0)),.int .i64 ((y4:Int)+1),.slice none 0 0] 49)∧W.heap[w.heap.size+2]?=some (.cells #[.bool false,.int .i64 0,.int .i64 0] 64)∧Kp [w.heap.size+1,w.heap.size+2] (World.setCell w5 ⟨w.heap.size,3,none⟩ (.slice A5 n5 c5)) W:=by rw [← hW]; exact set15 (by omega) (K3.heap HF.out (by simp <;> omega)) (K3.heap HX.out (by simp <;> omega))
  refine bodyPost_ret (v:=.tuple #[.agg #[.int .i64 1,.int .i64 fl,.int .i64 st,.slice A5 n5 c5,.int .i64 pad,.int .u32 0,.int .i64 0,.int .i64 0,.int .i64 x,.bool (decide (128≤y0)),.int .i64 ((y4:Int)+1),.slice none 0 0],.agg #[.bool false,.int .i64 0,.int .i64 0]]) (by simp [results,Try.results156,go_sem,cell_of HF9,cell_of HX9]) rfl ⟨(⟨1,fl,st,A5,n5,c5,pad,0,0,0,x,(decide (128≤y0)),((y4:Int)+1),none,0,0⟩:Fr),rfl,⟨rfl,((HO5.out.keep K3 ?_).keep K9 ?_).rd,Sd.nil _,fun t ht=>?_,by simp [ob]⟩,(((HK.out.trans HK5.out).then K3 (by simp)).then K9 (by simp))⟩
  ·intro t ht h2; have:=(HO5.out.base t ht).1; have:=lt_of_heap HB.out; have:=HLB.out; simp at h2; omega
  ·intro t ht h2; have:=(HO5.out.base t ht).1; have:=HLB.out; simp at h2; omega
  ·have:=(HO5.out.base t ht).1; omega
 ·have hq:=HR.out.sub 5 n (by omega) (by omega) (A':=(some ⟨b,o+5,none⟩)) (by intro b' o' h1 h2; injection h1 with h1; injection h1 with h1 h3 _; rw [h1,h3])
  rw [List.take_of_length_le (by simp [HR.out.len])] at hq
  have HQ:=Lib.hid hq
  clear hq
  go_enter Try.func156,Try.ntmps156
  go_wp2_with fail
  generalize hW:World.alloc (World.alloc (World.alloc w _) _) _=w1
  have hsz:w1.heap.size=w.heap.size+1+1+1:=by rw [← hW]; simp
  have K1:Kp [] w w1:=by rw [← hW]; with_reducible (repeat (first|exact Kp.refl _ _|assumption|refine Kp.alloc ?_ _|refine Kp.drew ?_|refine Kp.drewN ?_ _|(refine Kp.setL ?_ ?_ _;focus (simp;done))|(refine Kp.setR ?_ ?_ _;focus (first|(simp;done)|(simp;omega)))))
  have HB:=Lib.hid (show w1.heap[w.heap.size]?=some (.cells #[.int .i64 1,.int .i64 fl,.int .i64 st,.slice none 0 0,.int .i64 pad,.int .u32 0,.int .i64 0,.int .i64 0,.int .i64 0,.bool false,.int .i64 0,.slice none 0 0] 49) by rw [← hW]; with_reducible (repeat (first|assumption|(refine hp_new _ _ _ ?_;focus (simp;done))|refine hpl ?_|(refine hpf ?_ ?_;focus (first|(simp;done)|(simp;omega)))|refine hpd ?_|refine hpe ?_)))
  have HF:=Lib.hid (show w1.heap[w.heap.size+1]?=some (.cells #[.int .i64 0,.int .i64 0,.int .i64 0,.slice none 0 0,.int .i64 0,.int .u32 0,.int .i64 0,.int .i64 0,.int .i64 0,.bool false,.int .i64 0,.slice none 0 0] 49) by rw [← hW]; with_reducible (repeat (first|assumption|(refine hp_new _ _ _ ?_;focus (simp;done))|refine hpl ?_|(refine hpf ?_ ?_;focus (first|(simp;done)|(simp;omega)))|refine hpd ?_|refine hpe ?_)))
  have HX:=Lib.hid (show w1.heap[w.heap.size+2]?=some (.cells #[.bool false,.int .i64 0,.int .i64 0] 64) by rw [← hW]; with_reducible (repeat (first|assumption|(refine hp_new _ _ _ ?_;focus (simp;done))|refine hpl ?_|(refine hpf ?_ ?_;focus (first|(simp;done)|(simp;omega)))|refine hpd ?_|refine hpe ?_)))
  have HK:=Lib.hid K1
  clear hW K1
  clear hsz
  refine (rprio1 fl _ hf0 hf1).mono ?_
  rintro e w2 ⟨rfl,rfl⟩
  rw [HPR.out]
  obtain ⟨q0,q1,q2,q3,q4,q5,q6,q7,q8,q9,q10,q11,qz,qlt,qlt2⟩:=cellsF HB.out
  obtain ⟨z0,z1,z2,z3,z4,z5,z6,z7,z8,z9,z10,z11,zz,zlt,zlt2⟩:=cellsF HF.out
  have x0:=cell_of HX.out 0
  have x1:=cell_of HX.out 1
  have x2:=cell_of HX.out 2
  have xz:=frozen_of HX.out
  go_wp2_with fail
  clear q0 q1 q2 q3 q4 q5 q6 q7 q8 q9 q10 q11 qz qlt qlt2 z0 z1 z2 z3 z4 z5 z6 z7 z8 z9 z10 z11 zz zlt zlt2 x0 x1 x2 xz
  have hP:=rprior (⟨1,fl,st,none,0,0,pad,0,0,0,0,false,0,none,0,0⟩:Fr) (some ⟨b,o,none⟩) n c l w1 (HR.out.keep HK.out (by simp)) h5 (by omega)
  rw [HX0.out,HY0.out,HY4.out] at hP
  refine hP.mono ?_
  clear hP
  rintro e v2 ⟨rfl,K2⟩
  replace HB:=Lib.hid (K2.heap HB.out (by simp))
  replace HF:=Lib.hid (K2.heap HF.out (by simp))
  replace HX:=Lib.hid (K2.heap HX.out (by simp))
  replace HK:=Lib.hid (HK.out.trans K2)
  clear K2
  obtain ⟨q0,q1,q2,q3,q4,q5,q6,q7,q8,q9,q10,q11,qz,qlt,qlt2⟩:=cellsF HB.out
  obtain ⟨z0,z1,z2,z3,z4,z5,z6,z7,z8,z9,z10,z11,zz,zlt,zlt2⟩:=cellsF HF.out
  have x0:=cell_of HX.out 0
  have x1:=cell_of HX.out 1
  have x2:=cell_of HX.out 2
  have xz:=frozen_of HX.out
  go_wp2_with (with_reducible refine stopAt (o:=⟨some 122,_,_,_,_,_⟩) ?_)
  generalize hW:World.setCell _ _ _=u2
  have hsz:u2.heap.size=v2.heap.size:=by rw [← hW]; simp
  obtain ⟨hb2,K2⟩:u2.heap[w.heap.size]?=some (.cells #[.int .i64 1,.int .i64 fl,.int .i64 st,.slice none 0 0,.int .i64 pad,.int .u32 0,.int .i64 0,.int .i64 0,.int .i64 x,.bool (decide (128≤y0)),.int .i64 ((y4:Int)+1),.slice none 0 0] 49)∧Kp [w.heap.size] v2 u2:=by rw [← hW]; exact rset12 HB.out
  replace HB:=Lib.hid hb2
  replace HF:=Lib.hid (K2.heap HF.out (by simp))
  replace HX:=Lib.hid (K2.heap HX.out (by simp <;> omega))
  replace HK:=Lib.hid (HK.out.then K2 (by simp))
  clear hW hb2 K2
  clear q0 q1 q2 q3 q4 q5 q6 q7 q8 q9 q10 q11 qz qlt qlt2 z0 z1 z2 z3 z4 z5 z6 z7 z8 z9 z10 z11 zz zlt zlt2 x0 x1 x2 xz
  rw [← hsz]
  clear hsz
  have HLB:=Lib.hid (show w.heap.size+2 < u2.heap.size from lt_of_heap HX.out)
  have k0:Kp [] u2 (u2.alloc (.cells #[] 5)):=(Kp.refl _ _).alloc _
  refine Stop.go (wp_appB rfl _ _ 22 5 rfl Try.underlying22 Try.info5 u2.heap.size _ 0 0 [] rfl (Ow.empty u2 u2.heap.size 5 1 (Nat.le_refl _)) (some ⟨b,o+5,none⟩) (n - 5) (c - 5) (l.drop 5) rfl (HQ.out.keep (HK.out.trans k0) (by simp)) (by omega) (by simp) ?_)
  intro A5 n5 c5 l5 w5 hn5 hl5 O5 K5 hA5
  have HK5:=Lib.hid (k0.then K5 (by simp [ob]))
  have e5:l5=l.drop 5:=by rw [hl5.out]; rfl
  rw [e5] at O5
  clear e5 hn5 hl5 K5 hA5 k0
  have HO5:=Lib.hid O5
  clear O5
  replace HB:=Lib.hid (HK5.out.heap HB.out (by simp))
  replace HF:=Lib.hid (HK5.out.heap HF.out (by simp))
  replace HX:=Lib.hid (HK5.out.heap HX.out (by simp))
  have hs5:=HK.out.size
  obtain ⟨q0,q1,q2,q3,q4,q5,q6,q7,q8,q9,q10,q11,qz,qlt,qlt2⟩:=cellsF HB.out
  obtain ⟨z0,z1,z2,z3,z4,z5,z6,z7,z8,z9,z10,z11,zz,zlt,zlt2⟩:=cellsF HF.out
  have x0:=cell_of HX.out 0
  have x1:=cell_of HX.out 1
  have x2:=cell_of HX.out 2
  have xz:=frozen_of HX.out
  go_wp2
  generalize hW:World.setCell _ _ _=W
  have K3:Kp [w.heap.size] w5 (World.setCell w5 ⟨w.heap.size,3,none⟩ (.slice A5 n5 c5)):=(Kp.refl _ _).setCell (.inl (by simp)) _
  obtain ⟨HF9,HX9,K9⟩:W.heap[w.heap.size+1]?=some (.cells #[.int .i64 1,.int .i64 fl,.int .i64 st,.slice A5 n5 c5,.int .i64 pad,.int .u32 0,.int .i64 0,.int .i64 0,.int .i64 x,.bool (decide (128≤y0)),.int .i64 ((y4:Int)+1),.slice none 0 0] 49)∧W.heap[w.heap.size+2]?=some (.cells #[.bool false,.int .i64 0,.int .i64 0] 64)∧Kp [w.heap.size+1,w.heap.size+2] (World.setCell w5 ⟨w.heap.size,3,none⟩ (.slice A5 n5 c5)) W:=by rw [← hW]; exact set15 (by omega) (K3.heap HF.out (by simp <;> omega)) (K3.heap HX.out (by simp <;> omega))
  refine bodyPost_ret (v:=.tuple #[.agg #[.int .i64 1,.int .i64 fl,.int .i64 st,.slice A5 n5 c5,.int .i64 pad,.int .u32 0,.int .i64 0,.int .i64 0,.int .i64 x,.bool (decide (128≤y0)),.int .i64 ((y4:Int)+1),.slice none 0 0],.agg #[.bool false,.int .i64 0,.int .i64 0]]) (by simp [results,Try.results156,go_sem,cell_of HF9,cell_of HX9]) rfl ⟨(⟨1,fl,st,A5,n5,c5,pad,0,0,0,x,(decide (128≤y0)),((y4:Int)+1),none,0,0⟩:Fr),rfl,⟨rfl,((HO5.out.keep K3 ?_).keep K9 ?_).rd,Sd.nil _,fun t ht=>?_,by simp [ob]⟩,(((HK.out.trans HK5.out).then K3 (by simp)).then K9 (by simp))⟩
  ·intro t ht h2; have:=(HO5.out.base t ht).1; have:=lt_of_heap HB.out; have:=HLB.out; simp at h2; omega
  ·intro t ht h2; have:=(HO5.out.base t ht).1; have:=HLB.out; simp at h2; omega
  ·have:=(HO5.out.base t ht).1; omega
end Go.Proofs.Ytkmcakneceagpaa
