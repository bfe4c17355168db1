/- The reference's Parse: padding. -/
import Derived.Test.YtkmcakneceagpaaQFieldRef
set_option linter.unusedSimpArgs false
set_option linter.unusedVariables false
set_option maxHeartbeats 8000000
set_option maxRecDepth 100000
namespace Go.Proofs.Ytkmcakneceagpaa
open Go.RowKit
def PartR (T fl st:Int) (r:Un) (w:World) (e:Ending) (w':World):Prop :=
 match r with
 | .bad code=>∃ f:Fr,e=.returned (.tuple #[.agg #[.int .i64 f.ty,.int .i64 f.fl,.int .i64 f.st,.slice f.pA f.pn f.pc,.int .i64 f.pad,.int .u32 f.code,.int .i64 f.last,.int .i64 f.inc,.int .i64 f.dep,.bool f.only,.int .i64 f.wt,.slice f.sA f.sn f.sc],.slice none 0 0,.agg #[.bool true,.int .i64 0,.int .i64 code]])∧Kp [] w w'
 | .ok pad m=>∃ A' n' c',e=.returned (.tuple #[.agg #[.int .i64 T,.int .i64 fl,.int .i64 st,.slice none 0 0,.int .i64 (pad:Int),.int .u32 0,.int .i64 0,.int .i64 0,.int .i64 0,.bool false,.int .i64 0,.slice none 0 0],.slice A' n' c',.agg #[.bool false,.int .i64 0,.int .i64 0]])∧Rd w' A' n' c' m∧Kp [] w w'
theorem Rd.mk' {w:World} {A:Option Addr} {n c c':Nat} {l:List UInt8} (h:Rd w A n c l) (hc:n≤c'):Rd w A n c' l:=⟨h.len,hc,h.at_⟩
theorem rparts2 (fl st:Int) (hf0:0≤fl) (hf1:fl≤255) (A:Option Addr) (n c:Nat) (l:List UInt8) (w:World) (hr:Rd w A n c l) (hn:n≤16777216):Calls Try.prog 155 #[.agg #[.int .i64 2,.int .i64 fl,.int .i64 st,.slice none 0 0,.int .i64 0,.int .u32 0,.int .i64 0,.int .i64 0,.int .i64 0,.bool false,.int .i64 0,.slice none 0 0],.slice A n c] w (PartR 2 fl st (unS 2 fl l) w):=by
 have e:unS 2 fl l=.ok 0 l:=by simp [unS,padF,paddedB,fixedN]
 rw [e]
 clear e
 have HR:=Lib.hid hr
 have HLT:=Lib.hid (show 0 < n→∀ t,t∈ob A→t < w.heap.size from fun h t ht=>by obtain ⟨b,o,hA,hb,_⟩:=hr.addr h; rw [hA] at ht; simp [ob] at ht; omega)
 clear hr
 go_enter Try.func155,Try.ntmps155
 go_wp2_with fail
 generalize hW:World.alloc _ _=w1
 have K1:Kp [] w w1:=by rw [← hW]; with_reducible (repeat (first|exact Kp.refl _ _|assumption|refine Kp.alloc ?_ _|refine Kp.drew ?_|refine Kp.drewN ?_ _|(refine Kp.setL ?_ ?_ _;focus (simp;done))|(refine Kp.setR ?_ ?_ _;focus (first|(simp;done)|(simp;omega)))))
 have HB1:=Lib.hid (show w1.heap[w.heap.size]?=some (.cells #[.int .i64 2,.int .i64 fl,.int .i64 st,.slice none 0 0,.int .i64 0,.int .u32 0,.int .i64 0,.int .i64 0,.int .i64 0,.bool false,.int .i64 0,.slice none 0 0] 49) by rw [← hW]; with_reducible (repeat (first|assumption|(refine hp_new _ _ _ ?_;focus (simp;done))|refine hpl ?_|(refine hpf ?_ ?_;focus (first|(simp;done)|(simp;omega)))|refine hpd ?_|refine hpe ?_)))
 have HF1:=Lib.hid (show w1.heap[w.heap.size+1]?=some (.cells #[.int .i64 0,.int .i64 0,.int .i64 0,.slice none 0 0,.int .i64 0,.int .u32 0,.int .i64 0,.int .i64 0,.int .i64 0,.bool false,.int .i64 0,.slice none 0 0] 49) by rw [← hW]; with_reducible (repeat (first|assumption|(refine hp_new _ _ _ ?_;focus (simp;done))|refine hpl ?_|(refine hpf ?_ ?_;focus (first|(simp;done)|(simp;omega)))|refine hpd ?_|refine hpe ?_)))
 have HX1:=Lib.hid (show w1.heap[w.heap.size+2]?=some (.cells #[.bool false,.int .i64 0,.int .i64 0] 64) by rw [← hW]; with_reducible (repeat (first|assumption|(refine hp_new _ _ _ ?_;focus (simp;done))|refine hpl ?_|(refine hpf ?_ ?_;focus (first|(simp;done)|(simp;omega)))|refine hpd ?_|refine hpe ?_)))
 have HK1:=Lib.hid K1
 clear hW K1
 refine (rpad2 w1).mono ?_
 rintro e w2 ⟨rfl,rfl⟩
 obtain ⟨q0,q1,q2,q3,q4,q5,q6,q7,q8,q9,q10,q11,qz,qlt,qlt2⟩:=cellsF HB1.out
 obtain ⟨z0,z1,z2,z3,z4,z5,z6,z7,z8,z9,z10,z11,zz,zlt,zlt2⟩:=cellsF HF1.out
 have x0:=cell_of HX1.out 0
 have x1:=cell_of HX1.out 1
 have x2:=cell_of HX1.out 2
 have xz:=frozen_of HX1.out
 go_wp2
 generalize hW:World.setCell _ _ _=W
 obtain ⟨HF9,HX9,K9⟩:W.heap[w.heap.size+1]?=some (.cells #[.int .i64 2,.int .i64 fl,.int .i64 st,.slice none 0 0,.int .i64 0,.int .u32 0,.int .i64 0,.int .i64 0,.int .i64 0,.bool false,.int .i64 0,.slice none 0 0] 49)∧W.heap[w.heap.size+2]?=some (.cells #[.bool false,.int .i64 0,.int .i64 0] 64)∧Kp [w.heap.size+1,w.heap.size+2] w1 W:=by rw [← hW]; exact set15 (by omega) HF1.out HX1.out
 refine bodyPost_ret (v:=.tuple #[.agg #[.int .i64 2,.int .i64 fl,.int .i64 st,.slice none 0 0,.int .i64 0,.int .u32 0,.int .i64 0,.int .i64 0,.int .i64 0,.bool false,.int .i64 0,.slice none 0 0],.slice A n c,.agg #[.bool false,.int .i64 0,.int .i64 0]]) (by simp [results,Try.results155,go_sem,cell_of HF9,cell_of HX9]) rfl ⟨_,_,_,rfl,?_,HK1.out.then K9 (by simp)⟩
 exact (HR.out.keep HK1.out (by simp)).keep (S:=[w.heap.size+1,w.heap.size+2]) K9 (by intro hn0 t h1 h2; have:=HLT.out hn0 t h1; simp at h2; omega)
theorem rparts3 (fl st:Int) (hf0:0≤fl) (hf1:fl≤255) (A:Option Addr) (n c:Nat) (l:List UInt8) (w:World) (hr:Rd w A n c l) (hn:n≤16777216):Calls Try.prog 155 #[.agg #[.int .i64 3,.int .i64 fl,.int .i64 st,.slice none 0 0,.int .i64 0,.int .u32 0,.int .i64 0,.int .i64 0,.int .i64 0,.bool false,.int .i64 0,.slice none 0 0],.slice A n c] w (PartR 3 fl st (unS 3 fl l) w):=by
 have e:unS 3 fl l=.ok 0 l:=by simp [unS,padF,paddedB,fixedN]
 rw [e]
 clear e
 have HR:=Lib.hid hr
 have HLT:=Lib.hid (show 0 < n→∀ t,t∈ob A→t < w.heap.size from fun h t ht=>by obtain ⟨b,o,hA,hb,_⟩:=hr.addr h; rw [hA] at ht; simp [ob] at ht; omega)
 clear hr
 go_enter Try.func155,Try.ntmps155
 go_wp2_with fail
 generalize hW:World.alloc _ _=w1
 have K1:Kp [] w w1:=by rw [← hW]; with_reducible (repeat (first|exact Kp.refl _ _|assumption|refine Kp.alloc ?_ _|refine Kp.drew ?_|refine Kp.drewN ?_ _|(refine Kp.setL ?_ ?_ _;focus (simp;done))|(refine Kp.setR ?_ ?_ _;focus (first|(simp;done)|(simp;omega)))))
 have HB1:=Lib.hid (show w1.heap[w.heap.size]?=some (.cells #[.int .i64 3,.int .i64 fl,.int .i64 st,.slice none 0 0,.int .i64 0,.int .u32 0,.int .i64 0,.int .i64 0,.int .i64 0,.bool false,.int .i64 0,.slice none 0 0] 49) by rw [← hW]; with_reducible (repeat (first|assumption|(refine hp_new _ _ _ ?_;focus (simp;done))|refine hpl ?_|(refine hpf ?_ ?_;focus (first|(simp;done)|(simp;omega)))|refine hpd ?_|refine hpe ?_)))
 have HF1:=Lib.hid (show w1.heap[w.heap.size+1]?=some (.cells #[.int .i64 0,.int .i64 0,.int .i64 0,.slice none 0 0,.int .i64 0,.int .u32 0,.int .i64 0,.int .i64 0,.int .i64 0,.bool false,.int .i64 0,.slice none 0 0] 49) by rw [← hW]; with_reducible (repeat (first|assumption|(refine hp_new _ _ _ ?_;focus (simp;done))|refine hpl ?_|(refine hpf ?_ ?_;focus (first|(simp;done)|(simp;omega)))|refine hpd ?_|refine hpe ?_)))
 have HX1:=Lib.hid (show w1.heap[w.heap.size+2]?=some (.cells #[.bool false,.int .i64 0,.int .i64 0] 64) by rw [← hW]; with_reducible (repeat (first|assumption|(refine hp_new _ _ _ ?_;focus (simp;done))|refine hpl ?_|(refine hpf ?_ ?_;focus (first|(simp;done)|(simp;omega)))|refine hpd ?_|refine hpe ?_)))
 have HK1:=Lib.hid K1
 clear hW K1
 refine (rpad3 w1).mono ?_
 rintro e w2 ⟨rfl,rfl⟩
 obtain ⟨q0,q1,q2,q3,q4,q5,q6,q7,q8,q9,q10,q11,qz,qlt,qlt2⟩:=cellsF HB1.out
 obtain ⟨z0,z1,z2,z3,z4,z5,z6,z7,z8,z9,z10,z11,zz,zlt,zlt2⟩:=cellsF HF1.out
 have x0:=cell_of HX1.out 0
 have x1:=cell_of HX1.out 1
 have x2:=cell_of HX1.out 2
 have xz:=frozen_of HX1.out
 go_wp2
 generalize hW:World.setCell _ _ _=W
 obtain ⟨HF9,HX9,K9⟩:W.heap[w.heap.size+1]?=some (.cells #[.int .i64 3,.int .i64 fl,.int .i64 st,.slice none 0 0,.int .i64 0,.int .u32 0,.int .i64 0,.int .i64 0,.int .i64 0,.bool false,.int .i64 0,.slice none 0 0] 49)∧W.heap[w.heap.size+2]?=some (.cells #[.bool false,.int .i64 0,.int .i64 0] 64)∧Kp [w.heap.size+1,w.heap.size+2] w1 W:=by rw [← hW]; exact set15 (by omega) HF1.out HX1.out
 refine bodyPost_ret (v:=.tuple #[.agg #[.int .i64 3,.int .i64 fl,.int .i64 st,.slice none 0 0,.int .i64 0,.int .u32 0,.int .i64 0,.int .i64 0,.int .i64 0,.bool false,.int .i64 0,.slice none 0 0],.slice A n c,.agg #[.bool false,.int .i64 0,.int .i64 0]]) (by simp [results,Try.results155,go_sem,cell_of HF9,cell_of HX9]) rfl ⟨_,_,_,rfl,?_,HK1.out.then K9 (by simp)⟩
 exact (HR.out.keep HK1.out (by simp)).keep (S:=[w.heap.size+1,w.heap.size+2]) K9 (by intro hn0 t h1 h2; have:=HLT.out hn0 t h1; simp at h2; omega)
theorem rparts4 (fl st:Int) (hf0:0≤fl) (hf1:fl≤255) (A:Option Addr) (n c:Nat) (l:List UInt8) (w:World) (hr:Rd w A n c l) (hn:n≤16777216):Calls Try.prog 155 #[.agg #[.int .i64 4,.int .i64 fl,.int .i64 st,.slice none 0 0,.int .i64 0,.int .u32 0,.int .i64 0,.int .i64 0,.int .i64 0,.bool false,.int .i64 0,.slice none 0 0],.slice A n c] w (PartR 4 fl st (unS 4 fl l) w):=by
 have e:unS 4 fl l=.ok 0 l:=by simp [unS,padF,paddedB,fixedN]
 rw [e]
 clear e
 have HR:=Lib.hid hr
 have HLT:=Lib.hid (show 0 < n→∀ t,t∈ob A→t < w.heap.size from fun h t ht=>by obtain ⟨b,o,hA,hb,_⟩:=hr.addr h; rw [hA] at ht; simp [ob] at ht; omega)
 clear hr
 go_enter Try.func155,Try.ntmps155
 go_wp2_with fail
 generalize hW:World.alloc _ _=w1
 have K1:Kp [] w w1:=by rw [← hW]; with_reducible (repeat (first|exact Kp.refl _ _|assumption|refine Kp.alloc ?_ _|refine Kp.drew ?_|refine Kp.drewN ?_ _|(refine Kp.setL ?_ ?_ _;focus (simp;done))|(refine Kp.setR ?_ ?_ _;focus (first|(simp;done)|(simp;omega)))))
 have HB1:=Lib.hid (show w1.heap[w.heap.size]?=some (.cells #[.int .i64 4,.int .i64 fl,.int .i64 st,.slice none 0 0,.int .i64 0,.int .u32 0,.int .i64 0,.int .i64 0,.int .i64 0,.bool false,.int .i64 0,.slice none 0 0] 49) by rw [← hW]; with_reducible (repeat (first|assumption|(refine hp_new _ _ _ ?_;focus (simp;done))|refine hpl ?_|(refine hpf ?_ ?_;focus (first|(simp;done)|(simp;omega)))|refine hpd ?_|refine hpe ?_)))
 have HF1:=Lib.hid (show w1.heap[w.heap.size+1]?=some (.cells #[.int .i64 0,.int .i64 0,.int .i64 0,.slice none 0 0,.int .i64 0,.int .u32 0,.int .i64 0,.int .i64 0,.int .i64 0,.bool false,.int .i64 0,.slice none 0 0] 49) by rw [← hW]; with_reducible (repeat (first|assumption|(refine hp_new _ _ _ ?_;focus (simp;done))|refine hpl ?_|(refine hpf ?_ ?_;focus (first|(simp;done)|(simp;omega)))|refine hpd ?_|refine hpe ?_)))
 have HX1:=Lib.hid (show w1.heap[w.heap.size+2]?=some (.cells #[.bool false,.int .i64 0,.int .i64 0] 64) by rw [← hW]; with_reducible (repeat (first|assumption|(refine hp_new _ _ _ ?_;focus (simp;done))|refine hpl ?_|(refine hpf ?_ ?_;focus (first|(simp;done)|(simp;omega)))|refine hpd ?_|refine hpe ?_)))
 have HK1:=Lib.hid K1
 clear hW K1
 refine (rpad4 w1).mono ?_
 rintro e w2 ⟨rfl,rfl⟩
 obtain ⟨q0,q1,q2,q3,q4,q5,q6,q7,q8,q9,q10,q11,qz,qlt,qlt2⟩:=cellsF HB1.out
 obtain ⟨z0,z1,z2,z3,z4,z5,z6,z7,z8,z9,z10,z11,zz,zlt,zlt2⟩:=cellsF HF1.out
 have x0:=cell_of HX1.out 0
 have x1:=cell_of HX1.out 1
 have x2:=cell_of HX1.out 2
 have xz:=frozen_of HX1.out
 go_wp2
 generalize hW:World.setCell _ _ _=W
 obtain ⟨HF9,HX9,K9⟩:W.heap[w.heap.size+1]?=some (.cells #[.int .i64 4,.int .i64 fl,.int .i64 st,.slice none 0 0,.int .i64 0,.int .u32 0,.int .i64 0,.int .i64 0,.int .i64 0,.bool false,.int .i64 0,.slice none 0 0] 49)∧W.heap[w.heap.size+2]?=some (.cells #[.bool false,.int .i64 0,.int .i64 0] 64)∧Kp [w.heap.size+1,w.heap.size+2] w1 W:=by rw [← hW]; exact set15 (by omega) HF1.out HX1.out
 refine bodyPost_ret (v:=.tuple #[.agg #[.int .i64 4,.int .i64 fl,.int .i64 st,.slice none 0 0,.int .i64 0,.int .u32 0,.int .i64 0,.int .i64 0,.int .i64 0,.bool false,.int .i64 0,.slice none 0 0],.slice A n c,.agg #[.bool false,.int .i64 0,.int .i64 0]]) (by simp [results,Try.results155,go_sem,cell_of HF9,cell_of HX9]) rfl ⟨_,_,_,rfl,?_,HK1.out.then K9 (by simp)⟩
 exact (HR.out.keep HK1.out (by simp)).keep (S:=[w.heap.size+1,w.heap.size+2]) K9 (by intro hn0 t h1 h2; have:=HLT.out hn0 t h1; simp at h2; omega)
theorem rparts6 (fl st:Int) (hf0:0≤fl) (hf1:fl≤255) (A:Option Addr) (n c:Nat) (l:List UInt8) (w:World) (hr:Rd w A n c l) (hn:n≤16777216):Calls Try.prog 155 #[.agg #[.int .i64 6,.int .i64 fl,.int .i64 st,.slice none 0 0,.int .i64 0,.int .u32 0,.int .i64 0,.int .i64 0,.int .i64 0,.bool false,.int .i64 0,.slice none 0 0],.slice A n c] w (PartR 6 fl st (unS 6 fl l) w):=by
 have e:unS 6 fl l=.ok 0 l:=by simp [unS,padF,paddedB,fixedN]
 rw [e]
 clear e
 have HR:=Lib.hid hr
 have HLT:=Lib.hid (show 0 < n→∀ t,t∈ob A→t < w.heap.size from fun h t ht=>by obtain ⟨b,o,hA,hb,_⟩:=hr.addr h; rw [hA] at ht; simp [ob] at ht; omega)
 clear hr
 go_enter Try.func155,Try.ntmps155
 go_wp2_with fail
 generalize hW:World.alloc _ _=w1
 have K1:Kp [] w w1:=by rw [← hW]; with_reducible (repeat (first|exact Kp.refl _ _|assumption|refine Kp.alloc ?_ _|refine Kp.drew ?_|refine Kp.drewN ?_ _|(refine Kp.setL ?_ ?_ _;focus (simp;done))|(refine Kp.setR ?_ ?_ _;focus (first|(simp;done)|(simp;omega)))))
 have HB1:=Lib.hid (show w1.heap[w.heap.size]?=some (.cells #[.int .i64 6,.int .i64 fl,.int .i64 st,.slice none 0 0,.int .i64 0,.int .u32 0,.int .i64 0,.int .i64 0,.int .i64 0,.bool false,.int .i64 0,.slice none 0 0] 49) by rw [← hW]; with_reducible (repeat (first|assumption|(refine hp_new _ _ _ ?_;focus (simp;done))|refine hpl ?_|(refine hpf ?_ ?_;focus (first|(simp;done)|(simp;omega)))|refine hpd ?_|refine hpe ?_)))
 have HF1:=Lib.hid (show w1.heap[w.heap.size+1]?=some (.cells #[.int .i64 0,.int .i64 0,.int .i64 0,.slice none 0 0,.int .i64 0,.int .u32 0,.int .i64 0,.int .i64 0,.int .i64 0,.bool false,.int .i64 0,.slice none 0 0] 49) by rw [← hW]; with_reducible (repeat (first|assumption|(refine hp_new _ _ _ ?_;focus (simp;done))|refine hpl ?_|(refine hpf ?_ ?_;focus (first|(simp;done)|(simp;omega)))|refine hpd ?_|refine hpe ?_)))
 have HX1:=Lib.hid (show w1.heap[w.heap.size+2]?=some (.cells #[.bool false,.int .i64 0,.int .i64 0] 64) by rw [← hW]; with_reducible (repeat (first|assumption|(refine hp_new _ _ _ ?_;focus (simp;done))|refine hpl ?_|(refine hpf ?_ ?_;focus (first|(simp;done)|(simp;omega)))|refine hpd ?_|refine hpe ?_)))
 have HK1:=Lib.hid K1
 clear hW K1
 refine (rpad6 w1).mono ?_
 rintro e w2 ⟨rfl,rfl⟩
 obtain ⟨q0,q1,q2,q3,q4,q5,q6,q7,q8,q9,q10,q11,qz,qlt,qlt2⟩:=cellsF HB1.out
 obtain ⟨z0,z1,z2,z3,z4,z5,z6,z7,z8,z9,z10,z11,zz,zlt,zlt2⟩:=cellsF HF1.out
 have x0:=cell_of HX1.out 0
 have x1:=cell_of HX1.out 1
 have x2:=cell_of HX1.out 2
 have xz:=frozen_of HX1.out
 go_wp2
 generalize hW:World.setCell _ _ _=W
 obtain ⟨HF9,HX9,K9⟩:W.heap[w.heap.size+1]?=some (.cells #[.int .i64 6,.int .i64 fl,.int .i64 st,.slice none 0 0,.int .i64 0,.int .u32 0,.int .i64 0,.int .i64 0,.int .i64 0,.bool false,.int .i64 0,.slice none 0 0] 49)∧W.heap[w.heap.size+2]?=some (.cells #[.bool false,.int .i64 0,.int .i64 0] 64)∧Kp [w.heap.size+1,w.heap.size+2] w1 W:=by rw [← hW]; exact set15 (by omega) HF1.out HX1.out
 refine bodyPost_ret (v:=.tuple #[.agg #[.int .i64 6,.int .i64 fl,.int .i64 st,.slice none 0 0,.int .i64 0,.int .u32 0,.int .i64 0,.int .i64 0,.int .i64 0,.bool false,.int .i64 0,.slice none 0 0],.slice A n c,.agg #[.bool false,.int .i64 0,.int .i64 0]]) (by simp [results,Try.results155,go_sem,cell_of HF9,cell_of HX9]) rfl ⟨_,_,_,rfl,?_,HK1.out.then K9 (by simp)⟩
 exact (HR.out.keep HK1.out (by simp)).keep (S:=[w.heap.size+1,w.heap.size+2]) K9 (by intro hn0 t h1 h2; have:=HLT.out hn0 t h1; simp at h2; omega)
theorem rparts7 (fl st:Int) (hf0:0≤fl) (hf1:fl≤255) (A:Option Addr) (n c:Nat) (l:List UInt8) (w:World) (hr:Rd w A n c l) (hn:n≤16777216):Calls Try.prog 155 #[.agg #[.int .i64 7,.int .i64 fl,.int .i64 st,.slice none 0 0,.int .i64 0,.int .u32 0,.int .i64 0,.int .i64 0,.int .i64 0,.bool false,.int .i64 0,.slice none 0 0],.slice A n c] w (PartR 7 fl st (unS 7 fl l) w):=by
 have e:unS 7 fl l=.ok 0 l:=by simp [unS,padF,paddedB,fixedN]
 rw [e]
 clear e
 have HR:=Lib.hid hr
 have HLT:=Lib.hid (show 0 < n→∀ t,t∈ob A→t < w.heap.size from fun h t ht=>by obtain ⟨b,o,hA,hb,_⟩:=hr.addr h; rw [hA] at ht; simp [ob] at ht; omega)
 clear hr
 go_enter Try.func155,Try.ntmps155
 go_wp2_with fail
 generalize hW:World.alloc _ _=w1
 have K1:Kp [] w w1:=by rw [← hW]; with_reducible (repeat (first|exact Kp.refl _ _|assumption|refine Kp.alloc ?_ _|refine Kp.drew ?_|refine Kp.drewN ?_ _|(refine Kp.setL ?_ ?_ _;focus (simp;done))|(refine Kp.setR ?_ ?_ _;focus (first|(simp;done)|(simp;omega)))))
 have HB1:=Lib.hid (show w1.heap[w.heap.size]?=some (.cells #[.int .i64 7,.int .i64 fl,.int .i64 st,.slice none 0 0,.int .i64 0,.int .u32 0,.int .i64 0,.int .i64 0,.int .i64 0,.bool false,.int .i64 0,.slice none 0 0] 49) by rw [← hW]; with_reducible (repeat (first|assumption|(refine hp_new _ _ _ ?_;focus (simp;done))|refine hpl ?_|(refine hpf ?_ ?_;focus (first|(simp;done)|(simp;omega)))|refine hpd ?_|refine hpe ?_)))
 have HF1:=Lib.hid (show w1.heap[w.heap.size+1]?=some (.cells #[.int .i64 0,.int .i64 0,.int .i64 0,.slice none 0 0,.int .i64 0,.int .u32 0,.int .i64 0,.int .i64 0,.int .i64 0,.bool false,.int .i64 0,.slice none 0 0] 49) by rw [← hW]; with_reducible (repeat (first|assumption|(refine hp_new _ _ _ ?_;focus (simp;done))|refine hpl ?_|(refine hpf ?_ ?_;focus (first|(simp;done)|(simp;omega)))|refine hpd ?_|refine hpe ?_)))
 have HX1:=Lib.hid (show w1.heap[w.heap.size+2]?=some (.cells #[.bool false,.int .i64 0,.int .i64 0] 64) by rw [← hW]; with_reducible (repeat (first|assumption|(refine hp_new _ _ _ ?_;focus (simp;done))|refine hpl ?_|(refine hpf ?_ ?_;focus (first|(simp;done)|(simp;omega)))|refine hpd ?_|refine hpe ?_)))
 have HK1:=Lib.hid K1
 clear hW K1
 refine (rpad7 w1).mono ?_
 rintro e w2 ⟨rfl,rfl⟩
 obtain ⟨q0,q1,q2,q3,q4,q5,q6,q7,q8,q9,q10,q11,qz,qlt,qlt2⟩:=cellsF HB1.out
 obtain ⟨z0,z1,z2,z3,z4,z5,z6,z7,z8,z9,z10,z11,zz,zlt,zlt2⟩:=cellsF HF1.out
 have x0:=cell_of HX1.out 0
 have x1:=cell_of HX1.out 1
 have x2:=cell_of HX1.out 2
 have xz:=frozen_of HX1.out
 go_wp2
 generalize hW:World.setCell _ _ _=W
 obtain ⟨HF9,HX9,K9⟩:W.heap[w.heap.size+1]?=some (.cells #[.int .i64 7,.int .i64 fl,.int .i64 st,.slice none 0 0,.int .i64 0,.int .u32 0,.int .i64 0,.int .i64 0,.int .i64 0,.bool false,.int .i64 0,.slice none 0 0] 49)∧W.heap[w.heap.size+2]?=some (.cells #[.bool false,.int .i64 0,.int .i64 0] 64)∧Kp [w.heap.size+1,w.heap.size+2] w1 W:=by rw [← hW]; exact set15 (by omega) HF1.out HX1.out
 refine bodyPost_ret (v:=.tuple #[.agg #[.int .i64 7,.int .i64 fl,.int .i64 st,.slice none 0 0,.int .i64 0,.int .u32 0,.int .i64 0,.int .i64 0,.int .i64 0,.bool false,.int .i64 0,.slice none 0 0],.slice A n c,.agg #[.bool false,.int .i64 0,.int .i64 0]]) (by simp [results,Try.results155,go_sem,cell_of HF9,cell_of HX9]) rfl ⟨_,_,_,rfl,?_,HK1.out.then K9 (by simp)⟩
 exact (HR.out.keep HK1.out (by simp)).keep (S:=[w.heap.size+1,w.heap.size+2]) K9 (by intro hn0 t h1 h2; have:=HLT.out hn0 t h1; simp at h2; omega)
theorem rparts8 (fl st:Int) (hf0:0≤fl) (hf1:fl≤255) (A:Option Addr) (n c:Nat) (l:List UInt8) (w:World) (hr:Rd w A n c l) (hn:n≤16777216):Calls Try.prog 155 #[.agg #[.int .i64 8,.int .i64 fl,.int .i64 st,.slice none 0 0,.int .i64 0,.int .u32 0,.int .i64 0,.int .i64 0,.int .i64 0,.bool false,.int .i64 0,.slice none 0 0],.slice A n c] w (PartR 8 fl st (unS 8 fl l) w):=by
 have e:unS 8 fl l=.ok 0 l:=by simp [unS,padF,paddedB,fixedN]
 rw [e]
 clear e
 have HR:=Lib.hid hr
 have HLT:=Lib.hid (show 0 < n→∀ t,t∈ob A→t < w.heap.size from fun h t ht=>by obtain ⟨b,o,hA,hb,_⟩:=hr.addr h; rw [hA] at ht; simp [ob] at ht; omega)
 clear hr
 go_enter Try.func155,Try.ntmps155
 go_wp2_with fail
 generalize hW:World.alloc _ _=w1
 have K1:Kp [] w w1:=by rw [← hW]; with_reducible (repeat (first|exact Kp.refl _ _|assumption|refine Kp.alloc ?_ _|refine Kp.drew ?_|refine Kp.drewN ?_ _|(refine Kp.setL ?_ ?_ _;focus (simp;done))|(refine Kp.setR ?_ ?_ _;focus (first|(simp;done)|(simp;omega)))))
 have HB1:=Lib.hid (show w1.heap[w.heap.size]?=some (.cells #[.int .i64 8,.int .i64 fl,.int .i64 st,.slice none 0 0,.int .i64 0,.int .u32 0,.int .i64 0,.int .i64 0,.int .i64 0,.bool false,.int .i64 0,.slice none 0 0] 49) by rw [← hW]; with_reducible (repeat (first|assumption|(refine hp_new _ _ _ ?_;focus (simp;done))|refine hpl ?_|(refine hpf ?_ ?_;focus (first|(simp;done)|(simp;omega)))|refine hpd ?_|refine hpe ?_)))
 have HF1:=Lib.hid (show w1.heap[w.heap.size+1]?=some (.cells #[.int .i64 0,.int .i64 0,.int .i64 0,.slice none 0 0,.int .i64 0,.int .u32 0,.int .i64 0,.int .i64 0,.int .i64 0,.bool false,.int .i64 0,.slice none 0 0] 49) by rw [← hW]; with_reducible (repeat (first|assumption|(refine hp_new _ _ _ ?_;focus (simp;done))|refine hpl ?_|(refine hpf ?_ ?_;focus (first|(simp;done)|(simp;omega)))|refine hpd ?_|refine hpe ?_)))
 have HX1:=Lib.hid (show w1.heap[w.heap.size+2]?=some (.cells #[.bool false,.int .i64 0,.int .i64 0] 64) by rw [← hW]; with_reducible (repeat (first|assumption|(refine hp_new _ _ _ ?_;focus (simp;done))|refine hpl ?_|(refine hpf ?_ ?_;focus (first|(simp;done)|(simp;omega)))|refine hpd ?_|refine hpe ?_)))
 have HK1:=Lib.hid K1
 clear hW K1
 refine (rpad8 w1).mono ?_
 rintro e w2 ⟨rfl,rfl⟩
 obtain ⟨q0,q1,q2,q3,q4,q5,q6,q7,q8,q9,q10,q11,qz,qlt,qlt2⟩:=cellsF HB1.out
 obtain ⟨z0,z1,z2,z3,z4,z5,z6,z7,z8,z9,z10,z11,zz,zlt,zlt2⟩:=cellsF HF1.out
 have x0:=cell_of HX1.out 0
 have x1:=cell_of HX1.out 1
 have x2:=cell_of HX1.out 2
 have xz:=frozen_of HX1.out
 go_wp2
 generalize hW:World.setCell _ _ _=W
 obtain ⟨HF9,HX9,K9⟩:W.heap[w.heap.size+1]?=some (.cells #[.int .i64 8,.int .i64 fl,.int .i64 st,.slice none 0 0,.int .i64 0,.int .u32 0,.int .i64 0,.int .i64 0,.int .i64 0,.bool false,.int .i64 0,.slice none 0 0] 49)∧W.heap[w.heap.size+2]?=some (.cells #[.bool false,.int .i64 0,.int .i64 0] 64)∧Kp [w.heap.size+1,w.heap.size+2] w1 W:=by rw [← hW]; exact set15 (by omega) HF1.out HX1.out
 refine bodyPost_ret (v:=.tuple #[.agg #[.int .i64 8,.int .i64 fl,.int .i64 st,.slice none 0 0,.int .i64 0,.int .u32 0,.int .i64 0,.int .i64 0,.int .i64 0,.bool false,.int .i64 0,.slice none 0 0],.slice A n c,.agg #[.bool false,.int .i64 0,.int .i64 0]]) (by simp [results,Try.results155,go_sem,cell_of HF9,cell_of HX9]) rfl ⟨_,_,_,rfl,?_,HK1.out.then K9 (by simp)⟩
 exact (HR.out.keep HK1.out (by simp)).keep (S:=[w.heap.size+1,w.heap.size+2]) K9 (by intro hn0 t h1 h2; have:=HLT.out hn0 t h1; simp at h2; omega)
theorem rparts9 (fl st:Int) (hf0:0≤fl) (hf1:fl≤255) (A:Option Addr) (n c:Nat) (l:List UInt8) (w:World) (hr:Rd w A n c l) (hn:n≤16777216):Calls Try.prog 155 #[.agg #[.int .i64 9,.int .i64 fl,.int .i64 st,.slice none 0 0,.int .i64 0,.int .u32 0,.int .i64 0,.int .i64 0,.int .i64 0,.bool false,.int .i64 0,.slice none 0 0],.slice A n c] w (PartR 9 fl st (unS 9 fl l) w):=by
 have e:unS 9 fl l=.ok 0 l:=by simp [unS,padF,paddedB,fixedN]
 rw [e]
 clear e
 have HR:=Lib.hid hr
 have HLT:=Lib.hid (show 0 < n→∀ t,t∈ob A→t < w.heap.size from fun h t ht=>by obtain ⟨b,o,hA,hb,_⟩:=hr.addr h; rw [hA] at ht; simp [ob] at ht; omega)
 clear hr
 go_enter Try.func155,Try.ntmps155
 go_wp2_with fail
 generalize hW:World.alloc _ _=w1
 have K1:Kp [] w w1:=by rw [← hW]; with_reducible (repeat (first|exact Kp.refl _ _|assumption|refine Kp.alloc ?_ _|refine Kp.drew ?_|refine Kp.drewN ?_ _|(refine Kp.setL ?_ ?_ _;focus (simp;done))|(refine Kp.setR ?_ ?_ _;focus (first|(simp;done)|(simp;omega)))))
 have HB1:=Lib.hid (show w1.heap[w.heap.size]?=some (.cells #[.int .i64 9,.int .i64 fl,.int .i64 st,.slice none 0 0,.int .i64 0,.int .u32 0,.int .i64 0,.int .i64 0,.int .i64 0,.bool false,.int .i64 0,.slice none 0 0] 49) by rw [← hW]; with_reducible (repeat (first|assumption|(refine hp_new _ _ _ ?_;focus (simp;done))|refine hpl ?_|(refine hpf ?_ ?_;focus (first|(simp;done)|(simp;omega)))|refine hpd ?_|refine hpe ?_)))
 have HF1:=Lib.hid (show w1.heap[w.heap.size+1]?=some (.cells #[.int .i64 0,.int .i64 0,.int .i64 0,.slice none 0 0,.int .i64 0,.int .u32 0,.int .i64 0,.int .i64 0,.int .i64 0,.bool false,.int .i64 0,.slice none 0 0] 49) by rw [← hW]; with_reducible (repeat (first|assumption|(refine hp_new _ _ _ ?_;focus (simp;done))|refine hpl ?_|(refine hpf ?_ ?_;focus (first|(simp;done)|(simp;omega)))|refine hpd ?_|refine hpe ?_)))
 have HX1:=Lib.hid (show w1.heap[w.heap.size+2]?=some (.cells #[.bool false,.int .i64 0,.int .i64 0] 64) by rw [← hW]; with_reducible (repeat (first|assumption|(refine hp_new _ _ _ ?_;focus (simp;done))|refine hpl ?_|(refine hpf ?_ ?_;focus (first|(simp;done)|(simp;omega)))|refine hpd ?_|refine hpe ?_)))
 have HK1:=Lib.hid K1
 clear hW K1
 refine (rpad9 w1).mono ?_
 rintro e w2 ⟨rfl,rfl⟩
 obtain ⟨q0,q1,q2,q3,q4,q5,q6,q7,q8,q9,q10,q11,qz,qlt,qlt2⟩:=cellsF HB1.out
 obtain ⟨z0,z1,z2,z3,z4,z5,z6,z7,z8,z9,z10,z11,zz,zlt,zlt2⟩:=cellsF HF1.out
 have x0:=cell_of HX1.out 0
 have x1:=cell_of HX1.out 1
 have x2:=cell_of HX1.out 2
 have xz:=frozen_of HX1.out
 go_wp2
 generalize hW:World.setCell _ _ _=W
 obtain ⟨HF9,HX9,K9⟩:W.heap[w.heap.size+1]?=some (.cells #[.int .i64 9,.int .i64 fl,.int .i64 st,.slice none 0 0,.int .i64 0,.int .u32 0,.int .i64 0,.int .i64 0,.int .i64 0,.bool false,.int .i64 0,.slice none 0 0] 49)∧W.heap[w.heap.size+2]?=some (.cells #[.bool false,.int .i64 0,.int .i64 0] 64)∧Kp [w.heap.size+1,w.heap.size+2] w1 W:=by rw [← hW]; exact set15 (by omega) HF1.out HX1.out
 refine bodyPost_ret (v:=.tuple #[.agg #[.int .i64 9,.int .i64 fl,.int .i64 st,.slice none 0 0,.int .i64 0,.int .u32 0,.int .i64 0,.int .i64 0,.int .i64 0,.bool false,.int .i64 0,.slice none 0 0],.slice A n c,.agg #[.bool false,.int .i64 0,.int .i64 0]]) (by simp [results,Try.results155,go_sem,cell_of HF9,cell_of HX9]) rfl ⟨_,_,_,rfl,?_,HK1.out.then K9 (by simp)⟩
 exact (HR.out.keep HK1.out (by simp)).keep (S:=[w.heap.size+1,w.heap.size+2]) K9 (by intro hn0 t h1 h2; have:=HLT.out hn0 t h1; simp at h2; omega)
theorem rparts0f (fl st:Int) (hf0:0≤fl) (hf1:fl≤255) (h8:hasB fl 8=false) (A:Option Addr) (n c:Nat) (l:List UInt8) (w:World) (hr:Rd w A n c l) (hn:n≤16777216):Calls Try.prog 155 #[.agg #[.int .i64 0,.int .i64 fl,.int .i64 st,.slice none 0 0,.int .i64 0,.int .u32 0,.int .i64 0,.int .i64 0,.int .i64 0,.bool false,.int .i64 0,.slice none 0 0],.slice A n c] w (PartR 0 fl st (unS 0 fl l) w):=by
 have hp:padF 0 fl=false:=by simp [padF,paddedB,h8]
 have hfx:fixedN 0 fl=0:=by simp [fixedN]
 have HH8:=Lib.hid h8
 have hlen:=hr.len
 have hcap:=hr.cap
 unfold unS
 rw [hp,hfx]
 have HR:=Lib.hid hr
 have HLT:=Lib.hid (show 0 < n→∀ t,t∈ob A→t < w.heap.size from fun h t ht=>by obtain ⟨b,o,hA,hb,_⟩:=hr.addr h; rw [hA] at ht; simp [ob] at ht; omega)
 rw [if_neg (by decide)]
 rw [if_neg (by omega)]
 clear hr hp hfx h8 hlen
 go_enter Try.func155,Try.ntmps155
 go_wp2_with fail
 generalize hW:World.alloc _ _=w1
 have K1:Kp [] w w1:=by rw [← hW]; with_reducible (repeat (first|exact Kp.refl _ _|assumption|refine Kp.alloc ?_ _|refine Kp.drew ?_|refine Kp.drewN ?_ _|(refine Kp.setL ?_ ?_ _;focus (simp;done))|(refine Kp.setR ?_ ?_ _;focus (first|(simp;done)|(simp;omega)))))
 have HB1:=Lib.hid (show w1.heap[w.heap.size]?=some (.cells #[.int .i64 0,.int .i64 fl,.int .i64 st,.slice none 0 0,.int .i64 0,.int .u32 0,.int .i64 0,.int .i64 0,.int .i64 0,.bool false,.int .i64 0,.slice none 0 0] 49) by rw [← hW]; with_reducible (repeat (first|assumption|(refine hp_new _ _ _ ?_;focus (simp;done))|refine hpl ?_|(refine hpf ?_ ?_;focus (first|(simp;done)|(simp;omega)))|refine hpd ?_|refine hpe ?_)))
 have HF1:=Lib.hid (show w1.heap[w.heap.size+1]?=some (.cells #[.int .i64 0,.int .i64 0,.int .i64 0,.slice none 0 0,.int .i64 0,.int .u32 0,.int .i64 0,.int .i64 0,.int .i64 0,.bool false,.int .i64 0,.slice none 0 0] 49) by rw [← hW]; with_reducible (repeat (first|assumption|(refine hp_new _ _ _ ?_;focus (simp;done))|refine hpl ?_|(refine hpf ?_ ?_;focus (first|(simp;done)|(simp;omega)))|refine hpd ?_|refine hpe ?_)))
 have HX1:=Lib.hid (show w1.heap[w.heap.size+2]?=some (.cells #[.bool false,.int .i64 0,.int .i64 0] 64) by rw [← hW]; with_reducible (repeat (first|assumption|(refine hp_new _ _ _ ?_;focus (simp;done))|refine hpl ?_|(refine hpf ?_ ?_;focus (first|(simp;done)|(simp;omega)))|refine hpd ?_|refine hpe ?_)))
 have HK1:=Lib.hid K1
 clear hW K1
 refine (rpad0 w1).mono ?_
 rintro e w2 ⟨rfl,rfl⟩
 obtain ⟨q0,q1,q2,q3,q4,q5,q6,q7,q8,q9,q10,q11,qz,qlt,qlt2⟩:=cellsF HB1.out
 go_wp2_with fail
 refine (hasF fl 8 _ hf0 hf1 (by omega) (by omega)).mono ?_
 rintro e w2 ⟨rfl,rfl⟩
 rw [HH8.out]
 obtain ⟨z0,z1,z2,z3,z4,z5,z6,z7,z8,z9,z10,z11,zz,zlt,zlt2⟩:=cellsF HF1.out
 have x0:=cell_of HX1.out 0
 have x1:=cell_of HX1.out 1
 have x2:=cell_of HX1.out 2
 have xz:=frozen_of HX1.out
 go_wp2
 generalize hW:World.setCell _ _ _=W
 obtain ⟨HF9,HX9,K9⟩:W.heap[w.heap.size+1]?=some (.cells #[.int .i64 0,.int .i64 fl,.int .i64 st,.slice none 0 0,.int .i64 0,.int .u32 0,.int .i64 0,.int .i64 0,.int .i64 0,.bool false,.int .i64 0,.slice none 0 0] 49)∧W.heap[w.heap.size+2]?=some (.cells #[.bool false,.int .i64 0,.int .i64 0] 64)∧Kp [w.heap.size+1,w.heap.size+2] w1 W:=by rw [← hW]; exact set15 (by omega) HF1.out HX1.out
 refine bodyPost_ret (v:=.tuple #[.agg #[.int .i64 0,.int .i64 fl,.int .i64 st,.slice none 0 0,.int .i64 0,.int .u32 0,.int .i64 0,.int .i64 0,.int .i64 0,.bool false,.int .i64 0,.slice none 0 0],.slice A n c,.agg #[.bool false,.int .i64 0,.int .i64 0]]) (by simp [results,Try.results155,go_sem,cell_of HF9,cell_of HX9]) rfl ⟨_,_,_,rfl,?_,HK1.out.then K9 (by simp)⟩
 exact (HR.out.keep HK1.out (by simp)).keep (S:=[w.heap.size+1,w.heap.size+2]) K9 (by intro hn0 t h1 h2; have:=HLT.out hn0 t h1; simp at h2; omega)
theorem rparts0t (fl st:Int) (hf0:0≤fl) (hf1:fl≤255) (h8:hasB fl 8=true) (A:Option Addr) (n c:Nat) (l:List UInt8) (w:World) (hr:Rd w A n c l) (hn:n≤16777216):Calls Try.prog 155 #[.agg #[.int .i64 0,.int .i64 fl,.int .i64 st,.slice none 0 0,.int .i64 0,.int .u32 0,.int .i64 0,.int .i64 0,.int .i64 0,.bool false,.int .i64 0,.slice none 0 0],.slice A n c] w (PartR 0 fl st (unS 0 fl l) w):=by
 have hp:padF 0 fl=true:=by simp [padF,paddedB,h8]
 have hfx:fixedN 0 fl=0:=by simp [fixedN]
 have HH8:=Lib.hid h8
 have hlen:=hr.len
 have hcap:=hr.cap
 unfold unS
 rw [hp,hfx]
 have HR:=Lib.hid hr
 have HLT:=Lib.hid (show 0 < n→∀ t,t∈ob A→t < w.heap.size from fun h t ht=>by obtain ⟨b,o,hA,hb,_⟩:=hr.addr h; rw [hA] at ht; simp [ob] at ht; omega)
 rw [if_pos rfl]
 by_cases hs:n < 1+0
 ·rw [if_pos (by omega)]
  clear hr hp hfx h8 hlen
  go_enter Try.func155,Try.ntmps155
  go_wp2_with fail
  generalize hW:World.alloc _ _=w1
  have K1:Kp [] w w1:=by rw [← hW]; with_reducible (repeat (first|exact Kp.refl _ _|assumption|refine Kp.alloc ?_ _|refine Kp.drew ?_|refine Kp.drewN ?_ _|(refine Kp.setL ?_ ?_ _;focus (simp;done))|(refine Kp.setR ?_ ?_ _;focus (first|(simp;done)|(simp;omega)))))
  have HB1:=Lib.hid (show w1.heap[w.heap.size]?=some (.cells #[.int .i64 0,.int .i64 fl,.int .i64 st,.slice none 0 0,.int .i64 0,.int .u32 0,.int .i64 0,.int .i64 0,.int .i64 0,.bool false,.int .i64 0,.slice none 0 0] 49) by rw [← hW]; with_reducible (repeat (first|assumption|(refine hp_new _ _ _ ?_;focus (simp;done))|refine hpl ?_|(refine hpf ?_ ?_;focus (first|(simp;done)|(simp;omega)))|refine hpd ?_|refine hpe ?_)))
  have HF1:=Lib.hid (show w1.heap[w.heap.size+1]?=some (.cells #[.int .i64 0,.int .i64 0,.int .i64 0,.slice none 0 0,.int .i64 0,.int .u32 0,.int .i64 0,.int .i64 0,.int .i64 0,.bool false,.int .i64 0,.slice none 0 0] 49) by rw [← hW]; with_reducible (repeat (first|assumption|(refine hp_new _ _ _ ?_;focus (simp;done))|refine hpl ?_|(refine hpf ?_ ?_;focus (first|(simp;done)|(simp;omega)))|refine hpd ?_|refine hpe ?_)))
  have HX1:=Lib.hid (show w1.heap[w.heap.size+2]?=some (.cells #[.bool false,.int .i64 0,.int .i64 0] 64) by rw [← hW]; with_reducible (repeat (first|assumption|(refine hp_new _ _ _ ?_;focus (simp;done))|refine hpl ?_|(refine hpf ?_ ?_;focus (first|(simp;done)|(simp;omega)))|refine hpd ?_|refine hpe ?_)))
  have HK1:=Lib.hid K1
  clear hW K1
  refine (rpad0 w1).mono ?_
  rintro e w2 ⟨rfl,rfl⟩
  obtain ⟨q0,q1,q2,q3,q4,q5,q6,q7,q8,q9,q10,q11,qz,qlt,qlt2⟩:=cellsF HB1.out
  go_wp2_with fail
  refine (hasF fl 8 _ hf0 hf1 (by omega) (by omega)).mono ?_
  rintro e w2 ⟨rfl,rfl⟩
  rw [HH8.out]
  go_wp2
  clear q0 q1 q2 q3 q4 q5 q6 q7 q8 q9 q10 q11 qz qlt qlt2
  generalize hg:w.heap.size=g at *
  refine wp_region_st (by kernel_rfl) [fun _ v _=>v=(.agg #[.int .i64 0,.int .i64 fl,.int .i64 st,.slice none 0 0,.int .i64 0,.int .u32 0,.int .i64 0,.int .i64 0,.int .i64 0,.bool false,.int .i64 0,.slice none 0 0]),
    fun _ v _=>v=(.agg #[.bool true,.int .i64 0,.int .i64 6]),
    fun _ v _=>True,
    fun _ v _=>v=(.slice none 0 0),
    fun _ v _=>True] (fun p w=>Kp [g+1,g+2] w1 w∧(p≤0→w.heap[g+1]?=some (.cells #[.int .i64 0,.int .i64 0,.int .i64 0,.slice none 0 0,.int .i64 0,.int .u32 0,.int .i64 0,.int .i64 0,.int .i64 0,.bool false,.int .i64 0,.slice none 0 0] 49))∧(1≤p→w.heap[g+1]?=some (.cells #[.int .i64 0,.int .i64 fl,.int .i64 st,.slice none 0 0,.int .i64 0,.int .u32 0,.int .i64 0,.int .i64 0,.int .i64 0,.bool false,.int .i64 0,.slice none 0 0] 49))∧(p≤1→w.heap[g+2]?=some (.cells #[.bool false,.int .i64 0,.int .i64 0] 64))∧(2≤p→w.heap[g+2]?=some (.cells #[.bool true,.int .i64 0,.int .i64 6] 64))) (fun _ _ _=>True) (fun w w'=>Kp [] w w') [2,4] [1] (by kernel_rfl) (by kernel_rfl) (by kernel_rfl) (by decide) (by kernel_rfl) ⟨StabAt2.const _,StabAt2.const _,StabAt2.const _,StabAt2.const _,StabAt2.const _,trivial⟩ (⟨(Kp.refl _ _).drew,fun _=>HF1.out,fun h=>by omega,fun _=>HX1.out,fun h=>by omega⟩) ⟨?_,?_,?_,?_,?_,trivial⟩ (by kernel_rfl) ?_
  ·intro q9 a w E hC K hK
   have h2:a.tmps[2]?=some (.pointer (some ⟨g,0,none⟩)):=(E.out 2 (by kernel_rfl)).trans rfl
   refine want_none rfl ?_
   have hb:=hC.1.heap HB1.out (by simp)
   obtain ⟨q0,q1,q2,q3,q4,q5,q6,q7,q8,q9,q10,q11,qz,qlt,qlt2⟩:=cellsF hb
   clear hb
   go_simp
   exact hK _ rfl
  ·intro q9 a w E hC K hK
   refine want_none rfl ?_
   go_simp
   refine (rfault 6 w).mono ?_
   rintro e w2 ⟨rfl,K2⟩
   go_simp
   exact hK _ _ rfl ⟨hC.1.trans K2.nil,fun h=>K2.heap (hC.2.1 h) (by simp),fun h=>K2.heap (hC.2.2.1 h) (by simp),fun h=>K2.heap (hC.2.2.2.1 h) (by simp),fun h=>K2.heap (hC.2.2.2.2 h) (by simp)⟩ K2
  ·intro a w E hC K hK
   have h4:a.tmps[4]?=some (.pointer (some ⟨g+1,0,none⟩)):=(E.out 4 (by kernel_rfl)).trans rfl
   obtain ⟨_,h39,rfl⟩:=E.pred 0 _ 39 rfl rfl (by kernel_rfl)
   refine want_none rfl ?_
   have hz:=hC.2.1 (by omega)
   have HZ:=Lib.hid hz
   obtain ⟨q0,q1,q2,q3,q4,q5,q6,q7,q8,q9,q10,q11,qz,qlt,qlt2⟩:=cellsF hz
   clear hz
   go_simp
   generalize hW:World.setCell _ _ _=w2
   obtain ⟨hs1,hs2⟩:w2.heap[g+1]?=some (.cells #[.int .i64 0,.int .i64 fl,.int .i64 st,.slice none 0 0,.int .i64 0,.int .u32 0,.int .i64 0,.int .i64 0,.int .i64 0,.bool false,.int .i64 0,.slice none 0 0] 49)∧Kp [g+1] w w2:=by rw [← hW]; exact rset12 HZ.out
   exact hK undef _ trivial ⟨hC.1.trans (hs2.mono (by simp)),fun h=>by omega,fun _=>hs1,fun h=>hs2.heap (hC.2.2.2.1 (by omega)) (by simp),fun h=>by omega⟩ trivial
  ·intro q9 a w E hC K hK
   refine want_none rfl ?_
   go_simp
   exact hK _ rfl
  ·intro a w E hC K hK
   have h6:a.tmps[6]?=some (.pointer (some ⟨g+2,0,none⟩)):=(E.out 6 (by kernel_rfl)).trans rfl
   obtain ⟨v1,h40,V1⟩:=E.pred 1 _ 40 rfl rfl (by kernel_rfl)
   replace V1:(fun _ v _=>v=(.agg #[.bool true,.int .i64 0,.int .i64 6])) 1 v1 w:=V1
   obtain rfl:=V1
   refine want_none rfl ?_
   have hz:=hC.2.2.2.1 (by omega)
   have HZ:=Lib.hid hz
   have x0:=cell_of hz 0
   have x1:=cell_of hz 1
   have x2:=cell_of hz 2
   have xz:=frozen_of hz
   have xl:=lt_of_heap hz
   clear hz
   go_simp
   generalize hW:World.setCell _ _ _=w2
   obtain ⟨hs1,hs2⟩:w2.heap[g+2]?=some (.cells #[.bool true,.int .i64 0,.int .i64 6] 64)∧Kp [g+2] w w2:=by rw [← hW]; exact rset3 HZ.out
   exact hK undef _ trivial ⟨hC.1.trans (hs2.mono (by simp)),fun h=>by omega,fun _=>hs2.heap (hC.2.2.1 (by omega)) (by simp),fun h=>by omega,fun _=>hs1⟩ trivial
  intro vs w8 hC hV
  have h3:vs 3=.slice none 0 0:=hV 3 _ rfl (by simp)
  have HF9:=hC.2.2.1 (by simp)
  have HX9:=hC.2.2.2.2 (by simp)
  have K9:=hC.1
  clear hV hC
  simp only [putAll,Act.put,List.setIfInBounds_toArray]
  dsimp only [List.set]
  rw [h3]
  go_wp2
  subst hg
  refine bodyPost_ret (v:=.tuple #[.agg #[.int .i64 0,.int .i64 fl,.int .i64 st,.slice none 0 0,.int .i64 0,.int .u32 0,.int .i64 0,.int .i64 0,.int .i64 0,.bool false,.int .i64 0,.slice none 0 0],.slice none 0 0,.agg #[.bool true,.int .i64 0,.int .i64 6]]) (by simp [results,Try.results155,go_sem,cell_of HF9,cell_of HX9]) rfl ⟨(⟨0,fl,st,none,0,0,0,0,0,0,0,false,0,none,0,0⟩:Fr),rfl,HK1.out.then K9 (by intro t ht; simp at ht; right; omega)⟩
 ·rw [if_neg (by omega)]
  obtain ⟨b,o,rfl,hbw,hcell⟩:=hr.addr (by omega)
  obtain ⟨n1,rfl⟩:∃ n1,n=n1+1:=⟨n - 1,by omega⟩
  obtain ⟨c1,rfl⟩:∃ c1,c=c1+1:=⟨c - 1,by omega⟩
  have hy:=(l.getD 0 0).toNat_lt
  have hQ:=hcell 0 (by omega)
  rw [Nat.add_zero] at hQ
  generalize hyd:(l.getD 0 0).toNat=y at *
  have HQ0:=Lib.hid hQ
  have HWY:=Lib.hid (show IntKind.i64.wrap (y:Int)=(y:Int) from IntWalk.i64_in _ (by omega))
  have hll:(l.length:Int) - 1=(n1:Int):=by omega
  have hl1:l.length - 1=n1:=by omega
  rw [hll,hl1]
  clear hr hp hfx h8 hcell hlen hQ hyd hll hl1
  by_cases hbd:(n1:Int) - (y:Int) < ((0:Nat):Int)
  ·by_cases hc1:c1=0
   ·subst hc1
    rw [if_pos hbd]
    have hbd':(n1:Int) - (y:Int) < 0:=by simpa using hbd
    clear hbd
    obtain rfl:n1=0:=by omega
    go_enter Try.func155,Try.ntmps155
    go_wp2_with fail
    generalize hW:World.alloc _ _=w1
    have K1:Kp [] w w1:=by rw [← hW]; with_reducible (repeat (first|exact Kp.refl _ _|assumption|refine Kp.alloc ?_ _|refine Kp.drew ?_|refine Kp.drewN ?_ _|(refine Kp.setL ?_ ?_ _;focus (simp;done))|(refine Kp.setR ?_ ?_ _;focus (first|(simp;done)|(simp;omega)))))
    have HB1:=Lib.hid (show w1.heap[w.heap.size]?=some (.cells #[.int .i64 0,.int .i64 fl,.int .i64 st,.slice none 0 0,.int .i64 0,.int .u32 0,.int .i64 0,.int .i64 0,.int .i64 0,.bool false,.int .i64 0,.slice none 0 0] 49) by rw [← hW]; with_reducible (repeat (first|assumption|(refine hp_new _ _ _ ?_;focus (simp;done))|refine hpl ?_|(refine hpf ?_ ?_;focus (first|(simp;done)|(simp;omega)))|refine hpd ?_|refine hpe ?_)))
    have HF1:=Lib.hid (show w1.heap[w.heap.size+1]?=some (.cells #[.int .i64 0,.int .i64 0,.int .i64 0,.slice none 0 0,.int .i64 0,.int .u32 0,.int .i64 0,.int .i64 0,.int .i64 0,.bool false,.int .i64 0,.slice none 0 0] 49) by rw [← hW]; with_reducible (repeat (first|assumption|(refine hp_new _ _ _ ?_;focus (simp;done))|refine hpl ?_|(refine hpf ?_ ?_;focus (first|(simp;done)|(simp;omega)))|refine hpd ?_|refine hpe ?_)))
    have HX1:=Lib.hid (show w1.heap[w.heap.size+2]?=some (.cells #[.bool false,.int .i64 0,.int .i64 0] 64) by rw [← hW]; with_reducible (repeat (first|assumption|(refine hp_new _ _ _ ?_;focus (simp;done))|refine hpl ?_|(refine hpf ?_ ?_;focus (first|(simp;done)|(simp;omega)))|refine hpd ?_|refine hpe ?_)))
    have HK1:=Lib.hid K1
    clear hW K1
    refine (rpad0 w1).mono ?_
    rintro e w2 ⟨rfl,rfl⟩
    obtain ⟨q0,q1,q2,q3,q4,q5,q6,q7,q8,q9,q10,q11,qz,qlt,qlt2⟩:=cellsF HB1.out
    go_wp2_with fail
    refine (hasF fl 8 _ hf0 hf1 (by omega) (by omega)).mono ?_
    rintro e w2 ⟨rfl,rfl⟩
    rw [HH8.out]
    have g1:=HK1.out.cell HQ0.out (by simp)
    have ewy:=HWY.out
    go_wp2_with (with_reducible refine stopAt (o:=⟨some 65,_,_,_,_,_⟩) ?_)
    generalize hW:World.setCell _ _ _=w3
    have K3:Kp [w.heap.size] w1 w3:=by rw [← hW]; exact (Kp.refl _ _).setCell (.inl (by simp)) _
    have HB3:=Lib.hid (show w3.heap[w.heap.size]?=some (.cells #[.int .i64 0,.int .i64 fl,.int .i64 st,.slice none 0 0,.int .i64 (y:Int),.int .u32 0,.int .i64 0,.int .i64 0,.int .i64 0,.bool false,.int .i64 0,.slice none 0 0] 49) by rw [← hW]; exact hp_set _ _ _ _ _ _ HB1.out)
    have HF3:=Lib.hid (K3.heap HF1.out (by simp))
    have HX3:=Lib.hid (K3.heap HX1.out (by simp))
    have HK3:=Lib.hid (HK1.out.then K3 (by simp))
    clear hW K3 HB1 HF1 HX1 HK1 g1 q0 q1 q2 q3 q4 q5 q6 q7 q8 q9 q10 q11 qz qlt qlt2
    obtain ⟨q0,q1,q2,q3,q4,q5,q6,q7,q8,q9,q10,q11,qz,qlt,qlt2⟩:=cellsF HB3.out
    refine Stop.go ?_
    go_wp2
    clear q0 q1 q2 q3 q4 q5 q6 q7 q8 q9 q10 q11 qz qlt qlt2
    generalize hg:w.heap.size=g at *
    refine wp_region_st (by kernel_rfl) [fun _ v _=>v=(.agg #[.int .i64 0,.int .i64 fl,.int .i64 st,.slice none 0 0,.int .i64 (y:Int),.int .u32 0,.int .i64 0,.int .i64 0,.int .i64 0,.bool false,.int .i64 0,.slice none 0 0]),
      fun _ v _=>v=(.agg #[.bool true,.int .i64 0,.int .i64 1]),
      fun _ v _=>True,
      fun _ v _=>v=(.slice none 0 0),
      fun _ v _=>True] (fun p w=>Kp [g+1,g+2] w3 w∧(p≤0→w.heap[g+1]?=some (.cells #[.int .i64 0,.int .i64 0,.int .i64 0,.slice none 0 0,.int .i64 0,.int .u32 0,.int .i64 0,.int .i64 0,.int .i64 0,.bool false,.int .i64 0,.slice none 0 0] 49))∧(1≤p→w.heap[g+1]?=some (.cells #[.int .i64 0,.int .i64 fl,.int .i64 st,.slice none 0 0,.int .i64 (y:Int),.int .u32 0,.int .i64 0,.int .i64 0,.int .i64 0,.bool false,.int .i64 0,.slice none 0 0] 49))∧(p≤1→w.heap[g+2]?=some (.cells #[.bool false,.int .i64 0,.int .i64 0] 64))∧(2≤p→w.heap[g+2]?=some (.cells #[.bool true,.int .i64 0,.int .i64 1] 64))) (fun _ _ _=>True) (fun w w'=>Kp [] w w') [2,4] [1] (by kernel_rfl) (by kernel_rfl) (by kernel_rfl) (by decide) (by kernel_rfl) ⟨StabAt2.const _,StabAt2.const _,StabAt2.const _,StabAt2.const _,StabAt2.const _,trivial⟩ (⟨(Kp.refl _ _).drew,fun _=>HF3.out,fun h=>by omega,fun _=>HX3.out,fun h=>by omega⟩) ⟨?_,?_,?_,?_,?_,trivial⟩ (by kernel_rfl) ?_
    ·intro q9 a w E hC K hK
     have h2:a.tmps[2]?=some (.pointer (some ⟨g,0,none⟩)):=(E.out 2 (by kernel_rfl)).trans rfl
     refine want_none rfl ?_
     have hb:=hC.1.heap HB3.out (by simp)
     obtain ⟨q0,q1,q2,q3,q4,q5,q6,q7,q8,q9,q10,q11,qz,qlt,qlt2⟩:=cellsF hb
     clear hb
     go_simp
     exact hK _ rfl
    ·intro q9 a w E hC K hK
     refine want_none rfl ?_
     go_simp
     refine (rfault 1 w).mono ?_
     rintro e w2 ⟨rfl,K2⟩
     go_simp
     exact hK _ _ rfl ⟨hC.1.trans K2.nil,fun h=>K2.heap (hC.2.1 h) (by simp),fun h=>K2.heap (hC.2.2.1 h) (by simp),fun h=>K2.heap (hC.2.2.2.1 h) (by simp),fun h=>K2.heap (hC.2.2.2.2 h) (by simp)⟩ K2
    ·intro a w E hC K hK
     have h4:a.tmps[4]?=some (.pointer (some ⟨g+1,0,none⟩)):=(E.out 4 (by kernel_rfl)).trans rfl
     obtain ⟨_,h69,rfl⟩:=E.pred 0 _ 69 rfl rfl (by kernel_rfl)
     refine want_none rfl ?_
     have hz:=hC.2.1 (by omega)
     have HZ:=Lib.hid hz
     obtain ⟨q0,q1,q2,q3,q4,q5,q6,q7,q8,q9,q10,q11,qz,qlt,qlt2⟩:=cellsF hz
     clear hz
     go_simp
     generalize hW:World.setCell _ _ _=w2
     obtain ⟨hs1,hs2⟩:w2.heap[g+1]?=some (.cells #[.int .i64 0,.int .i64 fl,.int .i64 st,.slice none 0 0,.int .i64 (y:Int),.int .u32 0,.int .i64 0,.int .i64 0,.int .i64 0,.bool false,.int .i64 0,.slice none 0 0] 49)∧Kp [g+1] w w2:=by rw [← hW]; exact rset12 HZ.out
     exact hK undef _ trivial ⟨hC.1.trans (hs2.mono (by simp)),fun h=>by omega,fun _=>hs1,fun h=>hs2.heap (hC.2.2.2.1 (by omega)) (by simp),fun h=>by omega⟩ trivial
    ·intro q9 a w E hC K hK
     refine want_none rfl ?_
     go_simp
     exact hK _ rfl
    ·intro a w E hC K hK
     have h6:a.tmps[6]?=some (.pointer (some ⟨g+2,0,none⟩)):=(E.out 6 (by kernel_rfl)).trans rfl
     obtain ⟨v1,h70,V1⟩:=E.pred 1 _ 70 rfl rfl (by kernel_rfl)
     replace V1:(fun _ v _=>v=(.agg #[.bool true,.int .i64 0,.int .i64 1])) 1 v1 w:=V1
     obtain rfl:=V1
     refine want_none rfl ?_
     have hz:=hC.2.2.2.1 (by omega)
     have HZ:=Lib.hid hz
     have x0:=cell_of hz 0
     have x1:=cell_of hz 1
     have x2:=cell_of hz 2
     have xz:=frozen_of hz
     have xl:=lt_of_heap hz
     clear hz
     go_simp
     generalize hW:World.setCell _ _ _=w2
     obtain ⟨hs1,hs2⟩:w2.heap[g+2]?=some (.cells #[.bool true,.int .i64 0,.int .i64 1] 64)∧Kp [g+2] w w2:=by rw [← hW]; exact rset3 HZ.out
     exact hK undef _ trivial ⟨hC.1.trans (hs2.mono (by simp)),fun h=>by omega,fun _=>hs2.heap (hC.2.2.1 (by omega)) (by simp),fun h=>by omega,fun _=>hs1⟩ trivial
    intro vs w8 hC hV
    have h3:vs 3=.slice none 0 0:=hV 3 _ rfl (by simp)
    have HF9:=hC.2.2.1 (by simp)
    have HX9:=hC.2.2.2.2 (by simp)
    have K9:=hC.1
    clear hV hC
    simp only [putAll,Act.put,List.setIfInBounds_toArray]
    dsimp only [List.set]
    rw [h3]
    go_wp2
    subst hg
    refine bodyPost_ret (v:=.tuple #[.agg #[.int .i64 0,.int .i64 fl,.int .i64 st,.slice none 0 0,.int .i64 (y:Int),.int .u32 0,.int .i64 0,.int .i64 0,.int .i64 0,.bool false,.int .i64 0,.slice none 0 0],.slice none 0 0,.agg #[.bool true,.int .i64 0,.int .i64 1]]) (by simp [results,Try.results155,go_sem,cell_of HF9,cell_of HX9]) rfl ⟨(⟨0,fl,st,none,0,0,(y:Int),0,0,0,0,false,0,none,0,0⟩:Fr),rfl,HK3.out.then K9 (by intro t ht; simp at ht; right; omega)⟩
   ·rw [if_pos hbd]
    have hbd':(n1:Int) - (y:Int) < 0:=by simpa using hbd
    clear hbd
    go_enter Try.func155,Try.ntmps155
    go_wp2_with fail
    generalize hW:World.alloc _ _=w1
    have K1:Kp [] w w1:=by rw [← hW]; with_reducible (repeat (first|exact Kp.refl _ _|assumption|refine Kp.alloc ?_ _|refine Kp.drew ?_|refine Kp.drewN ?_ _|(refine Kp.setL ?_ ?_ _;focus (simp;done))|(refine Kp.setR ?_ ?_ _;focus (first|(simp;done)|(simp;omega)))))
    have HB1:=Lib.hid (show w1.heap[w.heap.size]?=some (.cells #[.int .i64 0,.int .i64 fl,.int .i64 st,.slice none 0 0,.int .i64 0,.int .u32 0,.int .i64 0,.int .i64 0,.int .i64 0,.bool false,.int .i64 0,.slice none 0 0] 49) by rw [← hW]; with_reducible (repeat (first|assumption|(refine hp_new _ _ _ ?_;focus (simp;done))|refine hpl ?_|(refine hpf ?_ ?_;focus (first|(simp;done)|(simp;omega)))|refine hpd ?_|refine hpe ?_)))
    have HF1:=Lib.hid (show w1.heap[w.heap.size+1]?=some (.cells #[.int .i64 0,.int .i64 0,.int .i64 0,.slice none 0 0,.int .i64 0,.int .u32 0,.int .i64 0,.int .i64 0,.int .i64 0,.bool false,.int .i64 0,.slice none 0 0] 49) by rw [← hW]; with_reducible (repeat (first|assumption|(refine hp_new _ _ _ ?_;focus (simp;done))|refine hpl ?_|(refine hpf ?_ ?_;focus (first|(simp;done)|(simp;omega)))|refine hpd ?_|refine hpe ?_)))
    have HX1:=Lib.hid (show w1.heap[w.heap.size+2]?=some (.cells #[.bool false,.int .i64 0,.int .i64 0] 64) by rw [← hW]; with_reducible (repeat (first|assumption|(refine hp_new _ _ _ ?_;focus (simp;done))|refine hpl ?_|(refine hpf ?_ ?_;focus (first|(simp;done)|(simp;omega)))|refine hpd ?_|refine hpe ?_)))
    have HK1:=Lib.hid K1
    clear hW K1
    refine (rpad0 w1).mono ?_
    rintro e w2 ⟨rfl,rfl⟩
    obtain ⟨q0,q1,q2,q3,q4,q5,q6,q7,q8,q9,q10,q11,qz,qlt,qlt2⟩:=cellsF HB1.out
    go_wp2_with fail
    refine (hasF fl 8 _ hf0 hf1 (by omega) (by omega)).mono ?_
    rintro e w2 ⟨rfl,rfl⟩
    rw [HH8.out]
    have g1:=HK1.out.cell HQ0.out (by simp)
    have ewy:=HWY.out
    go_wp2_with (with_reducible refine stopAt (o:=⟨some 65,_,_,_,_,_⟩) ?_)
    generalize hW:World.setCell _ _ _=w3
    have K3:Kp [w.heap.size] w1 w3:=by rw [← hW]; exact (Kp.refl _ _).setCell (.inl (by simp)) _
    have HB3:=Lib.hid (show w3.heap[w.heap.size]?=some (.cells #[.int .i64 0,.int .i64 fl,.int .i64 st,.slice none 0 0,.int .i64 (y:Int),.int .u32 0,.int .i64 0,.int .i64 0,.int .i64 0,.bool false,.int .i64 0,.slice none 0 0] 49) by rw [← hW]; exact hp_set _ _ _ _ _ _ HB1.out)
    have HF3:=Lib.hid (K3.heap HF1.out (by simp))
    have HX3:=Lib.hid (K3.heap HX1.out (by simp))
    have HK3:=Lib.hid (HK1.out.then K3 (by simp))
    clear hW K3 HB1 HF1 HX1 HK1 g1 q0 q1 q2 q3 q4 q5 q6 q7 q8 q9 q10 q11 qz qlt qlt2
    obtain ⟨q0,q1,q2,q3,q4,q5,q6,q7,q8,q9,q10,q11,qz,qlt,qlt2⟩:=cellsF HB3.out
    refine Stop.go ?_
    go_wp2
    clear q0 q1 q2 q3 q4 q5 q6 q7 q8 q9 q10 q11 qz qlt qlt2
    generalize hg:w.heap.size=g at *
    refine wp_region_st (by kernel_rfl) [fun _ v _=>v=(.agg #[.int .i64 0,.int .i64 fl,.int .i64 st,.slice none 0 0,.int .i64 (y:Int),.int .u32 0,.int .i64 0,.int .i64 0,.int .i64 0,.bool false,.int .i64 0,.slice none 0 0]),
      fun _ v _=>v=(.agg #[.bool true,.int .i64 0,.int .i64 1]),
      fun _ v _=>True,
      fun _ v _=>v=(.slice none 0 0),
      fun _ v _=>True] (fun p w=>Kp [g+1,g+2] w3 w∧(p≤0→w.heap[g+1]?=some (.cells #[.int .i64 0,.int .i64 0,.int .i64 0,.slice none 0 0,.int .i64 0,.int .u32 0,.int .i64 0,.int .i64 0,.int .i64 0,.bool false,.int .i64 0,.slice none 0 0] 49))∧(1≤p→w.heap[g+1]?=some (.cells #[.int .i64 0,.int .i64 fl,.int .i64 st,.slice none 0 0,.int .i64 (y:Int),.int .u32 0,.int .i64 0,.int .i64 0,.int .i64 0,.bool false,.int .i64 0,.slice none 0 0] 49))∧(p≤1→w.heap[g+2]?=some (.cells #[.bool false,.int .i64 0,.int .i64 0] 64))∧(2≤p→w.heap[g+2]?=some (.cells #[.bool true,.int .i64 0,.int .i64 1] 64))) (fun _ _ _=>True) (fun w w'=>Kp [] w w') [2,4] [1] (by kernel_rfl) (by kernel_rfl) (by kernel_rfl) (by decide) (by kernel_rfl) ⟨StabAt2.const _,StabAt2.const _,StabAt2.const _,StabAt2.const _,StabAt2.const _,trivial⟩ (⟨(Kp.refl _ _).drew,fun _=>HF3.out,fun h=>by omega,fun _=>HX3.out,fun h=>by omega⟩) ⟨?_,?_,?_,?_,?_,trivial⟩ (by kernel_rfl) ?_
    ·intro q9 a w E hC K hK
     have h2:a.tmps[2]?=some (.pointer (some ⟨g,0,none⟩)):=(E.out 2 (by kernel_rfl)).trans rfl
     refine want_none rfl ?_
     have hb:=hC.1.heap HB3.out (by simp)
     obtain ⟨q0,q1,q2,q3,q4,q5,q6,q7,q8,q9,q10,q11,qz,qlt,qlt2⟩:=cellsF hb
     clear hb
     go_simp
     exact hK _ rfl
    ·intro q9 a w E hC K hK
     refine want_none rfl ?_
     go_simp
     refine (rfault 1 w).mono ?_
     rintro e w2 ⟨rfl,K2⟩
     go_simp
     exact hK _ _ rfl ⟨hC.1.trans K2.nil,fun h=>K2.heap (hC.2.1 h) (by simp),fun h=>K2.heap (hC.2.2.1 h) (by simp),fun h=>K2.heap (hC.2.2.2.1 h) (by simp),fun h=>K2.heap (hC.2.2.2.2 h) (by simp)⟩ K2
    ·intro a w E hC K hK
     have h4:a.tmps[4]?=some (.pointer (some ⟨g+1,0,none⟩)):=(E.out 4 (by kernel_rfl)).trans rfl
     obtain ⟨_,h69,rfl⟩:=E.pred 0 _ 69 rfl rfl (by kernel_rfl)
     refine want_none rfl ?_
     have hz:=hC.2.1 (by omega)
     have HZ:=Lib.hid hz
     obtain ⟨q0,q1,q2,q3,q4,q5,q6,q7,q8,q9,q10,q11,qz,qlt,qlt2⟩:=cellsF hz
     clear hz
     go_simp
     generalize hW:World.setCell _ _ _=w2
     obtain ⟨hs1,hs2⟩:w2.heap[g+1]?=some (.cells #[.int .i64 0,.int .i64 fl,.int .i64 st,.slice none 0 0,.int .i64 (y:Int),.int .u32 0,.int .i64 0,.int .i64 0,.int .i64 0,.bool false,.int .i64 0,.slice none 0 0] 49)∧Kp [g+1] w w2:=by rw [← hW]; exact rset12 HZ.out
     exact hK undef _ trivial ⟨hC.1.trans (hs2.mono (by simp)),fun h=>by omega,fun _=>hs1,fun h=>hs2.heap (hC.2.2.2.1 (by omega)) (by simp),fun h=>by omega⟩ trivial
    ·intro q9 a w E hC K hK
     refine want_none rfl ?_
     go_simp
     exact hK _ rfl
    ·intro a w E hC K hK
     have h6:a.tmps[6]?=some (.pointer (some ⟨g+2,0,none⟩)):=(E.out 6 (by kernel_rfl)).trans rfl
     obtain ⟨v1,h70,V1⟩:=E.pred 1 _ 70 rfl rfl (by kernel_rfl)
     replace V1:(fun _ v _=>v=(.agg #[.bool true,.int .i64 0,.int .i64 1])) 1 v1 w:=V1
     obtain rfl:=V1
     refine want_none rfl ?_
     have hz:=hC.2.2.2.1 (by omega)
     have HZ:=Lib.hid hz
     have x0:=cell_of hz 0
     have x1:=cell_of hz 1
     have x2:=cell_of hz 2
     have xz:=frozen_of hz
     have xl:=lt_of_heap hz
     clear hz
     go_simp
     generalize hW:World.setCell _ _ _=w2
     obtain ⟨hs1,hs2⟩:w2.heap[g+2]?=some (.cells #[.bool true,.int .i64 0,.int .i64 1] 64)∧Kp [g+2] w w2:=by rw [← hW]; exact rset3 HZ.out
     exact hK undef _ trivial ⟨hC.1.trans (hs2.mono (by simp)),fun h=>by omega,fun _=>hs2.heap (hC.2.2.1 (by omega)) (by simp),fun h=>by omega,fun _=>hs1⟩ trivial
    intro vs w8 hC hV
    have h3:vs 3=.slice none 0 0:=hV 3 _ rfl (by simp)
    have HF9:=hC.2.2.1 (by simp)
    have HX9:=hC.2.2.2.2 (by simp)
    have K9:=hC.1
    clear hV hC
    simp only [putAll,Act.put,List.setIfInBounds_toArray]
    dsimp only [List.set]
    rw [h3]
    go_wp2
    subst hg
    refine bodyPost_ret (v:=.tuple #[.agg #[.int .i64 0,.int .i64 fl,.int .i64 st,.slice none 0 0,.int .i64 (y:Int),.int .u32 0,.int .i64 0,.int .i64 0,.int .i64 0,.bool false,.int .i64 0,.slice none 0 0],.slice none 0 0,.agg #[.bool true,.int .i64 0,.int .i64 1]]) (by simp [results,Try.results155,go_sem,cell_of HF9,cell_of HX9]) rfl ⟨(⟨0,fl,st,none,0,0,(y:Int),0,0,0,0,false,0,none,0,0⟩:Fr),rfl,HK3.out.then K9 (by intro t ht; simp at ht; right; omega)⟩
  ·by_cases hc1:c1=0
   ·subst hc1
    rw [if_neg hbd]
    have hbd':¬ (n1:Int) - (y:Int) < 0:=by simpa using hbd
    clear hbd
    obtain rfl:n1=0:=by omega
    go_enter Try.func155,Try.ntmps155
    go_wp2_with fail
    generalize hW:World.alloc _ _=w1
    have K1:Kp [] w w1:=by rw [← hW]; with_reducible (repeat (first|exact Kp.refl _ _|assumption|refine Kp.alloc ?_ _|refine Kp.drew ?_|refine Kp.drewN ?_ _|(refine Kp.setL ?_ ?_ _;focus (simp;done))|(refine Kp.setR ?_ ?_ _;focus (first|(simp;done)|(simp;omega)))))
    have HB1:=Lib.hid (show w1.heap[w.heap.size]?=some (.cells #[.int .i64 0,.int .i64 fl,.int .i64 st,.slice none 0 0,.int .i64 0,.int .u32 0,.int .i64 0,.int .i64 0,.int .i64 0,.bool false,.int .i64 0,.slice none 0 0] 49) by rw [← hW]; with_reducible (repeat (first|assumption|(refine hp_new _ _ _ ?_;focus (simp;done))|refine hpl ?_|(refine hpf ?_ ?_;focus (first|(simp;done)|(simp;omega)))|refine hpd ?_|refine hpe ?_)))
    have HF1:=Lib.hid (show w1.heap[w.heap.size+1]?=some (.cells #[.int .i64 0,.int .i64 0,.int .i64 0,.slice none 0 0,.int .i64 0,.int .u32 0,.int .i64 0,.int .i64 0,.int .i64 0,.bool false,.int .i64 0,.slice none 0 0] 49) by rw [← hW]; with_reducible (repeat (first|assumption|(refine hp_new _ _ _ ?_;focus (simp;done))|refine hpl ?_|(refine hpf ?_ ?_;focus (first|(simp;done)|(simp;omega)))|refine hpd ?_|refine hpe ?_)))
    have HX1:=Lib.hid (show w1.heap[w.heap.size+2]?=some (.cells #[.bool false,.int .i64 0,.int .i64 0] 64) by rw [← hW]; with_reducible (repeat (first|assumption|(refine hp_new _ _ _ ?_;focus (simp;done))|refine hpl ?_|(refine hpf ?_ ?_;focus (first|(simp;done)|(simp;omega)))|refine hpd ?_|refine hpe ?_)))
    have HK1:=Lib.hid K1
    clear hW K1
    refine (rpad0 w1).mono ?_
    rintro e w2 ⟨rfl,rfl⟩
    obtain ⟨q0,q1,q2,q3,q4,q5,q6,q7,q8,q9,q10,q11,qz,qlt,qlt2⟩:=cellsF HB1.out
    go_wp2_with fail
    refine (hasF fl 8 _ hf0 hf1 (by omega) (by omega)).mono ?_
    rintro e w2 ⟨rfl,rfl⟩
    rw [HH8.out]
    have g1:=HK1.out.cell HQ0.out (by simp)
    have ewy:=HWY.out
    go_wp2_with (with_reducible refine stopAt (o:=⟨some 65,_,_,_,_,_⟩) ?_)
    generalize hW:World.setCell _ _ _=w3
    have K3:Kp [w.heap.size] w1 w3:=by rw [← hW]; exact (Kp.refl _ _).setCell (.inl (by simp)) _
    have HB3:=Lib.hid (show w3.heap[w.heap.size]?=some (.cells #[.int .i64 0,.int .i64 fl,.int .i64 st,.slice none 0 0,.int .i64 (y:Int),.int .u32 0,.int .i64 0,.int .i64 0,.int .i64 0,.bool false,.int .i64 0,.slice none 0 0] 49) by rw [← hW]; exact hp_set _ _ _ _ _ _ HB1.out)
    have HF3:=Lib.hid (K3.heap HF1.out (by simp))
    have HX3:=Lib.hid (K3.heap HX1.out (by simp))
    have HK3:=Lib.hid (HK1.out.then K3 (by simp))
    clear hW K3 HB1 HF1 HX1 HK1 g1 q0 q1 q2 q3 q4 q5 q6 q7 q8 q9 q10 q11 qz qlt qlt2
    obtain ⟨q0,q1,q2,q3,q4,q5,q6,q7,q8,q9,q10,q11,qz,qlt,qlt2⟩:=cellsF HB3.out
    refine Stop.go ?_
    obtain ⟨z0,z1,z2,z3,z4,z5,z6,z7,z8,z9,z10,z11,zz,zlt,zlt2⟩:=cellsF HF3.out
    have x0:=cell_of HX3.out 0
    have x1:=cell_of HX3.out 1
    have x2:=cell_of HX3.out 2
    have xz:=frozen_of HX3.out
    have i1:(0:Int)≤(0:Int) - (y:Int):=by omega
    have i2:(0:Int) - (y:Int)≤(0:Int):=by omega
    go_wp2
    generalize hW:World.setCell _ _ _=W
    obtain ⟨HF9,HX9,K9⟩:W.heap[w.heap.size+1]?=some (.cells #[.int .i64 0,.int .i64 fl,.int .i64 st,.slice none 0 0,.int .i64 (y:Int),.int .u32 0,.int .i64 0,.int .i64 0,.int .i64 0,.bool false,.int .i64 0,.slice none 0 0] 49)∧W.heap[w.heap.size+2]?=some (.cells #[.bool false,.int .i64 0,.int .i64 0] 64)∧Kp [w.heap.size+1,w.heap.size+2] w3 W:=by rw [← hW]; exact set15 (by omega) HF3.out HX3.out
    refine bodyPost_ret (v:=.tuple #[.agg #[.int .i64 0,.int .i64 fl,.int .i64 st,.slice none 0 0,.int .i64 (y:Int),.int .u32 0,.int .i64 0,.int .i64 0,.int .i64 0,.bool false,.int .i64 0,.slice none 0 0],.slice (some ⟨b,o,none⟩) (0 - y) 0,.agg #[.bool false,.int .i64 0,.int .i64 0]]) (by simp [results,Try.results155,go_sem,cell_of HF9,cell_of HX9]) rfl ⟨_,_,_,rfl,?_,HK3.out.then K9 (by simp)⟩
    have hq:=(HR.out.keep HK3.out (by simp)).sub 1 (1+(0 - y)) (by omega) (by omega) (A':=(some ⟨b,o,none⟩)) (by intro b' o' h1 h2; omega)
    have eq1:1+(0 - y) - 1=0 - y:=by omega
    rw [eq1] at hq
    exact (Rd.mk' hq (by omega)).keep (S:=[w.heap.size+1,w.heap.size+2]) K9 (by intro hn0 t h1 h2; have:=HLT.out (by omega) t (by simpa [ob] using h1); simp at h2; omega)
   ·rw [if_neg hbd]
    have hbd':¬ (n1:Int) - (y:Int) < 0:=by simpa using hbd
    clear hbd
    go_enter Try.func155,Try.ntmps155
    go_wp2_with fail
    generalize hW:World.alloc _ _=w1
    have K1:Kp [] w w1:=by rw [← hW]; with_reducible (repeat (first|exact Kp.refl _ _|assumption|refine Kp.alloc ?_ _|refine Kp.drew ?_|refine Kp.drewN ?_ _|(refine Kp.setL ?_ ?_ _;focus (simp;done))|(refine Kp.setR ?_ ?_ _;focus (first|(simp;done)|(simp;omega)))))
    have HB1:=Lib.hid (show w1.heap[w.heap.size]?=some (.cells #[.int .i64 0,.int .i64 fl,.int .i64 st,.slice none 0 0,.int .i64 0,.int .u32 0,.int .i64 0,.int .i64 0,.int .i64 0,.bool false,.int .i64 0,.slice none 0 0] 49) by rw [← hW]; with_reducible (repeat (first|assumption|(refine hp_new _ _ _ ?_;focus (simp;done))|refine hpl ?_|(refine hpf ?_ ?_;focus (first|(simp;done)|(simp;omega)))|refine hpd ?_|refine hpe ?_)))
    have HF1:=Lib.hid (show w1.heap[w.heap.size+1]?=some (.cells #[.int .i64 0,.int .i64 0,.int .i64 0,.slice none 0 0,.int .i64 0,.int .u32 0,.int .i64 0,.int .i64 0,.int .i64 0,.bool false,.int .i64 0,.slice none 0 0] 49) by rw [← hW]; with_reducible (repeat (first|assumption|(refine hp_new _ _ _ ?_;focus (simp;done))|refine hpl ?_|(refine hpf ?_ ?_;focus (first|(simp;done)|(simp;omega)))|refine hpd ?_|refine hpe ?_)))
    have HX1:=Lib.hid (show w1.heap[w.heap.size+2]?=some (.cells #[.bool false,.int .i64 0,.int .i64 0] 64) by rw [← hW]; with_reducible (repeat (first|assumption|(refine hp_new _ _ _ ?_;focus (simp;done))|refine hpl ?_|(refine hpf ?_ ?_;focus (first|(simp;done)|(simp;omega)))|refine hpd ?_|refine hpe ?_)))
    have HK1:=Lib.hid K1
    clear hW K1
    refine (rpad0 w1).mono ?_
    rintro e w2 ⟨rfl,rfl⟩
    obtain ⟨q0,q1,q2,q3,q4,q5,q6,q7,q8,q9,q10,q11,qz,qlt,qlt2⟩:=cellsF HB1.out
    go_wp2_with fail
    refine (hasF fl 8 _ hf0 hf1 (by omega) (by omega)).mono ?_
    rintro e w2 ⟨rfl,rfl⟩
    rw [HH8.out]
    have g1:=HK1.out.cell HQ0.out (by simp)
    have ewy:=HWY.out
    go_wp2_with (with_reducible refine stopAt (o:=⟨some 65,_,_,_,_,_⟩) ?_)
    generalize hW:World.setCell _ _ _=w3
    have K3:Kp [w.heap.size] w1 w3:=by rw [← hW]; exact (Kp.refl _ _).setCell (.inl (by simp)) _
    have HB3:=Lib.hid (show w3.heap[w.heap.size]?=some (.cells #[.int .i64 0,.int .i64 fl,.int .i64 st,.slice none 0 0,.int .i64 (y:Int),.int .u32 0,.int .i64 0,.int .i64 0,.int .i64 0,.bool false,.int .i64 0,.slice none 0 0] 49) by rw [← hW]; exact hp_set _ _ _ _ _ _ HB1.out)
    have HF3:=Lib.hid (K3.heap HF1.out (by simp))
    have HX3:=Lib.hid (K3.heap HX1.out (by simp))
    have HK3:=Lib.hid (HK1.out.then K3 (by simp))
    clear hW K3 HB1 HF1 HX1 HK1 g1 q0 q1 q2 q3 q4 q5 q6 q7 q8 q9 q10 q11 qz qlt qlt2
    obtain ⟨q0,q1,q2,q3,q4,q5,q6,q7,q8,q9,q10,q11,qz,qlt,qlt2⟩:=cellsF HB3.out
    refine Stop.go ?_
    obtain ⟨z0,z1,z2,z3,z4,z5,z6,z7,z8,z9,z10,z11,zz,zlt,zlt2⟩:=cellsF HF3.out
    have x0:=cell_of HX3.out 0
    have x1:=cell_of HX3.out 1
    have x2:=cell_of HX3.out 2
    have xz:=frozen_of HX3.out
    have i1:(0:Int)≤(n1:Int) - (y:Int):=by omega
    have i2:(n1:Int) - (y:Int)≤(c1:Int):=by omega
    go_wp2
    generalize hW:World.setCell _ _ _=W
    obtain ⟨HF9,HX9,K9⟩:W.heap[w.heap.size+1]?=some (.cells #[.int .i64 0,.int .i64 fl,.int .i64 st,.slice none 0 0,.int .i64 (y:Int),.int .u32 0,.int .i64 0,.int .i64 0,.int .i64 0,.bool false,.int .i64 0,.slice none 0 0] 49)∧W.heap[w.heap.size+2]?=some (.cells #[.bool false,.int .i64 0,.int .i64 0] 64)∧Kp [w.heap.size+1,w.heap.size+2] w3 W:=by rw [← hW]; exact set15 (by omega) HF3.out HX3.out
    refine bodyPost_ret (v:=.tuple #[.agg #[.int .i64 0,.int .i64 fl,.int .i64 st,.slice none 0 0,.int .i64 (y:Int),.int .u32 0,.int .i64 0,.int .i64 0,.int .i64 0,.bool false,.int .i64 0,.slice none 0 0],.slice (some ⟨b,o+1,none⟩) (n1 - y) c1,.agg #[.bool false,.int .i64 0,.int .i64 0]]) (by simp [results,Try.results155,go_sem,cell_of HF9,cell_of HX9]) rfl ⟨_,_,_,rfl,?_,HK3.out.then K9 (by simp)⟩
    have hq:=(HR.out.keep HK3.out (by simp)).sub 1 (1+(n1 - y)) (by omega) (by omega) (A':=(some ⟨b,o+1,none⟩)) (by intro b' o' h1 h2; injection h1 with h1; injection h1 with h1 h3 _; rw [h1,h3])
    have eq1:1+(n1 - y) - 1=n1 - y:=by omega
    rw [eq1] at hq
    exact (Rd.mk' hq (by omega)).keep (S:=[w.heap.size+1,w.heap.size+2]) K9 (by intro hn0 t h1 h2; have:=HLT.out (by omega) t (by simpa [ob] using h1); simp at h2; omega)
end Go.Proofs.Ytkmcakneceagpaa
