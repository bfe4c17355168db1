/- A priority's bytes, two ways. The reference of layer 7: a priority's bytes. The reference's body of layer 7, walked: the types without a priority. The reference's body of layer 7, walked (B). The reference's body of layer 7, walked (C). The reference's body of layer 7, walked (D). The reference's body of layer 7, walked (settings). -/
import Derived.Test.YtkmcakneceagpaaQRdF
import Derived.Test.YtkmcakneceagpaaQFieldRef
set_option linter.unusedSimpArgs false
set_option linter.unusedVariables false
set_option maxHeartbeats 8000000
set_option maxRecDepth 100000
namespace Go.Proofs.Ytkmcakneceagpaa
open Go.RowKit
theorem prioW_t (p:Fp) (v:Nat) (h:p.only=true) (hv:v=p.dep.toNat+2147483648):prioW p=bytesOf v 4++[byteOf (p.wt - 1)]:=by
 unfold prioW
 rw [if_pos h,← hv]
theorem prioW_f (p:Fp) (v:Nat) (h:p.only=false) (hv:v=p.dep.toNat):prioW p=bytesOf v 4++[byteOf (p.wt - 1)]:=by
 unfold prioW
 rw [if_neg (by rw [h]; decide),Nat.add_zero,← hv]
end Go.Proofs.Ytkmcakneceagpaa

namespace Go.Proofs.Ytkmcakneceagpaa
open Go.RowKit
theorem rprif (ty fl st:Int) (pA:Option Addr) (pn pc:Nat) (pad code last inc:Int) (dn:Nat) (wt:Int) (sA:Option Addr) (sn sc:Nat) (w0:World) (hd:Hid (dn < 2147483648)) (hw0:1≤wt) (hw1:wt≤256) (vn:Nat) (HV:Hid (vn=dn+0)) :
  Calls Try.prog 189 #[.agg #[.int .i64 ty,.int .i64 fl,.int .i64 st,.slice pA pn pc,.int .i64 pad,.int .u32 code,.int .i64 last,.int .i64 inc,.int .i64 (dn:Int),.bool false,.int .i64 wt,.slice sA sn sc]] w0 (OwR 5 (bytesOf vn 4++[byteOf (wt - 1)]) w0):=by
 have HWT:=Lib.hid (show 0≤wt - 1∧wt - 1≤255 by omega)
 have HWS:=Lib.hid (show IntKind.i64.wrap (wt - 1)=wt - 1∧IntKind.u8.wrap (wt - 1)=wt - 1 from ⟨IntWalk.i64_in _ (by omega),by rw [IntKind.wrap_u8]; omega⟩)
 have HDN:=Lib.hid (show dn < 4294967296 by have:=hd.out; omega)
 have HVL:=Lib.hid (show vn < 4294967296 by have:=hd.out; have:=HV.out; omega)
 have hw32:IntKind.u32.wrap (dn:Int)=(dn:Int):=wraps_u32 _ (by omega) (by have:=hd.out; rw [show (2:Int) ^ 32=4294967296 by decide]; omega)
 obtain rfl:dn=vn:=HV.out.symm
 go_enter Try.func189,Try.ntmps189
 go_wp2
 have K0:Kp [] w0 (w0.alloc (.cells #[.int .i64 ty,.int .i64 fl,.int .i64 st,.slice pA pn pc,.int .i64 pad,.int .u32 code,.int .i64 last,.int .i64 inc,.int .i64 (dn:Int),.bool false,.int .i64 wt,.slice sA sn sc] 49)):=(Kp.refl _ _).alloc _
 have HB:=Lib.hid (hp_new w0 (.cells #[.int .i64 ty,.int .i64 fl,.int .i64 st,.slice pA pn pc,.int .i64 pad,.int .u32 code,.int .i64 last,.int .i64 inc,.int .i64 (dn:Int),.bool false,.int .i64 wt,.slice sA sn sc] 49) _ rfl)
 generalize hW:w0.alloc (.cells #[.int .i64 ty,.int .i64 fl,.int .i64 st,.slice pA pn pc,.int .i64 pad,.int .u32 code,.int .i64 last,.int .i64 inc,.int .i64 (dn:Int),.bool false,.int .i64 wt,.slice sA sn sc] 49)=w1 at *
 clear hW
 have hs1:=K0.size
 have HK0:=Lib.hid K0
 clear K0
 refine wp_region_st (by kernel_rfl) [fun _ v _=>v=(.int .u32 dn),
   fun p v w=>∃ x:Option Addr × Nat × Nat,v=.slice x.1 x.2.1 x.2.2∧1≤p∧(p≤1→Ow w w1.heap.size 5 1 x.1 x.2.1 x.2.2 ((bytesOf dn 4).map u8)∧x.2.1=4),
   fun _ v _=>v=(.pointer (some ⟨w0.heap.size,10,none⟩)),
   fun _ v _=>v=(.int .i64 wt),
   fun _ v _=>v=(.int .i64 (wt - 1)),
   fun _ v _=>v=(.int .u8 (wt - 1)),
   fun p v w=>∃ x:Option Addr × Nat × Nat,v=.slice x.1 x.2.1 x.2.2∧0≤p∧(p≤1→Rd w x.1 x.2.1 x.2.2 [byteOf (wt - 1)]∧x.2.1=1),
   fun p v w=>∃ x:Option Addr × Nat × Nat,v=.slice x.1 x.2.1 x.2.2∧2≤p∧(p≤2→Ow w w1.heap.size 5 1 x.1 x.2.1 x.2.2 ((bytesOf dn 4++[byteOf (wt - 1)]).map u8)∧x.2.1=5),
   fun p v w=>∃ x:Option Addr × Nat × Nat,v=.slice x.1 x.2.1 x.2.2∧2≤p∧(p≤2→Ow w w1.heap.size 5 1 x.1 x.2.1 x.2.2 ((bytesOf dn 4++[byteOf (wt - 1)]).map u8)∧x.2.1=5)] (fun _ w=>Kp [] w1 w) (fun p w w'=>p=0→Kp [] w w') (fun w w'=>Kp [] w w') [1,7] [6] (by kernel_rfl) (by kernel_rfl) (by kernel_rfl) (by decide) (by kernel_rfl) ⟨StabAt2.const _,StabAt2.span (f:=fun x:Option Addr × Nat × Nat=>.slice x.1 x.2.1 x.2.2) (by intro p x w w' h1 h2; omega) (by intro x w w' hR hG; exact ⟨hG.1.keep hR (by simp),hG.2⟩),StabAt2.const _,StabAt2.const _,StabAt2.const _,StabAt2.const _,StabAt2.span (f:=fun x:Option Addr × Nat × Nat=>.slice x.1 x.2.1 x.2.2) (by intro p x w w' h1 h2 h3 hR hG; exact ⟨hG.1.keep (hR (by omega)) (by simp),hG.2⟩) (by intro x w w' hR hG; exact ⟨hG.1.keep hR (by simp),hG.2⟩),StabAt2.span (f:=fun x:Option Addr × Nat × Nat=>.slice x.1 x.2.1 x.2.2) (by intro p x w w' h1 h2; omega) (by intro x w w' hR hG; exact ⟨hG.1.keep hR (by simp),hG.2⟩),StabAt2.span (f:=fun x:Option Addr × Nat × Nat=>.slice x.1 x.2.1 x.2.2) (by intro p x w w' h1 h2; omega) (by intro x w w' hR hG; exact ⟨hG.1.keep hR (by simp),hG.2⟩),trivial⟩ ((Kp.refl _ _).drew) ⟨?_,?_,?_,?_,?_,?_,?_,?_,?_,trivial⟩ (by kernel_rfl) ?_
 ·intro q9 a w E hC K hK
  have h3:a.tmps[3]?=some (.int .u32 dn):=(E.out 3 (by kernel_rfl)).trans rfl
  refine want_none rfl ?_
  go_simp
  exact hK _ rfl
 ·intro a w E hC K hK
  obtain ⟨_,h11,rfl⟩:=E.pred 0 _ 11 rfl rfl (by kernel_rfl)
  refine want_none rfl ?_
  go_simp
  refine (refPut32_any dn w HDN.out).mono ?_
  rintro e w2 ⟨A2,n2,c2,rfl,O2,K2⟩
  have e4:=O2.len
  simp [bytesOf_length] at e4
  subst e4
  go_simp
  exact hK _ _ ⟨⟨A2,4,c2⟩,rfl,by omega,fun _=>⟨O2.mono hC.size,rfl⟩⟩ (hC.trans K2) (fun _=>K2)
 ·intro q9 a w E hC K hK
  have h1:a.tmps[1]?=some (.pointer (some ⟨w0.heap.size,0,none⟩)):=(E.out 1 (by kernel_rfl)).trans rfl
  refine want_none rfl ?_
  go_simp
  exact hK _ rfl
 ·intro q9 a w E hC K hK
  obtain ⟨_,h13,rfl⟩:=E.pred 2 _ 13 rfl rfl (by kernel_rfl)
  refine want_none rfl ?_
  have hb:=hC.heap HB.out (by simp)
  have g:=cell_of hb 10
  go_simp
  exact hK _ rfl
 ·intro q9 a w E hC K hK
  obtain ⟨_,h14,rfl⟩:=E.pred 3 _ 14 rfl rfl (by kernel_rfl)
  refine want_none rfl ?_
  have e1:=HWS.out.1
  go_simp
  exact hK _ rfl
 ·intro q9 a w E hC K hK
  obtain ⟨_,h15,rfl⟩:=E.pred 4 _ 15 rfl rfl (by kernel_rfl)
  refine want_none rfl ?_
  have e1:=HWS.out.2
  go_simp
  exact hK _ rfl
 ·intro q9 a w E hC K hK
  obtain ⟨_,h16,rfl⟩:=E.pred 5 _ 16 rfl rfl (by kernel_rfl)
  refine want_none rfl ?_
  go_simp
  exact hK _ _ ⟨⟨some ⟨w.heap.size,0,none⟩,1,1⟩,rfl,by omega,fun _=>⟨Rd.block (hp_new w _ _ rfl) 0 1 1 [byteOf (wt - 1)] rfl (Nat.le_refl _) (by simp; exact u8_of HWT.out.1 HWT.out.2),rfl⟩⟩ (hC.alloc _) ((Kp.refl _ _).alloc _)
 ·intro a w E hC K hK
  obtain ⟨v1,h12,V1⟩:=E.pred 1 _ 12 rfl rfl (by kernel_rfl)
  replace V1:(fun p v w=>∃ x:Option Addr × Nat × Nat,v=.slice x.1 x.2.1 x.2.2∧1≤p∧(p≤1→Ow w w1.heap.size 5 1 x.1 x.2.1 x.2.2 ((bytesOf dn 4).map u8)∧x.2.1=4)) 1 v1 w:=V1
  obtain ⟨v6,h17,V6⟩:=E.pred 6 _ 17 rfl rfl (by kernel_rfl)
  replace V6:(fun p v w=>∃ x:Option Addr × Nat × Nat,v=.slice x.1 x.2.1 x.2.2∧0≤p∧(p≤1→Rd w x.1 x.2.1 x.2.2 [byteOf (wt - 1)]∧x.2.1=1)) 1 v6 w:=V6
  refine want_none rfl ?_
  obtain ⟨⟨A2,n2,c2⟩,rfl,_,G2⟩:=V1
  obtain ⟨O2,rfl⟩:=G2 (by omega)
  obtain ⟨⟨A8,n8,c8⟩,rfl,_,G8⟩:=V6
  obtain ⟨R8,rfl⟩:=G8 (by omega)
  refine op_appO (.tmp 12) (.tmp 17) 22 5 rfl Try.underlying22 Try.info5 w1.heap.size A2 4 c2 _ (eval_tmp h12) O2 A8 1 c8 _ (eval_tmp h17) R8 (by omega) hC.size ?_
  intro A' c' w2 O K2 _
  exact hK _ _ ⟨⟨A',_,c'⟩,rfl,by omega,fun _=>⟨O,rfl⟩⟩ (hC.then K2 (fun t ht=>.inr (O2.base t ht).1)) (fun h=>by omega)
 ·intro q9 a w E hC K hK
  obtain ⟨v7,h18,V7⟩:=E.pred 7 _ 18 rfl rfl (by kernel_rfl)
  replace V7:(fun p v w=>∃ x:Option Addr × Nat × Nat,v=.slice x.1 x.2.1 x.2.2∧2≤p∧(p≤2→Ow w w1.heap.size 5 1 x.1 x.2.1 x.2.2 ((bytesOf dn 4++[byteOf (wt - 1)]).map u8)∧x.2.1=5)) q9 v7 w:=V7
  refine want_none rfl ?_
  go_simp
  exact hK _ V7
 intro vs w13 hC hV
 have h9:=hV 8 _ rfl (by simp)
 replace h9:∃ x:Option Addr × Nat × Nat,vs 8=.slice x.1 x.2.1 x.2.2∧2≤2∧(2≤2→Ow w13 w1.heap.size 5 1 x.1 x.2.1 x.2.2 ((bytesOf dn 4++[byteOf (wt - 1)]).map u8)∧x.2.1=5):=h9
 obtain ⟨⟨A9,n9,c9⟩,e9,_,G9⟩:=h9
 have HO9:=Lib.hid (G9 (Nat.le_refl _)).1
 have HK9:=Lib.hid (HK0.out.trans hC)
 clear hV G9 hC
 simp only [putAll,Act.put,List.setIfInBounds_toArray]
 dsimp only [List.set]
 rw [e9]
 go_wp2
 go_ret
 exact ⟨A9,n9,c9,rfl,by have:=HO9.out.mono hs1; exact this,HK9.out⟩

theorem rprit (ty fl st:Int) (pA:Option Addr) (pn pc:Nat) (pad code last inc:Int) (dn:Nat) (wt:Int) (sA:Option Addr) (sn sc:Nat) (w0:World) (hd:Hid (dn < 2147483648)) (hw0:1≤wt) (hw1:wt≤256) (vn:Nat) (HV:Hid (vn=dn+2147483648)) :
  Calls Try.prog 189 #[.agg #[.int .i64 ty,.int .i64 fl,.int .i64 st,.slice pA pn pc,.int .i64 pad,.int .u32 code,.int .i64 last,.int .i64 inc,.int .i64 (dn:Int),.bool true,.int .i64 wt,.slice sA sn sc]] w0 (OwR 5 (bytesOf vn 4++[byteOf (wt - 1)]) w0):=by
 have HWT:=Lib.hid (show 0≤wt - 1∧wt - 1≤255 by omega)
 have HWS:=Lib.hid (show IntKind.i64.wrap (wt - 1)=wt - 1∧IntKind.u8.wrap (wt - 1)=wt - 1 from ⟨IntWalk.i64_in _ (by omega),by rw [IntKind.wrap_u8]; omega⟩)
 have HDN:=Lib.hid (show dn < 4294967296 by have:=hd.out; omega)
 have HVL:=Lib.hid (show vn < 4294967296 by have:=hd.out; have:=HV.out; omega)
 have hw32:IntKind.u32.wrap (dn:Int)=(dn:Int):=wraps_u32 _ (by omega) (by have:=hd.out; rw [show (2:Int) ^ 32=4294967296 by decide]; omega)
 have hadd:IntKind.u32.wrap ((dn:Int)+2147483648)=(vn:Int):=by rw [wraps_u32 _ (by omega) (by have:=hd.out; rw [show (2:Int) ^ 32=4294967296 by decide]; omega),HV.out]; rfl
 go_enter Try.func189,Try.ntmps189
 go_wp2
 have K0:Kp [] w0 (w0.alloc (.cells #[.int .i64 ty,.int .i64 fl,.int .i64 st,.slice pA pn pc,.int .i64 pad,.int .u32 code,.int .i64 last,.int .i64 inc,.int .i64 (dn:Int),.bool true,.int .i64 wt,.slice sA sn sc] 49)):=(Kp.refl _ _).alloc _
 have HB:=Lib.hid (hp_new w0 (.cells #[.int .i64 ty,.int .i64 fl,.int .i64 st,.slice pA pn pc,.int .i64 pad,.int .u32 code,.int .i64 last,.int .i64 inc,.int .i64 (dn:Int),.bool true,.int .i64 wt,.slice sA sn sc] 49) _ rfl)
 generalize hW:w0.alloc (.cells #[.int .i64 ty,.int .i64 fl,.int .i64 st,.slice pA pn pc,.int .i64 pad,.int .u32 code,.int .i64 last,.int .i64 inc,.int .i64 (dn:Int),.bool true,.int .i64 wt,.slice sA sn sc] 49)=w1 at *
 clear hW
 have hs1:=K0.size
 have HK0:=Lib.hid K0
 clear K0
 refine wp_region_st (by kernel_rfl) [fun _ v _=>v=(.int .u32 vn),
   fun p v w=>∃ x:Option Addr × Nat × Nat,v=.slice x.1 x.2.1 x.2.2∧1≤p∧(p≤1→Ow w w1.heap.size 5 1 x.1 x.2.1 x.2.2 ((bytesOf vn 4).map u8)∧x.2.1=4),
   fun _ v _=>v=(.pointer (some ⟨w0.heap.size,10,none⟩)),
   fun _ v _=>v=(.int .i64 wt),
   fun _ v _=>v=(.int .i64 (wt - 1)),
   fun _ v _=>v=(.int .u8 (wt - 1)),
   fun p v w=>∃ x:Option Addr × Nat × Nat,v=.slice x.1 x.2.1 x.2.2∧0≤p∧(p≤1→Rd w x.1 x.2.1 x.2.2 [byteOf (wt - 1)]∧x.2.1=1),
   fun p v w=>∃ x:Option Addr × Nat × Nat,v=.slice x.1 x.2.1 x.2.2∧2≤p∧(p≤2→Ow w w1.heap.size 5 1 x.1 x.2.1 x.2.2 ((bytesOf vn 4++[byteOf (wt - 1)]).map u8)∧x.2.1=5),
   fun p v w=>∃ x:Option Addr × Nat × Nat,v=.slice x.1 x.2.1 x.2.2∧2≤p∧(p≤2→Ow w w1.heap.size 5 1 x.1 x.2.1 x.2.2 ((bytesOf vn 4++[byteOf (wt - 1)]).map u8)∧x.2.1=5)] (fun _ w=>Kp [] w1 w) (fun p w w'=>p=0→Kp [] w w') (fun w w'=>Kp [] w w') [1,7] [6] (by kernel_rfl) (by kernel_rfl) (by kernel_rfl) (by decide) (by kernel_rfl) ⟨StabAt2.const _,StabAt2.span (f:=fun x:Option Addr × Nat × Nat=>.slice x.1 x.2.1 x.2.2) (by intro p x w w' h1 h2; omega) (by intro x w w' hR hG; exact ⟨hG.1.keep hR (by simp),hG.2⟩),StabAt2.const _,StabAt2.const _,StabAt2.const _,StabAt2.const _,StabAt2.span (f:=fun x:Option Addr × Nat × Nat=>.slice x.1 x.2.1 x.2.2) (by intro p x w w' h1 h2 h3 hR hG; exact ⟨hG.1.keep (hR (by omega)) (by simp),hG.2⟩) (by intro x w w' hR hG; exact ⟨hG.1.keep hR (by simp),hG.2⟩),StabAt2.span (f:=fun x:Option Addr × Nat × Nat=>.slice x.1 x.2.1 x.2.2) (by intro p x w w' h1 h2; omega) (by intro x w w' hR hG; exact ⟨hG.1.keep hR (by simp),hG.2⟩),StabAt2.span (f:=fun x:Option Addr × Nat × Nat=>.slice x.1 x.2.1 x.2.2) (by intro p x w w' h1 h2; omega) (by intro x w w' hR hG; exact ⟨hG.1.keep hR (by simp),hG.2⟩),trivial⟩ ((Kp.refl _ _).drew) ⟨?_,?_,?_,?_,?_,?_,?_,?_,?_,trivial⟩ (by kernel_rfl) ?_
 ·intro q9 a w E hC K hK
  have h3:a.tmps[3]?=some (.int .u32 vn):=(E.out 3 (by kernel_rfl)).trans rfl
  refine want_none rfl ?_
  go_simp
  exact hK _ rfl
 ·intro a w E hC K hK
  obtain ⟨_,h11,rfl⟩:=E.pred 0 _ 11 rfl rfl (by kernel_rfl)
  refine want_none rfl ?_
  go_simp
  refine (refPut32_any vn w HVL.out).mono ?_
  rintro e w2 ⟨A2,n2,c2,rfl,O2,K2⟩
  have e4:=O2.len
  simp [bytesOf_length] at e4
  subst e4
  go_simp
  exact hK _ _ ⟨⟨A2,4,c2⟩,rfl,by omega,fun _=>⟨O2.mono hC.size,rfl⟩⟩ (hC.trans K2) (fun _=>K2)
 ·intro q9 a w E hC K hK
  have h1:a.tmps[1]?=some (.pointer (some ⟨w0.heap.size,0,none⟩)):=(E.out 1 (by kernel_rfl)).trans rfl
  refine want_none rfl ?_
  go_simp
  exact hK _ rfl
 ·intro q9 a w E hC K hK
  obtain ⟨_,h13,rfl⟩:=E.pred 2 _ 13 rfl rfl (by kernel_rfl)
  refine want_none rfl ?_
  have hb:=hC.heap HB.out (by simp)
  have g:=cell_of hb 10
  go_simp
  exact hK _ rfl
 ·intro q9 a w E hC K hK
  obtain ⟨_,h14,rfl⟩:=E.pred 3 _ 14 rfl rfl (by kernel_rfl)
  refine want_none rfl ?_
  have e1:=HWS.out.1
  go_simp
  exact hK _ rfl
 ·intro q9 a w E hC K hK
  obtain ⟨_,h15,rfl⟩:=E.pred 4 _ 15 rfl rfl (by kernel_rfl)
  refine want_none rfl ?_
  have e1:=HWS.out.2
  go_simp
  exact hK _ rfl
 ·intro q9 a w E hC K hK
  obtain ⟨_,h16,rfl⟩:=E.pred 5 _ 16 rfl rfl (by kernel_rfl)
  refine want_none rfl ?_
  go_simp
  exact hK _ _ ⟨⟨some ⟨w.heap.size,0,none⟩,1,1⟩,rfl,by omega,fun _=>⟨Rd.block (hp_new w _ _ rfl) 0 1 1 [byteOf (wt - 1)] rfl (Nat.le_refl _) (by simp; exact u8_of HWT.out.1 HWT.out.2),rfl⟩⟩ (hC.alloc _) ((Kp.refl _ _).alloc _)
 ·intro a w E hC K hK
  obtain ⟨v1,h12,V1⟩:=E.pred 1 _ 12 rfl rfl (by kernel_rfl)
  replace V1:(fun p v w=>∃ x:Option Addr × Nat × Nat,v=.slice x.1 x.2.1 x.2.2∧1≤p∧(p≤1→Ow w w1.heap.size 5 1 x.1 x.2.1 x.2.2 ((bytesOf vn 4).map u8)∧x.2.1=4)) 1 v1 w:=V1
  obtain ⟨v6,h17,V6⟩:=E.pred 6 _ 17 rfl rfl (by kernel_rfl)
  replace V6:(fun p v w=>∃ x:Option Addr × Nat × Nat,v=.slice x.1 x.2.1 x.2.2∧0≤p∧(p≤1→Rd w x.1 x.2.1 x.2.2 [byteOf (wt - 1)]∧x.2.1=1)) 1 v6 w:=V6
  refine want_none rfl ?_
  obtain ⟨⟨A2,n2,c2⟩,rfl,_,G2⟩:=V1
  obtain ⟨O2,rfl⟩:=G2 (by omega)
  obtain ⟨⟨A8,n8,c8⟩,rfl,_,G8⟩:=V6
  obtain ⟨R8,rfl⟩:=G8 (by omega)
  refine op_appO (.tmp 12) (.tmp 17) 22 5 rfl Try.underlying22 Try.info5 w1.heap.size A2 4 c2 _ (eval_tmp h12) O2 A8 1 c8 _ (eval_tmp h17) R8 (by omega) hC.size ?_
  intro A' c' w2 O K2 _
  exact hK _ _ ⟨⟨A',_,c'⟩,rfl,by omega,fun _=>⟨O,rfl⟩⟩ (hC.then K2 (fun t ht=>.inr (O2.base t ht).1)) (fun h=>by omega)
 ·intro q9 a w E hC K hK
  obtain ⟨v7,h18,V7⟩:=E.pred 7 _ 18 rfl rfl (by kernel_rfl)
  replace V7:(fun p v w=>∃ x:Option Addr × Nat × Nat,v=.slice x.1 x.2.1 x.2.2∧2≤p∧(p≤2→Ow w w1.heap.size 5 1 x.1 x.2.1 x.2.2 ((bytesOf vn 4++[byteOf (wt - 1)]).map u8)∧x.2.1=5)) q9 v7 w:=V7
  refine want_none rfl ?_
  go_simp
  exact hK _ V7
 intro vs w13 hC hV
 have h9:=hV 8 _ rfl (by simp)
 replace h9:∃ x:Option Addr × Nat × Nat,vs 8=.slice x.1 x.2.1 x.2.2∧2≤2∧(2≤2→Ow w13 w1.heap.size 5 1 x.1 x.2.1 x.2.2 ((bytesOf vn 4++[byteOf (wt - 1)]).map u8)∧x.2.1=5):=h9
 obtain ⟨⟨A9,n9,c9⟩,e9,_,G9⟩:=h9
 have HO9:=Lib.hid (G9 (Nat.le_refl _)).1
 have HK9:=Lib.hid (HK0.out.trans hC)
 clear hV G9 hC
 simp only [putAll,Act.put,List.setIfInBounds_toArray]
 dsimp only [List.set]
 rw [e9]
 go_wp2
 go_ret
 exact ⟨A9,n9,c9,rfl,by have:=HO9.out.mono hs1; exact this,HK9.out⟩

end Go.Proofs.Ytkmcakneceagpaa

namespace Go.Proofs.Ytkmcakneceagpaa
open Go.RowKit
theorem goodW_of {p:Fp} (h:goodW p=true):known p.ty=true∧(0≤p.fl∧p.fl≤255)∧idB p.st=true∧rightB p.ty p.st=true∧mayK p=true∧padOk p=true∧prioOk p=true:=by
 simp only [goodW,Bool.and_eq_true,decide_eq_true_eq] at h
 obtain ⟨⟨⟨⟨⟨⟨h1,h2⟩,h3⟩,h4⟩,h5⟩,h6⟩,h7⟩:=h
 exact ⟨h1,h2,h3,h4,h5,h6,h7⟩
theorem rbody0f (f:Fr) (l:List UInt8) (ss:List (Int × Int)) (w0:World) (ok:WrOk w0 f l ss) (hty:f.ty=0) (hgd:goodW (f.p l ss)=true) (h8:hasB f.fl 8=false) :
  Calls Try.prog 149 #[.agg #[.int .i64 f.ty,.int .i64 f.fl,.int .i64 f.st,.slice f.pA f.pn f.pc,.int .i64 f.pad,.int .u32 f.code,.int .i64 f.last,.int .i64 f.inc,.int .i64 f.dep,.bool f.only,.int .i64 f.wt,.slice f.sA f.sn f.sc]] w0 (RdP (bodyW (f.p l ss)) w0):=by
 obtain ⟨hkn,⟨hfl0,hfl1⟩,hst,hri,hmy,hpo,hpr⟩:=goodW_of hgd
 obtain ⟨hrd,hpn,hcode,hsd,hsn⟩:=ok
 obtain ⟨ty,fl,st,pA,pn,pc,pad,code,last,inc,dep,only,wt,sA,sn,sc⟩:=f
 dsimp only [Fr.p] at *
 subst hty
 have HRD:=Lib.hid hrd
 have HSD:=Lib.hid hsd
 clear hgd hkn hst hri hrd hsd
 obtain ⟨hpad0,hpad1⟩:0≤pad∧pad≤255:=by simp [padOk,paddedB] at hpo; omega
 have H8:=Lib.hid h8
 clear h8
 have HPRI:=Lib.hid (show prioB 0 fl=false by simp [prioB])
 clear hmy hpo hpr
 have HBD:=Lib.hid (show bodyW ((⟨0,fl,st,l,pad,code,last,inc,dep,only,wt,ss⟩:Fp))=(l) by
  simp [bodyW,Fr.p,padF,paddedB,prioB,putW,H8.out])
 obtain ⟨BB,hBB⟩:∃ B,bodyW ((⟨0,fl,st,l,pad,code,last,inc,dep,only,wt,ss⟩:Fp))=B:=⟨_,rfl⟩
 rw [show bodyW _=BB from hBB]
 rw [hBB] at HBD
 clear hBB
 go_enter Try.func149,Try.ntmps149
 go_wp2_with fail
 have K0:Kp [] w0 (w0.alloc (.cells #[.int .i64 0,.int .i64 fl,.int .i64 st,.slice pA pn pc,.int .i64 pad,.int .u32 code,.int .i64 last,.int .i64 inc,.int .i64 dep,.bool only,.int .i64 wt,.slice sA sn sc] 49)):=(Kp.refl _ _).alloc _
 have HB:=Lib.hid (hp_new w0 (.cells #[.int .i64 0,.int .i64 fl,.int .i64 st,.slice pA pn pc,.int .i64 pad,.int .u32 code,.int .i64 last,.int .i64 inc,.int .i64 dep,.bool only,.int .i64 wt,.slice sA sn sc] 49) _ rfl)
 have HK:=Lib.hid K0
 generalize hW:w0.alloc (.cells #[.int .i64 0,.int .i64 fl,.int .i64 st,.slice pA pn pc,.int .i64 pad,.int .u32 code,.int .i64 last,.int .i64 inc,.int .i64 dep,.bool only,.int .i64 wt,.slice sA sn sc] 49)=w1 at *
 clear hW
 have hs1:=K0.size
 clear K0
 obtain ⟨bs,hbs⟩:∃ bs,w1.heap.size=bs:=⟨_,rfl⟩
 have hbsz:bs≤w1.heap.size:=by omega
 have hBb:w0.heap.size < bs:=by have:=lt_of_heap HB.out; omega
 clear hbs
 obtain ⟨f_0,f_1,f_2,f_3,f_4,f_5,f_6,f_7,f_8,f_9,f_10,f_11,hltB,hltB1⟩:=cells12 HB.out
 refine (rpad0 _).mono ?_
 rintro e w1 ⟨rfl,rfl⟩
 go_wp2_with fail
 refine (hasF fl 8 _ hfl0 hfl1 (by omega) (by omega)).mono ?_
 rintro e w1 ⟨rfl,rfl⟩
 rw [H8.out]
 go_wp2_with fail
 refine (rprio0 fl _ hfl0 hfl1).mono ?_
 rintro e w1 ⟨rfl,rfl⟩
 rw [HPRI.out]
 have HRL:=Lib.hid (HRD.out.keep HK.out (by simp))
 go_wp2_with (with_reducible refine stopAt (o:=⟨some 101,_,_,_,_,_⟩) ?_)
 refine Stop.go (wp_appB rfl _ _ 22 5 rfl Try.underlying22 Try.info5 bs none 0 0 [] rfl (Ow.nil _ _ _ _) pA pn pc l rfl HRL.out (by omega) (by omega) ?_)
 intro A20 n20 c20 l20 w20 hn20 hl20 O20 K20 hA20
 clear hA20
 have K20':Kp [] _ w20:=K20.mono (by simp [ob])
 clear K20
 have hbsz':bs≤_:=Nat.le_trans hbsz K20'.size
 clear hbsz
 have hbsz:=hbsz'
 clear hbsz'
 have HB':=Lib.hid (K20'.heap HB.out (by simp))
 have HK':=Lib.hid (HK.out.trans K20')
 clear f_0 f_1 f_2 f_3 f_4 f_5 f_6 f_7 f_8 f_9 f_10 f_11 hltB hltB1 HB HK K20'
 have HB:=HB'
 have HK:=HK'
 clear HB' HK'
 obtain ⟨f_0,f_1,f_2,f_3,f_4,f_5,f_6,f_7,f_8,f_9,f_10,f_11,hltB,hltB1⟩:=cells12 HB.out
 have hc20:=O20.cap.1
 have hN20a:n20≤0+pn:=Nat.le_of_eq hn20.out
 have hN20b:0+pn≤n20:=Nat.le_of_eq hn20.out.symm
 have HO:=Lib.hid O20
 clear O20 hn20
 clear HRL
 have e:l20=(l):=by rw [hl20.out]; simp
 have HE:=Lib.hid e
 clear e
 have hl:=HBD.out
 have HL:=Lib.hid hl
 clear hl
 go_wp2
 go_ret
 exact ⟨_,_,_,rfl,by rw [HL.out]; rw [← HE.out]; exact HO.out.rd,HK.out⟩
theorem rbody0t (f:Fr) (l:List UInt8) (ss:List (Int × Int)) (w0:World) (ok:WrOk w0 f l ss) (hty:f.ty=0) (hgd:goodW (f.p l ss)=true) (h8:hasB f.fl 8=true) :
  Calls Try.prog 149 #[.agg #[.int .i64 f.ty,.int .i64 f.fl,.int .i64 f.st,.slice f.pA f.pn f.pc,.int .i64 f.pad,.int .u32 f.code,.int .i64 f.last,.int .i64 f.inc,.int .i64 f.dep,.bool f.only,.int .i64 f.wt,.slice f.sA f.sn f.sc]] w0 (RdP (bodyW (f.p l ss)) w0):=by
 obtain ⟨hkn,⟨hfl0,hfl1⟩,hst,hri,hmy,hpo,hpr⟩:=goodW_of hgd
 obtain ⟨hrd,hpn,hcode,hsd,hsn⟩:=ok
 obtain ⟨ty,fl,st,pA,pn,pc,pad,code,last,inc,dep,only,wt,sA,sn,sc⟩:=f
 dsimp only [Fr.p] at *
 subst hty
 have HRD:=Lib.hid hrd
 have HSD:=Lib.hid hsd
 clear hgd hkn hst hri hrd hsd
 obtain ⟨hpad0,hpad1⟩:0≤pad∧pad≤255:=by simp [padOk,paddedB] at hpo; omega
 have H8:=Lib.hid h8
 clear h8
 have HPRI:=Lib.hid (show prioB 0 fl=false by simp [prioB])
 clear hmy hpo hpr
 obtain ⟨pd,rfl⟩:=Int.eq_ofNat_of_zero_le hpad0
 have HBD:=Lib.hid (show bodyW ((⟨0,fl,st,l,(pd:Int),code,last,inc,dep,only,wt,ss⟩:Fp))=[byteOf pd]++(l)++List.replicate pd 0 by
  simp [bodyW,Fr.p,padF,paddedB,prioB,putW,H8.out])
 obtain ⟨BB,hBB⟩:∃ B,bodyW ((⟨0,fl,st,l,(pd:Int),code,last,inc,dep,only,wt,ss⟩:Fp))=B:=⟨_,rfl⟩
 rw [show bodyW _=BB from hBB]
 rw [hBB] at HBD
 clear hBB
 go_enter Try.func149,Try.ntmps149
 go_wp2_with fail
 have K0:Kp [] w0 (w0.alloc (.cells #[.int .i64 0,.int .i64 fl,.int .i64 st,.slice pA pn pc,.int .i64 (pd:Int),.int .u32 code,.int .i64 last,.int .i64 inc,.int .i64 dep,.bool only,.int .i64 wt,.slice sA sn sc] 49)):=(Kp.refl _ _).alloc _
 have HB:=Lib.hid (hp_new w0 (.cells #[.int .i64 0,.int .i64 fl,.int .i64 st,.slice pA pn pc,.int .i64 (pd:Int),.int .u32 code,.int .i64 last,.int .i64 inc,.int .i64 dep,.bool only,.int .i64 wt,.slice sA sn sc] 49) _ rfl)
 have HK:=Lib.hid K0
 generalize hW:w0.alloc (.cells #[.int .i64 0,.int .i64 fl,.int .i64 st,.slice pA pn pc,.int .i64 (pd:Int),.int .u32 code,.int .i64 last,.int .i64 inc,.int .i64 dep,.bool only,.int .i64 wt,.slice sA sn sc] 49)=w1 at *
 clear hW
 have hs1:=K0.size
 clear K0
 obtain ⟨bs,hbs⟩:∃ bs,w1.heap.size=bs:=⟨_,rfl⟩
 have hbsz:bs≤w1.heap.size:=by omega
 have hBb:w0.heap.size < bs:=by have:=lt_of_heap HB.out; omega
 clear hbs
 obtain ⟨f_0,f_1,f_2,f_3,f_4,f_5,f_6,f_7,f_8,f_9,f_10,f_11,hltB,hltB1⟩:=cells12 HB.out
 refine (rpad0 _).mono ?_
 rintro e w1 ⟨rfl,rfl⟩
 go_wp2_with fail
 refine (hasF fl 8 _ hfl0 hfl1 (by omega) (by omega)).mono ?_
 rintro e w1 ⟨rfl,rfl⟩
 rw [H8.out]
 go_wp2_with (with_reducible refine stopAt (o:=⟨some 22,_,_,_,_,_⟩) ?_)
 generalize hW:World.alloc _ _=w7
 have K7:Kp [] w1 w7:=by rw [← hW]; with_reducible (repeat (first|exact Kp.refl _ _|assumption|refine Kp.alloc ?_ _|refine Kp.drew ?_|refine Kp.drewN ?_ _|(refine Kp.setL ?_ ?_ _;focus (simp;done))|(refine Kp.setR ?_ ?_ _;focus (first|(simp;done)|(simp;omega)))))
 have HN7:=Lib.hid (show w7.heap[w1.heap.size]?=some (.cells #[.int .u8 (pd:Int)] 5) by rw [← hW]; with_reducible (repeat (first|assumption|(refine hp_new _ _ _ ?_;focus (simp;done))|refine hpl ?_|(refine hpf ?_ ?_;focus (first|(simp;done)|(simp;omega)))|refine hpd ?_|refine hpe ?_)))
 clear hW
 have hbsz':bs≤_:=Nat.le_trans hbsz K7.size
 clear hbsz
 have hbsz:=hbsz'
 clear hbsz'
 have HB':=Lib.hid (K7.heap HB.out (by simp))
 have HK':=Lib.hid (HK.out.trans K7)
 clear f_0 f_1 f_2 f_3 f_4 f_5 f_6 f_7 f_8 f_9 f_10 f_11 hltB hltB1 HB HK K7
 have HB:=HB'
 have HK:=HK'
 clear HB' HK'
 obtain ⟨f_0,f_1,f_2,f_3,f_4,f_5,f_6,f_7,f_8,f_9,f_10,f_11,hltB,hltB1⟩:=cells12 HB.out
 refine Stop.go (wp_appB rfl _ _ 22 5 rfl Try.underlying22 Try.info5 bs none 0 0 [] rfl (Ow.nil _ _ _ _) (some ⟨w1.heap.size,0,none⟩) 1 1 [byteOf pd] rfl (Rd.block HN7.out 0 1 1 [byteOf _] rfl (Nat.le_refl _) (by simp; exact u8_of hpad0 hpad1)) (by omega) (by omega) ?_)
 intro A8 n8 c8 l8 w8 hn8 hl8 O8 K8 hA8
 clear hA8
 have K8':Kp [] _ w8:=K8.mono (by simp [ob])
 clear K8
 have hbsz':bs≤_:=Nat.le_trans hbsz K8'.size
 clear hbsz
 have hbsz:=hbsz'
 clear hbsz'
 have HB':=Lib.hid (K8'.heap HB.out (by simp))
 have HK':=Lib.hid (HK.out.trans K8')
 clear f_0 f_1 f_2 f_3 f_4 f_5 f_6 f_7 f_8 f_9 f_10 f_11 hltB hltB1 HB HK K8'
 have HB:=HB'
 have HK:=HK'
 clear HB' HK'
 obtain ⟨f_0,f_1,f_2,f_3,f_4,f_5,f_6,f_7,f_8,f_9,f_10,f_11,hltB,hltB1⟩:=cells12 HB.out
 have hc8:=O8.cap.1
 have hN8a:n8≤1:=Nat.le_of_eq hn8.out
 have hN8b:1≤n8:=Nat.le_of_eq hn8.out.symm
 have HO:=Lib.hid O8
 clear O8 hn8
 clear HN7
 go_wp2_with fail
 refine (rprio0 fl _ hfl0 hfl1).mono ?_
 rintro e w1 ⟨rfl,rfl⟩
 rw [HPRI.out]
 have HRL:=Lib.hid (HRD.out.keep HK.out (by simp))
 go_wp2_with (with_reducible refine stopAt (o:=⟨some 101,_,_,_,_,_⟩) ?_)
 refine Stop.go (wp_appB rfl _ _ 22 5 rfl Try.underlying22 Try.info5 bs A8 n8 c8 l8 rfl HO.out pA pn pc l rfl HRL.out (by omega) (by omega) ?_)
 intro A20 n20 c20 l20 w20 hn20 hl20 O20 K20 hA20
 clear hA20
 have HB':=Lib.hid (K20.heap HB.out (by intro hx; have:=(HO.out.base _ hx).1; omega))
 have HK':=Lib.hid (HK.out.then K20 (fun t ht=>.inr (by have:=(HO.out.base t ht).1; omega)))
 have hbsz':bs≤_:=Nat.le_trans hbsz K20.size
 clear f_0 f_1 f_2 f_3 f_4 f_5 f_6 f_7 f_8 f_9 f_10 f_11 hltB hltB1 HB HK hbsz
 have HB:=HB'
 have HK:=HK'
 have hbsz:=hbsz'
 clear HB' HK' hbsz'
 obtain ⟨f_0,f_1,f_2,f_3,f_4,f_5,f_6,f_7,f_8,f_9,f_10,f_11,hltB,hltB1⟩:=cells12 HB.out
 clear HO K20
 have hc20:=O20.cap.1
 have hN20a:n20≤n8+pn:=Nat.le_of_eq hn20.out
 have hN20b:n8+pn≤n20:=Nat.le_of_eq hn20.out.symm
 have HO:=Lib.hid O20
 clear O20 hn20
 clear HRL
 go_wp2_with (with_reducible refine stopAt (o:=⟨some 106,_,_,_,_,_⟩) ?_)
 refine Stop.go (wp_appZ rfl _ _ 22 3 5 rfl Try.underlying22 Try.underlying3 Try.info5 bs A20 n20 c20 l20 rfl HO.out pd rfl (by omega) (by omega) ?_)
 intro A21 n21 c21 l21 w21 hn21 hl21 O21 K21
 have HB':=Lib.hid (K21.heap HB.out (by intro hx; have:=(HO.out.base _ hx).1; omega))
 have HK':=Lib.hid (HK.out.then K21 (fun t ht=>.inr (by have:=(HO.out.base t ht).1; omega)))
 have hbsz':bs≤_:=Nat.le_trans hbsz K21.size
 clear f_0 f_1 f_2 f_3 f_4 f_5 f_6 f_7 f_8 f_9 f_10 f_11 hltB hltB1 HB HK hbsz
 have HB:=HB'
 have HK:=HK'
 have hbsz:=hbsz'
 clear HB' HK' hbsz'
 obtain ⟨f_0,f_1,f_2,f_3,f_4,f_5,f_6,f_7,f_8,f_9,f_10,f_11,hltB,hltB1⟩:=cells12 HB.out
 clear HO K21
 have hc21:=O21.cap.1
 have HO:=Lib.hid O21
 clear O21 hn21
 have e:l21=[byteOf pd]++(l)++List.replicate pd 0:=by rw [hl21.out,hl20.out,hl8.out]; simp
 have HE:=Lib.hid e
 clear e
 have hl:=HBD.out
 have HL:=Lib.hid hl
 clear hl
 go_wp2
 go_ret
 exact ⟨_,_,_,rfl,by rw [HL.out]; rw [← HE.out]; exact HO.out.rd,HK.out⟩
theorem rbody3 (f:Fr) (l:List UInt8) (ss:List (Int × Int)) (w0:World) (ok:WrOk w0 f l ss) (hty:f.ty=3) (hgd:goodW (f.p l ss)=true) :
  Calls Try.prog 149 #[.agg #[.int .i64 f.ty,.int .i64 f.fl,.int .i64 f.st,.slice f.pA f.pn f.pc,.int .i64 f.pad,.int .u32 f.code,.int .i64 f.last,.int .i64 f.inc,.int .i64 f.dep,.bool f.only,.int .i64 f.wt,.slice f.sA f.sn f.sc]] w0 (RdP (bodyW (f.p l ss)) w0):=by
 obtain ⟨hkn,⟨hfl0,hfl1⟩,hst,hri,hmy,hpo,hpr⟩:=goodW_of hgd
 obtain ⟨hrd,hpn,hcode,hsd,hsn⟩:=ok
 obtain ⟨ty,fl,st,pA,pn,pc,pad,code,last,inc,dep,only,wt,sA,sn,sc⟩:=f
 dsimp only [Fr.p] at *
 subst hty
 have HRD:=Lib.hid hrd
 have HSD:=Lib.hid hsd
 clear hgd hkn hst hri hrd hsd
 have HPRI:=Lib.hid (show prioB 3 fl=false by simp [prioB])
 clear hmy hpo hpr
 have HBD:=Lib.hid (show bodyW ((⟨3,fl,st,l,pad,code,last,inc,dep,only,wt,ss⟩:Fp))=(bytesOf code.toNat 4) by
  simp [bodyW,Fr.p,padF,paddedB,prioB,putW])
 obtain ⟨BB,hBB⟩:∃ B,bodyW ((⟨3,fl,st,l,pad,code,last,inc,dep,only,wt,ss⟩:Fp))=B:=⟨_,rfl⟩
 rw [show bodyW _=BB from hBB]
 rw [hBB] at HBD
 clear hBB
 go_enter Try.func149,Try.ntmps149
 go_wp2_with fail
 have K0:Kp [] w0 (w0.alloc (.cells #[.int .i64 3,.int .i64 fl,.int .i64 st,.slice pA pn pc,.int .i64 pad,.int .u32 code,.int .i64 last,.int .i64 inc,.int .i64 dep,.bool only,.int .i64 wt,.slice sA sn sc] 49)):=(Kp.refl _ _).alloc _
 have HB:=Lib.hid (hp_new w0 (.cells #[.int .i64 3,.int .i64 fl,.int .i64 st,.slice pA pn pc,.int .i64 pad,.int .u32 code,.int .i64 last,.int .i64 inc,.int .i64 dep,.bool only,.int .i64 wt,.slice sA sn sc] 49) _ rfl)
 have HK:=Lib.hid K0
 generalize hW:w0.alloc (.cells #[.int .i64 3,.int .i64 fl,.int .i64 st,.slice pA pn pc,.int .i64 pad,.int .u32 code,.int .i64 last,.int .i64 inc,.int .i64 dep,.bool only,.int .i64 wt,.slice sA sn sc] 49)=w1 at *
 clear hW
 have hs1:=K0.size
 clear K0
 obtain ⟨bs,hbs⟩:∃ bs,w1.heap.size=bs:=⟨_,rfl⟩
 have hbsz:bs≤w1.heap.size:=by omega
 have hBb:w0.heap.size < bs:=by have:=lt_of_heap HB.out; omega
 clear hbs
 obtain ⟨f_0,f_1,f_2,f_3,f_4,f_5,f_6,f_7,f_8,f_9,f_10,f_11,hltB,hltB1⟩:=cells12 HB.out
 refine (rpad3 _).mono ?_
 rintro e w1 ⟨rfl,rfl⟩
 go_wp2_with fail
 refine (rprio3 fl _ hfl0 hfl1).mono ?_
 rintro e w1 ⟨rfl,rfl⟩
 rw [HPRI.out]
 obtain ⟨cd,rfl⟩:=Int.eq_ofNat_of_zero_le hcode.1
 have HCD:=Lib.hid (show cd < 4294967296 by have:=hcode.2; omega)
 clear hcode
 go_wp2_with fail
 refine (refPut32_any cd _ HCD.out).mono ?_
 rintro e w14 ⟨Ap,np,cp,rfl,Op,K14⟩
 have HOP:=Lib.hid Op
 clear Op
 have hbsz':bs≤_:=Nat.le_trans hbsz K14.size
 clear hbsz
 have hbsz:=hbsz'
 clear hbsz'
 have HB':=Lib.hid (K14.heap HB.out (by simp))
 have HK':=Lib.hid (HK.out.trans K14)
 clear f_0 f_1 f_2 f_3 f_4 f_5 f_6 f_7 f_8 f_9 f_10 f_11 hltB hltB1 HB HK K14
 have HB:=HB'
 have HK:=HK'
 clear HB' HK'
 obtain ⟨f_0,f_1,f_2,f_3,f_4,f_5,f_6,f_7,f_8,f_9,f_10,f_11,hltB,hltB1⟩:=cells12 HB.out
 have hl:=HBD.out
 have HL:=Lib.hid hl
 clear hl
 go_wp2
 go_ret
 exact ⟨_,_,_,rfl,by rw [HL.out]; simpa using HOP.out.rd,HK.out⟩
theorem rbody8 (f:Fr) (l:List UInt8) (ss:List (Int × Int)) (w0:World) (ok:WrOk w0 f l ss) (hty:f.ty=8) (hgd:goodW (f.p l ss)=true) :
  Calls Try.prog 149 #[.agg #[.int .i64 f.ty,.int .i64 f.fl,.int .i64 f.st,.slice f.pA f.pn f.pc,.int .i64 f.pad,.int .u32 f.code,.int .i64 f.last,.int .i64 f.inc,.int .i64 f.dep,.bool f.only,.int .i64 f.wt,.slice f.sA f.sn f.sc]] w0 (RdP (bodyW (f.p l ss)) w0):=by
 obtain ⟨hkn,⟨hfl0,hfl1⟩,hst,hri,hmy,hpo,hpr⟩:=goodW_of hgd
 obtain ⟨hrd,hpn,hcode,hsd,hsn⟩:=ok
 obtain ⟨ty,fl,st,pA,pn,pc,pad,code,last,inc,dep,only,wt,sA,sn,sc⟩:=f
 dsimp only [Fr.p] at *
 subst hty
 have HRD:=Lib.hid hrd
 have HSD:=Lib.hid hsd
 clear hgd hkn hst hri hrd hsd
 obtain ⟨hin0,hin1⟩:0≤inc∧inc < 2147483648:=by simp [mayK] at hmy; omega
 have HPRI:=Lib.hid (show prioB 8 fl=false by simp [prioB])
 clear hmy hpo hpr
 have HBD:=Lib.hid (show bodyW ((⟨8,fl,st,l,pad,code,last,inc,dep,only,wt,ss⟩:Fp))=(bytesOf inc.toNat 4) by
  simp [bodyW,Fr.p,padF,paddedB,prioB,putW])
 obtain ⟨BB,hBB⟩:∃ B,bodyW ((⟨8,fl,st,l,pad,code,last,inc,dep,only,wt,ss⟩:Fp))=B:=⟨_,rfl⟩
 rw [show bodyW _=BB from hBB]
 rw [hBB] at HBD
 clear hBB
 go_enter Try.func149,Try.ntmps149
 go_wp2_with fail
 have K0:Kp [] w0 (w0.alloc (.cells #[.int .i64 8,.int .i64 fl,.int .i64 st,.slice pA pn pc,.int .i64 pad,.int .u32 code,.int .i64 last,.int .i64 inc,.int .i64 dep,.bool only,.int .i64 wt,.slice sA sn sc] 49)):=(Kp.refl _ _).alloc _
 have HB:=Lib.hid (hp_new w0 (.cells #[.int .i64 8,.int .i64 fl,.int .i64 st,.slice pA pn pc,.int .i64 pad,.int .u32 code,.int .i64 last,.int .i64 inc,.int .i64 dep,.bool only,.int .i64 wt,.slice sA sn sc] 49) _ rfl)
 have HK:=Lib.hid K0
 generalize hW:w0.alloc (.cells #[.int .i64 8,.int .i64 fl,.int .i64 st,.slice pA pn pc,.int .i64 pad,.int .u32 code,.int .i64 last,.int .i64 inc,.int .i64 dep,.bool only,.int .i64 wt,.slice sA sn sc] 49)=w1 at *
 clear hW
 have hs1:=K0.size
 clear K0
 obtain ⟨bs,hbs⟩:∃ bs,w1.heap.size=bs:=⟨_,rfl⟩
 have hbsz:bs≤w1.heap.size:=by omega
 have hBb:w0.heap.size < bs:=by have:=lt_of_heap HB.out; omega
 clear hbs
 obtain ⟨f_0,f_1,f_2,f_3,f_4,f_5,f_6,f_7,f_8,f_9,f_10,f_11,hltB,hltB1⟩:=cells12 HB.out
 refine (rpad8 _).mono ?_
 rintro e w1 ⟨rfl,rfl⟩
 go_wp2_with fail
 refine (rprio8 fl _ hfl0 hfl1).mono ?_
 rintro e w1 ⟨rfl,rfl⟩
 rw [HPRI.out]
 go_wp2_with fail
 refine (rfourF inc _ hin0 hin1).mono ?_
 rintro e w14 ⟨Ap,np,cp,rfl,Op,K14⟩
 have HOP:=Lib.hid Op
 clear Op
 have hbsz':bs≤_:=Nat.le_trans hbsz K14.size
 clear hbsz
 have hbsz:=hbsz'
 clear hbsz'
 have HB':=Lib.hid (K14.heap HB.out (by simp))
 have HK':=Lib.hid (HK.out.trans K14)
 clear f_0 f_1 f_2 f_3 f_4 f_5 f_6 f_7 f_8 f_9 f_10 f_11 hltB hltB1 HB HK K14
 have HB:=HB'
 have HK:=HK'
 clear HB' HK'
 obtain ⟨f_0,f_1,f_2,f_3,f_4,f_5,f_6,f_7,f_8,f_9,f_10,f_11,hltB,hltB1⟩:=cells12 HB.out
 have hl:=HBD.out
 have HL:=Lib.hid hl
 clear hl
 go_wp2
 go_ret
 exact ⟨_,_,_,rfl,by rw [HL.out]; exact HOP.out.rd,HK.out⟩
theorem rbody5f (f:Fr) (l:List UInt8) (ss:List (Int × Int)) (w0:World) (ok:WrOk w0 f l ss) (hty:f.ty=5) (hgd:goodW (f.p l ss)=true) (h8:hasB f.fl 8=false) :
  Calls Try.prog 149 #[.agg #[.int .i64 f.ty,.int .i64 f.fl,.int .i64 f.st,.slice f.pA f.pn f.pc,.int .i64 f.pad,.int .u32 f.code,.int .i64 f.last,.int .i64 f.inc,.int .i64 f.dep,.bool f.only,.int .i64 f.wt,.slice f.sA f.sn f.sc]] w0 (RdP (bodyW (f.p l ss)) w0):=by
 obtain ⟨hkn,⟨hfl0,hfl1⟩,hst,hri,hmy,hpo,hpr⟩:=goodW_of hgd
 obtain ⟨hrd,hpn,hcode,hsd,hsn⟩:=ok
 obtain ⟨ty,fl,st,pA,pn,pc,pad,code,last,inc,dep,only,wt,sA,sn,sc⟩:=f
 dsimp only [Fr.p] at *
 subst hty
 have HRD:=Lib.hid hrd
 have HSD:=Lib.hid hsd
 clear hgd hkn hst hri hrd hsd
 obtain ⟨hpad0,hpad1⟩:0≤pad∧pad≤255:=by simp [padOk,paddedB] at hpo; omega
 have H8:=Lib.hid h8
 clear h8
 obtain ⟨hla0,hla1⟩:=idB_of (show idB last=true by simpa [mayK] using hmy)
 have HPRI:=Lib.hid (show prioB 5 fl=false by simp [prioB])
 clear hmy hpo hpr
 have HBD:=Lib.hid (show bodyW ((⟨5,fl,st,l,pad,code,last,inc,dep,only,wt,ss⟩:Fp))=(bytesOf last.toNat 4++l) by
  simp [bodyW,Fr.p,padF,paddedB,prioB,putW,H8.out])
 obtain ⟨BB,hBB⟩:∃ B,bodyW ((⟨5,fl,st,l,pad,code,last,inc,dep,only,wt,ss⟩:Fp))=B:=⟨_,rfl⟩
 rw [show bodyW _=BB from hBB]
 rw [hBB] at HBD
 clear hBB
 go_enter Try.func149,Try.ntmps149
 go_wp2_with fail
 have K0:Kp [] w0 (w0.alloc (.cells #[.int .i64 5,.int .i64 fl,.int .i64 st,.slice pA pn pc,.int .i64 pad,.int .u32 code,.int .i64 last,.int .i64 inc,.int .i64 dep,.bool only,.int .i64 wt,.slice sA sn sc] 49)):=(Kp.refl _ _).alloc _
 have HB:=Lib.hid (hp_new w0 (.cells #[.int .i64 5,.int .i64 fl,.int .i64 st,.slice pA pn pc,.int .i64 pad,.int .u32 code,.int .i64 last,.int .i64 inc,.int .i64 dep,.bool only,.int .i64 wt,.slice sA sn sc] 49) _ rfl)
 have HK:=Lib.hid K0
 generalize hW:w0.alloc (.cells #[.int .i64 5,.int .i64 fl,.int .i64 st,.slice pA pn pc,.int .i64 pad,.int .u32 code,.int .i64 last,.int .i64 inc,.int .i64 dep,.bool only,.int .i64 wt,.slice sA sn sc] 49)=w1 at *
 clear hW
 have hs1:=K0.size
 clear K0
 obtain ⟨bs,hbs⟩:∃ bs,w1.heap.size=bs:=⟨_,rfl⟩
 have hbsz:bs≤w1.heap.size:=by omega
 have hBb:w0.heap.size < bs:=by have:=lt_of_heap HB.out; omega
 clear hbs
 obtain ⟨f_0,f_1,f_2,f_3,f_4,f_5,f_6,f_7,f_8,f_9,f_10,f_11,hltB,hltB1⟩:=cells12 HB.out
 refine (rpad5 _).mono ?_
 rintro e w1 ⟨rfl,rfl⟩
 go_wp2_with fail
 refine (hasF fl 8 _ hfl0 hfl1 (by omega) (by omega)).mono ?_
 rintro e w1 ⟨rfl,rfl⟩
 rw [H8.out]
 go_wp2_with fail
 refine (rprio5 fl _ hfl0 hfl1).mono ?_
 rintro e w1 ⟨rfl,rfl⟩
 rw [HPRI.out]
 go_wp2_with fail
 refine (rfourF last _ hla0 hla1).mono ?_
 rintro e w14 ⟨Ap,np,cp,rfl,Op,K14⟩
 have hnp:np=4:=by have:=Op.len; simp [bytesOf_length] at this; omega
 subst hnp
 have HRP:=Lib.hid Op.rd
 clear Op
 have hbsz':bs≤_:=Nat.le_trans hbsz K14.size
 clear hbsz
 have hbsz:=hbsz'
 clear hbsz'
 have HB':=Lib.hid (K14.heap HB.out (by simp))
 have HK':=Lib.hid (HK.out.trans K14)
 clear f_0 f_1 f_2 f_3 f_4 f_5 f_6 f_7 f_8 f_9 f_10 f_11 hltB hltB1 HB HK K14
 have HB:=HB'
 have HK:=HK'
 clear HB' HK'
 obtain ⟨f_0,f_1,f_2,f_3,f_4,f_5,f_6,f_7,f_8,f_9,f_10,f_11,hltB,hltB1⟩:=cells12 HB.out
 go_wp2_with (with_reducible refine stopAt (o:=⟨some 85,_,_,_,_,_⟩) ?_)
 refine Stop.go (wp_appB rfl _ _ 22 5 rfl Try.underlying22 Try.info5 bs none 0 0 [] rfl (Ow.nil _ _ _ _) Ap 4 cp (bytesOf last.toNat 4) rfl HRP.out (by omega) (by omega) ?_)
 intro A15 n15 c15 l15 w15 hn15 hl15 O15 K15 hA15
 clear hA15
 have K15':Kp [] _ w15:=K15.mono (by simp [ob])
 clear K15
 have hbsz':bs≤_:=Nat.le_trans hbsz K15'.size
 clear hbsz
 have hbsz:=hbsz'
 clear hbsz'
 have HB':=Lib.hid (K15'.heap HB.out (by simp))
 have HK':=Lib.hid (HK.out.trans K15')
 clear f_0 f_1 f_2 f_3 f_4 f_5 f_6 f_7 f_8 f_9 f_10 f_11 hltB hltB1 HB HK K15'
 have HB:=HB'
 have HK:=HK'
 clear HB' HK'
 obtain ⟨f_0,f_1,f_2,f_3,f_4,f_5,f_6,f_7,f_8,f_9,f_10,f_11,hltB,hltB1⟩:=cells12 HB.out
 have hc15:=O15.cap.1
 have hN15a:n15≤0+4:=Nat.le_of_eq hn15.out
 have hN15b:0+4≤n15:=Nat.le_of_eq hn15.out.symm
 have HO:=Lib.hid O15
 clear O15 hn15
 clear HRP
 have HRL:=Lib.hid (HRD.out.keep HK.out (by simp))
 go_wp2_with (with_reducible refine stopAt (o:=⟨some 101,_,_,_,_,_⟩) ?_)
 refine Stop.go (wp_appB rfl _ _ 22 5 rfl Try.underlying22 Try.info5 bs A15 n15 c15 l15 rfl HO.out pA pn pc l rfl HRL.out (by omega) (by omega) ?_)
 intro A20 n20 c20 l20 w20 hn20 hl20 O20 K20 hA20
 clear hA20
 have HB':=Lib.hid (K20.heap HB.out (by intro hx; have:=(HO.out.base _ hx).1; omega))
 have HK':=Lib.hid (HK.out.then K20 (fun t ht=>.inr (by have:=(HO.out.base t ht).1; omega)))
 have hbsz':bs≤_:=Nat.le_trans hbsz K20.size
 clear f_0 f_1 f_2 f_3 f_4 f_5 f_6 f_7 f_8 f_9 f_10 f_11 hltB hltB1 HB HK hbsz
 have HB:=HB'
 have HK:=HK'
 have hbsz:=hbsz'
 clear HB' HK' hbsz'
 obtain ⟨f_0,f_1,f_2,f_3,f_4,f_5,f_6,f_7,f_8,f_9,f_10,f_11,hltB,hltB1⟩:=cells12 HB.out
 clear HO K20
 have hc20:=O20.cap.1
 have hN20a:n20≤n15+pn:=Nat.le_of_eq hn20.out
 have hN20b:n15+pn≤n20:=Nat.le_of_eq hn20.out.symm
 have HO:=Lib.hid O20
 clear O20 hn20
 clear HRL
 have e:l20=(bytesOf last.toNat 4++l):=by rw [hl20.out,hl15.out]; simp
 have HE:=Lib.hid e
 clear e
 have hl:=HBD.out
 have HL:=Lib.hid hl
 clear hl
 go_wp2
 go_ret
 exact ⟨_,_,_,rfl,by rw [HL.out]; rw [← HE.out]; exact HO.out.rd,HK.out⟩
end Go.Proofs.Ytkmcakneceagpaa

namespace Go.Proofs.Ytkmcakneceagpaa
open Go.RowKit
theorem rbody5t (f:Fr) (l:List UInt8) (ss:List (Int × Int)) (w0:World) (ok:WrOk w0 f l ss) (hty:f.ty=5) (hgd:goodW (f.p l ss)=true) (h8:hasB f.fl 8=true) :
  Calls Try.prog 149 #[.agg #[.int .i64 f.ty,.int .i64 f.fl,.int .i64 f.st,.slice f.pA f.pn f.pc,.int .i64 f.pad,.int .u32 f.code,.int .i64 f.last,.int .i64 f.inc,.int .i64 f.dep,.bool f.only,.int .i64 f.wt,.slice f.sA f.sn f.sc]] w0 (RdP (bodyW (f.p l ss)) w0):=by
 obtain ⟨hkn,⟨hfl0,hfl1⟩,hst,hri,hmy,hpo,hpr⟩:=goodW_of hgd
 obtain ⟨hrd,hpn,hcode,hsd,hsn⟩:=ok
 obtain ⟨ty,fl,st,pA,pn,pc,pad,code,last,inc,dep,only,wt,sA,sn,sc⟩:=f
 dsimp only [Fr.p] at *
 subst hty
 have HRD:=Lib.hid hrd
 have HSD:=Lib.hid hsd
 clear hgd hkn hst hri hrd hsd
 obtain ⟨hpad0,hpad1⟩:0≤pad∧pad≤255:=by simp [padOk,paddedB] at hpo; omega
 have H8:=Lib.hid h8
 clear h8
 obtain ⟨hla0,hla1⟩:=idB_of (show idB last=true by simpa [mayK] using hmy)
 have HPRI:=Lib.hid (show prioB 5 fl=false by simp [prioB])
 clear hmy hpo hpr
 obtain ⟨pd,rfl⟩:=Int.eq_ofNat_of_zero_le hpad0
 have HBD:=Lib.hid (show bodyW ((⟨5,fl,st,l,(pd:Int),code,last,inc,dep,only,wt,ss⟩:Fp))=[byteOf pd]++(bytesOf last.toNat 4++l)++List.replicate pd 0 by
  simp [bodyW,Fr.p,padF,paddedB,prioB,putW,H8.out])
 obtain ⟨BB,hBB⟩:∃ B,bodyW ((⟨5,fl,st,l,(pd:Int),code,last,inc,dep,only,wt,ss⟩:Fp))=B:=⟨_,rfl⟩
 rw [show bodyW _=BB from hBB]
 rw [hBB] at HBD
 clear hBB
 go_enter Try.func149,Try.ntmps149
 go_wp2_with fail
 have K0:Kp [] w0 (w0.alloc (.cells #[.int .i64 5,.int .i64 fl,.int .i64 st,.slice pA pn pc,.int .i64 (pd:Int),.int .u32 code,.int .i64 last,.int .i64 inc,.int .i64 dep,.bool only,.int .i64 wt,.slice sA sn sc] 49)):=(Kp.refl _ _).alloc _
 have HB:=Lib.hid (hp_new w0 (.cells #[.int .i64 5,.int .i64 fl,.int .i64 st,.slice pA pn pc,.int .i64 (pd:Int),.int .u32 code,.int .i64 last,.int .i64 inc,.int .i64 dep,.bool only,.int .i64 wt,.slice sA sn sc] 49) _ rfl)
 have HK:=Lib.hid K0
 generalize hW:w0.alloc (.cells #[.int .i64 5,.int .i64 fl,.int .i64 st,.slice pA pn pc,.int .i64 (pd:Int),.int .u32 code,.int .i64 last,.int .i64 inc,.int .i64 dep,.bool only,.int .i64 wt,.slice sA sn sc] 49)=w1 at *
 clear hW
 have hs1:=K0.size
 clear K0
 obtain ⟨bs,hbs⟩:∃ bs,w1.heap.size=bs:=⟨_,rfl⟩
 have hbsz:bs≤w1.heap.size:=by omega
 have hBb:w0.heap.size < bs:=by have:=lt_of_heap HB.out; omega
 clear hbs
 obtain ⟨f_0,f_1,f_2,f_3,f_4,f_5,f_6,f_7,f_8,f_9,f_10,f_11,hltB,hltB1⟩:=cells12 HB.out
 refine (rpad5 _).mono ?_
 rintro e w1 ⟨rfl,rfl⟩
 go_wp2_with fail
 refine (hasF fl 8 _ hfl0 hfl1 (by omega) (by omega)).mono ?_
 rintro e w1 ⟨rfl,rfl⟩
 rw [H8.out]
 go_wp2_with (with_reducible refine stopAt (o:=⟨some 22,_,_,_,_,_⟩) ?_)
 generalize hW:World.alloc _ _=w7
 have K7:Kp [] w1 w7:=by rw [← hW]; with_reducible (repeat (first|exact Kp.refl _ _|assumption|refine Kp.alloc ?_ _|refine Kp.drew ?_|refine Kp.drewN ?_ _|(refine Kp.setL ?_ ?_ _;focus (simp;done))|(refine Kp.setR ?_ ?_ _;focus (first|(simp;done)|(simp;omega)))))
 have HN7:=Lib.hid (show w7.heap[w1.heap.size]?=some (.cells #[.int .u8 (pd:Int)] 5) by rw [← hW]; with_reducible (repeat (first|assumption|(refine hp_new _ _ _ ?_;focus (simp;done))|refine hpl ?_|(refine hpf ?_ ?_;focus (first|(simp;done)|(simp;omega)))|refine hpd ?_|refine hpe ?_)))
 clear hW
 have hbsz':bs≤_:=Nat.le_trans hbsz K7.size
 clear hbsz
 have hbsz:=hbsz'
 clear hbsz'
 have HB':=Lib.hid (K7.heap HB.out (by simp))
 have HK':=Lib.hid (HK.out.trans K7)
 clear f_0 f_1 f_2 f_3 f_4 f_5 f_6 f_7 f_8 f_9 f_10 f_11 hltB hltB1 HB HK K7
 have HB:=HB'
 have HK:=HK'
 clear HB' HK'
 obtain ⟨f_0,f_1,f_2,f_3,f_4,f_5,f_6,f_7,f_8,f_9,f_10,f_11,hltB,hltB1⟩:=cells12 HB.out
 refine Stop.go (wp_appB rfl _ _ 22 5 rfl Try.underlying22 Try.info5 bs none 0 0 [] rfl (Ow.nil _ _ _ _) (some ⟨w1.heap.size,0,none⟩) 1 1 [byteOf pd] rfl (Rd.block HN7.out 0 1 1 [byteOf _] rfl (Nat.le_refl _) (by simp; exact u8_of hpad0 hpad1)) (by omega) (by omega) ?_)
 intro A8 n8 c8 l8 w8 hn8 hl8 O8 K8 hA8
 clear hA8
 have K8':Kp [] _ w8:=K8.mono (by simp [ob])
 clear K8
 have hbsz':bs≤_:=Nat.le_trans hbsz K8'.size
 clear hbsz
 have hbsz:=hbsz'
 clear hbsz'
 have HB':=Lib.hid (K8'.heap HB.out (by simp))
 have HK':=Lib.hid (HK.out.trans K8')
 clear f_0 f_1 f_2 f_3 f_4 f_5 f_6 f_7 f_8 f_9 f_10 f_11 hltB hltB1 HB HK K8'
 have HB:=HB'
 have HK:=HK'
 clear HB' HK'
 obtain ⟨f_0,f_1,f_2,f_3,f_4,f_5,f_6,f_7,f_8,f_9,f_10,f_11,hltB,hltB1⟩:=cells12 HB.out
 have hc8:=O8.cap.1
 have hN8a:n8≤1:=Nat.le_of_eq hn8.out
 have hN8b:1≤n8:=Nat.le_of_eq hn8.out.symm
 have HO:=Lib.hid O8
 clear O8 hn8
 clear HN7
 go_wp2_with fail
 refine (rprio5 fl _ hfl0 hfl1).mono ?_
 rintro e w1 ⟨rfl,rfl⟩
 rw [HPRI.out]
 go_wp2_with fail
 refine (rfourF last _ hla0 hla1).mono ?_
 rintro e w14 ⟨Ap,np,cp,rfl,Op,K14⟩
 have hnp:np=4:=by have:=Op.len; simp [bytesOf_length] at this; omega
 subst hnp
 have HRP:=Lib.hid Op.rd
 clear Op
 have HO':=Lib.hid (HO.out.keep K14 (by simp))
 clear HO
 have HO:=HO'
 clear HO'
 have hbsz':bs≤_:=Nat.le_trans hbsz K14.size
 clear hbsz
 have hbsz:=hbsz'
 clear hbsz'
 have HB':=Lib.hid (K14.heap HB.out (by simp))
 have HK':=Lib.hid (HK.out.trans K14)
 clear f_0 f_1 f_2 f_3 f_4 f_5 f_6 f_7 f_8 f_9 f_10 f_11 hltB hltB1 HB HK K14
 have HB:=HB'
 have HK:=HK'
 clear HB' HK'
 obtain ⟨f_0,f_1,f_2,f_3,f_4,f_5,f_6,f_7,f_8,f_9,f_10,f_11,hltB,hltB1⟩:=cells12 HB.out
 go_wp2_with (with_reducible refine stopAt (o:=⟨some 85,_,_,_,_,_⟩) ?_)
 refine Stop.go (wp_appB rfl _ _ 22 5 rfl Try.underlying22 Try.info5 bs A8 n8 c8 l8 rfl HO.out Ap 4 cp (bytesOf last.toNat 4) rfl HRP.out (by omega) (by omega) ?_)
 intro A15 n15 c15 l15 w15 hn15 hl15 O15 K15 hA15
 clear hA15
 have HB':=Lib.hid (K15.heap HB.out (by intro hx; have:=(HO.out.base _ hx).1; omega))
 have HK':=Lib.hid (HK.out.then K15 (fun t ht=>.inr (by have:=(HO.out.base t ht).1; omega)))
 have hbsz':bs≤_:=Nat.le_trans hbsz K15.size
 clear f_0 f_1 f_2 f_3 f_4 f_5 f_6 f_7 f_8 f_9 f_10 f_11 hltB hltB1 HB HK hbsz
 have HB:=HB'
 have HK:=HK'
 have hbsz:=hbsz'
 clear HB' HK' hbsz'
 obtain ⟨f_0,f_1,f_2,f_3,f_4,f_5,f_6,f_7,f_8,f_9,f_10,f_11,hltB,hltB1⟩:=cells12 HB.out
 clear HO K15
 have hc15:=O15.cap.1
 have hN15a:n15≤n8+4:=Nat.le_of_eq hn15.out
 have hN15b:n8+4≤n15:=Nat.le_of_eq hn15.out.symm
 have HO:=Lib.hid O15
 clear O15 hn15
 clear HRP
 have HRL:=Lib.hid (HRD.out.keep HK.out (by simp))
 go_wp2_with (with_reducible refine stopAt (o:=⟨some 101,_,_,_,_,_⟩) ?_)
 refine Stop.go (wp_appB rfl _ _ 22 5 rfl Try.underlying22 Try.info5 bs A15 n15 c15 l15 rfl HO.out pA pn pc l rfl HRL.out (by omega) (by omega) ?_)
 intro A20 n20 c20 l20 w20 hn20 hl20 O20 K20 hA20
 clear hA20
 have HB':=Lib.hid (K20.heap HB.out (by intro hx; have:=(HO.out.base _ hx).1; omega))
 have HK':=Lib.hid (HK.out.then K20 (fun t ht=>.inr (by have:=(HO.out.base t ht).1; omega)))
 have hbsz':bs≤_:=Nat.le_trans hbsz K20.size
 clear f_0 f_1 f_2 f_3 f_4 f_5 f_6 f_7 f_8 f_9 f_10 f_11 hltB hltB1 HB HK hbsz
 have HB:=HB'
 have HK:=HK'
 have hbsz:=hbsz'
 clear HB' HK' hbsz'
 obtain ⟨f_0,f_1,f_2,f_3,f_4,f_5,f_6,f_7,f_8,f_9,f_10,f_11,hltB,hltB1⟩:=cells12 HB.out
 clear HO K20
 have hc20:=O20.cap.1
 have hN20a:n20≤n15+pn:=Nat.le_of_eq hn20.out
 have hN20b:n15+pn≤n20:=Nat.le_of_eq hn20.out.symm
 have HO:=Lib.hid O20
 clear O20 hn20
 clear HRL
 go_wp2_with (with_reducible refine stopAt (o:=⟨some 106,_,_,_,_,_⟩) ?_)
 refine Stop.go (wp_appZ rfl _ _ 22 3 5 rfl Try.underlying22 Try.underlying3 Try.info5 bs A20 n20 c20 l20 rfl HO.out pd rfl (by omega) (by omega) ?_)
 intro A21 n21 c21 l21 w21 hn21 hl21 O21 K21
 have HB':=Lib.hid (K21.heap HB.out (by intro hx; have:=(HO.out.base _ hx).1; omega))
 have HK':=Lib.hid (HK.out.then K21 (fun t ht=>.inr (by have:=(HO.out.base t ht).1; omega)))
 have hbsz':bs≤_:=Nat.le_trans hbsz K21.size
 clear f_0 f_1 f_2 f_3 f_4 f_5 f_6 f_7 f_8 f_9 f_10 f_11 hltB hltB1 HB HK hbsz
 have HB:=HB'
 have HK:=HK'
 have hbsz:=hbsz'
 clear HB' HK' hbsz'
 obtain ⟨f_0,f_1,f_2,f_3,f_4,f_5,f_6,f_7,f_8,f_9,f_10,f_11,hltB,hltB1⟩:=cells12 HB.out
 clear HO K21
 have hc21:=O21.cap.1
 have HO:=Lib.hid O21
 clear O21 hn21
 have e:l21=[byteOf pd]++(bytesOf last.toNat 4++l)++List.replicate pd 0:=by rw [hl21.out,hl20.out,hl15.out,hl8.out]; simp
 have HE:=Lib.hid e
 clear e
 have hl:=HBD.out
 have HL:=Lib.hid hl
 clear hl
 go_wp2
 go_ret
 exact ⟨_,_,_,rfl,by rw [HL.out]; rw [← HE.out]; exact HO.out.rd,HK.out⟩
theorem rbody6 (f:Fr) (l:List UInt8) (ss:List (Int × Int)) (w0:World) (ok:WrOk w0 f l ss) (hty:f.ty=6) (hgd:goodW (f.p l ss)=true) :
  Calls Try.prog 149 #[.agg #[.int .i64 f.ty,.int .i64 f.fl,.int .i64 f.st,.slice f.pA f.pn f.pc,.int .i64 f.pad,.int .u32 f.code,.int .i64 f.last,.int .i64 f.inc,.int .i64 f.dep,.bool f.only,.int .i64 f.wt,.slice f.sA f.sn f.sc]] w0 (RdP (bodyW (f.p l ss)) w0):=by
 obtain ⟨hkn,⟨hfl0,hfl1⟩,hst,hri,hmy,hpo,hpr⟩:=goodW_of hgd
 obtain ⟨hrd,hpn,hcode,hsd,hsn⟩:=ok
 obtain ⟨ty,fl,st,pA,pn,pc,pad,code,last,inc,dep,only,wt,sA,sn,sc⟩:=f
 dsimp only [Fr.p] at *
 subst hty
 have HRD:=Lib.hid hrd
 have HSD:=Lib.hid hsd
 clear hgd hkn hst hri hrd hsd
 have HPRI:=Lib.hid (show prioB 6 fl=false by simp [prioB])
 clear hmy hpo hpr
 have HBD:=Lib.hid (show bodyW ((⟨6,fl,st,l,pad,code,last,inc,dep,only,wt,ss⟩:Fp))=(l) by
  simp [bodyW,Fr.p,padF,paddedB,prioB,putW])
 obtain ⟨BB,hBB⟩:∃ B,bodyW ((⟨6,fl,st,l,pad,code,last,inc,dep,only,wt,ss⟩:Fp))=B:=⟨_,rfl⟩
 rw [show bodyW _=BB from hBB]
 rw [hBB] at HBD
 clear hBB
 go_enter Try.func149,Try.ntmps149
 go_wp2_with fail
 have K0:Kp [] w0 (w0.alloc (.cells #[.int .i64 6,.int .i64 fl,.int .i64 st,.slice pA pn pc,.int .i64 pad,.int .u32 code,.int .i64 last,.int .i64 inc,.int .i64 dep,.bool only,.int .i64 wt,.slice sA sn sc] 49)):=(Kp.refl _ _).alloc _
 have HB:=Lib.hid (hp_new w0 (.cells #[.int .i64 6,.int .i64 fl,.int .i64 st,.slice pA pn pc,.int .i64 pad,.int .u32 code,.int .i64 last,.int .i64 inc,.int .i64 dep,.bool only,.int .i64 wt,.slice sA sn sc] 49) _ rfl)
 have HK:=Lib.hid K0
 generalize hW:w0.alloc (.cells #[.int .i64 6,.int .i64 fl,.int .i64 st,.slice pA pn pc,.int .i64 pad,.int .u32 code,.int .i64 last,.int .i64 inc,.int .i64 dep,.bool only,.int .i64 wt,.slice sA sn sc] 49)=w1 at *
 clear hW
 have hs1:=K0.size
 clear K0
 obtain ⟨bs,hbs⟩:∃ bs,w1.heap.size=bs:=⟨_,rfl⟩
 have hbsz:bs≤w1.heap.size:=by omega
 have hBb:w0.heap.size < bs:=by have:=lt_of_heap HB.out; omega
 clear hbs
 obtain ⟨f_0,f_1,f_2,f_3,f_4,f_5,f_6,f_7,f_8,f_9,f_10,f_11,hltB,hltB1⟩:=cells12 HB.out
 refine (rpad6 _).mono ?_
 rintro e w1 ⟨rfl,rfl⟩
 go_wp2_with fail
 refine (rprio6 fl _ hfl0 hfl1).mono ?_
 rintro e w1 ⟨rfl,rfl⟩
 rw [HPRI.out]
 have HRL:=Lib.hid (HRD.out.keep HK.out (by simp))
 go_wp2_with (with_reducible refine stopAt (o:=⟨some 101,_,_,_,_,_⟩) ?_)
 refine Stop.go (wp_appB rfl _ _ 22 5 rfl Try.underlying22 Try.info5 bs none 0 0 [] rfl (Ow.nil _ _ _ _) pA pn pc l rfl HRL.out (by omega) (by omega) ?_)
 intro A20 n20 c20 l20 w20 hn20 hl20 O20 K20 hA20
 clear hA20
 have K20':Kp [] _ w20:=K20.mono (by simp [ob])
 clear K20
 have hbsz':bs≤_:=Nat.le_trans hbsz K20'.size
 clear hbsz
 have hbsz:=hbsz'
 clear hbsz'
 have HB':=Lib.hid (K20'.heap HB.out (by simp))
 have HK':=Lib.hid (HK.out.trans K20')
 clear f_0 f_1 f_2 f_3 f_4 f_5 f_6 f_7 f_8 f_9 f_10 f_11 hltB hltB1 HB HK K20'
 have HB:=HB'
 have HK:=HK'
 clear HB' HK'
 obtain ⟨f_0,f_1,f_2,f_3,f_4,f_5,f_6,f_7,f_8,f_9,f_10,f_11,hltB,hltB1⟩:=cells12 HB.out
 have hc20:=O20.cap.1
 have hN20a:n20≤0+pn:=Nat.le_of_eq hn20.out
 have hN20b:0+pn≤n20:=Nat.le_of_eq hn20.out.symm
 have HO:=Lib.hid O20
 clear O20 hn20
 clear HRL
 have e:l20=(l):=by rw [hl20.out]; simp
 have HE:=Lib.hid e
 clear e
 have hl:=HBD.out
 have HL:=Lib.hid hl
 clear hl
 go_wp2
 go_ret
 exact ⟨_,_,_,rfl,by rw [HL.out]; rw [← HE.out]; exact HO.out.rd,HK.out⟩
theorem rbody9 (f:Fr) (l:List UInt8) (ss:List (Int × Int)) (w0:World) (ok:WrOk w0 f l ss) (hty:f.ty=9) (hgd:goodW (f.p l ss)=true) :
  Calls Try.prog 149 #[.agg #[.int .i64 f.ty,.int .i64 f.fl,.int .i64 f.st,.slice f.pA f.pn f.pc,.int .i64 f.pad,.int .u32 f.code,.int .i64 f.last,.int .i64 f.inc,.int .i64 f.dep,.bool f.only,.int .i64 f.wt,.slice f.sA f.sn f.sc]] w0 (RdP (bodyW (f.p l ss)) w0):=by
 obtain ⟨hkn,⟨hfl0,hfl1⟩,hst,hri,hmy,hpo,hpr⟩:=goodW_of hgd
 obtain ⟨hrd,hpn,hcode,hsd,hsn⟩:=ok
 obtain ⟨ty,fl,st,pA,pn,pc,pad,code,last,inc,dep,only,wt,sA,sn,sc⟩:=f
 dsimp only [Fr.p] at *
 subst hty
 have HRD:=Lib.hid hrd
 have HSD:=Lib.hid hsd
 clear hgd hkn hst hri hrd hsd
 have HPRI:=Lib.hid (show prioB 9 fl=false by simp [prioB])
 clear hmy hpo hpr
 have HBD:=Lib.hid (show bodyW ((⟨9,fl,st,l,pad,code,last,inc,dep,only,wt,ss⟩:Fp))=(l) by
  simp [bodyW,Fr.p,padF,paddedB,prioB,putW])
 obtain ⟨BB,hBB⟩:∃ B,bodyW ((⟨9,fl,st,l,pad,code,last,inc,dep,only,wt,ss⟩:Fp))=B:=⟨_,rfl⟩
 rw [show bodyW _=BB from hBB]
 rw [hBB] at HBD
 clear hBB
 go_enter Try.func149,Try.ntmps149
 go_wp2_with fail
 have K0:Kp [] w0 (w0.alloc (.cells #[.int .i64 9,.int .i64 fl,.int .i64 st,.slice pA pn pc,.int .i64 pad,.int .u32 code,.int .i64 last,.int .i64 inc,.int .i64 dep,.bool only,.int .i64 wt,.slice sA sn sc] 49)):=(Kp.refl _ _).alloc _
 have HB:=Lib.hid (hp_new w0 (.cells #[.int .i64 9,.int .i64 fl,.int .i64 st,.slice pA pn pc,.int .i64 pad,.int .u32 code,.int .i64 last,.int .i64 inc,.int .i64 dep,.bool only,.int .i64 wt,.slice sA sn sc] 49) _ rfl)
 have HK:=Lib.hid K0
 generalize hW:w0.alloc (.cells #[.int .i64 9,.int .i64 fl,.int .i64 st,.slice pA pn pc,.int .i64 pad,.int .u32 code,.int .i64 last,.int .i64 inc,.int .i64 dep,.bool only,.int .i64 wt,.slice sA sn sc] 49)=w1 at *
 clear hW
 have hs1:=K0.size
 clear K0
 obtain ⟨bs,hbs⟩:∃ bs,w1.heap.size=bs:=⟨_,rfl⟩
 have hbsz:bs≤w1.heap.size:=by omega
 have hBb:w0.heap.size < bs:=by have:=lt_of_heap HB.out; omega
 clear hbs
 obtain ⟨f_0,f_1,f_2,f_3,f_4,f_5,f_6,f_7,f_8,f_9,f_10,f_11,hltB,hltB1⟩:=cells12 HB.out
 refine (rpad9 _).mono ?_
 rintro e w1 ⟨rfl,rfl⟩
 go_wp2_with fail
 refine (rprio9 fl _ hfl0 hfl1).mono ?_
 rintro e w1 ⟨rfl,rfl⟩
 rw [HPRI.out]
 have HRL:=Lib.hid (HRD.out.keep HK.out (by simp))
 go_wp2_with (with_reducible refine stopAt (o:=⟨some 101,_,_,_,_,_⟩) ?_)
 refine Stop.go (wp_appB rfl _ _ 22 5 rfl Try.underlying22 Try.info5 bs none 0 0 [] rfl (Ow.nil _ _ _ _) pA pn pc l rfl HRL.out (by omega) (by omega) ?_)
 intro A20 n20 c20 l20 w20 hn20 hl20 O20 K20 hA20
 clear hA20
 have K20':Kp [] _ w20:=K20.mono (by simp [ob])
 clear K20
 have hbsz':bs≤_:=Nat.le_trans hbsz K20'.size
 clear hbsz
 have hbsz:=hbsz'
 clear hbsz'
 have HB':=Lib.hid (K20'.heap HB.out (by simp))
 have HK':=Lib.hid (HK.out.trans K20')
 clear f_0 f_1 f_2 f_3 f_4 f_5 f_6 f_7 f_8 f_9 f_10 f_11 hltB hltB1 HB HK K20'
 have HB:=HB'
 have HK:=HK'
 clear HB' HK'
 obtain ⟨f_0,f_1,f_2,f_3,f_4,f_5,f_6,f_7,f_8,f_9,f_10,f_11,hltB,hltB1⟩:=cells12 HB.out
 have hc20:=O20.cap.1
 have hN20a:n20≤0+pn:=Nat.le_of_eq hn20.out
 have hN20b:0+pn≤n20:=Nat.le_of_eq hn20.out.symm
 have HO:=Lib.hid O20
 clear O20 hn20
 clear HRL
 have e:l20=(l):=by rw [hl20.out]; simp
 have HE:=Lib.hid e
 clear e
 have hl:=HBD.out
 have HL:=Lib.hid hl
 clear hl
 go_wp2
 go_ret
 exact ⟨_,_,_,rfl,by rw [HL.out]; rw [← HE.out]; exact HO.out.rd,HK.out⟩
theorem rbody7 (f:Fr) (l:List UInt8) (ss:List (Int × Int)) (w0:World) (ok:WrOk w0 f l ss) (hty:f.ty=7) (hgd:goodW (f.p l ss)=true) :
  Calls Try.prog 149 #[.agg #[.int .i64 f.ty,.int .i64 f.fl,.int .i64 f.st,.slice f.pA f.pn f.pc,.int .i64 f.pad,.int .u32 f.code,.int .i64 f.last,.int .i64 f.inc,.int .i64 f.dep,.bool f.only,.int .i64 f.wt,.slice f.sA f.sn f.sc]] w0 (RdP (bodyW (f.p l ss)) w0):=by
 obtain ⟨hkn,⟨hfl0,hfl1⟩,hst,hri,hmy,hpo,hpr⟩:=goodW_of hgd
 obtain ⟨hrd,hpn,hcode,hsd,hsn⟩:=ok
 obtain ⟨ty,fl,st,pA,pn,pc,pad,code,last,inc,dep,only,wt,sA,sn,sc⟩:=f
 dsimp only [Fr.p] at *
 subst hty
 have HRD:=Lib.hid hrd
 have HSD:=Lib.hid hsd
 clear hgd hkn hst hri hrd hsd
 obtain ⟨hla0,hla1⟩:=idB_of (show idB last=true by simpa [mayK] using hmy)
 have HPRI:=Lib.hid (show prioB 7 fl=false by simp [prioB])
 clear hmy hpo hpr
 have HBD:=Lib.hid (show bodyW ((⟨7,fl,st,l,pad,code,last,inc,dep,only,wt,ss⟩:Fp))=(bytesOf last.toNat 4++bytesOf code.toNat 4++l) by
  simp [bodyW,Fr.p,padF,paddedB,prioB,putW])
 obtain ⟨BB,hBB⟩:∃ B,bodyW ((⟨7,fl,st,l,pad,code,last,inc,dep,only,wt,ss⟩:Fp))=B:=⟨_,rfl⟩
 rw [show bodyW _=BB from hBB]
 rw [hBB] at HBD
 clear hBB
 go_enter Try.func149,Try.ntmps149
 go_wp2_with fail
 have K0:Kp [] w0 (w0.alloc (.cells #[.int .i64 7,.int .i64 fl,.int .i64 st,.slice pA pn pc,.int .i64 pad,.int .u32 code,.int .i64 last,.int .i64 inc,.int .i64 dep,.bool only,.int .i64 wt,.slice sA sn sc] 49)):=(Kp.refl _ _).alloc _
 have HB:=Lib.hid (hp_new w0 (.cells #[.int .i64 7,.int .i64 fl,.int .i64 st,.slice pA pn pc,.int .i64 pad,.int .u32 code,.int .i64 last,.int .i64 inc,.int .i64 dep,.bool only,.int .i64 wt,.slice sA sn sc] 49) _ rfl)
 have HK:=Lib.hid K0
 generalize hW:w0.alloc (.cells #[.int .i64 7,.int .i64 fl,.int .i64 st,.slice pA pn pc,.int .i64 pad,.int .u32 code,.int .i64 last,.int .i64 inc,.int .i64 dep,.bool only,.int .i64 wt,.slice sA sn sc] 49)=w1 at *
 clear hW
 have hs1:=K0.size
 clear K0
 obtain ⟨bs,hbs⟩:∃ bs,w1.heap.size=bs:=⟨_,rfl⟩
 have hbsz:bs≤w1.heap.size:=by omega
 have hBb:w0.heap.size < bs:=by have:=lt_of_heap HB.out; omega
 clear hbs
 obtain ⟨f_0,f_1,f_2,f_3,f_4,f_5,f_6,f_7,f_8,f_9,f_10,f_11,hltB,hltB1⟩:=cells12 HB.out
 refine (rpad7 _).mono ?_
 rintro e w1 ⟨rfl,rfl⟩
 go_wp2_with fail
 refine (rprio7 fl _ hfl0 hfl1).mono ?_
 rintro e w1 ⟨rfl,rfl⟩
 rw [HPRI.out]
 go_wp2_with fail
 refine (rfourF last _ hla0 hla1).mono ?_
 rintro e w14 ⟨Ap,np,cp,rfl,Op,K14⟩
 have hnp:np=4:=by have:=Op.len; simp [bytesOf_length] at this; omega
 subst hnp
 have HRP:=Lib.hid Op.rd
 clear Op
 have hbsz':bs≤_:=Nat.le_trans hbsz K14.size
 clear hbsz
 have hbsz:=hbsz'
 clear hbsz'
 have HB':=Lib.hid (K14.heap HB.out (by simp))
 have HK':=Lib.hid (HK.out.trans K14)
 clear f_0 f_1 f_2 f_3 f_4 f_5 f_6 f_7 f_8 f_9 f_10 f_11 hltB hltB1 HB HK K14
 have HB:=HB'
 have HK:=HK'
 clear HB' HK'
 obtain ⟨f_0,f_1,f_2,f_3,f_4,f_5,f_6,f_7,f_8,f_9,f_10,f_11,hltB,hltB1⟩:=cells12 HB.out
 go_wp2_with (with_reducible refine stopAt (o:=⟨some 92,_,_,_,_,_⟩) ?_)
 refine Stop.go (wp_appB rfl _ _ 22 5 rfl Try.underlying22 Try.info5 bs none 0 0 [] rfl (Ow.nil _ _ _ _) Ap 4 cp (bytesOf last.toNat 4) rfl HRP.out (by omega) (by omega) ?_)
 intro A15 n15 c15 l15 w15 hn15 hl15 O15 K15 hA15
 clear hA15
 have K15':Kp [] _ w15:=K15.mono (by simp [ob])
 clear K15
 have hbsz':bs≤_:=Nat.le_trans hbsz K15'.size
 clear hbsz
 have hbsz:=hbsz'
 clear hbsz'
 have HB':=Lib.hid (K15'.heap HB.out (by simp))
 have HK':=Lib.hid (HK.out.trans K15')
 clear f_0 f_1 f_2 f_3 f_4 f_5 f_6 f_7 f_8 f_9 f_10 f_11 hltB hltB1 HB HK K15'
 have HB:=HB'
 have HK:=HK'
 clear HB' HK'
 obtain ⟨f_0,f_1,f_2,f_3,f_4,f_5,f_6,f_7,f_8,f_9,f_10,f_11,hltB,hltB1⟩:=cells12 HB.out
 have hc15:=O15.cap.1
 have hN15a:n15≤0+4:=Nat.le_of_eq hn15.out
 have hN15b:0+4≤n15:=Nat.le_of_eq hn15.out.symm
 have HO:=Lib.hid O15
 clear O15 hn15
 clear HRP
 have hcd1:0≤code:=hcode.1
 have HCD:=Lib.hid (show code.toNat < 4294967296 by have:=hcode.2; omega)
 have HCE:=Lib.hid (show ((code.toNat:Nat):Int)=code by omega)
 clear hcode
 go_wp2_with fail
 have hPut:=refPut32_any code.toNat
 rw [HCE.out] at hPut
 refine (hPut _ HCD.out).mono ?_
 clear hPut
 rintro e w17 ⟨Aq,nq,cq,rfl,Oq,K17⟩
 have hnq:nq=4:=by have:=Oq.len; simp [bytesOf_length] at this; omega
 subst hnq
 have HRQ:=Lib.hid Oq.rd
 clear Oq
 have HO':=Lib.hid (HO.out.keep K17 (by simp))
 clear HO
 have HO:=HO'
 clear HO'
 have hbsz':bs≤_:=Nat.le_trans hbsz K17.size
 clear hbsz
 have hbsz:=hbsz'
 clear hbsz'
 have HB':=Lib.hid (K17.heap HB.out (by simp))
 have HK':=Lib.hid (HK.out.trans K17)
 clear f_0 f_1 f_2 f_3 f_4 f_5 f_6 f_7 f_8 f_9 f_10 f_11 hltB hltB1 HB HK K17
 have HB:=HB'
 have HK:=HK'
 clear HB' HK'
 obtain ⟨f_0,f_1,f_2,f_3,f_4,f_5,f_6,f_7,f_8,f_9,f_10,f_11,hltB,hltB1⟩:=cells12 HB.out
 go_wp2_with (with_reducible refine stopAt (o:=⟨some 97,_,_,_,_,_⟩) ?_)
 refine Stop.go (wp_appB rfl _ _ 22 5 rfl Try.underlying22 Try.info5 bs A15 n15 c15 l15 rfl HO.out Aq 4 cq (bytesOf code.toNat 4) rfl HRQ.out (by omega) (by omega) ?_)
 intro A18 n18 c18 l18 w18 hn18 hl18 O18 K18 hA18
 clear hA18
 have HB':=Lib.hid (K18.heap HB.out (by intro hx; have:=(HO.out.base _ hx).1; omega))
 have HK':=Lib.hid (HK.out.then K18 (fun t ht=>.inr (by have:=(HO.out.base t ht).1; omega)))
 have hbsz':bs≤_:=Nat.le_trans hbsz K18.size
 clear f_0 f_1 f_2 f_3 f_4 f_5 f_6 f_7 f_8 f_9 f_10 f_11 hltB hltB1 HB HK hbsz
 have HB:=HB'
 have HK:=HK'
 have hbsz:=hbsz'
 clear HB' HK' hbsz'
 obtain ⟨f_0,f_1,f_2,f_3,f_4,f_5,f_6,f_7,f_8,f_9,f_10,f_11,hltB,hltB1⟩:=cells12 HB.out
 clear HO K18
 have hc18:=O18.cap.1
 have hN18a:n18≤n15+4:=Nat.le_of_eq hn18.out
 have hN18b:n15+4≤n18:=Nat.le_of_eq hn18.out.symm
 have HO:=Lib.hid O18
 clear O18 hn18
 clear HRQ
 have HRL:=Lib.hid (HRD.out.keep HK.out (by simp))
 go_wp2_with (with_reducible refine stopAt (o:=⟨some 101,_,_,_,_,_⟩) ?_)
 refine Stop.go (wp_appB rfl _ _ 22 5 rfl Try.underlying22 Try.info5 bs A18 n18 c18 l18 rfl HO.out pA pn pc l rfl HRL.out (by omega) (by omega) ?_)
 intro A20 n20 c20 l20 w20 hn20 hl20 O20 K20 hA20
 clear hA20
 have HB':=Lib.hid (K20.heap HB.out (by intro hx; have:=(HO.out.base _ hx).1; omega))
 have HK':=Lib.hid (HK.out.then K20 (fun t ht=>.inr (by have:=(HO.out.base t ht).1; omega)))
 have hbsz':bs≤_:=Nat.le_trans hbsz K20.size
 clear f_0 f_1 f_2 f_3 f_4 f_5 f_6 f_7 f_8 f_9 f_10 f_11 hltB hltB1 HB HK hbsz
 have HB:=HB'
 have HK:=HK'
 have hbsz:=hbsz'
 clear HB' HK' hbsz'
 obtain ⟨f_0,f_1,f_2,f_3,f_4,f_5,f_6,f_7,f_8,f_9,f_10,f_11,hltB,hltB1⟩:=cells12 HB.out
 clear HO K20
 have hc20:=O20.cap.1
 have hN20a:n20≤n18+pn:=Nat.le_of_eq hn20.out
 have hN20b:n18+pn≤n20:=Nat.le_of_eq hn20.out.symm
 have HO:=Lib.hid O20
 clear O20 hn20
 clear HRL
 have e:l20=(bytesOf last.toNat 4++bytesOf code.toNat 4++l):=by rw [hl20.out,hl18.out,hl15.out]; simp
 have HE:=Lib.hid e
 clear e
 have hl:=HBD.out
 have HL:=Lib.hid hl
 clear hl
 go_wp2
 go_ret
 exact ⟨_,_,_,rfl,by rw [HL.out]; rw [← HE.out]; exact HO.out.rd,HK.out⟩
end Go.Proofs.Ytkmcakneceagpaa

namespace Go.Proofs.Ytkmcakneceagpaa
open Go.RowKit
theorem rbody1ff (f:Fr) (l:List UInt8) (ss:List (Int × Int)) (w0:World) (ok:WrOk w0 f l ss) (hty:f.ty=1) (hgd:goodW (f.p l ss)=true) (h8:hasB f.fl 8=false) (h32:hasB f.fl 32=false) :
  Calls Try.prog 149 #[.agg #[.int .i64 f.ty,.int .i64 f.fl,.int .i64 f.st,.slice f.pA f.pn f.pc,.int .i64 f.pad,.int .u32 f.code,.int .i64 f.last,.int .i64 f.inc,.int .i64 f.dep,.bool f.only,.int .i64 f.wt,.slice f.sA f.sn f.sc]] w0 (RdP (bodyW (f.p l ss)) w0):=by
 obtain ⟨hkn,⟨hfl0,hfl1⟩,hst,hri,hmy,hpo,hpr⟩:=goodW_of hgd
 obtain ⟨hrd,hpn,hcode,hsd,hsn⟩:=ok
 obtain ⟨ty,fl,st,pA,pn,pc,pad,code,last,inc,dep,only,wt,sA,sn,sc⟩:=f
 dsimp only [Fr.p] at *
 subst hty
 have HRD:=Lib.hid hrd
 have HSD:=Lib.hid hsd
 clear hgd hkn hst hri hrd hsd
 obtain ⟨hpad0,hpad1⟩:0≤pad∧pad≤255:=by simp [padOk,paddedB] at hpo; omega
 have H8:=Lib.hid h8
 clear h8
 have HPRI:=Lib.hid (show prioB 1 fl=false by simp [prioB,h32])
 clear h32
 clear hmy hpo hpr
 have HBD:=Lib.hid (show bodyW ((⟨1,fl,st,l,pad,code,last,inc,dep,only,wt,ss⟩:Fp))=(l) by
  simp [bodyW,Fr.p,padF,paddedB,prioB,putW,H8.out,(show hasB fl 32=false by have:=HPRI.out; simpa [prioB] using this)])
 obtain ⟨BB,hBB⟩:∃ B,bodyW ((⟨1,fl,st,l,pad,code,last,inc,dep,only,wt,ss⟩:Fp))=B:=⟨_,rfl⟩
 rw [show bodyW _=BB from hBB]
 rw [hBB] at HBD
 clear hBB
 go_enter Try.func149,Try.ntmps149
 go_wp2_with fail
 have K0:Kp [] w0 (w0.alloc (.cells #[.int .i64 1,.int .i64 fl,.int .i64 st,.slice pA pn pc,.int .i64 pad,.int .u32 code,.int .i64 last,.int .i64 inc,.int .i64 dep,.bool only,.int .i64 wt,.slice sA sn sc] 49)):=(Kp.refl _ _).alloc _
 have HB:=Lib.hid (hp_new w0 (.cells #[.int .i64 1,.int .i64 fl,.int .i64 st,.slice pA pn pc,.int .i64 pad,.int .u32 code,.int .i64 last,.int .i64 inc,.int .i64 dep,.bool only,.int .i64 wt,.slice sA sn sc] 49) _ rfl)
 have HK:=Lib.hid K0
 generalize hW:w0.alloc (.cells #[.int .i64 1,.int .i64 fl,.int .i64 st,.slice pA pn pc,.int .i64 pad,.int .u32 code,.int .i64 last,.int .i64 inc,.int .i64 dep,.bool only,.int .i64 wt,.slice sA sn sc] 49)=w1 at *
 clear hW
 have hs1:=K0.size
 clear K0
 obtain ⟨bs,hbs⟩:∃ bs,w1.heap.size=bs:=⟨_,rfl⟩
 have hbsz:bs≤w1.heap.size:=by omega
 have hBb:w0.heap.size < bs:=by have:=lt_of_heap HB.out; omega
 clear hbs
 obtain ⟨f_0,f_1,f_2,f_3,f_4,f_5,f_6,f_7,f_8,f_9,f_10,f_11,hltB,hltB1⟩:=cells12 HB.out
 refine (rpad1 _).mono ?_
 rintro e w1 ⟨rfl,rfl⟩
 go_wp2_with fail
 refine (hasF fl 8 _ hfl0 hfl1 (by omega) (by omega)).mono ?_
 rintro e w1 ⟨rfl,rfl⟩
 rw [H8.out]
 go_wp2_with fail
 refine (rprio1 fl _ hfl0 hfl1).mono ?_
 rintro e w1 ⟨rfl,rfl⟩
 rw [HPRI.out]
 have HRL:=Lib.hid (HRD.out.keep HK.out (by simp))
 go_wp2_with (with_reducible refine stopAt (o:=⟨some 101,_,_,_,_,_⟩) ?_)
 refine Stop.go (wp_appB rfl _ _ 22 5 rfl Try.underlying22 Try.info5 bs none 0 0 [] rfl (Ow.nil _ _ _ _) pA pn pc l rfl HRL.out (by omega) (by omega) ?_)
 intro A20 n20 c20 l20 w20 hn20 hl20 O20 K20 hA20
 clear hA20
 have K20':Kp [] _ w20:=K20.mono (by simp [ob])
 clear K20
 have hbsz':bs≤_:=Nat.le_trans hbsz K20'.size
 clear hbsz
 have hbsz:=hbsz'
 clear hbsz'
 have HB':=Lib.hid (K20'.heap HB.out (by simp))
 have HK':=Lib.hid (HK.out.trans K20')
 clear f_0 f_1 f_2 f_3 f_4 f_5 f_6 f_7 f_8 f_9 f_10 f_11 hltB hltB1 HB HK K20'
 have HB:=HB'
 have HK:=HK'
 clear HB' HK'
 obtain ⟨f_0,f_1,f_2,f_3,f_4,f_5,f_6,f_7,f_8,f_9,f_10,f_11,hltB,hltB1⟩:=cells12 HB.out
 have hc20:=O20.cap.1
 have hN20a:n20≤0+pn:=Nat.le_of_eq hn20.out
 have hN20b:0+pn≤n20:=Nat.le_of_eq hn20.out.symm
 have HO:=Lib.hid O20
 clear O20 hn20
 clear HRL
 have e:l20=(l):=by rw [hl20.out]; simp
 have HE:=Lib.hid e
 clear e
 have hl:=HBD.out
 have HL:=Lib.hid hl
 clear hl
 go_wp2
 go_ret
 exact ⟨_,_,_,rfl,by rw [HL.out]; rw [← HE.out]; exact HO.out.rd,HK.out⟩
theorem rbody1tf (f:Fr) (l:List UInt8) (ss:List (Int × Int)) (w0:World) (ok:WrOk w0 f l ss) (hty:f.ty=1) (hgd:goodW (f.p l ss)=true) (h8:hasB f.fl 8=true) (h32:hasB f.fl 32=false) :
  Calls Try.prog 149 #[.agg #[.int .i64 f.ty,.int .i64 f.fl,.int .i64 f.st,.slice f.pA f.pn f.pc,.int .i64 f.pad,.int .u32 f.code,.int .i64 f.last,.int .i64 f.inc,.int .i64 f.dep,.bool f.only,.int .i64 f.wt,.slice f.sA f.sn f.sc]] w0 (RdP (bodyW (f.p l ss)) w0):=by
 obtain ⟨hkn,⟨hfl0,hfl1⟩,hst,hri,hmy,hpo,hpr⟩:=goodW_of hgd
 obtain ⟨hrd,hpn,hcode,hsd,hsn⟩:=ok
 obtain ⟨ty,fl,st,pA,pn,pc,pad,code,last,inc,dep,only,wt,sA,sn,sc⟩:=f
 dsimp only [Fr.p] at *
 subst hty
 have HRD:=Lib.hid hrd
 have HSD:=Lib.hid hsd
 clear hgd hkn hst hri hrd hsd
 obtain ⟨hpad0,hpad1⟩:0≤pad∧pad≤255:=by simp [padOk,paddedB] at hpo; omega
 have H8:=Lib.hid h8
 clear h8
 have HPRI:=Lib.hid (show prioB 1 fl=false by simp [prioB,h32])
 clear h32
 clear hmy hpo hpr
 obtain ⟨pd,rfl⟩:=Int.eq_ofNat_of_zero_le hpad0
 have HBD:=Lib.hid (show bodyW ((⟨1,fl,st,l,(pd:Int),code,last,inc,dep,only,wt,ss⟩:Fp))=[byteOf pd]++(l)++List.replicate pd 0 by
  simp [bodyW,Fr.p,padF,paddedB,prioB,putW,H8.out,(show hasB fl 32=false by have:=HPRI.out; simpa [prioB] using this)])
 obtain ⟨BB,hBB⟩:∃ B,bodyW ((⟨1,fl,st,l,(pd:Int),code,last,inc,dep,only,wt,ss⟩:Fp))=B:=⟨_,rfl⟩
 rw [show bodyW _=BB from hBB]
 rw [hBB] at HBD
 clear hBB
 go_enter Try.func149,Try.ntmps149
 go_wp2_with fail
 have K0:Kp [] w0 (w0.alloc (.cells #[.int .i64 1,.int .i64 fl,.int .i64 st,.slice pA pn pc,.int .i64 (pd:Int),.int .u32 code,.int .i64 last,.int .i64 inc,.int .i64 dep,.bool only,.int .i64 wt,.slice sA sn sc] 49)):=(Kp.refl _ _).alloc _
 have HB:=Lib.hid (hp_new w0 (.cells #[.int .i64 1,.int .i64 fl,.int .i64 st,.slice pA pn pc,.int .i64 (pd:Int),.int .u32 code,.int .i64 last,.int .i64 inc,.int .i64 dep,.bool only,.int .i64 wt,.slice sA sn sc] 49) _ rfl)
 have HK:=Lib.hid K0
 generalize hW:w0.alloc (.cells #[.int .i64 1,.int .i64 fl,.int .i64 st,.slice pA pn pc,.int .i64 (pd:Int),.int .u32 code,.int .i64 last,.int .i64 inc,.int .i64 dep,.bool only,.int .i64 wt,.slice sA sn sc] 49)=w1 at *
 clear hW
 have hs1:=K0.size
 clear K0
 obtain ⟨bs,hbs⟩:∃ bs,w1.heap.size=bs:=⟨_,rfl⟩
 have hbsz:bs≤w1.heap.size:=by omega
 have hBb:w0.heap.size < bs:=by have:=lt_of_heap HB.out; omega
 clear hbs
 obtain ⟨f_0,f_1,f_2,f_3,f_4,f_5,f_6,f_7,f_8,f_9,f_10,f_11,hltB,hltB1⟩:=cells12 HB.out
 refine (rpad1 _).mono ?_
 rintro e w1 ⟨rfl,rfl⟩
 go_wp2_with fail
 refine (hasF fl 8 _ hfl0 hfl1 (by omega) (by omega)).mono ?_
 rintro e w1 ⟨rfl,rfl⟩
 rw [H8.out]
 go_wp2_with (with_reducible refine stopAt (o:=⟨some 22,_,_,_,_,_⟩) ?_)
 generalize hW:World.alloc _ _=w7
 have K7:Kp [] w1 w7:=by rw [← hW]; with_reducible (repeat (first|exact Kp.refl _ _|assumption|refine Kp.alloc ?_ _|refine Kp.drew ?_|refine Kp.drewN ?_ _|(refine Kp.setL ?_ ?_ _;focus (simp;done))|(refine Kp.setR ?_ ?_ _;focus (first|(simp;done)|(simp;omega)))))
 have HN7:=Lib.hid (show w7.heap[w1.heap.size]?=some (.cells #[.int .u8 (pd:Int)] 5) by rw [← hW]; with_reducible (repeat (first|assumption|(refine hp_new _ _ _ ?_;focus (simp;done))|refine hpl ?_|(refine hpf ?_ ?_;focus (first|(simp;done)|(simp;omega)))|refine hpd ?_|refine hpe ?_)))
 clear hW
 have hbsz':bs≤_:=Nat.le_trans hbsz K7.size
 clear hbsz
 have hbsz:=hbsz'
 clear hbsz'
 have HB':=Lib.hid (K7.heap HB.out (by simp))
 have HK':=Lib.hid (HK.out.trans K7)
 clear f_0 f_1 f_2 f_3 f_4 f_5 f_6 f_7 f_8 f_9 f_10 f_11 hltB hltB1 HB HK K7
 have HB:=HB'
 have HK:=HK'
 clear HB' HK'
 obtain ⟨f_0,f_1,f_2,f_3,f_4,f_5,f_6,f_7,f_8,f_9,f_10,f_11,hltB,hltB1⟩:=cells12 HB.out
 refine Stop.go (wp_appB rfl _ _ 22 5 rfl Try.underlying22 Try.info5 bs none 0 0 [] rfl (Ow.nil _ _ _ _) (some ⟨w1.heap.size,0,none⟩) 1 1 [byteOf pd] rfl (Rd.block HN7.out 0 1 1 [byteOf _] rfl (Nat.le_refl _) (by simp; exact u8_of hpad0 hpad1)) (by omega) (by omega) ?_)
 intro A8 n8 c8 l8 w8 hn8 hl8 O8 K8 hA8
 clear hA8
 have K8':Kp [] _ w8:=K8.mono (by simp [ob])
 clear K8
 have hbsz':bs≤_:=Nat.le_trans hbsz K8'.size
 clear hbsz
 have hbsz:=hbsz'
 clear hbsz'
 have HB':=Lib.hid (K8'.heap HB.out (by simp))
 have HK':=Lib.hid (HK.out.trans K8')
 clear f_0 f_1 f_2 f_3 f_4 f_5 f_6 f_7 f_8 f_9 f_10 f_11 hltB hltB1 HB HK K8'
 have HB:=HB'
 have HK:=HK'
 clear HB' HK'
 obtain ⟨f_0,f_1,f_2,f_3,f_4,f_5,f_6,f_7,f_8,f_9,f_10,f_11,hltB,hltB1⟩:=cells12 HB.out
 have hc8:=O8.cap.1
 have hN8a:n8≤1:=Nat.le_of_eq hn8.out
 have hN8b:1≤n8:=Nat.le_of_eq hn8.out.symm
 have HO:=Lib.hid O8
 clear O8 hn8
 clear HN7
 go_wp2_with fail
 refine (rprio1 fl _ hfl0 hfl1).mono ?_
 rintro e w1 ⟨rfl,rfl⟩
 rw [HPRI.out]
 have HRL:=Lib.hid (HRD.out.keep HK.out (by simp))
 go_wp2_with (with_reducible refine stopAt (o:=⟨some 101,_,_,_,_,_⟩) ?_)
 refine Stop.go (wp_appB rfl _ _ 22 5 rfl Try.underlying22 Try.info5 bs A8 n8 c8 l8 rfl HO.out pA pn pc l rfl HRL.out (by omega) (by omega) ?_)
 intro A20 n20 c20 l20 w20 hn20 hl20 O20 K20 hA20
 clear hA20
 have HB':=Lib.hid (K20.heap HB.out (by intro hx; have:=(HO.out.base _ hx).1; omega))
 have HK':=Lib.hid (HK.out.then K20 (fun t ht=>.inr (by have:=(HO.out.base t ht).1; omega)))
 have hbsz':bs≤_:=Nat.le_trans hbsz K20.size
 clear f_0 f_1 f_2 f_3 f_4 f_5 f_6 f_7 f_8 f_9 f_10 f_11 hltB hltB1 HB HK hbsz
 have HB:=HB'
 have HK:=HK'
 have hbsz:=hbsz'
 clear HB' HK' hbsz'
 obtain ⟨f_0,f_1,f_2,f_3,f_4,f_5,f_6,f_7,f_8,f_9,f_10,f_11,hltB,hltB1⟩:=cells12 HB.out
 clear HO K20
 have hc20:=O20.cap.1
 have hN20a:n20≤n8+pn:=Nat.le_of_eq hn20.out
 have hN20b:n8+pn≤n20:=Nat.le_of_eq hn20.out.symm
 have HO:=Lib.hid O20
 clear O20 hn20
 clear HRL
 go_wp2_with (with_reducible refine stopAt (o:=⟨some 106,_,_,_,_,_⟩) ?_)
 refine Stop.go (wp_appZ rfl _ _ 22 3 5 rfl Try.underlying22 Try.underlying3 Try.info5 bs A20 n20 c20 l20 rfl HO.out pd rfl (by omega) (by omega) ?_)
 intro A21 n21 c21 l21 w21 hn21 hl21 O21 K21
 have HB':=Lib.hid (K21.heap HB.out (by intro hx; have:=(HO.out.base _ hx).1; omega))
 have HK':=Lib.hid (HK.out.then K21 (fun t ht=>.inr (by have:=(HO.out.base t ht).1; omega)))
 have hbsz':bs≤_:=Nat.le_trans hbsz K21.size
 clear f_0 f_1 f_2 f_3 f_4 f_5 f_6 f_7 f_8 f_9 f_10 f_11 hltB hltB1 HB HK hbsz
 have HB:=HB'
 have HK:=HK'
 have hbsz:=hbsz'
 clear HB' HK' hbsz'
 obtain ⟨f_0,f_1,f_2,f_3,f_4,f_5,f_6,f_7,f_8,f_9,f_10,f_11,hltB,hltB1⟩:=cells12 HB.out
 clear HO K21
 have hc21:=O21.cap.1
 have HO:=Lib.hid O21
 clear O21 hn21
 have e:l21=[byteOf pd]++(l)++List.replicate pd 0:=by rw [hl21.out,hl20.out,hl8.out]; simp
 have HE:=Lib.hid e
 clear e
 have hl:=HBD.out
 have HL:=Lib.hid hl
 clear hl
 go_wp2
 go_ret
 exact ⟨_,_,_,rfl,by rw [HL.out]; rw [← HE.out]; exact HO.out.rd,HK.out⟩
theorem rbody2_f (f:Fr) (l:List UInt8) (ss:List (Int × Int)) (w0:World) (ok:WrOk w0 f l ss) (hty:f.ty=2) (hgd:goodW (f.p l ss)=true) (ho:f.only=false) :
  Calls Try.prog 149 #[.agg #[.int .i64 f.ty,.int .i64 f.fl,.int .i64 f.st,.slice f.pA f.pn f.pc,.int .i64 f.pad,.int .u32 f.code,.int .i64 f.last,.int .i64 f.inc,.int .i64 f.dep,.bool f.only,.int .i64 f.wt,.slice f.sA f.sn f.sc]] w0 (RdP (bodyW (f.p l ss)) w0):=by
 obtain ⟨hkn,⟨hfl0,hfl1⟩,hst,hri,hmy,hpo,hpr⟩:=goodW_of hgd
 obtain ⟨hrd,hpn,hcode,hsd,hsn⟩:=ok
 obtain ⟨ty,fl,st,pA,pn,pc,pad,code,last,inc,dep,only,wt,sA,sn,sc⟩:=f
 dsimp only [Fr.p] at *
 subst hty
 subst ho
 have HRD:=Lib.hid hrd
 have HSD:=Lib.hid hsd
 clear hgd hkn hst hri hrd hsd
 obtain ⟨hdb,hw0,hw1⟩:idB dep=true∧1≤wt∧wt≤256:=by simp [prioOk,prioB] at hpr; exact ⟨hpr.1.1,hpr.1.2,hpr.2⟩
 have HPRI:=Lib.hid (show prioB 2 fl=true by simp [prioB])
 clear hmy hpo hpr
 obtain ⟨hde0,hde1⟩:=idB_of hdb
 obtain ⟨dn,rfl⟩:=Int.eq_ofNat_of_zero_le hde0
 have HDN2:=Lib.hid (show dn < 2147483648 by omega)
 clear hde1 hdb
 obtain ⟨vn,hv⟩:∃ v:Nat,v=dn+0:=⟨_,rfl⟩
 have HV:=Lib.hid hv
 clear hv
 have HPW:=Lib.hid (show prioW ((⟨2,fl,st,l,pad,code,last,inc,(dn:Int),false,wt,ss⟩:Fp))=bytesOf vn 4++[byteOf (wt - 1)] from prioW_f _ vn rfl HV.out)
 have HBD:=Lib.hid (show bodyW ((⟨2,fl,st,l,pad,code,last,inc,(dn:Int),false,wt,ss⟩:Fp))=(bytesOf vn 4++[byteOf (wt - 1)])++([]) by
  unfold bodyW
  rw [HPW.out]
  simp [Fr.p,padF,paddedB,prioB,putW])
 obtain ⟨BB,hBB⟩:∃ B,bodyW ((⟨2,fl,st,l,pad,code,last,inc,(dn:Int),false,wt,ss⟩:Fp))=B:=⟨_,rfl⟩
 rw [show bodyW _=BB from hBB]
 rw [hBB] at HBD
 clear hBB
 go_enter Try.func149,Try.ntmps149
 go_wp2_with fail
 have K0:Kp [] w0 (w0.alloc (.cells #[.int .i64 2,.int .i64 fl,.int .i64 st,.slice pA pn pc,.int .i64 pad,.int .u32 code,.int .i64 last,.int .i64 inc,.int .i64 (dn:Int),.bool false,.int .i64 wt,.slice sA sn sc] 49)):=(Kp.refl _ _).alloc _
 have HB:=Lib.hid (hp_new w0 (.cells #[.int .i64 2,.int .i64 fl,.int .i64 st,.slice pA pn pc,.int .i64 pad,.int .u32 code,.int .i64 last,.int .i64 inc,.int .i64 (dn:Int),.bool false,.int .i64 wt,.slice sA sn sc] 49) _ rfl)
 have HK:=Lib.hid K0
 generalize hW:w0.alloc (.cells #[.int .i64 2,.int .i64 fl,.int .i64 st,.slice pA pn pc,.int .i64 pad,.int .u32 code,.int .i64 last,.int .i64 inc,.int .i64 (dn:Int),.bool false,.int .i64 wt,.slice sA sn sc] 49)=w1 at *
 clear hW
 have hs1:=K0.size
 clear K0
 obtain ⟨bs,hbs⟩:∃ bs,w1.heap.size=bs:=⟨_,rfl⟩
 have hbsz:bs≤w1.heap.size:=by omega
 have hBb:w0.heap.size < bs:=by have:=lt_of_heap HB.out; omega
 clear hbs
 obtain ⟨f_0,f_1,f_2,f_3,f_4,f_5,f_6,f_7,f_8,f_9,f_10,f_11,hltB,hltB1⟩:=cells12 HB.out
 refine (rpad2 _).mono ?_
 rintro e w1 ⟨rfl,rfl⟩
 go_wp2_with fail
 refine (rprio2 fl _ hfl0 hfl1).mono ?_
 rintro e w1 ⟨rfl,rfl⟩
 rw [HPRI.out]
 go_wp2_with fail
 refine (rprif 2 fl st pA pn pc pad code last inc dn wt sA sn sc _ HDN2 hw0 hw1 vn HV).mono ?_
 rintro e w12 ⟨Aq,nq,cq,rfl,Oq,K12⟩
 have hnq:nq=5:=by have:=Oq.len; simp [bytesOf_length] at this; omega
 subst hnq
 have HRQ:=Lib.hid Oq.rd
 clear Oq
 have hbsz':bs≤_:=Nat.le_trans hbsz K12.size
 clear hbsz
 have hbsz:=hbsz'
 clear hbsz'
 have HB':=Lib.hid (K12.heap HB.out (by simp))
 have HK':=Lib.hid (HK.out.trans K12)
 clear f_0 f_1 f_2 f_3 f_4 f_5 f_6 f_7 f_8 f_9 f_10 f_11 hltB hltB1 HB HK K12
 have HB:=HB'
 have HK:=HK'
 clear HB' HK'
 obtain ⟨f_0,f_1,f_2,f_3,f_4,f_5,f_6,f_7,f_8,f_9,f_10,f_11,hltB,hltB1⟩:=cells12 HB.out
 go_wp2_with (with_reducible refine stopAt (o:=⟨some 31,_,_,_,_,_⟩) ?_)
 refine Stop.go (wp_appB rfl _ _ 22 5 rfl Try.underlying22 Try.info5 bs none 0 0 [] rfl (Ow.nil _ _ _ _) Aq 5 cq (bytesOf vn 4++[byteOf (wt - 1)]) rfl HRQ.out (by omega) (by omega) ?_)
 intro A13 n13 c13 l13 w13 hn13 hl13 O13 K13 hA13
 clear hA13
 have K13':Kp [] _ w13:=K13.mono (by simp [ob])
 clear K13
 have hbsz':bs≤_:=Nat.le_trans hbsz K13'.size
 clear hbsz
 have hbsz:=hbsz'
 clear hbsz'
 have HB':=Lib.hid (K13'.heap HB.out (by simp))
 have HK':=Lib.hid (HK.out.trans K13')
 clear f_0 f_1 f_2 f_3 f_4 f_5 f_6 f_7 f_8 f_9 f_10 f_11 hltB hltB1 HB HK K13'
 have HB:=HB'
 have HK:=HK'
 clear HB' HK'
 obtain ⟨f_0,f_1,f_2,f_3,f_4,f_5,f_6,f_7,f_8,f_9,f_10,f_11,hltB,hltB1⟩:=cells12 HB.out
 have hc13:=O13.cap.1
 have hN13a:n13≤0+5:=Nat.le_of_eq hn13.out
 have hN13b:0+5≤n13:=Nat.le_of_eq hn13.out.symm
 have HO:=Lib.hid O13
 clear O13 hn13
 clear HRQ
 have e:l13=(bytesOf vn 4++[byteOf (wt - 1)])++([]):=by rw [hl13.out]; simp
 have HE:=Lib.hid e
 clear e
 have hl:=HBD.out
 have HL:=Lib.hid hl
 clear hl
 go_wp2
 go_ret
 exact ⟨_,_,_,rfl,by rw [HL.out]; rw [← HE.out]; exact HO.out.rd,HK.out⟩
theorem rbody2_t (f:Fr) (l:List UInt8) (ss:List (Int × Int)) (w0:World) (ok:WrOk w0 f l ss) (hty:f.ty=2) (hgd:goodW (f.p l ss)=true) (ho:f.only=true) :
  Calls Try.prog 149 #[.agg #[.int .i64 f.ty,.int .i64 f.fl,.int .i64 f.st,.slice f.pA f.pn f.pc,.int .i64 f.pad,.int .u32 f.code,.int .i64 f.last,.int .i64 f.inc,.int .i64 f.dep,.bool f.only,.int .i64 f.wt,.slice f.sA f.sn f.sc]] w0 (RdP (bodyW (f.p l ss)) w0):=by
 obtain ⟨hkn,⟨hfl0,hfl1⟩,hst,hri,hmy,hpo,hpr⟩:=goodW_of hgd
 obtain ⟨hrd,hpn,hcode,hsd,hsn⟩:=ok
 obtain ⟨ty,fl,st,pA,pn,pc,pad,code,last,inc,dep,only,wt,sA,sn,sc⟩:=f
 dsimp only [Fr.p] at *
 subst hty
 subst ho
 have HRD:=Lib.hid hrd
 have HSD:=Lib.hid hsd
 clear hgd hkn hst hri hrd hsd
 obtain ⟨hdb,hw0,hw1⟩:idB dep=true∧1≤wt∧wt≤256:=by simp [prioOk,prioB] at hpr; exact ⟨hpr.1.1,hpr.1.2,hpr.2⟩
 have HPRI:=Lib.hid (show prioB 2 fl=true by simp [prioB])
 clear hmy hpo hpr
 obtain ⟨hde0,hde1⟩:=idB_of hdb
 obtain ⟨dn,rfl⟩:=Int.eq_ofNat_of_zero_le hde0
 have HDN2:=Lib.hid (show dn < 2147483648 by omega)
 clear hde1 hdb
 obtain ⟨vn,hv⟩:∃ v:Nat,v=dn+2147483648:=⟨_,rfl⟩
 have HV:=Lib.hid hv
 clear hv
 have HPW:=Lib.hid (show prioW ((⟨2,fl,st,l,pad,code,last,inc,(dn:Int),true,wt,ss⟩:Fp))=bytesOf vn 4++[byteOf (wt - 1)] from prioW_t _ vn rfl HV.out)
 have HBD:=Lib.hid (show bodyW ((⟨2,fl,st,l,pad,code,last,inc,(dn:Int),true,wt,ss⟩:Fp))=(bytesOf vn 4++[byteOf (wt - 1)])++([]) by
  unfold bodyW
  rw [HPW.out]
  simp [Fr.p,padF,paddedB,prioB,putW])
 obtain ⟨BB,hBB⟩:∃ B,bodyW ((⟨2,fl,st,l,pad,code,last,inc,(dn:Int),true,wt,ss⟩:Fp))=B:=⟨_,rfl⟩
 rw [show bodyW _=BB from hBB]
 rw [hBB] at HBD
 clear hBB
 go_enter Try.func149,Try.ntmps149
 go_wp2_with fail
 have K0:Kp [] w0 (w0.alloc (.cells #[.int .i64 2,.int .i64 fl,.int .i64 st,.slice pA pn pc,.int .i64 pad,.int .u32 code,.int .i64 last,.int .i64 inc,.int .i64 (dn:Int),.bool true,.int .i64 wt,.slice sA sn sc] 49)):=(Kp.refl _ _).alloc _
 have HB:=Lib.hid (hp_new w0 (.cells #[.int .i64 2,.int .i64 fl,.int .i64 st,.slice pA pn pc,.int .i64 pad,.int .u32 code,.int .i64 last,.int .i64 inc,.int .i64 (dn:Int),.bool true,.int .i64 wt,.slice sA sn sc] 49) _ rfl)
 have HK:=Lib.hid K0
 generalize hW:w0.alloc (.cells #[.int .i64 2,.int .i64 fl,.int .i64 st,.slice pA pn pc,.int .i64 pad,.int .u32 code,.int .i64 last,.int .i64 inc,.int .i64 (dn:Int),.bool true,.int .i64 wt,.slice sA sn sc] 49)=w1 at *
 clear hW
 have hs1:=K0.size
 clear K0
 obtain ⟨bs,hbs⟩:∃ bs,w1.heap.size=bs:=⟨_,rfl⟩
 have hbsz:bs≤w1.heap.size:=by omega
 have hBb:w0.heap.size < bs:=by have:=lt_of_heap HB.out; omega
 clear hbs
 obtain ⟨f_0,f_1,f_2,f_3,f_4,f_5,f_6,f_7,f_8,f_9,f_10,f_11,hltB,hltB1⟩:=cells12 HB.out
 refine (rpad2 _).mono ?_
 rintro e w1 ⟨rfl,rfl⟩
 go_wp2_with fail
 refine (rprio2 fl _ hfl0 hfl1).mono ?_
 rintro e w1 ⟨rfl,rfl⟩
 rw [HPRI.out]
 go_wp2_with fail
 refine (rprit 2 fl st pA pn pc pad code last inc dn wt sA sn sc _ HDN2 hw0 hw1 vn HV).mono ?_
 rintro e w12 ⟨Aq,nq,cq,rfl,Oq,K12⟩
 have hnq:nq=5:=by have:=Oq.len; simp [bytesOf_length] at this; omega
 subst hnq
 have HRQ:=Lib.hid Oq.rd
 clear Oq
 have hbsz':bs≤_:=Nat.le_trans hbsz K12.size
 clear hbsz
 have hbsz:=hbsz'
 clear hbsz'
 have HB':=Lib.hid (K12.heap HB.out (by simp))
 have HK':=Lib.hid (HK.out.trans K12)
 clear f_0 f_1 f_2 f_3 f_4 f_5 f_6 f_7 f_8 f_9 f_10 f_11 hltB hltB1 HB HK K12
 have HB:=HB'
 have HK:=HK'
 clear HB' HK'
 obtain ⟨f_0,f_1,f_2,f_3,f_4,f_5,f_6,f_7,f_8,f_9,f_10,f_11,hltB,hltB1⟩:=cells12 HB.out
 go_wp2_with (with_reducible refine stopAt (o:=⟨some 31,_,_,_,_,_⟩) ?_)
 refine Stop.go (wp_appB rfl _ _ 22 5 rfl Try.underlying22 Try.info5 bs none 0 0 [] rfl (Ow.nil _ _ _ _) Aq 5 cq (bytesOf vn 4++[byteOf (wt - 1)]) rfl HRQ.out (by omega) (by omega) ?_)
 intro A13 n13 c13 l13 w13 hn13 hl13 O13 K13 hA13
 clear hA13
 have K13':Kp [] _ w13:=K13.mono (by simp [ob])
 clear K13
 have hbsz':bs≤_:=Nat.le_trans hbsz K13'.size
 clear hbsz
 have hbsz:=hbsz'
 clear hbsz'
 have HB':=Lib.hid (K13'.heap HB.out (by simp))
 have HK':=Lib.hid (HK.out.trans K13')
 clear f_0 f_1 f_2 f_3 f_4 f_5 f_6 f_7 f_8 f_9 f_10 f_11 hltB hltB1 HB HK K13'
 have HB:=HB'
 have HK:=HK'
 clear HB' HK'
 obtain ⟨f_0,f_1,f_2,f_3,f_4,f_5,f_6,f_7,f_8,f_9,f_10,f_11,hltB,hltB1⟩:=cells12 HB.out
 have hc13:=O13.cap.1
 have hN13a:n13≤0+5:=Nat.le_of_eq hn13.out
 have hN13b:0+5≤n13:=Nat.le_of_eq hn13.out.symm
 have HO:=Lib.hid O13
 clear O13 hn13
 clear HRQ
 have e:l13=(bytesOf vn 4++[byteOf (wt - 1)])++([]):=by rw [hl13.out]; simp
 have HE:=Lib.hid e
 clear e
 have hl:=HBD.out
 have HL:=Lib.hid hl
 clear hl
 go_wp2
 go_ret
 exact ⟨_,_,_,rfl,by rw [HL.out]; rw [← HE.out]; exact HO.out.rd,HK.out⟩
end Go.Proofs.Ytkmcakneceagpaa

namespace Go.Proofs.Ytkmcakneceagpaa
open Go.RowKit
theorem rbody1ft_f (f:Fr) (l:List UInt8) (ss:List (Int × Int)) (w0:World) (ok:WrOk w0 f l ss) (hty:f.ty=1) (hgd:goodW (f.p l ss)=true) (h8:hasB f.fl 8=false) (h32:hasB f.fl 32=true) (ho:f.only=false) :
  Calls Try.prog 149 #[.agg #[.int .i64 f.ty,.int .i64 f.fl,.int .i64 f.st,.slice f.pA f.pn f.pc,.int .i64 f.pad,.int .u32 f.code,.int .i64 f.last,.int .i64 f.inc,.int .i64 f.dep,.bool f.only,.int .i64 f.wt,.slice f.sA f.sn f.sc]] w0 (RdP (bodyW (f.p l ss)) w0):=by
 obtain ⟨hkn,⟨hfl0,hfl1⟩,hst,hri,hmy,hpo,hpr⟩:=goodW_of hgd
 obtain ⟨hrd,hpn,hcode,hsd,hsn⟩:=ok
 obtain ⟨ty,fl,st,pA,pn,pc,pad,code,last,inc,dep,only,wt,sA,sn,sc⟩:=f
 dsimp only [Fr.p] at *
 subst hty
 subst ho
 have HRD:=Lib.hid hrd
 have HSD:=Lib.hid hsd
 clear hgd hkn hst hri hrd hsd
 obtain ⟨hpad0,hpad1⟩:0≤pad∧pad≤255:=by simp [padOk,paddedB] at hpo; omega
 have H8:=Lib.hid h8
 clear h8
 obtain ⟨hdb,hw0,hw1⟩:idB dep=true∧1≤wt∧wt≤256:=by simp [prioOk,prioB,h32] at hpr; exact ⟨hpr.1.1,hpr.1.2,hpr.2⟩
 have HPRI:=Lib.hid (show prioB 1 fl=true by simp [prioB,h32])
 clear h32
 clear hmy hpo hpr
 obtain ⟨hde0,hde1⟩:=idB_of hdb
 obtain ⟨dn,rfl⟩:=Int.eq_ofNat_of_zero_le hde0
 have HDN2:=Lib.hid (show dn < 2147483648 by omega)
 clear hde1 hdb
 obtain ⟨vn,hv⟩:∃ v:Nat,v=dn+0:=⟨_,rfl⟩
 have HV:=Lib.hid hv
 clear hv
 have HPW:=Lib.hid (show prioW ((⟨1,fl,st,l,pad,code,last,inc,(dn:Int),false,wt,ss⟩:Fp))=bytesOf vn 4++[byteOf (wt - 1)] from prioW_f _ vn rfl HV.out)
 have HBD:=Lib.hid (show bodyW ((⟨1,fl,st,l,pad,code,last,inc,(dn:Int),false,wt,ss⟩:Fp))=(bytesOf vn 4++[byteOf (wt - 1)])++(l) by
  unfold bodyW
  rw [HPW.out]
  simp [Fr.p,padF,paddedB,prioB,putW,H8.out,(show hasB fl 32=true by have:=HPRI.out; simpa [prioB] using this)])
 obtain ⟨BB,hBB⟩:∃ B,bodyW ((⟨1,fl,st,l,pad,code,last,inc,(dn:Int),false,wt,ss⟩:Fp))=B:=⟨_,rfl⟩
 rw [show bodyW _=BB from hBB]
 rw [hBB] at HBD
 clear hBB
 go_enter Try.func149,Try.ntmps149
 go_wp2_with fail
 have K0:Kp [] w0 (w0.alloc (.cells #[.int .i64 1,.int .i64 fl,.int .i64 st,.slice pA pn pc,.int .i64 pad,.int .u32 code,.int .i64 last,.int .i64 inc,.int .i64 (dn:Int),.bool false,.int .i64 wt,.slice sA sn sc] 49)):=(Kp.refl _ _).alloc _
 have HB:=Lib.hid (hp_new w0 (.cells #[.int .i64 1,.int .i64 fl,.int .i64 st,.slice pA pn pc,.int .i64 pad,.int .u32 code,.int .i64 last,.int .i64 inc,.int .i64 (dn:Int),.bool false,.int .i64 wt,.slice sA sn sc] 49) _ rfl)
 have HK:=Lib.hid K0
 generalize hW:w0.alloc (.cells #[.int .i64 1,.int .i64 fl,.int .i64 st,.slice pA pn pc,.int .i64 pad,.int .u32 code,.int .i64 last,.int .i64 inc,.int .i64 (dn:Int),.bool false,.int .i64 wt,.slice sA sn sc] 49)=w1 at *
 clear hW
 have hs1:=K0.size
 clear K0
 obtain ⟨bs,hbs⟩:∃ bs,w1.heap.size=bs:=⟨_,rfl⟩
 have hbsz:bs≤w1.heap.size:=by omega
 have hBb:w0.heap.size < bs:=by have:=lt_of_heap HB.out; omega
 clear hbs
 obtain ⟨f_0,f_1,f_2,f_3,f_4,f_5,f_6,f_7,f_8,f_9,f_10,f_11,hltB,hltB1⟩:=cells12 HB.out
 refine (rpad1 _).mono ?_
 rintro e w1 ⟨rfl,rfl⟩
 go_wp2_with fail
 refine (hasF fl 8 _ hfl0 hfl1 (by omega) (by omega)).mono ?_
 rintro e w1 ⟨rfl,rfl⟩
 rw [H8.out]
 go_wp2_with fail
 refine (rprio1 fl _ hfl0 hfl1).mono ?_
 rintro e w1 ⟨rfl,rfl⟩
 rw [HPRI.out]
 go_wp2_with fail
 refine (rprif 1 fl st pA pn pc pad code last inc dn wt sA sn sc _ HDN2 hw0 hw1 vn HV).mono ?_
 rintro e w12 ⟨Aq,nq,cq,rfl,Oq,K12⟩
 have hnq:nq=5:=by have:=Oq.len; simp [bytesOf_length] at this; omega
 subst hnq
 have HRQ:=Lib.hid Oq.rd
 clear Oq
 have hbsz':bs≤_:=Nat.le_trans hbsz K12.size
 clear hbsz
 have hbsz:=hbsz'
 clear hbsz'
 have HB':=Lib.hid (K12.heap HB.out (by simp))
 have HK':=Lib.hid (HK.out.trans K12)
 clear f_0 f_1 f_2 f_3 f_4 f_5 f_6 f_7 f_8 f_9 f_10 f_11 hltB hltB1 HB HK K12
 have HB:=HB'
 have HK:=HK'
 clear HB' HK'
 obtain ⟨f_0,f_1,f_2,f_3,f_4,f_5,f_6,f_7,f_8,f_9,f_10,f_11,hltB,hltB1⟩:=cells12 HB.out
 go_wp2_with (with_reducible refine stopAt (o:=⟨some 31,_,_,_,_,_⟩) ?_)
 refine Stop.go (wp_appB rfl _ _ 22 5 rfl Try.underlying22 Try.info5 bs none 0 0 [] rfl (Ow.nil _ _ _ _) Aq 5 cq (bytesOf vn 4++[byteOf (wt - 1)]) rfl HRQ.out (by omega) (by omega) ?_)
 intro A13 n13 c13 l13 w13 hn13 hl13 O13 K13 hA13
 clear hA13
 have K13':Kp [] _ w13:=K13.mono (by simp [ob])
 clear K13
 have hbsz':bs≤_:=Nat.le_trans hbsz K13'.size
 clear hbsz
 have hbsz:=hbsz'
 clear hbsz'
 have HB':=Lib.hid (K13'.heap HB.out (by simp))
 have HK':=Lib.hid (HK.out.trans K13')
 clear f_0 f_1 f_2 f_3 f_4 f_5 f_6 f_7 f_8 f_9 f_10 f_11 hltB hltB1 HB HK K13'
 have HB:=HB'
 have HK:=HK'
 clear HB' HK'
 obtain ⟨f_0,f_1,f_2,f_3,f_4,f_5,f_6,f_7,f_8,f_9,f_10,f_11,hltB,hltB1⟩:=cells12 HB.out
 have hc13:=O13.cap.1
 have hN13a:n13≤0+5:=Nat.le_of_eq hn13.out
 have hN13b:0+5≤n13:=Nat.le_of_eq hn13.out.symm
 have HO:=Lib.hid O13
 clear O13 hn13
 clear HRQ
 have HRL:=Lib.hid (HRD.out.keep HK.out (by simp))
 go_wp2_with (with_reducible refine stopAt (o:=⟨some 101,_,_,_,_,_⟩) ?_)
 refine Stop.go (wp_appB rfl _ _ 22 5 rfl Try.underlying22 Try.info5 bs A13 n13 c13 l13 rfl HO.out pA pn pc l rfl HRL.out (by omega) (by omega) ?_)
 intro A20 n20 c20 l20 w20 hn20 hl20 O20 K20 hA20
 clear hA20
 have HB':=Lib.hid (K20.heap HB.out (by intro hx; have:=(HO.out.base _ hx).1; omega))
 have HK':=Lib.hid (HK.out.then K20 (fun t ht=>.inr (by have:=(HO.out.base t ht).1; omega)))
 have hbsz':bs≤_:=Nat.le_trans hbsz K20.size
 clear f_0 f_1 f_2 f_3 f_4 f_5 f_6 f_7 f_8 f_9 f_10 f_11 hltB hltB1 HB HK hbsz
 have HB:=HB'
 have HK:=HK'
 have hbsz:=hbsz'
 clear HB' HK' hbsz'
 obtain ⟨f_0,f_1,f_2,f_3,f_4,f_5,f_6,f_7,f_8,f_9,f_10,f_11,hltB,hltB1⟩:=cells12 HB.out
 clear HO K20
 have hc20:=O20.cap.1
 have hN20a:n20≤n13+pn:=Nat.le_of_eq hn20.out
 have hN20b:n13+pn≤n20:=Nat.le_of_eq hn20.out.symm
 have HO:=Lib.hid O20
 clear O20 hn20
 clear HRL
 have e:l20=(bytesOf vn 4++[byteOf (wt - 1)])++(l):=by rw [hl20.out,hl13.out]; simp
 have HE:=Lib.hid e
 clear e
 have hl:=HBD.out
 have HL:=Lib.hid hl
 clear hl
 go_wp2
 go_ret
 exact ⟨_,_,_,rfl,by rw [HL.out]; rw [← HE.out]; exact HO.out.rd,HK.out⟩
theorem rbody1ft_t (f:Fr) (l:List UInt8) (ss:List (Int × Int)) (w0:World) (ok:WrOk w0 f l ss) (hty:f.ty=1) (hgd:goodW (f.p l ss)=true) (h8:hasB f.fl 8=false) (h32:hasB f.fl 32=true) (ho:f.only=true) :
  Calls Try.prog 149 #[.agg #[.int .i64 f.ty,.int .i64 f.fl,.int .i64 f.st,.slice f.pA f.pn f.pc,.int .i64 f.pad,.int .u32 f.code,.int .i64 f.last,.int .i64 f.inc,.int .i64 f.dep,.bool f.only,.int .i64 f.wt,.slice f.sA f.sn f.sc]] w0 (RdP (bodyW (f.p l ss)) w0):=by
 obtain ⟨hkn,⟨hfl0,hfl1⟩,hst,hri,hmy,hpo,hpr⟩:=goodW_of hgd
 obtain ⟨hrd,hpn,hcode,hsd,hsn⟩:=ok
 obtain ⟨ty,fl,st,pA,pn,pc,pad,code,last,inc,dep,only,wt,sA,sn,sc⟩:=f
 dsimp only [Fr.p] at *
 subst hty
 subst ho
 have HRD:=Lib.hid hrd
 have HSD:=Lib.hid hsd
 clear hgd hkn hst hri hrd hsd
 obtain ⟨hpad0,hpad1⟩:0≤pad∧pad≤255:=by simp [padOk,paddedB] at hpo; omega
 have H8:=Lib.hid h8
 clear h8
 obtain ⟨hdb,hw0,hw1⟩:idB dep=true∧1≤wt∧wt≤256:=by simp [prioOk,prioB,h32] at hpr; exact ⟨hpr.1.1,hpr.1.2,hpr.2⟩
 have HPRI:=Lib.hid (show prioB 1 fl=true by simp [prioB,h32])
 clear h32
 clear hmy hpo hpr
 obtain ⟨hde0,hde1⟩:=idB_of hdb
 obtain ⟨dn,rfl⟩:=Int.eq_ofNat_of_zero_le hde0
 have HDN2:=Lib.hid (show dn < 2147483648 by omega)
 clear hde1 hdb
 obtain ⟨vn,hv⟩:∃ v:Nat,v=dn+2147483648:=⟨_,rfl⟩
 have HV:=Lib.hid hv
 clear hv
 have HPW:=Lib.hid (show prioW ((⟨1,fl,st,l,pad,code,last,inc,(dn:Int),true,wt,ss⟩:Fp))=bytesOf vn 4++[byteOf (wt - 1)] from prioW_t _ vn rfl HV.out)
 have HBD:=Lib.hid (show bodyW ((⟨1,fl,st,l,pad,code,last,inc,(dn:Int),true,wt,ss⟩:Fp))=(bytesOf vn 4++[byteOf (wt - 1)])++(l) by
  unfold bodyW
  rw [HPW.out]
  simp [Fr.p,padF,paddedB,prioB,putW,H8.out,(show hasB fl 32=true by have:=HPRI.out; simpa [prioB] using this)])
 obtain ⟨BB,hBB⟩:∃ B,bodyW ((⟨1,fl,st,l,pad,code,last,inc,(dn:Int),true,wt,ss⟩:Fp))=B:=⟨_,rfl⟩
 rw [show bodyW _=BB from hBB]
 rw [hBB] at HBD
 clear hBB
 go_enter Try.func149,Try.ntmps149
 go_wp2_with fail
 have K0:Kp [] w0 (w0.alloc (.cells #[.int .i64 1,.int .i64 fl,.int .i64 st,.slice pA pn pc,.int .i64 pad,.int .u32 code,.int .i64 last,.int .i64 inc,.int .i64 (dn:Int),.bool true,.int .i64 wt,.slice sA sn sc] 49)):=(Kp.refl _ _).alloc _
 have HB:=Lib.hid (hp_new w0 (.cells #[.int .i64 1,.int .i64 fl,.int .i64 st,.slice pA pn pc,.int .i64 pad,.int .u32 code,.int .i64 last,.int .i64 inc,.int .i64 (dn:Int),.bool true,.int .i64 wt,.slice sA sn sc] 49) _ rfl)
 have HK:=Lib.hid K0
 generalize hW:w0.alloc (.cells #[.int .i64 1,.int .i64 fl,.int .i64 st,.slice pA pn pc,.int .i64 pad,.int .u32 code,.int .i64 last,.int .i64 inc,.int .i64 (dn:Int),.bool true,.int .i64 wt,.slice sA sn sc] 49)=w1 at *
 clear hW
 have hs1:=K0.size
 clear K0
 obtain ⟨bs,hbs⟩:∃ bs,w1.heap.size=bs:=⟨_,rfl⟩
 have hbsz:bs≤w1.heap.size:=by omega
 have hBb:w0.heap.size < bs:=by have:=lt_of_heap HB.out; omega
 clear hbs
 obtain ⟨f_0,f_1,f_2,f_3,f_4,f_5,f_6,f_7,f_8,f_9,f_10,f_11,hltB,hltB1⟩:=cells12 HB.out
 refine (rpad1 _).mono ?_
 rintro e w1 ⟨rfl,rfl⟩
 go_wp2_with fail
 refine (hasF fl 8 _ hfl0 hfl1 (by omega) (by omega)).mono ?_
 rintro e w1 ⟨rfl,rfl⟩
 rw [H8.out]
 go_wp2_with fail
 refine (rprio1 fl _ hfl0 hfl1).mono ?_
 rintro e w1 ⟨rfl,rfl⟩
 rw [HPRI.out]
 go_wp2_with fail
 refine (rprit 1 fl st pA pn pc pad code last inc dn wt sA sn sc _ HDN2 hw0 hw1 vn HV).mono ?_
 rintro e w12 ⟨Aq,nq,cq,rfl,Oq,K12⟩
 have hnq:nq=5:=by have:=Oq.len; simp [bytesOf_length] at this; omega
 subst hnq
 have HRQ:=Lib.hid Oq.rd
 clear Oq
 have hbsz':bs≤_:=Nat.le_trans hbsz K12.size
 clear hbsz
 have hbsz:=hbsz'
 clear hbsz'
 have HB':=Lib.hid (K12.heap HB.out (by simp))
 have HK':=Lib.hid (HK.out.trans K12)
 clear f_0 f_1 f_2 f_3 f_4 f_5 f_6 f_7 f_8 f_9 f_10 f_11 hltB hltB1 HB HK K12
 have HB:=HB'
 have HK:=HK'
 clear HB' HK'
 obtain ⟨f_0,f_1,f_2,f_3,f_4,f_5,f_6,f_7,f_8,f_9,f_10,f_11,hltB,hltB1⟩:=cells12 HB.out
 go_wp2_with (with_reducible refine stopAt (o:=⟨some 31,_,_,_,_,_⟩) ?_)
 refine Stop.go (wp_appB rfl _ _ 22 5 rfl Try.underlying22 Try.info5 bs none 0 0 [] rfl (Ow.nil _ _ _ _) Aq 5 cq (bytesOf vn 4++[byteOf (wt - 1)]) rfl HRQ.out (by omega) (by omega) ?_)
 intro A13 n13 c13 l13 w13 hn13 hl13 O13 K13 hA13
 clear hA13
 have K13':Kp [] _ w13:=K13.mono (by simp [ob])
 clear K13
 have hbsz':bs≤_:=Nat.le_trans hbsz K13'.size
 clear hbsz
 have hbsz:=hbsz'
 clear hbsz'
 have HB':=Lib.hid (K13'.heap HB.out (by simp))
 have HK':=Lib.hid (HK.out.trans K13')
 clear f_0 f_1 f_2 f_3 f_4 f_5 f_6 f_7 f_8 f_9 f_10 f_11 hltB hltB1 HB HK K13'
 have HB:=HB'
 have HK:=HK'
 clear HB' HK'
 obtain ⟨f_0,f_1,f_2,f_3,f_4,f_5,f_6,f_7,f_8,f_9,f_10,f_11,hltB,hltB1⟩:=cells12 HB.out
 have hc13:=O13.cap.1
 have hN13a:n13≤0+5:=Nat.le_of_eq hn13.out
 have hN13b:0+5≤n13:=Nat.le_of_eq hn13.out.symm
 have HO:=Lib.hid O13
 clear O13 hn13
 clear HRQ
 have HRL:=Lib.hid (HRD.out.keep HK.out (by simp))
 go_wp2_with (with_reducible refine stopAt (o:=⟨some 101,_,_,_,_,_⟩) ?_)
 refine Stop.go (wp_appB rfl _ _ 22 5 rfl Try.underlying22 Try.info5 bs A13 n13 c13 l13 rfl HO.out pA pn pc l rfl HRL.out (by omega) (by omega) ?_)
 intro A20 n20 c20 l20 w20 hn20 hl20 O20 K20 hA20
 clear hA20
 have HB':=Lib.hid (K20.heap HB.out (by intro hx; have:=(HO.out.base _ hx).1; omega))
 have HK':=Lib.hid (HK.out.then K20 (fun t ht=>.inr (by have:=(HO.out.base t ht).1; omega)))
 have hbsz':bs≤_:=Nat.le_trans hbsz K20.size
 clear f_0 f_1 f_2 f_3 f_4 f_5 f_6 f_7 f_8 f_9 f_10 f_11 hltB hltB1 HB HK hbsz
 have HB:=HB'
 have HK:=HK'
 have hbsz:=hbsz'
 clear HB' HK' hbsz'
 obtain ⟨f_0,f_1,f_2,f_3,f_4,f_5,f_6,f_7,f_8,f_9,f_10,f_11,hltB,hltB1⟩:=cells12 HB.out
 clear HO K20
 have hc20:=O20.cap.1
 have hN20a:n20≤n13+pn:=Nat.le_of_eq hn20.out
 have hN20b:n13+pn≤n20:=Nat.le_of_eq hn20.out.symm
 have HO:=Lib.hid O20
 clear O20 hn20
 clear HRL
 have e:l20=(bytesOf vn 4++[byteOf (wt - 1)])++(l):=by rw [hl20.out,hl13.out]; simp
 have HE:=Lib.hid e
 clear e
 have hl:=HBD.out
 have HL:=Lib.hid hl
 clear hl
 go_wp2
 go_ret
 exact ⟨_,_,_,rfl,by rw [HL.out]; rw [← HE.out]; exact HO.out.rd,HK.out⟩
theorem rbody1tt_f (f:Fr) (l:List UInt8) (ss:List (Int × Int)) (w0:World) (ok:WrOk w0 f l ss) (hty:f.ty=1) (hgd:goodW (f.p l ss)=true) (h8:hasB f.fl 8=true) (h32:hasB f.fl 32=true) (ho:f.only=false) :
  Calls Try.prog 149 #[.agg #[.int .i64 f.ty,.int .i64 f.fl,.int .i64 f.st,.slice f.pA f.pn f.pc,.int .i64 f.pad,.int .u32 f.code,.int .i64 f.last,.int .i64 f.inc,.int .i64 f.dep,.bool f.only,.int .i64 f.wt,.slice f.sA f.sn f.sc]] w0 (RdP (bodyW (f.p l ss)) w0):=by
 obtain ⟨hkn,⟨hfl0,hfl1⟩,hst,hri,hmy,hpo,hpr⟩:=goodW_of hgd
 obtain ⟨hrd,hpn,hcode,hsd,hsn⟩:=ok
 obtain ⟨ty,fl,st,pA,pn,pc,pad,code,last,inc,dep,only,wt,sA,sn,sc⟩:=f
 dsimp only [Fr.p] at *
 subst hty
 subst ho
 have HRD:=Lib.hid hrd
 have HSD:=Lib.hid hsd
 clear hgd hkn hst hri hrd hsd
 obtain ⟨hpad0,hpad1⟩:0≤pad∧pad≤255:=by simp [padOk,paddedB] at hpo; omega
 have H8:=Lib.hid h8
 clear h8
 obtain ⟨hdb,hw0,hw1⟩:idB dep=true∧1≤wt∧wt≤256:=by simp [prioOk,prioB,h32] at hpr; exact ⟨hpr.1.1,hpr.1.2,hpr.2⟩
 have HPRI:=Lib.hid (show prioB 1 fl=true by simp [prioB,h32])
 clear h32
 clear hmy hpo hpr
 obtain ⟨pd,rfl⟩:=Int.eq_ofNat_of_zero_le hpad0
 obtain ⟨hde0,hde1⟩:=idB_of hdb
 obtain ⟨dn,rfl⟩:=Int.eq_ofNat_of_zero_le hde0
 have HDN2:=Lib.hid (show dn < 2147483648 by omega)
 clear hde1 hdb
 obtain ⟨vn,hv⟩:∃ v:Nat,v=dn+0:=⟨_,rfl⟩
 have HV:=Lib.hid hv
 clear hv
 have HPW:=Lib.hid (show prioW ((⟨1,fl,st,l,(pd:Int),code,last,inc,(dn:Int),false,wt,ss⟩:Fp))=bytesOf vn 4++[byteOf (wt - 1)] from prioW_f _ vn rfl HV.out)
 have HBD:=Lib.hid (show bodyW ((⟨1,fl,st,l,(pd:Int),code,last,inc,(dn:Int),false,wt,ss⟩:Fp))=[byteOf pd]++(bytesOf vn 4++[byteOf (wt - 1)])++(l)++List.replicate pd 0 by
  unfold bodyW
  rw [HPW.out]
  simp [Fr.p,padF,paddedB,prioB,putW,H8.out,(show hasB fl 32=true by have:=HPRI.out; simpa [prioB] using this)])
 obtain ⟨BB,hBB⟩:∃ B,bodyW ((⟨1,fl,st,l,(pd:Int),code,last,inc,(dn:Int),false,wt,ss⟩:Fp))=B:=⟨_,rfl⟩
 rw [show bodyW _=BB from hBB]
 rw [hBB] at HBD
 clear hBB
 go_enter Try.func149,Try.ntmps149
 go_wp2_with fail
 have K0:Kp [] w0 (w0.alloc (.cells #[.int .i64 1,.int .i64 fl,.int .i64 st,.slice pA pn pc,.int .i64 (pd:Int),.int .u32 code,.int .i64 last,.int .i64 inc,.int .i64 (dn:Int),.bool false,.int .i64 wt,.slice sA sn sc] 49)):=(Kp.refl _ _).alloc _
 have HB:=Lib.hid (hp_new w0 (.cells #[.int .i64 1,.int .i64 fl,.int .i64 st,.slice pA pn pc,.int .i64 (pd:Int),.int .u32 code,.int .i64 last,.int .i64 inc,.int .i64 (dn:Int),.bool false,.int .i64 wt,.slice sA sn sc] 49) _ rfl)
 have HK:=Lib.hid K0
 generalize hW:w0.alloc (.cells #[.int .i64 1,.int .i64 fl,.int .i64 st,.slice pA pn pc,.int .i64 (pd:Int),.int .u32 code,.int .i64 last,.int .i64 inc,.int .i64 (dn:Int),.bool false,.int .i64 wt,.slice sA sn sc] 49)=w1 at *
 clear hW
 have hs1:=K0.size
 clear K0
 obtain ⟨bs,hbs⟩:∃ bs,w1.heap.size=bs:=⟨_,rfl⟩
 have hbsz:bs≤w1.heap.size:=by omega
 have hBb:w0.heap.size < bs:=by have:=lt_of_heap HB.out; omega
 clear hbs
 obtain ⟨f_0,f_1,f_2,f_3,f_4,f_5,f_6,f_7,f_8,f_9,f_10,f_11,hltB,hltB1⟩:=cells12 HB.out
 refine (rpad1 _).mono ?_
 rintro e w1 ⟨rfl,rfl⟩
 go_wp2_with fail
 refine (hasF fl 8 _ hfl0 hfl1 (by omega) (by omega)).mono ?_
 rintro e w1 ⟨rfl,rfl⟩
 rw [H8.out]
 go_wp2_with (with_reducible refine stopAt (o:=⟨some 22,_,_,_,_,_⟩) ?_)
 generalize hW:World.alloc _ _=w7
 have K7:Kp [] w1 w7:=by rw [← hW]; with_reducible (repeat (first|exact Kp.refl _ _|assumption|refine Kp.alloc ?_ _|refine Kp.drew ?_|refine Kp.drewN ?_ _|(refine Kp.setL ?_ ?_ _;focus (simp;done))|(refine Kp.setR ?_ ?_ _;focus (first|(simp;done)|(simp;omega)))))
 have HN7:=Lib.hid (show w7.heap[w1.heap.size]?=some (.cells #[.int .u8 (pd:Int)] 5) by rw [← hW]; with_reducible (repeat (first|assumption|(refine hp_new _ _ _ ?_;focus (simp;done))|refine hpl ?_|(refine hpf ?_ ?_;focus (first|(simp;done)|(simp;omega)))|refine hpd ?_|refine hpe ?_)))
 clear hW
 have hbsz':bs≤_:=Nat.le_trans hbsz K7.size
 clear hbsz
 have hbsz:=hbsz'
 clear hbsz'
 have HB':=Lib.hid (K7.heap HB.out (by simp))
 have HK':=Lib.hid (HK.out.trans K7)
 clear f_0 f_1 f_2 f_3 f_4 f_5 f_6 f_7 f_8 f_9 f_10 f_11 hltB hltB1 HB HK K7
 have HB:=HB'
 have HK:=HK'
 clear HB' HK'
 obtain ⟨f_0,f_1,f_2,f_3,f_4,f_5,f_6,f_7,f_8,f_9,f_10,f_11,hltB,hltB1⟩:=cells12 HB.out
 refine Stop.go (wp_appB rfl _ _ 22 5 rfl Try.underlying22 Try.info5 bs none 0 0 [] rfl (Ow.nil _ _ _ _) (some ⟨w1.heap.size,0,none⟩) 1 1 [byteOf pd] rfl (Rd.block HN7.out 0 1 1 [byteOf _] rfl (Nat.le_refl _) (by simp; exact u8_of hpad0 hpad1)) (by omega) (by omega) ?_)
 intro A8 n8 c8 l8 w8 hn8 hl8 O8 K8 hA8
 clear hA8
 have K8':Kp [] _ w8:=K8.mono (by simp [ob])
 clear K8
 have hbsz':bs≤_:=Nat.le_trans hbsz K8'.size
 clear hbsz
 have hbsz:=hbsz'
 clear hbsz'
 have HB':=Lib.hid (K8'.heap HB.out (by simp))
 have HK':=Lib.hid (HK.out.trans K8')
 clear f_0 f_1 f_2 f_3 f_4 f_5 f_6 f_7 f_8 f_9 f_10 f_11 hltB hltB1 HB HK K8'
 have HB:=HB'
 have HK:=HK'
 clear HB' HK'
 obtain ⟨f_0,f_1,f_2,f_3,f_4,f_5,f_6,f_7,f_8,f_9,f_10,f_11,hltB,hltB1⟩:=cells12 HB.out
 have hc8:=O8.cap.1
 have hN8a:n8≤1:=Nat.le_of_eq hn8.out
 have hN8b:1≤n8:=Nat.le_of_eq hn8.out.symm
 have HO:=Lib.hid O8
 clear O8 hn8
 clear HN7
 go_wp2_with fail
 refine (rprio1 fl _ hfl0 hfl1).mono ?_
 rintro e w1 ⟨rfl,rfl⟩
 rw [HPRI.out]
 go_wp2_with fail
 refine (rprif 1 fl st pA pn pc (pd:Int) code last inc dn wt sA sn sc _ HDN2 hw0 hw1 vn HV).mono ?_
 rintro e w12 ⟨Aq,nq,cq,rfl,Oq,K12⟩
 have hnq:nq=5:=by have:=Oq.len; simp [bytesOf_length] at this; omega
 subst hnq
 have HRQ:=Lib.hid Oq.rd
 clear Oq
 have HO':=Lib.hid (HO.out.keep K12 (by simp))
 clear HO
 have HO:=HO'
 clear HO'
 have hbsz':bs≤_:=Nat.le_trans hbsz K12.size
 clear hbsz
 have hbsz:=hbsz'
 clear hbsz'
 have HB':=Lib.hid (K12.heap HB.out (by simp))
 have HK':=Lib.hid (HK.out.trans K12)
 clear f_0 f_1 f_2 f_3 f_4 f_5 f_6 f_7 f_8 f_9 f_10 f_11 hltB hltB1 HB HK K12
 have HB:=HB'
 have HK:=HK'
 clear HB' HK'
 obtain ⟨f_0,f_1,f_2,f_3,f_4,f_5,f_6,f_7,f_8,f_9,f_10,f_11,hltB,hltB1⟩:=cells12 HB.out
 go_wp2_with (with_reducible refine stopAt (o:=⟨some 31,_,_,_,_,_⟩) ?_)
 refine Stop.go (wp_appB rfl _ _ 22 5 rfl Try.underlying22 Try.info5 bs A8 n8 c8 l8 rfl HO.out Aq 5 cq (bytesOf vn 4++[byteOf (wt - 1)]) rfl HRQ.out (by omega) (by omega) ?_)
 intro A13 n13 c13 l13 w13 hn13 hl13 O13 K13 hA13
 clear hA13
 have HB':=Lib.hid (K13.heap HB.out (by intro hx; have:=(HO.out.base _ hx).1; omega))
 have HK':=Lib.hid (HK.out.then K13 (fun t ht=>.inr (by have:=(HO.out.base t ht).1; omega)))
 have hbsz':bs≤_:=Nat.le_trans hbsz K13.size
 clear f_0 f_1 f_2 f_3 f_4 f_5 f_6 f_7 f_8 f_9 f_10 f_11 hltB hltB1 HB HK hbsz
 have HB:=HB'
 have HK:=HK'
 have hbsz:=hbsz'
 clear HB' HK' hbsz'
 obtain ⟨f_0,f_1,f_2,f_3,f_4,f_5,f_6,f_7,f_8,f_9,f_10,f_11,hltB,hltB1⟩:=cells12 HB.out
 clear HO K13
 have hc13:=O13.cap.1
 have hN13a:n13≤n8+5:=Nat.le_of_eq hn13.out
 have hN13b:n8+5≤n13:=Nat.le_of_eq hn13.out.symm
 have HO:=Lib.hid O13
 clear O13 hn13
 clear HRQ
 have HRL:=Lib.hid (HRD.out.keep HK.out (by simp))
 go_wp2_with (with_reducible refine stopAt (o:=⟨some 101,_,_,_,_,_⟩) ?_)
 refine Stop.go (wp_appB rfl _ _ 22 5 rfl Try.underlying22 Try.info5 bs A13 n13 c13 l13 rfl HO.out pA pn pc l rfl HRL.out (by omega) (by omega) ?_)
 intro A20 n20 c20 l20 w20 hn20 hl20 O20 K20 hA20
 clear hA20
 have HB':=Lib.hid (K20.heap HB.out (by intro hx; have:=(HO.out.base _ hx).1; omega))
 have HK':=Lib.hid (HK.out.then K20 (fun t ht=>.inr (by have:=(HO.out.base t ht).1; omega)))
 have hbsz':bs≤_:=Nat.le_trans hbsz K20.size
 clear f_0 f_1 f_2 f_3 f_4 f_5 f_6 f_7 f_8 f_9 f_10 f_11 hltB hltB1 HB HK hbsz
 have HB:=HB'
 have HK:=HK'
 have hbsz:=hbsz'
 clear HB' HK' hbsz'
 obtain ⟨f_0,f_1,f_2,f_3,f_4,f_5,f_6,f_7,f_8,f_9,f_10,f_11,hltB,hltB1⟩:=cells12 HB.out
 clear HO K20
 have hc20:=O20.cap.1
 have hN20a:n20≤n13+pn:=Nat.le_of_eq hn20.out
 have hN20b:n13+pn≤n20:=Nat.le_of_eq hn20.out.symm
 have HO:=Lib.hid O20
 clear O20 hn20
 clear HRL
 go_wp2_with (with_reducible refine stopAt (o:=⟨some 106,_,_,_,_,_⟩) ?_)
 refine Stop.go (wp_appZ rfl _ _ 22 3 5 rfl Try.underlying22 Try.underlying3 Try.info5 bs A20 n20 c20 l20 rfl HO.out pd rfl (by omega) (by omega) ?_)
 intro A21 n21 c21 l21 w21 hn21 hl21 O21 K21
 have HB':=Lib.hid (K21.heap HB.out (by intro hx; have:=(HO.out.base _ hx).1; omega))
 have HK':=Lib.hid (HK.out.then K21 (fun t ht=>.inr (by have:=(HO.out.base t ht).1; omega)))
 have hbsz':bs≤_:=Nat.le_trans hbsz K21.size
 clear f_0 f_1 f_2 f_3 f_4 f_5 f_6 f_7 f_8 f_9 f_10 f_11 hltB hltB1 HB HK hbsz
 have HB:=HB'
 have HK:=HK'
 have hbsz:=hbsz'
 clear HB' HK' hbsz'
 obtain ⟨f_0,f_1,f_2,f_3,f_4,f_5,f_6,f_7,f_8,f_9,f_10,f_11,hltB,hltB1⟩:=cells12 HB.out
 clear HO K21
 have hc21:=O21.cap.1
 have HO:=Lib.hid O21
 clear O21 hn21
 have e:l21=[byteOf pd]++(bytesOf vn 4++[byteOf (wt - 1)])++(l)++List.replicate pd 0:=by rw [hl21.out,hl20.out,hl13.out,hl8.out]; simp
 have HE:=Lib.hid e
 clear e
 have hl:=HBD.out
 have HL:=Lib.hid hl
 clear hl
 go_wp2
 go_ret
 exact ⟨_,_,_,rfl,by rw [HL.out]; rw [← HE.out]; exact HO.out.rd,HK.out⟩
theorem rbody1tt_t (f:Fr) (l:List UInt8) (ss:List (Int × Int)) (w0:World) (ok:WrOk w0 f l ss) (hty:f.ty=1) (hgd:goodW (f.p l ss)=true) (h8:hasB f.fl 8=true) (h32:hasB f.fl 32=true) (ho:f.only=true) :
  Calls Try.prog 149 #[.agg #[.int .i64 f.ty,.int .i64 f.fl,.int .i64 f.st,.slice f.pA f.pn f.pc,.int .i64 f.pad,.int .u32 f.code,.int .i64 f.last,.int .i64 f.inc,.int .i64 f.dep,.bool f.only,.int .i64 f.wt,.slice f.sA f.sn f.sc]] w0 (RdP (bodyW (f.p l ss)) w0):=by
 obtain ⟨hkn,⟨hfl0,hfl1⟩,hst,hri,hmy,hpo,hpr⟩:=goodW_of hgd
 obtain ⟨hrd,hpn,hcode,hsd,hsn⟩:=ok
 obtain ⟨ty,fl,st,pA,pn,pc,pad,code,last,inc,dep,only,wt,sA,sn,sc⟩:=f
 dsimp only [Fr.p] at *
 subst hty
 subst ho
 have HRD:=Lib.hid hrd
 have HSD:=Lib.hid hsd
 clear hgd hkn hst hri hrd hsd
 obtain ⟨hpad0,hpad1⟩:0≤pad∧pad≤255:=by simp [padOk,paddedB] at hpo; omega
 have H8:=Lib.hid h8
 clear h8
 obtain ⟨hdb,hw0,hw1⟩:idB dep=true∧1≤wt∧wt≤256:=by simp [prioOk,prioB,h32] at hpr; exact ⟨hpr.1.1,hpr.1.2,hpr.2⟩
 have HPRI:=Lib.hid (show prioB 1 fl=true by simp [prioB,h32])
 clear h32
 clear hmy hpo hpr
 obtain ⟨pd,rfl⟩:=Int.eq_ofNat_of_zero_le hpad0
 obtain ⟨hde0,hde1⟩:=idB_of hdb
 obtain ⟨dn,rfl⟩:=Int.eq_ofNat_of_zero_le hde0
 have HDN2:=Lib.hid (show dn < 2147483648 by omega)
 clear hde1 hdb
 obtain ⟨vn,hv⟩:∃ v:Nat,v=dn+2147483648:=⟨_,rfl⟩
 have HV:=Lib.hid hv
 clear hv
 have HPW:=Lib.hid (show prioW ((⟨1,fl,st,l,(pd:Int),code,last,inc,(dn:Int),true,wt,ss⟩:Fp))=bytesOf vn 4++[byteOf (wt - 1)] from prioW_t _ vn rfl HV.out)
 have HBD:=Lib.hid (show bodyW ((⟨1,fl,st,l,(pd:Int),code,last,inc,(dn:Int),true,wt,ss⟩:Fp))=[byteOf pd]++(bytesOf vn 4++[byteOf (wt - 1)])++(l)++List.replicate pd 0 by
  unfold bodyW
  rw [HPW.out]
  simp [Fr.p,padF,paddedB,prioB,putW,H8.out,(show hasB fl 32=true by have:=HPRI.out; simpa [prioB] using this)])
 obtain ⟨BB,hBB⟩:∃ B,bodyW ((⟨1,fl,st,l,(pd:Int),code,last,inc,(dn:Int),true,wt,ss⟩:Fp))=B:=⟨_,rfl⟩
 rw [show bodyW _=BB from hBB]
 rw [hBB] at HBD
 clear hBB
 go_enter Try.func149,Try.ntmps149
 go_wp2_with fail
 have K0:Kp [] w0 (w0.alloc (.cells #[.int .i64 1,.int .i64 fl,.int .i64 st,.slice pA pn pc,.int .i64 (pd:Int),.int .u32 code,.int .i64 last,.int .i64 inc,.int .i64 (dn:Int),.bool true,.int .i64 wt,.slice sA sn sc] 49)):=(Kp.refl _ _).alloc _
 have HB:=Lib.hid (hp_new w0 (.cells #[.int .i64 1,.int .i64 fl,.int .i64 st,.slice pA pn pc,.int .i64 (pd:Int),.int .u32 code,.int .i64 last,.int .i64 inc,.int .i64 (dn:Int),.bool true,.int .i64 wt,.slice sA sn sc] 49) _ rfl)
 have HK:=Lib.hid K0
 generalize hW:w0.alloc (.cells #[.int .i64 1,.int .i64 fl,.int .i64 st,.slice pA pn pc,.int .i64 (pd:Int),.int .u32 code,.int .i64 last,.int .i64 inc,.int .i64 (dn:Int),.bool true,.int .i64 wt,.slice sA sn sc] 49)=w1 at *
 clear hW
 have hs1:=K0.size
 clear K0
 obtain ⟨bs,hbs⟩:∃ bs,w1.heap.size=bs:=⟨_,rfl⟩
 have hbsz:bs≤w1.heap.size:=by omega
 have hBb:w0.heap.size < bs:=by have:=lt_of_heap HB.out; omega
 clear hbs
 obtain ⟨f_0,f_1,f_2,f_3,f_4,f_5,f_6,f_7,f_8,f_9,f_10,f_11,hltB,hltB1⟩:=cells12 HB.out
 refine (rpad1 _).mono ?_
 rintro e w1 ⟨rfl,rfl⟩
 go_wp2_with fail
 refine (hasF fl 8 _ hfl0 hfl1 (by omega) (by omega)).mono ?_
 rintro e w1 ⟨rfl,rfl⟩
 rw [H8.out]
 go_wp2_with (with_reducible refine stopAt (o:=⟨some 22,_,_,_,_,_⟩) ?_)
 generalize hW:World.alloc _ _=w7
 have K7:Kp [] w1 w7:=by rw [← hW]; with_reducible (repeat (first|exact Kp.refl _ _|assumption|refine Kp.alloc ?_ _|refine Kp.drew ?_|refine Kp.drewN ?_ _|(refine Kp.setL ?_ ?_ _;focus (simp;done))|(refine Kp.setR ?_ ?_ _;focus (first|(simp;done)|(simp;omega)))))
 have HN7:=Lib.hid (show w7.heap[w1.heap.size]?=some (.cells #[.int .u8 (pd:Int)] 5) by rw [← hW]; with_reducible (repeat (first|assumption|(refine hp_new _ _ _ ?_;focus (simp;done))|refine hpl ?_|(refine hpf ?_ ?_;focus (first|(simp;done)|(simp;omega)))|refine hpd ?_|refine hpe ?_)))
 clear hW
 have hbsz':bs≤_:=Nat.le_trans hbsz K7.size
 clear hbsz
 have hbsz:=hbsz'
 clear hbsz'
 have HB':=Lib.hid (K7.heap HB.out (by simp))
 have HK':=Lib.hid (HK.out.trans K7)
 clear f_0 f_1 f_2 f_3 f_4 f_5 f_6 f_7 f_8 f_9 f_10 f_11 hltB hltB1 HB HK K7
 have HB:=HB'
 have HK:=HK'
 clear HB' HK'
 obtain ⟨f_0,f_1,f_2,f_3,f_4,f_5,f_6,f_7,f_8,f_9,f_10,f_11,hltB,hltB1⟩:=cells12 HB.out
 refine Stop.go (wp_appB rfl _ _ 22 5 rfl Try.underlying22 Try.info5 bs none 0 0 [] rfl (Ow.nil _ _ _ _) (some ⟨w1.heap.size,0,none⟩) 1 1 [byteOf pd] rfl (Rd.block HN7.out 0 1 1 [byteOf _] rfl (Nat.le_refl _) (by simp; exact u8_of hpad0 hpad1)) (by omega) (by omega) ?_)
 intro A8 n8 c8 l8 w8 hn8 hl8 O8 K8 hA8
 clear hA8
 have K8':Kp [] _ w8:=K8.mono (by simp [ob])
 clear K8
 have hbsz':bs≤_:=Nat.le_trans hbsz K8'.size
 clear hbsz
 have hbsz:=hbsz'
 clear hbsz'
 have HB':=Lib.hid (K8'.heap HB.out (by simp))
 have HK':=Lib.hid (HK.out.trans K8')
 clear f_0 f_1 f_2 f_3 f_4 f_5 f_6 f_7 f_8 f_9 f_10 f_11 hltB hltB1 HB HK K8'
 have HB:=HB'
 have HK:=HK'
 clear HB' HK'
 obtain ⟨f_0,f_1,f_2,f_3,f_4,f_5,f_6,f_7,f_8,f_9,f_10,f_11,hltB,hltB1⟩:=cells12 HB.out
 have hc8:=O8.cap.1
 have hN8a:n8≤1:=Nat.le_of_eq hn8.out
 have hN8b:1≤n8:=Nat.le_of_eq hn8.out.symm
 have HO:=Lib.hid O8
 clear O8 hn8
 clear HN7
 go_wp2_with fail
 refine (rprio1 fl _ hfl0 hfl1).mono ?_
 rintro e w1 ⟨rfl,rfl⟩
 rw [HPRI.out]
 go_wp2_with fail
 refine (rprit 1 fl st pA pn pc (pd:Int) code last inc dn wt sA sn sc _ HDN2 hw0 hw1 vn HV).mono ?_
 rintro e w12 ⟨Aq,nq,cq,rfl,Oq,K12⟩
 have hnq:nq=5:=by have:=Oq.len; simp [bytesOf_length] at this; omega
 subst hnq
 have HRQ:=Lib.hid Oq.rd
 clear Oq
 have HO':=Lib.hid (HO.out.keep K12 (by simp))
 clear HO
 have HO:=HO'
 clear HO'
 have hbsz':bs≤_:=Nat.le_trans hbsz K12.size
 clear hbsz
 have hbsz:=hbsz'
 clear hbsz'
 have HB':=Lib.hid (K12.heap HB.out (by simp))
 have HK':=Lib.hid (HK.out.trans K12)
 clear f_0 f_1 f_2 f_3 f_4 f_5 f_6 f_7 f_8 f_9 f_10 f_11 hltB hltB1 HB HK K12
 have HB:=HB'
 have HK:=HK'
 clear HB' HK'
 obtain ⟨f_0,f_1,f_2,f_3,f_4,f_5,f_6,f_7,f_8,f_9,f_10,f_11,hltB,hltB1⟩:=cells12 HB.out
 go_wp2_with (with_reducible refine stopAt (o:=⟨some 31,_,_,_,_,_⟩) ?_)
 refine Stop.go (wp_appB rfl _ _ 22 5 rfl Try.underlying22 Try.info5 bs A8 n8 c8 l8 rfl HO.out Aq 5 cq (bytesOf vn 4++[byteOf (wt - 1)]) rfl HRQ.out (by omega) (by omega) ?_)
 intro A13 n13 c13 l13 w13 hn13 hl13 O13 K13 hA13
 clear hA13
 have HB':=Lib.hid (K13.heap HB.out (by intro hx; have:=(HO.out.base _ hx).1; omega))
 have HK':=Lib.hid (HK.out.then K13 (fun t ht=>.inr (by have:=(HO.out.base t ht).1; omega)))
 have hbsz':bs≤_:=Nat.le_trans hbsz K13.size
 clear f_0 f_1 f_2 f_3 f_4 f_5 f_6 f_7 f_8 f_9 f_10 f_11 hltB hltB1 HB HK hbsz
 have HB:=HB'
 have HK:=HK'
 have hbsz:=hbsz'
 clear HB' HK' hbsz'
 obtain ⟨f_0,f_1,f_2,f_3,f_4,f_5,f_6,f_7,f_8,f_9,f_10,f_11,hltB,hltB1⟩:=cells12 HB.out
 clear HO K13
 have hc13:=O13.cap.1
 have hN13a:n13≤n8+5:=Nat.le_of_eq hn13.out
 have hN13b:n8+5≤n13:=Nat.le_of_eq hn13.out.symm
 have HO:=Lib.hid O13
 clear O13 hn13
 clear HRQ
 have HRL:=Lib.hid (HRD.out.keep HK.out (by simp))
 go_wp2_with (with_reducible refine stopAt (o:=⟨some 101,_,_,_,_,_⟩) ?_)
 refine Stop.go (wp_appB rfl _ _ 22 5 rfl Try.underlying22 Try.info5 bs A13 n13 c13 l13 rfl HO.out pA pn pc l rfl HRL.out (by omega) (by omega) ?_)
 intro A20 n20 c20 l20 w20 hn20 hl20 O20 K20 hA20
 clear hA20
 have HB':=Lib.hid (K20.heap HB.out (by intro hx; have:=(HO.out.base _ hx).1; omega))
 have HK':=Lib.hid (HK.out.then K20 (fun t ht=>.inr (by have:=(HO.out.base t ht).1; omega)))
 have hbsz':bs≤_:=Nat.le_trans hbsz K20.size
 clear f_0 f_1 f_2 f_3 f_4 f_5 f_6 f_7 f_8 f_9 f_10 f_11 hltB hltB1 HB HK hbsz
 have HB:=HB'
 have HK:=HK'
 have hbsz:=hbsz'
 clear HB' HK' hbsz'
 obtain ⟨f_0,f_1,f_2,f_3,f_4,f_5,f_6,f_7,f_8,f_9,f_10,f_11,hltB,hltB1⟩:=cells12 HB.out
 clear HO K20
 have hc20:=O20.cap.1
 have hN20a:n20≤n13+pn:=Nat.le_of_eq hn20.out
 have hN20b:n13+pn≤n20:=Nat.le_of_eq hn20.out.symm
 have HO:=Lib.hid O20
 clear O20 hn20
 clear HRL
 go_wp2_with (with_reducible refine stopAt (o:=⟨some 106,_,_,_,_,_⟩) ?_)
 refine Stop.go (wp_appZ rfl _ _ 22 3 5 rfl Try.underlying22 Try.underlying3 Try.info5 bs A20 n20 c20 l20 rfl HO.out pd rfl (by omega) (by omega) ?_)
 intro A21 n21 c21 l21 w21 hn21 hl21 O21 K21
 have HB':=Lib.hid (K21.heap HB.out (by intro hx; have:=(HO.out.base _ hx).1; omega))
 have HK':=Lib.hid (HK.out.then K21 (fun t ht=>.inr (by have:=(HO.out.base t ht).1; omega)))
 have hbsz':bs≤_:=Nat.le_trans hbsz K21.size
 clear f_0 f_1 f_2 f_3 f_4 f_5 f_6 f_7 f_8 f_9 f_10 f_11 hltB hltB1 HB HK hbsz
 have HB:=HB'
 have HK:=HK'
 have hbsz:=hbsz'
 clear HB' HK' hbsz'
 obtain ⟨f_0,f_1,f_2,f_3,f_4,f_5,f_6,f_7,f_8,f_9,f_10,f_11,hltB,hltB1⟩:=cells12 HB.out
 clear HO K21
 have hc21:=O21.cap.1
 have HO:=Lib.hid O21
 clear O21 hn21
 have e:l21=[byteOf pd]++(bytesOf vn 4++[byteOf (wt - 1)])++(l)++List.replicate pd 0:=by rw [hl21.out,hl20.out,hl13.out,hl8.out]; simp
 have HE:=Lib.hid e
 clear e
 have hl:=HBD.out
 have HL:=Lib.hid hl
 clear hl
 go_wp2
 go_ret
 exact ⟨_,_,_,rfl,by rw [HL.out]; rw [← HE.out]; exact HO.out.rd,HK.out⟩
end Go.Proofs.Ytkmcakneceagpaa

namespace Go.Proofs.Ytkmcakneceagpaa
open Go.RowKit
theorem rbody4 (f:Fr) (l:List UInt8) (ss:List (Int × Int)) (w0:World) (ok:WrOk w0 f l ss) (hty:f.ty=4) (hgd:goodW (f.p l ss)=true) :
  Calls Try.prog 149 #[.agg #[.int .i64 f.ty,.int .i64 f.fl,.int .i64 f.st,.slice f.pA f.pn f.pc,.int .i64 f.pad,.int .u32 f.code,.int .i64 f.last,.int .i64 f.inc,.int .i64 f.dep,.bool f.only,.int .i64 f.wt,.slice f.sA f.sn f.sc]] w0 (RdP (bodyW (f.p l ss)) w0):=by
 obtain ⟨hkn,⟨hfl0,hfl1⟩,hst,hri,hmy,hpo,hpr⟩:=goodW_of hgd
 obtain ⟨hrd,hpn,hcode,hsd,hsn⟩:=ok
 obtain ⟨ty,fl,st,pA,pn,pc,pad,code,last,inc,dep,only,wt,sA,sn,sc⟩:=f
 dsimp only [Fr.p] at *
 subst hty
 have HRD:=Lib.hid hrd
 have HSD:=Lib.hid hsd
 clear hgd hkn hst hri hrd hsd
 have hlt0:0 < sn→∀ bb,bb∈ob sA→bb < w0.heap.size:=fun hp bb hb=>by
  obtain ⟨b2,o2,rfl,h1,_⟩:=HSD.out.at_ hp
  simp [ob] at hb
  omega
 have HLT0:=Lib.hid hlt0
 clear hlt0
 have HSOK:=Lib.hid (setsB_of (show setsB fl ss=true by simpa [mayK] using hmy))
 have HPRI:=Lib.hid (show prioB 4 fl=false by simp [prioB])
 clear hmy hpo hpr
 have HBD:=Lib.hid (show bodyW ((⟨4,fl,st,l,pad,code,last,inc,dep,only,wt,ss⟩:Fp))=(ss.flatMap setW) by
  simp [bodyW,Fr.p,padF,paddedB,prioB,putW])
 obtain ⟨BB,hBB⟩:∃ B,bodyW ((⟨4,fl,st,l,pad,code,last,inc,dep,only,wt,ss⟩:Fp))=B:=⟨_,rfl⟩
 rw [show bodyW _=BB from hBB]
 rw [hBB] at HBD
 clear hBB
 go_enter Try.func149,Try.ntmps149
 go_wp2_with fail
 have K0:Kp [] w0 (w0.alloc (.cells #[.int .i64 4,.int .i64 fl,.int .i64 st,.slice pA pn pc,.int .i64 pad,.int .u32 code,.int .i64 last,.int .i64 inc,.int .i64 dep,.bool only,.int .i64 wt,.slice sA sn sc] 49)):=(Kp.refl _ _).alloc _
 have HB:=Lib.hid (hp_new w0 (.cells #[.int .i64 4,.int .i64 fl,.int .i64 st,.slice pA pn pc,.int .i64 pad,.int .u32 code,.int .i64 last,.int .i64 inc,.int .i64 dep,.bool only,.int .i64 wt,.slice sA sn sc] 49) _ rfl)
 have HK:=Lib.hid K0
 generalize hW:w0.alloc (.cells #[.int .i64 4,.int .i64 fl,.int .i64 st,.slice pA pn pc,.int .i64 pad,.int .u32 code,.int .i64 last,.int .i64 inc,.int .i64 dep,.bool only,.int .i64 wt,.slice sA sn sc] 49)=w1 at *
 clear hW
 have hs1:=K0.size
 clear K0
 obtain ⟨bs,hbs⟩:∃ bs,w1.heap.size=bs:=⟨_,rfl⟩
 have hbsz:bs≤w1.heap.size:=by omega
 have hBb:w0.heap.size < bs:=by have:=lt_of_heap HB.out; omega
 clear hbs
 obtain ⟨f_0,f_1,f_2,f_3,f_4,f_5,f_6,f_7,f_8,f_9,f_10,f_11,hltB,hltB1⟩:=cells12 HB.out
 refine (rpad4 _).mono ?_
 rintro e w1 ⟨rfl,rfl⟩
 go_wp2_with fail
 refine (rprio4 fl _ hfl0 hfl1).mono ?_
 rintro e w1 ⟨rfl,rfl⟩
 rw [HPRI.out]
 have hlen:=HSD.out.len
 have hcap:=HSD.out.cap
 have hsn':sn≤140737488351232:=by omega
 have HS1:=Lib.hid (HSD.out.keep HK.out (by simp))
 go_wp2
 go_loopw [3,5] (fun v i wr=>∃ (k:Nat) (A:Option Addr) (c:Nat),k≤sn∧i=.int .i64 k∧v=.slice A (6 * k) c∧Ow wr bs 5 1 A (6 * k) c (((ss.take k).flatMap setW).map u8)∧Kp [] w0 wr∧bs≤wr.heap.size∧wr.heap[w0.heap.size]?=some (.cells #[.int .i64 4,.int .i64 fl,.int .i64 st,.slice pA pn pc,.int .i64 pad,.int .u32 code,.int .i64 last,.int .i64 inc,.int .i64 dep,.bool only,.int .i64 wt,.slice sA sn sc] 49)) (fun _ i _=>sn - (intOf i).toNat)
 case atStart=>exact ⟨0,none,0,Nat.zero_le _,rfl,rfl,Ow.nil _ _ _ _,HK.out,hbsz,HB.out⟩
 case round =>
  obtain ⟨k,A,c,hk,rfl,rfl,O,K,hbs2,hB⟩:=hrel
  clear HB HK HS1 hbsz f_0 f_1 f_2 f_3 f_4 f_5 f_6 f_7 f_8 f_9 f_10 f_11 hltB hltB1
  have HO:=Lib.hid O
  have HK:=Lib.hid K
  have HB:=Lib.hid hB
  have hbsz:=hbs2
  have hcO:=O.cap
  clear O K hB hbs2
  by_cases hkl:k < sn
  ·obtain ⟨bb,off,rfl,hlt,hc⟩:=(HSD.out.keep HK.out (by simp)).at_ (by omega)
   obtain ⟨c0,c1⟩:=hc k hkl
   have hk1:=HSOK.out k (by omega)
   have hk2:=HSD.out.val k
   have HTK:=Lib.hid (show (ss.take (k+1)).flatMap setW=(ss.take k).flatMap setW++setW (ss.getD k (0,0)) by
    rw [List.take_succ_eq_append_getElem (by omega),List.flatMap_append,List.getD_eq_getElem?_getD,List.getElem?_eq_getElem (by omega)]
    simp)
   obtain ⟨⟨xi,yv⟩,hxy⟩:∃ s,ss.getD k (0,0)=s:=⟨_,rfl⟩
   rw [hxy] at c0 c1 hk1 hk2
   have HXY:=Lib.hid hxy
   dsimp only at c0 c1 hk2
   simp [setOk] at hk1
   obtain ⟨xi,rfl⟩:=Int.eq_ofNat_of_zero_le hk1.1
   obtain ⟨yv,rfl⟩:=Int.eq_ofNat_of_zero_le hk2.1
   have HX2:=Lib.hid (show xi < 65536 by omega)
   have HY2:=Lib.hid (show yv < 4294967296 by omega)
   have hki:(k:Int) < (sn:Int):=by omega
   have hobb:bb < w0.heap.size:=HLT0.out (by omega) bb (by simp [ob])
   clear hxy hc hk1 hk2
   obtain ⟨f_0,f_1,f_2,f_3,f_4,f_5,f_6,f_7,f_8,f_9,f_10,f_11,hltB,hltB1⟩:=cells12 HB.out
   go_wp2_with fail
   refine (refPut16_any xi _ (by have:=HX2.out; omega)).mono ?_
   rintro e w3 ⟨Ax,nx,cx,rfl,Ox,K3⟩
   rw [putR_yes (by have:=HX2.out; omega)] at Ox ⊢
   dsimp only at Ox ⊢
   have hnx:nx=2:=by have:=Ox.len; simp [bytesOf_length] at this; omega
   subst hnx
   have HRX:=Lib.hid Ox.rd
   clear Ox
   have c1':=K3.cell c1 (by simp)
   clear c0 c1
   have HO':=Lib.hid (HO.out.keep K3 (by simp))
   clear HO
   have HO:=HO'
   clear HO'
   have hbsz':bs≤_:=Nat.le_trans hbsz K3.size
   clear hbsz
   have hbsz:=hbsz'
   clear hbsz'
   have HB':=Lib.hid (K3.heap HB.out (by simp))
   have HK':=Lib.hid (HK.out.trans K3)
   clear f_0 f_1 f_2 f_3 f_4 f_5 f_6 f_7 f_8 f_9 f_10 f_11 hltB hltB1 HB HK K3
   have HB:=HB'
   have HK:=HK'
   clear HB' HK'
   obtain ⟨f_0,f_1,f_2,f_3,f_4,f_5,f_6,f_7,f_8,f_9,f_10,f_11,hltB,hltB1⟩:=cells12 HB.out
   have hAb:bb∉ob A:=fun hx=>by have:=(HO.out.base _ hx).1; omega
   go_wp2_with (with_reducible refine stopAt (o:=⟨some 68,_,_,_,_,_⟩) ?_)
   refine Stop.go (wp_appB rfl _ _ 22 5 rfl Try.underlying22 Try.info5 bs A (6 * k) c ((ss.take k).flatMap setW) rfl HO.out Ax 2 cx (bytesOf xi 2) rfl HRX.out (by omega) (by omega) ?_)
   intro A5 n5 c5 l5 w5 hn5 hl5 O5 K5 hA5
   clear hA5
   have c1'':=K5.cell c1' hAb
   clear c1' HRX
   have HB':=Lib.hid (K5.heap HB.out (by intro hx; have:=(HO.out.base _ hx).1; omega))
   have HK':=Lib.hid (HK.out.then K5 (fun t ht=>.inr (by have:=(HO.out.base t ht).1; omega)))
   have hbsz':bs≤_:=Nat.le_trans hbsz K5.size
   clear f_0 f_1 f_2 f_3 f_4 f_5 f_6 f_7 f_8 f_9 f_10 f_11 hltB hltB1 HB HK hbsz
   have HB:=HB'
   have HK:=HK'
   have hbsz:=hbsz'
   clear HB' HK' hbsz'
   obtain ⟨f_0,f_1,f_2,f_3,f_4,f_5,f_6,f_7,f_8,f_9,f_10,f_11,hltB,hltB1⟩:=cells12 HB.out
   clear HO K5
   have hc5:=O5.cap.1
   have hN5a:n5≤6 * k+2:=Nat.le_of_eq hn5.out
   have HN5:=Lib.hid hn5.out
   have HO:=Lib.hid O5
   clear O5 hn5
   go_wp2_with fail
   refine (refPut32_any yv _ HY2.out).mono ?_
   rintro e w6 ⟨Ay,ny,cy,rfl,Oy,K6⟩
   have hny:ny=4:=by have:=Oy.len; simp [bytesOf_length] at this; omega
   subst hny
   have HRY:=Lib.hid Oy.rd
   clear Oy
   have HO':=Lib.hid (HO.out.keep K6 (by simp))
   clear HO
   have HO:=HO'
   clear HO'
   have hbsz':bs≤_:=Nat.le_trans hbsz K6.size
   clear hbsz
   have hbsz:=hbsz'
   clear hbsz'
   have HB':=Lib.hid (K6.heap HB.out (by simp))
   have HK':=Lib.hid (HK.out.trans K6)
   clear f_0 f_1 f_2 f_3 f_4 f_5 f_6 f_7 f_8 f_9 f_10 f_11 hltB hltB1 HB HK K6
   have HB:=HB'
   have HK:=HK'
   clear HB' HK'
   obtain ⟨f_0,f_1,f_2,f_3,f_4,f_5,f_6,f_7,f_8,f_9,f_10,f_11,hltB,hltB1⟩:=cells12 HB.out
   go_wp2_with (with_reducible refine stopAt (o:=⟨some 77,_,_,_,_,_⟩) ?_)
   refine Stop.go (wp_appB rfl _ _ 22 5 rfl Try.underlying22 Try.info5 bs A5 n5 c5 l5 rfl HO.out Ay 4 cy (bytesOf yv 4) rfl HRY.out (by omega) (by omega) ?_)
   intro A7 n7 c7 l7 w7 hn7 hl7 O7 K7 hA7
   clear hA7 HRY
   have HB':=Lib.hid (K7.heap HB.out (by intro hx; have:=(HO.out.base _ hx).1; omega))
   have HK':=Lib.hid (HK.out.then K7 (fun t ht=>.inr (by have:=(HO.out.base t ht).1; omega)))
   have hbsz':bs≤_:=Nat.le_trans hbsz K7.size
   clear f_0 f_1 f_2 f_3 f_4 f_5 f_6 f_7 f_8 f_9 f_10 f_11 hltB hltB1 HB HK hbsz
   have HB:=HB'
   have HK:=HK'
   have hbsz:=hbsz'
   clear HB' HK' hbsz'
   obtain ⟨f_0,f_1,f_2,f_3,f_4,f_5,f_6,f_7,f_8,f_9,f_10,f_11,hltB,hltB1⟩:=cells12 HB.out
   clear HO K7 f_0 f_1 f_2 f_3 f_4 f_5 f_6 f_7 f_8 f_9 f_10 f_11
   have hn7':n7=6 * (k+1):=by have:=hn7.out; have:=HN5.out; omega
   subst hn7'
   have HO:=Lib.hid O7
   clear O7 hn7
   go_wp2
   go_roundw
   case rel =>
    refine ⟨k+1,A7,c7,by omega,by go_num,rfl,?_,HK.out,hbsz,HB.out⟩
    rw [HTK.out,HXY.out]
    have:=HO.out
    rw [hl7.out,hl5.out] at this
    simpa [setW,List.append_assoc] using this
   case measure=>simp [intOf]; omega
  ·obtain rfl:k=sn:=by omega
   have hki:¬ (k:Int) < (k:Int):=by omega
   have e:ss.take k=ss:=List.take_of_length_le (by omega)
   have HO':=HO.out
   rw [e] at HO'
   have HO2:=Lib.hid HO'
   clear HO HO' e
   obtain ⟨f_0,f_1,f_2,f_3,f_4,f_5,f_6,f_7,f_8,f_9,f_10,f_11,hltB,hltB1⟩:=cells12 HB.out
   have hl:=HBD.out
   have HL:=Lib.hid hl
   clear hl
   go_wp2
   go_ret
   exact ⟨_,_,_,rfl,by rw [HL.out]; exact HO2.out.rd,HK.out⟩
end Go.Proofs.Ytkmcakneceagpaa
