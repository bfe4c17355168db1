/- 'ReaderPlays', walked. -/
import Derived.Test.YtkmcakneceagpaaQRdTwo
import Derived.Test.YtkmcakneceagpaaQRfWr
import Derived.Test.YtkmcakneceagpaaQOpnPar
set_option linter.unusedSimpArgs false
set_option linter.unusedVariables false
set_option maxHeartbeats 8000000
set_option maxRecDepth 100000
namespace Go.Proofs.Ytkmcakneceagpaa
open Go.RowKit
theorem ReaderPlays_walk (most:Int) (A:Option Addr) (m c:Nat) (w0:World) (ho:Parts w0 A m) (hm:m≤140737488351232) :
  Calls Try.prog 32 #[.int .i64 most,.slice A m c] w0 (Yes w0):=by
 have HP:=Lib.hid ho
 clear ho
 by_cases hmo:16384≤most∧most≤16777215
 ·obtain ⟨hm0,hm1⟩:=hmo
  go_enter Try.func32,Try.ntmps32
  go_wp2_with fail
  refine (RdNew most hm0 hm1 _).mono ?_
  rintro e w1 ⟨g,rfl,hg0,S1,K1⟩
  have hg1:w0.heap.size≤g:=by omega
  clear hg0
  go_wp2_with fail
  refine (RqNew most hm0 hm1 _).mono ?_
  rintro e w2 ⟨h,rfl,hh0,Q2,K2⟩
  have hh1:w1.heap.size≤h:=by omega
  clear hh0
  have hS:=S1.lt
  have hQ:=Q2.lt
  have HT0:Hid (Two w0 w2 g h [] [] most ⟨false,0,0,[]⟩ ⟨false,0,0,[]⟩):=⟨S1.keep K2 (by simp) (by simp),Q2,by simp,by simp,by have:=K1.size; have:=K2.size; omega,K1.trans K2⟩
  clear S1 K1 Q2 K2 hg1 hh1 hS hQ
  go_wp2
  go_loopw [9] (fun i wr=>∃ (k:Nat) (sa:Rst) (Da Ea:List Nat),k≤m∧i=.int .i64 k∧Two w0 wr g h Da Ea most sa sa∧(sa.is=true∨sa.l.length≤16777224)) (fun i _=>m - (intOf i).toNat)
  case atStart=>exact ⟨0,_,[],[],Nat.zero_le _,rfl,HT0.out,.inr (by simp)⟩
  case round =>
   obtain ⟨k,sa,Da,Ea,hk,rfl,hT,hlen⟩:=hrel
   have HT:=Lib.hid hT
   clear hT HT0
   by_cases hkl:k < m
   ·obtain ⟨b,off,Ai,ni,ci,xs,rfl,hc0,hx,hni,hxl⟩:=HP.out k hkl
    have HC0:=Lib.hid hc0
    have HX:=Lib.hid hx
    have HLN:=Lib.hid (show sa.is=true∨sa.l.length+ni≤211106232532992 by rcases hlen with h | h; exact .inl h; exact .inr (by omega))
    have hki:(k:Int) < (m:Int):=by omega
    obtain ⟨fc,hfc⟩:∃ fc:Int,(if sa.is=true then (5:Int) else 0)=fc:=⟨_,rfl⟩
    have HFC:=Lib.hid hfc
    have hb0:b < w0.heap.size:=World.block_lt_of_cell? w0 _ hc0
    have hab:(sa.fed xs).is=true∨(sa.fed xs).l.length≤16777224+ni:=by
     have hl:=hx.len
     rcases hlen with h | h
     ·exact .inl h
     ·right
      unfold Rst.fed
      dsimp only
      split
      ·omega
      ·simp; omega
    have HLEN:=Lib.hid hlen
    clear hc0 hx hfc hlen
    go_wp2
    refine wp_region_st3 (by kernel_rfl) [fun _ v _=>v=(.pointer (some ⟨g,0,none⟩)),
      fun p v w=>∃ x:Option Addr × Nat × Nat,v=.slice x.1 x.2.1 x.2.2∧0≤p∧(p≤0→Ow w (w0.heap.size) 5 1 x.1 x.2.1 x.2.2 (([]).map u8)∧x.2.1=0∧∀ t,t∈ob x.1→wr.heap.size≤t),
      fun _ v _=>v=(.slice (some ⟨b,off,none⟩) m c),
      fun _ v _=>v=(.int .i64 (k:Int)),
      fun _ v _=>v=(.pointer (some ⟨b,off+k,none⟩)),
      fun _ v _=>v=(.slice Ai ni ci),
      fun p v w=>∃ x:Option Addr × Nat × Nat,v=.slice x.1 x.2.1 x.2.2∧1≤p∧(p≤1→Rd w x.1 x.2.1 x.2.2 (xs)),
      fun _ v _=>v=.int .i64 fc,
      fun _ v _=>v=(.pointer (some ⟨h,0,none⟩)),
      fun _ v _=>v=(.slice (some ⟨b,off,none⟩) m c),
      fun _ v _=>v=(.int .i64 (k:Int)),
      fun _ v _=>v=(.pointer (some ⟨b,off+k,none⟩)),
      fun _ v _=>v=(.slice Ai ni ci),
      fun _ v _=>v=.int .i64 fc,
      fun _ v _=>v=(.bool false)] (fun p w=>FdC w0 wr.heap.size g h Da Ea most sa (sa.fed xs) p w) (fun p w w'=>p < 0→Kp [] w w') (fun w w'=>Kp [] w w') [6,7,13] [1] (by kernel_rfl) (by kernel_rfl) (by kernel_rfl) (by decide) (by kernel_rfl) ⟨StabAt2.const _,StabAt2.span (f:=fun x:Option Addr × Nat × Nat=>.slice x.1 x.2.1 x.2.2) (by intro p x w w' h1 h2 h3 hR hG; have K:=hR; exact ⟨hG.1.keep (K (by omega)) (by simp),hG.2⟩) (by intro x w w' hR hG; have K:=hR; exact ⟨hG.1.keep K (by simp),hG.2⟩),StabAt2.const _,StabAt2.const _,StabAt2.const _,StabAt2.const _,StabAt2.span (f:=fun x:Option Addr × Nat × Nat=>.slice x.1 x.2.1 x.2.2) (by intro p x w w' h1 h2 h3 hR hG; have K:=hR; exact hG.keep (K (by omega)) (by simp)) (by intro x w w' hR hG; have K:=hR; exact hG.keep K (by simp)),StabAt2.const _,StabAt2.const _,StabAt2.const _,StabAt2.const _,StabAt2.const _,StabAt2.const _,StabAt2.const _,StabAt2.const _,trivial⟩ (⟨⟨HT.out.kp.drew,Nat.le_refl _⟩,fun _=>HT.out.keep (Kp.refl [] wr).drew,fun h=>by omega,fun h=>by omega⟩) ⟨?_,?_,?_,?_,?_,?_,?_,?_,?_,?_,?_,?_,?_,?_,?_,trivial⟩ (by kernel_rfl) ?_
    ·intro q9 a w E hC K hK
     have h5:a.tmps[5]?=some (.pointer (some ⟨g,0,none⟩)):=(E.out 5 (by kernel_rfl)).trans rfl
     refine want_none rfl ?_
     go_simp
     exact hK _ rfl
    ·intro q9 a w E hC K hK
     refine want_none rfl ?_
     go_simp
     exact hK _ _ ⟨⟨some ⟨w.heap.size,0,none⟩,0,0⟩,rfl,by omega,fun _=>⟨Ow.empty _ _ _ _ hC.1.1.size,rfl,by intro t ht; simp [ob] at ht; subst ht; exact hC.1.2⟩⟩ (hC.keep ((Kp.refl [] w).alloc _)) ((Kp.refl [] w).alloc _)
    ·intro q9 a w E hC K hK
     have h1:a.tmps[1]?=some (.slice (some ⟨b,off,none⟩) m c):=(E.out 1 (by kernel_rfl)).trans rfl
     refine want_none rfl ?_
     go_simp
     exact hK _ rfl
    ·intro q9 a w E hC K hK
     have h9:a.tmps[9]?=some (.int .i64 (k:Int)):=(E.out 9 (by kernel_rfl)).trans rfl
     refine want_none rfl ?_
     go_simp
     exact hK _ rfl
    ·intro q9 a w E hC K hK
     obtain ⟨_,h49,rfl⟩:=E.pred 2 _ 49 rfl rfl (by kernel_rfl)
     obtain ⟨_,h50,rfl⟩:=E.pred 3 _ 50 rfl rfl (by kernel_rfl)
     refine want_none rfl ?_
     go_simp
     exact hK _ rfl
    ·intro q9 a w E hC K hK
     obtain ⟨_,h51,rfl⟩:=E.pred 4 _ 51 rfl rfl (by kernel_rfl)
     refine want_none rfl ?_
     have h0:=hC.1.1.cell HC0.out (by simp)
     go_simp
     exact hK _ rfl
    ·intro a w E hC K hK
     obtain ⟨v1,h48,V1⟩:=E.pred 1 _ 48 rfl rfl (by kernel_rfl)
     replace V1:(fun p v w=>∃ x:Option Addr × Nat × Nat,v=.slice x.1 x.2.1 x.2.2∧0≤p∧(p≤0→Ow w (w0.heap.size) 5 1 x.1 x.2.1 x.2.2 (([]).map u8)∧x.2.1=0∧∀ t,t∈ob x.1→wr.heap.size≤t)) 0 v1 w:=V1
     obtain ⟨_,h52,rfl⟩:=E.pred 5 _ 52 rfl rfl (by kernel_rfl)
     refine want_none rfl ?_
     obtain ⟨⟨A1,n1,c1⟩,rfl,_,G1⟩:=V1
     obtain ⟨O1,e1,f1⟩:=G1 (by omega)
     dsimp only at O1 e1 f1
     subst e1
     refine op_appO (.tmp 48) (.tmp 52) 22 5 rfl Try.underlying22 Try.info5 w0.heap.size A1 0 c1 [] (eval_tmp h48) O1 Ai ni ci xs (eval_tmp h52) (HX.out.keep hC.1.1 (by simp)) (by omega) hC.1.1.size ?_
     intro A' c' w2 O K2 hA2
     have ht2:∀ x,x∈ob A1→x≠g∧x≠h∧x∉Da∧x∉Ea∧w0.heap.size≤x:=fun x hx=>by have h1:=f1 x hx; have h2:=HT.out.gl; refine ⟨by omega,by omega,fun hd=>?_,fun he=>?_,(O1.base x hx).1⟩; have:=HT.out.dl x hd; omega; have:=HT.out.el x he; omega
     exact hK _ _ ⟨⟨A',_,c'⟩,rfl,by omega,fun _=>by simpa using O.rd⟩ (FdC.up0 hC K2 ht2) (fun h=>by omega)
    ·intro a w E hC K hK
     obtain ⟨_,h47,rfl⟩:=E.pred 0 _ 47 rfl rfl (by kernel_rfl)
     obtain ⟨v6,h53,V6⟩:=E.pred 6 _ 53 rfl rfl (by kernel_rfl)
     replace V6:(fun p v w=>∃ x:Option Addr × Nat × Nat,v=.slice x.1 x.2.1 x.2.2∧1≤p∧(p≤1→Rd w x.1 x.2.1 x.2.2 (xs))) 1 v6 w:=V6
     refine want_none rfl ?_
     obtain ⟨⟨A6,n6,c6⟩,rfl,_,G6⟩:=V6
     have R6:=G6 (by omega)
     dsimp only at R6
     have n6e:n6=ni:=by have h1:=R6.len; have h2:=HX.out.len; omega
     subst n6e
     have T:=hC.2.1 (by omega)
     have dl:=fun t ht=>(T.dl t ht).2.1
     have hh:=Lib.hid hC
     clear hC
     go_simp
     refine (RdFeedB g Da w A6 n6 c6 xs most sa T.rd dl R6 HLN.out).mono ?_
     rw [HFC.out]
     rintro e w2 ⟨rfl,D',d1,d2,S',K2⟩
     go_simp
     exact hK _ _ rfl (FdC.up1 hh.out T S' K2 d1 d2) (fun h=>by omega)
    ·intro q9 a w E hC K hK
     have h7:a.tmps[7]?=some (.pointer (some ⟨h,0,none⟩)):=(E.out 7 (by kernel_rfl)).trans rfl
     refine want_none rfl ?_
     go_simp
     exact hK _ rfl
    ·intro q9 a w E hC K hK
     have h1:a.tmps[1]?=some (.slice (some ⟨b,off,none⟩) m c):=(E.out 1 (by kernel_rfl)).trans rfl
     refine want_none rfl ?_
     go_simp
     exact hK _ rfl
    ·intro q9 a w E hC K hK
     have h9:a.tmps[9]?=some (.int .i64 (k:Int)):=(E.out 9 (by kernel_rfl)).trans rfl
     refine want_none rfl ?_
     go_simp
     exact hK _ rfl
    ·intro q9 a w E hC K hK
     obtain ⟨_,h56,rfl⟩:=E.pred 9 _ 56 rfl rfl (by kernel_rfl)
     obtain ⟨_,h57,rfl⟩:=E.pred 10 _ 57 rfl rfl (by kernel_rfl)
     refine want_none rfl ?_
     go_simp
     exact hK _ rfl
    ·intro q9 a w E hC K hK
     obtain ⟨_,h58,rfl⟩:=E.pred 11 _ 58 rfl rfl (by kernel_rfl)
     refine want_none rfl ?_
     have h0:=hC.1.1.cell HC0.out (by simp)
     go_simp
     exact hK _ rfl
    ·intro a w E hC K hK
     obtain ⟨_,h55,rfl⟩:=E.pred 8 _ 55 rfl rfl (by kernel_rfl)
     obtain ⟨_,h59,rfl⟩:=E.pred 12 _ 59 rfl rfl (by kernel_rfl)
     refine want_none rfl ?_
     obtain ⟨D',T⟩:=hC.2.2.1 (by omega)
     have el:=fun t ht=>(T.el t ht).2.1
     have hx:=HX.out.keep hC.1.1 (by simp)
     have hh:=Lib.hid hC
     clear hC
     go_simp
     refine (RqFeedB h Ea w Ai ni ci xs most sa T.rq el hx HLN.out).mono ?_
     rw [HFC.out]
     rintro e w2 ⟨rfl,E',d1,d2,S',K2⟩
     go_simp
     exact hK _ _ rfl (FdC.up2 hh.out T S' K2 d1 d2) (fun h=>by omega)
    ·intro q9 a w E hC K hK
     obtain ⟨v7,h54,V7⟩:=E.pred 7 _ 54 rfl rfl (by kernel_rfl)
     replace V7:(fun _ v _=>v=.int .i64 fc) q9 v7 w:=V7
     obtain rfl:=V7
     obtain ⟨v13,h60,V13⟩:=E.pred 13 _ 60 rfl rfl (by kernel_rfl)
     replace V13:(fun _ v _=>v=.int .i64 fc) q9 v13 w:=V13
     obtain rfl:=V13
     refine want_none rfl ?_
     go_simp
     exact hK _ rfl
    intro vs w3 hC hV
    have e14:vs 14=.bool false:=hV 14 _ rfl (by simp)
    obtain ⟨D3,E3,T3⟩:=hC.2.2.2 (by simp)
    have HT3:=Lib.hid T3
    have HAB:=Lib.hid hab
    clear hV hC T3 HT hab HLEN HLN HFC
    simp only [putAll,Act.put,List.setIfInBounds_toArray,Nat.zero_add,Nat.reduceAdd]
    dsimp only [List.set]
    rw [e14]
    go_wp2
    go_loopw [10] (fun j wr=>∃ (q:Nat) (a:Rst) (D E:List Nat),q≤ni+21∧j=.int .i64 q∧Two w0 wr g h D E most a a∧(a.is=true∨a.l.length+9 * q≤16777224+ni)) (fun j _=>ni+21 - (intOf j).toNat)
    case atStart=>exact ⟨0,_,_,_,by omega,rfl,HT3.out,by rcases HAB.out with h | h; exact .inl h; exact .inr (by omega)⟩
    case round =>
     clear HT3 HAB
     obtain ⟨q,a2,D2,E2,hq,rfl,hT,hlen⟩:=hrel
     have HT:=Lib.hid hT
     have hc1:=hT.kp.cell HC0.out (by simp)
     by_cases hqn:q≤ni+20
     ·have hqi:(q:Int)≤(ni:Int)+20:=by omega
      have dl:=fun t ht=>(hT.dl t ht).2.1
      have HLEN:=Lib.hid hlen
      have hrd:=hT.rd
      have hhw:h < wr.heap.size:=by have:=hT.gl; omega
      have hl1:a2.is=true∨a2.l.length≤281474976710656:=by rcases hlen with h | h; exact .inl h; exact .inr (by omega)
      have hl2:a2.is=true∨a2.l.length≤211106232532992:=by rcases hlen with h | h; exact .inl h; exact .inr (by omega)
      have HL2:=Lib.hid hl2
      clear hT hlen hl2
      go_wp2_with fail
      refine (RdNextB g D2 wr most a2.is a2.xs a2.xc a2.l hrd dl (by omega) hl1).mono ?_
      rintro e x2 ⟨o,f,hO,rfl,hf,S2,K2⟩
      have K2s:=Lib.hid K2.size
      have HT2:=Lib.hid (HT.out.stepD (a':=o.rst) (D':=D2) S2 K2 (fun t h=>.inl h) (fun t ht=>Nat.lt_of_lt_of_le (dl t ht) K2.size))
      have HO:=Lib.hid hO
      have HPF:=Lib.hid hf
      have htell:=hO.tells (by omega)
      have HTL:=Lib.hid htell
      have HOK:=Lib.hid hO.ok
      have hdet:∀ o',NxR most a2.is a2.xs a2.xc a2.l o'→o'=o:=fun o' h'=>h'.det hO
      have HDET:=Lib.hid hdet
      obtain ⟨fp,ox,op,ost,ocd,ois,oxs,oxc,ol⟩:=o
      dsimp only [NxO.rst] at HT2 HTL HOK HPF ⊢
      clear hO hf S2 K2 hrd hl1 hc1 htell hdet HO HT dl
      go_wp2_with fail
      generalize hW:World.alloc _ _=x3
      have K3:Kp [] x2 x3:=by rw [← hW]; with_reducible (repeat (first|exact Kp.refl _ _|assumption|refine Kp.alloc ?_ _|refine Kp.drew ?_|refine Kp.drewN ?_ _|(refine Kp.setL ?_ ?_ _;focus (simp;done))|(refine Kp.setR ?_ ?_ _;focus (first|(simp;done)|(simp;omega)))))
      have HF:=Lib.hid (show x3.heap[x2.heap.size]?=some (.cells #[.int .i64 f.ty,.int .i64 f.fl,.int .i64 f.st,.slice f.pA f.pn f.pc,.int .i64 f.pad,.int .u32 f.code,.int .i64 f.last,.int .i64 f.inc,.int .i64 f.dep,.bool f.only,.int .i64 f.wt,.slice f.sA f.sn f.sc] 49) by rw [← hW]; with_reducible (repeat (first|assumption|(refine hp_new _ _ _ ?_;focus (simp;done))|refine hpl ?_|(refine hpf ?_ ?_;focus (first|(simp;done)|(simp;omega)))|refine hpd ?_|refine hpe ?_)))
      have HY:=Lib.hid (show x3.heap[x2.heap.size+1]?=some (.cells #[.bool op,.int .i64 ost,.int .i64 ocd] 64) by rw [← hW]; with_reducible (repeat (first|assumption|(refine hp_new _ _ _ ?_;focus (simp;done))|refine hpl ?_|(refine hpf ?_ ?_;focus (first|(simp;done)|(simp;omega)))|refine hpd ?_|refine hpe ?_)))
      have T3:=HT2.out.keep K3
      have HPF3:=Lib.hid (HPF.out.low K3 (by simp) (Nat.le_refl _))
      clear hW HT2 HPF
      refine (RqNextB h E2 x3 most a2.is a2.xs a2.xc a2.l T3.rq (fun t ht=>(T3.el t ht).2.1) (by omega) HL2.out).mono ?_
      rintro e x4 ⟨o',f2,E4,hO',rfl,hg,e1,e2,S4,K4⟩
      obtain rfl:=HDET.out o' hO'
      have HT4:=Lib.hid (T3.stepE (b':=⟨ois,oxs,oxc,ol⟩) S4 (K4.mono (by simp)) e1 e2)
      have HF4:=Lib.hid (K4.heap HF.out (by have:=K2s.out; simp; omega))
      have HY4:=Lib.hid (K4.heap HY.out (by have:=K2s.out; simp; omega))
      have HPF4:=Lib.hid (HPF3.out.low (base':=wr.heap.size) K4 (by simp; exact hhw) (Nat.le_refl _))
      have HPG4:=Lib.hid hg
      clear hO' hg S4 K4 T3 K3 e1 e2 HF HY HPF3 HDET HL2
      go_wp2
      generalize hW:World.alloc _ _=x5
      have K5:Kp [] x4 x5:=by rw [← hW]; with_reducible (repeat (first|exact Kp.refl _ _|assumption|refine Kp.alloc ?_ _|refine Kp.drew ?_|refine Kp.drewN ?_ _|(refine Kp.setL ?_ ?_ _;focus (simp;done))|(refine Kp.setR ?_ ?_ _;focus (first|(simp;done)|(simp;omega)))))
      have HG:=Lib.hid (show x5.heap[x4.heap.size]?=some (.cells #[.int .i64 f2.ty,.int .i64 f2.fl,.int .i64 f2.st,.slice f2.pA f2.pn f2.pc,.int .i64 f2.pad,.int .u32 f2.code,.int .i64 f2.last,.int .i64 f2.inc,.int .i64 f2.dep,.bool f2.only,.int .i64 f2.wt,.slice f2.sA f2.sn f2.sc] 49) by rw [← hW]; with_reducible (repeat (first|assumption|(refine hp_new _ _ _ ?_;focus (simp;done))|refine hpl ?_|(refine hpf ?_ ?_;focus (first|(simp;done)|(simp;omega)))|refine hpd ?_|refine hpe ?_)))
      have HZ:=Lib.hid (show x5.heap[x4.heap.size+1]?=some (.cells #[.bool op,.int .i64 ost,.int .i64 ocd] 64) by rw [← hW]; with_reducible (repeat (first|assumption|(refine hp_new _ _ _ ?_;focus (simp;done))|refine hpl ?_|(refine hpf ?_ ?_;focus (first|(simp;done)|(simp;omega)))|refine hpd ?_|refine hpe ?_)))
      have HF:=Lib.hid (K5.heap HF4.out (by simp))
      have HY:=Lib.hid (K5.heap HY4.out (by simp))
      have HPF:=Lib.hid (HPF4.out.low K5 (by simp) (Nat.le_refl _))
      have HPG:=Lib.hid (HPG4.out.low K5 (by simp) (Nat.le_refl _))
      have HT5:=Lib.hid (HT4.out.keep K5)
      obtain ⟨rA,rn,rc,hr1,hr2,_,_⟩:=HT5.out.rd
      obtain ⟨qA,qn,qc,hq1,hq2,_,_⟩:=HT5.out.rq
      have hqr:qn=rn:=by have h1:=hr2.len; have h2:=hq2.len; simp at h1 h2; omega
      subst hqr
      have HRD:=Lib.hid hr1
      have HRQ:=Lib.hid hq1
      dsimp only at HRD HRQ
      clear hW HT4 HF4 HY4 HPF4 HPG4 K5 hr1 hr2 hq1 hq2
      generalize x2.heap.size=f11 at HF HY ⊢
      generalize x4.heap.size=f14 at HG HZ ⊢
      refine wp_region_st3 (by kernel_rfl) [fun _ v _=>v=(.agg #[.int .i64 f.ty,.int .i64 f.fl,.int .i64 f.st,.slice f.pA f.pn f.pc,.int .i64 f.pad,.int .u32 f.code,.int .i64 f.last,.int .i64 f.inc,.int .i64 f.dep,.bool f.only,.int .i64 f.wt,.slice f.sA f.sn f.sc]),
        fun _ v _=>v=(.agg #[.int .i64 f2.ty,.int .i64 f2.fl,.int .i64 f2.st,.slice f2.pA f2.pn f2.pc,.int .i64 f2.pad,.int .u32 f2.code,.int .i64 f2.last,.int .i64 f2.inc,.int .i64 f2.dep,.bool f2.only,.int .i64 f2.wt,.slice f2.sA f2.sn f2.sc]),
        fun _ v _=>v=.bool true,
        fun _ v _=>v=(.bool false),
        fun _ v _=>v=(.bool false),
        fun _ v _=>v=(.bool ox),
        fun _ v _=>v=(.bool ox),
        fun _ v _=>v=(.bool false),
        fun _ v _=>v=(.bool false),
        fun _ v _=>v=(.bool false),
        fun _ v _=>v=(.agg #[.bool op,.int .i64 ost,.int .i64 ocd]),
        fun _ v _=>v=(.agg #[.bool op,.int .i64 ost,.int .i64 ocd]),
        fun _ v _=>v=(.bool false),
        fun _ v _=>v=(.bool false),
        fun _ v _=>v=(.bool false),
        fun _ v _=>v=(.pointer (some ⟨g,0,none⟩)),
        fun _ v _=>v=.bool ois,
        fun _ v _=>v=(.pointer (some ⟨h,0,none⟩)),
        fun _ v _=>v=(.pointer (some ⟨h,0,none⟩)),
        fun _ v _=>v=(.pointer (some ⟨h,2,none⟩)),
        fun _ v _=>v=(.pointer (some ⟨h,2,none⟩)),
        fun _ v _=>v=(.bool ois),
        fun _ v _=>v=(.bool false),
        fun _ v _=>v=(.bool false),
        fun _ v _=>v=(.bool false),
        fun _ v _=>v=(.pointer (some ⟨g,0,none⟩)),
        fun _ v _=>v=.int .i64 (qn:Int),
        fun _ v _=>v=(.pointer (some ⟨h,0,none⟩)),
        fun _ v _=>v=(.pointer (some ⟨h,0,none⟩)),
        fun _ v _=>v=(.pointer (some ⟨h,1,none⟩)),
        fun _ v _=>v=(.slice qA qn qc),
        fun _ v _=>v=(.int .i64 (qn:Int)),
        fun _ v _=>v=(.bool false),
        fun _ v _=>v=(.bool false)] (fun _ w=>Kp [] x5 w) (fun _ w w'=>Kp [] w w') (fun w w'=>Kp [] w w') [2,16,26] [] (by kernel_rfl) (by kernel_rfl) (by kernel_rfl) (by decide) (by kernel_rfl) ⟨StabAt2.const _,StabAt2.const _,StabAt2.const _,StabAt2.const _,StabAt2.const _,StabAt2.const _,StabAt2.const _,StabAt2.const _,StabAt2.const _,StabAt2.const _,StabAt2.const _,StabAt2.const _,StabAt2.const _,StabAt2.const _,StabAt2.const _,StabAt2.const _,StabAt2.const _,StabAt2.const _,StabAt2.const _,StabAt2.const _,StabAt2.const _,StabAt2.const _,StabAt2.const _,StabAt2.const _,StabAt2.const _,StabAt2.const _,StabAt2.const _,StabAt2.const _,StabAt2.const _,StabAt2.const _,StabAt2.const _,StabAt2.const _,StabAt2.const _,StabAt2.const _,trivial⟩ ((Kp.refl _ _).drew) ⟨?_,?_,?_,?_,?_,?_,?_,?_,?_,?_,?_,?_,?_,?_,?_,?_,?_,?_,?_,?_,?_,?_,?_,?_,?_,?_,?_,?_,?_,?_,?_,?_,?_,?_,trivial⟩ (by kernel_rfl) ?_
      ·intro q9 a w E hC K hK
       have h11:a.tmps[11]?=some (.pointer (some ⟨f11,0,none⟩)):=(E.out 11 (by kernel_rfl)).trans rfl
       refine want_none rfl ?_
       have hf:=hC.heap HF.out (by simp)
       obtain ⟨q0,q1,q2,q3,q4,q5,q6,q7,q8,q9',q10,q11,qz,qlt,qlt2⟩:=cellsF hf
       clear hf
       go_simp
       exact hK _ rfl
      ·intro q9 a w E hC K hK
       have h14:a.tmps[14]?=some (.pointer (some ⟨f14,0,none⟩)):=(E.out 14 (by kernel_rfl)).trans rfl
       refine want_none rfl ?_
       have hf:=hC.heap HG.out (by simp)
       obtain ⟨q0,q1,q2,q3,q4,q5,q6,q7,q8,q9',q10,q11,qz,qlt,qlt2⟩:=cellsF hf
       clear hf
       go_simp
       exact hK _ rfl
      ·intro a w E hC K hK
       obtain ⟨_,h84,rfl⟩:=E.pred 0 _ 84 rfl rfl (by kernel_rfl)
       obtain ⟨_,h85,rfl⟩:=E.pred 1 _ 85 rfl rfl (by kernel_rfl)
       refine want_none rfl ?_
       have hh:=Lib.hid hC
       clear hC
       go_simp
       refine (same08 f f2 fp _ _ w (HPF.out.low hh.out (by simp) (Nat.le_refl _)) (HPG.out.low hh.out (by simp) (Nat.le_refl _)) HOK.out.1 HOK.out.2.1 HOK.out.2.2).mono ?_
       rintro e w2 ⟨rfl,K2⟩
       go_simp
       exact hK _ _ rfl (hh.out.trans K2) K2
      ·intro q9 a w E hC K hK
       obtain ⟨v2,h86,V2⟩:=E.pred 2 _ 86 rfl rfl (by kernel_rfl)
       replace V2:(fun _ v _=>v=.bool true) q9 v2 w:=V2
       obtain rfl:=V2
       refine want_none rfl ?_
       go_simp
       exact hK _ rfl
      ·intro q9 a w E hC K hK
       obtain ⟨_,h87,rfl⟩:=E.pred 3 _ 87 rfl rfl (by kernel_rfl)
       refine want_none rfl ?_
       go_simp
       exact hK _ rfl
      ·intro q9 a w E hC K hK
       have h12:a.tmps[12]?=some (.bool ox):=(E.out 12 (by kernel_rfl)).trans rfl
       obtain ⟨_,h88,rfl⟩:=E.pred 4 _ 88 rfl rfl (by kernel_rfl)
       refine want_yes rfl rfl rfl h88 ?_
       go_simp
       exact hK _ rfl
      ·intro q9 a w E hC K hK
       have h15:a.tmps[15]?=some (.bool ox):=(E.out 15 (by kernel_rfl)).trans rfl
       obtain ⟨_,h88,rfl⟩:=E.pred 4 _ 88 rfl rfl (by kernel_rfl)
       refine want_yes rfl rfl rfl h88 ?_
       go_simp
       exact hK _ rfl
      ·intro q9 a w E hC K hK
       obtain ⟨_,h89,rfl⟩:=E.pred 5 _ 89 rfl rfl (by kernel_rfl)
       obtain ⟨_,h90,rfl⟩:=E.pred 6 _ 90 rfl rfl (by kernel_rfl)
       obtain ⟨_,h88,rfl⟩:=E.pred 4 _ 88 rfl rfl (by kernel_rfl)
       refine want_yes rfl rfl rfl h88 ?_
       go_simp
       exact hK _ rfl
      ·intro q9 a w E hC K hK
       obtain ⟨_,h88,rfl⟩:=E.pred 4 _ 88 rfl rfl (by kernel_rfl)
       obtain ⟨_,h91,rfl⟩:=E.pred 7 _ 91 rfl rfl (by kernel_rfl)
       refine want_none rfl ?_
       go_simp
       exact hK _ rfl
      ·intro q9 a w E hC K hK
       obtain ⟨_,h92,rfl⟩:=E.pred 8 _ 92 rfl rfl (by kernel_rfl)
       refine want_none rfl ?_
       go_simp
       exact hK _ rfl
      ·intro q9 a w E hC K hK
       have h13:a.tmps[13]?=some (.pointer (some ⟨f11+1,0,none⟩)):=(E.out 13 (by kernel_rfl)).trans rfl
       obtain ⟨_,h93,rfl⟩:=E.pred 9 _ 93 rfl rfl (by kernel_rfl)
       refine want_yes rfl rfl rfl h93 ?_
       have hx:=hC.heap HY.out (by simp)
       have x0:=cell_of hx 0
       have x1:=cell_of hx 1
       have x2:=cell_of hx 2
       have xl:=lt_of_heap hx
       clear hx
       go_simp
       exact hK _ rfl
      ·intro q9 a w E hC K hK
       have h16:a.tmps[16]?=some (.pointer (some ⟨f14+1,0,none⟩)):=(E.out 16 (by kernel_rfl)).trans rfl
       obtain ⟨_,h93,rfl⟩:=E.pred 9 _ 93 rfl rfl (by kernel_rfl)
       refine want_yes rfl rfl rfl h93 ?_
       have hx:=hC.heap HZ.out (by simp)
       have x0:=cell_of hx 0
       have x1:=cell_of hx 1
       have x2:=cell_of hx 2
       have xl:=lt_of_heap hx
       clear hx
       go_simp
       exact hK _ rfl
      ·intro q9 a w E hC K hK
       obtain ⟨_,h94,rfl⟩:=E.pred 10 _ 94 rfl rfl (by kernel_rfl)
       obtain ⟨_,h95,rfl⟩:=E.pred 11 _ 95 rfl rfl (by kernel_rfl)
       obtain ⟨_,h93,rfl⟩:=E.pred 9 _ 93 rfl rfl (by kernel_rfl)
       refine want_yes rfl rfl rfl h93 ?_
       go_simp
       exact hK _ rfl
      ·intro q9 a w E hC K hK
       obtain ⟨_,h93,rfl⟩:=E.pred 9 _ 93 rfl rfl (by kernel_rfl)
       obtain ⟨_,h96,rfl⟩:=E.pred 12 _ 96 rfl rfl (by kernel_rfl)
       refine want_none rfl ?_
       go_simp
       exact hK _ rfl
      ·intro q9 a w E hC K hK
       obtain ⟨_,h97,rfl⟩:=E.pred 13 _ 97 rfl rfl (by kernel_rfl)
       refine want_none rfl ?_
       go_simp
       exact hK _ rfl
      ·intro q9 a w E hC K hK
       have h5:a.tmps[5]?=some (.pointer (some ⟨g,0,none⟩)):=(E.out 5 (by kernel_rfl)).trans rfl
       obtain ⟨_,h98,rfl⟩:=E.pred 14 _ 98 rfl rfl (by kernel_rfl)
       refine want_yes rfl rfl rfl h98 ?_
       go_simp
       exact hK _ rfl
      ·intro a w E hC K hK
       obtain ⟨_,h99,rfl⟩:=E.pred 15 _ 99 rfl rfl (by kernel_rfl)
       obtain ⟨_,h98,rfl⟩:=E.pred 14 _ 98 rfl rfl (by kernel_rfl)
       refine want_yes rfl rfl rfl h98 ?_
       have hr:=hC.heap HRD.out (by simp)
       have hh:=Lib.hid hC
       clear hC
       go_simp
       refine (RdFailed g w rA qn rc most ois oxs oxc hr).mono ?_
       rintro e w2 ⟨rfl,K2⟩
       go_simp
       exact hK _ _ rfl (hh.out.trans K2) K2
      ·intro q9 a w E hC K hK
       have h7:a.tmps[7]?=some (.pointer (some ⟨h,0,none⟩)):=(E.out 7 (by kernel_rfl)).trans rfl
       obtain ⟨_,h98,rfl⟩:=E.pred 14 _ 98 rfl rfl (by kernel_rfl)
       refine want_yes rfl rfl rfl h98 ?_
       go_simp
       exact hK _ rfl
      ·intro q9 a w E hC K hK
       obtain ⟨_,h101,rfl⟩:=E.pred 17 _ 101 rfl rfl (by kernel_rfl)
       obtain ⟨_,h98,rfl⟩:=E.pred 14 _ 98 rfl rfl (by kernel_rfl)
       refine want_yes rfl rfl rfl h98 ?_
       go_simp
       exact hK _ rfl
      ·intro q9 a w E hC K hK
       obtain ⟨_,h102,rfl⟩:=E.pred 18 _ 102 rfl rfl (by kernel_rfl)
       obtain ⟨_,h98,rfl⟩:=E.pred 14 _ 98 rfl rfl (by kernel_rfl)
       refine want_yes rfl rfl rfl h98 ?_
       go_simp
       exact hK _ rfl
      ·intro q9 a w E hC K hK
       obtain ⟨_,h103,rfl⟩:=E.pred 19 _ 103 rfl rfl (by kernel_rfl)
       obtain ⟨_,h98,rfl⟩:=E.pred 14 _ 98 rfl rfl (by kernel_rfl)
       refine want_yes rfl rfl rfl h98 ?_
       go_simp
       exact hK _ rfl
      ·intro q9 a w E hC K hK
       obtain ⟨_,h104,rfl⟩:=E.pred 20 _ 104 rfl rfl (by kernel_rfl)
       obtain ⟨_,h98,rfl⟩:=E.pred 14 _ 98 rfl rfl (by kernel_rfl)
       refine want_yes rfl rfl rfl h98 ?_
       have hr:=hC.heap HRQ.out (by simp)
       have c2:=cell_of hr 2
       have hl2:=lt_of_heap hr
       clear hr
       go_simp
       exact hK _ rfl
      ·intro q9 a w E hC K hK
       obtain ⟨v16,h100,V16⟩:=E.pred 16 _ 100 rfl rfl (by kernel_rfl)
       replace V16:(fun _ v _=>v=.bool ois) q9 v16 w:=V16
       obtain rfl:=V16
       obtain ⟨_,h105,rfl⟩:=E.pred 21 _ 105 rfl rfl (by kernel_rfl)
       obtain ⟨_,h98,rfl⟩:=E.pred 14 _ 98 rfl rfl (by kernel_rfl)
       refine want_yes rfl rfl rfl h98 ?_
       go_simp
       exact hK _ rfl
      ·intro q9 a w E hC K hK
       obtain ⟨_,h98,rfl⟩:=E.pred 14 _ 98 rfl rfl (by kernel_rfl)
       obtain ⟨_,h106,rfl⟩:=E.pred 22 _ 106 rfl rfl (by kernel_rfl)
       refine want_none rfl ?_
       go_simp
       exact hK _ rfl
      ·intro q9 a w E hC K hK
       obtain ⟨_,h107,rfl⟩:=E.pred 23 _ 107 rfl rfl (by kernel_rfl)
       refine want_none rfl ?_
       go_simp
       exact hK _ rfl
      ·intro q9 a w E hC K hK
       have h5:a.tmps[5]?=some (.pointer (some ⟨g,0,none⟩)):=(E.out 5 (by kernel_rfl)).trans rfl
       obtain ⟨_,h108,rfl⟩:=E.pred 24 _ 108 rfl rfl (by kernel_rfl)
       refine want_yes rfl rfl rfl h108 ?_
       go_simp
       exact hK _ rfl
      ·intro a w E hC K hK
       obtain ⟨_,h109,rfl⟩:=E.pred 25 _ 109 rfl rfl (by kernel_rfl)
       obtain ⟨_,h108,rfl⟩:=E.pred 24 _ 108 rfl rfl (by kernel_rfl)
       refine want_yes rfl rfl rfl h108 ?_
       have hr:=hC.heap HRD.out (by simp)
       have hh:=Lib.hid hC
       clear hC
       go_simp
       refine (RdRest g w rA qn rc most ois oxs oxc hr).mono ?_
       rintro e w2 ⟨rfl,K2⟩
       go_simp
       exact hK _ _ rfl (hh.out.trans K2) K2
      ·intro q9 a w E hC K hK
       have h7:a.tmps[7]?=some (.pointer (some ⟨h,0,none⟩)):=(E.out 7 (by kernel_rfl)).trans rfl
       obtain ⟨_,h108,rfl⟩:=E.pred 24 _ 108 rfl rfl (by kernel_rfl)
       refine want_yes rfl rfl rfl h108 ?_
       go_simp
       exact hK _ rfl
      ·intro q9 a w E hC K hK
       obtain ⟨_,h111,rfl⟩:=E.pred 27 _ 111 rfl rfl (by kernel_rfl)
       obtain ⟨_,h108,rfl⟩:=E.pred 24 _ 108 rfl rfl (by kernel_rfl)
       refine want_yes rfl rfl rfl h108 ?_
       go_simp
       exact hK _ rfl
      ·intro q9 a w E hC K hK
       obtain ⟨_,h112,rfl⟩:=E.pred 28 _ 112 rfl rfl (by kernel_rfl)
       obtain ⟨_,h108,rfl⟩:=E.pred 24 _ 108 rfl rfl (by kernel_rfl)
       refine want_yes rfl rfl rfl h108 ?_
       go_simp
       exact hK _ rfl
      ·intro q9 a w E hC K hK
       obtain ⟨_,h113,rfl⟩:=E.pred 29 _ 113 rfl rfl (by kernel_rfl)
       obtain ⟨_,h108,rfl⟩:=E.pred 24 _ 108 rfl rfl (by kernel_rfl)
       refine want_yes rfl rfl rfl h108 ?_
       have hr:=hC.heap HRQ.out (by simp)
       have c1:=cell_of hr 1
       have hl2:=lt_of_heap hr
       clear hr
       go_simp
       exact hK _ rfl
      ·intro q9 a w E hC K hK
       obtain ⟨_,h114,rfl⟩:=E.pred 30 _ 114 rfl rfl (by kernel_rfl)
       obtain ⟨_,h108,rfl⟩:=E.pred 24 _ 108 rfl rfl (by kernel_rfl)
       refine want_yes rfl rfl rfl h108 ?_
       go_simp
       exact hK _ rfl
      ·intro q9 a w E hC K hK
       obtain ⟨v26,h110,V26⟩:=E.pred 26 _ 110 rfl rfl (by kernel_rfl)
       replace V26:(fun _ v _=>v=.int .i64 (qn:Int)) q9 v26 w:=V26
       obtain rfl:=V26
       obtain ⟨_,h115,rfl⟩:=E.pred 31 _ 115 rfl rfl (by kernel_rfl)
       obtain ⟨_,h108,rfl⟩:=E.pred 24 _ 108 rfl rfl (by kernel_rfl)
       refine want_yes rfl rfl rfl h108 ?_
       go_simp
       exact hK _ rfl
      ·intro q9 a w E hC K hK
       obtain ⟨_,h108,rfl⟩:=E.pred 24 _ 108 rfl rfl (by kernel_rfl)
       obtain ⟨_,h116,rfl⟩:=E.pred 32 _ 116 rfl rfl (by kernel_rfl)
       refine want_none rfl ?_
       go_simp
       exact hK _ rfl
      intro vs x8 hC hV
      have e33:vs 33=.bool false:=hV 33 _ rfl (by simp)
      have HT8:=Lib.hid (HT5.out.keep hC)
      have HY8:=Lib.hid (hC.heap HY.out (by simp))
      clear hV hC HT5 HF HY HG HZ HPF HPG HRD HRQ HOK
      simp only [putAll,Act.put,List.setIfInBounds_toArray]
      dsimp only [List.set]
      rw [e33]
      have y0:=cell_of HY8.out 0
      have y1:=cell_of HY8.out 1
      have y2:=cell_of HY8.out 2
      have yl:=lt_of_heap HY8.out
      cases ox with
      | true =>
       have hin:Hid (ois=true∨ol.length+9 * (q+1)≤16777224+ni):=by
        rcases HTL.out.2.2.1 (.inl rfl) with h1 | h1
        ·exact .inl h1
        ·rcases HLEN.out with h2 | h2
         ·exact .inl (HTL.out.2.1 h2).2
         ·exact .inr (by omega)
       clear HTL HLEN
       go_wp2
       go_roundw
       case rel=>exact ⟨q+1,⟨ois,oxs,oxc,ol⟩,D2,E4,by omega,by go_num,HT8.out,hin.out⟩
       case measure=>simp [intOf]; omega
      | false =>
       cases op with
       | false =>
        have hout:Hid (ois=true∨ol.length≤16777224):=by
         rcases HTL.out.2.2.2 ⟨rfl,.inl rfl⟩ with h1 | h1
         ·exact .inl h1
         ·exact .inr (by omega)
        clear HTL HLEN
        go_wp2
        go_roundw
        case rel=>exact ⟨k+1,⟨ois,oxs,oxc,ol⟩,D2,E4,by omega,by go_num,HT8.out,hout.out⟩
        case measure=>simp [intOf]; omega
       | true =>
        by_cases hst:ost=0
        ·have hout:Hid (ois=true∨ol.length≤16777224):=by
          rcases HTL.out.2.2.2 ⟨rfl,.inr hst⟩ with h1 | h1
          ·exact .inl h1
          ·exact .inr (by omega)
         clear HTL HLEN
         go_wp2
         go_roundw
         case rel=>exact ⟨k+1,⟨ois,oxs,oxc,ol⟩,D2,E4,by omega,by go_num,HT8.out,hout.out⟩
         case measure=>simp [intOf]; omega
        ·have hin:Hid (ois=true∨ol.length+9 * (q+1)≤16777224+ni):=by
          rcases HTL.out.2.2.1 (.inr ⟨rfl,hst⟩) with h1 | h1
          ·exact .inl h1
          ·rcases HLEN.out with h2 | h2
           ·exact .inl (HTL.out.2.1 h2).2
           ·exact .inr (by omega)
         clear HTL HLEN
         go_wp2
         go_roundw
         case rel=>exact ⟨q+1,⟨ois,oxs,oxc,ol⟩,D2,E4,by omega,by go_num,HT8.out,hin.out⟩
         case measure=>simp [intOf]; omega
     ·have hqi:¬ (q:Int)≤(ni:Int)+20:=by omega
      have HQ:Hid (a2.is=true∨a2.l.length≤16777224):=by rcases hlen with h | h; exact .inl h; exact .inr (by omega)
      clear hT hlen
      go_wp2
      go_roundw
      case rel=>exact ⟨k+1,a2,D2,E2,by omega,by go_num,HT.out,HQ.out⟩
      case measure=>simp [intOf]; omega
   ·have hki:¬ (k:Int) < (m:Int):=by omega
    have K2:=Lib.hid HT.out.kp
    clear HT hlen
    go_wp2_with fail
    refine (awake08 _).mono ?_
    rintro e w6 ⟨rfl,K6⟩
    go_wp2
    go_ret
    exact ⟨rfl,K2.out.trans K6⟩
 ·go_enter Try.func32,Try.ntmps32
  go_wp2_with fail
  refine (RdNew_no most (by omega) _).mono ?_
  rintro e w1 ⟨rfl,K1⟩
  go_wp2_with fail
  refine (RqNew_no most (by omega) _).mono ?_
  rintro e w2 ⟨rfl,K2⟩
  have K3:=Lib.hid (K1.trans K2)
  clear K1 K2
  go_wp2
  go_loopw [9] (fun i wr=>i=.int .i64 0∧Kp [] w0 wr) (fun _ _=>0)
  case atStart=>exact ⟨rfl,K3.out⟩
  case round =>
   obtain ⟨rfl,k5⟩:=hrel
   go_wp2_with fail
   refine (awake08 _).mono ?_
   rintro e w6 ⟨rfl,k6⟩
   go_wp2
   go_ret
   exact ⟨rfl,k5.trans k6⟩
end Go.Proofs.Ytkmcakneceagpaa
