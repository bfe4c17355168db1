/- The reference's Write of layer 7, whole. 'same' of layer 8's laws. -/
import Derived.Test.YtkmcakneceagpaaQRfMayA
import Derived.Test.YtkmcakneceagpaaQRfMayB
import Derived.Test.YtkmcakneceagpaaQRfMayC
import Derived.Test.YtkmcakneceagpaaQRfMayD
import Derived.Test.YtkmcakneceagpaaQPriP
import Derived.Test.YtkmcakneceagpaaQPrs6
import Derived.Test.YtkmcakneceagpaaQReg4
set_option linter.unusedSimpArgs false
set_option linter.unusedVariables false
set_option maxHeartbeats 8000000
set_option maxRecDepth 100000
namespace Go.Proofs.Ytkmcakneceagpaa
open Go.RowKit
theorem bcase (b:Bool):b=false∨b=true:=by cases b <;> simp
theorem known_of' {n:Int} (h:known n=true):n=0∨n=1∨n=2∨n=3∨n=4∨n=5∨n=6∨n=7∨n=8∨n=9:=by
 simp [known] at h
 omega
theorem rmay_any (f:Fr) (l:List UInt8) (ss:List (Int × Int)) (w:World) (ok:WrOk w f l ss) (hkn:known f.ty=true) :
  Calls Try.prog 148 #[.agg #[.int .i64 f.ty,.int .i64 f.fl,.int .i64 f.st,.slice f.pA f.pn f.pc,.int .i64 f.pad,.int .u32 f.code,.int .i64 f.last,.int .i64 f.inc,.int .i64 f.dep,.bool f.only,.int .i64 f.wt,.slice f.sA f.sn f.sc]] w (BoolK (goodW (f.p l ss)) w):=by
 rcases known_of' hkn with hty | hty | hty | hty | hty | hty | hty | hty | hty | hty
 ·exact rmay0 f l ss w ok hty
 ·exact rmay1 f l ss w ok hty
 ·exact rmay2 f l ss w ok hty
 ·exact rmay3 f l ss w ok hty
 ·exact rmay4 f l ss w ok hty
 ·exact rmay5 f l ss w ok hty
 ·exact rmay6 f l ss w ok hty
 ·exact rmay7 f l ss w ok hty
 ·exact rmay8 f l ss w ok hty
 ·exact rmay9 f l ss w ok hty
theorem rbody_any (f:Fr) (l:List UInt8) (ss:List (Int × Int)) (w:World) (ok:WrOk w f l ss) (hg:goodW (f.p l ss)=true) :
  Calls Try.prog 149 #[.agg #[.int .i64 f.ty,.int .i64 f.fl,.int .i64 f.st,.slice f.pA f.pn f.pc,.int .i64 f.pad,.int .u32 f.code,.int .i64 f.last,.int .i64 f.inc,.int .i64 f.dep,.bool f.only,.int .i64 f.wt,.slice f.sA f.sn f.sc]] w (RdP (bodyW (f.p l ss)) w):=by
 have hkn:known f.ty=true:=(goodW_of hg).1
 rcases known_of' hkn with hty | hty | hty | hty | hty | hty | hty | hty | hty | hty
 ·cases h8:hasB f.fl 8
  ·exact rbody0f f l ss w ok hty hg h8
  ·exact rbody0t f l ss w ok hty hg h8
 ·cases h8:hasB f.fl 8 <;> cases h32:hasB f.fl 32
  ·exact rbody1ff f l ss w ok hty hg h8 h32
  ·rcases bcase f.only with ho | ho
   ·exact rbody1ft_f f l ss w ok hty hg h8 h32 ho
   ·exact rbody1ft_t f l ss w ok hty hg h8 h32 ho
  ·exact rbody1tf f l ss w ok hty hg h8 h32
  ·rcases bcase f.only with ho | ho
   ·exact rbody1tt_f f l ss w ok hty hg h8 h32 ho
   ·exact rbody1tt_t f l ss w ok hty hg h8 h32 ho
 ·rcases bcase f.only with ho | ho
  ·exact rbody2_f f l ss w ok hty hg ho
  ·exact rbody2_t f l ss w ok hty hg ho
 ·exact rbody3 f l ss w ok hty hg
 ·exact rbody4 f l ss w ok hty hg
 ·cases h8:hasB f.fl 8
  ·exact rbody5f f l ss w ok hty hg h8
  ·exact rbody5t f l ss w ok hty hg h8
 ·exact rbody6 f l ss w ok hty hg
 ·exact rbody7 f l ss w ok hty hg
 ·exact rbody8 f l ss w ok hty hg
 ·exact rbody9 f l ss w ok hty hg
theorem bodyW_len (p:Fp) (h:goodW p=true) (hl:p.pl.length≤140737488351232) (hs:p.ss.length * 16≤140737488351232):(bodyW p).length≤140737488352000:=by
 obtain ⟨_,_,_,_,_,h6,_⟩:=goodW_of h
 have hpad:padF p.ty p.fl=true→p.pad.toNat≤255:=by
  intro hp
  have h1:paddedB p.ty=true:=by simp only [padF,Bool.and_eq_true] at hp; exact hp.1
  unfold padOk at h6
  rw [h1] at h6
  simp at h6
  omega
 have h1:(putW p).length≤140737488351300:=by
  unfold putW
  repeat' split
  all_goals (try simp only [flat_len])
  all_goals (try simp [bytesOf_length])
  all_goals omega
 have h2:(if padF p.ty p.fl then [byteOf p.pad] else []).length≤1:=by split <;> simp
 have h3:(if prioB p.ty p.fl then prioW p else []).length≤5:=by split <;> simp [prioW,bytesOf_length]
 have h4:(if padF p.ty p.fl then List.replicate p.pad.toNat (0:UInt8) else []).length≤255:=by
  split
  ·rename_i hp; simpa using hpad hp
  ·simp
 unfold bodyW
 simp only [List.length_append]
 omega

theorem refWrite_any (f:Fr) (l:List UInt8) (ss:List (Int × Int)) (w0:World) (ok:WrOk w0 f l ss) :
  Calls Try.prog 99 #[.agg #[.int .i64 f.ty,.int .i64 f.fl,.int .i64 f.st,.slice f.pA f.pn f.pc,.int .i64 f.pad,.int .u32 f.code,.int .i64 f.last,.int .i64 f.inc,.int .i64 f.dep,.bool f.only,.int .i64 f.wt,.slice f.sA f.sn f.sc]] w0 (OwE 5 (wr (f.p l ss)).1 (wr (f.p l ss)).2 w0):=by
 obtain ⟨⟨R1,R2⟩,hR⟩:∃ R,wr (f.p l ss)=R:=⟨_,rfl⟩
 rw [hR]
 have HRR:=Lib.hid hR
 clear hR
 dsimp only
 have HOK:=Lib.hid ok
 clear ok
 have K0:Kp [] w0 (w0.alloc (.cells #[.int .i64 f.ty,.int .i64 f.fl,.int .i64 f.st,.slice f.pA f.pn f.pc,.int .i64 f.pad,.int .u32 f.code,.int .i64 f.last,.int .i64 f.inc,.int .i64 f.dep,.bool f.only,.int .i64 f.wt,.slice f.sA f.sn f.sc] 49)):=(Kp.refl _ _).alloc _
 have hOK1:WrOk (w0.alloc (.cells #[.int .i64 f.ty,.int .i64 f.fl,.int .i64 f.st,.slice f.pA f.pn f.pc,.int .i64 f.pad,.int .u32 f.code,.int .i64 f.last,.int .i64 f.inc,.int .i64 f.dep,.bool f.only,.int .i64 f.wt,.slice f.sA f.sn f.sc] 49)) f l ss:=⟨HOK.out.rd.keep K0 (by simp),HOK.out.pn,HOK.out.code,HOK.out.sd.keep K0 (by simp),HOK.out.sn⟩
 have HOK1:=Lib.hid hOK1
 have HB:=Lib.hid (hp_new w0 (.cells #[.int .i64 f.ty,.int .i64 f.fl,.int .i64 f.st,.slice f.pA f.pn f.pc,.int .i64 f.pad,.int .u32 f.code,.int .i64 f.last,.int .i64 f.inc,.int .i64 f.dep,.bool f.only,.int .i64 f.wt,.slice f.sA f.sn f.sc] 49) _ rfl)
 have HK:=Lib.hid K0
 clear hOK1 K0
 by_cases hkn:known f.ty=true
 ·have HKN:=Lib.hid (show knownB f.ty=true from hkn)
  by_cases hg:goodW (f.p l ss)=true
  ·have hw:=goodW_of hg
   have hfl0:0≤f.fl:=hw.2.1.1
   have hfl1:f.fl≤255:=hw.2.1.2
   have hst:=idB_of (show idB f.st=true from hw.2.2.1)
   have hst0:=hst.1
   have hst1:=hst.2
   have hty:0≤f.ty∧f.ty≤255:=by have:=known_of' hkn; omega
   have hty0:=hty.1
   have hty1:=hty.2
   have HG:=Lib.hid hg
   have HKN2:=Lib.hid hkn
   have hbl:=bodyW_len (f.p l ss) hg (by show l.length≤_; rw [HOK.out.rd.len]; exact HOK.out.pn) (by show ss.length * 16≤_; rw [HOK.out.sd.len]; exact HOK.out.sn)
   obtain ⟨BB,hBB⟩:∃ B,bodyW (f.p l ss)=B:=⟨_,rfl⟩
   rw [hBB] at hbl
   have HBB:=Lib.hid hBB
   clear hw hst hty hg hkn hBB
   go_enter Try.func99,Try.ntmps99
   go_wp2_with fail
   generalize hW:w0.alloc (.cells #[.int .i64 f.ty,.int .i64 f.fl,.int .i64 f.st,.slice f.pA f.pn f.pc,.int .i64 f.pad,.int .u32 f.code,.int .i64 f.last,.int .i64 f.inc,.int .i64 f.dep,.bool f.only,.int .i64 f.wt,.slice f.sA f.sn f.sc] 49)=w1 at *
   clear hW
   have f_0:=cell_of HB.out 0
   refine (refKnown_any f.ty _).mono ?_
   rintro e w2 ⟨rfl,rfl⟩
   rw [HKN.out]
   have f_1:=cell_of HB.out 1
   have f_2:=cell_of HB.out 2
   have f_3:=cell_of HB.out 3
   have f_4:=cell_of HB.out 4
   have f_5:=cell_of HB.out 5
   have f_6:=cell_of HB.out 6
   have f_7:=cell_of HB.out 7
   have f_8:=cell_of HB.out 8
   have f_9:=cell_of HB.out 9
   have f_10:=cell_of HB.out 10
   have f_11:=cell_of HB.out 11
   go_wp2_with fail
   refine (rmay_any f l ss _ HOK1.out HKN2.out).mono ?_
   rintro e w3 ⟨rfl,K3⟩
   rw [HG.out]
   have HOK3:=Lib.hid (show WrOk w3 f l ss from ⟨HOK1.out.rd.keep K3 (by simp),HOK1.out.pn,HOK1.out.code,HOK1.out.sd.keep K3 (by simp),HOK1.out.sn⟩)
   have HK3:=Lib.hid (HK.out.trans K3)
   have HB3:=Lib.hid (K3.heap HB.out (by simp))
   clear HK HB K3 HOK1 f_0 f_1 f_2 f_3 f_4 f_5 f_6 f_7 f_8 f_9 f_10 f_11
   have f_0:=cell_of HB3.out 0
   have f_1:=cell_of HB3.out 1
   have f_2:=cell_of HB3.out 2
   have f_3:=cell_of HB3.out 3
   have f_4:=cell_of HB3.out 4
   have f_5:=cell_of HB3.out 5
   have f_6:=cell_of HB3.out 6
   have f_7:=cell_of HB3.out 7
   have f_8:=cell_of HB3.out 8
   have f_9:=cell_of HB3.out 9
   have f_10:=cell_of HB3.out 10
   have f_11:=cell_of HB3.out 11
   go_wp2_with fail
   refine (rbody_any f l ss _ HOK3.out HG.out).mono ?_
   rintro e w4 ⟨Ab,nb,cb,rfl,Rb,K4⟩
   rw [HBB.out] at Rb
   have hnb:=Rb.len
   subst hnb
   have HRB:=Lib.hid Rb
   have HK4:=Lib.hid (HK3.out.trans K4)
   have HB4:=Lib.hid (K4.heap HB3.out (by simp))
   clear HK3 HB3 K4 HOK3 Rb f_0 f_1 f_2 f_3 f_4 f_5 f_6 f_7 f_8 f_9 f_10 f_11
   have f_0:=cell_of HB4.out 0
   have f_1:=cell_of HB4.out 1
   have f_2:=cell_of HB4.out 2
   have f_3:=cell_of HB4.out 3
   have f_4:=cell_of HB4.out 4
   have f_5:=cell_of HB4.out 5
   have f_6:=cell_of HB4.out 6
   have f_7:=cell_of HB4.out 7
   have f_8:=cell_of HB4.out 8
   have f_9:=cell_of HB4.out 9
   have f_10:=cell_of HB4.out 10
   have f_11:=cell_of HB4.out 11
   go_wp2_with fail
   refine (refPut24_any (BB.length:Int) _ (by omega)).mono ?_
   rintro e w5 ⟨Ao,no,co,rfl,Oo,K5⟩
   have HK5:=Lib.hid (HK4.out.trans K5)
   have HB5:=Lib.hid (K5.heap HB4.out (by simp))
   have HRB5:=Lib.hid (HRB.out.keep K5 (by simp))
   have HRBL:=HRB
   have HS5:=Lib.hid K5.size
   have HS4:=Lib.hid (lt_of_heap HB4.out)
   clear HK4 HB4 K5 HRB f_0 f_1 f_2 f_3 f_4 f_5 f_6 f_7 f_8 f_9 f_10 f_11
   have f_0:=cell_of HB5.out 0
   have f_1:=cell_of HB5.out 1
   have f_2:=cell_of HB5.out 2
   have f_3:=cell_of HB5.out 3
   have f_4:=cell_of HB5.out 4
   have f_5:=cell_of HB5.out 5
   have f_6:=cell_of HB5.out 6
   have f_7:=cell_of HB5.out 7
   have f_8:=cell_of HB5.out 8
   have f_9:=cell_of HB5.out 9
   have f_10:=cell_of HB5.out 10
   have f_11:=cell_of HB5.out 11
   have hltB:=lt_of_heap HB5.out
   by_cases hbig:BB.length < 16777216
   ·have HPW:=Lib.hid (show putR (BB.length:Int) 3 16777216=(bytesOf BB.length 3,0) from putR_yes (by omega))
    rw [HPW.out] at Oo ⊢
    dsimp only at Oo ⊢
    have hno:no=3:=by have:=Oo.len; simp [bytesOf_length] at this; omega
    subst hno
    have hO5:=Oo
    clear Oo
    have HBL:=Lib.hid (fun (hp:0 < BB.length)=>HRBL.out.at_.lt (by simpa using hp))
    obtain ⟨bs,hbs⟩:∃ bs,w4.heap.size=bs:=⟨_,rfl⟩
    rw [hbs] at hO5 HBL
    have hbsz:bs≤w5.heap.size:=by have:=HS5.out; omega
    have hBb:w0.heap.size < bs:=by have:=HS4.out; omega
    clear hbs HS4 HS5
    have HO:=Lib.hid hO5
    have hcO:=hO5.cap.1
    clear hO5
    have HB:=HB5
    have HK:=HK5
    have HRB:=HRB5
    clear HB5 HK5 HRB5 HRBL
    have hltB1:=Nat.lt_succ_of_lt hltB
    go_wp2_with (with_reducible refine stopAt (o:=⟨some 34,_,_,_,_,_⟩) ?_)
    generalize hW:World.alloc _ _=w7
    have K7:Kp [] w5 w7:=by rw [← hW]; with_reducible (repeat (first|exact Kp.refl _ _|assumption|refine Kp.alloc ?_ _|refine Kp.drew ?_|refine Kp.drewN ?_ _|(refine Kp.setL ?_ ?_ _;focus (simp;done))|(refine Kp.setR ?_ ?_ _;focus (first|(simp;done)|(simp;omega)))))
    have HN7:=Lib.hid (show w7.heap[w5.heap.size]?=some (.cells #[.int .u8 f.ty,.int .u8 f.fl] 5) by rw [← hW]; with_reducible (repeat (first|assumption|(refine hp_new _ _ _ ?_;focus (simp;done))|refine hpl ?_|(refine hpf ?_ ?_;focus (first|(simp;done)|(simp;omega)))|refine hpd ?_|refine hpe ?_)))
    clear hW
    have HRB':=Lib.hid (HRB.out.keep K7 (by simp))
    clear HRB
    have HRB:=HRB'
    clear HRB'
    have HO':=Lib.hid (HO.out.keep K7 (by simp))
    clear HO
    have HO:=HO'
    clear HO'
    have hbsz':bs≤_:=Nat.le_trans hbsz K7.size
    clear hbsz
    have hbsz:=hbsz'
    clear hbsz'
    have HB':=Lib.hid (K7.heap HB.out (by simp))
    have HK':=Lib.hid (HK.out.trans K7)
    clear f_0 f_1 f_2 f_3 f_4 f_5 f_6 f_7 f_8 f_9 f_10 f_11 hltB hltB1 HB HK K7
    have HB:=HB'
    have HK:=HK'
    clear HB' HK'
    obtain ⟨f_0,f_1,f_2,f_3,f_4,f_5,f_6,f_7,f_8,f_9,f_10,f_11,hltB,hltB1⟩:=cells12 HB.out
    refine Stop.go (wp_appB rfl _ _ 22 5 rfl Try.underlying22 Try.info5 bs Ao 3 co (bytesOf BB.length 3) rfl HO.out (some ⟨w5.heap.size,0,none⟩) 2 2 [byteOf f.ty,byteOf f.fl] rfl (Rd.block HN7.out 0 2 2 _ rfl (Nat.le_refl _) (by simp; exact ⟨u8_of hty0 hty1,u8_of hfl0 hfl1⟩)) (by omega) (by omega) ?_)
    intro A8 n8 c8 l8 w8 hn8 hl8 O8 K8 hA8
    clear hA8 HN7
    have HRB':=Lib.hid (HRB.out.keep K8 (fun hp x h1 h2=>by have:=HBL.out hp x h1; have:=(HO.out.base x h2).1; omega))
    clear HRB
    have HRB:=HRB'
    clear HRB'
    have HB':=Lib.hid (K8.heap HB.out (by intro hx; have:=(HO.out.base _ hx).1; omega))
    have HK':=Lib.hid (HK.out.then K8 (fun t ht=>.inr (by have:=(HO.out.base t ht).1; omega)))
    have hbsz':bs≤_:=Nat.le_trans hbsz K8.size
    clear f_0 f_1 f_2 f_3 f_4 f_5 f_6 f_7 f_8 f_9 f_10 f_11 hltB hltB1 HB HK hbsz
    have HB:=HB'
    have HK:=HK'
    have hbsz:=hbsz'
    clear HB' HK' hbsz'
    obtain ⟨f_0,f_1,f_2,f_3,f_4,f_5,f_6,f_7,f_8,f_9,f_10,f_11,hltB,hltB1⟩:=cells12 HB.out
    clear HO K8
    have hc8:=O8.cap.1
    have hN8a:n8≤3+2:=Nat.le_of_eq hn8.out
    have HO:=Lib.hid O8
    clear O8 hn8
    go_wp2_with fail
    refine (rfourF f.st _ hst0 hst1).mono ?_
    rintro e w9 ⟨A4,n4,c4,rfl,O4,K9⟩
    have hn4:n4=4:=by have:=O4.len; simp [bytesOf_length] at this; omega
    subst hn4
    have HR4:=Lib.hid O4.rd
    clear O4
    have HRB':=Lib.hid (HRB.out.keep K9 (by simp))
    clear HRB
    have HRB:=HRB'
    clear HRB'
    have HO':=Lib.hid (HO.out.keep K9 (by simp))
    clear HO
    have HO:=HO'
    clear HO'
    have hbsz':bs≤_:=Nat.le_trans hbsz K9.size
    clear hbsz
    have hbsz:=hbsz'
    clear hbsz'
    have HB':=Lib.hid (K9.heap HB.out (by simp))
    have HK':=Lib.hid (HK.out.trans K9)
    clear f_0 f_1 f_2 f_3 f_4 f_5 f_6 f_7 f_8 f_9 f_10 f_11 hltB hltB1 HB HK K9
    have HB:=HB'
    have HK:=HK'
    clear HB' HK'
    obtain ⟨f_0,f_1,f_2,f_3,f_4,f_5,f_6,f_7,f_8,f_9,f_10,f_11,hltB,hltB1⟩:=cells12 HB.out
    go_wp2_with (with_reducible refine stopAt (o:=⟨some 39,_,_,_,_,_⟩) ?_)
    refine Stop.go (wp_appB rfl _ _ 22 5 rfl Try.underlying22 Try.info5 bs A8 n8 c8 l8 rfl HO.out A4 4 c4 (bytesOf f.st.toNat 4) rfl HR4.out (by omega) (by omega) ?_)
    intro A10 n10 c10 l10 w10 hn10 hl10 O10 K10 hA10
    clear hA10 HR4
    have HRB':=Lib.hid (HRB.out.keep K10 (fun hp x h1 h2=>by have:=HBL.out hp x h1; have:=(HO.out.base x h2).1; omega))
    clear HRB
    have HRB:=HRB'
    clear HRB'
    have HB':=Lib.hid (K10.heap HB.out (by intro hx; have:=(HO.out.base _ hx).1; omega))
    have HK':=Lib.hid (HK.out.then K10 (fun t ht=>.inr (by have:=(HO.out.base t ht).1; omega)))
    have hbsz':bs≤_:=Nat.le_trans hbsz K10.size
    clear f_0 f_1 f_2 f_3 f_4 f_5 f_6 f_7 f_8 f_9 f_10 f_11 hltB hltB1 HB HK hbsz
    have HB:=HB'
    have HK:=HK'
    have hbsz:=hbsz'
    clear HB' HK' hbsz'
    obtain ⟨f_0,f_1,f_2,f_3,f_4,f_5,f_6,f_7,f_8,f_9,f_10,f_11,hltB,hltB1⟩:=cells12 HB.out
    clear HO K10
    have hc10:=O10.cap.1
    have hN10a:n10≤n8+4:=Nat.le_of_eq hn10.out
    have HO:=Lib.hid O10
    clear O10 hn10
    go_wp2_with (with_reducible refine stopAt (o:=⟨some 42,_,_,_,_,_⟩) ?_)
    refine Stop.go (wp_appB rfl _ _ 22 5 rfl Try.underlying22 Try.info5 bs A10 n10 c10 l10 rfl HO.out Ab BB.length cb BB rfl HRB.out (by omega) (by omega) ?_)
    intro A12 n12 c12 l12 w12 hn12 hl12 O12 K12 hA12
    have HK12:=Lib.hid (HK.out.then K12 (fun t ht=>.inr (by have:=(HO.out.base t ht).1; omega)))
    have HO12:=Lib.hid O12
    clear O12 K12 hA12 hn12
    have hw:=wr_ok HG.out HBB.out hbig
    have hp:=HRR.out.symm.trans hw
    have h1:R1=l12:=by
     have:=congrArg Prod.fst hp
     dsimp only at this
     rw [this,hl12.out,hl10.out,hl8.out]
     rfl
    have h2:R2=0:=congrArg Prod.snd hp
    have H1:=Lib.hid h1
    subst h2
    clear hw hp h1
    go_wp2
    go_ret2
    exact ⟨A12,n12,c12,rfl,by rw [H1.out]; exact HO12.out.mono (by omega),HK12.out⟩
   ·have HPW:=Lib.hid (show putR (BB.length:Int) 3 16777216=([],1) from putR_no (by omega))
    rw [HPW.out] at Oo ⊢
    dsimp only at Oo ⊢
    have hw:=wr_long HG.out HBB.out hbig
    have hp:=HRR.out.symm.trans hw
    have h1:R1=[]:=congrArg Prod.fst hp
    have h2:R2=2:=congrArg Prod.snd hp
    subst h1 h2
    clear hw hp Oo
    go_wp2
    go_ret2
    exact ⟨none,0,0,rfl,Ow.nil _ _ _ _,HK5.out⟩
  ·have hg':goodW (f.p l ss)=false:=by simpa using hg
   have hp:=HRR.out.symm.trans (wr_bad hg')
   have h1:R1=[]:=congrArg Prod.fst hp
   have h2:R2=1:=congrArg Prod.snd hp
   have HG:=Lib.hid hg'
   have HKN2:=Lib.hid hkn
   subst h1 h2
   clear hp hg hg' hkn
   go_enter Try.func99,Try.ntmps99
   go_wp2_with fail
   generalize hW:w0.alloc (.cells #[.int .i64 f.ty,.int .i64 f.fl,.int .i64 f.st,.slice f.pA f.pn f.pc,.int .i64 f.pad,.int .u32 f.code,.int .i64 f.last,.int .i64 f.inc,.int .i64 f.dep,.bool f.only,.int .i64 f.wt,.slice f.sA f.sn f.sc] 49)=w1 at *
   clear hW
   refine (refKnown_any f.ty _).mono ?_
   rintro e w2 ⟨rfl,rfl⟩
   rw [HKN.out]
   have f_0:=cell_of HB.out 0
   have f_1:=cell_of HB.out 1
   have f_2:=cell_of HB.out 2
   have f_3:=cell_of HB.out 3
   have f_4:=cell_of HB.out 4
   have f_5:=cell_of HB.out 5
   have f_6:=cell_of HB.out 6
   have f_7:=cell_of HB.out 7
   have f_8:=cell_of HB.out 8
   have f_9:=cell_of HB.out 9
   have f_10:=cell_of HB.out 10
   have f_11:=cell_of HB.out 11
   go_wp2_with fail
   refine (rmay_any f l ss _ HOK1.out HKN2.out).mono ?_
   rintro e w3 ⟨rfl,K3⟩
   rw [HG.out]
   have HK3:=Lib.hid (HK.out.trans K3)
   clear K3 f_0 f_1 f_2 f_3 f_4 f_5 f_6 f_7 f_8 f_9 f_10 f_11
   go_wp2
   go_ret2
   exact ⟨none,0,0,rfl,Ow.nil _ _ _ _,HK3.out⟩
 ·have hkn':known f.ty=false:=by simpa using hkn
  have hp:=HRR.out.symm.trans (wr_bad (show goodW (f.p l ss)=false by simp [goodW,Fr.p,hkn']))
  have h1:R1=[]:=congrArg Prod.fst hp
  have h2:R2=1:=congrArg Prod.snd hp
  have HKN:=Lib.hid (show knownB f.ty=false from hkn')
  subst h1 h2
  clear hp hkn hkn'
  go_enter Try.func99,Try.ntmps99
  go_wp2_with fail
  refine (refKnown_any f.ty _).mono ?_
  rintro e w2 ⟨rfl,rfl⟩
  rw [HKN.out]
  go_wp2
  go_ret2
  exact ⟨none,0,0,rfl,Ow.nil _ _ _ _,HK.out⟩
end Go.Proofs.Ytkmcakneceagpaa

namespace Go.Proofs.Ytkmcakneceagpaa
open Go.RowKit
theorem WrOk.kp8 {w w':World} {f:Fr} {l:List UInt8} {ss:List (Int × Int)} (h:WrOk w f l ss) (k:Kp [] w w'):WrOk w' f l ss:=⟨h.rd.keep k (by simp),h.pn,h.code,h.sd.keep k (by simp),h.sn⟩
theorem FrP.wrok {w:World} {b:Nat} {f:Fr} {p:Fp} (h:FrP w b f p) (ok:OkP p) (h1:p.pl.length < 16777216) (h2:p.ss.length < 16777216):WrOk w f p.pl p.ss:=by
 have e1:=h.rd.len
 have e2:=h.sd.len
 have e3:=h.cs.2.2.2.2.1
 exact ⟨h.rd,by omega,by rw [e3]; exact ⟨ok.c0,ok.c1⟩,h.sd,by omega⟩
theorem same08w (f g:Fr) (pl pl':List UInt8) (ss ss':List (Int × Int)) (w0:World) (hf:WrOk w0 f pl ss) (hg:WrOk w0 g pl' ss') (hwr:wr (f.p pl ss)=wr (g.p pl' ss')) (hty:f.ty=g.ty) :
  Calls Try.prog 111 #[.agg #[.int .i64 f.ty,.int .i64 f.fl,.int .i64 f.st,.slice f.pA f.pn f.pc,.int .i64 f.pad,.int .u32 f.code,.int .i64 f.last,.int .i64 f.inc,.int .i64 f.dep,.bool f.only,.int .i64 f.wt,.slice f.sA f.sn f.sc],.agg #[.int .i64 g.ty,.int .i64 g.fl,.int .i64 g.st,.slice g.pA g.pn g.pc,.int .i64 g.pad,.int .u32 g.code,.int .i64 g.last,.int .i64 g.inc,.int .i64 g.dep,.bool g.only,.int .i64 g.wt,.slice g.sA g.sn g.sc]] w0 (Yes w0):=by
 have HTY:=Lib.hid hty
 have HWF:=Lib.hid hf
 have HWG:=Lib.hid hg
 have HEG:=Lib.hid hwr.symm
 clear hf hg hwr hty
 obtain ⟨⟨x,e⟩,hx⟩:∃ r,wr (f.p pl ss)=r:=⟨_,rfl⟩
 have HX:=Lib.hid hx
 clear hx
 go_enter Try.func111,Try.ntmps111
 go_wp2_with fail
 generalize hW:World.alloc _ _=w1
 have K1:Kp [] w0 w1:=by rw [← hW]; with_reducible (repeat (first|exact Kp.refl _ _|assumption|refine Kp.alloc ?_ _|refine Kp.drew ?_|refine Kp.drewN ?_ _|(refine Kp.setL ?_ ?_ _;focus (simp;done))|(refine Kp.setR ?_ ?_ _;focus (first|(simp;done)|(simp;omega)))))
 have HA:=Lib.hid (show w1.heap[w0.heap.size]?=some (.cells #[.int .i64 f.ty,.int .i64 f.fl,.int .i64 f.st,.slice f.pA f.pn f.pc,.int .i64 f.pad,.int .u32 f.code,.int .i64 f.last,.int .i64 f.inc,.int .i64 f.dep,.bool f.only,.int .i64 f.wt,.slice f.sA f.sn f.sc] 49) by rw [← hW]; with_reducible (repeat (first|assumption|(refine hp_new _ _ _ ?_;focus (simp;done))|refine hpl ?_|(refine hpf ?_ ?_;focus (first|(simp;done)|(simp;omega)))|refine hpd ?_|refine hpe ?_)))
 have HB:=Lib.hid (show w1.heap[w0.heap.size+1]?=some (.cells #[.int .i64 g.ty,.int .i64 g.fl,.int .i64 g.st,.slice g.pA g.pn g.pc,.int .i64 g.pad,.int .u32 g.code,.int .i64 g.last,.int .i64 g.inc,.int .i64 g.dep,.bool g.only,.int .i64 g.wt,.slice g.sA g.sn g.sc] 49) by rw [← hW]; with_reducible (repeat (first|assumption|(refine hp_new _ _ _ ?_;focus (simp;done))|refine hpl ?_|(refine hpf ?_ ?_;focus (first|(simp;done)|(simp;omega)))|refine hpd ?_|refine hpe ?_)))
 clear hW
 refine (refWrite_any f pl ss w1 (HWF.out.kp8 K1)).mono ?_
 rintro e1 w2 ⟨A1,n1,c1,rfl,O1,K2⟩
 rw [HX.out] at O1 ⊢
 dsimp only at O1 ⊢
 have HO1:=Lib.hid O1.rd
 have HA2:=Lib.hid (K2.heap HA.out (by simp))
 have HB2:=Lib.hid (K2.heap HB.out (by simp))
 have HK2:=Lib.hid (K1.trans K2)
 clear O1 K1 K2 HA HB
 obtain ⟨a0,a1,a2,a3,a4,a5,a6,a7,a8,a9,a10,a11,az,alt,alt2⟩:=cellsF HA2.out
 obtain ⟨b0,b1,b2,b3,b4,b5,b6,b7,b8,b9,b10,b11,bz,blt,blt2⟩:=cellsF HB2.out
 go_wp2_with fail
 refine (refWrite_any g pl' ss' w2 (HWG.out.kp8 HK2.out)).mono ?_
 rintro e1 w3 ⟨A3,n3,c3,rfl,O3,K3⟩
 rw [HEG.out,HX.out] at O3 ⊢
 dsimp only at O3 ⊢
 have HO3:=Lib.hid O3.rd
 have HO1':=Lib.hid (HO1.out.keep K3 (by simp))
 have HA3:=Lib.hid (K3.heap HA2.out (by simp))
 have HB3:=Lib.hid (K3.heap HB2.out (by simp))
 have HK3:=Lib.hid (HK2.out.trans K3)
 clear O3 K3 HA2 HB2 HK2 HO1 a0 a1 a2 a3 a4 a5 a6 a7 a8 a9 a10 a11 az alt alt2 b0 b1 b2 b3 b4 b5 b6 b7 b8 b9 b10 b11 bz blt blt2
 obtain ⟨a0,a1,a2,a3,a4,a5,a6,a7,a8,a9,a10,a11,az,alt,alt2⟩:=cellsF HA3.out
 obtain ⟨b0,b1,b2,b3,b4,b5,b6,b7,b8,b9,b10,b11,bz,blt,blt2⟩:=cellsF HB3.out
 go_wp2_with (with_reducible refine stopAt (o:=⟨some 20,_,_,_,_,_⟩) ?_)
 refine Stop.go (wpList_str rfl 22 5 9 _ rfl Try.underlying22 Try.underlying5 Try.underlying9 rfl (HO1'.out) ?_)
 go_wp2_with (with_reducible refine stopAt (o:=⟨some 22,_,_,_,_,_⟩) ?_)
 refine Stop.go (wpList_str rfl 22 5 9 _ rfl Try.underlying22 Try.underlying5 Try.underlying9 rfl (HO3.out) ?_)
 have hty:=HTY.out
 go_wp2
 go_ret
 exact ⟨by simp,HK3.out⟩
theorem same08 (f g:Fr) (p:Fp) (b b':Nat) (w0:World) (hf:FrP w0 b f p) (hg:FrP w0 b' g p) (ok:OkP p) (h1:p.pl.length < 16777216) (h2:p.ss.length < 16777216) :
  Calls Try.prog 111 #[.agg #[.int .i64 f.ty,.int .i64 f.fl,.int .i64 f.st,.slice f.pA f.pn f.pc,.int .i64 f.pad,.int .u32 f.code,.int .i64 f.last,.int .i64 f.inc,.int .i64 f.dep,.bool f.only,.int .i64 f.wt,.slice f.sA f.sn f.sc],.agg #[.int .i64 g.ty,.int .i64 g.fl,.int .i64 g.st,.slice g.pA g.pn g.pc,.int .i64 g.pad,.int .u32 g.code,.int .i64 g.last,.int .i64 g.inc,.int .i64 g.dep,.bool g.only,.int .i64 g.wt,.slice g.sA g.sn g.sc]] w0 (Yes w0) :=
 same08w f g p.pl p.pl p.ss p.ss w0 (hf.wrok ok h1 h2) (hg.wrok ok h1 h2) (by rw [hf.eq,hg.eq]) (hf.cs.1.trans hg.cs.1.symm)
end Go.Proofs.Ytkmcakneceagpaa
