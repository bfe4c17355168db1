/- The reference's may of layer 7, walked (7,8). The reference's may of layer 7, walked (4). -/
import Derived.Test.YtkmcakneceagpaaQFieldRef
import Derived.Test.YtkmcakneceagpaaQRdF
set_option linter.unusedSimpArgs false
set_option linter.unusedVariables false
set_option maxHeartbeats 8000000
set_option maxRecDepth 100000
namespace Go.Proofs.Ytkmcakneceagpaa
open Go.RowKit
theorem rmay7 (f:Fr) (l:List UInt8) (ss:List (Int × Int)) (w0:World) (ok:WrOk w0 f l ss) (hty:f.ty=7) :
  Calls Try.prog 148 #[.agg #[.int .i64 f.ty,.int .i64 f.fl,.int .i64 f.st,.slice f.pA f.pn f.pc,.int .i64 f.pad,.int .u32 f.code,.int .i64 f.last,.int .i64 f.inc,.int .i64 f.dep,.bool f.only,.int .i64 f.wt,.slice f.sA f.sn f.sc]] w0 (BoolK (goodW (f.p l ss)) w0):=by
 obtain ⟨hrd,hpn,hcode,hsd,hsn⟩:=ok
 obtain ⟨ty,fl,st,pA,pn,pc,pad,code,last,inc,dep,only,wt,sA,sn,sc⟩:=f
 dsimp only at *
 subst hty
 have HRD:=Lib.hid hrd
 have HSD:=Lib.hid hsd
 clear hrd hsd hcode
 by_cases hfl0:0≤fl
 ·by_cases hfl1:fl≤255
  ·by_cases hst:idB st=true
   ·have HST:=Lib.hid hst
    clear hst
    by_cases hs:st=0
    ·have HRI:=Lib.hid (show (false || (true == decide (st=0)))=true by simp [hs])
     have HS:=Lib.hid hs
     clear hs
     have HPRI:=Lib.hid (show prioB 7 fl=false by simp [prioB])
     by_cases hla:idB last=true
     ·have HLA:=Lib.hid (show idB last=true by simpa using hla)
      clear hla
      have e:goodW ((⟨7,fl,st,pA,pn,pc,pad,code,last,inc,dep,only,wt,sA,sn,sc⟩:Fr).p l ss)=true:=by simp [goodW,Fr.p,known,rightB,zeroB,mayK,padOk,paddedB,prioOk,prioB,padF,hfl0,hfl1,HST.out,HS.out,(show idB 0=true from rfl),HLA.out]
      rw [e]
      clear e
      go_enter Try.func148,Try.ntmps148
      go_wp2_with fail
      refine (ridF st _).mono ?_
      rintro e w1 ⟨rfl,rfl⟩
      rw [HST.out]
      go_wp2_with fail
      refine (rright7 st _).mono ?_
      rintro e w1 ⟨rfl,rfl⟩
      rw [HRI.out]
      go_wp2_with fail
      refine (rpad7 _).mono ?_
      rintro e w1 ⟨rfl,rfl⟩
      go_wp2_with fail
      refine (rprio7 fl _ hfl0 hfl1).mono ?_
      rintro e w1 ⟨rfl,rfl⟩
      rw [HPRI.out]
      go_wp2_with fail
      refine (ridF last _).mono ?_
      rintro e w1 ⟨rfl,rfl⟩
      rw [HLA.out]
      go_wp2
      go_ret
      exact ⟨by simp,by with_reducible (repeat (first|exact Kp.refl _ _|assumption|refine Kp.alloc ?_ _|refine Kp.drew ?_|refine Kp.drewN ?_ _|(refine Kp.setL ?_ ?_ _;focus (simp;done))|(refine Kp.setR ?_ ?_ _;focus (first|(simp;done)|(simp;omega)))))⟩
     ·have HLA:=Lib.hid (show idB last=false by simpa using hla)
      clear hla
      have e:goodW ((⟨7,fl,st,pA,pn,pc,pad,code,last,inc,dep,only,wt,sA,sn,sc⟩:Fr).p l ss)=false:=by simp [goodW,Fr.p,known,rightB,zeroB,mayK,padOk,paddedB,prioOk,prioB,padF,hfl0,hfl1,HST.out,HS.out,(show idB 0=true from rfl),HLA.out]
      rw [e]
      clear e
      go_enter Try.func148,Try.ntmps148
      go_wp2_with fail
      refine (ridF st _).mono ?_
      rintro e w1 ⟨rfl,rfl⟩
      rw [HST.out]
      go_wp2_with fail
      refine (rright7 st _).mono ?_
      rintro e w1 ⟨rfl,rfl⟩
      rw [HRI.out]
      go_wp2_with fail
      refine (rpad7 _).mono ?_
      rintro e w1 ⟨rfl,rfl⟩
      go_wp2_with fail
      refine (rprio7 fl _ hfl0 hfl1).mono ?_
      rintro e w1 ⟨rfl,rfl⟩
      rw [HPRI.out]
      go_wp2_with fail
      refine (ridF last _).mono ?_
      rintro e w1 ⟨rfl,rfl⟩
      rw [HLA.out]
      go_wp2
      go_ret
      exact ⟨by simp,by with_reducible (repeat (first|exact Kp.refl _ _|assumption|refine Kp.alloc ?_ _|refine Kp.drew ?_|refine Kp.drewN ?_ _|(refine Kp.setL ?_ ?_ _;focus (simp;done))|(refine Kp.setR ?_ ?_ _;focus (first|(simp;done)|(simp;omega)))))⟩
    ·have HRI:=Lib.hid (show (false || (true == decide (st=0)))=false by simp [hs])
     have e:goodW ((⟨7,fl,st,pA,pn,pc,pad,code,last,inc,dep,only,wt,sA,sn,sc⟩:Fr).p l ss)=false:=by simp [goodW,Fr.p,known,rightB,zeroB,mayK,padOk,paddedB,prioOk,prioB,padF,hfl0,hfl1,HST.out,hs]
     rw [e]
     clear e
     clear hs
     go_enter Try.func148,Try.ntmps148
     go_wp2_with fail
     refine (ridF st _).mono ?_
     rintro e w1 ⟨rfl,rfl⟩
     rw [HST.out]
     go_wp2_with fail
     refine (rright7 st _).mono ?_
     rintro e w1 ⟨rfl,rfl⟩
     rw [HRI.out]
     go_wp2
     go_ret
     exact ⟨by simp,by with_reducible (repeat (first|exact Kp.refl _ _|assumption|refine Kp.alloc ?_ _|refine Kp.drew ?_|refine Kp.drewN ?_ _|(refine Kp.setL ?_ ?_ _;focus (simp;done))|(refine Kp.setR ?_ ?_ _;focus (first|(simp;done)|(simp;omega)))))⟩
   ·have HST:=Lib.hid (show idB st=false by simpa using hst)
    have hst':=HST.out
    have e:goodW ((⟨7,fl,st,pA,pn,pc,pad,code,last,inc,dep,only,wt,sA,sn,sc⟩:Fr).p l ss)=false:=by simp [goodW,Fr.p,known,rightB,zeroB,mayK,padOk,paddedB,prioOk,prioB,padF,hfl0,hfl1,hst']
    rw [e]
    clear e
    clear hst hst'
    go_enter Try.func148,Try.ntmps148
    go_wp2_with fail
    refine (ridF st _).mono ?_
    rintro e w1 ⟨rfl,rfl⟩
    rw [HST.out]
    go_wp2
    go_ret
    exact ⟨by simp,by with_reducible (repeat (first|exact Kp.refl _ _|assumption|refine Kp.alloc ?_ _|refine Kp.drew ?_|refine Kp.drewN ?_ _|(refine Kp.setL ?_ ?_ _;focus (simp;done))|(refine Kp.setR ?_ ?_ _;focus (first|(simp;done)|(simp;omega)))))⟩
  ·have e:goodW ((⟨7,fl,st,pA,pn,pc,pad,code,last,inc,dep,only,wt,sA,sn,sc⟩:Fr).p l ss)=false:=by simp [goodW,Fr.p,known,rightB,zeroB,mayK,padOk,paddedB,prioOk,prioB,padF,hfl1]
   rw [e]
   clear e
   go_enter Try.func148,Try.ntmps148
   go_wp2
   go_ret
   exact ⟨by simp,by with_reducible (repeat (first|exact Kp.refl _ _|assumption|refine Kp.alloc ?_ _|refine Kp.drew ?_|refine Kp.drewN ?_ _|(refine Kp.setL ?_ ?_ _;focus (simp;done))|(refine Kp.setR ?_ ?_ _;focus (first|(simp;done)|(simp;omega)))))⟩
 ·have e:goodW ((⟨7,fl,st,pA,pn,pc,pad,code,last,inc,dep,only,wt,sA,sn,sc⟩:Fr).p l ss)=false:=by simp [goodW,Fr.p,known,rightB,zeroB,mayK,padOk,paddedB,prioOk,prioB,padF,hfl0]
  rw [e]
  clear e
  go_enter Try.func148,Try.ntmps148
  go_wp2
  go_ret
  exact ⟨by simp,by with_reducible (repeat (first|exact Kp.refl _ _|assumption|refine Kp.alloc ?_ _|refine Kp.drew ?_|refine Kp.drewN ?_ _|(refine Kp.setL ?_ ?_ _;focus (simp;done))|(refine Kp.setR ?_ ?_ _;focus (first|(simp;done)|(simp;omega)))))⟩
theorem rmay8 (f:Fr) (l:List UInt8) (ss:List (Int × Int)) (w0:World) (ok:WrOk w0 f l ss) (hty:f.ty=8) :
  Calls Try.prog 148 #[.agg #[.int .i64 f.ty,.int .i64 f.fl,.int .i64 f.st,.slice f.pA f.pn f.pc,.int .i64 f.pad,.int .u32 f.code,.int .i64 f.last,.int .i64 f.inc,.int .i64 f.dep,.bool f.only,.int .i64 f.wt,.slice f.sA f.sn f.sc]] w0 (BoolK (goodW (f.p l ss)) w0):=by
 obtain ⟨hrd,hpn,hcode,hsd,hsn⟩:=ok
 obtain ⟨ty,fl,st,pA,pn,pc,pad,code,last,inc,dep,only,wt,sA,sn,sc⟩:=f
 dsimp only at *
 subst hty
 have HRD:=Lib.hid hrd
 have HSD:=Lib.hid hsd
 clear hrd hsd hcode
 by_cases hfl0:0≤fl
 ·by_cases hfl1:fl≤255
  ·by_cases hst:idB st=true
   ·have HST:=Lib.hid hst
    clear hst
    have HRI:=Lib.hid (show (true || (false == decide (st=0)))=true by simp)
    have HPRI:=Lib.hid (show prioB 8 fl=false by simp [prioB])
    by_cases hi0:1≤inc
    ·by_cases hi1:inc≤2147483647
     ·have e:goodW ((⟨8,fl,st,pA,pn,pc,pad,code,last,inc,dep,only,wt,sA,sn,sc⟩:Fr).p l ss)=true:=by simp [goodW,Fr.p,known,rightB,zeroB,mayK,padOk,paddedB,prioOk,prioB,padF,hfl0,hfl1,HST.out,hi0,hi1] <;> omega
      rw [e]
      clear e
      go_enter Try.func148,Try.ntmps148
      go_wp2_with fail
      refine (ridF st _).mono ?_
      rintro e w1 ⟨rfl,rfl⟩
      rw [HST.out]
      go_wp2_with fail
      refine (rright8 st _).mono ?_
      rintro e w1 ⟨rfl,rfl⟩
      rw [HRI.out]
      go_wp2_with fail
      refine (rpad8 _).mono ?_
      rintro e w1 ⟨rfl,rfl⟩
      go_wp2_with fail
      refine (rprio8 fl _ hfl0 hfl1).mono ?_
      rintro e w1 ⟨rfl,rfl⟩
      rw [HPRI.out]
      go_wp2
      go_ret
      exact ⟨by simp <;> omega,by with_reducible (repeat (first|exact Kp.refl _ _|assumption|refine Kp.alloc ?_ _|refine Kp.drew ?_|refine Kp.drewN ?_ _|(refine Kp.setL ?_ ?_ _;focus (simp;done))|(refine Kp.setR ?_ ?_ _;focus (first|(simp;done)|(simp;omega)))))⟩
     ·have e:goodW ((⟨8,fl,st,pA,pn,pc,pad,code,last,inc,dep,only,wt,sA,sn,sc⟩:Fr).p l ss)=false:=by simp [goodW,Fr.p,known,rightB,zeroB,mayK,padOk,paddedB,prioOk,prioB,padF,hfl0,hfl1,HST.out,hi1] <;> omega
      rw [e]
      clear e
      go_enter Try.func148,Try.ntmps148
      go_wp2_with fail
      refine (ridF st _).mono ?_
      rintro e w1 ⟨rfl,rfl⟩
      rw [HST.out]
      go_wp2_with fail
      refine (rright8 st _).mono ?_
      rintro e w1 ⟨rfl,rfl⟩
      rw [HRI.out]
      go_wp2_with fail
      refine (rpad8 _).mono ?_
      rintro e w1 ⟨rfl,rfl⟩
      go_wp2_with fail
      refine (rprio8 fl _ hfl0 hfl1).mono ?_
      rintro e w1 ⟨rfl,rfl⟩
      rw [HPRI.out]
      go_wp2
      go_ret
      exact ⟨by simp <;> omega,by with_reducible (repeat (first|exact Kp.refl _ _|assumption|refine Kp.alloc ?_ _|refine Kp.drew ?_|refine Kp.drewN ?_ _|(refine Kp.setL ?_ ?_ _;focus (simp;done))|(refine Kp.setR ?_ ?_ _;focus (first|(simp;done)|(simp;omega)))))⟩
    ·have e:goodW ((⟨8,fl,st,pA,pn,pc,pad,code,last,inc,dep,only,wt,sA,sn,sc⟩:Fr).p l ss)=false:=by simp [goodW,Fr.p,known,rightB,zeroB,mayK,padOk,paddedB,prioOk,prioB,padF,hfl0,hfl1,HST.out,hi0] <;> omega
     rw [e]
     clear e
     go_enter Try.func148,Try.ntmps148
     go_wp2_with fail
     refine (ridF st _).mono ?_
     rintro e w1 ⟨rfl,rfl⟩
     rw [HST.out]
     go_wp2_with fail
     refine (rright8 st _).mono ?_
     rintro e w1 ⟨rfl,rfl⟩
     rw [HRI.out]
     go_wp2_with fail
     refine (rpad8 _).mono ?_
     rintro e w1 ⟨rfl,rfl⟩
     go_wp2_with fail
     refine (rprio8 fl _ hfl0 hfl1).mono ?_
     rintro e w1 ⟨rfl,rfl⟩
     rw [HPRI.out]
     go_wp2
     go_ret
     exact ⟨by simp <;> omega,by with_reducible (repeat (first|exact Kp.refl _ _|assumption|refine Kp.alloc ?_ _|refine Kp.drew ?_|refine Kp.drewN ?_ _|(refine Kp.setL ?_ ?_ _;focus (simp;done))|(refine Kp.setR ?_ ?_ _;focus (first|(simp;done)|(simp;omega)))))⟩
   ·have HST:=Lib.hid (show idB st=false by simpa using hst)
    have hst':=HST.out
    have e:goodW ((⟨8,fl,st,pA,pn,pc,pad,code,last,inc,dep,only,wt,sA,sn,sc⟩:Fr).p l ss)=false:=by simp [goodW,Fr.p,known,rightB,zeroB,mayK,padOk,paddedB,prioOk,prioB,padF,hfl0,hfl1,hst'] <;> omega
    rw [e]
    clear e
    clear hst hst'
    go_enter Try.func148,Try.ntmps148
    go_wp2_with fail
    refine (ridF st _).mono ?_
    rintro e w1 ⟨rfl,rfl⟩
    rw [HST.out]
    go_wp2
    go_ret
    exact ⟨by simp <;> omega,by with_reducible (repeat (first|exact Kp.refl _ _|assumption|refine Kp.alloc ?_ _|refine Kp.drew ?_|refine Kp.drewN ?_ _|(refine Kp.setL ?_ ?_ _;focus (simp;done))|(refine Kp.setR ?_ ?_ _;focus (first|(simp;done)|(simp;omega)))))⟩
  ·have e:goodW ((⟨8,fl,st,pA,pn,pc,pad,code,last,inc,dep,only,wt,sA,sn,sc⟩:Fr).p l ss)=false:=by simp [goodW,Fr.p,known,rightB,zeroB,mayK,padOk,paddedB,prioOk,prioB,padF,hfl1] <;> omega
   rw [e]
   clear e
   go_enter Try.func148,Try.ntmps148
   go_wp2
   go_ret
   exact ⟨by simp <;> omega,by with_reducible (repeat (first|exact Kp.refl _ _|assumption|refine Kp.alloc ?_ _|refine Kp.drew ?_|refine Kp.drewN ?_ _|(refine Kp.setL ?_ ?_ _;focus (simp;done))|(refine Kp.setR ?_ ?_ _;focus (first|(simp;done)|(simp;omega)))))⟩
 ·have e:goodW ((⟨8,fl,st,pA,pn,pc,pad,code,last,inc,dep,only,wt,sA,sn,sc⟩:Fr).p l ss)=false:=by simp [goodW,Fr.p,known,rightB,zeroB,mayK,padOk,paddedB,prioOk,prioB,padF,hfl0] <;> omega
  rw [e]
  clear e
  go_enter Try.func148,Try.ntmps148
  go_wp2
  go_ret
  exact ⟨by simp <;> omega,by with_reducible (repeat (first|exact Kp.refl _ _|assumption|refine Kp.alloc ?_ _|refine Kp.drew ?_|refine Kp.drewN ?_ _|(refine Kp.setL ?_ ?_ _;focus (simp;done))|(refine Kp.setR ?_ ?_ _;focus (first|(simp;done)|(simp;omega)))))⟩
end Go.Proofs.Ytkmcakneceagpaa

namespace Go.Proofs.Ytkmcakneceagpaa
open Go.RowKit
theorem rmay4 (f:Fr) (l:List UInt8) (ss:List (Int × Int)) (w0:World) (ok:WrOk w0 f l ss) (hty:f.ty=4) :
  Calls Try.prog 148 #[.agg #[.int .i64 f.ty,.int .i64 f.fl,.int .i64 f.st,.slice f.pA f.pn f.pc,.int .i64 f.pad,.int .u32 f.code,.int .i64 f.last,.int .i64 f.inc,.int .i64 f.dep,.bool f.only,.int .i64 f.wt,.slice f.sA f.sn f.sc]] w0 (BoolK (goodW (f.p l ss)) w0):=by
 obtain ⟨hrd,hpn,hcode,hsd,hsn⟩:=ok
 obtain ⟨ty,fl,st,pA,pn,pc,pad,code,last,inc,dep,only,wt,sA,sn,sc⟩:=f
 dsimp only at *
 subst hty
 have HRD:=Lib.hid hrd
 have HSD:=Lib.hid hsd
 clear hrd hsd hcode
 by_cases hfl0:0≤fl
 ·by_cases hfl1:fl≤255
  ·by_cases hst:idB st=true
   ·have HST:=Lib.hid hst
    clear hst
    by_cases hs:st=0
    ·have HRI:=Lib.hid (show (false || (true == decide (st=0)))=true by simp [hs])
     have HS:=Lib.hid hs
     clear hs
     have HPRI:=Lib.hid (show prioB 4 fl=false by simp [prioB])
     have hE:goodW ((⟨4,fl,st,pA,pn,pc,pad,code,last,inc,dep,only,wt,sA,sn,sc⟩:Fr).p l ss)=setsB fl ss:=by simp [goodW,Fr.p,known,rightB,zeroB,mayK,padOk,paddedB,prioOk,prioB,padF,hfl0,hfl1,HST.out,HS.out,(show idB 0=true from rfl)]
     have HE:=Lib.hid hE
     have hlen:=HSD.out.len
     have hcap:=HSD.out.cap
     have hsn':sn≤140737488351232:=by omega
     clear hE
     go_enter Try.func148,Try.ntmps148
     go_wp2_with fail
     have K0:Kp [] w0 (w0.alloc (.cells #[.int .i64 4,.int .i64 fl,.int .i64 st,.slice pA pn pc,.int .i64 pad,.int .u32 code,.int .i64 last,.int .i64 inc,.int .i64 dep,.bool only,.int .i64 wt,.slice sA sn sc] 49)):=(Kp.refl _ _).alloc _
     have HB:=Lib.hid (hp_new w0 (.cells #[.int .i64 4,.int .i64 fl,.int .i64 st,.slice pA pn pc,.int .i64 pad,.int .u32 code,.int .i64 last,.int .i64 inc,.int .i64 dep,.bool only,.int .i64 wt,.slice sA sn sc] 49) _ rfl)
     have HS1:=Lib.hid (HSD.out.keep K0 (by simp))
     generalize hW:w0.alloc (.cells #[.int .i64 4,.int .i64 fl,.int .i64 st,.slice pA pn pc,.int .i64 pad,.int .u32 code,.int .i64 last,.int .i64 inc,.int .i64 dep,.bool only,.int .i64 wt,.slice sA sn sc] 49)=w1 at *
     clear hW HSD
     have HK0:=Lib.hid K0
     clear K0
     have b0:=cell_of HB.out 0
     have b1:=cell_of HB.out 1
     have b2:=cell_of HB.out 2
     have b3:=cell_of HB.out 3
     have b4:=cell_of HB.out 4
     have b5:=cell_of HB.out 5
     have b6:=cell_of HB.out 6
     have b7:=cell_of HB.out 7
     have b8:=cell_of HB.out 8
     have b9:=cell_of HB.out 9
     have b10:=cell_of HB.out 10
     have b11:=cell_of HB.out 11
     refine (ridF st _).mono ?_
     rintro e w1 ⟨rfl,rfl⟩
     rw [HST.out]
     go_wp2_with fail
     refine (rright4 st _).mono ?_
     rintro e w1 ⟨rfl,rfl⟩
     rw [HRI.out]
     go_wp2_with fail
     refine (rpad4 _).mono ?_
     rintro e w1 ⟨rfl,rfl⟩
     go_wp2_with fail
     refine (rprio4 fl _ hfl0 hfl1).mono ?_
     rintro e w1 ⟨rfl,rfl⟩
     rw [HPRI.out]
     go_wp2
     go_loop [3] (fun i=>∃ k:Nat,k≤sn∧i=.int .i64 k∧Hid (∀ j,j < k→setOk (ss.getD j (0,0))=true)) (fun i=>sn - (intOf i).toNat)
     case atStart=>exact ⟨0,Nat.zero_le _,rfl,fun j hj=>by omega⟩
     case round =>
      obtain ⟨k,hk,rfl,HOK⟩:=hrel
      by_cases hkl:k < sn
      ·obtain ⟨bb,off,rfl,hlt,hc⟩:=HS1.out.at_ (by omega)
       obtain ⟨c0,c1⟩:=hc k hkl
       obtain ⟨⟨xi,yv⟩,hxy⟩:∃ s,ss.getD k (0,0)=s:=⟨_,rfl⟩
       rw [hxy] at c0 c1
       dsimp only at c0 c1
       have HXY:=Lib.hid hxy
       clear hxy hc
       have hki:(k:Int) < (sn:Int):=by omega
       by_cases hx0:0≤xi
       ·by_cases hx1:xi < 65536
        ·go_wp2
         go_round
         case rel =>
          refine ⟨k+1,by omega,by go_num,fun j hj=>?_⟩
          by_cases hjk:j=k
          ·rw [hjk,HXY.out]; simp [setOk,hx0,hx1]
          ·exact HOK.out j (by omega)
         case measure=>simp [intOf]; omega
        ·go_wp2
         go_ret
         exact ⟨by rw [HE.out,setsB_eq,not_all ss k (by omega) (by rw [HXY.out]; simp [setOk]; omega)]; rfl,HK0.out⟩
       ·go_wp2
        go_ret
        exact ⟨by rw [HE.out,setsB_eq,not_all ss k (by omega) (by rw [HXY.out]; simp [setOk]; omega)]; rfl,HK0.out⟩
      ·obtain rfl:k=sn:=by omega
       have hki:¬ (k:Int) < (k:Int):=by omega
       have HSB:=Lib.hid (show setsB fl ss=(ss.isEmpty || !hasB fl 1) by rw [setsB_eq,all_of ss (fun j hj=>HOK.out j (by omega))]; rfl)
       by_cases hz:k=0
       ·subst hz
        obtain rfl:ss=[]:=List.eq_nil_of_length_eq_zero hlen
        go_wp2
        go_ret
        exact ⟨by rw [HE.out,HSB.out]; simp,HK0.out⟩
       ·have HE2:=Lib.hid (show ss.isEmpty=false by cases ss with | nil=>simp at hlen; omega | cons=>rfl)
        have hz1:((k:Int) == 0)=false:=by simp; omega
        go_wp2_with fail
        refine (hasF fl 1 _ hfl0 hfl1 (by omega) (by omega)).mono ?_
        rintro e w2 ⟨rfl,rfl⟩
        go_wp2
        go_ret
        exact ⟨by rw [HE.out,HSB.out,HE2.out]; simp,HK0.out⟩
    ·have HRI:=Lib.hid (show (false || (true == decide (st=0)))=false by simp [hs])
     have e:goodW ((⟨4,fl,st,pA,pn,pc,pad,code,last,inc,dep,only,wt,sA,sn,sc⟩:Fr).p l ss)=false:=by simp [goodW,Fr.p,known,rightB,zeroB,mayK,padOk,paddedB,prioOk,prioB,padF,hfl0,hfl1,HST.out,hs]
     rw [e]
     clear e
     clear hs
     go_enter Try.func148,Try.ntmps148
     go_wp2_with fail
     refine (ridF st _).mono ?_
     rintro e w1 ⟨rfl,rfl⟩
     rw [HST.out]
     go_wp2_with fail
     refine (rright4 st _).mono ?_
     rintro e w1 ⟨rfl,rfl⟩
     rw [HRI.out]
     go_wp2
     go_ret
     exact ⟨by simp,by with_reducible (repeat (first|exact Kp.refl _ _|assumption|refine Kp.alloc ?_ _|refine Kp.drew ?_|refine Kp.drewN ?_ _|(refine Kp.setL ?_ ?_ _;focus (simp;done))|(refine Kp.setR ?_ ?_ _;focus (first|(simp;done)|(simp;omega)))))⟩
   ·have HST:=Lib.hid (show idB st=false by simpa using hst)
    have hst':=HST.out
    have e:goodW ((⟨4,fl,st,pA,pn,pc,pad,code,last,inc,dep,only,wt,sA,sn,sc⟩:Fr).p l ss)=false:=by simp [goodW,Fr.p,known,rightB,zeroB,mayK,padOk,paddedB,prioOk,prioB,padF,hfl0,hfl1,hst']
    rw [e]
    clear e
    clear hst hst'
    go_enter Try.func148,Try.ntmps148
    go_wp2_with fail
    refine (ridF st _).mono ?_
    rintro e w1 ⟨rfl,rfl⟩
    rw [HST.out]
    go_wp2
    go_ret
    exact ⟨by simp,by with_reducible (repeat (first|exact Kp.refl _ _|assumption|refine Kp.alloc ?_ _|refine Kp.drew ?_|refine Kp.drewN ?_ _|(refine Kp.setL ?_ ?_ _;focus (simp;done))|(refine Kp.setR ?_ ?_ _;focus (first|(simp;done)|(simp;omega)))))⟩
  ·have e:goodW ((⟨4,fl,st,pA,pn,pc,pad,code,last,inc,dep,only,wt,sA,sn,sc⟩:Fr).p l ss)=false:=by simp [goodW,Fr.p,known,rightB,zeroB,mayK,padOk,paddedB,prioOk,prioB,padF,hfl1]
   rw [e]
   clear e
   go_enter Try.func148,Try.ntmps148
   go_wp2
   go_ret
   exact ⟨by simp,by with_reducible (repeat (first|exact Kp.refl _ _|assumption|refine Kp.alloc ?_ _|refine Kp.drew ?_|refine Kp.drewN ?_ _|(refine Kp.setL ?_ ?_ _;focus (simp;done))|(refine Kp.setR ?_ ?_ _;focus (first|(simp;done)|(simp;omega)))))⟩
 ·have e:goodW ((⟨4,fl,st,pA,pn,pc,pad,code,last,inc,dep,only,wt,sA,sn,sc⟩:Fr).p l ss)=false:=by simp [goodW,Fr.p,known,rightB,zeroB,mayK,padOk,paddedB,prioOk,prioB,padF,hfl0]
  rw [e]
  clear e
  go_enter Try.func148,Try.ntmps148
  go_wp2
  go_ret
  exact ⟨by simp,by with_reducible (repeat (first|exact Kp.refl _ _|assumption|refine Kp.alloc ?_ _|refine Kp.drew ?_|refine Kp.drewN ?_ _|(refine Kp.setL ?_ ?_ _;focus (simp;done))|(refine Kp.setR ?_ ?_ _;focus (first|(simp;done)|(simp;omega)))))⟩
end Go.Proofs.Ytkmcakneceagpaa
