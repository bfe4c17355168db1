/- The reference's may of layer 7, walked (5,6). -/
import Derived.Test.YtkmcakneceagpaaQFieldRef
import Derived.Test.YtkmcakneceagpaaQRdF
set_option linter.unusedSimpArgs false
set_option linter.unusedVariables false
set_option maxHeartbeats 8000000
set_option maxRecDepth 100000
namespace Go.Proofs.Ytkmcakneceagpaa
open Go.RowKit
theorem rmay5 (f:Fr) (l:List UInt8) (ss:List (Int × Int)) (w0:World) (ok:WrOk w0 f l ss) (hty:f.ty=5) :
  Calls Try.prog 148 #[.agg #[.int .i64 f.ty,.int .i64 f.fl,.int .i64 f.st,.slice f.pA f.pn f.pc,.int .i64 f.pad,.int .u32 f.code,.int .i64 f.last,.int .i64 f.inc,.int .i64 f.dep,.bool f.only,.int .i64 f.wt,.slice f.sA f.sn f.sc]] w0 (BoolK (goodW (f.p l ss)) w0):=by
 obtain ⟨hrd,hpn,hcode,hsd,hsn⟩:=ok
 obtain ⟨ty,fl,st,pA,pn,pc,pad,code,last,inc,dep,only,wt,sA,sn,sc⟩:=f
 dsimp only at *
 subst hty
 have HRD:=Lib.hid hrd
 have HSD:=Lib.hid hsd
 clear hrd hsd hcode
 by_cases hfl0:0≤fl
 ·by_cases hfl1:fl≤255
  ·by_cases hst:idB st=true
   ·have HST:=Lib.hid hst
    clear hst
    by_cases hs:st=0
    ·have HRI:=Lib.hid (show (false || (false == decide (st=0)))=false by simp [hs])
     have e:goodW ((⟨5,fl,st,pA,pn,pc,pad,code,last,inc,dep,only,wt,sA,sn,sc⟩:Fr).p l ss)=false:=by simp [goodW,Fr.p,known,rightB,zeroB,mayK,padOk,paddedB,prioOk,prioB,padF,hfl0,hfl1,HST.out,hs]
     rw [e]
     clear e
     clear hs
     go_enter Try.func148,Try.ntmps148
     go_wp2_with fail
     refine (ridF st _).mono ?_
     rintro e w1 ⟨rfl,rfl⟩
     rw [HST.out]
     go_wp2_with fail
     refine (rright5 st _).mono ?_
     rintro e w1 ⟨rfl,rfl⟩
     rw [HRI.out]
     go_wp2
     go_ret
     exact ⟨by simp,by with_reducible (repeat (first|exact Kp.refl _ _|assumption|refine Kp.alloc ?_ _|refine Kp.drew ?_|refine Kp.drewN ?_ _|(refine Kp.setL ?_ ?_ _;focus (simp;done))|(refine Kp.setR ?_ ?_ _;focus (first|(simp;done)|(simp;omega)))))⟩
    ·have HRI:=Lib.hid (show (false || (false == decide (st=0)))=true by simp [hs])
     have HS:=Lib.hid hs
     clear hs
     by_cases hpad0:0≤pad
     ·by_cases hpad1:pad≤255
      ·by_cases hpad2:0 < pad
       ·by_cases h8:hasB fl 8=true
        ·have H8:=Lib.hid h8
         clear h8
         have HPRI:=Lib.hid (show prioB 5 fl=false by simp [prioB])
         by_cases hla:idB last=true
         ·have HLA:=Lib.hid (show idB last=true by simpa using hla)
          clear hla
          have e:goodW ((⟨5,fl,st,pA,pn,pc,pad,code,last,inc,dep,only,wt,sA,sn,sc⟩:Fr).p l ss)=true:=by simp [goodW,Fr.p,known,rightB,zeroB,mayK,padOk,paddedB,prioOk,prioB,padF,hfl0,hfl1,HST.out,HS.out,hpad0,hpad1,H8.out,HLA.out]
          rw [e]
          clear e
          go_enter Try.func148,Try.ntmps148
          go_wp2_with fail
          refine (ridF st _).mono ?_
          rintro e w1 ⟨rfl,rfl⟩
          rw [HST.out]
          go_wp2_with fail
          refine (rright5 st _).mono ?_
          rintro e w1 ⟨rfl,rfl⟩
          rw [HRI.out]
          go_wp2_with fail
          refine (rpad5 _).mono ?_
          rintro e w1 ⟨rfl,rfl⟩
          go_wp2_with fail
          refine (hasF fl 8 _ hfl0 hfl1 (by omega) (by omega)).mono ?_
          rintro e w1 ⟨rfl,rfl⟩
          rw [H8.out]
          go_wp2_with fail
          refine (rprio5 fl _ hfl0 hfl1).mono ?_
          rintro e w1 ⟨rfl,rfl⟩
          rw [HPRI.out]
          go_wp2_with fail
          refine (ridF last _).mono ?_
          rintro e w1 ⟨rfl,rfl⟩
          rw [HLA.out]
          go_wp2
          go_ret
          exact ⟨by simp,by with_reducible (repeat (first|exact Kp.refl _ _|assumption|refine Kp.alloc ?_ _|refine Kp.drew ?_|refine Kp.drewN ?_ _|(refine Kp.setL ?_ ?_ _;focus (simp;done))|(refine Kp.setR ?_ ?_ _;focus (first|(simp;done)|(simp;omega)))))⟩
         ·have HLA:=Lib.hid (show idB last=false by simpa using hla)
          clear hla
          have e:goodW ((⟨5,fl,st,pA,pn,pc,pad,code,last,inc,dep,only,wt,sA,sn,sc⟩:Fr).p l ss)=false:=by simp [goodW,Fr.p,known,rightB,zeroB,mayK,padOk,paddedB,prioOk,prioB,padF,hfl0,hfl1,HST.out,HS.out,hpad0,hpad1,H8.out,HLA.out]
          rw [e]
          clear e
          go_enter Try.func148,Try.ntmps148
          go_wp2_with fail
          refine (ridF st _).mono ?_
          rintro e w1 ⟨rfl,rfl⟩
          rw [HST.out]
          go_wp2_with fail
          refine (rright5 st _).mono ?_
          rintro e w1 ⟨rfl,rfl⟩
          rw [HRI.out]
          go_wp2_with fail
          refine (rpad5 _).mono ?_
          rintro e w1 ⟨rfl,rfl⟩
          go_wp2_with fail
          refine (hasF fl 8 _ hfl0 hfl1 (by omega) (by omega)).mono ?_
          rintro e w1 ⟨rfl,rfl⟩
          rw [H8.out]
          go_wp2_with fail
          refine (rprio5 fl _ hfl0 hfl1).mono ?_
          rintro e w1 ⟨rfl,rfl⟩
          rw [HPRI.out]
          go_wp2_with fail
          refine (ridF last _).mono ?_
          rintro e w1 ⟨rfl,rfl⟩
          rw [HLA.out]
          go_wp2
          go_ret
          exact ⟨by simp,by with_reducible (repeat (first|exact Kp.refl _ _|assumption|refine Kp.alloc ?_ _|refine Kp.drew ?_|refine Kp.drewN ?_ _|(refine Kp.setL ?_ ?_ _;focus (simp;done))|(refine Kp.setR ?_ ?_ _;focus (first|(simp;done)|(simp;omega)))))⟩
        ·have H8:=Lib.hid (show hasB fl 8=false by simpa using h8)
         clear h8
         have hpad4:¬ pad≤0:=by omega
         have e:goodW ((⟨5,fl,st,pA,pn,pc,pad,code,last,inc,dep,only,wt,sA,sn,sc⟩:Fr).p l ss)=false:=by simp [goodW,Fr.p,known,rightB,zeroB,mayK,padOk,paddedB,prioOk,prioB,padF,hfl0,hfl1,HST.out,HS.out,hpad0,hpad1,hpad4,H8.out]
         rw [e]
         clear e
         go_enter Try.func148,Try.ntmps148
         go_wp2_with fail
         refine (ridF st _).mono ?_
         rintro e w1 ⟨rfl,rfl⟩
         rw [HST.out]
         go_wp2_with fail
         refine (rright5 st _).mono ?_
         rintro e w1 ⟨rfl,rfl⟩
         rw [HRI.out]
         go_wp2_with fail
         refine (rpad5 _).mono ?_
         rintro e w1 ⟨rfl,rfl⟩
         go_wp2_with fail
         refine (hasF fl 8 _ hfl0 hfl1 (by omega) (by omega)).mono ?_
         rintro e w1 ⟨rfl,rfl⟩
         rw [H8.out]
         go_wp2
         go_ret
         exact ⟨by simp,by with_reducible (repeat (first|exact Kp.refl _ _|assumption|refine Kp.alloc ?_ _|refine Kp.drew ?_|refine Kp.drewN ?_ _|(refine Kp.setL ?_ ?_ _;focus (simp;done))|(refine Kp.setR ?_ ?_ _;focus (first|(simp;done)|(simp;omega)))))⟩
       ·have hpad3:pad≤0:=by omega
        have HPRI:=Lib.hid (show prioB 5 fl=false by simp [prioB])
        by_cases hla:idB last=true
        ·have HLA:=Lib.hid (show idB last=true by simpa using hla)
         clear hla
         have e:goodW ((⟨5,fl,st,pA,pn,pc,pad,code,last,inc,dep,only,wt,sA,sn,sc⟩:Fr).p l ss)=true:=by simp [goodW,Fr.p,known,rightB,zeroB,mayK,padOk,paddedB,prioOk,prioB,padF,hfl0,hfl1,HST.out,HS.out,hpad0,hpad1,hpad3,HLA.out]
         rw [e]
         clear e
         go_enter Try.func148,Try.ntmps148
         go_wp2_with fail
         refine (ridF st _).mono ?_
         rintro e w1 ⟨rfl,rfl⟩
         rw [HST.out]
         go_wp2_with fail
         refine (rright5 st _).mono ?_
         rintro e w1 ⟨rfl,rfl⟩
         rw [HRI.out]
         go_wp2_with fail
         refine (rpad5 _).mono ?_
         rintro e w1 ⟨rfl,rfl⟩
         go_wp2_with fail
         refine (rprio5 fl _ hfl0 hfl1).mono ?_
         rintro e w1 ⟨rfl,rfl⟩
         rw [HPRI.out]
         go_wp2_with fail
         refine (ridF last _).mono ?_
         rintro e w1 ⟨rfl,rfl⟩
         rw [HLA.out]
         go_wp2
         go_ret
         exact ⟨by simp,by with_reducible (repeat (first|exact Kp.refl _ _|assumption|refine Kp.alloc ?_ _|refine Kp.drew ?_|refine Kp.drewN ?_ _|(refine Kp.setL ?_ ?_ _;focus (simp;done))|(refine Kp.setR ?_ ?_ _;focus (first|(simp;done)|(simp;omega)))))⟩
        ·have HLA:=Lib.hid (show idB last=false by simpa using hla)
         clear hla
         have e:goodW ((⟨5,fl,st,pA,pn,pc,pad,code,last,inc,dep,only,wt,sA,sn,sc⟩:Fr).p l ss)=false:=by simp [goodW,Fr.p,known,rightB,zeroB,mayK,padOk,paddedB,prioOk,prioB,padF,hfl0,hfl1,HST.out,HS.out,hpad0,hpad1,hpad3,HLA.out]
         rw [e]
         clear e
         go_enter Try.func148,Try.ntmps148
         go_wp2_with fail
         refine (ridF st _).mono ?_
         rintro e w1 ⟨rfl,rfl⟩
         rw [HST.out]
         go_wp2_with fail
         refine (rright5 st _).mono ?_
         rintro e w1 ⟨rfl,rfl⟩
         rw [HRI.out]
         go_wp2_with fail
         refine (rpad5 _).mono ?_
         rintro e w1 ⟨rfl,rfl⟩
         go_wp2_with fail
         refine (rprio5 fl _ hfl0 hfl1).mono ?_
         rintro e w1 ⟨rfl,rfl⟩
         rw [HPRI.out]
         go_wp2_with fail
         refine (ridF last _).mono ?_
         rintro e w1 ⟨rfl,rfl⟩
         rw [HLA.out]
         go_wp2
         go_ret
         exact ⟨by simp,by with_reducible (repeat (first|exact Kp.refl _ _|assumption|refine Kp.alloc ?_ _|refine Kp.drew ?_|refine Kp.drewN ?_ _|(refine Kp.setL ?_ ?_ _;focus (simp;done))|(refine Kp.setR ?_ ?_ _;focus (first|(simp;done)|(simp;omega)))))⟩
      ·have e:goodW ((⟨5,fl,st,pA,pn,pc,pad,code,last,inc,dep,only,wt,sA,sn,sc⟩:Fr).p l ss)=false:=by simp [goodW,Fr.p,known,rightB,zeroB,mayK,padOk,paddedB,prioOk,prioB,padF,hfl0,hfl1,HST.out,HS.out,hpad1]
       rw [e]
       clear e
       go_enter Try.func148,Try.ntmps148
       go_wp2_with fail
       refine (ridF st _).mono ?_
       rintro e w1 ⟨rfl,rfl⟩
       rw [HST.out]
       go_wp2_with fail
       refine (rright5 st _).mono ?_
       rintro e w1 ⟨rfl,rfl⟩
       rw [HRI.out]
       go_wp2_with fail
       refine (rpad5 _).mono ?_
       rintro e w1 ⟨rfl,rfl⟩
       go_wp2
       go_ret
       exact ⟨by simp,by with_reducible (repeat (first|exact Kp.refl _ _|assumption|refine Kp.alloc ?_ _|refine Kp.drew ?_|refine Kp.drewN ?_ _|(refine Kp.setL ?_ ?_ _;focus (simp;done))|(refine Kp.setR ?_ ?_ _;focus (first|(simp;done)|(simp;omega)))))⟩
     ·have e:goodW ((⟨5,fl,st,pA,pn,pc,pad,code,last,inc,dep,only,wt,sA,sn,sc⟩:Fr).p l ss)=false:=by simp [goodW,Fr.p,known,rightB,zeroB,mayK,padOk,paddedB,prioOk,prioB,padF,hfl0,hfl1,HST.out,HS.out,hpad0]
      rw [e]
      clear e
      go_enter Try.func148,Try.ntmps148
      go_wp2_with fail
      refine (ridF st _).mono ?_
      rintro e w1 ⟨rfl,rfl⟩
      rw [HST.out]
      go_wp2_with fail
      refine (rright5 st _).mono ?_
      rintro e w1 ⟨rfl,rfl⟩
      rw [HRI.out]
      go_wp2_with fail
      refine (rpad5 _).mono ?_
      rintro e w1 ⟨rfl,rfl⟩
      go_wp2
      go_ret
      exact ⟨by simp,by with_reducible (repeat (first|exact Kp.refl _ _|assumption|refine Kp.alloc ?_ _|refine Kp.drew ?_|refine Kp.drewN ?_ _|(refine Kp.setL ?_ ?_ _;focus (simp;done))|(refine Kp.setR ?_ ?_ _;focus (first|(simp;done)|(simp;omega)))))⟩
   ·have HST:=Lib.hid (show idB st=false by simpa using hst)
    have hst':=HST.out
    have e:goodW ((⟨5,fl,st,pA,pn,pc,pad,code,last,inc,dep,only,wt,sA,sn,sc⟩:Fr).p l ss)=false:=by simp [goodW,Fr.p,known,rightB,zeroB,mayK,padOk,paddedB,prioOk,prioB,padF,hfl0,hfl1,hst']
    rw [e]
    clear e
    clear hst hst'
    go_enter Try.func148,Try.ntmps148
    go_wp2_with fail
    refine (ridF st _).mono ?_
    rintro e w1 ⟨rfl,rfl⟩
    rw [HST.out]
    go_wp2
    go_ret
    exact ⟨by simp,by with_reducible (repeat (first|exact Kp.refl _ _|assumption|refine Kp.alloc ?_ _|refine Kp.drew ?_|refine Kp.drewN ?_ _|(refine Kp.setL ?_ ?_ _;focus (simp;done))|(refine Kp.setR ?_ ?_ _;focus (first|(simp;done)|(simp;omega)))))⟩
  ·have e:goodW ((⟨5,fl,st,pA,pn,pc,pad,code,last,inc,dep,only,wt,sA,sn,sc⟩:Fr).p l ss)=false:=by simp [goodW,Fr.p,known,rightB,zeroB,mayK,padOk,paddedB,prioOk,prioB,padF,hfl1]
   rw [e]
   clear e
   go_enter Try.func148,Try.ntmps148
   go_wp2
   go_ret
   exact ⟨by simp,by with_reducible (repeat (first|exact Kp.refl _ _|assumption|refine Kp.alloc ?_ _|refine Kp.drew ?_|refine Kp.drewN ?_ _|(refine Kp.setL ?_ ?_ _;focus (simp;done))|(refine Kp.setR ?_ ?_ _;focus (first|(simp;done)|(simp;omega)))))⟩
 ·have e:goodW ((⟨5,fl,st,pA,pn,pc,pad,code,last,inc,dep,only,wt,sA,sn,sc⟩:Fr).p l ss)=false:=by simp [goodW,Fr.p,known,rightB,zeroB,mayK,padOk,paddedB,prioOk,prioB,padF,hfl0]
  rw [e]
  clear e
  go_enter Try.func148,Try.ntmps148
  go_wp2
  go_ret
  exact ⟨by simp,by with_reducible (repeat (first|exact Kp.refl _ _|assumption|refine Kp.alloc ?_ _|refine Kp.drew ?_|refine Kp.drewN ?_ _|(refine Kp.setL ?_ ?_ _;focus (simp;done))|(refine Kp.setR ?_ ?_ _;focus (first|(simp;done)|(simp;omega)))))⟩
theorem rmay6 (f:Fr) (l:List UInt8) (ss:List (Int × Int)) (w0:World) (ok:WrOk w0 f l ss) (hty:f.ty=6) :
  Calls Try.prog 148 #[.agg #[.int .i64 f.ty,.int .i64 f.fl,.int .i64 f.st,.slice f.pA f.pn f.pc,.int .i64 f.pad,.int .u32 f.code,.int .i64 f.last,.int .i64 f.inc,.int .i64 f.dep,.bool f.only,.int .i64 f.wt,.slice f.sA f.sn f.sc]] w0 (BoolK (goodW (f.p l ss)) w0):=by
 obtain ⟨hrd,hpn,hcode,hsd,hsn⟩:=ok
 obtain ⟨ty,fl,st,pA,pn,pc,pad,code,last,inc,dep,only,wt,sA,sn,sc⟩:=f
 dsimp only at *
 subst hty
 have HRD:=Lib.hid hrd
 have HSD:=Lib.hid hsd
 clear hrd hsd hcode
 by_cases hfl0:0≤fl
 ·by_cases hfl1:fl≤255
  ·by_cases hst:idB st=true
   ·have HST:=Lib.hid hst
    clear hst
    by_cases hs:st=0
    ·have HRI:=Lib.hid (show (false || (true == decide (st=0)))=true by simp [hs])
     have HS:=Lib.hid hs
     clear hs
     have HPRI:=Lib.hid (show prioB 6 fl=false by simp [prioB])
     by_cases h6:pn=8
     ·have h6':((pn:Int) == 8)=true:=by simp; omega
      have HL6:=Lib.hid (show l.length=8 from HRD.out.len.trans h6)
      clear h6
      have e:goodW ((⟨6,fl,st,pA,pn,pc,pad,code,last,inc,dep,only,wt,sA,sn,sc⟩:Fr).p l ss)=true:=by simp [goodW,Fr.p,known,rightB,zeroB,mayK,padOk,paddedB,prioOk,prioB,padF,hfl0,hfl1,HST.out,HS.out,(show idB 0=true from rfl),HL6.out]
      rw [e]
      clear e
      go_enter Try.func148,Try.ntmps148
      go_wp2_with fail
      refine (ridF st _).mono ?_
      rintro e w1 ⟨rfl,rfl⟩
      rw [HST.out]
      go_wp2_with fail
      refine (rright6 st _).mono ?_
      rintro e w1 ⟨rfl,rfl⟩
      rw [HRI.out]
      go_wp2_with fail
      refine (rpad6 _).mono ?_
      rintro e w1 ⟨rfl,rfl⟩
      go_wp2_with fail
      refine (rprio6 fl _ hfl0 hfl1).mono ?_
      rintro e w1 ⟨rfl,rfl⟩
      rw [HPRI.out]
      go_wp2
      go_ret
      exact ⟨by simp,by with_reducible (repeat (first|exact Kp.refl _ _|assumption|refine Kp.alloc ?_ _|refine Kp.drew ?_|refine Kp.drewN ?_ _|(refine Kp.setL ?_ ?_ _;focus (simp;done))|(refine Kp.setR ?_ ?_ _;focus (first|(simp;done)|(simp;omega)))))⟩
     ·have h6':((pn:Int) == 8)=false:=by simp; omega
      have HL6:=Lib.hid (show ¬ l.length=8 by rw [HRD.out.len]; exact h6)
      clear h6
      have e:goodW ((⟨6,fl,st,pA,pn,pc,pad,code,last,inc,dep,only,wt,sA,sn,sc⟩:Fr).p l ss)=false:=by simp [goodW,Fr.p,known,rightB,zeroB,mayK,padOk,paddedB,prioOk,prioB,padF,hfl0,hfl1,HST.out,HS.out,(show idB 0=true from rfl),HL6.out]
      rw [e]
      clear e
      go_enter Try.func148,Try.ntmps148
      go_wp2_with fail
      refine (ridF st _).mono ?_
      rintro e w1 ⟨rfl,rfl⟩
      rw [HST.out]
      go_wp2_with fail
      refine (rright6 st _).mono ?_
      rintro e w1 ⟨rfl,rfl⟩
      rw [HRI.out]
      go_wp2_with fail
      refine (rpad6 _).mono ?_
      rintro e w1 ⟨rfl,rfl⟩
      go_wp2_with fail
      refine (rprio6 fl _ hfl0 hfl1).mono ?_
      rintro e w1 ⟨rfl,rfl⟩
      rw [HPRI.out]
      go_wp2
      go_ret
      exact ⟨by simp,by with_reducible (repeat (first|exact Kp.refl _ _|assumption|refine Kp.alloc ?_ _|refine Kp.drew ?_|refine Kp.drewN ?_ _|(refine Kp.setL ?_ ?_ _;focus (simp;done))|(refine Kp.setR ?_ ?_ _;focus (first|(simp;done)|(simp;omega)))))⟩
    ·have HRI:=Lib.hid (show (false || (true == decide (st=0)))=false by simp [hs])
     have e:goodW ((⟨6,fl,st,pA,pn,pc,pad,code,last,inc,dep,only,wt,sA,sn,sc⟩:Fr).p l ss)=false:=by simp [goodW,Fr.p,known,rightB,zeroB,mayK,padOk,paddedB,prioOk,prioB,padF,hfl0,hfl1,HST.out,hs]
     rw [e]
     clear e
     clear hs
     go_enter Try.func148,Try.ntmps148
     go_wp2_with fail
     refine (ridF st _).mono ?_
     rintro e w1 ⟨rfl,rfl⟩
     rw [HST.out]
     go_wp2_with fail
     refine (rright6 st _).mono ?_
     rintro e w1 ⟨rfl,rfl⟩
     rw [HRI.out]
     go_wp2
     go_ret
     exact ⟨by simp,by with_reducible (repeat (first|exact Kp.refl _ _|assumption|refine Kp.alloc ?_ _|refine Kp.drew ?_|refine Kp.drewN ?_ _|(refine Kp.setL ?_ ?_ _;focus (simp;done))|(refine Kp.setR ?_ ?_ _;focus (first|(simp;done)|(simp;omega)))))⟩
   ·have HST:=Lib.hid (show idB st=false by simpa using hst)
    have hst':=HST.out
    have e:goodW ((⟨6,fl,st,pA,pn,pc,pad,code,last,inc,dep,only,wt,sA,sn,sc⟩:Fr).p l ss)=false:=by simp [goodW,Fr.p,known,rightB,zeroB,mayK,padOk,paddedB,prioOk,prioB,padF,hfl0,hfl1,hst']
    rw [e]
    clear e
    clear hst hst'
    go_enter Try.func148,Try.ntmps148
    go_wp2_with fail
    refine (ridF st _).mono ?_
    rintro e w1 ⟨rfl,rfl⟩
    rw [HST.out]
    go_wp2
    go_ret
    exact ⟨by simp,by with_reducible (repeat (first|exact Kp.refl _ _|assumption|refine Kp.alloc ?_ _|refine Kp.drew ?_|refine Kp.drewN ?_ _|(refine Kp.setL ?_ ?_ _;focus (simp;done))|(refine Kp.setR ?_ ?_ _;focus (first|(simp;done)|(simp;omega)))))⟩
  ·have e:goodW ((⟨6,fl,st,pA,pn,pc,pad,code,last,inc,dep,only,wt,sA,sn,sc⟩:Fr).p l ss)=false:=by simp [goodW,Fr.p,known,rightB,zeroB,mayK,padOk,paddedB,prioOk,prioB,padF,hfl1]
   rw [e]
   clear e
   go_enter Try.func148,Try.ntmps148
   go_wp2
   go_ret
   exact ⟨by simp,by with_reducible (repeat (first|exact Kp.refl _ _|assumption|refine Kp.alloc ?_ _|refine Kp.drew ?_|refine Kp.drewN ?_ _|(refine Kp.setL ?_ ?_ _;focus (simp;done))|(refine Kp.setR ?_ ?_ _;focus (first|(simp;done)|(simp;omega)))))⟩
 ·have e:goodW ((⟨6,fl,st,pA,pn,pc,pad,code,last,inc,dep,only,wt,sA,sn,sc⟩:Fr).p l ss)=false:=by simp [goodW,Fr.p,known,rightB,zeroB,mayK,padOk,paddedB,prioOk,prioB,padF,hfl0]
  rw [e]
  clear e
  go_enter Try.func148,Try.ntmps148
  go_wp2
  go_ret
  exact ⟨by simp,by with_reducible (repeat (first|exact Kp.refl _ _|assumption|refine Kp.alloc ?_ _|refine Kp.drew ?_|refine Kp.drewN ?_ _|(refine Kp.setL ?_ ?_ _;focus (simp;done))|(refine Kp.setR ?_ ?_ _;focus (first|(simp;done)|(simp;omega)))))⟩
end Go.Proofs.Ytkmcakneceagpaa
