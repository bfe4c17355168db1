/- The reference's may of layer 7, walked (2,3,9). -/
import Derived.Test.YtkmcakneceagpaaQFieldRef
import Derived.Test.YtkmcakneceagpaaQRdF
set_option linter.unusedSimpArgs false
set_option linter.unusedVariables false
set_option maxHeartbeats 8000000
set_option maxRecDepth 100000
namespace Go.Proofs.Ytkmcakneceagpaa
open Go.RowKit
theorem rmay2 (f:Fr) (l:List UInt8) (ss:List (Int × Int)) (w0:World) (ok:WrOk w0 f l ss) (hty:f.ty=2) :
  Calls Try.prog 148 #[.agg #[.int .i64 f.ty,.int .i64 f.fl,.int .i64 f.st,.slice f.pA f.pn f.pc,.int .i64 f.pad,.int .u32 f.code,.int .i64 f.last,.int .i64 f.inc,.int .i64 f.dep,.bool f.only,.int .i64 f.wt,.slice f.sA f.sn f.sc]] w0 (BoolK (goodW (f.p l ss)) w0):=by
 obtain ⟨hrd,hpn,hcode,hsd,hsn⟩:=ok
 obtain ⟨ty,fl,st,pA,pn,pc,pad,code,last,inc,dep,only,wt,sA,sn,sc⟩:=f
 dsimp only at *
 subst hty
 have HRD:=Lib.hid hrd
 have HSD:=Lib.hid hsd
 clear hrd hsd hcode
 by_cases hfl0:0≤fl
 ·by_cases hfl1:fl≤255
  ·by_cases hst:idB st=true
   ·have HST:=Lib.hid hst
    clear hst
    by_cases hs:st=0
    ·have HRI:=Lib.hid (show (false || (false == decide (st=0)))=false by simp [hs])
     have e:goodW ((⟨2,fl,st,pA,pn,pc,pad,code,last,inc,dep,only,wt,sA,sn,sc⟩:Fr).p l ss)=false:=by simp [goodW,Fr.p,known,rightB,zeroB,mayK,padOk,paddedB,prioOk,prioB,padF,hfl0,hfl1,HST.out,hs]
     rw [e]
     clear e
     clear hs
     go_enter Try.func148,Try.ntmps148
     go_wp2_with fail
     refine (ridF st _).mono ?_
     rintro e w1 ⟨rfl,rfl⟩
     rw [HST.out]
     go_wp2_with fail
     refine (rright2 st _).mono ?_
     rintro e w1 ⟨rfl,rfl⟩
     rw [HRI.out]
     go_wp2
     go_ret
     exact ⟨by simp,by with_reducible (repeat (first|exact Kp.refl _ _|assumption|refine Kp.alloc ?_ _|refine Kp.drew ?_|refine Kp.drewN ?_ _|(refine Kp.setL ?_ ?_ _;focus (simp;done))|(refine Kp.setR ?_ ?_ _;focus (first|(simp;done)|(simp;omega)))))⟩
    ·have HRI:=Lib.hid (show (false || (false == decide (st=0)))=true by simp [hs])
     have HS:=Lib.hid hs
     clear hs
     have HPRI:=Lib.hid (show prioB 2 fl=true by simp [prioB])
     by_cases hd:idB dep=true
     ·have HDEP:=Lib.hid hd
      clear hd
      by_cases hw0:1≤wt
      ·by_cases hw1:wt≤256
       ·have e:goodW ((⟨2,fl,st,pA,pn,pc,pad,code,last,inc,dep,only,wt,sA,sn,sc⟩:Fr).p l ss)=true:=by simp [goodW,Fr.p,known,rightB,zeroB,mayK,padOk,paddedB,prioOk,prioB,padF,hfl0,hfl1,HST.out,HS.out,HDEP.out,hw0,hw1]
        rw [e]
        clear e
        go_enter Try.func148,Try.ntmps148
        go_wp2_with fail
        refine (ridF st _).mono ?_
        rintro e w1 ⟨rfl,rfl⟩
        rw [HST.out]
        go_wp2_with fail
        refine (rright2 st _).mono ?_
        rintro e w1 ⟨rfl,rfl⟩
        rw [HRI.out]
        go_wp2_with fail
        refine (rpad2 _).mono ?_
        rintro e w1 ⟨rfl,rfl⟩
        go_wp2_with fail
        refine (rprio2 fl _ hfl0 hfl1).mono ?_
        rintro e w1 ⟨rfl,rfl⟩
        rw [HPRI.out]
        go_wp2_with fail
        refine (ridF dep _).mono ?_
        rintro e w1 ⟨rfl,rfl⟩
        rw [HDEP.out]
        go_wp2
        go_ret
        exact ⟨by simp,by with_reducible (repeat (first|exact Kp.refl _ _|assumption|refine Kp.alloc ?_ _|refine Kp.drew ?_|refine Kp.drewN ?_ _|(refine Kp.setL ?_ ?_ _;focus (simp;done))|(refine Kp.setR ?_ ?_ _;focus (first|(simp;done)|(simp;omega)))))⟩
       ·have e:goodW ((⟨2,fl,st,pA,pn,pc,pad,code,last,inc,dep,only,wt,sA,sn,sc⟩:Fr).p l ss)=false:=by simp [goodW,Fr.p,known,rightB,zeroB,mayK,padOk,paddedB,prioOk,prioB,padF,hfl0,hfl1,HST.out,HS.out,hw1]
        rw [e]
        clear e
        go_enter Try.func148,Try.ntmps148
        go_wp2_with fail
        refine (ridF st _).mono ?_
        rintro e w1 ⟨rfl,rfl⟩
        rw [HST.out]
        go_wp2_with fail
        refine (rright2 st _).mono ?_
        rintro e w1 ⟨rfl,rfl⟩
        rw [HRI.out]
        go_wp2_with fail
        refine (rpad2 _).mono ?_
        rintro e w1 ⟨rfl,rfl⟩
        go_wp2_with fail
        refine (rprio2 fl _ hfl0 hfl1).mono ?_
        rintro e w1 ⟨rfl,rfl⟩
        rw [HPRI.out]
        go_wp2_with fail
        refine (ridF dep _).mono ?_
        rintro e w1 ⟨rfl,rfl⟩
        rw [HDEP.out]
        go_wp2
        go_ret
        exact ⟨by simp,by with_reducible (repeat (first|exact Kp.refl _ _|assumption|refine Kp.alloc ?_ _|refine Kp.drew ?_|refine Kp.drewN ?_ _|(refine Kp.setL ?_ ?_ _;focus (simp;done))|(refine Kp.setR ?_ ?_ _;focus (first|(simp;done)|(simp;omega)))))⟩
      ·have e:goodW ((⟨2,fl,st,pA,pn,pc,pad,code,last,inc,dep,only,wt,sA,sn,sc⟩:Fr).p l ss)=false:=by simp [goodW,Fr.p,known,rightB,zeroB,mayK,padOk,paddedB,prioOk,prioB,padF,hfl0,hfl1,HST.out,HS.out,hw0]
       rw [e]
       clear e
       go_enter Try.func148,Try.ntmps148
       go_wp2_with fail
       refine (ridF st _).mono ?_
       rintro e w1 ⟨rfl,rfl⟩
       rw [HST.out]
       go_wp2_with fail
       refine (rright2 st _).mono ?_
       rintro e w1 ⟨rfl,rfl⟩
       rw [HRI.out]
       go_wp2_with fail
       refine (rpad2 _).mono ?_
       rintro e w1 ⟨rfl,rfl⟩
       go_wp2_with fail
       refine (rprio2 fl _ hfl0 hfl1).mono ?_
       rintro e w1 ⟨rfl,rfl⟩
       rw [HPRI.out]
       go_wp2_with fail
       refine (ridF dep _).mono ?_
       rintro e w1 ⟨rfl,rfl⟩
       rw [HDEP.out]
       go_wp2
       go_ret
       exact ⟨by simp,by with_reducible (repeat (first|exact Kp.refl _ _|assumption|refine Kp.alloc ?_ _|refine Kp.drew ?_|refine Kp.drewN ?_ _|(refine Kp.setL ?_ ?_ _;focus (simp;done))|(refine Kp.setR ?_ ?_ _;focus (first|(simp;done)|(simp;omega)))))⟩
     ·have HDEP:=Lib.hid (show idB dep=false by simpa using hd)
      clear hd
      have e:goodW ((⟨2,fl,st,pA,pn,pc,pad,code,last,inc,dep,only,wt,sA,sn,sc⟩:Fr).p l ss)=false:=by simp [goodW,Fr.p,known,rightB,zeroB,mayK,padOk,paddedB,prioOk,prioB,padF,hfl0,hfl1,HST.out,HS.out,HDEP.out]
      rw [e]
      clear e
      go_enter Try.func148,Try.ntmps148
      go_wp2_with fail
      refine (ridF st _).mono ?_
      rintro e w1 ⟨rfl,rfl⟩
      rw [HST.out]
      go_wp2_with fail
      refine (rright2 st _).mono ?_
      rintro e w1 ⟨rfl,rfl⟩
      rw [HRI.out]
      go_wp2_with fail
      refine (rpad2 _).mono ?_
      rintro e w1 ⟨rfl,rfl⟩
      go_wp2_with fail
      refine (rprio2 fl _ hfl0 hfl1).mono ?_
      rintro e w1 ⟨rfl,rfl⟩
      rw [HPRI.out]
      go_wp2_with fail
      refine (ridF dep _).mono ?_
      rintro e w1 ⟨rfl,rfl⟩
      rw [HDEP.out]
      go_wp2
      go_ret
      exact ⟨by simp,by with_reducible (repeat (first|exact Kp.refl _ _|assumption|refine Kp.alloc ?_ _|refine Kp.drew ?_|refine Kp.drewN ?_ _|(refine Kp.setL ?_ ?_ _;focus (simp;done))|(refine Kp.setR ?_ ?_ _;focus (first|(simp;done)|(simp;omega)))))⟩
   ·have HST:=Lib.hid (show idB st=false by simpa using hst)
    have hst':=HST.out
    have e:goodW ((⟨2,fl,st,pA,pn,pc,pad,code,last,inc,dep,only,wt,sA,sn,sc⟩:Fr).p l ss)=false:=by simp [goodW,Fr.p,known,rightB,zeroB,mayK,padOk,paddedB,prioOk,prioB,padF,hfl0,hfl1,hst']
    rw [e]
    clear e
    clear hst hst'
    go_enter Try.func148,Try.ntmps148
    go_wp2_with fail
    refine (ridF st _).mono ?_
    rintro e w1 ⟨rfl,rfl⟩
    rw [HST.out]
    go_wp2
    go_ret
    exact ⟨by simp,by with_reducible (repeat (first|exact Kp.refl _ _|assumption|refine Kp.alloc ?_ _|refine Kp.drew ?_|refine Kp.drewN ?_ _|(refine Kp.setL ?_ ?_ _;focus (simp;done))|(refine Kp.setR ?_ ?_ _;focus (first|(simp;done)|(simp;omega)))))⟩
  ·have e:goodW ((⟨2,fl,st,pA,pn,pc,pad,code,last,inc,dep,only,wt,sA,sn,sc⟩:Fr).p l ss)=false:=by simp [goodW,Fr.p,known,rightB,zeroB,mayK,padOk,paddedB,prioOk,prioB,padF,hfl1]
   rw [e]
   clear e
   go_enter Try.func148,Try.ntmps148
   go_wp2
   go_ret
   exact ⟨by simp,by with_reducible (repeat (first|exact Kp.refl _ _|assumption|refine Kp.alloc ?_ _|refine Kp.drew ?_|refine Kp.drewN ?_ _|(refine Kp.setL ?_ ?_ _;focus (simp;done))|(refine Kp.setR ?_ ?_ _;focus (first|(simp;done)|(simp;omega)))))⟩
 ·have e:goodW ((⟨2,fl,st,pA,pn,pc,pad,code,last,inc,dep,only,wt,sA,sn,sc⟩:Fr).p l ss)=false:=by simp [goodW,Fr.p,known,rightB,zeroB,mayK,padOk,paddedB,prioOk,prioB,padF,hfl0]
  rw [e]
  clear e
  go_enter Try.func148,Try.ntmps148
  go_wp2
  go_ret
  exact ⟨by simp,by with_reducible (repeat (first|exact Kp.refl _ _|assumption|refine Kp.alloc ?_ _|refine Kp.drew ?_|refine Kp.drewN ?_ _|(refine Kp.setL ?_ ?_ _;focus (simp;done))|(refine Kp.setR ?_ ?_ _;focus (first|(simp;done)|(simp;omega)))))⟩
theorem rmay3 (f:Fr) (l:List UInt8) (ss:List (Int × Int)) (w0:World) (ok:WrOk w0 f l ss) (hty:f.ty=3) :
  Calls Try.prog 148 #[.agg #[.int .i64 f.ty,.int .i64 f.fl,.int .i64 f.st,.slice f.pA f.pn f.pc,.int .i64 f.pad,.int .u32 f.code,.int .i64 f.last,.int .i64 f.inc,.int .i64 f.dep,.bool f.only,.int .i64 f.wt,.slice f.sA f.sn f.sc]] w0 (BoolK (goodW (f.p l ss)) w0):=by
 obtain ⟨hrd,hpn,hcode,hsd,hsn⟩:=ok
 obtain ⟨ty,fl,st,pA,pn,pc,pad,code,last,inc,dep,only,wt,sA,sn,sc⟩:=f
 dsimp only at *
 subst hty
 have HRD:=Lib.hid hrd
 have HSD:=Lib.hid hsd
 clear hrd hsd hcode
 by_cases hfl0:0≤fl
 ·by_cases hfl1:fl≤255
  ·by_cases hst:idB st=true
   ·have HST:=Lib.hid hst
    clear hst
    by_cases hs:st=0
    ·have HRI:=Lib.hid (show (false || (false == decide (st=0)))=false by simp [hs])
     have e:goodW ((⟨3,fl,st,pA,pn,pc,pad,code,last,inc,dep,only,wt,sA,sn,sc⟩:Fr).p l ss)=false:=by simp [goodW,Fr.p,known,rightB,zeroB,mayK,padOk,paddedB,prioOk,prioB,padF,hfl0,hfl1,HST.out,hs]
     rw [e]
     clear e
     clear hs
     go_enter Try.func148,Try.ntmps148
     go_wp2_with fail
     refine (ridF st _).mono ?_
     rintro e w1 ⟨rfl,rfl⟩
     rw [HST.out]
     go_wp2_with fail
     refine (rright3 st _).mono ?_
     rintro e w1 ⟨rfl,rfl⟩
     rw [HRI.out]
     go_wp2
     go_ret
     exact ⟨by simp,by with_reducible (repeat (first|exact Kp.refl _ _|assumption|refine Kp.alloc ?_ _|refine Kp.drew ?_|refine Kp.drewN ?_ _|(refine Kp.setL ?_ ?_ _;focus (simp;done))|(refine Kp.setR ?_ ?_ _;focus (first|(simp;done)|(simp;omega)))))⟩
    ·have HRI:=Lib.hid (show (false || (false == decide (st=0)))=true by simp [hs])
     have HS:=Lib.hid hs
     clear hs
     have HPRI:=Lib.hid (show prioB 3 fl=false by simp [prioB])
     have e:goodW ((⟨3,fl,st,pA,pn,pc,pad,code,last,inc,dep,only,wt,sA,sn,sc⟩:Fr).p l ss)=true:=by simp [goodW,Fr.p,known,rightB,zeroB,mayK,padOk,paddedB,prioOk,prioB,padF,hfl0,hfl1,HST.out,HS.out]
     rw [e]
     clear e
     go_enter Try.func148,Try.ntmps148
     go_wp2_with fail
     refine (ridF st _).mono ?_
     rintro e w1 ⟨rfl,rfl⟩
     rw [HST.out]
     go_wp2_with fail
     refine (rright3 st _).mono ?_
     rintro e w1 ⟨rfl,rfl⟩
     rw [HRI.out]
     go_wp2_with fail
     refine (rpad3 _).mono ?_
     rintro e w1 ⟨rfl,rfl⟩
     go_wp2_with fail
     refine (rprio3 fl _ hfl0 hfl1).mono ?_
     rintro e w1 ⟨rfl,rfl⟩
     rw [HPRI.out]
     go_wp2
     go_ret
     exact ⟨by simp,by with_reducible (repeat (first|exact Kp.refl _ _|assumption|refine Kp.alloc ?_ _|refine Kp.drew ?_|refine Kp.drewN ?_ _|(refine Kp.setL ?_ ?_ _;focus (simp;done))|(refine Kp.setR ?_ ?_ _;focus (first|(simp;done)|(simp;omega)))))⟩
   ·have HST:=Lib.hid (show idB st=false by simpa using hst)
    have hst':=HST.out
    have e:goodW ((⟨3,fl,st,pA,pn,pc,pad,code,last,inc,dep,only,wt,sA,sn,sc⟩:Fr).p l ss)=false:=by simp [goodW,Fr.p,known,rightB,zeroB,mayK,padOk,paddedB,prioOk,prioB,padF,hfl0,hfl1,hst']
    rw [e]
    clear e
    clear hst hst'
    go_enter Try.func148,Try.ntmps148
    go_wp2_with fail
    refine (ridF st _).mono ?_
    rintro e w1 ⟨rfl,rfl⟩
    rw [HST.out]
    go_wp2
    go_ret
    exact ⟨by simp,by with_reducible (repeat (first|exact Kp.refl _ _|assumption|refine Kp.alloc ?_ _|refine Kp.drew ?_|refine Kp.drewN ?_ _|(refine Kp.setL ?_ ?_ _;focus (simp;done))|(refine Kp.setR ?_ ?_ _;focus (first|(simp;done)|(simp;omega)))))⟩
  ·have e:goodW ((⟨3,fl,st,pA,pn,pc,pad,code,last,inc,dep,only,wt,sA,sn,sc⟩:Fr).p l ss)=false:=by simp [goodW,Fr.p,known,rightB,zeroB,mayK,padOk,paddedB,prioOk,prioB,padF,hfl1]
   rw [e]
   clear e
   go_enter Try.func148,Try.ntmps148
   go_wp2
   go_ret
   exact ⟨by simp,by with_reducible (repeat (first|exact Kp.refl _ _|assumption|refine Kp.alloc ?_ _|refine Kp.drew ?_|refine Kp.drewN ?_ _|(refine Kp.setL ?_ ?_ _;focus (simp;done))|(refine Kp.setR ?_ ?_ _;focus (first|(simp;done)|(simp;omega)))))⟩
 ·have e:goodW ((⟨3,fl,st,pA,pn,pc,pad,code,last,inc,dep,only,wt,sA,sn,sc⟩:Fr).p l ss)=false:=by simp [goodW,Fr.p,known,rightB,zeroB,mayK,padOk,paddedB,prioOk,prioB,padF,hfl0]
  rw [e]
  clear e
  go_enter Try.func148,Try.ntmps148
  go_wp2
  go_ret
  exact ⟨by simp,by with_reducible (repeat (first|exact Kp.refl _ _|assumption|refine Kp.alloc ?_ _|refine Kp.drew ?_|refine Kp.drewN ?_ _|(refine Kp.setL ?_ ?_ _;focus (simp;done))|(refine Kp.setR ?_ ?_ _;focus (first|(simp;done)|(simp;omega)))))⟩
theorem rmay9 (f:Fr) (l:List UInt8) (ss:List (Int × Int)) (w0:World) (ok:WrOk w0 f l ss) (hty:f.ty=9) :
  Calls Try.prog 148 #[.agg #[.int .i64 f.ty,.int .i64 f.fl,.int .i64 f.st,.slice f.pA f.pn f.pc,.int .i64 f.pad,.int .u32 f.code,.int .i64 f.last,.int .i64 f.inc,.int .i64 f.dep,.bool f.only,.int .i64 f.wt,.slice f.sA f.sn f.sc]] w0 (BoolK (goodW (f.p l ss)) w0):=by
 obtain ⟨hrd,hpn,hcode,hsd,hsn⟩:=ok
 obtain ⟨ty,fl,st,pA,pn,pc,pad,code,last,inc,dep,only,wt,sA,sn,sc⟩:=f
 dsimp only at *
 subst hty
 have HRD:=Lib.hid hrd
 have HSD:=Lib.hid hsd
 clear hrd hsd hcode
 by_cases hfl0:0≤fl
 ·by_cases hfl1:fl≤255
  ·by_cases hst:idB st=true
   ·have HST:=Lib.hid hst
    clear hst
    by_cases hs:st=0
    ·have HRI:=Lib.hid (show (false || (false == decide (st=0)))=false by simp [hs])
     have e:goodW ((⟨9,fl,st,pA,pn,pc,pad,code,last,inc,dep,only,wt,sA,sn,sc⟩:Fr).p l ss)=false:=by simp [goodW,Fr.p,known,rightB,zeroB,mayK,padOk,paddedB,prioOk,prioB,padF,hfl0,hfl1,HST.out,hs]
     rw [e]
     clear e
     clear hs
     go_enter Try.func148,Try.ntmps148
     go_wp2_with fail
     refine (ridF st _).mono ?_
     rintro e w1 ⟨rfl,rfl⟩
     rw [HST.out]
     go_wp2_with fail
     refine (rright9 st _).mono ?_
     rintro e w1 ⟨rfl,rfl⟩
     rw [HRI.out]
     go_wp2
     go_ret
     exact ⟨by simp,by with_reducible (repeat (first|exact Kp.refl _ _|assumption|refine Kp.alloc ?_ _|refine Kp.drew ?_|refine Kp.drewN ?_ _|(refine Kp.setL ?_ ?_ _;focus (simp;done))|(refine Kp.setR ?_ ?_ _;focus (first|(simp;done)|(simp;omega)))))⟩
    ·have HRI:=Lib.hid (show (false || (false == decide (st=0)))=true by simp [hs])
     have HS:=Lib.hid hs
     clear hs
     have HPRI:=Lib.hid (show prioB 9 fl=false by simp [prioB])
     have e:goodW ((⟨9,fl,st,pA,pn,pc,pad,code,last,inc,dep,only,wt,sA,sn,sc⟩:Fr).p l ss)=true:=by simp [goodW,Fr.p,known,rightB,zeroB,mayK,padOk,paddedB,prioOk,prioB,padF,hfl0,hfl1,HST.out,HS.out]
     rw [e]
     clear e
     go_enter Try.func148,Try.ntmps148
     go_wp2_with fail
     refine (ridF st _).mono ?_
     rintro e w1 ⟨rfl,rfl⟩
     rw [HST.out]
     go_wp2_with fail
     refine (rright9 st _).mono ?_
     rintro e w1 ⟨rfl,rfl⟩
     rw [HRI.out]
     go_wp2_with fail
     refine (rpad9 _).mono ?_
     rintro e w1 ⟨rfl,rfl⟩
     go_wp2_with fail
     refine (rprio9 fl _ hfl0 hfl1).mono ?_
     rintro e w1 ⟨rfl,rfl⟩
     rw [HPRI.out]
     go_wp2
     go_ret
     exact ⟨by simp,by with_reducible (repeat (first|exact Kp.refl _ _|assumption|refine Kp.alloc ?_ _|refine Kp.drew ?_|refine Kp.drewN ?_ _|(refine Kp.setL ?_ ?_ _;focus (simp;done))|(refine Kp.setR ?_ ?_ _;focus (first|(simp;done)|(simp;omega)))))⟩
   ·have HST:=Lib.hid (show idB st=false by simpa using hst)
    have hst':=HST.out
    have e:goodW ((⟨9,fl,st,pA,pn,pc,pad,code,last,inc,dep,only,wt,sA,sn,sc⟩:Fr).p l ss)=false:=by simp [goodW,Fr.p,known,rightB,zeroB,mayK,padOk,paddedB,prioOk,prioB,padF,hfl0,hfl1,hst']
    rw [e]
    clear e
    clear hst hst'
    go_enter Try.func148,Try.ntmps148
    go_wp2_with fail
    refine (ridF st _).mono ?_
    rintro e w1 ⟨rfl,rfl⟩
    rw [HST.out]
    go_wp2
    go_ret
    exact ⟨by simp,by with_reducible (repeat (first|exact Kp.refl _ _|assumption|refine Kp.alloc ?_ _|refine Kp.drew ?_|refine Kp.drewN ?_ _|(refine Kp.setL ?_ ?_ _;focus (simp;done))|(refine Kp.setR ?_ ?_ _;focus (first|(simp;done)|(simp;omega)))))⟩
  ·have e:goodW ((⟨9,fl,st,pA,pn,pc,pad,code,last,inc,dep,only,wt,sA,sn,sc⟩:Fr).p l ss)=false:=by simp [goodW,Fr.p,known,rightB,zeroB,mayK,padOk,paddedB,prioOk,prioB,padF,hfl1]
   rw [e]
   clear e
   go_enter Try.func148,Try.ntmps148
   go_wp2
   go_ret
   exact ⟨by simp,by with_reducible (repeat (first|exact Kp.refl _ _|assumption|refine Kp.alloc ?_ _|refine Kp.drew ?_|refine Kp.drewN ?_ _|(refine Kp.setL ?_ ?_ _;focus (simp;done))|(refine Kp.setR ?_ ?_ _;focus (first|(simp;done)|(simp;omega)))))⟩
 ·have e:goodW ((⟨9,fl,st,pA,pn,pc,pad,code,last,inc,dep,only,wt,sA,sn,sc⟩:Fr).p l ss)=false:=by simp [goodW,Fr.p,known,rightB,zeroB,mayK,padOk,paddedB,prioOk,prioB,padF,hfl0]
  rw [e]
  clear e
  go_enter Try.func148,Try.ntmps148
  go_wp2
  go_ret
  exact ⟨by simp,by with_reducible (repeat (first|exact Kp.refl _ _|assumption|refine Kp.alloc ?_ _|refine Kp.drew ?_|refine Kp.drewN ?_ _|(refine Kp.setL ?_ ?_ _;focus (simp;done))|(refine Kp.setR ?_ ?_ _;focus (first|(simp;done)|(simp;omega)))))⟩
end Go.Proofs.Ytkmcakneceagpaa
