/- The contracts of the reference's layer 2: the same plain functions 'num', 'putR', 'bytesOf'. A frame's head and the known types, by the reference. The reference of layer 7: its small functions. The reference's Parse: its small functions. Numbers and heads out of very long bytes, by the reference. The reference's Parse: the ways on which no frame of a known type is told. -/
import Derived.Test.YtkmcakneceagpaaQMem
import Derived.Test.YtkmcakneceagpaaQKin4
import Derived.Test.YtkmcakneceagpaaQPrs6
set_option linter.unusedSimpArgs false
set_option linter.unusedVariables false
set_option maxHeartbeats 8000000
set_option maxRecDepth 100000
namespace Go.Proofs.Ytkmcakneceagpaa
open Go.RowKit

theorem number2_any (A:Option Addr) (n c:Nat) (i:Int) (l:List UInt8) (w:World) (hn:n≤140737488355328) (hr:Rd w A n c l) :
  Calls Try.prog 116 #[.slice A n c,.int .i64 i,.int .i64 2] w (Num3 .u64 (num 2 l i).1 (num 2 l i).2.1 (num 2 l i).2.2 w):=by
 have hlen:=hr.len
 by_cases ha:i < 0∨(l.length:Int) < i
 ·rw [num_arg ha]
  rw [hlen] at ha
  clear hlen hr
  rcases ha with h | h
  ·go_enter Try.func116,Try.ntmps116
   go_wp2
   go_ret3
   exact ⟨rfl,Kp.refl _ _⟩
  ·have h':¬ i < 0:=by omega
   go_enter Try.func116,Try.ntmps116
   go_wp2
   go_ret3
   exact ⟨rfl,Kp.refl _ _⟩
 ·by_cases hs:(l.length:Int) - i < 2
  ·rw [num_short (by omega) (by omega) hs]
   have h0:0≤i:=by omega
   have h1:i≤n:=by omega
   have h2:(n:Int) - i < 2:=by omega
   have HL:=Lib.hid hlen
   clear hlen hr ha hs
   go_enter Try.func116,Try.ntmps116
   go_wp2
   go_ret3
   exact Num3.mk rfl (by rw [HL.out]) rfl (Kp.refl _ _)
  ·obtain ⟨j,rfl⟩:=Int.eq_ofNat_of_zero_le (show 0≤i by omega)
   have hj:j+2≤n:=by omega
   obtain ⟨b,off,rfl,hb,hcell⟩:=hr.addr (by omega)
   have hcap:=hr.cap
   rw [num_ok (by omega)]
   have HT:Hid (∀ k,k < 2→be ((l.drop j).take (k+1))=be ((l.drop j).take k) * 256+(l.getD (j+k) 0).toNat):=by
    intro k hk
    rw [be_take_succ _ _ (by simp; omega)]
    simp [List.getD_eq_getElem?_getD]
   clear hlen hr ha hs
   have d1:decide ((j:Int) < 0)=false:=by simp
   have d2:decide (n < j)=false:=by simp; omega
   have d3:decide ((n:Int) - j < 2)=false:=by simp; omega
   go_enter Try.func116,Try.ntmps116
   go_wp2
   go_loop [9,10] (fun v k=>∃ kk:Nat,kk≤2∧k=.int .i64 kk∧v=.int .u64 (be ((l.drop j).take kk))) (fun _ k=>2 - (intOf k).toNat)
   case atStart=>exact ⟨0,by omega,rfl,by simp [be]⟩
   case round =>
    obtain ⟨k,hk,rfl,rfl⟩:=hrel
    by_cases hlt:k < 2
    ·have hc2:=hcell (j+k) (by omega)
     have HB:be ((l.drop j).take k) < 16777216:=Nat.lt_of_lt_of_le (be_take_lt (l.drop j) k) (Nat.le_trans (Nat.pow_le_pow_right (by omega) (show k≤3 by omega)) (by decide))
     have HC:(l.getD (j+k) 0).toNat < 256:=(l.getD (j+k) 0).toNat_lt
     simp only [List.getD_eq_getElem?_getD] at HC
     clear hcell
     go_wp2
     go_round
     case rel =>
      refine ⟨k+1,by omega,by go_num,?_⟩
      rw [HT.out k hlt]
      simp only [List.getD_eq_getElem?_getD]
      go_num
     case measure=>simp [intOf]; omega
    ·obtain rfl:k=2:=by omega
     clear hcell
     go_wp2
     go_ret3
     exact Num3.mk rfl rfl rfl (Kp.refl _ _)

theorem number4_any (A:Option Addr) (n c:Nat) (i:Int) (l:List UInt8) (w:World) (hn:n≤140737488355328) (hr:Rd w A n c l) :
  Calls Try.prog 116 #[.slice A n c,.int .i64 i,.int .i64 4] w (Num3 .u64 (num 4 l i).1 (num 4 l i).2.1 (num 4 l i).2.2 w):=by
 have hlen:=hr.len
 by_cases ha:i < 0∨(l.length:Int) < i
 ·rw [num_arg ha]
  rw [hlen] at ha
  clear hlen hr
  rcases ha with h | h
  ·go_enter Try.func116,Try.ntmps116
   go_wp2
   go_ret3
   exact ⟨rfl,Kp.refl _ _⟩
  ·have h':¬ i < 0:=by omega
   go_enter Try.func116,Try.ntmps116
   go_wp2
   go_ret3
   exact ⟨rfl,Kp.refl _ _⟩
 ·by_cases hs:(l.length:Int) - i < 4
  ·rw [num_short (by omega) (by omega) hs]
   have h0:0≤i:=by omega
   have h1:i≤n:=by omega
   have h2:(n:Int) - i < 4:=by omega
   have HL:=Lib.hid hlen
   clear hlen hr ha hs
   go_enter Try.func116,Try.ntmps116
   go_wp2
   go_ret3
   exact Num3.mk rfl (by rw [HL.out]) rfl (Kp.refl _ _)
  ·obtain ⟨j,rfl⟩:=Int.eq_ofNat_of_zero_le (show 0≤i by omega)
   have hj:j+4≤n:=by omega
   obtain ⟨b,off,rfl,hb,hcell⟩:=hr.addr (by omega)
   have hcap:=hr.cap
   rw [num_ok (by omega)]
   have HT:Hid (∀ k,k < 4→be ((l.drop j).take (k+1))=be ((l.drop j).take k) * 256+(l.getD (j+k) 0).toNat):=by
    intro k hk
    rw [be_take_succ _ _ (by simp; omega)]
    simp [List.getD_eq_getElem?_getD]
   clear hlen hr ha hs
   have d1:decide ((j:Int) < 0)=false:=by simp
   have d2:decide (n < j)=false:=by simp; omega
   have d3:decide ((n:Int) - j < 4)=false:=by simp; omega
   go_enter Try.func116,Try.ntmps116
   go_wp2
   go_loop [9,10] (fun v k=>∃ kk:Nat,kk≤4∧k=.int .i64 kk∧v=.int .u64 (be ((l.drop j).take kk))) (fun _ k=>4 - (intOf k).toNat)
   case atStart=>exact ⟨0,by omega,rfl,by simp [be]⟩
   case round =>
    obtain ⟨k,hk,rfl,rfl⟩:=hrel
    by_cases hlt:k < 4
    ·have hc2:=hcell (j+k) (by omega)
     have HB:be ((l.drop j).take k) < 16777216:=Nat.lt_of_lt_of_le (be_take_lt (l.drop j) k) (Nat.le_trans (Nat.pow_le_pow_right (by omega) (show k≤3 by omega)) (by decide))
     have HC:(l.getD (j+k) 0).toNat < 256:=(l.getD (j+k) 0).toNat_lt
     simp only [List.getD_eq_getElem?_getD] at HC
     clear hcell
     go_wp2
     go_round
     case rel =>
      refine ⟨k+1,by omega,by go_num,?_⟩
      rw [HT.out k hlt]
      simp only [List.getD_eq_getElem?_getD]
      go_num
     case measure=>simp [intOf]; omega
    ·obtain rfl:k=4:=by omega
     clear hcell
     go_wp2
     go_ret3
     exact Num3.mk rfl rfl rfl (Kp.refl _ _)

theorem refU16_any (A:Option Addr) (n c:Nat) (i:Int) (l:List UInt8) (w:World) (hn:n≤140737488355328) (hr:Rd w A n c l) :
  Calls Try.prog 40 #[.slice A n c,.int .i64 i] w (Num3 .i64 (num 2 l i).1 (num 2 l i).2.1 (num 2 l i).2.2 w):=by
 have hb:(num 2 l i).1 < 65536:=Nat.lt_of_lt_of_eq (num_lt 2 l i) pow2
 go_enter Try.func40,Try.ntmps40
 go_wp2_with (go_at_call 116; refine (number2_any _ _ _ _ _ _ hn hr).mono ?_; rintro e w' ⟨rfl,hk⟩)
 go_ret3
 exact Num3.mk (by first | rfl | omega) rfl rfl hk

theorem refU32_any (A:Option Addr) (n c:Nat) (i:Int) (l:List UInt8) (w:World) (hn:n≤140737488355328) (hr:Rd w A n c l) :
  Calls Try.prog 35 #[.slice A n c,.int .i64 i] w (Num3 .u32 (num 4 l i).1 (num 4 l i).2.1 (num 4 l i).2.2 w):=by
 have hb:(num 4 l i).1 < 4294967296:=Nat.lt_of_lt_of_eq (num_lt 4 l i) pow4
 go_enter Try.func35,Try.ntmps35
 go_wp2_with (go_at_call 116; refine (number4_any _ _ _ _ _ _ hn hr).mono ?_; rintro e w' ⟨rfl,hk⟩)
 go_ret3
 exact Num3.mk (by first | rfl | omega) rfl rfl hk

theorem refU31_any (A:Option Addr) (n c:Nat) (i:Int) (l:List UInt8) (w:World) (hn:n≤140737488355328) (hr:Rd w A n c l) :
  Calls Try.prog 52 #[.slice A n c,.int .i64 i] w (Num3 .i64 ((num 4 l i).1 % 2147483648:Nat) (num 4 l i).2.1 (num 4 l i).2.2 w):=by
 have hb:(num 4 l i).1 < 4294967296:=Nat.lt_of_lt_of_eq (num_lt 4 l i) pow4
 go_enter Try.func52,Try.ntmps52
 go_wp2_with (go_at_call 116; refine (number4_any _ _ _ _ _ _ hn hr).mono ?_; rintro e w' ⟨rfl,hk⟩)
 go_ret3
 refine Num3.mk ?_ rfl rfl hk
 first | rfl | omega | (unfold wrap64; omega)

/-! ### bytes -/
theorem set_rep (m:Nat) (S:List UInt8) (x:UInt8):((List.replicate (m+1) (0:UInt8)++S).set m x)=List.replicate m 0++(x :: S):=by
 induction m with
 | zero=>simp
 | succ m ih=>rw [List.replicate_succ,List.cons_append,List.set_cons_succ,ih,List.replicate_succ,List.cons_append]
theorem bytes_any (v n:Nat) (w:World) (hn:n≤1000) (hv:v < 18446744073709551616):Calls Try.prog 117 #[.int .u64 v,.int .i64 n] w (OwR 5 (bytesOf v n) w):=by
 have hmk:=run_make_row' (P:=Try.prog) 22 5 (.int .u8 0) 1 Try.underlying22 Try.info5 rfl .i64 .i64 n (by omega) (by omega)
 have hm0:(madeCells #[Value.int .u8 0] n).toList=(List.replicate n (0:UInt8)++[]).map u8:=by
  apply List.ext_getElem
  ·simp [madeCells]
  ·intro i h1 h2
   simp [madeCells,Nat.mod_one,u8]
 have H0:=Lib.hid hm0
 clear hm0
 go_enter Try.func117,Try.ntmps117
 go_wp2
 go_loopw [0,6] (fun vv i wr=>∃ (m x:Nat) (S:List UInt8) (cs:Array Value),m≤n∧i=.int .i64 ((m:Int) - 1)∧vv=.int .u64 x∧x < 18446744073709551616∧Hid (bytesOf v n=bytesOf x m++S)∧Hid (cs.toList=(List.replicate m 0++S).map u8)∧wr=w.alloc (.cells cs 5)) (fun _ i _=>(intOf i+1).toNat)
 case atStart=>exact ⟨n,v,[],_,Nat.le_refl _,rfl,rfl,hv,show _=_ by simp,H0.out,rfl⟩
 case round =>
  obtain ⟨m,x,S,cs,hm,rfl,rfl,hx,hS,hcs,rfl⟩:=hrel
  by_cases h0:m=0
  ·subst h0
   go_wp2
   go_ret
   have e1:=hS.out
   simp only [bytesOf,List.nil_append] at e1
   have e2:=hcs.out
   simp only [List.replicate_zero,List.nil_append] at e2
   subst e1
   have hl:(bytesOf v n).length=n:=bytesOf_length v n
   have:=Ow.new w w.heap.size 5 cs.toList 1 n (Nat.le_refl _) (by rw [e2]; simp [hl]) (by simp only [maxLen]; omega)
   refine ⟨_,_,_,rfl,?_,(Kp.refl _ _).alloc _⟩
   rw [← e2]
   simpa using this
  ·obtain ⟨k,rfl⟩:∃ k,m=k+1:=⟨m - 1,by omega⟩
   have ek:(((k+1:Nat):Int) - 1)=(k:Int):=by omega
   rw [ek]
   have hlen:k < cs.size:=by
    have:=congrArg List.length hcs.out
    simp at this
    omega
   have hget:cs[k]?=some cs[k]:=Array.getElem?_eq_getElem hlen
   clear ek
   go_wp2
   go_roundw
   case rel =>
    refine ⟨k,x / 256,UInt8.ofNat (x % 256) :: S,cs.setIfInBounds k (u8 (UInt8.ofNat (x % 256))),by omega,by go_num,by go_num,by omega,?_,?_,?_⟩
    ·show _=_
     rw [hS.out,bytesOf]
     simp
    ·show _=_
     rw [Array.toList_setIfInBounds,hcs.out,← List.map_set,set_rep]
    ·simp [u8]
   case measure=>simp [intOf]

theorem bytes_lit (v k:Nat) (w:World) (hk:k≤1000) (hv:v < 18446744073709551616) (e:Int) (he:e=(k:Int)):Calls Try.prog 117 #[.int .u64 v,.int .i64 e] w (OwR 5 (bytesOf v k) w):=by
 subst he
 exact bytes_any v k w hk hv
theorem refPut32_any (n:Nat) (w:World) (hn:n < 4294967296):Calls Try.prog 37 #[.int .u32 n] w (OwR 5 (bytesOf n 4) w):=by
 go_enter Try.func37,Try.ntmps37
 go_wp2_with fail
 refine (bytes_lit n 4 w (by omega) (by omega) _ rfl).mono ?_
 rintro e w' ⟨A,n',c,rfl,hr,hk⟩
 have HR:=Lib.hid hr
 clear hr
 go_wp2
 go_ret
 exact ⟨_,_,_,rfl,HR.out,hk⟩

theorem refput2_any (n:Int) (w:World) (hw:-9223372036854775808≤n∧n≤9223372036854775807):Calls Try.prog 120 #[.int .i64 n,.int .i64 2,.int .i64 65536] w (OwE 5 (putR n 2 65536).1 (putR n 2 65536).2 w):=by
 by_cases h:n < 0∨65536≤n
 ·rw [putR_no h]
  rcases h with h | h
  ·go_enter Try.func120,Try.ntmps120
   go_wp2_with fail
   go_ret2
   exact ⟨_,_,_,rfl,Ow.nil _ _ _ _,Kp.refl _ _⟩
  ·have h0:¬ n < 0:=by omega
   go_enter Try.func120,Try.ntmps120
   go_wp2_with fail
   go_ret2
   exact ⟨_,_,_,rfl,Ow.nil _ _ _ _,Kp.refl _ _⟩
 ·obtain ⟨m,rfl⟩:=Int.eq_ofNat_of_zero_le (show 0≤n by omega)
  have hm:m < 65536:=by omega
  rw [putR_yes (by omega)]
  have h0:¬ (m:Int) < 0:=by omega
  have h1:¬ (65536:Int)≤(m:Int):=by omega
  clear h hw
  go_enter Try.func120,Try.ntmps120
  go_wp2_with fail
  refine (bytes_lit m 2 w (by omega) (by omega) _ rfl).mono ?_
  rintro e w' ⟨A,n',c,rfl,hr,hk⟩
  have HR:=Lib.hid hr
  clear hr
  go_wp2
  go_ret2
  exact ⟨_,_,_,rfl,HR.out,hk⟩

theorem refput3_any (n:Int) (w:World) (hw:-9223372036854775808≤n∧n≤9223372036854775807):Calls Try.prog 120 #[.int .i64 n,.int .i64 3,.int .i64 16777216] w (OwE 5 (putR n 3 16777216).1 (putR n 3 16777216).2 w):=by
 by_cases h:n < 0∨16777216≤n
 ·rw [putR_no h]
  rcases h with h | h
  ·go_enter Try.func120,Try.ntmps120
   go_wp2_with fail
   go_ret2
   exact ⟨_,_,_,rfl,Ow.nil _ _ _ _,Kp.refl _ _⟩
  ·have h0:¬ n < 0:=by omega
   go_enter Try.func120,Try.ntmps120
   go_wp2_with fail
   go_ret2
   exact ⟨_,_,_,rfl,Ow.nil _ _ _ _,Kp.refl _ _⟩
 ·obtain ⟨m,rfl⟩:=Int.eq_ofNat_of_zero_le (show 0≤n by omega)
  have hm:m < 16777216:=by omega
  rw [putR_yes (by omega)]
  have h0:¬ (m:Int) < 0:=by omega
  have h1:¬ (16777216:Int)≤(m:Int):=by omega
  clear h hw
  go_enter Try.func120,Try.ntmps120
  go_wp2_with fail
  refine (bytes_lit m 3 w (by omega) (by omega) _ rfl).mono ?_
  rintro e w' ⟨A,n',c,rfl,hr,hk⟩
  have HR:=Lib.hid hr
  clear hr
  go_wp2
  go_ret2
  exact ⟨_,_,_,rfl,HR.out,hk⟩

theorem refPut16_any (n:Int) (w:World) (hw:-9223372036854775808≤n∧n≤9223372036854775807):Calls Try.prog 42 #[.int .i64 n] w (OwE 5 (putR n 2 65536).1 (putR n 2 65536).2 w):=by
 go_enter Try.func42,Try.ntmps42
 go_wp2_with fail
 refine (refput2_any n w hw).mono ?_
 rintro e w' ⟨A,n',c,rfl,hr,hk⟩
 have HR:=Lib.hid hr
 clear hr
 go_wp2
 go_ret2
 exact ⟨_,_,_,rfl,HR.out,hk⟩

theorem refPut24_any (n:Int) (w:World) (hw:-9223372036854775808≤n∧n≤9223372036854775807):Calls Try.prog 50 #[.int .i64 n] w (OwE 5 (putR n 3 16777216).1 (putR n 3 16777216).2 w):=by
 go_enter Try.func50,Try.ntmps50
 go_wp2_with fail
 refine (refput3_any n w hw).mono ?_
 rintro e w' ⟨A,n',c,rfl,hr,hk⟩
 have HR:=Lib.hid hr
 clear hr
 go_wp2
 go_ret2
 exact ⟨_,_,_,rfl,HR.out,hk⟩

end Go.Proofs.Ytkmcakneceagpaa

namespace Go.Proofs.Ytkmcakneceagpaa
open Go.RowKit

theorem refKnown_any (k:Int) (w:World):Calls Try.prog 58 #[.int .i64 k] w (BoolR (knownB k) w):=by
 by_cases h0:0≤k
 ·by_cases h9:k≤9
  ·have e:knownB k=true:=by simp [knownB,h0,h9]
   rw [e]
   go_enter Try.func58,Try.ntmps58
   go_wp2
   go_ret
   exact ⟨by simp,rfl⟩
  ·have e:knownB k=false:=by simp [knownB,h9]
   rw [e]
   go_enter Try.func58,Try.ntmps58
   go_wp2
   go_ret
   exact ⟨by simp,rfl⟩
 ·have e:knownB k=false:=by simp [knownB,h0]
  rw [e]
  go_enter Try.func58,Try.ntmps58
  go_wp2
  go_ret
  exact ⟨by simp,rfl⟩

end Go.Proofs.Ytkmcakneceagpaa

namespace Go.Proofs.Ytkmcakneceagpaa
open Go.RowKit

theorem ridF (n:Int) (w:World):Calls Try.prog 185 #[.int .i64 n] w (BoolR (idB n) w):=by
 by_cases h0:0≤n
 ·by_cases h9:n≤2147483647
  ·have e:idB n=true:=by simp [idB,h0,h9]
   rw [e]
   go_enter Try.func185,Try.ntmps185
   go_wp2
   go_ret
   exact ⟨by simp,rfl⟩
  ·have e:idB n=false:=by simp [idB,h9]
   rw [e]
   go_enter Try.func185,Try.ntmps185
   go_wp2
   go_ret
   exact ⟨by simp,rfl⟩
 ·have e:idB n=false:=by simp [idB,h0]
  rw [e]
  go_enter Try.func185,Try.ntmps185
  go_wp2
  go_ret
  exact ⟨by simp,rfl⟩
theorem hasF (fl k:Int) (w:World) (h0:0≤fl) (h1:fl≤255) (hk:1≤k) (hk2:k≤255):Calls Try.prog 187 #[.int .i64 fl,.int .i64 k] w (BoolR (hasB fl k) w):=by
 have hk0:¬ k=0:=by omega
 have hd0:0≤fl / k:=Int.ediv_nonneg h0 (by omega)
 have hd1:fl / k≤255:=Int.le_trans (Int.ediv_le_self k h0) h1
 obtain ⟨q,hq⟩:∃ q,fl / k=q:=⟨_,rfl⟩
 have e:hasB fl k=(q % 2 == 1):=by rw [hasB,hq,Bool.eq_iff_iff]; simp
 rw [e]
 rw [hq] at hd0 hd1
 clear e
 go_enter Try.func187,Try.ntmps187
 go_wp2
 go_ret
 exact ⟨by simp,rfl⟩
theorem rpad0 (w:World):Calls Try.prog 186 #[.int .i64 0] w (BoolR true w):=by
 go_enter Try.func186,Try.ntmps186
 go_wp2
 go_ret
 exact ⟨rfl,rfl⟩
theorem rright0 (st:Int) (w:World):Calls Try.prog 153 #[.int .i64 0,.int .i64 st] w (BoolR (false || (false == decide (st=0))) w):=by
 by_cases h:st=0
 ·subst h
  go_enter Try.func153,Try.ntmps153
  go_wp2
  go_ret
  exact ⟨by simp,rfl⟩
 ·have h1:(st == 0)=false:=by simp [h]
  have h2:decide (st=0)=false:=by simp [h]
  rw [h2]
  clear h2 h
  go_enter Try.func153,Try.ntmps153
  go_wp2
  go_ret
  exact ⟨by simp,rfl⟩
theorem rprio0 (fl:Int) (w:World) (h0:0≤fl) (h1:fl≤255):Calls Try.prog 188 #[.int .i64 0,.int .i64 fl] w (BoolR (prioB 0 fl) w):=by
 have e:prioB 0 fl=false:=by simp [prioB]
 rw [e]
 clear e
 go_enter Try.func188,Try.ntmps188
 go_wp2
 go_ret
 exact ⟨rfl,rfl⟩
theorem rpad1 (w:World):Calls Try.prog 186 #[.int .i64 1] w (BoolR true w):=by
 go_enter Try.func186,Try.ntmps186
 go_wp2
 go_ret
 exact ⟨rfl,rfl⟩
theorem rright1 (st:Int) (w:World):Calls Try.prog 153 #[.int .i64 1,.int .i64 st] w (BoolR (false || (false == decide (st=0))) w):=by
 by_cases h:st=0
 ·subst h
  go_enter Try.func153,Try.ntmps153
  go_wp2
  go_ret
  exact ⟨by simp,rfl⟩
 ·have h1:(st == 0)=false:=by simp [h]
  have h2:decide (st=0)=false:=by simp [h]
  rw [h2]
  clear h2 h
  go_enter Try.func153,Try.ntmps153
  go_wp2
  go_ret
  exact ⟨by simp,rfl⟩
theorem rprio1 (fl:Int) (w:World) (h0:0≤fl) (h1:fl≤255):Calls Try.prog 188 #[.int .i64 1,.int .i64 fl] w (BoolR (prioB 1 fl) w):=by
 have e:prioB 1 fl=hasB fl 32:=by simp [prioB]
 rw [e]
 clear e
 go_enter Try.func188,Try.ntmps188
 go_wp2_with fail
 refine (hasF fl 32 w h0 h1 (by omega) (by omega)).mono ?_
 rintro e w1 ⟨rfl,rfl⟩
 go_wp2
 go_ret
 exact ⟨by simp,rfl⟩
theorem rpad2 (w:World):Calls Try.prog 186 #[.int .i64 2] w (BoolR false w):=by
 go_enter Try.func186,Try.ntmps186
 go_wp2
 go_ret
 exact ⟨rfl,rfl⟩
theorem rright2 (st:Int) (w:World):Calls Try.prog 153 #[.int .i64 2,.int .i64 st] w (BoolR (false || (false == decide (st=0))) w):=by
 by_cases h:st=0
 ·subst h
  go_enter Try.func153,Try.ntmps153
  go_wp2
  go_ret
  exact ⟨by simp,rfl⟩
 ·have h1:(st == 0)=false:=by simp [h]
  have h2:decide (st=0)=false:=by simp [h]
  rw [h2]
  clear h2 h
  go_enter Try.func153,Try.ntmps153
  go_wp2
  go_ret
  exact ⟨by simp,rfl⟩
theorem rprio2 (fl:Int) (w:World) (h0:0≤fl) (h1:fl≤255):Calls Try.prog 188 #[.int .i64 2,.int .i64 fl] w (BoolR (prioB 2 fl) w):=by
 have e:prioB 2 fl=true:=by simp [prioB]
 rw [e]
 clear e
 go_enter Try.func188,Try.ntmps188
 go_wp2
 go_ret
 exact ⟨rfl,rfl⟩
theorem rpad3 (w:World):Calls Try.prog 186 #[.int .i64 3] w (BoolR false w):=by
 go_enter Try.func186,Try.ntmps186
 go_wp2
 go_ret
 exact ⟨rfl,rfl⟩
theorem rright3 (st:Int) (w:World):Calls Try.prog 153 #[.int .i64 3,.int .i64 st] w (BoolR (false || (false == decide (st=0))) w):=by
 by_cases h:st=0
 ·subst h
  go_enter Try.func153,Try.ntmps153
  go_wp2
  go_ret
  exact ⟨by simp,rfl⟩
 ·have h1:(st == 0)=false:=by simp [h]
  have h2:decide (st=0)=false:=by simp [h]
  rw [h2]
  clear h2 h
  go_enter Try.func153,Try.ntmps153
  go_wp2
  go_ret
  exact ⟨by simp,rfl⟩
theorem rprio3 (fl:Int) (w:World) (h0:0≤fl) (h1:fl≤255):Calls Try.prog 188 #[.int .i64 3,.int .i64 fl] w (BoolR (prioB 3 fl) w):=by
 have e:prioB 3 fl=false:=by simp [prioB]
 rw [e]
 clear e
 go_enter Try.func188,Try.ntmps188
 go_wp2
 go_ret
 exact ⟨rfl,rfl⟩
theorem rpad4 (w:World):Calls Try.prog 186 #[.int .i64 4] w (BoolR false w):=by
 go_enter Try.func186,Try.ntmps186
 go_wp2
 go_ret
 exact ⟨rfl,rfl⟩
theorem rright4 (st:Int) (w:World):Calls Try.prog 153 #[.int .i64 4,.int .i64 st] w (BoolR (false || (true == decide (st=0))) w):=by
 by_cases h:st=0
 ·subst h
  go_enter Try.func153,Try.ntmps153
  go_wp2
  go_ret
  exact ⟨by simp,rfl⟩
 ·have h1:(st == 0)=false:=by simp [h]
  have h2:decide (st=0)=false:=by simp [h]
  rw [h2]
  clear h2 h
  go_enter Try.func153,Try.ntmps153
  go_wp2
  go_ret
  exact ⟨by simp,rfl⟩
theorem rprio4 (fl:Int) (w:World) (h0:0≤fl) (h1:fl≤255):Calls Try.prog 188 #[.int .i64 4,.int .i64 fl] w (BoolR (prioB 4 fl) w):=by
 have e:prioB 4 fl=false:=by simp [prioB]
 rw [e]
 clear e
 go_enter Try.func188,Try.ntmps188
 go_wp2
 go_ret
 exact ⟨rfl,rfl⟩
theorem rpad5 (w:World):Calls Try.prog 186 #[.int .i64 5] w (BoolR true w):=by
 go_enter Try.func186,Try.ntmps186
 go_wp2
 go_ret
 exact ⟨rfl,rfl⟩
theorem rright5 (st:Int) (w:World):Calls Try.prog 153 #[.int .i64 5,.int .i64 st] w (BoolR (false || (false == decide (st=0))) w):=by
 by_cases h:st=0
 ·subst h
  go_enter Try.func153,Try.ntmps153
  go_wp2
  go_ret
  exact ⟨by simp,rfl⟩
 ·have h1:(st == 0)=false:=by simp [h]
  have h2:decide (st=0)=false:=by simp [h]
  rw [h2]
  clear h2 h
  go_enter Try.func153,Try.ntmps153
  go_wp2
  go_ret
  exact ⟨by simp,rfl⟩
theorem rprio5 (fl:Int) (w:World) (h0:0≤fl) (h1:fl≤255):Calls Try.prog 188 #[.int .i64 5,.int .i64 fl] w (BoolR (prioB 5 fl) w):=by
 have e:prioB 5 fl=false:=by simp [prioB]
 rw [e]
 clear e
 go_enter Try.func188,Try.ntmps188
 go_wp2
 go_ret
 exact ⟨rfl,rfl⟩
theorem rpad6 (w:World):Calls Try.prog 186 #[.int .i64 6] w (BoolR false w):=by
 go_enter Try.func186,Try.ntmps186
 go_wp2
 go_ret
 exact ⟨rfl,rfl⟩
theorem rright6 (st:Int) (w:World):Calls Try.prog 153 #[.int .i64 6,.int .i64 st] w (BoolR (false || (true == decide (st=0))) w):=by
 by_cases h:st=0
 ·subst h
  go_enter Try.func153,Try.ntmps153
  go_wp2
  go_ret
  exact ⟨by simp,rfl⟩
 ·have h1:(st == 0)=false:=by simp [h]
  have h2:decide (st=0)=false:=by simp [h]
  rw [h2]
  clear h2 h
  go_enter Try.func153,Try.ntmps153
  go_wp2
  go_ret
  exact ⟨by simp,rfl⟩
theorem rprio6 (fl:Int) (w:World) (h0:0≤fl) (h1:fl≤255):Calls Try.prog 188 #[.int .i64 6,.int .i64 fl] w (BoolR (prioB 6 fl) w):=by
 have e:prioB 6 fl=false:=by simp [prioB]
 rw [e]
 clear e
 go_enter Try.func188,Try.ntmps188
 go_wp2
 go_ret
 exact ⟨rfl,rfl⟩
theorem rpad7 (w:World):Calls Try.prog 186 #[.int .i64 7] w (BoolR false w):=by
 go_enter Try.func186,Try.ntmps186
 go_wp2
 go_ret
 exact ⟨rfl,rfl⟩
theorem rright7 (st:Int) (w:World):Calls Try.prog 153 #[.int .i64 7,.int .i64 st] w (BoolR (false || (true == decide (st=0))) w):=by
 by_cases h:st=0
 ·subst h
  go_enter Try.func153,Try.ntmps153
  go_wp2
  go_ret
  exact ⟨by simp,rfl⟩
 ·have h1:(st == 0)=false:=by simp [h]
  have h2:decide (st=0)=false:=by simp [h]
  rw [h2]
  clear h2 h
  go_enter Try.func153,Try.ntmps153
  go_wp2
  go_ret
  exact ⟨by simp,rfl⟩
theorem rprio7 (fl:Int) (w:World) (h0:0≤fl) (h1:fl≤255):Calls Try.prog 188 #[.int .i64 7,.int .i64 fl] w (BoolR (prioB 7 fl) w):=by
 have e:prioB 7 fl=false:=by simp [prioB]
 rw [e]
 clear e
 go_enter Try.func188,Try.ntmps188
 go_wp2
 go_ret
 exact ⟨rfl,rfl⟩
theorem rpad8 (w:World):Calls Try.prog 186 #[.int .i64 8] w (BoolR false w):=by
 go_enter Try.func186,Try.ntmps186
 go_wp2
 go_ret
 exact ⟨rfl,rfl⟩
theorem rright8 (st:Int) (w:World):Calls Try.prog 153 #[.int .i64 8,.int .i64 st] w (BoolR (true || (false == decide (st=0))) w):=by
 by_cases h:st=0
 ·subst h
  go_enter Try.func153,Try.ntmps153
  go_wp2
  go_ret
  exact ⟨by simp,rfl⟩
 ·have h1:(st == 0)=false:=by simp [h]
  have h2:decide (st=0)=false:=by simp [h]
  rw [h2]
  clear h2 h
  go_enter Try.func153,Try.ntmps153
  go_wp2
  go_ret
  exact ⟨by simp,rfl⟩
theorem rprio8 (fl:Int) (w:World) (h0:0≤fl) (h1:fl≤255):Calls Try.prog 188 #[.int .i64 8,.int .i64 fl] w (BoolR (prioB 8 fl) w):=by
 have e:prioB 8 fl=false:=by simp [prioB]
 rw [e]
 clear e
 go_enter Try.func188,Try.ntmps188
 go_wp2
 go_ret
 exact ⟨rfl,rfl⟩
theorem rpad9 (w:World):Calls Try.prog 186 #[.int .i64 9] w (BoolR false w):=by
 go_enter Try.func186,Try.ntmps186
 go_wp2
 go_ret
 exact ⟨rfl,rfl⟩
theorem rright9 (st:Int) (w:World):Calls Try.prog 153 #[.int .i64 9,.int .i64 st] w (BoolR (false || (false == decide (st=0))) w):=by
 by_cases h:st=0
 ·subst h
  go_enter Try.func153,Try.ntmps153
  go_wp2
  go_ret
  exact ⟨by simp,rfl⟩
 ·have h1:(st == 0)=false:=by simp [h]
  have h2:decide (st=0)=false:=by simp [h]
  rw [h2]
  clear h2 h
  go_enter Try.func153,Try.ntmps153
  go_wp2
  go_ret
  exact ⟨by simp,rfl⟩
theorem rprio9 (fl:Int) (w:World) (h0:0≤fl) (h1:fl≤255):Calls Try.prog 188 #[.int .i64 9,.int .i64 fl] w (BoolR (prioB 9 fl) w):=by
 have e:prioB 9 fl=false:=by simp [prioB]
 rw [e]
 clear e
 go_enter Try.func188,Try.ntmps188
 go_wp2
 go_ret
 exact ⟨rfl,rfl⟩
theorem rfourF (n:Int) (w:World) (h0:0≤n) (hn:n < 2147483648):Calls Try.prog 150 #[.int .i64 n] w (OwR 5 (bytesOf n.toNat 4) w):=by
 obtain ⟨n,rfl⟩:=Int.eq_ofNat_of_zero_le h0
 have hp:(2:Int) ^ 32=4294967296:=by decide
 have e:IntKind.u32.wrap (n:Int)=(n:Int):=wraps_u32 _ (by omega) (by omega)
 rw [Int.toNat_natCast]
 have HN:=Lib.hid (show n < 4294967296 by omega)
 clear hp hn
 go_enter Try.func150,Try.ntmps150
 go_wp2_with fail
 refine (refPut32_any n w HN.out).mono ?_
 rintro e w1 ⟨A,k,c,rfl,h1,h2⟩
 go_wp2
 go_ret
 exact ⟨_,_,_,rfl,h1,h2⟩
end Go.Proofs.Ytkmcakneceagpaa

namespace Go.Proofs.Ytkmcakneceagpaa
open Go.RowKit
theorem rset12 {w:World} {g:Nat} {a0 a1 a2 a3 a4 a5 a6 a7 a8 a9 a10 a11 b0 b1 b2 b3 b4 b5 b6 b7 b8 b9 b10 b11:Value} {t:TypeId} (hg:w.heap[g]?=some (.cells #[a0,a1,a2,a3,a4,a5,a6,a7,a8,a9,a10,a11] t)):(World.setCell (World.setCell (World.setCell (World.setCell (World.setCell (World.setCell (World.setCell (World.setCell (World.setCell (World.setCell (World.setCell (World.setCell w ⟨g,0,none⟩ b0) ⟨g,1,none⟩ b1) ⟨g,2,none⟩ b2) ⟨g,3,none⟩ b3) ⟨g,4,none⟩ b4) ⟨g,5,none⟩ b5) ⟨g,6,none⟩ b6) ⟨g,7,none⟩ b7) ⟨g,8,none⟩ b8) ⟨g,9,none⟩ b9) ⟨g,10,none⟩ b10) ⟨g,11,none⟩ b11).heap[g]?=some (.cells #[b0,b1,b2,b3,b4,b5,b6,b7,b8,b9,b10,b11] t)∧Kp [g] w (World.setCell (World.setCell (World.setCell (World.setCell (World.setCell (World.setCell (World.setCell (World.setCell (World.setCell (World.setCell (World.setCell (World.setCell w ⟨g,0,none⟩ b0) ⟨g,1,none⟩ b1) ⟨g,2,none⟩ b2) ⟨g,3,none⟩ b3) ⟨g,4,none⟩ b4) ⟨g,5,none⟩ b5) ⟨g,6,none⟩ b6) ⟨g,7,none⟩ b7) ⟨g,8,none⟩ b8) ⟨g,9,none⟩ b9) ⟨g,10,none⟩ b10) ⟨g,11,none⟩ b11):=⟨sf11 (sf10 (sf9 (sf8 (sf7 (sf6 (sf5 (sf4 (sf3 (sf2 (sf1 (sf0 (hg)))))))))))),(((((((((((((Kp.refl _ _).setCell (.inl (by simp)) _).setCell (.inl (by simp)) _).setCell (.inl (by simp)) _).setCell (.inl (by simp)) _).setCell (.inl (by simp)) _).setCell (.inl (by simp)) _).setCell (.inl (by simp)) _).setCell (.inl (by simp)) _).setCell (.inl (by simp)) _).setCell (.inl (by simp)) _).setCell (.inl (by simp)) _).setCell (.inl (by simp)) _)⟩
theorem rset3 {w:World} {g:Nat} {x0 x1 x2 y0 y1 y2:Value} {t:TypeId} (hg:w.heap[g]?=some (.cells #[x0,x1,x2] t)):(World.setCell (World.setCell (World.setCell w ⟨g,0,none⟩ y0) ⟨g,1,none⟩ y1) ⟨g,2,none⟩ y2).heap[g]?=some (.cells #[y0,y1,y2] t)∧Kp [g] w (World.setCell (World.setCell (World.setCell w ⟨g,0,none⟩ y0) ⟨g,1,none⟩ y1) ⟨g,2,none⟩ y2):=⟨sx2 (sx1 (sx0 (hg))),((((Kp.refl _ _).setCell (.inl (by simp)) _).setCell (.inl (by simp)) _).setCell (.inl (by simp)) _)⟩
theorem rfault (code:Int) (w:World):Calls Try.prog 152 #[.int .i64 code] w fun e w'=>e=.returned (.agg #[.bool true,.int .i64 0,.int .i64 code])∧Kp [] w w':=by
 go_enter Try.func152,Try.ntmps152
 go_wp2
 refine bodyPost_ret (v:=.agg #[.bool true,.int .i64 0,.int .i64 code]) (by simp [results,Try.results152,go_sem]) rfl ⟨rfl,by with_reducible (repeat (first|exact Kp.refl _ _|assumption|refine Kp.alloc ?_ _|refine Kp.drew ?_|refine Kp.drewN ?_ _|(refine Kp.setL ?_ ?_ _;focus (simp;done))|(refine Kp.setR ?_ ?_ _;focus (first|(simp;done)|(simp;omega)))))⟩
theorem rsize0 (fl st:Int) (n:Nat) (hn:n≤16777216) (w:World) (hf0:0≤fl) (hf1:fl≤255):Calls Try.prog 154 #[.agg #[.int .i64 0,.int .i64 fl,.int .i64 st,.slice none 0 0,.int .i64 0,.int .u32 0,.int .i64 0,.int .i64 0,.int .i64 0,.bool false,.int .i64 0,.slice none 0 0],.int .i64 n] w (BoolK (!fitsB 0 fl n) w):=by
 go_enter Try.func154,Try.ntmps154
 go_wp2
 go_ret
 exact ⟨by simp [fitsB],by with_reducible (repeat (first|exact Kp.refl _ _|assumption|refine Kp.alloc ?_ _|refine Kp.drew ?_|refine Kp.drewN ?_ _|(refine Kp.setL ?_ ?_ _;focus (simp;done))|(refine Kp.setR ?_ ?_ _;focus (first|(simp;done)|(simp;omega)))))⟩
theorem rsize1 (fl st:Int) (n:Nat) (hn:n≤16777216) (w:World) (hf0:0≤fl) (hf1:fl≤255):Calls Try.prog 154 #[.agg #[.int .i64 1,.int .i64 fl,.int .i64 st,.slice none 0 0,.int .i64 0,.int .u32 0,.int .i64 0,.int .i64 0,.int .i64 0,.bool false,.int .i64 0,.slice none 0 0],.int .i64 n] w (BoolK (!fitsB 1 fl n) w):=by
 go_enter Try.func154,Try.ntmps154
 go_wp2
 go_ret
 exact ⟨by simp [fitsB],by with_reducible (repeat (first|exact Kp.refl _ _|assumption|refine Kp.alloc ?_ _|refine Kp.drew ?_|refine Kp.drewN ?_ _|(refine Kp.setL ?_ ?_ _;focus (simp;done))|(refine Kp.setR ?_ ?_ _;focus (first|(simp;done)|(simp;omega)))))⟩
theorem rsize2 (fl st:Int) (n:Nat) (hn:n≤16777216) (w:World) (hf0:0≤fl) (hf1:fl≤255):Calls Try.prog 154 #[.agg #[.int .i64 2,.int .i64 fl,.int .i64 st,.slice none 0 0,.int .i64 0,.int .u32 0,.int .i64 0,.int .i64 0,.int .i64 0,.bool false,.int .i64 0,.slice none 0 0],.int .i64 n] w (BoolK (!fitsB 2 fl n) w):=by
 by_cases h:n=5
 ·subst h
  go_enter Try.func154,Try.ntmps154
  go_wp2
  go_ret
  exact ⟨by simp [fitsB],by with_reducible (repeat (first|exact Kp.refl _ _|assumption|refine Kp.alloc ?_ _|refine Kp.drew ?_|refine Kp.drewN ?_ _|(refine Kp.setL ?_ ?_ _;focus (simp;done))|(refine Kp.setR ?_ ?_ _;focus (first|(simp;done)|(simp;omega)))))⟩
 ·have h1:((n:Int) != 5)=true:=by simp; omega
  go_enter Try.func154,Try.ntmps154
  go_wp2
  go_ret
  exact ⟨by simp [fitsB,h],by with_reducible (repeat (first|exact Kp.refl _ _|assumption|refine Kp.alloc ?_ _|refine Kp.drew ?_|refine Kp.drewN ?_ _|(refine Kp.setL ?_ ?_ _;focus (simp;done))|(refine Kp.setR ?_ ?_ _;focus (first|(simp;done)|(simp;omega)))))⟩
theorem rsize3 (fl st:Int) (n:Nat) (hn:n≤16777216) (w:World) (hf0:0≤fl) (hf1:fl≤255):Calls Try.prog 154 #[.agg #[.int .i64 3,.int .i64 fl,.int .i64 st,.slice none 0 0,.int .i64 0,.int .u32 0,.int .i64 0,.int .i64 0,.int .i64 0,.bool false,.int .i64 0,.slice none 0 0],.int .i64 n] w (BoolK (!fitsB 3 fl n) w):=by
 by_cases h:n=4
 ·subst h
  go_enter Try.func154,Try.ntmps154
  go_wp2
  go_ret
  exact ⟨by simp [fitsB],by with_reducible (repeat (first|exact Kp.refl _ _|assumption|refine Kp.alloc ?_ _|refine Kp.drew ?_|refine Kp.drewN ?_ _|(refine Kp.setL ?_ ?_ _;focus (simp;done))|(refine Kp.setR ?_ ?_ _;focus (first|(simp;done)|(simp;omega)))))⟩
 ·have h1:((n:Int) != 4)=true:=by simp; omega
  go_enter Try.func154,Try.ntmps154
  go_wp2
  go_ret
  exact ⟨by simp [fitsB,h],by with_reducible (repeat (first|exact Kp.refl _ _|assumption|refine Kp.alloc ?_ _|refine Kp.drew ?_|refine Kp.drewN ?_ _|(refine Kp.setL ?_ ?_ _;focus (simp;done))|(refine Kp.setR ?_ ?_ _;focus (first|(simp;done)|(simp;omega)))))⟩
theorem rsize4 (fl st:Int) (n:Nat) (hn:n≤16777216) (w:World) (hf0:0≤fl) (hf1:fl≤255):Calls Try.prog 154 #[.agg #[.int .i64 4,.int .i64 fl,.int .i64 st,.slice none 0 0,.int .i64 0,.int .u32 0,.int .i64 0,.int .i64 0,.int .i64 0,.bool false,.int .i64 0,.slice none 0 0],.int .i64 n] w (BoolK (!fitsB 4 fl n) w):=by
 have e4:fitsB 4 fl n=(decide (n % 6=0) && (decide (n=0) || !hasB fl 1)):=by simp [fitsB]
 rw [e4]
 by_cases h6:n % 6=0
 ·have h1:((n:Int) % 6 != 0)=false:=by simp; omega
  have h1t:((n:Int).tmod 6 != 0)=false:=by rw [Int.tmod_eq_emod_of_nonneg (by omega)]; exact h1
  by_cases h0:n=0
  ·subst h0
   go_enter Try.func154,Try.ntmps154
   go_wp2
   go_ret
   exact ⟨by simp,by with_reducible (repeat (first|exact Kp.refl _ _|assumption|refine Kp.alloc ?_ _|refine Kp.drew ?_|refine Kp.drewN ?_ _|(refine Kp.setL ?_ ?_ _;focus (simp;done))|(refine Kp.setR ?_ ?_ _;focus (first|(simp;done)|(simp;omega)))))⟩
  ·have h2:(0:Int) < (n:Int):=by omega
   go_enter Try.func154,Try.ntmps154
   go_wp2_with fail
   refine (hasF fl 1 _ hf0 hf1 (by omega) (by omega)).mono ?_
   rintro e w1 ⟨rfl,rfl⟩
   go_wp2
   go_ret
   exact ⟨by simp [h6,h0],by with_reducible (repeat (first|exact Kp.refl _ _|assumption|refine Kp.alloc ?_ _|refine Kp.drew ?_|refine Kp.drewN ?_ _|(refine Kp.setL ?_ ?_ _;focus (simp;done))|(refine Kp.setR ?_ ?_ _;focus (first|(simp;done)|(simp;omega)))))⟩
 ·have h1:((n:Int) % 6 != 0)=true:=by simp; omega
  have h1t:((n:Int).tmod 6 != 0)=true:=by rw [Int.tmod_eq_emod_of_nonneg (by omega)]; exact h1
  go_enter Try.func154,Try.ntmps154
  go_wp2
  go_ret
  exact ⟨by simp [h6],by with_reducible (repeat (first|exact Kp.refl _ _|assumption|refine Kp.alloc ?_ _|refine Kp.drew ?_|refine Kp.drewN ?_ _|(refine Kp.setL ?_ ?_ _;focus (simp;done))|(refine Kp.setR ?_ ?_ _;focus (first|(simp;done)|(simp;omega)))))⟩
theorem rsize5 (fl st:Int) (n:Nat) (hn:n≤16777216) (w:World) (hf0:0≤fl) (hf1:fl≤255):Calls Try.prog 154 #[.agg #[.int .i64 5,.int .i64 fl,.int .i64 st,.slice none 0 0,.int .i64 0,.int .u32 0,.int .i64 0,.int .i64 0,.int .i64 0,.bool false,.int .i64 0,.slice none 0 0],.int .i64 n] w (BoolK (!fitsB 5 fl n) w):=by
 go_enter Try.func154,Try.ntmps154
 go_wp2
 go_ret
 exact ⟨by simp [fitsB],by with_reducible (repeat (first|exact Kp.refl _ _|assumption|refine Kp.alloc ?_ _|refine Kp.drew ?_|refine Kp.drewN ?_ _|(refine Kp.setL ?_ ?_ _;focus (simp;done))|(refine Kp.setR ?_ ?_ _;focus (first|(simp;done)|(simp;omega)))))⟩
theorem rsize6 (fl st:Int) (n:Nat) (hn:n≤16777216) (w:World) (hf0:0≤fl) (hf1:fl≤255):Calls Try.prog 154 #[.agg #[.int .i64 6,.int .i64 fl,.int .i64 st,.slice none 0 0,.int .i64 0,.int .u32 0,.int .i64 0,.int .i64 0,.int .i64 0,.bool false,.int .i64 0,.slice none 0 0],.int .i64 n] w (BoolK (!fitsB 6 fl n) w):=by
 by_cases h:n=8
 ·subst h
  go_enter Try.func154,Try.ntmps154
  go_wp2
  go_ret
  exact ⟨by simp [fitsB],by with_reducible (repeat (first|exact Kp.refl _ _|assumption|refine Kp.alloc ?_ _|refine Kp.drew ?_|refine Kp.drewN ?_ _|(refine Kp.setL ?_ ?_ _;focus (simp;done))|(refine Kp.setR ?_ ?_ _;focus (first|(simp;done)|(simp;omega)))))⟩
 ·have h1:((n:Int) != 8)=true:=by simp; omega
  go_enter Try.func154,Try.ntmps154
  go_wp2
  go_ret
  exact ⟨by simp [fitsB,h],by with_reducible (repeat (first|exact Kp.refl _ _|assumption|refine Kp.alloc ?_ _|refine Kp.drew ?_|refine Kp.drewN ?_ _|(refine Kp.setL ?_ ?_ _;focus (simp;done))|(refine Kp.setR ?_ ?_ _;focus (first|(simp;done)|(simp;omega)))))⟩
theorem rsize7 (fl st:Int) (n:Nat) (hn:n≤16777216) (w:World) (hf0:0≤fl) (hf1:fl≤255):Calls Try.prog 154 #[.agg #[.int .i64 7,.int .i64 fl,.int .i64 st,.slice none 0 0,.int .i64 0,.int .u32 0,.int .i64 0,.int .i64 0,.int .i64 0,.bool false,.int .i64 0,.slice none 0 0],.int .i64 n] w (BoolK (!fitsB 7 fl n) w):=by
 by_cases h:n < 8
 ·have h1:(n:Int) < 8:=by omega
  go_enter Try.func154,Try.ntmps154
  go_wp2
  go_ret
  exact ⟨by simp [fitsB,h],by with_reducible (repeat (first|exact Kp.refl _ _|assumption|refine Kp.alloc ?_ _|refine Kp.drew ?_|refine Kp.drewN ?_ _|(refine Kp.setL ?_ ?_ _;focus (simp;done))|(refine Kp.setR ?_ ?_ _;focus (first|(simp;done)|(simp;omega)))))⟩
 ·have h1:¬ (n:Int) < 8:=by omega
  go_enter Try.func154,Try.ntmps154
  go_wp2
  go_ret
  exact ⟨by simp [fitsB]; omega,by with_reducible (repeat (first|exact Kp.refl _ _|assumption|refine Kp.alloc ?_ _|refine Kp.drew ?_|refine Kp.drewN ?_ _|(refine Kp.setL ?_ ?_ _;focus (simp;done))|(refine Kp.setR ?_ ?_ _;focus (first|(simp;done)|(simp;omega)))))⟩
theorem rsize8 (fl st:Int) (n:Nat) (hn:n≤16777216) (w:World) (hf0:0≤fl) (hf1:fl≤255):Calls Try.prog 154 #[.agg #[.int .i64 8,.int .i64 fl,.int .i64 st,.slice none 0 0,.int .i64 0,.int .u32 0,.int .i64 0,.int .i64 0,.int .i64 0,.bool false,.int .i64 0,.slice none 0 0],.int .i64 n] w (BoolK (!fitsB 8 fl n) w):=by
 by_cases h:n=4
 ·subst h
  go_enter Try.func154,Try.ntmps154
  go_wp2
  go_ret
  exact ⟨by simp [fitsB],by with_reducible (repeat (first|exact Kp.refl _ _|assumption|refine Kp.alloc ?_ _|refine Kp.drew ?_|refine Kp.drewN ?_ _|(refine Kp.setL ?_ ?_ _;focus (simp;done))|(refine Kp.setR ?_ ?_ _;focus (first|(simp;done)|(simp;omega)))))⟩
 ·have h1:((n:Int) != 4)=true:=by simp; omega
  go_enter Try.func154,Try.ntmps154
  go_wp2
  go_ret
  exact ⟨by simp [fitsB,h],by with_reducible (repeat (first|exact Kp.refl _ _|assumption|refine Kp.alloc ?_ _|refine Kp.drew ?_|refine Kp.drewN ?_ _|(refine Kp.setL ?_ ?_ _;focus (simp;done))|(refine Kp.setR ?_ ?_ _;focus (first|(simp;done)|(simp;omega)))))⟩
theorem rsize9 (fl st:Int) (n:Nat) (hn:n≤16777216) (w:World) (hf0:0≤fl) (hf1:fl≤255):Calls Try.prog 154 #[.agg #[.int .i64 9,.int .i64 fl,.int .i64 st,.slice none 0 0,.int .i64 0,.int .u32 0,.int .i64 0,.int .i64 0,.int .i64 0,.bool false,.int .i64 0,.slice none 0 0],.int .i64 n] w (BoolK (!fitsB 9 fl n) w):=by
 go_enter Try.func154,Try.ntmps154
 go_wp2
 go_ret
 exact ⟨by simp [fitsB],by with_reducible (repeat (first|exact Kp.refl _ _|assumption|refine Kp.alloc ?_ _|refine Kp.drew ?_|refine Kp.drewN ?_ _|(refine Kp.setL ?_ ?_ _;focus (simp;done))|(refine Kp.setR ?_ ?_ _;focus (first|(simp;done)|(simp;omega)))))⟩
theorem refU31_at (A:Option Addr) (n c:Nat) (i:Nat) (l:List UInt8) (w:World) (hn:n≤140737488355328) (hr:Rd w A n c l) (h:i+4≤n):Calls Try.prog 52 #[.slice A n c,.int .i64 i] w (NumR .i64 (n31 l i) w) :=
 (refU31_any A n c i l w hn hr).mono fun e w' ⟨he,hk⟩=>⟨_,_,by rw [n31_eq (by rw [hr.len]; exact h)] at he; exact he,hk⟩
theorem refU32_at (A:Option Addr) (n c:Nat) (i:Nat) (l:List UInt8) (w:World) (hn:n≤140737488355328) (hr:Rd w A n c l) (h:i+4≤n):Calls Try.prog 35 #[.slice A n c,.int .i64 i] w (NumR .u32 (n32 l i) w) :=
 (refU32_any A n c i l w hn hr).mono fun e w' ⟨he,hk⟩=>⟨_,_,by rw [n32_eq (by rw [hr.len]; exact h)] at he; exact he,hk⟩
theorem refU16_at (A:Option Addr) (n c:Nat) (i:Nat) (l:List UInt8) (w:World) (hn:n≤140737488355328) (hr:Rd w A n c l) (h:i+2≤n):Calls Try.prog 40 #[.slice A n c,.int .i64 i] w (NumR .i64 (n16 l i) w) :=
 (refU16_any A n c i l w hn hr).mono fun e w' ⟨he,hk⟩=>⟨_,_,by rw [n16_eq (by rw [hr.len]; exact h)] at he; exact he,hk⟩
theorem rprior (f:Fr) (A:Option Addr) (n c:Nat) (l:List UInt8) (w:World) (hr:Rd w A n c l) (h5:5≤n) (hn:n≤140737488355328) :
  Calls Try.prog 191 #[.agg #[.int .i64 f.ty,.int .i64 f.fl,.int .i64 f.st,.slice f.pA f.pn f.pc,.int .i64 f.pad,.int .u32 f.code,.int .i64 f.last,.int .i64 f.inc,.int .i64 f.dep,.bool f.only,.int .i64 f.wt,.slice f.sA f.sn f.sc],.slice A n c] w fun e w'=>e=.returned (.agg #[.int .i64 f.ty,.int .i64 f.fl,.int .i64 f.st,.slice f.pA f.pn f.pc,.int .i64 f.pad,.int .u32 f.code,.int .i64 f.last,.int .i64 f.inc,.int .i64 (n31 l 0),.bool (decide (128≤(l.getD 0 0).toNat)),.int .i64 ((l.getD 4 0).toNat+1),.slice f.sA f.sn f.sc])∧Kp [] w w':=by
 obtain ⟨b,off,rfl,hb,hcell⟩:=hr.addr (by omega)
 have HR:=Lib.hid hr
 have hcap:=hr.cap
 have Q0:=Lib.hid (hcell 0 (by omega))
 have Q4:=Lib.hid (hcell 4 (by omega))
 clear hcell hr
 generalize hx:n31 l 0=x
 have HX:=Lib.hid hx
 have hx0:=(l.getD 0 0).toNat_lt
 have hx4:=(l.getD 4 0).toNat_lt
 generalize hy0:(l.getD 0 0).toNat=y0 at *
 generalize hy4:(l.getD 4 0).toNat=y4 at *
 clear hx hy0 hy4
 go_enter Try.func191,Try.ntmps191
 go_wp2_with fail
 generalize hW:World.alloc _ _=w1
 have K1:Kp [] w w1:=by rw [← hW]; with_reducible (repeat (first|exact Kp.refl _ _|assumption|refine Kp.alloc ?_ _|refine Kp.drew ?_|refine Kp.drewN ?_ _|(refine Kp.setL ?_ ?_ _;focus (simp;done))|(refine Kp.setR ?_ ?_ _;focus (first|(simp;done)|(simp;omega)))))
 have HB:=Lib.hid (show w1.heap[w.heap.size]?=some (.cells #[.int .i64 f.ty,.int .i64 f.fl,.int .i64 f.st,.slice f.pA f.pn f.pc,.int .i64 f.pad,.int .u32 f.code,.int .i64 f.last,.int .i64 f.inc,.int .i64 f.dep,.bool f.only,.int .i64 f.wt,.slice f.sA f.sn f.sc] 49) by rw [← hW]; with_reducible (repeat (first|assumption|(refine hp_new _ _ _ ?_;focus (simp;done))|refine hpl ?_|(refine hpf ?_ ?_;focus (first|(simp;done)|(simp;omega)))|refine hpd ?_|refine hpe ?_)))
 have HF:=Lib.hid (show w1.heap[w.heap.size+1]?=some (.cells #[.int .i64 0,.int .i64 0,.int .i64 0,.slice none 0 0,.int .i64 0,.int .u32 0,.int .i64 0,.int .i64 0,.int .i64 0,.bool false,.int .i64 0,.slice none 0 0] 49) by rw [← hW]; with_reducible (repeat (first|assumption|(refine hp_new _ _ _ ?_;focus (simp;done))|refine hpl ?_|(refine hpf ?_ ?_;focus (first|(simp;done)|(simp;omega)))|refine hpd ?_|refine hpe ?_)))
 clear hW
 have hU:=refU31_at (some ⟨b,off,none⟩) n c 0 l w1 hn (HR.out.keep K1 (by simp)) (by omega)
 rw [show ((0:Nat):Int)=0 from rfl,HX.out] at hU
 refine hU.mono ?_
 rintro e w2 ⟨p,q,rfl,K2⟩
 clear hU
 have HK2:=Lib.hid (K1.trans K2)
 have HB2:=Lib.hid (K2.heap HB.out (by simp))
 have HF2:=Lib.hid (K2.heap HF.out (by simp))
 have c0:=HK2.out.cell Q0.out (by simp)
 have c4:=HK2.out.cell Q4.out (by simp)
 rw [Nat.add_zero] at c0
 clear K1 K2 HB HF
 obtain ⟨f0,f1,f2,f3,f4,f5,f6,f7,f8,f9,f10,f11,fz,fl1,fl2⟩:=cellsF HB2.out
 obtain ⟨g0,g1,g2,g3,g4,g5,g6,g7,g8,g9,g10,g11,gz,gl1,gl2⟩:=cellsF HF2.out
 go_wp2
 generalize hW:World.setCell _ _ _=W
 have K3:Kp [w.heap.size] w2 (World.setCell (World.setCell (World.setCell w2 ⟨w.heap.size,8,none⟩ (.int .i64 x)) ⟨w.heap.size,9,none⟩ (.bool (decide ((128:Int)≤(y0:Int))))) ⟨w.heap.size,10,none⟩ (.int .i64 ((y4:Int)+1))):=(((Kp.refl _ _).setCell (.inl (by simp)) _).setCell (.inl (by simp)) _).setCell (.inl (by simp)) _
 obtain ⟨HF9,K9⟩:W.heap[w.heap.size+1]?=some (.cells #[.int .i64 f.ty,.int .i64 f.fl,.int .i64 f.st,.slice f.pA f.pn f.pc,.int .i64 f.pad,.int .u32 f.code,.int .i64 f.last,.int .i64 f.inc,.int .i64 x,.bool (decide ((128:Int)≤(y0:Int))),.int .i64 ((y4:Int)+1),.slice f.sA f.sn f.sc] 49)∧Kp [w.heap.size+1] (World.setCell (World.setCell (World.setCell w2 ⟨w.heap.size,8,none⟩ (.int .i64 x)) ⟨w.heap.size,9,none⟩ (.bool (decide ((128:Int)≤(y0:Int))))) ⟨w.heap.size,10,none⟩ (.int .i64 ((y4:Int)+1))) W:=by rw [← hW]; exact rset12 (K3.heap HF2.out (by simp))
 refine bodyPost_ret (v:=.agg #[.int .i64 f.ty,.int .i64 f.fl,.int .i64 f.st,.slice f.pA f.pn f.pc,.int .i64 f.pad,.int .u32 f.code,.int .i64 f.last,.int .i64 f.inc,.int .i64 x,.bool (decide ((128:Int)≤(y0:Int))),.int .i64 ((y4:Int)+1),.slice f.sA f.sn f.sc]) (by simp [results,Try.results191,go_sem,cell_of HF9]) rfl ⟨by simp; omega,(HK2.out.then K3 (by simp)).then K9 (by simp)⟩
end Go.Proofs.Ytkmcakneceagpaa

namespace Go.Proofs.Ytkmcakneceagpaa
open Go.RowKit
theorem number3_big (A:Option Addr) (n c:Nat) (i:Int) (l:List UInt8) (w:World) (hn:n≤281474976710656) (hr:Rd w A n c l) :
  Calls Try.prog 116 #[.slice A n c,.int .i64 i,.int .i64 3] w (Num3 .u64 (num 3 l i).1 (num 3 l i).2.1 (num 3 l i).2.2 w):=by
 have hlen:=hr.len
 by_cases ha:i < 0∨(l.length:Int) < i
 ·rw [num_arg ha]
  rw [hlen] at ha
  clear hlen hr
  rcases ha with h | h
  ·go_enter Try.func116,Try.ntmps116
   go_wp2
   go_ret3
   exact ⟨rfl,Kp.refl _ _⟩
  ·have h':¬ i < 0:=by omega
   go_enter Try.func116,Try.ntmps116
   go_wp2
   go_ret3
   exact ⟨rfl,Kp.refl _ _⟩
 ·by_cases hs:(l.length:Int) - i < 3
  ·rw [num_short (by omega) (by omega) hs]
   have h0:0≤i:=by omega
   have h1:i≤n:=by omega
   have h2:(n:Int) - i < 3:=by omega
   have HL:=Lib.hid hlen
   clear hlen hr ha hs
   go_enter Try.func116,Try.ntmps116
   go_wp2
   go_ret3
   exact Num3.mk rfl (by rw [HL.out]) rfl (Kp.refl _ _)
  ·obtain ⟨j,rfl⟩:=Int.eq_ofNat_of_zero_le (show 0≤i by omega)
   have hj:j+3≤n:=by omega
   obtain ⟨b,off,rfl,hb,hcell⟩:=hr.addr (by omega)
   have hcap:=hr.cap
   rw [num_ok (by omega)]
   have HT:Hid (∀ k,k < 3→be ((l.drop j).take (k+1))=be ((l.drop j).take k) * 256+(l.getD (j+k) 0).toNat):=by
    intro k hk
    rw [be_take_succ _ _ (by simp; omega)]
    simp [List.getD_eq_getElem?_getD]
   clear hlen hr ha hs
   have d1:decide ((j:Int) < 0)=false:=by simp
   have d2:decide (n < j)=false:=by simp; omega
   have d3:decide ((n:Int) - j < 3)=false:=by simp; omega
   go_enter Try.func116,Try.ntmps116
   go_wp2
   go_loop [9,10] (fun v k=>∃ kk:Nat,kk≤3∧k=.int .i64 kk∧v=.int .u64 (be ((l.drop j).take kk))) (fun _ k=>3 - (intOf k).toNat)
   case atStart=>exact ⟨0,by omega,rfl,by simp [be]⟩
   case round =>
    obtain ⟨k,hk,rfl,rfl⟩:=hrel
    by_cases hlt:k < 3
    ·have hc2:=hcell (j+k) (by omega)
     have HB:be ((l.drop j).take k) < 16777216:=Nat.lt_of_lt_of_le (be_take_lt (l.drop j) k) (Nat.le_trans (Nat.pow_le_pow_right (by omega) (show k≤3 by omega)) (by decide))
     have HC:(l.getD (j+k) 0).toNat < 256:=(l.getD (j+k) 0).toNat_lt
     simp only [List.getD_eq_getElem?_getD] at HC
     clear hcell
     go_wp2
     go_round
     case rel =>
      refine ⟨k+1,by omega,by go_num,?_⟩
      rw [HT.out k hlt]
      simp only [List.getD_eq_getElem?_getD]
      go_num
     case measure=>simp [intOf]; omega
    ·obtain rfl:k=3:=by omega
     clear hcell
     go_wp2
     go_ret3
     exact Num3.mk rfl rfl rfl (Kp.refl _ _)
theorem number4_big (A:Option Addr) (n c:Nat) (i:Int) (l:List UInt8) (w:World) (hn:n≤281474976710656) (hr:Rd w A n c l) :
  Calls Try.prog 116 #[.slice A n c,.int .i64 i,.int .i64 4] w (Num3 .u64 (num 4 l i).1 (num 4 l i).2.1 (num 4 l i).2.2 w):=by
 have hlen:=hr.len
 by_cases ha:i < 0∨(l.length:Int) < i
 ·rw [num_arg ha]
  rw [hlen] at ha
  clear hlen hr
  rcases ha with h | h
  ·go_enter Try.func116,Try.ntmps116
   go_wp2
   go_ret3
   exact ⟨rfl,Kp.refl _ _⟩
  ·have h':¬ i < 0:=by omega
   go_enter Try.func116,Try.ntmps116
   go_wp2
   go_ret3
   exact ⟨rfl,Kp.refl _ _⟩
 ·by_cases hs:(l.length:Int) - i < 4
  ·rw [num_short (by omega) (by omega) hs]
   have h0:0≤i:=by omega
   have h1:i≤n:=by omega
   have h2:(n:Int) - i < 4:=by omega
   have HL:=Lib.hid hlen
   clear hlen hr ha hs
   go_enter Try.func116,Try.ntmps116
   go_wp2
   go_ret3
   exact Num3.mk rfl (by rw [HL.out]) rfl (Kp.refl _ _)
  ·obtain ⟨j,rfl⟩:=Int.eq_ofNat_of_zero_le (show 0≤i by omega)
   have hj:j+4≤n:=by omega
   obtain ⟨b,off,rfl,hb,hcell⟩:=hr.addr (by omega)
   have hcap:=hr.cap
   rw [num_ok (by omega)]
   have HT:Hid (∀ k,k < 4→be ((l.drop j).take (k+1))=be ((l.drop j).take k) * 256+(l.getD (j+k) 0).toNat):=by
    intro k hk
    rw [be_take_succ _ _ (by simp; omega)]
    simp [List.getD_eq_getElem?_getD]
   clear hlen hr ha hs
   have d1:decide ((j:Int) < 0)=false:=by simp
   have d2:decide (n < j)=false:=by simp; omega
   have d3:decide ((n:Int) - j < 4)=false:=by simp; omega
   go_enter Try.func116,Try.ntmps116
   go_wp2
   go_loop [9,10] (fun v k=>∃ kk:Nat,kk≤4∧k=.int .i64 kk∧v=.int .u64 (be ((l.drop j).take kk))) (fun _ k=>4 - (intOf k).toNat)
   case atStart=>exact ⟨0,by omega,rfl,by simp [be]⟩
   case round =>
    obtain ⟨k,hk,rfl,rfl⟩:=hrel
    by_cases hlt:k < 4
    ·have hc2:=hcell (j+k) (by omega)
     have HB:be ((l.drop j).take k) < 16777216:=Nat.lt_of_lt_of_le (be_take_lt (l.drop j) k) (Nat.le_trans (Nat.pow_le_pow_right (by omega) (show k≤3 by omega)) (by decide))
     have HC:(l.getD (j+k) 0).toNat < 256:=(l.getD (j+k) 0).toNat_lt
     simp only [List.getD_eq_getElem?_getD] at HC
     clear hcell
     go_wp2
     go_round
     case rel =>
      refine ⟨k+1,by omega,by go_num,?_⟩
      rw [HT.out k hlt]
      simp only [List.getD_eq_getElem?_getD]
      go_num
     case measure=>simp [intOf]; omega
    ·obtain rfl:k=4:=by omega
     clear hcell
     go_wp2
     go_ret3
     exact Num3.mk rfl rfl rfl (Kp.refl _ _)
theorem refU24_big (A:Option Addr) (n c:Nat) (i:Int) (l:List UInt8) (w:World) (hn:n≤281474976710656) (hr:Rd w A n c l) :
  Calls Try.prog 48 #[.slice A n c,.int .i64 i] w (Num3 .i64 (num 3 l i).1 (num 3 l i).2.1 (num 3 l i).2.2 w):=by
 have hb:(num 3 l i).1 < 16777216:=Nat.lt_of_lt_of_eq (num_lt 3 l i) pow3
 go_enter Try.func48,Try.ntmps48
 go_wp2_with (go_at_call 116; refine (number3_big _ _ _ _ _ _ hn hr).mono ?_; rintro e w' ⟨rfl,hk⟩)
 go_ret3
 exact Num3.mk (by first | rfl | omega) rfl rfl hk
theorem refU31_big (A:Option Addr) (n c:Nat) (i:Int) (l:List UInt8) (w:World) (hn:n≤281474976710656) (hr:Rd w A n c l) :
  Calls Try.prog 52 #[.slice A n c,.int .i64 i] w (Num3 .i64 ((num 4 l i).1 % 2147483648:Nat) (num 4 l i).2.1 (num 4 l i).2.2 w):=by
 have hb:(num 4 l i).1 < 4294967296:=Nat.lt_of_lt_of_eq (num_lt 4 l i) pow4
 go_enter Try.func52,Try.ntmps52
 go_wp2_with (go_at_call 116; refine (number4_big _ _ _ _ _ _ hn hr).mono ?_; rintro e w' ⟨rfl,hk⟩)
 go_ret3
 refine Num3.mk ?_ rfl rfl hk
 first | rfl | omega | (unfold wrap64; omega)
theorem refHead_big (A:Option Addr) (n c:Nat) (l:List UInt8) (w:World) (hn:n≤281474976710656) (hr:Rd w A n c l) :
  Calls Try.prog 56 #[.slice A n c] w (Num5 (headR l) w):=by
 have hlen:=hr.len
 by_cases hs:n < 9
 ·have e:headR l=(0,0,0,0,3):=by unfold headR; rw [if_pos (by omega)]
  rw [e]
  clear hlen hr
  go_enter Try.func56,Try.ntmps56
  go_wp2
  exact bodyPost_ret (v:=.tuple #[.int .i64 0,.int .i64 0,.int .i64 0,.int .i64 0,.int .i64 3]) (by simp [results,Try.results56,go_sem]) rfl ⟨rfl,Kp.refl _ _⟩
 ·have e:headR l=((num 3 l 0).1,(l.getD 3 0).toNat,(l.getD 4 0).toNat,(num 4 l 5).1 % 2147483648,0):=by unfold headR; rw [if_neg (by omega)]
  rw [e]
  obtain ⟨b,off,rfl,hb,hc⟩:=hr.addr (by omega)
  have h3:=hc 3 (by omega)
  have h4:=hc 4 (by omega)
  have HR:=Lib.hid hr
  clear hlen hr hc e
  go_enter Try.func56,Try.ntmps56
  go_wp2_with fail
  refine (refU24_big _ _ _ 0 _ _ hn HR.out).mono ?_
  rintro e w1 ⟨rfl,k1⟩
  have r1:=HR.out.keep k1 (by simp)
  have g3:=k1.cell h3 (by simp)
  have g4:=k1.cell h4 (by simp)
  clear h3 h4 HR hb
  have HR1:=Lib.hid r1
  clear r1
  generalize hx:(num 3 l 0).1=x1
  have HX:=Lib.hid hx
  clear hx
  generalize (num 3 l 0).2.1=x2
  generalize (num 3 l 0).2.2=x3
  go_wp2_with fail
  refine (refU31_big _ _ _ 5 _ _ hn HR1.out).mono ?_
  rintro e w2 ⟨rfl,k2⟩
  have h3:=k2.cell g3 (by simp)
  have h4:=k2.cell g4 (by simp)
  have HK:=Lib.hid (k1.trans k2)
  clear g3 g4 HR1 k1 k2
  generalize hy:(num 4 l 5).1 % 2147483648=y1
  have HY:=Lib.hid hy
  clear hy
  generalize (num 4 l 5).2.1=y2
  generalize (num 4 l 5).2.2=y3
  have hb3:=(l.getD 3 0).toNat_lt
  have hb4:=(l.getD 4 0).toNat_lt
  generalize (l.getD 3 0).toNat=b3 at *
  generalize (l.getD 4 0).toNat=b4 at *
  have i3:(3:Int) < (n:Int):=by omega
  have i4:(4:Int) < (n:Int):=by omega
  go_wp2
  go_quiet (fail)
  go_wp2
  exact bodyPost_ret (v:=.tuple #[.int .i64 x1,.int .i64 b3,.int .i64 b4,.int .i64 y1,.int .i64 0]) (by simp [results,Try.results56,go_sem]) rfl ⟨by simp only [HX.out,HY.out],HK.out.drewN _⟩
end Go.Proofs.Ytkmcakneceagpaa

namespace Go.Proofs.Ytkmcakneceagpaa
open Go.RowKit
theorem rparseNeg (A:Option Addr) (n c:Nat) (l:List UInt8) (most:Int) (w:World) (hr:Rd w A n c l) (hn:n≤281474976710656) (hm:most < 0):Calls Try.prog 101 #[.slice A n c,.int .i64 most] w (ParseR (.no 0 1) w):=by
 go_enter Try.func101,Try.ntmps101
 go_wp2
 refine bodyPost_ret (v:=.tuple #[.agg #[.int .i64 0,.int .i64 0,.int .i64 0,.slice none 0 0,.int .i64 0,.int .u32 0,.int .i64 0,.int .i64 0,.int .i64 0,.bool false,.int .i64 0,.slice none 0 0],.int .i64 0,.agg #[.bool false,.int .i64 0,.int .i64 0],.int .i64 1]) (by simp [results,Try.results101,go_sem]) rfl ⟨(⟨0,0,0,none,0,0,0,0,0,0,0,false,0,none,0,0⟩:Fr),rfl,FrP.zero _ _,by with_reducible (repeat (first|exact Kp.refl _ _|assumption|refine Kp.alloc ?_ _|refine Kp.drew ?_|refine Kp.drewN ?_ _|(refine Kp.setL ?_ ?_ _;focus (simp;done))|(refine Kp.setR ?_ ?_ _;focus (first|(simp;done)|(simp;omega)))))⟩
theorem rparseShort (A:Option Addr) (n c:Nat) (l:List UInt8) (most:Int) (w:World) (hr:Rd w A n c l) (hn:n≤281474976710656) (hm:0≤most) (h9:n < 9):Calls Try.prog 101 #[.slice A n c,.int .i64 most] w (ParseR (.no 0 3) w):=by
 have HR:=Lib.hid hr
 have e:headR l=(0,0,0,0,3):=by unfold headR; rw [if_pos (by rw [hr.len]; exact h9)]
 have HH:=Lib.hid e
 clear hr e
 go_enter Try.func101,Try.ntmps101
 go_wp2_with fail
 generalize hW:World.alloc _ _=w1
 have K1:Kp [] w w1:=by rw [← hW]; with_reducible (repeat (first|exact Kp.refl _ _|assumption|refine Kp.alloc ?_ _|refine Kp.drew ?_|refine Kp.drewN ?_ _|(refine Kp.setL ?_ ?_ _;focus (simp;done))|(refine Kp.setR ?_ ?_ _;focus (first|(simp;done)|(simp;omega)))))
 have HF:=Lib.hid (show w1.heap[w.heap.size]?=some (.cells #[.int .i64 0,.int .i64 0,.int .i64 0,.slice none 0 0,.int .i64 0,.int .u32 0,.int .i64 0,.int .i64 0,.int .i64 0,.bool false,.int .i64 0,.slice none 0 0] 49) by rw [← hW]; with_reducible (repeat (first|assumption|(refine hp_new _ _ _ ?_;focus (simp;done))|refine hpl ?_|(refine hpf ?_ ?_;focus (first|(simp;done)|(simp;omega)))|refine hpd ?_|refine hpe ?_)))
 have HX:=Lib.hid (show w1.heap[w.heap.size+1]?=some (.cells #[.bool false,.int .i64 0,.int .i64 0] 64) by rw [← hW]; with_reducible (repeat (first|assumption|(refine hp_new _ _ _ ?_;focus (simp;done))|refine hpl ?_|(refine hpf ?_ ?_;focus (first|(simp;done)|(simp;omega)))|refine hpd ?_|refine hpe ?_)))
 clear hW
 refine (refHead_big A n c l w1 hn (HR.out.keep K1 (by simp))).mono ?_
 rintro e w2 ⟨rfl,K2⟩
 rw [HH.out]
 dsimp only
 have HF2:=Lib.hid (K2.heap HF.out (by simp))
 have HX2:=Lib.hid (K2.heap HX.out (by simp))
 have HK2:=Lib.hid (K1.trans K2)
 clear HF HX K1 K2
 obtain ⟨q0,q1,q2,q3,q4,q5,q6,q7,q8,q9,q10,q11,qz,qlt,qlt2⟩:=cellsF HF2.out
 have x0:=cell_of HX2.out 0
 have x1:=cell_of HX2.out 1
 have x2:=cell_of HX2.out 2
 have xz:=frozen_of HX2.out
 go_wp2
 generalize hW:World.setCell _ _ _=W
 obtain ⟨HF9,HX9,K9⟩:W.heap[w.heap.size]?=some (.cells #[.int .i64 0,.int .i64 0,.int .i64 0,.slice none 0 0,.int .i64 0,.int .u32 0,.int .i64 0,.int .i64 0,.int .i64 0,.bool false,.int .i64 0,.slice none 0 0] 49)∧W.heap[w.heap.size+1]?=some (.cells #[.bool false,.int .i64 0,.int .i64 0] 64)∧Kp [w.heap.size,w.heap.size+1] w2 W:=by rw [← hW]; exact set15 (by omega) HF2.out HX2.out
 refine bodyPost_ret (v:=.tuple #[.agg #[.int .i64 0,.int .i64 0,.int .i64 0,.slice none 0 0,.int .i64 0,.int .u32 0,.int .i64 0,.int .i64 0,.int .i64 0,.bool false,.int .i64 0,.slice none 0 0],.int .i64 0,.agg #[.bool false,.int .i64 0,.int .i64 0],.int .i64 3]) (by simp [results,Try.results101,go_sem,cell_of HF9,cell_of HX9]) rfl ⟨(⟨0,0,0,none,0,0,0,0,0,0,0,false,0,none,0,0⟩:Fr),rfl,FrP.zero _ _,(HK2.out.then K9 (by simp))⟩
theorem rparseLong (A:Option Addr) (n c:Nat) (l:List UInt8) (most:Int) (w:World) (hr:Rd w A n c l) (hn:n≤281474976710656) (hm:0≤most) (h9:¬ n < 9) (N:Nat) (hN:be (l.take 3)=N) (hb:most < (N:Int)):Calls Try.prog 101 #[.slice A n c,.int .i64 most] w (ParseR (.bad 9 0 6) w):=by
 have HR:=Lib.hid hr
 have e:=head_of (l:=l) (by rw [hr.len]; exact h9)
 rw [hN] at e
 obtain ⟨T,hT⟩:∃ T,(l.getD 3 0).toNat=T:=⟨_,rfl⟩
 obtain ⟨F,hF⟩:∃ F,(l.getD 4 0).toNat=F:=⟨_,rfl⟩
 obtain ⟨S,hS⟩:∃ S,be ((l.drop 5).take 4) % 2147483648=S:=⟨_,rfl⟩
 rw [hT,hF,hS] at e
 have HH:=Lib.hid e
 clear hr e hT hF hS hN
 go_enter Try.func101,Try.ntmps101
 go_wp2_with fail
 generalize hW:World.alloc _ _=w1
 have K1:Kp [] w w1:=by rw [← hW]; with_reducible (repeat (first|exact Kp.refl _ _|assumption|refine Kp.alloc ?_ _|refine Kp.drew ?_|refine Kp.drewN ?_ _|(refine Kp.setL ?_ ?_ _;focus (simp;done))|(refine Kp.setR ?_ ?_ _;focus (first|(simp;done)|(simp;omega)))))
 have HF:=Lib.hid (show w1.heap[w.heap.size]?=some (.cells #[.int .i64 0,.int .i64 0,.int .i64 0,.slice none 0 0,.int .i64 0,.int .u32 0,.int .i64 0,.int .i64 0,.int .i64 0,.bool false,.int .i64 0,.slice none 0 0] 49) by rw [← hW]; with_reducible (repeat (first|assumption|(refine hp_new _ _ _ ?_;focus (simp;done))|refine hpl ?_|(refine hpf ?_ ?_;focus (first|(simp;done)|(simp;omega)))|refine hpd ?_|refine hpe ?_)))
 have HX:=Lib.hid (show w1.heap[w.heap.size+1]?=some (.cells #[.bool false,.int .i64 0,.int .i64 0] 64) by rw [← hW]; with_reducible (repeat (first|assumption|(refine hp_new _ _ _ ?_;focus (simp;done))|refine hpl ?_|(refine hpf ?_ ?_;focus (first|(simp;done)|(simp;omega)))|refine hpd ?_|refine hpe ?_)))
 clear hW
 refine (refHead_big A n c l w1 hn (HR.out.keep K1 (by simp))).mono ?_
 rintro e w2 ⟨rfl,K2⟩
 rw [HH.out]
 dsimp only
 have HF2:=Lib.hid (K2.heap HF.out (by simp))
 have HX2:=Lib.hid (K2.heap HX.out (by simp))
 have HK2:=Lib.hid (K1.trans K2)
 clear HF HX K1 K2
 obtain ⟨q0,q1,q2,q3,q4,q5,q6,q7,q8,q9,q10,q11,qz,qlt,qlt2⟩:=cellsF HF2.out
 have x0:=cell_of HX2.out 0
 have x1:=cell_of HX2.out 1
 have x2:=cell_of HX2.out 2
 have xz:=frozen_of HX2.out
 go_wp2_with fail
 refine (rfault 6 _).mono ?_
 rintro e w3 ⟨rfl,K3⟩
 have HF3:=Lib.hid (K3.heap HF2.out (by simp))
 have HX3:=Lib.hid (K3.heap HX2.out (by simp))
 have HK3:=Lib.hid (HK2.out.trans K3)
 clear K3 HF2 HX2 HK2 q0 q1 q2 q3 q4 q5 q6 q7 q8 q9 q10 q11 qz qlt qlt2 x0 x1 x2 xz
 obtain ⟨q0,q1,q2,q3,q4,q5,q6,q7,q8,q9,q10,q11,qz,qlt,qlt2⟩:=cellsF HF3.out
 have x0:=cell_of HX3.out 0
 have x1:=cell_of HX3.out 1
 have x2:=cell_of HX3.out 2
 have xz:=frozen_of HX3.out
 go_wp2
 generalize hW:World.setCell _ _ _=W
 obtain ⟨HF9,HX9,K9⟩:W.heap[w.heap.size]?=some (.cells #[.int .i64 0,.int .i64 0,.int .i64 0,.slice none 0 0,.int .i64 0,.int .u32 0,.int .i64 0,.int .i64 0,.int .i64 0,.bool false,.int .i64 0,.slice none 0 0] 49)∧W.heap[w.heap.size+1]?=some (.cells #[.bool true,.int .i64 0,.int .i64 6] 64)∧Kp [w.heap.size,w.heap.size+1] w3 W:=by rw [← hW]; exact set15 (by omega) HF3.out HX3.out
 refine bodyPost_ret (v:=.tuple #[.agg #[.int .i64 0,.int .i64 0,.int .i64 0,.slice none 0 0,.int .i64 0,.int .u32 0,.int .i64 0,.int .i64 0,.int .i64 0,.bool false,.int .i64 0,.slice none 0 0],.int .i64 9,.agg #[.bool true,.int .i64 0,.int .i64 6],.int .i64 0]) (by simp [results,Try.results101,go_sem,cell_of HF9,cell_of HX9]) rfl ⟨(⟨0,0,0,none,0,0,0,0,0,0,0,false,0,none,0,0⟩:Fr),rfl,FrP.zero _ _,(HK3.out.then K9 (by simp))⟩
theorem rparseCut (A:Option Addr) (n c:Nat) (l:List UInt8) (most:Int) (w:World) (hr:Rd w A n c l) (hn:n≤281474976710656) (hm:0≤most) (h9:¬ n < 9) (N:Nat) (hN:be (l.take 3)=N) (hb:¬ most < (N:Int)) (hc:n < 9+N):Calls Try.prog 101 #[.slice A n c,.int .i64 most] w (ParseR (.no 0 3) w):=by
 have HR:=Lib.hid hr
 have e:=head_of (l:=l) (by rw [hr.len]; exact h9)
 rw [hN] at e
 have HN2:=Lib.hid (show N < 16777216 by have:=be_take_lt l 3; rw [hN] at this; have e3:(256:Nat) ^ 3=16777216:=(by decide); omega)
 obtain ⟨T,hT⟩:∃ T,(l.getD 3 0).toNat=T:=⟨_,rfl⟩
 obtain ⟨F,hF⟩:∃ F,(l.getD 4 0).toNat=F:=⟨_,rfl⟩
 obtain ⟨S,hS⟩:∃ S,be ((l.drop 5).take 4) % 2147483648=S:=⟨_,rfl⟩
 rw [hT,hF,hS] at e
 have HH:=Lib.hid e
 clear hr e hT hF hS hN
 go_enter Try.func101,Try.ntmps101
 go_wp2_with fail
 generalize hW:World.alloc _ _=w1
 have K1:Kp [] w w1:=by rw [← hW]; with_reducible (repeat (first|exact Kp.refl _ _|assumption|refine Kp.alloc ?_ _|refine Kp.drew ?_|refine Kp.drewN ?_ _|(refine Kp.setL ?_ ?_ _;focus (simp;done))|(refine Kp.setR ?_ ?_ _;focus (first|(simp;done)|(simp;omega)))))
 have HF:=Lib.hid (show w1.heap[w.heap.size]?=some (.cells #[.int .i64 0,.int .i64 0,.int .i64 0,.slice none 0 0,.int .i64 0,.int .u32 0,.int .i64 0,.int .i64 0,.int .i64 0,.bool false,.int .i64 0,.slice none 0 0] 49) by rw [← hW]; with_reducible (repeat (first|assumption|(refine hp_new _ _ _ ?_;focus (simp;done))|refine hpl ?_|(refine hpf ?_ ?_;focus (first|(simp;done)|(simp;omega)))|refine hpd ?_|refine hpe ?_)))
 have HX:=Lib.hid (show w1.heap[w.heap.size+1]?=some (.cells #[.bool false,.int .i64 0,.int .i64 0] 64) by rw [← hW]; with_reducible (repeat (first|assumption|(refine hp_new _ _ _ ?_;focus (simp;done))|refine hpl ?_|(refine hpf ?_ ?_;focus (first|(simp;done)|(simp;omega)))|refine hpd ?_|refine hpe ?_)))
 clear hW
 refine (refHead_big A n c l w1 hn (HR.out.keep K1 (by simp))).mono ?_
 rintro e w2 ⟨rfl,K2⟩
 rw [HH.out]
 dsimp only
 have HF2:=Lib.hid (K2.heap HF.out (by simp))
 have HX2:=Lib.hid (K2.heap HX.out (by simp))
 have HK2:=Lib.hid (K1.trans K2)
 clear HF HX K1 K2
 obtain ⟨q0,q1,q2,q3,q4,q5,q6,q7,q8,q9,q10,q11,qz,qlt,qlt2⟩:=cellsF HF2.out
 have x0:=cell_of HX2.out 0
 have x1:=cell_of HX2.out 1
 have x2:=cell_of HX2.out 2
 have xz:=frozen_of HX2.out
 have hN2:=HN2.out
 go_wp2
 generalize hW:World.setCell _ _ _=W
 obtain ⟨HF9,HX9,K9⟩:W.heap[w.heap.size]?=some (.cells #[.int .i64 0,.int .i64 0,.int .i64 0,.slice none 0 0,.int .i64 0,.int .u32 0,.int .i64 0,.int .i64 0,.int .i64 0,.bool false,.int .i64 0,.slice none 0 0] 49)∧W.heap[w.heap.size+1]?=some (.cells #[.bool false,.int .i64 0,.int .i64 0] 64)∧Kp [w.heap.size,w.heap.size+1] w2 W:=by rw [← hW]; exact set15 (by omega) HF2.out HX2.out
 refine bodyPost_ret (v:=.tuple #[.agg #[.int .i64 0,.int .i64 0,.int .i64 0,.slice none 0 0,.int .i64 0,.int .u32 0,.int .i64 0,.int .i64 0,.int .i64 0,.bool false,.int .i64 0,.slice none 0 0],.int .i64 0,.agg #[.bool false,.int .i64 0,.int .i64 0],.int .i64 3]) (by simp [results,Try.results101,go_sem,cell_of HF9,cell_of HX9]) rfl ⟨(⟨0,0,0,none,0,0,0,0,0,0,0,false,0,none,0,0⟩:Fr),rfl,FrP.zero _ _,(HK2.out.then K9 (by simp))⟩
end Go.Proofs.Ytkmcakneceagpaa
