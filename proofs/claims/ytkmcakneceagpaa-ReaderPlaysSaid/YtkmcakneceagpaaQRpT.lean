/- The reference's Parse, whole. The reference's reader: New and Feed. The reference's reader: Next. The reference's Next answers the same function of the bytes. -/
import Derived.Test.YtkmcakneceagpaaQRpR
import Derived.Test.YtkmcakneceagpaaQReg4
set_option linter.unusedSimpArgs false
set_option linter.unusedVariables false
set_option maxHeartbeats 8000000
set_option maxRecDepth 100000
namespace Go.Proofs.Ytkmcakneceagpaa
open Go.RowKit
theorem rparse0 (A:Option Addr) (n c:Nat) (l:List UInt8) (most:Int) (w:World) (hr:Rd w A n c l) (hn:n≤281474976710656) (hm:0≤most) (h9:¬ n < 9) (N:Nat) (hN:be (l.take 3)=N) (hb:¬ most < (N:Int)) (hc:¬ n < 9+N) (F S:Nat) (hT:(l.getD 3 0).toNat=0) (hF:(l.getD 4 0).toNat=F) (hS:be ((l.drop 5).take 4) % 2147483648=S):Calls Try.prog 101 #[.slice A n c,.int .i64 most] w (ParseR (inS 0 F S ((l.drop 9).take N)) w):=by
 have hF2:=(l.getD 4 0).toNat_lt
 have hf0:(0:Int)≤(F:Int):=by omega
 have hf1:(F:Int)≤255:=by omega
 have hl:((l.drop 9).take N).length=N:=by have:=hr.len; simp; omega
 have hN2:N≤16777216:=by
  have:=be_take_lt l 3
  rw [hN] at this
  have e3:(256:Nat) ^ 3=16777216:=by decide
  omega
 have hrg:∀ w,Calls Try.prog 153 #[.int .i64 ((0:Nat):Int),.int .i64 S] w (BoolR (rightB ((0:Nat):Int) S) w):=fun w=>(rright0 S w).mono (fun e w' h=>by simpa [rightB,zeroB] using h)
 have hsz:∀ w,Calls Try.prog 154 #[.agg #[.int .i64 ((0:Nat):Int),.int .i64 F,.int .i64 S,.slice none 0 0,.int .i64 0,.int .u32 0,.int .i64 0,.int .i64 0,.int .i64 0,.bool false,.int .i64 0,.slice none 0 0],.int .i64 N] w (BoolK (!fitsB ((0:Nat):Int) F N) w):=fun w=>rsize0 F S N hN2 w hf0 hf1
 unfold inS
 dsimp only
 rw [hl,if_neg (by decide)]
 cases h1:rightB (0:Int) (S:Int) with
 | false =>
  rw [if_pos rfl]
  exact rparseWrong 0 A n c l most w hr hn hm h9 N hN hb hc F S hT hF hS rfl hrg h1
 | true =>
  rw [if_neg (by decide)]
  cases h2:fitsB (0:Int) (F:Int) N with
  | false =>
   rw [if_pos rfl,if_neg (by decide)]
   exact rparseSz 0 A n c l most w hr hn hm h9 N hN hb hc F S hT hF hS rfl hrg h1 hsz h2 (by decide)
  | true =>
   rw [if_neg (by decide)]
   cases h3:unS (0:Int) (F:Int) ((l.drop 9).take N) with
   | bad code=>exact rparseUnp 0 A n c l most w hr hn hm h9 N hN hb hc F S hT hF hS rfl hrg h1 hsz h2 (fun A n c m w hr hn=>(bcase3 (hasB F 8)).elim (fun h8=>rparts0f F S hf0 hf1 h8 A n c m w hr hn) (fun h8=>rparts0t F S hf0 hf1 h8 A n c m w hr hn)) (by decide) code h3
   | ok pad m =>
    dsimp only
    rw [if_neg (by simp)]
    exact rparseOk 0 A n c l most w hr hn hm h9 N hN hb hc F S hT hF hS rfl hrg h1 hsz h2 (fun A n c m w hr hn=>(bcase3 (hasB F 8)).elim (fun h8=>rparts0f F S hf0 hf1 h8 A n c m w hr hn) (fun h8=>rparts0t F S hf0 hf1 h8 A n c m w hr hn)) (by decide) pad m h3 (fun A n c w hr hn=>rfields0 F S pad A n c m w hr hn)

theorem rparse1 (A:Option Addr) (n c:Nat) (l:List UInt8) (most:Int) (w:World) (hr:Rd w A n c l) (hn:n≤281474976710656) (hm:0≤most) (h9:¬ n < 9) (N:Nat) (hN:be (l.take 3)=N) (hb:¬ most < (N:Int)) (hc:¬ n < 9+N) (F S:Nat) (hT:(l.getD 3 0).toNat=1) (hF:(l.getD 4 0).toNat=F) (hS:be ((l.drop 5).take 4) % 2147483648=S):Calls Try.prog 101 #[.slice A n c,.int .i64 most] w (ParseR (inS 1 F S ((l.drop 9).take N)) w):=by
 have hF2:=(l.getD 4 0).toNat_lt
 have hf0:(0:Int)≤(F:Int):=by omega
 have hf1:(F:Int)≤255:=by omega
 have hl:((l.drop 9).take N).length=N:=by have:=hr.len; simp; omega
 have hN2:N≤16777216:=by
  have:=be_take_lt l 3
  rw [hN] at this
  have e3:(256:Nat) ^ 3=16777216:=by decide
  omega
 have hrg:∀ w,Calls Try.prog 153 #[.int .i64 ((1:Nat):Int),.int .i64 S] w (BoolR (rightB ((1:Nat):Int) S) w):=fun w=>(rright1 S w).mono (fun e w' h=>by simpa [rightB,zeroB] using h)
 have hsz:∀ w,Calls Try.prog 154 #[.agg #[.int .i64 ((1:Nat):Int),.int .i64 F,.int .i64 S,.slice none 0 0,.int .i64 0,.int .u32 0,.int .i64 0,.int .i64 0,.int .i64 0,.bool false,.int .i64 0,.slice none 0 0],.int .i64 N] w (BoolK (!fitsB ((1:Nat):Int) F N) w):=fun w=>rsize1 F S N hN2 w hf0 hf1
 unfold inS
 dsimp only
 rw [hl,if_neg (by decide)]
 cases h1:rightB (1:Int) (S:Int) with
 | false =>
  rw [if_pos rfl]
  exact rparseWrong 1 A n c l most w hr hn hm h9 N hN hb hc F S hT hF hS rfl hrg h1
 | true =>
  rw [if_neg (by decide)]
  cases h2:fitsB (1:Int) (F:Int) N with
  | false =>
   rw [if_pos rfl,if_neg (by decide)]
   exact rparseSz 1 A n c l most w hr hn hm h9 N hN hb hc F S hT hF hS rfl hrg h1 hsz h2 (by decide)
  | true =>
   rw [if_neg (by decide)]
   cases h3:unS (1:Int) (F:Int) ((l.drop 9).take N) with
   | bad code=>exact rparseUnp 1 A n c l most w hr hn hm h9 N hN hb hc F S hT hF hS rfl hrg h1 hsz h2 (fun A n c m w hr hn=>(bcase3 (hasB F 8)).elim (fun h8=>(bcase3 (hasB F 32)).elim (fun h32=>rparts1ff F S hf0 hf1 h8 h32 A n c m w hr hn) (fun h32=>rparts1tf F S hf0 hf1 h8 h32 A n c m w hr hn)) (fun h8=>(bcase3 (hasB F 32)).elim (fun h32=>rparts1ft F S hf0 hf1 h8 h32 A n c m w hr hn) (fun h32=>rparts1tt F S hf0 hf1 h8 h32 A n c m w hr hn))) (by decide) code h3
   | ok pad m =>
    dsimp only
    rw [if_neg (by simp)]
    exact rparseOk 1 A n c l most w hr hn hm h9 N hN hb hc F S hT hF hS rfl hrg h1 hsz h2 (fun A n c m w hr hn=>(bcase3 (hasB F 8)).elim (fun h8=>(bcase3 (hasB F 32)).elim (fun h32=>rparts1ff F S hf0 hf1 h8 h32 A n c m w hr hn) (fun h32=>rparts1tf F S hf0 hf1 h8 h32 A n c m w hr hn)) (fun h8=>(bcase3 (hasB F 32)).elim (fun h32=>rparts1ft F S hf0 hf1 h8 h32 A n c m w hr hn) (fun h32=>rparts1tt F S hf0 hf1 h8 h32 A n c m w hr hn))) (by decide) pad m h3 (fun A n c w hr hn=>(bcase3 (hasB F 32)).elim (fun h32=>rfields1f F S pad A n c m w hr hn hf0 hf1 h32) (fun h32=>rfields1t F S pad A n c m w hr hn hf0 hf1 h32 (by have e:=un_fixed h3; have:=hr.len; simp [fixedN,h32] at e; omega)))

theorem rparse2 (A:Option Addr) (n c:Nat) (l:List UInt8) (most:Int) (w:World) (hr:Rd w A n c l) (hn:n≤281474976710656) (hm:0≤most) (h9:¬ n < 9) (N:Nat) (hN:be (l.take 3)=N) (hb:¬ most < (N:Int)) (hc:¬ n < 9+N) (F S:Nat) (hT:(l.getD 3 0).toNat=2) (hF:(l.getD 4 0).toNat=F) (hS:be ((l.drop 5).take 4) % 2147483648=S):Calls Try.prog 101 #[.slice A n c,.int .i64 most] w (ParseR (inS 2 F S ((l.drop 9).take N)) w):=by
 have hF2:=(l.getD 4 0).toNat_lt
 have hf0:(0:Int)≤(F:Int):=by omega
 have hf1:(F:Int)≤255:=by omega
 have hl:((l.drop 9).take N).length=N:=by have:=hr.len; simp; omega
 have hN2:N≤16777216:=by
  have:=be_take_lt l 3
  rw [hN] at this
  have e3:(256:Nat) ^ 3=16777216:=by decide
  omega
 have hrg:∀ w,Calls Try.prog 153 #[.int .i64 ((2:Nat):Int),.int .i64 S] w (BoolR (rightB ((2:Nat):Int) S) w):=fun w=>(rright2 S w).mono (fun e w' h=>by simpa [rightB,zeroB] using h)
 have hsz:∀ w,Calls Try.prog 154 #[.agg #[.int .i64 ((2:Nat):Int),.int .i64 F,.int .i64 S,.slice none 0 0,.int .i64 0,.int .u32 0,.int .i64 0,.int .i64 0,.int .i64 0,.bool false,.int .i64 0,.slice none 0 0],.int .i64 N] w (BoolK (!fitsB ((2:Nat):Int) F N) w):=fun w=>rsize2 F S N hN2 w hf0 hf1
 unfold inS
 dsimp only
 rw [hl,if_neg (by decide)]
 cases h1:rightB (2:Int) (S:Int) with
 | false =>
  rw [if_pos rfl]
  exact rparseWrong 2 A n c l most w hr hn hm h9 N hN hb hc F S hT hF hS rfl hrg h1
 | true =>
  rw [if_neg (by decide)]
  cases h2:fitsB (2:Int) (F:Int) N with
  | false =>
   rw [if_pos rfl,if_pos rfl]
   exact rparseSz2 2 A n c l most w hr hn hm h9 N hN hb hc F S hT hF hS rfl hrg h1 hsz h2 rfl
  | true =>
   rw [if_neg (by decide)]
   cases h3:unS (2:Int) (F:Int) ((l.drop 9).take N) with
   | bad code=>exact absurd h3 (fun h=>by simp [unS,padF,paddedB,fixedN] at h)
   | ok pad m =>
    dsimp only
    rw [if_neg (by simp)]
    exact rparseOk2 2 A n c l most w hr hn hm h9 N hN hb hc F S hT hF hS rfl hrg h1 hsz h2 (fun A n c m w hr hn=>rparts2 F S hf0 hf1 A n c m w hr hn) rfl pad m h3 (fun A n c w hr hn=>rfields2 F S pad A n c m w hr hn (by have e:=un_len h3 rfl; rw [hl] at e; have:=hr.len; simp [fitsB] at h2; omega))

theorem rparse3 (A:Option Addr) (n c:Nat) (l:List UInt8) (most:Int) (w:World) (hr:Rd w A n c l) (hn:n≤281474976710656) (hm:0≤most) (h9:¬ n < 9) (N:Nat) (hN:be (l.take 3)=N) (hb:¬ most < (N:Int)) (hc:¬ n < 9+N) (F S:Nat) (hT:(l.getD 3 0).toNat=3) (hF:(l.getD 4 0).toNat=F) (hS:be ((l.drop 5).take 4) % 2147483648=S):Calls Try.prog 101 #[.slice A n c,.int .i64 most] w (ParseR (inS 3 F S ((l.drop 9).take N)) w):=by
 have hF2:=(l.getD 4 0).toNat_lt
 have hf0:(0:Int)≤(F:Int):=by omega
 have hf1:(F:Int)≤255:=by omega
 have hl:((l.drop 9).take N).length=N:=by have:=hr.len; simp; omega
 have hN2:N≤16777216:=by
  have:=be_take_lt l 3
  rw [hN] at this
  have e3:(256:Nat) ^ 3=16777216:=by decide
  omega
 have hrg:∀ w,Calls Try.prog 153 #[.int .i64 ((3:Nat):Int),.int .i64 S] w (BoolR (rightB ((3:Nat):Int) S) w):=fun w=>(rright3 S w).mono (fun e w' h=>by simpa [rightB,zeroB] using h)
 have hsz:∀ w,Calls Try.prog 154 #[.agg #[.int .i64 ((3:Nat):Int),.int .i64 F,.int .i64 S,.slice none 0 0,.int .i64 0,.int .u32 0,.int .i64 0,.int .i64 0,.int .i64 0,.bool false,.int .i64 0,.slice none 0 0],.int .i64 N] w (BoolK (!fitsB ((3:Nat):Int) F N) w):=fun w=>rsize3 F S N hN2 w hf0 hf1
 unfold inS
 dsimp only
 rw [hl,if_neg (by decide)]
 cases h1:rightB (3:Int) (S:Int) with
 | false =>
  rw [if_pos rfl]
  exact rparseWrong 3 A n c l most w hr hn hm h9 N hN hb hc F S hT hF hS rfl hrg h1
 | true =>
  rw [if_neg (by decide)]
  cases h2:fitsB (3:Int) (F:Int) N with
  | false =>
   rw [if_pos rfl,if_neg (by decide)]
   exact rparseSz 3 A n c l most w hr hn hm h9 N hN hb hc F S hT hF hS rfl hrg h1 hsz h2 (by decide)
  | true =>
   rw [if_neg (by decide)]
   cases h3:unS (3:Int) (F:Int) ((l.drop 9).take N) with
   | bad code=>exact absurd h3 (fun h=>by simp [unS,padF,paddedB,fixedN] at h)
   | ok pad m =>
    dsimp only
    rw [if_neg (by simp)]
    exact rparseOk 3 A n c l most w hr hn hm h9 N hN hb hc F S hT hF hS rfl hrg h1 hsz h2 (fun A n c m w hr hn=>rparts3 F S hf0 hf1 A n c m w hr hn) (by decide) pad m h3 (fun A n c w hr hn=>rfields3 F S pad A n c m w hr hn (by have e:=un_len h3 rfl; rw [hl] at e; have:=hr.len; simp [fitsB] at h2; omega))

theorem rparse4 (A:Option Addr) (n c:Nat) (l:List UInt8) (most:Int) (w:World) (hr:Rd w A n c l) (hn:n≤281474976710656) (hm:0≤most) (h9:¬ n < 9) (N:Nat) (hN:be (l.take 3)=N) (hb:¬ most < (N:Int)) (hc:¬ n < 9+N) (F S:Nat) (hT:(l.getD 3 0).toNat=4) (hF:(l.getD 4 0).toNat=F) (hS:be ((l.drop 5).take 4) % 2147483648=S):Calls Try.prog 101 #[.slice A n c,.int .i64 most] w (ParseR (inS 4 F S ((l.drop 9).take N)) w):=by
 have hF2:=(l.getD 4 0).toNat_lt
 have hf0:(0:Int)≤(F:Int):=by omega
 have hf1:(F:Int)≤255:=by omega
 have hl:((l.drop 9).take N).length=N:=by have:=hr.len; simp; omega
 have hN2:N≤16777216:=by
  have:=be_take_lt l 3
  rw [hN] at this
  have e3:(256:Nat) ^ 3=16777216:=by decide
  omega
 have hrg:∀ w,Calls Try.prog 153 #[.int .i64 ((4:Nat):Int),.int .i64 S] w (BoolR (rightB ((4:Nat):Int) S) w):=fun w=>(rright4 S w).mono (fun e w' h=>by simpa [rightB,zeroB] using h)
 have hsz:∀ w,Calls Try.prog 154 #[.agg #[.int .i64 ((4:Nat):Int),.int .i64 F,.int .i64 S,.slice none 0 0,.int .i64 0,.int .u32 0,.int .i64 0,.int .i64 0,.int .i64 0,.bool false,.int .i64 0,.slice none 0 0],.int .i64 N] w (BoolK (!fitsB ((4:Nat):Int) F N) w):=fun w=>rsize4 F S N hN2 w hf0 hf1
 unfold inS
 dsimp only
 rw [hl,if_neg (by decide)]
 cases h1:rightB (4:Int) (S:Int) with
 | false =>
  rw [if_pos rfl]
  exact rparseWrong 4 A n c l most w hr hn hm h9 N hN hb hc F S hT hF hS rfl hrg h1
 | true =>
  rw [if_neg (by decide)]
  cases h2:fitsB (4:Int) (F:Int) N with
  | false =>
   rw [if_pos rfl,if_neg (by decide)]
   exact rparseSz 4 A n c l most w hr hn hm h9 N hN hb hc F S hT hF hS rfl hrg h1 hsz h2 (by decide)
  | true =>
   rw [if_neg (by decide)]
   cases h3:unS (4:Int) (F:Int) ((l.drop 9).take N) with
   | bad code=>exact absurd h3 (fun h=>by simp [unS,padF,paddedB,fixedN] at h)
   | ok pad m =>
    dsimp only
    rw [if_neg (by simp)]
    exact rparseOk 4 A n c l most w hr hn hm h9 N hN hb hc F S hT hF hS rfl hrg h1 hsz h2 (fun A n c m w hr hn=>rparts4 F S hf0 hf1 A n c m w hr hn) (by decide) pad m h3 (fun A n c w hr hn=>rfields4 F S pad A n c m w hr hn (n / 6) (by have e:=un_len h3 rfl; rw [hl] at e; have:=hr.len; simp [fitsB] at h2; omega))

theorem rparse5 (A:Option Addr) (n c:Nat) (l:List UInt8) (most:Int) (w:World) (hr:Rd w A n c l) (hn:n≤281474976710656) (hm:0≤most) (h9:¬ n < 9) (N:Nat) (hN:be (l.take 3)=N) (hb:¬ most < (N:Int)) (hc:¬ n < 9+N) (F S:Nat) (hT:(l.getD 3 0).toNat=5) (hF:(l.getD 4 0).toNat=F) (hS:be ((l.drop 5).take 4) % 2147483648=S):Calls Try.prog 101 #[.slice A n c,.int .i64 most] w (ParseR (inS 5 F S ((l.drop 9).take N)) w):=by
 have hF2:=(l.getD 4 0).toNat_lt
 have hf0:(0:Int)≤(F:Int):=by omega
 have hf1:(F:Int)≤255:=by omega
 have hl:((l.drop 9).take N).length=N:=by have:=hr.len; simp; omega
 have hN2:N≤16777216:=by
  have:=be_take_lt l 3
  rw [hN] at this
  have e3:(256:Nat) ^ 3=16777216:=by decide
  omega
 have hrg:∀ w,Calls Try.prog 153 #[.int .i64 ((5:Nat):Int),.int .i64 S] w (BoolR (rightB ((5:Nat):Int) S) w):=fun w=>(rright5 S w).mono (fun e w' h=>by simpa [rightB,zeroB] using h)
 have hsz:∀ w,Calls Try.prog 154 #[.agg #[.int .i64 ((5:Nat):Int),.int .i64 F,.int .i64 S,.slice none 0 0,.int .i64 0,.int .u32 0,.int .i64 0,.int .i64 0,.int .i64 0,.bool false,.int .i64 0,.slice none 0 0],.int .i64 N] w (BoolK (!fitsB ((5:Nat):Int) F N) w):=fun w=>rsize5 F S N hN2 w hf0 hf1
 unfold inS
 dsimp only
 rw [hl,if_neg (by decide)]
 cases h1:rightB (5:Int) (S:Int) with
 | false =>
  rw [if_pos rfl]
  exact rparseWrong 5 A n c l most w hr hn hm h9 N hN hb hc F S hT hF hS rfl hrg h1
 | true =>
  rw [if_neg (by decide)]
  cases h2:fitsB (5:Int) (F:Int) N with
  | false =>
   rw [if_pos rfl,if_neg (by decide)]
   exact rparseSz 5 A n c l most w hr hn hm h9 N hN hb hc F S hT hF hS rfl hrg h1 hsz h2 (by decide)
  | true =>
   rw [if_neg (by decide)]
   cases h3:unS (5:Int) (F:Int) ((l.drop 9).take N) with
   | bad code=>exact rparseUnp 5 A n c l most w hr hn hm h9 N hN hb hc F S hT hF hS rfl hrg h1 hsz h2 (fun A n c m w hr hn=>(bcase3 (hasB F 8)).elim (fun h8=>rparts5f F S hf0 hf1 h8 A n c m w hr hn) (fun h8=>rparts5t F S hf0 hf1 h8 A n c m w hr hn)) (by decide) code h3
   | ok pad m =>
    dsimp only
    rw [if_neg (by simp)]
    exact rparseOk 5 A n c l most w hr hn hm h9 N hN hb hc F S hT hF hS rfl hrg h1 hsz h2 (fun A n c m w hr hn=>(bcase3 (hasB F 8)).elim (fun h8=>rparts5f F S hf0 hf1 h8 A n c m w hr hn) (fun h8=>rparts5t F S hf0 hf1 h8 A n c m w hr hn)) (by decide) pad m h3 (fun A n c w hr hn=>rfields5 F S pad A n c m w hr hn (by have e:=un_fixed h3; have:=hr.len; simp [fixedN] at e; omega))

theorem rparse6 (A:Option Addr) (n c:Nat) (l:List UInt8) (most:Int) (w:World) (hr:Rd w A n c l) (hn:n≤281474976710656) (hm:0≤most) (h9:¬ n < 9) (N:Nat) (hN:be (l.take 3)=N) (hb:¬ most < (N:Int)) (hc:¬ n < 9+N) (F S:Nat) (hT:(l.getD 3 0).toNat=6) (hF:(l.getD 4 0).toNat=F) (hS:be ((l.drop 5).take 4) % 2147483648=S):Calls Try.prog 101 #[.slice A n c,.int .i64 most] w (ParseR (inS 6 F S ((l.drop 9).take N)) w):=by
 have hF2:=(l.getD 4 0).toNat_lt
 have hf0:(0:Int)≤(F:Int):=by omega
 have hf1:(F:Int)≤255:=by omega
 have hl:((l.drop 9).take N).length=N:=by have:=hr.len; simp; omega
 have hN2:N≤16777216:=by
  have:=be_take_lt l 3
  rw [hN] at this
  have e3:(256:Nat) ^ 3=16777216:=by decide
  omega
 have hrg:∀ w,Calls Try.prog 153 #[.int .i64 ((6:Nat):Int),.int .i64 S] w (BoolR (rightB ((6:Nat):Int) S) w):=fun w=>(rright6 S w).mono (fun e w' h=>by simpa [rightB,zeroB] using h)
 have hsz:∀ w,Calls Try.prog 154 #[.agg #[.int .i64 ((6:Nat):Int),.int .i64 F,.int .i64 S,.slice none 0 0,.int .i64 0,.int .u32 0,.int .i64 0,.int .i64 0,.int .i64 0,.bool false,.int .i64 0,.slice none 0 0],.int .i64 N] w (BoolK (!fitsB ((6:Nat):Int) F N) w):=fun w=>rsize6 F S N hN2 w hf0 hf1
 unfold inS
 dsimp only
 rw [hl,if_neg (by decide)]
 cases h1:rightB (6:Int) (S:Int) with
 | false =>
  rw [if_pos rfl]
  exact rparseWrong 6 A n c l most w hr hn hm h9 N hN hb hc F S hT hF hS rfl hrg h1
 | true =>
  rw [if_neg (by decide)]
  cases h2:fitsB (6:Int) (F:Int) N with
  | false =>
   rw [if_pos rfl,if_neg (by decide)]
   exact rparseSz 6 A n c l most w hr hn hm h9 N hN hb hc F S hT hF hS rfl hrg h1 hsz h2 (by decide)
  | true =>
   rw [if_neg (by decide)]
   cases h3:unS (6:Int) (F:Int) ((l.drop 9).take N) with
   | bad code=>exact absurd h3 (fun h=>by simp [unS,padF,paddedB,fixedN] at h)
   | ok pad m =>
    dsimp only
    rw [if_neg (by simp)]
    exact rparseOk 6 A n c l most w hr hn hm h9 N hN hb hc F S hT hF hS rfl hrg h1 hsz h2 (fun A n c m w hr hn=>rparts6 F S hf0 hf1 A n c m w hr hn) (by decide) pad m h3 (fun A n c w hr hn=>rfields6 F S pad A n c m w hr hn)

theorem rparse7 (A:Option Addr) (n c:Nat) (l:List UInt8) (most:Int) (w:World) (hr:Rd w A n c l) (hn:n≤281474976710656) (hm:0≤most) (h9:¬ n < 9) (N:Nat) (hN:be (l.take 3)=N) (hb:¬ most < (N:Int)) (hc:¬ n < 9+N) (F S:Nat) (hT:(l.getD 3 0).toNat=7) (hF:(l.getD 4 0).toNat=F) (hS:be ((l.drop 5).take 4) % 2147483648=S):Calls Try.prog 101 #[.slice A n c,.int .i64 most] w (ParseR (inS 7 F S ((l.drop 9).take N)) w):=by
 have hF2:=(l.getD 4 0).toNat_lt
 have hf0:(0:Int)≤(F:Int):=by omega
 have hf1:(F:Int)≤255:=by omega
 have hl:((l.drop 9).take N).length=N:=by have:=hr.len; simp; omega
 have hN2:N≤16777216:=by
  have:=be_take_lt l 3
  rw [hN] at this
  have e3:(256:Nat) ^ 3=16777216:=by decide
  omega
 have hrg:∀ w,Calls Try.prog 153 #[.int .i64 ((7:Nat):Int),.int .i64 S] w (BoolR (rightB ((7:Nat):Int) S) w):=fun w=>(rright7 S w).mono (fun e w' h=>by simpa [rightB,zeroB] using h)
 have hsz:∀ w,Calls Try.prog 154 #[.agg #[.int .i64 ((7:Nat):Int),.int .i64 F,.int .i64 S,.slice none 0 0,.int .i64 0,.int .u32 0,.int .i64 0,.int .i64 0,.int .i64 0,.bool false,.int .i64 0,.slice none 0 0],.int .i64 N] w (BoolK (!fitsB ((7:Nat):Int) F N) w):=fun w=>rsize7 F S N hN2 w hf0 hf1
 unfold inS
 dsimp only
 rw [hl,if_neg (by decide)]
 cases h1:rightB (7:Int) (S:Int) with
 | false =>
  rw [if_pos rfl]
  exact rparseWrong 7 A n c l most w hr hn hm h9 N hN hb hc F S hT hF hS rfl hrg h1
 | true =>
  rw [if_neg (by decide)]
  cases h2:fitsB (7:Int) (F:Int) N with
  | false =>
   rw [if_pos rfl,if_neg (by decide)]
   exact rparseSz 7 A n c l most w hr hn hm h9 N hN hb hc F S hT hF hS rfl hrg h1 hsz h2 (by decide)
  | true =>
   rw [if_neg (by decide)]
   cases h3:unS (7:Int) (F:Int) ((l.drop 9).take N) with
   | bad code=>exact absurd h3 (fun h=>by simp [unS,padF,paddedB,fixedN] at h)
   | ok pad m =>
    dsimp only
    rw [if_neg (by simp)]
    exact rparseOk 7 A n c l most w hr hn hm h9 N hN hb hc F S hT hF hS rfl hrg h1 hsz h2 (fun A n c m w hr hn=>rparts7 F S hf0 hf1 A n c m w hr hn) (by decide) pad m h3 (fun A n c w hr hn=>rfields7 F S pad A n c m w hr hn (by have e:=un_len h3 rfl; rw [hl] at e; have:=hr.len; simp [fitsB] at h2; omega))

theorem rparse8 (A:Option Addr) (n c:Nat) (l:List UInt8) (most:Int) (w:World) (hr:Rd w A n c l) (hn:n≤281474976710656) (hm:0≤most) (h9:¬ n < 9) (N:Nat) (hN:be (l.take 3)=N) (hb:¬ most < (N:Int)) (hc:¬ n < 9+N) (F S:Nat) (hT:(l.getD 3 0).toNat=8) (hF:(l.getD 4 0).toNat=F) (hS:be ((l.drop 5).take 4) % 2147483648=S):Calls Try.prog 101 #[.slice A n c,.int .i64 most] w (ParseR (inS 8 F S ((l.drop 9).take N)) w):=by
 have hF2:=(l.getD 4 0).toNat_lt
 have hf0:(0:Int)≤(F:Int):=by omega
 have hf1:(F:Int)≤255:=by omega
 have hl:((l.drop 9).take N).length=N:=by have:=hr.len; simp; omega
 have hN2:N≤16777216:=by
  have:=be_take_lt l 3
  rw [hN] at this
  have e3:(256:Nat) ^ 3=16777216:=by decide
  omega
 have hrg:∀ w,Calls Try.prog 153 #[.int .i64 ((8:Nat):Int),.int .i64 S] w (BoolR (rightB ((8:Nat):Int) S) w):=fun w=>(rright8 S w).mono (fun e w' h=>by simpa [rightB,zeroB] using h)
 have hsz:∀ w,Calls Try.prog 154 #[.agg #[.int .i64 ((8:Nat):Int),.int .i64 F,.int .i64 S,.slice none 0 0,.int .i64 0,.int .u32 0,.int .i64 0,.int .i64 0,.int .i64 0,.bool false,.int .i64 0,.slice none 0 0],.int .i64 N] w (BoolK (!fitsB ((8:Nat):Int) F N) w):=fun w=>rsize8 F S N hN2 w hf0 hf1
 unfold inS
 dsimp only
 rw [hl,if_neg (by decide)]
 cases h1:rightB (8:Int) (S:Int) with
 | false =>
  rw [if_pos rfl]
  exact rparseWrong 8 A n c l most w hr hn hm h9 N hN hb hc F S hT hF hS rfl hrg h1
 | true =>
  rw [if_neg (by decide)]
  cases h2:fitsB (8:Int) (F:Int) N with
  | false =>
   rw [if_pos rfl,if_neg (by decide)]
   exact rparseSz 8 A n c l most w hr hn hm h9 N hN hb hc F S hT hF hS rfl hrg h1 hsz h2 (by decide)
  | true =>
   rw [if_neg (by decide)]
   cases h3:unS (8:Int) (F:Int) ((l.drop 9).take N) with
   | bad code=>exact absurd h3 (fun h=>by simp [unS,padF,paddedB,fixedN] at h)
   | ok pad m =>
    dsimp only
    by_cases h8:(8:Int)=8∧n31 m 0=0
    ·rw [if_pos h8]
     exact rparseWin 8 A n c l most w hr hn hm h9 N hN hb hc F S hT hF hS rfl hrg h1 hsz h2 (fun A n c m w hr hn=>rparts8 F S hf0 hf1 A n c m w hr hn) (by decide) pad m h3 (fun A n c w hr hn=>rfields8b F S pad A n c m w hr hn (by have e:=un_len h3 rfl; rw [hl] at e; have:=hr.len; simp [fitsB] at h2; omega) h8.2)
    ·rw [if_neg h8]
     exact rparseOk 8 A n c l most w hr hn hm h9 N hN hb hc F S hT hF hS rfl hrg h1 hsz h2 (fun A n c m w hr hn=>rparts8 F S hf0 hf1 A n c m w hr hn) (by decide) pad m h3 (fun A n c w hr hn=>rfields8 F S pad A n c m w hr hn (by have e:=un_len h3 rfl; rw [hl] at e; have:=hr.len; simp [fitsB] at h2; omega) (fun hi=>h8 ⟨rfl,hi⟩))

theorem rparse9 (A:Option Addr) (n c:Nat) (l:List UInt8) (most:Int) (w:World) (hr:Rd w A n c l) (hn:n≤281474976710656) (hm:0≤most) (h9:¬ n < 9) (N:Nat) (hN:be (l.take 3)=N) (hb:¬ most < (N:Int)) (hc:¬ n < 9+N) (F S:Nat) (hT:(l.getD 3 0).toNat=9) (hF:(l.getD 4 0).toNat=F) (hS:be ((l.drop 5).take 4) % 2147483648=S):Calls Try.prog 101 #[.slice A n c,.int .i64 most] w (ParseR (inS 9 F S ((l.drop 9).take N)) w):=by
 have hF2:=(l.getD 4 0).toNat_lt
 have hf0:(0:Int)≤(F:Int):=by omega
 have hf1:(F:Int)≤255:=by omega
 have hl:((l.drop 9).take N).length=N:=by have:=hr.len; simp; omega
 have hN2:N≤16777216:=by
  have:=be_take_lt l 3
  rw [hN] at this
  have e3:(256:Nat) ^ 3=16777216:=by decide
  omega
 have hrg:∀ w,Calls Try.prog 153 #[.int .i64 ((9:Nat):Int),.int .i64 S] w (BoolR (rightB ((9:Nat):Int) S) w):=fun w=>(rright9 S w).mono (fun e w' h=>by simpa [rightB,zeroB] using h)
 have hsz:∀ w,Calls Try.prog 154 #[.agg #[.int .i64 ((9:Nat):Int),.int .i64 F,.int .i64 S,.slice none 0 0,.int .i64 0,.int .u32 0,.int .i64 0,.int .i64 0,.int .i64 0,.bool false,.int .i64 0,.slice none 0 0],.int .i64 N] w (BoolK (!fitsB ((9:Nat):Int) F N) w):=fun w=>rsize9 F S N hN2 w hf0 hf1
 unfold inS
 dsimp only
 rw [hl,if_neg (by decide)]
 cases h1:rightB (9:Int) (S:Int) with
 | false =>
  rw [if_pos rfl]
  exact rparseWrong 9 A n c l most w hr hn hm h9 N hN hb hc F S hT hF hS rfl hrg h1
 | true =>
  rw [if_neg (by decide)]
  cases h2:fitsB (9:Int) (F:Int) N with
  | false =>
   rw [if_pos rfl,if_neg (by decide)]
   exact rparseSz 9 A n c l most w hr hn hm h9 N hN hb hc F S hT hF hS rfl hrg h1 hsz h2 (by decide)
  | true =>
   rw [if_neg (by decide)]
   cases h3:unS (9:Int) (F:Int) ((l.drop 9).take N) with
   | bad code=>exact absurd h3 (fun h=>by simp [unS,padF,paddedB,fixedN] at h)
   | ok pad m =>
    dsimp only
    rw [if_neg (by simp)]
    exact rparseOk 9 A n c l most w hr hn hm h9 N hN hb hc F S hT hF hS rfl hrg h1 hsz h2 (fun A n c m w hr hn=>rparts9 F S hf0 hf1 A n c m w hr hn) (by decide) pad m h3 (fun A n c w hr hn=>rfields9 F S pad A n c m w hr hn)

theorem refParse_any (A:Option Addr) (n c:Nat) (l:List UInt8) (most:Int) (w:World) (hr:Rd w A n c l) (hn:n≤281474976710656):Calls Try.prog 101 #[.slice A n c,.int .i64 most] w (ParseR (ps l most) w):=by
 have hlen:=hr.len
 unfold ps
 by_cases hm:most < 0
 ·rw [if_pos hm]
  exact rparseNeg A n c l most w hr hn hm
 rw [if_neg hm]
 by_cases h9:n < 9
 ·rw [if_pos (by omega)]
  exact rparseShort A n c l most w hr hn (by omega) h9
 rw [if_neg (by omega)]
 obtain ⟨N,hN⟩:∃ N,be (l.take 3)=N:=⟨_,rfl⟩
 rw [hN]
 by_cases hb:most < (N:Int)
 ·rw [if_pos hb]
  exact rparseLong A n c l most w hr hn (by omega) h9 N hN hb
 rw [if_neg hb]
 by_cases hc:n < 9+N
 ·rw [if_pos (by omega)]
  exact rparseCut A n c l most w hr hn (by omega) h9 N hN hb hc
 rw [if_neg (by omega)]
 obtain ⟨T,hT⟩:∃ T,(l.getD 3 0).toNat=T:=⟨_,rfl⟩
 obtain ⟨F,hF⟩:∃ F,(l.getD 4 0).toNat=F:=⟨_,rfl⟩
 obtain ⟨S,hS⟩:∃ S,be ((l.drop 5).take 4) % 2147483648=S:=⟨_,rfl⟩
 have e31:n31 l 5=(S:Int):=by rw [n31,hS]
 rw [hT,hF,e31]
 cases hkn:knownB (T:Int) with
 | false =>
  have hl:((l.drop 9).take N).length=N:=by simp; omega
  unfold inS
  dsimp only
  rw [hl,if_pos (by exact hkn)]
  exact rparseUnknown T A n c l most w hr hn (by omega) h9 N hN hb hc F S hT hF hS hkn
 | true =>
  rcases known10 hkn with rfl | rfl | rfl | rfl | rfl | rfl | rfl | rfl | rfl | rfl
  ·exact rparse0 A n c l most w hr hn (by omega) h9 N hN hb hc F S hT hF hS
  ·exact rparse1 A n c l most w hr hn (by omega) h9 N hN hb hc F S hT hF hS
  ·exact rparse2 A n c l most w hr hn (by omega) h9 N hN hb hc F S hT hF hS
  ·exact rparse3 A n c l most w hr hn (by omega) h9 N hN hb hc F S hT hF hS
  ·exact rparse4 A n c l most w hr hn (by omega) h9 N hN hb hc F S hT hF hS
  ·exact rparse5 A n c l most w hr hn (by omega) h9 N hN hb hc F S hT hF hS
  ·exact rparse6 A n c l most w hr hn (by omega) h9 N hN hb hc F S hT hF hS
  ·exact rparse7 A n c l most w hr hn (by omega) h9 N hN hb hc F S hT hF hS
  ·exact rparse8 A n c l most w hr hn (by omega) h9 N hN hb hc F S hT hF hS
  ·exact rparse9 A n c l most w hr hn (by omega) h9 N hN hb hc F S hT hF hS
end Go.Proofs.Ytkmcakneceagpaa

namespace Go.Proofs.Ytkmcakneceagpaa
open Go.RowKit
def RqS (w:World) (g:Nat) (D:List Nat) (most:Int) (is:Bool) (xs xc:Int) (l:List UInt8):Prop :=
 ∃ A n c,w.heap[g]?=some (.cells #[.int .i64 most,.slice A n c,.bool is,.int .i64 xs,.int .i64 xc] 162)∧Ow w 0 5 1 A n c (l.map u8)∧g∉ob A∧∀ t,t∈ob A→t∈D
theorem RqS.keep {w w':World} {g:Nat} {D S:List Nat} {most:Int} {is:Bool} {xs xc:Int} {l:List UInt8} (h:RqS w g D most is xs xc l) (k:Kp S w w') (hg:g∉S) (hD:∀ t,t∈D→t∉S):RqS w' g D most is xs xc l:=by
 obtain ⟨A,n,c,h1,h2,h3,h4⟩:=h
 exact ⟨A,n,c,k.heap h1 hg,h2.keep k (fun b hb=>hD b (h4 b hb)),h3,h4⟩
theorem RqS.lt {w:World} {g:Nat} {D:List Nat} {most:Int} {is:Bool} {xs xc:Int} {l:List UInt8} (h:RqS w g D most is xs xc l):g < w.heap.size:=by
 obtain ⟨A,n,c,h1,_⟩:=h
 exact lt_of_heap h1
theorem RqNew (most:Int) (hm0:16384≤most) (hm1:most≤16777215) (w:World):Calls Try.prog 112 #[.int .i64 most] w fun e w'=>∃ g,e=.returned (.tuple #[.pointer (some ⟨g,0,none⟩),.int .i64 0])∧g=w.heap.size∧RqS w' g [] most false 0 0 []∧Kp [] w w':=by
 go_enter Try.func112,Try.ntmps112
 go_wp2
 refine bodyPost_ret (v:=.tuple #[.pointer (some ⟨w.heap.size,0,none⟩),.int .i64 0]) (by simp [results,Try.results112,go_sem]) rfl ⟨w.heap.size,rfl,rfl,⟨none,0,0,?_,Ow.nil _ _ _ _,by simp [ob],by simp [ob]⟩,by with_reducible (repeat (first|exact Kp.refl _ _|assumption|refine Kp.alloc ?_ _|refine Kp.drew ?_|refine Kp.drewN ?_ _|(refine Kp.setL ?_ ?_ _;focus (simp;done))|(refine Kp.setR ?_ ?_ _;focus (first|(simp;done)|(simp;omega)))))⟩
 with_reducible (repeat (first|assumption|(refine hp_new _ _ _ ?_;focus (simp;done))|refine hpl ?_|(refine hpf ?_ ?_;focus (first|(simp;done)|(simp;omega)))|refine hpd ?_|refine hpe ?_))
theorem RqFeedS (g:Nat) (w:World) (B:Option Addr) (m d:Nat) (A:Option Addr) (n c:Nat) (most:Int) (xs xc:Int) (h:w.heap[g]?=some (.cells #[.int .i64 most,.slice A n c,.bool true,.int .i64 xs,.int .i64 xc] 162)):Calls Try.prog 113 #[.pointer (some ⟨g,0,none⟩),.slice B m d] w fun e w'=>e=.returned (.int .i64 5)∧Kp [] w w':=by
 have c2:=cell_of h 2
 have hl:=lt_of_heap h
 clear h
 go_enter Try.func113,Try.ntmps113
 go_wp2
 all_goals (go_ret; exact ⟨by simp,by with_reducible (repeat (first|exact Kp.refl _ _|assumption|refine Kp.alloc ?_ _|refine Kp.drew ?_|refine Kp.drewN ?_ _|(refine Kp.setL ?_ ?_ _;focus (simp;done))|(refine Kp.setR ?_ ?_ _;focus (first|(simp;done)|(simp;omega)))))⟩)
theorem RqFeed (g:Nat) (D:List Nat) (w:World) (B:Option Addr) (m d:Nat) (y l:List UInt8) (most:Int) (xs xc:Int) (h:RqS w g D most false xs xc l) (hy:Rd w B m d y) (hlen:l.length+m≤211106232532992):Calls Try.prog 113 #[.pointer (some ⟨g,0,none⟩),.slice B m d] w fun e w'=>e=.returned (.int .i64 0)∧∃ D',(∀ t,t∈D'→t∈D∨w.heap.size≤t)∧(∀ t,t∈D'→t < w'.heap.size)∧RqS w' g D' most false xs xc (l++y)∧Kp (g :: D) w w':=by
 obtain ⟨A,n,c,h1,h2,h3,h4⟩:=h
 have hn:l.length=n:=by have:=h2.len; simpa using this
 have c1:=cell_of h1 1
 have c2:=cell_of h1 2
 have hl:=lt_of_heap h1
 have HH:=Lib.hid h1
 have HO:=Lib.hid h2
 have HY:=Lib.hid hy
 clear h1 h2 hy
 go_enter Try.func113,Try.ntmps113
 go_wp2_with (with_reducible refine stopAt (o:=⟨some 16,_,_,_,_,_⟩) ?_)
 refine Stop.go (wp_appB rfl _ _ 22 5 rfl Try.underlying22 Try.info5 0 A n c l rfl HO.out B m d y rfl HY.out (by omega) (Nat.zero_le _) ?_)
 intro A' n' c' l' w1 hn' hl' O' K' hA'
 have H1:=Lib.hid (K'.heap HH.out h3)
 have hlt1:=lt_of_heap H1.out
 have HN:=Lib.hid hn'
 have HL:=Lib.hid hl'
 have HO':=Lib.hid O'
 have HK:=Lib.hid K'
 have HA':=Lib.hid hA'
 have d1:=cell_of H1.out 1
 have dz:=frozen_of H1.out
 clear hn' hl' O' K' hA' c1 c2 HH HO HY
 go_wp2
 go_ret
 have hgA':g∉ob A':=by
  rcases HA'.out with h | h
  ·rw [h]; exact h3
  ·rw [h]; simp [ob]; omega
 have hAD:∀ t,t∈ob A'→t∈D∨w.heap.size≤t:=by
  intro t ht
  rcases HA'.out with h | h
  ·rw [h] at ht; exact .inl (h4 t ht)
  ·rw [h] at ht; simp [ob] at ht; exact .inr (by omega)
 have KS:Kp [g] w1 (w1.setCell ⟨g,1,none⟩ (.slice A' n' c')):=(Kp.refl [g] w1).setCell (.inl (by simp)) _
 refine ⟨rfl,ob A',hAD,fun t ht=>Nat.lt_of_lt_of_le (HO'.out.base t ht).2 KS.size,⟨A',n',c',hp_set _ _ _ _ _ _ H1.out,?_,hgA',fun t h=>h⟩,(HK.out.mono (fun s hs=>.inl (List.mem_cons_of_mem _ (h4 s hs)))).setCell (.inl (by simp)) _⟩
 rw [← HL.out]
 exact HO'.out.keep ((Kp.refl [g] w1).setCell (.inl (by simp)) _) (fun b hb hs=>by simp at hs; subst hs; exact hgA' hb)
theorem RqNextS (g:Nat) (w:World) (A:Option Addr) (n c:Nat) (most:Int) (xs xc:Int) (h:w.heap[g]?=some (.cells #[.int .i64 most,.slice A n c,.bool true,.int .i64 xs,.int .i64 xc] 162)):Calls Try.prog 114 #[.pointer (some ⟨g,0,none⟩)] w fun e w'=>e=.returned (.tuple #[.agg #[.int .i64 0,.int .i64 0,.int .i64 0,.slice none 0 0,.int .i64 0,.int .u32 0,.int .i64 0,.int .i64 0,.int .i64 0,.bool false,.int .i64 0,.slice none 0 0],.bool false,.agg #[.bool true,.int .i64 xs,.int .i64 xc]])∧Kp [] w w':=by
 have HH:=Lib.hid h
 have hl:=lt_of_heap h
 clear h
 go_enter Try.func114,Try.ntmps114
 go_wp2
 refine wp_loop_once ?_
 generalize hW:World.alloc _ _=w1
 have K1:Kp [] w w1:=by rw [← hW]; with_reducible (repeat (first|exact Kp.refl _ _|assumption|refine Kp.alloc ?_ _|refine Kp.drew ?_|refine Kp.drewN ?_ _|(refine Kp.setL ?_ ?_ _;focus (simp;done))|(refine Kp.setR ?_ ?_ _;focus (first|(simp;done)|(simp;omega)))))
 have HF:=Lib.hid (show w1.heap[w.heap.size]?=some (.cells #[.int .i64 0,.int .i64 0,.int .i64 0,.slice none 0 0,.int .i64 0,.int .u32 0,.int .i64 0,.int .i64 0,.int .i64 0,.bool false,.int .i64 0,.slice none 0 0] 49) by rw [← hW]; with_reducible (repeat (first|assumption|(refine hp_new _ _ _ ?_;focus (simp;done))|refine hpl ?_|(refine hpf ?_ ?_;focus (first|(simp;done)|(simp;omega)))|refine hpd ?_|refine hpe ?_)))
 have HX:=Lib.hid (show w1.heap[w.heap.size+1]?=some (.cells #[.bool false,.int .i64 0,.int .i64 0] 64) by rw [← hW]; with_reducible (repeat (first|assumption|(refine hp_new _ _ _ ?_;focus (simp;done))|refine hpl ?_|(refine hpf ?_ ?_;focus (first|(simp;done)|(simp;omega)))|refine hpd ?_|refine hpe ?_)))
 clear hW
 have H1:=Lib.hid (K1.heap HH.out (by simp))
 have cl:=lt_of_heap H1.out
 have c2:=cell_of H1.out 2
 have c3:=cell_of H1.out 3
 have c4:=cell_of H1.out 4
 obtain ⟨q0,q1,q2,q3,q4,q5,q6,q7,q8,q9,q10,q11,qz,qlt,qlt2⟩:=cellsF HF.out
 have x0:=cell_of HX.out 0
 have x1:=cell_of HX.out 1
 have x2:=cell_of HX.out 2
 have xz:=frozen_of HX.out
 go_wp2
 go_region
 go_wp2
 generalize hW:World.setCell _ _ _=W
 obtain ⟨HF9,HX9,K9⟩:W.heap[w.heap.size]?=some (.cells #[.int .i64 0,.int .i64 0,.int .i64 0,.slice none 0 0,.int .i64 0,.int .u32 0,.int .i64 0,.int .i64 0,.int .i64 0,.bool false,.int .i64 0,.slice none 0 0] 49)∧W.heap[w.heap.size+1]?=some (.cells #[.bool true,.int .i64 xs,.int .i64 xc] 64)∧Kp [w.heap.size,w.heap.size+1] w1 W:=by rw [← hW]; exact set15 (by omega) HF.out HX.out
 exact bodyPost_ret (v:=.tuple #[.agg #[.int .i64 0,.int .i64 0,.int .i64 0,.slice none 0 0,.int .i64 0,.int .u32 0,.int .i64 0,.int .i64 0,.int .i64 0,.bool false,.int .i64 0,.slice none 0 0],.bool false,.agg #[.bool true,.int .i64 xs,.int .i64 xc]]) (by simp [results,Try.results114,go_sem,cell_of HF9,cell_of HX9]) rfl ⟨rfl,(K1.then K9 (by intro t ht; simp at ht; right; omega)).drew⟩
end Go.Proofs.Ytkmcakneceagpaa

namespace Go.Proofs.Ytkmcakneceagpaa
open Go.RowKit
def NextQ (most:Int) (g:Nat) (D:List Nat) (xs xc:Int) (l:List UInt8) (w:World) (e:Ending) (w':World):Prop :=
 ∃ l' D',Skip most l l'∧(∀ t,t∈D'→t∈D∨w.heap.size≤t)∧(∀ t,t∈D'→t < w'.heap.size)∧Kp [g] w w' ∧
  (((ps l' most).err≠0∧e=.returned (.tuple #[.agg #[.int .i64 0,.int .i64 0,.int .i64 0,.slice none 0 0,.int .i64 0,.int .u32 0,.int .i64 0,.int .i64 0,.int .i64 0,.bool false,.int .i64 0,.slice none 0 0],.bool false,.agg #[.bool false,.int .i64 0,.int .i64 0]])∧RqS w' g D' most false xs xc l') ∨
   ((ps l' most).err=0∧(ps l' most).is=true∧(ps l' most).xst=0∧e=.returned (.tuple #[.agg #[.int .i64 0,.int .i64 0,.int .i64 0,.slice none 0 0,.int .i64 0,.int .u32 0,.int .i64 0,.int .i64 0,.int .i64 0,.bool false,.int .i64 0,.slice none 0 0],.bool false,.agg #[.bool true,.int .i64 0,.int .i64 (ps l' most).code]])∧RqS w' g D' most true 0 (ps l' most).code l') ∨
   ((ps l' most).err=0∧(ps l' most).is=true∧¬ (ps l' most).xst=0∧e=.returned (.tuple #[.agg #[.int .i64 0,.int .i64 0,.int .i64 0,.slice none 0 0,.int .i64 0,.int .u32 0,.int .i64 0,.int .i64 0,.int .i64 0,.bool false,.int .i64 0,.slice none 0 0],.bool false,.agg #[.bool true,.int .i64 (ps l' most).xst,.int .i64 (ps l' most).code]])∧RqS w' g D' most false xs xc (l'.drop (ps l' most).used.toNat)) ∨
   ((ps l' most).err=0∧(ps l' most).is=false∧known (ps l' most).f.ty=true∧∃ f:Fr,e=.returned (.tuple #[.agg #[.int .i64 f.ty,.int .i64 f.fl,.int .i64 f.st,.slice f.pA f.pn f.pc,.int .i64 f.pad,.int .u32 f.code,.int .i64 f.last,.int .i64 f.inc,.int .i64 f.dep,.bool f.only,.int .i64 f.wt,.slice f.sA f.sn f.sc],.bool true,.agg #[.bool false,.int .i64 0,.int .i64 0]])∧FrP w' w.heap.size f (ps l' most).f∧RqS w' g D' most false xs xc (l'.drop (ps l' most).used.toNat)))
def lenAtQ (w:World) (g:Nat):Nat:=(match w.cell? ⟨g,1,none⟩ with | some (.slice _ n _)=>2 * n | _=>0)+(match w.cell? ⟨g,2,none⟩ with | some (.bool false)=>1 | _=>0)
theorem RqNext (g:Nat) (D:List Nat) (w:World) (most:Int) (xs xc:Int) (l0:List UInt8) (hs:RqS w g D most false xs xc l0) (hD:∀ t,t∈D→t < w.heap.size) (hm:0≤most) (hl0:l0.length≤211106232532992):Calls Try.prog 114 #[.pointer (some ⟨g,0,none⟩)] w (NextQ most g D xs xc l0 w):=by
 obtain ⟨A0,n0,c0,hh0,ho0,hg0,hd0⟩:=hs
 have HD:=Lib.hid hD
 clear hD
 have HH0:=Lib.hid hh0
 have HO0:=Lib.hid ho0
 have hl:=lt_of_heap hh0
 clear hh0 ho0
 go_enter Try.func114,Try.ntmps114
 go_wp2
 generalize hW:World.alloc _ _=w1
 have K1:Kp [] w w1:=by rw [← hW]; with_reducible (repeat (first|exact Kp.refl _ _|assumption|refine Kp.alloc ?_ _|refine Kp.drew ?_|refine Kp.drewN ?_ _|(refine Kp.setL ?_ ?_ _;focus (simp;done))|(refine Kp.setR ?_ ?_ _;focus (first|(simp;done)|(simp;omega)))))
 have HF:=Lib.hid (show w1.heap[w.heap.size]?=some (.cells #[.int .i64 0,.int .i64 0,.int .i64 0,.slice none 0 0,.int .i64 0,.int .u32 0,.int .i64 0,.int .i64 0,.int .i64 0,.bool false,.int .i64 0,.slice none 0 0] 49) by rw [← hW]; with_reducible (repeat (first|assumption|(refine hp_new _ _ _ ?_;focus (simp;done))|refine hpl ?_|(refine hpf ?_ ?_;focus (first|(simp;done)|(simp;omega)))|refine hpd ?_|refine hpe ?_)))
 have HX:=Lib.hid (show w1.heap[w.heap.size+1]?=some (.cells #[.bool false,.int .i64 0,.int .i64 0] 64) by rw [← hW]; with_reducible (repeat (first|assumption|(refine hp_new _ _ _ ?_;focus (simp;done))|refine hpl ?_|(refine hpf ?_ ?_;focus (first|(simp;done)|(simp;omega)))|refine hpd ?_|refine hpe ?_)))
 clear hW
 have H1:=Lib.hid (K1.heap HH0.out (by simp))
 have hw1:=lt_of_heap HX.out
 go_loopw [6] (fun _ wr=>∃ l A n c is ys yc,Skip most l0 l∧wr.heap[g]?=some (.cells #[.int .i64 most,.slice A n c,.bool is,.int .i64 ys,.int .i64 yc] 162)∧Ow wr 0 5 1 A n c (l.map u8)∧g∉ob A∧(∀ t,t∈ob A→t∈D∨w1.heap.size≤t)∧l.length≤l0.length∧Kp [g] w1 wr∧((is=false∧ys=xs∧yc=xc)∨(is=true∧(ps l most).err=0∧(ps l most).is=true∧(ps l most).xst=0∧ys=0∧yc=(ps l most).code))) (fun _ wr=>lenAtQ wr g)
 case atStart=>exact ⟨l0,A0,n0,c0,false,xs,xc,.refl _,H1.out,HO0.out.keep K1 (by simp),hg0,fun t ht=>.inl (hd0 t ht),Nat.le_refl _,Kp.refl _ _,.inl ⟨rfl,rfl,rfl⟩⟩
 case round =>
  obtain ⟨l,A,n,c,is,ys,yc,hsk,hh,ho,hgA,hrb,hll,KT,hst⟩:=hrel
  have HF1:=Lib.hid (KT.heap HF.out (by simp; omega))
  have HX1:=Lib.hid (KT.heap HX.out (by simp; omega))
  have HKT:=Lib.hid ((K1.nil (S:=[g])).trans KT)
  have HKT1:=Lib.hid KT
  have HH:=Lib.hid hh
  have HHr:=Lib.hid hh
  have HO:=Lib.hid ho
  have HSK:=Lib.hid hsk
  have HRB:=Lib.hid hrb
  have hln:l.length=n:=by have:=ho.len; simpa using this
  have c2:=cell_of hh 2
  have c3:=cell_of hh 3
  have c4:=cell_of hh 4
  have cl:=lt_of_heap hh
  have hsw:=KT.size
  clear hh ho hsk hrb KT
  rcases hst with ⟨rfl,rfl,rfl⟩ | ⟨rfl,he,hi,hx,rfl,rfl⟩
  ·obtain ⟨⟨rf,rused,ris,rst,rcode,rerr⟩,hps⟩:∃ r,ps l most=r:=⟨_,rfl⟩
   have HZZ:=Lib.hid (show rf.ss≠[]→rf.pad=0∧rf.code=0 by have:=ps_zz l most; rw [hps] at this; exact this)
   have HPS:=Lib.hid hps
   clear hps
   go_wp2
   refine wp_region_st4 (by kernel_rfl) [fun _ v _=>v=(.pointer (some ⟨g,0,none⟩)),
     fun _ v _=>v=(.pointer (some ⟨g,0,none⟩)),
     fun _ v _=>v=(.pointer (some ⟨g,1,none⟩)),
     fun _ v _=>v=(.slice A n c),
     fun _ v _=>v=(.pointer (some ⟨g,0,none⟩)),
     fun _ v _=>v=(.pointer (some ⟨g,0,none⟩)),
     fun _ v _=>v=(.pointer (some ⟨g,0,none⟩)),
     fun _ v _=>v=(.int .i64 most),
     fun p v w=>∃ x:Fr,v=.tuple #[.agg #[.int .i64 x.ty,.int .i64 x.fl,.int .i64 x.st,.slice x.pA x.pn x.pc,.int .i64 x.pad,.int .u32 x.code,.int .i64 x.last,.int .i64 x.inc,.int .i64 x.dep,.bool x.only,.int .i64 x.wt,.slice x.sA x.sn x.sc],.int .i64 rused,.agg #[.bool ris,.int .i64 rst,.int .i64 rcode],.int .i64 rerr]∧1≤p∧(p≤3→FrP w wr.heap.size x rf),
     fun p v w=>∃ x:Fr,v=.tuple #[.agg #[.int .i64 x.ty,.int .i64 x.fl,.int .i64 x.st,.slice x.pA x.pn x.pc,.int .i64 x.pad,.int .u32 x.code,.int .i64 x.last,.int .i64 x.inc,.int .i64 x.dep,.bool x.only,.int .i64 x.wt,.slice x.sA x.sn x.sc],.int .i64 rused,.agg #[.bool ris,.int .i64 rst,.int .i64 rcode],.int .i64 rerr]∧1≤p∧(p≤3→FrP w wr.heap.size x rf),
     fun p v w=>∃ x:Fr,v=.agg #[.int .i64 x.ty,.int .i64 x.fl,.int .i64 x.st,.slice x.pA x.pn x.pc,.int .i64 x.pad,.int .u32 x.code,.int .i64 x.last,.int .i64 x.inc,.int .i64 x.dep,.bool x.only,.int .i64 x.wt,.slice x.sA x.sn x.sc]∧1≤p∧(p≤3→FrP w wr.heap.size x rf),
     fun _ v _=>v=(.int .i64 rused),
     fun _ v _=>v=(.agg #[.bool ris,.int .i64 rst,.int .i64 rcode]),
     fun _ v _=>v=(.int .i64 rerr),
     fun p v w=>∃ b:Nat,v=.pointer (some ⟨b,0,none⟩)∧wr.heap.size≤b∧(p≤1→w.heap[b]?=some (.cells #[.int .i64 0,.int .i64 0,.int .i64 0,.slice none 0 0,.int .i64 0,.int .u32 0,.int .i64 0,.int .i64 0,.int .i64 0,.bool false,.int .i64 0,.slice none 0 0] 49)),
     fun p v w=>∃ b:Nat,v=.pointer (some ⟨b,0,none⟩)∧wr.heap.size≤b∧(p≤2→w.heap[b]?=some (.cells #[.bool false,.int .i64 0,.int .i64 0] 64)),
     fun _ v _=>True,
     fun _ v _=>v=(.int .i64 rused),
     fun _ v _=>True,
     fun _ v _=>v=(.int .i64 rerr)] (fun p a w=>Kp [] wr w∧(2≤p→∃ b f,a.tmps[5]?=some (.pointer (some ⟨b,0,none⟩))∧wr.heap.size≤b∧w.heap[b]?=some (.cells #[.int .i64 f.ty,.int .i64 f.fl,.int .i64 f.st,.slice f.pA f.pn f.pc,.int .i64 f.pad,.int .u32 f.code,.int .i64 f.last,.int .i64 f.inc,.int .i64 f.dep,.bool f.only,.int .i64 f.wt,.slice f.sA f.sn f.sc] 49)∧FrP w wr.heap.size f rf)∧(3≤p→∃ b,a.tmps[7]?=some (.pointer (some ⟨b,0,none⟩))∧wr.heap.size≤b∧w.heap[b]?=some (.cells #[.bool ris,.int .i64 rst,.int .i64 rcode] 64))) (fun p w w'=>(p=0∧Kp [] w w')∨(p=1∧StF rf w w')∨(p=2∧StX w w')) (fun w w'=>Kp [] w w') [8,16,18] [14,15] (by kernel_rfl) (by kernel_rfl) (by kernel_rfl) [5,7] (fun k a a' w ht h=>by have e6:=ht 5 (by simp); have e8:=ht 7 (by simp); rw [e6,e8]; exact h) (by kernel_rfl) (by decide) (by kernel_rfl) ⟨StabAt2.const _,StabAt2.const _,StabAt2.const _,StabAt2.const _,StabAt2.const _,StabAt2.const _,StabAt2.const _,StabAt2.const _,StabAt2.span (f:=fun x:Fr=>.tuple #[.agg #[.int .i64 x.ty,.int .i64 x.fl,.int .i64 x.st,.slice x.pA x.pn x.pc,.int .i64 x.pad,.int .u32 x.code,.int .i64 x.last,.int .i64 x.inc,.int .i64 x.dep,.bool x.only,.int .i64 x.wt,.slice x.sA x.sn x.sc],.int .i64 rused,.agg #[.bool ris,.int .i64 rst,.int .i64 rcode],.int .i64 rerr]) (by intro p x w w' h1 h2 h3 hR hG; exact FrP.rc hR hG HZZ.out) (by intro x w w' hR hG; exact hG.low hR (by simp) (Nat.le_refl _)),StabAt2.span (f:=fun x:Fr=>.tuple #[.agg #[.int .i64 x.ty,.int .i64 x.fl,.int .i64 x.st,.slice x.pA x.pn x.pc,.int .i64 x.pad,.int .u32 x.code,.int .i64 x.last,.int .i64 x.inc,.int .i64 x.dep,.bool x.only,.int .i64 x.wt,.slice x.sA x.sn x.sc],.int .i64 rused,.agg #[.bool ris,.int .i64 rst,.int .i64 rcode],.int .i64 rerr]) (by intro p x w w' h1 h2 h3 hR hG; exact FrP.rc hR hG HZZ.out) (by intro x w w' hR hG; exact hG.low hR (by simp) (Nat.le_refl _)),StabAt2.span (f:=fun x:Fr=>.agg #[.int .i64 x.ty,.int .i64 x.fl,.int .i64 x.st,.slice x.pA x.pn x.pc,.int .i64 x.pad,.int .u32 x.code,.int .i64 x.last,.int .i64 x.inc,.int .i64 x.dep,.bool x.only,.int .i64 x.wt,.slice x.sA x.sn x.sc]) (by intro p x w w' h1 h2 h3 hR hG; exact FrP.rc hR hG HZZ.out) (by intro x w w' hR hG; exact hG.low hR (by simp) (Nat.le_refl _)),StabAt2.const _,StabAt2.const _,StabAt2.const _,⟨fun p v w w' h1 h2 hR ⟨b,e,h,hz⟩=>⟨b,e,h,fun hp=>RC0 (by omega) hR (hz (by omega))⟩,fun k v w w' hR ⟨b,e,h,hz⟩=>⟨b,e,h,fun hp=>hR.heap (hz hp) (by simp)⟩⟩,⟨fun p v w w' h1 h2 hR ⟨b,e,h,hz⟩=>⟨b,e,h,fun hp=>RC1 (by omega) hR (hz (by omega))⟩,fun k v w w' hR ⟨b,e,h,hz⟩=>⟨b,e,h,fun hp=>hR.heap (hz hp) (by simp)⟩⟩,StabAt2.const _,StabAt2.const _,StabAt2.const _,StabAt2.const _,trivial⟩ (⟨(Kp.refl _ _).drew,fun h=>by omega,fun h=>by omega⟩) ⟨?_,?_,?_,?_,?_,?_,?_,?_,?_,?_,?_,?_,?_,?_,?_,?_,?_,?_,?_,?_,trivial⟩ (by kernel_rfl) ?_
   ·intro q9 a w E hC K hK
    have h0:a.tmps[0]?=some (.pointer (some ⟨g,0,none⟩)):=(E.out 0 (by kernel_rfl)).trans rfl
    refine want_none rfl ?_
    go_simp
    exact hK _ rfl
   ·intro q9 a w E hC K hK
    obtain ⟨_,h20,rfl⟩:=E.pred 0 _ 20 rfl rfl (by kernel_rfl)
    refine want_none rfl ?_
    go_simp
    exact hK _ rfl
   ·intro q9 a w E hC K hK
    obtain ⟨_,h21,rfl⟩:=E.pred 1 _ 21 rfl rfl (by kernel_rfl)
    refine want_none rfl ?_
    go_simp
    exact hK _ rfl
   ·intro q9 a w E hC K hK
    obtain ⟨_,h22,rfl⟩:=E.pred 2 _ 22 rfl rfl (by kernel_rfl)
    refine want_none rfl ?_
    have hh:=hC.1.heap HH.out (by simp)
    have h2:=cell_of hh 1
    have hl2:=lt_of_heap hh
    clear hh
    go_simp
    exact hK _ rfl
   ·intro q9 a w E hC K hK
    have h0:a.tmps[0]?=some (.pointer (some ⟨g,0,none⟩)):=(E.out 0 (by kernel_rfl)).trans rfl
    refine want_none rfl ?_
    go_simp
    exact hK _ rfl
   ·intro q9 a w E hC K hK
    obtain ⟨_,h24,rfl⟩:=E.pred 4 _ 24 rfl rfl (by kernel_rfl)
    refine want_none rfl ?_
    go_simp
    exact hK _ rfl
   ·intro q9 a w E hC K hK
    obtain ⟨_,h25,rfl⟩:=E.pred 5 _ 25 rfl rfl (by kernel_rfl)
    refine want_none rfl ?_
    go_simp
    exact hK _ rfl
   ·intro q9 a w E hC K hK
    obtain ⟨_,h26,rfl⟩:=E.pred 6 _ 26 rfl rfl (by kernel_rfl)
    refine want_none rfl ?_
    have hh:=hC.1.heap HH.out (by simp)
    have h2:=cell_of hh 0
    have hl2:=lt_of_heap hh
    clear hh
    go_simp
    exact hK _ rfl
   ·intro a w E hC K hK
    obtain ⟨_,h23,rfl⟩:=E.pred 3 _ 23 rfl rfl (by kernel_rfl)
    obtain ⟨_,h27,rfl⟩:=E.pred 7 _ 27 rfl rfl (by kernel_rfl)
    refine want_none rfl ?_
    have hrd:=HO.out.rd.keep hC.1 (by simp)
    go_simp
    refine (refParse_any A n c l most w hrd (by omega)).mono ?_
    rw [HPS.out]
    rintro e w2 ⟨f,rfl,hf,K2⟩
    dsimp only at hf
    go_simp
    exact hK _ _ ⟨f,rfl,by omega,fun _=>hf.low (Kp.refl [] w2) (by simp) hC.1.size⟩ ⟨hC.1.trans K2,fun h=>by omega,fun h=>by omega⟩ (.inl ⟨rfl,K2⟩)
   ·intro q9 a w E hC K hK
    obtain ⟨v8,h28,V8⟩:=E.pred 8 _ 28 rfl rfl (by kernel_rfl)
    replace V8:(fun p v w=>∃ x:Fr,v=.tuple #[.agg #[.int .i64 x.ty,.int .i64 x.fl,.int .i64 x.st,.slice x.pA x.pn x.pc,.int .i64 x.pad,.int .u32 x.code,.int .i64 x.last,.int .i64 x.inc,.int .i64 x.dep,.bool x.only,.int .i64 x.wt,.slice x.sA x.sn x.sc],.int .i64 rused,.agg #[.bool ris,.int .i64 rst,.int .i64 rcode],.int .i64 rerr]∧1≤p∧(p≤3→FrP w wr.heap.size x rf)) q9 v8 w:=V8
    obtain ⟨x8,rfl,hl8,hG8⟩:=V8
    refine want_none rfl ?_
    go_simp
    exact hK _ ⟨x8,rfl,hl8,hG8⟩
   ·intro q9 a w E hC K hK
    obtain ⟨v9,h19,V9⟩:=E.pred 9 _ 19 rfl rfl (by kernel_rfl)
    replace V9:(fun p v w=>∃ x:Fr,v=.tuple #[.agg #[.int .i64 x.ty,.int .i64 x.fl,.int .i64 x.st,.slice x.pA x.pn x.pc,.int .i64 x.pad,.int .u32 x.code,.int .i64 x.last,.int .i64 x.inc,.int .i64 x.dep,.bool x.only,.int .i64 x.wt,.slice x.sA x.sn x.sc],.int .i64 rused,.agg #[.bool ris,.int .i64 rst,.int .i64 rcode],.int .i64 rerr]∧1≤p∧(p≤3→FrP w wr.heap.size x rf)) q9 v9 w:=V9
    obtain ⟨x9,rfl,hl9,hG9⟩:=V9
    refine want_none rfl ?_
    go_simp
    exact hK _ ⟨x9,rfl,hl9,hG9⟩
   ·intro q9 a w E hC K hK
    obtain ⟨v9,h19,V9⟩:=E.pred 9 _ 19 rfl rfl (by kernel_rfl)
    replace V9:(fun p v w=>∃ x:Fr,v=.tuple #[.agg #[.int .i64 x.ty,.int .i64 x.fl,.int .i64 x.st,.slice x.pA x.pn x.pc,.int .i64 x.pad,.int .u32 x.code,.int .i64 x.last,.int .i64 x.inc,.int .i64 x.dep,.bool x.only,.int .i64 x.wt,.slice x.sA x.sn x.sc],.int .i64 rused,.agg #[.bool ris,.int .i64 rst,.int .i64 rcode],.int .i64 rerr]∧1≤p∧(p≤3→FrP w wr.heap.size x rf)) q9 v9 w:=V9
    obtain ⟨x9,rfl,hl9,hG9⟩:=V9
    refine want_none rfl ?_
    go_simp
    exact hK _ rfl
   ·intro q9 a w E hC K hK
    obtain ⟨v9,h19,V9⟩:=E.pred 9 _ 19 rfl rfl (by kernel_rfl)
    replace V9:(fun p v w=>∃ x:Fr,v=.tuple #[.agg #[.int .i64 x.ty,.int .i64 x.fl,.int .i64 x.st,.slice x.pA x.pn x.pc,.int .i64 x.pad,.int .u32 x.code,.int .i64 x.last,.int .i64 x.inc,.int .i64 x.dep,.bool x.only,.int .i64 x.wt,.slice x.sA x.sn x.sc],.int .i64 rused,.agg #[.bool ris,.int .i64 rst,.int .i64 rcode],.int .i64 rerr]∧1≤p∧(p≤3→FrP w wr.heap.size x rf)) q9 v9 w:=V9
    obtain ⟨x9,rfl,hl9,hG9⟩:=V9
    refine want_none rfl ?_
    go_simp
    exact hK _ rfl
   ·intro q9 a w E hC K hK
    obtain ⟨v9,h19,V9⟩:=E.pred 9 _ 19 rfl rfl (by kernel_rfl)
    replace V9:(fun p v w=>∃ x:Fr,v=.tuple #[.agg #[.int .i64 x.ty,.int .i64 x.fl,.int .i64 x.st,.slice x.pA x.pn x.pc,.int .i64 x.pad,.int .u32 x.code,.int .i64 x.last,.int .i64 x.inc,.int .i64 x.dep,.bool x.only,.int .i64 x.wt,.slice x.sA x.sn x.sc],.int .i64 rused,.agg #[.bool ris,.int .i64 rst,.int .i64 rcode],.int .i64 rerr]∧1≤p∧(p≤3→FrP w wr.heap.size x rf)) q9 v9 w:=V9
    obtain ⟨x9,rfl,hl9,hG9⟩:=V9
    refine want_none rfl ?_
    go_simp
    exact hK _ rfl
   ·intro q9 a w E hC K hK
    refine want_none rfl ?_
    have hk:=E.lim 1 16 _ rfl rfl (by kernel_rfl)
    go_simp
    exact hK _ _ ⟨w.heap.size,rfl,hC.1.size,fun _=>hp_new _ _ _ rfl⟩ ⟨hC.1.alloc _,fun h=>by omega,fun h=>by omega⟩ ((Kp.refl [] w).alloc _)
   ·intro q9 a w E hC K hK
    refine want_none rfl ?_
    have hk:=E.lim 1 16 _ rfl rfl (by kernel_rfl)
    go_simp
    exact hK _ _ ⟨w.heap.size,rfl,hC.1.size,fun _=>hp_new _ _ _ rfl⟩ ⟨hC.1.alloc _,fun h=>by omega,fun h=>by omega⟩ ((Kp.refl [] w).alloc _)
   ·intro a w E hC K hK
    obtain ⟨v14,h5,V14⟩:=E.pred 14 _ 5 rfl rfl (by kernel_rfl)
    replace V14:(fun p v w=>∃ b:Nat,v=.pointer (some ⟨b,0,none⟩)∧wr.heap.size≤b∧(p≤1→w.heap[b]?=some (.cells #[.int .i64 0,.int .i64 0,.int .i64 0,.slice none 0 0,.int .i64 0,.int .u32 0,.int .i64 0,.int .i64 0,.int .i64 0,.bool false,.int .i64 0,.slice none 0 0] 49))) 1 v14 w:=V14
    obtain ⟨b14,rfl,hl14,hG14⟩:=V14
    obtain ⟨v10,h29,V10⟩:=E.pred 10 _ 29 rfl rfl (by kernel_rfl)
    replace V10:(fun p v w=>∃ x:Fr,v=.agg #[.int .i64 x.ty,.int .i64 x.fl,.int .i64 x.st,.slice x.pA x.pn x.pc,.int .i64 x.pad,.int .u32 x.code,.int .i64 x.last,.int .i64 x.inc,.int .i64 x.dep,.bool x.only,.int .i64 x.wt,.slice x.sA x.sn x.sc]∧1≤p∧(p≤3→FrP w wr.heap.size x rf)) 1 v10 w:=V10
    obtain ⟨x10,rfl,hl10,hG10⟩:=V10
    refine want_none rfl ?_
    have hz:=hG14 (by omega)
    have HZ:=Lib.hid hz
    have HF10:=Lib.hid (hG10 (by omega))
    obtain ⟨q0,q1,q2,q3,q4,q5,q6,q7,q8,q9,q10,q11,qz,qlt,qlt2⟩:=cellsF hz
    clear hz hG10 hG14
    go_simp
    generalize hW:World.setCell _ _ _=w2
    obtain ⟨hs1,hs2⟩:w2.heap[b14]?=some (.cells #[.int .i64 x10.ty,.int .i64 x10.fl,.int .i64 x10.st,.slice x10.pA x10.pn x10.pc,.int .i64 x10.pad,.int .u32 x10.code,.int .i64 x10.last,.int .i64 x10.inc,.int .i64 x10.dep,.bool x10.only,.int .i64 x10.wt,.slice x10.sA x10.sn x10.sc] 49)∧Kp [b14] w w2:=by rw [← hW]; exact set12 HZ.out
    have hst:StF rf w w2:=⟨b14,x10,HZ.out,hs1,hs2,HF10.out.cs.2.2.2.1,HF10.out.cs.2.2.2.2.1⟩
    exact hK undef _ trivial ⟨hC.1.then hs2 (by simp; omega),fun _=>⟨b14,x10,h5,hl14,hs1,HF10.out.stF hst HZZ.out⟩,fun h=>by omega⟩ (.inr (.inl ⟨rfl,hst⟩))
   ·intro q9 a w E hC K hK
    obtain ⟨_,h30,rfl⟩:=E.pred 11 _ 30 rfl rfl (by kernel_rfl)
    refine want_none rfl ?_
    go_simp
    exact hK _ rfl
   ·intro a w E hC K hK
    obtain ⟨v15,h7,V15⟩:=E.pred 15 _ 7 rfl rfl (by kernel_rfl)
    replace V15:(fun p v w=>∃ b:Nat,v=.pointer (some ⟨b,0,none⟩)∧wr.heap.size≤b∧(p≤2→w.heap[b]?=some (.cells #[.bool false,.int .i64 0,.int .i64 0] 64))) 2 v15 w:=V15
    obtain ⟨b15,rfl,hl15,hG15⟩:=V15
    obtain ⟨_,h31,rfl⟩:=E.pred 12 _ 31 rfl rfl (by kernel_rfl)
    refine want_none rfl ?_
    have hz:=hG15 (by omega)
    have HZ:=Lib.hid hz
    have x0:=cell_of hz 0
    have x1:=cell_of hz 1
    have x2:=cell_of hz 2
    have xz:=frozen_of hz
    have xl:=lt_of_heap hz
    have HC2:=Lib.hid (hC.2.1 (by omega))
    clear hz hG15
    go_simp
    generalize hW:World.setCell _ _ _=w2
    obtain ⟨hs1,hs2⟩:w2.heap[b15]?=some (.cells #[.bool ris,.int .i64 rst,.int .i64 rcode] 64)∧Kp [b15] w w2:=by rw [← hW]; exact set3 HZ.out
    have hst:StX w w2:=⟨b15,HZ.out,hs2⟩
    exact hK undef _ trivial ⟨hC.1.then hs2 (by simp; omega),fun _=>by obtain ⟨b,f,e6,hb,hf,hp⟩:=HC2.out; exact ⟨b,f,e6,hb,hs2.heap hf (by intro h; simp at h; subst h; have:=hf.symm.trans HZ.out; simp at this),hp.stX hst⟩,fun _=>⟨b15,h7,hl15,hs1⟩⟩ (.inr (.inr ⟨rfl,hst⟩))
   ·intro q9 a w E hC K hK
    obtain ⟨_,h32,rfl⟩:=E.pred 13 _ 32 rfl rfl (by kernel_rfl)
    refine want_none rfl ?_
    go_simp
    exact hK _ rfl
   intro vs w8 hC hV
   obtain ⟨b6,f6,e6,hb6,hf6,hp6⟩:=hC.2.1 (by simp)
   obtain ⟨b8,e8,hb8,hf8⟩:=hC.2.2 (by simp)
   have h17:vs 17=.int .i64 rused:=hV 17 _ rfl (by simp)
   have h19:vs 19=.int .i64 rerr:=hV 19 _ rfl (by simp)
   obtain ⟨c14,h14,_⟩:=hV 14 _ rfl (by simp)
   obtain ⟨c15,h15,_⟩:=hV 15 _ rfl (by simp)
   have KK:=hC.1
   have HH8:=Lib.hid (KK.heap HH.out (by simp))
   have HF8:=Lib.hid (KK.heap HF1.out (by simp))
   have HX8:=Lib.hid (KK.heap HX1.out (by simp))
   have HO8:=Lib.hid (HO.out.keep KK (by simp))
   have HG8:=Lib.hid hf6
   have HP8:=Lib.hid hp6
   have HY8:=Lib.hid hf8
   have HK8:=Lib.hid (HKT.out.trans KK.nil)
   have HK81:=Lib.hid (HKT1.out.trans KK.nil)
   have hsz8:=KK.size
   simp only [putAll,Act.put,List.setIfInBounds_toArray]
   dsimp only [List.set]
   simp only [putAll,Act.put,List.setIfInBounds_toArray] at e6 e8
   dsimp only [List.set] at e6 e8
   rw [h14] at e6
   rw [h15] at e8
   have e14:Value.pointer (some ⟨c14,0,none⟩)=.pointer (some ⟨b6,0,none⟩):=Option.some.inj e6
   have e15:Value.pointer (some ⟨c15,0,none⟩)=.pointer (some ⟨b8,0,none⟩):=Option.some.inj e8
   rw [h14,h15,h17,h19,e14,e15]
   clear hV hC e6 e8 e14 e15 h14 h15 h17 h19 hf6 hf8 hp6 HH HF1 HX1 HO c2 c3 c4 cl
   have HDN:=Lib.hid (show ∀ t,t∈ob A→t < w.heap.size∨w1.heap.size≤t from fun t ht=>(HRB.out t ht).imp (fun h=>HD.out t h) id)
   have HDQ:=Lib.hid (show ∀ t,t∈ob A→t∈D∨w.heap.size≤t from fun t ht=>(HRB.out t ht).imp id (fun h=>by omega))
   by_cases herr:rerr=0
   ·subst herr
    have hpu:=ps_used l most (by rw [HPS.out])
    rw [HPS.out] at hpu
    dsimp only at hpu
    obtain ⟨g0,g1,g2,g3,g4,g5,g6,g7,g8,g9,g10,g11,gz,glt,glt2⟩:=cellsF HG8.out
    have y0:=cell_of HY8.out 0
    have y1:=cell_of HY8.out 1
    have y2:=cell_of HY8.out 2
    have yz:=frozen_of HY8.out
    have yl:=lt_of_heap HY8.out
    obtain ⟨q0,q1,q2,q3,q4,q5,q6,q7,q8,q9,q10,q11,qz,qlt,qlt2⟩:=cellsF HF8.out
    have x0:=cell_of HX8.out 0
    have x1:=cell_of HX8.out 1
    have x2:=cell_of HX8.out 2
    have xz:=frozen_of HX8.out
    have r1:=cell_of HH8.out 1
    have r2:=cell_of HH8.out 2
    have r3:=cell_of HH8.out 3
    have r4:=cell_of HH8.out 4
    have rz:=frozen_of HH8.out
    have rl:=lt_of_heap HH8.out
    rcases bcase3 ris with his | his
    ·subst his
     have hpu2:9≤rused∧rused≤(l.length:Int):=by rcases hpu with ⟨h,_⟩ | h; cases h; exact h
     clear hpu
     obtain ⟨U,rfl⟩:=Int.eq_ofNat_of_zero_le (show 0≤rused by omega)
     obtain ⟨ga,rfl,hga1,hga2,_,_,_⟩:=HO8.out.of (by omega)
     have hcpn:=HO8.out.cap.1
     by_cases hcu:c=U
     ·subst hcu
      obtain rfl:n=c:=by omega
      have k0:Kp [] w8 (w8.alloc (.cells #[] 5)):=(Kp.refl _ _).alloc _
      have hrs:=(HO8.out.rd.keep k0 (by simp)).sub n n (by omega) (Nat.le_refl _) (A':=(some ⟨ga,0,none⟩)) (by intro b' o' h1 h2; omega)
      rw [List.take_of_length_le (by simp; omega)] at hrs
      rw [Nat.sub_self] at hrs
      go_wp2_with (with_reducible refine stopAt (o:=⟨some 56,_,_,_,_,_⟩) ?_)
      refine Stop.go (wp_appB rfl _ _ 22 5 rfl Try.underlying22 Try.info5 w8.heap.size _ 0 0 [] rfl (Ow.empty w8 w8.heap.size 5 1 (Nat.le_refl _)) _ _ _ (l.drop n) rfl hrs (by omega) (by simp) ?_)
      intro A9 n9 c9 l9 w9 hn9 hl9 O9 K9a hA9
      have K89:=k0.then K9a (by simp [ob])
      have e9:l9=l.drop n:=by rw [hl9.out]; rfl
      rw [e9] at O9
      have hn9b:n9 < n:=by have:=hn9.out; omega
      have HO9:=Lib.hid O9
      have HH9:=Lib.hid (K89.heap HH8.out (by simp))
      have HG9:=Lib.hid (K89.heap HG8.out (by simp))
      have HY9:=Lib.hid (K89.heap HY8.out (by simp))
      have HFs9:=Lib.hid (K89.heap HF8.out (by simp))
      have HXs9:=Lib.hid (K89.heap HX8.out (by simp))
      have HP9:=Lib.hid (HP8.out.low K89 (by simp) (Nat.le_refl _))
      have HKK9:=Lib.hid (HK8.out.trans K89.nil)
      have HKK91:=Lib.hid (HK81.out.trans K89.nil)
      have hs89:=K89.size
      clear k0 hrs hn9 hl9 O9 K9a e9 hA9 K89 g0 g1 g2 g3 g4 g5 g6 g7 g8 g9 g10 g11 gz glt glt2 y0 y1 y2 yz yl q0 q1 q2 q3 q4 q5 q6 q7 q8 q9 q10 q11 qz qlt qlt2 x0 x1 x2 xz r1 r2 r3 r4 rz rl
      obtain ⟨g0,g1,g2,g3,g4,g5,g6,g7,g8,g9,g10,g11,gz,glt,glt2⟩:=cellsF HG9.out
      have y0:=cell_of HY9.out 0
      have y1:=cell_of HY9.out 1
      have y2:=cell_of HY9.out 2
      have yz:=frozen_of HY9.out
      have yl:=lt_of_heap HY9.out
      obtain ⟨q0,q1,q2,q3,q4,q5,q6,q7,q8,q9,q10,q11,qz,qlt,qlt2⟩:=cellsF HFs9.out
      have x0:=cell_of HXs9.out 0
      have x1:=cell_of HXs9.out 1
      have x2:=cell_of HXs9.out 2
      have xz:=frozen_of HXs9.out
      have r1:=cell_of HH9.out 1
      have r2:=cell_of HH9.out 2
      have r3:=cell_of HH9.out 3
      have r4:=cell_of HH9.out 4
      have rz:=frozen_of HH9.out
      have rl:=lt_of_heap HH9.out
      go_wp2_with fail
      generalize hW:World.setCell _ _ _=wX
      have KX:Kp [g] w9 wX:=by rw [← hW]; exact (Kp.refl _ _).setCell (.inl (by simp)) _
      have HHX:=Lib.hid (show wX.heap[g]?=some (.cells #[.int .i64 most,.slice A9 n9 c9,.bool false,.int .i64 ys,.int .i64 yc] 162) by rw [← hW]; exact hp_set _ _ _ _ _ _ HH9.out)
      have HGX:=Lib.hid (KX.heap HG9.out (by simp; omega))
      have HYX:=Lib.hid (KX.heap HY9.out (by simp; omega))
      have HFX:=Lib.hid (KX.heap HFs9.out (by simp; omega))
      have HXX:=Lib.hid (KX.heap HXs9.out (by simp; omega))
      have HOB:=HO9.out.base
      have hg9:g∉ob A9:=by intro h; have:=(HOB g h).1; omega
      have HOX:=Lib.hid ((HO9.out.keep KX (by intro t h1 h2; simp at h2; subst h2; exact hg9 h1)).mono (Nat.zero_le _))
      have HPX:=Lib.hid (HP9.out.low KX (by simp; omega) (Nat.le_refl _))
      have HKX:=Lib.hid (HKK9.out.trans KX)
      have HKX1:=Lib.hid (HKK91.out.trans KX)
      have hsX:=KX.size
      have HDN9:=Lib.hid (show ∀ t,t∈ob A9→t < w.heap.size∨w1.heap.size≤t from fun t ht=>.inr (by have:=(HOB t ht).1; omega))
      have HRB9:=Lib.hid (show ∀ t,t∈ob A9→t∈D∨w1.heap.size≤t from fun t ht=>.inr (by have:=(HOB t ht).1; omega))
      have HDQ9:=Lib.hid (show ∀ t,t∈ob A9→t∈D∨w.heap.size≤t from fun t ht=>.inr (by have:=(HOB t ht).1; omega))
      clear hW KX HOB HH9 HG9 HY9 HFs9 HXs9 HP9 HKK9 HKK91 HO9 g0 g1 g2 g3 g4 g5 g6 g7 g8 g9 g10 g11 gz glt glt2 y0 y1 y2 yz yl q0 q1 q2 q3 q4 q5 q6 q7 q8 q9 q10 q11 qz qlt qlt2 x0 x1 x2 xz r1 r2 r3 r4 rz rl
      obtain ⟨g0,g1,g2,g3,g4,g5,g6,g7,g8,g9,g10,g11,gz,glt,glt2⟩:=cellsF HGX.out
      have y0:=cell_of HYX.out 0
      have y1:=cell_of HYX.out 1
      have y2:=cell_of HYX.out 2
      have yz:=frozen_of HYX.out
      have yl:=lt_of_heap HYX.out
      obtain ⟨q0,q1,q2,q3,q4,q5,q6,q7,q8,q9,q10,q11,qz,qlt,qlt2⟩:=cellsF HFX.out
      have x0:=cell_of HXX.out 0
      have x1:=cell_of HXX.out 1
      have x2:=cell_of HXX.out 2
      have xz:=frozen_of HXX.out
      have r1:=cell_of HHX.out 1
      have r2:=cell_of HHX.out 2
      have r3:=cell_of HHX.out 3
      have r4:=cell_of HHX.out 4
      have rz:=frozen_of HHX.out
      have rl:=lt_of_heap HHX.out
      refine (refKnown_any f6.ty _).mono ?_
      rintro e w10 ⟨rfl,rfl⟩
      have hty:f6.ty=rf.ty:=HPX.out.cs.1
      rcases bcase3 (knownB f6.ty) with hkn | hkn
      ·rw [hkn]
       have HKN:=Lib.hid (show known rf.ty=false by rw [← hty]; exact hkn)
       clear hkn hty
       go_wp2
       go_roundw
       case rel=>exact ⟨l.drop n,A9,n9,c9,false,ys,yc,HSK.out.trans (.step (by rw [HPS.out]) (by rw [HPS.out]) (by rw [HPS.out]; exact HKN.out) (by rw [HPS.out]; exact .refl _)),HHX.out,HOX.out,hg9,HRB9.out,by simp; omega,HKX1.out,.inl ⟨rfl,rfl,rfl⟩⟩
       case measure =>
        unfold lenAtQ
        rw [cell_of HHX.out 1,cell_of HHX.out 2,cell_of HHr.out 1,cell_of HHr.out 2]
        show 2 * n9+1 < 2 * n+1
        omega
      ·rw [hkn]
       have HKN:=Lib.hid (show known rf.ty=true by rw [← hty]; exact hkn)
       clear hkn hty
       go_wp2
       generalize hW:World.setCell _ _ _=W
       obtain ⟨HF9,HX9,K9⟩:W.heap[w.heap.size]?=some (.cells #[.int .i64 f6.ty,.int .i64 f6.fl,.int .i64 f6.st,.slice f6.pA f6.pn f6.pc,.int .i64 f6.pad,.int .u32 f6.code,.int .i64 f6.last,.int .i64 f6.inc,.int .i64 f6.dep,.bool f6.only,.int .i64 f6.wt,.slice f6.sA f6.sn f6.sc] 49)∧W.heap[w.heap.size+1]?=some (.cells #[.bool false,.int .i64 0,.int .i64 0] 64)∧Kp [w.heap.size,w.heap.size+1] wX W:=by rw [← hW]; exact set15 (by omega) HFX.out HXX.out
       refine bodyPost_ret (v:=.tuple #[.agg #[.int .i64 f6.ty,.int .i64 f6.fl,.int .i64 f6.st,.slice f6.pA f6.pn f6.pc,.int .i64 f6.pad,.int .u32 f6.code,.int .i64 f6.last,.int .i64 f6.inc,.int .i64 f6.dep,.bool f6.only,.int .i64 f6.wt,.slice f6.sA f6.sn f6.sc],.bool true,.agg #[.bool false,.int .i64 0,.int .i64 0]]) (by simp [results,Try.results114,go_sem,cell_of HF9,cell_of HX9]) rfl ⟨l,ob A9,HSK.out,HDQ9.out,fun t ht=>Nat.lt_of_lt_of_le (HOX.out.base t ht).2 K9.size,(HKX.out.then K9 (by intro t ht; simp at ht; right; omega)),?_⟩
       rw [HPS.out]
       exact .inr (.inr (.inr ⟨rfl,rfl,HKN.out,f6,rfl,HPX.out.low K9 (by simp; omega) (by omega),⟨A9,n9,c9,K9.heap HHX.out (by simp; omega),(HOX.out.keep K9 (by intro t h1 h2; have:=HDN9.out t h1; simp at h2; omega)),hg9,fun t h=>h⟩⟩))
     ·have k0:Kp [] w8 (w8.alloc (.cells #[] 5)):=(Kp.refl _ _).alloc _
      have hrs:=(HO8.out.rd.keep k0 (by simp)).sub U n (by omega) (Nat.le_refl _) (A':=(some ⟨ga,U,none⟩)) (by intro b' o' h1 h2; injection h1 with h1; injection h1 with h1 h3 _; rw [h1,← h3,Nat.zero_add])
      rw [List.take_of_length_le (by simp; omega)] at hrs
      have i1:(U:Int)≤(n:Int):=by omega
      have i2:(n:Int)≤(c:Int):=by omega
      have i3:¬ (c:Int)=(U:Int):=by omega
      have i4:¬ (U:Int)=(c:Int):=by omega
      go_wp2_with (with_reducible refine stopAt (o:=⟨some 56,_,_,_,_,_⟩) ?_)
      refine Stop.go (wp_appB rfl _ _ 22 5 rfl Try.underlying22 Try.info5 w8.heap.size _ 0 0 [] rfl (Ow.empty w8 w8.heap.size 5 1 (Nat.le_refl _)) _ _ _ (l.drop U) rfl hrs (by omega) (by simp) ?_)
      intro A9 n9 c9 l9 w9 hn9 hl9 O9 K9a hA9
      have K89:=k0.then K9a (by simp [ob])
      have e9:l9=l.drop U:=by rw [hl9.out]; rfl
      rw [e9] at O9
      have hn9b:n9 < n:=by have:=hn9.out; omega
      have HO9:=Lib.hid O9
      have HH9:=Lib.hid (K89.heap HH8.out (by simp))
      have HG9:=Lib.hid (K89.heap HG8.out (by simp))
      have HY9:=Lib.hid (K89.heap HY8.out (by simp))
      have HFs9:=Lib.hid (K89.heap HF8.out (by simp))
      have HXs9:=Lib.hid (K89.heap HX8.out (by simp))
      have HP9:=Lib.hid (HP8.out.low K89 (by simp) (Nat.le_refl _))
      have HKK9:=Lib.hid (HK8.out.trans K89.nil)
      have HKK91:=Lib.hid (HK81.out.trans K89.nil)
      have hs89:=K89.size
      clear k0 hrs hn9 hl9 O9 K9a e9 hA9 K89 g0 g1 g2 g3 g4 g5 g6 g7 g8 g9 g10 g11 gz glt glt2 y0 y1 y2 yz yl q0 q1 q2 q3 q4 q5 q6 q7 q8 q9 q10 q11 qz qlt qlt2 x0 x1 x2 xz r1 r2 r3 r4 rz rl
      obtain ⟨g0,g1,g2,g3,g4,g5,g6,g7,g8,g9,g10,g11,gz,glt,glt2⟩:=cellsF HG9.out
      have y0:=cell_of HY9.out 0
      have y1:=cell_of HY9.out 1
      have y2:=cell_of HY9.out 2
      have yz:=frozen_of HY9.out
      have yl:=lt_of_heap HY9.out
      obtain ⟨q0,q1,q2,q3,q4,q5,q6,q7,q8,q9,q10,q11,qz,qlt,qlt2⟩:=cellsF HFs9.out
      have x0:=cell_of HXs9.out 0
      have x1:=cell_of HXs9.out 1
      have x2:=cell_of HXs9.out 2
      have xz:=frozen_of HXs9.out
      have r1:=cell_of HH9.out 1
      have r2:=cell_of HH9.out 2
      have r3:=cell_of HH9.out 3
      have r4:=cell_of HH9.out 4
      have rz:=frozen_of HH9.out
      have rl:=lt_of_heap HH9.out
      go_wp2_with fail
      generalize hW:World.setCell _ _ _=wX
      have KX:Kp [g] w9 wX:=by rw [← hW]; exact (Kp.refl _ _).setCell (.inl (by simp)) _
      have HHX:=Lib.hid (show wX.heap[g]?=some (.cells #[.int .i64 most,.slice A9 n9 c9,.bool false,.int .i64 ys,.int .i64 yc] 162) by rw [← hW]; exact hp_set _ _ _ _ _ _ HH9.out)
      have HGX:=Lib.hid (KX.heap HG9.out (by simp; omega))
      have HYX:=Lib.hid (KX.heap HY9.out (by simp; omega))
      have HFX:=Lib.hid (KX.heap HFs9.out (by simp; omega))
      have HXX:=Lib.hid (KX.heap HXs9.out (by simp; omega))
      have HOB:=HO9.out.base
      have hg9:g∉ob A9:=by intro h; have:=(HOB g h).1; omega
      have HOX:=Lib.hid ((HO9.out.keep KX (by intro t h1 h2; simp at h2; subst h2; exact hg9 h1)).mono (Nat.zero_le _))
      have HPX:=Lib.hid (HP9.out.low KX (by simp; omega) (Nat.le_refl _))
      have HKX:=Lib.hid (HKK9.out.trans KX)
      have HKX1:=Lib.hid (HKK91.out.trans KX)
      have hsX:=KX.size
      have HDN9:=Lib.hid (show ∀ t,t∈ob A9→t < w.heap.size∨w1.heap.size≤t from fun t ht=>.inr (by have:=(HOB t ht).1; omega))
      have HRB9:=Lib.hid (show ∀ t,t∈ob A9→t∈D∨w1.heap.size≤t from fun t ht=>.inr (by have:=(HOB t ht).1; omega))
      have HDQ9:=Lib.hid (show ∀ t,t∈ob A9→t∈D∨w.heap.size≤t from fun t ht=>.inr (by have:=(HOB t ht).1; omega))
      clear hW KX HOB HH9 HG9 HY9 HFs9 HXs9 HP9 HKK9 HKK91 HO9 g0 g1 g2 g3 g4 g5 g6 g7 g8 g9 g10 g11 gz glt glt2 y0 y1 y2 yz yl q0 q1 q2 q3 q4 q5 q6 q7 q8 q9 q10 q11 qz qlt qlt2 x0 x1 x2 xz r1 r2 r3 r4 rz rl
      obtain ⟨g0,g1,g2,g3,g4,g5,g6,g7,g8,g9,g10,g11,gz,glt,glt2⟩:=cellsF HGX.out
      have y0:=cell_of HYX.out 0
      have y1:=cell_of HYX.out 1
      have y2:=cell_of HYX.out 2
      have yz:=frozen_of HYX.out
      have yl:=lt_of_heap HYX.out
      obtain ⟨q0,q1,q2,q3,q4,q5,q6,q7,q8,q9,q10,q11,qz,qlt,qlt2⟩:=cellsF HFX.out
      have x0:=cell_of HXX.out 0
      have x1:=cell_of HXX.out 1
      have x2:=cell_of HXX.out 2
      have xz:=frozen_of HXX.out
      have r1:=cell_of HHX.out 1
      have r2:=cell_of HHX.out 2
      have r3:=cell_of HHX.out 3
      have r4:=cell_of HHX.out 4
      have rz:=frozen_of HHX.out
      have rl:=lt_of_heap HHX.out
      refine (refKnown_any f6.ty _).mono ?_
      rintro e w10 ⟨rfl,rfl⟩
      have hty:f6.ty=rf.ty:=HPX.out.cs.1
      rcases bcase3 (knownB f6.ty) with hkn | hkn
      ·rw [hkn]
       have HKN:=Lib.hid (show known rf.ty=false by rw [← hty]; exact hkn)
       clear hkn hty
       go_wp2
       go_roundw
       case rel=>exact ⟨l.drop U,A9,n9,c9,false,ys,yc,HSK.out.trans (.step (by rw [HPS.out]) (by rw [HPS.out]) (by rw [HPS.out]; exact HKN.out) (by rw [HPS.out]; exact .refl _)),HHX.out,HOX.out,hg9,HRB9.out,by simp; omega,HKX1.out,.inl ⟨rfl,rfl,rfl⟩⟩
       case measure =>
        unfold lenAtQ
        rw [cell_of HHX.out 1,cell_of HHX.out 2,cell_of HHr.out 1,cell_of HHr.out 2]
        show 2 * n9+1 < 2 * n+1
        omega
      ·rw [hkn]
       have HKN:=Lib.hid (show known rf.ty=true by rw [← hty]; exact hkn)
       clear hkn hty
       go_wp2
       generalize hW:World.setCell _ _ _=W
       obtain ⟨HF9,HX9,K9⟩:W.heap[w.heap.size]?=some (.cells #[.int .i64 f6.ty,.int .i64 f6.fl,.int .i64 f6.st,.slice f6.pA f6.pn f6.pc,.int .i64 f6.pad,.int .u32 f6.code,.int .i64 f6.last,.int .i64 f6.inc,.int .i64 f6.dep,.bool f6.only,.int .i64 f6.wt,.slice f6.sA f6.sn f6.sc] 49)∧W.heap[w.heap.size+1]?=some (.cells #[.bool false,.int .i64 0,.int .i64 0] 64)∧Kp [w.heap.size,w.heap.size+1] wX W:=by rw [← hW]; exact set15 (by omega) HFX.out HXX.out
       refine bodyPost_ret (v:=.tuple #[.agg #[.int .i64 f6.ty,.int .i64 f6.fl,.int .i64 f6.st,.slice f6.pA f6.pn f6.pc,.int .i64 f6.pad,.int .u32 f6.code,.int .i64 f6.last,.int .i64 f6.inc,.int .i64 f6.dep,.bool f6.only,.int .i64 f6.wt,.slice f6.sA f6.sn f6.sc],.bool true,.agg #[.bool false,.int .i64 0,.int .i64 0]]) (by simp [results,Try.results114,go_sem,cell_of HF9,cell_of HX9]) rfl ⟨l,ob A9,HSK.out,HDQ9.out,fun t ht=>Nat.lt_of_lt_of_le (HOX.out.base t ht).2 K9.size,(HKX.out.then K9 (by intro t ht; simp at ht; right; omega)),?_⟩
       rw [HPS.out]
       exact .inr (.inr (.inr ⟨rfl,rfl,HKN.out,f6,rfl,HPX.out.low K9 (by simp; omega) (by omega),⟨A9,n9,c9,K9.heap HHX.out (by simp; omega),(HOX.out.keep K9 (by intro t h1 h2; have:=HDN9.out t h1; simp at h2; omega)),hg9,fun t h=>h⟩⟩))
    ·subst his
     by_cases hst:rst=0
     ·subst hst
      go_wp2
      go_roundw
      case rel =>
       have KS:Kp [g] w8 (World.setCell (World.setCell (World.setCell w8 ⟨g,2,none⟩ (.bool true)) ⟨g,3,none⟩ (.int .i64 0)) ⟨g,4,none⟩ (.int .i64 rcode)):=(((Kp.refl _ _).setCell (.inl (by simp)) _).setCell (.inl (by simp)) _).setCell (.inl (by simp)) _
       exact ⟨l,A,n,c,true,0,rcode,HSK.out,hp_set _ _ _ _ _ _ (hp_set _ _ _ _ _ _ (hp_set _ _ _ _ _ _ HH8.out)),HO8.out.keep KS (by intro t h1 h2; simp at h2; subst h2; exact hgA h1),hgA,HRB.out,hll,HK81.out.trans KS,.inr ⟨rfl,by rw [HPS.out],by rw [HPS.out],by rw [HPS.out],rfl,by rw [HPS.out]⟩⟩
      case measure =>
       have hh9:=hp_set _ _ 4 (.int .i64 rcode) _ _ (hp_set _ _ 3 (.int .i64 0) _ _ (hp_set _ _ 2 (.bool true) _ _ HH8.out))
       unfold lenAtQ
       rw [cell_of hh9 1,cell_of hh9 2,cell_of HHr.out 1,cell_of HHr.out 2]
       show 2 * n+0 < 2 * n+1
       omega
     ·have hsb:(rst == 0)=false:=by simpa using hst
      have hpu2:9≤rused∧rused≤(l.length:Int):=by rcases hpu with ⟨_,h⟩ | h; exact absurd h hst; exact h
      clear hpu
      obtain ⟨U,rfl⟩:=Int.eq_ofNat_of_zero_le (show 0≤rused by omega)
      obtain ⟨ga,rfl,hga1,hga2,_,_,_⟩:=HO8.out.of (by omega)
      have hcpn:=HO8.out.cap.1
      by_cases hcu:c=U
      ·subst hcu
       obtain rfl:n=c:=by omega
       have k0:Kp [] w8 (w8.alloc (.cells #[] 5)):=(Kp.refl _ _).alloc _
       have hrs:=(HO8.out.rd.keep k0 (by simp)).sub n n (by omega) (Nat.le_refl _) (A':=(some ⟨ga,0,none⟩)) (by intro b' o' h1 h2; omega)
       rw [List.take_of_length_le (by simp; omega)] at hrs
       rw [Nat.sub_self] at hrs
       go_wp2_with (with_reducible refine stopAt (o:=⟨some 56,_,_,_,_,_⟩) ?_)
       refine Stop.go (wp_appB rfl _ _ 22 5 rfl Try.underlying22 Try.info5 w8.heap.size _ 0 0 [] rfl (Ow.empty w8 w8.heap.size 5 1 (Nat.le_refl _)) _ _ _ (l.drop n) rfl hrs (by omega) (by simp) ?_)
       intro A9 n9 c9 l9 w9 hn9 hl9 O9 K9a hA9
       have K89:=k0.then K9a (by simp [ob])
       have e9:l9=l.drop n:=by rw [hl9.out]; rfl
       rw [e9] at O9
       have hn9b:n9 < n:=by have:=hn9.out; omega
       have HO9:=Lib.hid O9
       have HH9:=Lib.hid (K89.heap HH8.out (by simp))
       have HG9:=Lib.hid (K89.heap HG8.out (by simp))
       have HY9:=Lib.hid (K89.heap HY8.out (by simp))
       have HFs9:=Lib.hid (K89.heap HF8.out (by simp))
       have HXs9:=Lib.hid (K89.heap HX8.out (by simp))
       have HP9:=Lib.hid (HP8.out.low K89 (by simp) (Nat.le_refl _))
       have HKK9:=Lib.hid (HK8.out.trans K89.nil)
       have HKK91:=Lib.hid (HK81.out.trans K89.nil)
       have hs89:=K89.size
       clear k0 hrs hn9 hl9 O9 K9a e9 hA9 K89 g0 g1 g2 g3 g4 g5 g6 g7 g8 g9 g10 g11 gz glt glt2 y0 y1 y2 yz yl q0 q1 q2 q3 q4 q5 q6 q7 q8 q9 q10 q11 qz qlt qlt2 x0 x1 x2 xz r1 r2 r3 r4 rz rl
       obtain ⟨g0,g1,g2,g3,g4,g5,g6,g7,g8,g9,g10,g11,gz,glt,glt2⟩:=cellsF HG9.out
       have y0:=cell_of HY9.out 0
       have y1:=cell_of HY9.out 1
       have y2:=cell_of HY9.out 2
       have yz:=frozen_of HY9.out
       have yl:=lt_of_heap HY9.out
       obtain ⟨q0,q1,q2,q3,q4,q5,q6,q7,q8,q9,q10,q11,qz,qlt,qlt2⟩:=cellsF HFs9.out
       have x0:=cell_of HXs9.out 0
       have x1:=cell_of HXs9.out 1
       have x2:=cell_of HXs9.out 2
       have xz:=frozen_of HXs9.out
       have r1:=cell_of HH9.out 1
       have r2:=cell_of HH9.out 2
       have r3:=cell_of HH9.out 3
       have r4:=cell_of HH9.out 4
       have rz:=frozen_of HH9.out
       have rl:=lt_of_heap HH9.out
       go_wp2
       generalize hW:World.setCell _ _ _=wX
       have KX:Kp [g] w9 wX:=by rw [← hW]; exact (Kp.refl _ _).setCell (.inl (by simp)) _
       have HHX:=Lib.hid (show wX.heap[g]?=some (.cells #[.int .i64 most,.slice A9 n9 c9,.bool false,.int .i64 ys,.int .i64 yc] 162) by rw [← hW]; exact hp_set _ _ _ _ _ _ HH9.out)
       have HGX:=Lib.hid (KX.heap HG9.out (by simp; omega))
       have HYX:=Lib.hid (KX.heap HY9.out (by simp; omega))
       have HFX:=Lib.hid (KX.heap HFs9.out (by simp; omega))
       have HXX:=Lib.hid (KX.heap HXs9.out (by simp; omega))
       have HOB:=HO9.out.base
       have hg9:g∉ob A9:=by intro h; have:=(HOB g h).1; omega
       have HOX:=Lib.hid ((HO9.out.keep KX (by intro t h1 h2; simp at h2; subst h2; exact hg9 h1)).mono (Nat.zero_le _))
       have HPX:=Lib.hid (HP9.out.low KX (by simp; omega) (Nat.le_refl _))
       have HKX:=Lib.hid (HKK9.out.trans KX)
       have HKX1:=Lib.hid (HKK91.out.trans KX)
       have hsX:=KX.size
       have HDN9:=Lib.hid (show ∀ t,t∈ob A9→t < w.heap.size∨w1.heap.size≤t from fun t ht=>.inr (by have:=(HOB t ht).1; omega))
       have HRB9:=Lib.hid (show ∀ t,t∈ob A9→t∈D∨w1.heap.size≤t from fun t ht=>.inr (by have:=(HOB t ht).1; omega))
       have HDQ9:=Lib.hid (show ∀ t,t∈ob A9→t∈D∨w.heap.size≤t from fun t ht=>.inr (by have:=(HOB t ht).1; omega))
       clear hW KX HOB HH9 HG9 HY9 HFs9 HXs9 HP9 HKK9 HKK91 HO9 g0 g1 g2 g3 g4 g5 g6 g7 g8 g9 g10 g11 gz glt glt2 y0 y1 y2 yz yl q0 q1 q2 q3 q4 q5 q6 q7 q8 q9 q10 q11 qz qlt qlt2 x0 x1 x2 xz r1 r2 r3 r4 rz rl
       obtain ⟨g0,g1,g2,g3,g4,g5,g6,g7,g8,g9,g10,g11,gz,glt,glt2⟩:=cellsF HGX.out
       have y0:=cell_of HYX.out 0
       have y1:=cell_of HYX.out 1
       have y2:=cell_of HYX.out 2
       have yz:=frozen_of HYX.out
       have yl:=lt_of_heap HYX.out
       obtain ⟨q0,q1,q2,q3,q4,q5,q6,q7,q8,q9,q10,q11,qz,qlt,qlt2⟩:=cellsF HFX.out
       have x0:=cell_of HXX.out 0
       have x1:=cell_of HXX.out 1
       have x2:=cell_of HXX.out 2
       have xz:=frozen_of HXX.out
       have r1:=cell_of HHX.out 1
       have r2:=cell_of HHX.out 2
       have r3:=cell_of HHX.out 3
       have r4:=cell_of HHX.out 4
       have rz:=frozen_of HHX.out
       have rl:=lt_of_heap HHX.out
       go_region
       go_wp2
       generalize hW:World.setCell _ _ _=W
       obtain ⟨HF9,HX9,K9⟩:W.heap[w.heap.size]?=some (.cells #[.int .i64 0,.int .i64 0,.int .i64 0,.slice none 0 0,.int .i64 0,.int .u32 0,.int .i64 0,.int .i64 0,.int .i64 0,.bool false,.int .i64 0,.slice none 0 0] 49)∧W.heap[w.heap.size+1]?=some (.cells #[.bool true,.int .i64 rst,.int .i64 rcode] 64)∧Kp [w.heap.size,w.heap.size+1] wX W:=by rw [← hW]; exact set15 (by omega) HFX.out HXX.out
       refine bodyPost_ret (v:=.tuple #[.agg #[.int .i64 0,.int .i64 0,.int .i64 0,.slice none 0 0,.int .i64 0,.int .u32 0,.int .i64 0,.int .i64 0,.int .i64 0,.bool false,.int .i64 0,.slice none 0 0],.bool false,.agg #[.bool true,.int .i64 rst,.int .i64 rcode]]) (by simp [results,Try.results114,go_sem,cell_of HF9,cell_of HX9]) rfl ⟨l,ob A9,HSK.out,HDQ9.out,fun t ht=>Nat.lt_of_lt_of_le (HOX.out.base t ht).2 K9.size,(HKX.out.then K9 (by intro t ht; simp at ht; right; omega)).drew,?_⟩
       rw [HPS.out]
       exact .inr (.inr (.inl ⟨rfl,rfl,hst,rfl,⟨A9,n9,c9,K9.heap HHX.out (by simp; omega),(HOX.out.keep K9 (by intro t h1 h2; have:=HDN9.out t h1; simp at h2; omega)).keep (Kp.refl [] W).drew (by simp),hg9,fun t h=>h⟩⟩))
      ·have k0:Kp [] w8 (w8.alloc (.cells #[] 5)):=(Kp.refl _ _).alloc _
       have hrs:=(HO8.out.rd.keep k0 (by simp)).sub U n (by omega) (Nat.le_refl _) (A':=(some ⟨ga,U,none⟩)) (by intro b' o' h1 h2; injection h1 with h1; injection h1 with h1 h3 _; rw [h1,← h3,Nat.zero_add])
       rw [List.take_of_length_le (by simp; omega)] at hrs
       have i1:(U:Int)≤(n:Int):=by omega
       have i2:(n:Int)≤(c:Int):=by omega
       have i3:¬ (c:Int)=(U:Int):=by omega
       have i4:¬ (U:Int)=(c:Int):=by omega
       go_wp2_with (with_reducible refine stopAt (o:=⟨some 56,_,_,_,_,_⟩) ?_)
       refine Stop.go (wp_appB rfl _ _ 22 5 rfl Try.underlying22 Try.info5 w8.heap.size _ 0 0 [] rfl (Ow.empty w8 w8.heap.size 5 1 (Nat.le_refl _)) _ _ _ (l.drop U) rfl hrs (by omega) (by simp) ?_)
       intro A9 n9 c9 l9 w9 hn9 hl9 O9 K9a hA9
       have K89:=k0.then K9a (by simp [ob])
       have e9:l9=l.drop U:=by rw [hl9.out]; rfl
       rw [e9] at O9
       have hn9b:n9 < n:=by have:=hn9.out; omega
       have HO9:=Lib.hid O9
       have HH9:=Lib.hid (K89.heap HH8.out (by simp))
       have HG9:=Lib.hid (K89.heap HG8.out (by simp))
       have HY9:=Lib.hid (K89.heap HY8.out (by simp))
       have HFs9:=Lib.hid (K89.heap HF8.out (by simp))
       have HXs9:=Lib.hid (K89.heap HX8.out (by simp))
       have HP9:=Lib.hid (HP8.out.low K89 (by simp) (Nat.le_refl _))
       have HKK9:=Lib.hid (HK8.out.trans K89.nil)
       have HKK91:=Lib.hid (HK81.out.trans K89.nil)
       have hs89:=K89.size
       clear k0 hrs hn9 hl9 O9 K9a e9 hA9 K89 g0 g1 g2 g3 g4 g5 g6 g7 g8 g9 g10 g11 gz glt glt2 y0 y1 y2 yz yl q0 q1 q2 q3 q4 q5 q6 q7 q8 q9 q10 q11 qz qlt qlt2 x0 x1 x2 xz r1 r2 r3 r4 rz rl
       obtain ⟨g0,g1,g2,g3,g4,g5,g6,g7,g8,g9,g10,g11,gz,glt,glt2⟩:=cellsF HG9.out
       have y0:=cell_of HY9.out 0
       have y1:=cell_of HY9.out 1
       have y2:=cell_of HY9.out 2
       have yz:=frozen_of HY9.out
       have yl:=lt_of_heap HY9.out
       obtain ⟨q0,q1,q2,q3,q4,q5,q6,q7,q8,q9,q10,q11,qz,qlt,qlt2⟩:=cellsF HFs9.out
       have x0:=cell_of HXs9.out 0
       have x1:=cell_of HXs9.out 1
       have x2:=cell_of HXs9.out 2
       have xz:=frozen_of HXs9.out
       have r1:=cell_of HH9.out 1
       have r2:=cell_of HH9.out 2
       have r3:=cell_of HH9.out 3
       have r4:=cell_of HH9.out 4
       have rz:=frozen_of HH9.out
       have rl:=lt_of_heap HH9.out
       go_wp2
       generalize hW:World.setCell _ _ _=wX
       have KX:Kp [g] w9 wX:=by rw [← hW]; exact (Kp.refl _ _).setCell (.inl (by simp)) _
       have HHX:=Lib.hid (show wX.heap[g]?=some (.cells #[.int .i64 most,.slice A9 n9 c9,.bool false,.int .i64 ys,.int .i64 yc] 162) by rw [← hW]; exact hp_set _ _ _ _ _ _ HH9.out)
       have HGX:=Lib.hid (KX.heap HG9.out (by simp; omega))
       have HYX:=Lib.hid (KX.heap HY9.out (by simp; omega))
       have HFX:=Lib.hid (KX.heap HFs9.out (by simp; omega))
       have HXX:=Lib.hid (KX.heap HXs9.out (by simp; omega))
       have HOB:=HO9.out.base
       have hg9:g∉ob A9:=by intro h; have:=(HOB g h).1; omega
       have HOX:=Lib.hid ((HO9.out.keep KX (by intro t h1 h2; simp at h2; subst h2; exact hg9 h1)).mono (Nat.zero_le _))
       have HPX:=Lib.hid (HP9.out.low KX (by simp; omega) (Nat.le_refl _))
       have HKX:=Lib.hid (HKK9.out.trans KX)
       have HKX1:=Lib.hid (HKK91.out.trans KX)
       have hsX:=KX.size
       have HDN9:=Lib.hid (show ∀ t,t∈ob A9→t < w.heap.size∨w1.heap.size≤t from fun t ht=>.inr (by have:=(HOB t ht).1; omega))
       have HRB9:=Lib.hid (show ∀ t,t∈ob A9→t∈D∨w1.heap.size≤t from fun t ht=>.inr (by have:=(HOB t ht).1; omega))
       have HDQ9:=Lib.hid (show ∀ t,t∈ob A9→t∈D∨w.heap.size≤t from fun t ht=>.inr (by have:=(HOB t ht).1; omega))
       clear hW KX HOB HH9 HG9 HY9 HFs9 HXs9 HP9 HKK9 HKK91 HO9 g0 g1 g2 g3 g4 g5 g6 g7 g8 g9 g10 g11 gz glt glt2 y0 y1 y2 yz yl q0 q1 q2 q3 q4 q5 q6 q7 q8 q9 q10 q11 qz qlt qlt2 x0 x1 x2 xz r1 r2 r3 r4 rz rl
       obtain ⟨g0,g1,g2,g3,g4,g5,g6,g7,g8,g9,g10,g11,gz,glt,glt2⟩:=cellsF HGX.out
       have y0:=cell_of HYX.out 0
       have y1:=cell_of HYX.out 1
       have y2:=cell_of HYX.out 2
       have yz:=frozen_of HYX.out
       have yl:=lt_of_heap HYX.out
       obtain ⟨q0,q1,q2,q3,q4,q5,q6,q7,q8,q9,q10,q11,qz,qlt,qlt2⟩:=cellsF HFX.out
       have x0:=cell_of HXX.out 0
       have x1:=cell_of HXX.out 1
       have x2:=cell_of HXX.out 2
       have xz:=frozen_of HXX.out
       have r1:=cell_of HHX.out 1
       have r2:=cell_of HHX.out 2
       have r3:=cell_of HHX.out 3
       have r4:=cell_of HHX.out 4
       have rz:=frozen_of HHX.out
       have rl:=lt_of_heap HHX.out
       go_region
       go_wp2
       generalize hW:World.setCell _ _ _=W
       obtain ⟨HF9,HX9,K9⟩:W.heap[w.heap.size]?=some (.cells #[.int .i64 0,.int .i64 0,.int .i64 0,.slice none 0 0,.int .i64 0,.int .u32 0,.int .i64 0,.int .i64 0,.int .i64 0,.bool false,.int .i64 0,.slice none 0 0] 49)∧W.heap[w.heap.size+1]?=some (.cells #[.bool true,.int .i64 rst,.int .i64 rcode] 64)∧Kp [w.heap.size,w.heap.size+1] wX W:=by rw [← hW]; exact set15 (by omega) HFX.out HXX.out
       refine bodyPost_ret (v:=.tuple #[.agg #[.int .i64 0,.int .i64 0,.int .i64 0,.slice none 0 0,.int .i64 0,.int .u32 0,.int .i64 0,.int .i64 0,.int .i64 0,.bool false,.int .i64 0,.slice none 0 0],.bool false,.agg #[.bool true,.int .i64 rst,.int .i64 rcode]]) (by simp [results,Try.results114,go_sem,cell_of HF9,cell_of HX9]) rfl ⟨l,ob A9,HSK.out,HDQ9.out,fun t ht=>Nat.lt_of_lt_of_le (HOX.out.base t ht).2 K9.size,(HKX.out.then K9 (by intro t ht; simp at ht; right; omega)).drew,?_⟩
       rw [HPS.out]
       exact .inr (.inr (.inl ⟨rfl,rfl,hst,rfl,⟨A9,n9,c9,K9.heap HHX.out (by simp; omega),(HOX.out.keep K9 (by intro t h1 h2; have:=HDN9.out t h1; simp at h2; omega)).keep (Kp.refl [] W).drew (by simp),hg9,fun t h=>h⟩⟩))
   ·have hez:(rerr != 0)=true:=by simpa using herr
    obtain ⟨q0,q1,q2,q3,q4,q5,q6,q7,q8,q9,q10,q11,qz,qlt,qlt2⟩:=cellsF HF8.out
    have x0:=cell_of HX8.out 0
    have x1:=cell_of HX8.out 1
    have x2:=cell_of HX8.out 2
    have xz:=frozen_of HX8.out
    go_wp2
    generalize hW:World.setCell _ _ _=W
    obtain ⟨HF9,HX9,K9⟩:W.heap[w.heap.size]?=some (.cells #[.int .i64 0,.int .i64 0,.int .i64 0,.slice none 0 0,.int .i64 0,.int .u32 0,.int .i64 0,.int .i64 0,.int .i64 0,.bool false,.int .i64 0,.slice none 0 0] 49)∧W.heap[w.heap.size+1]?=some (.cells #[.bool false,.int .i64 0,.int .i64 0] 64)∧Kp [w.heap.size,w.heap.size+1] w8 W:=by rw [← hW]; exact set15 (by omega) HF8.out HX8.out
    refine bodyPost_ret (v:=.tuple #[.agg #[.int .i64 0,.int .i64 0,.int .i64 0,.slice none 0 0,.int .i64 0,.int .u32 0,.int .i64 0,.int .i64 0,.int .i64 0,.bool false,.int .i64 0,.slice none 0 0],.bool false,.agg #[.bool false,.int .i64 0,.int .i64 0]]) (by simp [results,Try.results114,go_sem,cell_of HF9,cell_of HX9]) rfl ⟨l,ob A,HSK.out,HDQ.out,fun t ht=>Nat.lt_of_lt_of_le (HO8.out.base t ht).2 K9.size,(HK8.out.then K9 (by intro t ht; simp at ht; right; omega)),?_⟩
    rw [HPS.out]
    exact .inl ⟨herr,rfl,⟨A,n,c,K9.heap HH8.out (by simp; omega),(HO8.out.keep K9 (by intro t h1 h2; have:=HDN.out t h1; simp at h2; omega)),hgA,fun t h=>h⟩⟩
  ·have HI:=Lib.hid hi
   have HE:=Lib.hid he
   have HXX:=Lib.hid hx
   have HDN:=Lib.hid (show ∀ t,t∈ob A→t < w.heap.size∨w1.heap.size≤t from fun t ht=>(HRB.out t ht).imp (fun h=>HD.out t h) id)
   have HDQ:=Lib.hid (show ∀ t,t∈ob A→t∈D∨w.heap.size≤t from fun t ht=>(HRB.out t ht).imp id (fun h=>by omega))
   clear hi he hx
   obtain ⟨q0,q1,q2,q3,q4,q5,q6,q7,q8,q9,q10,q11,qz,qlt,qlt2⟩:=cellsF HF1.out
   have x0:=cell_of HX1.out 0
   have x1:=cell_of HX1.out 1
   have x2:=cell_of HX1.out 2
   have xz:=frozen_of HX1.out
   go_wp2
   go_region
   go_wp2
   generalize hW:World.setCell _ _ _=W
   obtain ⟨HF9,HX9,K9⟩:W.heap[w.heap.size]?=some (.cells #[.int .i64 0,.int .i64 0,.int .i64 0,.slice none 0 0,.int .i64 0,.int .u32 0,.int .i64 0,.int .i64 0,.int .i64 0,.bool false,.int .i64 0,.slice none 0 0] 49)∧W.heap[w.heap.size+1]?=some (.cells #[.bool true,.int .i64 0,.int .i64 (ps l most).code] 64)∧Kp [w.heap.size,w.heap.size+1] wr W:=by rw [← hW]; exact set15 (by omega) HF1.out HX1.out
   refine bodyPost_ret (v:=.tuple #[.agg #[.int .i64 0,.int .i64 0,.int .i64 0,.slice none 0 0,.int .i64 0,.int .u32 0,.int .i64 0,.int .i64 0,.int .i64 0,.bool false,.int .i64 0,.slice none 0 0],.bool false,.agg #[.bool true,.int .i64 0,.int .i64 (ps l most).code]]) (by simp [results,Try.results114,go_sem,cell_of HF9,cell_of HX9]) rfl ⟨l,ob A,HSK.out,HDQ.out,fun t ht=>Nat.lt_of_lt_of_le (HO.out.base t ht).2 K9.size,(HKT.out.then K9 (by intro t ht; simp at ht; right; omega)).drew,?_⟩
   exact .inr (.inl ⟨HE.out,HI.out,HXX.out,rfl,⟨A,n,c,K9.heap HH.out (by simp; omega),(HO.out.keep K9 (by intro t h1 h2; have:=HDN.out t h1; simp at h2; omega)).keep (Kp.refl [] W).drew (by simp),hgA,fun t h=>h⟩⟩)
end Go.Proofs.Ytkmcakneceagpaa

namespace Go.Proofs.Ytkmcakneceagpaa
open Go.RowKit
theorem RqNextB (g:Nat) (D:List Nat) (w:World) (most:Int) (is:Bool) (xs xc:Int) (l:List UInt8) (hs:RqS w g D most is xs xc l) (hD:∀ t,t∈D→t < w.heap.size) (hm:0≤most) (hl:is=true∨l.length≤211106232532992) :
  Calls Try.prog 114 #[.pointer (some ⟨g,0,none⟩)] w fun e w'=>∃ o f D',NxR most is xs xc l o∧e=.returned (.tuple #[.agg #[.int .i64 f.ty,.int .i64 f.fl,.int .i64 f.st,.slice f.pA f.pn f.pc,.int .i64 f.pad,.int .u32 f.code,.int .i64 f.last,.int .i64 f.inc,.int .i64 f.dep,.bool f.only,.int .i64 f.wt,.slice f.sA f.sn f.sc],.bool o.x,.agg #[.bool o.p,.int .i64 o.st,.int .i64 o.code]])∧FrP w' w.heap.size f o.f∧(∀ t,t∈D'→t∈D∨w.heap.size≤t)∧(∀ t,t∈D'→t < w'.heap.size)∧RqS w' g D' most o.is o.xs o.xc o.l∧Kp [g] w w':=by
 cases is with
 | true =>
  obtain ⟨A,n,c,h1,h2,h3,h4⟩:=hs
  refine (RqNextS g w A n c most xs xc h1).mono ?_
  rintro e w' ⟨rfl,K⟩
  exact ⟨⟨Fp.zero,false,true,xs,xc,true,xs,xc,l⟩,⟨0,0,0,none,0,0,0,0,0,0,0,false,0,none,0,0⟩,D,.inl ⟨rfl,rfl⟩,rfl,FrP.zero _ _,fun t h=>.inl h,fun t h=>Nat.lt_of_lt_of_le (hD t h) K.size,⟨A,n,c,K.heap h1 (by simp),h2.keep K (by simp),h3,h4⟩,K.nil⟩
 | false =>
  refine (RqNext g D w most xs xc l hs hD hm (by rcases hl with h | h; cases h; exact h)).mono ?_
  rintro e w' ⟨m,D',hsk,d1,d2,K,hd⟩
  rcases hd with ⟨e1,rfl,S⟩ | ⟨e1,e2,e3,rfl,S⟩ | ⟨e1,e2,e3,rfl,S⟩ | ⟨e1,e2,e3,f,rfl,hf,S⟩
  ·refine ⟨nxO most xs xc m,⟨0,0,0,none,0,0,0,0,0,0,0,false,0,none,0,0⟩,D',.inr ⟨rfl,m,hsk,.inl e1,rfl⟩,?_,?_,d1,d2,?_,K⟩ <;> (unfold nxO; rw [if_pos e1])
   ·exact FrP.zero _ _
   ·exact S
  ·refine ⟨nxO most xs xc m,⟨0,0,0,none,0,0,0,0,0,0,0,false,0,none,0,0⟩,D',.inr ⟨rfl,m,hsk,.inr (.inl e2),rfl⟩,?_,?_,d1,d2,?_,K⟩ <;> (unfold nxO; rw [if_neg (by simpa using e1),if_pos e2,if_pos e3])
   ·exact FrP.zero _ _
   ·exact S
  ·refine ⟨nxO most xs xc m,⟨0,0,0,none,0,0,0,0,0,0,0,false,0,none,0,0⟩,D',.inr ⟨rfl,m,hsk,.inr (.inl e2),rfl⟩,?_,?_,d1,d2,?_,K⟩ <;> (unfold nxO; rw [if_neg (by simpa using e1),if_pos e2,if_neg e3])
   ·exact FrP.zero _ _
   ·exact S
  ·refine ⟨nxO most xs xc m,f,D',.inr ⟨rfl,m,hsk,.inr (.inr e3),rfl⟩,?_,?_,d1,d2,?_,K⟩ <;> (unfold nxO; rw [if_neg (by simpa using e1),if_neg (by rw [e2]; decide)])
   ·exact hf
   ·exact S
end Go.Proofs.Ytkmcakneceagpaa
