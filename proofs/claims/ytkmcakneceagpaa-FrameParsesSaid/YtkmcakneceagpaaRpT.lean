/- The reference's Parse, whole. -/
import Derived.Test.YtkmcakneceagpaaRpS
import Derived.Test.YtkmcakneceagpaaRpF
set_option linter.unusedVariables false
set_option linter.unusedSimpArgs false
set_option linter.unusedSimpArgs false
namespace Go.Proofs.Ytkmcakneceagpaa
open Go.RowKit
theorem rparse0 (A : Option Addr) (n c : Nat) (l : List UInt8) (most : Int) (w : World) (hr : Rd w A n c l) (hn : n ≤ 140737488355328) (hm : 0 ≤ most) (h9 : ¬ n < 9) (N : Nat) (hN : be (l.take 3) = N) (hb : ¬ most < (N : Int)) (hc : ¬ n < 9 + N) (F S : Nat) (hT : (l.getD 3 0).toNat = 0) (hF : (l.getD 4 0).toNat = F) (hS : be ((l.drop 5).take 4) % 2147483648 = S) : Calls Try.prog 101 #[.slice A n c, .int .i64 most] w (ParseR (inS 0 F S ((l.drop 9).take N)) w) := by
  have hF2 := (l.getD 4 0).toNat_lt
  have hf0 : (0 : Int) ≤ (F : Int) := by omega
  have hf1 : (F : Int) ≤ 255 := by omega
  have hl : ((l.drop 9).take N).length = N := by have := hr.len; simp; omega
  have hN2 : N ≤ 16777216 := by
    have := be_take_lt l 3
    rw [hN] at this
    have e3 : (256 : Nat) ^ 3 = 16777216 := by decide
    omega
  have hrg : ∀ w, Calls Try.prog 153 #[.int .i64 ((0 : Nat) : Int), .int .i64 S] w (BoolR (rightB ((0 : Nat) : Int) S) w) := fun w => (rright0 S w).mono (fun e w' h => by simpa [rightB, zeroB] using h)
  have hsz : ∀ w, Calls Try.prog 154 #[.agg #[.int .i64 ((0 : Nat) : Int), .int .i64 F, .int .i64 S, .slice none 0 0, .int .i64 0, .int .u32 0, .int .i64 0, .int .i64 0, .int .i64 0, .bool false, .int .i64 0, .slice none 0 0], .int .i64 N] w (BoolK (!fitsB ((0 : Nat) : Int) F N) w) := fun w => rsize0 F S N hN2 w hf0 hf1
  unfold inS
  dsimp only
  rw [hl, if_neg (by decide)]
  cases h1 : rightB (0 : Int) (S : Int) with
  | false =>
    rw [if_pos rfl]
    exact rparseWrong 0 A n c l most w hr hn hm h9 N hN hb hc F S hT hF hS rfl hrg h1
  | true =>
    rw [if_neg (by decide)]
    cases h2 : fitsB (0 : Int) (F : Int) N with
    | false =>
      rw [if_pos rfl, if_neg (by decide)]
      exact rparseSz 0 A n c l most w hr hn hm h9 N hN hb hc F S hT hF hS rfl hrg h1 hsz h2 (by decide)
    | true =>
      rw [if_neg (by decide)]
      cases h3 : unS (0 : Int) (F : Int) ((l.drop 9).take N) with
      | bad code => exact rparseUnp 0 A n c l most w hr hn hm h9 N hN hb hc F S hT hF hS rfl hrg h1 hsz h2 (fun A n c m w hr hn => (bcase3 (hasB F 8)).elim (fun h8 => rparts0f F S hf0 hf1 h8 A n c m w hr hn) (fun h8 => rparts0t F S hf0 hf1 h8 A n c m w hr hn)) (by decide) code h3
      | ok pad m =>
        dsimp only
        rw [if_neg (by simp)]
        exact rparseOk 0 A n c l most w hr hn hm h9 N hN hb hc F S hT hF hS rfl hrg h1 hsz h2 (fun A n c m w hr hn => (bcase3 (hasB F 8)).elim (fun h8 => rparts0f F S hf0 hf1 h8 A n c m w hr hn) (fun h8 => rparts0t F S hf0 hf1 h8 A n c m w hr hn)) (by decide) pad m h3 (fun A n c w hr hn => rfields0 F S pad A n c m w hr hn)

theorem rparse1 (A : Option Addr) (n c : Nat) (l : List UInt8) (most : Int) (w : World) (hr : Rd w A n c l) (hn : n ≤ 140737488355328) (hm : 0 ≤ most) (h9 : ¬ n < 9) (N : Nat) (hN : be (l.take 3) = N) (hb : ¬ most < (N : Int)) (hc : ¬ n < 9 + N) (F S : Nat) (hT : (l.getD 3 0).toNat = 1) (hF : (l.getD 4 0).toNat = F) (hS : be ((l.drop 5).take 4) % 2147483648 = S) : Calls Try.prog 101 #[.slice A n c, .int .i64 most] w (ParseR (inS 1 F S ((l.drop 9).take N)) w) := by
  have hF2 := (l.getD 4 0).toNat_lt
  have hf0 : (0 : Int) ≤ (F : Int) := by omega
  have hf1 : (F : Int) ≤ 255 := by omega
  have hl : ((l.drop 9).take N).length = N := by have := hr.len; simp; omega
  have hN2 : N ≤ 16777216 := by
    have := be_take_lt l 3
    rw [hN] at this
    have e3 : (256 : Nat) ^ 3 = 16777216 := by decide
    omega
  have hrg : ∀ w, Calls Try.prog 153 #[.int .i64 ((1 : Nat) : Int), .int .i64 S] w (BoolR (rightB ((1 : Nat) : Int) S) w) := fun w => (rright1 S w).mono (fun e w' h => by simpa [rightB, zeroB] using h)
  have hsz : ∀ w, Calls Try.prog 154 #[.agg #[.int .i64 ((1 : Nat) : Int), .int .i64 F, .int .i64 S, .slice none 0 0, .int .i64 0, .int .u32 0, .int .i64 0, .int .i64 0, .int .i64 0, .bool false, .int .i64 0, .slice none 0 0], .int .i64 N] w (BoolK (!fitsB ((1 : Nat) : Int) F N) w) := fun w => rsize1 F S N hN2 w hf0 hf1
  unfold inS
  dsimp only
  rw [hl, if_neg (by decide)]
  cases h1 : rightB (1 : Int) (S : Int) with
  | false =>
    rw [if_pos rfl]
    exact rparseWrong 1 A n c l most w hr hn hm h9 N hN hb hc F S hT hF hS rfl hrg h1
  | true =>
    rw [if_neg (by decide)]
    cases h2 : fitsB (1 : Int) (F : Int) N with
    | false =>
      rw [if_pos rfl, if_neg (by decide)]
      exact rparseSz 1 A n c l most w hr hn hm h9 N hN hb hc F S hT hF hS rfl hrg h1 hsz h2 (by decide)
    | true =>
      rw [if_neg (by decide)]
      cases h3 : unS (1 : Int) (F : Int) ((l.drop 9).take N) with
      | bad code => exact rparseUnp 1 A n c l most w hr hn hm h9 N hN hb hc F S hT hF hS rfl hrg h1 hsz h2 (fun A n c m w hr hn => (bcase3 (hasB F 8)).elim (fun h8 => (bcase3 (hasB F 32)).elim (fun h32 => rparts1ff F S hf0 hf1 h8 h32 A n c m w hr hn) (fun h32 => rparts1tf F S hf0 hf1 h8 h32 A n c m w hr hn)) (fun h8 => (bcase3 (hasB F 32)).elim (fun h32 => rparts1ft F S hf0 hf1 h8 h32 A n c m w hr hn) (fun h32 => rparts1tt F S hf0 hf1 h8 h32 A n c m w hr hn))) (by decide) code h3
      | ok pad m =>
        dsimp only
        rw [if_neg (by simp)]
        exact rparseOk 1 A n c l most w hr hn hm h9 N hN hb hc F S hT hF hS rfl hrg h1 hsz h2 (fun A n c m w hr hn => (bcase3 (hasB F 8)).elim (fun h8 => (bcase3 (hasB F 32)).elim (fun h32 => rparts1ff F S hf0 hf1 h8 h32 A n c m w hr hn) (fun h32 => rparts1tf F S hf0 hf1 h8 h32 A n c m w hr hn)) (fun h8 => (bcase3 (hasB F 32)).elim (fun h32 => rparts1ft F S hf0 hf1 h8 h32 A n c m w hr hn) (fun h32 => rparts1tt F S hf0 hf1 h8 h32 A n c m w hr hn))) (by decide) pad m h3 (fun A n c w hr hn => (bcase3 (hasB F 32)).elim (fun h32 => rfields1f F S pad A n c m w hr hn hf0 hf1 h32) (fun h32 => rfields1t F S pad A n c m w hr hn hf0 hf1 h32 (by have e := un_fixed h3; have := hr.len; simp [fixedN, h32] at e; omega)))

theorem rparse2 (A : Option Addr) (n c : Nat) (l : List UInt8) (most : Int) (w : World) (hr : Rd w A n c l) (hn : n ≤ 140737488355328) (hm : 0 ≤ most) (h9 : ¬ n < 9) (N : Nat) (hN : be (l.take 3) = N) (hb : ¬ most < (N : Int)) (hc : ¬ n < 9 + N) (F S : Nat) (hT : (l.getD 3 0).toNat = 2) (hF : (l.getD 4 0).toNat = F) (hS : be ((l.drop 5).take 4) % 2147483648 = S) : Calls Try.prog 101 #[.slice A n c, .int .i64 most] w (ParseR (inS 2 F S ((l.drop 9).take N)) w) := by
  have hF2 := (l.getD 4 0).toNat_lt
  have hf0 : (0 : Int) ≤ (F : Int) := by omega
  have hf1 : (F : Int) ≤ 255 := by omega
  have hl : ((l.drop 9).take N).length = N := by have := hr.len; simp; omega
  have hN2 : N ≤ 16777216 := by
    have := be_take_lt l 3
    rw [hN] at this
    have e3 : (256 : Nat) ^ 3 = 16777216 := by decide
    omega
  have hrg : ∀ w, Calls Try.prog 153 #[.int .i64 ((2 : Nat) : Int), .int .i64 S] w (BoolR (rightB ((2 : Nat) : Int) S) w) := fun w => (rright2 S w).mono (fun e w' h => by simpa [rightB, zeroB] using h)
  have hsz : ∀ w, Calls Try.prog 154 #[.agg #[.int .i64 ((2 : Nat) : Int), .int .i64 F, .int .i64 S, .slice none 0 0, .int .i64 0, .int .u32 0, .int .i64 0, .int .i64 0, .int .i64 0, .bool false, .int .i64 0, .slice none 0 0], .int .i64 N] w (BoolK (!fitsB ((2 : Nat) : Int) F N) w) := fun w => rsize2 F S N hN2 w hf0 hf1
  unfold inS
  dsimp only
  rw [hl, if_neg (by decide)]
  cases h1 : rightB (2 : Int) (S : Int) with
  | false =>
    rw [if_pos rfl]
    exact rparseWrong 2 A n c l most w hr hn hm h9 N hN hb hc F S hT hF hS rfl hrg h1
  | true =>
    rw [if_neg (by decide)]
    cases h2 : fitsB (2 : Int) (F : Int) N with
    | false =>
      rw [if_pos rfl, if_pos rfl]
      exact rparseSz2 2 A n c l most w hr hn hm h9 N hN hb hc F S hT hF hS rfl hrg h1 hsz h2 rfl
    | true =>
      rw [if_neg (by decide)]
      cases h3 : unS (2 : Int) (F : Int) ((l.drop 9).take N) with
      | bad code => exact absurd h3 (fun h => by simp [unS, padF, paddedB, fixedN] at h)
      | ok pad m =>
        dsimp only
        rw [if_neg (by simp)]
        exact rparseOk2 2 A n c l most w hr hn hm h9 N hN hb hc F S hT hF hS rfl hrg h1 hsz h2 (fun A n c m w hr hn => rparts2 F S hf0 hf1 A n c m w hr hn) rfl pad m h3 (fun A n c w hr hn => rfields2 F S pad A n c m w hr hn (by have e := un_len h3 rfl; rw [hl] at e; have := hr.len; simp [fitsB] at h2; omega))

theorem rparse3 (A : Option Addr) (n c : Nat) (l : List UInt8) (most : Int) (w : World) (hr : Rd w A n c l) (hn : n ≤ 140737488355328) (hm : 0 ≤ most) (h9 : ¬ n < 9) (N : Nat) (hN : be (l.take 3) = N) (hb : ¬ most < (N : Int)) (hc : ¬ n < 9 + N) (F S : Nat) (hT : (l.getD 3 0).toNat = 3) (hF : (l.getD 4 0).toNat = F) (hS : be ((l.drop 5).take 4) % 2147483648 = S) : Calls Try.prog 101 #[.slice A n c, .int .i64 most] w (ParseR (inS 3 F S ((l.drop 9).take N)) w) := by
  have hF2 := (l.getD 4 0).toNat_lt
  have hf0 : (0 : Int) ≤ (F : Int) := by omega
  have hf1 : (F : Int) ≤ 255 := by omega
  have hl : ((l.drop 9).take N).length = N := by have := hr.len; simp; omega
  have hN2 : N ≤ 16777216 := by
    have := be_take_lt l 3
    rw [hN] at this
    have e3 : (256 : Nat) ^ 3 = 16777216 := by decide
    omega
  have hrg : ∀ w, Calls Try.prog 153 #[.int .i64 ((3 : Nat) : Int), .int .i64 S] w (BoolR (rightB ((3 : Nat) : Int) S) w) := fun w => (rright3 S w).mono (fun e w' h => by simpa [rightB, zeroB] using h)
  have hsz : ∀ w, Calls Try.prog 154 #[.agg #[.int .i64 ((3 : Nat) : Int), .int .i64 F, .int .i64 S, .slice none 0 0, .int .i64 0, .int .u32 0, .int .i64 0, .int .i64 0, .int .i64 0, .bool false, .int .i64 0, .slice none 0 0], .int .i64 N] w (BoolK (!fitsB ((3 : Nat) : Int) F N) w) := fun w => rsize3 F S N hN2 w hf0 hf1
  unfold inS
  dsimp only
  rw [hl, if_neg (by decide)]
  cases h1 : rightB (3 : Int) (S : Int) with
  | false =>
    rw [if_pos rfl]
    exact rparseWrong 3 A n c l most w hr hn hm h9 N hN hb hc F S hT hF hS rfl hrg h1
  | true =>
    rw [if_neg (by decide)]
    cases h2 : fitsB (3 : Int) (F : Int) N with
    | false =>
      rw [if_pos rfl, if_neg (by decide)]
      exact rparseSz 3 A n c l most w hr hn hm h9 N hN hb hc F S hT hF hS rfl hrg h1 hsz h2 (by decide)
    | true =>
      rw [if_neg (by decide)]
      cases h3 : unS (3 : Int) (F : Int) ((l.drop 9).take N) with
      | bad code => exact absurd h3 (fun h => by simp [unS, padF, paddedB, fixedN] at h)
      | ok pad m =>
        dsimp only
        rw [if_neg (by simp)]
        exact rparseOk 3 A n c l most w hr hn hm h9 N hN hb hc F S hT hF hS rfl hrg h1 hsz h2 (fun A n c m w hr hn => rparts3 F S hf0 hf1 A n c m w hr hn) (by decide) pad m h3 (fun A n c w hr hn => rfields3 F S pad A n c m w hr hn (by have e := un_len h3 rfl; rw [hl] at e; have := hr.len; simp [fitsB] at h2; omega))

theorem rparse4 (A : Option Addr) (n c : Nat) (l : List UInt8) (most : Int) (w : World) (hr : Rd w A n c l) (hn : n ≤ 140737488355328) (hm : 0 ≤ most) (h9 : ¬ n < 9) (N : Nat) (hN : be (l.take 3) = N) (hb : ¬ most < (N : Int)) (hc : ¬ n < 9 + N) (F S : Nat) (hT : (l.getD 3 0).toNat = 4) (hF : (l.getD 4 0).toNat = F) (hS : be ((l.drop 5).take 4) % 2147483648 = S) : Calls Try.prog 101 #[.slice A n c, .int .i64 most] w (ParseR (inS 4 F S ((l.drop 9).take N)) w) := by
  have hF2 := (l.getD 4 0).toNat_lt
  have hf0 : (0 : Int) ≤ (F : Int) := by omega
  have hf1 : (F : Int) ≤ 255 := by omega
  have hl : ((l.drop 9).take N).length = N := by have := hr.len; simp; omega
  have hN2 : N ≤ 16777216 := by
    have := be_take_lt l 3
    rw [hN] at this
    have e3 : (256 : Nat) ^ 3 = 16777216 := by decide
    omega
  have hrg : ∀ w, Calls Try.prog 153 #[.int .i64 ((4 : Nat) : Int), .int .i64 S] w (BoolR (rightB ((4 : Nat) : Int) S) w) := fun w => (rright4 S w).mono (fun e w' h => by simpa [rightB, zeroB] using h)
  have hsz : ∀ w, Calls Try.prog 154 #[.agg #[.int .i64 ((4 : Nat) : Int), .int .i64 F, .int .i64 S, .slice none 0 0, .int .i64 0, .int .u32 0, .int .i64 0, .int .i64 0, .int .i64 0, .bool false, .int .i64 0, .slice none 0 0], .int .i64 N] w (BoolK (!fitsB ((4 : Nat) : Int) F N) w) := fun w => rsize4 F S N hN2 w hf0 hf1
  unfold inS
  dsimp only
  rw [hl, if_neg (by decide)]
  cases h1 : rightB (4 : Int) (S : Int) with
  | false =>
    rw [if_pos rfl]
    exact rparseWrong 4 A n c l most w hr hn hm h9 N hN hb hc F S hT hF hS rfl hrg h1
  | true =>
    rw [if_neg (by decide)]
    cases h2 : fitsB (4 : Int) (F : Int) N with
    | false =>
      rw [if_pos rfl, if_neg (by decide)]
      exact rparseSz 4 A n c l most w hr hn hm h9 N hN hb hc F S hT hF hS rfl hrg h1 hsz h2 (by decide)
    | true =>
      rw [if_neg (by decide)]
      cases h3 : unS (4 : Int) (F : Int) ((l.drop 9).take N) with
      | bad code => exact absurd h3 (fun h => by simp [unS, padF, paddedB, fixedN] at h)
      | ok pad m =>
        dsimp only
        rw [if_neg (by simp)]
        exact rparseOk 4 A n c l most w hr hn hm h9 N hN hb hc F S hT hF hS rfl hrg h1 hsz h2 (fun A n c m w hr hn => rparts4 F S hf0 hf1 A n c m w hr hn) (by decide) pad m h3 (fun A n c w hr hn => rfields4 F S pad A n c m w hr hn (n / 6) (by have e := un_len h3 rfl; rw [hl] at e; have := hr.len; simp [fitsB] at h2; omega))

theorem rparse5 (A : Option Addr) (n c : Nat) (l : List UInt8) (most : Int) (w : World) (hr : Rd w A n c l) (hn : n ≤ 140737488355328) (hm : 0 ≤ most) (h9 : ¬ n < 9) (N : Nat) (hN : be (l.take 3) = N) (hb : ¬ most < (N : Int)) (hc : ¬ n < 9 + N) (F S : Nat) (hT : (l.getD 3 0).toNat = 5) (hF : (l.getD 4 0).toNat = F) (hS : be ((l.drop 5).take 4) % 2147483648 = S) : Calls Try.prog 101 #[.slice A n c, .int .i64 most] w (ParseR (inS 5 F S ((l.drop 9).take N)) w) := by
  have hF2 := (l.getD 4 0).toNat_lt
  have hf0 : (0 : Int) ≤ (F : Int) := by omega
  have hf1 : (F : Int) ≤ 255 := by omega
  have hl : ((l.drop 9).take N).length = N := by have := hr.len; simp; omega
  have hN2 : N ≤ 16777216 := by
    have := be_take_lt l 3
    rw [hN] at this
    have e3 : (256 : Nat) ^ 3 = 16777216 := by decide
    omega
  have hrg : ∀ w, Calls Try.prog 153 #[.int .i64 ((5 : Nat) : Int), .int .i64 S] w (BoolR (rightB ((5 : Nat) : Int) S) w) := fun w => (rright5 S w).mono (fun e w' h => by simpa [rightB, zeroB] using h)
  have hsz : ∀ w, Calls Try.prog 154 #[.agg #[.int .i64 ((5 : Nat) : Int), .int .i64 F, .int .i64 S, .slice none 0 0, .int .i64 0, .int .u32 0, .int .i64 0, .int .i64 0, .int .i64 0, .bool false, .int .i64 0, .slice none 0 0], .int .i64 N] w (BoolK (!fitsB ((5 : Nat) : Int) F N) w) := fun w => rsize5 F S N hN2 w hf0 hf1
  unfold inS
  dsimp only
  rw [hl, if_neg (by decide)]
  cases h1 : rightB (5 : Int) (S : Int) with
  | false =>
    rw [if_pos rfl]
    exact rparseWrong 5 A n c l most w hr hn hm h9 N hN hb hc F S hT hF hS rfl hrg h1
  | true =>
    rw [if_neg (by decide)]
    cases h2 : fitsB (5 : Int) (F : Int) N with
    | false =>
      rw [if_pos rfl, if_neg (by decide)]
      exact rparseSz 5 A n c l most w hr hn hm h9 N hN hb hc F S hT hF hS rfl hrg h1 hsz h2 (by decide)
    | true =>
      rw [if_neg (by decide)]
      cases h3 : unS (5 : Int) (F : Int) ((l.drop 9).take N) with
      | bad code => exact rparseUnp 5 A n c l most w hr hn hm h9 N hN hb hc F S hT hF hS rfl hrg h1 hsz h2 (fun A n c m w hr hn => (bcase3 (hasB F 8)).elim (fun h8 => rparts5f F S hf0 hf1 h8 A n c m w hr hn) (fun h8 => rparts5t F S hf0 hf1 h8 A n c m w hr hn)) (by decide) code h3
      | ok pad m =>
        dsimp only
        rw [if_neg (by simp)]
        exact rparseOk 5 A n c l most w hr hn hm h9 N hN hb hc F S hT hF hS rfl hrg h1 hsz h2 (fun A n c m w hr hn => (bcase3 (hasB F 8)).elim (fun h8 => rparts5f F S hf0 hf1 h8 A n c m w hr hn) (fun h8 => rparts5t F S hf0 hf1 h8 A n c m w hr hn)) (by decide) pad m h3 (fun A n c w hr hn => rfields5 F S pad A n c m w hr hn (by have e := un_fixed h3; have := hr.len; simp [fixedN] at e; omega))

theorem rparse6 (A : Option Addr) (n c : Nat) (l : List UInt8) (most : Int) (w : World) (hr : Rd w A n c l) (hn : n ≤ 140737488355328) (hm : 0 ≤ most) (h9 : ¬ n < 9) (N : Nat) (hN : be (l.take 3) = N) (hb : ¬ most < (N : Int)) (hc : ¬ n < 9 + N) (F S : Nat) (hT : (l.getD 3 0).toNat = 6) (hF : (l.getD 4 0).toNat = F) (hS : be ((l.drop 5).take 4) % 2147483648 = S) : Calls Try.prog 101 #[.slice A n c, .int .i64 most] w (ParseR (inS 6 F S ((l.drop 9).take N)) w) := by
  have hF2 := (l.getD 4 0).toNat_lt
  have hf0 : (0 : Int) ≤ (F : Int) := by omega
  have hf1 : (F : Int) ≤ 255 := by omega
  have hl : ((l.drop 9).take N).length = N := by have := hr.len; simp; omega
  have hN2 : N ≤ 16777216 := by
    have := be_take_lt l 3
    rw [hN] at this
    have e3 : (256 : Nat) ^ 3 = 16777216 := by decide
    omega
  have hrg : ∀ w, Calls Try.prog 153 #[.int .i64 ((6 : Nat) : Int), .int .i64 S] w (BoolR (rightB ((6 : Nat) : Int) S) w) := fun w => (rright6 S w).mono (fun e w' h => by simpa [rightB, zeroB] using h)
  have hsz : ∀ w, Calls Try.prog 154 #[.agg #[.int .i64 ((6 : Nat) : Int), .int .i64 F, .int .i64 S, .slice none 0 0, .int .i64 0, .int .u32 0, .int .i64 0, .int .i64 0, .int .i64 0, .bool false, .int .i64 0, .slice none 0 0], .int .i64 N] w (BoolK (!fitsB ((6 : Nat) : Int) F N) w) := fun w => rsize6 F S N hN2 w hf0 hf1
  unfold inS
  dsimp only
  rw [hl, if_neg (by decide)]
  cases h1 : rightB (6 : Int) (S : Int) with
  | false =>
    rw [if_pos rfl]
    exact rparseWrong 6 A n c l most w hr hn hm h9 N hN hb hc F S hT hF hS rfl hrg h1
  | true =>
    rw [if_neg (by decide)]
    cases h2 : fitsB (6 : Int) (F : Int) N with
    | false =>
      rw [if_pos rfl, if_neg (by decide)]
      exact rparseSz 6 A n c l most w hr hn hm h9 N hN hb hc F S hT hF hS rfl hrg h1 hsz h2 (by decide)
    | true =>
      rw [if_neg (by decide)]
      cases h3 : unS (6 : Int) (F : Int) ((l.drop 9).take N) with
      | bad code => exact absurd h3 (fun h => by simp [unS, padF, paddedB, fixedN] at h)
      | ok pad m =>
        dsimp only
        rw [if_neg (by simp)]
        exact rparseOk 6 A n c l most w hr hn hm h9 N hN hb hc F S hT hF hS rfl hrg h1 hsz h2 (fun A n c m w hr hn => rparts6 F S hf0 hf1 A n c m w hr hn) (by decide) pad m h3 (fun A n c w hr hn => rfields6 F S pad A n c m w hr hn)

theorem rparse7 (A : Option Addr) (n c : Nat) (l : List UInt8) (most : Int) (w : World) (hr : Rd w A n c l) (hn : n ≤ 140737488355328) (hm : 0 ≤ most) (h9 : ¬ n < 9) (N : Nat) (hN : be (l.take 3) = N) (hb : ¬ most < (N : Int)) (hc : ¬ n < 9 + N) (F S : Nat) (hT : (l.getD 3 0).toNat = 7) (hF : (l.getD 4 0).toNat = F) (hS : be ((l.drop 5).take 4) % 2147483648 = S) : Calls Try.prog 101 #[.slice A n c, .int .i64 most] w (ParseR (inS 7 F S ((l.drop 9).take N)) w) := by
  have hF2 := (l.getD 4 0).toNat_lt
  have hf0 : (0 : Int) ≤ (F : Int) := by omega
  have hf1 : (F : Int) ≤ 255 := by omega
  have hl : ((l.drop 9).take N).length = N := by have := hr.len; simp; omega
  have hN2 : N ≤ 16777216 := by
    have := be_take_lt l 3
    rw [hN] at this
    have e3 : (256 : Nat) ^ 3 = 16777216 := by decide
    omega
  have hrg : ∀ w, Calls Try.prog 153 #[.int .i64 ((7 : Nat) : Int), .int .i64 S] w (BoolR (rightB ((7 : Nat) : Int) S) w) := fun w => (rright7 S w).mono (fun e w' h => by simpa [rightB, zeroB] using h)
  have hsz : ∀ w, Calls Try.prog 154 #[.agg #[.int .i64 ((7 : Nat) : Int), .int .i64 F, .int .i64 S, .slice none 0 0, .int .i64 0, .int .u32 0, .int .i64 0, .int .i64 0, .int .i64 0, .bool false, .int .i64 0, .slice none 0 0], .int .i64 N] w (BoolK (!fitsB ((7 : Nat) : Int) F N) w) := fun w => rsize7 F S N hN2 w hf0 hf1
  unfold inS
  dsimp only
  rw [hl, if_neg (by decide)]
  cases h1 : rightB (7 : Int) (S : Int) with
  | false =>
    rw [if_pos rfl]
    exact rparseWrong 7 A n c l most w hr hn hm h9 N hN hb hc F S hT hF hS rfl hrg h1
  | true =>
    rw [if_neg (by decide)]
    cases h2 : fitsB (7 : Int) (F : Int) N with
    | false =>
      rw [if_pos rfl, if_neg (by decide)]
      exact rparseSz 7 A n c l most w hr hn hm h9 N hN hb hc F S hT hF hS rfl hrg h1 hsz h2 (by decide)
    | true =>
      rw [if_neg (by decide)]
      cases h3 : unS (7 : Int) (F : Int) ((l.drop 9).take N) with
      | bad code => exact absurd h3 (fun h => by simp [unS, padF, paddedB, fixedN] at h)
      | ok pad m =>
        dsimp only
        rw [if_neg (by simp)]
        exact rparseOk 7 A n c l most w hr hn hm h9 N hN hb hc F S hT hF hS rfl hrg h1 hsz h2 (fun A n c m w hr hn => rparts7 F S hf0 hf1 A n c m w hr hn) (by decide) pad m h3 (fun A n c w hr hn => rfields7 F S pad A n c m w hr hn (by have e := un_len h3 rfl; rw [hl] at e; have := hr.len; simp [fitsB] at h2; omega))

theorem rparse8 (A : Option Addr) (n c : Nat) (l : List UInt8) (most : Int) (w : World) (hr : Rd w A n c l) (hn : n ≤ 140737488355328) (hm : 0 ≤ most) (h9 : ¬ n < 9) (N : Nat) (hN : be (l.take 3) = N) (hb : ¬ most < (N : Int)) (hc : ¬ n < 9 + N) (F S : Nat) (hT : (l.getD 3 0).toNat = 8) (hF : (l.getD 4 0).toNat = F) (hS : be ((l.drop 5).take 4) % 2147483648 = S) : Calls Try.prog 101 #[.slice A n c, .int .i64 most] w (ParseR (inS 8 F S ((l.drop 9).take N)) w) := by
  have hF2 := (l.getD 4 0).toNat_lt
  have hf0 : (0 : Int) ≤ (F : Int) := by omega
  have hf1 : (F : Int) ≤ 255 := by omega
  have hl : ((l.drop 9).take N).length = N := by have := hr.len; simp; omega
  have hN2 : N ≤ 16777216 := by
    have := be_take_lt l 3
    rw [hN] at this
    have e3 : (256 : Nat) ^ 3 = 16777216 := by decide
    omega
  have hrg : ∀ w, Calls Try.prog 153 #[.int .i64 ((8 : Nat) : Int), .int .i64 S] w (BoolR (rightB ((8 : Nat) : Int) S) w) := fun w => (rright8 S w).mono (fun e w' h => by simpa [rightB, zeroB] using h)
  have hsz : ∀ w, Calls Try.prog 154 #[.agg #[.int .i64 ((8 : Nat) : Int), .int .i64 F, .int .i64 S, .slice none 0 0, .int .i64 0, .int .u32 0, .int .i64 0, .int .i64 0, .int .i64 0, .bool false, .int .i64 0, .slice none 0 0], .int .i64 N] w (BoolK (!fitsB ((8 : Nat) : Int) F N) w) := fun w => rsize8 F S N hN2 w hf0 hf1
  unfold inS
  dsimp only
  rw [hl, if_neg (by decide)]
  cases h1 : rightB (8 : Int) (S : Int) with
  | false =>
    rw [if_pos rfl]
    exact rparseWrong 8 A n c l most w hr hn hm h9 N hN hb hc F S hT hF hS rfl hrg h1
  | true =>
    rw [if_neg (by decide)]
    cases h2 : fitsB (8 : Int) (F : Int) N with
    | false =>
      rw [if_pos rfl, if_neg (by decide)]
      exact rparseSz 8 A n c l most w hr hn hm h9 N hN hb hc F S hT hF hS rfl hrg h1 hsz h2 (by decide)
    | true =>
      rw [if_neg (by decide)]
      cases h3 : unS (8 : Int) (F : Int) ((l.drop 9).take N) with
      | bad code => exact absurd h3 (fun h => by simp [unS, padF, paddedB, fixedN] at h)
      | ok pad m =>
        dsimp only
        by_cases h8 : (8 : Int) = 8 ∧ n31 m 0 = 0
        · rw [if_pos h8]
          exact rparseWin 8 A n c l most w hr hn hm h9 N hN hb hc F S hT hF hS rfl hrg h1 hsz h2 (fun A n c m w hr hn => rparts8 F S hf0 hf1 A n c m w hr hn) (by decide) pad m h3 (fun A n c w hr hn => rfields8b F S pad A n c m w hr hn (by have e := un_len h3 rfl; rw [hl] at e; have := hr.len; simp [fitsB] at h2; omega) h8.2)
        · rw [if_neg h8]
          exact rparseOk 8 A n c l most w hr hn hm h9 N hN hb hc F S hT hF hS rfl hrg h1 hsz h2 (fun A n c m w hr hn => rparts8 F S hf0 hf1 A n c m w hr hn) (by decide) pad m h3 (fun A n c w hr hn => rfields8 F S pad A n c m w hr hn (by have e := un_len h3 rfl; rw [hl] at e; have := hr.len; simp [fitsB] at h2; omega) (fun hi => h8 ⟨rfl, hi⟩))

theorem rparse9 (A : Option Addr) (n c : Nat) (l : List UInt8) (most : Int) (w : World) (hr : Rd w A n c l) (hn : n ≤ 140737488355328) (hm : 0 ≤ most) (h9 : ¬ n < 9) (N : Nat) (hN : be (l.take 3) = N) (hb : ¬ most < (N : Int)) (hc : ¬ n < 9 + N) (F S : Nat) (hT : (l.getD 3 0).toNat = 9) (hF : (l.getD 4 0).toNat = F) (hS : be ((l.drop 5).take 4) % 2147483648 = S) : Calls Try.prog 101 #[.slice A n c, .int .i64 most] w (ParseR (inS 9 F S ((l.drop 9).take N)) w) := by
  have hF2 := (l.getD 4 0).toNat_lt
  have hf0 : (0 : Int) ≤ (F : Int) := by omega
  have hf1 : (F : Int) ≤ 255 := by omega
  have hl : ((l.drop 9).take N).length = N := by have := hr.len; simp; omega
  have hN2 : N ≤ 16777216 := by
    have := be_take_lt l 3
    rw [hN] at this
    have e3 : (256 : Nat) ^ 3 = 16777216 := by decide
    omega
  have hrg : ∀ w, Calls Try.prog 153 #[.int .i64 ((9 : Nat) : Int), .int .i64 S] w (BoolR (rightB ((9 : Nat) : Int) S) w) := fun w => (rright9 S w).mono (fun e w' h => by simpa [rightB, zeroB] using h)
  have hsz : ∀ w, Calls Try.prog 154 #[.agg #[.int .i64 ((9 : Nat) : Int), .int .i64 F, .int .i64 S, .slice none 0 0, .int .i64 0, .int .u32 0, .int .i64 0, .int .i64 0, .int .i64 0, .bool false, .int .i64 0, .slice none 0 0], .int .i64 N] w (BoolK (!fitsB ((9 : Nat) : Int) F N) w) := fun w => rsize9 F S N hN2 w hf0 hf1
  unfold inS
  dsimp only
  rw [hl, if_neg (by decide)]
  cases h1 : rightB (9 : Int) (S : Int) with
  | false =>
    rw [if_pos rfl]
    exact rparseWrong 9 A n c l most w hr hn hm h9 N hN hb hc F S hT hF hS rfl hrg h1
  | true =>
    rw [if_neg (by decide)]
    cases h2 : fitsB (9 : Int) (F : Int) N with
    | false =>
      rw [if_pos rfl, if_neg (by decide)]
      exact rparseSz 9 A n c l most w hr hn hm h9 N hN hb hc F S hT hF hS rfl hrg h1 hsz h2 (by decide)
    | true =>
      rw [if_neg (by decide)]
      cases h3 : unS (9 : Int) (F : Int) ((l.drop 9).take N) with
      | bad code => exact absurd h3 (fun h => by simp [unS, padF, paddedB, fixedN] at h)
      | ok pad m =>
        dsimp only
        rw [if_neg (by simp)]
        exact rparseOk 9 A n c l most w hr hn hm h9 N hN hb hc F S hT hF hS rfl hrg h1 hsz h2 (fun A n c m w hr hn => rparts9 F S hf0 hf1 A n c m w hr hn) (by decide) pad m h3 (fun A n c w hr hn => rfields9 F S pad A n c m w hr hn)

/-- the reference's Parse answers ps -/
theorem refParse_any (A : Option Addr) (n c : Nat) (l : List UInt8) (most : Int) (w : World) (hr : Rd w A n c l) (hn : n ≤ 140737488355328) : Calls Try.prog 101 #[.slice A n c, .int .i64 most] w (ParseR (ps l most) w) := by
  have hlen := hr.len
  unfold ps
  by_cases hm : most < 0
  · rw [if_pos hm]
    exact rparseNeg A n c l most w hr hn hm
  rw [if_neg hm]
  by_cases h9 : n < 9
  · rw [if_pos (by omega)]
    exact rparseShort A n c l most w hr hn (by omega) h9
  rw [if_neg (by omega)]
  obtain ⟨N, hN⟩ : ∃ N, be (l.take 3) = N := ⟨_, rfl⟩
  rw [hN]
  by_cases hb : most < (N : Int)
  · rw [if_pos hb]
    exact rparseLong A n c l most w hr hn (by omega) h9 N hN hb
  rw [if_neg hb]
  by_cases hc : n < 9 + N
  · rw [if_pos (by omega)]
    exact rparseCut A n c l most w hr hn (by omega) h9 N hN hb hc
  rw [if_neg (by omega)]
  obtain ⟨T, hT⟩ : ∃ T, (l.getD 3 0).toNat = T := ⟨_, rfl⟩
  obtain ⟨F, hF⟩ : ∃ F, (l.getD 4 0).toNat = F := ⟨_, rfl⟩
  obtain ⟨S, hS⟩ : ∃ S, be ((l.drop 5).take 4) % 2147483648 = S := ⟨_, rfl⟩
  have e31 : n31 l 5 = (S : Int) := by rw [n31, hS]
  rw [hT, hF, e31]
  cases hkn : knownB (T : Int) with
  | false =>
    have hl : ((l.drop 9).take N).length = N := by simp; omega
    unfold inS
    dsimp only
    rw [hl, if_pos (by exact hkn)]
    exact rparseUnknown T A n c l most w hr hn (by omega) h9 N hN hb hc F S hT hF hS hkn
  | true =>
    rcases known10 hkn with rfl | rfl | rfl | rfl | rfl | rfl | rfl | rfl | rfl | rfl
    · exact rparse0 A n c l most w hr hn (by omega) h9 N hN hb hc F S hT hF hS
    · exact rparse1 A n c l most w hr hn (by omega) h9 N hN hb hc F S hT hF hS
    · exact rparse2 A n c l most w hr hn (by omega) h9 N hN hb hc F S hT hF hS
    · exact rparse3 A n c l most w hr hn (by omega) h9 N hN hb hc F S hT hF hS
    · exact rparse4 A n c l most w hr hn (by omega) h9 N hN hb hc F S hT hF hS
    · exact rparse5 A n c l most w hr hn (by omega) h9 N hN hb hc F S hT hF hS
    · exact rparse6 A n c l most w hr hn (by omega) h9 N hN hb hc F S hT hF hS
    · exact rparse7 A n c l most w hr hn (by omega) h9 N hN hb hc F S hT hF hS
    · exact rparse8 A n c l most w hr hn (by omega) h9 N hN hb hc F S hT hF hS
    · exact rparse9 A n c l most w hr hn (by omega) h9 N hN hb hc F S hT hF hS
end Go.Proofs.Ytkmcakneceagpaa
