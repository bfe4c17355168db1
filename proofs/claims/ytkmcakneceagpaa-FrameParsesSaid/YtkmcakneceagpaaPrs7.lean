/- frame.Parse, whole. -/
import Derived.Test.YtkmcakneceagpaaPrs6
set_option linter.unusedVariables false
set_option linter.unusedSimpArgs false
set_option linter.unusedSimpArgs false
namespace Go.Proofs.Ytkmcakneceagpaa
open Go.RowKit
theorem bcase3 (b : Bool) : b = false ∨ b = true := by cases b <;> simp
theorem un_bad {ty fl : Int} {l : List UInt8} {code : Int} (h : unS ty fl l = .bad code) : ¬ code = 0 := by
  unfold unS at h
  split at h
  · split at h
    · injection h with h; omega
    · split at h
      · injection h with h; omega
      · cases h
  · split at h
    · injection h with h; omega
    · cases h
theorem un_fixed {ty fl : Int} {l m : List UInt8} {pad : Nat} (h : unS ty fl l = .ok pad m) : fixedN ty fl ≤ m.length := by
  unfold unS at h
  split at h
  · split at h
    · cases h
    · split at h
      · cases h
      · injection h with h1 h2
        rw [← h2]
        simp only [List.length_take, List.length_drop]
        omega
  · split at h
    · cases h
    · injection h with h1 h2
      rw [← h2]
      omega
theorem un_len {ty fl : Int} {l m : List UInt8} {pad : Nat} (h : unS ty fl l = .ok pad m) (hp : padF ty fl = false) : m.length = l.length := by
  unfold unS at h
  rw [hp] at h
  simp only [Bool.false_eq_true, if_false] at h
  split at h
  · cases h
  · injection h with h1 h2
    rw [h2]
set_option maxRecDepth 100000 in
theorem parseF (T k1 k2 k3 k4 : Nat) (z any pd : Bool) (A : Option Addr) (n c : Nat) (l : List UInt8) (most : Int) (w : World) (hr : Rd w A n c l) (hn : n ≤ 281474976710656) (hm : 0 ≤ most) (h9 : ¬ n < 9) (N : Nat) (hN : be (l.take 3) = N) (hb : ¬ most < (N : Int)) (hc : ¬ n < 9 + N) (F S : Nat) (hT : (l.getD 3 0).toNat = T) (hF : (l.getD 4 0).toNat = F) (hS : be ((l.drop 5).take 4) % 2147483648 = S)
    (hkn : knownB (T : Int) = true) (hkd : ∀ w, Calls Try.prog 144 #[.int .i64 T] w fun e w' => e = .returned (.agg #[.bool z, .bool any, .bool pd, Fv k1, Fv k2, Fv k3, Fv k4]) ∧ Kp [] w w') (hri : (any || (z == decide ((S : Int) = 0))) = rightB T S) (hT2 : ¬ T = 2) (hT8 : ¬ T = 8) (fit : Bool → Bool) (hfc : ∀ a w, Calls Try.prog k1 #[.int .i64 N, .bool a] w (BoolR (fit a) w)) (hcf : ∀ args w, Sem.run Try.prog (callFunc k1 args) w = .ok (.enter k1 args) w) (hfit : fit (bits .and .i64 (F : Int) 1 != 0) = fitsB T F N) (hun : ∀ (k1 : Value) (g : Nat) (A : Option Addr) (n c : Nat) (m : List UInt8) (w : World), k1.cells = #[k1] → w.heap[g]? = some (.cells #[.int .i64 T, .int .i64 F, .int .i64 S, .slice none 0 0, .int .i64 0, .int .u32 0, .int .i64 0, .int .i64 0, .int .i64 0, .bool false, .int .i64 0, .slice none 0 0] 49) → Rd w A n c m → g ∉ ob A → n ≤ 16777216 → Calls Try.prog 151 #[.pointer (some ⟨g, 0, none⟩), .agg #[.bool z, .bool any, .bool pd, k1, Fv k2, Fv k3, Fv k4], .slice A n c] w (UnR T F S g (unS T F m) w)) (hcg : ∀ args w, Sem.run Try.prog (callFunc k4 args) w = .ok (.enter k4 args) w) (hget : ∀ (pad : Nat) (m : List UInt8), fitsB T F N = true → unS T F ((l.drop 9).take N) = .ok pad m → ∀ (g : Nat) (A : Option Addr) (n c : Nat) (w : World), w.heap[g]? = some (.cells #[.int .i64 T, .int .i64 F, .int .i64 S, .slice none 0 0, .int .i64 (pad : Int), .int .u32 0, .int .i64 0, .int .i64 0, .int .i64 0, .bool false, .int .i64 0, .slice none 0 0] 49) → Rd w A n c m → g ∉ ob A → n ≤ 16777216 → Calls Try.prog k4 #[.pointer (some ⟨g, 0, none⟩), .slice A n c] w (GetR g (getS (f0S T F S pad) m) w)) :
    Calls Try.prog 100 #[.slice A n c, .int .i64 most] w (ParseR (inS T F S ((l.drop 9).take N)) w) := by
  have hl : ((l.drop 9).take N).length = N := by have := hr.len; simp; omega
  unfold inS
  dsimp only
  rw [hl, if_neg (by show ¬ knownB (T : Int) = false; rw [hkn]; decide)]
  cases h1 : rightB (T : Int) (S : Int) with
  | false =>
    rw [if_pos rfl]
    exact parseWrong T k1 k2 k3 k4 z any pd A n c l most w hr hn hm h9 N hN hb hc F S hT hF hS hkn hkd (hri.trans h1)
  | true =>
    rw [if_neg (by decide)]
    cases h2 : fitsB (T : Int) (F : Int) N with
    | false =>
      rw [if_pos rfl]
      rw [if_neg (by omega)]
      exact parseSz T k1 k2 k3 k4 z any pd A n c l most w hr hn hm h9 N hN hb hc F S hT hF hS hkn hkd (hri.trans h1) fit hfc hcf (hfit.trans h2) hT2
    | true =>
      rw [if_neg (by decide)]
      cases h3 : unS (T : Int) (F : Int) ((l.drop 9).take N) with
      | bad code =>
        exact parseUnp T k1 k2 k3 k4 z any pd A n c l most w hr hn hm h9 N hN hb hc F S hT hF hS hkn hkd (hri.trans h1) fit hfc hcf (hfit.trans h2) hun code (un_bad h3) h3
      | ok pad m =>
        dsimp only
        rw [if_neg (by omega)]
        exact parseOk T k1 k2 k3 k4 z any pd A n c l most w hr hn hm h9 N hN hb hc F S hT hF hS hkn hkd (hri.trans h1) fit hfc hcf (hfit.trans h2) hun pad m h3 hcg (hget pad m h2 h3)

set_option maxRecDepth 100000 in
theorem parseS (T k2 k3 k4 : Nat) (kk : Int) (z any pd : Bool) (A : Option Addr) (n c : Nat) (l : List UInt8) (most : Int) (w : World) (hr : Rd w A n c l) (hn : n ≤ 281474976710656) (hm : 0 ≤ most) (h9 : ¬ n < 9) (N : Nat) (hN : be (l.take 3) = N) (hb : ¬ most < (N : Int)) (hc : ¬ n < 9 + N) (F S : Nat) (hT : (l.getD 3 0).toNat = T) (hF : (l.getD 4 0).toNat = F) (hS : be ((l.drop 5).take 4) % 2147483648 = S)
    (hkn : knownB (T : Int) = true) (hkd : ∀ w, Calls Try.prog 144 #[.int .i64 T] w fun e w' => ∃ bk, e = .returned (.agg #[.bool z, .bool any, .bool pd, Sz bk, Fv k2, Fv k3, Fv k4]) ∧ w'.heap[bk]? = some (.cells #[.int .i64 kk] 3) ∧ w.heap.size ≤ bk ∧ Kp [] w w') (hri : (any || (z == decide ((S : Int) = 0))) = rightB T S) (hfit : decide ((N : Int) = kk) = fitsB T F N) (hun : ∀ (k1 : Value) (g : Nat) (A : Option Addr) (n c : Nat) (m : List UInt8) (w : World), k1.cells = #[k1] → w.heap[g]? = some (.cells #[.int .i64 T, .int .i64 F, .int .i64 S, .slice none 0 0, .int .i64 0, .int .u32 0, .int .i64 0, .int .i64 0, .int .i64 0, .bool false, .int .i64 0, .slice none 0 0] 49) → Rd w A n c m → g ∉ ob A → n ≤ 16777216 → Calls Try.prog 151 #[.pointer (some ⟨g, 0, none⟩), .agg #[.bool z, .bool any, .bool pd, k1, Fv k2, Fv k3, Fv k4], .slice A n c] w (UnR T F S g (unS T F m) w)) (hcg : ∀ args w, Sem.run Try.prog (callFunc k4 args) w = .ok (.enter k4 args) w) (hget : ∀ (pad : Nat) (m : List UInt8), fitsB T F N = true → unS T F ((l.drop 9).take N) = .ok pad m → ∀ (g : Nat) (A : Option Addr) (n c : Nat) (w : World), w.heap[g]? = some (.cells #[.int .i64 T, .int .i64 F, .int .i64 S, .slice none 0 0, .int .i64 (pad : Int), .int .u32 0, .int .i64 0, .int .i64 0, .int .i64 0, .bool false, .int .i64 0, .slice none 0 0] 49) → Rd w A n c m → g ∉ ob A → n ≤ 16777216 → ((T = 8 ∧ n31 m 0 = 0) → Calls Try.prog k4 #[.pointer (some ⟨g, 0, none⟩), .slice A n c] w (GetX g S w)) ∧ (¬ (T = 8 ∧ n31 m 0 = 0) → Calls Try.prog k4 #[.pointer (some ⟨g, 0, none⟩), .slice A n c] w (GetR g (getS (f0S T F S pad) m) w))) (hnb : ∀ code, ¬ unS T F ((l.drop 9).take N) = .bad code) :
    Calls Try.prog 100 #[.slice A n c, .int .i64 most] w (ParseR (inS T F S ((l.drop 9).take N)) w) := by
  have hl : ((l.drop 9).take N).length = N := by have := hr.len; simp; omega
  unfold inS
  dsimp only
  rw [hl, if_neg (by show ¬ knownB (T : Int) = false; rw [hkn]; decide)]
  cases h1 : rightB (T : Int) (S : Int) with
  | false =>
    rw [if_pos rfl]
    exact parseWrongS T k2 k3 k4 kk z any pd A n c l most w hr hn hm h9 N hN hb hc F S hT hF hS hkn hkd (hri.trans h1)
  | true =>
    rw [if_neg (by decide)]
    cases h2 : fitsB (T : Int) (F : Int) N with
    | false =>
      rw [if_pos rfl]
      by_cases hT2 : T = 2
      · rw [if_pos (by omega)]
        exact parseSz2 T k2 k3 k4 kk z any pd A n c l most w hr hn hm h9 N hN hb hc F S hT hF hS hkn hkd (hri.trans h1) (hfit.trans h2) hT2
      · rw [if_neg (by omega)]
        exact parseSzS T k2 k3 k4 kk z any pd A n c l most w hr hn hm h9 N hN hb hc F S hT hF hS hkn hkd (hri.trans h1) (hfit.trans h2) hT2
    | true =>
      rw [if_neg (by decide)]
      cases h3 : unS (T : Int) (F : Int) ((l.drop 9).take N) with
      | bad code => exact absurd h3 (hnb code)
      | ok pad m =>
        dsimp only
        by_cases h8 : (T : Int) = 8 ∧ n31 m 0 = 0
        · rw [if_pos h8]
          exact parseGet T k2 k3 k4 kk z any pd A n c l most w hr hn hm h9 N hN hb hc F S hT hF hS hkn hkd (hri.trans h1) (hfit.trans h2) hun pad m h3 hcg (fun g A n c w a1 a2 a3 a4 => (hget pad m h2 h3 g A n c w a1 a2 a3 a4).1 ⟨by omega, h8.2⟩)
        · rw [if_neg h8]
          exact parseOkS T k2 k3 k4 kk z any pd A n c l most w hr hn hm h9 N hN hb hc F S hT hF hS hkn hkd (hri.trans h1) (hfit.trans h2) hun pad m h3 hcg (fun g A n c w a1 a2 a3 a4 => (hget pad m h2 h3 g A n c w a1 a2 a3 a4).2 (fun h => h8 ⟨by omega, h.2⟩))

theorem parse0 (A : Option Addr) (n c : Nat) (l : List UInt8) (most : Int) (w : World) (hr : Rd w A n c l) (hn : n ≤ 281474976710656) (hm : 0 ≤ most) (h9 : ¬ n < 9) (N : Nat) (hN : be (l.take 3) = N) (hb : ¬ most < (N : Int)) (hc : ¬ n < 9 + N) (F S : Nat) (hT : (l.getD 3 0).toNat = 0) (hF : (l.getD 4 0).toNat = F) (hS : be ((l.drop 5).take 4) % 2147483648 = S) :
    Calls Try.prog 100 #[.slice A n c, .int .i64 most] w (ParseR (inS 0 F S ((l.drop 9).take N)) w) := by
  have hF2 := (l.getD 4 0).toNat_lt
  have hf0 : (0 : Int) ≤ (F : Int) := by omega
  have hf1 : (F : Int) ≤ 255 := by omega
  have hl : ((l.drop 9).take N).length = N := by have := hr.len; simp; omega
  have hN2 : N < 16777216 := by
    have := be_take_lt l 3
    rw [hN] at this
    have e3 : (256 : Nat) ^ 3 = 16777216 := by decide
    omega
  have hbits := (bits_has F hf0 hf1).1
  exact parseF 0 161 163 160 164 false false true A n c l most w hr hn hm h9 N hN hb hc F S hT hF hS rfl (fun w => kinds0 w) (by simp [rightB, zeroB]) (by decide) (by decide) (fun _ => true) (fun a w => fitsAll _ a w) (fun args w => callFunc_at Try.func161 (by decide) rfl args w) (by first | (simp [fitsB]; done) | (rw [hbits]; simp [fitsB])) (fun k1 g A n c m w hk hB hr hg hn => (bcase3 (hasB F 8)).elim (fun h8 => unpad0f F S _ _ k1 _ _ _ hk rfl rfl rfl hf0 hf1 h8 g A n c m w hB hr hg hn) (fun h8 => unpad0t F S _ _ k1 _ _ _ hk rfl rfl rfl hf0 hf1 h8 g A n c m w hB hr hg hn)) (fun args w => callFunc_at Try.func164 (by decide) rfl args w) (fun pad m hft hu g A n c w hB hr hg hn => getRest 0 F S pad g A n c m w hB hr (by omega) (by decide))

theorem parse1 (A : Option Addr) (n c : Nat) (l : List UInt8) (most : Int) (w : World) (hr : Rd w A n c l) (hn : n ≤ 281474976710656) (hm : 0 ≤ most) (h9 : ¬ n < 9) (N : Nat) (hN : be (l.take 3) = N) (hb : ¬ most < (N : Int)) (hc : ¬ n < 9 + N) (F S : Nat) (hT : (l.getD 3 0).toNat = 1) (hF : (l.getD 4 0).toNat = F) (hS : be ((l.drop 5).take 4) % 2147483648 = S) :
    Calls Try.prog 100 #[.slice A n c, .int .i64 most] w (ParseR (inS 1 F S ((l.drop 9).take N)) w) := by
  have hF2 := (l.getD 4 0).toNat_lt
  have hf0 : (0 : Int) ≤ (F : Int) := by omega
  have hf1 : (F : Int) ≤ 255 := by omega
  have hl : ((l.drop 9).take N).length = N := by have := hr.len; simp; omega
  have hN2 : N < 16777216 := by
    have := be_take_lt l 3
    rw [hN] at this
    have e3 : (256 : Nat) ^ 3 = 16777216 := by decide
    omega
  have hbits := (bits_has F hf0 hf1).1
  exact parseF 1 161 163 160 165 false false true A n c l most w hr hn hm h9 N hN hb hc F S hT hF hS rfl (fun w => kinds1 w) (by simp [rightB, zeroB]) (by decide) (by decide) (fun _ => true) (fun a w => fitsAll _ a w) (fun args w => callFunc_at Try.func161 (by decide) rfl args w) (by first | (simp [fitsB]; done) | (rw [hbits]; simp [fitsB])) (fun k1 g A n c m w hk hB hr hg hn => (bcase3 (hasB F 8)).elim (fun h8 => (bcase3 (hasB F 32)).elim (fun h32 => unpad1ff F S _ _ k1 _ _ _ hk rfl rfl rfl hf0 hf1 h8 h32 g A n c m w hB hr hg hn) (fun h32 => unpad1tf F S _ _ k1 _ _ _ hk rfl rfl rfl hf0 hf1 h8 h32 g A n c m w hB hr hg hn)) (fun h8 => (bcase3 (hasB F 32)).elim (fun h32 => unpad1ft F S _ _ k1 _ _ _ hk rfl rfl rfl hf0 hf1 h8 h32 g A n c m w hB hr hg hn) (fun h32 => unpad1tt F S _ _ k1 _ _ _ hk rfl rfl rfl hf0 hf1 h8 h32 g A n c m w hB hr hg hn))) (fun args w => callFunc_at Try.func165 (by decide) rfl args w) (fun pad m hft hu g A n c w hB hr hg hn => (bcase3 (hasB F 32)).elim (fun h32 => get1f F S pad g A n c m w hB hr hg (by omega) hf0 hf1 h32) (fun h32 => get1t F S pad g A n c m w hB hr hg (by omega) hf0 hf1 h32 (by have e := un_fixed hu; have := hr.len; simp [fixedN, h32] at e; omega)))

theorem parse2 (A : Option Addr) (n c : Nat) (l : List UInt8) (most : Int) (w : World) (hr : Rd w A n c l) (hn : n ≤ 281474976710656) (hm : 0 ≤ most) (h9 : ¬ n < 9) (N : Nat) (hN : be (l.take 3) = N) (hb : ¬ most < (N : Int)) (hc : ¬ n < 9 + N) (F S : Nat) (hT : (l.getD 3 0).toNat = 2) (hF : (l.getD 4 0).toNat = F) (hS : be ((l.drop 5).take 4) % 2147483648 = S) :
    Calls Try.prog 100 #[.slice A n c, .int .i64 most] w (ParseR (inS 2 F S ((l.drop 9).take N)) w) := by
  have hF2 := (l.getD 4 0).toNat_lt
  have hf0 : (0 : Int) ≤ (F : Int) := by omega
  have hf1 : (F : Int) ≤ 255 := by omega
  have hl : ((l.drop 9).take N).length = N := by have := hr.len; simp; omega
  have hN2 : N < 16777216 := by
    have := be_take_lt l 3
    rw [hN] at this
    have e3 : (256 : Nat) ^ 3 = 16777216 := by decide
    omega
  have hbits := (bits_has F hf0 hf1).1
  exact parseS 2 163 168 169 5 false false false A n c l most w hr hn hm h9 N hN hb hc F S hT hF hS rfl (fun w => kinds2 w) (by simp [rightB, zeroB]) (by simp [fitsB]; try omega) (fun k1 g A n c m w hk hB hr hg hn => unpad0 2 F S _ _ k1 _ _ _ hk rfl rfl rfl (by decide) (by decide) (by decide) g A n c m w hB hr hg hn) (fun args w => callFunc_at Try.func169 (by decide) rfl args w) (fun pad m hft hu g A n c w hB hr hg hn => ⟨fun h => absurd h.1 (by decide), fun _ => get2 F S pad g A n c m w hB hr hg (by omega) (by have e := un_len hu rfl; rw [hl] at e; have := hr.len; simp [fitsB] at hft; omega)⟩) (fun code h => by simp [unS, padF, paddedB, fixedN] at h)

theorem parse3 (A : Option Addr) (n c : Nat) (l : List UInt8) (most : Int) (w : World) (hr : Rd w A n c l) (hn : n ≤ 281474976710656) (hm : 0 ≤ most) (h9 : ¬ n < 9) (N : Nat) (hN : be (l.take 3) = N) (hb : ¬ most < (N : Int)) (hc : ¬ n < 9 + N) (F S : Nat) (hT : (l.getD 3 0).toNat = 3) (hF : (l.getD 4 0).toNat = F) (hS : be ((l.drop 5).take 4) % 2147483648 = S) :
    Calls Try.prog 100 #[.slice A n c, .int .i64 most] w (ParseR (inS 3 F S ((l.drop 9).take N)) w) := by
  have hF2 := (l.getD 4 0).toNat_lt
  have hf0 : (0 : Int) ≤ (F : Int) := by omega
  have hf1 : (F : Int) ≤ 255 := by omega
  have hl : ((l.drop 9).take N).length = N := by have := hr.len; simp; omega
  have hN2 : N < 16777216 := by
    have := be_take_lt l 3
    rw [hN] at this
    have e3 : (256 : Nat) ^ 3 = 16777216 := by decide
    omega
  have hbits := (bits_has F hf0 hf1).1
  exact parseS 3 163 170 171 4 false false false A n c l most w hr hn hm h9 N hN hb hc F S hT hF hS rfl (fun w => kinds3 w) (by simp [rightB, zeroB]) (by simp [fitsB]; try omega) (fun k1 g A n c m w hk hB hr hg hn => unpad0 3 F S _ _ k1 _ _ _ hk rfl rfl rfl (by decide) (by decide) (by decide) g A n c m w hB hr hg hn) (fun args w => callFunc_at Try.func171 (by decide) rfl args w) (fun pad m hft hu g A n c w hB hr hg hn => ⟨fun h => absurd h.1 (by decide), fun _ => get3 F S pad g A n c m w hB hr hg (by omega) (by have e := un_len hu rfl; rw [hl] at e; have := hr.len; simp [fitsB] at hft; omega)⟩) (fun code h => by simp [unS, padF, paddedB, fixedN] at h)

theorem parse4 (A : Option Addr) (n c : Nat) (l : List UInt8) (most : Int) (w : World) (hr : Rd w A n c l) (hn : n ≤ 281474976710656) (hm : 0 ≤ most) (h9 : ¬ n < 9) (N : Nat) (hN : be (l.take 3) = N) (hb : ¬ most < (N : Int)) (hc : ¬ n < 9 + N) (F S : Nat) (hT : (l.getD 3 0).toNat = 4) (hF : (l.getD 4 0).toNat = F) (hS : be ((l.drop 5).take 4) % 2147483648 = S) :
    Calls Try.prog 100 #[.slice A n c, .int .i64 most] w (ParseR (inS 4 F S ((l.drop 9).take N)) w) := by
  have hF2 := (l.getD 4 0).toNat_lt
  have hf0 : (0 : Int) ≤ (F : Int) := by omega
  have hf1 : (F : Int) ≤ 255 := by omega
  have hl : ((l.drop 9).take N).length = N := by have := hr.len; simp; omega
  have hN2 : N < 16777216 := by
    have := be_take_lt l 3
    rw [hN] at this
    have e3 : (256 : Nat) ^ 3 = 16777216 := by decide
    omega
  have hbits := (bits_has F hf0 hf1).1
  exact parseF 4 172 173 174 175 true false false A n c l most w hr hn hm h9 N hN hb hc F S hT hF hS rfl (fun w => kinds4 w) (by simp [rightB, zeroB]) (by decide) (by decide) (fun a => decide (N % 6 = 0) && (decide (N = 0) || !a)) (fun a w => fitsSets N (by omega) a w) (fun args w => callFunc_at Try.func172 (by decide) rfl args w) (by first | (simp [fitsB]; done) | (rw [hbits]; simp [fitsB])) (fun k1 g A n c m w hk hB hr hg hn => unpad0 4 F S _ _ k1 _ _ _ hk rfl rfl rfl (by decide) (by decide) (by decide) g A n c m w hB hr hg hn) (fun args w => callFunc_at Try.func175 (by decide) rfl args w) (fun pad m hft hu g A n c w hB hr hg hn => get4 F S pad g A n c m w hB hr hg (by omega) (n / 6) (by have e := un_len hu rfl; rw [hl] at e; have := hr.len; simp [fitsB] at hft; omega) (by omega))

theorem parse5 (A : Option Addr) (n c : Nat) (l : List UInt8) (most : Int) (w : World) (hr : Rd w A n c l) (hn : n ≤ 281474976710656) (hm : 0 ≤ most) (h9 : ¬ n < 9) (N : Nat) (hN : be (l.take 3) = N) (hb : ¬ most < (N : Int)) (hc : ¬ n < 9 + N) (F S : Nat) (hT : (l.getD 3 0).toNat = 5) (hF : (l.getD 4 0).toNat = F) (hS : be ((l.drop 5).take 4) % 2147483648 = S) :
    Calls Try.prog 100 #[.slice A n c, .int .i64 most] w (ParseR (inS 5 F S ((l.drop 9).take N)) w) := by
  have hF2 := (l.getD 4 0).toNat_lt
  have hf0 : (0 : Int) ≤ (F : Int) := by omega
  have hf1 : (F : Int) ≤ 255 := by omega
  have hl : ((l.drop 9).take N).length = N := by have := hr.len; simp; omega
  have hN2 : N < 16777216 := by
    have := be_take_lt l 3
    rw [hN] at this
    have e3 : (256 : Nat) ^ 3 = 16777216 := by decide
    omega
  have hbits := (bits_has F hf0 hf1).1
  exact parseF 5 161 162 176 177 false false true A n c l most w hr hn hm h9 N hN hb hc F S hT hF hS rfl (fun w => kinds5 w) (by simp [rightB, zeroB]) (by decide) (by decide) (fun _ => true) (fun a w => fitsAll _ a w) (fun args w => callFunc_at Try.func161 (by decide) rfl args w) (by first | (simp [fitsB]; done) | (rw [hbits]; simp [fitsB])) (fun k1 g A n c m w hk hB hr hg hn => (bcase3 (hasB F 8)).elim (fun h8 => unpad5f F S _ _ k1 _ _ _ hk rfl rfl rfl hf0 hf1 h8 g A n c m w hB hr hg hn) (fun h8 => unpad5t F S _ _ k1 _ _ _ hk rfl rfl rfl hf0 hf1 h8 g A n c m w hB hr hg hn)) (fun args w => callFunc_at Try.func177 (by decide) rfl args w) (fun pad m hft hu g A n c w hB hr hg hn => get5 F S pad g A n c m w hB hr hg (by omega) (by have e := un_fixed hu; have := hr.len; simp [fixedN] at e; omega))

theorem parse6 (A : Option Addr) (n c : Nat) (l : List UInt8) (most : Int) (w : World) (hr : Rd w A n c l) (hn : n ≤ 281474976710656) (hm : 0 ≤ most) (h9 : ¬ n < 9) (N : Nat) (hN : be (l.take 3) = N) (hb : ¬ most < (N : Int)) (hc : ¬ n < 9 + N) (F S : Nat) (hT : (l.getD 3 0).toNat = 6) (hF : (l.getD 4 0).toNat = F) (hS : be ((l.drop 5).take 4) % 2147483648 = S) :
    Calls Try.prog 100 #[.slice A n c, .int .i64 most] w (ParseR (inS 6 F S ((l.drop 9).take N)) w) := by
  have hF2 := (l.getD 4 0).toNat_lt
  have hf0 : (0 : Int) ≤ (F : Int) := by omega
  have hf1 : (F : Int) ≤ 255 := by omega
  have hl : ((l.drop 9).take N).length = N := by have := hr.len; simp; omega
  have hN2 : N < 16777216 := by
    have := be_take_lt l 3
    rw [hN] at this
    have e3 : (256 : Nat) ^ 3 = 16777216 := by decide
    omega
  have hbits := (bits_has F hf0 hf1).1
  exact parseS 6 178 160 164 8 true false false A n c l most w hr hn hm h9 N hN hb hc F S hT hF hS rfl (fun w => kinds6 w) (by simp [rightB, zeroB]) (by simp [fitsB]; try omega) (fun k1 g A n c m w hk hB hr hg hn => unpad0 6 F S _ _ k1 _ _ _ hk rfl rfl rfl (by decide) (by decide) (by decide) g A n c m w hB hr hg hn) (fun args w => callFunc_at Try.func164 (by decide) rfl args w) (fun pad m hft hu g A n c w hB hr hg hn => ⟨fun h => absurd h.1 (by decide), fun _ => getRest 6 F S pad g A n c m w hB hr (by omega) (by decide)⟩) (fun code h => by simp [unS, padF, paddedB, fixedN] at h)

theorem parse7 (A : Option Addr) (n c : Nat) (l : List UInt8) (most : Int) (w : World) (hr : Rd w A n c l) (hn : n ≤ 281474976710656) (hm : 0 ≤ most) (h9 : ¬ n < 9) (N : Nat) (hN : be (l.take 3) = N) (hb : ¬ most < (N : Int)) (hc : ¬ n < 9 + N) (F S : Nat) (hT : (l.getD 3 0).toNat = 7) (hF : (l.getD 4 0).toNat = F) (hS : be ((l.drop 5).take 4) % 2147483648 = S) :
    Calls Try.prog 100 #[.slice A n c, .int .i64 most] w (ParseR (inS 7 F S ((l.drop 9).take N)) w) := by
  have hF2 := (l.getD 4 0).toNat_lt
  have hf0 : (0 : Int) ≤ (F : Int) := by omega
  have hf1 : (F : Int) ≤ 255 := by omega
  have hl : ((l.drop 9).take N).length = N := by have := hr.len; simp; omega
  have hN2 : N < 16777216 := by
    have := be_take_lt l 3
    rw [hN] at this
    have e3 : (256 : Nat) ^ 3 = 16777216 := by decide
    omega
  have hbits := (bits_has F hf0 hf1).1
  exact parseF 7 179 162 180 181 true false false A n c l most w hr hn hm h9 N hN hb hc F S hT hF hS rfl (fun w => kinds7 w) (by simp [rightB, zeroB]) (by decide) (by decide) (fun _ => decide (8 ≤ N)) (fun a w => fitsEight N a w) (fun args w => callFunc_at Try.func179 (by decide) rfl args w) (by first | (simp [fitsB]; done) | (rw [hbits]; simp [fitsB])) (fun k1 g A n c m w hk hB hr hg hn => unpad0 7 F S _ _ k1 _ _ _ hk rfl rfl rfl (by decide) (by decide) (by decide) g A n c m w hB hr hg hn) (fun args w => callFunc_at Try.func181 (by decide) rfl args w) (fun pad m hft hu g A n c w hB hr hg hn => get7 F S pad g A n c m w hB hr hg (by omega) (by have e := un_len hu rfl; rw [hl] at e; have := hr.len; simp [fitsB] at hft; omega))

theorem parse8 (A : Option Addr) (n c : Nat) (l : List UInt8) (most : Int) (w : World) (hr : Rd w A n c l) (hn : n ≤ 281474976710656) (hm : 0 ≤ most) (h9 : ¬ n < 9) (N : Nat) (hN : be (l.take 3) = N) (hb : ¬ most < (N : Int)) (hc : ¬ n < 9 + N) (F S : Nat) (hT : (l.getD 3 0).toNat = 8) (hF : (l.getD 4 0).toNat = F) (hS : be ((l.drop 5).take 4) % 2147483648 = S) :
    Calls Try.prog 100 #[.slice A n c, .int .i64 most] w (ParseR (inS 8 F S ((l.drop 9).take N)) w) := by
  have hF2 := (l.getD 4 0).toNat_lt
  have hf0 : (0 : Int) ≤ (F : Int) := by omega
  have hf1 : (F : Int) ≤ 255 := by omega
  have hl : ((l.drop 9).take N).length = N := by have := hr.len; simp; omega
  have hN2 : N < 16777216 := by
    have := be_take_lt l 3
    rw [hN] at this
    have e3 : (256 : Nat) ^ 3 = 16777216 := by decide
    omega
  have hbits := (bits_has F hf0 hf1).1
  exact parseS 8 182 183 184 4 false true false A n c l most w hr hn hm h9 N hN hb hc F S hT hF hS rfl (fun w => kinds8 w) (by simp [rightB, zeroB]) (by simp [fitsB]; try omega) (fun k1 g A n c m w hk hB hr hg hn => unpad0 8 F S _ _ k1 _ _ _ hk rfl rfl rfl (by decide) (by decide) (by decide) g A n c m w hB hr hg hn) (fun args w => callFunc_at Try.func184 (by decide) rfl args w) (fun pad m hft hu g A n c w hB hr hg hn => ⟨fun h => get8b F S pad g A n c m w hB hr hg (by omega) (by have e := un_len hu rfl; rw [hl] at e; have := hr.len; simp [fitsB] at hft; omega) h.2, fun h => get8 F S pad g A n c m w hB hr hg (by omega) (by have e := un_len hu rfl; rw [hl] at e; have := hr.len; simp [fitsB] at hft; omega) (fun hi => h ⟨rfl, hi⟩)⟩) (fun code h => by simp [unS, padF, paddedB, fixedN] at h)

theorem parse9 (A : Option Addr) (n c : Nat) (l : List UInt8) (most : Int) (w : World) (hr : Rd w A n c l) (hn : n ≤ 281474976710656) (hm : 0 ≤ most) (h9 : ¬ n < 9) (N : Nat) (hN : be (l.take 3) = N) (hb : ¬ most < (N : Int)) (hc : ¬ n < 9 + N) (F S : Nat) (hT : (l.getD 3 0).toNat = 9) (hF : (l.getD 4 0).toNat = F) (hS : be ((l.drop 5).take 4) % 2147483648 = S) :
    Calls Try.prog 100 #[.slice A n c, .int .i64 most] w (ParseR (inS 9 F S ((l.drop 9).take N)) w) := by
  have hF2 := (l.getD 4 0).toNat_lt
  have hf0 : (0 : Int) ≤ (F : Int) := by omega
  have hf1 : (F : Int) ≤ 255 := by omega
  have hl : ((l.drop 9).take N).length = N := by have := hr.len; simp; omega
  have hN2 : N < 16777216 := by
    have := be_take_lt l 3
    rw [hN] at this
    have e3 : (256 : Nat) ^ 3 = 16777216 := by decide
    omega
  have hbits := (bits_has F hf0 hf1).1
  exact parseF 9 161 163 160 164 false false false A n c l most w hr hn hm h9 N hN hb hc F S hT hF hS rfl (fun w => kinds9 w) (by simp [rightB, zeroB]) (by decide) (by decide) (fun _ => true) (fun a w => fitsAll _ a w) (fun args w => callFunc_at Try.func161 (by decide) rfl args w) (by first | (simp [fitsB]; done) | (rw [hbits]; simp [fitsB])) (fun k1 g A n c m w hk hB hr hg hn => unpad0 9 F S _ _ k1 _ _ _ hk rfl rfl rfl (by decide) (by decide) (by decide) g A n c m w hB hr hg hn) (fun args w => callFunc_at Try.func164 (by decide) rfl args w) (fun pad m hft hu g A n c w hB hr hg hn => getRest 9 F S pad g A n c m w hB hr (by omega) (by decide))

theorem known10 {T : Nat} (h : knownB (T : Int) = true) : T = 0 ∨ T = 1 ∨ T = 2 ∨ T = 3 ∨ T = 4 ∨ T = 5 ∨ T = 6 ∨ T = 7 ∨ T = 8 ∨ T = 9 := by
  simp [knownB] at h
  omega
/-- frame.Parse answers ps -/
theorem Parse_any (A : Option Addr) (n c : Nat) (l : List UInt8) (most : Int) (w : World) (hr : Rd w A n c l) (hn : n ≤ 281474976710656) : Calls Try.prog 100 #[.slice A n c, .int .i64 most] w (ParseR (ps l most) w) := by
  have hlen := hr.len
  unfold ps
  by_cases hm : most < 0
  · rw [if_pos hm]
    exact parseNeg A n c most w hm
  rw [if_neg hm]
  by_cases h9 : n < 9
  · rw [if_pos (by omega)]
    exact parseShort A n c l most w hr hn (by omega) h9
  rw [if_neg (by omega)]
  obtain ⟨N, hN⟩ : ∃ N, be (l.take 3) = N := ⟨_, rfl⟩
  rw [hN]
  by_cases hb : most < (N : Int)
  · rw [if_pos hb]
    exact parseLong A n c l most w hr hn (by omega) h9 N hN hb
  rw [if_neg hb]
  by_cases hc : n < 9 + N
  · rw [if_pos (by omega)]
    exact parseCut A n c l most w hr hn (by omega) h9 N hN hb hc
  rw [if_neg (by omega)]
  obtain ⟨T, hT⟩ : ∃ T, (l.getD 3 0).toNat = T := ⟨_, rfl⟩
  obtain ⟨F, hF⟩ : ∃ F, (l.getD 4 0).toNat = F := ⟨_, rfl⟩
  obtain ⟨S, hS⟩ : ∃ S, be ((l.drop 5).take 4) % 2147483648 = S := ⟨_, rfl⟩
  have e31 : n31 l 5 = (S : Int) := by rw [n31, hS]
  rw [hT, hF, e31]
  cases hkn : knownB (T : Int) with
  | false =>
    have hl : ((l.drop 9).take N).length = N := by simp; omega
    unfold inS
    dsimp only
    rw [hl, if_pos (by exact hkn)]
    exact parseUnknown A n c l most w hr hn (by omega) h9 N hN hb hc T F S hT hF hS hkn
  | true =>
    rcases known10 hkn with rfl | rfl | rfl | rfl | rfl | rfl | rfl | rfl | rfl | rfl
    · exact parse0 A n c l most w hr hn (by omega) h9 N hN hb hc F S hT hF hS
    · exact parse1 A n c l most w hr hn (by omega) h9 N hN hb hc F S hT hF hS
    · exact parse2 A n c l most w hr hn (by omega) h9 N hN hb hc F S hT hF hS
    · exact parse3 A n c l most w hr hn (by omega) h9 N hN hb hc F S hT hF hS
    · exact parse4 A n c l most w hr hn (by omega) h9 N hN hb hc F S hT hF hS
    · exact parse5 A n c l most w hr hn (by omega) h9 N hN hb hc F S hT hF hS
    · exact parse6 A n c l most w hr hn (by omega) h9 N hN hb hc F S hT hF hS
    · exact parse7 A n c l most w hr hn (by omega) h9 N hN hb hc F S hT hF hS
    · exact parse8 A n c l most w hr hn (by omega) h9 N hN hb hc F S hT hF hS
    · exact parse9 A n c l most w hr hn (by omega) h9 N hN hb hc F S hT hF hS
end Go.Proofs.Ytkmcakneceagpaa
