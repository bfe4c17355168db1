/- The reference's joiner as the same plain step: what In answers and leaves. -/
import Derived.Test.YtibeaombhjdakaaRJw
import Derived.Laws.BitsLemmas
set_option linter.unusedVariables false
set_option linter.unusedSimpArgs false
set_option linter.unusedSimpArgs false
namespace Go.Proofs.Ytibeaombhjdakaa
open Go.RowKit
theorem wraps_i63 (n : Int) (h0 : 0 ≤ n) (h1 : n < 2 ^ 63) : IntKind.i64.wrap n = n := by
  have e : (2 : Int) ^ 63 = 9223372036854775808 := by decide
  exact IntWalk.i64_in n (by omega)
theorem bit1 (F : Nat) (h : F < 9223372036854775808) : (bits .and .i64 (F : Int) 1 != 0) = decide (F % 2 = 1) := by
  have e : (2 : Nat) ^ 63 = 9223372036854775808 := by decide
  have h1 := (bits_nat .i64 63 (by decide) wraps_i63 F 1 (by omega) (by omega)).1
  rw [show ((1 : Nat) : Int) = 1 from rfl] at h1
  rw [h1, show F &&& 1 = F % 2 by rw [Nat.and_one_is_mod]]
  rcases Nat.mod_two_eq_zero_or_one F with h0 | h0 <;> simp [h0]
theorem and_four (F : Nat) : F &&& 4 = 4 * (F / 4 % 2) := by
  apply Nat.eq_of_testBit_eq
  intro i
  rw [Nat.testBit_and]
  have e4 : (4 : Nat) = 2 ^ 2 := rfl
  have h1 : 4 * (F / 4 % 2) = 2 ^ 2 * (F / 4 % 2) := rfl
  rw [h1, Nat.testBit_two_pow_mul, e4, Nat.testBit_two_pow]
  by_cases hi : 2 = i
  · subst hi
    have : F / 2 ^ 2 % 2 = F / 4 % 2 := rfl
    simp [Nat.testBit, Nat.shiftRight_eq_div_pow, this]
  · by_cases h2 : 2 ≤ i
    · have h3 : (F / 2 ^ 2 % 2).testBit (i - 2) = false := Nat.testBit_lt_two_pow (by
        have h4 : F / 2 ^ 2 % 2 < 2 := Nat.mod_lt _ (by decide)
        have h5 : 2 ^ 1 ≤ 2 ^ (i - 2) := Nat.pow_le_pow_right (by decide) (by omega)
        omega)
      simp [hi, h2]
      exact h3
    · simp [hi, h2]
theorem bit4 (F : Nat) (h : F < 9223372036854775808) : (bits .and .i64 (F : Int) 4 == 0) = decide (F / 4 % 2 = 0) := by
  have e : (2 : Nat) ^ 63 = 9223372036854775808 := by decide
  have h1 := (bits_nat .i64 63 (by decide) wraps_i63 F 4 (by omega) (by omega)).1
  rw [show ((4 : Nat) : Int) = 4 from rfl] at h1
  rw [h1, and_four]
  rcases Nat.mod_two_eq_zero_or_one (F / 4) with h0 | h0 <;> simp [h0]
/-- the reference's joiner at g -/
structure JQ (w : World) (g : Nat) (most base : Nat) (st : Int) (en : Bool) (l : List UInt8) : Prop where
  ex : ∃ A n c, w.heap[g]? = some (.cells #[.int .i64 most, .int .i64 st, .bool en, .slice A n c] 42) ∧ Ow w base 5 1 A n c (l.map u8) ∧ g ∉ ob A
  len : l.length ≤ most
  base : base ≤ w.heap.size
theorem JQ.keep {T : List Nat} {w w' : World} {g most base : Nat} {st : Int} {en : Bool} {l : List UInt8} (h : JQ w g most base st en l) (k : Kp T w w') (hT : ∀ t, t ∈ T → t ≠ g ∧ t < base) : JQ w' g most base st en l := by
  obtain ⟨A, n, c, hj, ho, hg⟩ := h.ex
  exact ⟨⟨A, n, c, k.heap hj (fun ht => (hT _ ht).1 rfl), ho.keep k (fun b hb ht => by have := (ho.base b hb).1; have := (hT b ht).2; omega), hg⟩, h.len, Nat.le_trans h.base k.size⟩
def QPost (f : Fr) (g most base : Nat) (st : Int) (en : Bool) (l : List UInt8) (w : World) (r : JR) (e : Ending) (w' : World) : Prop :=
  match r with
  | .pass => e = .returned (.tuple #[.agg #[.int .i64 f.ty, .int .i64 f.fl, .int .i64 f.st, .slice f.pA f.pn f.pc, .int .i64 f.pad, .int .u32 f.code, .int .i64 f.last, .int .i64 f.inc, .int .i64 f.dep, .bool f.only, .int .i64 f.wt, .slice f.sA f.sn f.sc], .bool true, .agg #[.bool false, .int .i64 0, .int .i64 0]]) ∧ JQ w' g most base st en l ∧ Kp [] w w'
  | .fault c => e = .returned (.tuple #[.agg #[.int .i64 0, .int .i64 0, .int .i64 0, .slice none 0 0, .int .i64 0, .int .u32 0, .int .i64 0, .int .i64 0, .int .i64 0, .bool false, .int .i64 0, .slice none 0 0], .bool false, .agg #[.bool true, .int .i64 0, .int .i64 c]]) ∧ JQ w' g most base 0 false [] ∧ KX base [g] w w'
  | .more st' en' l' => e = .returned (.tuple #[.agg #[.int .i64 0, .int .i64 0, .int .i64 0, .slice none 0 0, .int .i64 0, .int .u32 0, .int .i64 0, .int .i64 0, .int .i64 0, .bool false, .int .i64 0, .slice none 0 0], .bool false, .agg #[.bool false, .int .i64 0, .int .i64 0]]) ∧ JQ w' g most base st' en' l' ∧ KX base [g] w w'
  | .whole fl st' l' => ∃ A2 n2 c2, e = .returned (.tuple #[.agg #[.int .i64 1, .int .i64 fl, .int .i64 st', .slice A2 n2 c2, .int .i64 0, .int .u32 0, .int .i64 0, .int .i64 0, .int .i64 0, .bool false, .int .i64 0, .slice none 0 0], .bool true, .agg #[.bool false, .int .i64 0, .int .i64 0]]) ∧ JQ w' g most base 0 false [] ∧ Ow w' base 5 1 A2 n2 c2 (l'.map u8) ∧ g ∉ ob A2 ∧ l'.length = n2 ∧ KX base [g] w w'
theorem qfault {w w' : World} {g most base : Nat} (hb : base ≤ w.heap.size) (hj : w'.heap[g]? = some (.cells #[.int .i64 most, .int .i64 0, .bool false, .slice none 0 0] 42)) (k : Kp [g] w w') : JQ w' g most base 0 false [] ∧ KX base [g] w w' :=
  ⟨⟨⟨none, 0, 0, hj, Ow.nil _ _ _ _, by simp [ob]⟩, by simp, Nat.le_trans hb k.size⟩, KX.of k (by simp)⟩
set_option maxHeartbeats 4000000 in
set_option maxRecDepth 100000 in
theorem RInP (w : World) (g most base : Nat) (hm : most ≤ 65536) (st : Int) (en : Bool) (l : List UInt8) (f : Fr) (F : Nat) (hF : F ≤ 9223372036854775807) (hfl : f.fl = (F : Int)) (lf : List UInt8) (h : JQ w g most base st en l) (hidle : st = 0 → en = false ∧ l = []) (hrf : Rd w f.pA f.pn f.pc lf) (hfo : 0 < f.pn → ∀ b, b ∈ ob f.pA → b ≠ g) (hpn : f.pn ≤ 140737488351232) :
    Calls Try.prog 7 #[.pointer (some ⟨g, 0, none⟩), .agg #[.int .i64 f.ty, .int .i64 f.fl, .int .i64 f.st, .slice f.pA f.pn f.pc, .int .i64 f.pad, .int .u32 f.code, .int .i64 f.last, .int .i64 f.inc, .int .i64 f.dep, .bool f.only, .int .i64 f.wt, .slice f.sA f.sn f.sc]] w (QPost f g most base st en l w (jstep most st en l f.ty f.fl f.st lf)) := by
  obtain ⟨⟨A, n, c, hj, ho, hg⟩, hlen, hbs⟩ := h
  have hl : l.length = n := by have := ho.len; simpa using this
  have hlf := hrf.len
  have hn : n ≤ most := by omega
  have hob := ho.base
  have hKX : ∀ w', Kp (g :: ob A) w w' → KX base [g] w w' := fun w' k => KX.of k (fun t ht => by
    rcases List.mem_cons.1 ht with rfl | h1
    · simp
    · exact .inr (hob t h1).1)
  have b1 : (bits .and .i64 f.fl 1 != 0) = decide (F % 2 = 1) := by rw [hfl]; exact bit1 F (by omega)
  have b4 : (bits .and .i64 f.fl 4 == 0) = decide (F / 4 % 2 = 0) := by rw [hfl]; exact bit4 F (by omega)
  unfold jstep
  rw [b1, b4]
  by_cases hst : st = 0
  · obtain ⟨rfl, rfl⟩ := hidle hst
    rw [if_pos ⟨hst, rfl⟩]
    by_cases h9 : f.ty = 9
    · rw [if_pos h9]
      refine (RIn_protC g f w most st false A n c hj hst h9).mono ?_
      rintro e w' ⟨rfl, h1, h2⟩
      exact ⟨rfl, qfault hbs h1 h2⟩
    · rw [if_neg h9]
      by_cases h1 : f.ty = 1
      · rw [if_pos h1]
        simp only [List.nil_append, List.length_nil, Nat.zero_add]
        have hz : F % 2 = 0 ∨ F % 2 = 1 := by omega
        by_cases hc : most < lf.length
        · rw [if_pos hc]
          rcases hz with hz | hz
          · refine (RIn_calmH0 g f F w most st false A n c hj hfl hm hn hpn (by omega) hst h1 hz).mono ?_
            rintro e w' ⟨rfl, h1, h2⟩
            exact ⟨rfl, qfault hbs h1 h2⟩
          · refine (RIn_calmH1 g f F w most st false A n c hj hfl hm hn hpn (by omega) hst h1 hz).mono ?_
            rintro e w' ⟨rfl, h1, h2⟩
            exact ⟨rfl, qfault hbs h1 h2⟩
        · rw [if_neg hc]
          by_cases hd : F / 4 % 2 = 0
          · rw [if_pos (by simpa using hd)]
            rcases hz with hz | hz
            · refine (RIn_moreH0 g f F w most st false A n c base [] lf hj hfl hF hm hn hpn (by omega) hbs ho hg hrf hfo hd hst h1 hz).mono ?_
              rintro e w' ⟨rfl, A', c', k1, k2, k3, k4⟩
              rw [show decide (F % 2 = 1) = false by simp [hz]]
              exact ⟨rfl, ⟨⟨A', _, c', k1, k2, k3.1⟩, by omega, Nat.le_trans hbs k4.size⟩, hKX _ k4⟩
            · refine (RIn_moreH1 g f F w most st false A n c base [] lf hj hfl hF hm hn hpn (by omega) hbs ho hg hrf hfo hd hst h1 hz).mono ?_
              rintro e w' ⟨rfl, A', c', k1, k2, k3, k4⟩
              rw [show decide (F % 2 = 1) = true by simp [hz]]
              exact ⟨rfl, ⟨⟨A', _, c', k1, k2, k3.1⟩, by omega, Nat.le_trans hbs k4.size⟩, hKX _ k4⟩
          · rw [if_neg (by simpa using hd)]
            have hd1 : F / 4 % 2 = 1 := by omega
            rcases hz with hz | hz
            · refine (RIn_wholeH0 g f F w most st false A n c base [] lf hj hfl hF hm hn hpn (by omega) hbs ho hg hrf hfo hd1 hst h1 hz).mono ?_
              rintro e w' ⟨A', c', rfl, k1, k2, k3, k4⟩
              rw [show decide (F % 2 = 1) = false by simp [hz]]
              exact ⟨A', _, c', rfl, ⟨⟨none, 0, 0, k1, Ow.nil _ _ _ _, by simp [ob]⟩, by simp, Nat.le_trans hbs k4.size⟩, k2, k3.1, by omega, hKX _ k4⟩
            · refine (RIn_wholeH1 g f F w most st false A n c base [] lf hj hfl hF hm hn hpn (by omega) hbs ho hg hrf hfo hd1 hst h1 hz).mono ?_
              rintro e w' ⟨A', c', rfl, k1, k2, k3, k4⟩
              rw [show decide (F % 2 = 1) = true by simp [hz]]
              exact ⟨A', _, c', rfl, ⟨⟨none, 0, 0, k1, Ow.nil _ _ _ _, by simp [ob]⟩, by simp, Nat.le_trans hbs k4.size⟩, k2, k3.1, by omega, hKX _ k4⟩
      · rw [if_neg h1]
        refine (RIn_pass g f w most st false A n c hj hst h9 h1).mono ?_
        rintro e w' ⟨rfl, k⟩
        exact ⟨rfl, ⟨⟨A, n, c, k.heap hj (by simp), ho.keep k (by simp), hg⟩, hlen, Nat.le_trans hbs k.size⟩, k⟩
  · rw [if_neg (fun k => hst k.1)]
    by_cases h9 : f.ty = 9
    · by_cases hs : f.st = st
      · rw [if_pos ⟨h9, hs⟩]
        by_cases hc : most < l.length + lf.length
        · rw [if_pos hc]
          refine (RIn_calmC g f F w most st en A n c hj hfl hm hn hpn (by omega) hst h9 hs).mono ?_
          rintro e w' ⟨rfl, h1, h2⟩
          exact ⟨rfl, qfault hbs h1 h2⟩
        · rw [if_neg hc]
          by_cases hd : F / 4 % 2 = 0
          · rw [if_pos (by simpa using hd)]
            refine (RIn_moreC g f F w most st en A n c base l lf hj hfl hF hm hn hpn (by omega) hbs ho hg hrf hfo hd hst h9 hs).mono ?_
            rintro e w' ⟨rfl, A', c', k1, k2, k3, k4⟩
            exact ⟨rfl, ⟨⟨A', _, c', k1, k2, k3.1⟩, by simp; omega, Nat.le_trans hbs k4.size⟩, hKX _ k4⟩
          · rw [if_neg (by simpa using hd)]
            have hd1 : F / 4 % 2 = 1 := by omega
            cases en with
            | true =>
              refine (RIn_wholeEC g f F w most st A n c base l lf hj hfl hF hm hn hpn (by omega) hbs ho hg hrf hfo hd1 hst h9 hs).mono ?_
              rintro e w' ⟨A', c', rfl, k1, k2, k3, k4⟩
              exact ⟨A', _, c', rfl, ⟨⟨none, 0, 0, k1, Ow.nil _ _ _ _, by simp [ob]⟩, by simp, Nat.le_trans hbs k4.size⟩, k2, k3.1, by simp; omega, hKX _ k4⟩
            | false =>
              refine (RIn_wholeNC g f F w most st A n c base l lf hj hfl hF hm hn hpn (by omega) hbs ho hg hrf hfo hd1 hst h9 hs).mono ?_
              rintro e w' ⟨A', c', rfl, k1, k2, k3, k4⟩
              exact ⟨A', _, c', rfl, ⟨⟨none, 0, 0, k1, Ow.nil _ _ _ _, by simp [ob]⟩, by simp, Nat.le_trans hbs k4.size⟩, k2, k3.1, by simp; omega, hKX _ k4⟩
      · rw [if_neg (fun k => hs k.2)]
        refine (RIn_protB g f w most st en A n c hj hst h9 hs).mono ?_
        rintro e w' ⟨rfl, h1, h2⟩
        exact ⟨rfl, qfault hbs h1 h2⟩
    · rw [if_neg (fun k => h9 k.1)]
      refine (RIn_protA g f w most st en A n c hj hst h9).mono ?_
      rintro e w' ⟨rfl, h1, h2⟩
      exact ⟨rfl, qfault hbs h1 h2⟩
end Go.Proofs.Ytibeaombhjdakaa
