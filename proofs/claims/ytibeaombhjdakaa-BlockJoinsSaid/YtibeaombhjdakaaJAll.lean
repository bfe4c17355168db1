/- The joiner as one plain step: what In answers and leaves. -/
import Derived.Test.YtibeaombhjdakaaRf
set_option linter.unusedVariables false
set_option linter.unusedSimpArgs false
set_option linter.unusedSimpArgs false
namespace Go.Proofs.Ytibeaombhjdakaa
open Go.RowKit

/-- what a call of In comes to -/
inductive JR where
  | pass
  | fault (code : Int)
  | more (st : Int) (en : Bool) (l : List UInt8)
  | whole (fl st : Int) (l : List UInt8)
/-- the step: st, en, l the open block -/
def jstep (most : Nat) (st : Int) (en : Bool) (l : List UInt8) (ty fl fst : Int) (lf : List UInt8) : JR :=
  if st = 0 ∧ en = false then
    (if ty = 9 then .fault 1 else if ty = 1 then (if most < l.length + lf.length then .fault 11 else if (bits .and .i64 fl 4 == 0) then .more fst (bits .and .i64 fl 1 != 0) (l ++ lf) else .whole (if (bits .and .i64 fl 1 != 0) then 5 else 4) fst (l ++ lf)) else .pass)
  else if ty = 9 ∧ fst = st then (if most < l.length + lf.length then .fault 11 else if (bits .and .i64 fl 4 == 0) then .more st en (l ++ lf) else .whole (if en then 5 else 4) st (l ++ lf))
  else .fault 1

/-- a joiner at g: what is open; its row lies from base on -/
structure JS (w : World) (g : Nat) (most base : Nat) (st : Int) (en : Bool) (l : List UInt8) : Prop where
  ex : ∃ A n c, Jn w g most st en A n c ∧ Ow w base 5 1 A n c (l.map u8) ∧ g ∉ ob A
  len : l.length ≤ most
  base : base ≤ w.heap.size
theorem JS.keep {T : List Nat} {w w' : World} {g most base : Nat} {st : Int} {en : Bool} {l : List UInt8} (h : JS w g most base st en l) (k : Kp T w w') (hT : ∀ t, t ∈ T → t ≠ g ∧ t < base) : JS w' g most base st en l := by
  obtain ⟨A, n, c, hj, ho, hg⟩ := h.ex
  exact ⟨⟨A, n, c, hj.keep k (fun ht => (hT _ ht).1 rfl), ho.keep k (fun b hb ht => by have := (ho.base b hb).1; have := (hT b ht).2; omega), hg⟩, h.len, Nat.le_trans h.base k.size⟩

def JPost (f : Fr) (g most base : Nat) (st : Int) (en : Bool) (l : List UInt8) (w : World) (r : JR) (e : Ending) (w' : World) : Prop :=
  match r with
  | .pass => e = .returned (.tuple #[.agg #[.int .i64 f.ty, .int .i64 f.fl, .int .i64 f.st, .slice f.pA f.pn f.pc, .int .i64 f.pad, .int .u32 f.code, .int .i64 f.last, .int .i64 f.inc, .int .i64 f.dep, .bool f.only, .int .i64 f.wt, .slice f.sA f.sn f.sc], .bool true, .agg #[.bool false, .int .i64 0, .int .i64 0]]) ∧ JS w' g most base st en l ∧ Kp [] w w'
  | .fault c => e = .returned (.tuple #[.agg #[.int .i64 0, .int .i64 0, .int .i64 0, .slice none 0 0, .int .i64 0, .int .u32 0, .int .i64 0, .int .i64 0, .int .i64 0, .bool false, .int .i64 0, .slice none 0 0], .bool false, .agg #[.bool true, .int .i64 0, .int .i64 c]]) ∧ JS w' g most base 0 false [] ∧ KX base [g] w w'
  | .more st' en' l' => e = .returned (.tuple #[.agg #[.int .i64 0, .int .i64 0, .int .i64 0, .slice none 0 0, .int .i64 0, .int .u32 0, .int .i64 0, .int .i64 0, .int .i64 0, .bool false, .int .i64 0, .slice none 0 0], .bool false, .agg #[.bool false, .int .i64 0, .int .i64 0]]) ∧ JS w' g most base st' en' l' ∧ KX base [g] w w'
  | .whole fl st' l' => ∃ A2 n2 c2, e = .returned (.tuple #[.agg #[.int .i64 1, .int .i64 fl, .int .i64 st', .slice A2 n2 c2, .int .i64 0, .int .u32 0, .int .i64 0, .int .i64 0, .int .i64 0, .bool false, .int .i64 0, .slice none 0 0], .bool true, .agg #[.bool false, .int .i64 0, .int .i64 0]]) ∧ JS w' g most base 0 false [] ∧ Ow w' base 5 1 A2 n2 c2 (l'.map u8) ∧ g ∉ ob A2 ∧ l'.length = n2 ∧ KX base [g] w w'

theorem jfault {w w' : World} {g most base : Nat} (hb : base ≤ w.heap.size) (hj : Jn w' g most 0 false none 0 0) (k : Kp [g] w w') : JS w' g most base 0 false [] ∧ KX base [g] w w' :=
  ⟨⟨⟨none, 0, 0, hj, Ow.nil _ _ _ _, by simp [ob]⟩, by simp, Nat.le_trans hb k.size⟩, KX.of k (by simp)⟩

set_option maxHeartbeats 1000000 in
theorem InP (w : World) (g most base : Nat) (hm : most ≤ 65536) (st : Int) (en : Bool) (l : List UInt8) (f : Fr) (lf : List UInt8) (h : JS w g most base st en l) (hrf : Rd w f.pA f.pn f.pc lf) (hfo : 0 < f.pn → ∀ b, b ∈ ob f.pA → b ≠ g) (hpn : f.pn ≤ 140737488351232) :
    Calls Try.prog 6 #[.pointer (some ⟨g, 0, none⟩), .agg #[.int .i64 f.ty, .int .i64 f.fl, .int .i64 f.st, .slice f.pA f.pn f.pc, .int .i64 f.pad, .int .u32 f.code, .int .i64 f.last, .int .i64 f.inc, .int .i64 f.dep, .bool f.only, .int .i64 f.wt, .slice f.sA f.sn f.sc]] w (JPost f g most base st en l w (jstep most st en l f.ty f.fl f.st lf)) := by
  obtain ⟨⟨A, n, c, hj, ho, hg⟩, hlen, hbs⟩ := h
  have hl : l.length = n := by have := ho.len; simpa using this
  have hlf := hrf.len
  have hm' : 0 ≤ (most : Int) ∧ (most : Int) ≤ 65536 := by omega
  have hn : (n : Int) ≤ (most : Int) := by omega
  have hw : IntKind.i64.wrap ((most : Int) - ↑n) = (most : Int) - ↑n := by apply IntWalk.i64_in <;> omega
  have hob := ho.base
  have hKX : ∀ w', Kp (g :: ob A) w w' → KX base [g] w w' := fun w' k => KX.of k (fun t ht => by
    rcases List.mem_cons.1 ht with rfl | h1
    · simp
    · exact .inr (hob t h1).1)
  have fin : ∀ {w' A2 c2}, Jn w' g most 0 false none 0 0 → Ow w' base 5 1 A2 (n + f.pn) c2 ((l ++ lf).map u8) → g ∉ ob A2 → Kp (g :: ob A) w w' → JS w' g most base 0 false [] ∧ Ow w' base 5 1 A2 (n + f.pn) c2 ((l ++ lf).map u8) ∧ g ∉ ob A2 ∧ (l ++ lf).length = n + f.pn ∧ KX base [g] w w' :=
    fun h1 h2 h3 h4 => ⟨⟨⟨none, 0, 0, h1, Ow.nil _ _ _ _, by simp [ob]⟩, by simp, Nat.le_trans hbs h4.size⟩, h2, h3, by simp; omega, hKX _ h4⟩
  have more : ∀ {w' A2 c2 st' en'}, most ≥ n + f.pn → Jn w' g most st' en' A2 (n + f.pn) c2 → Ow w' base 5 1 A2 (n + f.pn) c2 ((l ++ lf).map u8) → g ∉ ob A2 → Kp (g :: ob A) w w' → JS w' g most base st' en' (l ++ lf) ∧ KX base [g] w w' :=
    fun h0 h1 h2 h3 h4 => ⟨⟨⟨_, _, _, h1, h2, h3⟩, by simp; omega, Nat.le_trans hbs h4.size⟩, hKX _ h4⟩
  unfold jstep
  by_cases hidle : st = 0 ∧ en = false
  · obtain ⟨rfl, rfl⟩ := hidle
    rw [if_pos ⟨rfl, rfl⟩]
    by_cases h9 : f.ty = 9
    · rw [if_pos h9]
      refine (In_prot0 w g most A n c f hj (by simp [h9])).mono ?_
      rintro e w' ⟨rfl, h1, h2⟩
      exact ⟨rfl, jfault hbs h1 h2⟩
    · rw [if_neg h9]
      by_cases h1 : f.ty = 1
      · rw [if_pos h1]
        by_cases hc : most < l.length + lf.length
        · rw [if_pos hc]
          refine (In_headC w g most A n c f hj (by simp [h1]) (by simp [h1]) hm' hn hw (by simp; omega)).mono ?_
          rintro e w' ⟨rfl, h1, h2⟩
          exact ⟨rfl, jfault hbs h1 h2⟩
        · rw [if_neg hc]
          by_cases hd : (bits .and .i64 f.fl 4 == 0) = true
          · rw [if_pos hd]
            refine (In_headN w g most A n c f hj (by simp [h1]) (by simp [h1]) hm' hn hw (by simp; omega) base hbs l lf ho hg hrf hfo hpn hd).mono ?_
            rintro e w' ⟨rfl, A', c', h1, h2, h3, h4⟩
            exact ⟨rfl, more (by omega) h1 h2 h3.1 h4⟩
          · rw [if_neg hd]
            by_cases he : (bits .and .i64 f.fl 1 != 0) = true
            · rw [if_pos he]
              refine (In_head1W w g most A n c f hj (by simp [h1]) (by simp [h1]) he hm' hn hw (by simp; omega) base hbs l lf ho hg hrf hfo hpn (by simpa using hd)).mono ?_
              rintro e w' ⟨A2, c2, rfl, h1, h2, h3, h4⟩
              exact ⟨A2, _, c2, rfl, fin h1 h2 h3.1 h4⟩
            · rw [if_neg he]
              refine (In_head0W w g most A n c f hj (by simp [h1]) (by simp [h1]) (by simpa using he) hm' hn hw (by simp; omega) base hbs l lf ho hg hrf hfo hpn (by simpa using hd)).mono ?_
              rintro e w' ⟨A2, c2, rfl, h1, h2, h3, h4⟩
              exact ⟨A2, _, c2, rfl, fin h1 h2 h3.1 h4⟩
      · rw [if_neg h1]
        refine (In_pass w g most A n c f hj (by simp [h9]) (by simp [h1])).mono ?_
        rintro e w' ⟨rfl, h1, h2⟩
        exact ⟨rfl, ⟨⟨A, n, c, h1, ho.keep h2 (by simp), hg⟩, hlen, Nat.le_trans hbs h2.size⟩, h2⟩
  · rw [if_neg hidle]
    by_cases hs : st = 0
    · subst hs
      obtain rfl : en = true := by cases en <;> simp_all
      by_cases h9 : f.ty = 9 ∧ f.st = 0
      · rw [if_pos h9]
        obtain ⟨h9, hst⟩ := h9
        by_cases hc : most < l.length + lf.length
        · rw [if_pos hc]
          refine (In_contBC w g most A n c f hj (by simp [h9]) (by simp [h9]) (by simp [hst]) hm' hn hw (by simp; omega)).mono ?_
          rintro e w' ⟨rfl, h1, h2⟩
          exact ⟨rfl, jfault hbs h1 h2⟩
        · rw [if_neg hc]
          by_cases hd : (bits .and .i64 f.fl 4 == 0) = true
          · rw [if_pos hd]
            refine (In_contBN w g most A n c f hj (by simp [h9]) (by simp [h9]) (by simp [hst]) hm' hn hw (by simp; omega) base hbs l lf ho hg hrf hfo hpn hd).mono ?_
            rintro e w' ⟨rfl, A', c', h1, h2, h3, h4⟩
            exact ⟨rfl, more (by omega) h1 h2 h3.1 h4⟩
          · rw [if_neg hd]
            refine (In_contBW w g most A n c f hj (by simp [h9]) (by simp [h9]) (by simp [hst]) hm' hn hw (by simp; omega) base hbs l lf ho hg hrf hfo hpn (by simpa using hd)).mono ?_
            rintro e w' ⟨A2, c2, rfl, h1, h2, h3, h4⟩
            exact ⟨A2, _, c2, rfl, fin h1 h2 h3.1 h4⟩
      · rw [if_neg h9]
        by_cases h90 : f.ty = 9
        · refine (In_protB1 w g most A n c f hj (by simp [h90]) (by simp [h90]) (by simp; exact fun h => h9 ⟨h90, h⟩)).mono ?_
          rintro e w' ⟨rfl, h1, h2⟩
          exact ⟨rfl, jfault hbs h1 h2⟩
        · refine (In_protA1 w g most A n c f hj (by simp [h90]) (by simp [h90])).mono ?_
          rintro e w' ⟨rfl, h1, h2⟩
          exact ⟨rfl, jfault hbs h1 h2⟩
    · by_cases h9 : f.ty = 9 ∧ f.st = st
      · rw [if_pos h9]
        obtain ⟨h9, hst⟩ := h9
        by_cases hc : most < l.length + lf.length
        · rw [if_pos hc]
          refine (In_contAC w g most st en A n c f hj hs (by simp [h9]) (by simp [h9]) (by simp [hst]) hm' hn hw (by simp; omega)).mono ?_
          rintro e w' ⟨rfl, h1, h2⟩
          exact ⟨rfl, jfault hbs h1 h2⟩
        · rw [if_neg hc]
          by_cases hd : (bits .and .i64 f.fl 4 == 0) = true
          · rw [if_pos hd]
            refine (In_contAN w g most st en A n c f hj hs (by simp [h9]) (by simp [h9]) (by simp [hst]) hm' hn hw (by simp; omega) base hbs l lf ho hg hrf hfo hpn hd).mono ?_
            rintro e w' ⟨rfl, A', c', h1, h2, h3, h4⟩
            exact ⟨rfl, more (by omega) h1 h2 h3.1 h4⟩
          · rw [if_neg hd]
            cases en
            · refine (In_contAWfalse w g most st A n c f hj hs (by simp [h9]) (by simp [h9]) (by simp [hst]) hm' hn hw (by simp; omega) base hbs l lf ho hg hrf hfo hpn (by simpa using hd)).mono ?_
              rintro e w' ⟨A2, c2, rfl, h1, h2, h3, h4⟩
              exact ⟨A2, _, c2, rfl, fin h1 h2 h3.1 h4⟩
            · refine (In_contAWtrue w g most st A n c f hj hs (by simp [h9]) (by simp [h9]) (by simp [hst]) hm' hn hw (by simp; omega) base hbs l lf ho hg hrf hfo hpn (by simpa using hd)).mono ?_
              rintro e w' ⟨A2, c2, rfl, h1, h2, h3, h4⟩
              exact ⟨A2, _, c2, rfl, fin h1 h2 h3.1 h4⟩
      · rw [if_neg h9]
        by_cases h90 : f.ty = 9
        · refine (In_protB0 w g most st en A n c f hj hs (by simp [h90]) (by simp [h90]) (by simp; exact fun h => h9 ⟨h90, h⟩)).mono ?_
          rintro e w' ⟨rfl, h1, h2⟩
          exact ⟨rfl, jfault hbs h1 h2⟩
        · refine (In_protA0 w g most st en A n c f hj hs (by simp [h90]) (by simp [h90])).mono ?_
          rintro e w' ⟨rfl, h1, h2⟩
          exact ⟨rfl, jfault hbs h1 h2⟩
end Go.Proofs.Ytibeaombhjdakaa
