/- The joiner as one plain step, its row told by blocks (two machines may run side by side): the program's. -/
import Derived.Test.YtibeaombhjdakaaJAll
set_option linter.unusedVariables false
set_option linter.unusedSimpArgs false
set_option linter.unusedSimpArgs false
namespace Go.Proofs.Ytibeaombhjdakaa
open Go.RowKit
def JR.nx (st : Int) (en : Bool) (l : List UInt8) : JR → Int × Bool × List UInt8
  | .pass => (st, en, l)
  | .fault _ => (0, false, [])
  | .more a b c => (a, b, c)
  | .whole _ _ _ => (0, false, [])
def JR.hd (f : Fr) : JR → Int × Int × Int
  | .pass => (f.ty, f.fl, f.st)
  | .fault _ => (0, 0, 0)
  | .more _ _ _ => (0, 0, 0)
  | .whole fl st _ => (1, fl, st)
def JR.py (lf : List UInt8) : JR → List UInt8
  | .pass => lf
  | .fault _ => []
  | .more _ _ _ => []
  | .whole _ _ l => l
def JR.done : JR → Bool
  | .pass => true
  | .fault _ => false
  | .more _ _ _ => false
  | .whole _ _ _ => true
def JR.bad : JR → Bool
  | .fault _ => true
  | _ => false
def JR.cd : JR → Int
  | .fault c => c
  | _ => 0
/-- what In leaves, S the machine's own state over its row's blocks -/
def DPost (f : Fr) (lf : List UInt8) (g : Nat) (D : List Nat) (st : Int) (en : Bool) (l : List UInt8) (w : World) (S : World → List Nat → Int → Bool → List UInt8 → Prop) (r : JR) (e : Ending) (w' : World) : Prop :=
  ∃ (fo : Fr) (D' : List Nat), e = .returned (.tuple #[.agg #[.int .i64 fo.ty, .int .i64 fo.fl, .int .i64 fo.st, .slice fo.pA fo.pn fo.pc, .int .i64 fo.pad, .int .u32 fo.code, .int .i64 fo.last, .int .i64 fo.inc, .int .i64 fo.dep, .bool fo.only, .int .i64 fo.wt, .slice fo.sA fo.sn fo.sc], .bool r.done, .agg #[.bool r.bad, .int .i64 0, .int .i64 r.cd]]) ∧ (fo.ty = (r.hd f).1 ∧ fo.fl = (r.hd f).2.1 ∧ fo.st = (r.hd f).2.2) ∧ Rd w' fo.pA fo.pn fo.pc (r.py lf) ∧ (0 < fo.pn → ∀ b, b ∈ ob fo.pA → 0 < f.pn ∧ b ∈ ob f.pA ∨ b ∈ D ∨ w.heap.size ≤ b) ∧ S w' D' (r.nx st en l).1 (r.nx st en l).2.1 (r.nx st en l).2.2 ∧ (∀ t, t ∈ D' → t ∈ D ∨ w.heap.size ≤ t) ∧ (∀ t, t ∈ D' → t < w'.heap.size) ∧ Kp (g :: D) w w'
section
variable {f : Fr} {lf : List UInt8} {g : Nat} {D D' : List Nat} {st st' : Int} {en en' : Bool} {l l' : List UInt8} {w w' : World} {S : World → List Nat → Int → Bool → List UInt8 → Prop}
theorem D_fault {cd : Int} (hS : S w' [] 0 false []) (k : Kp [g] w w') : DPost f lf g D st en l w S (.fault cd) (.returned (.tuple #[.agg #[.int .i64 0, .int .i64 0, .int .i64 0, .slice none 0 0, .int .i64 0, .int .u32 0, .int .i64 0, .int .i64 0, .int .i64 0, .bool false, .int .i64 0, .slice none 0 0], .bool false, .agg #[.bool true, .int .i64 0, .int .i64 cd]])) w' :=
  ⟨⟨0, 0, 0, none, 0, 0, 0, 0, 0, 0, 0, false, 0, none, 0, 0⟩, [], rfl, ⟨rfl, rfl, rfl⟩, Rd.nil _ _ _, by intro h; exact absurd h (by simp), hS, by simp, by simp, k.mono (by simp)⟩
theorem D_pass (hS : S w' D' st en l) (hr : Rd w f.pA f.pn f.pc lf) (d1 : ∀ t, t ∈ D' → t ∈ D ∨ w.heap.size ≤ t) (d2 : ∀ t, t ∈ D' → t < w'.heap.size) (k : Kp [] w w') : DPost f lf g D st en l w S .pass (.returned (.tuple #[.agg #[.int .i64 f.ty, .int .i64 f.fl, .int .i64 f.st, .slice f.pA f.pn f.pc, .int .i64 f.pad, .int .u32 f.code, .int .i64 f.last, .int .i64 f.inc, .int .i64 f.dep, .bool f.only, .int .i64 f.wt, .slice f.sA f.sn f.sc], .bool true, .agg #[.bool false, .int .i64 0, .int .i64 0]])) w' :=
  ⟨f, D', rfl, ⟨rfl, rfl, rfl⟩, hr.keep k (by simp), fun h b hb => .inl ⟨h, hb⟩, hS, d1, d2, k.nil⟩
theorem D_more (hS : S w' D' st' en' l') (d1 : ∀ t, t ∈ D' → t ∈ D ∨ w.heap.size ≤ t) (d2 : ∀ t, t ∈ D' → t < w'.heap.size) (k : Kp (g :: D) w w') : DPost f lf g D st en l w S (.more st' en' l') (.returned (.tuple #[.agg #[.int .i64 0, .int .i64 0, .int .i64 0, .slice none 0 0, .int .i64 0, .int .u32 0, .int .i64 0, .int .i64 0, .int .i64 0, .bool false, .int .i64 0, .slice none 0 0], .bool false, .agg #[.bool false, .int .i64 0, .int .i64 0]])) w' :=
  ⟨⟨0, 0, 0, none, 0, 0, 0, 0, 0, 0, 0, false, 0, none, 0, 0⟩, D', rfl, ⟨rfl, rfl, rfl⟩, Rd.nil _ _ _, by intro h; exact absurd h (by simp), hS, d1, d2, k⟩
theorem D_whole {fl : Int} {A2 : Option Addr} {n2 c2 : Nat} (hS : S w' [] 0 false []) (hr : Rd w' A2 n2 c2 l') (hA : ∀ b, b ∈ ob A2 → b ∈ D ∨ w.heap.size ≤ b) (k : Kp (g :: D) w w') : DPost f lf g D st en l w S (.whole fl st' l') (.returned (.tuple #[.agg #[.int .i64 1, .int .i64 fl, .int .i64 st', .slice A2 n2 c2, .int .i64 0, .int .u32 0, .int .i64 0, .int .i64 0, .int .i64 0, .bool false, .int .i64 0, .slice none 0 0], .bool true, .agg #[.bool false, .int .i64 0, .int .i64 0]])) w' :=
  ⟨⟨1, fl, st', A2, n2, c2, 0, 0, 0, 0, 0, false, 0, none, 0, 0⟩, [], rfl, ⟨rfl, rfl, rfl⟩, hr, fun _ b hb => .inr (hA b hb), hS, by simp, by simp, k⟩
end
/-- the program's joiner at g, its row in a block of D -/
def JD (w : World) (g : Nat) (D : List Nat) (most : Nat) (st : Int) (en : Bool) (l : List UInt8) : Prop :=
  (∃ A n c, Jn w g most st en A n c ∧ Ow w 0 5 1 A n c (l.map u8) ∧ g ∉ ob A ∧ ∀ b, b ∈ ob A → b ∈ D) ∧ l.length ≤ most
theorem JD.keep {T D : List Nat} {w w' : World} {g most : Nat} {st : Int} {en : Bool} {l : List UInt8} (h : JD w g D most st en l) (k : Kp T w w') (hg : g ∉ T) (hD : ∀ t, t ∈ D → t ∉ T) : JD w' g D most st en l := by
  obtain ⟨⟨A, n, c, hj, ho, hga, hd⟩, hl⟩ := h
  exact ⟨⟨A, n, c, hj.keep k hg, ho.keep k (fun b hb => hD b (hd b hb)), hga, hd⟩, hl⟩
set_option maxHeartbeats 1000000 in
theorem InD (w : World) (g : Nat) (D : List Nat) (most : Nat) (hm : most ≤ 65536) (st : Int) (en : Bool) (l : List UInt8) (f : Fr) (lf : List UInt8) (h : JD w g D most st en l) (hrf : Rd w f.pA f.pn f.pc lf) (hfo : 0 < f.pn → ∀ b, b ∈ ob f.pA → b ≠ g) (hpn : f.pn ≤ 140737488351232) :
    Calls Try.prog 6 #[.pointer (some ⟨g, 0, none⟩), .agg #[.int .i64 f.ty, .int .i64 f.fl, .int .i64 f.st, .slice f.pA f.pn f.pc, .int .i64 f.pad, .int .u32 f.code, .int .i64 f.last, .int .i64 f.inc, .int .i64 f.dep, .bool f.only, .int .i64 f.wt, .slice f.sA f.sn f.sc]] w (DPost f lf g D st en l w (fun w D st en l => JD w g D most st en l) (jstep most st en l f.ty f.fl f.st lf)) := by
  obtain ⟨⟨A, n, c, hj, ho, hg, hdA⟩, hlen⟩ := h
  have hbs : 0 ≤ w.heap.size := Nat.zero_le _
  have hl : l.length = n := by have := ho.len; simpa using this
  have hlf := hrf.len
  have hm' : 0 ≤ (most : Int) ∧ (most : Int) ≤ 65536 := by omega
  have hn : (n : Int) ≤ (most : Int) := by omega
  have hw : IntKind.i64.wrap ((most : Int) - ↑n) = (most : Int) - ↑n := by apply IntWalk.i64_in <;> omega
  have hk : ∀ {w'}, Kp (g :: ob A) w w' → Kp (g :: D) w w' := fun k => k.mono (by
    intro s hs
    rcases List.mem_cons.1 hs with rfl | h1
    · exact .inl (by simp)
    · exact .inl (List.mem_cons_of_mem _ (hdA s h1)))
  have nil : ∀ {w'}, Jn w' g most 0 false none 0 0 → JD w' g [] most 0 false [] := fun h1 => ⟨⟨none, 0, 0, h1, Ow.nil _ _ _ _, by simp [ob], by simp [ob]⟩, by simp⟩
  have bad : ∀ {w' cd}, Jn w' g most 0 false none 0 0 → Kp [g] w w' → DPost f lf g D st en l w (fun w D st en l => JD w g D most st en l) (.fault cd) (.returned (.tuple #[.agg #[.int .i64 0, .int .i64 0, .int .i64 0, .slice none 0 0, .int .i64 0, .int .u32 0, .int .i64 0, .int .i64 0, .int .i64 0, .bool false, .int .i64 0, .slice none 0 0], .bool false, .agg #[.bool true, .int .i64 0, .int .i64 cd]])) w' := fun h1 k => D_fault (nil h1) k
  have fin : ∀ {w' A2 c2 fl st'}, Jn w' g most 0 false none 0 0 → Ow w' 0 5 1 A2 (n + f.pn) c2 ((l ++ lf).map u8) → (g ∉ ob A2 ∧ ∀ b, b ∈ ob A2 → b ∈ ob A ∨ w.heap.size ≤ b) → Kp (g :: ob A) w w' → DPost f lf g D st en l w (fun w D st en l => JD w g D most st en l) (.whole fl st' (l ++ lf)) (.returned (.tuple #[.agg #[.int .i64 1, .int .i64 fl, .int .i64 st', .slice A2 (n + f.pn) c2, .int .i64 0, .int .u32 0, .int .i64 0, .int .i64 0, .int .i64 0, .bool false, .int .i64 0, .slice none 0 0], .bool true, .agg #[.bool false, .int .i64 0, .int .i64 0]])) w' :=
    fun h1 h2 h3 h4 => D_whole (nil h1) h2.rd (fun b hb => (h3.2 b hb).imp (hdA b) id) (hk h4)
  have more : ∀ {w' A2 c2 st' en'}, n + f.pn ≤ most → Jn w' g most st' en' A2 (n + f.pn) c2 → Ow w' 0 5 1 A2 (n + f.pn) c2 ((l ++ lf).map u8) → (g ∉ ob A2 ∧ ∀ b, b ∈ ob A2 → b ∈ ob A ∨ w.heap.size ≤ b) → Kp (g :: ob A) w w' → DPost f lf g D st en l w (fun w D st en l => JD w g D most st en l) (.more st' en' (l ++ lf)) (.returned (.tuple #[.agg #[.int .i64 0, .int .i64 0, .int .i64 0, .slice none 0 0, .int .i64 0, .int .u32 0, .int .i64 0, .int .i64 0, .int .i64 0, .bool false, .int .i64 0, .slice none 0 0], .bool false, .agg #[.bool false, .int .i64 0, .int .i64 0]])) w' :=
    fun h0 h1 h2 h3 h4 => D_more (D' := ob _) ⟨⟨_, _, _, h1, h2, h3.1, fun _ h => h⟩, by simp; omega⟩ (fun b hb => (h3.2 b hb).imp (hdA b) id) (fun t ht => (h2.base t ht).2) (hk h4)
  unfold jstep
  by_cases hidle : st = 0 ∧ en = false
  · obtain ⟨rfl, rfl⟩ := hidle
    rw [if_pos ⟨rfl, rfl⟩]
    by_cases h9 : f.ty = 9
    · rw [if_pos h9]
      refine (In_prot0 w g most A n c f hj (by simp [h9])).mono ?_
      rintro e w' ⟨rfl, h1, h2⟩
      exact bad h1 h2
    · rw [if_neg h9]
      by_cases h1 : f.ty = 1
      · rw [if_pos h1]
        by_cases hc : most < l.length + lf.length
        · rw [if_pos hc]
          refine (In_headC w g most A n c f hj (by simp [h1]) (by simp [h1]) hm' hn hw (by simp; omega)).mono ?_
          rintro e w' ⟨rfl, h1, h2⟩
          exact bad h1 h2
        · rw [if_neg hc]
          by_cases hd : (bits .and .i64 f.fl 4 == 0) = true
          · rw [if_pos hd]
            refine (In_headN w g most A n c f hj (by simp [h1]) (by simp [h1]) hm' hn hw (by simp; omega) 0 hbs l lf ho hg hrf hfo hpn hd).mono ?_
            rintro e w' ⟨rfl, A', c', h1, h2, h3, h4⟩
            exact more (by omega) h1 h2 h3 h4
          · rw [if_neg hd]
            by_cases he : (bits .and .i64 f.fl 1 != 0) = true
            · rw [if_pos he]
              refine (In_head1W w g most A n c f hj (by simp [h1]) (by simp [h1]) he hm' hn hw (by simp; omega) 0 hbs l lf ho hg hrf hfo hpn (by simpa using hd)).mono ?_
              rintro e w' ⟨A2, c2, rfl, h1, h2, h3, h4⟩
              exact fin h1 h2 h3 h4
            · rw [if_neg he]
              refine (In_head0W w g most A n c f hj (by simp [h1]) (by simp [h1]) (by simpa using he) hm' hn hw (by simp; omega) 0 hbs l lf ho hg hrf hfo hpn (by simpa using hd)).mono ?_
              rintro e w' ⟨A2, c2, rfl, h1, h2, h3, h4⟩
              exact fin h1 h2 h3 h4
      · rw [if_neg h1]
        refine (In_pass w g most A n c f hj (by simp [h9]) (by simp [h1])).mono ?_
        rintro e w' ⟨rfl, h1, h2⟩
        exact D_pass (D' := ob A) ⟨⟨A, n, c, h1, ho.keep h2 (by simp), hg, fun _ h => h⟩, hlen⟩ hrf (fun b hb => .inl (hdA b hb)) (fun t ht => Nat.lt_of_lt_of_le (ho.base t ht).2 h2.size) h2
  · rw [if_neg hidle]
    by_cases hs : st = 0
    · subst hs
      obtain rfl : en = true := by cases en <;> simp_all
      by_cases h9 : f.ty = 9 ∧ f.st = 0
      · rw [if_pos h9]
        obtain ⟨h9, hst⟩ := h9
        by_cases hc : most < l.length + lf.length
        · rw [if_pos hc]
          refine (In_contBC w g most A n c f hj (by simp [h9]) (by simp [h9]) (by simp [hst]) hm' hn hw (by simp; omega)).mono ?_
          rintro e w' ⟨rfl, h1, h2⟩
          exact bad h1 h2
        · rw [if_neg hc]
          by_cases hd : (bits .and .i64 f.fl 4 == 0) = true
          · rw [if_pos hd]
            refine (In_contBN w g most A n c f hj (by simp [h9]) (by simp [h9]) (by simp [hst]) hm' hn hw (by simp; omega) 0 hbs l lf ho hg hrf hfo hpn hd).mono ?_
            rintro e w' ⟨rfl, A', c', h1, h2, h3, h4⟩
            exact more (by omega) h1 h2 h3 h4
          · rw [if_neg hd]
            refine (In_contBW w g most A n c f hj (by simp [h9]) (by simp [h9]) (by simp [hst]) hm' hn hw (by simp; omega) 0 hbs l lf ho hg hrf hfo hpn (by simpa using hd)).mono ?_
            rintro e w' ⟨A2, c2, rfl, h1, h2, h3, h4⟩
            exact fin h1 h2 h3 h4
      · rw [if_neg h9]
        by_cases h90 : f.ty = 9
        · refine (In_protB1 w g most A n c f hj (by simp [h90]) (by simp [h90]) (by simp; exact fun h => h9 ⟨h90, h⟩)).mono ?_
          rintro e w' ⟨rfl, h1, h2⟩
          exact bad h1 h2
        · refine (In_protA1 w g most A n c f hj (by simp [h90]) (by simp [h90])).mono ?_
          rintro e w' ⟨rfl, h1, h2⟩
          exact bad h1 h2
    · by_cases h9 : f.ty = 9 ∧ f.st = st
      · rw [if_pos h9]
        obtain ⟨h9, hst⟩ := h9
        by_cases hc : most < l.length + lf.length
        · rw [if_pos hc]
          refine (In_contAC w g most st en A n c f hj hs (by simp [h9]) (by simp [h9]) (by simp [hst]) hm' hn hw (by simp; omega)).mono ?_
          rintro e w' ⟨rfl, h1, h2⟩
          exact bad h1 h2
        · rw [if_neg hc]
          by_cases hd : (bits .and .i64 f.fl 4 == 0) = true
          · rw [if_pos hd]
            refine (In_contAN w g most st en A n c f hj hs (by simp [h9]) (by simp [h9]) (by simp [hst]) hm' hn hw (by simp; omega) 0 hbs l lf ho hg hrf hfo hpn hd).mono ?_
            rintro e w' ⟨rfl, A', c', h1, h2, h3, h4⟩
            exact more (by omega) h1 h2 h3 h4
          · rw [if_neg hd]
            cases en
            · refine (In_contAWfalse w g most st A n c f hj hs (by simp [h9]) (by simp [h9]) (by simp [hst]) hm' hn hw (by simp; omega) 0 hbs l lf ho hg hrf hfo hpn (by simpa using hd)).mono ?_
              rintro e w' ⟨A2, c2, rfl, h1, h2, h3, h4⟩
              exact fin h1 h2 h3 h4
            · refine (In_contAWtrue w g most st A n c f hj hs (by simp [h9]) (by simp [h9]) (by simp [hst]) hm' hn hw (by simp; omega) 0 hbs l lf ho hg hrf hfo hpn (by simpa using hd)).mono ?_
              rintro e w' ⟨A2, c2, rfl, h1, h2, h3, h4⟩
              exact fin h1 h2 h3 h4
      · rw [if_neg h9]
        by_cases h90 : f.ty = 9
        · refine (In_protB0 w g most st en A n c f hj hs (by simp [h90]) (by simp [h90]) (by simp; exact fun h => h9 ⟨h90, h⟩)).mono ?_
          rintro e w' ⟨rfl, h1, h2⟩
          exact bad h1 h2
        · refine (In_protA0 w g most st en A n c f hj hs (by simp [h90]) (by simp [h90])).mono ?_
          rintro e w' ⟨rfl, h1, h2⟩
          exact bad h1 h2
end Go.Proofs.Ytibeaombhjdakaa
