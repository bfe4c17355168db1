/- The same of the reference's joiner; and both side by side. -/
import Derived.Test.YtibeaombhjdakaaRJa
import Derived.Test.YtibeaombhjdakaaJoD
set_option linter.unusedVariables false
set_option linter.unusedSimpArgs false
set_option linter.unusedSimpArgs false
namespace Go.Proofs.Ytibeaombhjdakaa
open Go.RowKit
/-- the reference's joiner at g, its row in a block of D -/
def QD (w : World) (g : Nat) (D : List Nat) (most : Nat) (st : Int) (en : Bool) (l : List UInt8) : Prop :=
  (∃ A n c, w.heap[g]? = some (.cells #[.int .i64 most, .int .i64 st, .bool en, .slice A n c] 42) ∧ Ow w 0 5 1 A n c (l.map u8) ∧ g ∉ ob A ∧ ∀ b, b ∈ ob A → b ∈ D) ∧ l.length ≤ most
theorem QD.keep {T D : List Nat} {w w' : World} {g most : Nat} {st : Int} {en : Bool} {l : List UInt8} (h : QD w g D most st en l) (k : Kp T w w') (hg : g ∉ T) (hD : ∀ t, t ∈ D → t ∉ T) : QD w' g D most st en l := by
  obtain ⟨⟨A, n, c, hj, ho, hga, hd⟩, hl⟩ := h
  exact ⟨⟨A, n, c, k.heap hj hg, ho.keep k (fun b hb => hD b (hd b hb)), hga, hd⟩, hl⟩
set_option maxHeartbeats 4000000 in
set_option maxRecDepth 100000 in
theorem RInD (w : World) (g : Nat) (D : List Nat) (most : Nat) (hm : most ≤ 65536) (st : Int) (en : Bool) (l : List UInt8) (f : Fr) (F : Nat) (hF : F ≤ 9223372036854775807) (hfl : f.fl = (F : Int)) (lf : List UInt8) (h : QD w g D most st en l) (hidle : st = 0 → en = false ∧ l = []) (hrf : Rd w f.pA f.pn f.pc lf) (hfo : 0 < f.pn → ∀ b, b ∈ ob f.pA → b ≠ g) (hpn : f.pn ≤ 140737488351232) :
    Calls Try.prog 7 #[.pointer (some ⟨g, 0, none⟩), .agg #[.int .i64 f.ty, .int .i64 f.fl, .int .i64 f.st, .slice f.pA f.pn f.pc, .int .i64 f.pad, .int .u32 f.code, .int .i64 f.last, .int .i64 f.inc, .int .i64 f.dep, .bool f.only, .int .i64 f.wt, .slice f.sA f.sn f.sc]] w (DPost f lf g D st en l w (fun w D st en l => QD w g D most st en l) (jstep most st en l f.ty f.fl f.st lf)) := by
  obtain ⟨⟨A, n, c, hj, ho, hg, hdA⟩, hlen⟩ := h
  have hbs : 0 ≤ w.heap.size := Nat.zero_le _
  have hl : l.length = n := by have := ho.len; simpa using this
  have hlf := hrf.len
  have hn : n ≤ most := by omega
  have hk : ∀ {w'}, Kp (g :: ob A) w w' → Kp (g :: D) w w' := fun k => k.mono (by
    intro s hs
    rcases List.mem_cons.1 hs with rfl | h1
    · exact .inl (by simp)
    · exact .inl (List.mem_cons_of_mem _ (hdA s h1)))
  have nil : ∀ {w'}, w'.heap[g]? = some (.cells #[.int .i64 most, .int .i64 0, .bool false, .slice none 0 0] 42) → QD w' g [] most 0 false [] := fun h1 => ⟨⟨none, 0, 0, h1, Ow.nil _ _ _ _, by simp [ob], by simp [ob]⟩, by simp⟩
  have bad : ∀ {w' cd}, w'.heap[g]? = some (.cells #[.int .i64 most, .int .i64 0, .bool false, .slice none 0 0] 42) → Kp [g] w w' → DPost f lf g D st en l w (fun w D st en l => QD w g D most st en l) (.fault cd) (.returned (.tuple #[.agg #[.int .i64 0, .int .i64 0, .int .i64 0, .slice none 0 0, .int .i64 0, .int .u32 0, .int .i64 0, .int .i64 0, .int .i64 0, .bool false, .int .i64 0, .slice none 0 0], .bool false, .agg #[.bool true, .int .i64 0, .int .i64 cd]])) w' := fun h1 k => D_fault (nil h1) k
  have fin : ∀ {w' A2 c2 fl st'}, w'.heap[g]? = some (.cells #[.int .i64 most, .int .i64 0, .bool false, .slice none 0 0] 42) → Ow w' 0 5 1 A2 (n + f.pn) c2 ((l ++ lf).map u8) → (g ∉ ob A2 ∧ ∀ b, b ∈ ob A2 → b ∈ ob A ∨ w.heap.size ≤ b) → Kp (g :: ob A) w w' → DPost f lf g D st en l w (fun w D st en l => QD w g D most st en l) (.whole fl st' (l ++ lf)) (.returned (.tuple #[.agg #[.int .i64 1, .int .i64 fl, .int .i64 st', .slice A2 (n + f.pn) c2, .int .i64 0, .int .u32 0, .int .i64 0, .int .i64 0, .int .i64 0, .bool false, .int .i64 0, .slice none 0 0], .bool true, .agg #[.bool false, .int .i64 0, .int .i64 0]])) w' :=
    fun h1 h2 h3 h4 => D_whole (nil h1) h2.rd (fun b hb => (h3.2 b hb).imp (hdA b) id) (hk h4)
  have more : ∀ {w' A2 c2 st' en'}, n + f.pn ≤ most → w'.heap[g]? = some (.cells #[.int .i64 most, .int .i64 st', .bool en', .slice A2 (n + f.pn) c2] 42) → Ow w' 0 5 1 A2 (n + f.pn) c2 ((l ++ lf).map u8) → (g ∉ ob A2 ∧ ∀ b, b ∈ ob A2 → b ∈ ob A ∨ w.heap.size ≤ b) → Kp (g :: ob A) w w' → DPost f lf g D st en l w (fun w D st en l => QD w g D most st en l) (.more st' en' (l ++ lf)) (.returned (.tuple #[.agg #[.int .i64 0, .int .i64 0, .int .i64 0, .slice none 0 0, .int .i64 0, .int .u32 0, .int .i64 0, .int .i64 0, .int .i64 0, .bool false, .int .i64 0, .slice none 0 0], .bool false, .agg #[.bool false, .int .i64 0, .int .i64 0]])) w' :=
    fun h0 h1 h2 h3 h4 => D_more (D' := ob _) ⟨⟨_, _, _, h1, h2, h3.1, fun _ h => h⟩, by simp; omega⟩ (fun b hb => (h3.2 b hb).imp (hdA b) id) (fun t ht => (h2.base t ht).2) (hk h4)
  have finH : ∀ {w' A2 c2 fl st'}, w'.heap[g]? = some (.cells #[.int .i64 most, .int .i64 0, .bool false, .slice none 0 0] 42) → Ow w' 0 5 1 A2 f.pn c2 ((lf).map u8) → (g ∉ ob A2 ∧ ∀ b, b ∈ ob A2 → b ∈ ob A ∨ w.heap.size ≤ b) → Kp (g :: ob A) w w' → DPost f lf g D st en l w (fun w D st en l => QD w g D most st en l) (.whole fl st' (lf)) (.returned (.tuple #[.agg #[.int .i64 1, .int .i64 fl, .int .i64 st', .slice A2 f.pn c2, .int .i64 0, .int .u32 0, .int .i64 0, .int .i64 0, .int .i64 0, .bool false, .int .i64 0, .slice none 0 0], .bool true, .agg #[.bool false, .int .i64 0, .int .i64 0]])) w' :=
    fun h1 h2 h3 h4 => D_whole (nil h1) h2.rd (fun b hb => (h3.2 b hb).imp (hdA b) id) (hk h4)
  have moreH : ∀ {w' A2 c2 st' en'}, f.pn ≤ most → w'.heap[g]? = some (.cells #[.int .i64 most, .int .i64 st', .bool en', .slice A2 f.pn c2] 42) → Ow w' 0 5 1 A2 f.pn c2 ((lf).map u8) → (g ∉ ob A2 ∧ ∀ b, b ∈ ob A2 → b ∈ ob A ∨ w.heap.size ≤ b) → Kp (g :: ob A) w w' → DPost f lf g D st en l w (fun w D st en l => QD w g D most st en l) (.more st' en' (lf)) (.returned (.tuple #[.agg #[.int .i64 0, .int .i64 0, .int .i64 0, .slice none 0 0, .int .i64 0, .int .u32 0, .int .i64 0, .int .i64 0, .int .i64 0, .bool false, .int .i64 0, .slice none 0 0], .bool false, .agg #[.bool false, .int .i64 0, .int .i64 0]])) w' :=
    fun h0 h1 h2 h3 h4 => D_more (D' := ob _) ⟨⟨_, _, _, h1, h2, h3.1, fun _ h => h⟩, by omega⟩ (fun b hb => (h3.2 b hb).imp (hdA b) id) (fun t ht => (h2.base t ht).2) (hk h4)
  have b1 : (bits .and .i64 f.fl 1 != 0) = decide (F % 2 = 1) := by rw [hfl]; exact bit1 F (by omega)
  have b4 : (bits .and .i64 f.fl 4 == 0) = decide (F / 4 % 2 = 0) := by rw [hfl]; exact bit4 F (by omega)
  unfold jstep
  rw [b1, b4]
  by_cases hst : st = 0
  · obtain ⟨rfl, rfl⟩ := hidle hst
    rw [if_pos ⟨hst, rfl⟩]
    by_cases h9 : f.ty = 9
    · rw [if_pos h9]
      refine (RIn_protC g f w most st false A n c hj hst h9).mono ?_
      rintro e w' ⟨rfl, h1, h2⟩
      exact bad h1 h2
    · rw [if_neg h9]
      by_cases h1 : f.ty = 1
      · rw [if_pos h1]
        simp only [List.nil_append, List.length_nil, Nat.zero_add]
        have hz : F % 2 = 0 ∨ F % 2 = 1 := by omega
        by_cases hc : most < lf.length
        · rw [if_pos hc]
          rcases hz with hz | hz
          · refine (RIn_calmH0 g f F w most st false A n c hj hfl hm hn hpn (by omega) hst h1 hz).mono ?_
            rintro e w' ⟨rfl, h1, h2⟩
            exact bad h1 h2
          · refine (RIn_calmH1 g f F w most st false A n c hj hfl hm hn hpn (by omega) hst h1 hz).mono ?_
            rintro e w' ⟨rfl, h1, h2⟩
            exact bad h1 h2
        · rw [if_neg hc]
          by_cases hd : F / 4 % 2 = 0
          · rw [if_pos (by simpa using hd)]
            rcases hz with hz | hz
            · refine (RIn_moreH0 g f F w most st false A n c 0 [] lf hj hfl hF hm hn hpn (by omega) hbs ho hg hrf hfo hd hst h1 hz).mono ?_
              rintro e w' ⟨rfl, A', c', k1, k2, k3, k4⟩
              rw [show decide (F % 2 = 1) = false by simp [hz]]
              exact moreH (by omega) k1 k2 k3 k4
            · refine (RIn_moreH1 g f F w most st false A n c 0 [] lf hj hfl hF hm hn hpn (by omega) hbs ho hg hrf hfo hd hst h1 hz).mono ?_
              rintro e w' ⟨rfl, A', c', k1, k2, k3, k4⟩
              rw [show decide (F % 2 = 1) = true by simp [hz]]
              exact moreH (by omega) k1 k2 k3 k4
          · rw [if_neg (by simpa using hd)]
            have hd1 : F / 4 % 2 = 1 := by omega
            rcases hz with hz | hz
            · refine (RIn_wholeH0 g f F w most st false A n c 0 [] lf hj hfl hF hm hn hpn (by omega) hbs ho hg hrf hfo hd1 hst h1 hz).mono ?_
              rintro e w' ⟨A', c', rfl, k1, k2, k3, k4⟩
              rw [show decide (F % 2 = 1) = false by simp [hz]]
              exact finH k1 k2 k3 k4
            · refine (RIn_wholeH1 g f F w most st false A n c 0 [] lf hj hfl hF hm hn hpn (by omega) hbs ho hg hrf hfo hd1 hst h1 hz).mono ?_
              rintro e w' ⟨A', c', rfl, k1, k2, k3, k4⟩
              rw [show decide (F % 2 = 1) = true by simp [hz]]
              exact finH k1 k2 k3 k4
      · rw [if_neg h1]
        refine (RIn_pass g f w most st false A n c hj hst h9 h1).mono ?_
        rintro e w' ⟨rfl, k⟩
        exact D_pass (D' := ob A) ⟨⟨A, n, c, k.heap hj (by simp), ho.keep k (by simp), hg, fun _ h => h⟩, hlen⟩ hrf (fun b hb => .inl (hdA b hb)) (fun t ht => Nat.lt_of_lt_of_le (ho.base t ht).2 k.size) k
  · rw [if_neg (fun k => hst k.1)]
    by_cases h9 : f.ty = 9
    · by_cases hs : f.st = st
      · rw [if_pos ⟨h9, hs⟩]
        by_cases hc : most < l.length + lf.length
        · rw [if_pos hc]
          refine (RIn_calmC g f F w most st en A n c hj hfl hm hn hpn (by omega) hst h9 hs).mono ?_
          rintro e w' ⟨rfl, h1, h2⟩
          exact bad h1 h2
        · rw [if_neg hc]
          by_cases hd : F / 4 % 2 = 0
          · rw [if_pos (by simpa using hd)]
            refine (RIn_moreC g f F w most st en A n c 0 l lf hj hfl hF hm hn hpn (by omega) hbs ho hg hrf hfo hd hst h9 hs).mono ?_
            rintro e w' ⟨rfl, A', c', k1, k2, k3, k4⟩
            exact more (by omega) k1 k2 k3 k4
          · rw [if_neg (by simpa using hd)]
            have hd1 : F / 4 % 2 = 1 := by omega
            cases en with
            | true =>
              refine (RIn_wholeEC g f F w most st A n c 0 l lf hj hfl hF hm hn hpn (by omega) hbs ho hg hrf hfo hd1 hst h9 hs).mono ?_
              rintro e w' ⟨A', c', rfl, k1, k2, k3, k4⟩
              exact fin k1 k2 k3 k4
            | false =>
              refine (RIn_wholeNC g f F w most st A n c 0 l lf hj hfl hF hm hn hpn (by omega) hbs ho hg hrf hfo hd1 hst h9 hs).mono ?_
              rintro e w' ⟨A', c', rfl, k1, k2, k3, k4⟩
              exact fin k1 k2 k3 k4
      · rw [if_neg (fun k => hs k.2)]
        refine (RIn_protB g f w most st en A n c hj hst h9 hs).mono ?_
        rintro e w' ⟨rfl, h1, h2⟩
        exact bad h1 h2
    · rw [if_neg (fun k => h9 k.1)]
      refine (RIn_protA g f w most st en A n c hj hst h9).mono ?_
      rintro e w' ⟨rfl, h1, h2⟩
      exact bad h1 h2
/-- both joiners side by side -/
structure TwoJ (w0 w : World) (g h : Nat) (D E : List Nat) (most : Nat) (st : Int) (en : Bool) (l : List UInt8) (st' : Int) (en' : Bool) (l' : List UInt8) : Prop where
  rd : JD w g D most st en l
  rq : QD w h E most st' en' l'
  dl : ∀ t, t ∈ D → w0.heap.size ≤ t ∧ t < w.heap.size ∧ t ≠ h ∧ t ∉ E
  el : ∀ t, t ∈ E → w0.heap.size ≤ t ∧ t < w.heap.size ∧ t ≠ g
  gl : w0.heap.size ≤ g ∧ g < w.heap.size ∧ w0.heap.size ≤ h ∧ h < w.heap.size ∧ g ≠ h
  kp : Kp [] w0 w
section
variable {w0 w w' : World} {g h : Nat} {D D' E E' : List Nat} {most : Nat} {st st' st2 : Int} {en en' en2 : Bool} {l l' l2 : List UInt8}
theorem TwoJ.keep (t : TwoJ w0 w g h D E most st en l st' en' l') (k : Kp [] w w') : TwoJ w0 w' g h D E most st en l st' en' l' :=
  ⟨t.rd.keep k (by simp) (by simp), t.rq.keep k (by simp) (by simp), fun x hx => by have h1 := t.dl x hx; have := k.size; exact ⟨h1.1, by omega, h1.2.2⟩, fun x hx => by have h1 := t.el x hx; have := k.size; exact ⟨h1.1, by omega, h1.2.2⟩, by have := t.gl; have := k.size; omega, t.kp.trans k⟩
theorem TwoJ.stepD (t : TwoJ w0 w g h D E most st en l st' en' l') (s : JD w' g D' most st2 en2 l2) (k : Kp (g :: D) w w') (d1 : ∀ t, t ∈ D' → t ∈ D ∨ w.heap.size ≤ t) (d2 : ∀ t, t ∈ D' → t < w'.heap.size) : TwoJ w0 w' g h D' E most st2 en2 l2 st' en' l' := by
  have hgl := t.gl
  have hs0 := t.kp.size
  have hs := k.size
  refine ⟨s, t.rq.keep k ?_ ?_, fun x hx => ?_, fun x hx => ?_, by omega, t.kp.then k ?_⟩
  · intro hh
    rcases List.mem_cons.1 hh with e | e
    · omega
    · exact (t.dl h e).2.2.1 rfl
  · intro x hx hh
    rcases List.mem_cons.1 hh with e | e
    · exact (t.el x hx).2.2 e
    · exact (t.dl x e).2.2.2 hx
  · have h2 := d2 x hx
    rcases d1 x hx with h1 | h1
    · have h3 := t.dl x h1
      exact ⟨h3.1, h2, h3.2.2⟩
    · exact ⟨by omega, h2, by omega, fun he => by have := t.el x he; omega⟩
  · have h3 := t.el x hx
    exact ⟨h3.1, by omega, h3.2.2⟩
  · intro x hx
    rcases List.mem_cons.1 hx with e | e
    · right; omega
    · right; exact (t.dl x e).1
theorem TwoJ.stepE (t : TwoJ w0 w g h D E most st en l st' en' l') (s : QD w' h E' most st2 en2 l2) (k : Kp (h :: E) w w') (d1 : ∀ t, t ∈ E' → t ∈ E ∨ w.heap.size ≤ t) (d2 : ∀ t, t ∈ E' → t < w'.heap.size) : TwoJ w0 w' g h D E' most st en l st2 en2 l2 := by
  have hgl := t.gl
  have hs0 := t.kp.size
  have hs := k.size
  refine ⟨t.rd.keep k ?_ ?_, s, fun x hx => ?_, fun x hx => ?_, by omega, t.kp.then k ?_⟩
  · intro hh
    rcases List.mem_cons.1 hh with e | e
    · omega
    · exact (t.el g e).2.2 rfl
  · intro x hx hh
    rcases List.mem_cons.1 hh with e | e
    · exact (t.dl x hx).2.2.1 e
    · exact (t.dl x hx).2.2.2 e
  · have h3 := t.dl x hx
    refine ⟨h3.1, by omega, h3.2.2.1, fun he => ?_⟩
    rcases d1 x he with h1 | h1
    · exact h3.2.2.2 h1
    · omega
  · have h2 := d2 x hx
    rcases d1 x hx with h1 | h1
    · have h3 := t.el x h1
      exact ⟨h3.1, h2, h3.2.2⟩
    · exact ⟨by omega, h2, by omega⟩
  · intro x hx
    rcases List.mem_cons.1 hx with e | e
    · right; omega
    · right; exact (t.el x e).1
end
end Go.Proofs.Ytibeaombhjdakaa
