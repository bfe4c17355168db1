/- What is read, without padding, is written as the same bytes, but for two bits; too much padding is a fault: as plain data, no program in sight. -/
import Derived.Test.YtkmcakneceagpaaPlnB
set_option linter.unusedVariables false
set_option linter.unusedSimpArgs false
namespace Go.Proofs.Ytkmcakneceagpaa
open Go.RowKit

theorem u8_eq {a b : UInt8} (h : a.toNat = b.toNat) : a = b := UInt8.toNat_inj.1 h
theorem be_four (a b c d : UInt8) : be [a, b, c, d] = ((a.toNat * 256 + b.toNat) * 256 + c.toNat) * 256 + d.toNat := by simp [be]
theorem be_three (a b c : UInt8) : be [a, b, c] = (a.toNat * 256 + b.toNat) * 256 + c.toNat := by simp [be]
theorem be_two (a b : UInt8) : be [a, b] = a.toNat * 256 + b.toNat := by simp [be]
theorem bytesOf_succ (v k : Nat) : bytesOf v (k + 1) = bytesOf (v / 256) k ++ [UInt8.ofNat (v % 256)] := rfl
theorem bytesOf_be_take (l : List UInt8) : ∀ k, k ≤ l.length → bytesOf (be (l.take k)) k = l.take k := by
  intro k
  induction k with
  | zero => intro _; simp [bytesOf]
  | succ k ih =>
    intro hk
    have hlt : k < l.length := by omega
    have hb := (l.getD k 0).toNat_lt
    rw [be_take_succ l k hlt, bytesOf_succ]
    have e1 : (be (l.take k) * 256 + (l.getD k 0).toNat) / 256 = be (l.take k) := by omega
    have e2 : (be (l.take k) * 256 + (l.getD k 0).toNat) % 256 = (l.getD k 0).toNat := by omega
    rw [e1, e2, ih (by omega), List.take_add_one, List.getElem?_eq_getElem hlt, List.getD_eq_getElem?_getD, List.getElem?_eq_getElem hlt]
    simp
theorem bytesOf_be (l : List UInt8) : bytesOf (be l) l.length = l := by
  have := bytesOf_be_take l l.length (Nat.le_refl _)
  simpa using this
theorem bytesOf_be_of {l : List UInt8} {k : Nat} (h : l.length = k) : bytesOf (be l) k = l := by subst h; exact bytesOf_be l
/-- the first bit of a number is cleared -/
def low (l : List UInt8) (i : Nat) : List UInt8 := l.set i (l.getD i 0 % 128)
theorem low_len (l : List UInt8) (i : Nat) : (low l i).length = l.length := by simp [low]
theorem bytesOf_31 {x : List UInt8} (h : x.length = 4) : bytesOf (be x % 2147483648) 4 = low x 0 := by
  obtain ⟨a, b, c, d, rfl⟩ : ∃ a b c d, x = [a, b, c, d] := by
    match x, h with
    | [a, b, c, d], _ => exact ⟨a, b, c, d, rfl⟩
  rw [be_four, bytesOf_four]
  have ha := a.toNat_lt
  have hb := b.toNat_lt
  have hc := c.toNat_lt
  have hd := d.toNat_lt
  show _ = [a % 128, b, c, d]
  have e1 : UInt8.ofNat ((((a.toNat * 256 + b.toNat) * 256 + c.toNat) * 256 + d.toNat) % 2147483648 / 16777216 % 256) = a % 128 := u8_eq (by rw [UInt8.toNat_ofNat', UInt8.toNat_mod]; show _ = a.toNat % 128; omega)
  have e2 : UInt8.ofNat ((((a.toNat * 256 + b.toNat) * 256 + c.toNat) * 256 + d.toNat) % 2147483648 / 65536 % 256) = b := u8_eq (by rw [UInt8.toNat_ofNat']; omega)
  have e3 : UInt8.ofNat ((((a.toNat * 256 + b.toNat) * 256 + c.toNat) * 256 + d.toNat) % 2147483648 / 256 % 256) = c := u8_eq (by rw [UInt8.toNat_ofNat']; omega)
  have e4 : UInt8.ofNat ((((a.toNat * 256 + b.toNat) * 256 + c.toNat) * 256 + d.toNat) % 2147483648 % 256) = d := u8_eq (by rw [UInt8.toNat_ofNat']; omega)
  rw [e1, e2, e3, e4]
theorem prioW_back (q : Fp) (m : List UInt8) (h : 5 ≤ m.length) : prioW (prS q m) = m.take 5 := by
  obtain ⟨a, b, c, d, e, r, rfl⟩ : ∃ a b c d e r, m = a :: b :: c :: d :: e :: r := by
    match m, h with
    | a :: b :: c :: d :: e :: r, _ => exact ⟨a, b, c, d, e, r, rfl⟩
  have ha := a.toNat_lt
  have hb := b.toNat_lt
  have hc := c.toNat_lt
  have hd := d.toNat_lt
  have he := e.toNat_lt
  have e1 : (prS q (a :: b :: c :: d :: e :: r)).dep = ((be [a, b, c, d] % 2147483648 : Nat) : Int) := rfl
  have e2 : (prS q (a :: b :: c :: d :: e :: r)).only = decide (128 ≤ a.toNat) := rfl
  have e3 : (prS q (a :: b :: c :: d :: e :: r)).wt = (e.toNat : Int) + 1 := rfl
  have e4 : (((be [a, b, c, d] % 2147483648 : Nat) : Int).toNat + if decide (128 ≤ a.toNat) = true then 2147483648 else 0) = be [a, b, c, d] := by
    rw [be_four]
    by_cases h : 128 ≤ a.toNat <;> simp [h] <;> omega
  have e5 : byteOf ((e.toNat : Int) + 1 - 1) = e := u8_eq (by rw [(u8_byteOf (by omega) (by omega)).1]; omega)
  unfold prioW
  rw [e1, e2, e3, e4, e5, bytesOf_be_of (l := [a, b, c, d]) (k := 4) rfl]
  rfl
theorem sets_back (l : List UInt8) : ∀ k, 6 * k ≤ l.length → (setsS l k).flatMap setW = l.take (6 * k) := by
  intro k
  induction k with
  | zero => intro _; simp [setsS]
  | succ k ih =>
    intro hk
    rw [setsS, List.flatMap_append, ih (by omega)]
    have h1 : bytesOf (n16 l (6 * k)).toNat 2 = (l.drop (6 * k)).take 2 := bytesOf_be_of (by simp; omega)
    have h2 : bytesOf (n32 l (6 * k + 2)).toNat 4 = (l.drop (6 * k + 2)).take 4 := bytesOf_be_of (by simp; omega)
    simp only [List.flatMap_cons, List.flatMap_nil, setW, List.append_nil]
    rw [h1, h2]
    have e1 : l.take (6 * (k + 1)) = l.take (6 * k) ++ (l.drop (6 * k)).take 6 := by rw [show 6 * (k + 1) = 6 * k + 6 by omega, List.take_add]
    have e2 : (l.drop (6 * k)).take 6 = (l.drop (6 * k)).take 2 ++ (l.drop (6 * k + 2)).take 4 := by rw [show (6 : Nat) = 2 + 4 by omega, List.take_add, List.drop_drop]
    rw [e1, e2]
theorem sets_ok (l : List UInt8) (k : Nat) : ∀ s, s ∈ setsS l k → (0 ≤ s.1 ∧ s.1 < 65536) ∧ 0 ≤ s.2 ∧ s.2 < 4294967296 := by
  induction k with
  | zero => intro s hs; simp [setsS] at hs
  | succ k ih =>
    intro s hs
    rw [setsS, List.mem_append] at hs
    rcases hs with hs | hs
    · exact ih s hs
    · rw [List.mem_singleton] at hs
      subst hs
      have h1 := be_take_lt (l.drop (6 * k)) 2
      have h2 := be_take_lt (l.drop (6 * k + 2)) 4
      have e1 : (256 : Nat) ^ 2 = 65536 := by decide
      have e2 : (256 : Nat) ^ 4 = 4294967296 := by decide
      rw [e1] at h1
      rw [e2] at h2
      simp only [n16, n32]
      omega
theorem n31_lt (l : List UInt8) (i : Nat) : idB (n31 l i) = true := by
  have h0 : 0 ≤ n31 l i := by unfold n31; omega
  have h1 : n31 l i ≤ 2147483647 := by unfold n31; omega
  simp [idB, h0, h1]
theorem n32_lt (l : List UInt8) (i : Nat) : 0 ≤ n32 l i ∧ n32 l i < 4294967296 := by
  have h2 := be_take_lt (l.drop i) 4
  have e2 : (256 : Nat) ^ 4 = 4294967296 := by decide
  rw [e2] at h2
  simp only [n32]
  omega
/-- the bytes that come back -/
def lowK (ty : Int) (l : List UInt8) : List UInt8 := if ty = 7 ∨ ty = 8 then low l 0 else l
/-- a core is written as it was read -/
theorem core_back (ty fl st : Int) (pad : Int) (m : List UInt8) (hk : known ty = true) (hn : fixedN ty fl ≤ m.length) (hf : fitsB ty fl m.length = true ∨ paddedB ty = true) :
    (coreW (getS (f0S ty fl st pad) m)).length = m.length ∧ (ty = 5 ∨ coreW (getS (f0S ty fl st pad) m) = lowK ty m) := by
  rcases known_cs hk with rfl | rfl | rfl | rfl | rfl | rfl | rfl | rfl | rfl | rfl
  · simp [getS, f0S, coreW, prioB, putW, lowK]
  · cases h32 : hasB fl 32 with
    | false => simp [getS, f0S, coreW, prioB, putW, lowK, h32]
    | true =>
      have h5 : 5 ≤ m.length := by simpa [fixedN, h32] using hn
      have e : coreW (getS (f0S 1 fl st pad) m) = m := by
        have := prioW_back (f0S 1 fl st pad) m h5
        have e1 : getS (f0S 1 fl st pad) m = { prS (f0S 1 fl st pad) m with pl := m.drop 5 } := by simp [getS, f0S, h32]
        have e2 : prioB (getS (f0S 1 fl st pad) m).ty (getS (f0S 1 fl st pad) m).fl = true := by rw [e1]; simp [prS, f0S, prioB, h32]
        have e3 : prioW (getS (f0S 1 fl st pad) m) = m.take 5 := by rw [e1]; exact this
        have e4 : putW (getS (f0S 1 fl st pad) m) = m.drop 5 := by rw [e1]; simp [prS, f0S, putW]
        unfold coreW
        rw [e2, e3, e4]
        simp
      rw [e]
      exact ⟨rfl, .inr rfl⟩
  · have h5 : m.length = 5 := by simpa [fitsB, paddedB] using hf
    have e : coreW (getS (f0S 2 fl st pad) m) = m := by
      have := prioW_back (f0S 2 fl st pad) m (by omega)
      have e1 : getS (f0S 2 fl st pad) m = prS (f0S 2 fl st pad) m := by simp [getS, f0S]
      have e2 : prioB (getS (f0S 2 fl st pad) m).ty (getS (f0S 2 fl st pad) m).fl = true := by rw [e1]; simp [prS, f0S, prioB]
      have e4 : putW (getS (f0S 2 fl st pad) m) = [] := by rw [e1]; simp [prS, f0S, putW]
      unfold coreW
      rw [e2, e1, this, ← e1, e4, List.take_of_length_le (by omega)]
      simp
    rw [e]
    exact ⟨rfl, .inr rfl⟩
  · have h4 : m.length = 4 := by simpa [fitsB, paddedB] using hf
    have e : coreW (getS (f0S 3 fl st pad) m) = m := by
      have h1 : bytesOf (n32 m 0).toNat 4 = m := by
        have := bytesOf_be_of (l := (m.drop 0).take 4) (k := 4) (by simp; omega)
        rw [List.drop_zero, List.take_of_length_le (by omega)] at this
        simp only [n32, List.drop_zero, Int.toNat_natCast]
        rw [List.take_of_length_le (by omega)]
        exact this
      simp [getS, f0S, coreW, prioB, putW, h1]
    rw [e]
    exact ⟨rfl, .inr rfl⟩
  · have h6 : m.length % 6 = 0 := by
      have : fitsB 4 fl m.length = true := by simpa [paddedB] using hf
      simp [fitsB] at this
      exact this.1
    have e : coreW (getS (f0S 4 fl st pad) m) = m := by
      have h1 := sets_back m (m.length / 6) (by omega)
      rw [List.take_of_length_le (by omega)] at h1
      simp [getS, f0S, coreW, prioB, putW, h1]
    rw [e]
    exact ⟨rfl, .inr rfl⟩
  · have h4 : 4 ≤ m.length := by simpa [fixedN] using hn
    refine ⟨?_, .inl rfl⟩
    simp [getS, f0S, coreW, prioB, putW, bytesOf_length]
    omega
  · simp [getS, f0S, coreW, prioB, putW, lowK]
  · have h8 : 8 ≤ m.length := by
      have : fitsB 7 fl m.length = true := by simpa [paddedB] using hf
      simpa [fitsB] using this
    have e : coreW (getS (f0S 7 fl st pad) m) = low m 0 := by
      have h1 : bytesOf (n31 m 0).toNat 4 = low (m.take 4) 0 := by
        have := bytesOf_31 (x := m.take 4) (by simp; omega)
        simp only [n31, List.drop_zero, Int.toNat_natCast]
        exact this
      have h2 : bytesOf (n32 m 4).toNat 4 = (m.drop 4).take 4 := bytesOf_be_of (by simp; omega)
      have h3 : low m 0 = low (m.take 4) 0 ++ ((m.drop 4).take 4 ++ m.drop 8) := by
        obtain ⟨a, r, rfl⟩ : ∃ a r, m = a :: r := by
          cases m with
          | nil => simp at h8
          | cons a r => exact ⟨a, r, rfl⟩
        have : (List.drop 4 (a :: r)).take 4 ++ List.drop 8 (a :: r) = List.drop 4 (a :: r) := by
          have := List.take_append_drop 4 (List.drop 4 (a :: r))
          rwa [List.drop_drop] at this
        rw [this]
        simp [low]
      simp only [getS, f0S, coreW, prioB, putW]
      simp
      rw [h1, h2, h3]
    rw [e]
    exact ⟨low_len _ _, .inr rfl⟩
  · have h4 : m.length = 4 := by simpa [fitsB, paddedB] using hf
    have e : coreW (getS (f0S 8 fl st pad) m) = low m 0 := by
      have h1 : bytesOf (n31 m 0).toNat 4 = low m 0 := by
        have := bytesOf_31 (x := m) h4
        simp only [n31, List.drop_zero, Int.toNat_natCast]
        rw [List.take_of_length_le (by omega)]
        exact this
      simp [getS, f0S, coreW, prioB, putW, h1]
    rw [e]
    exact ⟨low_len _ _, .inr rfl⟩
  · simp [getS, f0S, coreW, prioB, putW, lowK]
theorem getS_ty (p : Fp) (m : List UInt8) : (getS p m).ty = p.ty ∧ (getS p m).fl = p.fl ∧ (getS p m).st = p.st ∧ (getS p m).pad = p.pad := by
  unfold getS
  split
  · split <;> exact ⟨rfl, rfl, rfl, rfl⟩
  split
  · exact ⟨rfl, rfl, rfl, rfl⟩
  split
  · exact ⟨rfl, rfl, rfl, rfl⟩
  split
  · exact ⟨rfl, rfl, rfl, rfl⟩
  split
  · exact ⟨rfl, rfl, rfl, rfl⟩
  split
  · exact ⟨rfl, rfl, rfl, rfl⟩
  split <;> exact ⟨rfl, rfl, rfl, rfl⟩
/-- what is read may be written -/
theorem good_back (ty fl st : Int) (m : List UInt8) (hk : known ty = true) (hf0 : 0 ≤ fl) (hf1 : fl ≤ 255) (hs : idB st = true) (hr : rightB ty st = true) (hf : fitsB ty fl m.length = true ∨ paddedB ty = true) (h8 : ¬ (ty = 8 ∧ n31 m 0 = 0)) : goodW (getS (f0S ty fl st 0) m) = true := by
  obtain ⟨e1, e2, e3, e4⟩ := getS_ty (f0S ty fl st 0) m
  have e1' : (getS (f0S ty fl st 0) m).ty = ty := e1
  have e2' : (getS (f0S ty fl st 0) m).fl = fl := e2
  have e3' : (getS (f0S ty fl st 0) m).st = st := e3
  have e4' : (getS (f0S ty fl st 0) m).pad = 0 := e4
  have hpd : padOk (getS (f0S ty fl st 0) m) = true := by unfold padOk; rw [e1', e4']; simp
  have hw0 := (m.getD 4 0).toNat_lt
  have hpr : prioOk (getS (f0S ty fl st 0) m) = true := by
    unfold prioOk
    rw [e1', e2']
    cases hp : prioB ty fl with
    | false => rfl
    | true =>
      simp [prioB] at hp
      have h1 : (getS (f0S ty fl st 0) m).dep = n31 m 0 := by rcases hp with h | h <;> simp [getS, f0S, prS, h]
      have h2 : (getS (f0S ty fl st 0) m).wt = ((m.getD 4 0).toNat : Int) + 1 := by rcases hp with h | h <;> simp [getS, f0S, prS, h]
      rw [h1, h2, n31_lt]
      simp only [Bool.not_true, Bool.true_and, Bool.false_or, Bool.and_eq_true, decide_eq_true_eq]
      omega
  have hmk : mayK (getS (f0S ty fl st 0) m) = true := by
    unfold mayK
    rw [e1', e2']
    by_cases h6 : ty = 6
    · subst h6
      have : m.length = 8 := by simpa [fitsB, paddedB] using hf
      simp [getS, f0S, this]
    by_cases h8' : ty = 8
    · subst h8'
      have h0 : ¬ n31 m 0 = 0 := fun h => h8 ⟨rfl, h⟩
      have := idB_le (n31_lt m 0)
      simp [getS, f0S]
      omega
    by_cases h5 : ty = 5
    · subst h5; simp [getS, f0S, n31_lt]
    by_cases h7 : ty = 7
    · subst h7; simp [getS, f0S, n31_lt]
    by_cases h4 : ty = 4
    · subst h4
      have hfs : fitsB 4 fl m.length = true := by simpa [paddedB] using hf
      simp [fitsB] at hfs
      have hset : (getS (f0S 4 fl st 0) m).ss = setsS m (m.length / 6) := by simp [getS, f0S]
      simp only [hset]
      simp [setsB]
      refine ⟨fun a b hab => (sets_ok m _ (a, b) hab).1, ?_⟩
      rcases hfs.2 with h | h
      · left; simp [h, setsS]
      · right; exact h
    simp [h6, h8', h5, h7, h4]
  unfold goodW
  rw [e1', e2', e3', hk, hs, hr, hpd, hpr, hmk]
  simp [hf0, hf1]
/-- the body is written as it was read -/
theorem body_back (ty fl st : Int) (pad : Nat) (l m : List UInt8) (hk : known ty = true) (hf : fitsB ty fl l.length = true) (hu : unS ty fl l = .ok pad m) (hp : pad = 0) :
    (bodyW (getS (f0S ty fl st 0) m)).length = l.length ∧ (ty = 5 ∨ bodyW (getS (f0S ty fl st 0) m) = lowK ty l) ∧ (fitsB ty fl m.length = true ∨ paddedB ty = true) := by
  subst hp
  obtain ⟨e1, e2, e3, e4⟩ := getS_ty (f0S ty fl st 0) m
  have e1' : (getS (f0S ty fl st 0) m).ty = ty := e1
  have e2' : (getS (f0S ty fl st 0) m).fl = fl := e2
  have e4' : (getS (f0S ty fl st 0) m).pad = 0 := e4
  rw [body_core, e1', e2', e4']
  unfold unS at hu
  cases hpf : padF ty fl with
  | false =>
    rw [hpf] at hu
    simp only [Bool.false_eq_true, if_false] at hu
    split at hu
    · cases hu
    · rename_i hn
      injection hu with h1 h2
      subst h2
      obtain ⟨c1, c2⟩ := core_back ty fl st 0 l hk (by omega) (.inl hf)
      simp only [Bool.false_eq_true, if_false, List.nil_append, List.append_nil]
      exact ⟨c1, c2, .inl hf⟩
  | true =>
    have hpd : paddedB ty = true := by simp [padF] at hpf; exact hpf.1
    rw [hpf] at hu
    simp only [if_true] at hu
    split at hu
    · cases hu
    · rename_i hn
      split at hu
      · cases hu
      · rename_i hn2
        injection hu with h1 h2
        rw [h1] at h2 hn2
        obtain ⟨y, r, rfl⟩ : ∃ y r, l = y :: r := by
          cases l with
          | nil => simp at hn
          | cons y r => exact ⟨y, r, rfl⟩
        simp at h2
        subst h2
        simp at hn hn2
        obtain ⟨c1, c2⟩ := core_back ty fl st 0 r hk (by omega) (.inr hpd)
        have hy : byteOf 0 = y := by
          have : y.toNat = 0 := h1
          exact u8_eq (by rw [this]; rfl)
        simp only [if_true, hy, Int.toNat_zero, List.replicate_zero, List.append_nil]
        refine ⟨by simp [c1], ?_, .inr hpd⟩
        rcases c2 with c2 | c2
        · exact .inl c2
        · right
          have hne : ¬ (ty = 7 ∨ ty = 8) := by
            simp [paddedB] at hpd
            omega
          rw [c2]
          unfold lowK
          rw [if_neg hne, if_neg hne]
          rfl
theorem getS_ok (ty fl st pad : Int) (m : List UInt8) : OkP (getS (f0S ty fl st pad) m) := by
  have h0 := n32_lt m 0
  have h4 := n32_lt m 4
  have hs := sets_ok m (m.length / 6)
  unfold getS
  split
  · split <;> exact ⟨by simp [f0S, prS], by simp [f0S, prS], by simp [f0S, prS]⟩
  split
  · exact ⟨by simp [f0S, prS], by simp [f0S, prS], by simp [f0S, prS]⟩
  split
  · exact ⟨h0.1, h0.2, by simp [f0S, prS]⟩
  split
  · exact ⟨by simp [f0S, prS], by simp [f0S, prS], fun s h => (hs s h).2⟩
  split
  · exact ⟨by simp [f0S, prS], by simp [f0S, prS], by simp [f0S, prS]⟩
  split
  · exact ⟨h4.1, h4.2, by simp [f0S, prS]⟩
  split <;> exact ⟨by simp [f0S, prS], by simp [f0S, prS], by simp [f0S, prS]⟩
theorem un_le {ty fl : Int} {l m : List UInt8} {pad : Nat} (h : unS ty fl l = .ok pad m) : m.length ≤ l.length := by
  unfold unS at h
  split at h
  · split at h
    · cases h
    · split at h
      · cases h
      · injection h with h1 h2
        rw [← h2]
        simp only [List.length_take, List.length_drop]
        omega
  · split at h
    · cases h
    · injection h with h1 h2
      rw [← h2]
      exact Nat.le_refl _
theorem getS_small (ty fl st pad : Int) (m : List UInt8) : (getS (f0S ty fl st pad) m).pl.length ≤ m.length ∧ (getS (f0S ty fl st pad) m).ss.length ≤ m.length := by
  have hs := setsS_len m (m.length / 6)
  unfold getS
  split
  · split <;> exact ⟨by simp [f0S, prS], by simp [f0S, prS]⟩
  split
  · exact ⟨by simp [f0S, prS], by simp [f0S, prS]⟩
  split
  · exact ⟨by simp [f0S], by simp [f0S]⟩
  split
  · exact ⟨by simp [f0S], by rw [hs]; omega⟩
  split
  · exact ⟨by simp [f0S], by simp [f0S]⟩
  split
  · exact ⟨by simp [f0S], by simp [f0S]⟩
  split <;> exact ⟨by simp [f0S], by simp [f0S]⟩
theorem ps_small (l : List UInt8) (most : Int) : (ps l most).f.pl.length < 16777216 ∧ (ps l most).f.ss.length < 16777216 := by
  have hz : Fp.zero.pl.length < 16777216 ∧ Fp.zero.ss.length < 16777216 := ⟨by decide, by decide⟩
  have hN := be_take_lt l 3
  have e3 : (256 : Nat) ^ 3 = 16777216 := by decide
  rw [e3] at hN
  unfold ps
  split
  · exact hz
  split
  · exact hz
  split
  · exact hz
  split
  · exact hz
  generalize hq : (l.drop 9).take (be (l.take 3)) = q
  have hl : q.length < 16777216 := by rw [← hq]; simp only [List.length_take, List.length_drop]; omega
  unfold inS
  dsimp only
  split
  · exact ⟨by simp [f0S], by simp [f0S]⟩
  split
  · exact hz
  split
  · exact hz
  split
  · exact hz
  · rename_i pad m hu
    split
    · exact hz
    · have h1 := getS_small (l.getD 3 0).toNat (l.getD 4 0).toNat (n31 l 5) pad m
      have h2 := un_le hu
      dsimp only
      omega
/-- a frame with settings has neither padding nor a code -/
theorem ps_zz (l : List UInt8) (most : Int) : (ps l most).f.ss ≠ [] → (ps l most).f.pad = 0 ∧ (ps l most).f.code = 0 := by
  have hz : Fp.zero.ss ≠ [] → Fp.zero.pad = 0 ∧ Fp.zero.code = 0 := fun _ => ⟨rfl, rfl⟩
  unfold ps
  split
  · exact hz
  split
  · exact hz
  split
  · exact hz
  split
  · exact hz
  unfold inS
  dsimp only
  split
  · exact fun _ => ⟨rfl, rfl⟩
  split
  · exact hz
  split
  · exact hz
  split
  · exact hz
  · rename_i pad m hu
    split
    · exact hz
    · intro hs
      by_cases h4 : ((l.getD 3 0).toNat : Int) = 4
      · rw [h4] at hu ⊢
        have hp : padF 4 (l.getD 4 0).toNat = false := by simp [padF, paddedB]
        unfold unS at hu
        rw [hp] at hu
        simp only [Bool.false_eq_true, if_false] at hu
        split at hu
        · cases hu
        · injection hu with h1 h2
          subst h1
          exact ⟨by simp [getS, f0S], by simp [getS, f0S]⟩
      · exfalso
        apply hs
        dsimp only
        unfold getS
        have e : (f0S ((l.getD 3 0).toNat : Int) ((l.getD 4 0).toNat : Int) (n31 l 5) (pad : Int)).ty = ((l.getD 3 0).toNat : Int) := rfl
        rw [e]
        split
        · split <;> simp [f0S, prS]
        split
        · simp [f0S, prS]
        split
        · simp [f0S]
        split
        · simp [f0S]
        split
        · simp [f0S]
        split <;> simp [f0S]
/-- how many bytes are used -/
theorem ps_used (l : List UInt8) (most : Int) (h : (ps l most).err = 0) : ((ps l most).is = true ∧ (ps l most).xst = 0) ∨ (9 ≤ (ps l most).used ∧ (ps l most).used ≤ (l.length : Int)) := by
  unfold ps at h ⊢
  split at h
  · simp [Pq.no] at h
  rename_i h1
  rw [if_neg h1]
  split at h
  · simp [Pq.no] at h
  rename_i h2
  rw [if_neg h2]
  split at h
  · rename_i h3
    rw [if_pos h3]
    exact .inl ⟨rfl, rfl⟩
  rename_i h3
  rw [if_neg h3]
  split at h
  · simp [Pq.no] at h
  rename_i h4
  rw [if_neg h4]
  right
  have hl : ((l.drop 9).take (be (l.take 3))).length = be (l.take 3) := by simp only [List.length_take, List.length_drop]; omega
  have hu : (inS (l.getD 3 0).toNat (l.getD 4 0).toNat (n31 l 5) ((l.drop 9).take (be (l.take 3)))).used = 9 + (be (l.take 3) : Int) := by
    unfold inS
    dsimp only
    rw [hl]
    split
    · rfl
    split
    · rfl
    split
    · rfl
    split
    · rfl
    · split <;> rfl
  rw [hu]
  omega
theorem low_app (a b : List UInt8) (i : Nat) (h : a.length ≤ i) : low (a ++ b) i = a ++ low b (i - a.length) := by
  simp [low, List.set_append, List.getD_eq_getElem?_getD, List.getElem?_append_right h]
  omega
theorem low_app_left (a b : List UInt8) (i : Nat) (h : i < a.length) : low (a ++ b) i = low a i ++ b := by
  simp [low, List.set_append, List.getD_eq_getElem?_getD, List.getElem?_append_left h, h]
/-- what comes back of the bytes -/
def lowF (ty : Int) (d : List UInt8) : List UInt8 := if ty = 7 ∨ ty = 8 then low (low d 5) 9 else low d 5
/-- each byte is told -/
theorem ps_again (b : List UInt8) (f : Fp) (n : Int) (st code : Int) (h : ps b 65536 = ⟨f, n, false, st, code, 0⟩) (hk : known f.ty = true) (hp : f.pad = 0) :
    (wr f).2 = 0 ∧ ((wr f).1.length : Int) = n ∧ n ≤ (b.length : Int) ∧ (f.ty = 5 ∨ (wr f).1 = lowF f.ty (b.take n.toNat)) ∧ OkP f ∧ 9 ≤ n ∧ (f.ty = 7 ∨ f.ty = 8 → 10 ≤ n) := by
  unfold ps at h
  rw [if_neg (by omega)] at h
  split at h
  · simp [Pq.no] at h
  rename_i h9
  split at h
  · simp [Pq.bad] at h
  rename_i hm
  split at h
  · simp [Pq.no] at h
  rename_i hc
  obtain ⟨N, hN⟩ : ∃ N, be (b.take 3) = N := ⟨_, rfl⟩
  rw [hN] at h hm hc
  obtain ⟨t, ht⟩ : ∃ t, b.getD 3 0 = t := ⟨_, rfl⟩
  obtain ⟨g, hg⟩ : ∃ g, b.getD 4 0 = g := ⟨_, rfl⟩
  rw [ht, hg] at h
  have hll : ((b.drop 9).take N).length = N := by simp; omega
  have hbb : b.take (9 + N) = b.take 3 ++ [t, g] ++ (b.drop 5).take 4 ++ (b.drop 9).take N := by
    have e1 : b.take (9 + N) = b.take 9 ++ (b.drop 9).take N := List.take_add
    have e2 : b.take 9 = b.take 5 ++ (b.drop 5).take 4 := by rw [show (9 : Nat) = 5 + 4 by omega, List.take_add]
    have e3 : b.take 5 = b.take 3 ++ (b.drop 3).take 2 := by rw [show (5 : Nat) = 3 + 2 by omega, List.take_add]
    have e4 : (b.drop 3).take 2 = [t, g] := by
      rw [← ht, ← hg]
      obtain ⟨x0, x1, x2, x3, x4, r, rfl⟩ : ∃ x0 x1 x2 x3 x4 r, b = x0 :: x1 :: x2 :: x3 :: x4 :: r := by
        match b, h9 with
        | x0 :: x1 :: x2 :: x3 :: x4 :: r, _ => exact ⟨x0, x1, x2, x3, x4, r, rfl⟩
        | [], h => simp at h
        | [_], h => simp at h
        | [_, _], h => simp at h
        | [_, _, _], h => simp at h
        | [_, _, _, _], h => simp at h
      rfl
    rw [e1, e2, e3, e4]
  generalize hl : (b.drop 9).take N = l at *
  unfold inS at h
  dsimp only at h
  split at h
  · rename_i hkn
    injection h with h1 _
    rw [← h1] at hk
    simp only [f0S] at hk
    rw [hk] at hkn
    cases hkn
  rename_i hkn
  have hkn' : known (t.toNat : Int) = true := by simpa using hkn
  split at h
  · simp [Pq.bad] at h
  rename_i hr
  have hr' : rightB (t.toNat : Int) (n31 b 5) = true := by simpa using hr
  split at h
  · simp [Pq.bad] at h
  rename_i hft
  have hft' : fitsB (t.toNat : Int) (g.toNat : Int) l.length = true := by simpa using hft
  split at h
  · simp [Pq.bad] at h
  rename_i pad m hu
  split at h
  · simp [Pq.bad] at h
  rename_i h8
  injection h with h1 h2 h3 h4 h5 h6
  obtain ⟨e1, e2, e3, e4⟩ := getS_ty (f0S (t.toNat : Int) (g.toNat : Int) (n31 b 5) (pad : Int)) m
  rw [h1] at e1 e2 e3 e4
  have e1' : f.ty = (t.toNat : Int) := e1
  have e2' : f.fl = (g.toNat : Int) := e2
  have e3' : f.st = n31 b 5 := e3
  have e4' : f.pad = (pad : Int) := e4
  have hpad : pad = 0 := by omega
  obtain ⟨b1, b2, b3⟩ := body_back _ _ (n31 b 5) pad l m hkn' hft' hu hpad
  subst hpad
  have hgg := g.toNat_lt
  have good := good_back _ _ (n31 b 5) m hkn' (by omega) (by omega) (n31_lt b 5) hr' b3 h8
  have hff : getS (f0S (t.toNat : Int) (g.toNat : Int) (n31 b 5) 0) m = f := h1
  rw [hff] at b1 b2 good
  have hlen : (bodyW f).length = N := by rw [b1, hll]
  have ew := wr_ok good rfl (by rw [hlen]; omega)
  have eS : bytesOf f.st.toNat 4 = low ((b.drop 5).take 4) 0 := by
    rw [e3']
    have := bytesOf_31 (x := (b.drop 5).take 4) (by simp; omega)
    simp only [n31, Int.toNat_natCast]
    exact this
  have eT : byteOf f.ty = t := by
    rw [e1']
    have := t.toNat_lt
    exact u8_eq (by rw [(u8_byteOf (by omega) (by omega)).1]; omega)
  have eG : byteOf f.fl = g := by
    rw [e2']
    exact u8_eq (by rw [(u8_byteOf (by omega) (by omega)).1]; omega)
  have e3b : bytesOf N 3 = b.take 3 := by rw [← hN]; exact bytesOf_be_of (by simp; omega)
  rw [hlen, eS, eT, eG, e3b] at ew
  have hx3 : (b.take 3).length = 3 := by simp; omega
  have hx4 : ((b.drop 5).take 4).length = 4 := by simp; omega
  have hwl : (wr f).1.length = 9 + N := by
    rw [ew]
    simp only [List.length_append, low_len, hx3, hx4, hlen, List.length_cons, List.length_nil]
  refine ⟨by rw [ew], by rw [hwl]; omega, by omega, ?_, ?_, by omega, ?_⟩
  · rcases b2 with b2 | b2
    · exact .inl (e1'.trans b2)
    · right
      have en : n.toNat = 9 + N := by omega
      rw [ew, en, hbb, b2, e1']
      dsimp only
      have q1 : low (b.take 3 ++ [t, g] ++ (b.drop 5).take 4 ++ l) 5 = b.take 3 ++ [t, g] ++ low ((b.drop 5).take 4) 0 ++ l := by
        rw [low_app_left _ _ _ (by simp; omega), low_app _ _ _ (by simp; omega)]
        simp [hx3]
      unfold lowF lowK
      rw [q1]
      split
      · have hpre : (b.take 3 ++ [t, g] ++ low ((b.drop 5).take 4) 0).length = 9 := by
          simp only [List.length_append, low_len, hx3, hx4]
          rfl
        rw [low_app _ _ _ (by rw [hpre]; omega), hpre]
      · rfl
  · rw [← hff]
    exact getS_ok _ _ _ _ _
  · intro h78
    have : 4 ≤ l.length := by
      rw [e1'] at h78
      rcases h78 with h | h
      · rw [h] at hft'; simp [fitsB] at hft'; omega
      · rw [h] at hft'; simp [fitsB] at hft'; omega
    omega
theorem ps_head (t g : UInt8) (s : Nat) (B r : List UInt8) (most : Int) (hm : (B.length : Int) ≤ most) (hl : B.length < 16777216) : ps (bytesOf B.length 3 ++ [t, g] ++ bytesOf s 4 ++ B ++ r) most = inS t.toNat g.toNat ((s % 2147483648 : Nat) : Int) B := by
  obtain ⟨x, hx⟩ : ∃ x, bytesOf B.length 3 ++ [t, g] ++ bytesOf s 4 ++ B ++ r = x := ⟨_, rfl⟩
  rw [hx]
  have hlen : x.length = 9 + B.length + r.length := by rw [← hx]; simp [bytesOf_length]; omega
  have e3 : x.take 3 = bytesOf B.length 3 := by
    rw [← hx]
    have := mid (x := []) (y := bytesOf B.length 3) (r := [t, g] ++ bytesOf s 4 ++ B ++ r) (bytesOf_length _ 3) rfl
    simpa using this
  have eN : be (x.take 3) = B.length := by
    rw [e3, be_bytesOf]
    have : (256 : Nat) ^ 3 = 16777216 := by decide
    rw [this]
    omega
  obtain ⟨a, b, c, eb⟩ : ∃ a b c, bytesOf B.length 3 = [a, b, c] := ⟨_, _, _, rfl⟩
  have eT : x.getD 3 0 = t := by rw [← hx, eb]; rfl
  have eF : x.getD 4 0 = g := by rw [← hx, eb]; rfl
  have eS : n31 x 5 = ((s % 2147483648 : Nat) : Int) := by
    have := n31_pre ([a, b, c] ++ [t, g]) s (B ++ r) 5 rfl
    rw [← hx, eb]
    simp only [List.append_assoc] at this ⊢
    exact this
  have eB : (x.drop 9).take B.length = B := by
    have := mid (x := bytesOf B.length 3 ++ [t, g] ++ bytesOf s 4) (y := B) (r := r) rfl (i := 9) (by simp [bytesOf_length])
    rw [← hx]
    simpa using this
  unfold ps
  rw [hlen, eN, eT, eF, eS, eB]
  rw [if_neg (by omega), if_neg (by omega), if_neg (by omega), if_neg (by omega)]
/-- a DATA frame with padding -/
def dataP (l : List UInt8) (pad id : Int) : Fp := ⟨0, 8, id, l, pad, 0, 0, 0, 0, false, 0, []⟩
theorem good_data (l : List UInt8) (pad id : Int) (h0 : 0 ≤ pad) (h1 : pad ≤ 255) (i0 : 1 ≤ id) (i1 : id ≤ 2147483647) : goodW (dataP l pad id) = true := by
  have hz : decide (id = 0) = false := decide_eq_false (by omega)
  have h8 : hasB 8 8 = true := by decide
  have hi : idB id = true := by simp [idB, i1]; omega
  unfold goodW dataP
  dsimp only
  have e1 : rightB 0 id = true := by simp [rightB, zeroB, hz]
  have e2 : padOk ⟨0, 8, id, l, pad, 0, 0, 0, 0, false, 0, []⟩ = true := by simp [padOk, paddedB, h0, h1, h8]
  have e3 : mayK ⟨0, 8, id, l, pad, 0, 0, 0, 0, false, 0, []⟩ = true := by simp [mayK]
  have e4 : prioOk ⟨0, 8, id, l, pad, 0, 0, 0, 0, false, 0, []⟩ = true := by simp [prioOk, prioB]
  rw [hi, e1, e2, e3, e4]
  rfl
theorem body_data (l : List UInt8) (pad id : Int) : bodyW (dataP l pad id) = [byteOf pad] ++ l ++ List.replicate pad.toNat 0 := by
  simp [bodyW, dataP, padF, paddedB, hasB, prioB, putW]
theorem cano_data (l : List UInt8) (pad id : Int) : cano (dataP l pad id) = dataP l pad id := by
  simp [cano, dataP, padF, paddedB, hasB, prioB]
/-- more padding than there is room for -/
theorem ps_over (l : List UInt8) (pad id : Int) (h0 : 0 ≤ pad) (i0 : 1 ≤ id) (i1 : id ≤ 2147483647) (hs : (l.length : Int) + pad < 255) : ps ((wr (dataP l pad id)).1.set 9 (UInt8.ofNat (l.length + pad.toNat + 1))) 16777215 = .bad (10 + (l.length : Int) + pad) 0 1 := by
  have g := good_data l pad id h0 (by omega) i0 i1
  have hbl : (bodyW (dataP l pad id)).length = 1 + l.length + pad.toNat := by rw [body_data]; simp; omega
  have e := wr_ok g (body_data l pad id) (by rw [← body_data l pad id, hbl]; omega)
  obtain ⟨y, hy⟩ : ∃ y, UInt8.ofNat (l.length + pad.toNat + 1) = y := ⟨_, rfl⟩
  have hyn : y.toNat = l.length + pad.toNat + 1 := by rw [← hy, UInt8.toNat_ofNat']; omega
  obtain ⟨B, hB⟩ : ∃ B, [y] ++ l ++ List.replicate pad.toNat (0 : UInt8) = B := ⟨_, rfl⟩
  have hBl : B.length = 1 + l.length + pad.toNat := by rw [← hB]; simp; omega
  have e9 : (wr (dataP l pad id)).1.set 9 y = bytesOf B.length 3 ++ [byteOf 0, byteOf 8] ++ bytesOf id.toNat 4 ++ B ++ [] := by
    have hl2 : ([byteOf pad] ++ l ++ List.replicate pad.toNat (0 : UInt8)).length = B.length := by rw [← body_data l pad id, hbl, hBl]
    rw [e]
    dsimp only
    rw [hl2, ← hB]
    rw [List.set_append_right _ _ (by simp [bytesOf_length, dataP])]
    simp [bytesOf_length, dataP]
  rw [hy, e9, ps_head _ _ _ _ _ _ (by omega) (by omega)]
  have ei : ((id.toNat % 2147483648 : Nat) : Int) = id := by omega
  have et : ((byteOf 0).toNat : Int) = 0 := rfl
  have ef : ((byteOf 8).toNat : Int) = 8 := rfl
  rw [ei, et, ef]
  have hr : rightB 0 id = true := by have : ¬ id = 0 := by omega
                                     simp [rightB, zeroB, this]
  have hu : unS 0 8 B = .bad 1 := by
    have hg : B.getD 0 0 = y := by rw [← hB]; rfl
    unfold unS
    rw [if_pos (by simp [padF, paddedB, hasB]), hg, hyn, hBl]
    have : fixedN 0 8 = 0 := by simp [fixedN]
    rw [this, if_neg (by omega), if_pos (by omega)]
  unfold inS
  dsimp only
  rw [if_neg (by simp [known]), if_neg (by simp [hr]), if_neg (by simp [fitsB]), hu]
  dsimp only
  have eu : 9 + (B.length : Int) = 10 + (l.length : Int) + pad := by rw [hBl]; omega
  rw [eu]
end Go.Proofs.Ytkmcakneceagpaa
