/- Plain facts on bytes that go round: no program in sight. -/
import Derived.Laws.CopyOwn
set_option linter.unusedVariables false
namespace Go.Proofs.Ytkmcakneceagpaa

/-- The bytes l are held in bs from place p on, round its end. -/
def Hld (bs : List UInt8) (p : Nat) (l : List UInt8) : Prop := l.length ≤ bs.length ∧ ∀ i, i < l.length → bs[(p + i) % bs.length]? = l[i]?

theorem splice_get {α : Type} (L : List α) (off : Nat) (cs : List α) (h : off + cs.length ≤ L.length) (j : Nat) :
    (splice L off cs)[j]? = if off ≤ j ∧ j < off + cs.length then cs[j - off]? else L[j]? := by
  unfold splice
  by_cases h1 : j < off
  · rw [if_neg (by omega), List.getElem?_append_left (by simp; omega), List.getElem?_take, if_pos h1]
  · rw [List.getElem?_append_right (by simp; omega)]
    have e : (L.take off).length = off := by simp; omega
    rw [e]
    by_cases h2 : j < off + cs.length
    · rw [if_pos (by omega), List.getElem?_append_left (by omega)]
    · rw [if_neg (by omega), List.getElem?_append_right (by omega), List.getElem?_drop]
      congr 1
      omega
theorem mod_once {x C : Nat} (h : x < C + C) : x % C = if x < C then x else x - C := by
  split
  · rw [Nat.mod_eq_of_lt (by assumption)]
  · rw [Nat.mod_eq_sub_mod (by omega), Nat.mod_eq_of_lt (by omega)]

theorem Hld.nil (bs : List UInt8) (p : Nat) : Hld bs p [] := ⟨by simp, fun i h => by simp at h⟩

/-- bytes more -/
theorem Hld.put {bs l xs : List UInt8} {p C : Nat} (hC : bs.length = C) (h : Hld bs p l) (hp : p < C) (hm : l.length + xs.length ≤ C) :
    Hld (splice (splice bs ((p + l.length) % C) (xs.take (C - (p + l.length) % C))) 0 (xs.drop (C - (p + l.length) % C))) p (l ++ xs) := by
  have hn := h.1
  have hf : (p + l.length) % C < C := Nat.mod_lt _ (by omega)
  have e1 : (xs.take (C - (p + l.length) % C)).length = min (C - (p + l.length) % C) xs.length := by simp
  have e2 : (xs.drop (C - (p + l.length) % C)).length = xs.length - (C - (p + l.length) % C) := by simp
  have l1 : (splice bs ((p + l.length) % C) (xs.take (C - (p + l.length) % C))).length = C := by rw [length_splice _ _ _ (by omega), hC]
  have l2 : (splice (splice bs ((p + l.length) % C) (xs.take (C - (p + l.length) % C))) 0 (xs.drop (C - (p + l.length) % C))).length = C := by rw [length_splice _ _ _ (by omega), l1]
  refine ⟨by simp; omega, fun i hi => ?_⟩
  have hi' : i < l.length + xs.length := by simpa using hi
  rw [l2, splice_get _ _ _ (by omega), splice_get _ _ _ (by omega), mod_once (show p + i < C + C by omega), e1, e2]
  have hfe := mod_once (show p + l.length < C + C by omega)
  generalize hF : (p + l.length) % C = F at *
  by_cases hl : i < l.length
  · rw [if_neg, if_neg, List.getElem?_append_left hl, ← h.2 i hl, hC, mod_once (show p + i < C + C by omega)]
    · split at hfe <;> split <;> omega
    · split at hfe <;> split <;> omega
  · rw [List.getElem?_append_right (by omega)]
    by_cases hx : i - l.length < C - F
    · have e3 : (if p + i < C then p + i else p + i - C) = F + (i - l.length) := by split at hfe <;> split <;> omega
      rw [e3, if_neg (by omega), if_pos (by omega), List.getElem?_take, if_pos (by omega)]
      congr 1
      omega
    · have e3 : (if p + i < C then p + i else p + i - C) = i - l.length - (C - F) := by split at hfe <;> split <;> omega
      rw [e3, if_pos (by omega), List.getElem?_drop]
      congr 1
      omega
theorem Hld.put' {bs l xs : List UInt8} {p C F k m : Nat} (hC : bs.length = C) (h : Hld bs p l) (hp : p < C) (hm : l.length + m ≤ C) (hx : m ≤ xs.length) (hF : (p + l.length) % C = F) (hk : min (C - F) m = k) :
    Hld (splice (splice bs F ((xs.take m).take (C - F))) 0 (((xs.drop k).take (m - k)).take C)) p (l ++ xs.take m) := by
  have hl : (xs.take m).length = m := by simp; omega
  have h1 := h.put hC hp (xs := xs.take m) (by omega)
  rw [hF] at h1
  have e1 : ((xs.drop k).take (m - k)).take C = (xs.take m).drop (C - F) := by
    rw [List.take_of_length_le (by simp; omega), ← List.drop_take]
    by_cases h2 : C - F ≤ m
    · rw [show k = C - F by omega]
    · rw [List.drop_eq_nil_of_le (by omega), List.drop_eq_nil_of_le (by omega)]
  rw [e1]
  exact h1
/-- some are let go -/
theorem Hld.drop {bs l : List UInt8} {p C : Nat} (hC : bs.length = C) (h : Hld bs p l) (m : Nat) (hm : m ≤ l.length) (hc : 0 < C) : Hld bs ((p + m) % C) (l.drop m) := by
  have hn := h.1
  refine ⟨by simp; omega, fun i hi => ?_⟩
  have hi' : m + i < l.length := by simp at hi; omega
  rw [List.getElem?_drop, ← h.2 _ hi', hC, Nat.mod_add_mod]
  congr 2
  omega
/-- the first m of them, copied in two parts -/
theorem Hld.peek {bs l zs : List UInt8} {p C : Nat} (hC : bs.length = C) (h : Hld bs p l) (hp : p < C ∨ l = []) (m : Nat) (hm : m ≤ l.length) (hz : zs.length = m) :
    splice (splice zs 0 ((bs.drop p).take (min m (C - p)))) (min m (C - p)) (bs.take (m - min m (C - p))) = l.take m := by
  have hn := h.1
  have e1 : ((bs.drop p).take (min m (C - p))).length = min m (C - p) := by simp; omega
  have e2 : (bs.take (m - min m (C - p))).length = m - min m (C - p) := by
    rcases hp with hp | rfl
    · simp; omega
    · simp at hm; simp; omega
  have l1 : (splice zs 0 ((bs.drop p).take (min m (C - p)))).length = m := by rw [length_splice _ _ _ (by omega), hz]
  have l2 : (splice (splice zs 0 ((bs.drop p).take (min m (C - p)))) (min m (C - p)) (bs.take (m - min m (C - p)))).length = m := by rw [length_splice _ _ _ (by omega), l1]
  apply List.ext_getElem?
  intro i
  by_cases hi : i < m
  · have hlt : i < l.length := by omega
    have hpc : p < C := by rcases hp with hp | rfl; exact hp; simp at hlt
    have hr : (l.take m)[i]? = bs[if p + i < C then p + i else p + i - C]? := by rw [List.getElem?_take, if_pos hi, ← h.2 i hlt, hC, mod_once (show p + i < C + C by omega)]
    rw [hr, splice_get _ _ _ (by omega), splice_get _ _ _ (by omega), e1, e2]
    by_cases hk : p + i < C
    · rw [if_pos hk, if_neg (by omega), if_pos (by omega), List.getElem?_take, if_pos (by omega), List.getElem?_drop]
      congr 1
    · rw [if_neg hk, if_pos (by omega), List.getElem?_take, if_pos (by omega)]
      congr 1
      omega
  · rw [List.getElem?_eq_none (by omega), List.getElem?_eq_none (by simp; omega)]
theorem Hld.peek' {bs l zs : List UInt8} {p C : Nat} (hC : bs.length = C) (h : Hld bs p l) (hp : p < C ∨ l = []) (m : Nat) (hm : m ≤ l.length) (hz : zs.length = m) :
    splice (splice zs 0 ((bs.drop p).take m)) (min m (C - p)) (bs.take (m - min m (C - p))) = l.take m := by
  rw [← h.peek hC hp m hm hz, List.take_eq_take_min (l := bs.drop p) (i := m)]
  simp [hC]
end Go.Proofs.Ytkmcakneceagpaa
