/- Both pumps' calls, at every state. -/
import Derived.Test.YtkmcakneceagpaaRPump
set_option linter.unusedVariables false
set_option linter.unusedSimpArgs false
namespace Go.Proofs.Ytkmcakneceagpaa
open Go.RowKit
def endV (s : PSt) : Int := if s.cl then 5 else 0
def putV (C : Nat) (s : PSt) (m : Nat) : Int := if s.cl then 5 else if C - s.l.length < m then 9 else 0
def putS (C : Nat) (s : PSt) (xs : List UInt8) : PSt := if s.cl then s else if C - s.l.length < xs.length then s else ⟨s.l ++ xs, s.cl, s.tl⟩
def endS (s : PSt) : PSt := ⟨s.l, true, s.tl⟩
def tailS (s : PSt) (hs : List Hdr) : PSt := if s.cl then s else ⟨s.l, true, some hs⟩
def doneV (s : PSt) (N : Int) : Int := if N < 0 ∨ (s.l.length : Int) < N then 1 else 0
def doneS (s : PSt) (N : Int) : PSt := if N < 0 ∨ (s.l.length : Int) < N then s else ⟨s.l.drop N.toNat, s.cl, s.tl⟩
def nextB (s : PSt) (N : Int) : Bool := decide (mostN N s.l.length = s.l.length) && (s.cl && s.tl.isNone)
def lastB (s : PSt) : Bool := s.tl.isSome && s.l.isEmpty
def lastS (s : PSt) : PSt := if lastB s then ⟨[], s.cl, none⟩ else s
def lastL (s : PSt) : List Hdr := if lastB s then s.tl.getD [] else []
section
variable {w : World} {u g gb C : Nat} {D : List Nat} {s : PSt}
theorem kp1 {w w' : World} {u g gb : Nat} (k : Kp [u] w w') : Kp [u, g, gb] w w' := k.mono (fun s hs => .inl (by simp at hs; simp [hs]))
theorem kp2 {w w' : World} {u g gb : Nat} (k : Kp [g, gb] w w') : Kp [u, g, gb] w w' := k.mono (fun s hs => .inl (by simp at hs; rcases hs with rfl | rfl <;> simp))
theorem PmPutA (h : Pm w u g gb C D s) (B : Option Addr) (m d : Nat) (xs : List UInt8) (hx : Rd w B m d xs) (hm : m ≤ 140737488355328) (hxb : 0 < m → ∀ b, b ∈ ob B → b ≠ g ∧ b ≠ gb) :
    Calls Try.prog 84 #[.pointer (some ⟨u, 0, none⟩), .slice B m d] w fun e w' => e = .returned (.int .i64 (putV C s m)) ∧ Kp [u, g, gb] w w' ∧ Pm w' u g gb C D (putS C s xs) := by
  have hl := hx.len
  obtain ⟨l, cl, tl⟩ := s
  cases cl
  · by_cases hf : m ≤ C - l.length
    · have e1 : putV C ⟨l, false, tl⟩ m = 0 := by simp [putV]; omega
      have e2 : putS C ⟨l, false, tl⟩ xs = ⟨l ++ xs, false, tl⟩ := by simp [putS]; omega
      rw [e1, e2]
      exact (PmPut0 h B m d xs hx hm hxb hf).mono fun e w' ⟨he, hk, hp⟩ => ⟨he, kp2 hk, hp⟩
    · have e1 : putV C ⟨l, false, tl⟩ m = 9 := by simp [putV]; omega
      have e2 : putS C ⟨l, false, tl⟩ xs = ⟨l, false, tl⟩ := by simp [putS]; omega
      rw [e1, e2]
      exact (PmPutF h B m d (by omega)).mono fun e w' ⟨he, hk⟩ => ⟨he, hk ▸ Kp.refl _ _, hk ▸ h⟩
  · exact (PmPut1 h B m d).mono fun e w' ⟨he, hk⟩ => ⟨he, hk ▸ Kp.refl _ _, hk ▸ h⟩
theorem PmEndA (h : Pm w u g gb C D s) : Calls Try.prog 88 #[.pointer (some ⟨u, 0, none⟩)] w fun e w' => e = .returned (.int .i64 (endV s)) ∧ Kp [u, g, gb] w w' ∧ Pm w' u g gb C D (endS s) := by
  obtain ⟨l, cl, tl⟩ := s
  cases cl
  · exact (PmEnd0 h).mono fun e w' ⟨he, hk, hp⟩ => ⟨he, kp1 hk, hp⟩
  · exact (PmEnd1 h).mono fun e w' ⟨he, hk⟩ => ⟨he, hk ▸ Kp.refl _ _, hk ▸ h⟩
theorem PmTailA (h : Pm w u g gb C D s) (B : Option Addr) (m d : Nat) (hs : List Hdr) (hx : Hd w B m d hs) (hm : m * 40 ≤ 140737488351232) (hxb : 0 < m → ∀ b, b ∈ ob B → b ≠ u) :
    Calls Try.prog 87 #[.pointer (some ⟨u, 0, none⟩), .slice B m d] w fun e w' => e = .returned (.int .i64 (endV s)) ∧ Kp [u, g, gb] w w' ∧ ∃ D', Nw D D' w ∧ Pm w' u g gb C D' (tailS s hs) := by
  obtain ⟨l, cl, tl⟩ := s
  cases cl
  · exact (PmTail0 h B m d hs hx hm hxb).mono fun e w' ⟨he, hk, hp⟩ => ⟨he, kp1 hk, _, fun s hs => .inr (by simp at hs; omega), hp⟩
  · exact (PmTail1 h B m d).mono fun e w' ⟨he, hk⟩ => ⟨he, hk ▸ Kp.refl _ _, D, Nw.refl _ _, hk ▸ h⟩
theorem PmDoneA (h : Pm w u g gb C D s) (N : Int) : Calls Try.prog 86 #[.pointer (some ⟨u, 0, none⟩), .int .i64 N] w fun e w' => e = .returned (.int .i64 (doneV s N)) ∧ Kp [u, g, gb] w w' ∧ Pm w' u g gb C D (doneS s N) := by
  obtain ⟨l, cl, tl⟩ := s
  by_cases h0 : N < 0
  · have e1 : doneV ⟨l, cl, tl⟩ N = 1 := by simp [doneV, h0]
    have e2 : doneS ⟨l, cl, tl⟩ N = ⟨l, cl, tl⟩ := by simp [doneS, h0]
    rw [e1, e2]
    cases cl
    · exact (PmDoneA0 h N h0).mono fun e w' ⟨he, hk⟩ => ⟨he, hk ▸ Kp.refl _ _, hk ▸ h⟩
    · exact (PmDoneA1 h N h0).mono fun e w' ⟨he, hk⟩ => ⟨he, hk ▸ Kp.refl _ _, hk ▸ h⟩
  by_cases h1 : (l.length : Int) < N
  · have e1 : doneV ⟨l, cl, tl⟩ N = 1 := by simp [doneV, h1]
    have e2 : doneS ⟨l, cl, tl⟩ N = ⟨l, cl, tl⟩ := by simp [doneS, h1]
    rw [e1, e2]
    cases cl
    · exact (PmDoneB0 h N (by omega) h1).mono fun e w' ⟨he, hk⟩ => ⟨he, hk ▸ Kp.refl _ _, hk ▸ h⟩
    · exact (PmDoneB1 h N (by omega) h1).mono fun e w' ⟨he, hk⟩ => ⟨he, hk ▸ Kp.refl _ _, hk ▸ h⟩
  · obtain ⟨k, rfl⟩ := Int.eq_ofNat_of_zero_le (show 0 ≤ N by omega)
    have e1 : doneV ⟨l, cl, tl⟩ (k : Int) = 0 := by simp [doneV]; omega
    have e2 : doneS ⟨l, cl, tl⟩ (k : Int) = ⟨l.drop k, cl, tl⟩ := by simp [doneS]; omega
    rw [e1, e2]
    cases cl
    · exact (PmDoneC0 h k (by omega)).mono fun e w' ⟨he, hk, hp⟩ => ⟨he, kp2 hk, hp⟩
    · exact (PmDoneC1 h k (by omega)).mono fun e w' ⟨he, hk, hp⟩ => ⟨he, kp2 hk, hp⟩
theorem PmNextA (h : Pm w u g gb C D s) (N : Int) : Calls Try.prog 85 #[.pointer (some ⟨u, 0, none⟩), .int .i64 N] w fun e w' => ∃ A k c, e = .returned (.tuple #[.slice A k c, .bool (nextB s N)]) ∧ Ow w' w.heap.size 5 1 A k c ((s.l.take (mostN N s.l.length)).map u8) ∧ Kp [] w w' := by
  obtain ⟨l, cl, tl⟩ := s
  cases cl <;> cases tl
  · have e1 : nextB ⟨l, false, none⟩ N = false := by simp [nextB]
    rw [e1]; exact PmNext00 h N
  · rename_i hs
    have e1 : nextB ⟨l, false, some hs⟩ N = false := by simp [nextB]
    rw [e1]; exact PmNext01 h N
  · have e1 : nextB ⟨l, true, none⟩ N = decide (mostN N l.length = l.length) := by simp [nextB]
    rw [e1]; exact PmNext10 h N
  · rename_i hs
    have e1 : nextB ⟨l, true, some hs⟩ N = false := by simp [nextB]
    rw [e1]; exact PmNext11 h N
theorem PmLastA (h : Pm w u g gb C D s) : Calls Try.prog 89 #[.pointer (some ⟨u, 0, none⟩)] w fun e w' => ∃ A n c, e = .returned (.tuple #[.slice A n c, .bool (lastB s)]) ∧ Hd w' A n c (lastL s) ∧ n ≤ 140737488351232 ∧ (0 < n → ∀ b, b ∈ ob A → b < w.heap.size ∧ b ≠ u ∧ b ≠ g ∧ b ≠ gb ∧ b ∈ D) ∧ Kp [u, g, gb] w w' ∧ Pm w' u g gb C D (lastS s) := by
  obtain ⟨l, cl, tl⟩ := s
  cases tl with
  | none => exact (PmLastN h).mono fun e w' ⟨he, hk⟩ => ⟨none, 0, 0, he, Hd.nil _ _ _, by omega, by omega, hk ▸ Kp.refl _ _, hk ▸ h⟩
  | some hs =>
    cases l with
    | nil => exact (PmLast0 h).mono fun e w' ⟨A, n, c, he, hd, hn, hb, hk, hp⟩ => ⟨A, n, c, he, hd, hn, hb, kp1 hk, hp⟩
    | cons x l => exact (PmLastL h (by simp)).mono fun e w' ⟨he, hk⟩ => ⟨none, 0, 0, he, Hd.nil _ _ _, by omega, by omega, hk ▸ Kp.refl _ _, hk ▸ h⟩
end
section
variable {w : World} {q h C : Nat} {S D : List Nat} {s : PSt}
theorem kq1 {w w' : World} {q : Nat} {S : List Nat} (k : Kp [q] w w') : Kp (q :: S) w w' := k.mono (fun s hs => .inl (by simp at hs; simp [hs]))
theorem kq2 {w w' : World} {q : Nat} {S : List Nat} (k : Kp S w w') : Kp (q :: S) w w' := k.mono (fun s hs => .inl (by simp [hs]))
theorem RpPutA (r : Rp w q h S D C s) (B : Option Addr) (m d : Nat) (xs : List UInt8) (hx : Rd w B m d xs) (hm : m ≤ 140737488355328) :
    Calls Try.prog 136 #[.pointer (some ⟨q, 0, none⟩), .slice B m d] w fun e w' => e = .returned (.int .i64 (putV C s m)) ∧ Kp (q :: S) w w' ∧ ∃ S', Nw S S' w ∧ Rp w' q h S' D C (putS C s xs) := by
  have hl := hx.len
  obtain ⟨l, cl, tl⟩ := s
  cases cl
  · by_cases hf : m ≤ C - l.length
    · have e1 : putV C ⟨l, false, tl⟩ m = 0 := by simp [putV]; omega
      have e2 : putS C ⟨l, false, tl⟩ xs = ⟨l ++ xs, false, tl⟩ := by simp [putS]; omega
      rw [e1, e2]
      exact (RpPut0 r B m d xs hx hm hf).mono fun e w' ⟨he, hk, hp⟩ => ⟨he, kq2 hk, hp⟩
    · have e1 : putV C ⟨l, false, tl⟩ m = 9 := by simp [putV]; omega
      have e2 : putS C ⟨l, false, tl⟩ xs = ⟨l, false, tl⟩ := by simp [putS]; omega
      rw [e1, e2]
      exact (RpPutF r B m d (by omega)).mono fun e w' ⟨he, hk, hp⟩ => ⟨he, hk.mono (fun s hs => by cases hs), S, Nw.refl _ _, hp⟩
  · exact (RpPut1 r B m d).mono fun e w' ⟨he, hk⟩ => ⟨he, hk ▸ Kp.refl _ _, S, Nw.refl _ _, hk ▸ r⟩
theorem RpEndA (r : Rp w q h S D C s) : Calls Try.prog 139 #[.pointer (some ⟨q, 0, none⟩)] w fun e w' => e = .returned (.int .i64 (endV s)) ∧ Kp (q :: S) w w' ∧ Rp w' q h S D C (endS s) := by
  obtain ⟨l, cl, tl⟩ := s
  cases cl
  · exact (RpEnd0 r).mono fun e w' ⟨he, hk, hp⟩ => ⟨he, kq1 hk, hp⟩
  · exact (RpEnd1 r).mono fun e w' ⟨he, hk⟩ => ⟨he, hk ▸ Kp.refl _ _, hk ▸ r⟩
theorem RpTailA (r : Rp w q h S D C s) (B : Option Addr) (m d : Nat) (hs : List Hdr) (hx : Hd w B m d hs) (hm : m * 40 ≤ 140737488351232) (hxb : 0 < m → ∀ b, b ∈ ob B → b ≠ q) :
    Calls Try.prog 140 #[.pointer (some ⟨q, 0, none⟩), .slice B m d] w fun e w' => e = .returned (.int .i64 (endV s)) ∧ Kp (q :: S) w w' ∧ ∃ D', Nw D D' w ∧ Rp w' q h S D' C (tailS s hs) := by
  obtain ⟨l, cl, tl⟩ := s
  cases cl
  · exact (RpTail0 r B m d hs hx hm hxb).mono fun e w' ⟨he, hk, D', hD, hp⟩ => ⟨he, kq1 hk, D', fun s hs => .inr (hD s hs), hp⟩
  · exact (RpTail1 r B m d).mono fun e w' ⟨he, hk⟩ => ⟨he, hk ▸ Kp.refl _ _, D, Nw.refl _ _, hk ▸ r⟩
theorem RpDoneA (r : Rp w q h S D C s) (N : Int) : Calls Try.prog 138 #[.pointer (some ⟨q, 0, none⟩), .int .i64 N] w fun e w' => e = .returned (.int .i64 (doneV s N)) ∧ Kp (q :: S) w w' ∧ ∃ S', Nw S S' w ∧ Rp w' q h S' D C (doneS s N) := by
  obtain ⟨l, cl, tl⟩ := s
  by_cases h0 : N < 0
  · have e1 : doneV ⟨l, cl, tl⟩ N = 1 := by simp [doneV, h0]
    have e2 : doneS ⟨l, cl, tl⟩ N = ⟨l, cl, tl⟩ := by simp [doneS, h0]
    rw [e1, e2]
    cases cl
    · exact (RpDoneA0 r N h0).mono fun e w' ⟨he, hk⟩ => ⟨he, hk ▸ Kp.refl _ _, S, Nw.refl _ _, hk ▸ r⟩
    · exact (RpDoneA1 r N h0).mono fun e w' ⟨he, hk⟩ => ⟨he, hk ▸ Kp.refl _ _, S, Nw.refl _ _, hk ▸ r⟩
  by_cases h1 : (l.length : Int) < N
  · have e1 : doneV ⟨l, cl, tl⟩ N = 1 := by simp [doneV, h1]
    have e2 : doneS ⟨l, cl, tl⟩ N = ⟨l, cl, tl⟩ := by simp [doneS, h1]
    rw [e1, e2]
    cases cl
    · exact (RpDoneB0 r N (by omega) h1).mono fun e w' ⟨he, hk⟩ => ⟨he, hk ▸ Kp.refl _ _, S, Nw.refl _ _, hk ▸ r⟩
    · exact (RpDoneB1 r N (by omega) h1).mono fun e w' ⟨he, hk⟩ => ⟨he, hk ▸ Kp.refl _ _, S, Nw.refl _ _, hk ▸ r⟩
  · obtain ⟨k, rfl⟩ := Int.eq_ofNat_of_zero_le (show 0 ≤ N by omega)
    have e1 : doneV ⟨l, cl, tl⟩ (k : Int) = 0 := by simp [doneV]; omega
    have e2 : doneS ⟨l, cl, tl⟩ (k : Int) = ⟨l.drop k, cl, tl⟩ := by simp [doneS]; omega
    rw [e1, e2]
    cases cl
    · exact (RpDoneC0 r k (by omega)).mono fun e w' ⟨he, hk, hp⟩ => ⟨he, kq2 hk, hp⟩
    · exact (RpDoneC1 r k (by omega)).mono fun e w' ⟨he, hk, hp⟩ => ⟨he, kq2 hk, hp⟩
theorem RpNextA (r : Rp w q h S D C s) (N : Int) : Calls Try.prog 137 #[.pointer (some ⟨q, 0, none⟩), .int .i64 N] w fun e w' => ∃ A k c, e = .returned (.tuple #[.slice A k c, .bool (nextB s N)]) ∧ Ow w' w.heap.size 5 1 A k c ((s.l.take (mostN N s.l.length)).map u8) ∧ Kp [] w w' := by
  obtain ⟨l, cl, tl⟩ := s
  cases cl <;> cases tl
  · have e1 : nextB ⟨l, false, none⟩ N = false := by simp [nextB]
    rw [e1]; exact RpNext00 r N
  · rename_i hs
    have e1 : nextB ⟨l, false, some hs⟩ N = false := by simp [nextB]
    rw [e1]; exact RpNext01 r N
  · have e1 : nextB ⟨l, true, none⟩ N = decide (mostN N l.length = l.length) := by simp [nextB]
    rw [e1]; exact RpNext10 r N
  · rename_i hs
    have e1 : nextB ⟨l, true, some hs⟩ N = false := by simp [nextB]
    rw [e1]; exact RpNext11 r N
theorem RpLastA (r : Rp w q h S D C s) : Calls Try.prog 141 #[.pointer (some ⟨q, 0, none⟩)] w fun e w' => ∃ A n c, e = .returned (.tuple #[.slice A n c, .bool (lastB s)]) ∧ Hd w' A n c (lastL s) ∧ (0 < n → ∀ b, b ∈ ob A → b < w.heap.size ∧ b ≠ q ∧ b ∉ S ∧ b ∈ D) ∧ Kp (q :: S) w w' ∧ Rp w' q h S D C (lastS s) := by
  obtain ⟨l, cl, tl⟩ := s
  cases tl with
  | none => exact (RpLastN r).mono fun e w' ⟨he, hk⟩ => ⟨none, 0, 0, he, Hd.nil _ _ _, by omega, hk ▸ Kp.refl _ _, hk ▸ r⟩
  | some hs =>
    cases l with
    | nil => exact (RpLast0 r).mono fun e w' ⟨A, n, c, he, hd, hb, hk, hp⟩ => ⟨A, n, c, he, hd, hb, kq1 hk, hp⟩
    | cons x l => exact (RpLastL r (by simp)).mono fun e w' ⟨he, hk⟩ => ⟨none, 0, 0, he, Hd.nil _ _ _, by omega, hk ▸ Kp.refl _ _, hk ▸ r⟩
end
/-- Both pumps, apart from one another. -/
structure JP (b0 : Nat) (w : World) (u g gb q h C : Nat) (S D1 D2 : List Nat) (s1 s2 : PSt) : Prop where
  pm : Pm w u g gb C D1 s1
  rp : Rp w q h S D2 C s2
  d1 : ∀ x, x ∈ D1 → x ∉ q :: S ∧ x < w.heap.size
  d2 : ∀ x, x ∈ D2 → (x ≠ u ∧ x ≠ g ∧ x ≠ gb) ∧ x < w.heap.size
  dq : ∀ x, x ∈ q :: S → x ≠ u ∧ x ≠ g ∧ x ≠ gb
  base : (b0 ≤ u ∧ b0 ≤ g ∧ b0 ≤ gb ∧ b0 ≤ q) ∧ ∀ x, x ∈ S → b0 ≤ x
theorem Pm.trim {w : World} {u g gb C : Nat} {D : List Nat} {s : PSt} (h : Pm w u g gb C D s) : Pm w u g gb C (D.filter (fun d => decide (d < w.heap.size))) s := by
  obtain ⟨A, n, c, e, hd, hn, hb⟩ := h.rep
  exact ⟨h.ne, h.ring, A, n, c, e, hd, hn, fun hp b hb1 => ⟨(hb hp b hb1).1, (hb hp b hb1).2.1, (hb hp b hb1).2.2.1, by simp; exact ⟨(hb hp b hb1).2.2.2, hd.lt hp b hb1⟩⟩⟩
theorem Rp.trim {w : World} {q h C : Nat} {S D : List Nat} {s : PSt} (r : Rp w q h S D C s) : Rp w q h S (D.filter (fun d => decide (d < w.heap.size))) C s := by
  obtain ⟨A, n, c, e, hd, hn, hb⟩ := r.rep
  exact ⟨r.ne, r.ring, A, n, c, e, hd, hn, fun hp b hb1 => ⟨(hb hp b hb1).1, (hb hp b hb1).2.1, by simp; exact ⟨(hb hp b hb1).2.2, hd.lt hp b hb1⟩⟩⟩
section
variable {b0 : Nat} {w w' : World} {u g gb q h C : Nat} {S D1 D2 : List Nat} {s1 s2 : PSt}
theorem JP.keep (j : JP b0 w u g gb q h C S D1 D2 s1 s2) {T : List Nat} (k : Kp T w w') (hT : ∀ t, t ∈ T → w.heap.size ≤ t) : JP b0 w' u g gb q h C S D1 D2 s1 s2 := by
  have l1 := j.pm.lt
  have l2 := j.rp.lt
  have hs := k.size
  refine ⟨j.pm.keep k (fun h => by have := hT _ h; omega) (fun h => by have := hT _ h; omega) (fun h => by have := hT _ h; omega) (fun d hd h => by have := hT _ h; have := (j.d1 d hd).2; omega),
    j.rp.keep k (fun h => by have := hT _ h; omega) (fun x hx h => by have := hT _ h; have := l2.2 x hx; omega) (fun d hd h => by have := hT _ h; have := (j.d2 d hd).2; omega),
    fun x hx => ⟨(j.d1 x hx).1, by have := (j.d1 x hx).2; omega⟩, fun x hx => ⟨(j.d2 x hx).1, by have := (j.d2 x hx).2; omega⟩, j.dq, j.base⟩
/-- the program's pump has turned -/
theorem JP.prog (j : JP b0 w u g gb q h C S D1 D2 s1 s2) {D' : List Nat} {s' : PSt} (k : Kp [u, g, gb] w w') (hD : Nw D1 D' w) (p : Pm w' u g gb C D' s') : ∃ D'', Nw D1 D'' w ∧ JP b0 w' u g gb q h C S D'' D2 s' s2 := by
  have l2 := j.rp.lt
  have hs := k.size
  have hq : ∀ x, x ∈ q :: S → x < w.heap.size := fun x hx => by rcases List.mem_cons.1 hx with rfl | hx; exact l2.1; exact l2.2 x hx
  have nin : ∀ x, (x ≠ u ∧ x ≠ g ∧ x ≠ gb) → x ∉ [u, g, gb] := fun x h hm => by simp at hm; omega
  refine ⟨_, fun x hx => hD x (List.mem_filter.1 hx).1, p.trim, j.rp.keep k (nin _ (j.dq q (by simp))) (fun x hx => nin _ (j.dq x (by simp [hx]))) (fun d hd => nin _ (j.d2 d hd).1), fun x hx => ?_, fun x hx => ⟨(j.d2 x hx).1, by have := (j.d2 x hx).2; omega⟩, j.dq, j.base⟩
  have hx2 := List.mem_filter.1 hx
  refine ⟨fun hm => ?_, by simpa using hx2.2⟩
  rcases hD x hx2.1 with h1 | h1
  · exact (j.d1 x h1).1 hm
  · have := hq x hm; omega
/-- the reference's pump has turned -/
theorem JP.refd (j : JP b0 w u g gb q h C S D1 D2 s1 s2) {S' D' : List Nat} {s' : PSt} (k : Kp (q :: S) w w') (hS : Nw S S' w) (hD : Nw D2 D' w) (p : Rp w' q h S' D' C s') : ∃ D'', Nw D2 D'' w ∧ JP b0 w' u g gb q h C S' D1 D'' s1 s' := by
  have l1 := j.pm.lt
  have hs := k.size
  have hu : u ∉ q :: S := fun hm => (j.dq u hm).1 rfl
  have hg : g ∉ q :: S := fun hm => (j.dq g hm).2.1 rfl
  have hgb : gb ∉ q :: S := fun hm => (j.dq gb hm).2.2 rfl
  have nw : ∀ x, x ∈ q :: S' → x ∈ q :: S ∨ w.heap.size ≤ x := fun x hx => by
    rcases List.mem_cons.1 hx with rfl | hx
    · exact .inl (by simp)
    · exact (hS x hx).imp (fun h => by simp [h]) id
  have hb := j.base
  refine ⟨_, fun x hx => hD x (List.mem_filter.1 hx).1, j.pm.keep k hu hg hgb (fun d hd => (j.d1 d hd).1), p.trim, fun x hx => ⟨fun hm => ?_, by have := (j.d1 x hx).2; omega⟩, fun x hx => ?_, fun x hx => ?_, hb.1, fun x hx => ?_⟩
  · rcases nw x hm with h1 | h1
    · exact (j.d1 x hx).1 h1
    · have := (j.d1 x hx).2; omega
  · have hx2 := List.mem_filter.1 hx
    refine ⟨?_, by simpa using hx2.2⟩
    rcases hD x hx2.1 with h1 | h1
    · exact (j.d2 x h1).1
    · omega
  · rcases nw x hx with h1 | h1
    · exact j.dq x h1
    · omega
  · rcases hS x hx with h1 | h1
    · exact hb.2 x h1
    · omega
end
end Go.Proofs.Ytkmcakneceagpaa
