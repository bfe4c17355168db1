/- frame.Parse: its small functions. -/
import Derived.Test.YtkmcakneceagpaaKin4
import Derived.Test.YtkmcakneceagpaaFrmQ
set_option linter.unusedVariables false
set_option linter.unusedSimpArgs false
set_option linter.unusedSimpArgs false
namespace Go.Proofs.Ytkmcakneceagpaa
open Go.RowKit

theorem cellsF {w : World} {g : Nat} {a0 a1 a2 a3 a4 a5 a6 a7 a8 a9 a10 a11 : Value} {t : TypeId} (h : w.heap[g]? = some (.cells #[a0, a1, a2, a3, a4, a5, a6, a7, a8, a9, a10, a11] t)) :
    w.cell? ⟨g, 0, none⟩ = some a0 ∧ w.cell? ⟨g, 1, none⟩ = some a1 ∧ w.cell? ⟨g, 2, none⟩ = some a2 ∧ w.cell? ⟨g, 3, none⟩ = some a3 ∧ w.cell? ⟨g, 4, none⟩ = some a4 ∧ w.cell? ⟨g, 5, none⟩ = some a5 ∧ w.cell? ⟨g, 6, none⟩ = some a6 ∧ w.cell? ⟨g, 7, none⟩ = some a7 ∧ w.cell? ⟨g, 8, none⟩ = some a8 ∧ w.cell? ⟨g, 9, none⟩ = some a9 ∧ w.cell? ⟨g, 10, none⟩ = some a10 ∧ w.cell? ⟨g, 11, none⟩ = some a11 ∧ (∀ j, w.frozen? ⟨g, j, none⟩ = false) ∧ g < w.heap.size ∧ g < w.heap.size + 1 :=
  ⟨cell_of h 0, cell_of h 1, cell_of h 2, cell_of h 3, cell_of h 4, cell_of h 5, cell_of h 6, cell_of h 7, cell_of h 8, cell_of h 9, cell_of h 10, cell_of h 11, frozen_of h, lt_of_heap h, Nat.lt_succ_of_lt (lt_of_heap h)⟩

theorem new_at {w w' : World} {o : Obj} (h : w.alloc o = w') : Kp [] w w' ∧ w'.heap[w.heap.size]? = some o := by
  subst h
  exact ⟨(Kp.refl _ _).alloc _, hp_new w o _ rfl⟩
/-- the frame f is p, its slices lie from base on -/
structure FrP (w : World) (base : Nat) (f : Fr) (p : Fp) : Prop where
  eq : f.p p.pl p.ss = p
  rd : Rd w f.pA f.pn f.pc p.pl
  sd : Sd w f.sA f.sn f.sc p.ss
  pb : ∀ b, b ∈ ob f.pA → base ≤ b
  sb : ∀ b, b ∈ ob f.sA → base ≤ b
theorem Sd.nil (w : World) : Sd w none 0 0 [] := ⟨rfl, Nat.le_refl _, fun h => by omega, fun i => by simp; exact ⟨by omega, by omega⟩⟩
/-- what a get leaves -/
def GetR (g : Nat) (p : Fp) (w : World) (e : Ending) (w' : World) : Prop :=
  e = .returned (.agg #[.bool false, .int .i64 0, .int .i64 0]) ∧ ∃ f' : Fr, w'.heap[g]? = some (.cells #[.int .i64 f'.ty, .int .i64 f'.fl, .int .i64 f'.st, .slice f'.pA f'.pn f'.pc, .int .i64 f'.pad, .int .u32 f'.code, .int .i64 f'.last, .int .i64 f'.inc, .int .i64 f'.dep, .bool f'.only, .int .i64 f'.wt, .slice f'.sA f'.sn f'.sc] 49) ∧ FrP w' w.heap.size f' p ∧ Kp [g] w w'

/-! ### fits -/
set_option maxHeartbeats 400000 in
theorem fitsAll (n : Int) (a : Bool) (w : World) : Calls Try.prog 161 #[.int .i64 n, .bool a] w (BoolR true w) := by
  go_enter Try.func161, Try.ntmps161
  go_wp2
  go_ret
  exact ⟨rfl, rfl⟩
set_option maxHeartbeats 400000 in
theorem fitsSz (n : Nat) (a : Bool) (b : Nat) (k : Int) (w : World) (hb : w.heap[b]? = some (.cells #[.int .i64 k] 3)) : Calls Try.prog 192 #[.int .i64 n, .bool a, .pointer (some ⟨b, 0, none⟩)] w (BoolR (decide ((n : Int) = k)) w) := by
  have c0 := cell_of hb 0
  clear hb
  by_cases h : (n : Int) = k
  · have h1 : ((n : Int) == k) = true := by simp [h]
    have e : decide ((n : Int) = k) = true := by simp [h]
    rw [e]
    clear h e
    go_enter Try.func192, Try.ntmps192
    go_wp2
    go_ret
    exact ⟨by simp, rfl⟩
  · have h1 : ((n : Int) == k) = false := by simp [h]
    have e : decide ((n : Int) = k) = false := by simp [h]
    rw [e]
    clear h e
    go_enter Try.func192, Try.ntmps192
    go_wp2
    go_ret
    exact ⟨by simp, rfl⟩
set_option maxHeartbeats 400000 in
theorem fitsSets (n : Nat) (hn : n ≤ 16777216) (a : Bool) (w : World) : Calls Try.prog 172 #[.int .i64 n, .bool a] w (BoolR (decide (n % 6 = 0) && (decide (n = 0) || !a)) w) := by
  by_cases h6 : n % 6 = 0
  · have h1 : ((n : Int) % 6 == 0) = true := by simp; omega
    by_cases h0 : n = 0
    · subst h0
      go_enter Try.func172, Try.ntmps172
      go_wp2
      go_ret
      exact ⟨by simp, rfl⟩
    · have h2 : ((n : Int) == 0) = false := by simp; omega
      have e : (decide (n % 6 = 0) && (decide (n = 0) || !a)) = !a := by simp [h6, h0]
      rw [e]
      clear h6 h0 e
      go_enter Try.func172, Try.ntmps172
      go_wp2
      go_ret
      exact ⟨by simp, rfl⟩
  · have h1 : ((n : Int) % 6 == 0) = false := by simp; omega
    have e : (decide (n % 6 = 0) && (decide (n = 0) || !a)) = false := by simp [h6]
    rw [e]
    clear h6 e
    go_enter Try.func172, Try.ntmps172
    go_wp2
    go_ret
    exact ⟨by simp, rfl⟩
set_option maxHeartbeats 400000 in
theorem fitsEight (n : Nat) (a : Bool) (w : World) : Calls Try.prog 179 #[.int .i64 n, .bool a] w (BoolR (decide (8 ≤ n)) w) := by
  by_cases h : 8 ≤ n
  · have e : decide (8 ≤ n) = true := by simp [h]
    rw [e]
    have h1 : (8 : Int) ≤ (n : Int) := by omega
    clear h e
    go_enter Try.func179, Try.ntmps179
    go_wp2
    go_ret
    exact ⟨by simp, rfl⟩
  · have e : decide (8 ≤ n) = false := by simp [h]
    rw [e]
    have h1 : ¬ (8 : Int) ≤ (n : Int) := by omega
    clear h e
    go_enter Try.func179, Try.ntmps179
    go_wp2
    go_ret
    exact ⟨by simp, rfl⟩

/-! ### get -/
set_option maxHeartbeats 1000000 in
set_option maxRecDepth 100000 in
theorem restF (f : Fr) (g : Nat) (A : Option Addr) (n c : Nat) (l : List UInt8) (w : World) (hB : w.heap[g]? = some (.cells #[.int .i64 f.ty, .int .i64 f.fl, .int .i64 f.st, .slice f.pA f.pn f.pc, .int .i64 f.pad, .int .u32 f.code, .int .i64 f.last, .int .i64 f.inc, .int .i64 f.dep, .bool f.only, .int .i64 f.wt, .slice f.sA f.sn f.sc] 49)) (hr : Rd w A n c l) (hn : n ≤ 140737488355328) :
    Calls Try.prog 164 #[.pointer (some ⟨g, 0, none⟩), .slice A n c] w fun e w' => e = .returned (.agg #[.bool false, .int .i64 0, .int .i64 0]) ∧ ∃ pA pn pc, w'.heap[g]? = some (.cells #[.int .i64 f.ty, .int .i64 f.fl, .int .i64 f.st, .slice pA pn pc, .int .i64 f.pad, .int .u32 f.code, .int .i64 f.last, .int .i64 f.inc, .int .i64 f.dep, .bool f.only, .int .i64 f.wt, .slice f.sA f.sn f.sc] 49) ∧ Ow w' w.heap.size 5 1 pA pn pc (l.map u8) ∧ Kp [g] w w' := by
  have HB := Lib.hid hB
  have HR := Lib.hid hr
  have hg := lt_of_heap hB
  clear hB hr
  go_enter Try.func164, Try.ntmps164
  go_wp2_with (with_reducible refine stopAt (o := ⟨some 7, _, _, _, _, _⟩) ?_)
  generalize hW : World.alloc _ _ = w1
  have K1 : Kp [] w w1 := by rw [← hW]; (repeat (first | with_reducible exact Kp.refl _ _ | with_reducible assumption | with_reducible refine Kp.alloc ?_ _ | with_reducible refine Kp.drew ?_ | with_reducible refine Kp.drewN ?_ _ | (with_reducible refine Kp.setL ?_ ?_ _; focus (simp; done)) | (with_reducible refine Kp.setR ?_ ?_ _; focus (simp; done)) | (with_reducible refine Kp.setR ?_ ?_ _; focus (simp; omega))))
  have HX := Lib.hid (show w1.heap[w.heap.size]? = some (.cells #[.bool false, .int .i64 0, .int .i64 0] 64) by rw [← hW]; (repeat (first | with_reducible assumption | (with_reducible refine hp_new _ _ _ ?_; focus (simp; done)) | (with_reducible refine (hp_old _ _ _ ?_).trans ?_; focus (first | omega | (simp; done) | (simp; omega))) | (with_reducible refine (hp_far _ _ _ _ ?_).trans ?_; focus (first | (simp; done) | (simp; omega))) | (with_reducible refine (hp_drew _ _).trans ?_) | (with_reducible refine (hp_drewN _ _ _).trans ?_))))
  clear hW
  have hs1 := K1.size
  have hsx := lt_of_heap HX.out
  refine Stop.go (wp_appB rfl _ _ 22 5 rfl Try.underlying22 Try.info5 w1.heap.size none 0 0 [] rfl (Ow.nil _ _ _ _) A n c l rfl (HR.out.keep K1 (by simp)) (by omega) (Nat.le_refl _) ?_)
  intro pA pn pc l2 w2 hn2 hl2 O K2 hA2
  have K2' : Kp [] w1 w2 := K2.mono (by simp [ob])
  have HK := Lib.hid (K1.trans K2')
  have HB2 := Lib.hid ((K1.trans K2').heap HB.out (by simp))
  have HX2 := Lib.hid (K2'.heap HX.out (by simp))
  have e : l2 = l := by rw [hl2.out]; rfl
  subst e
  have HO := Lib.hid O
  clear K1 K2 K2' O hl2 hn2 hA2 HX HB
  obtain ⟨f0, f1, f2, f3, f4, f5, f6, f7, f8, f9, f10, f11, fz, fl1, fl2⟩ := cellsF HB2.out
  have x0 := cell_of HX2.out 0
  have x1 := cell_of HX2.out 1
  have x2 := cell_of HX2.out 2
  have xz := frozen_of HX2.out
  go_wp2
  have hgx : ¬ g = w.heap.size := by omega
  generalize hW : World.setCell _ _ _ = W
  have K9 : Kp [g, w.heap.size] w2 W := by rw [← hW]; exact (((((Kp.refl _ _).setCell (.inl (by simp)) _).setCell (.inl (by simp)) _).setCell (.inl (by simp)) _).setCell (.inl (by simp)) _)
  have HB9 : W.heap[g]? = some (.cells #[.int .i64 f.ty, .int .i64 f.fl, .int .i64 f.st, .slice pA pn pc, .int .i64 f.pad, .int .u32 f.code, .int .i64 f.last, .int .i64 f.inc, .int .i64 f.dep, .bool f.only, .int .i64 f.wt, .slice f.sA f.sn f.sc] 49) := by rw [← hW]; exact (hp_far _ _ _ _ (by simp; omega)).trans ((hp_far _ _ _ _ (by simp; omega)).trans ((hp_far _ _ _ _ (by simp; omega)).trans (hp_set _ _ _ _ _ _ HB2.out)))
  have HX9 : W.heap[w.heap.size]? = some (.cells #[.bool false, .int .i64 0, .int .i64 0] 64) := by rw [← hW]; exact hp_set _ _ _ _ _ _ (hp_set _ _ _ _ _ _ (hp_set _ _ _ _ _ _ ((hp_far _ _ _ _ (by simp; omega)).trans HX2.out)))
  refine bodyPost_ret (v := .agg #[.bool false, .int .i64 0, .int .i64 0]) (by simp [results, Try.results164, go_sem, cell_of HX9]) rfl ⟨rfl, pA, pn, pc, HB9, ?_, (HK.out.nil).then K9 (by simp)⟩
  exact (HO.out.keep K9 (fun b hb ht => by have := (HO.out.base b hb).1; simp at ht; omega)).mono hs1

theorem n31_eq {l : List UInt8} {i : Nat} (h : i + 4 ≤ l.length) : (((num 4 l (i : Int)).1 % 2147483648 : Nat) : Int) = n31 l i := by rw [num_ok h]; rfl
theorem n32_eq {l : List UInt8} {i : Nat} (h : i + 4 ≤ l.length) : (((num 4 l (i : Int)).1 : Nat) : Int) = n32 l i := by rw [num_ok h]; rfl
theorem n16_eq {l : List UInt8} {i : Nat} (h : i + 2 ≤ l.length) : (((num 2 l (i : Int)).1 : Nat) : Int) = n16 l i := by rw [num_ok h]; rfl
def NumR (k : IntKind) (x : Int) (w : World) (en : Ending) (w' : World) : Prop := ∃ p q : Int, en = .returned (.tuple #[.int k x, .int .i64 p, .int .i64 q]) ∧ Kp [] w w'
theorem U31_at (A : Option Addr) (n c : Nat) (i : Nat) (l : List UInt8) (w : World) (hn : n ≤ 140737488355328) (hr : Rd w A n c l) (h : i + 4 ≤ n) : Calls Try.prog 51 #[.slice A n c, .int .i64 i] w (NumR .i64 (n31 l i) w) :=
  (U31_any A n c i l w hn hr).mono fun e w' ⟨he, hk⟩ => ⟨_, _, by rw [n31_eq (by rw [hr.len]; exact h)] at he; exact he, hk⟩
theorem U32_at (A : Option Addr) (n c : Nat) (i : Nat) (l : List UInt8) (w : World) (hn : n ≤ 140737488355328) (hr : Rd w A n c l) (h : i + 4 ≤ n) : Calls Try.prog 34 #[.slice A n c, .int .i64 i] w (NumR .u32 (n32 l i) w) :=
  (U32_any A n c i l w hn hr).mono fun e w' ⟨he, hk⟩ => ⟨_, _, by rw [n32_eq (by rw [hr.len]; exact h)] at he; exact he, hk⟩
theorem U16_at (A : Option Addr) (n c : Nat) (i : Nat) (l : List UInt8) (w : World) (hn : n ≤ 140737488355328) (hr : Rd w A n c l) (h : i + 2 ≤ n) : Calls Try.prog 39 #[.slice A n c, .int .i64 i] w (NumR .i64 (n16 l i) w) :=
  (U16_any A n c i l w hn hr).mono fun e w' ⟨he, hk⟩ => ⟨_, _, by rw [n16_eq (by rw [hr.len]; exact h)] at he; exact he, hk⟩

set_option maxHeartbeats 1000000 in
set_option maxRecDepth 100000 in
theorem priorF (f : Fr) (g : Nat) (A : Option Addr) (n c : Nat) (l : List UInt8) (w : World) (hB : w.heap[g]? = some (.cells #[.int .i64 f.ty, .int .i64 f.fl, .int .i64 f.st, .slice f.pA f.pn f.pc, .int .i64 f.pad, .int .u32 f.code, .int .i64 f.last, .int .i64 f.inc, .int .i64 f.dep, .bool f.only, .int .i64 f.wt, .slice f.sA f.sn f.sc] 49)) (hr : Rd w A n c l) (hgA : g ∉ ob A) (h5 : 5 ≤ n) (hn : n ≤ 140737488355328) :
    Calls Try.prog 166 #[.pointer (some ⟨g, 0, none⟩), .slice A n c] w fun e w' => ∃ A', e = .returned (.slice A' (n - 5) (c - 5)) ∧ Rd w' A' (n - 5) (c - 5) (l.drop 5) ∧ g ∉ ob A' ∧ w'.heap[g]? = some (.cells #[.int .i64 f.ty, .int .i64 f.fl, .int .i64 f.st, .slice f.pA f.pn f.pc, .int .i64 f.pad, .int .u32 f.code, .int .i64 f.last, .int .i64 f.inc, .int .i64 (n31 l 0), .bool (decide (128 ≤ (l.getD 0 0).toNat)), .int .i64 ((l.getD 4 0).toNat + 1), .slice f.sA f.sn f.sc] 49) ∧ Kp [g] w w' := by
  obtain ⟨b, off, rfl, hb, hcell⟩ := hr.addr (by omega)
  have hne : ¬ b = g := fun h => hgA (by simp [ob, h])
  have hne2 : ¬ g = b := fun h => hgA (by simp [ob, h])
  have HB := Lib.hid hB
  have HR := Lib.hid hr
  have hcap := hr.cap
  have hg := lt_of_heap hB
  have q0 := hcell 0 (by omega)
  have q4 := hcell 4 (by omega)
  clear hB hr hgA hcell
  have hU := U31_at (some ⟨b, off, none⟩) n c 0 l w hn HR.out (by omega)
  rw [show ((0 : Nat) : Int) = 0 from rfl] at hU
  generalize hx : n31 l 0 = x at hU
  have HX := Lib.hid hx
  have hx0 := (l.getD 0 0).toNat_lt
  have hx4 := (l.getD 4 0).toNat_lt
  generalize hy0 : (l.getD 0 0).toNat = y0 at *
  generalize hy4 : (l.getD 4 0).toNat = y4 at *
  clear hx hy0 hy4
  by_cases hc5 : c = 5
  · subst hc5
    obtain rfl : n = 5 := by omega
    go_enter Try.func166, Try.ntmps166
    go_wp2_with fail
    refine hU.mono ?_
    rintro e w1 ⟨p, q, rfl, K1⟩
    have HB1 := Lib.hid (K1.heap HB.out (by simp))
    have c0 := K1.cell q0 (by simp)
    have c4 := K1.cell q4 (by simp)
    rw [Nat.add_zero] at c0
    obtain ⟨f0, f1, f2, f3, f4, f5, f6, f7, f8, f9, f10, f11, fz, fl1, fl2⟩ := cellsF HB1.out
    have HK1 := Lib.hid K1
    clear hU q0 q4 K1
    go_wp2
    generalize hW : World.setCell _ _ _ = W
    have K9 : Kp [g] w1 W := by rw [← hW]; exact ((((Kp.refl _ _).setCell (.inl (by simp)) _).setCell (.inl (by simp)) _).setCell (.inl (by simp)) _)
    have HB9 : W.heap[g]? = some (.cells #[.int .i64 f.ty, .int .i64 f.fl, .int .i64 f.st, .slice f.pA f.pn f.pc, .int .i64 f.pad, .int .u32 f.code, .int .i64 f.last, .int .i64 f.inc, .int .i64 x, .bool (decide ((128 : Int) ≤ (y0 : Int))), .int .i64 ((y4 : Int) + 1), .slice f.sA f.sn f.sc] 49) := by rw [← hW]; exact hp_set _ _ _ _ _ _ (hp_set _ _ _ _ _ _ (hp_set _ _ _ _ _ _ HB1.out))
    have HR9 := (HR.out.keep HK1.out (by simp)).keep K9 (by intro _ t h1 h2; simp [ob] at h1 h2; omega)
    clear hW
    go_ret
    refine ⟨some ⟨b, off, none⟩, rfl, ?_, ?_, ?_, HK1.out.nil.trans K9⟩
    · have := HR9.sub 5 5 (by omega) (by omega) (A' := some ⟨b, off, none⟩) (by intro b' o' h1 h2; omega)
      rw [List.take_of_length_le (by simp [HR9.len])] at this
      exact this
    · simp [ob]; omega
    · rw [HB9]
      simp
      omega
  · have hc6 : 6 ≤ c := by omega
    go_enter Try.func166, Try.ntmps166
    go_wp2_with fail
    refine hU.mono ?_
    rintro e w1 ⟨p, q, rfl, K1⟩
    have HB1 := Lib.hid (K1.heap HB.out (by simp))
    have c0 := K1.cell q0 (by simp)
    have c4 := K1.cell q4 (by simp)
    rw [Nat.add_zero] at c0
    obtain ⟨f0, f1, f2, f3, f4, f5, f6, f7, f8, f9, f10, f11, fz, fl1, fl2⟩ := cellsF HB1.out
    have HK1 := Lib.hid K1
    clear hU q0 q4 K1
    go_wp2
    generalize hW : World.setCell _ _ _ = W
    have K9 : Kp [g] w1 W := by rw [← hW]; exact ((((Kp.refl _ _).setCell (.inl (by simp)) _).setCell (.inl (by simp)) _).setCell (.inl (by simp)) _)
    have HB9 : W.heap[g]? = some (.cells #[.int .i64 f.ty, .int .i64 f.fl, .int .i64 f.st, .slice f.pA f.pn f.pc, .int .i64 f.pad, .int .u32 f.code, .int .i64 f.last, .int .i64 f.inc, .int .i64 x, .bool (decide ((128 : Int) ≤ (y0 : Int))), .int .i64 ((y4 : Int) + 1), .slice f.sA f.sn f.sc] 49) := by rw [← hW]; exact hp_set _ _ _ _ _ _ (hp_set _ _ _ _ _ _ (hp_set _ _ _ _ _ _ HB1.out))
    have HR9 := (HR.out.keep HK1.out (by simp)).keep K9 (by intro _ t h1 h2; simp [ob] at h1 h2; omega)
    clear hW
    go_ret
    refine ⟨some ⟨b, off + 5, none⟩, rfl, ?_, ?_, ?_, HK1.out.nil.trans K9⟩
    · have := HR9.sub 5 n (by omega) (by omega) (A' := some ⟨b, off + 5, none⟩) (by intro b' o' h1 h2; injection h1 with h1; injection h1 with h1 h3 _; rw [h1, h3])
      rw [List.take_of_length_le (by simp [HR9.len])] at this
      exact this
    · simp [ob]; omega
    · rw [HB9]
      simp
      omega
end Go.Proofs.Ytkmcakneceagpaa
