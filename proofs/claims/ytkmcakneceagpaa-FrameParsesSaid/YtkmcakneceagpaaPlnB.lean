/- What is written is read as itself, as plain data: no program in sight. -/
import Derived.Test.YtkmcakneceagpaaFrmQ
set_option linter.unusedVariables false
set_option linter.unusedSimpArgs false
namespace Go.Proofs.Ytkmcakneceagpaa
open Go.RowKit

theorem known_cs {n : Int} (h : known n = true) : n = 0 ∨ n = 1 ∨ n = 2 ∨ n = 3 ∨ n = 4 ∨ n = 5 ∨ n = 6 ∨ n = 7 ∨ n = 8 ∨ n = 9 := by
  simp [known] at h
  omega
/-- what holds of the numbers that have a type of 32 bits -/
structure OkP (p : Fp) : Prop where
  c0 : 0 ≤ p.code
  c1 : p.code < 4294967296
  ss : ∀ s, s ∈ p.ss → 0 ≤ s.2 ∧ s.2 < 4294967296
/-- what is read of a frame that was written -/
def cano (p : Fp) : Fp :=
  ⟨p.ty, p.fl, p.st, if p.ty = 2 ∨ p.ty = 3 ∨ p.ty = 4 ∨ p.ty = 8 then [] else p.pl, if padF p.ty p.fl then p.pad else 0, if p.ty = 3 ∨ p.ty = 7 then p.code else 0, if p.ty = 5 ∨ p.ty = 7 then p.last else 0, if p.ty = 8 then p.inc else 0,
    if prioB p.ty p.fl then p.dep else 0, if prioB p.ty p.fl then p.only else false, if prioB p.ty p.fl then p.wt else 0, if p.ty = 4 then p.ss else []⟩
theorem good_of {p : Fp} (h : goodW p = true) : known p.ty = true ∧ 0 ≤ p.fl ∧ p.fl ≤ 255 ∧ idB p.st = true ∧ rightB p.ty p.st = true ∧ mayK p = true ∧ padOk p = true ∧ prioOk p = true := by
  simpa [goodW, and_assoc] using h
theorem mid {x y r : List UInt8} {k i : Nat} (hy : y.length = k) (hi : x.length = i) : ((x ++ y ++ r).drop i).take k = y := by
  subst hi hy
  simp
theorem n31_pre (x : List UInt8) (v : Nat) (r : List UInt8) (i : Nat) (hi : x.length = i) : n31 (x ++ bytesOf v 4 ++ r) i = ((v % 2147483648 : Nat) : Int) := by
  unfold n31
  rw [mid (bytesOf_length v 4) hi, be_bytesOf]
  have : (256 : Nat) ^ 4 = 4294967296 := by decide
  rw [this]
  congr 1
  omega
theorem n32_pre (x : List UInt8) (v : Nat) (r : List UInt8) (i : Nat) (hi : x.length = i) : n32 (x ++ bytesOf v 4 ++ r) i = ((v % 4294967296 : Nat) : Int) := by
  unfold n32
  rw [mid (bytesOf_length v 4) hi, be_bytesOf]
theorem n16_pre (x : List UInt8) (v : Nat) (r : List UInt8) (i : Nat) (hi : x.length = i) : n16 (x ++ bytesOf v 2 ++ r) i = ((v % 65536 : Nat) : Int) := by
  unfold n16
  rw [mid (bytesOf_length v 2) hi, be_bytesOf]
theorem setsS_flat (ss : List (Int × Int)) (hs : ∀ s, s ∈ ss → (0 ≤ s.1 ∧ s.1 < 65536) ∧ 0 ≤ s.2 ∧ s.2 < 4294967296) : ∀ k, k ≤ ss.length → setsS (ss.flatMap setW) k = ss.take k := by
  intro k
  induction k with
  | zero => intro _; simp [setsS]
  | succ k ih =>
    intro hk
    have hlt : k < ss.length := by omega
    have e : ss = ss.take k ++ ss[k] :: ss.drop (k + 1) := by rw [List.getElem_cons_drop hlt, List.take_append_drop]
    obtain ⟨⟨h1, h2⟩, h3, h4⟩ := hs ss[k] (List.getElem_mem hlt)
    have hl : ((ss.take k).flatMap setW).length = 6 * k := by rw [flat_len, List.length_take]; omega
    have ef : ss.flatMap setW = (ss.take k).flatMap setW ++ (bytesOf ss[k].1.toNat 2 ++ bytesOf ss[k].2.toNat 4) ++ (ss.drop (k + 1)).flatMap setW := by
      refine (congrArg (List.flatMap setW) e).trans ?_
      rw [List.flatMap_append, List.flatMap_cons]
      simp only [setW, List.append_assoc]
    have e1 : n16 (ss.flatMap setW) (6 * k) = ss[k].1 := by
      have := n16_pre ((ss.take k).flatMap setW) ss[k].1.toNat (bytesOf ss[k].2.toNat 4 ++ (ss.drop (k + 1)).flatMap setW) (6 * k) hl
      rw [ef]
      simp only [List.append_assoc] at this ⊢
      rw [this]
      omega
    have e2 : n32 (ss.flatMap setW) (6 * k + 2) = ss[k].2 := by
      have := n32_pre ((ss.take k).flatMap setW ++ bytesOf ss[k].1.toNat 2) ss[k].2.toNat ((ss.drop (k + 1)).flatMap setW) (6 * k + 2) (by rw [List.length_append, hl, bytesOf_length])
      rw [ef]
      simp only [List.append_assoc] at this ⊢
      rw [this]
      omega
    rw [setsS, ih (by omega), e1, e2, List.take_add_one, List.getElem?_eq_getElem hlt]
    rfl
/-- what stands within the padding -/
def coreW (p : Fp) : List UInt8 := (if prioB p.ty p.fl then prioW p else []) ++ putW p
theorem body_core (p : Fp) : bodyW p = (if padF p.ty p.fl then [byteOf p.pad] else []) ++ coreW p ++ (if padF p.ty p.fl then List.replicate p.pad.toNat 0 else []) := by
  simp [bodyW, coreW]
theorem prioW_len (p : Fp) : (prioW p).length = 5 := by simp [prioW, bytesOf_length]
theorem core_fixed (p : Fp) : fixedN p.ty p.fl ≤ (coreW p).length := by
  unfold fixedN
  split
  · rename_i h
    simp [coreW, putW, h, bytesOf_length]
    omega
  · split
    · rename_i h1 h2
      simp [coreW, prioB, h2.1, h2.2, prioW_len]
    · omega
theorem pad_of {p : Fp} (h : padOk p = true) (hp : padF p.ty p.fl = true) : 0 ≤ p.pad ∧ p.pad ≤ 255 := by
  simp [padF] at hp
  simp [padOk, hp] at h
  exact h
theorem un_wr (p : Fp) (h : padOk p = true) : unS p.ty p.fl (bodyW p) = .ok (if padF p.ty p.fl then p.pad else 0).toNat (coreW p) := by
  have hf := core_fixed p
  rw [body_core]
  unfold unS
  cases hp : padF p.ty p.fl with
  | false =>
    simp only [Bool.false_eq_true, if_false, List.nil_append, List.append_nil]
    rw [if_neg (by omega)]
    rfl
  | true =>
    obtain ⟨h0, h1⟩ := pad_of h hp
    obtain ⟨e1, e2⟩ := u8_byteOf h0 h1
    simp only [if_true]
    have el : ([byteOf p.pad] ++ coreW p ++ List.replicate p.pad.toNat (0 : UInt8)).length = 1 + (coreW p).length + p.pad.toNat := by simp; omega
    have eg : ([byteOf p.pad] ++ coreW p ++ List.replicate p.pad.toNat (0 : UInt8)).getD 0 0 = byteOf p.pad := rfl
    rw [el, eg, e1, if_neg (by omega), if_neg (by omega)]
    have ed : (([byteOf p.pad] ++ coreW p ++ List.replicate p.pad.toNat (0 : UInt8)).drop 1).take (1 + (coreW p).length + p.pad.toNat - 1 - p.pad.toNat) = coreW p := by
      have e3 : 1 + (coreW p).length + p.pad.toNat - 1 - p.pad.toNat = (coreW p).length := by omega
      rw [e3]
      simp
    rw [ed]
theorem fits_wr (p : Fp) (g : goodW p = true) : fitsB p.ty p.fl (bodyW p).length = true := by
  obtain ⟨g1, g2, g3, g4, g5, g6, g7, g8⟩ := good_of g
  clear g
  obtain ⟨ty, fl, st, pl, pad, code, last, inc, dep, only, wt, ss⟩ := p
  dsimp only at *
  rcases known_cs g1 with rfl | rfl | rfl | rfl | rfl | rfl | rfl | rfl | rfl | rfl
  · rfl
  · rfl
  · simp [fitsB, bodyW, padF, paddedB, prioB, prioW_len, putW]
  · simp [fitsB, bodyW, padF, paddedB, prioB, putW, bytesOf_length]
  · simp [mayK, setsB] at g6
    have := flat_len ss
    simp [fitsB, bodyW, padF, paddedB, prioB, putW, this]
    rcases g6.2 with h | h
    · left; simp [h]
    · right; exact h
  · rfl
  · simp [mayK] at g6
    simp [fitsB, bodyW, padF, paddedB, prioB, putW, g6]
  · simp [fitsB, bodyW, padF, paddedB, prioB, putW, bytesOf_length]
    omega
  · simp [fitsB, bodyW, padF, paddedB, prioB, putW, bytesOf_length]
  · rfl
theorem idB_le {n : Int} (h : idB n = true) : 0 ≤ n ∧ n ≤ 2147483647 := by simpa [idB] using h
/-- a priority's five bytes are read back -/
theorem prS_wr (q p : Fp) (r : List UInt8) (hd : idB p.dep = true) (h1 : 1 ≤ p.wt) (h2 : p.wt ≤ 256) : prS q (prioW p ++ r) = { q with dep := p.dep, only := p.only, wt := p.wt } := by
  obtain ⟨d0, d1⟩ := idB_le hd
  have e1 : n31 (prioW p ++ r) 0 = p.dep := by
    have := n31_pre [] (p.dep.toNat + if p.only then 2147483648 else 0) ([byteOf (p.wt - 1)] ++ r) 0 rfl
    simp only [List.nil_append] at this
    rw [prioW, List.append_assoc, this]
    split <;> omega
  have hb := (u8_byteOf (n := p.wt - 1) (by omega) (by omega)).2
  have e3 : (((prioW p ++ r).getD 4 0).toNat : Int) + 1 = p.wt := by
    rw [prioW, bytesOf_four]
    show (((byteOf (p.wt - 1)).toNat : Nat) : Int) + 1 = p.wt
    omega
  have e2 : decide (128 ≤ ((prioW p ++ r).getD 0 0).toNat) = p.only := by
    rw [prioW, bytesOf_four]
    show decide (128 ≤ (UInt8.ofNat ((p.dep.toNat + if p.only then 2147483648 else 0) / 16777216 % 256)).toNat) = p.only
    rw [UInt8.toNat_ofNat']
    cases p.only with
    | true => simp; omega
    | false => simp; omega
  unfold prS
  rw [e1, e2, e3]
theorem prio_of {p : Fp} (h : prioOk p = true) (hp : prioB p.ty p.fl = true) : idB p.dep = true ∧ 1 ≤ p.wt ∧ p.wt ≤ 256 := by
  simpa [prioOk, hp, and_assoc] using h
theorem get_wr (p : Fp) (ok : OkP p) (g : goodW p = true) : getS (f0S p.ty p.fl p.st ((if padF p.ty p.fl then p.pad else 0).toNat : Nat)) (coreW p) = cano p := by
  obtain ⟨g1, g2, g3, g4, g5, g6, g7, g8⟩ := good_of g
  have epad : (((if padF p.ty p.fl then p.pad else 0).toNat : Nat) : Int) = if padF p.ty p.fl then p.pad else 0 := by
    cases hp : padF p.ty p.fl with
    | false => rfl
    | true => obtain ⟨h0, h1⟩ := pad_of g7 hp; simp only [if_true]; omega
  rw [epad]
  have c0 := ok.c0
  have c1 := ok.c1
  have cs := ok.ss
  clear g ok epad
  have hpr := fun hp => prio_of (p := p) g8 hp
  obtain ⟨ty, fl, st, pl, pad, code, last, inc, dep, only, wt, ss⟩ := p
  dsimp only at *
  rcases known_cs g1 with rfl | rfl | rfl | rfl | rfl | rfl | rfl | rfl | rfl | rfl
  · simp [getS, f0S, cano, coreW, prioB, putW]
  · cases h32 : hasB fl 32 with
    | false => simp [getS, f0S, cano, coreW, prioB, putW, h32]
    | true =>
      obtain ⟨h1, h2, h3⟩ := hpr (by simp [prioB, h32])
      have := prS_wr (f0S 1 fl st (if padF 1 fl then pad else 0)) ⟨1, fl, st, pl, pad, code, last, inc, dep, only, wt, ss⟩ pl h1 h2 h3
      have hd : (prioW ⟨1, fl, st, pl, pad, code, last, inc, dep, only, wt, ss⟩ ++ pl).drop 5 = pl := by rw [List.drop_append_of_le_length (by rw [prioW_len]; omega), List.drop_of_length_le (by rw [prioW_len]; omega)]; rfl
      have hc : coreW ⟨1, fl, st, pl, pad, code, last, inc, dep, only, wt, ss⟩ = prioW ⟨1, fl, st, pl, pad, code, last, inc, dep, only, wt, ss⟩ ++ pl := by simp [coreW, prioB, putW, h32]
      rw [hc]
      have e1 : (f0S 1 fl st (if padF 1 fl then pad else 0)).ty = 1 := rfl
      have e2 : (f0S 1 fl st (if padF 1 fl then pad else 0)).fl = fl := rfl
      unfold getS
      rw [if_pos e1, e2, if_pos h32, this, hd]
      simp [f0S, cano, prioB, h32]
  · obtain ⟨h1, h2, h3⟩ := hpr (by simp [prioB])
    have := prS_wr (f0S 2 fl st (if padF 2 fl then pad else 0)) ⟨2, fl, st, pl, pad, code, last, inc, dep, only, wt, ss⟩ [] h1 h2 h3
    have hc : coreW ⟨2, fl, st, pl, pad, code, last, inc, dep, only, wt, ss⟩ = prioW ⟨2, fl, st, pl, pad, code, last, inc, dep, only, wt, ss⟩ ++ [] := by simp [coreW, prioB, putW]
    rw [hc]
    have e1 : (f0S 2 fl st (if padF 2 fl then pad else 0)).ty = 2 := rfl
    unfold getS
    rw [if_neg (by rw [e1]; decide), if_pos e1, this]
    simp [f0S, cano, prioB]
  · have e := n32_pre [] code.toNat [] 0 rfl
    simp only [List.nil_append, List.append_nil] at e
    have e2 : ((code.toNat % 4294967296 : Nat) : Int) = code := by omega
    rw [e2] at e
    simp [getS, f0S, cano, coreW, prioB, putW, e]
  · have hs : setsS (ss.flatMap setW) ss.length = ss := by
      rw [setsS_flat ss (fun s hs => ⟨by simp [mayK, setsB] at g6; exact g6.1 _ _ hs, cs s hs⟩) _ (Nat.le_refl _)]
      simp
    have hl : (ss.flatMap setW).length / 6 = ss.length := by rw [flat_len]; omega
    simp [getS, f0S, cano, coreW, prioB, putW, hl, hs, -List.length_flatMap]
  · have hl := idB_le (n := last) (by simpa [mayK] using g6)
    have e := n31_pre [] last.toNat pl 0 rfl
    simp only [List.nil_append] at e
    have e2 : ((last.toNat % 2147483648 : Nat) : Int) = last := by omega
    rw [e2] at e
    have hd : (bytesOf last.toNat 4 ++ pl).drop 4 = pl := by rw [List.drop_append_of_le_length (by rw [bytesOf_length]; omega), List.drop_of_length_le (by rw [bytesOf_length]; omega)]; rfl
    simp [getS, f0S, cano, coreW, prioB, putW, e, hd]
  · simp [getS, f0S, cano, coreW, prioB, putW]
  · have hl := idB_le (n := last) (by simpa [mayK] using g6)
    have e := n31_pre [] last.toNat (bytesOf code.toNat 4 ++ pl) 0 rfl
    simp only [List.nil_append] at e
    have e2 : ((last.toNat % 2147483648 : Nat) : Int) = last := by omega
    rw [e2] at e
    have e3 := n32_pre (bytesOf last.toNat 4) code.toNat pl 4 (bytesOf_length _ _)
    have e4 : ((code.toNat % 4294967296 : Nat) : Int) = code := by omega
    rw [e4, List.append_assoc] at e3
    have hd : (bytesOf last.toNat 4 ++ (bytesOf code.toNat 4 ++ pl)).drop 8 = pl := by
      rw [← List.append_assoc, List.drop_append_of_le_length (by rw [List.length_append, bytesOf_length, bytesOf_length]; omega), List.drop_of_length_le (by rw [List.length_append, bytesOf_length, bytesOf_length]; omega)]; rfl
    simp [getS, f0S, cano, coreW, prioB, putW, e, e3, hd]
  · simp [mayK] at g6
    have e := n31_pre [] inc.toNat [] 0 rfl
    simp only [List.nil_append, List.append_nil] at e
    have e2 : ((inc.toNat % 2147483648 : Nat) : Int) = inc := by omega
    rw [e2] at e
    simp [getS, f0S, cano, coreW, prioB, putW, e]
  · simp [getS, f0S, cano, coreW, prioB, putW]
theorem no8_wr (p : Fp) (g : goodW p = true) : ¬ (p.ty = 8 ∧ n31 (coreW p) 0 = 0) := by
  rintro ⟨h8, hz⟩
  obtain ⟨g1, g2, g3, g4, g5, g6, g7, g8⟩ := good_of g
  simp [mayK, h8] at g6
  have e := n31_pre [] p.inc.toNat [] 0 rfl
  simp only [List.nil_append, List.append_nil] at e
  have hc : coreW p = bytesOf p.inc.toNat 4 := by simp [coreW, prioB, putW, h8]
  rw [hc, e] at hz
  omega
theorem in_wr (p : Fp) (ok : OkP p) (g : goodW p = true) : inS p.ty p.fl p.st (bodyW p) = ⟨cano p, 9 + ((bodyW p).length : Int), false, 0, 0, 0⟩ := by
  obtain ⟨g1, g2, g3, g4, g5, g6, g7, g8⟩ := good_of g
  unfold inS
  dsimp only
  rw [if_neg (by simp [g1]), if_neg (by simp [g5]), if_neg (by simp [fits_wr p g]), un_wr p g7]
  dsimp only
  rw [if_neg (no8_wr p g), get_wr p ok g]
/-- the head of what is written -/
theorem wr_eq {p : Fp} (h : (wr p).2 = 0) : goodW p = true ∧ (bodyW p).length < 16777216 ∧ (wr p).1 = bytesOf (bodyW p).length 3 ++ [byteOf p.ty, byteOf p.fl] ++ bytesOf p.st.toNat 4 ++ bodyW p := by
  unfold wr at h ⊢
  split at h
  · rename_i hg
    split at h
    · rename_i hl
      rw [if_pos hg, if_pos hl]
      exact ⟨hg, hl, rfl⟩
    · cases h
  · cases h
theorem wr_len {p : Fp} (h : (wr p).2 = 0) : (wr p).1.length = 9 + (bodyW p).length := by
  rw [(wr_eq h).2.2]
  simp [bytesOf_length]
  omega
theorem byteOf_ty {n : Int} (h : known n = true) : ((byteOf n).toNat : Int) = n := by
  simp [known] at h
  exact (u8_byteOf (by omega) (by omega)).2
/-- what is written is read as itself -/
theorem ps_wr (p : Fp) (ok : OkP p) (h : (wr p).2 = 0) (r : List UInt8) : ps ((wr p).1 ++ r) 16777215 = ⟨cano p, 9 + ((bodyW p).length : Int), false, 0, 0, 0⟩ := by
  obtain ⟨g, hl, e⟩ := wr_eq h
  obtain ⟨g1, g2, g3, g4, g5, g6, g7, g8⟩ := good_of g
  obtain ⟨s0, s1⟩ := idB_le g4
  have hlen : ((wr p).1 ++ r).length = 9 + (bodyW p).length + r.length := by rw [List.length_append, wr_len h]
  have e3 : ((wr p).1 ++ r).take 3 = bytesOf (bodyW p).length 3 := by
    rw [e]
    have := mid (x := []) (y := bytesOf (bodyW p).length 3) (r := [byteOf p.ty, byteOf p.fl] ++ bytesOf p.st.toNat 4 ++ bodyW p ++ r) (bytesOf_length _ 3) rfl
    simpa using this
  have eN : be (((wr p).1 ++ r).take 3) = (bodyW p).length := by
    rw [e3, be_bytesOf]
    have : (256 : Nat) ^ 3 = 16777216 := by decide
    rw [this]
    omega
  have eb : ∃ a b c, bytesOf (bodyW p).length 3 = [a, b, c] := ⟨_, _, _, rfl⟩
  obtain ⟨a, b, c, eb⟩ := eb
  have eT : ((wr p).1 ++ r).getD 3 0 = byteOf p.ty := by rw [e, eb]; rfl
  have eF : ((wr p).1 ++ r).getD 4 0 = byteOf p.fl := by rw [e, eb]; rfl
  have eS : n31 ((wr p).1 ++ r) 5 = p.st := by
    have := n31_pre ([a, b, c] ++ [byteOf p.ty, byteOf p.fl]) p.st.toNat (bodyW p ++ r) 5 rfl
    rw [e, eb]
    simp only [List.append_assoc] at this ⊢
    rw [this]
    omega
  have eB : (((wr p).1 ++ r).drop 9).take (bodyW p).length = bodyW p := by
    have := mid (x := bytesOf (bodyW p).length 3 ++ [byteOf p.ty, byteOf p.fl] ++ bytesOf p.st.toNat 4) (y := bodyW p) (r := r) rfl (i := 9) (by simp [bytesOf_length])
    rw [e]
    simpa using this
  unfold ps
  rw [hlen, eN, eT, eF, eS, eB, byteOf_ty g1, (u8_byteOf g2 g3).2, in_wr p ok g]
  rw [if_neg (by omega), if_neg (by omega), if_neg (by omega), if_neg (by omega)]
/-- no beginning of a frame is told as one -/
theorem ps_cut (p : Fp) (h : (wr p).2 = 0) (k : Nat) (hk : k < (wr p).1.length) : ps ((wr p).1.take k) 16777215 = .no 0 3 := by
  obtain ⟨g, hl, e⟩ := wr_eq h
  have hlen : ((wr p).1.take k).length = k := by rw [List.length_take]; omega
  rw [wr_len h] at hk
  unfold ps
  rw [if_neg (by omega), hlen]
  by_cases h9 : k < 9
  · rw [if_pos h9]
  · rw [if_neg h9]
    have e3 : ((wr p).1.take k).take 3 = bytesOf (bodyW p).length 3 := by
      rw [List.take_take, Nat.min_eq_left (by omega), e]
      have := mid (x := []) (y := bytesOf (bodyW p).length 3) (r := [byteOf p.ty, byteOf p.fl] ++ bytesOf p.st.toNat 4 ++ bodyW p) (bytesOf_length _ 3) rfl
      simpa using this
    have eN : be (((wr p).1.take k).take 3) = (bodyW p).length := by
      rw [e3, be_bytesOf]
      have : (256 : Nat) ^ 3 = 16777216 := by decide
      rw [this]
      omega
    rw [eN, if_neg (by omega), if_pos (by omega)]
theorem core_cano (p : Fp) : bodyW (cano p) = bodyW p := by
  obtain ⟨ty, fl, st, pl, pad, code, last, inc, dep, only, wt, ss⟩ := p
  unfold bodyW
  have e1 : (cano ⟨ty, fl, st, pl, pad, code, last, inc, dep, only, wt, ss⟩).ty = ty := rfl
  have e2 : (cano ⟨ty, fl, st, pl, pad, code, last, inc, dep, only, wt, ss⟩).fl = fl := rfl
  rw [e1, e2]
  dsimp only
  have hput : putW (cano ⟨ty, fl, st, pl, pad, code, last, inc, dep, only, wt, ss⟩) = putW ⟨ty, fl, st, pl, pad, code, last, inc, dep, only, wt, ss⟩ := by
    unfold putW
    rw [e1]
    dsimp only [cano]
    by_cases h2 : ty = 2
    · simp [h2]
    by_cases h3 : ty = 3
    · simp [h3]
    by_cases h4 : ty = 4
    · simp [h4]
    by_cases h5 : ty = 5
    · simp [h5]
    by_cases h7 : ty = 7
    · simp [h7]
    by_cases h8 : ty = 8
    · simp [h8]
    simp [h2, h3, h4, h5, h7, h8]
  rw [hput]
  cases hp : padF ty fl <;> cases hq : prioB ty fl <;> simp [cano, prioW, hp, hq]
theorem good_cano (p : Fp) (g : goodW p = true) : goodW (cano p) = true := by
  obtain ⟨g1, g2, g3, g4, g5, g6, g7, g8⟩ := good_of g
  have e1 : (cano p).ty = p.ty := rfl
  have e2 : (cano p).fl = p.fl := rfl
  have e3 : (cano p).st = p.st := rfl
  have m : mayK (cano p) = true := by
    unfold mayK at g6 ⊢
    rw [e1]
    dsimp only [cano]
    by_cases h6 : p.ty = 6
    · simpa [h6] using g6
    by_cases h8 : p.ty = 8
    · simpa [h8] using g6
    by_cases h5 : p.ty = 5
    · simpa [h5] using g6
    by_cases h7 : p.ty = 7
    · simpa [h7] using g6
    by_cases h4 : p.ty = 4
    · simpa [h4] using g6
    simp [h6, h8, h5, h7, h4]
  have pa : padOk (cano p) = true := by
    unfold padOk
    rw [e1, e2]
    cases hp : padF p.ty p.fl with
    | true =>
      have h1 := pad_of g7 hp
      have : (cano p).pad = p.pad := by simp [cano, hp]
      rw [this]
      exact g7
    | false =>
      have : (cano p).pad = 0 := by simp [cano, hp]
      rw [this]
      simp
  have pr : prioOk (cano p) = true := by
    unfold prioOk at g8 ⊢
    rw [e1, e2]
    cases hp : prioB p.ty p.fl with
    | false => rfl
    | true =>
      have h1 : (cano p).dep = p.dep := by simp [cano, hp]
      have h2 : (cano p).wt = p.wt := by simp [cano, hp]
      rw [h1, h2]
      rw [hp] at g8
      exact g8
  unfold goodW
  rw [e1, e2, e3, g1, g4, g5, m, pa, pr]
  simp [g2, g3]
theorem wr_cano (p : Fp) (g : goodW p = true) : wr (cano p) = wr p := by
  unfold wr
  rw [good_cano p g, g, core_cano p]
  rfl
end Go.Proofs.Ytkmcakneceagpaa
