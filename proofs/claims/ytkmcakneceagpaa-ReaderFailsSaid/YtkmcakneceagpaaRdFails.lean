/- 'ReaderFails', walked. -/
import Derived.Test.YtkmcakneceagpaaRdY
set_option linter.unusedVariables false
set_option linter.unusedSimpArgs false
set_option linter.unusedSimpArgs false
namespace Go.Proofs.Ytkmcakneceagpaa
open Go.RowKit
set_option maxHeartbeats 2000000 in
set_option maxRecDepth 100000 in
theorem RdNextS (g : Nat) (w : World) (A : Option Addr) (n c : Nat) (most : Int) (xs xc : Int) (h : w.heap[g]? = some (.cells #[.bool true, .int .i64 most, .slice A n c, .bool true, .int .i64 xs, .int .i64 xc] 148)) : Calls Try.prog 103 #[.pointer (some ⟨g, 0, none⟩)] w fun e w' => e = .returned (.tuple #[.agg #[.int .i64 0, .int .i64 0, .int .i64 0, .slice none 0 0, .int .i64 0, .int .u32 0, .int .i64 0, .int .i64 0, .int .i64 0, .bool false, .int .i64 0, .slice none 0 0], .bool false, .agg #[.bool true, .int .i64 xs, .int .i64 xc]]) ∧ Kp [] w w' := by
  have HH := Lib.hid h
  have hl := lt_of_heap h
  clear h
  go_enter Try.func103, Try.ntmps103
  go_wp2_with fail
  go_step3
  go_wp2_with fail
  generalize hW : World.alloc _ _ = w1
  have K1 : Kp [] w w1 := by rw [← hW]; (repeat (first | with_reducible exact Kp.refl _ _ | with_reducible assumption | with_reducible refine Kp.alloc ?_ _ | with_reducible refine Kp.drew ?_ | with_reducible refine Kp.drewN ?_ _ | (with_reducible refine Kp.setL ?_ ?_ _; focus (simp; done)) | (with_reducible refine Kp.setR ?_ ?_ _; focus (simp; done)) | (with_reducible refine Kp.setR ?_ ?_ _; focus (simp; omega))))
  have HR := Lib.hid (show w1.heap[w.heap.size]? = some (.cells #[.pointer (some ⟨g, 0, none⟩)] 146) by rw [← hW]; (repeat (first | with_reducible assumption | (with_reducible refine hp_new _ _ _ ?_; focus (simp; done)) | (with_reducible refine (hp_old _ _ _ ?_).trans ?_; focus (first | omega | (simp; done) | (simp; omega))) | (with_reducible refine (hp_far _ _ _ _ ?_).trans ?_; focus (first | (simp; done) | (simp; omega))) | (with_reducible refine (hp_drew _ _).trans ?_) | (with_reducible refine (hp_drewN _ _ _).trans ?_))))
  have HF := Lib.hid (show w1.heap[w.heap.size + 1]? = some (.cells #[.int .i64 0, .int .i64 0, .int .i64 0, .slice none 0 0, .int .i64 0, .int .u32 0, .int .i64 0, .int .i64 0, .int .i64 0, .bool false, .int .i64 0, .slice none 0 0] 49) by rw [← hW]; (repeat (first | with_reducible assumption | (with_reducible refine hp_new _ _ _ ?_; focus (simp; done)) | (with_reducible refine (hp_old _ _ _ ?_).trans ?_; focus (first | omega | (simp; done) | (simp; omega))) | (with_reducible refine (hp_far _ _ _ _ ?_).trans ?_; focus (first | (simp; done) | (simp; omega))) | (with_reducible refine (hp_drew _ _).trans ?_) | (with_reducible refine (hp_drewN _ _ _).trans ?_))))
  have HX := Lib.hid (show w1.heap[w.heap.size + 1 + 1]? = some (.cells #[.bool false, .int .i64 0, .int .i64 0] 64) by rw [← hW]; (repeat (first | with_reducible assumption | (with_reducible refine hp_new _ _ _ ?_; focus (simp; done)) | (with_reducible refine (hp_old _ _ _ ?_).trans ?_; focus (first | omega | (simp; done) | (simp; omega))) | (with_reducible refine (hp_far _ _ _ _ ?_).trans ?_; focus (first | (simp; done) | (simp; omega))) | (with_reducible refine (hp_drew _ _).trans ?_) | (with_reducible refine (hp_drewN _ _ _).trans ?_))))
  clear hW
  have H1 := Lib.hid (K1.heap HH.out (by simp))
  refine (RdNone g w1 (cell_of H1.out 0)).mono ?_
  rintro e w9 ⟨rfl, rfl⟩
  have r0 := cell_of HR.out 0
  have rl := lt_of_heap HR.out
  have c3 := cell_of H1.out 3
  have cl := lt_of_heap H1.out
  have c4 := cell_of H1.out 4
  have c5 := cell_of H1.out 5
  obtain ⟨q0, q1, q2, q3, q4, q5, q6, q7, q8, q9, q10, q11, qz, qlt, qlt2⟩ := cellsF HF.out
  have x0 := cell_of HX.out 0
  have x1 := cell_of HX.out 1
  have x2 := cell_of HX.out 2
  have xz := frozen_of HX.out
  go_wp2
  go_step3
  go_wp2
  refine wp_loop_once ?_
  go_wp2
  go_region
  go_wp2
  rw [Exit.noGoto_ret]
  generalize hW : World.setCell _ _ _ = W
  obtain ⟨HF9, HX9, K9⟩ : W.heap[w.heap.size + 1]? = some (.cells #[.int .i64 0, .int .i64 0, .int .i64 0, .slice none 0 0, .int .i64 0, .int .u32 0, .int .i64 0, .int .i64 0, .int .i64 0, .bool false, .int .i64 0, .slice none 0 0] 49) ∧ W.heap[w.heap.size + 1 + 1]? = some (.cells #[.bool true, .int .i64 xs, .int .i64 xc] 64) ∧ Kp [w.heap.size + 1, w.heap.size + 1 + 1] w1 W := by rw [← hW]; exact set15 (by omega) HF.out HX.out
  refine bodyPost_ret (v := .tuple #[.agg #[.int .i64 0, .int .i64 0, .int .i64 0, .slice none 0 0, .int .i64 0, .int .u32 0, .int .i64 0, .int .i64 0, .int .i64 0, .bool false, .int .i64 0, .slice none 0 0], .bool false, .agg #[.bool true, .int .i64 xs, .int .i64 xc]]) (by simp [results, Try.results103, go_sem, cell_of HF9, cell_of HX9]) rfl ⟨rfl, (K1.then K9 (by intro t ht; simp at ht; right; omega)).drew⟩
/-- nothing is skipped where nothing can be told -/
theorem Skip.none {most : Int} {l m : List UInt8} (h : Skip most l m) (h0 : (ps l most).err ≠ 0 ∨ (ps l most).is = true) : m = l := by
  cases h with
  | refl => rfl
  | step h1 h2 _ _ => rcases h0 with h0 | h0; exact absurd h1 h0; rw [h2] at h0; cases h0
theorem ps_no8 (l : List UInt8) (h : l.length < 9) : ps l 16384 = .no 0 3 := by
  unfold ps
  rw [if_neg (by omega), if_pos h]
theorem ps_big (l : List UInt8) (n : Nat) (h : l.length = 9) (hn : be (l.take 3) = n) (hb : 16384 < n) : ps l 16384 = .bad 9 0 6 := by
  unfold ps
  rw [if_neg (by omega), if_neg (by omega), hn, if_pos (by omega)]
set_option maxHeartbeats 8000000 in
set_option maxRecDepth 100000 in
theorem ReaderFails_walk (s : Nat) (hs : s < 4294967296) (k : Nat) (hk : k < 256) (A : Option Addr) (n c : Nat) (l : List UInt8) (w0 : World) (hr : Rd w0 A n c l) :
    Calls Try.prog 30 #[.int .u32 s, .int .u8 k, .slice A n c] w0 (Yes w0) := by
  obtain ⟨q, hq⟩ : ∃ q : Nat, s % 16760831 = q := ⟨_, rfl⟩
  have hq0 : q < 16760831 := by omega
  have hq1 : ((s : Int).tmod 16760831) = (q : Int) := by rw [← hq]; simp [Int.tmod]
  have hq2 : ((s : Int) % 16760831) = (q : Int) := by rw [← hq]; simp
  clear hq hr
  obtain ⟨N, hN⟩ : ∃ N : Nat, 16385 + q = N := ⟨_, rfl⟩
  go_enter Try.func30, Try.ntmps30
  go_wp2_with fail
  refine (RdNew 16384 (by omega) (by omega) _).mono ?_
  rintro e w1 ⟨g, rfl, hg0, S1, K1⟩
  have HK1 := Lib.hid K1
  have HS1 := Lib.hid S1
  clear K1 S1
  obtain ⟨b0, hb0⟩ : ∃ b, UInt8.ofNat (N / 65536) = b := ⟨_, rfl⟩
  obtain ⟨b1, hb1⟩ : ∃ b, UInt8.ofNat (N / 256 % 256) = b := ⟨_, rfl⟩
  obtain ⟨b2, hb2⟩ : ∃ b, UInt8.ofNat (N % 256) = b := ⟨_, rfl⟩
  obtain ⟨b3, hb3⟩ : ∃ b, UInt8.ofNat k = b := ⟨_, rfl⟩
  have n0 : b0.toNat = N / 65536 := by rw [← hb0, UInt8.toNat_ofNat']; omega
  have n1 : b1.toNat = N / 256 % 256 := by rw [← hb1, UInt8.toNat_ofNat']; omega
  have n2 : b2.toNat = N % 256 := by rw [← hb2, UInt8.toNat_ofNat']; omega
  have n3 : b3.toNat = k := by rw [← hb3, UInt8.toNat_ofNat']; omega
  have HY8 := Lib.hid (show be ([b0, b1, b2, b3, 0, 0, 0, 0, 1].take 3) = N by show be [b0, b1, b2] = N; rw [be_three, n0, n1, n2]; omega)
  have E0 := Lib.hid (show Value.int .u8 ((16385 + (q : Int)) / 65536) = u8 b0 by rw [u8, n0]; congr 1; omega)
  have E1 := Lib.hid (show Value.int .u8 ((16385 + (q : Int)) / 256 % 256) = u8 b1 by rw [u8, n1]; congr 1; omega)
  have E2 := Lib.hid (show Value.int .u8 ((16385 + (q : Int)) % 256) = u8 b2 by rw [u8, n2]; congr 1; omega)
  have E3 := Lib.hid (show Value.int .u8 (k : Int) = u8 b3 by rw [u8, n3])
  have HNB := Lib.hid (show 16384 < N by omega)
  clear hb0 hb1 hb2 hb3 n0 n1 n2 n3 hN
  subst hg0
  go_wp2_with fail
  generalize hW : World.alloc _ _ = w2
  have K2 : Kp [] w1 w2 := by rw [← hW]; (repeat (first | with_reducible exact Kp.refl _ _ | with_reducible assumption | with_reducible refine Kp.alloc ?_ _ | with_reducible refine Kp.drew ?_ | with_reducible refine Kp.drewN ?_ _ | (with_reducible refine Kp.setL ?_ ?_ _; focus (simp; done)) | (with_reducible refine Kp.setR ?_ ?_ _; focus (simp; done)) | (with_reducible refine Kp.setR ?_ ?_ _; focus (simp; omega))))
  have hx : w2.heap[w1.heap.size]? = some (.cells #[u8 b0, u8 b1, u8 b2, u8 b3, .int .u8 0, .int .u8 0, .int .u8 0, .int .u8 0] 5) := by rw [← E0.out, ← E1.out, ← E2.out, ← E3.out, ← hW]; (repeat (first | with_reducible assumption | (with_reducible refine hp_new _ _ _ ?_; focus (simp; done)) | (with_reducible refine (hp_old _ _ _ ?_).trans ?_; focus (first | omega | (simp; done) | (simp; omega))) | (with_reducible refine (hp_far _ _ _ _ ?_).trans ?_; focus (first | (simp; done) | (simp; omega))) | (with_reducible refine (hp_drew _ _).trans ?_) | (with_reducible refine (hp_drewN _ _ _).trans ?_)))
  have R2 : Rd w2 (some ⟨w1.heap.size, 0, none⟩) 8 8 [b0, b1, b2, b3, 0, 0, 0, 0] := Rd.block hx 0 8 8 _ rfl (Nat.le_refl _) rfl
  have S2 := HS1.out.keep K2 (by simp) (by simp)
  have hk12 := (HK1.out.trans K2).size
  refine (RdFeed w0.heap.size [] w2 _ 8 8 _ [] 16384 0 0 S2 R2 (by simp)).mono ?_
  rintro e w3 ⟨rfl, D3, hD3a, hD3b, S3, K3⟩
  have HK3 := Lib.hid ((HK1.out.trans K2).then K3 (by simp))
  have HD3 := Lib.hid (show ∀ t, t ∈ D3 → w0.heap.size < t by intro t ht; rcases hD3a t ht with h | h; cases h; have := S2.lt; omega)
  have HD3b := Lib.hid hD3b
  have HS3 := Lib.hid S3
  clear hW K2 hx R2 S2 hD3a hD3b S3 K3 E0 E1 E2 E3 HS1 HK1
  go_wp2_with fail
  refine (RdNext w0.heap.size D3 w3 16384 0 0 _ HS3.out HD3b.out (by omega) (by simp)).mono ?_
  rintro e w4 ⟨l4, hsk, K4, hd⟩
  obtain rfl := hsk.none (.inl (by rw [ps_no8 _ (by simp)]; decide))
  rw [ps_no8 _ (by simp)] at hd
  clear hsk
  rcases hd with ⟨_, rfl, S4⟩ | ⟨h, _⟩ | ⟨h, _⟩ | ⟨h, _⟩
  rotate_left
  · exact absurd h (by decide)
  · exact absurd h (by decide)
  · exact absurd h (by decide)
  have HK4 := Lib.hid (HK3.out.then K4 (by intro t ht; rcases List.mem_cons.1 ht with e | e; subst e; exact .inr (Nat.le_refl _); exact .inr (Nat.le_of_lt (HD3.out t e))))
  have HS4 := Lib.hid S4
  have hs34 := K4.size
  clear S4 K4 HK3 HS3
  go_wp2_with fail
  generalize hW : World.alloc _ _ = w5
  have K5 : Kp [] w4 w5 := by rw [← hW]; (repeat (first | with_reducible exact Kp.refl _ _ | with_reducible assumption | with_reducible refine Kp.alloc ?_ _ | with_reducible refine Kp.drew ?_ | with_reducible refine Kp.drewN ?_ _ | (with_reducible refine Kp.setL ?_ ?_ _; focus (simp; done)) | (with_reducible refine Kp.setR ?_ ?_ _; focus (simp; done)) | (with_reducible refine Kp.setR ?_ ?_ _; focus (simp; omega))))
  obtain ⟨fb, hfb⟩ : ∃ fb, w4.heap.size + 1 = fb := ⟨_, rfl⟩
  have hx5 : w5.heap[w4.heap.size + 1 + 1]? = some (.cells #[.int .u8 1] 5) := by rw [← hW]; (repeat (first | with_reducible assumption | (with_reducible refine hp_new _ _ _ ?_; focus (simp; done)) | (with_reducible refine (hp_old _ _ _ ?_).trans ?_; focus (first | omega | (simp; done) | (simp; omega))) | (with_reducible refine (hp_far _ _ _ _ ?_).trans ?_; focus (first | (simp; done) | (simp; omega))) | (with_reducible refine (hp_drew _ _).trans ?_) | (with_reducible refine (hp_drewN _ _ _).trans ?_)))
  have HX5 : w5.heap[w4.heap.size + 1]? = some (.cells #[.bool false, .int .i64 0, .int .i64 0] 64) := by rw [← hW]; (repeat (first | with_reducible assumption | (with_reducible refine hp_new _ _ _ ?_; focus (simp; done)) | (with_reducible refine (hp_old _ _ _ ?_).trans ?_; focus (first | omega | (simp; done) | (simp; omega))) | (with_reducible refine (hp_far _ _ _ _ ?_).trans ?_; focus (first | (simp; done) | (simp; omega))) | (with_reducible refine (hp_drew _ _).trans ?_) | (with_reducible refine (hp_drewN _ _ _).trans ?_)))
  have R5 : Rd w5 (some ⟨w4.heap.size + 1 + 1, 0, none⟩) 1 1 [1] := Rd.block hx5 0 1 1 _ rfl (Nat.le_refl _) rfl
  have S5 := HS4.out.keep K5 (by simp) (by simp)
  have hl5 := lt_of_heap HX5
  refine (RdFeed w0.heap.size D3 w5 _ 1 1 _ _ 16384 0 0 S5 R5 (by simp)).mono ?_
  rintro e w6 ⟨rfl, D6, hD6a, hD6b, S6, K6⟩
  have HK6 := Lib.hid ((HK4.out.trans K5).then K6 (by intro t ht; rcases List.mem_cons.1 ht with e | e; subst e; exact .inr (Nat.le_refl _); exact .inr (Nat.le_of_lt (HD3.out t e))))
  have hD3fb : ∀ t, t ∈ D3 → t < fb := fun t ht => by have := HD3b.out t ht; omega
  have hgfb : w0.heap.size < fb := by have := HK4.out.size; omega
  have HFB := Lib.hid (show fb ∉ D6 by intro h; rcases hD6a fb h with e | e; have := hD3fb fb e; omega; omega)
  have HX6 := Lib.hid (K6.heap HX5 (by intro h; rcases List.mem_cons.1 h with e | e; omega; have := HD3b.out _ e; omega))
  have HD6 := Lib.hid (show ∀ t, t ∈ D6 → w0.heap.size < t by intro t ht; rcases hD6a t ht with h | h; exact HD3.out t h; have := S5.lt; omega)
  have HD6b := Lib.hid hD6b
  have HS6 := Lib.hid S6
  rw [hfb] at HX6 ⊢
  clear hW K5 hx5 HX5 R5 S5 hD6a hD6b S6 K6 hD3fb HS4 HK4 HD3 HD3b hfb
  go_wp2
  go_loopw [13] (fun v wr => ∃ j : Nat, j ≤ 3 ∧ v = .int .i64 j ∧ (∃ xa xb xd, wr.heap[fb]? = some (.cells #[.bool xa, .int .i64 xb, .int .i64 xd] 64)) ∧ Kp [] w0 wr ∧ w6.heap.size ≤ wr.heap.size ∧ ((j = 0 ∧ RdS wr w0.heap.size D6 16384 false 0 0 ([b0, b1, b2, b3, 0, 0, 0, 0] ++ [1])) ∨ RdS wr w0.heap.size D6 16384 true 0 6 ([b0, b1, b2, b3, 0, 0, 0, 0] ++ [1]))) (fun v _ => 3 - (intOf v).toNat)
  case atStart => exact ⟨0, by omega, rfl, ⟨_, _, _, HX6.out⟩, HK6.out, Nat.le_refl _, .inl ⟨rfl, HS6.out⟩⟩
  case round =>
    obtain ⟨j, hj, rfl, ⟨xa, xb, xd, hxf⟩, KW, hsw, hst⟩ := hrel
    have HXF := Lib.hid hxf
    have HKW := Lib.hid KW
    have HST := Lib.hid hst
    clear hxf KW hst
    by_cases hj3 : j < 3
    · have hji : (j : Int) < 3 := by omega
      have HN : Calls Try.prog 103 #[.pointer (some ⟨w0.heap.size, 0, none⟩)] wr fun e w' => e = .returned (.tuple #[.agg #[.int .i64 0, .int .i64 0, .int .i64 0, .slice none 0 0, .int .i64 0, .int .u32 0, .int .i64 0, .int .i64 0, .int .i64 0, .bool false, .int .i64 0, .slice none 0 0], .bool false, .agg #[.bool true, .int .i64 0, .int .i64 6]]) ∧ RdS w' w0.heap.size D6 16384 true 0 6 ([b0, b1, b2, b3, 0, 0, 0, 0] ++ [1]) ∧ Kp (w0.heap.size :: D6) wr w' := by
        have hpb : ps ([b0, b1, b2, b3, 0, 0, 0, 0] ++ [1]) 16384 = .bad 9 0 6 := ps_big _ N rfl HY8.out HNB.out
        rcases HST.out with ⟨_, S⟩ | S
        · refine (RdNext w0.heap.size D6 wr 16384 0 0 _ S (fun t ht => Nat.lt_of_lt_of_le (HD6b.out t ht) hsw) (by omega) (by simp)).mono ?_
          rintro e w' ⟨l', hsk, K, hd⟩
          obtain rfl := hsk.none (.inr (by rw [hpb]; rfl))
          rw [hpb] at hd
          rcases hd with ⟨h, _⟩ | ⟨_, _, _, rfl, S'⟩ | ⟨_, _, h, _⟩ | ⟨_, h, _⟩
          · exact absurd rfl h
          · exact ⟨rfl, S', K⟩
          · exact absurd rfl h
          · cases h
        · obtain ⟨A', n', c', h1, h2, h3, h4⟩ := S
          refine (RdNextS w0.heap.size wr A' n' c' 16384 0 6 h1).mono ?_
          rintro e w' ⟨rfl, K⟩
          exact ⟨rfl, ⟨A', n', c', K.heap h1 (by simp), h2.keep K (by simp), h3, h4⟩, K.nil⟩
      go_wp2_with fail
      refine HN.mono ?_
      rintro e w7 ⟨rfl, S7, K7⟩
      clear HN
      have HX7 := Lib.hid (K7.heap HXF.out (by intro h; rcases List.mem_cons.1 h with e | e; omega; exact HFB.out e))
      have HS7 := Lib.hid S7
      have HK7 := Lib.hid (HKW.out.then K7 (by intro t ht; rcases List.mem_cons.1 ht with e | e; subst e; exact .inr (Nat.le_refl _); exact .inr (Nat.le_of_lt (HD6.out t e))))
      have hs7 := K7.size
      have x0 := cell_of HX7.out 0
      have x1 := cell_of HX7.out 1
      have x2 := cell_of HX7.out 2
      have xz := frozen_of HX7.out
      have xl := lt_of_heap HX7.out
      clear S7 K7 HKW HXF HST
      go_wp2_with fail
      generalize hW : World.setCell _ _ _ = w8
      have K8 : Kp [fb] w7 w8 := by rw [← hW]; exact (((Kp.refl _ _).setCell (.inl (by simp)) _).setCell (.inl (by simp)) _).setCell (.inl (by simp)) _
      have HX8 := Lib.hid (show w8.heap[fb]? = some (.cells #[.bool true, .int .i64 0, .int .i64 6] 64) by rw [← hW]; exact hp_set _ _ _ _ _ _ (hp_set _ _ _ _ _ _ (hp_set _ _ _ _ _ _ HX7.out)))
      have S8 := HS7.out.keep K8 (by simp; omega) (by intro t ht h; simp at h; subst h; exact HFB.out ht)
      have HK8 := Lib.hid (HK7.out.then K8 (by simp; omega))
      have hs8 := K8.size
      clear hW HS7 HK7 HX7 x0 x1 x2 xz xl K8
      have HS8 := Lib.hid S8
      obtain ⟨A', n', c', h1, _, _, _⟩ := S8
      have HH8 := Lib.hid h1
      clear h1
      refine (RdFailed _ w8 A' n' c' 16384 true 0 6 HH8.out).mono ?_
      rintro e w9 ⟨rfl, K9⟩
      have HH9 := Lib.hid (K9.heap HH8.out (by simp))
      have HK9 := Lib.hid K9
      clear K9
      go_wp2_with fail
      refine (RdFeedS _ w9 A n c A' n' c' 16384 0 6 HH9.out).mono ?_
      rintro e w10 ⟨rfl, K10⟩
      have HK10 := Lib.hid (HK9.out.trans K10)
      clear K10
      go_wp2
      go_roundw
      case rel => exact ⟨j + 1, by omega, by go_num, ⟨_, _, _, HK10.out.heap HX8.out (by simp)⟩, HK8.out.trans HK10.out, by have := HK10.out.size; omega, .inr (HS8.out.keep HK10.out (by simp) (by simp))⟩
      case measure => simp [intOf]; omega
    · obtain rfl : j = 3 := by omega
      go_wp2
      go_ret
      exact ⟨rfl, HKW.out⟩
end Go.Proofs.Ytkmcakneceagpaa
