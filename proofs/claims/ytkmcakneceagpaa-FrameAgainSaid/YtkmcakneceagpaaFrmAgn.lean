/- 'FrameAgain', walked. -/
import Derived.Test.YtkmcakneceagpaaFrmLaw
set_option linter.unusedVariables false
set_option linter.unusedSimpArgs false
set_option linter.unusedSimpArgs false
namespace Go.Proofs.Ytkmcakneceagpaa
open Go.RowKit
theorem getD_take {l : List UInt8} {n i : Nat} (h : i < n) : (l.take n).getD i 0 = l.getD i 0 := by
  rw [List.getD_eq_getElem?_getD, List.getD_eq_getElem?_getD, List.getElem?_take, if_pos h]
theorem u8_low (x : UInt8) : Value.int .u8 ((x.toNat : Int) % 128) = u8 (x % 128) := by
  rw [u8, UInt8.toNat_mod]
  congr 1
set_option maxHeartbeats 8000000 in
set_option maxRecDepth 100000 in
theorem FrameAgain_walk (A : Option Addr) (n c : Nat) (l : List UInt8) (w0 : World) (hr : Rd w0 A n c l) (hn : n ≤ 140737488351232) :
    Calls Try.prog 27 #[.slice A n c] w0 (Yes w0) := by
  have HR := Lib.hid hr
  have hll := hr.len
  have hcp := hr.cap
  obtain ⟨⟨⟨ty, fl, st, pl, pad, code, last, inc, dep, only, wt, ss⟩, u, is, xst, xcode, err⟩, hps⟩ : ∃ r, ps l 65536 = r := ⟨_, rfl⟩
  have HPS := Lib.hid hps
  by_cases herr : err = 0
  · subst herr
    rcases bcase3 is with his | his
    · subst his
      rcases bcase3 (known ty) with hkn | hkn
      · have HKN := Lib.hid (show knownB ty = false from hkn)
        clear hps hkn hr
        go_enter Try.func27, Try.ntmps27
        go_wp2_with fail
        refine (Parse_any A n c l 65536 w0 HR.out (by omega)).mono ?_
        rintro e w1 ⟨f2, rfl, hf2, K1⟩
        rw [HPS.out] at hf2 ⊢
        dsimp only at hf2 ⊢
        obtain ⟨e0, e1, e2, e3, e4, e5, e6, e7, e8, e9⟩ := hf2.cs
        have HEQ := Lib.hid hf2.eq
        have HQ := Lib.hid hf2.rd
        have HS2 := Lib.hid hf2.sd
        clear hf2
        obtain ⟨ty, fl2, st2, qA, qn, qc, pad2, code2, last2, inc2, dep2, only2, wt2, qsA, qsn, qsc⟩ := f2
        dsimp only at *
        subst e0 e1 e2 e3 e4 e5 e6 e7 e8 e9
        go_wp2_with fail
        refine (Known_any ty _).mono ?_
        rintro e w2 ⟨rfl, rfl⟩
        rw [HKN.out]
        go_wp2_with fail
        refine (awake07 _).mono ?_
        rintro e w4 ⟨rfl, rfl⟩
        go_wp2
        go_ret
        exact ⟨rfl, K1.trans (by (repeat (first | with_reducible exact Kp.refl _ _ | with_reducible assumption | with_reducible refine Kp.alloc ?_ _ | with_reducible refine Kp.drew ?_ | with_reducible refine Kp.drewN ?_ _ | (with_reducible refine Kp.setL ?_ ?_ _; focus (simp; done)) | (with_reducible refine Kp.setR ?_ ?_ _; focus (simp; done)) | (with_reducible refine Kp.setR ?_ ?_ _; focus (simp; omega)))))⟩
      · have HKN := Lib.hid (show knownB ty = true from hkn)
        by_cases hpd : pad = 0
        · subst hpd
          obtain ⟨h1, h2, h3, h4, h5, h6, h7⟩ := ps_again l _ u xst xcode hps hkn rfl
          obtain ⟨U, rfl⟩ := Int.eq_ofNat_of_zero_le (show 0 ≤ u by omega)
          dsimp only at h4 h7
          rw [Int.toNat_natCast] at h4
          obtain ⟨x, hx⟩ : ∃ x, (wr (⟨ty, fl, st, pl, 0, code, last, inc, dep, only, wt, ss⟩ : Fp)).1 = x := ⟨_, rfl⟩
          rw [hx] at h2 h4
          have HX := Lib.hid hx
          have HW2 := Lib.hid h1
          have HW4 := Lib.hid h4
          have HOK := Lib.hid h5
          have hxU : x.length = U := by omega
          have hbody := (wr_eq h1).2.1
          have hwl := wr_len h1
          rw [hx] at hwl
          have hU3 : U ≤ n := by omega
          have hU9 : 9 ≤ U := by omega
          have hUm : U < 16777225 := by omega
          have HU10 := Lib.hid h7
          obtain ⟨b, o, hA, hbw, _⟩ := hr.addr (by omega)
          have HWL := Lib.hid hwl
          have HBD := Lib.hid hbody
          clear hx h1 h2 h3 h4 h5 h6 h7 hps hkn hbody hwl hr
          subst hA
          go_enter Try.func27, Try.ntmps27
          go_wp2_with fail
          refine (Parse_any (some ⟨b, o, none⟩) n c l 65536 w0 HR.out (by omega)).mono ?_
          rintro e w1 ⟨f2, rfl, hf2, K1⟩
          rw [HPS.out] at hf2 ⊢
          dsimp only at hf2 ⊢
          obtain ⟨e0, e1, e2, e3, e4, e5, e6, e7, e8, e9⟩ := hf2.cs
          have HEQ := Lib.hid hf2.eq
          have HQ := Lib.hid hf2.rd
          have HS2 := Lib.hid hf2.sd
          clear hf2
          obtain ⟨ty, fl2, st2, qA, qn, qc, pad2, code2, last2, inc2, dep2, only2, wt2, qsA, qsn, qsc⟩ := f2
          dsimp only at *
          subst e0 e1 e2 e3 e4 e5 e6 e7 e8 e9
          go_wp2_with fail
          refine (Known_any ty _).mono ?_
          rintro e w2 ⟨rfl, rfl⟩
          rw [HKN.out]
          go_wp2_with fail
          have hsm := ps_small l 65536
          rw [HPS.out] at hsm
          dsimp only at hsm
          generalize hW : World.alloc _ _ = w3
          have K3 : Kp [] w1 w3 := by rw [← hW]; (repeat (first | with_reducible exact Kp.refl _ _ | with_reducible assumption | with_reducible refine Kp.alloc ?_ _ | with_reducible refine Kp.drew ?_ | with_reducible refine Kp.drewN ?_ _ | (with_reducible refine Kp.setL ?_ ?_ _; focus (simp; done)) | (with_reducible refine Kp.setR ?_ ?_ _; focus (simp; done)) | (with_reducible refine Kp.setR ?_ ?_ _; focus (simp; omega))))
          have HF3 := Lib.hid (show w3.heap[w1.heap.size]? = some (.cells #[.int .i64 ty, .int .i64 fl2, .int .i64 st2, .slice qA qn qc, .int .i64 0, .int .u32 code2, .int .i64 last2, .int .i64 inc2, .int .i64 dep2, .bool only2, .int .i64 wt2, .slice qsA qsn qsc] 49) by rw [← hW]; (repeat (first | with_reducible assumption | (with_reducible refine hp_new _ _ _ ?_; focus (simp; done)) | (with_reducible refine (hp_old _ _ _ ?_).trans ?_; focus (first | omega | (simp; done) | (simp; omega))) | (with_reducible refine (hp_far _ _ _ _ ?_).trans ?_; focus (first | (simp; done) | (simp; omega))) | (with_reducible refine (hp_drew _ _).trans ?_) | (with_reducible refine (hp_drewN _ _ _).trans ?_))))
          clear hW
          refine (Write_any ⟨ty, fl2, st2, qA, qn, qc, 0, code2, last2, inc2, dep2, only2, wt2, qsA, qsn, qsc⟩ pl ss w3 ⟨HQ.out.keep K3 (by simp), by have h1 := HQ.out.len; dsimp only; omega, ⟨HOK.out.c0, HOK.out.c1⟩, HS2.out.keep K3 (by simp), by have h1 := HS2.out.len; dsimp only; omega⟩).mono ?_
          rintro e w4 ⟨A4, n4, c4, rfl, O4, K4⟩
          have hw' : wr ((⟨ty, fl2, st2, qA, qn, qc, 0, code2, last2, inc2, dep2, only2, wt2, qsA, qsn, qsc⟩ : Fr).p pl ss) = wr (⟨ty, fl2, st2, pl, 0, code2, last2, inc2, dep2, only2, wt2, ss⟩ : Fp) := by rw [HEQ.out]
          rw [hw', HX.out] at O4
          rw [hw', HW2.out]
          clear hw'
          have hn4 : n4 = U := by have := O4.len; simp at this; omega
          subst hn4
          have HO4 := Lib.hid O4.rd
          have HK4 := Lib.hid ((K1.trans K3).trans K4)
          have HF4 := Lib.hid (K4.heap HF3.out (by simp))
          have hs4 := HK4.out.size
          clear O4 K3 K4 HF3 hsm K1
          obtain ⟨f_0, f_1, f_2, f_3, f_4, f_5, f_6, f_7, f_8, f_9, f_10, f_11, hltB, hltB1⟩ := cells12 HF4.out
          have hUc : (n4 : Int) ≤ (c : Int) := by omega
          go_wp2_with (with_reducible refine stopAt (o := ⟨some 52, _, _, _, _, _⟩) ?_)
          have k0 : Kp [] w4 (w4.alloc (.cells #[] 5)) := (Kp.refl _ _).alloc _
          have hrs := (HR.out.keep (HK4.out.trans k0) (by simp)).sub 0 n4 (by omega) (by omega) (A' := some ⟨b, o, none⟩) (by intro b' o' h1 h2; injection h1 with h1; injection h1 with h1 h3 _; rw [h1, ← h3]; rfl)
          rw [Nat.sub_zero, Nat.sub_zero, List.drop_zero] at hrs
          refine Stop.go (wp_appB rfl _ _ 22 5 rfl Try.underlying22 Try.info5 w4.heap.size _ 0 0 [] rfl (Ow.empty w4 w4.heap.size 5 1 (Nat.le_refl _)) _ n4 c (l.take n4) rfl hrs (by omega) (by simp) ?_)
          intro A5 n5 c5 l5 w5 hn5 hl5 O5 K5 hA5
          have HK5 := Lib.hid (k0.then K5 (by simp [ob]))
          have hn5a : n5 ≤ n4 := by have := hn5.out; omega
          have hn5b : n4 ≤ n5 := by have := hn5.out; omega
          obtain rfl : l5 = l.take n4 := by rw [hl5.out]; rfl
          clear hn5 hl5 K5 hA5 k0 hrs
          obtain ⟨g, rfl, hg1, hg2, hg3, hg4, hg5⟩ := O5.of (by omega)
          have h5c := hg5 5 (by omega)
          generalize hv5 : (l.take n4).getD 5 0 = v5 at h5c
          have HV5 := Lib.hid hv5
          clear hv5
          have h9c := fun h => hg5 9 h
          have H9C := Lib.hid h9c
          have hn5c : (5 : Int) < (n5 : Int) := by omega
          have HF5 := Lib.hid (HK5.out.heap HF4.out (by simp))
          clear HF4 f_0 f_1 f_2 f_3 f_4 f_5 f_6 f_7 f_8 f_9 f_10 f_11 hltB hltB1 hg3 hg5 h9c
          obtain ⟨f_0, f_1, f_2, f_3, f_4, f_5, f_6, f_7, f_8, f_9, f_10, f_11, hltB, hltB1⟩ := cells12 HF5.out
          by_cases h8 : ty = 8
          · subst h8
            have h9c := H9C.out (by have := HU10.out (.inr rfl); omega)
            clear H9C
            have hn9 : (9 : Int) < (n5 : Int) := by have := HU10.out (by omega); omega
            have hv9 : (l.take n4).getD 9 0 = ((l.take n4).getD 9 0) := rfl
            generalize hv9' : (l.take n4).getD 9 0 = v9 at h9c
            clear hv9
            have O6 := O5.put 5 (by omega) (v5 % 128)
            have O7 := O6.put 9 (by omega) (v9 % 128)
            have KS : Kp [g] w5 (World.setCell (World.setCell w5 ⟨g, 5, none⟩ (.int .u8 ((v5.toNat : Int) % 128))) ⟨g, 9, none⟩ (.int .u8 ((v9.toNat : Int) % 128))) := ((Kp.refl [g] w5).setCell (.inl (by simp)) _).setCell (.inl (by simp)) _
            have R6 : Rd (World.setCell (World.setCell w5 ⟨g, 5, none⟩ (.int .u8 ((v5.toNat : Int) % 128))) ⟨g, 9, none⟩ (.int .u8 ((v9.toNat : Int) % 128))) (some ⟨g, 0, none⟩) n5 c5 (((l.take n4).set 5 (v5 % 128)).set 9 (v9 % 128)) := by
              have := O7.rd
              rw [← u8_low, ← u8_low] at this
              exact this
            have HR6 := Lib.hid R6
            have HO9 := Lib.hid (HO4.out.keep (HK5.out.then KS (by simp; omega)) (by simp))
            have HKS := Lib.hid KS
            have hd : low (low (l.take n4) 5) 9 = (((l.take n4).set 5 (v5 % 128)).set 9 (v9 % 128)) := by
              have e5 : low (l.take n4) 5 = ((l.take n4).set 5 (v5 % 128)) := by rw [low, HV5.out]
              rw [e5, low]
              congr 2
              rw [List.getD_eq_getElem?_getD, List.getElem?_set, if_neg (by omega), ← List.getD_eq_getElem?_getD, hv9']
            have hxx : x = (((l.take n4).set 5 (v5 % 128)).set 9 (v9 % 128)) := by rcases HW4.out with h | h; exact absurd h (by omega); rw [← hd]; simpa [lowF] using h
            have hs : ((sb x).toList == (sb (((l.take n4).set 5 (v5 % 128)).set 9 (v9 % 128))).toList) = true := by rw [← hxx]; simp
            have HS := Lib.hid hs
            clear O6 O7 R6 KS hd hxx hs
            go_wp2_with (with_reducible refine stopAt (o := ⟨some 74, _, _, _, _, _⟩) ?_)
            refine Stop.go (wpList_str rfl 22 5 9 _ rfl Try.underlying22 Try.underlying5 Try.underlying9 (l := x) rfl (HO9.out.keep (S := []) (by (repeat (first | with_reducible exact Kp.refl _ _ | with_reducible assumption | with_reducible refine Kp.alloc ?_ _ | with_reducible refine Kp.drew ?_ | with_reducible refine Kp.drewN ?_ _ | (with_reducible refine Kp.setL ?_ ?_ _; focus (simp; done)) | (with_reducible refine Kp.setR ?_ ?_ _; focus (simp; done)) | (with_reducible refine Kp.setR ?_ ?_ _; focus (simp; omega))))) (by simp)) ?_)
            go_wp2_with (with_reducible refine stopAt (o := ⟨some 76, _, _, _, _, _⟩) ?_)
            refine Stop.go (wpList_str rfl 22 5 9 _ rfl Try.underlying22 Try.underlying5 Try.underlying9 (l := (((l.take n4).set 5 (v5 % 128)).set 9 (v9 % 128))) rfl (HR6.out.keep (S := []) (by (repeat (first | with_reducible exact Kp.refl _ _ | with_reducible assumption | with_reducible refine Kp.alloc ?_ _ | with_reducible refine Kp.drew ?_ | with_reducible refine Kp.drewN ?_ _ | (with_reducible refine Kp.setL ?_ ?_ _; focus (simp; done)) | (with_reducible refine Kp.setR ?_ ?_ _; focus (simp; done)) | (with_reducible refine Kp.setR ?_ ?_ _; focus (simp; omega))))) (by simp)) ?_)
            have hs := HS.out
            go_wp2
            go_ret
            exact ⟨by simp, ((HK4.out.trans HK5.out).then HKS.out (by simp; omega)).trans (by (repeat (first | with_reducible exact Kp.refl _ _ | with_reducible assumption | with_reducible refine Kp.alloc ?_ _ | with_reducible refine Kp.drew ?_ | with_reducible refine Kp.drewN ?_ _ | (with_reducible refine Kp.setL ?_ ?_ _; focus (simp; done)) | (with_reducible refine Kp.setR ?_ ?_ _; focus (simp; done)) | (with_reducible refine Kp.setR ?_ ?_ _; focus (simp; omega)))))⟩
          by_cases h7 : ty = 7
          · subst h7
            have h9c := H9C.out (by have := HU10.out (.inl rfl); omega)
            clear H9C
            have hn9 : (9 : Int) < (n5 : Int) := by have := HU10.out (by omega); omega
            have hv9 : (l.take n4).getD 9 0 = ((l.take n4).getD 9 0) := rfl
            generalize hv9' : (l.take n4).getD 9 0 = v9 at h9c
            clear hv9
            have O6 := O5.put 5 (by omega) (v5 % 128)
            have O7 := O6.put 9 (by omega) (v9 % 128)
            have KS : Kp [g] w5 (World.setCell (World.setCell w5 ⟨g, 5, none⟩ (.int .u8 ((v5.toNat : Int) % 128))) ⟨g, 9, none⟩ (.int .u8 ((v9.toNat : Int) % 128))) := ((Kp.refl [g] w5).setCell (.inl (by simp)) _).setCell (.inl (by simp)) _
            have R6 : Rd (World.setCell (World.setCell w5 ⟨g, 5, none⟩ (.int .u8 ((v5.toNat : Int) % 128))) ⟨g, 9, none⟩ (.int .u8 ((v9.toNat : Int) % 128))) (some ⟨g, 0, none⟩) n5 c5 (((l.take n4).set 5 (v5 % 128)).set 9 (v9 % 128)) := by
              have := O7.rd
              rw [← u8_low, ← u8_low] at this
              exact this
            have HR6 := Lib.hid R6
            have HO9 := Lib.hid (HO4.out.keep (HK5.out.then KS (by simp; omega)) (by simp))
            have HKS := Lib.hid KS
            have hd : low (low (l.take n4) 5) 9 = (((l.take n4).set 5 (v5 % 128)).set 9 (v9 % 128)) := by
              have e5 : low (l.take n4) 5 = ((l.take n4).set 5 (v5 % 128)) := by rw [low, HV5.out]
              rw [e5, low]
              congr 2
              rw [List.getD_eq_getElem?_getD, List.getElem?_set, if_neg (by omega), ← List.getD_eq_getElem?_getD, hv9']
            have hxx : x = (((l.take n4).set 5 (v5 % 128)).set 9 (v9 % 128)) := by rcases HW4.out with h | h; exact absurd h (by omega); rw [← hd]; simpa [lowF] using h
            have hs : ((sb x).toList == (sb (((l.take n4).set 5 (v5 % 128)).set 9 (v9 % 128))).toList) = true := by rw [← hxx]; simp
            have HS := Lib.hid hs
            clear O6 O7 R6 KS hd hxx hs
            go_wp2_with (with_reducible refine stopAt (o := ⟨some 74, _, _, _, _, _⟩) ?_)
            refine Stop.go (wpList_str rfl 22 5 9 _ rfl Try.underlying22 Try.underlying5 Try.underlying9 (l := x) rfl (HO9.out.keep (S := []) (by (repeat (first | with_reducible exact Kp.refl _ _ | with_reducible assumption | with_reducible refine Kp.alloc ?_ _ | with_reducible refine Kp.drew ?_ | with_reducible refine Kp.drewN ?_ _ | (with_reducible refine Kp.setL ?_ ?_ _; focus (simp; done)) | (with_reducible refine Kp.setR ?_ ?_ _; focus (simp; done)) | (with_reducible refine Kp.setR ?_ ?_ _; focus (simp; omega))))) (by simp)) ?_)
            go_wp2_with (with_reducible refine stopAt (o := ⟨some 76, _, _, _, _, _⟩) ?_)
            refine Stop.go (wpList_str rfl 22 5 9 _ rfl Try.underlying22 Try.underlying5 Try.underlying9 (l := (((l.take n4).set 5 (v5 % 128)).set 9 (v9 % 128))) rfl (HR6.out.keep (S := []) (by (repeat (first | with_reducible exact Kp.refl _ _ | with_reducible assumption | with_reducible refine Kp.alloc ?_ _ | with_reducible refine Kp.drew ?_ | with_reducible refine Kp.drewN ?_ _ | (with_reducible refine Kp.setL ?_ ?_ _; focus (simp; done)) | (with_reducible refine Kp.setR ?_ ?_ _; focus (simp; done)) | (with_reducible refine Kp.setR ?_ ?_ _; focus (simp; omega))))) (by simp)) ?_)
            have hs := HS.out
            go_wp2
            go_ret
            exact ⟨by simp, ((HK4.out.trans HK5.out).then HKS.out (by simp; omega)).trans (by (repeat (first | with_reducible exact Kp.refl _ _ | with_reducible assumption | with_reducible refine Kp.alloc ?_ _ | with_reducible refine Kp.drew ?_ | with_reducible refine Kp.drewN ?_ _ | (with_reducible refine Kp.setL ?_ ?_ _; focus (simp; done)) | (with_reducible refine Kp.setR ?_ ?_ _; focus (simp; done)) | (with_reducible refine Kp.setR ?_ ?_ _; focus (simp; omega)))))⟩
          clear H9C
          by_cases h5 : ty = 5
          · subst h5
            clear h7 h8
            have O6 := O5.put 5 (by omega) (v5 % 128)
            have KS : Kp [g] w5 (World.setCell w5 ⟨g, 5, none⟩ (.int .u8 ((v5.toNat : Int) % 128))) := (Kp.refl [g] w5).setCell (.inl (by simp)) _
            have R6 : Rd (World.setCell w5 ⟨g, 5, none⟩ (.int .u8 ((v5.toNat : Int) % 128))) (some ⟨g, 0, none⟩) n5 c5 ((l.take n4).set 5 (v5 % 128)) := by
              have := O6.rd
              rw [← u8_low] at this
              exact this
            have HR6 := Lib.hid R6
            have HO9 := Lib.hid (HO4.out.keep (HK5.out.then KS (by simp; omega)) (by simp))
            have HKS := Lib.hid KS
            skip
            clear O6 R6 KS
            go_wp2_with (with_reducible refine stopAt (o := ⟨some 74, _, _, _, _, _⟩) ?_)
            refine Stop.go (wpList_str rfl 22 5 9 _ rfl Try.underlying22 Try.underlying5 Try.underlying9 (l := x) rfl (HO9.out.keep (S := []) (by (repeat (first | with_reducible exact Kp.refl _ _ | with_reducible assumption | with_reducible refine Kp.alloc ?_ _ | with_reducible refine Kp.drew ?_ | with_reducible refine Kp.drewN ?_ _ | (with_reducible refine Kp.setL ?_ ?_ _; focus (simp; done)) | (with_reducible refine Kp.setR ?_ ?_ _; focus (simp; done)) | (with_reducible refine Kp.setR ?_ ?_ _; focus (simp; omega))))) (by simp)) ?_)
            go_wp2_with (with_reducible refine stopAt (o := ⟨some 76, _, _, _, _, _⟩) ?_)
            refine Stop.go (wpList_str rfl 22 5 9 _ rfl Try.underlying22 Try.underlying5 Try.underlying9 (l := ((l.take n4).set 5 (v5 % 128))) rfl (HR6.out.keep (S := []) (by (repeat (first | with_reducible exact Kp.refl _ _ | with_reducible assumption | with_reducible refine Kp.alloc ?_ _ | with_reducible refine Kp.drew ?_ | with_reducible refine Kp.drewN ?_ _ | (with_reducible refine Kp.setL ?_ ?_ _; focus (simp; done)) | (with_reducible refine Kp.setR ?_ ?_ _; focus (simp; done)) | (with_reducible refine Kp.setR ?_ ?_ _; focus (simp; omega))))) (by simp)) ?_)
            rcases bcase3 ((sb x).toList == (sb ((l.take n4).set 5 (v5 % 128))).toList) with hs | hs
            · go_wp2
              go_ret
              exact ⟨by simp, ((HK4.out.trans HK5.out).then HKS.out (by simp; omega)).trans (by (repeat (first | with_reducible exact Kp.refl _ _ | with_reducible assumption | with_reducible refine Kp.alloc ?_ _ | with_reducible refine Kp.drew ?_ | with_reducible refine Kp.drewN ?_ _ | (with_reducible refine Kp.setL ?_ ?_ _; focus (simp; done)) | (with_reducible refine Kp.setR ?_ ?_ _; focus (simp; done)) | (with_reducible refine Kp.setR ?_ ?_ _; focus (simp; omega)))))⟩
            · go_wp2
              go_ret
              exact ⟨by simp, ((HK4.out.trans HK5.out).then HKS.out (by simp; omega)).trans (by (repeat (first | with_reducible exact Kp.refl _ _ | with_reducible assumption | with_reducible refine Kp.alloc ?_ _ | with_reducible refine Kp.drew ?_ | with_reducible refine Kp.drewN ?_ _ | (with_reducible refine Kp.setL ?_ ?_ _; focus (simp; done)) | (with_reducible refine Kp.setR ?_ ?_ _; focus (simp; done)) | (with_reducible refine Kp.setR ?_ ?_ _; focus (simp; omega)))))⟩
          have O6 := O5.put 5 (by omega) (v5 % 128)
          have KS : Kp [g] w5 (World.setCell w5 ⟨g, 5, none⟩ (.int .u8 ((v5.toNat : Int) % 128))) := (Kp.refl [g] w5).setCell (.inl (by simp)) _
          have R6 : Rd (World.setCell w5 ⟨g, 5, none⟩ (.int .u8 ((v5.toNat : Int) % 128))) (some ⟨g, 0, none⟩) n5 c5 ((l.take n4).set 5 (v5 % 128)) := by
            have := O6.rd
            rw [← u8_low] at this
            exact this
          have HR6 := Lib.hid R6
          have HO9 := Lib.hid (HO4.out.keep (HK5.out.then KS (by simp; omega)) (by simp))
          have HKS := Lib.hid KS
          have hd : low (l.take n4) 5 = ((l.take n4).set 5 (v5 % 128)) := by rw [low, HV5.out]
          have hxx : x = ((l.take n4).set 5 (v5 % 128)) := by rcases HW4.out with h | h; exact absurd h h5; rw [← hd]; simpa [lowF, h7, h8] using h
          have hs : ((sb x).toList == (sb ((l.take n4).set 5 (v5 % 128))).toList) = true := by rw [← hxx]; simp
          have h7b : (ty == 7) = false := by simpa using h7
          have h8b : (ty == 8) = false := by simpa using h8
          have HS := Lib.hid hs
          clear O6 R6 KS hd hxx hs
          go_wp2_with (with_reducible refine stopAt (o := ⟨some 74, _, _, _, _, _⟩) ?_)
          refine Stop.go (wpList_str rfl 22 5 9 _ rfl Try.underlying22 Try.underlying5 Try.underlying9 (l := x) rfl (HO9.out.keep (S := []) (by (repeat (first | with_reducible exact Kp.refl _ _ | with_reducible assumption | with_reducible refine Kp.alloc ?_ _ | with_reducible refine Kp.drew ?_ | with_reducible refine Kp.drewN ?_ _ | (with_reducible refine Kp.setL ?_ ?_ _; focus (simp; done)) | (with_reducible refine Kp.setR ?_ ?_ _; focus (simp; done)) | (with_reducible refine Kp.setR ?_ ?_ _; focus (simp; omega))))) (by simp)) ?_)
          go_wp2_with (with_reducible refine stopAt (o := ⟨some 76, _, _, _, _, _⟩) ?_)
          refine Stop.go (wpList_str rfl 22 5 9 _ rfl Try.underlying22 Try.underlying5 Try.underlying9 (l := ((l.take n4).set 5 (v5 % 128))) rfl (HR6.out.keep (S := []) (by (repeat (first | with_reducible exact Kp.refl _ _ | with_reducible assumption | with_reducible refine Kp.alloc ?_ _ | with_reducible refine Kp.drew ?_ | with_reducible refine Kp.drewN ?_ _ | (with_reducible refine Kp.setL ?_ ?_ _; focus (simp; done)) | (with_reducible refine Kp.setR ?_ ?_ _; focus (simp; done)) | (with_reducible refine Kp.setR ?_ ?_ _; focus (simp; omega))))) (by simp)) ?_)
          have hs := HS.out
          go_wp2
          go_ret
          exact ⟨by simp, ((HK4.out.trans HK5.out).then HKS.out (by simp; omega)).trans (by (repeat (first | with_reducible exact Kp.refl _ _ | with_reducible assumption | with_reducible refine Kp.alloc ?_ _ | with_reducible refine Kp.drew ?_ | with_reducible refine Kp.drewN ?_ _ | (with_reducible refine Kp.setL ?_ ?_ _; focus (simp; done)) | (with_reducible refine Kp.setR ?_ ?_ _; focus (simp; done)) | (with_reducible refine Kp.setR ?_ ?_ _; focus (simp; omega)))))⟩
        · have hpz : (pad != 0) = true := by simpa using hpd
          clear hps hkn hpd hr
          go_enter Try.func27, Try.ntmps27
          go_wp2_with fail
          refine (Parse_any A n c l 65536 w0 HR.out (by omega)).mono ?_
          rintro e w1 ⟨f2, rfl, hf2, K1⟩
          rw [HPS.out] at hf2 ⊢
          dsimp only at hf2 ⊢
          obtain ⟨e0, e1, e2, e3, e4, e5, e6, e7, e8, e9⟩ := hf2.cs
          have HEQ := Lib.hid hf2.eq
          have HQ := Lib.hid hf2.rd
          have HS2 := Lib.hid hf2.sd
          clear hf2
          obtain ⟨ty, fl2, st2, qA, qn, qc, pad2, code2, last2, inc2, dep2, only2, wt2, qsA, qsn, qsc⟩ := f2
          dsimp only at *
          subst e0 e1 e2 e3 e4 e5 e6 e7 e8 e9
          go_wp2_with fail
          refine (Known_any ty _).mono ?_
          rintro e w2 ⟨rfl, rfl⟩
          rw [HKN.out]
          go_wp2_with fail
          refine (awake07 _).mono ?_
          rintro e w4 ⟨rfl, rfl⟩
          go_wp2
          go_ret
          exact ⟨rfl, K1.trans (by (repeat (first | with_reducible exact Kp.refl _ _ | with_reducible assumption | with_reducible refine Kp.alloc ?_ _ | with_reducible refine Kp.drew ?_ | with_reducible refine Kp.drewN ?_ _ | (with_reducible refine Kp.setL ?_ ?_ _; focus (simp; done)) | (with_reducible refine Kp.setR ?_ ?_ _; focus (simp; done)) | (with_reducible refine Kp.setR ?_ ?_ _; focus (simp; omega)))))⟩
    · subst his
      clear hps hr
      go_enter Try.func27, Try.ntmps27
      go_wp2_with fail
      refine (Parse_any A n c l 65536 w0 HR.out (by omega)).mono ?_
      rintro e w1 ⟨f2, rfl, hf2, K1⟩
      rw [HPS.out] at hf2 ⊢
      dsimp only at hf2 ⊢
      obtain ⟨e0, e1, e2, e3, e4, e5, e6, e7, e8, e9⟩ := hf2.cs
      have HEQ := Lib.hid hf2.eq
      have HQ := Lib.hid hf2.rd
      have HS2 := Lib.hid hf2.sd
      clear hf2
      obtain ⟨ty2, fl2, st2, qA, qn, qc, pad2, code2, last2, inc2, dep2, only2, wt2, qsA, qsn, qsc⟩ := f2
      dsimp only at *
      subst e0 e1 e2 e3 e4 e5 e6 e7 e8 e9
      go_wp2_with fail
      refine (awake07 _).mono ?_
      rintro e w4 ⟨rfl, rfl⟩
      go_wp2
      go_ret
      exact ⟨rfl, K1.trans (by (repeat (first | with_reducible exact Kp.refl _ _ | with_reducible assumption | with_reducible refine Kp.alloc ?_ _ | with_reducible refine Kp.drew ?_ | with_reducible refine Kp.drewN ?_ _ | (with_reducible refine Kp.setL ?_ ?_ _; focus (simp; done)) | (with_reducible refine Kp.setR ?_ ?_ _; focus (simp; done)) | (with_reducible refine Kp.setR ?_ ?_ _; focus (simp; omega)))))⟩
  · have hez : (err != 0) = true := by simpa using herr
    clear hps herr hr
    go_enter Try.func27, Try.ntmps27
    go_wp2_with fail
    refine (Parse_any A n c l 65536 w0 HR.out (by omega)).mono ?_
    rintro e w1 ⟨f2, rfl, hf2, K1⟩
    rw [HPS.out] at hf2 ⊢
    dsimp only at hf2 ⊢
    obtain ⟨e0, e1, e2, e3, e4, e5, e6, e7, e8, e9⟩ := hf2.cs
    have HEQ := Lib.hid hf2.eq
    have HQ := Lib.hid hf2.rd
    have HS2 := Lib.hid hf2.sd
    clear hf2
    obtain ⟨ty2, fl2, st2, qA, qn, qc, pad2, code2, last2, inc2, dep2, only2, wt2, qsA, qsn, qsc⟩ := f2
    dsimp only at *
    subst e0 e1 e2 e3 e4 e5 e6 e7 e8 e9
    go_wp2_with fail
    refine (awake07 _).mono ?_
    rintro e w4 ⟨rfl, rfl⟩
    go_wp2
    go_ret
    exact ⟨rfl, K1.trans (by (repeat (first | with_reducible exact Kp.refl _ _ | with_reducible assumption | with_reducible refine Kp.alloc ?_ _ | with_reducible refine Kp.drew ?_ | with_reducible refine Kp.drewN ?_ _ | (with_reducible refine Kp.setL ?_ ?_ _; focus (simp; done)) | (with_reducible refine Kp.setR ?_ ?_ _; focus (simp; done)) | (with_reducible refine Kp.setR ?_ ?_ _; focus (simp; omega)))))⟩
end Go.Proofs.Ytkmcakneceagpaa
