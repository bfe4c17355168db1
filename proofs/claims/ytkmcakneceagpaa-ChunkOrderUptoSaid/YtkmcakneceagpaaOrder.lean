/- 'ChunkOrder', walked. -/
import Derived.Test.YtkmcakneceagpaaIo
set_option linter.unusedVariables false
set_option linter.unusedSimpArgs false
namespace Go.Proofs.Ytkmcakneceagpaa
open Go.RowKit
set_option maxHeartbeats 2000000 in
set_option maxRecDepth 100000 in
theorem ChunkOrder_walk (C : Nat) (hC : C < 256) (A : Option Addr) (m c : Nat) (B : Option Addr) (mt ct : Nat) (tk : List UInt8) (w0 : World) (ho : Parts w0 A m) (hm : m ≤ 1048576) (ht : Rd w0 B mt ct tk) (hmt : mt ≤ 140737488351232) :
    Calls Try.prog 13 #[.int .u8 C, .slice A m c, .slice B mt ct] w0 (Yes w0) := by
  have HP := Lib.hid ho
  have HT := Lib.hid ht
  clear ho ht
  go_enter Try.func13, Try.ntmps13
  go_wp2_with fail
  refine (RgNew C (by omega) w0).mono ?_
  rintro e w1 ⟨g, gb, rfl, R1, hlt, K1⟩
  obtain ⟨lt1, lt2⟩ := R1.lt
  have HR1 := Lib.hid R1
  have HI1 : Hid (IO w0 w1 [g, gb] none 0 0 [] none 0 0 []) := ⟨Ow.nil _ _ _ _, Ow.nil _ _ _ _, by simp [ob], by simp [ob], K1, by simp; omega⟩
  clear R1 K1
  go_wp2
  go_loopw [9, 10, 11] (fun x y i wr => ∃ (k p : Nat) (l li lo : List UInt8) (A1 : Option Addr) (n1 c1 : Nat) (A2 : Option Addr) (n2 c2 : Nat), k ≤ m ∧ i = .int .i64 k ∧ x = .slice A1 n1 c1 ∧ y = .slice A2 n2 c2 ∧ Rg wr g gb C p l ∧ IO w0 wr [g, gb] A1 n1 c1 li A2 n2 c2 lo ∧ li = lo ++ l ∧ n1 ≤ 255 * k) (fun _ _ i _ => m - (intOf i).toNat)
  case atStart => exact ⟨0, 0, [], [], [], none, 0, 0, none, 0, 0, Nat.zero_le _, rfl, rfl, rfl, HR1.out, HI1.out, rfl, by omega⟩
  case round =>
    obtain ⟨k, p, l, li, lo, A1, n1, c1, A2, n2, c2, hk, rfl, rfl, rfl, hR, hI, hl, hn1⟩ := hrel
    have HR := Lib.hid hR
    have HI := Lib.hid hI
    have HLL := Lib.hid hl
    have hle := hR.le
    have hl1 := hI.len1
    have hl2 := hI.len2
    have hn2 : n2 + l.length = n1 := by rw [← hl1, ← hl2, hl, List.length_append]
    have HN := Lib.hid hn2
    have hn2' : n2 ≤ n1 := by omega
    clear hR hI hl hl1 hl2 hn2
    by_cases hkl : k < m
    · obtain ⟨b, off, Ai, ni, ci, xs, rfl, hc0, hx, hni, hxl⟩ := HP.out k hkl
      have HC0 := HI.out.kp.cell hc0 (by simp)
      have HX := Lib.hid (hx.keep HI.out.kp (by simp))
      have hki : (k : Int) < (m : Int) := by omega
      have hb0 : b < w0.heap.size := World.block_lt_of_cell? w0 _ hc0
      have HXC := hx.cap
      have HXL := Lib.hid hx.len
      clear hx
      obtain ⟨mm, hmm⟩ : ∃ mm, min ni (C - l.length) = mm := ⟨_, rfl⟩
      have hm1 : mm ≤ ni := by omega
      have HM := Lib.hid hmm
      have hmC : mm + l.length ≤ C := by omega
      have hmci : (mm : Int) ≤ (ci : Int) := by omega
      have hpl : (l ++ xs.take mm).length = l.length + mm := by have := HXL.out; simp; omega
      have HPL := Lib.hid hpl
      have hroom : ¬ ni ≤ mm → C - (l ++ xs.take mm).length = 0 := by intro h; rw [hpl]; omega
      have HRoom := Lib.hid hroom
      clear hmm hpl hroom
      go_wp2_with fail
      refine (RgPut HR.out Ai ni ci xs HX.out (by omega) (by intro hp b hb; have := hxl hp b hb; omega)).mono ?_
      rintro e w2 ⟨rfl, K2, R2⟩
      rw [HM.out] at R2 ⊢
      have HR2 := Lib.hid R2
      have HI2 := Lib.hid (HI.out.keep K2 (by intro t ht; exact .inl ht))
      have HC2 := HI2.out.kp.cell hc0 (by simp)
      have HX2 := Lib.hid (HX.out.keep K2 (by intro hp b hb hs; have := hxl hp b hb; simp at hs; omega))
      clear K2 R2 HC0
      obtain ⟨l1, hl1⟩ : ∃ l1, l ++ xs.take mm = l1 := ⟨_, rfl⟩
      rw [hl1] at HR2 HPL HRoom
      have HL1 := Lib.hid hl1
      have hl1C : l1.length ≤ C := by have := HPL.out; omega
      have hinl : li ++ xs.take mm = lo ++ l1 := by rw [← HL1.out, HLL.out, List.append_assoc]
      have HIN := Lib.hid hinl
      clear hl1 hinl
      by_cases hc : ni ≤ mm
      · obtain rfl : mm = ni := by omega
        go_wp2_with (with_reducible refine stopAt (o := ⟨some 65, _, _, _, _, _⟩) ?_)
        refine Stop.go (wp_appB rfl _ _ 22 5 rfl Try.underlying22 Try.info5 w0.heap.size A1 n1 c1 li rfl HI2.out.o1 Ai mm ci (xs.take mm) rfl (by have := HX2.out.sub 0 mm (by omega) (by omega) (A' := Ai) (by intro b off hA _; rw [hA]; simp); simpa using this) (by omega) HI2.out.kp.size ?_)
        intro A3 n3 c3 li3 w3 hn3 hl3 O3 K3 hA3
        have HI3 := Lib.hid (HI2.out.app1 O3 K3 hA3)
        have hR3 := Lib.hid (HR2.out.keep K3 (fun hb => (HI2.out.d1 _ hb).1 (by simp)) (fun hb => (HI2.out.d1 _ hb).1 (by simp)))
        have hn3' : n3 ≤ 255 * (k + 1) := by have := hn3.out; omega
        have hli3 : Hid (li3 = lo ++ l1) := by rw [hl3.out]; exact HIN
        have HN3 : Hid (n3 = n1 + mm) := hn3
        clear O3 K3 hA3 hl3 HC2 HX2 HI2 HR2 hn3
        by_cases hkt : k < mt
        · obtain ⟨bt, offt, rfl, hbt, hct⟩ := HT.out.addr (by omega)
          have HCT := HI3.out.kp.cell (hct k hkt) (by simp)
          have hkti : (k : Int) < (mt : Int) := by omega
          have htv := (tk.getD k 0).toNat_lt
          generalize (tk.getD k 0).toNat = tv at HCT htv
          have htv' : tv < 256 := htv
          clear hct htv
          go_wp2_with fail
          refine (RgTake hR3.out tv).mono ?_
          rintro e w4 ⟨At, kt, ct4, rfl, O4, K4, p4, R4⟩
          have hkt4 : kt ≤ 255 := by have h1 := O4.len; have := mostN_le tv l1.length; simp at h1; omega
          have HI4 := Lib.hid (HI3.out.keep K4 (by intro t ht; simp at ht; exact .inl (by simp [ht])))
          have HR4 := Lib.hid R4
          have HO4 := Lib.hid O4
          have hn3l : n3 ≤ 268435456 := by omega
          have hn2l : n2 ≤ n3 := by have := HN3.out; omega
          clear O4 K4 R4
          go_wp2_with (with_reducible refine stopAt (o := ⟨some 78, _, _, _, _, _⟩) ?_)
          refine Stop.go (wp_appB rfl _ _ 22 5 rfl Try.underlying22 Try.info5 w0.heap.size A2 n2 c2 lo rfl HI4.out.o2 At kt ct4 (l1.take (mostN tv l1.length)) rfl HO4.out.rd (by omega) HI4.out.kp.size ?_)
          intro A5 n5 c5 lo5 w5 hn5 hl5 O5 K5 hA5
          have HI5 := Lib.hid (HI4.out.app2 O5 K5 hA5)
          have HR5 := Lib.hid (HR4.out.keep K5 (fun hb => HI4.out.d2 _ hb (by simp)) (fun hb => HI4.out.d2 _ hb (by simp)))
          obtain ⟨l5, hl5'⟩ : ∃ l5, l1.drop (mostN tv l1.length) = l5 := ⟨_, rfl⟩
          rw [hl5'] at HR5
          have hli5 : Hid (li3 = lo5 ++ l5) := by
            show _ = _
            rw [hli3.out, hl5.out, ← hl5', List.append_assoc, List.take_append_drop]
          have hl5C : l5.length ≤ C := by rw [← hl5']; simp; omega
          have hsum : n3 = n5 + l5.length := by rw [← HI5.out.len1, ← HI5.out.len2, hli5.out, List.length_append]
          have hs1 : n3 ≤ n5 + l5.length := by omega
          have hs2 : n5 + l5.length ≤ n3 := by omega
          clear O5 K5 hA5 hl5 HI4 HR4 HO4 hn5 hl5' hsum hli3 HCT
          go_wp2_with fail
          refine (RgLen HR5.out).mono ?_
          rintro e w9 ⟨rfl, rfl⟩
          go_wp2_with fail
          refine (RgLen HR5.out).mono ?_
          rintro e w9 ⟨rfl, rfl⟩
          go_wp2
          go_roundw
          case rel => exact ⟨k + 1, _, _, _, _, _, _, _, _, _, _, by omega, by go_num, rfl, rfl, HR5.out, HI5.out, hli5.out, by omega⟩
          case measure => simp [intOf]; omega
        · have hli5 : Hid (li3 = lo ++ l1) := hli3
          have hsum : n3 = n2 + l1.length := by rw [← HI3.out.len1, ← HI3.out.len2, hli3.out, List.length_append]
          have hs1 : n3 ≤ n2 + l1.length := by omega
          have hs2 : n2 + l1.length ≤ n3 := by omega
          have hn3l : n3 ≤ 268435456 := by omega
          have hkti : ¬ k < mt := hkt
          clear hsum
          go_wp2_with fail
          refine (RgLen hR3.out).mono ?_
          rintro e w9 ⟨rfl, rfl⟩
          go_wp2_with fail
          refine (RgLen hR3.out).mono ?_
          rintro e w9 ⟨rfl, rfl⟩
          go_wp2
          go_roundw
          case rel => exact ⟨k + 1, _, _, _, _, _, _, _, _, _, _, by omega, by go_num, rfl, rfl, hR3.out, HI3.out, hli5.out, by omega⟩
          case measure => simp [intOf]; omega
      · have hc' : mm < ni := by omega
        have hr0 := HRoom.out hc
        go_wp2_with fail
        refine (RgRoom HR2.out).mono ?_
        rintro e w3 ⟨rfl, rfl⟩
        rw [hr0]
        clear hr0
        go_wp2_with (with_reducible refine stopAt (o := ⟨some 65, _, _, _, _, _⟩) ?_)
        refine Stop.go (wp_appB rfl _ _ 22 5 rfl Try.underlying22 Try.info5 w0.heap.size A1 n1 c1 li rfl HI2.out.o1 Ai mm ci (xs.take mm) rfl (by have := HX2.out.sub 0 mm (by omega) (by omega) (A' := Ai) (by intro b off hA _; rw [hA]; simp); simpa using this) (by omega) HI2.out.kp.size ?_)
        intro A3 n3 c3 li3 w3 hn3 hl3 O3 K3 hA3
        have HI3 := Lib.hid (HI2.out.app1 O3 K3 hA3)
        have hR3 := Lib.hid (HR2.out.keep K3 (fun hb => (HI2.out.d1 _ hb).1 (by simp)) (fun hb => (HI2.out.d1 _ hb).1 (by simp)))
        have hn3' : n3 ≤ 255 * (k + 1) := by have := hn3.out; omega
        have hli3 : Hid (li3 = lo ++ l1) := by rw [hl3.out]; exact HIN
        have HN3 : Hid (n3 = n1 + mm) := hn3
        clear O3 K3 hA3 hl3 HC2 HX2 HI2 HR2 hn3
        by_cases hkt : k < mt
        · obtain ⟨bt, offt, rfl, hbt, hct⟩ := HT.out.addr (by omega)
          have HCT := HI3.out.kp.cell (hct k hkt) (by simp)
          have hkti : (k : Int) < (mt : Int) := by omega
          have htv := (tk.getD k 0).toNat_lt
          generalize (tk.getD k 0).toNat = tv at HCT htv
          have htv' : tv < 256 := htv
          clear hct htv
          go_wp2_with fail
          refine (RgTake hR3.out tv).mono ?_
          rintro e w4 ⟨At, kt, ct4, rfl, O4, K4, p4, R4⟩
          have hkt4 : kt ≤ 255 := by have h1 := O4.len; have := mostN_le tv l1.length; simp at h1; omega
          have HI4 := Lib.hid (HI3.out.keep K4 (by intro t ht; simp at ht; exact .inl (by simp [ht])))
          have HR4 := Lib.hid R4
          have HO4 := Lib.hid O4
          have hn3l : n3 ≤ 268435456 := by omega
          have hn2l : n2 ≤ n3 := by have := HN3.out; omega
          clear O4 K4 R4
          go_wp2_with (with_reducible refine stopAt (o := ⟨some 78, _, _, _, _, _⟩) ?_)
          refine Stop.go (wp_appB rfl _ _ 22 5 rfl Try.underlying22 Try.info5 w0.heap.size A2 n2 c2 lo rfl HI4.out.o2 At kt ct4 (l1.take (mostN tv l1.length)) rfl HO4.out.rd (by omega) HI4.out.kp.size ?_)
          intro A5 n5 c5 lo5 w5 hn5 hl5 O5 K5 hA5
          have HI5 := Lib.hid (HI4.out.app2 O5 K5 hA5)
          have HR5 := Lib.hid (HR4.out.keep K5 (fun hb => HI4.out.d2 _ hb (by simp)) (fun hb => HI4.out.d2 _ hb (by simp)))
          obtain ⟨l5, hl5'⟩ : ∃ l5, l1.drop (mostN tv l1.length) = l5 := ⟨_, rfl⟩
          rw [hl5'] at HR5
          have hli5 : Hid (li3 = lo5 ++ l5) := by
            show _ = _
            rw [hli3.out, hl5.out, ← hl5', List.append_assoc, List.take_append_drop]
          have hl5C : l5.length ≤ C := by rw [← hl5']; simp; omega
          have hsum : n3 = n5 + l5.length := by rw [← HI5.out.len1, ← HI5.out.len2, hli5.out, List.length_append]
          have hs1 : n3 ≤ n5 + l5.length := by omega
          have hs2 : n5 + l5.length ≤ n3 := by omega
          clear O5 K5 hA5 hl5 HI4 HR4 HO4 hn5 hl5' hsum hli3 HCT
          go_wp2_with fail
          refine (RgLen HR5.out).mono ?_
          rintro e w9 ⟨rfl, rfl⟩
          go_wp2_with fail
          refine (RgLen HR5.out).mono ?_
          rintro e w9 ⟨rfl, rfl⟩
          go_wp2
          go_roundw
          case rel => exact ⟨k + 1, _, _, _, _, _, _, _, _, _, _, by omega, by go_num, rfl, rfl, HR5.out, HI5.out, hli5.out, by omega⟩
          case measure => simp [intOf]; omega
        · have hli5 : Hid (li3 = lo ++ l1) := hli3
          have hsum : n3 = n2 + l1.length := by rw [← HI3.out.len1, ← HI3.out.len2, hli3.out, List.length_append]
          have hs1 : n3 ≤ n2 + l1.length := by omega
          have hs2 : n2 + l1.length ≤ n3 := by omega
          have hn3l : n3 ≤ 268435456 := by omega
          have hkti : ¬ k < mt := hkt
          clear hsum
          go_wp2_with fail
          refine (RgLen hR3.out).mono ?_
          rintro e w9 ⟨rfl, rfl⟩
          go_wp2_with fail
          refine (RgLen hR3.out).mono ?_
          rintro e w9 ⟨rfl, rfl⟩
          go_wp2
          go_roundw
          case rel => exact ⟨k + 1, _, _, _, _, _, _, _, _, _, _, by omega, by go_num, rfl, rfl, hR3.out, HI3.out, hli5.out, by omega⟩
          case measure => simp [intOf]; omega
    · have hn1l : n1 ≤ 268435456 := by omega
      go_wp2_with fail
      refine (RgTake HR.out 1000).mono ?_
      rintro e w4 ⟨At, kt, ct4, rfl, O4, K4, p4, R4⟩
      have hm0 : mostN 1000 l.length = l.length := by unfold mostN; omega
      rw [hm0, List.take_of_length_le (Nat.le_refl _)] at O4
      have hkt4 : kt ≤ 255 := by have h1 := O4.len; simp at h1; omega
      have HI4 := Lib.hid (HI.out.keep K4 (by intro t ht; simp at ht; exact .inl (by simp [ht])))
      have HO4 := Lib.hid O4
      clear O4 K4 R4 hm0
      go_wp2_with (with_reducible refine stopAt (o := ⟨some 97, _, _, _, _, _⟩) ?_)
      refine Stop.go (wp_appB rfl _ _ 22 5 rfl Try.underlying22 Try.info5 w0.heap.size A2 n2 c2 lo rfl HI4.out.o2 At kt ct4 l rfl HO4.out.rd (by omega) HI4.out.kp.size ?_)
      intro A5 n5 c5 lo5 w5 hn5 hl5 O5 K5 hA5
      have HI5 := Lib.hid (HI4.out.app2 O5 K5 hA5)
      have hli5 : Hid (lo5 = li) := by
        show _ = _
        rw [HLL.out]
        exact hl5.out
      clear O5 K5 hA5 hl5 HI4 HO4 hn5
      go_wp2_with (with_reducible refine stopAt (o := ⟨some 99, _, _, _, _, _⟩) ?_)
      refine Stop.go (wpList_str rfl 22 5 9 _ rfl Try.underlying22 Try.underlying5 Try.underlying9 rfl HI5.out.o1.rd ?_)
      go_wp2_with (with_reducible refine stopAt (o := ⟨some 101, _, _, _, _, _⟩) ?_)
      refine Stop.go (wpList_str rfl 22 5 9 _ rfl Try.underlying22 Try.underlying5 Try.underlying9 rfl HI5.out.o2.rd ?_)
      rw [hli5.out]
      go_wp2_with fail
      refine (awake01 _).mono ?_
      rintro e w6 ⟨rfl, K6⟩
      go_wp2
      go_ret
      exact ⟨rfl, HI5.out.kp.trans K6⟩
end Go.Proofs.Ytkmcakneceagpaa
