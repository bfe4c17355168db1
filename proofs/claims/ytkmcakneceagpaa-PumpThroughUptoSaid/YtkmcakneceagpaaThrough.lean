/- 'PumpThrough', walked. -/
import Derived.Test.YtkmcakneceagpaaPumpX
import Derived.Test.YtkmcakneceagpaaIo
set_option linter.unusedVariables false
set_option linter.unusedSimpArgs false
namespace Go.Proofs.Ytkmcakneceagpaa
open Go.RowKit
theorem sb_size (a : List UInt8) : (sb a).size = a.length := by simp [sb, ByteArray.size]
theorem sb_append (a b : List UInt8) : sb a ++ sb b = sb (a ++ b) := by
  apply ByteArray.ext
  simp [sb]
/-- string(b), be there a guard that says yes -/
theorem wpList_strG {P : Program} {o : Oper} {a : Act} {w : World} {Q : Exit → Act → World → Prop} {ops : Array Oper} {rest : List Oper} {gi : Nat} {gb : Bool} {og : Oper} {gd : Nat} (hgd : o.guard = some (gi, gb)) (hog : ops[gi]? = some og) (hod : og.dst = some gd) (hv : a.tmps[gd]? = some (.bool gb)) (src e dst : TypeId) (x : Operand) (ho : o.op = .convert src dst x) (hs : P.underlying src = some (.slice e)) (he : P.underlying e = some (.int .u8)) (hd : P.underlying dst = some .string)
    {A : Option Addr} {n c : Nat} {l : List UInt8} (hx : a.eval x = .slice A n c) (hr : Rd w A n c l) (h : wpList P ops Q rest (a.put o.dst (.string (sb l))) w) : wpList P ops Q (o :: rest) a w := by
  refine wpList_step (fun K hK => ?_)
  refine want_yes hgd hog hod hv ?_
  exact wp_str src e dst x ho hs he hd hx hr (hK _ _ h)
set_option maxHeartbeats 4000000 in
set_option maxRecDepth 100000 in
theorem PumpThrough_walk (C : Nat) (hC : C < 256) (A : Option Addr) (m c : Nat) (B : Option Addr) (mt ct : Nat) (tk : List UInt8) (T : Option Addr) (m2 d2 : Nat) (hs : List Hdr) (tr : Bool) (w0 : World) (ho : Parts w0 A m) (hm : m ≤ 1048576) (ht : Rd w0 B mt ct tk) (hmt : mt ≤ 140737488351232) (hh : Hd w0 T m2 d2 hs) (hm2 : m2 * 40 ≤ 140737488351232) :
    Calls Try.prog 19 #[.int .u8 C, .slice A m c, .slice B mt ct, .slice T m2 d2, .bool tr] w0 (Yes w0) := by
  have HQ := Lib.hid ho
  have HT := Lib.hid ht
  have HH := Lib.hid hh
  clear ho ht hh
  go_enter Try.func19, Try.ntmps19
  go_wp2_with fail
  refine (PmNew C (by omega) w0).mono ?_
  rintro e w1 ⟨u, g, gb, rfl, P1, hlt, K1⟩
  have l1 := P1.lt
  have HP1 := Lib.hid P1
  have HI1 : Hid (IO w0 w1 [u, g, gb] none 0 0 [] none 0 0 []) := ⟨Ow.nil _ _ _ _, Ow.nil _ _ _ _, by simp [ob], by simp [ob], K1, by simp; omega⟩
  clear P1 K1
  go_wp2
  go_loopw [13, 14, 15] (fun x y i wr => ∃ (k : Nat) (l li lo : List UInt8) (A1 : Option Addr) (n1 c1 : Nat) (A2 : Option Addr) (n2 c2 : Nat), k ≤ m ∧ i = .int .i64 k ∧ x = .slice A1 n1 c1 ∧ y = .slice A2 n2 c2 ∧ Pm wr u g gb C [] ⟨l, false, none⟩ ∧ IO w0 wr [u, g, gb] A1 n1 c1 li A2 n2 c2 lo ∧ li = lo ++ l ∧ n1 ≤ 255 * k) (fun _ _ i _ => m - (intOf i).toNat)
  case atStart => exact ⟨0, [], [], [], none, 0, 0, none, 0, 0, Nat.zero_le _, rfl, rfl, rfl, HP1.out, HI1.out, rfl, by omega⟩
  case round =>
    obtain ⟨k, l, li, lo, A1, n1, c1, A2, n2, c2, hk, rfl, rfl, rfl, hP, hI, hl, hn1⟩ := hrel
    have HP := Lib.hid hP
    have HI := Lib.hid hI
    have HLL := Lib.hid hl
    have hle : l.length ≤ C := by obtain ⟨p, r⟩ := hP.ring; exact r.le
    have hl1 := hI.len1
    have hl2 := hI.len2
    have hn2 : n2 + l.length = n1 := by rw [← hl1, ← hl2, hl, List.length_append]
    have HN := Lib.hid hn2
    have hn2' : n2 ≤ n1 := by omega
    clear hP hI hl hl1 hl2 hn2
    by_cases hkl : k < m
    · obtain ⟨b, off, Ai, ni, ci, xs, rfl, hc0, hx, hni, hxl⟩ := HQ.out k hkl
      have HC0 := HI.out.kp.cell hc0 (by simp)
      have HX := Lib.hid (hx.keep HI.out.kp (by simp))
      have hki : (k : Int) < (m : Int) := by omega
      have hb0 : b < w0.heap.size := World.block_lt_of_cell? w0 _ hc0
      have HXL := Lib.hid hx.len
      clear hx
      have hn1l : n1 ≤ 268435456 := by omega
      by_cases hf : ni ≤ C - l.length
      · have hfd : decide ((ni : Int) ≤ (C : Int) - ((n1 : Int) - (n2 : Int))) = true := by have := HN.out; simp; omega
        go_wp2_with fail
        refine (PmPut0 HP.out Ai ni ci xs HX.out (by omega) (by intro hp b hb; have := hxl hp b hb; omega) hf).mono ?_
        rintro e w2 ⟨rfl, K2, P2⟩
        have HP2 := Lib.hid P2
        have HI2 := Lib.hid (HI.out.keep (kp2 (u := u) K2) (fun t ht => .inl ht))
        have HC2 := HI2.out.kp.cell hc0 (by simp)
        have HX2 := Lib.hid (HX.out.keep (kp2 (u := u) K2) (by intro hp b hb hs; have := hxl hp b hb; simp at hs; omega))
        clear K2 P2 HC0
        go_wp2_with (with_reducible refine stopAt (o := ⟨some 80, _, _, _, _, _⟩) ?_)
        refine Stop.go (wp_appB rfl _ _ 22 5 rfl Try.underlying22 Try.info5 w0.heap.size A1 n1 c1 li rfl HI2.out.o1 Ai ni ci xs rfl HX2.out (by omega) HI2.out.kp.size ?_)
        intro A3 n3 c3 li3 w3 hn3 hl3 O3 K3 hA3
        have HI3 := Lib.hid (HI2.out.app1 O3 K3 hA3)
        have HP3 := Lib.hid (HP2.out.keep K3 (fun hb => (HI2.out.d1 _ hb).1 (by simp)) (fun hb => (HI2.out.d1 _ hb).1 (by simp)) (fun hb => (HI2.out.d1 _ hb).1 (by simp)) (by simp))
        have hn3' : n3 ≤ 255 * (k + 1) := by have := hn3.out; omega
        have hli3 : Hid (li3 = lo ++ (l ++ xs)) := by show _ = _; rw [hl3.out, HLL.out, List.append_assoc]
        clear O3 K3 hA3 hl3 HC2 HX2 HI2 HP2 hn3 hfd
        obtain ⟨l1, hl1⟩ : ∃ l1, l ++ xs = l1 := ⟨_, rfl⟩
        rw [hl1] at HP3 hli3
        clear hl1
        by_cases hkt : k < mt
        · obtain ⟨bt, offt, rfl, hbt, hct⟩ := HT.out.addr (by omega)
          have HCT := HI3.out.kp.cell (hct k hkt) (by simp)
          have hkti : (k : Int) < (mt : Int) := by omega
          have htv := (tk.getD k 0).toNat_lt
          generalize (tk.getD k 0).toNat = tv at HCT htv
          have htv' : tv < 256 := htv
          clear hct htv
          go_wp2_with fail
          refine (PmNext00 HP3.out tv).mono ?_
          rintro e w4 ⟨At, kt, ct4, rfl, O4, K4⟩
          have hkt5 : kt = mostN tv l1.length := by have h1 := O4.len; have := mostN_le tv l1.length; simp at h1; omega
          have hktl : kt ≤ l1.length := by have := mostN_le tv l1.length; omega
          have HKT := Lib.hid hkt5
          have HI4 := Lib.hid (HI3.out.keep K4 (by simp))
          have HP4 := Lib.hid (HP3.out.keep K4 (by simp) (by simp) (by simp) (by simp))
          have HO4 := Lib.hid O4
          have hbO : Hid (∀ b, b ∈ ob At → b ∉ [u, g, gb]) := fun b hb hm => by have h1 := (O4.base b hb).1; have h2 := HP3.out.lt; simp at hm; omega
          clear O4 K4 hkt5
          go_wp2_with fail
          refine (PmDoneC0 HP4.out kt hktl).mono ?_
          rintro e w5 ⟨rfl, K5, P5⟩
          have HI5 := Lib.hid (HI4.out.keep (kp2 (u := u) K5) (fun t ht => .inl ht))
          have HP5 := Lib.hid P5
          have HO5 := Lib.hid (HO4.out.keep (kp2 (u := u) K5) hbO.out)
          have hn3l : n3 ≤ 268435456 := by omega
          have hn2l : n2 ≤ n3 := by rw [← HI3.out.len1, ← HI3.out.len2, hli3.out, List.length_append]; omega
          have hkt6 : kt ≤ 65536 := by have := HP4.out.ring; obtain ⟨p, r⟩ := this; have h1 := r.le; have h2 := r.cap; have h3 : l1.length ≤ C := h1; omega
          clear K5 P5 HI4 HP4 HO4
          go_wp2_with (with_reducible refine stopAt (o := ⟨some 105, _, _, _, _, _⟩) ?_)
          refine Stop.go (wp_appB rfl _ _ 22 5 rfl Try.underlying22 Try.info5 w0.heap.size A2 n2 c2 lo rfl HI5.out.o2 At kt ct4 (l1.take (mostN tv l1.length)) rfl HO5.out.rd (by omega) HI5.out.kp.size ?_)
          intro A5 n5 c5 lo5 w6 hn5 hl5 O6 K6 hA5
          have HI6 := Lib.hid (HI5.out.app2 O6 K6 hA5)
          have HP6 := Lib.hid (HP5.out.keep K6 (fun hb => HI5.out.d2 _ hb (by simp)) (fun hb => HI5.out.d2 _ hb (by simp)) (fun hb => HI5.out.d2 _ hb (by simp)) (by simp))
          have hli5 : Hid (li3 = lo5 ++ l1.drop kt) := by
            show _ = _
            rw [hli3.out, hl5.out, HKT.out, List.append_assoc, List.take_append_drop]
          clear O6 K6 hA5 hl5 HI5 HP5 HO5 hn5 HCT
          go_wp2
          go_roundw
          case rel => exact ⟨k + 1, _, _, _, _, _, _, _, _, _, by omega, by go_num, rfl, rfl, HP6.out, HI6.out, hli5.out, by omega⟩
          case measure => simp [intOf]; omega
        · have hkti : ¬ k < mt := hkt
          go_wp2
          go_roundw
          case rel => exact ⟨k + 1, _, _, _, _, _, _, _, _, _, by omega, by go_num, rfl, rfl, HP3.out, HI3.out, hli3.out, by omega⟩
          case measure => simp [intOf]; omega
      · have hfd : decide ((ni : Int) ≤ (C : Int) - ((n1 : Int) - (n2 : Int))) = false := by have := HN.out; simp; omega
        go_wp2_with fail
        refine (PmPutF HP.out Ai ni ci (by omega)).mono ?_
        rintro e w2 ⟨rfl, rfl⟩
        obtain ⟨li3, hli0⟩ : ∃ li3, li = li3 := ⟨_, rfl⟩
        obtain ⟨n3, hn0⟩ : ∃ n3, n1 = n3 := ⟨_, rfl⟩
        subst hli0
        subst hn0
        have hli3 := HLL
        have hn3' : n1 ≤ 255 * (k + 1) := by omega
        clear hfd
        by_cases hkt : k < mt
        · obtain ⟨bt, offt, rfl, hbt, hct⟩ := HT.out.addr (by omega)
          have HCT := HI.out.kp.cell (hct k hkt) (by simp)
          have hkti : (k : Int) < (mt : Int) := by omega
          have htv := (tk.getD k 0).toNat_lt
          generalize (tk.getD k 0).toNat = tv at HCT htv
          have htv' : tv < 256 := htv
          clear hct htv
          go_wp2_with fail
          refine (PmNext00 HP.out tv).mono ?_
          rintro e w4 ⟨At, kt, ct4, rfl, O4, K4⟩
          have hkt5 : kt = mostN tv l.length := by have h1 := O4.len; have := mostN_le tv l.length; simp at h1; omega
          have hktl : kt ≤ l.length := by have := mostN_le tv l.length; omega
          have HKT := Lib.hid hkt5
          have HI4 := Lib.hid (HI.out.keep K4 (by simp))
          have HP4 := Lib.hid (HP.out.keep K4 (by simp) (by simp) (by simp) (by simp))
          have HO4 := Lib.hid O4
          have hbO : Hid (∀ b, b ∈ ob At → b ∉ [u, g, gb]) := fun b hb hm => by have h1 := (O4.base b hb).1; have h2 := HP.out.lt; simp at hm; omega
          clear O4 K4 hkt5
          go_wp2_with fail
          refine (PmDoneC0 HP4.out kt hktl).mono ?_
          rintro e w5 ⟨rfl, K5, P5⟩
          have HI5 := Lib.hid (HI4.out.keep (kp2 (u := u) K5) (fun t ht => .inl ht))
          have HP5 := Lib.hid P5
          have HO5 := Lib.hid (HO4.out.keep (kp2 (u := u) K5) hbO.out)
          have hn3l : n1 ≤ 268435456 := by omega
          have hn2l : n2 ≤ n1 := by rw [← HI.out.len1, ← HI.out.len2, hli3.out, List.length_append]; omega
          have hkt6 : kt ≤ 65536 := by have := HP4.out.ring; obtain ⟨p, r⟩ := this; have h1 := r.le; have h2 := r.cap; have h3 : l.length ≤ C := h1; omega
          clear K5 P5 HI4 HP4 HO4
          go_wp2_with (with_reducible refine stopAt (o := ⟨some 105, _, _, _, _, _⟩) ?_)
          refine Stop.go (wp_appB rfl _ _ 22 5 rfl Try.underlying22 Try.info5 w0.heap.size A2 n2 c2 lo rfl HI5.out.o2 At kt ct4 (l.take (mostN tv l.length)) rfl HO5.out.rd (by omega) HI5.out.kp.size ?_)
          intro A5 n5 c5 lo5 w6 hn5 hl5 O6 K6 hA5
          have HI6 := Lib.hid (HI5.out.app2 O6 K6 hA5)
          have HP6 := Lib.hid (HP5.out.keep K6 (fun hb => HI5.out.d2 _ hb (by simp)) (fun hb => HI5.out.d2 _ hb (by simp)) (fun hb => HI5.out.d2 _ hb (by simp)) (by simp))
          have hli5 : Hid (li = lo5 ++ l.drop kt) := by
            show _ = _
            rw [hli3.out, hl5.out, HKT.out, List.append_assoc, List.take_append_drop]
          clear O6 K6 hA5 hl5 HI5 HP5 HO5 hn5 HCT
          go_wp2
          go_roundw
          case rel => exact ⟨k + 1, _, _, _, _, _, _, _, _, _, by omega, by go_num, rfl, rfl, HP6.out, HI6.out, hli5.out, by omega⟩
          case measure => simp [intOf]; omega
        · have hkti : ¬ k < mt := hkt
          go_wp2
          go_roundw
          case rel => exact ⟨k + 1, _, _, _, _, _, _, _, _, _, by omega, by go_num, rfl, rfl, HP.out, HI.out, hli3.out, by omega⟩
          case measure => simp [intOf]; omega
    · have hn1l : n1 ≤ 268435456 := by omega
      cases tr
      · go_wp2_with fail
        refine (PmEnd0 HP.out).mono ?_
        rintro e w2 ⟨rfl, K2, P2⟩
        have HI2 := Lib.hid (HI.out.keep (kp1 K2) (fun t ht => .inl ht))
        have HP2 := Lib.hid P2
        clear K2 P2
        go_wp2_with fail
        refine (PmLastN HP2.out).mono ?_
        rintro e w3 ⟨rfl, rfl⟩
        go_wp2_with fail
        refine (PmNext10 HP2.out 1000).mono ?_
        rintro e w4 ⟨At, kt, ct4, rfl, O4, K4⟩
        have hm0 : mostN 1000 l.length = l.length := by first | rfl | (unfold mostN; omega)
        rw [hm0] at O4 ⊢
        rw [List.take_of_length_le (Nat.le_refl _)] at O4
        have hkt4 : kt = l.length := by have h1 := O4.len; rw [List.length_map, Nat.mul_one] at h1; exact h1.symm
        subst hkt4
        have HI4 := Lib.hid (HI2.out.keep K4 (by simp))
        have HP4 := Lib.hid (HP2.out.keep K4 (by simp) (by simp) (by simp) (by simp))
        have HO4 := Lib.hid O4
        have hbO : Hid (∀ b, b ∈ ob At → b ∉ [u, g, gb]) := fun b hb hm => by have h1 := (O4.base b hb).1; have h2 := HP2.out.lt; simp at hm; omega
        clear O4 K4 hm0
        rw [decide_eq_true (rfl : l.length = l.length)]
        go_wp2_with fail
        refine (PmDoneC1 HP4.out l.length (Nat.le_refl _)).mono ?_
        rintro e w5 ⟨rfl, K5, P5⟩
        rw [List.drop_eq_nil_of_le (Nat.le_refl _)] at P5
        have HI5 := Lib.hid (HI4.out.keep (kp2 (u := u) K5) (fun t ht => .inl ht))
        have HP5 := Lib.hid P5
        have HO5 := Lib.hid (HO4.out.keep (kp2 (u := u) K5) hbO.out)
        clear K5 P5 HI4 HP4 HO4
        go_wp2_with (with_reducible refine stopAt (o := ⟨some 149, _, _, _, _, _⟩) ?_)
        refine Stop.go (wpList_strG rfl rfl rfl (by rfl) 22 5 9 _ rfl Try.underlying22 Try.underlying5 Try.underlying9 rfl HI5.out.o1.rd ?_)
        go_wp2_with (with_reducible refine stopAt (o := ⟨some 151, _, _, _, _, _⟩) ?_)
        refine Stop.go (wpList_strG rfl rfl rfl (by rfl) 22 5 9 _ rfl Try.underlying22 Try.underlying5 Try.underlying9 rfl HI5.out.o2.rd ?_)
        go_wp2_with (with_reducible refine stopAt (o := ⟨some 153, _, _, _, _, _⟩) ?_)
        refine Stop.go (wpList_strG rfl rfl rfl (by rfl) 22 5 9 _ rfl Try.underlying22 Try.underlying5 Try.underlying9 rfl HO5.out.rd ?_)
        have hcat : sb lo ++ sb l = sb li := by rw [HLL.out, sb_append]
        have hsz1 : (sb lo).size ≤ 268435456 := by rw [sb_size, HI5.out.len2]; omega
        have hsz2 : (sb l ).size ≤ 65536 := by rw [sb_size]; omega
        go_wp2_with fail
        refine (PmLastN HP5.out).mono ?_
        rintro e w6 ⟨rfl, rfl⟩
        have HI6 := HI5
        have HP6 := HP5
        go_wp2_with fail
        refine (PmLastN HP6.out).mono ?_
        rintro e w7 ⟨rfl, rfl⟩
        have HI8 := HI6
        have HP8 := HP6
        go_wp2_with fail
        refine (PmPut1 (HP8.out.keep ((Kp.refl [] _).alloc (.cells #[.int .u8 1] 5)) (by simp) (by simp) (by simp) (by simp)) _ _ _).mono ?_
        rintro e w9 ⟨rfl, rfl⟩
        go_wp2_with fail
        refine (PmLen (HP8.out.keep ((Kp.refl [] _).alloc (.cells #[.int .u8 1] 5)) (by simp) (by simp) (by simp) (by simp))).mono ?_
        rintro e w9 ⟨rfl, rfl⟩
        rw [show ([] : List UInt8).length = 0 from rfl]
        go_wp2
        go_ret
        exact ⟨rfl, HI8.out.kp.alloc _⟩
      · go_wp2_with fail
        refine (PmTail0 HP.out T m2 d2 hs (HH.out.keep HI.out.kp (by simp)) hm2 (by intro hp b hb; have := HH.out.lt hp b hb; omega)).mono ?_
        rintro e w1' ⟨rfl, K1, P1⟩
        have HI1' := Lib.hid (HI.out.keep (kp1 K1) (fun t ht => .inl ht))
        have HP1' := Lib.hid P1
        clear K1 P1
        by_cases hl0 : l = []
        · subst hl0
          have hnn : ((n1 : Int) == (n2 : Int)) = true := by have := HN.out; simp at this ⊢; omega
          go_wp2_with fail
          refine (PmLast0 HP1'.out).mono ?_
          rintro e w2 ⟨AL, nL, cL, rfl, H2, hnL, hbL, K2, P2⟩
          have HI2 := Lib.hid (HI1'.out.keep (kp1 K2) (fun t ht => .inl ht))
          have HP2 := Lib.hid P2
          clear K2 P2 H2 hbL
          go_wp2_with fail
          refine (PmNext10 HP2.out 1000).mono ?_
          rintro e w4 ⟨At, kt, ct4, rfl, O4, K4⟩
          have hm0 : mostN 1000 ([] : List UInt8).length = ([] : List UInt8).length := by first | rfl | (unfold mostN; omega)
          rw [hm0] at O4 ⊢
          rw [List.take_of_length_le (Nat.le_refl _)] at O4
          have hkt4 : kt = ([] : List UInt8).length := by have h1 := O4.len; rw [List.length_map, Nat.mul_one] at h1; exact h1.symm
          subst hkt4
          have HI4 := Lib.hid (HI2.out.keep K4 (by simp))
          have HP4 := Lib.hid (HP2.out.keep K4 (by simp) (by simp) (by simp) (by simp))
          have HO4 := Lib.hid O4
          have hbO : Hid (∀ b, b ∈ ob At → b ∉ [u, g, gb]) := fun b hb hm => by have h1 := (O4.base b hb).1; have h2 := HP2.out.lt; simp at hm; omega
          clear O4 K4 hm0
          rw [decide_eq_true (rfl : ([] : List UInt8).length = ([] : List UInt8).length)]
          go_wp2_with fail
          refine (PmDoneC1 HP4.out ([] : List UInt8).length (Nat.le_refl _)).mono ?_
          rintro e w5 ⟨rfl, K5, P5⟩
          rw [List.drop_eq_nil_of_le (Nat.le_refl _)] at P5
          have HI5 := Lib.hid (HI4.out.keep (kp2 (u := u) K5) (fun t ht => .inl ht))
          have HP5 := Lib.hid P5
          have HO5 := Lib.hid (HO4.out.keep (kp2 (u := u) K5) hbO.out)
          clear K5 P5 HI4 HP4 HO4
          go_wp2_with (with_reducible refine stopAt (o := ⟨some 149, _, _, _, _, _⟩) ?_)
          refine Stop.go (wpList_strG rfl rfl rfl (by rfl) 22 5 9 _ rfl Try.underlying22 Try.underlying5 Try.underlying9 rfl HI5.out.o1.rd ?_)
          go_wp2_with (with_reducible refine stopAt (o := ⟨some 151, _, _, _, _, _⟩) ?_)
          refine Stop.go (wpList_strG rfl rfl rfl (by rfl) 22 5 9 _ rfl Try.underlying22 Try.underlying5 Try.underlying9 rfl HI5.out.o2.rd ?_)
          go_wp2_with (with_reducible refine stopAt (o := ⟨some 153, _, _, _, _, _⟩) ?_)
          refine Stop.go (wpList_strG rfl rfl rfl (by rfl) 22 5 9 _ rfl Try.underlying22 Try.underlying5 Try.underlying9 rfl HO5.out.rd ?_)
          have hcat : sb lo ++ sb ([] : List UInt8) = sb li := by rw [HLL.out, sb_append]
          have hsz1 : (sb lo).size ≤ 268435456 := by rw [sb_size, HI5.out.len2]; omega
          have hsz2 : (sb ([] : List UInt8) ).size ≤ 65536 := by rw [sb_size]; omega
          go_wp2_with fail
          refine (PmLastN HP5.out).mono ?_
          rintro e w6 ⟨rfl, rfl⟩
          have HI6 := HI5
          have HP6 := HP5
          go_wp2_with fail
          refine (PmLastN HP6.out).mono ?_
          rintro e w7 ⟨rfl, rfl⟩
          have HI8 := HI6
          have HP8 := HP6
          go_wp2_with fail
          refine (PmPut1 (HP8.out.keep ((Kp.refl [] _).alloc (.cells #[.int .u8 1] 5)) (by simp) (by simp) (by simp) (by simp)) _ _ _).mono ?_
          rintro e w9 ⟨rfl, rfl⟩
          go_wp2_with fail
          refine (PmLen (HP8.out.keep ((Kp.refl [] _).alloc (.cells #[.int .u8 1] 5)) (by simp) (by simp) (by simp) (by simp))).mono ?_
          rintro e w9 ⟨rfl, rfl⟩
          rw [show ([] : List UInt8).length = 0 from rfl]
          go_wp2
          go_ret
          exact ⟨rfl, HI8.out.kp.alloc _⟩
        · have hlp : 0 < l.length := List.length_pos_iff.2 hl0
          have hnn : ((n1 : Int) == (n2 : Int)) = false := by have := HN.out; simp; omega
          go_wp2_with fail
          refine (PmLastL HP1'.out hlp).mono ?_
          rintro e w2 ⟨rfl, rfl⟩
          have HI2 := HI1'
          have HP2 := HP1'
          clear hlp
          go_wp2_with fail
          refine (PmNext11 HP2.out 1000).mono ?_
          rintro e w4 ⟨At, kt, ct4, rfl, O4, K4⟩
          have hm0 : mostN 1000 l.length = l.length := by first | rfl | (unfold mostN; omega)
          rw [hm0] at O4
          rw [List.take_of_length_le (Nat.le_refl _)] at O4
          have hkt4 : kt = l.length := by have h1 := O4.len; rw [List.length_map, Nat.mul_one] at h1; exact h1.symm
          subst hkt4
          have HI4 := Lib.hid (HI2.out.keep K4 (by simp))
          have HP4 := Lib.hid (HP2.out.keep K4 (by simp) (by simp) (by simp) (by simp))
          have HO4 := Lib.hid O4
          have hbO : Hid (∀ b, b ∈ ob At → b ∉ [u, g, gb]) := fun b hb hm => by have h1 := (O4.base b hb).1; have h2 := HP2.out.lt; simp at hm; omega
          clear O4 K4 hm0
          go_wp2_with fail
          refine (PmDoneC1 HP4.out l.length (Nat.le_refl _)).mono ?_
          rintro e w5 ⟨rfl, K5, P5⟩
          rw [List.drop_eq_nil_of_le (Nat.le_refl _)] at P5
          have HI5 := Lib.hid (HI4.out.keep (kp2 (u := u) K5) (fun t ht => .inl ht))
          have HP5 := Lib.hid P5
          have HO5 := Lib.hid (HO4.out.keep (kp2 (u := u) K5) hbO.out)
          clear K5 P5 HI4 HP4 HO4
          go_wp2_with (with_reducible refine stopAt (o := ⟨some 149, _, _, _, _, _⟩) ?_)
          refine Stop.go (wpList_strG rfl rfl rfl (by rfl) 22 5 9 _ rfl Try.underlying22 Try.underlying5 Try.underlying9 rfl HI5.out.o1.rd ?_)
          go_wp2_with (with_reducible refine stopAt (o := ⟨some 151, _, _, _, _, _⟩) ?_)
          refine Stop.go (wpList_strG rfl rfl rfl (by rfl) 22 5 9 _ rfl Try.underlying22 Try.underlying5 Try.underlying9 rfl HI5.out.o2.rd ?_)
          go_wp2_with (with_reducible refine stopAt (o := ⟨some 153, _, _, _, _, _⟩) ?_)
          refine Stop.go (wpList_strG rfl rfl rfl (by rfl) 22 5 9 _ rfl Try.underlying22 Try.underlying5 Try.underlying9 rfl HO5.out.rd ?_)
          have hcat : sb lo ++ sb l = sb li := by rw [HLL.out, sb_append]
          have hsz1 : (sb lo).size ≤ 268435456 := by rw [sb_size, HI5.out.len2]; omega
          have hsz2 : (sb l ).size ≤ 65536 := by rw [sb_size]; omega
          go_wp2_with fail
          refine (PmLast0 HP5.out).mono ?_
          rintro e w6 ⟨AL, nL, cL, rfl, H6, hnL, hbL, K6, P6⟩
          have HI6 := Lib.hid (HI5.out.keep (kp1 K6) (fun t ht => .inl ht))
          have HP6 := Lib.hid P6
          have HH6 := Lib.hid H6
          obtain rfl : nL = m2 := by rw [← H6.len, ← HH.out.len]
          clear K6 P6 H6 hbL
          go_wp2_with fail
          refine (PmLastN HP6.out).mono ?_
          rintro e w7 ⟨rfl, rfl⟩
          go_wp2_with fail
          refine (headers_any HH6.out (HH.out.keep HI6.out.kp (by simp)) (by omega)).mono ?_
          rintro e w8 ⟨rfl, K8⟩
          have HI8 := Lib.hid (HI6.out.keep K8 (by simp))
          have HP8 := Lib.hid (HP6.out.keep K8 (by simp) (by simp) (by simp) (by simp))
          clear K8
          go_wp2_with fail
          refine (PmPut1 (HP8.out.keep ((Kp.refl [] _).alloc (.cells #[.int .u8 1] 5)) (by simp) (by simp) (by simp) (by simp)) _ _ _).mono ?_
          rintro e w9 ⟨rfl, rfl⟩
          go_wp2_with fail
          refine (PmLen (HP8.out.keep ((Kp.refl [] _).alloc (.cells #[.int .u8 1] 5)) (by simp) (by simp) (by simp) (by simp))).mono ?_
          rintro e w9 ⟨rfl, rfl⟩
          rw [show ([] : List UInt8).length = 0 from rfl]
          go_wp2
          go_ret
          exact ⟨rfl, HI8.out.kp.alloc _⟩
end Go.Proofs.Ytkmcakneceagpaa
