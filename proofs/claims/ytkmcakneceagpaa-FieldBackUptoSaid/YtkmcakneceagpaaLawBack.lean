/- The law FieldBack, walked: what is put is read back, between any bytes. -/
import Derived.Test.YtkmcakneceagpaaLawField
set_option linter.unusedVariables false
namespace Go.Proofs.Ytkmcakneceagpaa
open Go.RowKit
theorem num_mid (k : Nat) (a b c : List UInt8) (hb : b.length = k) : num k (a ++ b ++ c) (a.length : Int) = (be b, (a.length : Int) + k, 0) := by
  rw [num_ok (by simp; omega), List.append_assoc, List.drop_left' rfl, List.take_left' hb]
set_option maxHeartbeats 200000 in
set_option maxRecDepth 100000 in
theorem FieldBack_walk (A1 : Option Addr) (n1 c1 : Nat) (l1 : List UInt8) (A2 : Option Addr) (n2 c2 : Nat) (l2 : List UInt8) (m : Nat) (w0 : World) (h1 : Rd w0 A1 n1 c1 l1) (h2 : Rd w0 A2 n2 c2 l2) (hm : m < 4294967296) (hn : n1 + n2 ≤ 1048576) :
    Calls Try.prog 8 #[.slice A1 n1 c1, .slice A2 n2 c2, .int .u32 m] w0 (Yes w0) := by
  have HL1 := Lib.hid h1.len
  have HL2 := Lib.hid h2.len
  have HB1 : Hid (be (bytesOf m 4) = m) := by show _ = _; rw [be_bytesOf, pow4, Nat.mod_eq_of_lt hm]
  have HB2 : Hid (be (bytesOf (m % 16777216) 3) = m % 16777216) := by show _ = _; rw [be_bytesOf, pow3, Nat.mod_mod]
  have HH1 := Lib.hid h1
  have HH2 := Lib.hid h2
  clear h1 h2
  go_enter Try.func8, Try.ntmps8
  go_wp2_with (with_reducible refine stopAt (o := ⟨some 15, _, _, _, _, _⟩) ?_)
  have k0 : Kp [] w0 (w0.alloc (.cells #[] 5)) := (Kp.refl _ _).alloc _
  refine Stop.go (wp_appB rfl _ _ 22 5 rfl Try.underlying22 Try.info5 w0.heap.size _ 0 0 [] rfl (Ow.empty w0 w0.heap.size 5 1 (Nat.le_refl _)) A1 n1 c1 l1 rfl (HH1.out.keep k0 (by simp)) (by omega) (by simp) ?_)
  intro A3 k3 c3 l3 w3 e3k e3 O3 K3 _
  have q3 : Kp [] w0 w3 := k0.then K3 (by simp [ob])
  obtain rfl : k3 = n1 := by have := e3k.out; omega
  clear e3k K3 k0
  go_wp2_with fail
  refine (Put32_any m _ hm).mono ?_
  rintro e w4 ⟨A4, n4, rfl, r4, f4, k4⟩
  obtain rfl : n4 = 4 := by rw [← r4.len, bytesOf_length]
  have O4 := O3.keep k4 (by simp)
  have q4 := q3.trans k4
  clear O3 q3 k4 f4
  go_wp2_with (with_reducible refine stopAt (o := ⟨some 18, _, _, _, _, _⟩) ?_)
  refine Stop.go (wp_appB rfl _ _ 22 5 rfl Try.underlying22 Try.info5 w0.heap.size _ _ _ _ rfl O4 _ _ _ _ rfl r4 (by omega) q4.size ?_)
  intro A5 k5 c5 l5 w5 e5k e5 O5 K5 _
  have q5 : Kp [] w0 w5 := q4.then K5 (fun t ht => .inr (O4.base t ht).1)
  obtain rfl : k5 = k3 + 4 := e5k.out
  clear e5k K5 O4 q4 r4
  go_wp2_with (with_reducible refine stopAt (o := ⟨some 20, _, _, _, _, _⟩) ?_)
  refine Stop.go (wp_appB rfl _ _ 22 5 rfl Try.underlying22 Try.info5 w0.heap.size _ _ _ _ rfl O5 A2 n2 c2 l2 rfl (HH2.out.keep q5 (by simp)) (by omega) q5.size ?_)
  intro A6 k6 c6 l6 w6 e6k e6 O6 K6 _
  have q6 : Kp [] w0 w6 := q5.then K6 (fun t ht => .inr (O5.base t ht).1)
  obtain rfl : k6 = k3 + 4 + n2 := e6k.out
  clear e6k K6 O5 q5
  have HN : Hid (num 4 l6 (k3 : Int) = (m, (k3 : Int) + 4, 0)) := by
    show _ = _
    rw [e6.out, e5.out, e3.out, List.nil_append, ← HL1.out, num_mid 4 l1 _ l2 (bytesOf_length _ _), HB1.out]
    rfl
  clear e3 e5 e6
  go_wp2_with fail
  refine (U32_any _ _ _ _ _ _ (by omega) O6.rd).mono ?_
  rintro e w7 ⟨rfl, k7⟩
  rw [HN.out]
  have q7 := q6.trans k7
  clear q6 k7 O6 HN
  go_wp2_with fail
  have hm2 : ((m : Int) % 16777216) = ((m % 16777216 : Nat) : Int) := by omega
  rw [hm2]
  refine (Put24_any _ _ (by omega)).mono ?_
  rintro e w8 ⟨A8, n8, rfl, r8, f8, k8⟩
  rw [putR_yes (by omega)] at r8 ⊢
  obtain rfl : n8 = 3 := by rw [← r8.len, bytesOf_length]
  have q8 := q7.trans k8
  have HR8 := Lib.hid r8
  have HM2 := Lib.hid hm2
  clear q7 k8 f8 r8 hm2
  go_wp2_with (with_reducible refine stopAt (o := ⟨some 55, _, _, _, _, _⟩) ?_)
  have k0 : Kp [] w0 (w8.alloc (.cells #[] 5)) := q8.alloc _
  refine Stop.go (wp_appB rfl _ _ 22 5 rfl Try.underlying22 Try.info5 w0.heap.size _ 0 0 [] rfl (Ow.empty w8 w0.heap.size 5 1 q8.size) A1 k3 c1 l1 rfl (HH1.out.keep k0 (by simp)) (by omega) k0.size ?_)
  intro B3 j3 d3 m3 v3 e3k e3 O3 K3 _
  have q3 : Kp [] w0 v3 := k0.then K3 (by intro t ht; simp [ob] at ht; exact .inr (ht ▸ q8.size))
  have R8 : Rd v3 A8 3 3 (bytesOf (m % 16777216) 3) := (HR8.out.keep ((Kp.refl [] w8).alloc _) (by simp)).keep K3 (fun h b hb => by
    obtain ⟨b', off', rfl, hlt, _⟩ := HR8.out.addr h
    simp [ob] at hb ⊢
    omega)
  obtain rfl : j3 = k3 := by have := e3k.out; omega
  clear e3k K3 k0 HR8 q8
  go_wp2_with (with_reducible refine stopAt (o := ⟨some 57, _, _, _, _, _⟩) ?_)
  refine Stop.go (wp_appB rfl _ _ 22 5 rfl Try.underlying22 Try.info5 w0.heap.size _ _ _ _ rfl O3 _ _ _ _ rfl R8 (by omega) q3.size ?_)
  intro B5 j5 d5 m5 v5 e5k e5 O5 K5 _
  have q5 : Kp [] w0 v5 := q3.then K5 (fun t ht => .inr (O3.base t ht).1)
  obtain rfl : j5 = j3 + 3 := e5k.out
  clear e5k K5 O3 q3 R8
  go_wp2_with (with_reducible refine stopAt (o := ⟨some 59, _, _, _, _, _⟩) ?_)
  refine Stop.go (wp_appB rfl _ _ 22 5 rfl Try.underlying22 Try.info5 w0.heap.size _ _ _ _ rfl O5 A2 n2 c2 l2 rfl (HH2.out.keep q5 (by simp)) (by omega) q5.size ?_)
  intro B6 j6 d6 m6 v6 e6k e6 O6 K6 _
  have q6 : Kp [] w0 v6 := q5.then K6 (fun t ht => .inr (O5.base t ht).1)
  obtain rfl : j6 = j3 + 3 + n2 := e6k.out
  clear e6k K6 O5 q5
  have HN : Hid (num 3 m6 (j3 : Int) = (m % 16777216, (j3 : Int) + 3, 0)) := by
    show _ = _
    rw [e6.out, e5.out, e3.out, List.nil_append, ← HL1.out, num_mid 3 l1 _ l2 (bytesOf_length _ _), HB2.out]
    rfl
  clear e3 e5 e6
  go_wp2_with fail
  refine (U24_any _ _ _ _ _ _ (by omega) O6.rd).mono ?_
  rintro e v7 ⟨rfl, k7⟩
  rw [HN.out]
  have q7 := q6.trans k7
  clear q6 k7 O6 HN
  go_wp2
  all_goals go_ret
  all_goals exact ⟨rfl, q7⟩
end Go.Proofs.Ytkmcakneceagpaa
