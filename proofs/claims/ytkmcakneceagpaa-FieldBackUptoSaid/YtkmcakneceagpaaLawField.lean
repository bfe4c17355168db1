/- The laws of layer 2, walked. -/
import Derived.Test.YtkmcakneceagpaaFieldRef
import Derived.Test.YtkmcakneceagpaaReg
set_option linter.unusedVariables false
namespace Go.Proofs.Ytkmcakneceagpaa
open Go.RowKit
set_option maxHeartbeats 400000 in
theorem awake02 (w : World) : Calls Try.prog 38 #[] w (Yes w) := by
  go_enter Try.func38, Try.ntmps38
  go_wp2_with fail
  refine (Put16_any 258 w (by omega)).mono ?_
  rintro e w' ⟨A, n', rfl, hr, hf, hk⟩
  rw [show (putR 258 2 65536) = ([1, 2], 0) from rfl] at hr ⊢
  obtain rfl : n' = 2 := hr.len.symm
  obtain ⟨b, off, rfl, hb, hc⟩ := hr.addr (by omega)
  have h0 : w'.cell? ⟨b, off, none⟩ = some (.int .u8 1) := hc 0 (by omega)
  have h1 : w'.cell? ⟨b, off + 1, none⟩ = some (.int .u8 2) := hc 1 (by omega)
  clear hc hr hf
  go_wp2
  go_ret
  exact ⟨rfl, hk⟩

set_option maxHeartbeats 1000000 in
set_option maxRecDepth 100000 in
theorem FieldFulls_walk (A : Option Addr) (n c : Nat) (i : Int) (l : List UInt8) (m : Nat) (w0 : World) (hn : n ≤ 140737488355328) (hr : Rd w0 A n c l) (hm : m < 4294967296) :
    Calls Try.prog 3 #[.slice A n c, .int .i64 i, .int .u32 m] w0 (Yes w0) := by
  go_enter Try.func3, Try.ntmps3
  go_wp2_with fail
  refine (U32_any _ _ _ _ _ _ hn hr).mono ?_
  rintro e w1 ⟨rfl, hk1⟩
  have hr1 := hr.keep hk1 (by simp)
  go_wp2_with fail
  refine (refU32_any _ _ _ _ _ _ hn hr1).mono ?_
  rintro e w2 ⟨rfl, hk2⟩
  have hk0 := hk1.trans hk2
  clear hr hr1 hk1 hk2
  generalize (num 4 l i).1 = x1
  generalize (num 4 l i).2.1 = x2
  generalize (num 4 l i).2.2 = x3
  go_wp2_with fail
  refine wp_region_end (by kernel_rfl) [fun v _ => v = (.int .u32 x1),
      fun v _ => v = (.int .u32 x1),
      fun v _ => v = (.bool true),
      fun v _ => v = (.bool true),
      fun v _ => v = (.int .i64 x2),
      fun v _ => v = (.int .i64 x2),
      fun v _ => v = (.bool true),
      fun v _ => v = (.bool true),
      fun v _ => v = (.bool true),
      fun v _ => v = (.int .i64 x3),
      fun v _ => v = (.int .i64 x3),
      fun v _ => v = (.bool true),
      fun v _ => v = (.bool true),
      fun v _ => v = (.bool true),
      fun v _ => v = (.int .u32 (m : Int)),
      fun v w => ∃ A n, v = .slice A n n ∧ Rd w A n n (bytesOf m 4),
      fun v _ => v = (.string (sb (bytesOf m 4))),
      fun v _ => v = (.int .u32 (m : Int)),
      fun v w => ∃ A n c, v = .slice A n c ∧ Rd w A n c (bytesOf m 4),
      fun v _ => v = (.string (sb (bytesOf m 4))),
      fun v _ => v = (.bool true),
      fun v _ => v = (.bool true),
      fun v _ => v = (.bool true),
      fun v w => v = .bool true,
      fun v _ => v = (.bool true),
      fun v _ => v = (.bool true)] (fun _ w => Kp [] w0 w) (fun w w' => Kp [] w w') [15, 18, 23] (by kernel_rfl) (by kernel_rfl) (by kernel_rfl) (by decide) (by kernel_rfl) ⟨Stab.const _, Stab.const _, Stab.const _, Stab.const _, Stab.const _, Stab.const _, Stab.const _, Stab.const _, Stab.const _, Stab.const _, Stab.const _, Stab.const _, Stab.const _, Stab.const _, Stab.const _, (fun v w w' h hv => by obtain ⟨A, n, e, hr⟩ := hv; exact ⟨A, n, e, hr.keep h (by simp)⟩), Stab.const _, Stab.const _, (fun v w w' h hv => by obtain ⟨A, n, c, e, hr⟩ := hv; exact ⟨A, n, c, e, hr.keep h (by simp)⟩), Stab.const _, Stab.const _, Stab.const _, Stab.const _, Stab.const _, Stab.const _, Stab.const _, trivial⟩ (hk0.drew) ⟨?_, ?_, ?_, ?_, ?_, ?_, ?_, ?_, ?_, ?_, ?_, ?_, ?_, ?_, ?_, ?_, ?_, ?_, ?_, ?_, ?_, ?_, ?_, ?_, ?_, ?_, trivial⟩ (by kernel_rfl) ?_
  · intro a w E hC K hK
    have h7 : a.tmps[7]? = some (.int .u32 x1) := (E.out 7 (by kernel_rfl)).trans rfl
    refine want_none rfl ?_
    go_simp
    exact hK _ rfl
  · intro a w E hC K hK
    have h10 : a.tmps[10]? = some (.int .u32 x1) := (E.out 10 (by kernel_rfl)).trans rfl
    refine want_none rfl ?_
    go_simp
    exact hK _ rfl
  · intro a w E hC K hK
    obtain ⟨_, h27, rfl⟩ := E.pred 0 _ 27 rfl rfl (by kernel_rfl)
    obtain ⟨_, h28, rfl⟩ := E.pred 1 _ 28 rfl rfl (by kernel_rfl)
    refine want_none rfl ?_
    go_simp
    exact hK _ rfl
  · intro a w E hC K hK
    obtain ⟨_, h29, rfl⟩ := E.pred 2 _ 29 rfl rfl (by kernel_rfl)
    refine want_none rfl ?_
    go_simp
    exact hK _ rfl
  · intro a w E hC K hK
    have h8 : a.tmps[8]? = some (.int .i64 x2) := (E.out 8 (by kernel_rfl)).trans rfl
    obtain ⟨_, h30, rfl⟩ := E.pred 3 _ 30 rfl rfl (by kernel_rfl)
    refine want_yes rfl rfl rfl h30 ?_
    go_simp
    exact hK _ rfl
  · intro a w E hC K hK
    have h11 : a.tmps[11]? = some (.int .i64 x2) := (E.out 11 (by kernel_rfl)).trans rfl
    obtain ⟨_, h30, rfl⟩ := E.pred 3 _ 30 rfl rfl (by kernel_rfl)
    refine want_yes rfl rfl rfl h30 ?_
    go_simp
    exact hK _ rfl
  · intro a w E hC K hK
    obtain ⟨_, h31, rfl⟩ := E.pred 4 _ 31 rfl rfl (by kernel_rfl)
    obtain ⟨_, h32, rfl⟩ := E.pred 5 _ 32 rfl rfl (by kernel_rfl)
    obtain ⟨_, h30, rfl⟩ := E.pred 3 _ 30 rfl rfl (by kernel_rfl)
    refine want_yes rfl rfl rfl h30 ?_
    go_simp
    exact hK _ rfl
  · intro a w E hC K hK
    obtain ⟨_, h30, rfl⟩ := E.pred 3 _ 30 rfl rfl (by kernel_rfl)
    obtain ⟨_, h33, rfl⟩ := E.pred 6 _ 33 rfl rfl (by kernel_rfl)
    refine want_none rfl ?_
    go_simp
    exact hK _ rfl
  · intro a w E hC K hK
    obtain ⟨_, h34, rfl⟩ := E.pred 7 _ 34 rfl rfl (by kernel_rfl)
    refine want_none rfl ?_
    go_simp
    exact hK _ rfl
  · intro a w E hC K hK
    have h9 : a.tmps[9]? = some (.int .i64 x3) := (E.out 9 (by kernel_rfl)).trans rfl
    obtain ⟨_, h35, rfl⟩ := E.pred 8 _ 35 rfl rfl (by kernel_rfl)
    refine want_yes rfl rfl rfl h35 ?_
    go_simp
    exact hK _ rfl
  · intro a w E hC K hK
    have h12 : a.tmps[12]? = some (.int .i64 x3) := (E.out 12 (by kernel_rfl)).trans rfl
    obtain ⟨_, h35, rfl⟩ := E.pred 8 _ 35 rfl rfl (by kernel_rfl)
    refine want_yes rfl rfl rfl h35 ?_
    go_simp
    exact hK _ rfl
  · intro a w E hC K hK
    obtain ⟨_, h36, rfl⟩ := E.pred 9 _ 36 rfl rfl (by kernel_rfl)
    obtain ⟨_, h37, rfl⟩ := E.pred 10 _ 37 rfl rfl (by kernel_rfl)
    obtain ⟨_, h35, rfl⟩ := E.pred 8 _ 35 rfl rfl (by kernel_rfl)
    refine want_yes rfl rfl rfl h35 ?_
    go_simp
    exact hK _ rfl
  · intro a w E hC K hK
    obtain ⟨_, h35, rfl⟩ := E.pred 8 _ 35 rfl rfl (by kernel_rfl)
    obtain ⟨_, h38, rfl⟩ := E.pred 11 _ 38 rfl rfl (by kernel_rfl)
    refine want_none rfl ?_
    go_simp
    exact hK _ rfl
  · intro a w E hC K hK
    obtain ⟨_, h39, rfl⟩ := E.pred 12 _ 39 rfl rfl (by kernel_rfl)
    refine want_none rfl ?_
    go_simp
    exact hK _ rfl
  · intro a w E hC K hK
    have h2 : a.tmps[2]? = some (.int .u32 (m : Int)) := (E.out 2 (by kernel_rfl)).trans rfl
    obtain ⟨_, h40, rfl⟩ := E.pred 13 _ 40 rfl rfl (by kernel_rfl)
    refine want_yes rfl rfl rfl h40 ?_
    go_simp
    exact hK _ rfl
  · intro a w E hC K hK
    obtain ⟨_, h41, rfl⟩ := E.pred 14 _ 41 rfl rfl (by kernel_rfl)
    obtain ⟨_, h40, rfl⟩ := E.pred 13 _ 40 rfl rfl (by kernel_rfl)
    refine want_yes rfl rfl rfl h40 ?_
    go_simp
    refine (Put32_any m _ hm).mono ?_
    rintro e w' ⟨A, n, rfl, hr, hf, hk⟩
    go_simp
    exact hK _ _ ⟨A, n, rfl, hr⟩ (hC.trans hk) hk
  · intro a w E hC K hK
    obtain ⟨v15, h42, V15⟩ := E.pred 15 _ 42 rfl rfl (by kernel_rfl)
    replace V15 : (fun v w => ∃ A n, v = .slice A n n ∧ Rd w A n n (bytesOf m 4)) v15 w := V15
    obtain ⟨_, h40, rfl⟩ := E.pred 13 _ 40 rfl rfl (by kernel_rfl)
    refine want_yes rfl rfl rfl h40 ?_
    obtain ⟨A, n, rfl, hr⟩ := V15
    refine wp_str 22 5 9 _ rfl Try.underlying22 Try.underlying5 Try.underlying9 (eval_tmp h42) hr ?_
    exact hK _ rfl
  · intro a w E hC K hK
    have h2 : a.tmps[2]? = some (.int .u32 (m : Int)) := (E.out 2 (by kernel_rfl)).trans rfl
    obtain ⟨_, h40, rfl⟩ := E.pred 13 _ 40 rfl rfl (by kernel_rfl)
    refine want_yes rfl rfl rfl h40 ?_
    go_simp
    exact hK _ rfl
  · intro a w E hC K hK
    obtain ⟨_, h44, rfl⟩ := E.pred 17 _ 44 rfl rfl (by kernel_rfl)
    obtain ⟨_, h40, rfl⟩ := E.pred 13 _ 40 rfl rfl (by kernel_rfl)
    refine want_yes rfl rfl rfl h40 ?_
    go_simp
    refine (refPut32_any m _ hm).mono ?_
    rintro e w' ⟨A, n, c, rfl, hr, hk⟩
    go_simp
    exact hK _ _ ⟨A, n, c, rfl, hr.rd⟩ (hC.trans hk) hk
  · intro a w E hC K hK
    obtain ⟨v18, h45, V18⟩ := E.pred 18 _ 45 rfl rfl (by kernel_rfl)
    replace V18 : (fun v w => ∃ A n c, v = .slice A n c ∧ Rd w A n c (bytesOf m 4)) v18 w := V18
    obtain ⟨_, h40, rfl⟩ := E.pred 13 _ 40 rfl rfl (by kernel_rfl)
    refine want_yes rfl rfl rfl h40 ?_
    obtain ⟨A, n, c, rfl, hr⟩ := V18
    refine wp_str 22 5 9 _ rfl Try.underlying22 Try.underlying5 Try.underlying9 (eval_tmp h45) hr ?_
    exact hK _ rfl
  · intro a w E hC K hK
    obtain ⟨_, h43, rfl⟩ := E.pred 16 _ 43 rfl rfl (by kernel_rfl)
    obtain ⟨_, h46, rfl⟩ := E.pred 19 _ 46 rfl rfl (by kernel_rfl)
    obtain ⟨_, h40, rfl⟩ := E.pred 13 _ 40 rfl rfl (by kernel_rfl)
    refine want_yes rfl rfl rfl h40 ?_
    go_simp
    exact hK _ rfl
  · intro a w E hC K hK
    obtain ⟨_, h40, rfl⟩ := E.pred 13 _ 40 rfl rfl (by kernel_rfl)
    obtain ⟨_, h47, rfl⟩ := E.pred 20 _ 47 rfl rfl (by kernel_rfl)
    refine want_none rfl ?_
    go_simp
    exact hK _ rfl
  · intro a w E hC K hK
    obtain ⟨_, h48, rfl⟩ := E.pred 21 _ 48 rfl rfl (by kernel_rfl)
    refine want_none rfl ?_
    go_simp
    exact hK _ rfl
  · intro a w E hC K hK
    obtain ⟨_, h49, rfl⟩ := E.pred 22 _ 49 rfl rfl (by kernel_rfl)
    refine want_yes rfl rfl rfl h49 ?_
    go_simp
    refine (awake02 _).mono ?_
    rintro e w' ⟨rfl, hk⟩
    go_simp
    exact hK _ _ rfl (hC.trans hk) hk
  · intro a w E hC K hK
    obtain ⟨_, h49, rfl⟩ := E.pred 22 _ 49 rfl rfl (by kernel_rfl)
    obtain ⟨v23, h50, V23⟩ := E.pred 23 _ 50 rfl rfl (by kernel_rfl)
    replace V23 : (fun v w => v = .bool true) v23 w := V23
    obtain rfl := V23
    refine want_none rfl ?_
    go_simp
    exact hK _ rfl
  · intro a w E hC K hK
    obtain ⟨_, h51, rfl⟩ := E.pred 24 _ 51 rfl rfl (by kernel_rfl)
    refine want_none rfl ?_
    go_simp
    exact hK _ rfl
  intro a w' hC E
  obtain ⟨_, h6, rfl⟩ := E.at_ 25 _ 6 rfl rfl
  have hd := E.defers
  clear E
  go_wp2
  refine bodyPost_ret (results_tmp rfl _ _ _) hd ?_
  rw [Array.getD_eq_getD_getElem?, h6]
  exact ⟨rfl, hC⟩

set_option maxHeartbeats 1000000 in
set_option maxRecDepth 100000 in
theorem FieldShorts_walk (A : Option Addr) (n c : Nat) (i m : Int) (l : List UInt8) (w0 : World) (hn : n ≤ 140737488355328) (hr : Rd w0 A n c l) (hm : -9223372036854775808 ≤ m ∧ m ≤ 9223372036854775807) :
    Calls Try.prog 4 #[.slice A n c, .int .i64 i, .int .i64 m] w0 (Yes w0) := by
  go_enter Try.func4, Try.ntmps4
  go_wp2_with fail
  refine (U16_any _ _ _ _ _ _ hn hr).mono ?_
  rintro e w1 ⟨rfl, hk1⟩
  have hr1 := hr.keep hk1 (by simp)
  go_wp2_with fail
  refine (refU16_any _ _ _ _ _ _ hn hr1).mono ?_
  rintro e w2 ⟨rfl, hk2⟩
  have hk0 := hk1.trans hk2
  clear hr hr1 hk1 hk2
  generalize (num 2 l i).1 = x1
  generalize (num 2 l i).2.1 = x2
  generalize (num 2 l i).2.2 = x3
  go_wp2_with fail
  refine (Put16_any m _ hm).mono ?_
  rintro e w3 ⟨A1, n1, rfl, hr1, hf1, hk1⟩
  have HR1 := Lib.hid hr1
  clear hr1 hf1
  go_wp2_with fail
  refine (refPut16_any m _ hm).mono ?_
  rintro e w4 ⟨A2, n2, c2, rfl, hr2, hk2⟩
  have hq1 := HR1.out.keep hk2 (by simp)
  have hq2 := hr2.rd
  have HK := Lib.hid ((hk0.trans hk1).trans hk2)
  clear hr2 hk0 hk1 hk2 HR1
  generalize (putR m 2 65536).1 = l1 at hq1 hq2
  generalize (putR m 2 65536).2 = x4
  have HQ1 := Lib.hid hq1
  have HQ2 := Lib.hid hq2
  clear hq1 hq2
  go_wp2_with (with_reducible refine stopAt (o := ⟨some 53, _, _, _, _, _⟩) ?_)
  refine Stop.go (wpList_str rfl 22 5 9 _ rfl Try.underlying22 Try.underlying5 Try.underlying9 rfl HQ1.out ?_)
  go_wp2_with (with_reducible refine stopAt (o := ⟨some 55, _, _, _, _, _⟩) ?_)
  refine Stop.go (wpList_str rfl 22 5 9 _ rfl Try.underlying22 Try.underlying5 Try.underlying9 rfl HQ2.out ?_)
  go_wp2_with (go_at_call 38; refine (awake02 _).mono ?_; rintro e w5 ⟨rfl, hk5⟩)
  go_ret
  exact ⟨rfl, HK.out.trans hk5⟩

set_option maxHeartbeats 1000000 in
set_option maxRecDepth 100000 in
theorem FieldThrees_walk (A : Option Addr) (n c : Nat) (i m : Int) (l : List UInt8) (w0 : World) (hn : n ≤ 140737488355328) (hr : Rd w0 A n c l) (hm : -9223372036854775808 ≤ m ∧ m ≤ 9223372036854775807) :
    Calls Try.prog 6 #[.slice A n c, .int .i64 i, .int .i64 m] w0 (Yes w0) := by
  go_enter Try.func6, Try.ntmps6
  go_wp2_with fail
  refine (U24_any _ _ _ _ _ _ hn hr).mono ?_
  rintro e w1 ⟨rfl, hk1⟩
  have hr1 := hr.keep hk1 (by simp)
  go_wp2_with fail
  refine (refU24_any _ _ _ _ _ _ hn hr1).mono ?_
  rintro e w2 ⟨rfl, hk2⟩
  have hk0 := hk1.trans hk2
  clear hr hr1 hk1 hk2
  generalize (num 3 l i).1 = x1
  generalize (num 3 l i).2.1 = x2
  generalize (num 3 l i).2.2 = x3
  go_wp2_with fail
  refine (Put24_any m _ hm).mono ?_
  rintro e w3 ⟨A1, n1, rfl, hr1, hf1, hk1⟩
  have HR1 := Lib.hid hr1
  clear hr1 hf1
  go_wp2_with fail
  refine (refPut24_any m _ hm).mono ?_
  rintro e w4 ⟨A2, n2, c2, rfl, hr2, hk2⟩
  have hq1 := HR1.out.keep hk2 (by simp)
  have hq2 := hr2.rd
  have HK := Lib.hid ((hk0.trans hk1).trans hk2)
  clear hr2 hk0 hk1 hk2 HR1
  generalize (putR m 3 16777216).1 = l1 at hq1 hq2
  generalize (putR m 3 16777216).2 = x4
  have HQ1 := Lib.hid hq1
  have HQ2 := Lib.hid hq2
  clear hq1 hq2
  go_wp2_with (with_reducible refine stopAt (o := ⟨some 53, _, _, _, _, _⟩) ?_)
  refine Stop.go (wpList_str rfl 22 5 9 _ rfl Try.underlying22 Try.underlying5 Try.underlying9 rfl HQ1.out ?_)
  go_wp2_with (with_reducible refine stopAt (o := ⟨some 55, _, _, _, _, _⟩) ?_)
  refine Stop.go (wpList_str rfl 22 5 9 _ rfl Try.underlying22 Try.underlying5 Try.underlying9 rfl HQ2.out ?_)
  go_wp2_with (go_at_call 38; refine (awake02 _).mono ?_; rintro e w5 ⟨rfl, hk5⟩)
  go_ret
  exact ⟨rfl, HK.out.trans hk5⟩

set_option maxHeartbeats 1000000 in
set_option maxRecDepth 100000 in
theorem FieldWords_walk (A : Option Addr) (n c : Nat) (i m : Int) (l : List UInt8) (w0 : World) (hn : n ≤ 140737488355328) (hr : Rd w0 A n c l) (hm : -9223372036854775808 ≤ m ∧ m ≤ 9223372036854775807) :
    Calls Try.prog 7 #[.slice A n c, .int .i64 i, .int .i64 m] w0 (Yes w0) := by
  go_enter Try.func7, Try.ntmps7
  go_wp2_with fail
  refine (U31_any _ _ _ _ _ _ hn hr).mono ?_
  rintro e w1 ⟨rfl, hk1⟩
  have hr1 := hr.keep hk1 (by simp)
  go_wp2_with fail
  refine (refU31_any _ _ _ _ _ _ hn hr1).mono ?_
  rintro e w2 ⟨rfl, hk2⟩
  have hk0 := hk1.trans hk2
  clear hr hr1 hk1 hk2
  generalize (num 4 l i).1 = x1
  generalize (num 4 l i).2.1 = x2
  generalize (num 4 l i).2.2 = x3
  go_wp2_with fail
  refine (Put31_any m _ hm).mono ?_
  rintro e w3 ⟨A1, n1, rfl, hr1, hf1, hk1⟩
  have HR1 := Lib.hid hr1
  clear hr1 hf1
  go_wp2_with fail
  refine (refPut31_any m _ hm).mono ?_
  rintro e w4 ⟨A2, n2, c2, rfl, hr2, hk2⟩
  have hq1 := HR1.out.keep hk2 (by simp)
  have hq2 := hr2.rd
  have HK := Lib.hid ((hk0.trans hk1).trans hk2)
  clear hr2 hk0 hk1 hk2 HR1
  generalize (putR m 4 2147483648).1 = l1 at hq1 hq2
  generalize (putR m 4 2147483648).2 = x4
  have HQ1 := Lib.hid hq1
  have HQ2 := Lib.hid hq2
  clear hq1 hq2
  go_wp2_with (with_reducible refine stopAt (o := ⟨some 53, _, _, _, _, _⟩) ?_)
  refine Stop.go (wpList_str rfl 22 5 9 _ rfl Try.underlying22 Try.underlying5 Try.underlying9 rfl HQ1.out ?_)
  go_wp2_with (with_reducible refine stopAt (o := ⟨some 55, _, _, _, _, _⟩) ?_)
  refine Stop.go (wpList_str rfl 22 5 9 _ rfl Try.underlying22 Try.underlying5 Try.underlying9 rfl HQ2.out ?_)
  go_wp2_with (go_at_call 38; refine (awake02 _).mono ?_; rintro e w5 ⟨rfl, hk5⟩)
  go_ret
  exact ⟨rfl, HK.out.trans hk5⟩
end Go.Proofs.Ytkmcakneceagpaa
