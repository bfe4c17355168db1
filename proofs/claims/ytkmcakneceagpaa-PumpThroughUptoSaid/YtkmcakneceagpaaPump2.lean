/- The pump of layer 20 (program), on. -/
import Derived.Test.YtkmcakneceagpaaPump
set_option linter.unusedVariables false
set_option linter.unusedSimpArgs false
namespace Go.Proofs.Ytkmcakneceagpaa
open Go.RowKit
theorem quiet_eq {P : Program} {f : FuncId} {args : Array Value} {w : World} {n : Nat} {v : Value}
    (h : Calls P f args (w.drewN n) fun e w' => e = .returned v ∧ w.drewN n = w') : Calls P f args (w.drewN n) fun e w'' => e = .returned v ∧ ∃ m, w'' = w.drewN m :=
  h.mono fun _ _ ⟨he, hm⟩ => ⟨he, n, hm.symm⟩
set_option maxHeartbeats 1000000 in
set_option maxRecDepth 100000 in
theorem PmLastN {w : World} {u g gb C : Nat} {D : List Nat} {l : List UInt8} {cl : Bool} (h : Pm w u g gb C D ⟨l, cl, none⟩) : Calls Try.prog 89 #[.pointer (some ⟨u, 0, none⟩)] w fun e w' => e = .returned (.tuple #[.slice none 0 0, .bool false]) ∧ w = w' := by
  obtain ⟨A, n, c, c0, c1, c2, c3, cz, hd, hn, hb, e⟩ := h.cells
  obtain ⟨p, r⟩ := h.ring
  have r : Rg w g gb C p l := r
  have c1 : w.cell? ⟨u, 1, none⟩ = some (.bool cl) := c1
  have c3 : w.cell? ⟨u, 3, none⟩ = some (.bool (Option.isSome (none : Option (List Hdr)))) := c3
  have hne := h.ne
  have hlt := h.lt
  have H := Lib.hid h
  have HE := Lib.hid (show w.heap[u]? = some (.cells #[.pointer (some ⟨g, 0, none⟩), .bool cl, .slice A n c, .bool (Option.isSome (none : Option (List Hdr)))] 124) from e)
  have HR := Lib.hid r
  have HD : Hid (Hd w A n c (Option.getD (none : Option (List Hdr)) []) ∧ n ≤ 140737488351232 ∧ (0 < n → ∀ b, b ∈ ob A → b ≠ u ∧ b ≠ g ∧ b ≠ gb ∧ b ∈ D)) := ⟨hd, hn, hb⟩
  clear h hd hn hb e r
  go_enter Try.func89, Try.ntmps89
  go_wp2_with fail
  refine (PmNone H.out).mono ?_
  rintro e w1 ⟨rfl, rfl⟩
  go_wp2
  go_ret2
  exact ⟨rfl, rfl⟩
set_option maxHeartbeats 1000000 in
set_option maxRecDepth 100000 in
theorem PmLastL {w : World} {u g gb C : Nat} {D : List Nat} {l : List UInt8} {cl : Bool} {hs : List Hdr} (h : Pm w u g gb C D ⟨l, cl, some hs⟩) (hl : 0 < l.length) : Calls Try.prog 89 #[.pointer (some ⟨u, 0, none⟩)] w fun e w' => e = .returned (.tuple #[.slice none 0 0, .bool false]) ∧ w = w' := by
  obtain ⟨A, n, c, c0, c1, c2, c3, cz, hd, hn, hb, e⟩ := h.cells
  obtain ⟨p, r⟩ := h.ring
  have r : Rg w g gb C p l := r
  have c1 : w.cell? ⟨u, 1, none⟩ = some (.bool cl) := c1
  have c3 : w.cell? ⟨u, 3, none⟩ = some (.bool (Option.isSome (some hs : Option (List Hdr)))) := c3
  have hne := h.ne
  have hlt := h.lt
  have H := Lib.hid h
  have HE := Lib.hid (show w.heap[u]? = some (.cells #[.pointer (some ⟨g, 0, none⟩), .bool cl, .slice A n c, .bool (Option.isSome (some hs : Option (List Hdr)))] 124) from e)
  have HR := Lib.hid r
  have HD : Hid (Hd w A n c (Option.getD (some hs : Option (List Hdr)) []) ∧ n ≤ 140737488351232 ∧ (0 < n → ∀ b, b ∈ ob A → b ≠ u ∧ b ≠ g ∧ b ≠ gb ∧ b ∈ D)) := ⟨hd, hn, hb⟩
  clear h hd hn hb e r
  go_enter Try.func89, Try.ntmps89
  go_wp2_with fail
  refine (PmNone H.out).mono ?_
  rintro e w1 ⟨rfl, rfl⟩
  go_wp2_with fail
  refine (RgLen HR.out).mono ?_
  rintro e w1 ⟨rfl, rfl⟩
  have hl' : (0 : Int) < (l.length : Int) := by omega
  go_wp2
  go_ret2
  exact ⟨rfl, rfl⟩
set_option maxHeartbeats 1000000 in
set_option maxRecDepth 100000 in
theorem PmLast0 {w : World} {u g gb C : Nat} {D : List Nat} {cl : Bool} {hs : List Hdr} (h : Pm w u g gb C D ⟨[], cl, some hs⟩) : Calls Try.prog 89 #[.pointer (some ⟨u, 0, none⟩)] w fun e w' => ∃ A n c, e = .returned (.tuple #[.slice A n c, .bool true]) ∧ Hd w' A n c hs ∧ n ≤ 140737488351232 ∧ (0 < n → ∀ b, b ∈ ob A → b < w.heap.size ∧ b ≠ u ∧ b ≠ g ∧ b ≠ gb ∧ b ∈ D) ∧ Kp [u] w w' ∧ Pm w' u g gb C D ⟨[], cl, none⟩ := by
  obtain ⟨A, n, c, c0, c1, c2, c3, cz, hd, hn, hb, e⟩ := h.cells
  obtain ⟨p, r⟩ := h.ring
  have r : Rg w g gb C p [] := r
  have c1 : w.cell? ⟨u, 1, none⟩ = some (.bool cl) := c1
  have c3 : w.cell? ⟨u, 3, none⟩ = some (.bool (Option.isSome (some hs : Option (List Hdr)))) := c3
  have hne := h.ne
  have hlt := h.lt
  have H := Lib.hid h
  have HE := Lib.hid (show w.heap[u]? = some (.cells #[.pointer (some ⟨g, 0, none⟩), .bool cl, .slice A n c, .bool (Option.isSome (some hs : Option (List Hdr)))] 124) from e)
  have HR := Lib.hid r
  have HD : Hid (Hd w A n c (Option.getD (some hs : Option (List Hdr)) []) ∧ n ≤ 140737488351232 ∧ (0 < n → ∀ b, b ∈ ob A → b ≠ u ∧ b ≠ g ∧ b ≠ gb ∧ b ∈ D)) := ⟨hd, hn, hb⟩
  clear h hd hn hb e r
  go_enter Try.func89, Try.ntmps89
  go_wp2_with fail
  refine (PmNone H.out).mono ?_
  rintro e w1 ⟨rfl, rfl⟩
  go_wp2_with fail
  refine (RgLen HR.out).mono ?_
  rintro e w1 ⟨rfl, rfl⟩
  go_wp2
  go_ret2
  have K2 : Kp [u] w ((w.setCell ⟨u, 2, none⟩ (.slice none 0 0)).setCell ⟨u, 3, none⟩ (.bool false)) := ((Kp.refl [u] _).setCell (.inl (by simp)) _).setCell (.inl (by simp)) _
  refine ⟨A, n, c, rfl, HD.out.1.keep K2 (fun hp b hb hs1 => by have := HD.out.2.2 hp b hb; simp at hs1; omega), HD.out.2.1, fun hp b hb => ⟨HD.out.1.lt hp b hb, HD.out.2.2 hp b hb⟩, K2, hne, ⟨p, HR.out.keep K2 (by simp; omega) (by simp; omega)⟩, none, 0, 0, hp_set _ u 3 _ _ _ (hp_set w u 2 _ _ _ HE.out), Hd.nil _ _ _, by omega, by omega⟩
set_option maxHeartbeats 1000000 in
set_option maxRecDepth 100000 in
theorem PmNext00 {w : World} {u g gb C : Nat} {D : List Nat} {l : List UInt8} (h : Pm w u g gb C D ⟨l, false, none⟩) (N : Int) : Calls Try.prog 85 #[.pointer (some ⟨u, 0, none⟩), .int .i64 N] w fun e w' => ∃ A k c, e = .returned (.tuple #[.slice A k c, .bool false]) ∧ Ow w' w.heap.size 5 1 A k c ((l.take (mostN N l.length)).map u8) ∧ Kp [] w w' := by
  obtain ⟨A, n, c, c0, c1, c2, c3, cz, hd, hn, hb, e⟩ := h.cells
  obtain ⟨p, r⟩ := h.ring
  have r : Rg w g gb C p l := r
  have c1 : w.cell? ⟨u, 1, none⟩ = some (.bool false) := c1
  have c3 : w.cell? ⟨u, 3, none⟩ = some (.bool (Option.isSome (none : Option (List Hdr)))) := c3
  have hne := h.ne
  have hlt := h.lt
  have H := Lib.hid h
  have HE := Lib.hid (show w.heap[u]? = some (.cells #[.pointer (some ⟨g, 0, none⟩), .bool false, .slice A n c, .bool (Option.isSome (none : Option (List Hdr)))] 124) from e)
  have HR := Lib.hid r
  have HD : Hid (Hd w A n c (Option.getD (none : Option (List Hdr)) []) ∧ n ≤ 140737488351232 ∧ (0 < n → ∀ b, b ∈ ob A → b ≠ u ∧ b ≠ g ∧ b ≠ gb ∧ b ∈ D)) := ⟨hd, hn, hb⟩
  clear h hd hn hb e r
  go_enter Try.func85, Try.ntmps85
  go_wp2_with fail
  refine (PmNone H.out).mono ?_
  rintro e w1 ⟨rfl, rfl⟩
  go_wp2_with fail
  refine (RgPeek HR.out N).mono ?_
  rintro e w1 ⟨A1, k1, c1', rfl, O1, K1⟩
  have R1 := Lib.hid (HR.out.keep K1 (by simp) (by simp))
  have hk1 : k1 = mostN N l.length := by have h1 := O1.len; have := mostN_le N l.length; simp at h1; omega
  subst hk1
  have HO1 := Lib.hid O1
  have E1 := K1.heap HE.out (by simp)
  have d0 : w1.cell? ⟨u, 0, none⟩ = some (.pointer (some ⟨g, 0, none⟩)) := cell_of E1 0
  have d1 : w1.cell? ⟨u, 1, none⟩ = some (.bool false) := cell_of E1 1
  have d3 : w1.cell? ⟨u, 3, none⟩ = some (.bool false) := cell_of E1 3
  have HK1 := Lib.hid K1
  clear O1 K1 E1 c0 c1 c2 c3 cz
  generalize hmm : mostN N l.length = m at *
  have HMM := Lib.hid hmm
  clear hmm
  by_cases hmn : m = l.length
  · have ht : ((m : Int) == (l.length : Int)) = true := by simp [hmn]
    have HMN := Lib.hid hmn
    clear hmn
    go_wp2
    go_quiet ((go_at_call 67; exact quiet_eq (RgLen (R1.out.keep ((Kp.refl [] _).drewN _) (by simp) (by simp)))))
    go_wp2
    go_ret2
    refine ⟨A1, m, c1', ?_, by rw [HMM.out]; exact HO1.out.keep ((Kp.refl [] _).drewN _) (by simp), HK1.out.drewN _⟩
    rfl
  · have ht : ((m : Int) == (l.length : Int)) = false := by simp; omega
    go_wp2
    go_quiet ((go_at_call 67; exact quiet_eq (RgLen (R1.out.keep ((Kp.refl [] _).drewN _) (by simp) (by simp)))))
    go_wp2
    go_ret2
    refine ⟨A1, m, c1', ?_, by rw [HMM.out]; exact HO1.out.keep ((Kp.refl [] _).drewN _) (by simp), HK1.out.drewN _⟩
    rfl
set_option maxHeartbeats 1000000 in
set_option maxRecDepth 100000 in
theorem PmNext10 {w : World} {u g gb C : Nat} {D : List Nat} {l : List UInt8} (h : Pm w u g gb C D ⟨l, true, none⟩) (N : Int) : Calls Try.prog 85 #[.pointer (some ⟨u, 0, none⟩), .int .i64 N] w fun e w' => ∃ A k c, e = .returned (.tuple #[.slice A k c, .bool (decide (mostN N l.length = l.length))]) ∧ Ow w' w.heap.size 5 1 A k c ((l.take (mostN N l.length)).map u8) ∧ Kp [] w w' := by
  obtain ⟨A, n, c, c0, c1, c2, c3, cz, hd, hn, hb, e⟩ := h.cells
  obtain ⟨p, r⟩ := h.ring
  have r : Rg w g gb C p l := r
  have c1 : w.cell? ⟨u, 1, none⟩ = some (.bool true) := c1
  have c3 : w.cell? ⟨u, 3, none⟩ = some (.bool (Option.isSome (none : Option (List Hdr)))) := c3
  have hne := h.ne
  have hlt := h.lt
  have H := Lib.hid h
  have HE := Lib.hid (show w.heap[u]? = some (.cells #[.pointer (some ⟨g, 0, none⟩), .bool true, .slice A n c, .bool (Option.isSome (none : Option (List Hdr)))] 124) from e)
  have HR := Lib.hid r
  have HD : Hid (Hd w A n c (Option.getD (none : Option (List Hdr)) []) ∧ n ≤ 140737488351232 ∧ (0 < n → ∀ b, b ∈ ob A → b ≠ u ∧ b ≠ g ∧ b ≠ gb ∧ b ∈ D)) := ⟨hd, hn, hb⟩
  clear h hd hn hb e r
  go_enter Try.func85, Try.ntmps85
  go_wp2_with fail
  refine (PmNone H.out).mono ?_
  rintro e w1 ⟨rfl, rfl⟩
  go_wp2_with fail
  refine (RgPeek HR.out N).mono ?_
  rintro e w1 ⟨A1, k1, c1', rfl, O1, K1⟩
  have R1 := Lib.hid (HR.out.keep K1 (by simp) (by simp))
  have hk1 : k1 = mostN N l.length := by have h1 := O1.len; have := mostN_le N l.length; simp at h1; omega
  subst hk1
  have HO1 := Lib.hid O1
  have E1 := K1.heap HE.out (by simp)
  have d0 : w1.cell? ⟨u, 0, none⟩ = some (.pointer (some ⟨g, 0, none⟩)) := cell_of E1 0
  have d1 : w1.cell? ⟨u, 1, none⟩ = some (.bool true) := cell_of E1 1
  have d3 : w1.cell? ⟨u, 3, none⟩ = some (.bool false) := cell_of E1 3
  have HK1 := Lib.hid K1
  clear O1 K1 E1 c0 c1 c2 c3 cz
  generalize hmm : mostN N l.length = m at *
  have HMM := Lib.hid hmm
  clear hmm
  by_cases hmn : m = l.length
  · have ht : ((m : Int) == (l.length : Int)) = true := by simp [hmn]
    have HMN := Lib.hid hmn
    clear hmn
    go_wp2
    go_quiet ((go_at_call 67; exact quiet_eq (RgLen (R1.out.keep ((Kp.refl [] _).drewN _) (by simp) (by simp)))))
    go_wp2
    go_ret2
    refine ⟨A1, m, c1', ?_, by rw [HMM.out]; exact HO1.out.keep ((Kp.refl [] _).drewN _) (by simp), HK1.out.drewN _⟩
    rw [decide_eq_true (HMM.out.trans HMN.out)]; rfl
  · have ht : ((m : Int) == (l.length : Int)) = false := by simp; omega
    go_wp2
    go_quiet ((go_at_call 67; exact quiet_eq (RgLen (R1.out.keep ((Kp.refl [] _).drewN _) (by simp) (by simp)))))
    go_wp2
    go_ret2
    refine ⟨A1, m, c1', ?_, by rw [HMM.out]; exact HO1.out.keep ((Kp.refl [] _).drewN _) (by simp), HK1.out.drewN _⟩
    rw [decide_eq_false (by rw [HMM.out]; exact hmn)]; rfl
set_option maxHeartbeats 1000000 in
set_option maxRecDepth 100000 in
theorem PmNext01 {w : World} {u g gb C : Nat} {D : List Nat} {l : List UInt8} {hs : List Hdr} (h : Pm w u g gb C D ⟨l, false, some hs⟩) (N : Int) : Calls Try.prog 85 #[.pointer (some ⟨u, 0, none⟩), .int .i64 N] w fun e w' => ∃ A k c, e = .returned (.tuple #[.slice A k c, .bool false]) ∧ Ow w' w.heap.size 5 1 A k c ((l.take (mostN N l.length)).map u8) ∧ Kp [] w w' := by
  obtain ⟨A, n, c, c0, c1, c2, c3, cz, hd, hn, hb, e⟩ := h.cells
  obtain ⟨p, r⟩ := h.ring
  have r : Rg w g gb C p l := r
  have c1 : w.cell? ⟨u, 1, none⟩ = some (.bool false) := c1
  have c3 : w.cell? ⟨u, 3, none⟩ = some (.bool (Option.isSome (some hs : Option (List Hdr)))) := c3
  have hne := h.ne
  have hlt := h.lt
  have H := Lib.hid h
  have HE := Lib.hid (show w.heap[u]? = some (.cells #[.pointer (some ⟨g, 0, none⟩), .bool false, .slice A n c, .bool (Option.isSome (some hs : Option (List Hdr)))] 124) from e)
  have HR := Lib.hid r
  have HD : Hid (Hd w A n c (Option.getD (some hs : Option (List Hdr)) []) ∧ n ≤ 140737488351232 ∧ (0 < n → ∀ b, b ∈ ob A → b ≠ u ∧ b ≠ g ∧ b ≠ gb ∧ b ∈ D)) := ⟨hd, hn, hb⟩
  clear h hd hn hb e r
  go_enter Try.func85, Try.ntmps85
  go_wp2_with fail
  refine (PmNone H.out).mono ?_
  rintro e w1 ⟨rfl, rfl⟩
  go_wp2_with fail
  refine (RgPeek HR.out N).mono ?_
  rintro e w1 ⟨A1, k1, c1', rfl, O1, K1⟩
  have R1 := Lib.hid (HR.out.keep K1 (by simp) (by simp))
  have hk1 : k1 = mostN N l.length := by have h1 := O1.len; have := mostN_le N l.length; simp at h1; omega
  subst hk1
  have HO1 := Lib.hid O1
  have E1 := K1.heap HE.out (by simp)
  have d0 : w1.cell? ⟨u, 0, none⟩ = some (.pointer (some ⟨g, 0, none⟩)) := cell_of E1 0
  have d1 : w1.cell? ⟨u, 1, none⟩ = some (.bool false) := cell_of E1 1
  have d3 : w1.cell? ⟨u, 3, none⟩ = some (.bool true) := cell_of E1 3
  have HK1 := Lib.hid K1
  clear O1 K1 E1 c0 c1 c2 c3 cz
  generalize hmm : mostN N l.length = m at *
  have HMM := Lib.hid hmm
  clear hmm
  by_cases hmn : m = l.length
  · have ht : ((m : Int) == (l.length : Int)) = true := by simp [hmn]
    have HMN := Lib.hid hmn
    clear hmn
    go_wp2
    go_quiet ((go_at_call 67; exact quiet_eq (RgLen (R1.out.keep ((Kp.refl [] _).drewN _) (by simp) (by simp)))))
    go_wp2
    go_ret2
    refine ⟨A1, m, c1', ?_, by rw [HMM.out]; exact HO1.out.keep ((Kp.refl [] _).drewN _) (by simp), HK1.out.drewN _⟩
    rfl
  · have ht : ((m : Int) == (l.length : Int)) = false := by simp; omega
    go_wp2
    go_quiet ((go_at_call 67; exact quiet_eq (RgLen (R1.out.keep ((Kp.refl [] _).drewN _) (by simp) (by simp)))))
    go_wp2
    go_ret2
    refine ⟨A1, m, c1', ?_, by rw [HMM.out]; exact HO1.out.keep ((Kp.refl [] _).drewN _) (by simp), HK1.out.drewN _⟩
    rfl
set_option maxHeartbeats 1000000 in
set_option maxRecDepth 100000 in
theorem PmNext11 {w : World} {u g gb C : Nat} {D : List Nat} {l : List UInt8} {hs : List Hdr} (h : Pm w u g gb C D ⟨l, true, some hs⟩) (N : Int) : Calls Try.prog 85 #[.pointer (some ⟨u, 0, none⟩), .int .i64 N] w fun e w' => ∃ A k c, e = .returned (.tuple #[.slice A k c, .bool false]) ∧ Ow w' w.heap.size 5 1 A k c ((l.take (mostN N l.length)).map u8) ∧ Kp [] w w' := by
  obtain ⟨A, n, c, c0, c1, c2, c3, cz, hd, hn, hb, e⟩ := h.cells
  obtain ⟨p, r⟩ := h.ring
  have r : Rg w g gb C p l := r
  have c1 : w.cell? ⟨u, 1, none⟩ = some (.bool true) := c1
  have c3 : w.cell? ⟨u, 3, none⟩ = some (.bool (Option.isSome (some hs : Option (List Hdr)))) := c3
  have hne := h.ne
  have hlt := h.lt
  have H := Lib.hid h
  have HE := Lib.hid (show w.heap[u]? = some (.cells #[.pointer (some ⟨g, 0, none⟩), .bool true, .slice A n c, .bool (Option.isSome (some hs : Option (List Hdr)))] 124) from e)
  have HR := Lib.hid r
  have HD : Hid (Hd w A n c (Option.getD (some hs : Option (List Hdr)) []) ∧ n ≤ 140737488351232 ∧ (0 < n → ∀ b, b ∈ ob A → b ≠ u ∧ b ≠ g ∧ b ≠ gb ∧ b ∈ D)) := ⟨hd, hn, hb⟩
  clear h hd hn hb e r
  go_enter Try.func85, Try.ntmps85
  go_wp2_with fail
  refine (PmNone H.out).mono ?_
  rintro e w1 ⟨rfl, rfl⟩
  go_wp2_with fail
  refine (RgPeek HR.out N).mono ?_
  rintro e w1 ⟨A1, k1, c1', rfl, O1, K1⟩
  have R1 := Lib.hid (HR.out.keep K1 (by simp) (by simp))
  have hk1 : k1 = mostN N l.length := by have h1 := O1.len; have := mostN_le N l.length; simp at h1; omega
  subst hk1
  have HO1 := Lib.hid O1
  have E1 := K1.heap HE.out (by simp)
  have d0 : w1.cell? ⟨u, 0, none⟩ = some (.pointer (some ⟨g, 0, none⟩)) := cell_of E1 0
  have d1 : w1.cell? ⟨u, 1, none⟩ = some (.bool true) := cell_of E1 1
  have d3 : w1.cell? ⟨u, 3, none⟩ = some (.bool true) := cell_of E1 3
  have HK1 := Lib.hid K1
  clear O1 K1 E1 c0 c1 c2 c3 cz
  generalize hmm : mostN N l.length = m at *
  have HMM := Lib.hid hmm
  clear hmm
  by_cases hmn : m = l.length
  · have ht : ((m : Int) == (l.length : Int)) = true := by simp [hmn]
    have HMN := Lib.hid hmn
    clear hmn
    go_wp2
    go_quiet ((go_at_call 67; exact quiet_eq (RgLen (R1.out.keep ((Kp.refl [] _).drewN _) (by simp) (by simp)))))
    go_wp2
    go_ret2
    refine ⟨A1, m, c1', ?_, by rw [HMM.out]; exact HO1.out.keep ((Kp.refl [] _).drewN _) (by simp), HK1.out.drewN _⟩
    rfl
  · have ht : ((m : Int) == (l.length : Int)) = false := by simp; omega
    go_wp2
    go_quiet ((go_at_call 67; exact quiet_eq (RgLen (R1.out.keep ((Kp.refl [] _).drewN _) (by simp) (by simp)))))
    go_wp2
    go_ret2
    refine ⟨A1, m, c1', ?_, by rw [HMM.out]; exact HO1.out.keep ((Kp.refl [] _).drewN _) (by simp), HK1.out.drewN _⟩
    rfl
set_option maxHeartbeats 1000000 in
set_option maxRecDepth 100000 in
theorem PmCut {w : World} {u g gb C : Nat} {D : List Nat} {l : List UInt8} {cl : Bool} {tl : Option (List Hdr)} (h : Pm w u g gb C D ⟨l, cl, tl⟩) : Calls Try.prog 92 #[.pointer (some ⟨u, 0, none⟩)] w fun e w' => e = .returned (.tuple #[]) ∧ Kp [u, g, gb] w w' ∧ Pm w' u g gb C D ⟨[], true, none⟩ := by
  obtain ⟨A, n, c, c0, c1, c2, c3, cz, hd, hn, hb, e⟩ := h.cells
  obtain ⟨p, r⟩ := h.ring
  have r : Rg w g gb C p l := r
  have c1 : w.cell? ⟨u, 1, none⟩ = some (.bool cl) := c1
  have c3 : w.cell? ⟨u, 3, none⟩ = some (.bool (Option.isSome (tl : Option (List Hdr)))) := c3
  have hne := h.ne
  have hlt := h.lt
  have H := Lib.hid h
  have HE := Lib.hid (show w.heap[u]? = some (.cells #[.pointer (some ⟨g, 0, none⟩), .bool cl, .slice A n c, .bool (Option.isSome (tl : Option (List Hdr)))] 124) from e)
  have HR := Lib.hid r
  have HD : Hid (Hd w A n c (Option.getD (tl : Option (List Hdr)) []) ∧ n ≤ 140737488351232 ∧ (0 < n → ∀ b, b ∈ ob A → b ≠ u ∧ b ≠ g ∧ b ≠ gb ∧ b ∈ D)) := ⟨hd, hn, hb⟩
  clear h hd hn hb e r
  go_enter Try.func92, Try.ntmps92
  go_wp2_with fail
  refine (PmNone H.out).mono ?_
  rintro e w1 ⟨rfl, rfl⟩
  go_wp2
  go_still_tail 9, (by kernel_rfl)
  still_call ((RgLen (HR.out.keep (Kp.refl [] w).drew (by simp) (by simp))).mono (fun _ _ h => ⟨h.1, h.2.symm⟩))
  refine wpStill_nil ?_
  change wpList _ _ _ _ _ w.drew
  have K1 : Kp [] w w.drew := (Kp.refl _ _).drew
  have HR1 := Lib.hid (HR.out.keep K1 (by simp) (by simp))
  have HE1 := Lib.hid (K1.heap HE.out (by simp))
  generalize w.drew = w1 at *
  go_wp2_with fail
  refine (RgDrop HR1.out _).mono ?_
  rintro e w2 ⟨rfl, K2, p2, R2⟩
  have e0 : mostN (l.length : Int) l.length = l.length := by unfold mostN; omega
  rw [e0, List.drop_eq_nil_of_le (Nat.le_refl _)] at R2
  have HR2 := Lib.hid R2
  have E2 := K2.heap HE1.out (by simp; omega)
  have HE2 := Lib.hid E2
  have cz2 := frozen_of E2
  have d1 := cell_of E2 1
  have d2 := cell_of E2 2
  have d3 := cell_of E2 3
  have q2 : Kp [u, g, gb] w w2 := (K1.mono (fun s hs => by cases hs)).trans (K2.mono (fun s hs => .inl (by simp at hs; simp [hs])))
  have z2 := lt_of_heap E2
  clear e0 R2 E2 K2 c0 c1 c2 c3 cz
  go_wp2
  have K4 : Kp [u] w2 (((w2.setCell ⟨u, 1, none⟩ (.bool true)).setCell ⟨u, 2, none⟩ (.slice none 0 0)).setCell ⟨u, 3, none⟩ (.bool false)) := (((Kp.refl [u] _).setCell (.inl (by simp)) _).setCell (.inl (by simp)) _).setCell (.inl (by simp)) _
  refine ⟨rfl, .tuple #[], by simp [results, Try.results92, go_sem], rfl, q2.trans (K4.mono (fun s hs => .inl (by simp at hs; simp [hs]))), hne, ⟨p2, HR2.out.keep K4 (by simp; omega) (by simp; omega)⟩, none, 0, 0, hp_set _ u 3 _ _ _ (hp_set _ u 2 _ _ _ (hp_set w2 u 1 _ _ _ HE2.out)), Hd.nil _ _ _, by omega, by omega⟩
set_option maxHeartbeats 400000 in
theorem PmNew_no (n : Int) (h : n < 0 ∨ 65536 < n) (w : World) : Calls Try.prog 83 #[.int .i64 n] w fun e w' => e = .returned (.tuple #[.pointer none, .int .i64 1]) ∧ w = w' := by
  rcases h with h | h
  · go_enter Try.func83, Try.ntmps83
    go_wp2
    go_ret2
    exact ⟨rfl, rfl⟩
  · have h1 : decide (n < 0) = false := by simp <;> omega
    go_enter Try.func83, Try.ntmps83
    go_wp2
    go_ret2
    exact ⟨rfl, rfl⟩
set_option maxHeartbeats 400000 in
theorem PmNew (n : Nat) (h : n ≤ 65536) (w : World) : Calls Try.prog 83 #[.int .i64 n] w fun e w' => ∃ u g gb, e = .returned (.tuple #[.pointer (some ⟨u, 0, none⟩), .int .i64 0]) ∧ Pm w' u g gb n [] ⟨[], false, none⟩ ∧ (w.heap.size ≤ u ∧ w.heap.size ≤ g ∧ w.heap.size ≤ gb) ∧ Kp [] w w' := by
  have h1 : decide ((n : Int) < 0) = false := by simp <;> omega
  have h2 : decide ((65536 : Int) < n) = false := by simp <;> omega
  go_enter Try.func83, Try.ntmps83
  go_wp2_with fail
  refine (RgNew n (by omega) w).mono ?_
  rintro e w1 ⟨g, gb, rfl, R1, hlt, K1⟩
  obtain ⟨l1, l2⟩ := R1.lt
  have HR1 := Lib.hid R1
  clear R1
  go_wp2
  go_ret2
  exact ⟨_, g, gb, rfl, ⟨by omega, ⟨0, HR1.out.keep ((Kp.refl [] _).alloc _) (by simp) (by simp)⟩, none, 0, 0, hp_new _ _ _ rfl, Hd.nil _ _ _, by omega, by omega⟩, ⟨K1.size, hlt.1, hlt.2⟩, K1.alloc _⟩
set_option maxHeartbeats 1000000 in
theorem awake20 (w : World) : Calls Try.prog 97 #[] w (Yes w) := by
  go_enter Try.func97, Try.ntmps97
  go_wp2_with fail
  refine (PmNew 2 (by omega) w).mono ?_
  rintro e w1 ⟨u, g, gb, rfl, P1, hlt, K1⟩
  obtain ⟨lt1, lt2, lt3⟩ := P1.lt
  have P2 := P1.keep ((Kp.refl [] w1).alloc (.cells #[.int .u8 1, .int .u8 2] 5)) (by simp) (by simp) (by simp) (by simp)
  go_wp2_with fail
  refine (PmPut0 P2 (some ⟨w1.heap.size, 0, none⟩) 2 2 [1, 2] (Rd.block (hp_new _ _ _ rfl) 0 2 2 [1, 2] rfl (by omega) rfl) (by omega) (by simp [ob]; omega) (by simp)).mono ?_
  rintro e w2 ⟨rfl, K2, P3⟩
  have K3 := (K1.alloc (.cells #[.int .u8 1, .int .u8 2] 5)).then K2 (by simp; omega)
  clear K1 K2
  go_wp2_with fail
  refine (PmRoom P3).mono ?_
  rintro e w3 ⟨rfl, rfl⟩
  rw [show (2 - ([] ++ [1, 2] : List UInt8).length : Nat) = 0 from rfl]
  go_wp2
  go_ret
  exact ⟨rfl, K3⟩
end Go.Proofs.Ytkmcakneceagpaa
