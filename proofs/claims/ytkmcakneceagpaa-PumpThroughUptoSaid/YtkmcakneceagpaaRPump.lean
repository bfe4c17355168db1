/- The pump of layer 20's reference. -/
import Derived.Test.YtkmcakneceagpaaPump2
set_option linter.unusedVariables false
set_option linter.unusedSimpArgs false
namespace Go.Proofs.Ytkmcakneceagpaa
open Go.RowKit
/-- The reference's pump at block q: its ring at h with blocks S; D: where its trailers lie. -/
structure Rp (w : World) (q h : Nat) (S D : List Nat) (C : Nat) (s : PSt) : Prop where
  ne : q ∉ S
  ring : Rf w h S C s.l
  rep : ∃ A n c, w.heap[q]? = some (.cells #[.pointer (some ⟨h, 0, none⟩), .bool s.cl, .slice A n c, .bool s.tl.isSome] 134) ∧ Hd w A n c (s.tl.getD []) ∧ n ≤ 140737488351232 ∧ (0 < n → ∀ b, b ∈ ob A → b ≠ q ∧ b ∉ S ∧ b ∈ D)
theorem Rp.keep {T : List Nat} {w w' : World} {q h C : Nat} {S D : List Nat} {s : PSt} (r : Rp w q h S D C s) (k : Kp T w w') (h1 : q ∉ T) (h2 : ∀ x, x ∈ S → x ∉ T) (h3 : ∀ d, d ∈ D → d ∉ T) : Rp w' q h S D C s := by
  obtain ⟨A, n, c, e, hd, hn, hb⟩ := r.rep
  exact ⟨r.ne, r.ring.keep k h2, A, n, c, k.heap e h1, hd.keep k (fun hp b hb1 => h3 b (hb hp b hb1).2.2), hn, hb⟩
theorem Rp.lt {w : World} {q h C : Nat} {S D : List Nat} {s : PSt} (r : Rp w q h S D C s) : q < w.heap.size ∧ ∀ x, x ∈ S → x < w.heap.size := by
  obtain ⟨A, n, c, e, _⟩ := r.rep
  exact ⟨lt_of_heap e, r.ring.lt⟩
/-- the ring alone has turned -/
theorem Rp.ringed {w w' : World} {q h C : Nat} {S D S' : List Nat} {s : PSt} {l' : List UInt8} (r : Rp w q h S D C s) (k : Kp S w w') (hS : Nw S S' w) (f : Rf w' h S' C l') : Rp w' q h S' D C { s with l := l' } := by
  have hlt := r.lt
  obtain ⟨A, n, c, e, hd, hn, hb⟩ := r.rep
  refine ⟨fun hq => (hS q hq).elim r.ne (fun h1 => by have := hlt.1; omega), f, A, n, c, k.heap e r.ne, hd.keep k (fun hp b hb1 => (hb hp b hb1).2.1), hn, fun hp b hb1 => ⟨(hb hp b hb1).1, fun hs => ?_, (hb hp b hb1).2.2⟩⟩
  rcases hS b hs with h1 | h1
  · exact (hb hp b hb1).2.1 h1
  · have := hd.lt hp b hb1
    omega
theorem Ow.emptyX (w : World) (x base : Nat) (e : TypeId) (size : Nat) (hx : x = w.heap.size) (hb : base ≤ x) : Ow (w.alloc (.cells #[] e)) base e size (some ⟨x, 0, none⟩) 0 0 [] := by
  subst hx
  exact Ow.empty w base e size hb
theorem Rf.rcell {w : World} {h : Nat} {S : List Nat} {C : Nat} {l : List UInt8} (r : Rf w h S C l) : ∃ A c, w.cell? ⟨h, 0, none⟩ = some (.slice A l.length c) := by
  obtain ⟨A, c, _, _, e, _⟩ := r.rep
  exact ⟨A, c, cell_of e 0⟩
theorem Rf.self {w : World} {h : Nat} {S : List Nat} {C : Nat} {l : List UInt8} (r : Rf w h S C l) : h ∈ S := by
  obtain ⟨A, c, e, _⟩ := r.rep
  rw [e]
  simp
set_option maxHeartbeats 1000000 in
set_option maxRecDepth 100000 in
theorem RpEnd1 {w : World} {q h C : Nat} {S D : List Nat} {l : List UInt8} {tl : Option (List Hdr)} (r : Rp w q h S D C ⟨l, true, tl⟩) : Calls Try.prog 139 #[.pointer (some ⟨q, 0, none⟩)] w fun e w' => e = .returned (.int .i64 5) ∧ w = w' := by
  obtain ⟨A, n, c, e, hd, hn, hb⟩ := r.rep
  have c0 : w.cell? ⟨q, 0, none⟩ = some (.pointer (some ⟨h, 0, none⟩)) := cell_of e 0
  have c1 : w.cell? ⟨q, 1, none⟩ = some (.bool true) := cell_of e 1
  have c2 : w.cell? ⟨q, 2, none⟩ = some (.slice A n c) := cell_of e 2
  have c3 : w.cell? ⟨q, 3, none⟩ = some (.bool (Option.isSome (tl : Option (List Hdr)))) := cell_of e 3
  have cz := frozen_of e
  have hne := r.ne
  have hlt := r.lt
  have hself := r.ring.self
  have hqh : q ≠ h := fun e1 => hne (e1 ▸ hself)
  have hhl := hlt.2 h hself
  have H := Lib.hid r
  have HE := Lib.hid (show w.heap[q]? = some (.cells #[.pointer (some ⟨h, 0, none⟩), .bool true, .slice A n c, .bool (Option.isSome (tl : Option (List Hdr)))] 134) from e)
  have HR : Hid (Rf w h S C l) := r.ring
  have HD : Hid (Hd w A n c (Option.getD (tl : Option (List Hdr)) []) ∧ n ≤ 140737488351232 ∧ (0 < n → ∀ b, b ∈ ob A → b ≠ q ∧ b ∉ S ∧ b ∈ D)) := ⟨hd, hn, hb⟩
  clear hd hn hb e r hself
  go_enter Try.func139, Try.ntmps139
  go_wp2
  go_ret
  exact ⟨rfl, rfl⟩
set_option maxHeartbeats 1000000 in
set_option maxRecDepth 100000 in
theorem RpEnd0 {w : World} {q h C : Nat} {S D : List Nat} {l : List UInt8} {tl : Option (List Hdr)} (r : Rp w q h S D C ⟨l, false, tl⟩) : Calls Try.prog 139 #[.pointer (some ⟨q, 0, none⟩)] w fun e w' => e = .returned (.int .i64 0) ∧ Kp [q] w w' ∧ Rp w' q h S D C ⟨l, true, tl⟩ := by
  obtain ⟨A, n, c, e, hd, hn, hb⟩ := r.rep
  have c0 : w.cell? ⟨q, 0, none⟩ = some (.pointer (some ⟨h, 0, none⟩)) := cell_of e 0
  have c1 : w.cell? ⟨q, 1, none⟩ = some (.bool false) := cell_of e 1
  have c2 : w.cell? ⟨q, 2, none⟩ = some (.slice A n c) := cell_of e 2
  have c3 : w.cell? ⟨q, 3, none⟩ = some (.bool (Option.isSome (tl : Option (List Hdr)))) := cell_of e 3
  have cz := frozen_of e
  have hne := r.ne
  have hlt := r.lt
  have hself := r.ring.self
  have hqh : q ≠ h := fun e1 => hne (e1 ▸ hself)
  have hhl := hlt.2 h hself
  have H := Lib.hid r
  have HE := Lib.hid (show w.heap[q]? = some (.cells #[.pointer (some ⟨h, 0, none⟩), .bool false, .slice A n c, .bool (Option.isSome (tl : Option (List Hdr)))] 134) from e)
  have HR : Hid (Rf w h S C l) := r.ring
  have HD : Hid (Hd w A n c (Option.getD (tl : Option (List Hdr)) []) ∧ n ≤ 140737488351232 ∧ (0 < n → ∀ b, b ∈ ob A → b ≠ q ∧ b ∉ S ∧ b ∈ D)) := ⟨hd, hn, hb⟩
  clear hd hn hb e r hself
  go_enter Try.func139, Try.ntmps139
  go_wp2
  go_ret
  have K : Kp [q] w (w.setCell ⟨q, 1, none⟩ (.bool true)) := (Kp.refl [q] _).setCell (.inl (by simp)) _
  exact ⟨rfl, K, hne, HR.out.keep K (by intro x hx hq; simp at hq; subst hq; exact hne hx), A, n, c, hp_set w q 1 _ _ _ HE.out, HD.out.1.keep K (fun hp b hb hq => by have := (HD.out.2.2 hp b hb).1; simp at hq; exact this hq), HD.out.2⟩
set_option maxHeartbeats 1000000 in
set_option maxRecDepth 100000 in
theorem RpPut1 {w : World} {q h C : Nat} {S D : List Nat} {l : List UInt8} {tl : Option (List Hdr)} (r : Rp w q h S D C ⟨l, true, tl⟩) (B : Option Addr) (m d : Nat) : Calls Try.prog 136 #[.pointer (some ⟨q, 0, none⟩), .slice B m d] w fun e w' => e = .returned (.int .i64 5) ∧ w = w' := by
  obtain ⟨A, n, c, e, hd, hn, hb⟩ := r.rep
  have c0 : w.cell? ⟨q, 0, none⟩ = some (.pointer (some ⟨h, 0, none⟩)) := cell_of e 0
  have c1 : w.cell? ⟨q, 1, none⟩ = some (.bool true) := cell_of e 1
  have c2 : w.cell? ⟨q, 2, none⟩ = some (.slice A n c) := cell_of e 2
  have c3 : w.cell? ⟨q, 3, none⟩ = some (.bool (Option.isSome (tl : Option (List Hdr)))) := cell_of e 3
  have cz := frozen_of e
  have hne := r.ne
  have hlt := r.lt
  have hself := r.ring.self
  have hqh : q ≠ h := fun e1 => hne (e1 ▸ hself)
  have hhl := hlt.2 h hself
  have H := Lib.hid r
  have HE := Lib.hid (show w.heap[q]? = some (.cells #[.pointer (some ⟨h, 0, none⟩), .bool true, .slice A n c, .bool (Option.isSome (tl : Option (List Hdr)))] 134) from e)
  have HR : Hid (Rf w h S C l) := r.ring
  have HD : Hid (Hd w A n c (Option.getD (tl : Option (List Hdr)) []) ∧ n ≤ 140737488351232 ∧ (0 < n → ∀ b, b ∈ ob A → b ≠ q ∧ b ∉ S ∧ b ∈ D)) := ⟨hd, hn, hb⟩
  clear hd hn hb e r hself
  go_enter Try.func136, Try.ntmps136
  go_wp2
  go_ret
  exact ⟨rfl, rfl⟩
set_option maxHeartbeats 1000000 in
set_option maxRecDepth 100000 in
theorem RpPutF {w : World} {q h C : Nat} {S D : List Nat} {l : List UInt8} {tl : Option (List Hdr)} (r : Rp w q h S D C ⟨l, false, tl⟩) (B : Option Addr) (m d : Nat) (hf : C - l.length < m) : Calls Try.prog 136 #[.pointer (some ⟨q, 0, none⟩), .slice B m d] w fun e w' => e = .returned (.int .i64 9) ∧ Kp [] w w' ∧ Rp w' q h S D C ⟨l, false, tl⟩ := by
  obtain ⟨A, n, c, e, hd, hn, hb⟩ := r.rep
  have c0 : w.cell? ⟨q, 0, none⟩ = some (.pointer (some ⟨h, 0, none⟩)) := cell_of e 0
  have c1 : w.cell? ⟨q, 1, none⟩ = some (.bool false) := cell_of e 1
  have c2 : w.cell? ⟨q, 2, none⟩ = some (.slice A n c) := cell_of e 2
  have c3 : w.cell? ⟨q, 3, none⟩ = some (.bool (Option.isSome (tl : Option (List Hdr)))) := cell_of e 3
  have cz := frozen_of e
  have hne := r.ne
  have hlt := r.lt
  have hself := r.ring.self
  have hqh : q ≠ h := fun e1 => hne (e1 ▸ hself)
  have hhl := hlt.2 h hself
  have H := Lib.hid r
  have HE := Lib.hid (show w.heap[q]? = some (.cells #[.pointer (some ⟨h, 0, none⟩), .bool false, .slice A n c, .bool (Option.isSome (tl : Option (List Hdr)))] 134) from e)
  have HR : Hid (Rf w h S C l) := r.ring
  have HD : Hid (Hd w A n c (Option.getD (tl : Option (List Hdr)) []) ∧ n ≤ 140737488351232 ∧ (0 < n → ∀ b, b ∈ ob A → b ≠ q ∧ b ∉ S ∧ b ∈ D)) := ⟨hd, hn, hb⟩
  clear hd hn hb e r hself
  obtain ⟨rm, hrm⟩ : ∃ rm, C - l.length = rm := ⟨_, rfl⟩
  have HRM := Lib.hid hrm
  rw [hrm] at hf
  clear hrm
  go_enter Try.func136, Try.ntmps136
  go_wp2_with fail
  refine (RfRoom HR.out).mono ?_
  rintro e w1 ⟨rfl, K1⟩
  rw [HRM.out]
  have H1 := Lib.hid (H.out.keep K1 (by simp) (by simp) (by simp))
  have HR1 : Hid (Rf w1 h S C l) := H1.out.ring
  have d0 := K1.cell c0 (by simp)
  have HK1 := Lib.hid K1
  clear K1
  go_wp2
  go_ret
  exact ⟨rfl, HK1.out, H1.out⟩
set_option maxHeartbeats 1000000 in
set_option maxRecDepth 100000 in
theorem RpPut0 {w : World} {q h C : Nat} {S D : List Nat} {l : List UInt8} {tl : Option (List Hdr)} (r : Rp w q h S D C ⟨l, false, tl⟩) (B : Option Addr) (m d : Nat) (xs : List UInt8) (hx : Rd w B m d xs) (hm : m ≤ 140737488355328) (hf : m ≤ C - l.length) : Calls Try.prog 136 #[.pointer (some ⟨q, 0, none⟩), .slice B m d] w fun e w' => e = .returned (.int .i64 0) ∧ Kp S w w' ∧ ∃ S', Nw S S' w ∧ Rp w' q h S' D C ⟨l ++ xs, false, tl⟩ := by
  obtain ⟨A, n, c, e, hd, hn, hb⟩ := r.rep
  have c0 : w.cell? ⟨q, 0, none⟩ = some (.pointer (some ⟨h, 0, none⟩)) := cell_of e 0
  have c1 : w.cell? ⟨q, 1, none⟩ = some (.bool false) := cell_of e 1
  have c2 : w.cell? ⟨q, 2, none⟩ = some (.slice A n c) := cell_of e 2
  have c3 : w.cell? ⟨q, 3, none⟩ = some (.bool (Option.isSome (tl : Option (List Hdr)))) := cell_of e 3
  have cz := frozen_of e
  have hne := r.ne
  have hlt := r.lt
  have hself := r.ring.self
  have hqh : q ≠ h := fun e1 => hne (e1 ▸ hself)
  have hhl := hlt.2 h hself
  have H := Lib.hid r
  have HE := Lib.hid (show w.heap[q]? = some (.cells #[.pointer (some ⟨h, 0, none⟩), .bool false, .slice A n c, .bool (Option.isSome (tl : Option (List Hdr)))] 134) from e)
  have HR : Hid (Rf w h S C l) := r.ring
  have HD : Hid (Hd w A n c (Option.getD (tl : Option (List Hdr)) []) ∧ n ≤ 140737488351232 ∧ (0 < n → ∀ b, b ∈ ob A → b ≠ q ∧ b ∉ S ∧ b ∈ D)) := ⟨hd, hn, hb⟩
  clear hd hn hb e r hself
  have HX := Lib.hid hx
  clear hx
  obtain ⟨rm, hrm⟩ : ∃ rm, C - l.length = rm := ⟨_, rfl⟩
  have HRM := Lib.hid hrm
  rw [hrm] at hf
  clear hrm
  go_enter Try.func136, Try.ntmps136
  go_wp2_with fail
  refine (RfRoom HR.out).mono ?_
  rintro e w1 ⟨rfl, K1⟩
  rw [HRM.out]
  have H1 := Lib.hid (H.out.keep K1 (by simp) (by simp) (by simp))
  have HR1 : Hid (Rf w1 h S C l) := H1.out.ring
  have d0 := K1.cell c0 (by simp)
  have HK1 := Lib.hid K1
  clear K1
  go_wp2_with fail
  refine (RfPut HR1.out B m d xs (HX.out.keep HK1.out (by simp)) hm).mono ?_
  rintro e w2 ⟨rfl, K2, S', hS', R2⟩
  have e1 : min m (C - l.length) = m := by rw [HRM.out]; omega
  rw [e1, List.take_of_length_le (by have := HX.out.len; omega)] at R2
  have H2 := Lib.hid (H1.out.ringed K2 hS' R2)
  clear e1 R2
  go_wp2
  go_ret
  exact ⟨rfl, (HK1.out.mono (fun s hs => by cases hs)).trans K2, S', fun s hs => (hS' s hs).imp id (fun h1 => by have := HK1.out.size; omega), H2.out⟩
set_option maxHeartbeats 1000000 in
set_option maxRecDepth 100000 in
theorem RpDoneA0 {w : World} {q h C : Nat} {S D : List Nat} {l : List UInt8} {tl : Option (List Hdr)} (r : Rp w q h S D C ⟨l, false, tl⟩) (N : Int) (hN : N < 0) : Calls Try.prog 138 #[.pointer (some ⟨q, 0, none⟩), .int .i64 N] w fun e w' => e = .returned (.int .i64 1) ∧ w = w' := by
  obtain ⟨A, n, c, e, hd, hn, hb⟩ := r.rep
  have c0 : w.cell? ⟨q, 0, none⟩ = some (.pointer (some ⟨h, 0, none⟩)) := cell_of e 0
  have c1 : w.cell? ⟨q, 1, none⟩ = some (.bool false) := cell_of e 1
  have c2 : w.cell? ⟨q, 2, none⟩ = some (.slice A n c) := cell_of e 2
  have c3 : w.cell? ⟨q, 3, none⟩ = some (.bool (Option.isSome (tl : Option (List Hdr)))) := cell_of e 3
  have cz := frozen_of e
  have hne := r.ne
  have hlt := r.lt
  have hself := r.ring.self
  have hqh : q ≠ h := fun e1 => hne (e1 ▸ hself)
  have hhl := hlt.2 h hself
  have H := Lib.hid r
  have HE := Lib.hid (show w.heap[q]? = some (.cells #[.pointer (some ⟨h, 0, none⟩), .bool false, .slice A n c, .bool (Option.isSome (tl : Option (List Hdr)))] 134) from e)
  have HR : Hid (Rf w h S C l) := r.ring
  have HD : Hid (Hd w A n c (Option.getD (tl : Option (List Hdr)) []) ∧ n ≤ 140737488351232 ∧ (0 < n → ∀ b, b ∈ ob A → b ≠ q ∧ b ∉ S ∧ b ∈ D)) := ⟨hd, hn, hb⟩
  clear hd hn hb e r hself
  obtain ⟨RA, rc, hrc⟩ := HR.out.rcell
  go_enter Try.func138, Try.ntmps138
  go_wp2
  go_ret
  exact ⟨rfl, rfl⟩
set_option maxHeartbeats 1000000 in
set_option maxRecDepth 100000 in
theorem RpDoneB0 {w : World} {q h C : Nat} {S D : List Nat} {l : List UInt8} {tl : Option (List Hdr)} (r : Rp w q h S D C ⟨l, false, tl⟩) (N : Int) (hN : 0 ≤ N) (hL : (l.length : Int) < N) : Calls Try.prog 138 #[.pointer (some ⟨q, 0, none⟩), .int .i64 N] w fun e w' => e = .returned (.int .i64 1) ∧ w = w' := by
  obtain ⟨A, n, c, e, hd, hn, hb⟩ := r.rep
  have c0 : w.cell? ⟨q, 0, none⟩ = some (.pointer (some ⟨h, 0, none⟩)) := cell_of e 0
  have c1 : w.cell? ⟨q, 1, none⟩ = some (.bool false) := cell_of e 1
  have c2 : w.cell? ⟨q, 2, none⟩ = some (.slice A n c) := cell_of e 2
  have c3 : w.cell? ⟨q, 3, none⟩ = some (.bool (Option.isSome (tl : Option (List Hdr)))) := cell_of e 3
  have cz := frozen_of e
  have hne := r.ne
  have hlt := r.lt
  have hself := r.ring.self
  have hqh : q ≠ h := fun e1 => hne (e1 ▸ hself)
  have hhl := hlt.2 h hself
  have H := Lib.hid r
  have HE := Lib.hid (show w.heap[q]? = some (.cells #[.pointer (some ⟨h, 0, none⟩), .bool false, .slice A n c, .bool (Option.isSome (tl : Option (List Hdr)))] 134) from e)
  have HR : Hid (Rf w h S C l) := r.ring
  have HD : Hid (Hd w A n c (Option.getD (tl : Option (List Hdr)) []) ∧ n ≤ 140737488351232 ∧ (0 < n → ∀ b, b ∈ ob A → b ≠ q ∧ b ∉ S ∧ b ∈ D)) := ⟨hd, hn, hb⟩
  clear hd hn hb e r hself
  obtain ⟨RA, rc, hrc⟩ := HR.out.rcell
  go_enter Try.func138, Try.ntmps138
  go_wp2
  go_ret
  exact ⟨rfl, rfl⟩
set_option maxHeartbeats 1000000 in
set_option maxRecDepth 100000 in
theorem RpDoneC0 {w : World} {q h C : Nat} {S D : List Nat} {l : List UInt8} {tl : Option (List Hdr)} (r : Rp w q h S D C ⟨l, false, tl⟩) (N : Nat) (hL : N ≤ l.length) : Calls Try.prog 138 #[.pointer (some ⟨q, 0, none⟩), .int .i64 N] w fun e w' => e = .returned (.int .i64 0) ∧ Kp S w w' ∧ ∃ S', Nw S S' w ∧ Rp w' q h S' D C ⟨l.drop N, false, tl⟩ := by
  obtain ⟨A, n, c, e, hd, hn, hb⟩ := r.rep
  have c0 : w.cell? ⟨q, 0, none⟩ = some (.pointer (some ⟨h, 0, none⟩)) := cell_of e 0
  have c1 : w.cell? ⟨q, 1, none⟩ = some (.bool false) := cell_of e 1
  have c2 : w.cell? ⟨q, 2, none⟩ = some (.slice A n c) := cell_of e 2
  have c3 : w.cell? ⟨q, 3, none⟩ = some (.bool (Option.isSome (tl : Option (List Hdr)))) := cell_of e 3
  have cz := frozen_of e
  have hne := r.ne
  have hlt := r.lt
  have hself := r.ring.self
  have hqh : q ≠ h := fun e1 => hne (e1 ▸ hself)
  have hhl := hlt.2 h hself
  have H := Lib.hid r
  have HE := Lib.hid (show w.heap[q]? = some (.cells #[.pointer (some ⟨h, 0, none⟩), .bool false, .slice A n c, .bool (Option.isSome (tl : Option (List Hdr)))] 134) from e)
  have HR : Hid (Rf w h S C l) := r.ring
  have HD : Hid (Hd w A n c (Option.getD (tl : Option (List Hdr)) []) ∧ n ≤ 140737488351232 ∧ (0 < n → ∀ b, b ∈ ob A → b ≠ q ∧ b ∉ S ∧ b ∈ D)) := ⟨hd, hn, hb⟩
  clear hd hn hb e r hself
  obtain ⟨RA, rc, hrc⟩ := HR.out.rcell
  go_enter Try.func138, Try.ntmps138
  go_wp2_with fail
  refine (RfDrop HR.out _).mono ?_
  rintro e w2 ⟨rfl, K2, S', hS', R2⟩
  have e1 : mostN (N : Int) l.length = N := by unfold mostN; omega
  rw [e1] at R2
  have H2 := Lib.hid (H.out.ringed K2 hS' R2)
  clear e1 R2
  go_wp2
  go_ret
  exact ⟨rfl, K2, S', hS', H2.out⟩
set_option maxHeartbeats 1000000 in
set_option maxRecDepth 100000 in
theorem RpDoneA1 {w : World} {q h C : Nat} {S D : List Nat} {l : List UInt8} {tl : Option (List Hdr)} (r : Rp w q h S D C ⟨l, true, tl⟩) (N : Int) (hN : N < 0) : Calls Try.prog 138 #[.pointer (some ⟨q, 0, none⟩), .int .i64 N] w fun e w' => e = .returned (.int .i64 1) ∧ w = w' := by
  obtain ⟨A, n, c, e, hd, hn, hb⟩ := r.rep
  have c0 : w.cell? ⟨q, 0, none⟩ = some (.pointer (some ⟨h, 0, none⟩)) := cell_of e 0
  have c1 : w.cell? ⟨q, 1, none⟩ = some (.bool true) := cell_of e 1
  have c2 : w.cell? ⟨q, 2, none⟩ = some (.slice A n c) := cell_of e 2
  have c3 : w.cell? ⟨q, 3, none⟩ = some (.bool (Option.isSome (tl : Option (List Hdr)))) := cell_of e 3
  have cz := frozen_of e
  have hne := r.ne
  have hlt := r.lt
  have hself := r.ring.self
  have hqh : q ≠ h := fun e1 => hne (e1 ▸ hself)
  have hhl := hlt.2 h hself
  have H := Lib.hid r
  have HE := Lib.hid (show w.heap[q]? = some (.cells #[.pointer (some ⟨h, 0, none⟩), .bool true, .slice A n c, .bool (Option.isSome (tl : Option (List Hdr)))] 134) from e)
  have HR : Hid (Rf w h S C l) := r.ring
  have HD : Hid (Hd w A n c (Option.getD (tl : Option (List Hdr)) []) ∧ n ≤ 140737488351232 ∧ (0 < n → ∀ b, b ∈ ob A → b ≠ q ∧ b ∉ S ∧ b ∈ D)) := ⟨hd, hn, hb⟩
  clear hd hn hb e r hself
  obtain ⟨RA, rc, hrc⟩ := HR.out.rcell
  go_enter Try.func138, Try.ntmps138
  go_wp2
  go_ret
  exact ⟨rfl, rfl⟩
set_option maxHeartbeats 1000000 in
set_option maxRecDepth 100000 in
theorem RpDoneB1 {w : World} {q h C : Nat} {S D : List Nat} {l : List UInt8} {tl : Option (List Hdr)} (r : Rp w q h S D C ⟨l, true, tl⟩) (N : Int) (hN : 0 ≤ N) (hL : (l.length : Int) < N) : Calls Try.prog 138 #[.pointer (some ⟨q, 0, none⟩), .int .i64 N] w fun e w' => e = .returned (.int .i64 1) ∧ w = w' := by
  obtain ⟨A, n, c, e, hd, hn, hb⟩ := r.rep
  have c0 : w.cell? ⟨q, 0, none⟩ = some (.pointer (some ⟨h, 0, none⟩)) := cell_of e 0
  have c1 : w.cell? ⟨q, 1, none⟩ = some (.bool true) := cell_of e 1
  have c2 : w.cell? ⟨q, 2, none⟩ = some (.slice A n c) := cell_of e 2
  have c3 : w.cell? ⟨q, 3, none⟩ = some (.bool (Option.isSome (tl : Option (List Hdr)))) := cell_of e 3
  have cz := frozen_of e
  have hne := r.ne
  have hlt := r.lt
  have hself := r.ring.self
  have hqh : q ≠ h := fun e1 => hne (e1 ▸ hself)
  have hhl := hlt.2 h hself
  have H := Lib.hid r
  have HE := Lib.hid (show w.heap[q]? = some (.cells #[.pointer (some ⟨h, 0, none⟩), .bool true, .slice A n c, .bool (Option.isSome (tl : Option (List Hdr)))] 134) from e)
  have HR : Hid (Rf w h S C l) := r.ring
  have HD : Hid (Hd w A n c (Option.getD (tl : Option (List Hdr)) []) ∧ n ≤ 140737488351232 ∧ (0 < n → ∀ b, b ∈ ob A → b ≠ q ∧ b ∉ S ∧ b ∈ D)) := ⟨hd, hn, hb⟩
  clear hd hn hb e r hself
  obtain ⟨RA, rc, hrc⟩ := HR.out.rcell
  go_enter Try.func138, Try.ntmps138
  go_wp2
  go_ret
  exact ⟨rfl, rfl⟩
set_option maxHeartbeats 1000000 in
set_option maxRecDepth 100000 in
theorem RpDoneC1 {w : World} {q h C : Nat} {S D : List Nat} {l : List UInt8} {tl : Option (List Hdr)} (r : Rp w q h S D C ⟨l, true, tl⟩) (N : Nat) (hL : N ≤ l.length) : Calls Try.prog 138 #[.pointer (some ⟨q, 0, none⟩), .int .i64 N] w fun e w' => e = .returned (.int .i64 0) ∧ Kp S w w' ∧ ∃ S', Nw S S' w ∧ Rp w' q h S' D C ⟨l.drop N, true, tl⟩ := by
  obtain ⟨A, n, c, e, hd, hn, hb⟩ := r.rep
  have c0 : w.cell? ⟨q, 0, none⟩ = some (.pointer (some ⟨h, 0, none⟩)) := cell_of e 0
  have c1 : w.cell? ⟨q, 1, none⟩ = some (.bool true) := cell_of e 1
  have c2 : w.cell? ⟨q, 2, none⟩ = some (.slice A n c) := cell_of e 2
  have c3 : w.cell? ⟨q, 3, none⟩ = some (.bool (Option.isSome (tl : Option (List Hdr)))) := cell_of e 3
  have cz := frozen_of e
  have hne := r.ne
  have hlt := r.lt
  have hself := r.ring.self
  have hqh : q ≠ h := fun e1 => hne (e1 ▸ hself)
  have hhl := hlt.2 h hself
  have H := Lib.hid r
  have HE := Lib.hid (show w.heap[q]? = some (.cells #[.pointer (some ⟨h, 0, none⟩), .bool true, .slice A n c, .bool (Option.isSome (tl : Option (List Hdr)))] 134) from e)
  have HR : Hid (Rf w h S C l) := r.ring
  have HD : Hid (Hd w A n c (Option.getD (tl : Option (List Hdr)) []) ∧ n ≤ 140737488351232 ∧ (0 < n → ∀ b, b ∈ ob A → b ≠ q ∧ b ∉ S ∧ b ∈ D)) := ⟨hd, hn, hb⟩
  clear hd hn hb e r hself
  obtain ⟨RA, rc, hrc⟩ := HR.out.rcell
  go_enter Try.func138, Try.ntmps138
  go_wp2_with fail
  refine (RfDrop HR.out _).mono ?_
  rintro e w2 ⟨rfl, K2, S', hS', R2⟩
  have e1 : mostN (N : Int) l.length = N := by unfold mostN; omega
  rw [e1] at R2
  have H2 := Lib.hid (H.out.ringed K2 hS' R2)
  clear e1 R2
  go_wp2
  go_ret
  exact ⟨rfl, K2, S', hS', H2.out⟩
set_option maxHeartbeats 1000000 in
set_option maxRecDepth 100000 in
theorem RpTail1 {w : World} {q h C : Nat} {S D : List Nat} {l : List UInt8} {tl : Option (List Hdr)} (r : Rp w q h S D C ⟨l, true, tl⟩) (B : Option Addr) (m d : Nat) : Calls Try.prog 140 #[.pointer (some ⟨q, 0, none⟩), .slice B m d] w fun e w' => e = .returned (.int .i64 5) ∧ w = w' := by
  obtain ⟨A, n, c, e, hd, hn, hb⟩ := r.rep
  have c0 : w.cell? ⟨q, 0, none⟩ = some (.pointer (some ⟨h, 0, none⟩)) := cell_of e 0
  have c1 : w.cell? ⟨q, 1, none⟩ = some (.bool true) := cell_of e 1
  have c2 : w.cell? ⟨q, 2, none⟩ = some (.slice A n c) := cell_of e 2
  have c3 : w.cell? ⟨q, 3, none⟩ = some (.bool (Option.isSome (tl : Option (List Hdr)))) := cell_of e 3
  have cz := frozen_of e
  have hne := r.ne
  have hlt := r.lt
  have hself := r.ring.self
  have hqh : q ≠ h := fun e1 => hne (e1 ▸ hself)
  have hhl := hlt.2 h hself
  have H := Lib.hid r
  have HE := Lib.hid (show w.heap[q]? = some (.cells #[.pointer (some ⟨h, 0, none⟩), .bool true, .slice A n c, .bool (Option.isSome (tl : Option (List Hdr)))] 134) from e)
  have HR : Hid (Rf w h S C l) := r.ring
  have HD : Hid (Hd w A n c (Option.getD (tl : Option (List Hdr)) []) ∧ n ≤ 140737488351232 ∧ (0 < n → ∀ b, b ∈ ob A → b ≠ q ∧ b ∉ S ∧ b ∈ D)) := ⟨hd, hn, hb⟩
  clear hd hn hb e r hself
  go_enter Try.func140, Try.ntmps140
  go_wp2
  go_ret
  exact ⟨rfl, rfl⟩
set_option maxHeartbeats 1000000 in
set_option maxRecDepth 100000 in
theorem RpTail0 {w : World} {q h C : Nat} {S D : List Nat} {l : List UInt8} {tl : Option (List Hdr)} (r : Rp w q h S D C ⟨l, false, tl⟩) (B : Option Addr) (m d : Nat) (hs : List Hdr) (hx : Hd w B m d hs) (hm : m * 40 ≤ 140737488351232) (hxb : 0 < m → ∀ b, b ∈ ob B → b ≠ q) : Calls Try.prog 140 #[.pointer (some ⟨q, 0, none⟩), .slice B m d] w fun e w' => e = .returned (.int .i64 0) ∧ Kp [q] w w' ∧ ∃ D', (∀ d, d ∈ D' → w.heap.size ≤ d) ∧ Rp w' q h S D' C ⟨l, true, some hs⟩ := by
  obtain ⟨A, n, c, e, hd, hn, hb⟩ := r.rep
  have c0 : w.cell? ⟨q, 0, none⟩ = some (.pointer (some ⟨h, 0, none⟩)) := cell_of e 0
  have c1 : w.cell? ⟨q, 1, none⟩ = some (.bool false) := cell_of e 1
  have c2 : w.cell? ⟨q, 2, none⟩ = some (.slice A n c) := cell_of e 2
  have c3 : w.cell? ⟨q, 3, none⟩ = some (.bool (Option.isSome (tl : Option (List Hdr)))) := cell_of e 3
  have cz := frozen_of e
  have hne := r.ne
  have hlt := r.lt
  have hself := r.ring.self
  have hqh : q ≠ h := fun e1 => hne (e1 ▸ hself)
  have hhl := hlt.2 h hself
  have H := Lib.hid r
  have HE := Lib.hid (show w.heap[q]? = some (.cells #[.pointer (some ⟨h, 0, none⟩), .bool false, .slice A n c, .bool (Option.isSome (tl : Option (List Hdr)))] 134) from e)
  have HR : Hid (Rf w h S C l) := r.ring
  have HD : Hid (Hd w A n c (Option.getD (tl : Option (List Hdr)) []) ∧ n ≤ 140737488351232 ∧ (0 < n → ∀ b, b ∈ ob A → b ≠ q ∧ b ∉ S ∧ b ∈ D)) := ⟨hd, hn, hb⟩
  clear hd hn hb e r hself
  have HX := Lib.hid hx
  clear hx
  go_enter Try.func140, Try.ntmps140
  go_wp2_with (with_reducible refine stopAt (o := ⟨some 15, _, _, _, _, _⟩) ?_)
  have K1 : Kp [q] w ((w.setCell ⟨q, 1, none⟩ (.bool true)).alloc (.cells #[] 179)) := ((Kp.refl [q] _).setCell (.inl (by simp)) _).alloc _
  have E1 := (hp_old _ (.cells #[] 179) q (by simp; omega)).trans (hp_set w q 1 (.bool true) _ _ HE.out)
  have hml := HX.out.len
  refine Stop.go (wp_app rfl _ _ 110 179 _ 3 40 rfl Try.underlying110 Try.infoHd (by rfl) (by omega) w.heap.size (some ⟨w.heap.size, 0, none⟩) 0 0 [] rfl (Ow.emptyX (w.setCell ⟨q, 1, none⟩ (.bool true)) w.heap.size w.heap.size 179 3 (by simp) (Nat.le_refl _)) B m d (hcells hs) rfl (by rw [hcells_len, hml])
    (HX.out.keep K1 (by intro hp b hb hs1; have := hxb hp b hb; simp at hs1; exact this hs1)).at_ (hcells_one hs) (by simp only [maxLen]; omega) (by omega) (by simp) ?_)
  intro A2 k2 c2' w2 hk2 O2 K2 hA2
  obtain rfl : k2 = m := by have := hk2.out; omega
  have E2 := Lib.hid (K2.heap E1 (by simp [ob]; omega))
  have q2 : Kp [q] w w2 := K1.then K2 (by intro t ht; simp [ob] at ht; exact .inr (by omega))
  have HO2 : Hid (Ow w2 w.heap.size 179 3 A2 k2 c2' (hcells hs)) := by have h0 := O2; simp only [List.nil_append] at h0; exact h0
  have e0 := cell_of E2.out 0
  have e2 := cell_of E2.out 2
  have e3 := cell_of E2.out 3
  have ez := frozen_of E2.out
  have ql2 := lt_of_heap E2.out
  clear c0 c1 c2 c3 cz K1 E1 K2 O2 hA2 hk2
  go_wp2
  go_ret
  have K4 : Kp [q] w2 ((w2.setCell ⟨q, 2, none⟩ (.slice A2 k2 c2')).setCell ⟨q, 3, none⟩ (.bool true)) := ((Kp.refl [q] _).setCell (.inl (by simp)) _).setCell (.inl (by simp)) _
  have q4 := q2.trans K4
  have hb2 := HO2.out.base
  refine ⟨rfl, q4, ob A2, fun d hd => (hb2 d hd).1, hne, HR.out.keep q4 (by intro x hx hq; simp at hq; subst hq; exact hne hx), A2, k2, c2', hp_set _ q 3 _ _ _ (hp_set w2 q 2 _ _ _ E2.out), (HO2.out.keep K4 (fun b hb hs1 => by have := (hb2 b hb).1; simp at hs1; omega)).hd, by omega, fun hp b hb => ⟨by have := (hb2 b hb).1; omega, fun hs1 => by have := (hb2 b hb).1; have := hlt.2 b hs1; omega, hb⟩⟩
set_option maxHeartbeats 1000000 in
set_option maxRecDepth 100000 in
theorem RpLastN {w : World} {q h C : Nat} {S D : List Nat} {l : List UInt8} {cl : Bool} (r : Rp w q h S D C ⟨l, cl, none⟩) : Calls Try.prog 141 #[.pointer (some ⟨q, 0, none⟩)] w fun e w' => e = .returned (.tuple #[.slice none 0 0, .bool false]) ∧ w = w' := by
  obtain ⟨A, n, c, e, hd, hn, hb⟩ := r.rep
  have c0 : w.cell? ⟨q, 0, none⟩ = some (.pointer (some ⟨h, 0, none⟩)) := cell_of e 0
  have c1 : w.cell? ⟨q, 1, none⟩ = some (.bool cl) := cell_of e 1
  have c2 : w.cell? ⟨q, 2, none⟩ = some (.slice A n c) := cell_of e 2
  have c3 : w.cell? ⟨q, 3, none⟩ = some (.bool (Option.isSome (none : Option (List Hdr)))) := cell_of e 3
  have cz := frozen_of e
  have hne := r.ne
  have hlt := r.lt
  have hself := r.ring.self
  have hqh : q ≠ h := fun e1 => hne (e1 ▸ hself)
  have hhl := hlt.2 h hself
  have H := Lib.hid r
  have HE := Lib.hid (show w.heap[q]? = some (.cells #[.pointer (some ⟨h, 0, none⟩), .bool cl, .slice A n c, .bool (Option.isSome (none : Option (List Hdr)))] 134) from e)
  have HR : Hid (Rf w h S C l) := r.ring
  have HD : Hid (Hd w A n c (Option.getD (none : Option (List Hdr)) []) ∧ n ≤ 140737488351232 ∧ (0 < n → ∀ b, b ∈ ob A → b ≠ q ∧ b ∉ S ∧ b ∈ D)) := ⟨hd, hn, hb⟩
  clear hd hn hb e r hself
  go_enter Try.func141, Try.ntmps141
  go_wp2
  go_ret2
  exact ⟨rfl, rfl⟩
set_option maxHeartbeats 1000000 in
set_option maxRecDepth 100000 in
theorem RpLastL {w : World} {q h C : Nat} {S D : List Nat} {l : List UInt8} {cl : Bool} {hs : List Hdr} (r : Rp w q h S D C ⟨l, cl, some hs⟩) (hl : 0 < l.length) : Calls Try.prog 141 #[.pointer (some ⟨q, 0, none⟩)] w fun e w' => e = .returned (.tuple #[.slice none 0 0, .bool false]) ∧ w = w' := by
  obtain ⟨A, n, c, e, hd, hn, hb⟩ := r.rep
  have c0 : w.cell? ⟨q, 0, none⟩ = some (.pointer (some ⟨h, 0, none⟩)) := cell_of e 0
  have c1 : w.cell? ⟨q, 1, none⟩ = some (.bool cl) := cell_of e 1
  have c2 : w.cell? ⟨q, 2, none⟩ = some (.slice A n c) := cell_of e 2
  have c3 : w.cell? ⟨q, 3, none⟩ = some (.bool (Option.isSome (some hs : Option (List Hdr)))) := cell_of e 3
  have cz := frozen_of e
  have hne := r.ne
  have hlt := r.lt
  have hself := r.ring.self
  have hqh : q ≠ h := fun e1 => hne (e1 ▸ hself)
  have hhl := hlt.2 h hself
  have H := Lib.hid r
  have HE := Lib.hid (show w.heap[q]? = some (.cells #[.pointer (some ⟨h, 0, none⟩), .bool cl, .slice A n c, .bool (Option.isSome (some hs : Option (List Hdr)))] 134) from e)
  have HR : Hid (Rf w h S C l) := r.ring
  have HD : Hid (Hd w A n c (Option.getD (some hs : Option (List Hdr)) []) ∧ n ≤ 140737488351232 ∧ (0 < n → ∀ b, b ∈ ob A → b ≠ q ∧ b ∉ S ∧ b ∈ D)) := ⟨hd, hn, hb⟩
  clear hd hn hb e r hself
  obtain ⟨RA, rc, hrc⟩ := HR.out.rcell
  go_enter Try.func141, Try.ntmps141
  have hl' : (0 : Int) < (l.length : Int) := by omega
  go_wp2
  go_ret2
  exact ⟨rfl, rfl⟩
set_option maxHeartbeats 1000000 in
set_option maxRecDepth 100000 in
theorem RpLast0 {w : World} {q h C : Nat} {S D : List Nat} {cl : Bool} {hs : List Hdr} (r : Rp w q h S D C ⟨[], cl, some hs⟩) : Calls Try.prog 141 #[.pointer (some ⟨q, 0, none⟩)] w fun e w' => ∃ A n c, e = .returned (.tuple #[.slice A n c, .bool true]) ∧ Hd w' A n c hs ∧ (0 < n → ∀ b, b ∈ ob A → b < w.heap.size ∧ b ≠ q ∧ b ∉ S ∧ b ∈ D) ∧ Kp [q] w w' ∧ Rp w' q h S D C ⟨[], cl, none⟩ := by
  obtain ⟨A, n, c, e, hd, hn, hb⟩ := r.rep
  have c0 : w.cell? ⟨q, 0, none⟩ = some (.pointer (some ⟨h, 0, none⟩)) := cell_of e 0
  have c1 : w.cell? ⟨q, 1, none⟩ = some (.bool cl) := cell_of e 1
  have c2 : w.cell? ⟨q, 2, none⟩ = some (.slice A n c) := cell_of e 2
  have c3 : w.cell? ⟨q, 3, none⟩ = some (.bool (Option.isSome (some hs : Option (List Hdr)))) := cell_of e 3
  have cz := frozen_of e
  have hne := r.ne
  have hlt := r.lt
  have hself := r.ring.self
  have hqh : q ≠ h := fun e1 => hne (e1 ▸ hself)
  have hhl := hlt.2 h hself
  have H := Lib.hid r
  have HE := Lib.hid (show w.heap[q]? = some (.cells #[.pointer (some ⟨h, 0, none⟩), .bool cl, .slice A n c, .bool (Option.isSome (some hs : Option (List Hdr)))] 134) from e)
  have HR : Hid (Rf w h S C []) := r.ring
  have HD : Hid (Hd w A n c (Option.getD (some hs : Option (List Hdr)) []) ∧ n ≤ 140737488351232 ∧ (0 < n → ∀ b, b ∈ ob A → b ≠ q ∧ b ∉ S ∧ b ∈ D)) := ⟨hd, hn, hb⟩
  clear hd hn hb e r hself
  obtain ⟨RA, rc, hrc⟩ := HR.out.rcell
  have hrc : w.cell? ⟨h, 0, none⟩ = some (.slice RA 0 rc) := hrc
  go_enter Try.func141, Try.ntmps141
  go_wp2
  go_ret2
  have K2 : Kp [q] w ((w.setCell ⟨q, 2, none⟩ (.slice none 0 0)).setCell ⟨q, 3, none⟩ (.bool false)) := ((Kp.refl [q] _).setCell (.inl (by simp)) _).setCell (.inl (by simp)) _
  refine ⟨A, n, c, rfl, HD.out.1.keep K2 (fun hp b hb hs1 => by have := (HD.out.2.2 hp b hb).1; simp at hs1; exact this hs1), fun hp b hb => ⟨HD.out.1.lt hp b hb, HD.out.2.2 hp b hb⟩, K2, hne, HR.out.keep K2 (by intro x hx hq; simp at hq; subst hq; exact hne hx), none, 0, 0, hp_set _ q 3 _ _ _ (hp_set w q 2 _ _ _ HE.out), Hd.nil _ _ _, by omega, by omega⟩
set_option maxHeartbeats 1000000 in
set_option maxRecDepth 100000 in
theorem RpNext00 {w : World} {q h C : Nat} {S D : List Nat} {l : List UInt8} (r : Rp w q h S D C ⟨l, false, none⟩) (N : Int) : Calls Try.prog 137 #[.pointer (some ⟨q, 0, none⟩), .int .i64 N] w fun e w' => ∃ A k c, e = .returned (.tuple #[.slice A k c, .bool false]) ∧ Ow w' w.heap.size 5 1 A k c ((l.take (mostN N l.length)).map u8) ∧ Kp [] w w' := by
  obtain ⟨A, n, c, e, hd, hn, hb⟩ := r.rep
  have c0 : w.cell? ⟨q, 0, none⟩ = some (.pointer (some ⟨h, 0, none⟩)) := cell_of e 0
  have c1 : w.cell? ⟨q, 1, none⟩ = some (.bool false) := cell_of e 1
  have c2 : w.cell? ⟨q, 2, none⟩ = some (.slice A n c) := cell_of e 2
  have c3 : w.cell? ⟨q, 3, none⟩ = some (.bool (Option.isSome (none : Option (List Hdr)))) := cell_of e 3
  have cz := frozen_of e
  have hne := r.ne
  have hlt := r.lt
  have hself := r.ring.self
  have hqh : q ≠ h := fun e1 => hne (e1 ▸ hself)
  have hhl := hlt.2 h hself
  have H := Lib.hid r
  have HE := Lib.hid (show w.heap[q]? = some (.cells #[.pointer (some ⟨h, 0, none⟩), .bool false, .slice A n c, .bool (Option.isSome (none : Option (List Hdr)))] 134) from e)
  have HR : Hid (Rf w h S C l) := r.ring
  have HD : Hid (Hd w A n c (Option.getD (none : Option (List Hdr)) []) ∧ n ≤ 140737488351232 ∧ (0 < n → ∀ b, b ∈ ob A → b ≠ q ∧ b ∉ S ∧ b ∈ D)) := ⟨hd, hn, hb⟩
  clear hd hn hb e r hself
  go_enter Try.func137, Try.ntmps137
  go_wp2_with fail
  refine (RfPeek HR.out N).mono ?_
  rintro e w1 ⟨A1, k1, c1', rfl, O1, K1⟩
  obtain ⟨RA, rc, hrc⟩ := (HR.out.keep K1 (by simp)).rcell
  have hk1 : k1 = mostN N l.length := by have h1 := O1.len; have := mostN_le N l.length; simp at h1; omega
  subst hk1
  have HO1 := Lib.hid O1
  have E1 := K1.heap HE.out (by simp)
  have d0 : w1.cell? ⟨q, 0, none⟩ = some (.pointer (some ⟨h, 0, none⟩)) := cell_of E1 0
  have d1 : w1.cell? ⟨q, 1, none⟩ = some (.bool false) := cell_of E1 1
  have d3 : w1.cell? ⟨q, 3, none⟩ = some (.bool false) := cell_of E1 3
  have HK1 := Lib.hid K1
  clear O1 K1 E1 c0 c1 c2 c3 cz
  generalize hmm : mostN N l.length = m at *
  have HMM := Lib.hid hmm
  clear hmm
  by_cases hmn : m = l.length
  · have ht : ((m : Int) == (l.length : Int)) = true := by simp [hmn]
    have HMN := Lib.hid hmn
    clear hmn
    go_wp2
    go_quiet (fail)
    go_wp2
    go_ret2
    refine ⟨A1, m, c1', ?_, by rw [HMM.out]; exact HO1.out.keep ((Kp.refl [] _).drewN _) (by simp), HK1.out.drewN _⟩
    rfl
  · have ht : ((m : Int) == (l.length : Int)) = false := by simp; omega
    go_wp2
    go_quiet (fail)
    go_wp2
    go_ret2
    refine ⟨A1, m, c1', ?_, by rw [HMM.out]; exact HO1.out.keep ((Kp.refl [] _).drewN _) (by simp), HK1.out.drewN _⟩
    rfl
set_option maxHeartbeats 1000000 in
set_option maxRecDepth 100000 in
theorem RpNext10 {w : World} {q h C : Nat} {S D : List Nat} {l : List UInt8} (r : Rp w q h S D C ⟨l, true, none⟩) (N : Int) : Calls Try.prog 137 #[.pointer (some ⟨q, 0, none⟩), .int .i64 N] w fun e w' => ∃ A k c, e = .returned (.tuple #[.slice A k c, .bool (decide (mostN N l.length = l.length))]) ∧ Ow w' w.heap.size 5 1 A k c ((l.take (mostN N l.length)).map u8) ∧ Kp [] w w' := by
  obtain ⟨A, n, c, e, hd, hn, hb⟩ := r.rep
  have c0 : w.cell? ⟨q, 0, none⟩ = some (.pointer (some ⟨h, 0, none⟩)) := cell_of e 0
  have c1 : w.cell? ⟨q, 1, none⟩ = some (.bool true) := cell_of e 1
  have c2 : w.cell? ⟨q, 2, none⟩ = some (.slice A n c) := cell_of e 2
  have c3 : w.cell? ⟨q, 3, none⟩ = some (.bool (Option.isSome (none : Option (List Hdr)))) := cell_of e 3
  have cz := frozen_of e
  have hne := r.ne
  have hlt := r.lt
  have hself := r.ring.self
  have hqh : q ≠ h := fun e1 => hne (e1 ▸ hself)
  have hhl := hlt.2 h hself
  have H := Lib.hid r
  have HE := Lib.hid (show w.heap[q]? = some (.cells #[.pointer (some ⟨h, 0, none⟩), .bool true, .slice A n c, .bool (Option.isSome (none : Option (List Hdr)))] 134) from e)
  have HR : Hid (Rf w h S C l) := r.ring
  have HD : Hid (Hd w A n c (Option.getD (none : Option (List Hdr)) []) ∧ n ≤ 140737488351232 ∧ (0 < n → ∀ b, b ∈ ob A → b ≠ q ∧ b ∉ S ∧ b ∈ D)) := ⟨hd, hn, hb⟩
  clear hd hn hb e r hself
  go_enter Try.func137, Try.ntmps137
  go_wp2_with fail
  refine (RfPeek HR.out N).mono ?_
  rintro e w1 ⟨A1, k1, c1', rfl, O1, K1⟩
  obtain ⟨RA, rc, hrc⟩ := (HR.out.keep K1 (by simp)).rcell
  have hk1 : k1 = mostN N l.length := by have h1 := O1.len; have := mostN_le N l.length; simp at h1; omega
  subst hk1
  have HO1 := Lib.hid O1
  have E1 := K1.heap HE.out (by simp)
  have d0 : w1.cell? ⟨q, 0, none⟩ = some (.pointer (some ⟨h, 0, none⟩)) := cell_of E1 0
  have d1 : w1.cell? ⟨q, 1, none⟩ = some (.bool true) := cell_of E1 1
  have d3 : w1.cell? ⟨q, 3, none⟩ = some (.bool false) := cell_of E1 3
  have HK1 := Lib.hid K1
  clear O1 K1 E1 c0 c1 c2 c3 cz
  generalize hmm : mostN N l.length = m at *
  have HMM := Lib.hid hmm
  clear hmm
  by_cases hmn : m = l.length
  · have ht : ((m : Int) == (l.length : Int)) = true := by simp [hmn]
    have HMN := Lib.hid hmn
    clear hmn
    go_wp2
    go_quiet (fail)
    go_wp2
    go_ret2
    refine ⟨A1, m, c1', ?_, by rw [HMM.out]; exact HO1.out.keep ((Kp.refl [] _).drewN _) (by simp), HK1.out.drewN _⟩
    rw [decide_eq_true (HMM.out.trans HMN.out)]; rfl
  · have ht : ((m : Int) == (l.length : Int)) = false := by simp; omega
    go_wp2
    go_quiet (fail)
    go_wp2
    go_ret2
    refine ⟨A1, m, c1', ?_, by rw [HMM.out]; exact HO1.out.keep ((Kp.refl [] _).drewN _) (by simp), HK1.out.drewN _⟩
    rw [decide_eq_false (by rw [HMM.out]; exact hmn)]; rfl
set_option maxHeartbeats 1000000 in
set_option maxRecDepth 100000 in
theorem RpNext01 {w : World} {q h C : Nat} {S D : List Nat} {l : List UInt8} {hs : List Hdr} (r : Rp w q h S D C ⟨l, false, some hs⟩) (N : Int) : Calls Try.prog 137 #[.pointer (some ⟨q, 0, none⟩), .int .i64 N] w fun e w' => ∃ A k c, e = .returned (.tuple #[.slice A k c, .bool false]) ∧ Ow w' w.heap.size 5 1 A k c ((l.take (mostN N l.length)).map u8) ∧ Kp [] w w' := by
  obtain ⟨A, n, c, e, hd, hn, hb⟩ := r.rep
  have c0 : w.cell? ⟨q, 0, none⟩ = some (.pointer (some ⟨h, 0, none⟩)) := cell_of e 0
  have c1 : w.cell? ⟨q, 1, none⟩ = some (.bool false) := cell_of e 1
  have c2 : w.cell? ⟨q, 2, none⟩ = some (.slice A n c) := cell_of e 2
  have c3 : w.cell? ⟨q, 3, none⟩ = some (.bool (Option.isSome (some hs : Option (List Hdr)))) := cell_of e 3
  have cz := frozen_of e
  have hne := r.ne
  have hlt := r.lt
  have hself := r.ring.self
  have hqh : q ≠ h := fun e1 => hne (e1 ▸ hself)
  have hhl := hlt.2 h hself
  have H := Lib.hid r
  have HE := Lib.hid (show w.heap[q]? = some (.cells #[.pointer (some ⟨h, 0, none⟩), .bool false, .slice A n c, .bool (Option.isSome (some hs : Option (List Hdr)))] 134) from e)
  have HR : Hid (Rf w h S C l) := r.ring
  have HD : Hid (Hd w A n c (Option.getD (some hs : Option (List Hdr)) []) ∧ n ≤ 140737488351232 ∧ (0 < n → ∀ b, b ∈ ob A → b ≠ q ∧ b ∉ S ∧ b ∈ D)) := ⟨hd, hn, hb⟩
  clear hd hn hb e r hself
  go_enter Try.func137, Try.ntmps137
  go_wp2_with fail
  refine (RfPeek HR.out N).mono ?_
  rintro e w1 ⟨A1, k1, c1', rfl, O1, K1⟩
  obtain ⟨RA, rc, hrc⟩ := (HR.out.keep K1 (by simp)).rcell
  have hk1 : k1 = mostN N l.length := by have h1 := O1.len; have := mostN_le N l.length; simp at h1; omega
  subst hk1
  have HO1 := Lib.hid O1
  have E1 := K1.heap HE.out (by simp)
  have d0 : w1.cell? ⟨q, 0, none⟩ = some (.pointer (some ⟨h, 0, none⟩)) := cell_of E1 0
  have d1 : w1.cell? ⟨q, 1, none⟩ = some (.bool false) := cell_of E1 1
  have d3 : w1.cell? ⟨q, 3, none⟩ = some (.bool true) := cell_of E1 3
  have HK1 := Lib.hid K1
  clear O1 K1 E1 c0 c1 c2 c3 cz
  generalize hmm : mostN N l.length = m at *
  have HMM := Lib.hid hmm
  clear hmm
  by_cases hmn : m = l.length
  · have ht : ((m : Int) == (l.length : Int)) = true := by simp [hmn]
    have HMN := Lib.hid hmn
    clear hmn
    go_wp2
    go_quiet (fail)
    go_wp2
    go_ret2
    refine ⟨A1, m, c1', ?_, by rw [HMM.out]; exact HO1.out.keep ((Kp.refl [] _).drewN _) (by simp), HK1.out.drewN _⟩
    rfl
  · have ht : ((m : Int) == (l.length : Int)) = false := by simp; omega
    go_wp2
    go_quiet (fail)
    go_wp2
    go_ret2
    refine ⟨A1, m, c1', ?_, by rw [HMM.out]; exact HO1.out.keep ((Kp.refl [] _).drewN _) (by simp), HK1.out.drewN _⟩
    rfl
set_option maxHeartbeats 1000000 in
set_option maxRecDepth 100000 in
theorem RpNext11 {w : World} {q h C : Nat} {S D : List Nat} {l : List UInt8} {hs : List Hdr} (r : Rp w q h S D C ⟨l, true, some hs⟩) (N : Int) : Calls Try.prog 137 #[.pointer (some ⟨q, 0, none⟩), .int .i64 N] w fun e w' => ∃ A k c, e = .returned (.tuple #[.slice A k c, .bool false]) ∧ Ow w' w.heap.size 5 1 A k c ((l.take (mostN N l.length)).map u8) ∧ Kp [] w w' := by
  obtain ⟨A, n, c, e, hd, hn, hb⟩ := r.rep
  have c0 : w.cell? ⟨q, 0, none⟩ = some (.pointer (some ⟨h, 0, none⟩)) := cell_of e 0
  have c1 : w.cell? ⟨q, 1, none⟩ = some (.bool true) := cell_of e 1
  have c2 : w.cell? ⟨q, 2, none⟩ = some (.slice A n c) := cell_of e 2
  have c3 : w.cell? ⟨q, 3, none⟩ = some (.bool (Option.isSome (some hs : Option (List Hdr)))) := cell_of e 3
  have cz := frozen_of e
  have hne := r.ne
  have hlt := r.lt
  have hself := r.ring.self
  have hqh : q ≠ h := fun e1 => hne (e1 ▸ hself)
  have hhl := hlt.2 h hself
  have H := Lib.hid r
  have HE := Lib.hid (show w.heap[q]? = some (.cells #[.pointer (some ⟨h, 0, none⟩), .bool true, .slice A n c, .bool (Option.isSome (some hs : Option (List Hdr)))] 134) from e)
  have HR : Hid (Rf w h S C l) := r.ring
  have HD : Hid (Hd w A n c (Option.getD (some hs : Option (List Hdr)) []) ∧ n ≤ 140737488351232 ∧ (0 < n → ∀ b, b ∈ ob A → b ≠ q ∧ b ∉ S ∧ b ∈ D)) := ⟨hd, hn, hb⟩
  clear hd hn hb e r hself
  go_enter Try.func137, Try.ntmps137
  go_wp2_with fail
  refine (RfPeek HR.out N).mono ?_
  rintro e w1 ⟨A1, k1, c1', rfl, O1, K1⟩
  obtain ⟨RA, rc, hrc⟩ := (HR.out.keep K1 (by simp)).rcell
  have hk1 : k1 = mostN N l.length := by have h1 := O1.len; have := mostN_le N l.length; simp at h1; omega
  subst hk1
  have HO1 := Lib.hid O1
  have E1 := K1.heap HE.out (by simp)
  have d0 : w1.cell? ⟨q, 0, none⟩ = some (.pointer (some ⟨h, 0, none⟩)) := cell_of E1 0
  have d1 : w1.cell? ⟨q, 1, none⟩ = some (.bool true) := cell_of E1 1
  have d3 : w1.cell? ⟨q, 3, none⟩ = some (.bool true) := cell_of E1 3
  have HK1 := Lib.hid K1
  clear O1 K1 E1 c0 c1 c2 c3 cz
  generalize hmm : mostN N l.length = m at *
  have HMM := Lib.hid hmm
  clear hmm
  by_cases hmn : m = l.length
  · have ht : ((m : Int) == (l.length : Int)) = true := by simp [hmn]
    have HMN := Lib.hid hmn
    clear hmn
    go_wp2
    go_quiet (fail)
    go_wp2
    go_ret2
    refine ⟨A1, m, c1', ?_, by rw [HMM.out]; exact HO1.out.keep ((Kp.refl [] _).drewN _) (by simp), HK1.out.drewN _⟩
    rfl
  · have ht : ((m : Int) == (l.length : Int)) = false := by simp; omega
    go_wp2
    go_quiet (fail)
    go_wp2
    go_ret2
    refine ⟨A1, m, c1', ?_, by rw [HMM.out]; exact HO1.out.keep ((Kp.refl [] _).drewN _) (by simp), HK1.out.drewN _⟩
    rfl
set_option maxHeartbeats 1000000 in
set_option maxRecDepth 100000 in
theorem RpCut {w : World} {q h C : Nat} {S D : List Nat} {l : List UInt8} {cl : Bool} {tl : Option (List Hdr)} (r : Rp w q h S D C ⟨l, cl, tl⟩) : Calls Try.prog 142 #[.pointer (some ⟨q, 0, none⟩)] w fun e w' => e = .returned (.tuple #[]) ∧ Kp [q, h] w w' ∧ Rp w' q h [h] [] C ⟨[], true, none⟩ := by
  obtain ⟨A, n, c, e, hd, hn, hb⟩ := r.rep
  have c0 : w.cell? ⟨q, 0, none⟩ = some (.pointer (some ⟨h, 0, none⟩)) := cell_of e 0
  have c1 : w.cell? ⟨q, 1, none⟩ = some (.bool cl) := cell_of e 1
  have c2 : w.cell? ⟨q, 2, none⟩ = some (.slice A n c) := cell_of e 2
  have c3 : w.cell? ⟨q, 3, none⟩ = some (.bool (Option.isSome (tl : Option (List Hdr)))) := cell_of e 3
  have cz := frozen_of e
  have hne := r.ne
  have hlt := r.lt
  have hself := r.ring.self
  have hqh : q ≠ h := fun e1 => hne (e1 ▸ hself)
  have hhl := hlt.2 h hself
  have H := Lib.hid r
  have HE := Lib.hid (show w.heap[q]? = some (.cells #[.pointer (some ⟨h, 0, none⟩), .bool cl, .slice A n c, .bool (Option.isSome (tl : Option (List Hdr)))] 134) from e)
  have HR : Hid (Rf w h S C l) := r.ring
  have HD : Hid (Hd w A n c (Option.getD (tl : Option (List Hdr)) []) ∧ n ≤ 140737488351232 ∧ (0 < n → ∀ b, b ∈ ob A → b ≠ q ∧ b ∉ S ∧ b ∈ D)) := ⟨hd, hn, hb⟩
  clear hd hn hb e r hself
  obtain ⟨RA, rc, _, _, eg, _⟩ := HR.out.rep
  have hrc := cell_of eg 0
  have hrz := frozen_of eg
  have HG := Lib.hid eg
  clear eg
  go_enter Try.func142, Try.ntmps142
  go_wp2
  have K4 : Kp [q, h] w ((((w.setCell ⟨h, 0, none⟩ (.slice none 0 0)).setCell ⟨q, 1, none⟩ (.bool true)).setCell ⟨q, 2, none⟩ (.slice none 0 0)).setCell ⟨q, 3, none⟩ (.bool false)) := ((((Kp.refl [q, h] _).setCell (.inl (by simp)) _).setCell (.inl (by simp)) _).setCell (.inl (by simp)) _).setCell (.inl (by simp)) _
  refine ⟨rfl, .tuple #[], by simp [results, Try.results142, go_sem], rfl, K4, by simpa using hqh, ⟨HR.out.cap, by simp, none, 0, rfl, by simp [ob], ?_, Ow.nil _ _ _ _⟩, none, 0, 0, hp_set _ q 3 _ _ _ (hp_set _ q 2 _ _ _ (hp_set _ q 1 _ _ _ ((hp_far _ _ _ _ (by simpa using hqh)).trans HE.out))), Hd.nil _ _ _, by omega, by omega⟩
  exact (hp_far _ _ _ _ (by simpa using hqh.symm)).trans ((hp_far _ _ _ _ (by simpa using hqh.symm)).trans ((hp_far _ _ _ _ (by simpa using hqh.symm)).trans (hp_set w h 0 _ _ _ HG.out)))
set_option maxHeartbeats 400000 in
theorem RpNew_no (n : Int) (h : n < 0 ∨ 65536 < n) (w : World) : Calls Try.prog 95 #[.int .i64 n] w fun e w' => e = .returned (.tuple #[.pointer none, .int .i64 1]) ∧ w = w' := by
  rcases h with h | h
  · go_enter Try.func95, Try.ntmps95
    go_wp2
    go_ret2
    exact ⟨rfl, rfl⟩
  · have h1 : decide (n < 0) = false := by simp <;> omega
    go_enter Try.func95, Try.ntmps95
    go_wp2
    go_ret2
    exact ⟨rfl, rfl⟩
set_option maxHeartbeats 400000 in
theorem RpNew (n : Nat) (h : n ≤ 65536) (w : World) : Calls Try.prog 95 #[.int .i64 n] w fun e w' => ∃ q h, e = .returned (.tuple #[.pointer (some ⟨q, 0, none⟩), .int .i64 0]) ∧ Rp w' q h [h] [] n ⟨[], false, none⟩ ∧ (w.heap.size ≤ q ∧ w.heap.size ≤ h) ∧ Kp [] w w' := by
  have h1 : decide ((n : Int) < 0) = false := by simp <;> omega
  have h2 : decide ((65536 : Int) < n) = false := by simp <;> omega
  go_enter Try.func95, Try.ntmps95
  go_wp2_with fail
  refine (RfNew n (by omega) w).mono ?_
  rintro e w1 ⟨rfl, R1, K1⟩
  have l1 := R1.lt w.heap.size (by simp)
  have HR1 := Lib.hid R1
  clear R1
  go_wp2
  go_ret2
  exact ⟨_, _, rfl, ⟨by simp; omega, HR1.out.keep ((Kp.refl [] _).alloc _) (by simp), none, 0, 0, hp_new _ _ _ rfl, Hd.nil _ _ _, by omega, by omega⟩, ⟨K1.size, Nat.le_refl _⟩, K1.alloc _⟩
end Go.Proofs.Ytkmcakneceagpaa
