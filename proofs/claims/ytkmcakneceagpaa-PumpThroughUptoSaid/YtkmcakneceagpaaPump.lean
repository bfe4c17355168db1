/- The pump of layer 20 (program). -/
import Derived.Test.YtkmcakneceagpaaHdr
set_option linter.unusedVariables false
set_option linter.unusedSimpArgs false
namespace Go.Proofs.Ytkmcakneceagpaa
open Go.RowKit
/-- 'make([]T, n)', T of several cells -/
theorem wp_makeRows {P : Program} {w : World} {ops : Array Oper} {rest : List Oper} {o : Oper} {a : Act} {Q : Exit → Act → World → Prop} (hgd : o.guard = none) (x y : Operand) (t e : TypeId) (z : Value) (size bytes : Nat) (hop : o.op = Op.makeSlice t x y)
    (ht : P.underlying t = some (.slice e)) (hi : (P.info? e).map (fun i => (i.zero, i.size, i.bytes)) = some (some z, size, bytes)) (n : Nat) (hx : a.eval x = .int .i64 n) (hy : a.eval y = .int .i64 n) (hn : bytes * n ≤ 281474976710656) (hm : n ≤ maxLen)
    (h : ∀ w' (cur : Array Value), cur.size = n * size → Hid (w'.heap[w.heap.size]? = some (.cells cur e (0, 0))) → Kp [] w w' → wpList P ops Q rest (a.put o.dst (.slice (some ⟨w.heap.size, 0, none⟩) n n)) w') : wpList P ops Q (o :: rest) a w := by
  obtain ⟨i, h2, h3, h4, h5⟩ := info_parts hi
  refine wpList_make_full w hgd x y t hop w.heap.size e i z size ht h2 h3 h4 .i64 .i64 n n n hx hy rfl rfl (by rw [h5]; exact hn) hm (Nat.le_refl _) ?_
  intro w' hown hgrow
  rcases hown.2 with ⟨he, _⟩ | ⟨g, cap, cur, he, _, hg, hnc, hcm, hcs, htake⟩
  · cases he
  · injection he with e1 _ e3
    injection e1 with e1
    injection e1 with e1
    subst e1 e3
    exact h w' cur hcs hg ⟨hgrow.os, hgrow.tape, hgrow.output, hgrow.size, fun k hk _ => hgrow.block k hk (by simp)⟩
/-- A pump's state: what it holds, is it closed, its trailers. -/
structure PSt where
  l : List UInt8
  cl : Bool
  tl : Option (List Hdr)
/-- A pump at block u; its ring at g, gb. -/
structure Pm (w : World) (u g gb C : Nat) (D : List Nat) (s : PSt) : Prop where
  ne : u ≠ g ∧ u ≠ gb
  ring : ∃ p, Rg w g gb C p s.l
  rep : ∃ A n c, w.heap[u]? = some (.cells #[.pointer (some ⟨g, 0, none⟩), .bool s.cl, .slice A n c, .bool s.tl.isSome] 124) ∧ Hd w A n c (s.tl.getD []) ∧ n ≤ 140737488351232 ∧ (0 < n → ∀ b, b ∈ ob A → b ≠ u ∧ b ≠ g ∧ b ≠ gb ∧ b ∈ D)
theorem Pm.keep {S : List Nat} {w w' : World} {u g gb C : Nat} {D : List Nat} {s : PSt} (h : Pm w u g gb C D s) (k : Kp S w w') (h1 : u ∉ S) (h2 : g ∉ S) (h3 : gb ∉ S) (h4 : ∀ d, d ∈ D → d ∉ S) : Pm w' u g gb C D s := by
  obtain ⟨p, r⟩ := h.ring
  obtain ⟨A, n, c, e, hd, hn, hb⟩ := h.rep
  exact ⟨h.ne, ⟨p, r.keep k h2 h3⟩, A, n, c, k.heap e h1, hd.keep k (fun hp b hb1 => h4 b (hb hp b hb1).2.2.2), hn, hb⟩
theorem Pm.mono {w : World} {u g gb C : Nat} {D D' : List Nat} {s : PSt} (h : Pm w u g gb C D s) (hD : ∀ d, d ∈ D → d ∈ D') : Pm w u g gb C D' s := by
  obtain ⟨A, n, c, e, hd, hn, hb⟩ := h.rep
  exact ⟨h.ne, h.ring, A, n, c, e, hd, hn, fun hp b hb1 => ⟨(hb hp b hb1).1, (hb hp b hb1).2.1, (hb hp b hb1).2.2.1, hD b (hb hp b hb1).2.2.2⟩⟩
theorem Pm.lt {w : World} {u g gb C : Nat} {D : List Nat} {s : PSt} (h : Pm w u g gb C D s) : u < w.heap.size ∧ g < w.heap.size ∧ gb < w.heap.size := by
  obtain ⟨p, r⟩ := h.ring
  obtain ⟨A, n, c, e, _⟩ := h.rep
  exact ⟨lt_of_heap e, r.lt.1, r.lt.2⟩
theorem Pm.cells {w : World} {u g gb C : Nat} {D : List Nat} {s : PSt} (h : Pm w u g gb C D s) : ∃ A n c, w.cell? ⟨u, 0, none⟩ = some (.pointer (some ⟨g, 0, none⟩)) ∧ w.cell? ⟨u, 1, none⟩ = some (.bool s.cl) ∧ w.cell? ⟨u, 2, none⟩ = some (.slice A n c) ∧ w.cell? ⟨u, 3, none⟩ = some (.bool s.tl.isSome) ∧
    (∀ j, w.frozen? ⟨u, j, none⟩ = false) ∧ Hd w A n c (s.tl.getD []) ∧ n ≤ 140737488351232 ∧ (0 < n → ∀ b, b ∈ ob A → b ≠ u ∧ b ≠ g ∧ b ≠ gb ∧ b ∈ D) ∧ w.heap[u]? = some (.cells #[.pointer (some ⟨g, 0, none⟩), .bool s.cl, .slice A n c, .bool s.tl.isSome] 124) := by
  obtain ⟨A, n, c, e, hd, hn, hb⟩ := h.rep
  exact ⟨A, n, c, cell_of e 0, cell_of e 1, cell_of e 2, cell_of e 3, frozen_of e, hd, hn, hb, e⟩
/-- only the ring has turned -/
theorem Pm.ringed {w w' : World} {u g gb C p : Nat} {D : List Nat} {s : PSt} {l' : List UInt8} (h : Pm w u g gb C D s) (k : Kp [g, gb] w w') (r : Rg w' g gb C p l') : Pm w' u g gb C D { s with l := l' } := by
  obtain ⟨A, n, c, e, hd, hn, hb⟩ := h.rep
  exact ⟨h.ne, ⟨p, r⟩, A, n, c, k.heap e (by simp; exact h.ne), hd.keep k (fun hp b hb1 hs => by have := hb hp b hb1; simp at hs; omega), hn, hb⟩
set_option maxHeartbeats 400000 in
theorem PmNone {w : World} {u g gb C : Nat} {D : List Nat} {s : PSt} (h : Pm w u g gb C D s) : Calls Try.prog 135 #[.pointer (some ⟨u, 0, none⟩)] w fun e w' => e = .returned (.bool false) ∧ w = w' := by
  obtain ⟨A, n, c, c0, c1, c2, c3, cz, _⟩ := h.cells
  clear h
  go_enter Try.func135, Try.ntmps135
  go_wp2
  go_ret
  exact ⟨rfl, rfl⟩
set_option maxHeartbeats 400000 in
theorem PmTaking0 {w : World} {u g gb C : Nat} {D : List Nat} {l : List UInt8} {tl : Option (List Hdr)} (h : Pm w u g gb C D ⟨l, false, tl⟩) : Calls Try.prog 134 #[.pointer (some ⟨u, 0, none⟩)] w fun e w' => e = .returned (.int .i64 0) ∧ w = w' := by
  obtain ⟨A, n, c, c0, c1, c2, c3, cz, _⟩ := h.cells
  have c1 : w.cell? ⟨u, 1, none⟩ = some (.bool false) := c1
  have H := Lib.hid h
  clear h
  go_enter Try.func134, Try.ntmps134
  go_wp2_with fail
  refine (PmNone H.out).mono ?_
  rintro e w1 ⟨rfl, rfl⟩
  go_wp2
  go_ret
  exact ⟨rfl, rfl⟩
set_option maxHeartbeats 400000 in
theorem PmTaking1 {w : World} {u g gb C : Nat} {D : List Nat} {l : List UInt8} {tl : Option (List Hdr)} (h : Pm w u g gb C D ⟨l, true, tl⟩) : Calls Try.prog 134 #[.pointer (some ⟨u, 0, none⟩)] w fun e w' => e = .returned (.int .i64 5) ∧ w = w' := by
  obtain ⟨A, n, c, c0, c1, c2, c3, cz, _⟩ := h.cells
  have c1 : w.cell? ⟨u, 1, none⟩ = some (.bool true) := c1
  have H := Lib.hid h
  clear h
  go_enter Try.func134, Try.ntmps134
  go_wp2_with fail
  refine (PmNone H.out).mono ?_
  rintro e w1 ⟨rfl, rfl⟩
  go_wp2
  go_ret
  exact ⟨rfl, rfl⟩
set_option maxHeartbeats 400000 in
theorem PmLen {w : World} {u g gb C : Nat} {D : List Nat} {s : PSt} (h : Pm w u g gb C D s) : Calls Try.prog 91 #[.pointer (some ⟨u, 0, none⟩)] w fun e w' => e = .returned (.int .i64 s.l.length) ∧ w = w' := by
  obtain ⟨A, n, c, c0, c1, c2, c3, cz, _⟩ := h.cells
  obtain ⟨p, r⟩ := h.ring
  have H := Lib.hid h
  have HR := Lib.hid r
  clear h r
  go_enter Try.func91, Try.ntmps91
  go_wp2_with fail
  refine (PmNone H.out).mono ?_
  rintro e w1 ⟨rfl, rfl⟩
  go_wp2_with fail
  refine (RgLen HR.out).mono ?_
  rintro e w1 ⟨rfl, rfl⟩
  go_wp2
  go_ret
  exact ⟨rfl, rfl⟩
set_option maxHeartbeats 400000 in
theorem PmRoom {w : World} {u g gb C : Nat} {D : List Nat} {s : PSt} (h : Pm w u g gb C D s) : Calls Try.prog 93 #[.pointer (some ⟨u, 0, none⟩)] w fun e w' => e = .returned (.int .i64 ((C - s.l.length : Nat) : Int)) ∧ w = w' := by
  obtain ⟨A, n, c, c0, c1, c2, c3, cz, _⟩ := h.cells
  obtain ⟨p, r⟩ := h.ring
  have H := Lib.hid h
  have HR := Lib.hid r
  clear h r
  go_enter Try.func93, Try.ntmps93
  go_wp2_with fail
  refine (PmNone H.out).mono ?_
  rintro e w1 ⟨rfl, rfl⟩
  go_wp2_with fail
  refine (RgRoom HR.out).mono ?_
  rintro e w1 ⟨rfl, rfl⟩
  go_wp2
  go_ret
  exact ⟨rfl, rfl⟩
set_option maxHeartbeats 400000 in
theorem PmOpen {w : World} {u g gb C : Nat} {D : List Nat} {s : PSt} (h : Pm w u g gb C D s) : Calls Try.prog 94 #[.pointer (some ⟨u, 0, none⟩)] w fun e w' => e = .returned (.bool (!s.cl)) ∧ w = w' := by
  obtain ⟨A, n, c, c0, c1, c2, c3, cz, _⟩ := h.cells
  have H := Lib.hid h
  clear h
  generalize s.cl = cl at *
  go_enter Try.func94, Try.ntmps94
  go_wp2_with fail
  refine (PmNone H.out).mono ?_
  rintro e w1 ⟨rfl, rfl⟩
  go_wp2
  go_ret
  exact ⟨rfl, rfl⟩
set_option maxHeartbeats 1000000 in
set_option maxRecDepth 100000 in
theorem PmEnd0 {w : World} {u g gb C : Nat} {D : List Nat} {l : List UInt8} {tl : Option (List Hdr)} (h : Pm w u g gb C D ⟨l, false, tl⟩) : Calls Try.prog 88 #[.pointer (some ⟨u, 0, none⟩)] w fun e w' => e = .returned (.int .i64 0) ∧ Kp [u] w w' ∧ Pm w' u g gb C D ⟨l, true, tl⟩ := by
  obtain ⟨A, n, c, c0, c1, c2, c3, cz, hd, hn, hb, e⟩ := h.cells
  obtain ⟨p, r⟩ := h.ring
  have r : Rg w g gb C p l := r
  have c1 : w.cell? ⟨u, 1, none⟩ = some (.bool false) := c1
  have c3 : w.cell? ⟨u, 3, none⟩ = some (.bool tl.isSome) := c3
  have hne := h.ne
  have hlt := h.lt
  have H := Lib.hid h
  have HE := Lib.hid (show w.heap[u]? = some (.cells #[.pointer (some ⟨g, 0, none⟩), .bool false, .slice A n c, .bool tl.isSome] 124) from e)
  have HR := Lib.hid r
  have HD : Hid (Hd w A n c (tl.getD []) ∧ n ≤ 140737488351232 ∧ (0 < n → ∀ b, b ∈ ob A → b ≠ u ∧ b ≠ g ∧ b ≠ gb ∧ b ∈ D)) := ⟨hd, hn, hb⟩
  clear h hd hn hb e r
  go_enter Try.func88, Try.ntmps88
  go_wp2_with fail
  refine (PmTaking0 H.out).mono ?_
  rintro e w1 ⟨rfl, rfl⟩
  go_wp2
  go_ret
  refine ⟨rfl, (Kp.refl [u] _).setCell (.inl (by simp)) _, hne, ⟨p, HR.out.keep ((Kp.refl [u] _).setCell (.inl (by simp)) _) (by simp; omega) (by simp; omega)⟩, A, n, c, hp_set w u 1 _ _ _ HE.out, HD.out.1.keep ((Kp.refl [u] _).setCell (.inl (by simp)) _) (fun hp b hb hs => by have := HD.out.2.2 hp b hb; simp at hs; omega), HD.out.2⟩
set_option maxHeartbeats 1000000 in
set_option maxRecDepth 100000 in
theorem PmEnd1 {w : World} {u g gb C : Nat} {D : List Nat} {l : List UInt8} {tl : Option (List Hdr)} (h : Pm w u g gb C D ⟨l, true, tl⟩) : Calls Try.prog 88 #[.pointer (some ⟨u, 0, none⟩)] w fun e w' => e = .returned (.int .i64 5) ∧ w = w' := by
  obtain ⟨A, n, c, c0, c1, c2, c3, cz, hd, hn, hb, e⟩ := h.cells
  obtain ⟨p, r⟩ := h.ring
  have r : Rg w g gb C p l := r
  have c1 : w.cell? ⟨u, 1, none⟩ = some (.bool true) := c1
  have c3 : w.cell? ⟨u, 3, none⟩ = some (.bool tl.isSome) := c3
  have hne := h.ne
  have hlt := h.lt
  have H := Lib.hid h
  have HE := Lib.hid (show w.heap[u]? = some (.cells #[.pointer (some ⟨g, 0, none⟩), .bool true, .slice A n c, .bool tl.isSome] 124) from e)
  have HR := Lib.hid r
  have HD : Hid (Hd w A n c (tl.getD []) ∧ n ≤ 140737488351232 ∧ (0 < n → ∀ b, b ∈ ob A → b ≠ u ∧ b ≠ g ∧ b ≠ gb ∧ b ∈ D)) := ⟨hd, hn, hb⟩
  clear h hd hn hb e r
  go_enter Try.func88, Try.ntmps88
  go_wp2_with fail
  refine (PmTaking1 H.out).mono ?_
  rintro e w1 ⟨rfl, rfl⟩
  go_wp2
  go_ret
  exact ⟨rfl, rfl⟩
set_option maxHeartbeats 1000000 in
set_option maxRecDepth 100000 in
theorem PmPut1 {w : World} {u g gb C : Nat} {D : List Nat} {l : List UInt8} {tl : Option (List Hdr)} (h : Pm w u g gb C D ⟨l, true, tl⟩) (B : Option Addr) (m d : Nat) : Calls Try.prog 84 #[.pointer (some ⟨u, 0, none⟩), .slice B m d] w fun e w' => e = .returned (.int .i64 5) ∧ w = w' := by
  obtain ⟨A, n, c, c0, c1, c2, c3, cz, hd, hn, hb, e⟩ := h.cells
  obtain ⟨p, r⟩ := h.ring
  have r : Rg w g gb C p l := r
  have c1 : w.cell? ⟨u, 1, none⟩ = some (.bool true) := c1
  have c3 : w.cell? ⟨u, 3, none⟩ = some (.bool tl.isSome) := c3
  have hne := h.ne
  have hlt := h.lt
  have H := Lib.hid h
  have HE := Lib.hid (show w.heap[u]? = some (.cells #[.pointer (some ⟨g, 0, none⟩), .bool true, .slice A n c, .bool tl.isSome] 124) from e)
  have HR := Lib.hid r
  have HD : Hid (Hd w A n c (tl.getD []) ∧ n ≤ 140737488351232 ∧ (0 < n → ∀ b, b ∈ ob A → b ≠ u ∧ b ≠ g ∧ b ≠ gb ∧ b ∈ D)) := ⟨hd, hn, hb⟩
  clear h hd hn hb e r
  go_enter Try.func84, Try.ntmps84
  go_wp2_with fail
  refine (PmTaking1 H.out).mono ?_
  rintro e w1 ⟨rfl, rfl⟩
  go_wp2
  go_ret
  exact ⟨rfl, rfl⟩
set_option maxHeartbeats 1000000 in
set_option maxRecDepth 100000 in
theorem PmPutF {w : World} {u g gb C : Nat} {D : List Nat} {l : List UInt8} {tl : Option (List Hdr)} (h : Pm w u g gb C D ⟨l, false, tl⟩) (B : Option Addr) (m d : Nat) (hf : C - l.length < m) : Calls Try.prog 84 #[.pointer (some ⟨u, 0, none⟩), .slice B m d] w fun e w' => e = .returned (.int .i64 9) ∧ w = w' := by
  obtain ⟨A, n, c, c0, c1, c2, c3, cz, hd, hn, hb, e⟩ := h.cells
  obtain ⟨p, r⟩ := h.ring
  have r : Rg w g gb C p l := r
  have c1 : w.cell? ⟨u, 1, none⟩ = some (.bool false) := c1
  have c3 : w.cell? ⟨u, 3, none⟩ = some (.bool tl.isSome) := c3
  have hne := h.ne
  have hlt := h.lt
  have H := Lib.hid h
  have HE := Lib.hid (show w.heap[u]? = some (.cells #[.pointer (some ⟨g, 0, none⟩), .bool false, .slice A n c, .bool tl.isSome] 124) from e)
  have HR := Lib.hid r
  have HD : Hid (Hd w A n c (tl.getD []) ∧ n ≤ 140737488351232 ∧ (0 < n → ∀ b, b ∈ ob A → b ≠ u ∧ b ≠ g ∧ b ≠ gb ∧ b ∈ D)) := ⟨hd, hn, hb⟩
  clear h hd hn hb e r
  obtain ⟨rm, hrm⟩ : ∃ rm, C - l.length = rm := ⟨_, rfl⟩
  have HRM := Lib.hid hrm
  rw [hrm] at hf
  clear hrm
  go_enter Try.func84, Try.ntmps84
  go_wp2_with fail
  refine (PmTaking0 H.out).mono ?_
  rintro e w1 ⟨rfl, rfl⟩
  go_wp2_with fail
  refine (RgRoom HR.out).mono ?_
  rintro e w1 ⟨rfl, rfl⟩
  rw [HRM.out]
  go_wp2
  go_ret
  exact ⟨rfl, rfl⟩
set_option maxHeartbeats 1000000 in
set_option maxRecDepth 100000 in
theorem PmPut0 {w : World} {u g gb C : Nat} {D : List Nat} {l : List UInt8} {tl : Option (List Hdr)} (h : Pm w u g gb C D ⟨l, false, tl⟩) (B : Option Addr) (m d : Nat) (xs : List UInt8) (hx : Rd w B m d xs) (hm : m ≤ 140737488355328) (hxb : 0 < m → ∀ b, b ∈ ob B → b ≠ g ∧ b ≠ gb) (hf : m ≤ C - l.length) : Calls Try.prog 84 #[.pointer (some ⟨u, 0, none⟩), .slice B m d] w fun e w' => e = .returned (.int .i64 0) ∧ Kp [g, gb] w w' ∧ Pm w' u g gb C D ⟨l ++ xs, false, tl⟩ := by
  obtain ⟨A, n, c, c0, c1, c2, c3, cz, hd, hn, hb, e⟩ := h.cells
  obtain ⟨p, r⟩ := h.ring
  have r : Rg w g gb C p l := r
  have c1 : w.cell? ⟨u, 1, none⟩ = some (.bool false) := c1
  have c3 : w.cell? ⟨u, 3, none⟩ = some (.bool tl.isSome) := c3
  have hne := h.ne
  have hlt := h.lt
  have H := Lib.hid h
  have HE := Lib.hid (show w.heap[u]? = some (.cells #[.pointer (some ⟨g, 0, none⟩), .bool false, .slice A n c, .bool tl.isSome] 124) from e)
  have HR := Lib.hid r
  have HD : Hid (Hd w A n c (tl.getD []) ∧ n ≤ 140737488351232 ∧ (0 < n → ∀ b, b ∈ ob A → b ≠ u ∧ b ≠ g ∧ b ≠ gb ∧ b ∈ D)) := ⟨hd, hn, hb⟩
  clear h hd hn hb e r
  have HX := Lib.hid hx
  clear hx
  obtain ⟨rm, hrm⟩ : ∃ rm, C - l.length = rm := ⟨_, rfl⟩
  have HRM := Lib.hid hrm
  rw [hrm] at hf
  clear hrm
  go_enter Try.func84, Try.ntmps84
  go_wp2_with fail
  refine (PmTaking0 H.out).mono ?_
  rintro e w1 ⟨rfl, rfl⟩
  go_wp2_with fail
  refine (RgRoom HR.out).mono ?_
  rintro e w1 ⟨rfl, rfl⟩
  rw [HRM.out]
  go_wp2_with fail
  refine (RgPut HR.out B m d xs HX.out hm hxb).mono ?_
  rintro e w2 ⟨rfl, K2, R2⟩
  have e1 : min m (C - l.length) = m := by rw [HRM.out]; omega
  rw [e1, List.take_of_length_le (by have := HX.out.len; omega)] at R2
  have H2 := Lib.hid (H.out.ringed K2 R2)
  clear e1 R2
  go_wp2
  go_ret
  exact ⟨rfl, K2, H2.out⟩
set_option maxHeartbeats 1000000 in
set_option maxRecDepth 100000 in
theorem PmDoneA0 {w : World} {u g gb C : Nat} {D : List Nat} {l : List UInt8} {tl : Option (List Hdr)} (h : Pm w u g gb C D ⟨l, false, tl⟩) (N : Int) (hN : N < 0) : Calls Try.prog 86 #[.pointer (some ⟨u, 0, none⟩), .int .i64 N] w fun e w' => e = .returned (.int .i64 1) ∧ w = w' := by
  obtain ⟨A, n, c, c0, c1, c2, c3, cz, hd, hn, hb, e⟩ := h.cells
  obtain ⟨p, r⟩ := h.ring
  have r : Rg w g gb C p l := r
  have c1 : w.cell? ⟨u, 1, none⟩ = some (.bool false) := c1
  have c3 : w.cell? ⟨u, 3, none⟩ = some (.bool tl.isSome) := c3
  have hne := h.ne
  have hlt := h.lt
  have H := Lib.hid h
  have HE := Lib.hid (show w.heap[u]? = some (.cells #[.pointer (some ⟨g, 0, none⟩), .bool false, .slice A n c, .bool tl.isSome] 124) from e)
  have HR := Lib.hid r
  have HD : Hid (Hd w A n c (tl.getD []) ∧ n ≤ 140737488351232 ∧ (0 < n → ∀ b, b ∈ ob A → b ≠ u ∧ b ≠ g ∧ b ≠ gb ∧ b ∈ D)) := ⟨hd, hn, hb⟩
  clear h hd hn hb e r
  go_enter Try.func86, Try.ntmps86
  go_wp2_with fail
  refine (PmNone H.out).mono ?_
  rintro e w1 ⟨rfl, rfl⟩
  go_wp2
  go_ret
  exact ⟨rfl, rfl⟩
set_option maxHeartbeats 1000000 in
set_option maxRecDepth 100000 in
theorem PmDoneB0 {w : World} {u g gb C : Nat} {D : List Nat} {l : List UInt8} {tl : Option (List Hdr)} (h : Pm w u g gb C D ⟨l, false, tl⟩) (N : Int) (hN : 0 ≤ N) (hL : (l.length : Int) < N) : Calls Try.prog 86 #[.pointer (some ⟨u, 0, none⟩), .int .i64 N] w fun e w' => e = .returned (.int .i64 1) ∧ w = w' := by
  obtain ⟨A, n, c, c0, c1, c2, c3, cz, hd, hn, hb, e⟩ := h.cells
  obtain ⟨p, r⟩ := h.ring
  have r : Rg w g gb C p l := r
  have c1 : w.cell? ⟨u, 1, none⟩ = some (.bool false) := c1
  have c3 : w.cell? ⟨u, 3, none⟩ = some (.bool tl.isSome) := c3
  have hne := h.ne
  have hlt := h.lt
  have H := Lib.hid h
  have HE := Lib.hid (show w.heap[u]? = some (.cells #[.pointer (some ⟨g, 0, none⟩), .bool false, .slice A n c, .bool tl.isSome] 124) from e)
  have HR := Lib.hid r
  have HD : Hid (Hd w A n c (tl.getD []) ∧ n ≤ 140737488351232 ∧ (0 < n → ∀ b, b ∈ ob A → b ≠ u ∧ b ≠ g ∧ b ≠ gb ∧ b ∈ D)) := ⟨hd, hn, hb⟩
  clear h hd hn hb e r
  go_enter Try.func86, Try.ntmps86
  go_wp2_with fail
  refine (PmNone H.out).mono ?_
  rintro e w1 ⟨rfl, rfl⟩
  go_wp2_with fail
  refine (RgLen HR.out).mono ?_
  rintro e w1 ⟨rfl, rfl⟩
  go_wp2
  go_ret
  exact ⟨rfl, rfl⟩
set_option maxHeartbeats 1000000 in
set_option maxRecDepth 100000 in
theorem PmDoneC0 {w : World} {u g gb C : Nat} {D : List Nat} {l : List UInt8} {tl : Option (List Hdr)} (h : Pm w u g gb C D ⟨l, false, tl⟩) (N : Nat) (hL : N ≤ l.length) : Calls Try.prog 86 #[.pointer (some ⟨u, 0, none⟩), .int .i64 N] w fun e w' => e = .returned (.int .i64 0) ∧ Kp [g, gb] w w' ∧ Pm w' u g gb C D ⟨l.drop N, false, tl⟩ := by
  obtain ⟨A, n, c, c0, c1, c2, c3, cz, hd, hn, hb, e⟩ := h.cells
  obtain ⟨p, r⟩ := h.ring
  have r : Rg w g gb C p l := r
  have c1 : w.cell? ⟨u, 1, none⟩ = some (.bool false) := c1
  have c3 : w.cell? ⟨u, 3, none⟩ = some (.bool tl.isSome) := c3
  have hne := h.ne
  have hlt := h.lt
  have H := Lib.hid h
  have HE := Lib.hid (show w.heap[u]? = some (.cells #[.pointer (some ⟨g, 0, none⟩), .bool false, .slice A n c, .bool tl.isSome] 124) from e)
  have HR := Lib.hid r
  have HD : Hid (Hd w A n c (tl.getD []) ∧ n ≤ 140737488351232 ∧ (0 < n → ∀ b, b ∈ ob A → b ≠ u ∧ b ≠ g ∧ b ≠ gb ∧ b ∈ D)) := ⟨hd, hn, hb⟩
  clear h hd hn hb e r
  go_enter Try.func86, Try.ntmps86
  go_wp2_with fail
  refine (PmNone H.out).mono ?_
  rintro e w1 ⟨rfl, rfl⟩
  go_wp2_with fail
  refine (RgLen HR.out).mono ?_
  rintro e w1 ⟨rfl, rfl⟩
  go_wp2_with fail
  refine (RgDrop HR.out _).mono ?_
  rintro e w2 ⟨rfl, K2, p', R2⟩
  have e1 : mostN (N : Int) l.length = N := by unfold mostN; omega
  rw [e1] at R2
  have K3 : Kp [g, gb] w w2 := K2.mono (fun s hs => .inl (by simp at hs; simp [hs]))
  have H2 := Lib.hid (H.out.ringed K3 R2)
  clear e1 R2
  go_wp2
  go_ret
  exact ⟨rfl, K3, H2.out⟩
set_option maxHeartbeats 1000000 in
set_option maxRecDepth 100000 in
theorem PmDoneA1 {w : World} {u g gb C : Nat} {D : List Nat} {l : List UInt8} {tl : Option (List Hdr)} (h : Pm w u g gb C D ⟨l, true, tl⟩) (N : Int) (hN : N < 0) : Calls Try.prog 86 #[.pointer (some ⟨u, 0, none⟩), .int .i64 N] w fun e w' => e = .returned (.int .i64 1) ∧ w = w' := by
  obtain ⟨A, n, c, c0, c1, c2, c3, cz, hd, hn, hb, e⟩ := h.cells
  obtain ⟨p, r⟩ := h.ring
  have r : Rg w g gb C p l := r
  have c1 : w.cell? ⟨u, 1, none⟩ = some (.bool true) := c1
  have c3 : w.cell? ⟨u, 3, none⟩ = some (.bool tl.isSome) := c3
  have hne := h.ne
  have hlt := h.lt
  have H := Lib.hid h
  have HE := Lib.hid (show w.heap[u]? = some (.cells #[.pointer (some ⟨g, 0, none⟩), .bool true, .slice A n c, .bool tl.isSome] 124) from e)
  have HR := Lib.hid r
  have HD : Hid (Hd w A n c (tl.getD []) ∧ n ≤ 140737488351232 ∧ (0 < n → ∀ b, b ∈ ob A → b ≠ u ∧ b ≠ g ∧ b ≠ gb ∧ b ∈ D)) := ⟨hd, hn, hb⟩
  clear h hd hn hb e r
  go_enter Try.func86, Try.ntmps86
  go_wp2_with fail
  refine (PmNone H.out).mono ?_
  rintro e w1 ⟨rfl, rfl⟩
  go_wp2
  go_ret
  exact ⟨rfl, rfl⟩
set_option maxHeartbeats 1000000 in
set_option maxRecDepth 100000 in
theorem PmDoneB1 {w : World} {u g gb C : Nat} {D : List Nat} {l : List UInt8} {tl : Option (List Hdr)} (h : Pm w u g gb C D ⟨l, true, tl⟩) (N : Int) (hN : 0 ≤ N) (hL : (l.length : Int) < N) : Calls Try.prog 86 #[.pointer (some ⟨u, 0, none⟩), .int .i64 N] w fun e w' => e = .returned (.int .i64 1) ∧ w = w' := by
  obtain ⟨A, n, c, c0, c1, c2, c3, cz, hd, hn, hb, e⟩ := h.cells
  obtain ⟨p, r⟩ := h.ring
  have r : Rg w g gb C p l := r
  have c1 : w.cell? ⟨u, 1, none⟩ = some (.bool true) := c1
  have c3 : w.cell? ⟨u, 3, none⟩ = some (.bool tl.isSome) := c3
  have hne := h.ne
  have hlt := h.lt
  have H := Lib.hid h
  have HE := Lib.hid (show w.heap[u]? = some (.cells #[.pointer (some ⟨g, 0, none⟩), .bool true, .slice A n c, .bool tl.isSome] 124) from e)
  have HR := Lib.hid r
  have HD : Hid (Hd w A n c (tl.getD []) ∧ n ≤ 140737488351232 ∧ (0 < n → ∀ b, b ∈ ob A → b ≠ u ∧ b ≠ g ∧ b ≠ gb ∧ b ∈ D)) := ⟨hd, hn, hb⟩
  clear h hd hn hb e r
  go_enter Try.func86, Try.ntmps86
  go_wp2_with fail
  refine (PmNone H.out).mono ?_
  rintro e w1 ⟨rfl, rfl⟩
  go_wp2_with fail
  refine (RgLen HR.out).mono ?_
  rintro e w1 ⟨rfl, rfl⟩
  go_wp2
  go_ret
  exact ⟨rfl, rfl⟩
set_option maxHeartbeats 1000000 in
set_option maxRecDepth 100000 in
theorem PmDoneC1 {w : World} {u g gb C : Nat} {D : List Nat} {l : List UInt8} {tl : Option (List Hdr)} (h : Pm w u g gb C D ⟨l, true, tl⟩) (N : Nat) (hL : N ≤ l.length) : Calls Try.prog 86 #[.pointer (some ⟨u, 0, none⟩), .int .i64 N] w fun e w' => e = .returned (.int .i64 0) ∧ Kp [g, gb] w w' ∧ Pm w' u g gb C D ⟨l.drop N, true, tl⟩ := by
  obtain ⟨A, n, c, c0, c1, c2, c3, cz, hd, hn, hb, e⟩ := h.cells
  obtain ⟨p, r⟩ := h.ring
  have r : Rg w g gb C p l := r
  have c1 : w.cell? ⟨u, 1, none⟩ = some (.bool true) := c1
  have c3 : w.cell? ⟨u, 3, none⟩ = some (.bool tl.isSome) := c3
  have hne := h.ne
  have hlt := h.lt
  have H := Lib.hid h
  have HE := Lib.hid (show w.heap[u]? = some (.cells #[.pointer (some ⟨g, 0, none⟩), .bool true, .slice A n c, .bool tl.isSome] 124) from e)
  have HR := Lib.hid r
  have HD : Hid (Hd w A n c (tl.getD []) ∧ n ≤ 140737488351232 ∧ (0 < n → ∀ b, b ∈ ob A → b ≠ u ∧ b ≠ g ∧ b ≠ gb ∧ b ∈ D)) := ⟨hd, hn, hb⟩
  clear h hd hn hb e r
  go_enter Try.func86, Try.ntmps86
  go_wp2_with fail
  refine (PmNone H.out).mono ?_
  rintro e w1 ⟨rfl, rfl⟩
  go_wp2_with fail
  refine (RgLen HR.out).mono ?_
  rintro e w1 ⟨rfl, rfl⟩
  go_wp2_with fail
  refine (RgDrop HR.out _).mono ?_
  rintro e w2 ⟨rfl, K2, p', R2⟩
  have e1 : mostN (N : Int) l.length = N := by unfold mostN; omega
  rw [e1] at R2
  have K3 : Kp [g, gb] w w2 := K2.mono (fun s hs => .inl (by simp at hs; simp [hs]))
  have H2 := Lib.hid (H.out.ringed K3 R2)
  clear e1 R2
  go_wp2
  go_ret
  exact ⟨rfl, K3, H2.out⟩
set_option maxHeartbeats 1000000 in
set_option maxRecDepth 100000 in
theorem PmTail1 {w : World} {u g gb C : Nat} {D : List Nat} {l : List UInt8} {tl : Option (List Hdr)} (h : Pm w u g gb C D ⟨l, true, tl⟩) (B : Option Addr) (m d : Nat) : Calls Try.prog 87 #[.pointer (some ⟨u, 0, none⟩), .slice B m d] w fun e w' => e = .returned (.int .i64 5) ∧ w = w' := by
  obtain ⟨A, n, c, c0, c1, c2, c3, cz, hd, hn, hb, e⟩ := h.cells
  obtain ⟨p, r⟩ := h.ring
  have r : Rg w g gb C p l := r
  have c1 : w.cell? ⟨u, 1, none⟩ = some (.bool true) := c1
  have c3 : w.cell? ⟨u, 3, none⟩ = some (.bool (Option.isSome (tl : Option (List Hdr)))) := c3
  have hne := h.ne
  have hlt := h.lt
  have H := Lib.hid h
  have HE := Lib.hid (show w.heap[u]? = some (.cells #[.pointer (some ⟨g, 0, none⟩), .bool true, .slice A n c, .bool (Option.isSome (tl : Option (List Hdr)))] 124) from e)
  have HR := Lib.hid r
  have HD : Hid (Hd w A n c (Option.getD (tl : Option (List Hdr)) []) ∧ n ≤ 140737488351232 ∧ (0 < n → ∀ b, b ∈ ob A → b ≠ u ∧ b ≠ g ∧ b ≠ gb ∧ b ∈ D)) := ⟨hd, hn, hb⟩
  clear h hd hn hb e r
  go_enter Try.func87, Try.ntmps87
  go_wp2_with fail
  refine (PmTaking1 H.out).mono ?_
  rintro e w1 ⟨rfl, rfl⟩
  go_wp2
  go_ret
  exact ⟨rfl, rfl⟩
set_option maxHeartbeats 1000000 in
set_option maxRecDepth 100000 in
theorem PmTail0 {w : World} {u g gb C : Nat} {D : List Nat} {l : List UInt8} {tl : Option (List Hdr)} (h : Pm w u g gb C D ⟨l, false, tl⟩) (B : Option Addr) (m d : Nat) (hs : List Hdr) (hx : Hd w B m d hs) (hm : m * 40 ≤ 140737488351232) (hxb : 0 < m → ∀ b, b ∈ ob B → b ≠ u) : Calls Try.prog 87 #[.pointer (some ⟨u, 0, none⟩), .slice B m d] w fun e w' => e = .returned (.int .i64 0) ∧ Kp [u] w w' ∧ Pm w' u g gb C [w.heap.size] ⟨l, true, some hs⟩ := by
  obtain ⟨A, n, c, c0, c1, c2, c3, cz, hd, hn, hb, e⟩ := h.cells
  obtain ⟨p, r⟩ := h.ring
  have r : Rg w g gb C p l := r
  have c1 : w.cell? ⟨u, 1, none⟩ = some (.bool false) := c1
  have c3 : w.cell? ⟨u, 3, none⟩ = some (.bool (Option.isSome (tl : Option (List Hdr)))) := c3
  have hne := h.ne
  have hlt := h.lt
  have H := Lib.hid h
  have HE := Lib.hid (show w.heap[u]? = some (.cells #[.pointer (some ⟨g, 0, none⟩), .bool false, .slice A n c, .bool (Option.isSome (tl : Option (List Hdr)))] 124) from e)
  have HR := Lib.hid r
  have HD : Hid (Hd w A n c (Option.getD (tl : Option (List Hdr)) []) ∧ n ≤ 140737488351232 ∧ (0 < n → ∀ b, b ∈ ob A → b ≠ u ∧ b ≠ g ∧ b ≠ gb ∧ b ∈ D)) := ⟨hd, hn, hb⟩
  clear h hd hn hb e r
  have HX := Lib.hid hx
  clear hx
  go_enter Try.func87, Try.ntmps87
  go_wp2_with fail
  refine (PmTaking0 H.out).mono ?_
  rintro e w1 ⟨rfl, rfl⟩
  go_wp2_with (with_reducible refine stopAt (o := ⟨some 19, _, _, _, _, _⟩) ?_)
  have K1 : Kp [u] w ((w.setCell ⟨u, 1, none⟩ (.bool true)).setCell ⟨u, 3, none⟩ (.bool true)) := ((Kp.refl [u] _).setCell (.inl (by simp)) _).setCell (.inl (by simp)) _
  have E1 := hp_set _ u 3 (.bool true) _ _ (hp_set w u 1 (.bool true) _ _ HE.out)
  refine Stop.go (wp_makeRows rfl _ _ 110 179 _ 3 40 rfl Try.underlying110 Try.infoHd m rfl rfl (by omega) (by simp only [maxLen]; omega) ?_)
  intro w2 cur hcs hg2 K2
  have E2 := Lib.hid (K2.heap E1 (by simp))
  have z2 := lt_of_heap hg2.out
  have hz2 : w.heap.size < w2.heap.size := by simpa using z2
  have hc2 := frozen_of E2.out
  have hc0 := cell_of E2.out 0
  have hc2' := cell_of E2.out 2
  have q2 := K1.trans (K2.mono (T := [u]) (fun s hs => by cases hs))
  have hus : u ≠ w.heap.size := by omega
  have HG2 : Hid (w2.heap[w.heap.size]? = some (.cells cur 179 (0, 0))) := by simpa using hg2
  clear c0 c1 c2 c3 cz E1 K1 K2 z2 hg2
  go_wp2_with (with_reducible refine stopAt (o := ⟨some 27, _, _, _, _, _⟩) ?_)
  have E3 := hp_set w2 u 2 (.slice (some ⟨w.heap.size, 0, none⟩) m m) _ _ E2.out
  have G3 := (hp_far w2 ⟨u, 2, none⟩ (.slice (some ⟨w.heap.size, 0, none⟩) m m) w.heap.size (by simpa using hus.symm)).trans HG2.out
  have K3 := q2.setCell (p := ⟨u, 2, none⟩) (.inl (by simp)) (.slice (some ⟨w.heap.size, 0, none⟩) m m)
  have hml : hs.length = m := HX.out.len
  have hcl : (hcells hs).length = m * 3 := by rw [hcells_len, hml]
  refine Stop.go (wp_copyRows rfl _ _ 110 179 3 rfl Try.underlying110 (by kernel_rfl) w.heap.size 0 m m B m d rfl rfl cur _ G3 (hcells hs) (by rw [hcl]; show _ = min m m * 3; rw [Nat.min_self]) (HX.out.keep K3 (by intro hp b hb hs1; have := hxb hp b hb; simp at hs1; omega)).at_ (by omega) (hcells_one hs) ?_)
  generalize hW : World.setRow _ _ _ = w4
  have hrow : (cur.toList.take 0 ++ hcells hs ++ cur.toList.drop (0 + (hcells hs).length)).toArray = (hcells hs).toArray := by
    have : cur.toList.drop (0 + (hcells hs).length) = [] := by rw [List.drop_eq_nil_iff, Array.length_toList, hcl, hcs]; omega
    rw [this]
    simp
  have G4 : Hid (w4.heap[w.heap.size]? = some (.cells (hcells hs).toArray 179)) := by
    show _ = _
    rw [← hW, hrow]
    exact setRow_heap _ w.heap.size cur _ _ _ G3
  have E4 := Lib.hid ((by rw [← hW]; exact setRow_other _ w.heap.size u _ hus : w4.heap[u]? = _).trans E3)
  have K4 : Hid (Kp [u] w w4) := by
    have := K3.setRow (g := w.heap.size) (.inr (Nat.le_refl _)) (cur.toList.take 0 ++ hcells hs ++ cur.toList.drop (0 + (hcells hs).length)).toArray
    rw [hW] at this
    exact this
  have HML := Lib.hid hml
  have HCL := Lib.hid hcl
  clear hW hrow E3 G3 K3 hml hcl hc0 hc2 hc2' q2 HG2 E2 hcs
  go_wp2
  go_ret
  refine ⟨rfl, K4.out, hne, ⟨p, HR.out.keep K4.out (by simp; omega) (by simp; omega)⟩, _, m, m, E4.out, ⟨HML.out, Nat.le_refl _, At.block G4.out 0 _ (by simp)⟩, by omega, ?_⟩
  intro _ b hb
  simp [ob] at hb
  subst hb
  refine ⟨by omega, by omega, by omega, by simp⟩
end Go.Proofs.Ytkmcakneceagpaa
