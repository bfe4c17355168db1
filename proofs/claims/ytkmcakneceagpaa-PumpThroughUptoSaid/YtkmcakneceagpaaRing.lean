/- The ring of layer 1 (program). -/
import Derived.Test.YtkmcakneceagpaaOpn
import Derived.Test.YtkmcakneceagpaaRingP
import Derived.Test.YtkmcakneceagpaaField
import Derived.StillTailTactics
import Derived.WalkLawsBesides
import Derived.WalkSpells
import Derived.IntWalk
set_option linter.unusedVariables false
namespace Go.Proofs.Ytkmcakneceagpaa
open Go.RowKit
theorem ret_int {k : IntKind} {a b : Int} (h : a = b) : Ending.returned (.int k a) = .returned (.int k b) := by rw [h]

theorem Kp.undrew {S : List Nat} {a w : World} (h : Kp S a.drew w) : Kp S a w := ⟨h.os, h.tape, h.output, h.size, h.block⟩
theorem Kp.undrewN {S : List Nat} {a w : World} {n : Nat} (h : Kp S (a.drewN n) w) : Kp S a w := ⟨h.os, h.tape, h.output, h.size, h.block⟩
theorem Rd.drew {w : World} {A : Option Addr} {n c : Nat} {l : List UInt8} (h : Rd w A n c l) : Rd w.drew A n c l := h.keep (Kp.refl [] w).drew (by simp)
theorem Ow.row {w : World} {g : Nat} {e : TypeId} {l : List UInt8} (h : w.heap[g]? = some (.cells (l.map u8).toArray e (0, 0))) (base n : Nat) (hb : base ≤ g) (hn : l.length = n) (hm : n ≤ maxLen) : Ow w base e 1 (some ⟨g, 0, none⟩) n n (l.map u8) :=
  ⟨by simp [hn], .inr ⟨g, n, _, rfl, hb, h, Nat.le_refl _, hm, by simp [hn], by rw [List.take_of_length_le (by simp [hn])]⟩⟩
/-- bytes onto a row of bytes that is known whole -/
theorem wp_copyB {P : Program} {w : World} {ops : Array Oper} {rest : List Oper} {o : Oper} {a : Act} {Q : Exit → Act → World → Prop} (hgd : o.guard = none) (d s : Operand) (t e : TypeId)
    (ho : o.op = .call { callee := .builtin .copy, args := #[d, s], argTypes := #[t, t] }) (ht : P.underlying t = some (.slice e)) (hi : (P.info? e).map (fun i => (i.zero, i.size, i.bytes)) = some (some (.int .u8 0), 1, 1))
    (g off : Nat) (bs : List UInt8) (te : TypeId) (hg : w.heap[g]? = some (.cells (bs.map u8).toArray te (0, 0)))
    (dp : Option Addr) (dn dc : Nat) (hd : a.eval d = .slice dp dn dc) (hdp : 0 < dn → dp = some ⟨g, off, none⟩) (hfit : off + dn ≤ bs.length)
    (sp : Option Addr) (sn sc : Nat) (l : List UInt8) (hs : a.eval s = .slice sp sn sc) (hr : Rd w sp sn sc l)
    (h : ∀ w', Hid (w'.heap[g]? = some (.cells ((splice bs off (l.take dn)).map u8).toArray te (0, 0))) → Kp [g] w w' → wpList P ops Q rest (a.put o.dst (.int .i64 (min dn sn : Nat))) w') :
    wpList P ops Q (o :: rest) a w := by
  have hsz : (P.info? e).map (·.size) = some 1 := by
    obtain ⟨i, h1, _, h2, _⟩ := info_parts hi
    rw [h1]; simp [h2]
  have hlen := hr.len
  have hcs : ((l.take dn).map u8).length = Nat.min sn dn := by show _ = min sn dn; simp [hlen]; omega
  have hmap : ∀ (x y : List UInt8) (k : Nat), (splice x k y).map u8 = splice (x.map u8) k (y.map u8) := by intro x y k; simp [splice]
  by_cases h0 : Nat.min sn dn = 0
  · refine wpList_copy_nothing hgd d s t t ho e ht hsz dp sp dn dc sn sc hd hs h0 ?_
    have e1 : (l.take dn) = [] := by have h0' : min sn dn = 0 := h0; apply List.eq_nil_of_length_eq_zero; rw [List.length_take]; omega
    have := h w (show _ = _ by rw [e1]; simpa [splice] using hg) (Kp.refl _ _)
    rwa [show ((min dn sn : Nat) : Int) = 0 by have h0' : min sn dn = 0 := h0; omega] at this
  · have hd1 : 0 < dn := by have h0' : ¬ min sn dn = 0 := h0; omega
    have hs1 : 0 < sn := by have h0' : ¬ min sn dn = 0 := h0; omega
    obtain rfl := hdp hd1
    obtain ⟨b, of2, rfl, hc⟩ := hr.at_ (by rw [List.length_map]; omega)
    refine wpList_copy_own hgd d s t t ho e ht hsz g off dn dc ⟨b, of2, none⟩ sn sc hd hs (bs.map u8).toArray te hg ((l.take dn).map u8) hcs ?_ (by have h0' : (l.take dn).length ≤ dn := List.length_take_le _ _; simp only [List.size_toArray, List.length_map]; omega) (u8_one _) ?_
    · intro j v hv
      have hadd : (⟨b, of2, none⟩ : Addr).add j = ⟨b, of2 + j, none⟩ := by unfold Addr.add; split <;> simp_all
      rw [hadd]
      refine hc j v ?_
      rw [List.map_take, List.getElem?_take] at hv
      split at hv
      · exact hv
      · cases hv
    · have := h (w.setRow g ((bs.map u8).toArray.toList.take off ++ ((l.take dn).map u8 ++ (bs.map u8).toArray.toList.drop (off + ((l.take dn).map u8).length))).toArray)
        (show _ = _ by rw [hmap]; exact setRow_heap w g _ _ te _ hg) ((Kp.refl _ _).setRow (.inl (by simp)) _)
      rw [show goInt ((l.take dn).map u8).length = Value.int .i64 ((min dn sn : Nat) : Int) by rw [hcs]; show Value.int .i64 _ = _; congr 1; show ((min sn dn : Nat) : Int) = _; omega]
      exact this

/-- 'make([]byte, n)' -/
theorem wp_makeB {P : Program} {w : World} {ops : Array Oper} {rest : List Oper} {o : Oper} {a : Act} {Q : Exit → Act → World → Prop} (hgd : o.guard = none) (x y : Operand) (t e : TypeId) (hop : o.op = Op.makeSlice t x y)
    (ht : P.underlying t = some (.slice e)) (hi : (P.info? e).map (fun i => (i.zero, i.size, i.bytes)) = some (some (.int .u8 0), 1, 1)) (n : Nat) (hx : a.eval x = .int .i64 n) (hy : a.eval y = .int .i64 n) (hn : n ≤ 140737488355328)
    (h : ∀ w', Hid (w'.heap[w.heap.size]? = some (.cells ((List.replicate n (0 : UInt8)).map u8).toArray e (0, 0))) → Kp [] w w' → wpList P ops Q rest (a.put o.dst (.slice (some ⟨w.heap.size, 0, none⟩) n n)) w') : wpList P ops Q (o :: rest) a w := by
  obtain ⟨i, h2, h3, h4, h5⟩ := info_parts hi
  refine wpList_make_full w hgd x y t hop w.heap.size e i (.int .u8 0) 1 ht h2 h3 h4 .i64 .i64 n n n hx hy rfl rfl (by rw [h5]; omega) (by simp only [maxLen]; omega) (Nat.le_refl _) ?_
  intro w' hown hgrow
  refine h w' ?_ ⟨hgrow.os, hgrow.tape, hgrow.output, hgrow.size, fun k hk _ => hgrow.block k hk (by simp)⟩
  show _ = _
  rcases hown.2 with ⟨he, _⟩ | ⟨g, cap, cur, he, _, hg, hnc, hcm, hcs, htake⟩
  · cases he
  · injection he with e1 _ e3
    injection e1 with e1
    injection e1 with e1
    subst e1 e3
    rw [hg]
    have e4 : cur.toList = (madeCells (Value.int .u8 0).cells (n * 1)).toList := by rw [← htake, List.take_of_length_le (by simp [hcs])]
    have e5 : (madeCells (Value.int .u8 0).cells (n * 1)).toList = (List.replicate n (0 : UInt8)).map u8 := by
      apply List.ext_getElem?
      intro j
      by_cases hj : j < n
      · simp [madeCells, hj, u8, Value.cells, Nat.mod_one]
      · rw [List.getElem?_eq_none (by simp [madeCells]; omega), List.getElem?_eq_none (by simp; omega)]
    rw [← e5, ← e4]

/-- A ring at block g, its bytes' block gb: room for C, the first one at p, held l. -/
structure Rg (w : World) (g gb C p : Nat) (l : List UInt8) : Prop where
  cap : C ≤ 1048576
  at_ : p < C ∨ l = [] ∧ p = 0 ∧ C = 0
  ne : g ≠ gb
  hp : w.heap[g]? = some (.cells #[.int .i64 l.length, .bool true, .slice (some ⟨gb, 0, none⟩) C C, .int .i64 p] 105)
  bs : ∃ bs, bs.length = C ∧ Hld bs p l ∧ w.heap[gb]? = some (.cells (bs.map u8).toArray 5)
theorem Rg.keep {S : List Nat} {w w' : World} {g gb C p : Nat} {l : List UInt8} (h : Rg w g gb C p l) (k : Kp S w w') (h1 : g ∉ S) (h2 : gb ∉ S) : Rg w' g gb C p l :=
  ⟨h.cap, h.at_, h.ne, k.heap h.hp h1, by obtain ⟨bs, e1, e2, e3⟩ := h.bs; exact ⟨bs, e1, e2, k.heap e3 h2⟩⟩
theorem Rg.le {w : World} {g gb C p : Nat} {l : List UInt8} (h : Rg w g gb C p l) : l.length ≤ C := by obtain ⟨bs, e1, e2, _⟩ := h.bs; have := e2.1; omega
theorem Rg.cells {w : World} {g gb C p : Nat} {l : List UInt8} (h : Rg w g gb C p l) :
    w.cell? ⟨g, 0, none⟩ = some (.int .i64 l.length) ∧ w.cell? ⟨g, 1, none⟩ = some (.bool true) ∧ w.cell? ⟨g, 2, none⟩ = some (.slice (some ⟨gb, 0, none⟩) C C) ∧ w.cell? ⟨g, 3, none⟩ = some (.int .i64 p) ∧ ∀ j, w.frozen? ⟨g, j, none⟩ = false :=
  ⟨cell_of h.hp 0, cell_of h.hp 1, cell_of h.hp 2, cell_of h.hp 3, frozen_of h.hp⟩
theorem Rg.lt {w : World} {g gb C p : Nat} {l : List UInt8} (h : Rg w g gb C p l) : g < w.heap.size ∧ gb < w.heap.size := ⟨lt_of_heap h.hp, by obtain ⟨bs, _, _, e⟩ := h.bs; exact lt_of_heap e⟩

set_option maxHeartbeats 400000 in
theorem RgNone {w : World} {g gb C p : Nat} {l : List UInt8} (h : Rg w g gb C p l) : Calls Try.prog 129 #[.pointer (some ⟨g, 0, none⟩)] w fun e w' => e = .returned (.bool false) ∧ w = w' := by
  obtain ⟨c0, c1, c2, c3, cz⟩ := h.cells
  clear h
  go_enter Try.func129, Try.ntmps129
  go_wp2
  go_ret
  exact ⟨rfl, rfl⟩
set_option maxHeartbeats 400000 in
theorem RgLen {w : World} {g gb C p : Nat} {l : List UInt8} (h : Rg w g gb C p l) : Calls Try.prog 67 #[.pointer (some ⟨g, 0, none⟩)] w fun e w' => e = .returned (.int .i64 l.length) ∧ w = w' := by
  obtain ⟨c0, c1, c2, c3, cz⟩ := h.cells
  clear h
  generalize l.length = n at *
  go_enter Try.func67, Try.ntmps67
  go_wp2
  go_ret
  exact ⟨rfl, rfl⟩
set_option maxHeartbeats 400000 in
theorem RgCap {w : World} {g gb C p : Nat} {l : List UInt8} (h : Rg w g gb C p l) : Calls Try.prog 70 #[.pointer (some ⟨g, 0, none⟩)] w fun e w' => e = .returned (.int .i64 C) ∧ w = w' := by
  obtain ⟨c0, c1, c2, c3, cz⟩ := h.cells
  clear h
  go_enter Try.func70, Try.ntmps70
  go_wp2
  go_ret
  exact ⟨rfl, rfl⟩
set_option maxHeartbeats 400000 in
theorem RgRoom {w : World} {g gb C p : Nat} {l : List UInt8} (h : Rg w g gb C p l) : Calls Try.prog 68 #[.pointer (some ⟨g, 0, none⟩)] w fun e w' => e = .returned (.int .i64 ((C - l.length : Nat) : Int)) ∧ w = w' := by
  have hc := h.cap
  have hl := h.le
  go_enter Try.func68, Try.ntmps68
  go_wp2_with fail
  refine (RgCap h).mono ?_
  rintro e w1 ⟨rfl, rfl⟩
  go_wp2_with fail
  refine (RgLen h).mono ?_
  rintro e w1 ⟨rfl, rfl⟩
  go_wp2
  go_ret
  exact ⟨ret_int (by omega), rfl⟩
/-- 'min(n, held)', no less than 0 -/
def mostN (n : Int) (k : Nat) : Nat := (max 0 (min n (k : Int))).toNat
theorem mostN_le (n : Int) (k : Nat) : mostN n k ≤ k := by unfold mostN; omega
set_option maxHeartbeats 400000 in
theorem RgMost {w : World} {g gb C p : Nat} {l : List UInt8} (h : Rg w g gb C p l) (n : Int) : Calls Try.prog 133 #[.pointer (some ⟨g, 0, none⟩), .int .i64 n] w fun e w' => e = .returned (.int .i64 (mostN n l.length)) ∧ w = w' := by
  obtain ⟨c0, c1, c2, c3, cz⟩ := h.cells
  clear h
  generalize l.length = k at *
  by_cases h1 : (k : Int) < n
  · have HM : Hid ((k : Int) = mostN n k) := by show _ = _; unfold mostN; omega
    by_cases h2 : (0 : Int) < k
    all_goals
      go_enter Try.func133, Try.ntmps133
      go_wp2
    · go_ret
      exact ⟨ret_int HM.out, rfl⟩
    · go_ret
      exact ⟨ret_int (by have := HM.out; omega), rfl⟩
  · by_cases h2 : 0 < n
    · have HM : Hid (n = mostN n k) := by show _ = _; unfold mostN; omega
      go_enter Try.func133, Try.ntmps133
      go_wp2
      go_ret
      exact ⟨ret_int HM.out, rfl⟩
    · have HM : Hid (0 = (mostN n k : Int)) := by show _ = _; unfold mostN; omega
      go_enter Try.func133, Try.ntmps133
      go_wp2
      go_ret
      exact ⟨ret_int HM.out, rfl⟩
set_option maxHeartbeats 1000000 in
set_option maxRecDepth 100000 in
/-- 'Peek' -/
theorem RgPeek {w : World} {g gb C p : Nat} {l : List UInt8} (h : Rg w g gb C p l) (n : Int) : Calls Try.prog 80 #[.pointer (some ⟨g, 0, none⟩), .int .i64 n] w (OwR 5 (l.take (mostN n l.length)) w) := by
  obtain ⟨c0, c1, c2, c3, cz⟩ := h.cells
  obtain ⟨lt1, lt2⟩ := h.lt
  have hcap := h.cap
  have hle := h.le
  have hm := mostN_le n l.length
  have HR := Lib.hid h
  go_enter Try.func80, Try.ntmps80
  go_wp2_with fail
  refine (RgNone HR.out).mono ?_
  rintro e w1 ⟨rfl, rfl⟩
  go_wp2_with fail
  refine (RgMost HR.out n).mono ?_
  rintro e w1 ⟨rfl, rfl⟩
  generalize hmm : mostN n l.length = m at *
  clear hmm
  go_wp2_with (with_reducible refine stopAt (o := ⟨some 14, _, _, _, _, _⟩) ?_)
  refine Stop.go (wp_makeB rfl _ _ 22 5 rfl Try.underlying22 Try.info5 m rfl rfl (by omega) ?_)
  intro w1 hz k1
  have R1 := HR.out.keep k1 (by simp) (by simp)
  have z1 := lt_of_heap hz.out
  clear c0 c1 c2 c3 cz h
  obtain ⟨c0, c1, c2, c3, cz⟩ := R1.cells
  have HR1 := Lib.hid R1
  clear R1
  obtain ⟨bs, e1, e2, e3⟩ := HR1.out.bs
  have hat := HR1.out.at_
  have ip : (p : Int) ≤ (C : Int) := by rcases hat with h | ⟨_, h, h'⟩ <;> omega
  have HB := Lib.hid (Rd.block e3 0 C C bs e1 (Nat.le_refl _) (by rw [List.drop_zero, List.take_of_length_le (by simp [e1])])).drew
  have HE := Lib.hid (show _ ∧ _ ∧ _ from ⟨e1, e2, hat⟩)
  have hgm : gb ≠ w.heap.size := by omega
  have hgm2 : g ≠ w.heap.size := by omega
  clear e1 e2 e3 hat
  go_wp2
  go_still_tail 10, (by kernel_rfl)
  refine wp_copyB (w := w1.drew) rfl _ _ 22 5 rfl Try.underlying22 Try.info5 w.heap.size 0 (List.replicate m 0) _ hz.out _ _ _ rfl (fun _ => rfl) (by simp) _ _ _ (bs.drop p) rfl ?_ ?_
  · have := HB.out.sub p C (by omega) (Nat.le_refl _) (A' := if C = p then some ⟨gb, 0, none⟩ else some ⟨gb, p, none⟩) (by intro b off hA hc; rw [if_neg hc]; injection hA with hA; injection hA with h1 h2; subst h1 h2; simp)
    rwa [List.take_of_length_le (by simp [HE.out.1])] at this
  intro w2 hz2 k2
  have k2 := k2.undrew
  have R2 := HR1.out.keep k2 (by simpa using hgm2) (by simpa using hgm)
  have q2 : Kp [] w w2 := (k1.then k2 (by simp))
  have q12 : Kp [w.heap.size] w1.drew w2.drew := ⟨k2.os, k2.tape, k2.output, k2.size, k2.block⟩
  clear c0 c1 c2 c3 cz hz k1 k2 HR1
  obtain ⟨c0, c1, c2, c3, cz⟩ := R2.cells
  have HR2 := Lib.hid R2
  clear R2
  have z2 := lt_of_heap hz2.out
  obtain ⟨k, hk⟩ : ∃ k, min m (C - p) = k := ⟨_, rfl⟩
  rw [hk]
  have ik : (k : Int) ≤ (m : Int) := by omega
  have HK := Lib.hid hk
  clear hk z1 k2
  generalize (if C = p then (some ⟨gb, 0, none⟩ : Option Addr) else some ⟨gb, p, none⟩) = A24
  go_wp2
  go_still_tail 7, (by kernel_rfl)
  refine wp_copyB (w := w2.drew) rfl _ _ 22 5 rfl Try.underlying22 Try.info5 w.heap.size k (splice (List.replicate m 0) 0 ((bs.drop p).take m)) _ hz2.out _ _ _ rfl (fun hp => by rw [if_neg (by omega)]) ?_ _ _ _ bs rfl ?_ ?_
  · have := HE.out.1
    rw [length_splice _ _ _ (by simp; omega)]
    simp
    omega
  · obtain ⟨bs', b1, b2, b3⟩ := HR2.out.bs
    exact (HB.out.keep q12 (by simp [ob]; omega))
  intro w3 hz3 k3
  have k3 := k3.undrew
  have q3 : Kp [] w w3 := (q2.then k3 (by simp))
  generalize (if m = k then (some ⟨w.heap.size, 0, none⟩ : Option Addr) else some ⟨w.heap.size, k, none⟩) = A28
  go_wp2
  go_ret
  refine ⟨_, _, _, rfl, Ow.row (l := l.take m) ?_ _ m (Nat.le_refl _) (by simp; omega) (by simp [maxLen]; omega), q3⟩
  rw [hz3.out, ← HK.out, ← HE.out.2.1.peek' (zs := List.replicate m 0) HE.out.1 (by rcases HE.out.2.2 with h | h; exact .inl h; exact .inr h.1) m hm (List.length_replicate ..)]
set_option maxHeartbeats 1000000 in
set_option maxRecDepth 100000 in
/-- 'Drop' -/
theorem RgDrop {w : World} {g gb C p : Nat} {l : List UInt8} (h : Rg w g gb C p l) (n : Int) : Calls Try.prog 81 #[.pointer (some ⟨g, 0, none⟩), .int .i64 n] w fun e w' => e = .returned (.int .i64 (mostN n l.length)) ∧ Kp [g] w w' ∧ ∃ p', Rg w' g gb C p' (l.drop (mostN n l.length)) := by
  obtain ⟨c0, c1, c2, c3, cz⟩ := h.cells
  obtain ⟨lt1, lt2⟩ := h.lt
  have hcap := h.cap
  have hle := h.le
  have hm := mostN_le n l.length
  have HR := Lib.hid h
  have hL := h.hp
  obtain ⟨bs, e1, e2, e3⟩ := h.bs
  have hat := h.at_
  have HE := Lib.hid (show _ ∧ _ ∧ _ ∧ _ from ⟨e1, e2, e3, hat⟩)
  have ip : (p : Int) ≤ (C : Int) := by rcases hat with h | ⟨_, h, h'⟩ <;> omega
  have HL := Lib.hid hL
  clear h hL e1 e2 e3 hat
  generalize hmm : mostN n l.length = m at *
  have HMM := Lib.hid hmm
  clear hmm
  go_enter Try.func81, Try.ntmps81
  go_wp2_with fail
  refine (RgNone HR.out).mono ?_
  rintro e w1 ⟨rfl, rfl⟩
  go_wp2_with fail
  refine (RgMost HR.out n).mono ?_
  rintro e w1 ⟨rfl, rfl⟩
  rw [HMM.out]
  by_cases h0 : m = 0
  · subst h0
    go_wp2
    go_ret
    refine ⟨rfl, Kp.refl _ _, p, ?_⟩
    rw [List.drop_zero]
    exact HR.out
  · have h0' : 0 < m := by omega
    have hC : (0 : Int) < (C : Int) := by omega
    have hC' : ¬ C = 0 := by omega
    have hw : IntKind.i64.wrap ((p : Int) + m) = (p : Int) + m := IntWalk.i64_in _ (by omega)
    obtain ⟨q, hq⟩ : ∃ q, (p + m) % C = q := ⟨_, rfl⟩
    have hr1 : ((p : Int) + m).tmod (C : Int) = (q : Int) := by rw [← hq, Int.tmod_eq_emod_of_nonneg (by omega)]; simp
    have hr2 : ((p : Int) + m) % (C : Int) = (q : Int) := by rw [← hq]; simp
    have hw2 : IntKind.i64.wrap (q : Int) = (q : Int) := IntWalk.i64_in _ (by have := Nat.mod_lt (p + m) (show C > 0 by omega); omega)
    go_wp2
    go_still_tail 13, (by kernel_rfl)
    change wpList _ _ _ _ _ w.drew
    go_wp2
    go_ret
    have hlt := Nat.mod_lt (p + m) (show C > 0 by omega)
    have hl : (.int .i64 ((l.length : Int) - m) : Value) = .int .i64 ((l.drop m).length : Nat) := by rw [List.length_drop]; congr 1; omega
    rw [hl]
    refine ⟨rfl, (((Kp.refl [g] w).setCell (.inl (by simp)) _).setCell (.inl (by simp)) _).drew, q, HR.out.cap, .inl (by omega), HR.out.ne, hp_set _ g 0 _ _ _ (hp_set w g 3 _ _ _ HL.out), bs, HE.out.1, ?_, ?_⟩
    · rw [← hq]
      exact HE.out.2.1.drop HE.out.1 m hm (by omega)
    · have hne := HR.out.ne
      exact (hp_far _ _ _ _ (by simp; omega)).trans ((hp_far _ _ _ _ (by simp; omega)).trans HE.out.2.2.1)
set_option maxHeartbeats 1000000 in
set_option maxRecDepth 100000 in
/-- 'Put' -/
theorem RgPut {w : World} {g gb C p : Nat} {l : List UInt8} (h : Rg w g gb C p l) (A : Option Addr) (n c : Nat) (xs : List UInt8) (hx : Rd w A n c xs) (hn : n ≤ 140737488355328) (ha : 0 < n → ∀ b, b ∈ ob A → b ≠ g ∧ b ≠ gb) :
    Calls Try.prog 72 #[.pointer (some ⟨g, 0, none⟩), .slice A n c] w fun e w' => e = .returned (.int .i64 (min n (C - l.length) : Nat)) ∧ Kp [g, gb] w w' ∧ Rg w' g gb C p (l ++ xs.take (min n (C - l.length))) := by
  obtain ⟨c0, c1, c2, c3, cz⟩ := h.cells
  obtain ⟨lt1, lt2⟩ := h.lt
  have hcap := h.cap
  have hle := h.le
  have hxl := hx.len
  have hxc := hx.cap
  have HR := Lib.hid h
  have hL := h.hp
  obtain ⟨bs, e1, e2, e3⟩ := h.bs
  have hat := h.at_
  have HE := Lib.hid (show _ ∧ _ ∧ _ ∧ _ from ⟨e1, e2, e3, hat⟩)
  have hne := h.ne
  have HL := Lib.hid hL
  have HX := Lib.hid hx
  have HXL := Lib.hid hxl
  clear h hL e1 e2 e3 hat hx hxl
  obtain ⟨r, hr⟩ : ∃ r, C - l.length = r := ⟨_, rfl⟩
  have HRR := Lib.hid hr
  rw [hr]
  have hr1 : r ≤ C := by omega
  have hr2 : l.length + r = C := by omega
  clear hr
  obtain ⟨m, hm⟩ : ∃ m, min n r = m := ⟨_, rfl⟩
  rw [hm]
  by_cases hnr : n ≤ r
  · obtain rfl : m = n := by omega
    clear hm
    go_enter Try.func72, Try.ntmps72
    go_wp2_with fail
    refine (RgRoom HR.out).mono ?_
    rintro e w1 ⟨rfl, rfl⟩
    rw [HRR.out]
    by_cases h0 : m = 0
    · subst h0
      go_wp2
      go_ret
      refine ⟨rfl, Kp.refl _ _, ?_⟩
      simpa using HR.out
    · have hpC : p < C := by rcases HE.out.2.2.2 with h | ⟨_, _, h⟩ <;> omega
      have hC' : ¬ C = 0 := by omega
      have hw : IntKind.i64.wrap ((p : Int) + l.length) = (p : Int) + l.length := IntWalk.i64_in _ (by omega)
      obtain ⟨f, hf⟩ : ∃ f, (p + l.length) % C = f := ⟨_, rfl⟩
      have hfl : f < C := by rw [← hf]; exact Nat.mod_lt _ (by omega)
      have hr1 : ((p : Int) + l.length).tmod (C : Int) = (f : Int) := by rw [← hf, Int.tmod_eq_emod_of_nonneg (by omega)]; simp
      have hr2 : ((p : Int) + l.length) % (C : Int) = (f : Int) := by rw [← hf]; simp
      have HF := Lib.hid hf
      have hw2 : IntKind.i64.wrap (f : Int) = (f : Int) := IntWalk.i64_in _ (by omega)
      have ifC : (f : Int) ≤ (C : Int) := by omega
      have hfC : ¬ C = f := by omega
      have imc : (m : Int) ≤ (c : Int) := by omega
      clear hf
      go_wp2
      go_still_tail 16, (by kernel_rfl)
      change wpList _ _ _ _ _ w.drew
      have K1 : Kp [] w w.drew := (Kp.refl _ _).drew
      have HX1 := Lib.hid (HX.out.keep K1 (by simp))
      have R1 := HR.out.keep K1 (by simp) (by simp)
      have HL1 := Lib.hid (K1.heap HL.out (by simp))
      have HB1 := Lib.hid (K1.heap HE.out.2.2.1 (by simp))
      generalize w.drew = w1 at *
      clear c0 c1 c2 c3 cz
      obtain ⟨c0, c1, c2, c3, cz⟩ := R1.cells
      have HR1 := Lib.hid R1
      clear R1 hw hr1 hr2 hw2
      go_wp2
      go_still_tail 9, (by kernel_rfl)
      refine wp_copyB (w := w1.drew) rfl _ _ 22 5 rfl Try.underlying22 Try.info5 gb f bs _ HB1.out _ _ _ rfl (fun _ => rfl) (by have := HE.out.1; omega) _ _ _ (xs.take m) rfl (by have := HX1.out.drew.sub 0 m (by omega) (by omega) (A' := A) (by intro b off hA _; rw [hA]; simp); simpa using this) ?_
      intro w2 hb2 k2
      have k2 := k2.undrew
      have K2 := (K1.mono (T := [gb]) (fun s hs => by cases hs)).trans k2
      have HX2 := Lib.hid (HX1.out.keep k2 (by intro hp b hb hs; simp at hs; exact (ha hp b hb).2 hs))
      have HL2 := Lib.hid (k2.heap HL1.out (by simpa using hne))
      clear c0 c1 c2 c3 cz K1 k2 HB1 HX1 HL1 HX HR1
      have c0 := cell_of HL2.out 0
      have c1 := cell_of HL2.out 1
      have c2 := cell_of HL2.out 2
      have c3 := cell_of HL2.out 3
      have cz := frozen_of HL2.out
      obtain ⟨k, hk⟩ : ∃ k, min (C - f) m = k := ⟨_, rfl⟩
      rw [hk]
      have ikm : (k : Int) ≤ (m : Int) := by omega
      have ikc : (k : Int) ≤ (c : Int) := by omega
      have HK := Lib.hid hk
      clear hk
      go_wp2
      go_still_tail 8, (by kernel_rfl)
      refine wp_copyB (w := w2.drew) rfl _ _ 22 5 rfl Try.underlying22 Try.info5 gb 0 _ _ hb2.out _ _ _ rfl (fun _ => rfl) (by rw [length_splice _ _ _ (by have := HE.out.1; simp; omega)]; have := HE.out.1; omega) _ _ _ ((xs.drop k).take (m - k)) rfl ?_ ?_
      · exact HX2.out.drew.sub k m (by omega) (by omega) (by intro b off hA hc; subst hA; rw [if_neg hc]; simp [Addr.add])
      intro w3 hb3 k3
      have k3 := k3.undrew
      have K3 := K2.trans k3
      have HL3 := Lib.hid (k3.heap HL2.out (by simpa using hne))
      have z3 := lt_of_heap HL3.out
      clear c0 c1 c2 c3 cz k3 K2 HX2 hb2 HL2
      have c0 := cell_of HL3.out 0
      have cz := frozen_of HL3.out
      go_wp2
      all_goals
        go_ret
        have hml : (xs.take m).length = m := by have := HXL.out; simp; omega
        have hv : (.int .i64 ((l.length : Int) + m) : Value) = .int .i64 ((l ++ xs.take m).length : Nat) := by rw [List.length_append, hml]; simp
        have hbs : (splice (splice bs f ((xs.take m).take (C - f))) 0 (((xs.drop k).take (m - k)).take C)).length = C := by
          have h1 := HE.out.1
          have h2 : (((xs.drop k).take (m - k)).take C).length ≤ C := List.length_take_le _ _
          rw [length_splice _ _ _ (by rw [length_splice _ _ _ (by simp; omega)]; omega), length_splice _ _ _ (by simp; omega), h1]
        refine ⟨rfl, (K3.mono (T := [g, gb]) (fun s hs => .inl (by simp at hs; simp [hs]))).setCell (.inl (by simp)) _, hcap, .inl hpC, hne, ?_, _, hbs, ?_, (hp_far _ _ _ _ (by simpa using hne.symm)).trans hb3.out⟩
        · rw [hv]
          exact hp_set w3 g 0 _ _ _ HL3.out
        · exact HE.out.2.1.put' HE.out.1 hpC (by omega) (by have := HXL.out; omega) HF.out HK.out
  · obtain rfl : m = r := by omega
    clear hm
    go_enter Try.func72, Try.ntmps72
    go_wp2_with fail
    refine (RgRoom HR.out).mono ?_
    rintro e w1 ⟨rfl, rfl⟩
    rw [HRR.out]
    by_cases h0 : m = 0
    · subst h0
      go_wp2
      go_ret
      refine ⟨rfl, Kp.refl _ _, ?_⟩
      simpa using HR.out
    · have hpC : p < C := by rcases HE.out.2.2.2 with h | ⟨_, _, h⟩ <;> omega
      have hC' : ¬ C = 0 := by omega
      have hw : IntKind.i64.wrap ((p : Int) + l.length) = (p : Int) + l.length := IntWalk.i64_in _ (by omega)
      obtain ⟨f, hf⟩ : ∃ f, (p + l.length) % C = f := ⟨_, rfl⟩
      have hfl : f < C := by rw [← hf]; exact Nat.mod_lt _ (by omega)
      have hr1 : ((p : Int) + l.length).tmod (C : Int) = (f : Int) := by rw [← hf, Int.tmod_eq_emod_of_nonneg (by omega)]; simp
      have hr2 : ((p : Int) + l.length) % (C : Int) = (f : Int) := by rw [← hf]; simp
      have HF := Lib.hid hf
      have hw2 : IntKind.i64.wrap (f : Int) = (f : Int) := IntWalk.i64_in _ (by omega)
      have ifC : (f : Int) ≤ (C : Int) := by omega
      have hfC : ¬ C = f := by omega
      have imc : (m : Int) ≤ (c : Int) := by omega
      clear hf
      go_wp2
      go_still_tail 16, (by kernel_rfl)
      change wpList _ _ _ _ _ w.drew
      have K1 : Kp [] w w.drew := (Kp.refl _ _).drew
      have HX1 := Lib.hid (HX.out.keep K1 (by simp))
      have R1 := HR.out.keep K1 (by simp) (by simp)
      have HL1 := Lib.hid (K1.heap HL.out (by simp))
      have HB1 := Lib.hid (K1.heap HE.out.2.2.1 (by simp))
      generalize w.drew = w1 at *
      clear c0 c1 c2 c3 cz
      obtain ⟨c0, c1, c2, c3, cz⟩ := R1.cells
      have HR1 := Lib.hid R1
      clear R1 hw hr1 hr2 hw2
      go_wp2
      go_still_tail 9, (by kernel_rfl)
      refine wp_copyB (w := w1.drew) rfl _ _ 22 5 rfl Try.underlying22 Try.info5 gb f bs _ HB1.out _ _ _ rfl (fun _ => rfl) (by have := HE.out.1; omega) _ _ _ (xs.take m) rfl (by have := HX1.out.drew.sub 0 m (by omega) (by omega) (A' := A) (by intro b off hA _; rw [hA]; simp); simpa using this) ?_
      intro w2 hb2 k2
      have k2 := k2.undrew
      have K2 := (K1.mono (T := [gb]) (fun s hs => by cases hs)).trans k2
      have HX2 := Lib.hid (HX1.out.keep k2 (by intro hp b hb hs; simp at hs; exact (ha hp b hb).2 hs))
      have HL2 := Lib.hid (k2.heap HL1.out (by simpa using hne))
      clear c0 c1 c2 c3 cz K1 k2 HB1 HX1 HL1 HX HR1
      have c0 := cell_of HL2.out 0
      have c1 := cell_of HL2.out 1
      have c2 := cell_of HL2.out 2
      have c3 := cell_of HL2.out 3
      have cz := frozen_of HL2.out
      obtain ⟨k, hk⟩ : ∃ k, min (C - f) m = k := ⟨_, rfl⟩
      rw [hk]
      have ikm : (k : Int) ≤ (m : Int) := by omega
      have ikc : (k : Int) ≤ (c : Int) := by omega
      have HK := Lib.hid hk
      clear hk
      go_wp2
      go_still_tail 8, (by kernel_rfl)
      refine wp_copyB (w := w2.drew) rfl _ _ 22 5 rfl Try.underlying22 Try.info5 gb 0 _ _ hb2.out _ _ _ rfl (fun _ => rfl) (by rw [length_splice _ _ _ (by have := HE.out.1; simp; omega)]; have := HE.out.1; omega) _ _ _ ((xs.drop k).take (m - k)) rfl ?_ ?_
      · exact HX2.out.drew.sub k m (by omega) (by omega) (by intro b off hA hc; subst hA; rw [if_neg hc]; simp [Addr.add])
      intro w3 hb3 k3
      have k3 := k3.undrew
      have K3 := K2.trans k3
      have HL3 := Lib.hid (k3.heap HL2.out (by simpa using hne))
      have z3 := lt_of_heap HL3.out
      clear c0 c1 c2 c3 cz k3 K2 HX2 hb2 HL2
      have c0 := cell_of HL3.out 0
      have cz := frozen_of HL3.out
      go_wp2
      all_goals
        go_ret
        have hml : (xs.take m).length = m := by have := HXL.out; simp; omega
        have hv : (.int .i64 ((l.length : Int) + m) : Value) = .int .i64 ((l ++ xs.take m).length : Nat) := by rw [List.length_append, hml]; simp
        have hbs : (splice (splice bs f ((xs.take m).take (C - f))) 0 (((xs.drop k).take (m - k)).take C)).length = C := by
          have h1 := HE.out.1
          have h2 : (((xs.drop k).take (m - k)).take C).length ≤ C := List.length_take_le _ _
          rw [length_splice _ _ _ (by rw [length_splice _ _ _ (by simp; omega)]; omega), length_splice _ _ _ (by simp; omega), h1]
        refine ⟨rfl, (K3.mono (T := [g, gb]) (fun s hs => .inl (by simp at hs; simp [hs]))).setCell (.inl (by simp)) _, hcap, .inl hpC, hne, ?_, _, hbs, ?_, (hp_far _ _ _ _ (by simpa using hne.symm)).trans hb3.out⟩
        · rw [hv]
          exact hp_set w3 g 0 _ _ _ HL3.out
        · exact HE.out.2.1.put' HE.out.1 hpC (by omega) (by have := HXL.out; omega) HF.out HK.out
end Go.Proofs.Ytkmcakneceagpaa
