/- block.Split, walked: block.pieces's iterator under any loop body; then Split. -/
import Derived.Test.YtibeaombhjdakaaRf
set_option linter.unusedVariables false
set_option linter.unusedSimpArgs false
set_option linter.unusedSimpArgs false
namespace Go.Proofs.Ytibeaombhjdakaa
open Go.RowKit Go.Shelf
attribute [local go_sem] Oper.semAt_some

/-- how many pieces come ahead of the last -/
def cutsN (most len : Nat) : Nat := (len - 1) / most
theorem cutsN_lt {most len k : Nat} (hm : 1 ≤ most) (h : k < cutsN most len) : k * most + most < len := by
  unfold cutsN at h
  have h1 : (k + 1) * most ≤ len - 1 := (Nat.le_div_iff_mul_le hm).1 h
  rw [Nat.add_mul, Nat.one_mul] at h1
  omega
theorem cutsN_ge {most len k : Nat} (hm : 1 ≤ most) (h : cutsN most len ≤ k) : len ≤ k * most + most := by
  unfold cutsN at h
  have h1 : len - 1 < (k + 1) * most := (Nat.div_lt_iff_lt_mul hm).1 (by omega)
  rw [Nat.add_mul, Nat.one_mul] at h1
  omega
def piece (most : Nat) (b : List UInt8) (k : Nat) : List UInt8 := (b.drop (k * most)).take most

set_option maxRecDepth 100000 in
set_option maxHeartbeats 1000000 in
theorem Pieces_in (fd : Nat) (hn : 1 ≤ fd) (l Bb Bm b0 : Nat) (S : List Nat) (J : Nat → World → Prop) (most : Nat) (hm : 1 ≤ most) (hm2 : most ≤ 9223372036854775807) (A : Option Addr) (c0 : Nat) (b : List UInt8) (hlen : b.length ≤ 140737488351232)
    (hBb : Bb < b0 ∧ Bb ∉ S) (hBm : Bm < b0 ∧ Bm ∉ S) (hne : Bb ≠ Bm) (hA : 0 < b.length → ∀ x, x ∈ ob A → x < b0 ∧ x ∉ S ∧ x ≠ Bb)
    (hJs : ∀ k W v, J k W → J k (W.setCell ⟨Bb, 0, none⟩ v))
    (hY : ∀ k A' m c' W, J k W → k ≤ cutsN most b.length → Rd W A' m c' (piece most b k) → m ≤ 140737488351232 → (0 < m → ∀ x, x ∈ ob A' → x < b0 ∧ x ∉ S) → YieldAt Fence.wide (fd - 1) Try.prog l #[.slice A' m c', .bool (decide (k = cutsN most b.length))] W fun e W' =>
      e = .returned (.bool true) ∧ J (k + 1) W' ∧ KX b0 S W W')
    (W : World) (h0 : J 0 W) (hb : W.heap[Bb]? = some (.cells #[.slice A b.length c0] 30)) (hmo : W.heap[Bm]? = some (.cells #[.int .i64 most] 3)) (hR : Rd W A b.length c0 b) :
    CallsIn Fence.wide fd Try.prog 17 #[.func (.yield l) #[] #[], .pointer (some ⟨Bb, 0, none⟩), .pointer (some ⟨Bm, 0, none⟩)] W fun e W' => (∃ v, e = .returned v) ∧ J (cutsN most b.length + 1) W' ∧ KX b0 (Bb :: S) W W' := by
  refine callsIn_of_wp Try.func17 rfl trivial ?_ rfl
  simp only [Try.ntmps17, List.size_toArray, List.length_cons, List.length_nil, Nat.reduceAdd, Nat.reduceSub, Array.replicate_succ, Array.replicate_zero, List.push_toArray, List.append_toArray, List.nil_append, List.cons_append]
  gi_wp2
  gi_loopw [] (fun wr => ∃ (k : Nat) (A' : Option Addr) (n' c' : Nat), k ≤ cutsN most b.length ∧ J k wr ∧ KX b0 (Bb :: S) W wr ∧ wr.heap[Bb]? = some (.cells #[.slice A' n' c'] 30) ∧ wr.heap[Bm]? = some (.cells #[.int .i64 most] 3) ∧ Rd wr A' n' c' (b.drop (k * most)) ∧ (0 < n' → ∀ x, x ∈ ob A' → x < b0 ∧ x ∉ S ∧ x ≠ Bb))
    (fun wr => match wr.cell? ⟨Bb, 0, none⟩ with | some (.slice _ n _) => n | _ => 0)
  case atStart => exact ⟨0, A, b.length, c0, Nat.zero_le _, h0, KX.refl _ _ _, hb, hmo, by simpa using hR, hA⟩
  case round =>
    obtain ⟨k, A', n', c', hk, hJ, hX, hB, hM, hr, hx⟩ := hrel
    have cB : wr.cell? ⟨Bb, 0, none⟩ = some (.slice A' n' c') := cell_of hB 0
    have cM : wr.cell? ⟨Bm, 0, none⟩ = some (.int .i64 most) := cell_of hM 0
    have fB : wr.frozen? ⟨Bb, 0, none⟩ = false := frozen_of hB 0
    have hl := hr.len
    have hc := hr.cap
    simp only [List.length_drop] at hl
    by_cases hlt : k < cutsN most b.length
    · have h1 := cutsN_lt hm hlt
      obtain ⟨bb, off, rfl, hbb, hcell⟩ := hr.addr (by omega)
      have hxx := hx (by omega) bb (by simp [ob])
      have hle : (most : Int) < (n' : Int) := by omega
      have hle2 : (most : Int) ≤ (n' : Int) := by omega
      have hle3 : (most : Int) ≤ (c' : Int) := by omega
      have hd : (decide (k = cutsN most b.length)) = false := by simp; omega
      have hr1 : Rd wr (some ⟨bb, off, none⟩) most c' (piece most b k) := by
        have := hr.sub 0 most (by omega) (by omega) (A' := some ⟨bb, off, none⟩) (by intro _ _ h _; injection h with h1; injection h1 with h2 h3 _; rw [h2, h3]; simp)
        simpa [piece] using this
      obtain ⟨fn, tmps, assign, body, hy, hRn⟩ := hY k (some ⟨bb, off, none⟩) most c' wr hJ hk hr1 (by omega) (fun _ x hx => by simp [ob] at hx; subst hx; exact ⟨hxx.1, hxx.2.1⟩)
      rw [hd] at hy
      gi_wp2
      refine hRn.mono ?_
      rintro e W3 ⟨rfl, hJ3, hX3⟩
      have hB3 := hX3.heap hB hBb.1 hBb.2
      have hM3 := hX3.heap hM hBm.1 hBm.2
      have hr3 := hX3.rd hr (fun _ x hx => by simp [ob] at hx; subst hx; exact ⟨hxx.1, hxx.2.1⟩)
      have cB3 : W3.cell? ⟨Bb, 0, none⟩ = some (.slice (some ⟨bb, off, none⟩) n' c') := cell_of hB3 0
      have cM3 : W3.cell? ⟨Bm, 0, none⟩ = some (.int .i64 most) := cell_of hM3 0
      have fB3 : W3.frozen? ⟨Bb, 0, none⟩ = false := frozen_of hB3 0
      gi_wp2
      have hBs := hp_set W3 Bb 0 (.slice (some ⟨bb, off + most, none⟩) (n' - most) (c' - most)) _ _ hB3
      have K9 : Kp [Bb] W3 (W3.setCell ⟨Bb, 0, none⟩ (.slice (some ⟨bb, off + most, none⟩) (n' - most) (c' - most))) := (Kp.refl _ _).setCell (.inl (by simp)) _
      go_roundw
      case rel =>
        refine ⟨k + 1, some ⟨bb, off + most, none⟩, n' - most, c' - most, by omega, hJs _ _ _ hJ3, (hX.trans (hX3.mono (fun s hs => List.mem_cons_of_mem _ hs))).trans (KX.of K9 (by simp)), hBs, K9.heap hM3 (by simp; exact fun e => hne e.symm), ?_, fun _ x hx => by simp [ob] at hx; subst hx; exact hxx⟩
        have := hr3.sub most n' (by omega) (by omega) (A' := some ⟨bb, off + most, none⟩) (by intro _ _ h _; injection h with h1; injection h1 with h2 h3 _; rw [h2, h3])
        have := this.keep K9 (fun _ x hx => by simp [ob] at hx; subst hx; simp; exact hxx.2.2)
        rw [List.drop_drop, List.take_of_length_le (by simp; omega)] at this
        rwa [Nat.add_mul, Nat.one_mul]
      case measure =>
        have e1 : (W3.setCell ⟨Bb, 0, none⟩ (.slice (some ⟨bb, off + most, none⟩) (n' - most) (c' - most))).cell? ⟨Bb, 0, none⟩ = some (.slice (some ⟨bb, off + most, none⟩) (n' - most) (c' - most)) := cell_of hBs 0
        rw [e1, cB]
        show n' - most < n'
        omega
    · obtain rfl : k = cutsN most b.length := by omega
      have h1 := cutsN_ge hm (Nat.le_refl (cutsN most b.length))
      have hle : ¬ ((most : Int) < (n' : Int)) := by omega
      have hd : (decide (cutsN most b.length = cutsN most b.length)) = true := by simp
      have hr1 : Rd wr A' n' c' (piece most b (cutsN most b.length)) := by
        unfold piece
        rw [List.take_of_length_le (by simp; omega)]
        exact hr
      obtain ⟨fn, tmps, assign, body, hy, hRn⟩ := hY _ A' n' c' wr hJ (Nat.le_refl _) hr1 (by omega) (fun h x hx' => ⟨(hx h x hx').1, (hx h x hx').2.1⟩)
      rw [hd] at hy
      gi_wp2
      refine hRn.mono ?_
      rintro e W3 ⟨rfl, hJ3, hX3⟩
      gi_wp2
      go_end0
      exact ⟨⟨_, rfl⟩, hJ3, hX.trans (hX3.mono (fun s hs => List.mem_cons_of_mem _ hs))⟩

set_option maxRecDepth 100000 in
set_option maxHeartbeats 400000 in
theorem Maker (A : Option Addr) (n c : Nat) (most : Int) (w : World) : Calls Try.prog 16 #[.slice A n c, .int .i64 most] w fun e w' => e = .returned (.func (.func 17) #[] #[.pointer (some ⟨w.heap.size, 0, none⟩), .pointer (some ⟨w.heap.size + 1, 0, none⟩)]) ∧ w' = (w.alloc (.cells #[.slice A n c] 30)).alloc (.cells #[.int .i64 most] 3) := by
  go_enter Try.func16, Try.ntmps16
  go_wp2
  go_ret
  simp

theorem infoFr : (Try.prog.info? 34).map (fun i => (i.zero, i.size, i.bytes)) = some (some (.agg #[.int .i64 0, .int .i64 0, .int .i64 0, .slice none 0 0, .int .i64 0, .int .u32 0, .int .i64 0, .int .i64 0, .int .i64 0, .bool false, .int .i64 0, .slice none 0 0]), 12, 128) := by kernel_rfl
/-- a frame of a block's -/
structure SpF (st : Int) (en : Bool) (most : Nat) (b : List UInt8) (i : Nat) (p : Fr × List UInt8) : Prop where
  ty : p.1.ty = if i = 0 then 1 else 9
  fl : p.1.fl = (if i = 0 then (if en then 1 else 0) else 0) + (if i = cutsN most b.length then 4 else 0)
  st : p.1.st = st
  pl : p.2 = piece most b i
/-- what a round gets -/
def SpA (most : Nat) (b : List UInt8) (b0 : Nat) (S : List Nat) (k : Nat) (x : Array Value) (W : World) : Prop :=
  ∃ A' m c', x = #[.slice A' m c', .bool (decide (k = cutsN most b.length))] ∧ Rd W A' m c' (piece most b k) ∧ m ≤ 140737488351232 ∧ (0 < m → ∀ x, x ∈ ob A' → x < b0 ∧ x ∉ S)
/-- between two rounds -/
def SpI (st : Int) (en : Bool) (most : Nat) (b : List UInt8) (w0 : World) (g b0 : Nat) (k : Nat) (W : World) : Prop :=
  ∃ (ty fl : Int) (AP : Option Addr) (nP cP : Nat) (AL : Option Addr) (nL cL : Nat) (fs : List (Fr × List UInt8)),
    W.heap[g]? = some (.cells #[.int .i64 ty, .int .i64 fl, .int .i64 st, .slice AP nP cP, .int .i64 0, .int .u32 0, .int .i64 0, .int .i64 0, .int .i64 0, .bool false, .int .i64 0, .slice none 0 0] 34) ∧
    W.heap[g + 1]? = some (.cells #[.slice AL nL cL] 22) ∧ FrL W (b0 + 2) W.heap.size AL nL cL fs ∧ nL = k ∧ Kp [] w0 W ∧ (ty = if k = 0 then 1 else 9) ∧ (fl = if k = 0 then (if en then 1 else 0) else 0) ∧
    (∀ i p, fs[i]? = some p → SpF st en most b i p) ∧ b0 + 2 ≤ W.heap.size
theorem SpI.keep {st : Int} {en : Bool} {most : Nat} {b : List UInt8} {w0 : World} {g b0 k : Nat} {W W' : World} {t : Nat} (K : Kp [t] W W') (hs : W'.heap.size = W.heap.size) (h0 : w0.heap.size ≤ t) (h1 : t ≠ g) (h2 : t ≠ g + 1) (h3 : t < b0 + 2) (h : SpI st en most b w0 g b0 k W) : SpI st en most b w0 g b0 k W' := by
  obtain ⟨ty, fl, AP, nP, cP, AL, nL, cL, fs, HF, HL, F, hn, K2, hty, hfl, hkey, hs2⟩ := h
  refine ⟨ty, fl, AP, nP, cP, AL, nL, cL, fs, K.heap HF (by simp; exact fun e => h1 e.symm), K.heap HL (by simp; exact fun e => h2 e.symm), ?_, hn, K2.then K (by simp; exact h0), hty, hfl, hkey, by omega⟩
  rw [hs]
  exact F.keep K (by simp; omega)
theorem SpI.setB {st : Int} {en : Bool} {most : Nat} {b : List UInt8} {w0 : World} {g b0 t : Nat} (h0 : w0.heap.size ≤ t ∧ t < b0 + 2) (h1 : t ≠ g) (h2 : t ≠ g + 1) (k : Nat) (W : World) (v : Value) (h : SpI st en most b w0 g b0 k W) : SpI st en most b w0 g b0 k (W.setCell ⟨t, 0, none⟩ v) :=
  h.keep ((Kp.refl _ _).setCell (.inl (by simp)) _) (by simp) h0.1 h1 h2 h0.2
theorem SpI.putObj {st : Int} {en : Bool} {most : Nat} {b : List UInt8} {w0 : World} {g b0 : Nat} (hg : g + 1 < b0) (h0 : w0.heap.size ≤ b0) (k : Nat) (W : World) (l : Nat) (o : Obj) (h3 : b0 ≤ l) (h4 : l ≤ b0 + 1) (h : SpI st en most b w0 g b0 k W) : SpI st en most b w0 g b0 k (W.putObj l o) :=
  h.keep (t := l) ((Kp.refl _ _).putObj (.inl (by simp)) _) (by simp) (by omega) (by omega) (by omega) (by omega)

set_option maxRecDepth 100000 in
set_option maxHeartbeats 2000000 in
theorem SplitOk (st : Int) (hst : 1 ≤ st ∧ st ≤ 2147483647) (A : Option Addr) (n c : Nat) (b : List UInt8) (en : Bool) (most : Nat) (hm : 1 ≤ most) (hm2 : most ≤ 9223372036854775807) (w0 : World) (hR : Rd w0 A n c b) (hn : n ≤ 140737488351232) (hlt : 0 < n → ∀ x, x ∈ ob A → x < w0.heap.size) (hfew : n / most ≤ 5000) :
    Calls Try.prog 15 #[.int .i64 st, .slice A n c, .bool en, .int .i64 most] w0 fun e w' => ∃ AL nL cL fs, e = .returned (.tuple #[.slice AL nL cL, .int .i64 0]) ∧ nL = cutsN most n + 1 ∧ FrL w' w0.heap.size w'.heap.size AL nL cL fs ∧ (∀ i p, fs[i]? = some p → SpF st en most b i p) ∧ Kp [] w0 w' := by
  refine (callsIn_wide (n := 9)).1 ?_
  refine callsIn_of_wp_marks Try.func15 rfl trivial ?_ rfl
  simp only [Try.ntmps15, List.size_toArray, List.length_cons, List.length_nil, Nat.reduceAdd, Nat.reduceSub, Array.replicate_succ, Array.replicate_zero, List.push_toArray, List.append_toArray, List.nil_append, List.cons_append]
  obtain rfl := hR.len
  have hcN : cutsN most b.length ≤ 5000 := Nat.le_trans (Nat.div_le_div_right (by omega)) hfew
  gi_wp2_with fail
  · have hen : en = true := by assumption
    refine ⟨trivial, ?_⟩
    refine (callsIn_wide.2 (Maker _ _ _ _ _)).mono ?_
    rintro e w1 ⟨rfl, rfl⟩
    gi_wp2_with fail
    try simp only [World.size_alloc, World.size_setCell]
    generalize hW : World.alloc _ _ = W1
    have K0 : Kp [] w0 W1 := by rw [← hW]; (repeat (first | with_reducible exact Kp.refl _ _ | with_reducible assumption | with_reducible refine Kp.alloc ?_ _ | with_reducible refine Kp.drew ?_ | with_reducible refine Kp.drewN ?_ _ | (with_reducible refine Kp.setL ?_ ?_ _; focus (simp; done)) | (with_reducible refine Kp.setR ?_ ?_ _; focus (simp; done)) | (with_reducible refine Kp.setR ?_ ?_ _; focus (simp; omega))))
    have HF : W1.heap[w0.heap.size]? = some (.cells #[.int .i64 1, .int .i64 1, .int .i64 st, .slice none 0 0, .int .i64 0, .int .u32 0, .int .i64 0, .int .i64 0, .int .i64 0, .bool false, .int .i64 0, .slice none 0 0] 34) := by rw [← hW]; (repeat (first | with_reducible assumption | (with_reducible refine hp_new _ _ _ ?_; focus (simp; done)) | (with_reducible refine (hp_old _ _ _ ?_).trans ?_; focus (first | omega | (simp; done) | (simp; omega))) | (with_reducible refine (hp_far _ _ _ _ ?_).trans ?_; focus (first | (simp; done) | (simp; omega))) | (with_reducible refine (hp_drew _ _).trans ?_) | (with_reducible refine (hp_drewN _ _ _).trans ?_)))
    have HL : W1.heap[w0.heap.size + 1]? = some (.cells #[.slice none 0 0] 22) := by rw [← hW]; (repeat (first | with_reducible assumption | (with_reducible refine hp_new _ _ _ ?_; focus (simp; done)) | (with_reducible refine (hp_old _ _ _ ?_).trans ?_; focus (first | omega | (simp; done) | (simp; omega))) | (with_reducible refine (hp_far _ _ _ _ ?_).trans ?_; focus (first | (simp; done) | (simp; omega))) | (with_reducible refine (hp_drew _ _).trans ?_) | (with_reducible refine (hp_drewN _ _ _).trans ?_)))
    have HB : W1.heap[w0.heap.size + 1 + 1]? = some (.cells #[.slice A b.length c] 30) := by rw [← hW]; (repeat (first | with_reducible assumption | (with_reducible refine hp_new _ _ _ ?_; focus (simp; done)) | (with_reducible refine (hp_old _ _ _ ?_).trans ?_; focus (first | omega | (simp; done) | (simp; omega))) | (with_reducible refine (hp_far _ _ _ _ ?_).trans ?_; focus (first | (simp; done) | (simp; omega))) | (with_reducible refine (hp_drew _ _).trans ?_) | (with_reducible refine (hp_drewN _ _ _).trans ?_)))
    have HM : W1.heap[w0.heap.size + 1 + 1 + 1]? = some (.cells #[.int .i64 most] 3) := by rw [← hW]; (repeat (first | with_reducible assumption | (with_reducible refine hp_new _ _ _ ?_; focus (simp; done)) | (with_reducible refine (hp_old _ _ _ ?_).trans ?_; focus (first | omega | (simp; done) | (simp; omega))) | (with_reducible refine (hp_far _ _ _ _ ?_).trans ?_; focus (first | (simp; done) | (simp; omega))) | (with_reducible refine (hp_drew _ _).trans ?_) | (with_reducible refine (hp_drewN _ _ _).trans ?_)))
    have hsz : W1.heap.size = w0.heap.size + 4 := by rw [← hW]; simp
    clear hW
    refine wpIn_rangeFunc_n (by omega) rfl (enters_of Try.func17 (by kernel_rfl) rfl) [w0.heap.size, w0.heap.size + 1] (w0.heap.size + 1 + 1) (by omega) (cutsN most b.length) (SpA most b W1.heap.size [w0.heap.size, w0.heap.size + 1]) ?hps ?hArp ?hseq (SpI st en most b w0 w0.heap.size W1.heap.size) ?hIs ?hIp ?hIa ?hround ?hdone
    case hps => rintro k x W ⟨A', m, c', rfl, _⟩; rfl
    case hArp => rintro k x W l o hl ⟨A', m, c', hx, hr, h1, h2⟩; exact ⟨A', m, c', hx, hr.keep (S := [l]) ((Kp.refl _ _).putObj (.inl (by simp)) _) (fun hp x hx => by have := (h2 hp x hx).1; simp; omega), h1, h2⟩
    case hseq =>
      intro l J W hW hJs hY hJ0
      refine (Pieces_in 8 (by omega) l (w0.heap.size + 1 + 1) (w0.heap.size + 1 + 1 + 1) W1.heap.size [w0.heap.size, w0.heap.size + 1] J most hm hm2 A c b (by omega) (by simp; omega) (by simp; omega) (by omega) ?_ hJs ?_ W hJ0 (hW.heap HB (by simp)) (hW.heap HM (by simp)) ((hR.keep K0 (by simp)).keep hW (by simp))).mono ?_
      · intro hp x hx
        have := hlt hp x hx
        simp
        omega
      · intro k A' m c' W' hJ hk hr h1 h2
        exact hY k _ W' hJ hk ⟨A', m, c', rfl, hr, h1, h2⟩
      · rintro e W' ⟨h1, h2, _⟩
        exact ⟨h1, h2⟩
    case hIs => exact SpI.setB (by omega) (by omega) (by omega)
    case hIp => exact SpI.putObj (by omega) (by omega)
    case hIa =>
      intro o o'
      refine ⟨1, 1, none, 0, 0, none, 0, 0, [], ?_, ?_, ?_, rfl, (K0.alloc o).alloc o', rfl, by simp [hen], by simp, by simp⟩
      · exact (hp_old _ _ _ (by simp; omega)).trans ((hp_old _ _ _ (by omega)).trans HF)
      · exact (hp_old _ _ _ (by simp; omega)).trans ((hp_old _ _ _ (by omega)).trans HL)
      · exact (FrL.nil _ _).mono (Nat.le_refl _) (Nat.le_refl _) (Nat.le_refl _)
    case hround =>
      rintro l k x W hkN ⟨A', m, c', rfl, hRx0, hmx, hbx⟩
      gi_wp2
      refine ⟨trivial, ?_⟩
      rintro W2 ⟨ty, fl, AP, nP, cP, AL, nL, cL, fs, HF2, HL2, F2, hnL, K2, hty, hfl, hkey, hs2⟩ ⟨A'', m'', c'', hx2, hRx, _, _⟩
      obtain ⟨rfl, rfl, rfl⟩ : A' = A'' ∧ m = m'' ∧ c' = c'' := by simpa using hx2
      clear hx2 hRx0
      have HTY := Lib.hid hty
      have HFL := Lib.hid hfl
      have HKEY := Lib.hid hkey
      have HNL := Lib.hid hnL
      have hn5 : nL ≤ 5000 := by omega
      clear hty hfl hkey hnL
      by_cases hlast : k = cutsN most b.length
      · simp only [hlast, decide_true]
        gi_wp2_with (with_reducible refine stopAtIn (o := ⟨some 34, _, _, _, _, _⟩) ?_)
        refine Stop.go (wp_appBIn rfl _ _ 30 5 rfl Try.underlying30 Try.info5 W2.heap.size none 0 0 [] rfl (Ow.nil _ _ _ _) A' m c' (piece most b k) rfl hRx (by omega) (Nat.le_refl _) ?_)
        intro A3 k3 c3 l3 w3 hk3 hl3 O3 K3 hA3
        have HF3 := K3.heap HF2 (by simp [ob])
        have HL3 := K3.heap HL2 (by simp [ob])
        have F3 := F2.keep K3 (by simp [ob])
        have s3 := K3.size
        have HF3_0 := cell_of HF3 0
        have HF3_1 := cell_of HF3 1
        have HF3_2 := cell_of HF3 2
        have HF3_3 := cell_of HF3 3
        have HF3_4 := cell_of HF3 4
        have HF3_5 := cell_of HF3 5
        have HF3_6 := cell_of HF3 6
        have HF3_7 := cell_of HF3 7
        have HF3_8 := cell_of HF3 8
        have HF3_9 := cell_of HF3 9
        have HF3_10 := cell_of HF3 10
        have HF3_11 := cell_of HF3 11
        have HF3_z := frozen_of HF3
        have HL3_0 := cell_of HL3 0
        have HL3_z := frozen_of HL3
        
        clear HF2 HL2 hRx
        gi_wp2_with (with_reducible refine stopAtIn (o := ⟨some 41, _, _, _, _, _⟩) ?_)
        generalize hW : World.setCell _ _ _ = W4
        have K4 : Kp [w0.heap.size] w3 W4 := by rw [← hW]; (repeat (first | with_reducible exact Kp.refl _ _ | with_reducible assumption | with_reducible refine Kp.alloc ?_ _ | with_reducible refine Kp.drew ?_ | with_reducible refine Kp.drewN ?_ _ | (with_reducible refine Kp.setL ?_ ?_ _; focus (simp; done)) | (with_reducible refine Kp.setR ?_ ?_ _; focus (simp; done)) | (with_reducible refine Kp.setR ?_ ?_ _; focus (simp; omega))))
        have HF4 : W4.heap[w0.heap.size]? = some (.cells #[.int .i64 ty, .int .i64 (bits .or .i64 fl 4), .int .i64 st, .slice A3 k3 c3, .int .i64 0, .int .u32 0, .int .i64 0, .int .i64 0, .int .i64 0, .bool false, .int .i64 0, .slice none 0 0] 34) := by rw [← hW]; exact hp_set _ _ _ _ _ _ (hp_set _ _ _ _ _ _ HF3)
        have HL4 := K4.heap HL3 (by simp)
        clear hW
        have s4 := K4.size
        have F4 := F3.keep K4 (by simp; omega)
        have R3 := O3.rd.keep K4 (by intro hp x hx; have := (O3.base x hx).1; simp; omega)
        have B3 : ∀ x, x ∈ ob A3 → W2.heap.size ≤ x ∧ x < W4.heap.size := fun x hx => by have := O3.base x hx; omega
        obtain ⟨flv, hflv⟩ : ∃ flv : Int, (bits .or .i64 fl 4) = flv := ⟨_, rfl⟩
        try rw [hflv] at HF4
        have HF4_0 := cell_of HF4 0
        have HF4_1 := cell_of HF4 1
        have HF4_2 := cell_of HF4 2
        have HF4_3 := cell_of HF4 3
        have HF4_4 := cell_of HF4 4
        have HF4_5 := cell_of HF4 5
        have HF4_6 := cell_of HF4 6
        have HF4_7 := cell_of HF4 7
        have HF4_8 := cell_of HF4 8
        have HF4_9 := cell_of HF4 9
        have HF4_10 := cell_of HF4 10
        have HF4_11 := cell_of HF4 11
        have HF4_z := frozen_of HF4
        have HL4_0 := cell_of HL4 0
        have HL4_z := frozen_of HL4
        
        have HF5 := HF4
        have HL5 := HL4
        have HK3 := Lib.hid K3
        clear HF4 HL4 K3
        refine Stop.go ?_
        gi_wp2_with (with_reducible refine stopAtIn (o := ⟨some 44, _, _, _, _, _⟩) ?_)
        generalize hW : World.alloc _ _ = W5
        have K5 : Kp [] W4 W5 := by rw [← hW]; (repeat (first | with_reducible exact Kp.refl _ _ | with_reducible assumption | with_reducible refine Kp.alloc ?_ _ | with_reducible refine Kp.drew ?_ | with_reducible refine Kp.drewN ?_ _ | (with_reducible refine Kp.setL ?_ ?_ _; focus (simp; done)) | (with_reducible refine Kp.setR ?_ ?_ _; focus (simp; done)) | (with_reducible refine Kp.setR ?_ ?_ _; focus (simp; omega))))
        have HN5 : W5.heap[W4.heap.size]? = some (.cells #[.int .i64 ty, .int .i64 flv, .int .i64 st, .slice A3 k3 c3, .int .i64 0, .int .u32 0, .int .i64 0, .int .i64 0, .int .i64 0, .bool false, .int .i64 0, .slice none 0 0] 34) := by rw [← hW]; (repeat (first | with_reducible assumption | (with_reducible refine hp_new _ _ _ ?_; focus (simp; done)) | (with_reducible refine (hp_old _ _ _ ?_).trans ?_; focus (first | omega | (simp; done) | (simp; omega))) | (with_reducible refine (hp_far _ _ _ _ ?_).trans ?_; focus (first | (simp; done) | (simp; omega))) | (with_reducible refine (hp_drew _ _).trans ?_) | (with_reducible refine (hp_drewN _ _ _).trans ?_)))
        have hs5 : W5.heap.size = W4.heap.size + 1 := by rw [← hW]; simp
        clear hW
        have F5 := F4.keep K5 (by simp)
        have HF6 := K5.heap HF5 (by simp)
        have HL6 := K5.heap HL5 (by simp)
        have R5 := R3.keep K5 (by simp)
        refine Stop.go (wp_appIn rfl _ _ 22 34 (.agg #[.int .i64 0, .int .i64 0, .int .i64 0, .slice none 0 0, .int .i64 0, .int .u32 0, .int .i64 0, .int .i64 0, .int .i64 0, .bool false, .int .i64 0, .slice none 0 0]) 12 128 rfl Try.underlying22 infoFr rfl (by decide) (W1.heap.size + 2) AL nL cL (fs.flatMap fun p => Fr.cells p.1) rfl F5.ow (some ⟨W4.heap.size, 0, none⟩) 1 1 (Fr.cells ⟨ty, flv, st, A3, k3, c3, 0, 0, 0, 0, 0, false, 0, none, 0, 0⟩) rfl rfl (At.block HN5 0 _ rfl) (by intro u hu; simp at hu; rcases hu with rfl | rfl | rfl | rfl | rfl | rfl | rfl | rfl | rfl | rfl | rfl | rfl <;> rfl) (by simp only [maxLen]; omega) (by omega) (by omega) ?_)
        intro A6 k6 c6 w6 hk6 O6 K6 hA6
        have HF7 := K6.heap HF6 (by intro hx; have := (F5.ow.base _ hx).1; omega)
        have HL7 := K6.heap HL6 (by intro hx; have := (F5.ow.base _ hx).1; omega)
        have HF7_0 := cell_of HF7 0
        have HF7_1 := cell_of HF7 1
        have HF7_2 := cell_of HF7 2
        have HF7_3 := cell_of HF7 3
        have HF7_4 := cell_of HF7 4
        have HF7_5 := cell_of HF7 5
        have HF7_6 := cell_of HF7 6
        have HF7_7 := cell_of HF7 7
        have HF7_8 := cell_of HF7 8
        have HF7_9 := cell_of HF7 9
        have HF7_10 := cell_of HF7 10
        have HF7_11 := cell_of HF7 11
        have HF7_z := frozen_of HF7
        have HL7_0 := cell_of HL7 0
        have HL7_z := frozen_of HL7
        
        have F7 := F5.app (f := ⟨ty, flv, st, A3, k3, c3, 0, 0, 0, 0, 0, false, 0, none, 0, 0⟩) (l := l3) R5 (by intro x hx; have := B3 x hx; omega) (by omega) O6 hk6.out K6 hA6
        clear HF5 HL5 HN5 HF6 HL6
        gi_wp2
        generalize hW : World.setCell _ _ _ = W7
        have K7 : Kp [w0.heap.size, w0.heap.size + 1] w6 W7 := by rw [← hW]; exact (((Kp.refl _ _).setCell (.inl (by simp)) _).setCell (.inl (by simp)) _).setCell (.inl (by simp)) _
        have HF8 : W7.heap[w0.heap.size]? = some (.cells #[.int .i64 9, .int .i64 0, .int .i64 st, .slice A3 k3 c3, .int .i64 0, .int .u32 0, .int .i64 0, .int .i64 0, .int .i64 0, .bool false, .int .i64 0, .slice none 0 0] 34) := by rw [← hW]; exact hp_set _ _ _ _ _ _ (hp_set _ _ _ _ _ _ ((hp_far _ _ _ _ (by simp)).trans HF7))
        have HL8 : W7.heap[w0.heap.size + 1]? = some (.cells #[.slice A6 k6 c6] 22) := by rw [← hW]; exact (hp_far _ _ _ _ (by simp)).trans ((hp_far _ _ _ _ (by simp)).trans (hp_set _ _ _ _ _ _ HL7))
        have hs7 : W7.heap.size = w6.heap.size := by rw [← hW]; simp
        clear hW
        have hb5 := F5.ow.base
        have s6 := K6.size
        have KK : Kp ([w0.heap.size, w0.heap.size + 1] ++ ob AL) W2 W7 := ((((HK3.out.mono (by simp [ob])).trans (K4.mono (by simp))).trans (K5.mono (by simp))).trans (K6.mono (fun s hs => .inl (List.mem_append_right _ hs)))).trans (K7.mono (fun s hs => .inl (List.mem_append_left _ hs)))
        have hAL : ∀ t, t ∈ [w0.heap.size, w0.heap.size + 1] ++ ob AL → t = w0.heap.size ∨ t = w0.heap.size + 1 ∨ W1.heap.size + 2 ≤ t := by
          intro t ht
          rcases List.mem_append.1 ht with h1 | h1
          · simp at h1; omega
          · exact .inr (.inr (hb5 t h1).1)
        refine ⟨KX.of KK (fun t ht => by have := hAL t ht; simp; omega), KK.block _ (by omega) (fun ht => by have := hAL _ ht; omega), KK.block _ (by omega) (fun ht => by have := hAL _ ht; omega), ?_⟩
        refine ⟨9, 0, A3, k3, c3, A6, k6, c6, fs ++ [(⟨ty, flv, st, A3, k3, c3, 0, 0, 0, 0, 0, false, 0, none, 0, 0⟩, l3)], HF8, HL8, ?_, by have h1 := hk6.out; have h2 := HNL.out; omega, K2.then KK (fun t ht => .inr (by have := hAL t ht; have := K2.size; omega)), by simp, by simp, ?_, by omega⟩
        · rw [hs7]
          exact F7.keep K7 (by simp; omega)
        · intro i p hp
          have hfl := F2.len
          by_cases hi : i < fs.length
          · rw [List.getElem?_append_left hi] at hp
            exact HKEY.out i p hp
          · rw [List.getElem?_append_right (by omega)] at hp
            have hi2 : i - fs.length = 0 := by
              by_cases h0 : i - fs.length = 0
              · exact h0
              · rw [List.getElem?_eq_none (by simp; omega)] at hp; cases hp
            rw [hi2] at hp
            have hp2 : (⟨ty, flv, st, A3, k3, c3, 0, 0, 0, 0, 0, false, 0, none, 0, 0⟩, l3) = p := by simpa using hp
            have hik : i = k := by have := HNL.out; omega
            subst hik
            rw [← hp2]
            refine ⟨HTY.out, ?_, rfl, by rw [hl3.out]; rfl⟩
            show flv = _
            rw [← hflv, HFL.out]
            rw [if_pos hlast]
            split
            · cases en <;> decide
            · decide
      · simp only [hlast, decide_false]
        gi_wp2_with (with_reducible refine stopAtIn (o := ⟨some 34, _, _, _, _, _⟩) ?_)
        refine Stop.go (wp_appBIn rfl _ _ 30 5 rfl Try.underlying30 Try.info5 W2.heap.size none 0 0 [] rfl (Ow.nil _ _ _ _) A' m c' (piece most b k) rfl hRx (by omega) (Nat.le_refl _) ?_)
        intro A3 k3 c3 l3 w3 hk3 hl3 O3 K3 hA3
        have HF3 := K3.heap HF2 (by simp [ob])
        have HL3 := K3.heap HL2 (by simp [ob])
        have F3 := F2.keep K3 (by simp [ob])
        have s3 := K3.size
        have HF3_0 := cell_of HF3 0
        have HF3_1 := cell_of HF3 1
        have HF3_2 := cell_of HF3 2
        have HF3_3 := cell_of HF3 3
        have HF3_4 := cell_of HF3 4
        have HF3_5 := cell_of HF3 5
        have HF3_6 := cell_of HF3 6
        have HF3_7 := cell_of HF3 7
        have HF3_8 := cell_of HF3 8
        have HF3_9 := cell_of HF3 9
        have HF3_10 := cell_of HF3 10
        have HF3_11 := cell_of HF3 11
        have HF3_z := frozen_of HF3
        have HL3_0 := cell_of HL3 0
        have HL3_z := frozen_of HL3
        
        clear HF2 HL2 hRx
        gi_wp2_with (with_reducible refine stopAtIn (o := ⟨some 41, _, _, _, _, _⟩) ?_)
        generalize hW : World.setCell _ _ _ = W4
        have K4 : Kp [w0.heap.size] w3 W4 := by rw [← hW]; (repeat (first | with_reducible exact Kp.refl _ _ | with_reducible assumption | with_reducible refine Kp.alloc ?_ _ | with_reducible refine Kp.drew ?_ | with_reducible refine Kp.drewN ?_ _ | (with_reducible refine Kp.setL ?_ ?_ _; focus (simp; done)) | (with_reducible refine Kp.setR ?_ ?_ _; focus (simp; done)) | (with_reducible refine Kp.setR ?_ ?_ _; focus (simp; omega))))
        have HF4 : W4.heap[w0.heap.size]? = some (.cells #[.int .i64 ty, .int .i64 (fl), .int .i64 st, .slice A3 k3 c3, .int .i64 0, .int .u32 0, .int .i64 0, .int .i64 0, .int .i64 0, .bool false, .int .i64 0, .slice none 0 0] 34) := by rw [← hW]; exact hp_set _ _ _ _ _ _ HF3
        have HL4 := K4.heap HL3 (by simp)
        clear hW
        have s4 := K4.size
        have F4 := F3.keep K4 (by simp; omega)
        have R3 := O3.rd.keep K4 (by intro hp x hx; have := (O3.base x hx).1; simp; omega)
        have B3 : ∀ x, x ∈ ob A3 → W2.heap.size ≤ x ∧ x < W4.heap.size := fun x hx => by have := O3.base x hx; omega
        obtain ⟨flv, hflv⟩ : ∃ flv : Int, (fl) = flv := ⟨_, rfl⟩
        try rw [hflv] at HF4
        have HF4_0 := cell_of HF4 0
        have HF4_1 := cell_of HF4 1
        have HF4_2 := cell_of HF4 2
        have HF4_3 := cell_of HF4 3
        have HF4_4 := cell_of HF4 4
        have HF4_5 := cell_of HF4 5
        have HF4_6 := cell_of HF4 6
        have HF4_7 := cell_of HF4 7
        have HF4_8 := cell_of HF4 8
        have HF4_9 := cell_of HF4 9
        have HF4_10 := cell_of HF4 10
        have HF4_11 := cell_of HF4 11
        have HF4_z := frozen_of HF4
        have HL4_0 := cell_of HL4 0
        have HL4_z := frozen_of HL4
        
        have HF5 := HF4
        have HL5 := HL4
        have HK3 := Lib.hid K3
        clear HF4 HL4 K3
        refine Stop.go ?_
        gi_wp2_with (with_reducible refine stopAtIn (o := ⟨some 44, _, _, _, _, _⟩) ?_)
        generalize hW : World.alloc _ _ = W5
        have K5 : Kp [] W4 W5 := by rw [← hW]; (repeat (first | with_reducible exact Kp.refl _ _ | with_reducible assumption | with_reducible refine Kp.alloc ?_ _ | with_reducible refine Kp.drew ?_ | with_reducible refine Kp.drewN ?_ _ | (with_reducible refine Kp.setL ?_ ?_ _; focus (simp; done)) | (with_reducible refine Kp.setR ?_ ?_ _; focus (simp; done)) | (with_reducible refine Kp.setR ?_ ?_ _; focus (simp; omega))))
        have HN5 : W5.heap[W4.heap.size]? = some (.cells #[.int .i64 ty, .int .i64 flv, .int .i64 st, .slice A3 k3 c3, .int .i64 0, .int .u32 0, .int .i64 0, .int .i64 0, .int .i64 0, .bool false, .int .i64 0, .slice none 0 0] 34) := by rw [← hW]; (repeat (first | with_reducible assumption | (with_reducible refine hp_new _ _ _ ?_; focus (simp; done)) | (with_reducible refine (hp_old _ _ _ ?_).trans ?_; focus (first | omega | (simp; done) | (simp; omega))) | (with_reducible refine (hp_far _ _ _ _ ?_).trans ?_; focus (first | (simp; done) | (simp; omega))) | (with_reducible refine (hp_drew _ _).trans ?_) | (with_reducible refine (hp_drewN _ _ _).trans ?_)))
        have hs5 : W5.heap.size = W4.heap.size + 1 := by rw [← hW]; simp
        clear hW
        have F5 := F4.keep K5 (by simp)
        have HF6 := K5.heap HF5 (by simp)
        have HL6 := K5.heap HL5 (by simp)
        have R5 := R3.keep K5 (by simp)
        refine Stop.go (wp_appIn rfl _ _ 22 34 (.agg #[.int .i64 0, .int .i64 0, .int .i64 0, .slice none 0 0, .int .i64 0, .int .u32 0, .int .i64 0, .int .i64 0, .int .i64 0, .bool false, .int .i64 0, .slice none 0 0]) 12 128 rfl Try.underlying22 infoFr rfl (by decide) (W1.heap.size + 2) AL nL cL (fs.flatMap fun p => Fr.cells p.1) rfl F5.ow (some ⟨W4.heap.size, 0, none⟩) 1 1 (Fr.cells ⟨ty, flv, st, A3, k3, c3, 0, 0, 0, 0, 0, false, 0, none, 0, 0⟩) rfl rfl (At.block HN5 0 _ rfl) (by intro u hu; simp at hu; rcases hu with rfl | rfl | rfl | rfl | rfl | rfl | rfl | rfl | rfl | rfl | rfl | rfl <;> rfl) (by simp only [maxLen]; omega) (by omega) (by omega) ?_)
        intro A6 k6 c6 w6 hk6 O6 K6 hA6
        have HF7 := K6.heap HF6 (by intro hx; have := (F5.ow.base _ hx).1; omega)
        have HL7 := K6.heap HL6 (by intro hx; have := (F5.ow.base _ hx).1; omega)
        have HF7_0 := cell_of HF7 0
        have HF7_1 := cell_of HF7 1
        have HF7_2 := cell_of HF7 2
        have HF7_3 := cell_of HF7 3
        have HF7_4 := cell_of HF7 4
        have HF7_5 := cell_of HF7 5
        have HF7_6 := cell_of HF7 6
        have HF7_7 := cell_of HF7 7
        have HF7_8 := cell_of HF7 8
        have HF7_9 := cell_of HF7 9
        have HF7_10 := cell_of HF7 10
        have HF7_11 := cell_of HF7 11
        have HF7_z := frozen_of HF7
        have HL7_0 := cell_of HL7 0
        have HL7_z := frozen_of HL7
        
        have F7 := F5.app (f := ⟨ty, flv, st, A3, k3, c3, 0, 0, 0, 0, 0, false, 0, none, 0, 0⟩) (l := l3) R5 (by intro x hx; have := B3 x hx; omega) (by omega) O6 hk6.out K6 hA6
        clear HF5 HL5 HN5 HF6 HL6
        gi_wp2
        generalize hW : World.setCell _ _ _ = W7
        have K7 : Kp [w0.heap.size, w0.heap.size + 1] w6 W7 := by rw [← hW]; exact (((Kp.refl _ _).setCell (.inl (by simp)) _).setCell (.inl (by simp)) _).setCell (.inl (by simp)) _
        have HF8 : W7.heap[w0.heap.size]? = some (.cells #[.int .i64 9, .int .i64 0, .int .i64 st, .slice A3 k3 c3, .int .i64 0, .int .u32 0, .int .i64 0, .int .i64 0, .int .i64 0, .bool false, .int .i64 0, .slice none 0 0] 34) := by rw [← hW]; exact hp_set _ _ _ _ _ _ (hp_set _ _ _ _ _ _ ((hp_far _ _ _ _ (by simp)).trans HF7))
        have HL8 : W7.heap[w0.heap.size + 1]? = some (.cells #[.slice A6 k6 c6] 22) := by rw [← hW]; exact (hp_far _ _ _ _ (by simp)).trans ((hp_far _ _ _ _ (by simp)).trans (hp_set _ _ _ _ _ _ HL7))
        have hs7 : W7.heap.size = w6.heap.size := by rw [← hW]; simp
        clear hW
        have hb5 := F5.ow.base
        have s6 := K6.size
        have KK : Kp ([w0.heap.size, w0.heap.size + 1] ++ ob AL) W2 W7 := ((((HK3.out.mono (by simp [ob])).trans (K4.mono (by simp))).trans (K5.mono (by simp))).trans (K6.mono (fun s hs => .inl (List.mem_append_right _ hs)))).trans (K7.mono (fun s hs => .inl (List.mem_append_left _ hs)))
        have hAL : ∀ t, t ∈ [w0.heap.size, w0.heap.size + 1] ++ ob AL → t = w0.heap.size ∨ t = w0.heap.size + 1 ∨ W1.heap.size + 2 ≤ t := by
          intro t ht
          rcases List.mem_append.1 ht with h1 | h1
          · simp at h1; omega
          · exact .inr (.inr (hb5 t h1).1)
        refine ⟨KX.of KK (fun t ht => by have := hAL t ht; simp; omega), KK.block _ (by omega) (fun ht => by have := hAL _ ht; omega), KK.block _ (by omega) (fun ht => by have := hAL _ ht; omega), ?_⟩
        refine ⟨9, 0, A3, k3, c3, A6, k6, c6, fs ++ [(⟨ty, flv, st, A3, k3, c3, 0, 0, 0, 0, 0, false, 0, none, 0, 0⟩, l3)], HF8, HL8, ?_, by have h1 := hk6.out; have h2 := HNL.out; omega, K2.then KK (fun t ht => .inr (by have := hAL t ht; have := K2.size; omega)), by simp, by simp, ?_, by omega⟩
        · rw [hs7]
          exact F7.keep K7 (by simp; omega)
        · intro i p hp
          have hfl := F2.len
          by_cases hi : i < fs.length
          · rw [List.getElem?_append_left hi] at hp
            exact HKEY.out i p hp
          · rw [List.getElem?_append_right (by omega)] at hp
            have hi2 : i - fs.length = 0 := by
              by_cases h0 : i - fs.length = 0
              · exact h0
              · rw [List.getElem?_eq_none (by simp; omega)] at hp; cases hp
            rw [hi2] at hp
            have hp2 : (⟨ty, flv, st, A3, k3, c3, 0, 0, 0, 0, 0, false, 0, none, 0, 0⟩, l3) = p := by simpa using hp
            have hik : i = k := by have := HNL.out; omega
            subst hik
            rw [← hp2]
            refine ⟨HTY.out, ?_, rfl, by rw [hl3.out]; rfl⟩
            show flv = _
            rw [← hflv, HFL.out]
            rw [if_neg hlast]
            omega
    case hdone =>
      rintro W ⟨ty, fl, AP, nP, cP, AL, nL, cL, fs, HF2, HL2, F2, hnL, K2, hty, hfl, hkey, hs2⟩ hD
      have HL2_0 := cell_of HL2 0
      have HL2_z := frozen_of HL2
      have HNL := Lib.hid hnL
      have HKEY := Lib.hid hkey
      clear hnL hty hfl hkey HF2
      gi_wp2
      refine ⟨by simp, .inl ⟨_, _, rfl, run_takeDeferred hD, ?_⟩⟩
      have KD : Kp [W1.heap.size] W (W.putObj W1.heap.size (.deferred none)) := (Kp.refl _ _).putObj (.inl (by simp)) _
      refine ⟨.tuple #[.slice AL nL cL, .int .i64 0], by simp [results, Try.results15, go_sem], AL, nL, cL, fs, rfl, HNL.out, ?_, HKEY.out, K2.then KD (by simp; omega)⟩
      exact (F2.keep KD (by simp)).mono (by omega) (by simp) (Nat.le_refl _)
  · have hen : en = false := by assumption
    refine ⟨trivial, ?_⟩
    refine (callsIn_wide.2 (Maker _ _ _ _ _)).mono ?_
    rintro e w1 ⟨rfl, rfl⟩
    gi_wp2_with fail
    try simp only [World.size_alloc, World.size_setCell]
    generalize hW : World.alloc _ _ = W1
    have K0 : Kp [] w0 W1 := by rw [← hW]; (repeat (first | with_reducible exact Kp.refl _ _ | with_reducible assumption | with_reducible refine Kp.alloc ?_ _ | with_reducible refine Kp.drew ?_ | with_reducible refine Kp.drewN ?_ _ | (with_reducible refine Kp.setL ?_ ?_ _; focus (simp; done)) | (with_reducible refine Kp.setR ?_ ?_ _; focus (simp; done)) | (with_reducible refine Kp.setR ?_ ?_ _; focus (simp; omega))))
    have HF : W1.heap[w0.heap.size]? = some (.cells #[.int .i64 1, .int .i64 0, .int .i64 st, .slice none 0 0, .int .i64 0, .int .u32 0, .int .i64 0, .int .i64 0, .int .i64 0, .bool false, .int .i64 0, .slice none 0 0] 34) := by rw [← hW]; (repeat (first | with_reducible assumption | (with_reducible refine hp_new _ _ _ ?_; focus (simp; done)) | (with_reducible refine (hp_old _ _ _ ?_).trans ?_; focus (first | omega | (simp; done) | (simp; omega))) | (with_reducible refine (hp_far _ _ _ _ ?_).trans ?_; focus (first | (simp; done) | (simp; omega))) | (with_reducible refine (hp_drew _ _).trans ?_) | (with_reducible refine (hp_drewN _ _ _).trans ?_)))
    have HL : W1.heap[w0.heap.size + 1]? = some (.cells #[.slice none 0 0] 22) := by rw [← hW]; (repeat (first | with_reducible assumption | (with_reducible refine hp_new _ _ _ ?_; focus (simp; done)) | (with_reducible refine (hp_old _ _ _ ?_).trans ?_; focus (first | omega | (simp; done) | (simp; omega))) | (with_reducible refine (hp_far _ _ _ _ ?_).trans ?_; focus (first | (simp; done) | (simp; omega))) | (with_reducible refine (hp_drew _ _).trans ?_) | (with_reducible refine (hp_drewN _ _ _).trans ?_)))
    have HB : W1.heap[w0.heap.size + 1 + 1]? = some (.cells #[.slice A b.length c] 30) := by rw [← hW]; (repeat (first | with_reducible assumption | (with_reducible refine hp_new _ _ _ ?_; focus (simp; done)) | (with_reducible refine (hp_old _ _ _ ?_).trans ?_; focus (first | omega | (simp; done) | (simp; omega))) | (with_reducible refine (hp_far _ _ _ _ ?_).trans ?_; focus (first | (simp; done) | (simp; omega))) | (with_reducible refine (hp_drew _ _).trans ?_) | (with_reducible refine (hp_drewN _ _ _).trans ?_)))
    have HM : W1.heap[w0.heap.size + 1 + 1 + 1]? = some (.cells #[.int .i64 most] 3) := by rw [← hW]; (repeat (first | with_reducible assumption | (with_reducible refine hp_new _ _ _ ?_; focus (simp; done)) | (with_reducible refine (hp_old _ _ _ ?_).trans ?_; focus (first | omega | (simp; done) | (simp; omega))) | (with_reducible refine (hp_far _ _ _ _ ?_).trans ?_; focus (first | (simp; done) | (simp; omega))) | (with_reducible refine (hp_drew _ _).trans ?_) | (with_reducible refine (hp_drewN _ _ _).trans ?_)))
    have hsz : W1.heap.size = w0.heap.size + 4 := by rw [← hW]; simp
    clear hW
    refine wpIn_rangeFunc_n (by omega) rfl (enters_of Try.func17 (by kernel_rfl) rfl) [w0.heap.size, w0.heap.size + 1] (w0.heap.size + 1 + 1) (by omega) (cutsN most b.length) (SpA most b W1.heap.size [w0.heap.size, w0.heap.size + 1]) ?hps ?hArp ?hseq (SpI st en most b w0 w0.heap.size W1.heap.size) ?hIs ?hIp ?hIa ?hround ?hdone
    case hps => rintro k x W ⟨A', m, c', rfl, _⟩; rfl
    case hArp => rintro k x W l o hl ⟨A', m, c', hx, hr, h1, h2⟩; exact ⟨A', m, c', hx, hr.keep (S := [l]) ((Kp.refl _ _).putObj (.inl (by simp)) _) (fun hp x hx => by have := (h2 hp x hx).1; simp; omega), h1, h2⟩
    case hseq =>
      intro l J W hW hJs hY hJ0
      refine (Pieces_in 8 (by omega) l (w0.heap.size + 1 + 1) (w0.heap.size + 1 + 1 + 1) W1.heap.size [w0.heap.size, w0.heap.size + 1] J most hm hm2 A c b (by omega) (by simp; omega) (by simp; omega) (by omega) ?_ hJs ?_ W hJ0 (hW.heap HB (by simp)) (hW.heap HM (by simp)) ((hR.keep K0 (by simp)).keep hW (by simp))).mono ?_
      · intro hp x hx
        have := hlt hp x hx
        simp
        omega
      · intro k A' m c' W' hJ hk hr h1 h2
        exact hY k _ W' hJ hk ⟨A', m, c', rfl, hr, h1, h2⟩
      · rintro e W' ⟨h1, h2, _⟩
        exact ⟨h1, h2⟩
    case hIs => exact SpI.setB (by omega) (by omega) (by omega)
    case hIp => exact SpI.putObj (by omega) (by omega)
    case hIa =>
      intro o o'
      refine ⟨1, 0, none, 0, 0, none, 0, 0, [], ?_, ?_, ?_, rfl, (K0.alloc o).alloc o', rfl, by simp [hen], by simp, by simp⟩
      · exact (hp_old _ _ _ (by simp; omega)).trans ((hp_old _ _ _ (by omega)).trans HF)
      · exact (hp_old _ _ _ (by simp; omega)).trans ((hp_old _ _ _ (by omega)).trans HL)
      · exact (FrL.nil _ _).mono (Nat.le_refl _) (Nat.le_refl _) (Nat.le_refl _)
    case hround =>
      rintro l k x W hkN ⟨A', m, c', rfl, hRx0, hmx, hbx⟩
      gi_wp2
      refine ⟨trivial, ?_⟩
      rintro W2 ⟨ty, fl, AP, nP, cP, AL, nL, cL, fs, HF2, HL2, F2, hnL, K2, hty, hfl, hkey, hs2⟩ ⟨A'', m'', c'', hx2, hRx, _, _⟩
      obtain ⟨rfl, rfl, rfl⟩ : A' = A'' ∧ m = m'' ∧ c' = c'' := by simpa using hx2
      clear hx2 hRx0
      have HTY := Lib.hid hty
      have HFL := Lib.hid hfl
      have HKEY := Lib.hid hkey
      have HNL := Lib.hid hnL
      have hn5 : nL ≤ 5000 := by omega
      clear hty hfl hkey hnL
      by_cases hlast : k = cutsN most b.length
      · simp only [hlast, decide_true]
        gi_wp2_with (with_reducible refine stopAtIn (o := ⟨some 34, _, _, _, _, _⟩) ?_)
        refine Stop.go (wp_appBIn rfl _ _ 30 5 rfl Try.underlying30 Try.info5 W2.heap.size none 0 0 [] rfl (Ow.nil _ _ _ _) A' m c' (piece most b k) rfl hRx (by omega) (Nat.le_refl _) ?_)
        intro A3 k3 c3 l3 w3 hk3 hl3 O3 K3 hA3
        have HF3 := K3.heap HF2 (by simp [ob])
        have HL3 := K3.heap HL2 (by simp [ob])
        have F3 := F2.keep K3 (by simp [ob])
        have s3 := K3.size
        have HF3_0 := cell_of HF3 0
        have HF3_1 := cell_of HF3 1
        have HF3_2 := cell_of HF3 2
        have HF3_3 := cell_of HF3 3
        have HF3_4 := cell_of HF3 4
        have HF3_5 := cell_of HF3 5
        have HF3_6 := cell_of HF3 6
        have HF3_7 := cell_of HF3 7
        have HF3_8 := cell_of HF3 8
        have HF3_9 := cell_of HF3 9
        have HF3_10 := cell_of HF3 10
        have HF3_11 := cell_of HF3 11
        have HF3_z := frozen_of HF3
        have HL3_0 := cell_of HL3 0
        have HL3_z := frozen_of HL3
        
        clear HF2 HL2 hRx
        gi_wp2_with (with_reducible refine stopAtIn (o := ⟨some 41, _, _, _, _, _⟩) ?_)
        generalize hW : World.setCell _ _ _ = W4
        have K4 : Kp [w0.heap.size] w3 W4 := by rw [← hW]; (repeat (first | with_reducible exact Kp.refl _ _ | with_reducible assumption | with_reducible refine Kp.alloc ?_ _ | with_reducible refine Kp.drew ?_ | with_reducible refine Kp.drewN ?_ _ | (with_reducible refine Kp.setL ?_ ?_ _; focus (simp; done)) | (with_reducible refine Kp.setR ?_ ?_ _; focus (simp; done)) | (with_reducible refine Kp.setR ?_ ?_ _; focus (simp; omega))))
        have HF4 : W4.heap[w0.heap.size]? = some (.cells #[.int .i64 ty, .int .i64 (bits .or .i64 fl 4), .int .i64 st, .slice A3 k3 c3, .int .i64 0, .int .u32 0, .int .i64 0, .int .i64 0, .int .i64 0, .bool false, .int .i64 0, .slice none 0 0] 34) := by rw [← hW]; exact hp_set _ _ _ _ _ _ (hp_set _ _ _ _ _ _ HF3)
        have HL4 := K4.heap HL3 (by simp)
        clear hW
        have s4 := K4.size
        have F4 := F3.keep K4 (by simp; omega)
        have R3 := O3.rd.keep K4 (by intro hp x hx; have := (O3.base x hx).1; simp; omega)
        have B3 : ∀ x, x ∈ ob A3 → W2.heap.size ≤ x ∧ x < W4.heap.size := fun x hx => by have := O3.base x hx; omega
        obtain ⟨flv, hflv⟩ : ∃ flv : Int, (bits .or .i64 fl 4) = flv := ⟨_, rfl⟩
        try rw [hflv] at HF4
        have HF4_0 := cell_of HF4 0
        have HF4_1 := cell_of HF4 1
        have HF4_2 := cell_of HF4 2
        have HF4_3 := cell_of HF4 3
        have HF4_4 := cell_of HF4 4
        have HF4_5 := cell_of HF4 5
        have HF4_6 := cell_of HF4 6
        have HF4_7 := cell_of HF4 7
        have HF4_8 := cell_of HF4 8
        have HF4_9 := cell_of HF4 9
        have HF4_10 := cell_of HF4 10
        have HF4_11 := cell_of HF4 11
        have HF4_z := frozen_of HF4
        have HL4_0 := cell_of HL4 0
        have HL4_z := frozen_of HL4
        
        have HF5 := HF4
        have HL5 := HL4
        have HK3 := Lib.hid K3
        clear HF4 HL4 K3
        refine Stop.go ?_
        gi_wp2_with (with_reducible refine stopAtIn (o := ⟨some 44, _, _, _, _, _⟩) ?_)
        generalize hW : World.alloc _ _ = W5
        have K5 : Kp [] W4 W5 := by rw [← hW]; (repeat (first | with_reducible exact Kp.refl _ _ | with_reducible assumption | with_reducible refine Kp.alloc ?_ _ | with_reducible refine Kp.drew ?_ | with_reducible refine Kp.drewN ?_ _ | (with_reducible refine Kp.setL ?_ ?_ _; focus (simp; done)) | (with_reducible refine Kp.setR ?_ ?_ _; focus (simp; done)) | (with_reducible refine Kp.setR ?_ ?_ _; focus (simp; omega))))
        have HN5 : W5.heap[W4.heap.size]? = some (.cells #[.int .i64 ty, .int .i64 flv, .int .i64 st, .slice A3 k3 c3, .int .i64 0, .int .u32 0, .int .i64 0, .int .i64 0, .int .i64 0, .bool false, .int .i64 0, .slice none 0 0] 34) := by rw [← hW]; (repeat (first | with_reducible assumption | (with_reducible refine hp_new _ _ _ ?_; focus (simp; done)) | (with_reducible refine (hp_old _ _ _ ?_).trans ?_; focus (first | omega | (simp; done) | (simp; omega))) | (with_reducible refine (hp_far _ _ _ _ ?_).trans ?_; focus (first | (simp; done) | (simp; omega))) | (with_reducible refine (hp_drew _ _).trans ?_) | (with_reducible refine (hp_drewN _ _ _).trans ?_)))
        have hs5 : W5.heap.size = W4.heap.size + 1 := by rw [← hW]; simp
        clear hW
        have F5 := F4.keep K5 (by simp)
        have HF6 := K5.heap HF5 (by simp)
        have HL6 := K5.heap HL5 (by simp)
        have R5 := R3.keep K5 (by simp)
        refine Stop.go (wp_appIn rfl _ _ 22 34 (.agg #[.int .i64 0, .int .i64 0, .int .i64 0, .slice none 0 0, .int .i64 0, .int .u32 0, .int .i64 0, .int .i64 0, .int .i64 0, .bool false, .int .i64 0, .slice none 0 0]) 12 128 rfl Try.underlying22 infoFr rfl (by decide) (W1.heap.size + 2) AL nL cL (fs.flatMap fun p => Fr.cells p.1) rfl F5.ow (some ⟨W4.heap.size, 0, none⟩) 1 1 (Fr.cells ⟨ty, flv, st, A3, k3, c3, 0, 0, 0, 0, 0, false, 0, none, 0, 0⟩) rfl rfl (At.block HN5 0 _ rfl) (by intro u hu; simp at hu; rcases hu with rfl | rfl | rfl | rfl | rfl | rfl | rfl | rfl | rfl | rfl | rfl | rfl <;> rfl) (by simp only [maxLen]; omega) (by omega) (by omega) ?_)
        intro A6 k6 c6 w6 hk6 O6 K6 hA6
        have HF7 := K6.heap HF6 (by intro hx; have := (F5.ow.base _ hx).1; omega)
        have HL7 := K6.heap HL6 (by intro hx; have := (F5.ow.base _ hx).1; omega)
        have HF7_0 := cell_of HF7 0
        have HF7_1 := cell_of HF7 1
        have HF7_2 := cell_of HF7 2
        have HF7_3 := cell_of HF7 3
        have HF7_4 := cell_of HF7 4
        have HF7_5 := cell_of HF7 5
        have HF7_6 := cell_of HF7 6
        have HF7_7 := cell_of HF7 7
        have HF7_8 := cell_of HF7 8
        have HF7_9 := cell_of HF7 9
        have HF7_10 := cell_of HF7 10
        have HF7_11 := cell_of HF7 11
        have HF7_z := frozen_of HF7
        have HL7_0 := cell_of HL7 0
        have HL7_z := frozen_of HL7
        
        have F7 := F5.app (f := ⟨ty, flv, st, A3, k3, c3, 0, 0, 0, 0, 0, false, 0, none, 0, 0⟩) (l := l3) R5 (by intro x hx; have := B3 x hx; omega) (by omega) O6 hk6.out K6 hA6
        clear HF5 HL5 HN5 HF6 HL6
        gi_wp2
        generalize hW : World.setCell _ _ _ = W7
        have K7 : Kp [w0.heap.size, w0.heap.size + 1] w6 W7 := by rw [← hW]; exact (((Kp.refl _ _).setCell (.inl (by simp)) _).setCell (.inl (by simp)) _).setCell (.inl (by simp)) _
        have HF8 : W7.heap[w0.heap.size]? = some (.cells #[.int .i64 9, .int .i64 0, .int .i64 st, .slice A3 k3 c3, .int .i64 0, .int .u32 0, .int .i64 0, .int .i64 0, .int .i64 0, .bool false, .int .i64 0, .slice none 0 0] 34) := by rw [← hW]; exact hp_set _ _ _ _ _ _ (hp_set _ _ _ _ _ _ ((hp_far _ _ _ _ (by simp)).trans HF7))
        have HL8 : W7.heap[w0.heap.size + 1]? = some (.cells #[.slice A6 k6 c6] 22) := by rw [← hW]; exact (hp_far _ _ _ _ (by simp)).trans ((hp_far _ _ _ _ (by simp)).trans (hp_set _ _ _ _ _ _ HL7))
        have hs7 : W7.heap.size = w6.heap.size := by rw [← hW]; simp
        clear hW
        have hb5 := F5.ow.base
        have s6 := K6.size
        have KK : Kp ([w0.heap.size, w0.heap.size + 1] ++ ob AL) W2 W7 := ((((HK3.out.mono (by simp [ob])).trans (K4.mono (by simp))).trans (K5.mono (by simp))).trans (K6.mono (fun s hs => .inl (List.mem_append_right _ hs)))).trans (K7.mono (fun s hs => .inl (List.mem_append_left _ hs)))
        have hAL : ∀ t, t ∈ [w0.heap.size, w0.heap.size + 1] ++ ob AL → t = w0.heap.size ∨ t = w0.heap.size + 1 ∨ W1.heap.size + 2 ≤ t := by
          intro t ht
          rcases List.mem_append.1 ht with h1 | h1
          · simp at h1; omega
          · exact .inr (.inr (hb5 t h1).1)
        refine ⟨KX.of KK (fun t ht => by have := hAL t ht; simp; omega), KK.block _ (by omega) (fun ht => by have := hAL _ ht; omega), KK.block _ (by omega) (fun ht => by have := hAL _ ht; omega), ?_⟩
        refine ⟨9, 0, A3, k3, c3, A6, k6, c6, fs ++ [(⟨ty, flv, st, A3, k3, c3, 0, 0, 0, 0, 0, false, 0, none, 0, 0⟩, l3)], HF8, HL8, ?_, by have h1 := hk6.out; have h2 := HNL.out; omega, K2.then KK (fun t ht => .inr (by have := hAL t ht; have := K2.size; omega)), by simp, by simp, ?_, by omega⟩
        · rw [hs7]
          exact F7.keep K7 (by simp; omega)
        · intro i p hp
          have hfl := F2.len
          by_cases hi : i < fs.length
          · rw [List.getElem?_append_left hi] at hp
            exact HKEY.out i p hp
          · rw [List.getElem?_append_right (by omega)] at hp
            have hi2 : i - fs.length = 0 := by
              by_cases h0 : i - fs.length = 0
              · exact h0
              · rw [List.getElem?_eq_none (by simp; omega)] at hp; cases hp
            rw [hi2] at hp
            have hp2 : (⟨ty, flv, st, A3, k3, c3, 0, 0, 0, 0, 0, false, 0, none, 0, 0⟩, l3) = p := by simpa using hp
            have hik : i = k := by have := HNL.out; omega
            subst hik
            rw [← hp2]
            refine ⟨HTY.out, ?_, rfl, by rw [hl3.out]; rfl⟩
            show flv = _
            rw [← hflv, HFL.out]
            rw [if_pos hlast]
            split
            · cases en <;> decide
            · decide
      · simp only [hlast, decide_false]
        gi_wp2_with (with_reducible refine stopAtIn (o := ⟨some 34, _, _, _, _, _⟩) ?_)
        refine Stop.go (wp_appBIn rfl _ _ 30 5 rfl Try.underlying30 Try.info5 W2.heap.size none 0 0 [] rfl (Ow.nil _ _ _ _) A' m c' (piece most b k) rfl hRx (by omega) (Nat.le_refl _) ?_)
        intro A3 k3 c3 l3 w3 hk3 hl3 O3 K3 hA3
        have HF3 := K3.heap HF2 (by simp [ob])
        have HL3 := K3.heap HL2 (by simp [ob])
        have F3 := F2.keep K3 (by simp [ob])
        have s3 := K3.size
        have HF3_0 := cell_of HF3 0
        have HF3_1 := cell_of HF3 1
        have HF3_2 := cell_of HF3 2
        have HF3_3 := cell_of HF3 3
        have HF3_4 := cell_of HF3 4
        have HF3_5 := cell_of HF3 5
        have HF3_6 := cell_of HF3 6
        have HF3_7 := cell_of HF3 7
        have HF3_8 := cell_of HF3 8
        have HF3_9 := cell_of HF3 9
        have HF3_10 := cell_of HF3 10
        have HF3_11 := cell_of HF3 11
        have HF3_z := frozen_of HF3
        have HL3_0 := cell_of HL3 0
        have HL3_z := frozen_of HL3
        
        clear HF2 HL2 hRx
        gi_wp2_with (with_reducible refine stopAtIn (o := ⟨some 41, _, _, _, _, _⟩) ?_)
        generalize hW : World.setCell _ _ _ = W4
        have K4 : Kp [w0.heap.size] w3 W4 := by rw [← hW]; (repeat (first | with_reducible exact Kp.refl _ _ | with_reducible assumption | with_reducible refine Kp.alloc ?_ _ | with_reducible refine Kp.drew ?_ | with_reducible refine Kp.drewN ?_ _ | (with_reducible refine Kp.setL ?_ ?_ _; focus (simp; done)) | (with_reducible refine Kp.setR ?_ ?_ _; focus (simp; done)) | (with_reducible refine Kp.setR ?_ ?_ _; focus (simp; omega))))
        have HF4 : W4.heap[w0.heap.size]? = some (.cells #[.int .i64 ty, .int .i64 (fl), .int .i64 st, .slice A3 k3 c3, .int .i64 0, .int .u32 0, .int .i64 0, .int .i64 0, .int .i64 0, .bool false, .int .i64 0, .slice none 0 0] 34) := by rw [← hW]; exact hp_set _ _ _ _ _ _ HF3
        have HL4 := K4.heap HL3 (by simp)
        clear hW
        have s4 := K4.size
        have F4 := F3.keep K4 (by simp; omega)
        have R3 := O3.rd.keep K4 (by intro hp x hx; have := (O3.base x hx).1; simp; omega)
        have B3 : ∀ x, x ∈ ob A3 → W2.heap.size ≤ x ∧ x < W4.heap.size := fun x hx => by have := O3.base x hx; omega
        obtain ⟨flv, hflv⟩ : ∃ flv : Int, (fl) = flv := ⟨_, rfl⟩
        try rw [hflv] at HF4
        have HF4_0 := cell_of HF4 0
        have HF4_1 := cell_of HF4 1
        have HF4_2 := cell_of HF4 2
        have HF4_3 := cell_of HF4 3
        have HF4_4 := cell_of HF4 4
        have HF4_5 := cell_of HF4 5
        have HF4_6 := cell_of HF4 6
        have HF4_7 := cell_of HF4 7
        have HF4_8 := cell_of HF4 8
        have HF4_9 := cell_of HF4 9
        have HF4_10 := cell_of HF4 10
        have HF4_11 := cell_of HF4 11
        have HF4_z := frozen_of HF4
        have HL4_0 := cell_of HL4 0
        have HL4_z := frozen_of HL4
        
        have HF5 := HF4
        have HL5 := HL4
        have HK3 := Lib.hid K3
        clear HF4 HL4 K3
        refine Stop.go ?_
        gi_wp2_with (with_reducible refine stopAtIn (o := ⟨some 44, _, _, _, _, _⟩) ?_)
        generalize hW : World.alloc _ _ = W5
        have K5 : Kp [] W4 W5 := by rw [← hW]; (repeat (first | with_reducible exact Kp.refl _ _ | with_reducible assumption | with_reducible refine Kp.alloc ?_ _ | with_reducible refine Kp.drew ?_ | with_reducible refine Kp.drewN ?_ _ | (with_reducible refine Kp.setL ?_ ?_ _; focus (simp; done)) | (with_reducible refine Kp.setR ?_ ?_ _; focus (simp; done)) | (with_reducible refine Kp.setR ?_ ?_ _; focus (simp; omega))))
        have HN5 : W5.heap[W4.heap.size]? = some (.cells #[.int .i64 ty, .int .i64 flv, .int .i64 st, .slice A3 k3 c3, .int .i64 0, .int .u32 0, .int .i64 0, .int .i64 0, .int .i64 0, .bool false, .int .i64 0, .slice none 0 0] 34) := by rw [← hW]; (repeat (first | with_reducible assumption | (with_reducible refine hp_new _ _ _ ?_; focus (simp; done)) | (with_reducible refine (hp_old _ _ _ ?_).trans ?_; focus (first | omega | (simp; done) | (simp; omega))) | (with_reducible refine (hp_far _ _ _ _ ?_).trans ?_; focus (first | (simp; done) | (simp; omega))) | (with_reducible refine (hp_drew _ _).trans ?_) | (with_reducible refine (hp_drewN _ _ _).trans ?_)))
        have hs5 : W5.heap.size = W4.heap.size + 1 := by rw [← hW]; simp
        clear hW
        have F5 := F4.keep K5 (by simp)
        have HF6 := K5.heap HF5 (by simp)
        have HL6 := K5.heap HL5 (by simp)
        have R5 := R3.keep K5 (by simp)
        refine Stop.go (wp_appIn rfl _ _ 22 34 (.agg #[.int .i64 0, .int .i64 0, .int .i64 0, .slice none 0 0, .int .i64 0, .int .u32 0, .int .i64 0, .int .i64 0, .int .i64 0, .bool false, .int .i64 0, .slice none 0 0]) 12 128 rfl Try.underlying22 infoFr rfl (by decide) (W1.heap.size + 2) AL nL cL (fs.flatMap fun p => Fr.cells p.1) rfl F5.ow (some ⟨W4.heap.size, 0, none⟩) 1 1 (Fr.cells ⟨ty, flv, st, A3, k3, c3, 0, 0, 0, 0, 0, false, 0, none, 0, 0⟩) rfl rfl (At.block HN5 0 _ rfl) (by intro u hu; simp at hu; rcases hu with rfl | rfl | rfl | rfl | rfl | rfl | rfl | rfl | rfl | rfl | rfl | rfl <;> rfl) (by simp only [maxLen]; omega) (by omega) (by omega) ?_)
        intro A6 k6 c6 w6 hk6 O6 K6 hA6
        have HF7 := K6.heap HF6 (by intro hx; have := (F5.ow.base _ hx).1; omega)
        have HL7 := K6.heap HL6 (by intro hx; have := (F5.ow.base _ hx).1; omega)
        have HF7_0 := cell_of HF7 0
        have HF7_1 := cell_of HF7 1
        have HF7_2 := cell_of HF7 2
        have HF7_3 := cell_of HF7 3
        have HF7_4 := cell_of HF7 4
        have HF7_5 := cell_of HF7 5
        have HF7_6 := cell_of HF7 6
        have HF7_7 := cell_of HF7 7
        have HF7_8 := cell_of HF7 8
        have HF7_9 := cell_of HF7 9
        have HF7_10 := cell_of HF7 10
        have HF7_11 := cell_of HF7 11
        have HF7_z := frozen_of HF7
        have HL7_0 := cell_of HL7 0
        have HL7_z := frozen_of HL7
        
        have F7 := F5.app (f := ⟨ty, flv, st, A3, k3, c3, 0, 0, 0, 0, 0, false, 0, none, 0, 0⟩) (l := l3) R5 (by intro x hx; have := B3 x hx; omega) (by omega) O6 hk6.out K6 hA6
        clear HF5 HL5 HN5 HF6 HL6
        gi_wp2
        generalize hW : World.setCell _ _ _ = W7
        have K7 : Kp [w0.heap.size, w0.heap.size + 1] w6 W7 := by rw [← hW]; exact (((Kp.refl _ _).setCell (.inl (by simp)) _).setCell (.inl (by simp)) _).setCell (.inl (by simp)) _
        have HF8 : W7.heap[w0.heap.size]? = some (.cells #[.int .i64 9, .int .i64 0, .int .i64 st, .slice A3 k3 c3, .int .i64 0, .int .u32 0, .int .i64 0, .int .i64 0, .int .i64 0, .bool false, .int .i64 0, .slice none 0 0] 34) := by rw [← hW]; exact hp_set _ _ _ _ _ _ (hp_set _ _ _ _ _ _ ((hp_far _ _ _ _ (by simp)).trans HF7))
        have HL8 : W7.heap[w0.heap.size + 1]? = some (.cells #[.slice A6 k6 c6] 22) := by rw [← hW]; exact (hp_far _ _ _ _ (by simp)).trans ((hp_far _ _ _ _ (by simp)).trans (hp_set _ _ _ _ _ _ HL7))
        have hs7 : W7.heap.size = w6.heap.size := by rw [← hW]; simp
        clear hW
        have hb5 := F5.ow.base
        have s6 := K6.size
        have KK : Kp ([w0.heap.size, w0.heap.size + 1] ++ ob AL) W2 W7 := ((((HK3.out.mono (by simp [ob])).trans (K4.mono (by simp))).trans (K5.mono (by simp))).trans (K6.mono (fun s hs => .inl (List.mem_append_right _ hs)))).trans (K7.mono (fun s hs => .inl (List.mem_append_left _ hs)))
        have hAL : ∀ t, t ∈ [w0.heap.size, w0.heap.size + 1] ++ ob AL → t = w0.heap.size ∨ t = w0.heap.size + 1 ∨ W1.heap.size + 2 ≤ t := by
          intro t ht
          rcases List.mem_append.1 ht with h1 | h1
          · simp at h1; omega
          · exact .inr (.inr (hb5 t h1).1)
        refine ⟨KX.of KK (fun t ht => by have := hAL t ht; simp; omega), KK.block _ (by omega) (fun ht => by have := hAL _ ht; omega), KK.block _ (by omega) (fun ht => by have := hAL _ ht; omega), ?_⟩
        refine ⟨9, 0, A3, k3, c3, A6, k6, c6, fs ++ [(⟨ty, flv, st, A3, k3, c3, 0, 0, 0, 0, 0, false, 0, none, 0, 0⟩, l3)], HF8, HL8, ?_, by have h1 := hk6.out; have h2 := HNL.out; omega, K2.then KK (fun t ht => .inr (by have := hAL t ht; have := K2.size; omega)), by simp, by simp, ?_, by omega⟩
        · rw [hs7]
          exact F7.keep K7 (by simp; omega)
        · intro i p hp
          have hfl := F2.len
          by_cases hi : i < fs.length
          · rw [List.getElem?_append_left hi] at hp
            exact HKEY.out i p hp
          · rw [List.getElem?_append_right (by omega)] at hp
            have hi2 : i - fs.length = 0 := by
              by_cases h0 : i - fs.length = 0
              · exact h0
              · rw [List.getElem?_eq_none (by simp; omega)] at hp; cases hp
            rw [hi2] at hp
            have hp2 : (⟨ty, flv, st, A3, k3, c3, 0, 0, 0, 0, 0, false, 0, none, 0, 0⟩, l3) = p := by simpa using hp
            have hik : i = k := by have := HNL.out; omega
            subst hik
            rw [← hp2]
            refine ⟨HTY.out, ?_, rfl, by rw [hl3.out]; rfl⟩
            show flv = _
            rw [← hflv, HFL.out]
            rw [if_neg hlast]
            omega
    case hdone =>
      rintro W ⟨ty, fl, AP, nP, cP, AL, nL, cL, fs, HF2, HL2, F2, hnL, K2, hty, hfl, hkey, hs2⟩ hD
      have HL2_0 := cell_of HL2 0
      have HL2_z := frozen_of HL2
      have HNL := Lib.hid hnL
      have HKEY := Lib.hid hkey
      clear hnL hty hfl hkey HF2
      gi_wp2
      refine ⟨by simp, .inl ⟨_, _, rfl, run_takeDeferred hD, ?_⟩⟩
      have KD : Kp [W1.heap.size] W (W.putObj W1.heap.size (.deferred none)) := (Kp.refl _ _).putObj (.inl (by simp)) _
      refine ⟨.tuple #[.slice AL nL cL, .int .i64 0], by simp [results, Try.results15, go_sem], AL, nL, cL, fs, rfl, HNL.out, ?_, HKEY.out, K2.then KD (by simp; omega)⟩
      exact (F2.keep KD (by simp)).mono (by omega) (by simp) (Nat.le_refl _)
end Go.Proofs.Ytibeaombhjdakaa
