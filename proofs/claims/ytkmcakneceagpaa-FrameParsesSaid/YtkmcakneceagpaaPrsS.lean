/- frame.kind: what SETTINGS reads. -/
import Derived.Test.YtkmcakneceagpaaPrsH
import Derived.Test.YtkmcakneceagpaaReg2
set_option linter.unusedVariables false
set_option linter.unusedSimpArgs false
set_option linter.unusedSimpArgs false
namespace Go.Proofs.Ytkmcakneceagpaa
open Go.RowKit

theorem n16_drop (l : List UInt8) (k i : Nat) : n16 (l.drop k) i = n16 l (k + i) := by simp [n16, List.drop_drop]
theorem n32_drop (l : List UInt8) (k i : Nat) : n32 (l.drop k) i = n32 l (k + i) := by simp [n32, List.drop_drop]
def setC (s : Int × Int) : List Value := [.int .i64 s.1, .int .u32 s.2]
theorem flat2 : ∀ (ss : List (Int × Int)) (i : Nat), i < ss.length → (ss.flatMap setC)[i * 2]? = some (.int .i64 (ss.getD i (0, 0)).1) ∧ (ss.flatMap setC)[i * 2 + 1]? = some (.int .u32 (ss.getD i (0, 0)).2)
  | [], i, h => by simp at h
  | s :: r, 0, h => by simp [setC]
  | s :: r, i + 1, h => by
    have ih := flat2 r i (by simpa using h)
    have e1 : (i + 1) * 2 = i * 2 + 2 := by omega
    rw [e1, List.flatMap_cons]
    refine ⟨?_, ?_⟩
    · rw [show setC s ++ r.flatMap setC = .int .i64 s.1 :: .int .u32 s.2 :: r.flatMap setC from rfl, List.getElem?_cons_succ, List.getElem?_cons_succ, ih.1]
      simp
    · rw [show i * 2 + 2 + 1 = (i * 2 + 1) + 1 + 1 by omega, show setC s ++ r.flatMap setC = .int .i64 s.1 :: .int .u32 s.2 :: r.flatMap setC from rfl, List.getElem?_cons_succ, List.getElem?_cons_succ, ih.2]
      simp
theorem flat2_len (ss : List (Int × Int)) : (ss.flatMap setC).length = ss.length * 2 := by
  induction ss with
  | nil => rfl
  | cons s r ih => simp only [List.flatMap_cons, List.length_append, ih, List.length_cons, setC, List.length_nil]; omega
theorem Sd.ofOw {w : World} {base : Nat} {A : Option Addr} {n c : Nat} {ss : List (Int × Int)} (h : Ow w base 197 2 A n c (ss.flatMap setC)) (hl : ss.length = n) (hv : ∀ i, U32 (ss.getD i (0, 0)).2) : Sd w A n c ss :=
  ⟨hl, h.cap.1, fun hn => by
    obtain ⟨b, off, hA, hc⟩ := h.at_ (by rw [flat2_len]; omega)
    have hlt := (h.base b (by rw [hA]; simp [ob])).2
    refine ⟨b, off, hA, hlt, fun i hi => ⟨hc (i * 2) _ (flat2 ss i (by omega)).1, ?_⟩⟩
    have := hc (i * 2 + 1) _ (flat2 ss i (by omega)).2
    rwa [← Nat.add_assoc] at this, hv⟩
theorem n32_u32 (l : List UInt8) (i : Nat) : U32 (n32 l i) := by
  have h := be_take_lt (l.drop i) 4
  have e : (256 : Nat) ^ 4 = 4294967296 := by decide
  rw [e] at h
  unfold n32
  exact ⟨by omega, by omega⟩
theorem setsS_val (l : List UInt8) (k i : Nat) : U32 ((setsS l k).getD i (0, 0)).2 := by
  induction k with
  | zero => simp [setsS]; exact ⟨by omega, by omega⟩
  | succ k ih =>
    simp only [setsS, List.getD_eq_getElem?_getD] at ih ⊢
    by_cases hi : i < k
    · rw [List.getElem?_append_left (by rw [setsS_len]; exact hi)]; exact ih
    · by_cases hk : i = k
      · subst hk
        rw [List.getElem?_append_right (by rw [setsS_len]; omega), setsS_len]
        simp
        exact n32_u32 l _
      · rw [List.getElem?_eq_none (by rw [List.length_append, setsS_len]; simp; omega)]
        exact ⟨by simp, by simp⟩
theorem infoSet : (Try.prog.info? 197).map (fun i => (i.zero, i.size, i.bytes)) = some (some (.agg #[.int .i64 0, .int .u32 0]), 2, 16) := by kernel_rfl

theorem op_app2 {o : Oper} {a : Act} {w : World} {K : Act → World → Prop} {Q : Exit → Act → World → Prop} {base : Nat} (s x : Operand) (ho : o.op = .call { callee := .builtin .append, args := #[s, x], argTypes := #[47, 47] })
    (A : Option Addr) (n c : Nat) (xs : List Value) (hs : a.eval s = .slice A n c) (HO : Ow w base 197 2 A n c xs)
    (A2 : Option Addr) (c2 : Nat) (y : Int × Int) (hx : a.eval x = .slice A2 1 c2) (HR : At w A2 (setC y)) (hlen : n ≤ 16777216) (hbase : base ≤ w.heap.size)
    (h : ∀ A' c' w', Ow w' base 197 2 A' (n + 1) c' (xs ++ setC y) → Kp (ob A) w w' → (A' = A ∨ A' = some ⟨w.heap.size, 0, none⟩) → K (a.put o.dst (.slice A' (n + 1) c')) w') : o.wp Try.prog a w K Q := by
  obtain ⟨A', c', w', hr, h2, h3, h4, _⟩ := run_app (P := Try.prog) w 47 o.type 197 (.agg #[.int .i64 0, .int .u32 0]) 2 16 Try.underlying47 infoSet rfl (by omega) base A n c xs HO A2 1 c2 (setC y) rfl HR (by intro u hu; simp [setC] at hu; rcases hu with rfl | rfl <;> rfl) (by simp only [maxLen]; omega) (by omega) hbase
  unfold Oper.wp execOp
  simp only [ho, resolve, invoke, builtin, Sem.run_bind, Sem.run_pure, Result.andThen_ok, List.map_toArray, List.map_cons, List.map_nil, hs, hx, hr]
  exact h A' c' w' h2 h3 h4
set_option maxHeartbeats 1000000 in
set_option maxRecDepth 100000 in
theorem get4 (fl st pad : Int) (g : Nat) (A : Option Addr) (n c : Nat) (l : List UInt8) (w : World) (hB : w.heap[g]? = some (.cells #[.int .i64 4, .int .i64 fl, .int .i64 st, .slice none 0 0, .int .i64 pad, .int .u32 0, .int .i64 0, .int .i64 0, .int .i64 0, .bool false, .int .i64 0, .slice none 0 0] 49)) (hr : Rd w A n c l) (hgA : g ∉ ob A) (hn : n ≤ 140737488355328) (m : Nat) (hm : n = 6 * m) (hm2 : m ≤ 16777216) :
    Calls Try.prog 175 #[.pointer (some ⟨g, 0, none⟩), .slice A n c] w (GetR g (getS (f0S 4 fl st pad) l) w) := by
  subst hm
  have HB := Lib.hid hB
  have HR := Lib.hid hr
  have hg := lt_of_heap hB
  have hcap := hr.cap
  have HLEN := Lib.hid hr.len
  have HBA := Lib.hid (show ∀ t, t ∈ ob A → 0 < 6 * m → t < w.heap.size from fun t ht hp => hr.at_.lt (by simpa [hr.len] using hp) t ht)
  clear hB hr
  go_enter Try.func175, Try.ntmps175
  go_wp2_with (with_reducible refine stopAt (o := ⟨some 77, _, _, _, _, _⟩) ?_)
  generalize hW : World.alloc _ _ = w1
  obtain ⟨K1, hx⟩ := new_at hW
  have HX1 := Lib.hid hx
  have hsx := lt_of_heap hx
  have HR1 := Lib.hid (HR.out.keep K1 (by simp))
  have HB1 := Lib.hid (K1.heap HB.out (by simp))
  have HK1 := Lib.hid (K1.nil (S := [g]))
  clear hW hx K1 HB HR
  go_loopw [1] (fun v wr => ∃ (k : Nat) (A' sA : Option Addr) (sc : Nat), k ≤ m ∧ v = .slice A' (6 * m - 6 * k) (c - 6 * k) ∧ Rd wr A' (6 * m - 6 * k) (c - 6 * k) (l.drop (6 * k)) ∧ (∀ t, t ∈ ob A' → t ∈ ob A) ∧ wr.heap[g]? = some (.cells #[.int .i64 4, .int .i64 fl, .int .i64 st, .slice none 0 0, .int .i64 pad, .int .u32 0, .int .i64 0, .int .i64 0, .int .i64 0, .bool false, .int .i64 0, .slice sA k sc] 49) ∧ Ow wr w1.heap.size 197 2 sA k sc ((setsS l k).flatMap setC) ∧ wr.heap[w.heap.size]? = some (.cells #[.bool false, .int .i64 0, .int .i64 0] 64) ∧ Kp [g] w wr ∧ w1.heap.size ≤ wr.heap.size) (fun v _ => match v with | .slice _ n _ => n | _ => 0)
  case atStart => exact ⟨0, A, none, 0, Nat.zero_le _, rfl, by simpa using HR1.out, fun t h => h, HB1.out, Ow.nil _ _ _ _, HX1.out, HK1.out, Nat.le_refl _⟩
  case round =>
    obtain ⟨k, A', sA, sc, hk, rfl, hrb, hAA, hBr, hO, hXr, hK, hs1⟩ := hrel
    by_cases hkm : k < m
    · by_cases hc6 : c - 6 * k = 6
      · obtain ⟨b, o, rfl, _, _⟩ := hrb.addr (by omega)
        have HB := Lib.hid hBr
        have HX := Lib.hid hXr
        have HR := Lib.hid hrb
        have HO := Lib.hid hO
        have HK := Lib.hid hK
        have hcO := hO.cap.1
        have hobA : ∀ t, t ∈ ob sA → w1.heap.size ≤ t ∧ t < wr.heap.size := hO.base
        have hgr : g < wr.heap.size := lt_of_heap hBr
        have hgA2 : g ∉ ob sA := fun h => by have := (hobA g h).1; omega
        have HAA := Lib.hid hAA
        have hmi : (0 : Int) < ((6 * m - 6 * k : Nat) : Int) := by omega
        obtain ⟨n', hn'⟩ : ∃ n', 6 * m - 6 * k = n' := ⟨_, rfl⟩
        obtain ⟨c', hc'⟩ : ∃ c', c - 6 * k = c' := ⟨_, rfl⟩
        rw [hn', hc'] at HR
        have hc6' : c' = 6 := by omega
        clear hc6
        rw [hn'] at hmi
        have hn6 : 6 ≤ n' := by omega
        have hcn := HR.out.cap
        have hnb : n' ≤ 140737488355328 := by omega
        have HN := Lib.hid hn'
        have HC := Lib.hid hc'
        rw [hn', hc']
        clear hBr hXr hrb hO hK hn' hc' hAA HB1 HX1 HK1 HR1
        subst hc6'
        obtain rfl : n' = 6 := by omega
        go_wp2_with fail
        generalize hW : World.alloc _ _ = w2
        obtain ⟨K2, hy⟩ := new_at hW
        have HY2 := Lib.hid hy
        have HR2 := Lib.hid (HR.out.keep K2 (by simp))
        have hys := lt_of_heap hy
        clear hW
        have hU := U16_at (some ⟨b, o, none⟩) 6 6 0 (l.drop (6 * k)) w2 (by omega) HR2.out (by omega)
        rw [show ((0 : Nat) : Int) = 0 from rfl, n16_drop] at hU
        generalize hu : n16 l (6 * k) = u at hU
        have HU := Lib.hid hu
        refine hU.mono ?_
        clear hU hu
        rintro e w3 ⟨p3, q3, rfl, K3⟩
        have HY3 := Lib.hid (K3.heap HY2.out (by simp))
        have HR3 := Lib.hid (HR2.out.keep K3 (by simp))
        have y0 := cell_of HY3.out 0
        have y1 := cell_of HY3.out 1
        have yz := frozen_of HY3.out
        have hy3 := lt_of_heap HY3.out
        go_wp2_with fail
        generalize hW : World.setCell _ _ _ = w4
        have K4 : Kp [wr.heap.size] w3 w4 := by rw [← hW]; exact (Kp.refl _ _).setCell (.inl (by simp)) _
        have HY4 := Lib.hid (show w4.heap[wr.heap.size]? = some (.cells #[.int .i64 u, .int .u32 0] 197) by rw [← hW]; exact hp_set _ _ _ _ _ _ HY3.out)
        have HR4 := Lib.hid (HR3.out.keep K4 (by intro _ t h1 h2; have := HBA.out t (HAA.out t h1) (by omega); simp at h2; omega))
        clear hW y0 y1 yz
        have hU := U32_at (some ⟨b, o, none⟩) 6 6 2 (l.drop (6 * k)) w4 (by omega) HR4.out (by omega)
        rw [show ((2 : Nat) : Int) = 2 from rfl, n32_drop] at hU
        generalize hu : n32 l (6 * k + 2) = z at hU
        have HZ := Lib.hid hu
        refine hU.mono ?_
        clear hU hu
        rintro e w5 ⟨p5, q5, rfl, K5⟩
        have HY5 := Lib.hid (K5.heap HY4.out (by simp))
        have y0 := cell_of HY5.out 0
        have y1 := cell_of HY5.out 1
        have yz := frozen_of HY5.out
        have hy5 := lt_of_heap HY5.out
        go_wp2
        generalize hW : World.setCell _ _ _ = w6
        have K6 : Kp [wr.heap.size] w5 w6 := by rw [← hW]; exact (Kp.refl _ _).setCell (.inl (by simp)) _
        have HY6 := Lib.hid (show w6.heap[wr.heap.size]? = some (.cells #[.int .i64 u, .int .u32 z] 197) by rw [← hW]; exact hp_set _ _ _ _ _ _ HY5.out)
        have K26 : Kp [] wr w6 := ((((K2.trans K3).then K4 (by simp)).trans K5).then K6 (by simp))
        have HB6 := Lib.hid (K26.heap HB.out (by simp))
        have HX6 := Lib.hid (K26.heap HX.out (by simp))
        have HR6 := Lib.hid (HR.out.keep K26 (by simp))
        have HO6 := Lib.hid (HO.out.keep K26 (by simp))
        have HK6 := Lib.hid (HK.out.trans K26.nil)
        have hs6 := K26.size
        have hy6 := lt_of_heap HY6.out
        have hwn : wr.heap.size ∉ g :: ob sA := by intro h; rcases List.mem_cons.1 h with h | h; omega; have := hobA _ h; omega
        clear hW HY5 HY4 HY3 HY2 HR4 HR3 HR2 K2 K3 K4 K5 K6 K26 HB HX HR HO HK y0 y1 yz
        refine wp_region_st (by kernel_rfl) [fun _ v _ => v = (.pointer (some ⟨g, 0, none⟩)),
            fun _ v _ => v = (.pointer (some ⟨g, 0, none⟩)),
            fun _ v _ => v = (.pointer (some ⟨g, 0, none⟩)),
            fun _ v _ => v = (.pointer (some ⟨g, 11, none⟩)),
            fun _ v _ => v = .slice sA k sc,
            fun _ v _ => v = (.agg #[.int .i64 u, .int .u32 z]),
            fun p v w => ∃ x : Option Addr × Nat × Nat, v = .slice x.1 x.2.1 x.2.2 ∧ 0 ≤ p ∧ (p ≤ 1 → At w x.1 (setC (u, z)) ∧ x.2.1 = 1),
            fun p v w => ∃ x : Option Addr × Nat × Nat, v = .slice x.1 x.2.1 x.2.2 ∧ 2 ≤ p ∧ (p ≤ 2 → Ow w w1.heap.size 197 2 x.1 x.2.1 x.2.2 ((setsS l k).flatMap setC ++ setC (u, z)) ∧ x.2.1 = k + 1 ∧ g ∉ ob x.1),
            fun _ v _ => v = (.pointer (some ⟨g, 0, none⟩)),
            fun _ v _ => v = (.pointer (some ⟨g, 11, none⟩)),
            fun _ v w => True] (fun p w => (p ≤ 1 → Kp [] w6 w) ∧ (p ≤ 2 → Kp (ob sA) w6 w) ∧ Kp (g :: ob sA) w6 w ∧ (3 ≤ p → (∃ (A' : Option Addr) (c' : Nat), w.heap[g]? = some (.cells #[.int .i64 4, .int .i64 fl, .int .i64 st, .slice none 0 0, .int .i64 pad, .int .u32 0, .int .i64 0, .int .i64 0, .int .i64 0, .bool false, .int .i64 0, .slice A' (k + 1) c'] 49) ∧ Ow w w1.heap.size 197 2 A' (k + 1) c' ((setsS l k).flatMap setC ++ setC (u, z))))) (fun p w w' => p = 0 → w' = w) (fun w w' => Kp [] w w') [4, 7, 10] [6] (by kernel_rfl) (by kernel_rfl) (by kernel_rfl) (by decide) (by kernel_rfl) ⟨StabAt2.const _, StabAt2.const _, StabAt2.const _, StabAt2.const _, StabAt2.const _, StabAt2.const _, StabAt2.span (f := fun x : Option Addr × Nat × Nat => .slice x.1 x.2.1 x.2.2) (by intro p x w w' h1 h2 h3 hR hG; obtain rfl := hR (by omega); exact hG) (by intro x w w' hR hG; exact ⟨hG.1.keep hR (by simp), hG.2⟩), StabAt2.span (f := fun x : Option Addr × Nat × Nat => .slice x.1 x.2.1 x.2.2) (by intro p x w w' h1 h2; omega) (by intro x w w' hR hG; exact ⟨hG.1.keep hR (by simp), hG.2⟩), StabAt2.const _, StabAt2.const _, ⟨fun _ _ _ _ _ _ _ h => h, fun _ _ _ _ _ h => h⟩, trivial⟩ (⟨fun _ => (Kp.refl _ _).drew, fun _ => (Kp.refl _ _).drew, (Kp.refl _ _).drew, fun h => by omega⟩) ⟨?_, ?_, ?_, ?_, ?_, ?_, ?_, ?_, ?_, ?_, ?_, trivial⟩ (by kernel_rfl) ?_
        · intro q9 a w E hC K hK
          have h0 : a.tmps[0]? = some (.pointer (some ⟨g, 0, none⟩)) := (E.out 0 (by kernel_rfl)).trans rfl
          refine want_none rfl ?_
          go_simp
          exact hK _ rfl
        · intro q9 a w E hC K hK
          have h0 : a.tmps[0]? = some (.pointer (some ⟨g, 0, none⟩)) := (E.out 0 (by kernel_rfl)).trans rfl
          refine want_none rfl ?_
          go_simp
          exact hK _ rfl
        · intro q9 a w E hC K hK
          obtain ⟨_, h26, rfl⟩ := E.pred 1 _ 26 rfl rfl (by kernel_rfl)
          refine want_none rfl ?_
          go_simp
          exact hK _ rfl
        · intro q9 a w E hC K hK
          obtain ⟨_, h27, rfl⟩ := E.pred 2 _ 27 rfl rfl (by kernel_rfl)
          refine want_none rfl ?_
          go_simp
          exact hK _ rfl
        · intro a w E hC K hK
          obtain ⟨_, h28, rfl⟩ := E.pred 3 _ 28 rfl rfl (by kernel_rfl)
          refine want_none rfl ?_
          have hb := (hC.1 (by omega)).heap HB6.out (by simp)
          have g1 := cell_of hb 11
          go_simp
          exact hK _ _ rfl ⟨fun _ => hC.1 (by omega), fun _ => hC.2.1 (by omega), hC.2.2.1, fun h => by omega⟩ (fun _ => rfl)
        · intro q9 a w E hC K hK
          have h5 : a.tmps[5]? = some (.pointer (some ⟨wr.heap.size, 0, none⟩)) := (E.out 5 (by kernel_rfl)).trans rfl
          refine want_none rfl ?_
          have hb := hC.2.2.1.heap HY6.out hwn
          have g0 := cell_of hb 0
          have g1 := cell_of hb 1
          go_simp
          exact hK _ rfl
        · intro q9 a w E hC K hK
          obtain ⟨_, h30, rfl⟩ := E.pred 5 _ 30 rfl rfl (by kernel_rfl)
          refine want_none rfl ?_
          go_simp
          exact hK _ _ ⟨⟨some ⟨w.heap.size, 0, none⟩, 1, 1⟩, rfl, by omega, fun _ => ⟨At.block (hp_new w _ _ rfl) 0 _ rfl, rfl⟩⟩ ⟨fun h => (hC.1 h).alloc _, fun h => (hC.2.1 h).alloc _, hC.2.2.1.alloc _, fun h => by obtain ⟨A', c', q1, q2⟩ := hC.2.2.2 h; have K := (Kp.refl [] w).alloc (.cells #[.int .i64 u, .int .u32 z] 197); exact ⟨A', c', K.heap q1 (by simp), q2.keep K (by simp)⟩⟩ ((Kp.refl _ _).alloc _)
        · intro a w E hC K hK
          obtain ⟨v4, h29, V4⟩ := E.pred 4 _ 29 rfl rfl (by kernel_rfl)
          replace V4 : (fun _ v _ => v = .slice sA k sc) 1 v4 w := V4
          obtain rfl := V4
          obtain ⟨v6, h31, V6⟩ := E.pred 6 _ 31 rfl rfl (by kernel_rfl)
          replace V6 : (fun p v w => ∃ x : Option Addr × Nat × Nat, v = .slice x.1 x.2.1 x.2.2 ∧ 0 ≤ p ∧ (p ≤ 1 → At w x.1 (setC (u, z)) ∧ x.2.1 = 1)) 1 v6 w := V6
          refine want_none rfl ?_
          obtain ⟨⟨A6, n6, c6⟩, rfl, _, G6⟩ := V6
          obtain ⟨R6, rfl⟩ := G6 (by omega)
          refine op_app2 (.tmp 29) (.tmp 31) rfl sA k sc _ (eval_tmp h29) (HO6.out.keep (hC.1 (by omega)) (by simp)) A6 c6 (u, z) (eval_tmp h31) R6 (by omega) (by have := (hC.1 (by omega)).size; omega) ?_
          intro A' c' w2 O K2 hA'
          exact hK _ _ ⟨⟨A', _, c'⟩, rfl, by omega, fun _ => ⟨O, rfl, by rcases hA' with rfl | rfl; exact hgA2; have := (hC.1 (by omega)).size; simp [ob]; omega⟩⟩ ⟨fun h => by omega, fun _ => ((hC.1 (by omega)).nil).trans K2, hC.2.2.1.trans (K2.mono (fun t ht => .inl (List.mem_cons_of_mem _ ht))), fun h => by omega⟩ (fun h => by omega)
        · intro q9 a w E hC K hK
          obtain ⟨_, h25, rfl⟩ := E.pred 0 _ 25 rfl rfl (by kernel_rfl)
          refine want_none rfl ?_
          go_simp
          exact hK _ rfl
        · intro q9 a w E hC K hK
          obtain ⟨_, h33, rfl⟩ := E.pred 8 _ 33 rfl rfl (by kernel_rfl)
          refine want_none rfl ?_
          go_simp
          exact hK _ rfl
        · intro a w E hC K hK
          obtain ⟨_, h34, rfl⟩ := E.pred 9 _ 34 rfl rfl (by kernel_rfl)
          obtain ⟨v7, h32, V7⟩ := E.pred 7 _ 32 rfl rfl (by kernel_rfl)
          replace V7 : (fun p v w => ∃ x : Option Addr × Nat × Nat, v = .slice x.1 x.2.1 x.2.2 ∧ 2 ≤ p ∧ (p ≤ 2 → Ow w w1.heap.size 197 2 x.1 x.2.1 x.2.2 ((setsS l k).flatMap setC ++ setC (u, z)) ∧ x.2.1 = k + 1 ∧ g ∉ ob x.1)) 2 v7 w := V7
          refine want_none rfl ?_
          obtain ⟨⟨A7, n7, c7⟩, rfl, _, G7⟩ := V7
          obtain ⟨O7, rfl, hg7⟩ := G7 (by omega)
          have hb := (hC.2.1 (by omega)).heap HB6.out hgA2
          have g4 := cell_of hb 11
          have gz := frozen_of hb
          go_simp
          exact hK undef _ trivial ⟨fun h => by omega, fun h => by omega, (hC.2.2.1).setCell (.inl (by simp)) _, fun _ => ⟨A7, c7, hp_set _ _ _ _ _ _ hb, O7.keep ((Kp.refl [g] _).setCell (.inl (by simp)) _) (by intro t h1 h2; simp at h2; subst h2; exact hg7 h1)⟩⟩ (fun h => by omega)
        intro vs w7 hC hV
        obtain ⟨A7, c7, hB7, hO7⟩ := hC.2.2.2 (Nat.le_refl _)
        have HB7 := Lib.hid hB7
        have HO7 := Lib.hid hO7
        have K7 : Kp (g :: ob sA) w6 w7 := hC.2.2.1
        have HX7 := Lib.hid (K7.heap HX6.out (by intro h; rcases List.mem_cons.1 h with h | h; omega; have := hobA _ h; omega))
        have HR7 := Lib.hid (HR6.out.keep K7 (by intro _ t h1 h2; rcases List.mem_cons.1 h2 with h | h; subst h; exact hgA (HAA.out _ h1); have := hobA _ h; have := HBA.out _ (HAA.out _ h1) (by omega); omega))
        have HK7 := Lib.hid (HK6.out.then K7 (by intro t ht; rcases List.mem_cons.1 ht with h | h; exact .inl (by simp [h]); have := hobA _ h; exact .inr (by omega)))
        have hs7 := K7.size
        clear hV hC hB7 hO7 K7
        simp only [putAll, Act.put, List.setIfInBounds_toArray]
        dsimp only [List.set]
        go_wp2
        go_roundw
        case rel =>
          refine ⟨k + 1, (some ⟨b, o, none⟩), A7, c7, by omega, by have := HN.out; have := HC.out; congr 1 <;> omega, ?_, by intro t ht; exact HAA.out t (by simpa [ob] using ht), HB7.out, ?_, HX7.out, HK7.out, by omega⟩
          · have hq := HR7.out.sub 6 6 (by omega) (by omega) (A' := (some ⟨b, o, none⟩)) (by intro b' o' h1 h2; omega)
            rw [List.take_of_length_le (by rw [List.length_drop, HR7.out.len]; exact Nat.le_refl _), List.drop_drop] at hq
            have e1 : 6 * m - 6 * (k + 1) = 6 - 6 := by have := HN.out; omega
            have e2 : c - 6 * (k + 1) = 6 - 6 := by have := HC.out; omega
            rw [e1, e2, show 6 * (k + 1) = 6 * k + 6 by omega]
            exact hq
          · show Ow _ _ _ _ _ _ _ ((setsS l k ++ [(n16 l (6 * k), n32 l (6 * k + 2))]).flatMap setC)
            rw [HU.out, HZ.out, List.flatMap_append]
            simpa using HO7.out
        case measure => simp
      · obtain ⟨b, o, rfl, _, _⟩ := hrb.addr (by omega)
        have HB := Lib.hid hBr
        have HX := Lib.hid hXr
        have HR := Lib.hid hrb
        have HO := Lib.hid hO
        have HK := Lib.hid hK
        have hcO := hO.cap.1
        have hobA : ∀ t, t ∈ ob sA → w1.heap.size ≤ t ∧ t < wr.heap.size := hO.base
        have hgr : g < wr.heap.size := lt_of_heap hBr
        have hgA2 : g ∉ ob sA := fun h => by have := (hobA g h).1; omega
        have HAA := Lib.hid hAA
        have hmi : (0 : Int) < ((6 * m - 6 * k : Nat) : Int) := by omega
        obtain ⟨n', hn'⟩ : ∃ n', 6 * m - 6 * k = n' := ⟨_, rfl⟩
        obtain ⟨c', hc'⟩ : ∃ c', c - 6 * k = c' := ⟨_, rfl⟩
        rw [hn', hc'] at HR
        have hc6' : ¬ c' = 6 := by omega
        clear hc6
        rw [hn'] at hmi
        have hn6 : 6 ≤ n' := by omega
        have hcn := HR.out.cap
        have hnb : n' ≤ 140737488355328 := by omega
        have HN := Lib.hid hn'
        have HC := Lib.hid hc'
        rw [hn', hc']
        clear hBr hXr hrb hO hK hn' hc' hAA HB1 HX1 HK1 HR1
        go_wp2_with fail
        generalize hW : World.alloc _ _ = w2
        obtain ⟨K2, hy⟩ := new_at hW
        have HY2 := Lib.hid hy
        have HR2 := Lib.hid (HR.out.keep K2 (by simp))
        have hys := lt_of_heap hy
        clear hW
        have hU := U16_at (some ⟨b, o, none⟩) n' c' 0 (l.drop (6 * k)) w2 (by omega) HR2.out (by omega)
        rw [show ((0 : Nat) : Int) = 0 from rfl, n16_drop] at hU
        generalize hu : n16 l (6 * k) = u at hU
        have HU := Lib.hid hu
        refine hU.mono ?_
        clear hU hu
        rintro e w3 ⟨p3, q3, rfl, K3⟩
        have HY3 := Lib.hid (K3.heap HY2.out (by simp))
        have HR3 := Lib.hid (HR2.out.keep K3 (by simp))
        have y0 := cell_of HY3.out 0
        have y1 := cell_of HY3.out 1
        have yz := frozen_of HY3.out
        have hy3 := lt_of_heap HY3.out
        go_wp2_with fail
        generalize hW : World.setCell _ _ _ = w4
        have K4 : Kp [wr.heap.size] w3 w4 := by rw [← hW]; exact (Kp.refl _ _).setCell (.inl (by simp)) _
        have HY4 := Lib.hid (show w4.heap[wr.heap.size]? = some (.cells #[.int .i64 u, .int .u32 0] 197) by rw [← hW]; exact hp_set _ _ _ _ _ _ HY3.out)
        have HR4 := Lib.hid (HR3.out.keep K4 (by intro _ t h1 h2; have := HBA.out t (HAA.out t h1) (by omega); simp at h2; omega))
        clear hW y0 y1 yz
        have hU := U32_at (some ⟨b, o, none⟩) n' c' 2 (l.drop (6 * k)) w4 (by omega) HR4.out (by omega)
        rw [show ((2 : Nat) : Int) = 2 from rfl, n32_drop] at hU
        generalize hu : n32 l (6 * k + 2) = z at hU
        have HZ := Lib.hid hu
        refine hU.mono ?_
        clear hU hu
        rintro e w5 ⟨p5, q5, rfl, K5⟩
        have HY5 := Lib.hid (K5.heap HY4.out (by simp))
        have y0 := cell_of HY5.out 0
        have y1 := cell_of HY5.out 1
        have yz := frozen_of HY5.out
        have hy5 := lt_of_heap HY5.out
        go_wp2
        generalize hW : World.setCell _ _ _ = w6
        have K6 : Kp [wr.heap.size] w5 w6 := by rw [← hW]; exact (Kp.refl _ _).setCell (.inl (by simp)) _
        have HY6 := Lib.hid (show w6.heap[wr.heap.size]? = some (.cells #[.int .i64 u, .int .u32 z] 197) by rw [← hW]; exact hp_set _ _ _ _ _ _ HY5.out)
        have K26 : Kp [] wr w6 := ((((K2.trans K3).then K4 (by simp)).trans K5).then K6 (by simp))
        have HB6 := Lib.hid (K26.heap HB.out (by simp))
        have HX6 := Lib.hid (K26.heap HX.out (by simp))
        have HR6 := Lib.hid (HR.out.keep K26 (by simp))
        have HO6 := Lib.hid (HO.out.keep K26 (by simp))
        have HK6 := Lib.hid (HK.out.trans K26.nil)
        have hs6 := K26.size
        have hy6 := lt_of_heap HY6.out
        have hwn : wr.heap.size ∉ g :: ob sA := by intro h; rcases List.mem_cons.1 h with h | h; omega; have := hobA _ h; omega
        clear hW HY5 HY4 HY3 HY2 HR4 HR3 HR2 K2 K3 K4 K5 K6 K26 HB HX HR HO HK y0 y1 yz
        refine wp_region_st (by kernel_rfl) [fun _ v _ => v = (.pointer (some ⟨g, 0, none⟩)),
            fun _ v _ => v = (.pointer (some ⟨g, 0, none⟩)),
            fun _ v _ => v = (.pointer (some ⟨g, 0, none⟩)),
            fun _ v _ => v = (.pointer (some ⟨g, 11, none⟩)),
            fun _ v _ => v = .slice sA k sc,
            fun _ v _ => v = (.agg #[.int .i64 u, .int .u32 z]),
            fun p v w => ∃ x : Option Addr × Nat × Nat, v = .slice x.1 x.2.1 x.2.2 ∧ 0 ≤ p ∧ (p ≤ 1 → At w x.1 (setC (u, z)) ∧ x.2.1 = 1),
            fun p v w => ∃ x : Option Addr × Nat × Nat, v = .slice x.1 x.2.1 x.2.2 ∧ 2 ≤ p ∧ (p ≤ 2 → Ow w w1.heap.size 197 2 x.1 x.2.1 x.2.2 ((setsS l k).flatMap setC ++ setC (u, z)) ∧ x.2.1 = k + 1 ∧ g ∉ ob x.1),
            fun _ v _ => v = (.pointer (some ⟨g, 0, none⟩)),
            fun _ v _ => v = (.pointer (some ⟨g, 11, none⟩)),
            fun _ v w => True] (fun p w => (p ≤ 1 → Kp [] w6 w) ∧ (p ≤ 2 → Kp (ob sA) w6 w) ∧ Kp (g :: ob sA) w6 w ∧ (3 ≤ p → (∃ (A' : Option Addr) (c' : Nat), w.heap[g]? = some (.cells #[.int .i64 4, .int .i64 fl, .int .i64 st, .slice none 0 0, .int .i64 pad, .int .u32 0, .int .i64 0, .int .i64 0, .int .i64 0, .bool false, .int .i64 0, .slice A' (k + 1) c'] 49) ∧ Ow w w1.heap.size 197 2 A' (k + 1) c' ((setsS l k).flatMap setC ++ setC (u, z))))) (fun p w w' => p = 0 → w' = w) (fun w w' => Kp [] w w') [4, 7, 10] [6] (by kernel_rfl) (by kernel_rfl) (by kernel_rfl) (by decide) (by kernel_rfl) ⟨StabAt2.const _, StabAt2.const _, StabAt2.const _, StabAt2.const _, StabAt2.const _, StabAt2.const _, StabAt2.span (f := fun x : Option Addr × Nat × Nat => .slice x.1 x.2.1 x.2.2) (by intro p x w w' h1 h2 h3 hR hG; obtain rfl := hR (by omega); exact hG) (by intro x w w' hR hG; exact ⟨hG.1.keep hR (by simp), hG.2⟩), StabAt2.span (f := fun x : Option Addr × Nat × Nat => .slice x.1 x.2.1 x.2.2) (by intro p x w w' h1 h2; omega) (by intro x w w' hR hG; exact ⟨hG.1.keep hR (by simp), hG.2⟩), StabAt2.const _, StabAt2.const _, ⟨fun _ _ _ _ _ _ _ h => h, fun _ _ _ _ _ h => h⟩, trivial⟩ (⟨fun _ => (Kp.refl _ _).drew, fun _ => (Kp.refl _ _).drew, (Kp.refl _ _).drew, fun h => by omega⟩) ⟨?_, ?_, ?_, ?_, ?_, ?_, ?_, ?_, ?_, ?_, ?_, trivial⟩ (by kernel_rfl) ?_
        · intro q9 a w E hC K hK
          have h0 : a.tmps[0]? = some (.pointer (some ⟨g, 0, none⟩)) := (E.out 0 (by kernel_rfl)).trans rfl
          refine want_none rfl ?_
          go_simp
          exact hK _ rfl
        · intro q9 a w E hC K hK
          have h0 : a.tmps[0]? = some (.pointer (some ⟨g, 0, none⟩)) := (E.out 0 (by kernel_rfl)).trans rfl
          refine want_none rfl ?_
          go_simp
          exact hK _ rfl
        · intro q9 a w E hC K hK
          obtain ⟨_, h26, rfl⟩ := E.pred 1 _ 26 rfl rfl (by kernel_rfl)
          refine want_none rfl ?_
          go_simp
          exact hK _ rfl
        · intro q9 a w E hC K hK
          obtain ⟨_, h27, rfl⟩ := E.pred 2 _ 27 rfl rfl (by kernel_rfl)
          refine want_none rfl ?_
          go_simp
          exact hK _ rfl
        · intro a w E hC K hK
          obtain ⟨_, h28, rfl⟩ := E.pred 3 _ 28 rfl rfl (by kernel_rfl)
          refine want_none rfl ?_
          have hb := (hC.1 (by omega)).heap HB6.out (by simp)
          have g1 := cell_of hb 11
          go_simp
          exact hK _ _ rfl ⟨fun _ => hC.1 (by omega), fun _ => hC.2.1 (by omega), hC.2.2.1, fun h => by omega⟩ (fun _ => rfl)
        · intro q9 a w E hC K hK
          have h5 : a.tmps[5]? = some (.pointer (some ⟨wr.heap.size, 0, none⟩)) := (E.out 5 (by kernel_rfl)).trans rfl
          refine want_none rfl ?_
          have hb := hC.2.2.1.heap HY6.out hwn
          have g0 := cell_of hb 0
          have g1 := cell_of hb 1
          go_simp
          exact hK _ rfl
        · intro q9 a w E hC K hK
          obtain ⟨_, h30, rfl⟩ := E.pred 5 _ 30 rfl rfl (by kernel_rfl)
          refine want_none rfl ?_
          go_simp
          exact hK _ _ ⟨⟨some ⟨w.heap.size, 0, none⟩, 1, 1⟩, rfl, by omega, fun _ => ⟨At.block (hp_new w _ _ rfl) 0 _ rfl, rfl⟩⟩ ⟨fun h => (hC.1 h).alloc _, fun h => (hC.2.1 h).alloc _, hC.2.2.1.alloc _, fun h => by obtain ⟨A', c', q1, q2⟩ := hC.2.2.2 h; have K := (Kp.refl [] w).alloc (.cells #[.int .i64 u, .int .u32 z] 197); exact ⟨A', c', K.heap q1 (by simp), q2.keep K (by simp)⟩⟩ ((Kp.refl _ _).alloc _)
        · intro a w E hC K hK
          obtain ⟨v4, h29, V4⟩ := E.pred 4 _ 29 rfl rfl (by kernel_rfl)
          replace V4 : (fun _ v _ => v = .slice sA k sc) 1 v4 w := V4
          obtain rfl := V4
          obtain ⟨v6, h31, V6⟩ := E.pred 6 _ 31 rfl rfl (by kernel_rfl)
          replace V6 : (fun p v w => ∃ x : Option Addr × Nat × Nat, v = .slice x.1 x.2.1 x.2.2 ∧ 0 ≤ p ∧ (p ≤ 1 → At w x.1 (setC (u, z)) ∧ x.2.1 = 1)) 1 v6 w := V6
          refine want_none rfl ?_
          obtain ⟨⟨A6, n6, c6⟩, rfl, _, G6⟩ := V6
          obtain ⟨R6, rfl⟩ := G6 (by omega)
          refine op_app2 (.tmp 29) (.tmp 31) rfl sA k sc _ (eval_tmp h29) (HO6.out.keep (hC.1 (by omega)) (by simp)) A6 c6 (u, z) (eval_tmp h31) R6 (by omega) (by have := (hC.1 (by omega)).size; omega) ?_
          intro A' c' w2 O K2 hA'
          exact hK _ _ ⟨⟨A', _, c'⟩, rfl, by omega, fun _ => ⟨O, rfl, by rcases hA' with rfl | rfl; exact hgA2; have := (hC.1 (by omega)).size; simp [ob]; omega⟩⟩ ⟨fun h => by omega, fun _ => ((hC.1 (by omega)).nil).trans K2, hC.2.2.1.trans (K2.mono (fun t ht => .inl (List.mem_cons_of_mem _ ht))), fun h => by omega⟩ (fun h => by omega)
        · intro q9 a w E hC K hK
          obtain ⟨_, h25, rfl⟩ := E.pred 0 _ 25 rfl rfl (by kernel_rfl)
          refine want_none rfl ?_
          go_simp
          exact hK _ rfl
        · intro q9 a w E hC K hK
          obtain ⟨_, h33, rfl⟩ := E.pred 8 _ 33 rfl rfl (by kernel_rfl)
          refine want_none rfl ?_
          go_simp
          exact hK _ rfl
        · intro a w E hC K hK
          obtain ⟨_, h34, rfl⟩ := E.pred 9 _ 34 rfl rfl (by kernel_rfl)
          obtain ⟨v7, h32, V7⟩ := E.pred 7 _ 32 rfl rfl (by kernel_rfl)
          replace V7 : (fun p v w => ∃ x : Option Addr × Nat × Nat, v = .slice x.1 x.2.1 x.2.2 ∧ 2 ≤ p ∧ (p ≤ 2 → Ow w w1.heap.size 197 2 x.1 x.2.1 x.2.2 ((setsS l k).flatMap setC ++ setC (u, z)) ∧ x.2.1 = k + 1 ∧ g ∉ ob x.1)) 2 v7 w := V7
          refine want_none rfl ?_
          obtain ⟨⟨A7, n7, c7⟩, rfl, _, G7⟩ := V7
          obtain ⟨O7, rfl, hg7⟩ := G7 (by omega)
          have hb := (hC.2.1 (by omega)).heap HB6.out hgA2
          have g4 := cell_of hb 11
          have gz := frozen_of hb
          go_simp
          exact hK undef _ trivial ⟨fun h => by omega, fun h => by omega, (hC.2.2.1).setCell (.inl (by simp)) _, fun _ => ⟨A7, c7, hp_set _ _ _ _ _ _ hb, O7.keep ((Kp.refl [g] _).setCell (.inl (by simp)) _) (by intro t h1 h2; simp at h2; subst h2; exact hg7 h1)⟩⟩ (fun h => by omega)
        intro vs w7 hC hV
        obtain ⟨A7, c7, hB7, hO7⟩ := hC.2.2.2 (Nat.le_refl _)
        have HB7 := Lib.hid hB7
        have HO7 := Lib.hid hO7
        have K7 : Kp (g :: ob sA) w6 w7 := hC.2.2.1
        have HX7 := Lib.hid (K7.heap HX6.out (by intro h; rcases List.mem_cons.1 h with h | h; omega; have := hobA _ h; omega))
        have HR7 := Lib.hid (HR6.out.keep K7 (by intro _ t h1 h2; rcases List.mem_cons.1 h2 with h | h; subst h; exact hgA (HAA.out _ h1); have := hobA _ h; have := HBA.out _ (HAA.out _ h1) (by omega); omega))
        have HK7 := Lib.hid (HK6.out.then K7 (by intro t ht; rcases List.mem_cons.1 ht with h | h; exact .inl (by simp [h]); have := hobA _ h; exact .inr (by omega)))
        have hs7 := K7.size
        clear hV hC hB7 hO7 K7
        simp only [putAll, Act.put, List.setIfInBounds_toArray]
        dsimp only [List.set]
        go_wp2
        go_roundw
        case rel =>
          refine ⟨k + 1, (some ⟨b, o + 6, none⟩), A7, c7, by omega, by have := HN.out; have := HC.out; congr 1 <;> omega, ?_, by intro t ht; exact HAA.out t (by simpa [ob] using ht), HB7.out, ?_, HX7.out, HK7.out, by omega⟩
          · have hq := HR7.out.sub 6 n' (by omega) (by omega) (A' := (some ⟨b, o + 6, none⟩)) (by intro b' o' h1 h2; injection h1 with h1; injection h1 with h1 h3 _; rw [h1, h3])
            rw [List.take_of_length_le (by rw [List.length_drop, HR7.out.len]; exact Nat.le_refl _), List.drop_drop] at hq
            have e1 : 6 * m - 6 * (k + 1) = n' - 6 := by have := HN.out; omega
            have e2 : c - 6 * (k + 1) = c' - 6 := by have := HC.out; omega
            rw [e1, e2, show 6 * (k + 1) = 6 * k + 6 by omega]
            exact hq
          · show Ow _ _ _ _ _ _ _ ((setsS l k ++ [(n16 l (6 * k), n32 l (6 * k + 2))]).flatMap setC)
            rw [HU.out, HZ.out, List.flatMap_append]
            simpa using HO7.out
        case measure => simp; omega
    · obtain rfl : k = m := by omega
      rw [Nat.sub_self] at hrb ⊢
      have HK := Lib.hid hK
      have HB := Lib.hid hBr
      have HO := Lib.hid hO
      have HX := Lib.hid hXr
      have x0 := cell_of hXr 0
      have x1 := cell_of hXr 1
      have x2 := cell_of hXr 2
      have xz := frozen_of hXr
      clear hK hBr hO hXr hrb HB1 HX1 HK1 HR1
      go_wp2
      generalize hW : World.setCell _ _ _ = W
      have K9 : Kp [w.heap.size] wr W := by rw [← hW]; exact ((((Kp.refl _ _).setCell (.inl (by simp)) _).setCell (.inl (by simp)) _).setCell (.inl (by simp)) _)
      have HX9 : W.heap[w.heap.size]? = some (.cells #[.bool false, .int .i64 0, .int .i64 0] 64) := by rw [← hW]; exact hp_set _ _ _ _ _ _ (hp_set _ _ _ _ _ _ (hp_set _ _ _ _ _ _ HX.out))
      have hO9 := HO.out.keep K9 (fun t ht h2 => by have := (HO.out.base t ht).1; simp at h2; omega)
      have e6 : (6 * k) / 6 = k := by omega
      refine bodyPost_ret (v := .agg #[.bool false, .int .i64 0, .int .i64 0]) (by simp [results, Try.results175, go_sem, cell_of HX9]) rfl ⟨rfl, (⟨4, fl, st, none, 0, 0, pad, 0, 0, 0, 0, false, 0, sA, k, sc⟩ : Fr), K9.heap HB.out (by simp; omega), ⟨rfl, Rd.nil _ _ _, ?_, by simp [ob], fun t ht => by have := (hO9.base t ht).1; omega⟩, HK.out.then K9 (by simp)⟩
      show Sd W sA k sc (setsS l (l.length / 6))
      rw [HLEN.out, e6]
      exact Sd.ofOw hO9 (setsS_len l k) (setsS_val l k)
end Go.Proofs.Ytkmcakneceagpaa
