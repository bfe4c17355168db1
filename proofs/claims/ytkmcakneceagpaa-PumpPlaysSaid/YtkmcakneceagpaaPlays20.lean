/- 'PumpPlays', walked. -/
import Derived.Test.YtkmcakneceagpaaPlay20b
set_option linter.unusedVariables false
set_option linter.unusedSimpArgs false
namespace Go.Proofs.Ytkmcakneceagpaa
open Go.RowKit
def RX20 (b0 : Nat) (w : World) (u g gb q h C : Nat) (s : PSt) : Prop := ∃ S D1 D2, JP b0 w u g gb q h C S D1 D2 s s
theorem RX20.keep {b0 : Nat} {w w' : World} {u g gb q h C : Nat} {s : PSt} (r : RX20 b0 w u g gb q h C s) (k : Kp [] w w') : RX20 b0 w' u g gb q h C s := by
  obtain ⟨S, D1, D2, j⟩ := r
  exact ⟨S, D1, D2, j.keep k (by simp)⟩
/-- the ops of a script that came in: m of them at A -/
def Ops20 (w : World) (A : Option Addr) (m : Nat) : Prop := ∀ i, i < m → ∃ b off W N Ai ni ci xs Bi mi di hs, A = some ⟨b, off, none⟩ ∧ w.cell? ⟨b, off + i * 4, none⟩ = some (.int .i64 W) ∧ w.cell? ⟨b, off + i * 4 + 1, none⟩ = some (.int .i64 N) ∧ w.cell? ⟨b, off + i * 4 + 2, none⟩ = some (.slice Ai ni ci) ∧ w.cell? ⟨b, off + i * 4 + 3, none⟩ = some (.slice Bi mi di) ∧
  Rd w Ai ni ci xs ∧ ni ≤ 140737488351232 ∧ (0 < ni → ∀ b, b ∈ ob Ai → b < w.heap.size) ∧ Hd w Bi mi di hs ∧ mi * 40 ≤ 140737488351232
set_option maxHeartbeats 2000000 in
set_option maxRecDepth 100000 in
theorem PumpPlays_walk (n : Int) (A : Option Addr) (m c : Nat) (w0 : World) (ho : Ops20 w0 A m) (hm : m ≤ 140737488351232) :
    Calls Try.prog 22 #[.int .i64 n, .slice A m c] w0 (Yes w0) := by
  by_cases hn : n < 0 ∨ 65536 < n
  · go_enter Try.func22, Try.ntmps22
    go_wp2_with fail
    refine (PmNew_no n hn w0).mono ?_
    rintro e w1 ⟨rfl, rfl⟩
    go_wp2_with fail
    refine (RpNew_no n hn w0).mono ?_
    rintro e w1 ⟨rfl, rfl⟩
    clear hn
    go_wp2
    go_loopw [9] (fun i wr => i = .int .i64 0 ∧ wr = w0) (fun i _ => 0)
    case atStart => exact ⟨rfl, rfl⟩
    case round =>
      obtain ⟨rfl, rfl⟩ := hrel
      go_wp2_with fail
      refine (awake20 _).mono ?_
      rintro e w1 ⟨rfl, K1⟩
      go_wp2
      go_ret
      exact ⟨rfl, K1⟩
  · obtain ⟨C, rfl⟩ := Int.eq_ofNat_of_zero_le (show 0 ≤ n by omega)
    have hC : C ≤ 65536 := by omega
    clear hn
    have HO := Lib.hid ho
    clear ho
    go_enter Try.func22, Try.ntmps22
    go_wp2_with fail
    refine (PmNew C hC w0).mono ?_
    rintro e w1 ⟨u, g, gb, rfl, P1, hlt, K1⟩
    have l1 := P1.lt
    have HP1 := Lib.hid P1
    clear P1
    go_wp2_with fail
    refine (RpNew C hC w1).mono ?_
    rintro e w2 ⟨q, h, rfl, R2, hlt2, K2⟩
    have P2 := HP1.out.keep K2 (by simp) (by simp) (by simp) (by simp)
    have HJ2 : Hid (JP w0.heap.size w2 u g gb q h C [h] [] [] ⟨[], false, none⟩ ⟨[], false, none⟩) := by
      have z1 := K1.size
      exact ⟨P2, R2, by simp, by simp, by intro x hx; simp at hx; rcases hx with rfl | rfl <;> omega, ⟨by omega, by simp; omega⟩⟩
    have KB2 := Lib.hid (KB.of (b0 := w0.heap.size) (K1.trans K2) (by simp))
    clear P2 R2 K1 K2 HP1
    go_wp2
    go_loopw [9] (fun i wr => ∃ (k : Nat) (s : PSt) (S D1 D2 : List Nat), k ≤ m ∧ i = .int .i64 k ∧ JP w0.heap.size wr u g gb q h C S D1 D2 s s ∧ KB w0.heap.size w0 wr) (fun i _ => m - (intOf i).toNat)
    case atStart => exact ⟨0, _, _, _, _, Nat.zero_le _, rfl, HJ2.out, KB2.out⟩
    case round =>
      obtain ⟨k, s, S, D1, D2, hk, rfl, hJ, hKB⟩ := hrel
      have HJ := Lib.hid hJ
      have HKB := Lib.hid hKB
      clear hJ hKB
      by_cases hkl : k < m
      · obtain ⟨b, off, W, N, Ai, ni, ci, xs, Bi, mi, di, hs, rfl, hc0, hc1, hc2, hc3, hx, hni, hxl, hh, hmi⟩ := HO.out k hkl
        have hb0 : b < w0.heap.size := World.block_lt_of_cell? w0 _ hc0
        have HC0 := HKB.out.cell hc0 hb0
        have HC1 := HKB.out.cell hc1 hb0
        have HC2 := HKB.out.cell hc2 hb0
        have HC3 := HKB.out.cell hc3 hb0
        have HX := Lib.hid (hx.keep (HKB.out.below rfl) (by simp))
        have HH := Lib.hid (hh.keep (HKB.out.below rfl) (by simp))
        have hhl := hh.lt
        clear hc0 hc1 hc2 hc3 hx hh
        have hki : (k : Int) < (m : Int) := by omega
        obtain ⟨s', hs'⟩ : ∃ s', nxt20 C s W N xs hs = s' := ⟨_, rfl⟩
        have HL := Lib.hid hs'
        have CQ : ∀ v, (∃ k, (match (motive := Nat → Prop) k with | 0 => v = wr.drew | _ => RX20 w0.heap.size v u g gb q h C s' ∧ KB w0.heap.size wr v)) → KB w0.heap.size wr v := by
          rintro v ⟨k, hk⟩
          rcases k with _ | k
          · cases hk; exact KB.of (Kp.refl [] wr).drew (by simp)
          · exact hk.2
        clear hs'
        go_wp2
        refine wp_region_lists (by kernel_rfl) [fun v _ => v = (.pointer (some ⟨u, 0, none⟩)),
            fun v _ => v = (.pointer (some ⟨q, 0, none⟩)),
            fun v _ => v = (.slice (some ⟨b, off, none⟩) m c),
            fun v _ => v = (.int .i64 k),
            fun v _ => v = (.pointer (some ⟨b, off + k * 4, none⟩)),
            fun v _ => v = (.agg #[.int .i64 W, .int .i64 N, .slice Ai ni ci, .slice Bi mi di]),
            fun v w => v = (.bool true) ∧ RX20 w0.heap.size w u g gb q h C s',
            fun v w => v = (.bool false) ∧ RX20 w0.heap.size w u g gb q h C s',
            fun v w => v = (.bool false) ∧ RX20 w0.heap.size w u g gb q h C s',
            fun v _ => v = (.pointer (some ⟨u, 0, none⟩)),
            fun v _ => v = (.int .i64 (s'.l.length : Nat)),
            fun v _ => v = (.pointer (some ⟨q, 0, none⟩)),
            fun v _ => v = (.pointer (some ⟨q, 0, none⟩)),
            fun v _ => v = (.pointer (some ⟨q, 0, none⟩)),
            fun v _ => v = (.pointer (some ⟨h, 0, none⟩)),
            fun v _ => v = (.pointer (some ⟨h, 0, none⟩)),
            fun v _ => v = (.pointer (some ⟨h, 0, none⟩)),
            fun v w => ∃ A c, v = .slice A s'.l.length c,
            fun v _ => v = (.int .i64 (s'.l.length : Nat)),
            fun v _ => v = (.bool false),
            fun v w => v = (.bool false) ∧ RX20 w0.heap.size w u g gb q h C s',
            fun v w => v = (.bool false) ∧ RX20 w0.heap.size w u g gb q h C s',
            fun v _ => v = (.pointer (some ⟨u, 0, none⟩)),
            fun v _ => v = (.int .i64 ((C - s'.l.length : Nat) : Int)),
            fun v _ => v = (.pointer (some ⟨q, 0, none⟩)),
            fun v _ => v = (.pointer (some ⟨q, 0, none⟩)),
            fun v _ => v = (.pointer (some ⟨q, 0, none⟩)),
            fun v _ => v = (.pointer (some ⟨h, 0, none⟩)),
            fun v w => v = .int .i64 ((C - s'.l.length : Nat) : Int),
            fun v _ => v = (.bool false),
            fun v w => v = (.bool false) ∧ RX20 w0.heap.size w u g gb q h C s',
            fun v w => v = (.bool false) ∧ RX20 w0.heap.size w u g gb q h C s',
            fun v _ => v = (.pointer (some ⟨u, 0, none⟩)),
            fun v _ => v = (.bool (!s'.cl)),
            fun v _ => v = (.pointer (some ⟨q, 0, none⟩)),
            fun v _ => v = (.pointer (some ⟨q, 0, none⟩)),
            fun v _ => v = (.pointer (some ⟨q, 1, none⟩)),
            fun v _ => v = (.bool s'.cl),
            fun v _ => v = (.bool false),
            fun v _ => v = (.bool false)] (fun k v => match k with | 0 => v = wr.drew | _ => RX20 w0.heap.size v u g gb q h C s' ∧ KB w0.heap.size wr v) (fun k w w' => match k with | 0 => RX20 w0.heap.size w' u g gb q h C s' | _ => Kp [] w w') [6, 28] (by kernel_rfl) (by kernel_rfl) (by kernel_rfl) (by decide) (by kernel_rfl) ⟨StabsAt.const _, StabsAt.const _, StabsAt.const _, StabsAt.const _, StabsAt.const _, StabsAt.const _, (by intro k v w w' hk hne hR hv; rcases k with _ | _ | k; (exact ⟨hv.1, hR⟩); (exact ⟨hv.1, hv.2.keep hR⟩); (exact absurd hk (by simp))), (by intro k v w w' hk hne hR hv; rcases k with _ | _ | k; (exact ⟨hv.1, hR⟩); (exact ⟨hv.1, hv.2.keep hR⟩); (exact absurd hk (by simp))), (by intro k v w w' hk hne hR hv; rcases k with _ | _ | k; (exact ⟨hv.1, hR⟩); (exact ⟨hv.1, hv.2.keep hR⟩); (exact absurd hk (by simp))), StabsAt.const _, StabsAt.const _, StabsAt.const _, StabsAt.const _, StabsAt.const _, StabsAt.const _, StabsAt.const _, StabsAt.const _, (by intro k v w w' hk hne hR hv; exact hv), StabsAt.const _, StabsAt.const _, (by intro k v w w' hk hne hR hv; rcases k with _ | _ | k; (exact ⟨hv.1, hR⟩); (exact ⟨hv.1, hv.2.keep hR⟩); (exact absurd hk (by simp))), (by intro k v w w' hk hne hR hv; rcases k with _ | _ | k; (exact ⟨hv.1, hR⟩); (exact ⟨hv.1, hv.2.keep hR⟩); (exact absurd hk (by simp))), StabsAt.const _, StabsAt.const _, StabsAt.const _, StabsAt.const _, StabsAt.const _, StabsAt.const _, StabsAt.const _, StabsAt.const _, (by intro k v w w' hk hne hR hv; rcases k with _ | _ | k; (exact ⟨hv.1, hR⟩); (exact ⟨hv.1, hv.2.keep hR⟩); (exact absurd hk (by simp))), (by intro k v w w' hk hne hR hv; rcases k with _ | _ | k; (exact ⟨hv.1, hR⟩); (exact ⟨hv.1, hv.2.keep hR⟩); (exact absurd hk (by simp))), StabsAt.const _, StabsAt.const _, StabsAt.const _, StabsAt.const _, StabsAt.const _, StabsAt.const _, StabsAt.const _, StabsAt.const _, trivial⟩ (rfl) ⟨?_, ?_, ?_, ?_, ?_, ?_, ?_, ?_, ?_, ?_, ?_, ?_, ?_, ?_, ?_, ?_, ?_, ?_, ?_, ?_, ?_, ?_, ?_, ?_, ?_, ?_, ?_, ?_, ?_, ?_, ?_, ?_, ?_, ?_, ?_, ?_, ?_, ?_, ?_, ?_, trivial⟩ (by kernel_rfl) ?_
        · intro a w E hC K hK
          have h5 : a.tmps[5]? = some (.pointer (some ⟨u, 0, none⟩)) := (E.out 5 (by kernel_rfl)).trans rfl
          refine want_none rfl ?_
          go_simp
          exact hK _ rfl
        · intro a w E hC K hK
          have h7 : a.tmps[7]? = some (.pointer (some ⟨q, 0, none⟩)) := (E.out 7 (by kernel_rfl)).trans rfl
          refine want_none rfl ?_
          go_simp
          exact hK _ rfl
        · intro a w E hC K hK
          have h1 : a.tmps[1]? = some (.slice (some ⟨b, off, none⟩) m c) := (E.out 1 (by kernel_rfl)).trans rfl
          refine want_none rfl ?_
          go_simp
          exact hK _ rfl
        · intro a w E hC K hK
          have h9 : a.tmps[9]? = some (.int .i64 k) := (E.out 9 (by kernel_rfl)).trans rfl
          refine want_none rfl ?_
          go_simp
          exact hK _ rfl
        · intro a w E hC K hK
          obtain ⟨_, h42, rfl⟩ := E.pred 2 _ 42 rfl rfl (by kernel_rfl)
          obtain ⟨_, h43, rfl⟩ := E.pred 3 _ 43 rfl rfl (by kernel_rfl)
          refine want_none rfl ?_
          go_simp
          exact hK _ rfl
        · intro a w E hC K hK
          obtain ⟨_, h44, rfl⟩ := E.pred 4 _ 44 rfl rfl (by kernel_rfl)
          refine want_none rfl ?_
          have hkq := CQ _ hC
          have q0 := hkq.cell HC0 hb0
          have q1 := hkq.cell HC1 hb0
          have q2 := hkq.cell HC2 hb0
          have q3 := hkq.cell HC3 hb0
          go_simp
          exact hK _ rfl
        · intro a w E hC K hK
          obtain ⟨_, h40, rfl⟩ := E.pred 0 _ 40 rfl rfl (by kernel_rfl)
          obtain ⟨_, h41, rfl⟩ := E.pred 1 _ 41 rfl rfl (by kernel_rfl)
          obtain ⟨_, h45, rfl⟩ := E.pred 5 _ 45 rfl rfl (by kernel_rfl)
          refine want_none rfl ?_
          obtain rfl : w = wr.drew := hC
          go_simp
          refine (play20_any (HJ.out.keep (Kp.refl [] wr).drew (by simp)) W N Ai ni ci xs Bi mi di hs HX.out.drew (by omega) hxl (HH.out.keep (Kp.refl [] wr).drew (by simp)) hmi hhl).mono ?_
          rintro e w2 ⟨rfl, S', E1, E2, J2, KB2⟩
          rw [HL.out] at J2
          go_simp
          exact hK _ _ ⟨rfl, S', E1, E2, J2⟩ ⟨⟨S', E1, E2, J2⟩, (KB.of (Kp.refl [] wr).drew (by simp)).trans KB2⟩ ⟨by decide, S', E1, E2, J2⟩
        · intro a w E hC K hK
          obtain ⟨v6, h46, V6⟩ := E.pred 6 _ 46 rfl rfl (by kernel_rfl)
          replace V6 : (fun v w => v = (.bool true) ∧ RX20 w0.heap.size w u g gb q h C s') v6 w := V6
          obtain ⟨rfl, hrp⟩ := V6
          refine want_none rfl ?_
          go_simp
          exact hK _ ⟨rfl, hrp⟩
        · intro a w E hC K hK
          obtain ⟨v7, h47, V7⟩ := E.pred 7 _ 47 rfl rfl (by kernel_rfl)
          replace V7 : (fun v w => v = (.bool false) ∧ RX20 w0.heap.size w u g gb q h C s') v7 w := V7
          obtain ⟨rfl, hrp⟩ := V7
          refine want_none rfl ?_
          go_simp
          exact hK _ ⟨rfl, hrp⟩
        · intro a w E hC K hK
          have h5 : a.tmps[5]? = some (.pointer (some ⟨u, 0, none⟩)) := (E.out 5 (by kernel_rfl)).trans rfl
          obtain ⟨v8, h48, V8⟩ := E.pred 8 _ 48 rfl rfl (by kernel_rfl)
          replace V8 : (fun v w => v = (.bool false) ∧ RX20 w0.heap.size w u g gb q h C s') v8 w := V8
          obtain ⟨rfl, hrp⟩ := V8
          refine want_yes rfl rfl rfl h48 ?_
          go_simp
          exact hK _ rfl
        · intro a w E hC K hK
          obtain ⟨_, h49, rfl⟩ := E.pred 9 _ 49 rfl rfl (by kernel_rfl)
          obtain ⟨v8, h48, V8⟩ := E.pred 8 _ 48 rfl rfl (by kernel_rfl)
          replace V8 : (fun v w => v = (.bool false) ∧ RX20 w0.heap.size w u g gb q h C s') v8 w := V8
          obtain ⟨rfl, hrp⟩ := V8
          refine want_yes rfl rfl rfl h48 ?_
          obtain ⟨S', E1, E2, hj⟩ := hrp
          go_simp
          refine (PmLen hj.pm).mono ?_
          rintro e w2 ⟨rfl, rfl⟩
          go_simp
          exact hK _ rfl
        · intro a w E hC K hK
          have h7 : a.tmps[7]? = some (.pointer (some ⟨q, 0, none⟩)) := (E.out 7 (by kernel_rfl)).trans rfl
          obtain ⟨v8, h48, V8⟩ := E.pred 8 _ 48 rfl rfl (by kernel_rfl)
          replace V8 : (fun v w => v = (.bool false) ∧ RX20 w0.heap.size w u g gb q h C s') v8 w := V8
          obtain ⟨rfl, hrp⟩ := V8
          refine want_yes rfl rfl rfl h48 ?_
          go_simp
          exact hK _ rfl
        · intro a w E hC K hK
          obtain ⟨_, h51, rfl⟩ := E.pred 11 _ 51 rfl rfl (by kernel_rfl)
          obtain ⟨v8, h48, V8⟩ := E.pred 8 _ 48 rfl rfl (by kernel_rfl)
          replace V8 : (fun v w => v = (.bool false) ∧ RX20 w0.heap.size w u g gb q h C s') v8 w := V8
          obtain ⟨rfl, hrp⟩ := V8
          refine want_yes rfl rfl rfl h48 ?_
          go_simp
          exact hK _ rfl
        · intro a w E hC K hK
          obtain ⟨_, h52, rfl⟩ := E.pred 12 _ 52 rfl rfl (by kernel_rfl)
          obtain ⟨v8, h48, V8⟩ := E.pred 8 _ 48 rfl rfl (by kernel_rfl)
          replace V8 : (fun v w => v = (.bool false) ∧ RX20 w0.heap.size w u g gb q h C s') v8 w := V8
          obtain ⟨rfl, hrp⟩ := V8
          refine want_yes rfl rfl rfl h48 ?_
          go_simp
          exact hK _ rfl
        · intro a w E hC K hK
          obtain ⟨_, h53, rfl⟩ := E.pred 13 _ 53 rfl rfl (by kernel_rfl)
          obtain ⟨v8, h48, V8⟩ := E.pred 8 _ 48 rfl rfl (by kernel_rfl)
          replace V8 : (fun v w => v = (.bool false) ∧ RX20 w0.heap.size w u g gb q h C s') v8 w := V8
          obtain ⟨rfl, hrp⟩ := V8
          refine want_yes rfl rfl rfl h48 ?_
          obtain ⟨S', E1, E2, hj⟩ := hrp
          obtain ⟨A', n', c', e', _⟩ := hj.rp.rep
          have q0 := cell_of e' 0
          go_simp
          exact hK _ rfl
        · intro a w E hC K hK
          obtain ⟨_, h54, rfl⟩ := E.pred 14 _ 54 rfl rfl (by kernel_rfl)
          obtain ⟨v8, h48, V8⟩ := E.pred 8 _ 48 rfl rfl (by kernel_rfl)
          replace V8 : (fun v w => v = (.bool false) ∧ RX20 w0.heap.size w u g gb q h C s') v8 w := V8
          obtain ⟨rfl, hrp⟩ := V8
          refine want_yes rfl rfl rfl h48 ?_
          go_simp
          exact hK _ rfl
        · intro a w E hC K hK
          obtain ⟨_, h55, rfl⟩ := E.pred 15 _ 55 rfl rfl (by kernel_rfl)
          obtain ⟨v8, h48, V8⟩ := E.pred 8 _ 48 rfl rfl (by kernel_rfl)
          replace V8 : (fun v w => v = (.bool false) ∧ RX20 w0.heap.size w u g gb q h C s') v8 w := V8
          obtain ⟨rfl, hrp⟩ := V8
          refine want_yes rfl rfl rfl h48 ?_
          go_simp
          exact hK _ rfl
        · intro a w E hC K hK
          obtain ⟨_, h56, rfl⟩ := E.pred 16 _ 56 rfl rfl (by kernel_rfl)
          obtain ⟨v8, h48, V8⟩ := E.pred 8 _ 48 rfl rfl (by kernel_rfl)
          replace V8 : (fun v w => v = (.bool false) ∧ RX20 w0.heap.size w u g gb q h C s') v8 w := V8
          obtain ⟨rfl, hrp⟩ := V8
          refine want_yes rfl rfl rfl h48 ?_
          obtain ⟨S', E1, E2, hj⟩ := hrp
          obtain ⟨RA, rc, hrc⟩ := hj.rp.ring.rcell
          go_simp
          exact hK _ ⟨RA, rc, rfl⟩
        · intro a w E hC K hK
          obtain ⟨v17, h57, V17⟩ := E.pred 17 _ 57 rfl rfl (by kernel_rfl)
          replace V17 : (fun v w => ∃ A c, v = .slice A s'.l.length c) v17 w := V17
          obtain ⟨A', c', rfl⟩ := V17
          obtain ⟨v8, h48, V8⟩ := E.pred 8 _ 48 rfl rfl (by kernel_rfl)
          replace V8 : (fun v w => v = (.bool false) ∧ RX20 w0.heap.size w u g gb q h C s') v8 w := V8
          obtain ⟨rfl, hrp⟩ := V8
          refine want_yes rfl rfl rfl h48 ?_
          go_simp
          exact hK _ rfl
        · intro a w E hC K hK
          obtain ⟨_, h50, rfl⟩ := E.pred 10 _ 50 rfl rfl (by kernel_rfl)
          obtain ⟨_, h58, rfl⟩ := E.pred 18 _ 58 rfl rfl (by kernel_rfl)
          obtain ⟨v8, h48, V8⟩ := E.pred 8 _ 48 rfl rfl (by kernel_rfl)
          replace V8 : (fun v w => v = (.bool false) ∧ RX20 w0.heap.size w u g gb q h C s') v8 w := V8
          obtain ⟨rfl, hrp⟩ := V8
          refine want_yes rfl rfl rfl h48 ?_
          go_simp
          exact hK _ rfl
        · intro a w E hC K hK
          obtain ⟨v8, h48, V8⟩ := E.pred 8 _ 48 rfl rfl (by kernel_rfl)
          replace V8 : (fun v w => v = (.bool false) ∧ RX20 w0.heap.size w u g gb q h C s') v8 w := V8
          obtain ⟨rfl, hrp⟩ := V8
          obtain ⟨_, h59, rfl⟩ := E.pred 19 _ 59 rfl rfl (by kernel_rfl)
          refine want_none rfl ?_
          go_simp
          exact hK _ ⟨rfl, hrp⟩
        · intro a w E hC K hK
          obtain ⟨v20, h60, V20⟩ := E.pred 20 _ 60 rfl rfl (by kernel_rfl)
          replace V20 : (fun v w => v = (.bool false) ∧ RX20 w0.heap.size w u g gb q h C s') v20 w := V20
          obtain ⟨rfl, hrp⟩ := V20
          refine want_none rfl ?_
          go_simp
          exact hK _ ⟨rfl, hrp⟩
        · intro a w E hC K hK
          have h5 : a.tmps[5]? = some (.pointer (some ⟨u, 0, none⟩)) := (E.out 5 (by kernel_rfl)).trans rfl
          obtain ⟨v21, h61, V21⟩ := E.pred 21 _ 61 rfl rfl (by kernel_rfl)
          replace V21 : (fun v w => v = (.bool false) ∧ RX20 w0.heap.size w u g gb q h C s') v21 w := V21
          obtain ⟨rfl, hrp⟩ := V21
          refine want_yes rfl rfl rfl h61 ?_
          go_simp
          exact hK _ rfl
        · intro a w E hC K hK
          obtain ⟨_, h62, rfl⟩ := E.pred 22 _ 62 rfl rfl (by kernel_rfl)
          obtain ⟨v21, h61, V21⟩ := E.pred 21 _ 61 rfl rfl (by kernel_rfl)
          replace V21 : (fun v w => v = (.bool false) ∧ RX20 w0.heap.size w u g gb q h C s') v21 w := V21
          obtain ⟨rfl, hrp⟩ := V21
          refine want_yes rfl rfl rfl h61 ?_
          obtain ⟨S', E1, E2, hj⟩ := hrp
          go_simp
          refine (PmRoom hj.pm).mono ?_
          rintro e w2 ⟨rfl, rfl⟩
          go_simp
          exact hK _ rfl
        · intro a w E hC K hK
          have h7 : a.tmps[7]? = some (.pointer (some ⟨q, 0, none⟩)) := (E.out 7 (by kernel_rfl)).trans rfl
          obtain ⟨v21, h61, V21⟩ := E.pred 21 _ 61 rfl rfl (by kernel_rfl)
          replace V21 : (fun v w => v = (.bool false) ∧ RX20 w0.heap.size w u g gb q h C s') v21 w := V21
          obtain ⟨rfl, hrp⟩ := V21
          refine want_yes rfl rfl rfl h61 ?_
          go_simp
          exact hK _ rfl
        · intro a w E hC K hK
          obtain ⟨_, h64, rfl⟩ := E.pred 24 _ 64 rfl rfl (by kernel_rfl)
          obtain ⟨v21, h61, V21⟩ := E.pred 21 _ 61 rfl rfl (by kernel_rfl)
          replace V21 : (fun v w => v = (.bool false) ∧ RX20 w0.heap.size w u g gb q h C s') v21 w := V21
          obtain ⟨rfl, hrp⟩ := V21
          refine want_yes rfl rfl rfl h61 ?_
          go_simp
          exact hK _ rfl
        · intro a w E hC K hK
          obtain ⟨_, h65, rfl⟩ := E.pred 25 _ 65 rfl rfl (by kernel_rfl)
          obtain ⟨v21, h61, V21⟩ := E.pred 21 _ 61 rfl rfl (by kernel_rfl)
          replace V21 : (fun v w => v = (.bool false) ∧ RX20 w0.heap.size w u g gb q h C s') v21 w := V21
          obtain ⟨rfl, hrp⟩ := V21
          refine want_yes rfl rfl rfl h61 ?_
          go_simp
          exact hK _ rfl
        · intro a w E hC K hK
          obtain ⟨_, h66, rfl⟩ := E.pred 26 _ 66 rfl rfl (by kernel_rfl)
          obtain ⟨v21, h61, V21⟩ := E.pred 21 _ 61 rfl rfl (by kernel_rfl)
          replace V21 : (fun v w => v = (.bool false) ∧ RX20 w0.heap.size w u g gb q h C s') v21 w := V21
          obtain ⟨rfl, hrp⟩ := V21
          refine want_yes rfl rfl rfl h61 ?_
          obtain ⟨S', E1, E2, hj⟩ := hrp
          obtain ⟨A', n', c', e', _⟩ := hj.rp.rep
          have q0 := cell_of e' 0
          go_simp
          exact hK _ rfl
        · intro a w E hC K hK
          obtain ⟨_, h67, rfl⟩ := E.pred 27 _ 67 rfl rfl (by kernel_rfl)
          obtain ⟨v21, h61, V21⟩ := E.pred 21 _ 61 rfl rfl (by kernel_rfl)
          replace V21 : (fun v w => v = (.bool false) ∧ RX20 w0.heap.size w u g gb q h C s') v21 w := V21
          obtain ⟨rfl, hrp⟩ := V21
          refine want_yes rfl rfl rfl h61 ?_
          obtain ⟨S', E1, E2, hj⟩ := hrp
          go_simp
          refine (RfRoom hj.rp.ring).mono ?_
          rintro e w2 ⟨rfl, K2⟩
          go_simp
          obtain ⟨⟨S3, E3, E4, hj3⟩, hkb⟩ := hC
          exact hK _ _ rfl ⟨⟨S3, E3, E4, hj3.keep K2 (by simp)⟩, hkb.trans (KB.of K2 (by simp))⟩ ⟨by decide, K2⟩
        · intro a w E hC K hK
          obtain ⟨_, h63, rfl⟩ := E.pred 23 _ 63 rfl rfl (by kernel_rfl)
          obtain ⟨v28, h68, V28⟩ := E.pred 28 _ 68 rfl rfl (by kernel_rfl)
          replace V28 : (fun v w => v = .int .i64 ((C - s'.l.length : Nat) : Int)) v28 w := V28
          obtain rfl := V28
          obtain ⟨v21, h61, V21⟩ := E.pred 21 _ 61 rfl rfl (by kernel_rfl)
          replace V21 : (fun v w => v = (.bool false) ∧ RX20 w0.heap.size w u g gb q h C s') v21 w := V21
          obtain ⟨rfl, hrp⟩ := V21
          refine want_yes rfl rfl rfl h61 ?_
          go_simp
          exact hK _ rfl
        · intro a w E hC K hK
          obtain ⟨v21, h61, V21⟩ := E.pred 21 _ 61 rfl rfl (by kernel_rfl)
          replace V21 : (fun v w => v = (.bool false) ∧ RX20 w0.heap.size w u g gb q h C s') v21 w := V21
          obtain ⟨rfl, hrp⟩ := V21
          obtain ⟨_, h69, rfl⟩ := E.pred 29 _ 69 rfl rfl (by kernel_rfl)
          refine want_none rfl ?_
          go_simp
          exact hK _ ⟨rfl, hrp⟩
        · intro a w E hC K hK
          obtain ⟨v30, h70, V30⟩ := E.pred 30 _ 70 rfl rfl (by kernel_rfl)
          replace V30 : (fun v w => v = (.bool false) ∧ RX20 w0.heap.size w u g gb q h C s') v30 w := V30
          obtain ⟨rfl, hrp⟩ := V30
          refine want_none rfl ?_
          go_simp
          exact hK _ ⟨rfl, hrp⟩
        · intro a w E hC K hK
          have h5 : a.tmps[5]? = some (.pointer (some ⟨u, 0, none⟩)) := (E.out 5 (by kernel_rfl)).trans rfl
          obtain ⟨v31, h71, V31⟩ := E.pred 31 _ 71 rfl rfl (by kernel_rfl)
          replace V31 : (fun v w => v = (.bool false) ∧ RX20 w0.heap.size w u g gb q h C s') v31 w := V31
          obtain ⟨rfl, hrp⟩ := V31
          refine want_yes rfl rfl rfl h71 ?_
          go_simp
          exact hK _ rfl
        · intro a w E hC K hK
          obtain ⟨_, h72, rfl⟩ := E.pred 32 _ 72 rfl rfl (by kernel_rfl)
          obtain ⟨v31, h71, V31⟩ := E.pred 31 _ 71 rfl rfl (by kernel_rfl)
          replace V31 : (fun v w => v = (.bool false) ∧ RX20 w0.heap.size w u g gb q h C s') v31 w := V31
          obtain ⟨rfl, hrp⟩ := V31
          refine want_yes rfl rfl rfl h71 ?_
          obtain ⟨S', E1, E2, hj⟩ := hrp
          go_simp
          refine (PmOpen hj.pm).mono ?_
          rintro e w2 ⟨rfl, rfl⟩
          go_simp
          exact hK _ rfl
        · intro a w E hC K hK
          have h7 : a.tmps[7]? = some (.pointer (some ⟨q, 0, none⟩)) := (E.out 7 (by kernel_rfl)).trans rfl
          obtain ⟨v31, h71, V31⟩ := E.pred 31 _ 71 rfl rfl (by kernel_rfl)
          replace V31 : (fun v w => v = (.bool false) ∧ RX20 w0.heap.size w u g gb q h C s') v31 w := V31
          obtain ⟨rfl, hrp⟩ := V31
          refine want_yes rfl rfl rfl h71 ?_
          go_simp
          exact hK _ rfl
        · intro a w E hC K hK
          obtain ⟨_, h74, rfl⟩ := E.pred 34 _ 74 rfl rfl (by kernel_rfl)
          obtain ⟨v31, h71, V31⟩ := E.pred 31 _ 71 rfl rfl (by kernel_rfl)
          replace V31 : (fun v w => v = (.bool false) ∧ RX20 w0.heap.size w u g gb q h C s') v31 w := V31
          obtain ⟨rfl, hrp⟩ := V31
          refine want_yes rfl rfl rfl h71 ?_
          go_simp
          exact hK _ rfl
        · intro a w E hC K hK
          obtain ⟨_, h75, rfl⟩ := E.pred 35 _ 75 rfl rfl (by kernel_rfl)
          obtain ⟨v31, h71, V31⟩ := E.pred 31 _ 71 rfl rfl (by kernel_rfl)
          replace V31 : (fun v w => v = (.bool false) ∧ RX20 w0.heap.size w u g gb q h C s') v31 w := V31
          obtain ⟨rfl, hrp⟩ := V31
          refine want_yes rfl rfl rfl h71 ?_
          go_simp
          exact hK _ rfl
        · intro a w E hC K hK
          obtain ⟨_, h76, rfl⟩ := E.pred 36 _ 76 rfl rfl (by kernel_rfl)
          obtain ⟨v31, h71, V31⟩ := E.pred 31 _ 71 rfl rfl (by kernel_rfl)
          replace V31 : (fun v w => v = (.bool false) ∧ RX20 w0.heap.size w u g gb q h C s') v31 w := V31
          obtain ⟨rfl, hrp⟩ := V31
          refine want_yes rfl rfl rfl h71 ?_
          obtain ⟨S', E1, E2, hj⟩ := hrp
          obtain ⟨A', n', c', e', _⟩ := hj.rp.rep
          have q0 := cell_of e' 1
          go_simp
          exact hK _ rfl
        · intro a w E hC K hK
          obtain ⟨_, h73, rfl⟩ := E.pred 33 _ 73 rfl rfl (by kernel_rfl)
          obtain ⟨_, h77, rfl⟩ := E.pred 37 _ 77 rfl rfl (by kernel_rfl)
          obtain ⟨v31, h71, V31⟩ := E.pred 31 _ 71 rfl rfl (by kernel_rfl)
          replace V31 : (fun v w => v = (.bool false) ∧ RX20 w0.heap.size w u g gb q h C s') v31 w := V31
          obtain ⟨rfl, hrp⟩ := V31
          refine want_yes rfl rfl rfl h71 ?_
          go_simp
          exact hK _ (by cases s'.cl <;> rfl)
        · intro a w E hC K hK
          obtain ⟨v31, h71, V31⟩ := E.pred 31 _ 71 rfl rfl (by kernel_rfl)
          replace V31 : (fun v w => v = (.bool false) ∧ RX20 w0.heap.size w u g gb q h C s') v31 w := V31
          obtain ⟨rfl, hrp⟩ := V31
          obtain ⟨_, h78, rfl⟩ := E.pred 38 _ 78 rfl rfl (by kernel_rfl)
          refine want_none rfl ?_
          go_simp
          exact hK _ rfl
        intro vs w3 hC3 hV
        have h30 := hV 39 _ rfl (by simp)
        replace h30 : vs 39 = .bool false := h30
        replace hC3 : RX20 w0.heap.size w3 u g gb q h C s' ∧ KB w0.heap.size wr w3 := hC3
        obtain ⟨⟨S', E1, E2, J3⟩, KB3⟩ := hC3
        have HJ3 := Lib.hid J3
        have HKB3 := Lib.hid (HKB.out.trans KB3)
        clear hV J3 KB3 CQ
        simp only [putAll, Act.put, List.setIfInBounds_toArray]
        dsimp only [List.set]
        simp only [Nat.reduceAdd]
        rw [h30]
        clear h30
        go_wp2
        go_roundw
        case rel => exact ⟨k + 1, s', S', E1, E2, by omega, by go_num, HJ3.out, HKB3.out⟩
        case measure => simp [intOf]; omega
      · go_wp2_with fail
        refine (awake20 _).mono ?_
        rintro e w3 ⟨rfl, K3⟩
        go_wp2
        go_ret
        exact ⟨rfl, (HKB.out.below rfl).trans K3⟩
end Go.Proofs.Ytkmcakneceagpaa
