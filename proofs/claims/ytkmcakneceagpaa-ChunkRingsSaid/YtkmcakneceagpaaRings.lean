/- 'ChunkRings', walked. -/
import Derived.Test.YtkmcakneceagpaaPlay01
set_option linter.unusedVariables false
set_option linter.unusedSimpArgs false
namespace Go.Proofs.Ytkmcakneceagpaa
open Go.RowKit
/-- the ops of a script that came in: m of them at A -/
def Ops01 (w : World) (A : Option Addr) (m : Nat) : Prop := ∀ i, i < m → ∃ b off W N Ai ni ci xs, A = some ⟨b, off, none⟩ ∧ w.cell? ⟨b, off + i * 3, none⟩ = some (.int .i64 W) ∧ w.cell? ⟨b, off + i * 3 + 1, none⟩ = some (.int .i64 N) ∧ w.cell? ⟨b, off + i * 3 + 2, none⟩ = some (.slice Ai ni ci) ∧
  Rd w Ai ni ci xs ∧ ni ≤ 140737488351232 ∧ (0 < ni → ∀ b, b ∈ ob Ai → b < w.heap.size)
def RP01 (w : World) (g gb h C : Nat) (l : List UInt8) : Prop := (∃ p, Rg w g gb C p l) ∧ ∃ S, Rf w h S C l
theorem RP01.keep {w w' : World} {g gb h C : Nat} {l : List UInt8} (r : RP01 w g gb h C l) (k : Kp [] w w') : RP01 w' g gb h C l := by
  obtain ⟨⟨p, r⟩, S, f⟩ := r
  exact ⟨⟨p, r.keep k (by simp) (by simp)⟩, S, f.keep k (by simp)⟩
/-- the state behind a call of play -/
def ST01 (w0 wr w : World) (g gb h C : Nat) (l : List UInt8) (T : List Nat) : Prop := (∃ p, Rg w g gb C p l) ∧ (∃ S, (g ∉ S ∧ gb ∉ S) ∧ (∀ s, s ∈ S → w0.heap.size ≤ s) ∧ Rf w h S C l) ∧ Kp T wr w
theorem ST01.rp {w0 wr w : World} {g gb h C : Nat} {l : List UInt8} {T : List Nat} (r : ST01 w0 wr w g gb h C l T) : RP01 w g gb h C l := ⟨r.1, by obtain ⟨S, _, _, f⟩ := r.2.1; exact ⟨S, f⟩⟩
theorem ST01.keep {w0 wr w w' : World} {g gb h C : Nat} {l : List UInt8} {T : List Nat} (r : ST01 w0 wr w g gb h C l T) (k : Kp [] w w') : ST01 w0 wr w' g gb h C l T := by
  obtain ⟨⟨p, r⟩, ⟨S, h1, h2, f⟩, k1⟩ := r
  exact ⟨⟨p, r.keep k (by simp) (by simp)⟩, ⟨S, h1, h2, f.keep k (by simp)⟩, k1.trans (k.mono (fun s hs => by cases hs))⟩
set_option maxHeartbeats 1000000 in
set_option maxRecDepth 100000 in
theorem ChunkRings_walk (n : Int) (A : Option Addr) (m c : Nat) (w0 : World) (ho : Ops01 w0 A m) (hm : m ≤ 140737488351232) :
    Calls Try.prog 12 #[.int .i64 n, .slice A m c] w0 (Yes w0) := by
  by_cases hn : n < 0 ∨ 1048576 < n
  · go_enter Try.func12, Try.ntmps12
    go_wp2_with fail
    refine (RgNew_no n hn w0).mono ?_
    rintro e w1 ⟨rfl, rfl⟩
    go_wp2_with fail
    refine (RfNew_no n hn w0).mono ?_
    rintro e w1 ⟨rfl, rfl⟩
    clear hn
    go_wp2
    go_loopw [9] (fun i wr => i = .int .i64 0 ∧ wr = w0) (fun i _ => 0)
    case atStart => exact ⟨rfl, rfl⟩
    case round =>
      obtain ⟨rfl, rfl⟩ := hrel
      go_wp2_with fail
      refine (awake01 _).mono ?_
      rintro e w1 ⟨rfl, K1⟩
      go_wp2
      go_ret
      exact ⟨rfl, K1⟩
  · obtain ⟨C, rfl⟩ := Int.eq_ofNat_of_zero_le (show 0 ≤ n by omega)
    have hC : C ≤ 1048576 := by omega
    clear hn
    have HO := Lib.hid ho
    clear ho
    go_enter Try.func12, Try.ntmps12
    go_wp2_with fail
    refine (RgNew C hC w0).mono ?_
    rintro e w1 ⟨g, gb, rfl, R1, hlt, K1⟩
    go_wp2_with fail
    refine (RfNew C hC w1).mono ?_
    rintro e w2 ⟨rfl, F2, K2⟩
    have R2 := Lib.hid (R1.keep K2 (by simp) (by simp))
    obtain ⟨lt1, lt2⟩ := R1.lt
    have q2 := K1.trans K2
    have HF2 := Lib.hid F2
    have z1 := K1.size
    have z2 := F2.lt w1.heap.size (by simp)
    generalize w1.heap.size = h at *
    clear K1 K2 R1 F2
    go_wp2
    go_loopw [9] (fun i wr => ∃ (k p : Nat) (l : List UInt8) (S : List Nat), k ≤ m ∧ i = .int .i64 k ∧ Rg wr g gb C p l ∧ Rf wr h S C l ∧ (g ∉ S ∧ gb ∉ S) ∧ (∀ s, s ∈ S → w0.heap.size ≤ s) ∧ Kp [] w0 wr) (fun i _ => m - (intOf i).toNat)
    case atStart => exact ⟨0, 0, [], [h], Nat.zero_le _, rfl, R2.out, HF2.out, by simp; omega, by simp; omega, q2⟩
    case round =>
      obtain ⟨k, p, l, S, hk, rfl, hR, hF, hS, hS0, hK⟩ := hrel
      have HR := Lib.hid hR
      have HF := Lib.hid hF
      have HK := Lib.hid hK
      have HS := Lib.hid hS
      have HS0 := Lib.hid hS0
      clear hR hF hK hS hS0
      by_cases hkl : k < m
      · obtain ⟨b, off, W, N, Ai, ni, ci, xs, rfl, hc0, hc1, hc2, hx, hni, hxl⟩ := HO.out k hkl
        have HC0 := HK.out.cell hc0 (by simp)
        have HC1 := HK.out.cell hc1 (by simp)
        have HC2 := HK.out.cell hc2 (by simp)
        have HX := Lib.hid (hx.keep HK.out (by simp))
        have hb0 : b < w0.heap.size := World.block_lt_of_cell? w0 _ hc0
        clear hc0 hc1 hc2 hx
        have hki : (k : Int) < (m : Int) := by omega
        obtain ⟨l', hl'⟩ : ∃ l', nxt01 C l W N xs = l' := ⟨_, rfl⟩
        have HL := Lib.hid hl'
        have hbn : b ∉ g :: gb :: S := by
          intro hm
          simp only [List.mem_cons] at hm
          rcases hm with rfl | rfl | hm
          · omega
          · omega
          · have := HS0.out b hm
            omega
        obtain ⟨lr1, lr2⟩ := HR.out.lt
        have hst2 : ∀ (w2 : World) (p' : Nat) (S' : List Nat), Rg w2 g gb C p' l' → Rf w2 h S' C l' → Nw S S' wr.drew → Kp (g :: gb :: S) wr.drew w2 → ST01 w0 wr w2 g gb h C l' (g :: gb :: S) := by
          intro w2 p' S' R2 F2 hS' K2
          have hd : wr.drew.heap.size = wr.heap.size := rfl
          refine ⟨⟨p', R2⟩, ⟨S', ⟨fun hm => ?_, fun hm => ?_⟩, fun s hm => ?_, F2⟩, K2.undrew⟩
          · rcases hS' _ hm with h1 | h1
            · exact HS.out.1 h1
            · omega
          · rcases hS' _ hm with h1 | h1
            · exact HS.out.2 h1
            · omega
          · rcases hS' _ hm with h1 | h1
            · exact HS0.out _ h1
            · have := HK.out.size
              omega
        have CQ : ∀ v, (∃ k, (match (motive := Nat → Prop) k with | 0 => v = wr.drew | _ => ST01 w0 wr v g gb h C l' (g :: gb :: S))) → Kp (g :: gb :: S) wr v := by
          rintro v ⟨k, hk⟩
          rcases k with _ | k
          · cases hk; exact (Kp.refl _ wr).drew
          · exact hk.2.2
        clear hl'
        go_wp2
        refine wp_region_lists (by kernel_rfl) [fun v _ => v = (.pointer (some ⟨g, 0, none⟩)),
            fun v _ => v = (.pointer (some ⟨h, 0, none⟩)),
            fun v _ => v = (.slice (some ⟨b, off, none⟩) m c),
            fun v _ => v = (.int .i64 k),
            fun v _ => v = (.pointer (some ⟨b, off + k * 3, none⟩)),
            fun v _ => v = (.agg #[.int .i64 W, .int .i64 N, .slice Ai ni ci]),
            fun v w => v = (.bool true) ∧ RP01 w g gb h C l',
            fun v w => v = (.bool false) ∧ RP01 w g gb h C l',
            fun v w => v = (.bool false) ∧ RP01 w g gb h C l',
            fun v _ => v = (.pointer (some ⟨g, 0, none⟩)),
            fun v _ => v = (.int .i64 (l'.length : Nat)),
            fun v _ => v = (.pointer (some ⟨h, 0, none⟩)),
            fun v _ => v = (.pointer (some ⟨h, 0, none⟩)),
            fun v _ => v = (.pointer (some ⟨h, 0, none⟩)),
            fun v w => ∃ A c, v = .slice A l'.length c,
            fun v _ => v = (.int .i64 (l'.length : Nat)),
            fun v _ => v = (.bool false),
            fun v w => v = (.bool false) ∧ RP01 w g gb h C l',
            fun v w => v = (.bool false) ∧ RP01 w g gb h C l',
            fun v _ => v = (.pointer (some ⟨g, 0, none⟩)),
            fun v _ => v = (.int .i64 ((C - l'.length : Nat) : Int)),
            fun v _ => v = (.pointer (some ⟨h, 0, none⟩)),
            fun v w => v = .int .i64 ((C - l'.length : Nat) : Int),
            fun v _ => v = (.bool false),
            fun v w => v = (.bool false) ∧ RP01 w g gb h C l',
            fun v w => v = (.bool false) ∧ RP01 w g gb h C l',
            fun v _ => v = (.pointer (some ⟨g, 0, none⟩)),
            fun v _ => v = (.int .i64 C),
            fun v _ => v = (.int .i64 C),
            fun v _ => v = (.bool false),
            fun v _ => v = (.bool false)] (fun k v => match k with | 0 => v = wr.drew | _ => ST01 w0 wr v g gb h C l' (g :: gb :: S)) (fun k w w' => match k with | 0 => RP01 w' g gb h C l' | _ => Kp [] w w') [6, 22] (by kernel_rfl) (by kernel_rfl) (by kernel_rfl) (by decide) (by kernel_rfl) ⟨StabsAt.const _, StabsAt.const _, StabsAt.const _, StabsAt.const _, StabsAt.const _, StabsAt.const _, (by intro k v w w' hk hne hR hv; rcases k with _ | _ | k; (exact ⟨hv.1, hR⟩); (exact ⟨hv.1, hv.2.keep hR⟩); (exact absurd hk (by simp))), (by intro k v w w' hk hne hR hv; rcases k with _ | _ | k; (exact ⟨hv.1, hR⟩); (exact ⟨hv.1, hv.2.keep hR⟩); (exact absurd hk (by simp))), (by intro k v w w' hk hne hR hv; rcases k with _ | _ | k; (exact ⟨hv.1, hR⟩); (exact ⟨hv.1, hv.2.keep hR⟩); (exact absurd hk (by simp))), StabsAt.const _, StabsAt.const _, StabsAt.const _, StabsAt.const _, StabsAt.const _, (by intro k v w w' hk hne hR hv; exact hv), StabsAt.const _, StabsAt.const _, (by intro k v w w' hk hne hR hv; rcases k with _ | _ | k; (exact ⟨hv.1, hR⟩); (exact ⟨hv.1, hv.2.keep hR⟩); (exact absurd hk (by simp))), (by intro k v w w' hk hne hR hv; rcases k with _ | _ | k; (exact ⟨hv.1, hR⟩); (exact ⟨hv.1, hv.2.keep hR⟩); (exact absurd hk (by simp))), StabsAt.const _, StabsAt.const _, StabsAt.const _, StabsAt.const _, StabsAt.const _, (by intro k v w w' hk hne hR hv; rcases k with _ | _ | k; (exact ⟨hv.1, hR⟩); (exact ⟨hv.1, hv.2.keep hR⟩); (exact absurd hk (by simp))), (by intro k v w w' hk hne hR hv; rcases k with _ | _ | k; (exact ⟨hv.1, hR⟩); (exact ⟨hv.1, hv.2.keep hR⟩); (exact absurd hk (by simp))), StabsAt.const _, StabsAt.const _, StabsAt.const _, StabsAt.const _, StabsAt.const _, trivial⟩ (rfl) ⟨?_, ?_, ?_, ?_, ?_, ?_, ?_, ?_, ?_, ?_, ?_, ?_, ?_, ?_, ?_, ?_, ?_, ?_, ?_, ?_, ?_, ?_, ?_, ?_, ?_, ?_, ?_, ?_, ?_, ?_, ?_, trivial⟩ (by kernel_rfl) ?_
        · intro a w E hC K hK
          have h5 : a.tmps[5]? = some (.pointer (some ⟨g, 0, none⟩)) := (E.out 5 (by kernel_rfl)).trans rfl
          refine want_none rfl ?_
          go_simp
          exact hK _ rfl
        · intro a w E hC K hK
          have h7 : a.tmps[7]? = some (.pointer (some ⟨h, 0, none⟩)) := (E.out 7 (by kernel_rfl)).trans rfl
          refine want_none rfl ?_
          go_simp
          exact hK _ rfl
        · intro a w E hC K hK
          have h1 : a.tmps[1]? = some (.slice (some ⟨b, off, none⟩) m c) := (E.out 1 (by kernel_rfl)).trans rfl
          refine want_none rfl ?_
          go_simp
          exact hK _ rfl
        · intro a w E hC K hK
          have h9 : a.tmps[9]? = some (.int .i64 k) := (E.out 9 (by kernel_rfl)).trans rfl
          refine want_none rfl ?_
          go_simp
          exact hK _ rfl
        · intro a w E hC K hK
          obtain ⟨_, h42, rfl⟩ := E.pred 2 _ 42 rfl rfl (by kernel_rfl)
          obtain ⟨_, h43, rfl⟩ := E.pred 3 _ 43 rfl rfl (by kernel_rfl)
          refine want_none rfl ?_
          go_simp
          exact hK _ rfl
        · intro a w E hC K hK
          obtain ⟨_, h44, rfl⟩ := E.pred 4 _ 44 rfl rfl (by kernel_rfl)
          refine want_none rfl ?_
          have hkq := CQ _ hC
          have q0 := hkq.cell HC0 hbn
          have q1 := hkq.cell HC1 hbn
          have q2 := hkq.cell HC2 hbn
          go_simp
          exact hK _ rfl
        · intro a w E hC K hK
          obtain ⟨_, h40, rfl⟩ := E.pred 0 _ 40 rfl rfl (by kernel_rfl)
          obtain ⟨_, h41, rfl⟩ := E.pred 1 _ 41 rfl rfl (by kernel_rfl)
          obtain ⟨_, h45, rfl⟩ := E.pred 5 _ 45 rfl rfl (by kernel_rfl)
          refine want_none rfl ?_
          obtain rfl : w = wr.drew := hC
          go_simp
          refine (play_any W N Ai ni ci xs (HR.out.keep (Kp.refl [] wr).drew (by simp) (by simp)) (HF.out.keep (Kp.refl [] wr).drew (by simp)) HS.out HX.out.drew (by omega) (fun hp b hb => by have := hxl hp b hb; omega)).mono ?_
          rintro e w2 ⟨rfl, p', S', R2, F2, hS', K2⟩
          rw [HL.out] at R2 F2
          go_simp
          have hst := hst2 w2 p' S' R2 F2 hS' K2
          exact hK _ _ ⟨rfl, hst.rp⟩ hst ⟨by decide, hst.rp⟩
        · intro a w E hC K hK
          obtain ⟨v6, h46, V6⟩ := E.pred 6 _ 46 rfl rfl (by kernel_rfl)
          replace V6 : (fun v w => v = (.bool true) ∧ RP01 w g gb h C l') v6 w := V6
          obtain ⟨rfl, hrp⟩ := V6
          refine want_none rfl ?_
          go_simp
          exact hK _ ⟨rfl, hrp⟩
        · intro a w E hC K hK
          obtain ⟨v7, h47, V7⟩ := E.pred 7 _ 47 rfl rfl (by kernel_rfl)
          replace V7 : (fun v w => v = (.bool false) ∧ RP01 w g gb h C l') v7 w := V7
          obtain ⟨rfl, hrp⟩ := V7
          refine want_none rfl ?_
          go_simp
          exact hK _ ⟨rfl, hrp⟩
        · intro a w E hC K hK
          have h5 : a.tmps[5]? = some (.pointer (some ⟨g, 0, none⟩)) := (E.out 5 (by kernel_rfl)).trans rfl
          obtain ⟨v8, h48, V8⟩ := E.pred 8 _ 48 rfl rfl (by kernel_rfl)
          replace V8 : (fun v w => v = (.bool false) ∧ RP01 w g gb h C l') v8 w := V8
          obtain ⟨rfl, hrp⟩ := V8
          refine want_yes rfl rfl rfl h48 ?_
          go_simp
          exact hK _ rfl
        · intro a w E hC K hK
          obtain ⟨_, h49, rfl⟩ := E.pred 9 _ 49 rfl rfl (by kernel_rfl)
          obtain ⟨v8, h48, V8⟩ := E.pred 8 _ 48 rfl rfl (by kernel_rfl)
          replace V8 : (fun v w => v = (.bool false) ∧ RP01 w g gb h C l') v8 w := V8
          obtain ⟨rfl, hrp⟩ := V8
          refine want_yes rfl rfl rfl h48 ?_
          obtain ⟨⟨p', hr1⟩, S', hr2⟩ := hrp
          go_simp
          refine (RgLen hr1).mono ?_
          rintro e w2 ⟨rfl, rfl⟩
          go_simp
          exact hK _ rfl
        · intro a w E hC K hK
          have h7 : a.tmps[7]? = some (.pointer (some ⟨h, 0, none⟩)) := (E.out 7 (by kernel_rfl)).trans rfl
          obtain ⟨v8, h48, V8⟩ := E.pred 8 _ 48 rfl rfl (by kernel_rfl)
          replace V8 : (fun v w => v = (.bool false) ∧ RP01 w g gb h C l') v8 w := V8
          obtain ⟨rfl, hrp⟩ := V8
          refine want_yes rfl rfl rfl h48 ?_
          go_simp
          exact hK _ rfl
        · intro a w E hC K hK
          obtain ⟨_, h51, rfl⟩ := E.pred 11 _ 51 rfl rfl (by kernel_rfl)
          obtain ⟨v8, h48, V8⟩ := E.pred 8 _ 48 rfl rfl (by kernel_rfl)
          replace V8 : (fun v w => v = (.bool false) ∧ RP01 w g gb h C l') v8 w := V8
          obtain ⟨rfl, hrp⟩ := V8
          refine want_yes rfl rfl rfl h48 ?_
          go_simp
          exact hK _ rfl
        · intro a w E hC K hK
          obtain ⟨_, h52, rfl⟩ := E.pred 12 _ 52 rfl rfl (by kernel_rfl)
          obtain ⟨v8, h48, V8⟩ := E.pred 8 _ 48 rfl rfl (by kernel_rfl)
          replace V8 : (fun v w => v = (.bool false) ∧ RP01 w g gb h C l') v8 w := V8
          obtain ⟨rfl, hrp⟩ := V8
          refine want_yes rfl rfl rfl h48 ?_
          go_simp
          exact hK _ rfl
        · intro a w E hC K hK
          obtain ⟨_, h53, rfl⟩ := E.pred 13 _ 53 rfl rfl (by kernel_rfl)
          obtain ⟨v8, h48, V8⟩ := E.pred 8 _ 48 rfl rfl (by kernel_rfl)
          replace V8 : (fun v w => v = (.bool false) ∧ RP01 w g gb h C l') v8 w := V8
          obtain ⟨rfl, hrp⟩ := V8
          refine want_yes rfl rfl rfl h48 ?_
          obtain ⟨_, S', hr2⟩ := hrp
          obtain ⟨A', c', _, _, hh, _⟩ := hr2.rep
          have q0 := cell_of hh 0
          go_simp
          exact hK _ ⟨A', c', rfl⟩
        · intro a w E hC K hK
          obtain ⟨v14, h54, V14⟩ := E.pred 14 _ 54 rfl rfl (by kernel_rfl)
          replace V14 : (fun v w => ∃ A c, v = .slice A l'.length c) v14 w := V14
          obtain ⟨A', c', rfl⟩ := V14
          obtain ⟨v8, h48, V8⟩ := E.pred 8 _ 48 rfl rfl (by kernel_rfl)
          replace V8 : (fun v w => v = (.bool false) ∧ RP01 w g gb h C l') v8 w := V8
          obtain ⟨rfl, hrp⟩ := V8
          refine want_yes rfl rfl rfl h48 ?_
          go_simp
          exact hK _ rfl
        · intro a w E hC K hK
          obtain ⟨_, h50, rfl⟩ := E.pred 10 _ 50 rfl rfl (by kernel_rfl)
          obtain ⟨_, h55, rfl⟩ := E.pred 15 _ 55 rfl rfl (by kernel_rfl)
          obtain ⟨v8, h48, V8⟩ := E.pred 8 _ 48 rfl rfl (by kernel_rfl)
          replace V8 : (fun v w => v = (.bool false) ∧ RP01 w g gb h C l') v8 w := V8
          obtain ⟨rfl, hrp⟩ := V8
          refine want_yes rfl rfl rfl h48 ?_
          go_simp
          exact hK _ rfl
        · intro a w E hC K hK
          obtain ⟨v8, h48, V8⟩ := E.pred 8 _ 48 rfl rfl (by kernel_rfl)
          replace V8 : (fun v w => v = (.bool false) ∧ RP01 w g gb h C l') v8 w := V8
          obtain ⟨rfl, hrp⟩ := V8
          obtain ⟨_, h56, rfl⟩ := E.pred 16 _ 56 rfl rfl (by kernel_rfl)
          refine want_none rfl ?_
          go_simp
          exact hK _ ⟨rfl, hrp⟩
        · intro a w E hC K hK
          obtain ⟨v17, h57, V17⟩ := E.pred 17 _ 57 rfl rfl (by kernel_rfl)
          replace V17 : (fun v w => v = (.bool false) ∧ RP01 w g gb h C l') v17 w := V17
          obtain ⟨rfl, hrp⟩ := V17
          refine want_none rfl ?_
          go_simp
          exact hK _ ⟨rfl, hrp⟩
        · intro a w E hC K hK
          have h5 : a.tmps[5]? = some (.pointer (some ⟨g, 0, none⟩)) := (E.out 5 (by kernel_rfl)).trans rfl
          obtain ⟨v18, h58, V18⟩ := E.pred 18 _ 58 rfl rfl (by kernel_rfl)
          replace V18 : (fun v w => v = (.bool false) ∧ RP01 w g gb h C l') v18 w := V18
          obtain ⟨rfl, hrp⟩ := V18
          refine want_yes rfl rfl rfl h58 ?_
          go_simp
          exact hK _ rfl
        · intro a w E hC K hK
          obtain ⟨_, h59, rfl⟩ := E.pred 19 _ 59 rfl rfl (by kernel_rfl)
          obtain ⟨v18, h58, V18⟩ := E.pred 18 _ 58 rfl rfl (by kernel_rfl)
          replace V18 : (fun v w => v = (.bool false) ∧ RP01 w g gb h C l') v18 w := V18
          obtain ⟨rfl, hrp⟩ := V18
          refine want_yes rfl rfl rfl h58 ?_
          obtain ⟨⟨p', hr1⟩, S', hr2⟩ := hrp
          go_simp
          refine (RgRoom hr1).mono ?_
          rintro e w2 ⟨rfl, rfl⟩
          go_simp
          exact hK _ rfl
        · intro a w E hC K hK
          have h7 : a.tmps[7]? = some (.pointer (some ⟨h, 0, none⟩)) := (E.out 7 (by kernel_rfl)).trans rfl
          obtain ⟨v18, h58, V18⟩ := E.pred 18 _ 58 rfl rfl (by kernel_rfl)
          replace V18 : (fun v w => v = (.bool false) ∧ RP01 w g gb h C l') v18 w := V18
          obtain ⟨rfl, hrp⟩ := V18
          refine want_yes rfl rfl rfl h58 ?_
          go_simp
          exact hK _ rfl
        · intro a w E hC K hK
          obtain ⟨_, h61, rfl⟩ := E.pred 21 _ 61 rfl rfl (by kernel_rfl)
          obtain ⟨v18, h58, V18⟩ := E.pred 18 _ 58 rfl rfl (by kernel_rfl)
          replace V18 : (fun v w => v = (.bool false) ∧ RP01 w g gb h C l') v18 w := V18
          obtain ⟨rfl, hrp⟩ := V18
          refine want_yes rfl rfl rfl h58 ?_
          obtain ⟨⟨p', hr1⟩, S', hr2⟩ := hrp
          go_simp
          refine (RfRoom hr2).mono ?_
          rintro e w2 ⟨rfl, K2⟩
          go_simp
          exact hK _ _ rfl (ST01.keep hC K2) ⟨by decide, K2⟩
        · intro a w E hC K hK
          obtain ⟨_, h60, rfl⟩ := E.pred 20 _ 60 rfl rfl (by kernel_rfl)
          obtain ⟨v22, h62, V22⟩ := E.pred 22 _ 62 rfl rfl (by kernel_rfl)
          replace V22 : (fun v w => v = .int .i64 ((C - l'.length : Nat) : Int)) v22 w := V22
          obtain rfl := V22
          obtain ⟨v18, h58, V18⟩ := E.pred 18 _ 58 rfl rfl (by kernel_rfl)
          replace V18 : (fun v w => v = (.bool false) ∧ RP01 w g gb h C l') v18 w := V18
          obtain ⟨rfl, hrp⟩ := V18
          refine want_yes rfl rfl rfl h58 ?_
          go_simp
          exact hK _ rfl
        · intro a w E hC K hK
          obtain ⟨v18, h58, V18⟩ := E.pred 18 _ 58 rfl rfl (by kernel_rfl)
          replace V18 : (fun v w => v = (.bool false) ∧ RP01 w g gb h C l') v18 w := V18
          obtain ⟨rfl, hrp⟩ := V18
          obtain ⟨_, h63, rfl⟩ := E.pred 23 _ 63 rfl rfl (by kernel_rfl)
          refine want_none rfl ?_
          go_simp
          exact hK _ ⟨rfl, hrp⟩
        · intro a w E hC K hK
          obtain ⟨v24, h64, V24⟩ := E.pred 24 _ 64 rfl rfl (by kernel_rfl)
          replace V24 : (fun v w => v = (.bool false) ∧ RP01 w g gb h C l') v24 w := V24
          obtain ⟨rfl, hrp⟩ := V24
          refine want_none rfl ?_
          go_simp
          exact hK _ ⟨rfl, hrp⟩
        · intro a w E hC K hK
          have h5 : a.tmps[5]? = some (.pointer (some ⟨g, 0, none⟩)) := (E.out 5 (by kernel_rfl)).trans rfl
          obtain ⟨v25, h65, V25⟩ := E.pred 25 _ 65 rfl rfl (by kernel_rfl)
          replace V25 : (fun v w => v = (.bool false) ∧ RP01 w g gb h C l') v25 w := V25
          obtain ⟨rfl, hrp⟩ := V25
          refine want_yes rfl rfl rfl h65 ?_
          go_simp
          exact hK _ rfl
        · intro a w E hC K hK
          obtain ⟨_, h66, rfl⟩ := E.pred 26 _ 66 rfl rfl (by kernel_rfl)
          obtain ⟨v25, h65, V25⟩ := E.pred 25 _ 65 rfl rfl (by kernel_rfl)
          replace V25 : (fun v w => v = (.bool false) ∧ RP01 w g gb h C l') v25 w := V25
          obtain ⟨rfl, hrp⟩ := V25
          refine want_yes rfl rfl rfl h65 ?_
          obtain ⟨⟨p', hr1⟩, S', hr2⟩ := hrp
          go_simp
          refine (RgCap hr1).mono ?_
          rintro e w2 ⟨rfl, rfl⟩
          go_simp
          exact hK _ rfl
        · intro a w E hC K hK
          have h0 : a.tmps[0]? = some (.int .i64 C) := (E.out 0 (by kernel_rfl)).trans rfl
          obtain ⟨v25, h65, V25⟩ := E.pred 25 _ 65 rfl rfl (by kernel_rfl)
          replace V25 : (fun v w => v = (.bool false) ∧ RP01 w g gb h C l') v25 w := V25
          obtain ⟨rfl, hrp⟩ := V25
          refine want_yes rfl rfl rfl h65 ?_
          go_simp
          exact hK _ rfl
        · intro a w E hC K hK
          obtain ⟨_, h67, rfl⟩ := E.pred 27 _ 67 rfl rfl (by kernel_rfl)
          obtain ⟨_, h68, rfl⟩ := E.pred 28 _ 68 rfl rfl (by kernel_rfl)
          obtain ⟨v25, h65, V25⟩ := E.pred 25 _ 65 rfl rfl (by kernel_rfl)
          replace V25 : (fun v w => v = (.bool false) ∧ RP01 w g gb h C l') v25 w := V25
          obtain ⟨rfl, hrp⟩ := V25
          refine want_yes rfl rfl rfl h65 ?_
          go_simp
          exact hK _ rfl
        · intro a w E hC K hK
          obtain ⟨v25, h65, V25⟩ := E.pred 25 _ 65 rfl rfl (by kernel_rfl)
          replace V25 : (fun v w => v = (.bool false) ∧ RP01 w g gb h C l') v25 w := V25
          obtain ⟨rfl, hrp⟩ := V25
          obtain ⟨_, h69, rfl⟩ := E.pred 29 _ 69 rfl rfl (by kernel_rfl)
          refine want_none rfl ?_
          go_simp
          exact hK _ rfl
        intro vs w3 hC3 hV
        have h30 := hV 30 _ rfl (by simp)
        replace h30 : vs 30 = .bool false := h30
        replace hC3 : ST01 w0 wr w3 g gb h C l' (g :: gb :: S) := hC3
        obtain ⟨⟨p', R3⟩, ⟨S', hS1, hS2, F3⟩, K3⟩ := hC3
        have q3 : Kp [] w0 w3 := HK.out.then K3 (by
          intro t ht
          simp only [List.mem_cons] at ht
          rcases ht with rfl | rfl | ht
          · exact .inr hlt.1
          · exact .inr hlt.2
          · exact .inr (HS0.out t ht))
        have HR3 := Lib.hid R3
        have HF3 := Lib.hid F3
        clear hV R3 F3 K3 CQ hst2
        simp only [putAll, Act.put, List.setIfInBounds_toArray]
        dsimp only [List.set]
        simp only [Nat.reduceAdd]
        rw [h30]
        clear h30
        go_wp2
        go_roundw
        case rel => exact ⟨k + 1, p', l', S', by omega, by go_num, HR3.out, HF3.out, hS1, hS2, q3⟩
        case measure => simp [intOf]; omega
      · go_wp2_with fail
        refine (awake01 _).mono ?_
        rintro e w3 ⟨rfl, K3⟩
        go_wp2
        go_ret
        exact ⟨rfl, HK.out.trans K3⟩
end Go.Proofs.Ytkmcakneceagpaa
