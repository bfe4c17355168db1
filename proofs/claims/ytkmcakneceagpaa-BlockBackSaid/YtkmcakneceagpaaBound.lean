/- 'BlockBound', walked. -/
import Derived.Test.YtkmcakneceagpaaSplits
import Derived.Test.YtkmcakneceagpaaJAll
import Derived.Test.YtkmcakneceagpaaOpnFrs
set_option linter.unusedVariables false
set_option linter.unusedSimpArgs false
set_option linter.unusedSimpArgs false
namespace Go.Proofs.Ytkmcakneceagpaa
open Go.RowKit

theorem jstep_fault {most : Nat} {st : Int} {en : Bool} {l : List UInt8} {ty fl fst : Int} {lf : List UInt8} {c : Int} (h : jstep most st en l ty fl fst lf = .fault c) : c = 1 ∨ c = 11 ∧ most < l.length + lf.length := by
  unfold jstep at h
  repeat' split at h
  all_goals simp_all

theorem JS.held {w : World} {g most base : Nat} {st : Int} {en : Bool} {l : List UInt8} (h : JS w g most base st en l) : Calls Try.prog 62 #[.pointer (some ⟨g, 0, none⟩)] w fun e w' => e = .returned (.int .i64 l.length) ∧ w = w' := by
  obtain ⟨A, n, c, hj, ho, hg⟩ := h.ex
  have hl : l.length = n := by have := ho.len; simpa using this
  rw [hl]
  exact JHeld hj
theorem JS.strm {w : World} {g most base : Nat} {st : Int} {en : Bool} {l : List UInt8} (h : JS w g most base st en l) : Calls Try.prog 61 #[.pointer (some ⟨g, 0, none⟩)] w fun e w' => e = .returned (.int .i64 st) ∧ w = w' := by
  obtain ⟨A, n, c, hj, ho, hg⟩ := h.ex
  exact JStream hj

set_option maxRecDepth 100000 in
set_option maxHeartbeats 2000000 in
theorem BlockBound_walk (most : Nat) (hm : most < 65536) (A : Option Addr) (n c : Nat) (w0 : World) (hf : Frs w0 A n) (hnc : n ≤ c) (hn : n * 128 ≤ 140737488351232) :
    Calls Try.prog 15 #[.int .u16 most, .slice A n c] w0 (Yes w0) := by
  have HF := Lib.hid hf
  clear hf
  go_enter Try.func15, Try.ntmps15
  go_wp2_with fail
  refine (JNew most (by omega) w0).mono ?_
  rintro e w1 ⟨g, rfl, hj, hg, K1⟩
  subst hg
  have hlt := lt_of_heap hj
  have HJ : Hid (JS w1 w0.heap.size most w0.heap.size 0 false []) := ⟨⟨none, 0, 0, hj, Ow.nil _ _ _ _, by simp [ob]⟩, by simp, K1.size⟩
  have HK1 := Lib.hid K1
  clear hj K1
  go_wp2
  go_loopw [7] (fun i wr => ∃ (k : Nat) (st : Int) (en : Bool) (l : List UInt8), k ≤ n ∧ i = .int .i64 k ∧ JS wr w0.heap.size most w0.heap.size st en l ∧ Kp [] w0 wr) (fun i _ => n - (intOf i).toNat)
  case atStart => exact ⟨0, 0, false, [], Nat.zero_le _, rfl, HJ.out, HK1.out⟩
  case round =>
    obtain ⟨k, st, en, l, hk, rfl, hJ, hK⟩ := hrel
    by_cases hkl : k < n
    · have hki : (k : Int) < (n : Int) := by omega
      obtain ⟨b, off, f, lf, ss, rfl, hb, ok, hc⟩ := HF.out k hkl
      have HJ := Lib.hid hJ
      have HK := Lib.hid hK
      have hl := hJ.len
      go_wp2_with fail
      refine hJ.held.mono ?_
      rintro e w2 ⟨rfl, rfl⟩
      have P3 := hc 3 _ rfl
      have q0 := hK.cell (hc 0 _ rfl) (by simp)
      have q1 := hK.cell (hc 1 _ rfl) (by simp)
      have q2 := hK.cell (hc 2 _ rfl) (by simp)
      have q3 := hK.cell (hc 3 _ rfl) (by simp)
      have q4 := hK.cell (hc 4 _ rfl) (by simp)
      have q5 := hK.cell (hc 5 _ rfl) (by simp)
      have q6 := hK.cell (hc 6 _ rfl) (by simp)
      have q7 := hK.cell (hc 7 _ rfl) (by simp)
      have q8 := hK.cell (hc 8 _ rfl) (by simp)
      have q9 := hK.cell (hc 9 _ rfl) (by simp)
      have q10 := hK.cell (hc 10 _ rfl) (by simp)
      have q11 := hK.cell (hc 11 _ rfl) (by simp)
      rw [Nat.add_zero] at q0
      have HP := Lib.hid (ok.rd.keep hK (by simp))
      have hpn := ok.pn
      have hlf := HP.out.len
      have hpl := ok.plt
      clear hJ hc
      go_wp2_with fail
      refine (InP wr w0.heap.size most w0.heap.size (by omega) st en l f lf HJ.out HP.out (fun hp x hx => by have := hpl hp x hx; omega) hpn).mono ?_
      rintro e w3 hpost
      clear q0 q1 q2 q3 q4 q5 q6 q7 q8 q9 q10 q11
      generalize hr : jstep most st en l f.ty f.fl f.st lf = r at hpost
      cases r with
      | pass =>
        obtain ⟨rfl, J3, K3⟩ := hpost
        replace K3 : Kp [] w0 w3 := HK.out.trans K3
        have HJ3 := Lib.hid J3
        have HK3 := Lib.hid K3
        have hl3 := J3.len
        clear J3 K3
        go_wp2_with fail
        generalize hW : World.alloc _ _ = w4
        have K4 : Kp [] w3 w4 := by rw [← hW]; (repeat (first | with_reducible exact Kp.refl _ _ | with_reducible assumption | with_reducible refine Kp.alloc ?_ _ | with_reducible refine Kp.drew ?_ | with_reducible refine Kp.drewN ?_ _ | (with_reducible refine Kp.setL ?_ ?_ _; focus (simp; done)) | (with_reducible refine Kp.setR ?_ ?_ _; focus (simp; done)) | (with_reducible refine Kp.setR ?_ ?_ _; focus (simp; omega))))
        have B : w4.heap[w3.heap.size + 1]? = some (.cells #[.bool false, .int .i64 0, .int .i64 0] 64) := by rw [← hW]; (repeat (first | with_reducible assumption | (with_reducible refine hp_new _ _ _ ?_; focus (simp; done)) | (with_reducible refine (hp_old _ _ _ ?_).trans ?_; focus (first | omega | (simp; done) | (simp; omega))) | (with_reducible refine (hp_far _ _ _ _ ?_).trans ?_; focus (first | (simp; done) | (simp; omega))) | (with_reducible refine (hp_drew _ _).trans ?_) | (with_reducible refine (hp_drewN _ _ _).trans ?_)))
        clear hW
        have B0 := cell_of B 0
        have B1 := cell_of B 1
        have B2 := cell_of B 2
        have K5 : Kp [] w0 w4 := HK3.out.trans K4
        have p3 := K5.cell P3 (by simp)
        have HJ4 := Lib.hid (HJ3.out.keep K4 (by simp))
        have HK5 := Lib.hid K5
        clear HJ3 HK3 K4 K5 B
        refine HJ4.out.held.mono ?_
        rintro e w5 ⟨rfl, rfl⟩
        go_wp2
        go_roundw
        case rel => exact ⟨k + 1, st, en, l, by omega, by go_num, HJ4.out, HK5.out⟩
        case measure => simp [intOf]; omega
      | more st3 en3 l3 =>
        obtain ⟨rfl, J3, K3⟩ := hpost
        replace K3 : Kp [] w0 w3 := K3.kp HK.out (Nat.le_refl _) (by simp)
        have HJ3 := Lib.hid J3
        have HK3 := Lib.hid K3
        have hl3 := J3.len
        clear J3 K3
        go_wp2_with fail
        generalize hW : World.alloc _ _ = w4
        have K4 : Kp [] w3 w4 := by rw [← hW]; (repeat (first | with_reducible exact Kp.refl _ _ | with_reducible assumption | with_reducible refine Kp.alloc ?_ _ | with_reducible refine Kp.drew ?_ | with_reducible refine Kp.drewN ?_ _ | (with_reducible refine Kp.setL ?_ ?_ _; focus (simp; done)) | (with_reducible refine Kp.setR ?_ ?_ _; focus (simp; done)) | (with_reducible refine Kp.setR ?_ ?_ _; focus (simp; omega))))
        have B : w4.heap[w3.heap.size + 1]? = some (.cells #[.bool false, .int .i64 0, .int .i64 0] 64) := by rw [← hW]; (repeat (first | with_reducible assumption | (with_reducible refine hp_new _ _ _ ?_; focus (simp; done)) | (with_reducible refine (hp_old _ _ _ ?_).trans ?_; focus (first | omega | (simp; done) | (simp; omega))) | (with_reducible refine (hp_far _ _ _ _ ?_).trans ?_; focus (first | (simp; done) | (simp; omega))) | (with_reducible refine (hp_drew _ _).trans ?_) | (with_reducible refine (hp_drewN _ _ _).trans ?_)))
        clear hW
        have B0 := cell_of B 0
        have B1 := cell_of B 1
        have B2 := cell_of B 2
        have K5 : Kp [] w0 w4 := HK3.out.trans K4
        have p3 := K5.cell P3 (by simp)
        have HJ4 := Lib.hid (HJ3.out.keep K4 (by simp))
        have HK5 := Lib.hid K5
        clear HJ3 HK3 K4 K5 B
        refine HJ4.out.held.mono ?_
        rintro e w5 ⟨rfl, rfl⟩
        go_wp2
        go_roundw
        case rel => exact ⟨k + 1, st3, en3, l3, by omega, by go_num, HJ4.out, HK5.out⟩
        case measure => simp [intOf]; omega
      | whole fl3 st3 l3 =>
        obtain ⟨A2, n2, c2, rfl, J3, _, _, _, K3⟩ := hpost
        replace K3 : Kp [] w0 w3 := K3.kp HK.out (Nat.le_refl _) (by simp)
        have HJ3 := Lib.hid J3
        have HK3 := Lib.hid K3
        have hl3 := J3.len
        clear J3 K3
        go_wp2_with fail
        generalize hW : World.alloc _ _ = w4
        have K4 : Kp [] w3 w4 := by rw [← hW]; (repeat (first | with_reducible exact Kp.refl _ _ | with_reducible assumption | with_reducible refine Kp.alloc ?_ _ | with_reducible refine Kp.drew ?_ | with_reducible refine Kp.drewN ?_ _ | (with_reducible refine Kp.setL ?_ ?_ _; focus (simp; done)) | (with_reducible refine Kp.setR ?_ ?_ _; focus (simp; done)) | (with_reducible refine Kp.setR ?_ ?_ _; focus (simp; omega))))
        have B : w4.heap[w3.heap.size + 1]? = some (.cells #[.bool false, .int .i64 0, .int .i64 0] 64) := by rw [← hW]; (repeat (first | with_reducible assumption | (with_reducible refine hp_new _ _ _ ?_; focus (simp; done)) | (with_reducible refine (hp_old _ _ _ ?_).trans ?_; focus (first | omega | (simp; done) | (simp; omega))) | (with_reducible refine (hp_far _ _ _ _ ?_).trans ?_; focus (first | (simp; done) | (simp; omega))) | (with_reducible refine (hp_drew _ _).trans ?_) | (with_reducible refine (hp_drewN _ _ _).trans ?_)))
        clear hW
        have B0 := cell_of B 0
        have B1 := cell_of B 1
        have B2 := cell_of B 2
        have K5 : Kp [] w0 w4 := HK3.out.trans K4
        have p3 := K5.cell P3 (by simp)
        have HJ4 := Lib.hid (HJ3.out.keep K4 (by simp))
        have HK5 := Lib.hid K5
        clear HJ3 HK3 K4 K5 B
        refine HJ4.out.held.mono ?_
        rintro e w5 ⟨rfl, rfl⟩
        go_wp2
        go_roundw
        case rel => exact ⟨k + 1, 0, false, [], by omega, by go_num, HJ4.out, HK5.out⟩
        case measure => simp [intOf]; omega
      | fault c3 =>
        obtain ⟨rfl, J3, K3⟩ := hpost
        replace K3 : Kp [] w0 w3 := K3.kp HK.out (Nat.le_refl _) (by simp)
        rcases jstep_fault hr with rfl | ⟨rfl, hbig⟩
        · have HJ3 := Lib.hid J3
          have HK3 := Lib.hid K3
          have hl3 := J3.len
          clear J3 K3
          go_wp2_with fail
          generalize hW : World.alloc _ _ = w4
          have K4 : Kp [] w3 w4 := by rw [← hW]; (repeat (first | with_reducible exact Kp.refl _ _ | with_reducible assumption | with_reducible refine Kp.alloc ?_ _ | with_reducible refine Kp.drew ?_ | with_reducible refine Kp.drewN ?_ _ | (with_reducible refine Kp.setL ?_ ?_ _; focus (simp; done)) | (with_reducible refine Kp.setR ?_ ?_ _; focus (simp; done)) | (with_reducible refine Kp.setR ?_ ?_ _; focus (simp; omega))))
          have B : w4.heap[w3.heap.size + 1]? = some (.cells #[.bool true, .int .i64 0, .int .i64 1] 64) := by rw [← hW]; (repeat (first | with_reducible assumption | (with_reducible refine hp_new _ _ _ ?_; focus (simp; done)) | (with_reducible refine (hp_old _ _ _ ?_).trans ?_; focus (first | omega | (simp; done) | (simp; omega))) | (with_reducible refine (hp_far _ _ _ _ ?_).trans ?_; focus (first | (simp; done) | (simp; omega))) | (with_reducible refine (hp_drew _ _).trans ?_) | (with_reducible refine (hp_drewN _ _ _).trans ?_)))
          clear hW
          have B0 := cell_of B 0
          have B1 := cell_of B 1
          have B2 := cell_of B 2
          have K5 : Kp [] w0 w4 := HK3.out.trans K4
          have p3 := K5.cell P3 (by simp)
          have HJ4 := Lib.hid (HJ3.out.keep K4 (by simp))
          have HK5 := Lib.hid K5
          clear HJ3 HK3 K4 K5 B
          refine HJ4.out.held.mono ?_
          rintro e w5 ⟨rfl, rfl⟩
          go_wp2_with fail
          refine HJ4.out.held.mono ?_
          rintro e w6 ⟨rfl, rfl⟩
          go_wp2
          go_roundw
          case rel => exact ⟨k + 1, 0, false, [], by omega, by go_num, HJ4.out, HK5.out⟩
          case measure => simp [intOf]; omega
        · have HJ3 := Lib.hid J3
          have HK3 := Lib.hid K3
          have hl3 := J3.len
          clear J3 K3
          go_wp2_with fail
          generalize hW : World.alloc _ _ = w4
          have K4 : Kp [] w3 w4 := by rw [← hW]; (repeat (first | with_reducible exact Kp.refl _ _ | with_reducible assumption | with_reducible refine Kp.alloc ?_ _ | with_reducible refine Kp.drew ?_ | with_reducible refine Kp.drewN ?_ _ | (with_reducible refine Kp.setL ?_ ?_ _; focus (simp; done)) | (with_reducible refine Kp.setR ?_ ?_ _; focus (simp; done)) | (with_reducible refine Kp.setR ?_ ?_ _; focus (simp; omega))))
          have B : w4.heap[w3.heap.size + 1]? = some (.cells #[.bool true, .int .i64 0, .int .i64 11] 64) := by rw [← hW]; (repeat (first | with_reducible assumption | (with_reducible refine hp_new _ _ _ ?_; focus (simp; done)) | (with_reducible refine (hp_old _ _ _ ?_).trans ?_; focus (first | omega | (simp; done) | (simp; omega))) | (with_reducible refine (hp_far _ _ _ _ ?_).trans ?_; focus (first | (simp; done) | (simp; omega))) | (with_reducible refine (hp_drew _ _).trans ?_) | (with_reducible refine (hp_drewN _ _ _).trans ?_)))
          clear hW
          have B0 := cell_of B 0
          have B1 := cell_of B 1
          have B2 := cell_of B 2
          have K5 : Kp [] w0 w4 := HK3.out.trans K4
          have p3 := K5.cell P3 (by simp)
          have HJ4 := Lib.hid (HJ3.out.keep K4 (by simp))
          have HK5 := Lib.hid K5
          clear HJ3 HK3 K4 K5 B
          refine HJ4.out.held.mono ?_
          rintro e w5 ⟨rfl, rfl⟩
          go_wp2_with fail
          refine HJ4.out.held.mono ?_
          rintro e w6 ⟨rfl, rfl⟩
          go_wp2
          go_roundw
          case rel => exact ⟨k + 1, 0, false, [], by omega, by go_num, HJ4.out, HK5.out⟩
          case measure => simp [intOf]; omega
    · have hki : ¬ (k : Int) < (n : Int) := by omega
      go_wp2_with fail
      refine (Awake _).mono ?_
      rintro e w6 ⟨rfl, k6⟩
      go_wp2
      go_ret
      exact ⟨rfl, hK.trans k6⟩
end Go.Proofs.Ytkmcakneceagpaa
