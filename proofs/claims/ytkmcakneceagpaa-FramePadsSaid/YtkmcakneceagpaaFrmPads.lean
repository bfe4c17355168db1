/- 'FramePads', walked. -/
import Derived.Test.YtkmcakneceagpaaFrmLaw
set_option linter.unusedVariables false
set_option linter.unusedSimpArgs false
set_option linter.unusedSimpArgs false
namespace Go.Proofs.Ytkmcakneceagpaa
open Go.RowKit
set_option maxHeartbeats 4000000 in
set_option maxRecDepth 100000 in
theorem FramePads_walk (A : Option Addr) (n c : Nat) (l : List UInt8) (pad : Nat) (hp : pad < 256) (s : Nat) (hs : s < 4294967296) (w0 : World) (hr : Rd w0 A n c l) (hn : n ≤ 140737488351232) :
    Calls Try.prog 28 #[.slice A n c, .int .u8 pad, .int .u32 s] w0 (Yes w0) := by
  obtain ⟨q, hq⟩ : ∃ q : Nat, s % 2147483647 = q := ⟨_, rfl⟩
  have hq0 : q < 2147483647 := by omega
  have hq1 : ((s : Int).tmod 2147483647) = (q : Int) := by rw [← hq]; simp [Int.tmod]
  have hq2 : ((s : Int) % 2147483647) = (q : Int) := by rw [← hq]; simp
  clear hq
  have HR := Lib.hid hr
  have HL := Lib.hid hr.len
  clear hr
  by_cases hbig : 65536 < n
  · go_enter Try.func28, Try.ntmps28
    go_wp2_with fail
    refine (awake07 _).mono ?_
    rintro e w4 ⟨rfl, rfl⟩
    go_wp2
    go_ret
    exact ⟨rfl, Kp.refl _ _⟩
  have g := good_data l pad (1 + (q : Int)) (by omega) (by omega) (by omega) (by omega)
  have hbl : (bodyW (dataP l pad (1 + (q : Int)))).length = 1 + l.length + pad := by rw [body_data]; simp; omega
  have hll := HL.out
  have hw2 : (wr (dataP l pad (1 + (q : Int)))).2 = 0 := by rw [wr_ok g rfl (by rw [hbl]; omega)]
  have hwl := wr_len hw2
  have hps := ps_wr (dataP l pad (1 + (q : Int))) ⟨by simp [dataP], by simp [dataP], by simp [dataP]⟩ hw2 []
  rw [List.append_nil, cano_data, hbl] at hps
  rw [hbl] at hwl
  have hov := fun hsm => ps_over l pad (1 + (q : Int)) (by omega) (by omega) (by omega) hsm
  obtain ⟨x, hx⟩ : ∃ x, (wr (dataP l pad (1 + (q : Int)))).1 = x := ⟨_, rfl⟩
  rw [hx] at hwl hps hov
  have HX := Lib.hid hx
  have HW2 := Lib.hid hw2
  have HPS := Lib.hid hps
  have HOV := Lib.hid hov
  clear hx hw2 hps hov g hbl hll
  go_enter Try.func28, Try.ntmps28
  go_wp2_with fail
  refine (Write_any ⟨0, 8, 1 + (q : Int), A, n, c, pad, 0, 0, 0, 0, false, 0, none, 0, 0⟩ l [] _ ⟨HR.out, hn, ⟨by simp, by simp⟩, Sd.nil _, by simp⟩).mono ?_
  rintro e w1 ⟨A1, n1, c1, rfl, O, K1⟩
  have hx' : (wr ((⟨0, 8, 1 + (q : Int), A, n, c, pad, 0, 0, 0, 0, false, 0, none, 0, 0⟩ : Fr).p l [])).1 = x := HX.out
  have hw' : (wr ((⟨0, 8, 1 + (q : Int), A, n, c, pad, 0, 0, 0, 0, false, 0, none, 0, 0⟩ : Fr).p l [])).2 = 0 := HW2.out
  rw [hx'] at O
  rw [hw']
  clear hx' hw'
  have hn1 : n1 = x.length := by have := O.len; simpa using this.symm
  have hlw := HL.out
  have hn1a : n1 ≤ 10 + n + pad := by omega
  have hn1b : 10 + n + pad ≤ n1 := by omega
  have HN1 := Lib.hid hn1
  have HWL := Lib.hid hwl
  clear hn1 hwl hlw
  have HO := Lib.hid O
  have HK1 := Lib.hid K1
  clear O K1
  go_wp2_with fail
  refine (Parse_any A1 n1 c1 x 16777215 w1 HO.out.rd (by omega)).mono ?_
  rintro e w2 ⟨f, rfl, hf, K2⟩
  rw [HPS.out] at hf ⊢
  dsimp only at hf ⊢
  have HF := Lib.hid hf
  obtain ⟨c0, _, _, c4, _⟩ := hf.cs
  have c4' : f.pad = (pad : Int) := c4
  clear c0 c4 hf
  have HO2 := Lib.hid (HO.out.keep K2 (by simp))
  have HK2 := Lib.hid (HK1.out.trans K2)
  clear HO HK1 K2
  have hu : (9 : Int) + ((1 + l.length + pad : Nat) : Int) = (n1 : Int) := by have := HN1.out; have := HWL.out; omega
  rw [hu]
  clear hu
  go_wp2_with (with_reducible refine stopAt (o := ⟨some 55, _, _, _, _, _⟩) ?_)
  refine Stop.go (wpList_strG rfl rfl rfl (by rfl) 22 5 9 _ rfl Try.underlying22 Try.underlying5 Try.underlying9 rfl (HF.out.rd.keep (S := []) (by (repeat (first | with_reducible exact Kp.refl _ _ | with_reducible assumption | with_reducible refine Kp.alloc ?_ _ | with_reducible refine Kp.drew ?_ | with_reducible refine Kp.drewN ?_ _ | (with_reducible refine Kp.setL ?_ ?_ _; focus (simp; done)) | (with_reducible refine Kp.setR ?_ ?_ _; focus (simp; done)) | (with_reducible refine Kp.setR ?_ ?_ _; focus (simp; omega))))) (by simp)) ?_)
  go_wp2_with (with_reducible refine stopAt (o := ⟨some 57, _, _, _, _, _⟩) ?_)
  refine Stop.go (wpList_strG rfl rfl rfl (by rfl) 22 5 9 _ rfl Try.underlying22 Try.underlying5 Try.underlying9 rfl ((HR.out.keep HK2.out (by simp)).keep (S := []) (by (repeat (first | with_reducible exact Kp.refl _ _ | with_reducible assumption | with_reducible refine Kp.alloc ?_ _ | with_reducible refine Kp.drew ?_ | with_reducible refine Kp.drewN ?_ _ | (with_reducible refine Kp.setL ?_ ?_ _; focus (simp; done)) | (with_reducible refine Kp.setR ?_ ?_ _; focus (simp; done)) | (with_reducible refine Kp.setR ?_ ?_ _; focus (simp; omega))))) (by simp)) ?_)
  have hne : ((n1 : Int) != 10 + (n : Int) + (pad : Int)) = false := by simp; omega
  by_cases hsm : (n : Int) + (pad : Int) < 255
  · have HV := Lib.hid (HOV.out (by have := HL.out; omega))
    obtain ⟨g, rfl, hg1, hg2, hg3, hg4, hg5⟩ := HO2.out.of (by omega)
    have h9 := hg5 9 (by omega)
    have h9n : (9 : Int) < (n1 : Int) := by omega
    clear hg3 hg5
    go_wp2_with fail
    have hv : Value.int .u8 ((n : Int) + (pad : Int) + 1) = u8 (UInt8.ofNat (l.length + (pad : Int).toNat + 1)) := by
      have hll := HL.out
      rw [u8, UInt8.toNat_ofNat']
      congr 1
      simp only [Int.toNat_natCast]
      omega
    rw [hv]
    have O3 := HO2.out.put 9 (by omega) (UInt8.ofNat (l.length + (pad : Int).toNat + 1))
    have KS : Kp [g] w2 (w2.setCell ⟨g, 9, none⟩ (u8 (UInt8.ofNat (l.length + (pad : Int).toNat + 1)))) := (Kp.refl _ _).setCell (.inl (by simp)) _
    have hsz3 : (w2.setCell ⟨g, 9, none⟩ (u8 (UInt8.ofNat (l.length + (pad : Int).toNat + 1)))).heap.size = w2.heap.size := by simp
    generalize hW : World.setCell _ _ _ = w3 at *
    clear hW hv
    generalize hW : World.alloc _ _ = w4
    have K4 : Kp [] w3 w4 := by rw [← hW]; (repeat (first | with_reducible exact Kp.refl _ _ | with_reducible assumption | with_reducible refine Kp.alloc ?_ _ | with_reducible refine Kp.drew ?_ | with_reducible refine Kp.drewN ?_ _ | (with_reducible refine Kp.setL ?_ ?_ _; focus (simp; done)) | (with_reducible refine Kp.setR ?_ ?_ _; focus (simp; done)) | (with_reducible refine Kp.setR ?_ ?_ _; focus (simp; omega))))
    have HX4 := Lib.hid (show w4.heap[w2.heap.size + 1]? = some (.cells #[.bool false, .int .i64 0, .int .i64 0] 64) by rw [← hW, ← hsz3]; (repeat (first | with_reducible assumption | (with_reducible refine hp_new _ _ _ ?_; focus (simp; done)) | (with_reducible refine (hp_old _ _ _ ?_).trans ?_; focus (first | omega | (simp; done) | (simp; omega))) | (with_reducible refine (hp_far _ _ _ _ ?_).trans ?_; focus (first | (simp; done) | (simp; omega))) | (with_reducible refine (hp_drew _ _).trans ?_) | (with_reducible refine (hp_drewN _ _ _).trans ?_))))
    clear hW
    have O4 := O3.keep K4 (by simp)
    refine (Parse_any (some ⟨g, 0, none⟩) n1 c1 _ 16777215 w4 O4.rd (by omega)).mono ?_
    rintro e w5 ⟨f5, rfl, hf5, K5⟩
    rw [HV.out]
    dsimp only
    have HK5 := Lib.hid ((HK2.out.then KS (by simp; omega)).trans (K4.trans K5).nil)
    have HX5 := Lib.hid (K5.heap HX4.out (by simp))
    have x0 := cell_of HX5.out 0
    have x1 := cell_of HX5.out 1
    have x2 := cell_of HX5.out 2
    have xz := frozen_of HX5.out
    have xl := lt_of_heap HX5.out
    clear O3 O4 KS K4 K5 HX4 HO2 hf5 h9 hg4
    go_wp2
    go_ret
    exact ⟨by simp [Pq.bad], HK5.out.then ((((Kp.refl [w2.heap.size + 1] w5).setCell (.inl (by simp)) _).setCell (.inl (by simp)) _).setCell (.inl (by simp)) _) (by have := HK2.out.size; simp; omega)⟩
  · go_wp2_with fail
    refine (awake07 _).mono ?_
    rintro e w4 ⟨rfl, rfl⟩
    go_wp2
    go_ret
    exact ⟨rfl, HK2.out.trans (by (repeat (first | with_reducible exact Kp.refl _ _ | with_reducible assumption | with_reducible refine Kp.alloc ?_ _ | with_reducible refine Kp.drew ?_ | with_reducible refine Kp.drewN ?_ _ | (with_reducible refine Kp.setL ?_ ?_ _; focus (simp; done)) | (with_reducible refine Kp.setR ?_ ?_ _; focus (simp; done)) | (with_reducible refine Kp.setR ?_ ?_ _; focus (simp; omega)))))⟩
end Go.Proofs.Ytkmcakneceagpaa
