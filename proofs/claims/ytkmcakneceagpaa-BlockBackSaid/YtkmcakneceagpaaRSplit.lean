/- block.Split's bad arguments; the reference's Split, walked. -/
import Derived.Test.YtkmcakneceagpaaSplit
set_option linter.unusedVariables false
set_option linter.unusedSimpArgs false
set_option linter.unusedSimpArgs false
namespace Go.Proofs.Ytkmcakneceagpaa
open Go.RowKit

set_option maxRecDepth 100000 in
set_option maxHeartbeats 400000 in
theorem SplitBad (st most : Int) (hbad : st < 1 ∨ 2147483647 < st ∨ most < 1) (A : Option Addr) (n c : Nat) (en : Bool) (w0 : World) :
    Calls Try.prog 44 #[.int .i64 st, .slice A n c, .bool en, .int .i64 most] w0 fun e w' => e = .returned (.tuple #[.slice none 0 0, .int .i64 1]) ∧ w0 = w' := by
  go_enter Try.func44, Try.ntmps44
  go_wp2
  all_goals exact bodyPost_ret (v := .tuple #[.slice none 0 0, .int .i64 1]) (by simp [results, Try.results44, go_sem]) rfl ⟨rfl, rfl⟩

set_option maxRecDepth 100000 in
set_option maxHeartbeats 400000 in
theorem RSplitBad (st most : Int) (hbad : st < 1 ∨ 2147483647 < st ∨ most < 1) (A : Option Addr) (n c : Nat) (en : Bool) (w0 : World) :
    Calls Try.prog 45 #[.int .i64 st, .slice A n c, .bool en, .int .i64 most] w0 fun e w' => e = .returned (.tuple #[.slice none 0 0, .int .i64 1]) ∧ w0 = w' := by
  go_enter Try.func45, Try.ntmps45
  go_wp2
  all_goals exact bodyPost_ret (v := .tuple #[.slice none 0 0, .int .i64 1]) (by simp [results, Try.results45, go_sem]) rfl ⟨rfl, rfl⟩

def slen : Value → Nat
  | .slice _ n _ => n
  | _ => 0
/-- between two rounds of the reference's loop -/
def RSJ (st : Int) (en : Bool) (most : Nat) (b : List UInt8) (w0 : World) (A' : Option Addr) (n' c' : Nat) (ty f : Int) (AL : Option Addr) (nL cL : Nat) (wr : World) : Prop :=
  ∃ (k : Nat) (fs : List (Fr × List UInt8)), k ≤ cutsN most b.length ∧ nL = k ∧ Rd wr A' n' c' (b.drop (k * most)) ∧ (0 < n' → ∀ x, x ∈ ob A' → x < w0.heap.size) ∧ FrL wr w0.heap.size wr.heap.size AL nL cL fs ∧ (ty = if k = 0 then 1 else 9) ∧ (f = if k = 0 then (if en then 1 else 0) else 0) ∧ (∀ i p, fs[i]? = some p → SpF st en most b i p) ∧ Kp [] w0 wr

set_option maxRecDepth 100000 in
set_option maxHeartbeats 2000000 in
theorem RSplitOk (st : Int) (hst : 1 ≤ st ∧ st ≤ 2147483647) (A : Option Addr) (n c : Nat) (b : List UInt8) (en : Bool) (most : Nat) (hm : 1 ≤ most) (hm2 : most ≤ 9223372036854775807) (w0 : World) (hR : Rd w0 A n c b) (hn : n ≤ 140737488351232) (hlt : 0 < n → ∀ x, x ∈ ob A → x < w0.heap.size) (hfew : n / most ≤ 5000) :
    Calls Try.prog 45 #[.int .i64 st, .slice A n c, .bool en, .int .i64 most] w0 fun e w' => ∃ AL nL cL fs, e = .returned (.tuple #[.slice AL nL cL, .int .i64 0]) ∧ nL = cutsN most n + 1 ∧ FrL w' w0.heap.size w'.heap.size AL nL cL fs ∧ (∀ i p, fs[i]? = some p → SpF st en most b i p) ∧ Kp [] w0 w' := by
  obtain rfl := hR.len
  have hcN : cutsN most b.length ≤ 5000 := Nat.le_trans (Nat.div_le_div_right (by omega)) hfew
  go_enter Try.func45, Try.ntmps45
  have HR := Lib.hid hR
  have hAlt := Lib.hid hlt
  clear hR hlt
  cases en
  · go_wp2
    go_loopw [1, 8, 9, 10, 11, 12] (fun bv r8 r9 l kd fl wr => ∃ (A' : Option Addr) (n' c' : Nat) (ty f : Int) (AL : Option Addr) (nL cL : Nat), bv = .slice A' n' c' ∧ l = .slice AL nL cL ∧ kd = .int .i64 ty ∧ fl = .int .i64 f ∧ RSJ st false most b w0 A' n' c' ty f AL nL cL wr) (fun bv _ _ _ _ _ _ => slen bv)
    case atStart => exact ⟨A, b.length, c, 1, 0, none, 0, 0, rfl, rfl, rfl, rfl, 0, [], Nat.zero_le _, rfl, by simpa using HR.out, hAlt.out, FrL.nil _ _, rfl, by simp, by simp, Kp.refl _ _⟩
    case round =>
      obtain ⟨A', n', c', ty, f, AL, nL, cL, rfl, rfl, rfl, rfl, k, fs, hk, hnL, hr, hx, hF, hty, hf, hkey, hK⟩ := hrel
      have hl := hr.len
      have hc := hr.cap
      simp only [List.length_drop] at hl
      have hTY := Lib.hid hty
      have hFL := Lib.hid hf
      have hKEY := Lib.hid hkey
      have hNL := Lib.hid hnL
      have hf01 : 0 ≤ f ∧ f ≤ 1 := by rw [hf]; split <;> (try split) <;> omega
      have hn5 : nL ≤ 5000 := by omega
      have HX := Lib.hid hx
      clear hty hf hkey hnL hx
      by_cases hlast : k = cutsN most b.length
      · have h1 := cutsN_ge hm (Nat.le_of_eq hlast.symm)
        have hle : (n' : Int) ≤ (most : Int) := by omega
        have hci : (n' : Int) ≤ (c' : Int) := by omega
        have hzero : n' - n' = 0 := by omega
        have hp : Rd wr A' n' c' (piece most b k) := by
          unfold piece
          rw [List.take_of_length_le (by simp; omega)]
          exact hr
        go_wp2_with (with_reducible refine stopAt (o := ⟨some 37, _, _, _, _, _⟩) ?_)
        refine Stop.go (wp_appB rfl _ _ 22 5 rfl Try.underlying22 Try.info5 wr.heap.size (some ⟨wr.heap.size, 0, none⟩) 0 0 [] rfl (Ow.empty _ _ _ _ (Nat.le_refl _)) A' n' c' (piece most b k) rfl (hp.keep (S := []) ((Kp.refl _ _).alloc _) (by simp)) (by omega) (by simp) ?_)
        intro A3 k3 c3 l3 w3 hk3 hl3 O3 K3 hA3
        have K4 : Kp [] wr w3 := ((Kp.refl _ _).alloc _).then K3 (by simp [ob])
        have F3 := hF.keep K4 (by simp)
        have hr3 := hr.keep K4 (by simp)
        have s3 := K4.size
        clear K3 hp
        go_wp2_with (with_reducible refine stopAt (o := ⟨some 50, _, _, _, _, _⟩) ?_)
        all_goals
          obtain ⟨flv, hflv⟩ : ∃ flv : Int, f + 4 = flv := ⟨_, rfl⟩
          generalize hW : World.alloc _ _ = W4
          have K5 : Kp [] w3 W4 := by rw [← hW]; (repeat (first | with_reducible exact Kp.refl _ _ | with_reducible assumption | with_reducible refine Kp.alloc ?_ _ | with_reducible refine Kp.drew ?_ | with_reducible refine Kp.drewN ?_ _ | (with_reducible refine Kp.setL ?_ ?_ _; focus (simp; done)) | (with_reducible refine Kp.setR ?_ ?_ _; focus (simp; done)) | (with_reducible refine Kp.setR ?_ ?_ _; focus (simp; omega))))
          have s5 := K5.size
          have HF4 : W4.heap[w3.heap.size]? = some (.cells #[.int .i64 ty, .int .i64 flv, .int .i64 st, .slice A3 k3 c3, .int .i64 0, .int .u32 0, .int .i64 0, .int .i64 0, .int .i64 0, .bool false, .int .i64 0, .slice none 0 0] 49) := by rw [← hW, ← hflv]; (repeat (first | with_reducible assumption | (with_reducible refine hp_new _ _ _ ?_; focus (simp; done)) | (with_reducible refine (hp_old _ _ _ ?_).trans ?_; focus (first | omega | (simp; done) | (simp; omega))) | (with_reducible refine (hp_far _ _ _ _ ?_).trans ?_; focus (first | (simp; done) | (simp; omega))) | (with_reducible refine (hp_drew _ _).trans ?_) | (with_reducible refine (hp_drewN _ _ _).trans ?_)))
          clear hW
          have HF4_0 := cell_of HF4 0
          have HF4_1 := cell_of HF4 1
          have HF4_2 := cell_of HF4 2
          have HF4_3 := cell_of HF4 3
          have HF4_4 := cell_of HF4 4
          have HF4_5 := cell_of HF4 5
          have HF4_6 := cell_of HF4 6
          have HF4_7 := cell_of HF4 7
          have HF4_8 := cell_of HF4 8
          have HF4_9 := cell_of HF4 9
          have HF4_10 := cell_of HF4 10
          have HF4_11 := cell_of HF4 11
          have HF4_z := frozen_of HF4
          have F4 := F3.keep K5 (by simp)
          have R4 := O3.rd.keep K5 (by simp)
          have hr4 := hr3.keep K5 (by simp)
          have B3 : ∀ x, x ∈ ob A3 → wr.heap.size ≤ x ∧ x < W4.heap.size := fun x hx => by have := O3.base x hx; omega
          refine Stop.go ?_
          go_wp2_with (with_reducible refine stopAt (o := ⟨some 52, _, _, _, _, _⟩) ?_)
          generalize hW : World.alloc _ _ = W5
          have K6 : Kp [] W4 W5 := by rw [← hW]; (repeat (first | with_reducible exact Kp.refl _ _ | with_reducible assumption | with_reducible refine Kp.alloc ?_ _ | with_reducible refine Kp.drew ?_ | with_reducible refine Kp.drewN ?_ _ | (with_reducible refine Kp.setL ?_ ?_ _; focus (simp; done)) | (with_reducible refine Kp.setR ?_ ?_ _; focus (simp; done)) | (with_reducible refine Kp.setR ?_ ?_ _; focus (simp; omega))))
          have HN5 : W5.heap[W4.heap.size]? = some (.cells #[.int .i64 ty, .int .i64 flv, .int .i64 st, .slice A3 k3 c3, .int .i64 0, .int .u32 0, .int .i64 0, .int .i64 0, .int .i64 0, .bool false, .int .i64 0, .slice none 0 0] 49) := by rw [← hW]; (repeat (first | with_reducible assumption | (with_reducible refine hp_new _ _ _ ?_; focus (simp; done)) | (with_reducible refine (hp_old _ _ _ ?_).trans ?_; focus (first | omega | (simp; done) | (simp; omega))) | (with_reducible refine (hp_far _ _ _ _ ?_).trans ?_; focus (first | (simp; done) | (simp; omega))) | (with_reducible refine (hp_drew _ _).trans ?_) | (with_reducible refine (hp_drewN _ _ _).trans ?_)))
          have s6 : W5.heap.size = W4.heap.size + 1 := by rw [← hW]; simp
          clear hW
          have F5 := F4.keep K6 (by simp)
          have R5 := R4.keep K6 (by simp)
          have hr5 := hr4.keep K6 (by simp)
          refine Stop.go (wp_app rfl _ _ 41 49 (.agg #[.int .i64 0, .int .i64 0, .int .i64 0, .slice none 0 0, .int .i64 0, .int .u32 0, .int .i64 0, .int .i64 0, .int .i64 0, .bool false, .int .i64 0, .slice none 0 0]) 12 128 rfl Try.underlying41 infoFr rfl (by decide) w0.heap.size AL nL cL (fs.flatMap fun p => Fr.cells p.1) rfl F5.ow (some ⟨W4.heap.size, 0, none⟩) 1 1 (Fr.cells ⟨ty, flv, st, A3, k3, c3, 0, 0, 0, 0, 0, false, 0, none, 0, 0⟩) rfl rfl (At.block HN5 0 _ rfl) (by intro u hu; simp at hu; rcases hu with rfl | rfl | rfl | rfl | rfl | rfl | rfl | rfl | rfl | rfl | rfl | rfl <;> rfl) (by simp only [maxLen]; omega) (by omega) (by have := hK.size; omega) ?_)
          intro A6 k6 c6 w6 hk6 O6 K7 hA6
          have F7 := F5.app (f := ⟨ty, flv, st, A3, k3, c3, 0, 0, 0, 0, 0, false, 0, none, 0, 0⟩) (l := l3) R5 (by intro x hx; have := B3 x hx; omega) (by have := hK.size; omega) O6 hk6.out K7 hA6
          have hAL := F5.ow.base
          have hr6 := hr5.keep K7 (fun hp x hx hx2 => by have h1 := HX.out hp x hx; have h2 := (hAL x hx2).1; omega)
          have K8 := ((hK.trans K4).trans (K5.trans K6)).then K7 (fun t ht => .inr (hAL t ht).1)
          have keys : ∀ i p, (fs ++ [(⟨ty, flv, st, A3, k3, c3, 0, 0, 0, 0, 0, false, 0, none, 0, 0⟩, l3)])[i]? = some p → SpF st false most b i p := by
            intro i p hp
            have hfl := hF.len
            by_cases hi : i < fs.length
            · rw [List.getElem?_append_left hi] at hp
              exact hKEY.out i p hp
            · rw [List.getElem?_append_right (by omega)] at hp
              have hi2 : i - fs.length = 0 := by
                by_cases h0 : i - fs.length = 0
                · exact h0
                · rw [List.getElem?_eq_none (by simp; omega)] at hp; cases hp
              rw [hi2] at hp
              have hp2 : (⟨ty, flv, st, A3, k3, c3, 0, 0, 0, 0, 0, false, 0, none, 0, 0⟩, l3) = p := by simpa using hp
              have hik : i = k := by have := hNL.out; omega
              subst hik
              rw [← hp2]
              refine ⟨hTY.out, ?_, rfl, by rw [hl3.out]; rfl⟩
              show flv = _
              rw [← hflv, hFL.out]
              rw [if_pos hlast]
              try simp
          have HKS := Lib.hid keys
          have HF7 := Lib.hid F7
          have HK8 := Lib.hid K8
          clear keys F7 K8
          go_wp2
          refine bodyPost_ret (v := .tuple #[.slice A6 k6 c6, .int .i64 0]) (by simp [results, Try.results45, go_sem]) rfl ⟨A6, k6, c6, fs ++ [(⟨ty, flv, st, A3, k3, c3, 0, 0, 0, 0, 0, false, 0, none, 0, 0⟩, l3)], rfl, by have h1 := hk6.out; have h2 := hNL.out; omega, HF7.out, HKS.out, HK8.out⟩
      · have h1 := cutsN_lt hm (show k < cutsN most b.length by omega)
        have hle : (most : Int) < (n' : Int) := by omega
        have hle1 : (most : Int) ≤ (n' : Int) := by omega
        have hci : (most : Int) ≤ (c' : Int) := by omega
        have hp : Rd wr A' most c' (piece most b k) := by
          have := hr.sub 0 most (by omega) (by omega) (A' := A') (by intro _ _ h _; rw [h]; simp)
          simpa [piece] using this
        obtain ⟨bb, off, rfl, hbb, hcell⟩ := hr.addr (by omega)
        have hxx := HX.out (by omega) bb (by simp [ob])
        clear hcell
        have hnz : ¬ ((n' - most : Nat) : Int) = 0 := by omega
        go_wp2_with (with_reducible refine stopAt (o := ⟨some 37, _, _, _, _, _⟩) ?_)
        refine Stop.go (wp_appB rfl _ _ 22 5 rfl Try.underlying22 Try.info5 wr.heap.size (some ⟨wr.heap.size, 0, none⟩) 0 0 [] rfl (Ow.empty _ _ _ _ (Nat.le_refl _)) (some ⟨bb, off, none⟩) most c' (piece most b k) rfl (hp.keep (S := []) ((Kp.refl _ _).alloc _) (by simp)) (by omega) (by simp) ?_)
        intro A3 k3 c3 l3 w3 hk3 hl3 O3 K3 hA3
        have K4 : Kp [] wr w3 := ((Kp.refl _ _).alloc _).then K3 (by simp [ob])
        have F3 := hF.keep K4 (by simp)
        have hr3 := hr.keep K4 (by simp)
        have s3 := K4.size
        clear K3 hp
        go_wp2_with (with_reducible refine stopAt (o := ⟨some 54, _, _, _, _, _⟩) ?_)
        all_goals
          obtain ⟨flv, hflv⟩ : ∃ flv : Int, f = flv := ⟨_, rfl⟩
          generalize hW : World.alloc _ _ = W4
          have K5 : Kp [] w3 W4 := by rw [← hW]; (repeat (first | with_reducible exact Kp.refl _ _ | with_reducible assumption | with_reducible refine Kp.alloc ?_ _ | with_reducible refine Kp.drew ?_ | with_reducible refine Kp.drewN ?_ _ | (with_reducible refine Kp.setL ?_ ?_ _; focus (simp; done)) | (with_reducible refine Kp.setR ?_ ?_ _; focus (simp; done)) | (with_reducible refine Kp.setR ?_ ?_ _; focus (simp; omega))))
          have s5 := K5.size
          have HF4 : W4.heap[w3.heap.size]? = some (.cells #[.int .i64 ty, .int .i64 flv, .int .i64 st, .slice A3 k3 c3, .int .i64 0, .int .u32 0, .int .i64 0, .int .i64 0, .int .i64 0, .bool false, .int .i64 0, .slice none 0 0] 49) := by rw [← hW, ← hflv]; (repeat (first | with_reducible assumption | (with_reducible refine hp_new _ _ _ ?_; focus (simp; done)) | (with_reducible refine (hp_old _ _ _ ?_).trans ?_; focus (first | omega | (simp; done) | (simp; omega))) | (with_reducible refine (hp_far _ _ _ _ ?_).trans ?_; focus (first | (simp; done) | (simp; omega))) | (with_reducible refine (hp_drew _ _).trans ?_) | (with_reducible refine (hp_drewN _ _ _).trans ?_)))
          clear hW
          have HF4_0 := cell_of HF4 0
          have HF4_1 := cell_of HF4 1
          have HF4_2 := cell_of HF4 2
          have HF4_3 := cell_of HF4 3
          have HF4_4 := cell_of HF4 4
          have HF4_5 := cell_of HF4 5
          have HF4_6 := cell_of HF4 6
          have HF4_7 := cell_of HF4 7
          have HF4_8 := cell_of HF4 8
          have HF4_9 := cell_of HF4 9
          have HF4_10 := cell_of HF4 10
          have HF4_11 := cell_of HF4 11
          have HF4_z := frozen_of HF4
          have F4 := F3.keep K5 (by simp)
          have R4 := O3.rd.keep K5 (by simp)
          have hr4 := hr3.keep K5 (by simp)
          have B3 : ∀ x, x ∈ ob A3 → wr.heap.size ≤ x ∧ x < W4.heap.size := fun x hx => by have := O3.base x hx; omega
          refine Stop.go ?_
          go_wp2_with (with_reducible refine stopAt (o := ⟨some 56, _, _, _, _, _⟩) ?_)
          generalize hW : World.alloc _ _ = W5
          have K6 : Kp [] W4 W5 := by rw [← hW]; (repeat (first | with_reducible exact Kp.refl _ _ | with_reducible assumption | with_reducible refine Kp.alloc ?_ _ | with_reducible refine Kp.drew ?_ | with_reducible refine Kp.drewN ?_ _ | (with_reducible refine Kp.setL ?_ ?_ _; focus (simp; done)) | (with_reducible refine Kp.setR ?_ ?_ _; focus (simp; done)) | (with_reducible refine Kp.setR ?_ ?_ _; focus (simp; omega))))
          have HN5 : W5.heap[W4.heap.size]? = some (.cells #[.int .i64 ty, .int .i64 flv, .int .i64 st, .slice A3 k3 c3, .int .i64 0, .int .u32 0, .int .i64 0, .int .i64 0, .int .i64 0, .bool false, .int .i64 0, .slice none 0 0] 49) := by rw [← hW]; (repeat (first | with_reducible assumption | (with_reducible refine hp_new _ _ _ ?_; focus (simp; done)) | (with_reducible refine (hp_old _ _ _ ?_).trans ?_; focus (first | omega | (simp; done) | (simp; omega))) | (with_reducible refine (hp_far _ _ _ _ ?_).trans ?_; focus (first | (simp; done) | (simp; omega))) | (with_reducible refine (hp_drew _ _).trans ?_) | (with_reducible refine (hp_drewN _ _ _).trans ?_)))
          have s6 : W5.heap.size = W4.heap.size + 1 := by rw [← hW]; simp
          clear hW
          have F5 := F4.keep K6 (by simp)
          have R5 := R4.keep K6 (by simp)
          have hr5 := hr4.keep K6 (by simp)
          refine Stop.go (wp_app rfl _ _ 41 49 (.agg #[.int .i64 0, .int .i64 0, .int .i64 0, .slice none 0 0, .int .i64 0, .int .u32 0, .int .i64 0, .int .i64 0, .int .i64 0, .bool false, .int .i64 0, .slice none 0 0]) 12 128 rfl Try.underlying41 infoFr rfl (by decide) w0.heap.size AL nL cL (fs.flatMap fun p => Fr.cells p.1) rfl F5.ow (some ⟨W4.heap.size, 0, none⟩) 1 1 (Fr.cells ⟨ty, flv, st, A3, k3, c3, 0, 0, 0, 0, 0, false, 0, none, 0, 0⟩) rfl rfl (At.block HN5 0 _ rfl) (by intro u hu; simp at hu; rcases hu with rfl | rfl | rfl | rfl | rfl | rfl | rfl | rfl | rfl | rfl | rfl | rfl <;> rfl) (by simp only [maxLen]; omega) (by omega) (by have := hK.size; omega) ?_)
          intro A6 k6 c6 w6 hk6 O6 K7 hA6
          have F7 := F5.app (f := ⟨ty, flv, st, A3, k3, c3, 0, 0, 0, 0, 0, false, 0, none, 0, 0⟩) (l := l3) R5 (by intro x hx; have := B3 x hx; omega) (by have := hK.size; omega) O6 hk6.out K7 hA6
          have hAL := F5.ow.base
          have hr6 := hr5.keep K7 (fun hp x hx hx2 => by have h1 := HX.out hp x hx; have h2 := (hAL x hx2).1; omega)
          have K8 := ((hK.trans K4).trans (K5.trans K6)).then K7 (fun t ht => .inr (hAL t ht).1)
          have keys : ∀ i p, (fs ++ [(⟨ty, flv, st, A3, k3, c3, 0, 0, 0, 0, 0, false, 0, none, 0, 0⟩, l3)])[i]? = some p → SpF st false most b i p := by
            intro i p hp
            have hfl := hF.len
            by_cases hi : i < fs.length
            · rw [List.getElem?_append_left hi] at hp
              exact hKEY.out i p hp
            · rw [List.getElem?_append_right (by omega)] at hp
              have hi2 : i - fs.length = 0 := by
                by_cases h0 : i - fs.length = 0
                · exact h0
                · rw [List.getElem?_eq_none (by simp; omega)] at hp; cases hp
              rw [hi2] at hp
              have hp2 : (⟨ty, flv, st, A3, k3, c3, 0, 0, 0, 0, 0, false, 0, none, 0, 0⟩, l3) = p := by simpa using hp
              have hik : i = k := by have := hNL.out; omega
              subst hik
              rw [← hp2]
              refine ⟨hTY.out, ?_, rfl, by rw [hl3.out]; rfl⟩
              show flv = _
              rw [← hflv, hFL.out]
              rw [if_neg hlast]
              try simp
          have HKS := Lib.hid keys
          have HF7 := Lib.hid F7
          have HK8 := Lib.hid K8
          clear keys F7 K8
          go_wp2
          go_roundw
          case rel =>
            refine ⟨some ⟨bb, off + most, none⟩, n' - most, c' - most, 9, 0, A6, k6, c6, rfl, rfl, rfl, rfl, k + 1, fs ++ [(⟨ty, flv, st, A3, k3, c3, 0, 0, 0, 0, 0, false, 0, none, 0, 0⟩, l3)], by omega, by have h1 := hk6.out; have h2 := hNL.out; omega, ?_, fun _ x hx => by simp [ob] at hx; subst hx; exact hxx, HF7.out, by simp, by simp, HKS.out, HK8.out⟩
            have := hr6.sub most n' (by omega) (by omega) (A' := some ⟨bb, off + most, none⟩) (by intro _ _ h _; injection h with h1; injection h1 with h2 h3 _; rw [h2, h3])
            rw [List.drop_drop, List.take_of_length_le (by simp; omega)] at this
            rwa [Nat.add_mul, Nat.one_mul]
          case measure => show n' - most < n'; omega
  · go_wp2
    go_loopw [1, 8, 9, 10, 11, 12] (fun bv r8 r9 l kd fl wr => ∃ (A' : Option Addr) (n' c' : Nat) (ty f : Int) (AL : Option Addr) (nL cL : Nat), bv = .slice A' n' c' ∧ l = .slice AL nL cL ∧ kd = .int .i64 ty ∧ fl = .int .i64 f ∧ RSJ st true most b w0 A' n' c' ty f AL nL cL wr) (fun bv _ _ _ _ _ _ => slen bv)
    case atStart => exact ⟨A, b.length, c, 1, 1, none, 0, 0, rfl, rfl, rfl, rfl, 0, [], Nat.zero_le _, rfl, by simpa using HR.out, hAlt.out, FrL.nil _ _, rfl, by simp, by simp, Kp.refl _ _⟩
    case round =>
      obtain ⟨A', n', c', ty, f, AL, nL, cL, rfl, rfl, rfl, rfl, k, fs, hk, hnL, hr, hx, hF, hty, hf, hkey, hK⟩ := hrel
      have hl := hr.len
      have hc := hr.cap
      simp only [List.length_drop] at hl
      have hTY := Lib.hid hty
      have hFL := Lib.hid hf
      have hKEY := Lib.hid hkey
      have hNL := Lib.hid hnL
      have hf01 : 0 ≤ f ∧ f ≤ 1 := by rw [hf]; split <;> (try split) <;> omega
      have hn5 : nL ≤ 5000 := by omega
      have HX := Lib.hid hx
      clear hty hf hkey hnL hx
      by_cases hlast : k = cutsN most b.length
      · have h1 := cutsN_ge hm (Nat.le_of_eq hlast.symm)
        have hle : (n' : Int) ≤ (most : Int) := by omega
        have hci : (n' : Int) ≤ (c' : Int) := by omega
        have hzero : n' - n' = 0 := by omega
        have hp : Rd wr A' n' c' (piece most b k) := by
          unfold piece
          rw [List.take_of_length_le (by simp; omega)]
          exact hr
        go_wp2_with (with_reducible refine stopAt (o := ⟨some 37, _, _, _, _, _⟩) ?_)
        refine Stop.go (wp_appB rfl _ _ 22 5 rfl Try.underlying22 Try.info5 wr.heap.size (some ⟨wr.heap.size, 0, none⟩) 0 0 [] rfl (Ow.empty _ _ _ _ (Nat.le_refl _)) A' n' c' (piece most b k) rfl (hp.keep (S := []) ((Kp.refl _ _).alloc _) (by simp)) (by omega) (by simp) ?_)
        intro A3 k3 c3 l3 w3 hk3 hl3 O3 K3 hA3
        have K4 : Kp [] wr w3 := ((Kp.refl _ _).alloc _).then K3 (by simp [ob])
        have F3 := hF.keep K4 (by simp)
        have hr3 := hr.keep K4 (by simp)
        have s3 := K4.size
        clear K3 hp
        go_wp2_with (with_reducible refine stopAt (o := ⟨some 50, _, _, _, _, _⟩) ?_)
        all_goals
          obtain ⟨flv, hflv⟩ : ∃ flv : Int, f + 4 = flv := ⟨_, rfl⟩
          generalize hW : World.alloc _ _ = W4
          have K5 : Kp [] w3 W4 := by rw [← hW]; (repeat (first | with_reducible exact Kp.refl _ _ | with_reducible assumption | with_reducible refine Kp.alloc ?_ _ | with_reducible refine Kp.drew ?_ | with_reducible refine Kp.drewN ?_ _ | (with_reducible refine Kp.setL ?_ ?_ _; focus (simp; done)) | (with_reducible refine Kp.setR ?_ ?_ _; focus (simp; done)) | (with_reducible refine Kp.setR ?_ ?_ _; focus (simp; omega))))
          have s5 := K5.size
          have HF4 : W4.heap[w3.heap.size]? = some (.cells #[.int .i64 ty, .int .i64 flv, .int .i64 st, .slice A3 k3 c3, .int .i64 0, .int .u32 0, .int .i64 0, .int .i64 0, .int .i64 0, .bool false, .int .i64 0, .slice none 0 0] 49) := by rw [← hW, ← hflv]; (repeat (first | with_reducible assumption | (with_reducible refine hp_new _ _ _ ?_; focus (simp; done)) | (with_reducible refine (hp_old _ _ _ ?_).trans ?_; focus (first | omega | (simp; done) | (simp; omega))) | (with_reducible refine (hp_far _ _ _ _ ?_).trans ?_; focus (first | (simp; done) | (simp; omega))) | (with_reducible refine (hp_drew _ _).trans ?_) | (with_reducible refine (hp_drewN _ _ _).trans ?_)))
          clear hW
          have HF4_0 := cell_of HF4 0
          have HF4_1 := cell_of HF4 1
          have HF4_2 := cell_of HF4 2
          have HF4_3 := cell_of HF4 3
          have HF4_4 := cell_of HF4 4
          have HF4_5 := cell_of HF4 5
          have HF4_6 := cell_of HF4 6
          have HF4_7 := cell_of HF4 7
          have HF4_8 := cell_of HF4 8
          have HF4_9 := cell_of HF4 9
          have HF4_10 := cell_of HF4 10
          have HF4_11 := cell_of HF4 11
          have HF4_z := frozen_of HF4
          have F4 := F3.keep K5 (by simp)
          have R4 := O3.rd.keep K5 (by simp)
          have hr4 := hr3.keep K5 (by simp)
          have B3 : ∀ x, x ∈ ob A3 → wr.heap.size ≤ x ∧ x < W4.heap.size := fun x hx => by have := O3.base x hx; omega
          refine Stop.go ?_
          go_wp2_with (with_reducible refine stopAt (o := ⟨some 52, _, _, _, _, _⟩) ?_)
          generalize hW : World.alloc _ _ = W5
          have K6 : Kp [] W4 W5 := by rw [← hW]; (repeat (first | with_reducible exact Kp.refl _ _ | with_reducible assumption | with_reducible refine Kp.alloc ?_ _ | with_reducible refine Kp.drew ?_ | with_reducible refine Kp.drewN ?_ _ | (with_reducible refine Kp.setL ?_ ?_ _; focus (simp; done)) | (with_reducible refine Kp.setR ?_ ?_ _; focus (simp; done)) | (with_reducible refine Kp.setR ?_ ?_ _; focus (simp; omega))))
          have HN5 : W5.heap[W4.heap.size]? = some (.cells #[.int .i64 ty, .int .i64 flv, .int .i64 st, .slice A3 k3 c3, .int .i64 0, .int .u32 0, .int .i64 0, .int .i64 0, .int .i64 0, .bool false, .int .i64 0, .slice none 0 0] 49) := by rw [← hW]; (repeat (first | with_reducible assumption | (with_reducible refine hp_new _ _ _ ?_; focus (simp; done)) | (with_reducible refine (hp_old _ _ _ ?_).trans ?_; focus (first | omega | (simp; done) | (simp; omega))) | (with_reducible refine (hp_far _ _ _ _ ?_).trans ?_; focus (first | (simp; done) | (simp; omega))) | (with_reducible refine (hp_drew _ _).trans ?_) | (with_reducible refine (hp_drewN _ _ _).trans ?_)))
          have s6 : W5.heap.size = W4.heap.size + 1 := by rw [← hW]; simp
          clear hW
          have F5 := F4.keep K6 (by simp)
          have R5 := R4.keep K6 (by simp)
          have hr5 := hr4.keep K6 (by simp)
          refine Stop.go (wp_app rfl _ _ 41 49 (.agg #[.int .i64 0, .int .i64 0, .int .i64 0, .slice none 0 0, .int .i64 0, .int .u32 0, .int .i64 0, .int .i64 0, .int .i64 0, .bool false, .int .i64 0, .slice none 0 0]) 12 128 rfl Try.underlying41 infoFr rfl (by decide) w0.heap.size AL nL cL (fs.flatMap fun p => Fr.cells p.1) rfl F5.ow (some ⟨W4.heap.size, 0, none⟩) 1 1 (Fr.cells ⟨ty, flv, st, A3, k3, c3, 0, 0, 0, 0, 0, false, 0, none, 0, 0⟩) rfl rfl (At.block HN5 0 _ rfl) (by intro u hu; simp at hu; rcases hu with rfl | rfl | rfl | rfl | rfl | rfl | rfl | rfl | rfl | rfl | rfl | rfl <;> rfl) (by simp only [maxLen]; omega) (by omega) (by have := hK.size; omega) ?_)
          intro A6 k6 c6 w6 hk6 O6 K7 hA6
          have F7 := F5.app (f := ⟨ty, flv, st, A3, k3, c3, 0, 0, 0, 0, 0, false, 0, none, 0, 0⟩) (l := l3) R5 (by intro x hx; have := B3 x hx; omega) (by have := hK.size; omega) O6 hk6.out K7 hA6
          have hAL := F5.ow.base
          have hr6 := hr5.keep K7 (fun hp x hx hx2 => by have h1 := HX.out hp x hx; have h2 := (hAL x hx2).1; omega)
          have K8 := ((hK.trans K4).trans (K5.trans K6)).then K7 (fun t ht => .inr (hAL t ht).1)
          have keys : ∀ i p, (fs ++ [(⟨ty, flv, st, A3, k3, c3, 0, 0, 0, 0, 0, false, 0, none, 0, 0⟩, l3)])[i]? = some p → SpF st true most b i p := by
            intro i p hp
            have hfl := hF.len
            by_cases hi : i < fs.length
            · rw [List.getElem?_append_left hi] at hp
              exact hKEY.out i p hp
            · rw [List.getElem?_append_right (by omega)] at hp
              have hi2 : i - fs.length = 0 := by
                by_cases h0 : i - fs.length = 0
                · exact h0
                · rw [List.getElem?_eq_none (by simp; omega)] at hp; cases hp
              rw [hi2] at hp
              have hp2 : (⟨ty, flv, st, A3, k3, c3, 0, 0, 0, 0, 0, false, 0, none, 0, 0⟩, l3) = p := by simpa using hp
              have hik : i = k := by have := hNL.out; omega
              subst hik
              rw [← hp2]
              refine ⟨hTY.out, ?_, rfl, by rw [hl3.out]; rfl⟩
              show flv = _
              rw [← hflv, hFL.out]
              rw [if_pos hlast]
              try simp
          have HKS := Lib.hid keys
          have HF7 := Lib.hid F7
          have HK8 := Lib.hid K8
          clear keys F7 K8
          go_wp2
          refine bodyPost_ret (v := .tuple #[.slice A6 k6 c6, .int .i64 0]) (by simp [results, Try.results45, go_sem]) rfl ⟨A6, k6, c6, fs ++ [(⟨ty, flv, st, A3, k3, c3, 0, 0, 0, 0, 0, false, 0, none, 0, 0⟩, l3)], rfl, by have h1 := hk6.out; have h2 := hNL.out; omega, HF7.out, HKS.out, HK8.out⟩
      · have h1 := cutsN_lt hm (show k < cutsN most b.length by omega)
        have hle : (most : Int) < (n' : Int) := by omega
        have hle1 : (most : Int) ≤ (n' : Int) := by omega
        have hci : (most : Int) ≤ (c' : Int) := by omega
        have hp : Rd wr A' most c' (piece most b k) := by
          have := hr.sub 0 most (by omega) (by omega) (A' := A') (by intro _ _ h _; rw [h]; simp)
          simpa [piece] using this
        obtain ⟨bb, off, rfl, hbb, hcell⟩ := hr.addr (by omega)
        have hxx := HX.out (by omega) bb (by simp [ob])
        clear hcell
        have hnz : ¬ ((n' - most : Nat) : Int) = 0 := by omega
        go_wp2_with (with_reducible refine stopAt (o := ⟨some 37, _, _, _, _, _⟩) ?_)
        refine Stop.go (wp_appB rfl _ _ 22 5 rfl Try.underlying22 Try.info5 wr.heap.size (some ⟨wr.heap.size, 0, none⟩) 0 0 [] rfl (Ow.empty _ _ _ _ (Nat.le_refl _)) (some ⟨bb, off, none⟩) most c' (piece most b k) rfl (hp.keep (S := []) ((Kp.refl _ _).alloc _) (by simp)) (by omega) (by simp) ?_)
        intro A3 k3 c3 l3 w3 hk3 hl3 O3 K3 hA3
        have K4 : Kp [] wr w3 := ((Kp.refl _ _).alloc _).then K3 (by simp [ob])
        have F3 := hF.keep K4 (by simp)
        have hr3 := hr.keep K4 (by simp)
        have s3 := K4.size
        clear K3 hp
        go_wp2_with (with_reducible refine stopAt (o := ⟨some 54, _, _, _, _, _⟩) ?_)
        all_goals
          obtain ⟨flv, hflv⟩ : ∃ flv : Int, f = flv := ⟨_, rfl⟩
          generalize hW : World.alloc _ _ = W4
          have K5 : Kp [] w3 W4 := by rw [← hW]; (repeat (first | with_reducible exact Kp.refl _ _ | with_reducible assumption | with_reducible refine Kp.alloc ?_ _ | with_reducible refine Kp.drew ?_ | with_reducible refine Kp.drewN ?_ _ | (with_reducible refine Kp.setL ?_ ?_ _; focus (simp; done)) | (with_reducible refine Kp.setR ?_ ?_ _; focus (simp; done)) | (with_reducible refine Kp.setR ?_ ?_ _; focus (simp; omega))))
          have s5 := K5.size
          have HF4 : W4.heap[w3.heap.size]? = some (.cells #[.int .i64 ty, .int .i64 flv, .int .i64 st, .slice A3 k3 c3, .int .i64 0, .int .u32 0, .int .i64 0, .int .i64 0, .int .i64 0, .bool false, .int .i64 0, .slice none 0 0] 49) := by rw [← hW, ← hflv]; (repeat (first | with_reducible assumption | (with_reducible refine hp_new _ _ _ ?_; focus (simp; done)) | (with_reducible refine (hp_old _ _ _ ?_).trans ?_; focus (first | omega | (simp; done) | (simp; omega))) | (with_reducible refine (hp_far _ _ _ _ ?_).trans ?_; focus (first | (simp; done) | (simp; omega))) | (with_reducible refine (hp_drew _ _).trans ?_) | (with_reducible refine (hp_drewN _ _ _).trans ?_)))
          clear hW
          have HF4_0 := cell_of HF4 0
          have HF4_1 := cell_of HF4 1
          have HF4_2 := cell_of HF4 2
          have HF4_3 := cell_of HF4 3
          have HF4_4 := cell_of HF4 4
          have HF4_5 := cell_of HF4 5
          have HF4_6 := cell_of HF4 6
          have HF4_7 := cell_of HF4 7
          have HF4_8 := cell_of HF4 8
          have HF4_9 := cell_of HF4 9
          have HF4_10 := cell_of HF4 10
          have HF4_11 := cell_of HF4 11
          have HF4_z := frozen_of HF4
          have F4 := F3.keep K5 (by simp)
          have R4 := O3.rd.keep K5 (by simp)
          have hr4 := hr3.keep K5 (by simp)
          have B3 : ∀ x, x ∈ ob A3 → wr.heap.size ≤ x ∧ x < W4.heap.size := fun x hx => by have := O3.base x hx; omega
          refine Stop.go ?_
          go_wp2_with (with_reducible refine stopAt (o := ⟨some 56, _, _, _, _, _⟩) ?_)
          generalize hW : World.alloc _ _ = W5
          have K6 : Kp [] W4 W5 := by rw [← hW]; (repeat (first | with_reducible exact Kp.refl _ _ | with_reducible assumption | with_reducible refine Kp.alloc ?_ _ | with_reducible refine Kp.drew ?_ | with_reducible refine Kp.drewN ?_ _ | (with_reducible refine Kp.setL ?_ ?_ _; focus (simp; done)) | (with_reducible refine Kp.setR ?_ ?_ _; focus (simp; done)) | (with_reducible refine Kp.setR ?_ ?_ _; focus (simp; omega))))
          have HN5 : W5.heap[W4.heap.size]? = some (.cells #[.int .i64 ty, .int .i64 flv, .int .i64 st, .slice A3 k3 c3, .int .i64 0, .int .u32 0, .int .i64 0, .int .i64 0, .int .i64 0, .bool false, .int .i64 0, .slice none 0 0] 49) := by rw [← hW]; (repeat (first | with_reducible assumption | (with_reducible refine hp_new _ _ _ ?_; focus (simp; done)) | (with_reducible refine (hp_old _ _ _ ?_).trans ?_; focus (first | omega | (simp; done) | (simp; omega))) | (with_reducible refine (hp_far _ _ _ _ ?_).trans ?_; focus (first | (simp; done) | (simp; omega))) | (with_reducible refine (hp_drew _ _).trans ?_) | (with_reducible refine (hp_drewN _ _ _).trans ?_)))
          have s6 : W5.heap.size = W4.heap.size + 1 := by rw [← hW]; simp
          clear hW
          have F5 := F4.keep K6 (by simp)
          have R5 := R4.keep K6 (by simp)
          have hr5 := hr4.keep K6 (by simp)
          refine Stop.go (wp_app rfl _ _ 41 49 (.agg #[.int .i64 0, .int .i64 0, .int .i64 0, .slice none 0 0, .int .i64 0, .int .u32 0, .int .i64 0, .int .i64 0, .int .i64 0, .bool false, .int .i64 0, .slice none 0 0]) 12 128 rfl Try.underlying41 infoFr rfl (by decide) w0.heap.size AL nL cL (fs.flatMap fun p => Fr.cells p.1) rfl F5.ow (some ⟨W4.heap.size, 0, none⟩) 1 1 (Fr.cells ⟨ty, flv, st, A3, k3, c3, 0, 0, 0, 0, 0, false, 0, none, 0, 0⟩) rfl rfl (At.block HN5 0 _ rfl) (by intro u hu; simp at hu; rcases hu with rfl | rfl | rfl | rfl | rfl | rfl | rfl | rfl | rfl | rfl | rfl | rfl <;> rfl) (by simp only [maxLen]; omega) (by omega) (by have := hK.size; omega) ?_)
          intro A6 k6 c6 w6 hk6 O6 K7 hA6
          have F7 := F5.app (f := ⟨ty, flv, st, A3, k3, c3, 0, 0, 0, 0, 0, false, 0, none, 0, 0⟩) (l := l3) R5 (by intro x hx; have := B3 x hx; omega) (by have := hK.size; omega) O6 hk6.out K7 hA6
          have hAL := F5.ow.base
          have hr6 := hr5.keep K7 (fun hp x hx hx2 => by have h1 := HX.out hp x hx; have h2 := (hAL x hx2).1; omega)
          have K8 := ((hK.trans K4).trans (K5.trans K6)).then K7 (fun t ht => .inr (hAL t ht).1)
          have keys : ∀ i p, (fs ++ [(⟨ty, flv, st, A3, k3, c3, 0, 0, 0, 0, 0, false, 0, none, 0, 0⟩, l3)])[i]? = some p → SpF st true most b i p := by
            intro i p hp
            have hfl := hF.len
            by_cases hi : i < fs.length
            · rw [List.getElem?_append_left hi] at hp
              exact hKEY.out i p hp
            · rw [List.getElem?_append_right (by omega)] at hp
              have hi2 : i - fs.length = 0 := by
                by_cases h0 : i - fs.length = 0
                · exact h0
                · rw [List.getElem?_eq_none (by simp; omega)] at hp; cases hp
              rw [hi2] at hp
              have hp2 : (⟨ty, flv, st, A3, k3, c3, 0, 0, 0, 0, 0, false, 0, none, 0, 0⟩, l3) = p := by simpa using hp
              have hik : i = k := by have := hNL.out; omega
              subst hik
              rw [← hp2]
              refine ⟨hTY.out, ?_, rfl, by rw [hl3.out]; rfl⟩
              show flv = _
              rw [← hflv, hFL.out]
              rw [if_neg hlast]
              try simp
          have HKS := Lib.hid keys
          have HF7 := Lib.hid F7
          have HK8 := Lib.hid K8
          clear keys F7 K8
          go_wp2
          go_roundw
          case rel =>
            refine ⟨some ⟨bb, off + most, none⟩, n' - most, c' - most, 9, 0, A6, k6, c6, rfl, rfl, rfl, rfl, k + 1, fs ++ [(⟨ty, flv, st, A3, k3, c3, 0, 0, 0, 0, 0, false, 0, none, 0, 0⟩, l3)], by omega, by have h1 := hk6.out; have h2 := hNL.out; omega, ?_, fun _ x hx => by simp [ob] at hx; subst hx; exact hxx, HF7.out, by simp, by simp, HKS.out, HK8.out⟩
            have := hr6.sub most n' (by omega) (by omega) (A' := some ⟨bb, off + most, none⟩) (by intro _ _ h _; injection h with h1; injection h1 with h2 h3 _; rw [h2, h3])
            rw [List.drop_drop, List.take_of_length_le (by simp; omega)] at this
            rwa [Nat.add_mul, Nat.one_mul]
          case measure => show n' - most < n'; omega
end Go.Proofs.Ytkmcakneceagpaa
