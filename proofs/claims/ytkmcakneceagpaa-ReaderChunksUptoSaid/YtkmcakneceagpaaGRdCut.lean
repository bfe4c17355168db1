/- Bytes in chunks: 'cut' of layer 8's laws, walked. The program's reader, failed or not: Feed. What a reader tells of chunks: 'all' of layer 8's laws, walked. 'all' of layer 8's laws, walked. Layer 8's laws: readers that are not made, and 'awake'. -/
import Derived.Test.YtkmcakneceagpaaGRfWr
import Derived.Test.YtkmcakneceagpaaPrt
import Derived.Test.YtkmcakneceagpaaGReg4
set_option linter.unusedSimpArgs false
set_option linter.unusedVariables false
namespace Go.Proofs.Ytkmcakneceagpaa
open Go.RowKit
/-- a chunk: a slice, and its bytes -/
structure Pce where
  A : Option Addr
  n : Nat
  c : Nat
  l : List UInt8
def Pce.v (p : Pce) : Value := .slice p.A p.n p.c
theorem infoSl : (Try.prog.info? 22).map (fun i => (i.zero, i.size, i.bytes)) = some (some (.slice none 0 0), 1, 24) := by kernel_rfl
/-- the pieces so far, and what is left -/
structure CutJ (w0 w : World) (Ab : Option Addr) (nb cb : Nat) (lb : List UInt8) (Al : Option Addr) (nl cl : Nat) (qs : List Pce) : Prop where
  rd : Rd w0 Ab nb cb lb
  ow : Ow w w0.heap.size 22 1 Al nl cl (qs.map Pce.v)
  ok : ∀ p, p ∈ qs → Rd w0 p.A p.n p.c p.l ∧ p.n ≤ 4000
  kp : Kp [] w0 w
theorem CutJ.add {w0 w w' : World} {Ab Ab' : Option Addr} {nb cb nb' cb' : Nat} {lb lb' : List UInt8} {Al : Option Addr} {nl cl : Nat} {qs : List Pce} (h : CutJ w0 w Ab nb cb lb Al nl cl qs) (p : Pce) (hp : Rd w0 p.A p.n p.c p.l) (hn : p.n ≤ 4000) (hr : Rd w0 Ab' nb' cb' lb') {A' : Option Addr} {k c : Nat} (O : Ow w' w0.heap.size 22 1 A' k c (qs.map Pce.v ++ [p.v])) (K : Kp (ob Al) w w') : CutJ w0 w' Ab' nb' cb' lb' A' k c (qs ++ [p]) := by
  refine ⟨hr, by rw [List.map_append]; exact O, fun x hx => ?_, h.kp.then K (fun t ht => .inr (h.ow.base t ht).1)⟩
  rcases List.mem_append.1 hx with h1 | h1
  · exact h.ok x h1
  · rw [List.mem_singleton] at h1
    subst h1
    exact ⟨hp, hn⟩
set_option maxHeartbeats 4000000 in
set_option maxRecDepth 100000 in
theorem Cut_any (A : Option Addr) (n c : Nat) (l : List UInt8) (B : Option Addr) (m d : Nat) (lc : List UInt8) (w0 : World) (hr : Rd w0 A n c l) (hn : n ≤ 4000) (hc : Rd w0 B m d lc) (hm : m ≤ 1048576) :
    Calls Try.prog 110 #[.slice A n c, .slice B m d] w0 fun e w' => ∃ (Al : Option Addr) (nl cl : Nat) (qs : List Pce), e = .returned (.slice Al nl cl) ∧ Ow w' w0.heap.size 22 1 Al nl cl (qs.map Pce.v) ∧ (∀ p, p ∈ qs → Rd w0 p.A p.n p.c p.l ∧ p.n ≤ 4000) ∧ (qs.flatMap Pce.l) = l ∧ nl ≤ 1048577 ∧ Kp [] w0 w' := by
  have HC := Lib.hid hc
  have HJ0 : Hid (CutJ w0 w0 A n c l none 0 0 []) := ⟨hr, Ow.nil _ _ _ _, by simp, Kp.refl _ _⟩
  clear hr hc
  go_enter Try.func110, Try.ntmps110
  go_wp2
  go_loopw [0, 5, 6] (fun bv lv i wr => ∃ (k : Nat) (Ab : Option Addr) (nb cb : Nat) (lb : List UInt8) (Al : Option Addr) (nl cl : Nat) (qs : List Pce), k ≤ m ∧ i = .int .i64 k ∧ bv = .slice Ab nb cb ∧ lv = .slice Al nl cl ∧ CutJ w0 wr Ab nb cb lb Al nl cl qs ∧ nl ≤ k ∧ nb ≤ 4000 ∧ qs.flatMap Pce.l ++ lb = l) (fun _ _ i _ => m - (intOf i).toNat)
  case atStart => exact ⟨0, A, n, c, l, none, 0, 0, [], Nat.zero_le _, rfl, rfl, rfl, HJ0.out, Nat.le_refl _, hn, rfl⟩
  case round =>
    clear HJ0
    obtain ⟨k, Ab, nb, cb, lb, Al, nl, cl, qs, hk, rfl, rfl, rfl, hJ, hnl, hnb, hall⟩ := hrel
    have HJ := Lib.hid hJ
    have HALL := Lib.hid hall
    have hcp := hJ.rd.cap
    have hlb := hJ.rd.len
    have HLB := Lib.hid hlb
    clear hJ hall hlb
    by_cases hkl : k < m
    · have hki : (k : Int) < (m : Int) := by omega
      obtain ⟨bc, oc, rfl, hbc, hcc⟩ := HC.out.addr (by omega)
      have hc0 := HJ.out.kp.cell (hcc k hkl) (by simp)
      obtain ⟨y, hy⟩ : ∃ y : Nat, (lc.getD k 0).toNat = y := ⟨_, rfl⟩
      rw [hy] at hc0
      obtain ⟨z, hz⟩ : ∃ z : Nat, y % 64 = z := ⟨_, rfl⟩
      have hz1 : z < 64 := by omega
      have hm1 : ((y : Int).tmod 64) = (z : Int) := by rw [← hz]; simp [Int.tmod]
      have hm2 : ((y : Int) % 64) = (z : Int) := by rw [← hz]; simp
      clear hz hy hcc
      obtain ⟨M, hM⟩ : ∃ M : Nat, min nb z = M := ⟨_, rfl⟩
      have hMn : M ≤ nb := by omega
      have hmin : (if z < nb then (z : Int) else (nb : Int)) = (M : Int) := by rw [← hM]; split <;> omega
      have hMi : (M : Int) ≤ (cb : Int) := by omega
      have hMj : (M : Int) ≤ (nb : Int) := by omega
      clear hM
      go_wp2_with (with_reducible refine stopAt (o := ⟨some 28, _, _, _, _, _⟩) ?_)
      generalize hW : World.alloc _ _ = w1
      have K1 : Kp [] wr w1 := by rw [← hW]; (repeat (first | with_reducible exact Kp.refl _ _ | with_reducible assumption | with_reducible refine Kp.alloc ?_ _ | with_reducible refine Kp.drew ?_ | with_reducible refine Kp.drewN ?_ _ | (with_reducible refine Kp.setL ?_ ?_ _; focus (simp; done)) | (with_reducible refine Kp.setR ?_ ?_ _; focus (simp; done)) | (with_reducible refine Kp.setR ?_ ?_ _; focus (simp; omega))))
      have HN := Lib.hid (show w1.heap[wr.heap.size]? = some (.cells #[.slice Ab M cb] 22) by rw [← hW]; (repeat (first | with_reducible assumption | (with_reducible refine hp_new _ _ _ ?_; focus (simp; done)) | (with_reducible refine (hp_old _ _ _ ?_).trans ?_; focus (first | omega | (simp; done) | (simp; omega))) | (with_reducible refine (hp_far _ _ _ _ ?_).trans ?_; focus (first | (simp; done) | (simp; omega))) | (with_reducible refine (hp_drew _ _).trans ?_) | (with_reducible refine (hp_drewN _ _ _).trans ?_))))
      have HO1 := Lib.hid (HJ.out.ow.keep K1 (by simp))
      have hkp1 := Lib.hid (HJ.out.kp.trans K1)
      refine Stop.go (wp_app rfl _ _ 86 22 (.slice none 0 0) 1 24 rfl Try.underlying86 infoSl rfl (by decide) w0.heap.size Al nl cl (qs.map Pce.v) rfl HO1.out (some ⟨wr.heap.size, 0, none⟩) 1 1 [(⟨Ab, M, cb, lb.take M⟩ : Pce).v] rfl rfl (At.block HN.out 0 _ rfl) (by intro u hu; simp at hu; subst hu; rfl) (by simp only [maxLen]; omega) (by omega) hkp1.out.size ?_)
      intro A6 k6 c6 w6 hk6 O6 K6 hA6
      have hk6a : k6 ≤ nl + 1 := Nat.le_of_eq hk6.out
      have HPC := Lib.hid (show Rd w0 Ab M cb (lb.take M) by have := HJ.out.rd.sub 0 M (by omega) (by omega) (A' := Ab) (by intro _ _ h _; rw [h]; simp); simpa using this)
      have hob := HJ.out.ow.base
      have HADD := Lib.hid (fun (A7 : Option Addr) (c7 : Nat) (hr7 : Rd w0 A7 (nb - M) c7 (lb.drop M)) => ((⟨HJ.out.rd, HO1.out, HJ.out.ok, hkp1.out⟩ : CutJ w0 w1 Ab nb cb lb Al nl cl qs).add (⟨Ab, M, cb, lb.take M⟩ : Pce) HPC.out (by show M ≤ 4000; omega) hr7 O6 K6))
      have HALL2 := Lib.hid (show (qs ++ [(⟨Ab, M, cb, lb.take M⟩ : Pce)]).flatMap Pce.l ++ lb.drop M = l by rw [List.flatMap_append]; simp; exact HALL.out)
      clear hW K1 HN HO1 hkp1 hk6 O6 K6 hA6 hc0 hm1 hm2 hmin hob
      by_cases hcM : cb = M
      · have hnM : nb = M := by omega
        have J := HADD.out Ab 0 (by rw [hnM, Nat.sub_self, List.drop_eq_nil_of_le (by have := HLB.out; omega)]; exact Rd.nil _ _ _)
        rw [hnM, Nat.sub_self] at J
        have HJ7 := Lib.hid J
        clear J HADD HPC HJ HLB HALL
        subst hcM
        obtain rfl : nb = cb := hnM
        go_wp2
        go_roundw
        case rel => exact ⟨k + 1, Ab, 0, 0, _, A6, k6, c6, _, by omega, by go_num, rfl, rfl, HJ7.out, by omega, by omega, HALL2.out⟩
        case measure => simp [intOf]; omega
      · have hcM1 : ¬ (cb : Int) = (M : Int) := by omega
        have hcM2 : ¬ (M : Int) = (cb : Int) := by omega
        by_cases hnb0 : nb = 0
        · obtain rfl : M = 0 := by omega
          have hl0 : lb = [] := List.eq_nil_of_length_eq_zero (by have := HLB.out; omega)
          have J := HADD.out Ab cb (by rw [hnb0, hl0]; exact Rd.nil _ _ _)
          rw [hnb0, Nat.sub_self] at J
          have HJ7 := Lib.hid J
          clear J HADD HPC HJ HLB HALL hl0
          subst hnb0
          go_wp2
          go_roundw
          case rel => exact ⟨k + 1, Ab, 0, cb, _, A6, k6, c6, _, by omega, by go_num, rfl, rfl, HJ7.out, by omega, by omega, HALL2.out⟩
          case measure => simp [intOf]; omega
        · obtain ⟨bb, off, rfl, hbb, _⟩ := HJ.out.rd.addr (by omega)
          have J := HADD.out (some ⟨bb, off + M, none⟩) (cb - M) (by have := HJ.out.rd.sub M nb (by omega) (by omega) (A' := some ⟨bb, off + M, none⟩) (by intro _ _ h _; injection h with h1; injection h1 with h2 h3 _; rw [h2, h3]); rwa [List.take_of_length_le (by have := HLB.out; simp; omega)] at this)
          have HJ7 := Lib.hid J
          clear J HADD HPC HJ HLB HALL
          go_wp2
          go_roundw
          case rel => exact ⟨k + 1, some ⟨bb, off + M, none⟩, nb - M, cb - M, _, A6, k6, c6, _, by omega, by go_num, rfl, rfl, HJ7.out, by omega, by omega, HALL2.out⟩
          case measure => simp [intOf]; omega
    · have hki : ¬ (k : Int) < (m : Int) := by omega
      go_wp2_with (with_reducible refine stopAt (o := ⟨some 35, _, _, _, _, _⟩) ?_)
      generalize hW : World.alloc _ _ = w1
      have K1 : Kp [] wr w1 := by rw [← hW]; (repeat (first | with_reducible exact Kp.refl _ _ | with_reducible assumption | with_reducible refine Kp.alloc ?_ _ | with_reducible refine Kp.drew ?_ | with_reducible refine Kp.drewN ?_ _ | (with_reducible refine Kp.setL ?_ ?_ _; focus (simp; done)) | (with_reducible refine Kp.setR ?_ ?_ _; focus (simp; done)) | (with_reducible refine Kp.setR ?_ ?_ _; focus (simp; omega))))
      have HN := Lib.hid (show w1.heap[wr.heap.size]? = some (.cells #[.slice Ab nb cb] 22) by rw [← hW]; (repeat (first | with_reducible assumption | (with_reducible refine hp_new _ _ _ ?_; focus (simp; done)) | (with_reducible refine (hp_old _ _ _ ?_).trans ?_; focus (first | omega | (simp; done) | (simp; omega))) | (with_reducible refine (hp_far _ _ _ _ ?_).trans ?_; focus (first | (simp; done) | (simp; omega))) | (with_reducible refine (hp_drew _ _).trans ?_) | (with_reducible refine (hp_drewN _ _ _).trans ?_))))
      have HO1 := Lib.hid (HJ.out.ow.keep K1 (by simp))
      have hkp1 := Lib.hid (HJ.out.kp.trans K1)
      refine Stop.go (wp_app rfl _ _ 86 22 (.slice none 0 0) 1 24 rfl Try.underlying86 infoSl rfl (by decide) w0.heap.size Al nl cl (qs.map Pce.v) rfl HO1.out (some ⟨wr.heap.size, 0, none⟩) 1 1 [(⟨Ab, nb, cb, lb⟩ : Pce).v] rfl rfl (At.block HN.out 0 _ rfl) (by intro u hu; simp at hu; subst hu; rfl) (by simp only [maxLen]; omega) (by omega) hkp1.out.size ?_)
      intro A6 k6 c6 w6 hk6 O6 K6 hA6
      have hk6a : k6 ≤ nl + 1 := Nat.le_of_eq hk6.out
      have HJ7 := Lib.hid ((⟨HJ.out.rd, HO1.out, HJ.out.ok, hkp1.out⟩ : CutJ w0 w1 Ab nb cb lb Al nl cl qs).add (⟨Ab, nb, cb, lb⟩ : Pce) HJ.out.rd (by show nb ≤ 4000; omega) HJ.out.rd O6 K6)
      have HALL2 := Lib.hid (show (qs ++ [(⟨Ab, nb, cb, lb⟩ : Pce)]).flatMap Pce.l = l by rw [List.flatMap_append]; simp; exact HALL.out)
      clear hW K1 HN HO1 hkp1 hk6 O6 K6 hA6 HJ HALL HLB
      go_wp2
      go_ret
      exact ⟨A6, k6, c6, _, rfl, HJ7.out.ow, HJ7.out.ok, HALL2.out, by omega, HJ7.out.kp⟩
end Go.Proofs.Ytkmcakneceagpaa

namespace Go.Proofs.Ytkmcakneceagpaa
open Go.RowKit
/-- what a reader is -/
structure Rst where
  is : Bool
  xs : Int
  xc : Int
  l : List UInt8
def NxO.rst (o : NxO) : Rst := ⟨o.is, o.xs, o.xc, o.l⟩
/-- behind a Feed -/
def Rst.fed (a : Rst) (y : List UInt8) : Rst := ⟨a.is, a.xs, a.xc, if a.is = true then a.l else a.l ++ y⟩
/-- Feed, failed or not -/
theorem RdFeedB (g : Nat) (D : List Nat) (w : World) (B : Option Addr) (m d : Nat) (y : List UInt8) (most : Int) (a : Rst) (h : RdS w g D most a.is a.xs a.xc a.l) (hD : ∀ t, t ∈ D → t < w.heap.size) (hy : Rd w B m d y) (hlen : a.is = true ∨ a.l.length + m ≤ 211106232532992) : Calls Try.prog 104 #[.pointer (some ⟨g, 0, none⟩), .slice B m d] w fun e w' => e = .returned (.int .i64 (if a.is = true then 5 else 0)) ∧ ∃ D', (∀ t, t ∈ D' → t ∈ D ∨ w.heap.size ≤ t) ∧ (∀ t, t ∈ D' → t < w'.heap.size) ∧ RdS w' g D' most (a.fed y).is (a.fed y).xs (a.fed y).xc (a.fed y).l ∧ Kp (g :: D) w w' := by
  obtain ⟨is, xs, xc, l⟩ := a
  cases is with
  | true =>
    obtain ⟨A, n, c, h1, h2, h3, h4⟩ := h
    refine (RdFeedS g w B m d A n c most xs xc h1).mono ?_
    rintro e w' ⟨rfl, K⟩
    exact ⟨rfl, D, fun t h => .inl h, fun t h => Nat.lt_of_lt_of_le (hD t h) K.size, ⟨A, n, c, K.heap h1 (by simp), h2.keep K (by simp), h3, h4⟩, K.nil⟩
  | false =>
    refine (RdFeed g D w B m d y l most xs xc h hy (by rcases hlen with h | h; cases h; exact h)).mono ?_
    rintro e w' ⟨rfl, D', d1, d2, S, K⟩
    exact ⟨rfl, D', d1, d2, S, K⟩
end Go.Proofs.Ytkmcakneceagpaa

namespace Go.Proofs.Ytkmcakneceagpaa
open Go.RowKit
theorem infoFr9 : (Try.prog.info? 49).map (fun i => (i.zero, i.size, i.bytes)) = some (some (.agg #[.int .i64 0, .int .i64 0, .int .i64 0, .slice none 0 0, .int .i64 0, .int .u32 0, .int .i64 0, .int .i64 0, .int .i64 0, .bool false, .int .i64 0, .slice none 0 0]), 12, 128) := by kernel_rfl
theorem infoFl9 : (Try.prog.info? 64).map (fun i => (i.zero, i.size, i.bytes)) = some (some (.agg #[.bool false, .int .i64 0, .int .i64 0]), 3, 24) := by kernel_rfl
def xcs (x : Int × Int) : List Value := [.bool true, .int .i64 x.1, .int .i64 x.2]
def fsF (fs : List (Fr × Fp)) : List (Fr × List UInt8) := fs.map fun p => (p.1, p.2.pl)
theorem xcs_len (xs : List (Int × Int)) : (xs.flatMap xcs).length = xs.length * 3 := by
  induction xs with
  | nil => rfl
  | cons p fs ih => simp only [List.flatMap_cons, List.length_append, ih]; simp [xcs]; omega
theorem xcs_at : ∀ (xs : List (Int × Int)) (i : Nat) (x : Int × Int), xs[i]? = some x → ∀ j u, (xcs x)[j]? = some u → (xs.flatMap xcs)[i * 3 + j]? = some u
  | [], i, p, h, _, _, _ => by simp at h
  | q :: fs, 0, p, h, j, u, hu => by
    simp at h
    subst h
    simp only [List.flatMap_cons, Nat.zero_mul, Nat.zero_add]
    rw [List.getElem?_append_left (List.getElem?_eq_some_iff.1 hu).1]
    exact hu
  | q :: fs, i + 1, p, h, j, u, hu => by
    simp only [List.flatMap_cons]
    have hq : (xcs q).length = 3 := rfl
    rw [List.getElem?_append_right (by rw [hq]; omega)]
    have := xcs_at fs i p (by simpa using h) j u hu
    rw [← this]
    congr 1
    rw [hq]
    omega
/-- the blocks of a frame lie beside S -/
def FrAp (f : Fr) (S : List Nat) : Prop := (0 < f.pn → ∀ b, b ∈ ob f.pA → b ∉ S) ∧ (0 < f.sn → ∀ b, b ∈ ob f.sA → b ∉ S)
theorem WrOk.keepS {S : List Nat} {w w' : World} {f : Fr} {l : List UInt8} {ss : List (Int × Int)} (h : WrOk w f l ss) (k : Kp S w w') (a : FrAp f S) : WrOk w' f l ss :=
  ⟨h.rd.keep k (fun hn b hb => a.1 hn b hb), h.pn, h.code, h.sd.keep k (fun hn b hb => a.2 hn b hb), h.sn⟩
theorem WrOk.lt {w : World} {f : Fr} {l : List UInt8} {ss : List (Int × Int)} (h : WrOk w f l ss) : (0 < f.pn → ∀ b, b ∈ ob f.pA → b < w.heap.size) ∧ (0 < f.sn → ∀ b, b ∈ ob f.sA → b < w.heap.size) := by
  refine ⟨fun hn b hb => ?_, fun hn b hb => ?_⟩
  · obtain ⟨b', off, hA, hlt, _⟩ := h.rd.addr hn
    rw [hA] at hb
    simp [ob] at hb
    omega
  · obtain ⟨b', off, hA, hlt, _⟩ := h.sd.at_ hn
    rw [hA] at hb
    simp [ob] at hb
    omega
/-- what is gathered beside a machine of the blocks M: frames, faults -/
structure AllJ (w0 w : World) (Al : Option Addr) (nl cl : Nat) (Ax : Option Addr) (nx cx : Nat) (fs : List (Fr × Fp)) (xs : List (Int × Int)) (M : List Nat) : Prop where
  ol : Ow w w0.heap.size 49 12 Al nl cl ((fsF fs).flatMap fun p => Fr.cells p.1)
  ox : Ow w w0.heap.size 64 3 Ax nx cx (xs.flatMap xcs)
  d : ∀ t, t ∈ ob Al → t ∉ ob Ax
  ok : ∀ p, p ∈ fs → WrOk w p.1 p.2.pl p.2.ss ∧ p.1.p p.2.pl p.2.ss = p.2 ∧ FrAp p.1 (ob Al ++ ob Ax ++ M)
  m : ∀ t, t ∈ M → w0.heap.size ≤ t ∧ t < w.heap.size ∧ t ∉ ob Al ∧ t ∉ ob Ax
  kp : Kp [] w0 w
section
variable {w0 w w' : World} {Al : Option Addr} {nl cl : Nat} {Ax : Option Addr} {nx cx : Nat} {fs : List (Fr × Fp)} {xs : List (Int × Int)} {M M' : List Nat}
theorem FrAp.mono {f : Fr} {S T : List Nat} (h : FrAp f S) (hT : ∀ t, t ∈ T → t ∈ S) : FrAp f T := ⟨fun hn b hb ht => h.1 hn b hb (hT b ht), fun hn b hb ht => h.2 hn b hb (hT b ht)⟩
theorem AllJ.lenL (h : AllJ w0 w Al nl cl Ax nx cx fs xs M) : fs.length = nl := by have h1 := h.ol.len; rw [cells_len] at h1; simp [fsF] at h1; omega
theorem AllJ.lenX (h : AllJ w0 w Al nl cl Ax nx cx fs xs M) : xs.length = nx := by have h1 := h.ox.len; rw [xcs_len] at h1; omega
/-- the machine turns, and takes new blocks -/
theorem AllJ.turn (h : AllJ w0 w Al nl cl Ax nx cx fs xs M) (k : Kp M w w') (d1 : ∀ t, t ∈ M' → t ∈ M ∨ w.heap.size ≤ t) (d2 : ∀ t, t ∈ M' → t < w'.heap.size) : AllJ w0 w' Al nl cl Ax nx cx fs xs M' := by
  have hs := k.size
  have hs0 := h.kp.size
  have bl := h.ol.base
  have bx := h.ox.base
  refine ⟨h.ol.keep k (fun b hb hm => (h.m b hm).2.2.1 hb), h.ox.keep k (fun b hb hm => (h.m b hm).2.2.2 hb), h.d, fun p hp => ?_, fun t ht => ?_, h.kp.then k (fun t ht => .inr (h.m t ht).1)⟩
  · obtain ⟨o1, o2, o3⟩ := h.ok p hp
    have lt := o1.lt
    have key : ∀ b, b < w.heap.size → b ∉ ob Al ++ ob Ax ++ M → b ∉ ob Al ++ ob Ax ++ M' := by
      intro b hb hn hm
      rcases List.mem_append.1 hm with e | e
      · exact hn (List.mem_append_left _ e)
      · rcases d1 b e with e | e
        · exact hn (List.mem_append_right _ e)
        · omega
    refine ⟨o1.keepS k (o3.mono (fun t ht => List.mem_append_right _ ht)), o2, fun hn b hb => key b (lt.1 hn b hb) (o3.1 hn b hb), fun hn b hb => key b (lt.2 hn b hb) (o3.2 hn b hb)⟩
  · have h2 := d2 t ht
    rcases d1 t ht with e | e
    · have h3 := h.m t e
      exact ⟨h3.1, h2, h3.2.2⟩
    · exact ⟨by omega, h2, fun e' => by have := bl t e'; omega, fun e' => by have := bx t e'; omega⟩
theorem AllJ.keep (h : AllJ w0 w Al nl cl Ax nx cx fs xs M) (k : Kp [] w w') : AllJ w0 w' Al nl cl Ax nx cx fs xs M := h.turn k.nil (fun t ht => .inl ht) (fun t ht => by have := h.m t ht; have := k.size; omega)
/-- a frame more -/
theorem AllJ.addF {A' : Option Addr} {k c : Nat} {f : Fr} {p : Fp} (h : AllJ w0 w Al nl cl Ax nx cx fs xs M) (hf : WrOk w f p.pl p.ss) (he : f.p p.pl p.ss = p) (ha : FrAp f (ob Al ++ ob Ax ++ M)) (O : Ow w' w0.heap.size 49 12 A' k c (((fsF fs).flatMap fun p => Fr.cells p.1) ++ Fr.cells f)) (K : Kp (ob Al) w w') (hA : A' = Al ∨ A' = some ⟨w.heap.size, 0, none⟩) : AllJ w0 w' A' k c Ax nx cx (fs ++ [(f, p)]) xs M := by
  have bx := h.ox.base
  have hs := K.size
  have key : ∀ b, b < w.heap.size → b ∉ ob Al ++ ob Ax ++ M → b ∉ ob A' ++ ob Ax ++ M := by
    intro b hb hn hm
    rcases hA with rfl | rfl
    · exact hn hm
    · simp [ob] at hm hn
      rcases hm with e | e | e
      · omega
      · exact hn.2.1 e
      · exact hn.2.2 e
  have tr : ∀ g : Fr, ∀ (l : List UInt8) (ss : List (Int × Int)), WrOk w g l ss → FrAp g (ob Al ++ ob Ax ++ M) → WrOk w' g l ss ∧ FrAp g (ob A' ++ ob Ax ++ M) := fun g l ss h1 h2 =>
    ⟨h1.keepS K (h2.mono (fun t ht => by simp [ht])), fun hn b hb => key b (h1.lt.1 hn b hb) (h2.1 hn b hb), fun hn b hb => key b (h1.lt.2 hn b hb) (h2.2 hn b hb)⟩
  refine ⟨?_, h.ox.keep K (fun b hb hm => h.d b hm hb), fun t ht => ?_, fun q hq => ?_, fun t ht => ?_, h.kp.then K (fun t ht => .inr (h.ol.base t ht).1)⟩
  · have e : (fsF (fs ++ [(f, p)])).flatMap (fun p => Fr.cells p.1) = ((fsF fs).flatMap fun p => Fr.cells p.1) ++ Fr.cells f := by simp [fsF]
    rw [e]
    exact O
  · rcases hA with rfl | rfl
    · exact h.d t ht
    · simp [ob] at ht
      subst ht
      exact fun hm => by have := bx _ hm; omega
  · rcases List.mem_append.1 hq with h1 | h1
    · obtain ⟨o1, o2, o3⟩ := h.ok q h1
      have := tr _ _ _ o1 o3
      exact ⟨this.1, o2, this.2⟩
    · rw [List.mem_singleton] at h1
      subst h1
      have := tr _ _ _ hf ha
      exact ⟨this.1, he, this.2⟩
  · have h3 := h.m t ht
    refine ⟨h3.1, by omega, fun e => ?_, h3.2.2.2⟩
    rcases hA with rfl | rfl
    · exact h3.2.2.1 e
    · simp [ob] at e
      omega
/-- a fault more -/
theorem AllJ.addX {A' : Option Addr} {k c : Nat} {x : Int × Int} (h : AllJ w0 w Al nl cl Ax nx cx fs xs M) (O : Ow w' w0.heap.size 64 3 A' k c (xs.flatMap xcs ++ xcs x)) (K : Kp (ob Ax) w w') (hA : A' = Ax ∨ A' = some ⟨w.heap.size, 0, none⟩) : AllJ w0 w' Al nl cl A' k c fs (xs ++ [x]) M := by
  have bl := h.ol.base
  have hs := K.size
  have key : ∀ b, b < w.heap.size → b ∉ ob Al ++ ob Ax ++ M → b ∉ ob Al ++ ob A' ++ M := by
    intro b hb hn hm
    rcases hA with rfl | rfl
    · exact hn hm
    · simp [ob] at hm hn
      rcases hm with e | e | e
      · exact hn.1 e
      · omega
      · exact hn.2.2 e
  refine ⟨h.ol.keep K (fun b hb hm => h.d b hb hm), ?_, fun t ht => ?_, fun q hq => ?_, fun t ht => ?_, h.kp.then K (fun t ht => .inr (h.ox.base t ht).1)⟩
  · have e : (xs ++ [x]).flatMap xcs = xs.flatMap xcs ++ xcs x := by simp
    rw [e]
    exact O
  · rcases hA with rfl | rfl
    · exact h.d t ht
    · intro hm
      simp [ob] at hm
      have := bl t ht
      omega
  · obtain ⟨o1, o2, o3⟩ := h.ok q hq
    exact ⟨o1.keepS K (o3.mono (fun t ht => by simp [ht])), o2, fun hn b hb => key b (o1.lt.1 hn b hb) (o3.1 hn b hb), fun hn b hb => key b (o1.lt.2 hn b hb) (o3.2 hn b hb)⟩
  · have h3 := h.m t ht
    refine ⟨h3.1, by omega, h3.2.2.1, fun e => ?_⟩
    rcases hA with rfl | rfl
    · exact h3.2.2.2 e
    · simp [ob] at e
      omega
end
/-- what tells was alive, and has used nine bytes -/
theorem NxR.alive {most : Int} {is : Bool} {a b : Int} {l : List UInt8} {o : NxO} (h : NxR most is a b l o) (h0 : is = true → a = 0) (ht : o.x = true ∨ (o.p = true ∧ o.st ≠ 0)) : is = false ∧ o.is = false ∧ o.l.length + 9 ≤ l.length := by
  rcases h with ⟨rfl, rfl⟩ | ⟨rfl, m, h1, h2, rfl⟩
  · rcases ht with h | ⟨_, h⟩
    · cases h
    · exact absurd (h0 rfl) h
  · have hl := h1.len
    refine ⟨rfl, ?_⟩
    unfold nxO at ht ⊢
    split at ht
    · simp at ht
    rename_i he
    rw [if_neg he]
    have hu := ps_used m most (by simpa using he)
    split at ht
    · rename_i hi
      rw [if_pos hi]
      split at ht
      · simp at ht
      · rename_i hx
        rw [if_neg hx]
        rcases hu with ⟨_, h⟩ | ⟨u1, u2⟩
        · exact absurd h hx
        · refine ⟨rfl, ?_⟩
          simp
          omega
    · rename_i hi
      rw [if_neg hi]
      rcases hu with ⟨h, _⟩ | ⟨u1, u2⟩
      · exact absurd h hi
      · refine ⟨rfl, ?_⟩
        simp
        omega
end Go.Proofs.Ytkmcakneceagpaa

namespace Go.Proofs.Ytkmcakneceagpaa
open Go.RowKit
/-- the bytes of the first k chunks -/
def bts (qs : List Pce) (k : Nat) : List UInt8 := (qs.take k).flatMap Pce.l
theorem bts_succ (qs : List Pce) (k : Nat) (p : Pce) (h : qs[k]? = some p) : bts qs (k + 1) = bts qs k ++ p.l := by
  unfold bts
  rw [List.take_add_one, h]
  simp
theorem bts_le (qs : List Pce) (k : Nat) : (bts qs k).length ≤ (qs.flatMap Pce.l).length := by
  unfold bts
  conv => rhs; rw [← List.take_append_drop k qs]
  rw [List.flatMap_append]
  simp
def fsP (fs : List (Fr × Fp)) : List Fp := fs.map Prod.snd
/-- what 'all' leaves -/
def AllR (w0 : World) (B : List UInt8) (e : Ending) (w' : World) : Prop :=
  ∃ (Al : Option Addr) (nl cl : Nat) (Ax : Option Addr) (nx cx : Nat) (fs : List (Fr × Fp)) (xs : List (Int × Int)) (M : List Nat) (is : Bool) (a : Int) (l : List UInt8),
    e = .returned (.tuple #[.slice Al nl cl, .slice Ax nx cx, .bool true]) ∧ AllJ w0 w' Al nl cl Ax nx cx fs xs M ∧ nl ≤ 4000 ∧ nx ≤ 4000 ∧ Done 16384 B (fsP fs) xs is a l
set_option maxHeartbeats 8000000 in
set_option maxRecDepth 100000 in
theorem All_any (A : Option Addr) (m c base : Nat) (qs : List Pce) (B : List UInt8) (w0 : World) (ho : Ow w0 base 22 1 A m c (qs.map Pce.v)) (hq : ∀ p, p ∈ qs → Rd w0 p.A p.n p.c p.l) (hB : qs.flatMap Pce.l = B) (hlen : B.length ≤ 4000) (hm : m ≤ 1048577) :
    Calls Try.prog 109 #[.slice A m c] w0 (AllR w0 B) := by
  have HO := Lib.hid ho
  have HQ := Lib.hid hq
  have HB := Lib.hid hB
  have HLEN := Lib.hid (show ∀ k, (bts qs k).length ≤ 4000 from fun k => by have := bts_le qs k; rw [hB] at this; omega)
  have hql : qs.length = m := by have := ho.len; simpa using this
  have HQL := Lib.hid hql
  clear ho hq hB hql hlen
  go_enter Try.func109, Try.ntmps109
  go_wp2_with fail
  refine (RdNew 16384 (by omega) (by omega) _).mono ?_
  rintro e w1 ⟨g, rfl, hg0, S1, K1⟩
  have hg1 : w0.heap.size ≤ g := by omega
  clear hg0
  have HS1 := Lib.hid S1
  have HJ1 : Hid (AllJ w0 w1 none 0 0 none 0 0 [] [] [g]) := ⟨Ow.nil _ _ _ _, Ow.nil _ _ _ _, by simp [ob], by simp, fun t ht => by simp at ht; subst ht; exact ⟨hg1, S1.lt, by simp [ob], by simp [ob]⟩, K1⟩
  clear S1 K1 hg1
  go_wp2
  go_loopw [7, 8, 9] (fun lv xv i wr => ∃ (k : Nat) (a : Rst) (Al : Option Addr) (nl cl : Nat) (Ax : Option Addr) (nx cx : Nat) (fs : List (Fr × Fp)) (xs : List (Int × Int)) (D : List Nat), k ≤ m ∧ i = .int .i64 k ∧ lv = .slice Al nl cl ∧ xv = .slice Ax nx cx ∧ RdS wr g D 16384 a.is a.xs a.xc a.l ∧ AllJ w0 wr Al nl cl Ax nx cx fs xs (g :: D) ∧ Done 16384 (bts qs k) (fsP fs) xs a.is a.xs a.l ∧ 9 * (nl + nx) ≤ 4000 ∧ (a.is = false → 9 * (nl + nx) + a.l.length ≤ (bts qs k).length)) (fun _ _ i _ => m - (intOf i).toNat)
  case atStart => exact ⟨0, ⟨false, 0, 0, []⟩, none, 0, 0, none, 0, 0, [], [], [], Nat.zero_le _, rfl, rfl, rfl, HS1.out, HJ1.out, Done.zero 16384 (by omega), by omega, fun _ => by simp⟩
  case round =>
    clear HS1 HJ1
    obtain ⟨k, a, Al, nl, cl, Ax, nx, cx, fs, xs, D, hk, rfl, rfl, rfl, hS, hJ, hD, hn, hal⟩ := hrel
    have HS := Lib.hid hS
    have HJ := Lib.hid hJ
    have HD := Lib.hid hD
    have HAL := Lib.hid hal
    clear hS hJ hD hal
    by_cases hkl : k < m
    · have hki : (k : Int) < (m : Int) := by omega
      have hkq : k < qs.length := by rw [HQL.out]; exact hkl
      obtain ⟨p, hp⟩ : ∃ p, qs[k]? = some p := ⟨_, List.getElem?_eq_getElem hkq⟩
      have hpm : p ∈ qs := List.mem_of_getElem? hp
      have HX := Lib.hid (HQ.out p hpm)
      have HBS := Lib.hid (bts_succ qs k p hp)
      obtain ⟨b, off, rfl, hcc⟩ := HO.out.at_ (by simp; omega)
      have hc0 := hcc k p.v (by simp [hp])
      have hb0 : b < w0.heap.size := World.block_lt_of_cell? w0 _ hc0
      have HC1 := HJ.out.kp.cell hc0 (by simp)
      have hRd := HX.out.keep HJ.out.kp (by simp)
      have hpl := HX.out.len
      have hfit := HLEN.out (k + 1)
      rw [HBS.out] at hfit
      simp only [List.length_append] at hfit
      have hlim : a.is = true ∨ a.l.length + p.n ≤ 211106232532992 := by
        cases h : a.is with
        | true => exact .inl rfl
        | false => have := HAL.out h; exact .inr (by omega)
      have dl := fun t ht => (HJ.out.m t (List.mem_cons_of_mem _ ht)).2.1
      have HT0 := Lib.hid (Told.feed HD.out p.l)
      unfold Pce.v at HC1
      clear hcc hc0 hp hpm
      go_wp2_with fail
      refine (RdFeedB g D wr p.A p.n p.c p.l 16384 a HS.out dl hRd hlim).mono ?_
      obtain ⟨fc, hfc⟩ : ∃ fc : Int, (if a.is = true then (5 : Int) else 0) = fc := ⟨_, rfl⟩
      rw [hfc]
      clear hfc
      rintro e w2 ⟨rfl, D2, d1, d2, S2, K2⟩
      have HS2 := Lib.hid S2
      have HJ2 := Lib.hid (HJ.out.turn (M' := g :: D2) K2 (fun t ht => by rcases List.mem_cons.1 ht with e | e; exact .inl (by simp [e]); rcases d1 t e with e | e; exact .inl (by simp [e]); exact .inr e) (fun t ht => by rcases List.mem_cons.1 ht with e | e; subst e; exact S2.lt; exact d2 t e))
      have HT2 : Hid (Told 16384 (bts qs (k + 1)) (fsP fs) xs (a.fed p.l).is (a.fed p.l).xs (a.fed p.l).l) := by
        show Told _ _ _ _ _ _ _
        rw [HBS.out]
        exact HT0.out
      have HAL2 : Hid ((a.fed p.l).is = false → 9 * (nl + nx) + (a.fed p.l).l.length ≤ (bts qs (k + 1)).length) := by
        intro h
        have h' : a.is = false := h
        have := HAL.out h'
        have e : (a.fed p.l).l = a.l ++ p.l := by simp [Rst.fed, h']
        rw [e, HBS.out]
        simp
        omega
      have hfit2 : (bts qs (k + 1)).length ≤ 4000 := HLEN.out (k + 1)
      generalize a.fed p.l = a2 at HS2 HT2 HAL2
      clear S2 K2 d1 d2 HS HJ HD HAL HT0 HX HBS HC1 hRd hlim dl hfit hpl
      go_wp2
      go_loopw [7, 8, 10] (fun lv xv j wr => ∃ (q : Nat) (a : Rst) (Al : Option Addr) (nl cl : Nat) (Ax : Option Addr) (nx cx : Nat) (fs : List (Fr × Fp)) (xs : List (Int × Int)), j = .int .i64 q ∧ lv = .slice Al nl cl ∧ xv = .slice Ax nx cx ∧ RdS wr g D2 16384 a.is a.xs a.xc a.l ∧ AllJ w0 wr Al nl cl Ax nx cx fs xs (g :: D2) ∧ Told 16384 (bts qs (k + 1)) (fsP fs) xs a.is a.xs a.l ∧ 9 * (nl + nx) ≤ 4000 ∧ (a.is = false → 9 * (nl + nx) + a.l.length ≤ (bts qs (k + 1)).length ∧ 9 * q + a.l.length ≤ 4000) ∧ (a.is = true → q = 0)) (fun _ _ j _ => 10000 - (intOf j).toNat)
      case atStart => exact ⟨0, a2, Al, nl, cl, Ax, nx, cx, fs, xs, rfl, rfl, rfl, HS2.out, HJ2.out, HT2.out, hn, fun h => by have := HAL2.out h; exact ⟨this, by omega⟩, fun _ => rfl⟩
      case round =>
        clear HS2 HJ2 HT2 HAL2 hn
        obtain ⟨q, a, Al, nl, cl, Ax, nx, cx, fs, xs, rfl, rfl, rfl, hS, hJ, hT, hn, hal, hq0⟩ := hrel
        have hqi : (q : Int) < 10000 := by
          cases h : a.is with
          | true => have := hq0 h; omega
          | false => have := (hal h).2; omega
        have HS := Lib.hid hS
        have HJ := Lib.hid hJ
        have HT := Lib.hid hT
        have HAL := Lib.hid hal
        have dl := fun t ht => (hJ.m t (List.mem_cons_of_mem _ ht)).2.1
        have hl1 : a.is = true ∨ a.l.length ≤ 281474976710656 := by
          cases h : a.is with
          | true => exact .inl rfl
          | false => have := (hal h).2; exact .inr (by omega)
        have hzero : a.is = true → a.xs = 0 := fun h => by rcases hT with ⟨h1, _⟩ | ⟨_, h1, _⟩; rw [h] at h1; cases h1; exact h1
        have HZ := Lib.hid hzero
        clear hS hJ hT hal hq0 hzero
        go_wp2_with fail
        refine (RdNextB g D2 wr 16384 a.is a.xs a.xc a.l HS.out dl (by omega) hl1).mono ?_
        rintro e x2 ⟨o, f, hO, rfl, hf, S2, K2⟩
        have HO := Lib.hid hO
        have HOK := Lib.hid hO.ok
        have HS2 := Lib.hid S2
        have HJ2 := Lib.hid (HJ.out.turn (M' := g :: D2) K2 (fun t ht => .inl ht) (fun t ht => Nat.lt_of_lt_of_le (HJ.out.m t ht).2.1 K2.size))
        have hbl := HJ.out.ol.base
        have hbx := HJ.out.ox.base
        have HAP : Hid (FrAp f (ob Al ++ ob Ax ++ (g :: D2))) := by
          have key : ∀ b, wr.heap.size ≤ b → b ∉ ob Al ++ ob Ax ++ (g :: D2) := by
            intro b hb hm
            rcases List.mem_append.1 hm with e | e
            · rcases List.mem_append.1 e with e | e
              · have := hbl b e; omega
              · have := hbx b e; omega
            · have := HJ.out.m b e; omega
          exact ⟨fun _ b hb => key b (hf.pb b hb), fun _ b hb => key b (hf.sb b hb)⟩
        have HWK := Lib.hid (hf.wrok HOK.out.1 HOK.out.2.1 HOK.out.2.2)
        have HEQ := Lib.hid hf.eq
        clear hO hf S2 K2 HS HJ dl hl1 hbl hbx
        cases hox : o.x with
        | true =>
          obtain ⟨al1, al2, al3⟩ := HO.out.alive HZ.out (.inl hox)
          have hal2 := HAL.out al1
          have HT3 := Lib.hid (HT.out.frame HO.out hox)
          clear HO HT HAL HZ
          go_wp2_with (with_reducible refine stopAt (o := ⟨some 46, _, _, _, _, _⟩) ?_)
          generalize hW : World.alloc _ _ = x3
          have K3 : Kp [] x2 x3 := by rw [← hW]; (repeat (first | with_reducible exact Kp.refl _ _ | with_reducible assumption | with_reducible refine Kp.alloc ?_ _ | with_reducible refine Kp.drew ?_ | with_reducible refine Kp.drewN ?_ _ | (with_reducible refine Kp.setL ?_ ?_ _; focus (simp; done)) | (with_reducible refine Kp.setR ?_ ?_ _; focus (simp; done)) | (with_reducible refine Kp.setR ?_ ?_ _; focus (simp; omega))))
          have HN := Lib.hid (show x3.heap[x2.heap.size + 1 + 1]? = some (.cells #[.int .i64 f.ty, .int .i64 f.fl, .int .i64 f.st, .slice f.pA f.pn f.pc, .int .i64 f.pad, .int .u32 f.code, .int .i64 f.last, .int .i64 f.inc, .int .i64 f.dep, .bool f.only, .int .i64 f.wt, .slice f.sA f.sn f.sc] 49) by rw [← hW]; (repeat (first | with_reducible assumption | (with_reducible refine hp_new _ _ _ ?_; focus (simp; done)) | (with_reducible refine (hp_old _ _ _ ?_).trans ?_; focus (first | omega | (simp; done) | (simp; omega))) | (with_reducible refine (hp_far _ _ _ _ ?_).trans ?_; focus (first | (simp; done) | (simp; omega))) | (with_reducible refine (hp_drew _ _).trans ?_) | (with_reducible refine (hp_drewN _ _ _).trans ?_))))
          have HJ3 := Lib.hid (HJ2.out.keep K3)
          have HS3 := Lib.hid (HS2.out.keep K3 (by simp) (by simp))
          have HW3 := Lib.hid (HWK.out.keepS K3 ⟨by simp, by simp⟩)
          clear hW K3 HJ2 HS2 HWK
          refine Stop.go (wp_app rfl _ _ 41 49 (.agg #[.int .i64 0, .int .i64 0, .int .i64 0, .slice none 0 0, .int .i64 0, .int .u32 0, .int .i64 0, .int .i64 0, .int .i64 0, .bool false, .int .i64 0, .slice none 0 0]) 12 128 rfl Try.underlying41 infoFr9 rfl (by decide) w0.heap.size Al nl cl ((fsF fs).flatMap fun p => Fr.cells p.1) rfl HJ3.out.ol (some ⟨x2.heap.size + 1 + 1, 0, none⟩) 1 1 (Fr.cells f) rfl rfl (At.block HN.out 0 _ rfl) (by intro u hu; simp at hu; rcases hu with rfl | rfl | rfl | rfl | rfl | rfl | rfl | rfl | rfl | rfl | rfl | rfl <;> rfl) (by simp only [maxLen]; omega) (by omega) HJ3.out.kp.size ?_)
          intro A6 k6 c6 x6 hk6 O6 K6 hA6
          have HJ6 := Lib.hid (HJ3.out.addF HW3.out HEQ.out HAP.out O6 K6 hA6)
          have HS6 := Lib.hid (HS3.out.keep K6 (fun hm => (HJ3.out.m g (by simp)).2.2.1 hm) (fun t ht hm => (HJ3.out.m t (List.mem_cons_of_mem _ ht)).2.2.1 hm))
          have hk6a : k6 ≤ nl + 1 := Nat.le_of_eq hk6.out
          have HT6 : Hid (Told 16384 (bts qs (k + 1)) (fsP (fs ++ [(f, o.f)])) xs o.is o.xs o.l) := by
            show Told _ _ _ _ _ _ _
            unfold fsP
            rw [List.map_append]
            exact HT3.out
          clear hk6 O6 K6 hA6 HN HJ3 HS3 HW3 HT3 HAP HEQ
          go_wp2
          go_roundw
          case rel => exact ⟨q + 1, o.rst, A6, k6, c6, Ax, nx, cx, fs ++ [(f, o.f)], xs, by go_num, rfl, rfl, HS6.out, HJ6.out, HT6.out, by omega, fun _ => ⟨by show 9 * (k6 + nx) + o.l.length ≤ _; omega, by show 9 * (q + 1) + o.l.length ≤ 4000; omega⟩, fun h => by have h' : o.is = true := h; rw [al2] at h'; cases h'⟩
          case measure => simp [intOf]; omega
        | false =>
          by_cases hpx : o.p = true ∧ o.st ≠ 0
          · obtain ⟨hp, hst⟩ := hpx
            obtain ⟨al1, al2, al3⟩ := HO.out.alive HZ.out (.inr ⟨hp, hst⟩)
            have hal2 := HAL.out al1
            have HT3 := Lib.hid (HT.out.fault HO.out hox hp hst)
            clear HO HT HAL HZ HAP HWK HEQ
            rw [hp]
            go_wp2_with (with_reducible refine stopAt (o := ⟨some 57, _, _, _, _, _⟩) ?_)
            generalize hW : World.alloc _ _ = x3
            have K3 : Kp [] x2 x3 := by rw [← hW]; (repeat (first | with_reducible exact Kp.refl _ _ | with_reducible assumption | with_reducible refine Kp.alloc ?_ _ | with_reducible refine Kp.drew ?_ | with_reducible refine Kp.drewN ?_ _ | (with_reducible refine Kp.setL ?_ ?_ _; focus (simp; done)) | (with_reducible refine Kp.setR ?_ ?_ _; focus (simp; done)) | (with_reducible refine Kp.setR ?_ ?_ _; focus (simp; omega))))
            have HN := Lib.hid (show x3.heap[x2.heap.size + 1 + 1]? = some (.cells #[.bool true, .int .i64 o.st, .int .i64 o.code] 64) by rw [← hW]; (repeat (first | with_reducible assumption | (with_reducible refine hp_new _ _ _ ?_; focus (simp; done)) | (with_reducible refine (hp_old _ _ _ ?_).trans ?_; focus (first | omega | (simp; done) | (simp; omega))) | (with_reducible refine (hp_far _ _ _ _ ?_).trans ?_; focus (first | (simp; done) | (simp; omega))) | (with_reducible refine (hp_drew _ _).trans ?_) | (with_reducible refine (hp_drewN _ _ _).trans ?_))))
            have HJ3 := Lib.hid (HJ2.out.keep K3)
            have HS3 := Lib.hid (HS2.out.keep K3 (by simp) (by simp))
            clear hW K3 HJ2 HS2
            refine Stop.go (wp_app rfl _ _ 153 64 (.agg #[.bool false, .int .i64 0, .int .i64 0]) 3 24 rfl Try.underlying153 infoFl9 rfl (by decide) w0.heap.size Ax nx cx (xs.flatMap xcs) rfl HJ3.out.ox (some ⟨x2.heap.size + 1 + 1, 0, none⟩) 1 1 (xcs (o.st, o.code)) rfl rfl (At.block HN.out 0 _ rfl) (by intro u hu; simp [xcs] at hu; rcases hu with rfl | rfl | rfl <;> rfl) (by simp only [maxLen]; omega) (by omega) HJ3.out.kp.size ?_)
            intro A6 k6 c6 x6 hk6 O6 K6 hA6
            have HJ6 := Lib.hid (HJ3.out.addX O6 K6 hA6)
            have HS6 := Lib.hid (HS3.out.keep K6 (fun hm => (HJ3.out.m g (by simp)).2.2.2 hm) (fun t ht hm => (HJ3.out.m t (List.mem_cons_of_mem _ ht)).2.2.2 hm))
            have hk6a : k6 ≤ nx + 1 := Nat.le_of_eq hk6.out
            clear hk6 O6 K6 hA6 HN HJ3 HS3
            go_wp2
            go_roundw
            case rel => exact ⟨q + 1, o.rst, Al, nl, cl, A6, k6, c6, fs, xs ++ [(o.st, o.code)], by go_num, rfl, rfl, HS6.out, HJ6.out, HT3.out, by omega, fun _ => ⟨by show 9 * (nl + k6) + o.l.length ≤ _; omega, by show 9 * (q + 1) + o.l.length ≤ 4000; omega⟩, fun h => by have h' : o.is = true := h; rw [al2] at h'; cases h'⟩
            case measure => simp [intOf]; omega
          · have hpz : o.p = false ∨ o.st = 0 := by
              cases h : o.p with
              | false => exact .inl rfl
              | true => right; exact Classical.byContradiction fun h2 => hpx ⟨h, h2⟩
            have HD3 := Lib.hid (Told.stop HT.out HO.out hox hpz)
            have HAL3 : Hid (o.is = false → 9 * (nl + nx) + o.l.length ≤ (bts qs (k + 1)).length) := by
              intro h
              have ht := HO.out.tells (by omega)
              cases ha : a.is with
              | true => have := (ht.2.1 ha).2; rw [h] at this; cases this
              | false => have h1 := (HAL.out ha).1; have h2 := ht.1; omega
            clear HO HT HAL HZ HAP HWK HEQ hpx
            generalize hpo : o.p = op
            rw [hpo] at hpz
            clear hpo
            rcases hpz with rfl | hst
            · go_wp2
              go_roundw
              case rel => exact ⟨k + 1, o.rst, Al, nl, cl, Ax, nx, cx, fs, xs, D2, by omega, by go_num, rfl, rfl, HS2.out.keep (S := []) (by (repeat (first | with_reducible exact Kp.refl _ _ | with_reducible assumption | with_reducible refine Kp.alloc ?_ _ | with_reducible refine Kp.drew ?_ | with_reducible refine Kp.drewN ?_ _ | (with_reducible refine Kp.setL ?_ ?_ _; focus (simp; done)) | (with_reducible refine Kp.setR ?_ ?_ _; focus (simp; done)) | (with_reducible refine Kp.setR ?_ ?_ _; focus (simp; omega))))) (by simp) (by simp), HJ2.out.keep (by (repeat (first | with_reducible exact Kp.refl _ _ | with_reducible assumption | with_reducible refine Kp.alloc ?_ _ | with_reducible refine Kp.drew ?_ | with_reducible refine Kp.drewN ?_ _ | (with_reducible refine Kp.setL ?_ ?_ _; focus (simp; done)) | (with_reducible refine Kp.setR ?_ ?_ _; focus (simp; done)) | (with_reducible refine Kp.setR ?_ ?_ _; focus (simp; omega))))), HD3.out, by omega, HAL3.out⟩
              case measure => simp [intOf]; omega
            · cases op with
              | false =>
                go_wp2
                go_roundw
                case rel => exact ⟨k + 1, o.rst, Al, nl, cl, Ax, nx, cx, fs, xs, D2, by omega, by go_num, rfl, rfl, HS2.out.keep (S := []) (by (repeat (first | with_reducible exact Kp.refl _ _ | with_reducible assumption | with_reducible refine Kp.alloc ?_ _ | with_reducible refine Kp.drew ?_ | with_reducible refine Kp.drewN ?_ _ | (with_reducible refine Kp.setL ?_ ?_ _; focus (simp; done)) | (with_reducible refine Kp.setR ?_ ?_ _; focus (simp; done)) | (with_reducible refine Kp.setR ?_ ?_ _; focus (simp; omega))))) (by simp) (by simp), HJ2.out.keep (by (repeat (first | with_reducible exact Kp.refl _ _ | with_reducible assumption | with_reducible refine Kp.alloc ?_ _ | with_reducible refine Kp.drew ?_ | with_reducible refine Kp.drewN ?_ _ | (with_reducible refine Kp.setL ?_ ?_ _; focus (simp; done)) | (with_reducible refine Kp.setR ?_ ?_ _; focus (simp; done)) | (with_reducible refine Kp.setR ?_ ?_ _; focus (simp; omega))))), HD3.out, by omega, HAL3.out⟩
                case measure => simp [intOf]; omega
              | true =>
                go_wp2
                go_roundw
                case rel => exact ⟨k + 1, o.rst, Al, nl, cl, Ax, nx, cx, fs, xs, D2, by omega, by go_num, rfl, rfl, HS2.out.keep (S := []) (by (repeat (first | with_reducible exact Kp.refl _ _ | with_reducible assumption | with_reducible refine Kp.alloc ?_ _ | with_reducible refine Kp.drew ?_ | with_reducible refine Kp.drewN ?_ _ | (with_reducible refine Kp.setL ?_ ?_ _; focus (simp; done)) | (with_reducible refine Kp.setR ?_ ?_ _; focus (simp; done)) | (with_reducible refine Kp.setR ?_ ?_ _; focus (simp; omega))))) (by simp) (by simp), HJ2.out.keep (by (repeat (first | with_reducible exact Kp.refl _ _ | with_reducible assumption | with_reducible refine Kp.alloc ?_ _ | with_reducible refine Kp.drew ?_ | with_reducible refine Kp.drewN ?_ _ | (with_reducible refine Kp.setL ?_ ?_ _; focus (simp; done)) | (with_reducible refine Kp.setR ?_ ?_ _; focus (simp; done)) | (with_reducible refine Kp.setR ?_ ?_ _; focus (simp; omega))))), HD3.out, by omega, HAL3.out⟩
                case measure => simp [intOf]; omega
    · have hki : ¬ (k : Int) < (m : Int) := by omega
      have HE := Lib.hid (show bts qs k = B by unfold bts; rw [List.take_of_length_le (by rw [HQL.out]; omega)]; exact HB.out)
      go_wp2
      exact bodyPost_ret (v := .tuple #[.slice Al nl cl, .slice Ax nx cx, .bool true]) (by simp [results, Try.results109, go_sem]) rfl ⟨Al, nl, cl, Ax, nx, cx, fs, xs, g :: D, _, _, _, rfl, HJ.out, by omega, by omega, by rw [← HE.out]; exact HD.out⟩
end Go.Proofs.Ytkmcakneceagpaa

namespace Go.Proofs.Ytkmcakneceagpaa
open Go.RowKit
set_option maxHeartbeats 400000 in
theorem RdNew_no (most : Int) (h : most < 16384 ∨ 16777215 < most) (w : World) : Calls Try.prog 107 #[.int .i64 most] w fun e w' => e = .returned (.tuple #[.pointer none, .int .i64 1]) ∧ Kp [] w w' := by
  by_cases h1 : most < 16384
  · go_enter Try.func107, Try.ntmps107
    go_wp2
    go_ret2
    exact ⟨rfl, Kp.refl _ _⟩
  · have h2 : 16777215 < most := by omega
    go_enter Try.func107, Try.ntmps107
    go_wp2
    go_ret2
    exact ⟨rfl, Kp.refl _ _⟩
set_option maxHeartbeats 400000 in
theorem RqNew_no (most : Int) (h : most < 16384 ∨ 16777215 < most) (w : World) : Calls Try.prog 112 #[.int .i64 most] w fun e w' => e = .returned (.tuple #[.pointer none, .int .i64 1]) ∧ Kp [] w w' := by
  by_cases h1 : most < 16384
  · go_enter Try.func112, Try.ntmps112
    go_wp2
    go_ret2
    exact ⟨rfl, Kp.refl _ _⟩
  · have h2 : 16777215 < most := by omega
    go_enter Try.func112, Try.ntmps112
    go_wp2
    go_ret2
    exact ⟨rfl, Kp.refl _ _⟩
set_option maxHeartbeats 2000000 in
set_option maxRecDepth 100000 in
theorem awake08 (w : World) : Calls Try.prog 108 #[] w (Yes w) := by
  go_enter Try.func108, Try.ntmps108
  go_wp2_with fail
  refine (RdNew 16384 (by omega) (by omega) _).mono ?_
  rintro e w1 ⟨g, rfl, hg0, S1, K1⟩
  subst hg0
  have HK1 := Lib.hid K1
  have HS1 := Lib.hid S1
  clear K1 S1
  go_wp2_with fail
  generalize hW : World.alloc _ _ = w2
  have K2 : Kp [] w1 w2 := by rw [← hW]; (repeat (first | with_reducible exact Kp.refl _ _ | with_reducible assumption | with_reducible refine Kp.alloc ?_ _ | with_reducible refine Kp.drew ?_ | with_reducible refine Kp.drewN ?_ _ | (with_reducible refine Kp.setL ?_ ?_ _; focus (simp; done)) | (with_reducible refine Kp.setR ?_ ?_ _; focus (simp; done)) | (with_reducible refine Kp.setR ?_ ?_ _; focus (simp; omega))))
  have hx : w2.heap[w1.heap.size]? = some (.cells #[.int .u8 1] 5) := by rw [← hW]; (repeat (first | with_reducible assumption | (with_reducible refine hp_new _ _ _ ?_; focus (simp; done)) | (with_reducible refine (hp_old _ _ _ ?_).trans ?_; focus (first | omega | (simp; done) | (simp; omega))) | (with_reducible refine (hp_far _ _ _ _ ?_).trans ?_; focus (first | (simp; done) | (simp; omega))) | (with_reducible refine (hp_drew _ _).trans ?_) | (with_reducible refine (hp_drewN _ _ _).trans ?_)))
  have R2 : Rd w2 (some ⟨w1.heap.size, 0, none⟩) 1 1 [1] := Rd.block hx 0 1 1 _ rfl (Nat.le_refl _) rfl
  have S2 := HS1.out.keep K2 (by simp) (by simp)
  refine (RdFeed w.heap.size [] w2 _ 1 1 _ [] 16384 0 0 S2 R2 (by simp)).mono ?_
  rintro e w3 ⟨rfl, D3, hD3a, hD3b, ⟨A3, n3, c3, h1, h2, h3, h4⟩, K3⟩
  have HK3 := Lib.hid ((HK1.out.trans K2).then K3 (by simp))
  have hn3 : n3 = 1 := by have := h2.len; simpa using this.symm
  subst hn3
  have HH := Lib.hid h1
  clear hW K2 hx R2 S2 hD3a hD3b K3 h1 h2 h3 h4 HS1 HK1
  go_wp2_with fail
  refine (RdRest w.heap.size w3 A3 1 c3 16384 false 0 0 HH.out).mono ?_
  rintro e w4 ⟨rfl, K4⟩
  have HK4 := Lib.hid (HK3.out.trans K4)
  clear K4 HK3
  go_wp2
  go_ret
  exact ⟨by simp, HK4.out⟩
end Go.Proofs.Ytkmcakneceagpaa
