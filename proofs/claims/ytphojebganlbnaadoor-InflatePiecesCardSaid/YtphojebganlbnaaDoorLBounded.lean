/-
  InflateBounded: no more comes out than may.
-/
import Derived.Test.YtphojebganlbnaaDoorInfP
import Derived.Test.YtphojebganlbnaaDoorLowL
import Derived.Test.YtphojebganlbnaaDoorSepOpn
set_option linter.unusedVariables false
set_option linter.unusedSimpArgs false
namespace Go.Proofs.YtphojebganlbnaaDoor.S06
open Go Go.RowKit Go.Proofs.YtphojebganlbnaaDoor.Sep Go.Proofs.YtphojebganlbnaaDoor.Low Go.Proofs.YtphojebganlbnaaDoor.S05 Go.Proofs.YtphojebganlbnaaDoor.CodeLaw Go.Proofs.YtphojebganlbnaaDoor.Pack Go.Proofs.YtphojebganlbnaaDoor.BitLaw
open Go.Proofs.YtphojebganlbnaaDoor.Lib hiding by8 by8_scalar

abbrev Bo (H : Heap) (v : Value) (l : List Int) : Prop := Own H 5 1 v (by8 l)
theorem Bo.row {H : Heap} {v : Value} {l : List Int} (h : Bo H v l) : ∃ A c, v = .slice A l.length c ∧ l.length ≤ c ∧ Row H A (by8 l) := by
  obtain ⟨a, n, c, e, hn, hc, hr⟩ := Own.view h
  rw [List.length_map, Nat.mul_one] at hn
  exact ⟨a, c, by rw [e, hn], by omega, hr⟩
theorem grown2 {H0 H H' : Heap} {v v' : Value} (hk : Keep H0 H) (hf : Fresh H0 v) (ho : Oth H v H') (hm : Moved H v v') : Keep H0 H' ∧ Fresh H0 v' := ⟨ho.keep hk fun r hr => hf r hr, hm.fresh hk hf⟩
theorem app_b {P : Program} {H : Heap} {v y : Value} {l x : List Int} {KV : Value → Heap → Prop} {KP : List PanicEntry → Heap → Prop} (hO : Bo H v l) {A : Option Addr} {n c : Nat} (hy : y = .slice A n c) (hn : n = x.length) (hr : Row H A (by8 x)) (hl : l.length + x.length ≤ 211106232532992)
    (hk : ∀ v' H', Bo H' v' (l ++ x) → Oth H v H' → Moved H v v' → KV v' H') : awpE P (.app 5 1 1 #[.int .u8 0]) [v, y] KV KP H := by
  subst hy hn
  refine a_app (len := l.length) (m := x.length) (new := by8 x) hO (by simp) rfl (hr.cells (by simp)) (by simp) rfl (by omega) (by8_scalar _) (by omega) ?_
  intro v' H' h1 h2 h3
  refine hk v' H' ?_ h2 h3
  show Own H' _ 1 _ _
  rw [by8, List.map_append]
  exact h1
set_option maxHeartbeats 4000000 in
theorem lives_spec {H : Heap} (hT : TabO H) : ACalls Tryd.prog 14 ([] : List Value).toArray H fun e H' => e = .returned (.bool true) ∧ Keep H H' := by
  refine call14 (Nat.le_of_ble_eq_true rfl) ?_
  unfold L14 env0
  have e9 : (9 : Int).toNat = 9 := rfl
  have d1 : decV [75, 4, 0] 9 = ([97], 3, 0) := by rw [decV_ok (u := ()) (t := 18) (o := [97]) (by omega) (by rw [e9]; exact live1)]
  have d2 : decV [1, 1, 0, 254, 255, 97] 9 = ([97], 6, 0) := by rw [decV_ok (u := ()) (t := 48) (o := [97]) (by omega) (by rw [e9]; exact live2)]
  have d3 : decV [7] 9 = ([], 0, 60) := by rw [decV_bad (e := 60) (o := []) (by omega) (by rw [e9]; exact live3)]
  have tx : txt [97] = [97] := by decide
  have y1 : isBy [75, 4, 0] := by intro x hx; simp only [List.mem_cons, List.not_mem_nil, or_false] at hx; omega
  have y2 : isBy [1, 1, 0, 254, 255, 97] := by intro x hx; simp only [List.mem_cons, List.not_mem_nil, or_false] at hx; omega
  have y3 : isBy [7] := by intro x hx; simp only [List.mem_cons, List.not_mem_nil, or_false] at hx; omega
  have z1 : ([75, 4, 0] : List Int).length ≤ 211106232532992 := by show 3 ≤ 211106232532992; omega
  have z2 : ([1, 1, 0, 254, 255, 97] : List Int).length ≤ 211106232532992 := by show 6 ≤ 211106232532992; omega
  have z3 : ([7] : List Int).length ≤ 211106232532992 := by show 1 ≤ 211106232532992; omega
  have s1 := fun H A c hT hr => decode_spec (H := H) (A := A) (c := c) (bs := [75, 4, 0]) (most := 9) (n := 3) hT hr rfl y1 z1
  have s2 := fun H A c hT hr => decode_spec (H := H) (A := A) (c := c) (bs := [1, 1, 0, 254, 255, 97]) (most := 9) (n := 6) hT hr rfl y2 z2
  have s3 := fun H A c hT hr => decode_spec (H := H) (A := A) (c := c) (bs := [7]) (most := 9) (n := 1) hT hr rfl y3 z3
  rw [d1] at s1
  rw [d2] at s2
  rw [d3] at s3
  simp -implicitDefEqProofs (maxSteps := 1000000) (disch := first | omega | assumption) only [Sx, reduceIte, Nat.reduceEqDiff, reduceCtorEq, Nat.reduceAdd, Nat.reduceSub, Nat.reduceLT, decide_true, decide_false, Bool.not_true, Bool.not_false, Int.toNat_one, Int.toNat_zero, Nat.zero_mul, l_g, endK, gd_u]
  refine a_lits (sz := 1) (cells := #[.int .u8 75, .int .u8 4, .int .u8 0]) rfl rfl ?_
  intro r1 H1 hO1 k1 hr1
  obtain ⟨A1, c1, e1, -, w1⟩ := Bo.row (l := [75, 4, 0]) hO1
  cases e1
  try simp -implicitDefEqProofs (maxSteps := 1000000) (disch := first | omega | assumption) only [Sx, reduceIte, Nat.reduceEqDiff, reduceCtorEq, Nat.reduceAdd, Nat.reduceSub, Nat.reduceLT, decide_true, decide_false, Bool.not_true, Bool.not_false, Int.toNat_one, Int.toNat_zero, Nat.zero_mul, l_g, endK, gd_u]
  refine a_call (s1 _ _ _ (hT.keep k1) w1) ?_
  rintro e H2 ⟨v2, he, hO2, -, -, k2, -⟩
  simp only at he
  subst he
  have hs2 := hO2.scalar
  have k2' := k1.trans k2
  simp -implicitDefEqProofs (maxSteps := 1000000) (disch := first | omega | assumption) only [Sx, reduceIte, Nat.reduceEqDiff, reduceCtorEq, Nat.reduceAdd, Nat.reduceSub, Nat.reduceLT, decide_true, decide_false, Bool.not_true, Bool.not_false, Int.toNat_one, Int.toNat_zero, Nat.zero_mul, l_g, endK, gd_u]
  refine a_lits (sz := 1) (cells := #[.int .u8 1, .int .u8 1, .int .u8 0, .int .u8 254, .int .u8 255, .int .u8 97]) rfl rfl ?_
  intro r3 H3 hO3 k3 hr3
  have k3' := k2'.trans k3
  obtain ⟨A3, c3, e3, -, w3⟩ := Bo.row (l := [1, 1, 0, 254, 255, 97]) hO3
  cases e3
  try simp -implicitDefEqProofs (maxSteps := 1000000) (disch := first | omega | assumption) only [Sx, reduceIte, Nat.reduceEqDiff, reduceCtorEq, Nat.reduceAdd, Nat.reduceSub, Nat.reduceLT, decide_true, decide_false, Bool.not_true, Bool.not_false, Int.toNat_one, Int.toNat_zero, Nat.zero_mul, l_g, endK, gd_u]
  refine a_call (s2 _ _ _ (hT.keep k3') w3) ?_
  rintro e H4 ⟨v4, he, hO4, -, -, k4, -⟩
  simp only at he
  subst he
  have hs4 := hO4.scalar
  have k4' := k3'.trans k4
  simp -implicitDefEqProofs (maxSteps := 1000000) (disch := first | omega | assumption) only [Sx, reduceIte, Nat.reduceEqDiff, reduceCtorEq, Nat.reduceAdd, Nat.reduceSub, Nat.reduceLT, decide_true, decide_false, Bool.not_true, Bool.not_false, Int.toNat_one, Int.toNat_zero, Nat.zero_mul, l_g, endK, gd_u]
  refine a_lits (sz := 1) (cells := #[.int .u8 7]) rfl rfl ?_
  intro r5 H5 hO5 k5 hr5
  have k5' := k4'.trans k5
  obtain ⟨A5, c5, e5, -, w5⟩ := Bo.row (l := [7]) hO5
  cases e5
  try simp -implicitDefEqProofs (maxSteps := 1000000) (disch := first | omega | assumption) only [Sx, reduceIte, Nat.reduceEqDiff, reduceCtorEq, Nat.reduceAdd, Nat.reduceSub, Nat.reduceLT, decide_true, decide_false, Bool.not_true, Bool.not_false, Int.toNat_one, Int.toNat_zero, Nat.zero_mul, l_g, endK, gd_u]
  refine a_call (s3 _ _ _ (hT.keep k5') w5) ?_
  rintro e H6 ⟨v6, he, hO6, -, -, k6, -⟩
  simp only at he
  subst he
  have hs6 := hO6.scalar
  have k6' := k5'.trans k6
  obtain ⟨A2, c2, rfl, -, q2⟩ := Bo.row (hO2.keep (((k3.trans k4).trans k5).trans k6))
  obtain ⟨A4, c4, rfl, -, q4⟩ := Bo.row (hO4.keep (k5.trans k6))
  have b2 := ev_b2s_by (c := c2) q2
  have b4 := ev_b2s_by (c := c4) q4
  rw [tx] at b2 b4
  have l1 : ([97] : List Int).length = 1 := rfl
  rw [l1] at b2 b4
  have qa : (([97] : List UInt8) == [97]) = true := by decide
  have q3 : (((3 : Nat) : Int) == 3) = true := by decide
  have q6 : (((6 : Nat) : Int) == 6) = true := by decide
  have q0 : ((0 : Int) == 0) = true := by decide
  have q60 : ((60 : Int) == 60) = true := by decide
  simp -implicitDefEqProofs (maxSteps := 1000000) (disch := first | omega | assumption) only [b2, b4, t_list, qa, q3, q6, q0, q60, Sx, reduceIte, Nat.reduceEqDiff, reduceCtorEq, Nat.reduceAdd, Nat.reduceSub, Nat.reduceLT, decide_true, decide_false, Bool.not_true, Bool.not_false, Int.toNat_one, Int.toNat_zero, Nat.zero_mul, l_g, endK, gd_u]
  exact ⟨by (first | exact True.intro | rfl | assumption), k6'⟩
set_option maxHeartbeats 4000000 in
theorem inflateBounded_walk {H : Heap} {A : Option Addr} {c : Nat} {b : List Int} {most : Int} (hT : TabO H) (hA : Row H A (by8 b)) (hc : b.length ≤ c) (hb : isBy b) (hl : b.length ≤ 140737488351232) (hm : -9223372036854775808 ≤ most ∧ most ≤ 9223372036854775807) :
    ACalls Tryd.prog 4 [Value.slice A b.length c, .int .i64 most].toArray H fun e H' => e = .returned (.bool true) ∧ Keep H H' := by
  refine call4 (Nat.le_of_ble_eq_true rfl) ?_
  unfold L4 env0
  simp -implicitDefEqProofs (maxSteps := 1000000) (disch := first | omega | assumption) only [Sx, reduceIte, Nat.reduceEqDiff, reduceCtorEq, Nat.reduceAdd, Nat.reduceSub, Nat.reduceLT, decide_true, decide_false, Bool.not_true, Bool.not_false, Int.toNat_one, Int.toNat_zero, Nat.zero_mul, l_g, endK, gd_u]
  refine a_call (xs := []) (lives_spec hT) ?_
  rintro e H1 ⟨rfl, k1⟩
  simp -implicitDefEqProofs (maxSteps := 1000000) (disch := first | omega | assumption) only [Sx, reduceIte, Nat.reduceEqDiff, reduceCtorEq, Nat.reduceAdd, Nat.reduceSub, Nat.reduceLT, decide_true, decide_false, Bool.not_true, Bool.not_false, Int.toNat_one, Int.toNat_zero, Nat.zero_mul, l_g, endK, gd_u]
  refine a_lits (sz := 1) (cells := #[]) rfl rfl ?_
  intro r2 H2 hO2 k2 hr2
  have k2' := k1.trans k2
  try simp -implicitDefEqProofs (maxSteps := 1000000) (disch := first | omega | assumption) only [Sx, reduceIte, Nat.reduceEqDiff, reduceCtorEq, Nat.reduceAdd, Nat.reduceSub, Nat.reduceLT, decide_true, decide_false, Bool.not_true, Bool.not_false, Int.toNat_one, Int.toNat_zero, Nat.zero_mul, l_g, endK, gd_u]
  refine app_b (l := []) (x := b) hO2 rfl rfl (k2'.row hA) (by simp; omega) ?_
  intro v3 H3 hO3 ho3 hm3
  obtain ⟨k3, f3⟩ := grown2 k2' (v := .slice (some ⟨r2, 0, none⟩) 0 0) (by rintro q ⟨⟩; exact k1.none hr2) ho3 hm3
  rw [List.nil_append] at hO3
  obtain ⟨A3, c3, rfl, -, w3⟩ := Bo.row hO3
  try simp -implicitDefEqProofs (maxSteps := 1000000) (disch := first | omega | assumption) only [Sx, reduceIte, Nat.reduceEqDiff, reduceCtorEq, Nat.reduceAdd, Nat.reduceSub, Nat.reduceLT, decide_true, decide_false, Bool.not_true, Bool.not_false, Int.toNat_one, Int.toNat_zero, Nat.zero_mul, l_g, endK, gd_u]
  refine a_call (decode_spec (hT.keep k3) w3 rfl hb (by omega)) ?_
  obtain ⟨D, hD⟩ : ∃ D, D = decV b most := ⟨_, rfl⟩
  rw [← hD]
  rintro e H4 ⟨vp, rfl, hP, hpb, hpl, k4, fp⟩
  have hsp := hP.scalar
  have k4' := k3.trans k4
  obtain ⟨Ap, cp_, rfl, hcp, wp⟩ := Bo.row hP
  by_cases hbad : most < 0 ∨ 4194304 < most
  · have hD2 : D = ([], 0, 1) := by rw [hD]; exact decV_out hbad
    rw [hD2]
    have q1 : ((1 : Int) == 1) = true := rfl
    have q0 : ((([] : List Int).length : Int) == 0) = true := rfl
    by_cases h1 : most < 0
    · have f1 : decide (most < 0) = true := decide_eq_true h1
      simp -implicitDefEqProofs (maxSteps := 1000000) (disch := first | omega | assumption) only [f1, q1, q0, Sx, reduceIte, Nat.reduceEqDiff, reduceCtorEq, Nat.reduceAdd, Nat.reduceSub, Nat.reduceLT, decide_true, decide_false, Bool.not_true, Bool.not_false, Int.toNat_one, Int.toNat_zero, Nat.zero_mul, l_g, endK, gd_u]
      exact ⟨by (first | exact True.intro | rfl | assumption), k4'⟩
    · have f1 : decide (most < 0) = false := decide_eq_false h1
      have f2 : decide (4194304 < most) = true := decide_eq_true (by omega)
      simp -implicitDefEqProofs (maxSteps := 1000000) (disch := first | omega | assumption) only [f1, f2, q1, q0, Sx, reduceIte, Nat.reduceEqDiff, reduceCtorEq, Nat.reduceAdd, Nat.reduceSub, Nat.reduceLT, decide_true, decide_false, Bool.not_true, Bool.not_false, Int.toNat_one, Int.toNat_zero, Nat.zero_mul, l_g, endK, gd_u]
      exact ⟨by (first | exact True.intro | rfl | assumption), k4'⟩
  have f1 : decide (most < 0) = false := decide_eq_false (by omega)
  have f2 : decide (4194304 < most) = false := decide_eq_false (by omega)
  simp -implicitDefEqProofs (maxSteps := 1000000) (disch := first | omega | assumption) only [f1, f2, Sx, reduceIte, Nat.reduceEqDiff, reduceCtorEq, Nat.reduceAdd, Nat.reduceSub, Nat.reduceLT, decide_true, decide_false, Bool.not_true, Bool.not_false, Int.toNat_one, Int.toNat_zero, Nat.zero_mul, l_g, endK, gd_u]
  refine a_lits (sz := 1) (cells := #[]) rfl rfl ?_
  intro r5 H5 hO5 k5 hr5
  have k5' := k4'.trans k5
  try simp -implicitDefEqProofs (maxSteps := 1000000) (disch := first | omega | assumption) only [Sx, reduceIte, Nat.reduceEqDiff, reduceCtorEq, Nat.reduceAdd, Nat.reduceSub, Nat.reduceLT, decide_true, decide_false, Bool.not_true, Bool.not_false, Int.toNat_one, Int.toNat_zero, Nat.zero_mul, l_g, endK, gd_u]
  refine app_b (l := []) (x := b) hO5 rfl rfl (k5'.row hA) (by simp; omega) ?_
  intro v6 H6 hO6 ho6 hm6
  obtain ⟨k6, f6⟩ := grown2 k5' (v := .slice (some ⟨r5, 0, none⟩) 0 0) (by rintro q ⟨⟩; exact k4'.none hr5) ho6 hm6
  have hP6 : Bo H6 (.slice Ap D.1.length cp_) D.1 := (hP.keep k5).only ho6 fun r hr e => by
    cases e
    exact hP.known hr hr5
  rw [List.nil_append] at hO6
  obtain ⟨A6, c6, rfl, -, w6⟩ := Bo.row hO6
  try simp -implicitDefEqProofs (maxSteps := 1000000) (disch := first | omega | assumption) only [Sx, reduceIte, Nat.reduceEqDiff, reduceCtorEq, Nat.reduceAdd, Nat.reduceSub, Nat.reduceLT, decide_true, decide_false, Bool.not_true, Bool.not_false, Int.toNat_one, Int.toNat_zero, Nat.zero_mul, l_g, endK, gd_u]
  refine a_call (decode_spec (most := 4194304) (hT.keep k6) w6 rfl hb (by omega)) ?_
  obtain ⟨E, hE⟩ : ∃ E, E = decV b 4194304 := ⟨_, rfl⟩
  rw [← hE]
  rintro e H7 ⟨vq, rfl, hQ, hqb, hql, k7, fq⟩
  have hsq := hQ.scalar
  have k7' := k6.trans k7
  obtain ⟨Aq, cq, rfl, hcq, wq⟩ := Bo.row hQ
  obtain ⟨_, _, ee, _, wp7⟩ := Bo.row (hP6.keep k7)
  cases ee
  have hmt : most = (most.toNat : Nat) := by omega
  have hI : infl b most.toNat = infl b 4194304 ∨ ∃ o', infl b most.toNat = .bad 32 o' := infl_most (by omega)
  cases h : infl b most.toNat with
  | bad e o =>
    have hD2 : D = ([], 0, e) := by rw [hD]; exact decV_bad hbad h
    rw [h] at hI
    have hne : e ≠ 0 := by
      rintro rfl
      exact infl_nz (bs := b) (mo := most.toNat) (o := o) (by omega) h
    have f3 : (e != 0) = true := bne_iff_ne.2 hne
    have q0 : ((([] : List Int).length : Int) == 0) = true := rfl
    have q00 : (((0 : Nat) : Int) == 0) = true := rfl
    rcases hI with hI | ⟨o', hI⟩
    · have hE3 : E = ([], 0, e) := by rw [hE]; exact decV_bad (by omega) hI.symm
      have qe : (e == e) = true := by simp
      rw [hD2, hE3]
      simp -implicitDefEqProofs (maxSteps := 1000000) (disch := first | omega | assumption) only [f3, q0, q00, qe, Sx, reduceIte, Nat.reduceEqDiff, reduceCtorEq, Nat.reduceAdd, Nat.reduceSub, Nat.reduceLT, decide_true, decide_false, Bool.not_true, Bool.not_false, Int.toNat_one, Int.toNat_zero, Nat.zero_mul, l_g, endK, gd_u]
      exact ⟨by (first | exact True.intro | rfl | assumption), k7'⟩
    · cases hI
      have q32 : ((32 : Int) == 32) = true := rfl
      rw [hD2]
      by_cases he : E.2.2 = 32
      · have qe : (E.2.2 == 32) = true := beq_iff_eq.2 he
        simp -implicitDefEqProofs (maxSteps := 1000000) (disch := first | omega | assumption) only [f3, q0, q00, qe, q32, Sx, reduceIte, Nat.reduceEqDiff, reduceCtorEq, Nat.reduceAdd, Nat.reduceSub, Nat.reduceLT, decide_true, decide_false, Bool.not_true, Bool.not_false, Int.toNat_one, Int.toNat_zero, Nat.zero_mul, l_g, endK, gd_u]
        exact ⟨by (first | exact True.intro | rfl | assumption), k7'⟩
      · have qe : (E.2.2 == 32) = false := beq_eq_false_iff_ne.2 he
        simp -implicitDefEqProofs (maxSteps := 1000000) (disch := first | omega | assumption) only [f3, q0, q00, qe, q32, Sx, reduceIte, Nat.reduceEqDiff, reduceCtorEq, Nat.reduceAdd, Nat.reduceSub, Nat.reduceLT, decide_true, decide_false, Bool.not_true, Bool.not_false, Int.toNat_one, Int.toNat_zero, Nat.zero_mul, l_g, endK, gd_u]
        exact ⟨by (first | exact True.intro | rfl | assumption), k7'⟩
  | ok u t o =>
    have hD2 : D = (o, (t + 7) / 8, 0) := by rw [hD]; exact decV_ok hbad h
    rw [h] at hI
    rcases hI with hI | ⟨o', hI⟩
    rotate_left
    · cases hI
    have hE3 : E = D := by rw [hD2, hE]; exact decV_ok (by omega) hI.symm
    obtain ⟨i1, i2, i3, i4, i5⟩ := infl_ok h
    subst hE3
    rw [hD2] at wp7 wq ⊢
    simp only at wp7 wq ⊢
    have n00 : ((0 : Int) != 0) = false := rfl
    have q0 : ((0 : Int) == 0) = true := rfl
    have g1 : decide ((o.length : Int) ≤ most) = true := decide_eq_true (by omega)
    have g2 : decide ((o.length : Int) ≤ 1032 * (b.length : Int)) = true := decide_eq_true (by omega)
    have g3 : decide ((1 : Int) ≤ (((t + 7) / 8 : Nat) : Int)) = true := decide_eq_true (by omega)
    have g4 : decide ((((t + 7) / 8 : Nat) : Int) ≤ (b.length : Int)) = true := decide_eq_true (by omega)
    have g5 : ((((t + 7) / 8 : Nat) : Int) == (((t + 7) / 8 : Nat) : Int)) = true := by simp
    have b1 := ev_b2s_by (c := cp_) wp7
    have b2 := ev_b2s_by (c := cq) wq
    have g6 : (txt o == txt o) = true := by simp
    simp -implicitDefEqProofs (maxSteps := 1000000) (disch := first | omega | assumption) only [n00, q0, g1, g2, g3, g4, g5, g6, b1, b2, t_list, Sx, reduceIte, Nat.reduceEqDiff, reduceCtorEq, Nat.reduceAdd, Nat.reduceSub, Nat.reduceLT, decide_true, decide_false, Bool.not_true, Bool.not_false, Int.toNat_one, Int.toNat_zero, Nat.zero_mul, l_g, endK, gd_u]
    exact ⟨by (first | exact True.intro | rfl | assumption), k7'⟩
theorem inflateBounded_row {H : Heap} (hT : TabO H) (A : Option Addr) (c : Nat) (b : List Int) (cl : List (List Value)) (he : Els (Ty.int .u8) H A b cl) (hc : b.length ≤ c) (wb : (∀ y ∈ b, (Lit.int .u8 y).wf = true) ∧ b.length ≤ maxLen) (hb : b.length * 1 ≤ 140737488351232) (most : Int) (wm : (Lit.int .i64 most).wf = true) :
    ACalls Tryd.prog 4 [Value.slice A b.length c, .int .i64 most].toArray H fun e H' => e = .returned (.bool true) ∧ Keep H H' :=
  inflateBounded_walk hT he.ints hc (fun y hy => wf_u8 (wb.1 y hy)) (by omega) (wf_i64 wm)
end Go.Proofs.YtphojebganlbnaaDoor.S06
