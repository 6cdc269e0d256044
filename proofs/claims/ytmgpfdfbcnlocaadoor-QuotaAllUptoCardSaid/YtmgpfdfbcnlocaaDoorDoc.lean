/-
  A meter of the document.
-/
import Derived.Test.YtmgpfdfbcnlocaaDoorMeter
set_option linter.unusedVariables false
set_option linter.unusedSimpArgs false
namespace Go.Proofs.YtmgpfdfbcnlocaaDoor.S18
open Go Go.RowKit Go.Proofs.YtmgpfdfbcnlocaaDoor.Sep Go.Proofs.YtmgpfdfbcnlocaaDoor.Low Go.Proofs.YtmgpfdfbcnlocaaDoor.Lib Go.Proofs.YtmgpfdfbcnlocaaDoor.S09

abbrev dm (q : Qt) (b e : Int) : List Value := [.int .i64 q.b, .int .i64 q.e, .int .i64 q.d, .int .i64 b, .int .i64 e]
abbrev Dm (H : Heap) (r : Nat) (q : Qt) (b e : Int) : Prop := H r = some (.cells (dm q b e).toArray 71 (0, 0))
set_option maxHeartbeats 1000000 in
theorem rnew_spec {H : Heap} {q : Qt} : ACalls Tryd.prog 13 [Value.agg (qt q).toArray].toArray H fun e' H' => NewOk (fun H r => Dm H r q 0 0) q H e' H' := by
  refine call13 (Nat.le_of_ble_eq_true rfl) ?_
  unfold L13 env0
  simp -implicitDefEqProofs (maxSteps := 1000000) (disch := first | omega | assumption) only [Sx, reduceIte, Nat.reduceEqDiff, reduceCtorEq, Nat.reduceAdd, Nat.reduceSub, Nat.reduceLT, decide_true, decide_false, Bool.not_true, Bool.not_false, Int.toNat_one, Int.toNat_zero, Nat.zero_mul, l_g, endK, gd_u]
  refine a_box fun r1 hr1 => ?_
  obtain ⟨H1, hH1, hk1, hb1⟩ := qbox (q := q) hr1
  rw [show H.set r1 (.cells (Value.agg (qt q).toArray).cells 23 (0, 0)) = H1 from hH1.symm]
  have hld := loadN_of (o := 0) (n := 3) (l := qt q) hb1 rfl rfl
  try simp -implicitDefEqProofs (maxSteps := 1000000) (disch := first | omega | assumption) only [ev_ldn, hld, Sx, reduceIte, Nat.reduceEqDiff, reduceCtorEq, Nat.reduceAdd, Nat.reduceSub, Nat.reduceLT, decide_true, decide_false, Bool.not_true, Bool.not_false, Int.toNat_one, Int.toNat_zero, Nat.zero_mul, l_g, endK, gd_u]
  refine a_call can_spec ?_
  rintro e' H2 ⟨rfl, hk2⟩
  have hb2 := hk2 _ _ hb1
  have hld := loadN_of (o := 0) (n := 3) (l := qt q) hb2 rfl rfl
  by_cases hc : can q
  · rw [decide_eq_true hc]
    have hfa : (QI.build #[(.int .i64 0), (.int .i64 0), (.int .i64 0), (.int .i64 0), (.int .i64 0)] [(0, 3)]).ev [Value.agg (qt q).toArray] H2 = some (.agg (dm q 0 0).toArray) := by
      rw [ev_build]
      simp only [List.length_cons, List.length_nil, if_true, List.zip_cons_cons, List.zip_nil_right]
      rw [fill_a, if_pos (by simp), fill_nil]
      rfl
    simp -implicitDefEqProofs (maxSteps := 1000000) (disch := first | omega | assumption) only [ev_ldn, hld, hfa, Sx, reduceIte, Nat.reduceEqDiff, reduceCtorEq, Nat.reduceAdd, Nat.reduceSub, Nat.reduceLT, decide_true, decide_false, Bool.not_true, Bool.not_false, Int.toNat_one, Int.toNat_zero, Nat.zero_mul, l_g, endK, gd_u]
    refine a_box fun r3 hr3 => ?_
    try simp -implicitDefEqProofs (maxSteps := 1000000) (disch := first | omega | assumption) only [Sx, reduceIte, Nat.reduceEqDiff, reduceCtorEq, Nat.reduceAdd, Nat.reduceSub, Nat.reduceLT, decide_true, decide_false, Bool.not_true, Bool.not_false, Int.toNat_one, Int.toNat_zero, Nat.zero_mul, l_g, endK, gd_u]
    exact ⟨(hk1.trans hk2).set_new hr3, .inl ⟨hc, r3, by (first | exact True.intro | rfl | assumption), (hk1.trans hk2).none hr3, set_same⟩⟩
  · rw [decide_eq_false hc]
    simp -implicitDefEqProofs (maxSteps := 1000000) (disch := first | omega | assumption) only [Sx, reduceIte, Nat.reduceEqDiff, reduceCtorEq, Nat.reduceAdd, Nat.reduceSub, Nat.reduceLT, decide_true, decide_false, Bool.not_true, Bool.not_false, Int.toNat_one, Int.toNat_zero, Nat.zero_mul, l_g, endK, gd_u]
    exact ⟨hk1.trans hk2, .inr ⟨hc, by (first | exact True.intro | rfl | assumption)⟩⟩

set_option maxHeartbeats 4000000 in
theorem rtake_spec {H : Heap} {r : Nat} {q : Qt} {b e : Int} {x : En} (hm : Dm H r q b e) (ok : Okm q b e) (wx : Wn x) :
    ACalls Tryd.prog 14 [Value.pointer (some ⟨r, 0, none⟩), .agg (en x).toArray].toArray H fun e' H' => e' = .returned (.int .i64 (takeV q b e x).1) ∧ Dm H' r q (takeV q b e x).2.1 (takeV q b e x).2.2 ∧ At1 r H H' := by
  obtain ⟨hcan, ⟨w1, w2, w3⟩, hb, he⟩ := ok
  obtain ⟨wn, wk, ws⟩ := wx
  unfold i64 at w1 w2 w3 wk ws
  refine call14 (Nat.le_of_ble_eq_true rfl) ?_
  unfold L14 env0
  simp -implicitDefEqProofs (maxSteps := 1000000) (disch := first | omega | assumption) only [Sx, reduceIte, Nat.reduceEqDiff, reduceCtorEq, Nat.reduceAdd, Nat.reduceSub, Nat.reduceLT, decide_true, decide_false, Bool.not_true, Bool.not_false, Int.toNat_one, Int.toNat_zero, Nat.zero_mul, l_g, endK, gd_u]
  refine a_box fun r1 hr1 => ?_
  obtain ⟨H1, hH1, k1, hb1⟩ := boxed (x := x) hr1
  have hne : r1 ≠ r := by rintro rfl; exact absurd (hr1.symm.trans hm) (by simp)
  rw [show H.set r1 (.cells (Value.agg (en x).toArray).cells 38 (0, 0)) = H1 from hH1.symm]
  have hm1 : Dm H1 r q b e := k1 _ _ hm
  have c : ∀ H' : Heap, Dm H' r q b e → H'.cell? ⟨r, 0, none⟩ = some (.int .i64 q.b) ∧ H'.cell? ⟨r, 1, none⟩ = some (.int .i64 q.e) ∧ H'.cell? ⟨r, 2, none⟩ = some (.int .i64 q.d) ∧ H'.cell? ⟨r, 3, none⟩ = some (.int .i64 b) ∧ H'.cell? ⟨r, 4, none⟩ = some (.int .i64 e) := fun H' h => ⟨by rw [cell_of h]; rfl, by rw [cell_of h]; rfl, by rw [cell_of h]; rfl, by rw [cell_of h]; rfl, by rw [cell_of h]; rfl⟩
  obtain ⟨c1, c2, c3, c4, c5⟩ := c H1 hm1
  have cx : ∀ H' : Heap, H' r1 = some (.cells (en x).toArray 38 (0, 0)) → H'.cell? ⟨r1, 0, none⟩ = some (.string ⟨x.n.toArray⟩) ∧ H'.cell? ⟨r1, 1, none⟩ = some (.int .i64 x.k) ∧ H'.cell? ⟨r1, 10, none⟩ = some (.int .i64 x.s) := fun H' h => ⟨by rw [cell_of h]; rfl, by rw [cell_of h]; rfl, by rw [cell_of h]; rfl⟩
  obtain ⟨cn, ck, cs⟩ := cx H1 hb1
  unfold takeV
  by_cases h1 : q.e ≤ e
  · have f1 : decide (q.e ≤ e) = true := decide_eq_true h1
    rw [if_pos h1]
    simp -implicitDefEqProofs (maxSteps := 1000000) (disch := first | omega | assumption) only [c2, c5, f1, ev_nilc, Sx, reduceIte, Nat.reduceEqDiff, reduceCtorEq, Nat.reduceAdd, Nat.reduceSub, Nat.reduceLT, decide_true, decide_false, Bool.not_true, Bool.not_false, Int.toNat_one, Int.toNat_zero, Nat.zero_mul, l_g, endK, gd_u]
    exact ⟨by (first | exact True.intro | rfl | assumption), hm1, at_keep k1⟩
  have f1 : decide (q.e ≤ e) = false := decide_eq_false h1
  rw [if_neg h1]
  simp -implicitDefEqProofs (maxSteps := 1000000) (disch := first | omega | assumption) only [c2, c5, f1, cn, ev_nilc, Sx, reduceIte, Nat.reduceEqDiff, reduceCtorEq, Nat.reduceAdd, Nat.reduceSub, Nat.reduceLT, decide_true, decide_false, Bool.not_true, Bool.not_false, Int.toNat_one, Int.toNat_zero, Nat.zero_mul, l_g, endK, gd_u]
  refine a_call (rsplit_spec wn) ?_
  rintro e' H3 ⟨vs, rfl, hOs, hk3, hFs⟩
  have hss := hOs.scalar
  obtain ⟨sa, sc, rfl, hsc, -⟩ := hOs.len
  have hm3 : Dm H3 r q b e := hk3 _ _ hm1
  have k3 := k1.trans hk3
  obtain ⟨c1, c2, c3, c4, c5⟩ := c H3 hm3
  have hb3 := hk3 _ _ hb1
  obtain ⟨cn, ck, cs⟩ := cx H3 hb3
  obtain ⟨SP, hSP⟩ : ∃ SP, SP = splitN x.n := ⟨_, rfl⟩
  rw [← hSP]
  by_cases h2 : SP.2 ≠ 0
  · have f2 : (SP.2 != 0) = true := by rw [bne_iff_ne]; exact h2
    rw [if_pos h2]
    simp -implicitDefEqProofs (maxSteps := 1000000) (disch := first | omega | assumption) only [f2, ev_nilc, Sx, reduceIte, Nat.reduceEqDiff, reduceCtorEq, Nat.reduceAdd, Nat.reduceSub, Nat.reduceLT, decide_true, decide_false, Bool.not_true, Bool.not_false, Int.toNat_one, Int.toNat_zero, Nat.zero_mul, l_g, endK, gd_u]
    exact ⟨by (first | exact True.intro | rfl | assumption), hm3, at_keep k3⟩
  have f2 : (SP.2 != 0) = false := by rw [bne_eq_false_iff_eq]; omega
  rw [if_neg h2]
  by_cases h3 : q.d < SP.1.length
  · have f3 : decide (q.d < (SP.1.length : Int)) = true := decide_eq_true h3
    rw [if_pos h3]
    simp -implicitDefEqProofs (maxSteps := 1000000) (disch := first | omega | assumption) only [f2, f3, c3, ev_nilc, Sx, reduceIte, Nat.reduceEqDiff, reduceCtorEq, Nat.reduceAdd, Nat.reduceSub, Nat.reduceLT, decide_true, decide_false, Bool.not_true, Bool.not_false, Int.toNat_one, Int.toNat_zero, Nat.zero_mul, l_g, endK, gd_u]
    exact ⟨by (first | exact True.intro | rfl | assumption), hm3, at_keep k3⟩
  have f3 : decide (q.d < (SP.1.length : Int)) = false := decide_eq_false h3
  rw [if_neg h3]
  unfold needV
  by_cases hk : x.k = 2
  · have f4 : (x.k == 2) = true := by rw [beq_iff_eq]; exact hk
    simp only [if_pos hk]
    by_cases h4 : x.s < 0
    · have f5 : decide (x.s < 0) = true := decide_eq_true h4
      rw [if_pos h4]
      simp -implicitDefEqProofs (maxSteps := 1000000) (disch := first | omega | assumption) only [f2, f3, f4, f5, c3, ck, cs, ev_nilc, Sx, reduceIte, Nat.reduceEqDiff, reduceCtorEq, Nat.reduceAdd, Nat.reduceSub, Nat.reduceLT, decide_true, decide_false, Bool.not_true, Bool.not_false, Int.toNat_one, Int.toNat_zero, Nat.zero_mul, l_g, endK, gd_u]
      exact ⟨by (first | exact True.intro | rfl | assumption), hm3, at_keep k3⟩
    have f5 : decide (x.s < 0) = false := decide_eq_false h4
    rw [if_neg h4]
    by_cases h5 : q.b - b < x.s
    · have f6 : decide (q.b - b < x.s) = true := decide_eq_true h5
      rw [if_pos h5]
      simp -implicitDefEqProofs (maxSteps := 1000000) (disch := first | omega | assumption) only [f2, f3, f4, f5, f6, c1, c3, c4, ck, cs, ev_nilc, Sx, reduceIte, Nat.reduceEqDiff, reduceCtorEq, Nat.reduceAdd, Nat.reduceSub, Nat.reduceLT, decide_true, decide_false, Bool.not_true, Bool.not_false, Int.toNat_one, Int.toNat_zero, Nat.zero_mul, l_g, endK, gd_u]
      exact ⟨by (first | exact True.intro | rfl | assumption), hm3, at_keep k3⟩
    have f6 : decide (q.b - b < x.s) = false := decide_eq_false h5
    rw [if_neg h5]
    simp -implicitDefEqProofs (maxSteps := 1000000) (disch := first | omega | assumption) only [f2, f3, f4, f5, f6, c1, c3, c4, c5, ck, cs, ev_nilc, Sx, reduceIte, Nat.reduceEqDiff, reduceCtorEq, Nat.reduceAdd, Nat.reduceSub, Nat.reduceLT, decide_true, decide_false, Bool.not_true, Bool.not_false, Int.toNat_one, Int.toNat_zero, Nat.zero_mul, l_g, endK, gd_u]
    refine st_one (o := 4) (v := .int .i64 (e + 1)) hm3 (by simp) rfl ?_
    obtain ⟨H4, hd4, hb4, a4, e4⟩ : ∃ H4, Dm H4 r q b (e + 1) ∧ H4 r1 = some (.cells (en x).toArray 38 (0, 0)) ∧ At1 r H3 H4 ∧ H3.set r (.cells ((dm q b e).toArray.setIfInBounds 4 (.int .i64 (e + 1))) 71 (0, 0)) = H4 := ⟨_, by show (H3.set r _) r = _; rw [set_same]; rfl, by rw [set_other hne]; exact hb3, at_set, rfl⟩
    rw [e4]
    obtain ⟨cn', ck', cs'⟩ := cx _ hb4
    have c4' : H4.cell? ⟨r, 3, none⟩ = some (.int .i64 b) := by rw [cell_of hd4]; rfl
    simp -implicitDefEqProofs (maxSteps := 1000000) (disch := first | omega | assumption) only [f4, c4', ck', cs', ev_nilc, Sx, reduceIte, Nat.reduceEqDiff, reduceCtorEq, Nat.reduceAdd, Nat.reduceSub, Nat.reduceLT, decide_true, decide_false, Bool.not_true, Bool.not_false, Int.toNat_one, Int.toNat_zero, Nat.zero_mul, l_g, endK, gd_u]
    refine st_one (o := 3) (v := .int .i64 (b + x.s)) hd4 (by simp) rfl ?_
    unfold L14_0
    simp -implicitDefEqProofs (maxSteps := 1000000) (disch := first | omega | assumption) only [Sx, reduceIte, Nat.reduceEqDiff, reduceCtorEq, Nat.reduceAdd, Nat.reduceSub, Nat.reduceLT, decide_true, decide_false, Bool.not_true, Bool.not_false, Int.toNat_one, Int.toNat_zero, Nat.zero_mul, l_g, endK, gd_u]
    exact ⟨by (first | exact True.intro | rfl | assumption), (by show (H4.set r _) r = _; rw [set_same]; try rfl), at_trans (at_trans (at_keep k3) a4) at_set⟩
  · have f4 : (x.k == 2) = false := by rw [beq_eq_false_iff_ne]; exact hk
    simp only [if_neg hk]
    rw [if_neg (by omega), if_neg (by omega), Int.add_zero]
    simp -implicitDefEqProofs (maxSteps := 1000000) (disch := first | omega | assumption) only [f2, f3, f4, c3, c5, ck, cs, ev_nilc, Sx, reduceIte, Nat.reduceEqDiff, reduceCtorEq, Nat.reduceAdd, Nat.reduceSub, Nat.reduceLT, decide_true, decide_false, Bool.not_true, Bool.not_false, Int.toNat_one, Int.toNat_zero, Nat.zero_mul, l_g, endK, gd_u]
    refine st_one (o := 4) (v := .int .i64 (e + 1)) hm3 (by simp) rfl ?_
    obtain ⟨H4, hd4, hb4, a4, e4⟩ : ∃ H4, Dm H4 r q b (e + 1) ∧ H4 r1 = some (.cells (en x).toArray 38 (0, 0)) ∧ At1 r H3 H4 ∧ H3.set r (.cells ((dm q b e).toArray.setIfInBounds 4 (.int .i64 (e + 1))) 71 (0, 0)) = H4 := ⟨_, by show (H3.set r _) r = _; rw [set_same]; rfl, by rw [set_other hne]; exact hb3, at_set, rfl⟩
    rw [e4]
    obtain ⟨cn', ck', cs'⟩ := cx _ hb4
    simp -implicitDefEqProofs (maxSteps := 1000000) (disch := first | omega | assumption) only [f4, ck', ev_nilc, Sx, reduceIte, Nat.reduceEqDiff, reduceCtorEq, Nat.reduceAdd, Nat.reduceSub, Nat.reduceLT, decide_true, decide_false, Bool.not_true, Bool.not_false, Int.toNat_one, Int.toNat_zero, Nat.zero_mul, l_g, endK, gd_u]
    unfold L14_0
    simp -implicitDefEqProofs (maxSteps := 1000000) (disch := first | omega | assumption) only [Sx, reduceIte, Nat.reduceEqDiff, reduceCtorEq, Nat.reduceAdd, Nat.reduceSub, Nat.reduceLT, decide_true, decide_false, Bool.not_true, Bool.not_false, Int.toNat_one, Int.toNat_zero, Nat.zero_mul, l_g, endK, gd_u]
    exact ⟨by (first | exact True.intro | rfl | assumption), hd4, at_trans (at_keep k3) a4⟩

set_option maxHeartbeats 4000000 in
theorem rback_spec {H : Heap} {r : Nat} {q : Qt} {b e : Int} {x : En} (hm : Dm H r q b e) (ok : Okm q b e) (wx : Wn x) :
    ACalls Tryd.prog 27 [Value.pointer (some ⟨r, 0, none⟩), .agg (en x).toArray].toArray H fun e' H' => e' = .returned (.int .i64 (backV b e x).1) ∧ Dm H' r q (backV b e x).2.1 (backV b e x).2.2 ∧ At1 r H H' := by
  obtain ⟨hcan, ⟨w1, w2, w3⟩, hb, he⟩ := ok
  obtain ⟨wn, wk, ws⟩ := wx
  unfold i64 at w1 w2 w3 wk ws
  refine call27 (Nat.le_of_ble_eq_true rfl) ?_
  unfold L27 env0
  simp -implicitDefEqProofs (maxSteps := 1000000) (disch := first | omega | assumption) only [Sx, reduceIte, Nat.reduceEqDiff, reduceCtorEq, Nat.reduceAdd, Nat.reduceSub, Nat.reduceLT, decide_true, decide_false, Bool.not_true, Bool.not_false, Int.toNat_one, Int.toNat_zero, Nat.zero_mul, l_g, endK, gd_u]
  refine a_box fun r1 hr1 => ?_
  obtain ⟨H1, hH1, k1, hb1⟩ := boxed (x := x) hr1
  have hne : r1 ≠ r := by rintro rfl; exact absurd (hr1.symm.trans hm) (by simp)
  rw [show H.set r1 (.cells (Value.agg (en x).toArray).cells 38 (0, 0)) = H1 from hH1.symm]
  have hm1 : Dm H1 r q b e := k1 _ _ hm
  have c : ∀ H' : Heap, Dm H' r q b e → H'.cell? ⟨r, 3, none⟩ = some (.int .i64 b) ∧ H'.cell? ⟨r, 4, none⟩ = some (.int .i64 e) := fun H' h => ⟨by rw [cell_of h]; rfl, by rw [cell_of h]; rfl⟩
  obtain ⟨c4, c5⟩ := c H1 hm1
  have ck : H1.cell? ⟨r1, 1, none⟩ = some (.int .i64 x.k) := by rw [cell_of hb1]; rfl
  have cs : H1.cell? ⟨r1, 10, none⟩ = some (.int .i64 x.s) := by rw [cell_of hb1]; rfl
  obtain ⟨nx, hnx⟩ : ∃ nx, nx = needV x := ⟨_, rfl⟩
  have hni : i64 nx := by rw [hnx]; unfold needV i64; split <;> omega
  unfold i64 at hni
  have rest : ∀ (QP : List PanicEntry → Heap → Prop) (env : Env), env 0 = .pointer (some ⟨r, 0, none⟩) → env 5 = .int .i64 nx → awpC Tryd.prog L27_0 (retQ [RV.t 4] fun e' H' => e' = Ending.returned (Value.int .i64 (backV b e x).1) ∧ Dm H' r q (backV b e x).2.1 (backV b e x).2.2 ∧ At1 r H H') QP env H1 := by
    intro QP env g0 g5
    unfold L27_0
    unfold backV
    rw [← hnx]
    by_cases h4 : nx < 0
    · have f4 : decide (nx < 0) = true := decide_eq_true h4
      rw [if_pos (Or.inl h4)]
      simp -implicitDefEqProofs (maxSteps := 1000000) (disch := first | omega | assumption) only [g0, g5, f4, c4, c5, ev_nilc, Sx, reduceIte, Nat.reduceEqDiff, reduceCtorEq, Nat.reduceAdd, Nat.reduceSub, Nat.reduceLT, decide_true, decide_false, Bool.not_true, Bool.not_false, Int.toNat_one, Int.toNat_zero, Nat.zero_mul, l_g, endK, gd_u]
      exact ⟨by (first | exact True.intro | rfl | assumption), hm1, at_keep k1⟩
    have f4 : decide (nx < 0) = false := decide_eq_false h4
    by_cases h5 : b < nx
    · have f5 : decide (b < nx) = true := decide_eq_true h5
      rw [if_pos (Or.inr (Or.inl h5))]
      simp -implicitDefEqProofs (maxSteps := 1000000) (disch := first | omega | assumption) only [g0, g5, f4, f5, c4, c5, ev_nilc, Sx, reduceIte, Nat.reduceEqDiff, reduceCtorEq, Nat.reduceAdd, Nat.reduceSub, Nat.reduceLT, decide_true, decide_false, Bool.not_true, Bool.not_false, Int.toNat_one, Int.toNat_zero, Nat.zero_mul, l_g, endK, gd_u]
      exact ⟨by (first | exact True.intro | rfl | assumption), hm1, at_keep k1⟩
    have f5 : decide (b < nx) = false := decide_eq_false h5
    by_cases h6 : e = 0
    · have f6 : (e == 0) = true := by rw [beq_iff_eq]; exact h6
      rw [if_pos (Or.inr (Or.inr h6))]
      simp -implicitDefEqProofs (maxSteps := 1000000) (disch := first | omega | assumption) only [g0, g5, f4, f5, f6, c4, c5, ev_nilc, Sx, reduceIte, Nat.reduceEqDiff, reduceCtorEq, Nat.reduceAdd, Nat.reduceSub, Nat.reduceLT, decide_true, decide_false, Bool.not_true, Bool.not_false, Int.toNat_one, Int.toNat_zero, Nat.zero_mul, l_g, endK, gd_u]
      exact ⟨by (first | exact True.intro | rfl | assumption), hm1, at_keep k1⟩
    have f6 : (e == 0) = false := by rw [beq_eq_false_iff_ne]; exact h6
    rw [if_neg (by omega)]
    simp -implicitDefEqProofs (maxSteps := 1000000) (disch := first | omega | assumption) only [g0, g5, f4, f5, f6, c4, c5, ev_nilc, Sx, reduceIte, Nat.reduceEqDiff, reduceCtorEq, Nat.reduceAdd, Nat.reduceSub, Nat.reduceLT, decide_true, decide_false, Bool.not_true, Bool.not_false, Int.toNat_one, Int.toNat_zero, Nat.zero_mul, l_g, endK, gd_u]
    refine st_one (o := 4) (v := .int .i64 (e - 1)) hm1 (by simp) rfl ?_
    obtain ⟨H4, hd4, a4, e4⟩ : ∃ H4, Dm H4 r q b (e - 1) ∧ At1 r H1 H4 ∧ H1.set r (.cells ((dm q b e).toArray.setIfInBounds 4 (.int .i64 (e - 1))) 71 (0, 0)) = H4 := ⟨_, by show (H1.set r _) r = _; rw [set_same]; rfl, at_set, rfl⟩
    rw [e4]
    have c4' : H4.cell? ⟨r, 3, none⟩ = some (.int .i64 b) := by rw [cell_of hd4]; rfl
    simp -implicitDefEqProofs (maxSteps := 1000000) (disch := first | omega | assumption) only [g0, g5, c4', ev_nilc, Sx, reduceIte, Nat.reduceEqDiff, reduceCtorEq, Nat.reduceAdd, Nat.reduceSub, Nat.reduceLT, decide_true, decide_false, Bool.not_true, Bool.not_false, Int.toNat_one, Int.toNat_zero, Nat.zero_mul, l_g, endK, gd_u]
    refine st_one (o := 3) (v := .int .i64 (b - nx)) hd4 (by simp) rfl ?_
    try simp -implicitDefEqProofs (maxSteps := 1000000) (disch := first | omega | assumption) only [Sx, reduceIte, Nat.reduceEqDiff, reduceCtorEq, Nat.reduceAdd, Nat.reduceSub, Nat.reduceLT, decide_true, decide_false, Bool.not_true, Bool.not_false, Int.toNat_one, Int.toNat_zero, Nat.zero_mul, l_g, endK, gd_u]
    exact ⟨by (first | exact True.intro | rfl | assumption), (by show (H4.set r _) r = _; rw [set_same]; try rfl), at_trans (at_trans (at_keep k1) a4) at_set⟩
  by_cases hk : x.k = 2
  · have f0 : (x.k == 2) = true := by rw [beq_iff_eq]; exact hk
    simp -implicitDefEqProofs (maxSteps := 1000000) (disch := first | omega | assumption) only [f0, ck, cs, ev_nilc, Sx, reduceIte, Nat.reduceEqDiff, reduceCtorEq, Nat.reduceAdd, Nat.reduceSub, Nat.reduceLT, decide_true, decide_false, Bool.not_true, Bool.not_false, Int.toNat_one, Int.toNat_zero, Nat.zero_mul, l_g, endK, gd_u]
    exact rest _ _ (by simp -implicitDefEqProofs (maxSteps := 1000000) (disch := first | omega | assumption) only [Sx, reduceIte, Nat.reduceEqDiff, reduceCtorEq, Nat.reduceAdd, Nat.reduceSub, Nat.reduceLT, decide_true, decide_false, Bool.not_true, Bool.not_false, Int.toNat_one, Int.toNat_zero, Nat.zero_mul, l_g, endK, gd_u]) (by simp -implicitDefEqProofs (maxSteps := 1000000) (disch := first | omega | assumption) only [Sx, reduceIte, Nat.reduceEqDiff, reduceCtorEq, Nat.reduceAdd, Nat.reduceSub, Nat.reduceLT, decide_true, decide_false, Bool.not_true, Bool.not_false, Int.toNat_one, Int.toNat_zero, Nat.zero_mul, l_g, endK, gd_u]; rw [hnx]; unfold needV; rw [if_pos hk])
  · have f0 : (x.k == 2) = false := by rw [beq_eq_false_iff_ne]; exact hk
    simp -implicitDefEqProofs (maxSteps := 1000000) (disch := first | omega | assumption) only [f0, ck, cs, ev_nilc, Sx, reduceIte, Nat.reduceEqDiff, reduceCtorEq, Nat.reduceAdd, Nat.reduceSub, Nat.reduceLT, decide_true, decide_false, Bool.not_true, Bool.not_false, Int.toNat_one, Int.toNat_zero, Nat.zero_mul, l_g, endK, gd_u]
    exact rest _ _ (by simp -implicitDefEqProofs (maxSteps := 1000000) (disch := first | omega | assumption) only [Sx, reduceIte, Nat.reduceEqDiff, reduceCtorEq, Nat.reduceAdd, Nat.reduceSub, Nat.reduceLT, decide_true, decide_false, Bool.not_true, Bool.not_false, Int.toNat_one, Int.toNat_zero, Nat.zero_mul, l_g, endK, gd_u]) (by simp -implicitDefEqProofs (maxSteps := 1000000) (disch := first | omega | assumption) only [Sx, reduceIte, Nat.reduceEqDiff, reduceCtorEq, Nat.reduceAdd, Nat.reduceSub, Nat.reduceLT, decide_true, decide_false, Bool.not_true, Bool.not_false, Int.toNat_one, Int.toNat_zero, Nat.zero_mul, l_g, endK, gd_u]; rw [hnx]; unfold needV; rw [if_neg hk])

theorem rused_spec {H : Heap} {r : Nat} {q : Qt} {b e : Int} (hm : Dm H r q b e) :
    ACalls Tryd.prog 29 [Value.pointer (some ⟨r, 0, none⟩)].toArray H fun e' H' => e' = .returned (.agg (qt ⟨b, e, 0⟩).toArray) ∧ Keep H H' := by
  refine call29 (Nat.le_of_ble_eq_true rfl) ?_
  unfold L29 env0
  simp -implicitDefEqProofs (maxSteps := 1000000) (disch := first | omega | assumption) only [Sx, reduceIte, Nat.reduceEqDiff, reduceCtorEq, Nat.reduceAdd, Nat.reduceSub, Nat.reduceLT, decide_true, decide_false, Bool.not_true, Bool.not_false, Int.toNat_one, Int.toNat_zero, Nat.zero_mul, l_g, endK, gd_u]
  refine a_new fun r1 hr1 => ?_
  have hne : r1 ≠ r := by rintro rfl; exact absurd (hr1.symm.trans hm) (by simp)
  have c : ∀ o, (H.set r1 o).cell? ⟨r, 3, none⟩ = some (.int .i64 b) ∧ (H.set r1 o).cell? ⟨r, 4, none⟩ = some (.int .i64 e) := fun o => by
    have h : (H.set r1 o) r = some (.cells (dm q b e).toArray 71 (0, 0)) := by rw [set_other (Ne.symm hne)]; exact hm
    exact ⟨by rw [cell_of h]; rfl, by rw [cell_of h]; rfl⟩
  simp -implicitDefEqProofs (maxSteps := 1000000) (disch := first | omega | assumption) only [(c _).1, (c _).2, ev_nilc, Sx, reduceIte, Nat.reduceEqDiff, reduceCtorEq, Nat.reduceAdd, Nat.reduceSub, Nat.reduceLT, decide_true, decide_false, Bool.not_true, Bool.not_false, Int.toNat_one, Int.toNat_zero, Nat.zero_mul, l_g, endK, gd_u]
  refine st_all (old := qt ⟨0, 0, 0⟩) (ci := qt ⟨b, e, 0⟩) set_same (by rfl) (by rfl) (by simp [scalarV]) ?_
  rw [set_set]
  try simp -implicitDefEqProofs (maxSteps := 1000000) (disch := first | omega | assumption) only [Sx, reduceIte, Nat.reduceEqDiff, reduceCtorEq, Nat.reduceAdd, Nat.reduceSub, Nat.reduceLT, decide_true, decide_false, Bool.not_true, Bool.not_false, Int.toNat_one, Int.toNat_zero, Nat.zero_mul, l_g, endK, gd_u]
  have hl' : (H.set r1 (.cells (qt ⟨b, e, 0⟩).toArray 23 (0, 0))).loadN ⟨r1, 0, none⟩ 0 3 = some (qt ⟨b, e, 0⟩) := loadN_of (T := 23) (f := (0, 0)) (cs := qt ⟨b, e, 0⟩) set_same rfl rfl
  rw [g_cn (by simp -implicitDefEqProofs (maxSteps := 1000000) (disch := first | omega | assumption) only [Sx, reduceIte, Nat.reduceEqDiff, reduceCtorEq, Nat.reduceAdd, Nat.reduceSub, Nat.reduceLT, decide_true, decide_false, Bool.not_true, Bool.not_false, Int.toNat_one, Int.toNat_zero, Nat.zero_mul, l_g, endK, gd_u]) hl']
  simp -implicitDefEqProofs (maxSteps := 1000000) (disch := first | omega | assumption) only [Sx, reduceIte, Nat.reduceEqDiff, reduceCtorEq, Nat.reduceAdd, Nat.reduceSub, Nat.reduceLT, decide_true, decide_false, Bool.not_true, Bool.not_false, Int.toNat_one, Int.toNat_zero, Nat.zero_mul, l_g, endK, gd_u]
  exact ⟨by (first | exact True.intro | rfl | assumption), (Keep.refl _).set_new hr1⟩

set_option maxHeartbeats 2000000 in
theorem rleft_spec {H : Heap} {r : Nat} {q : Qt} {b e : Int} (hm : Dm H r q b e) (ok : Okm q b e) :
    ACalls Tryd.prog 28 [Value.pointer (some ⟨r, 0, none⟩)].toArray H fun e' H' => e' = .returned (.agg (qt ⟨q.b - b, q.e - e, q.d⟩).toArray) ∧ Keep H H' := by
  obtain ⟨hcan, ⟨w1, w2, w3⟩, hb, he⟩ := ok
  unfold i64 at w1 w2 w3
  refine call28 (Nat.le_of_ble_eq_true rfl) ?_
  unfold L28 env0
  simp -implicitDefEqProofs (maxSteps := 1000000) (disch := first | omega | assumption) only [Sx, reduceIte, Nat.reduceEqDiff, reduceCtorEq, Nat.reduceAdd, Nat.reduceSub, Nat.reduceLT, decide_true, decide_false, Bool.not_true, Bool.not_false, Int.toNat_one, Int.toNat_zero, Nat.zero_mul, l_g, endK, gd_u]
  refine a_new fun r1 hr1 => ?_
  have hne : r1 ≠ r := by rintro rfl; exact absurd (hr1.symm.trans hm) (by simp)
  have c : ∀ o, (H.set r1 o).cell? ⟨r, 0, none⟩ = some (.int .i64 q.b) ∧ (H.set r1 o).cell? ⟨r, 1, none⟩ = some (.int .i64 q.e) ∧ (H.set r1 o).cell? ⟨r, 2, none⟩ = some (.int .i64 q.d) ∧ (H.set r1 o).cell? ⟨r, 3, none⟩ = some (.int .i64 b) ∧ (H.set r1 o).cell? ⟨r, 4, none⟩ = some (.int .i64 e) := fun o => by
    have h : (H.set r1 o) r = some (.cells (dm q b e).toArray 71 (0, 0)) := by rw [set_other (Ne.symm hne)]; exact hm
    exact ⟨by rw [cell_of h]; rfl, by rw [cell_of h]; rfl, by rw [cell_of h]; rfl, by rw [cell_of h]; rfl, by rw [cell_of h]; rfl⟩
  simp -implicitDefEqProofs (maxSteps := 1000000) (disch := first | omega | assumption) only [(c _).1, (c _).2.1, (c _).2.2.1, (c _).2.2.2.1, (c _).2.2.2.2, ev_nilc, Sx, reduceIte, Nat.reduceEqDiff, reduceCtorEq, Nat.reduceAdd, Nat.reduceSub, Nat.reduceLT, decide_true, decide_false, Bool.not_true, Bool.not_false, Int.toNat_one, Int.toNat_zero, Nat.zero_mul, l_g, endK, gd_u]
  refine st_all (old := qt ⟨0, 0, 0⟩) (ci := qt ⟨q.b - b, q.e - e, q.d⟩) set_same (by rfl) (by rfl) (by simp [scalarV]) ?_
  rw [set_set]
  try simp -implicitDefEqProofs (maxSteps := 1000000) (disch := first | omega | assumption) only [Sx, reduceIte, Nat.reduceEqDiff, reduceCtorEq, Nat.reduceAdd, Nat.reduceSub, Nat.reduceLT, decide_true, decide_false, Bool.not_true, Bool.not_false, Int.toNat_one, Int.toNat_zero, Nat.zero_mul, l_g, endK, gd_u]
  have hl' : (H.set r1 (.cells (qt ⟨q.b - b, q.e - e, q.d⟩).toArray 23 (0, 0))).loadN ⟨r1, 0, none⟩ 0 3 = some (qt ⟨q.b - b, q.e - e, q.d⟩) := loadN_of (T := 23) (f := (0, 0)) (cs := qt ⟨q.b - b, q.e - e, q.d⟩) set_same rfl rfl
  rw [g_cn (by simp -implicitDefEqProofs (maxSteps := 1000000) (disch := first | omega | assumption) only [Sx, reduceIte, Nat.reduceEqDiff, reduceCtorEq, Nat.reduceAdd, Nat.reduceSub, Nat.reduceLT, decide_true, decide_false, Bool.not_true, Bool.not_false, Int.toNat_one, Int.toNat_zero, Nat.zero_mul, l_g, endK, gd_u]) hl']
  simp -implicitDefEqProofs (maxSteps := 1000000) (disch := first | omega | assumption) only [Sx, reduceIte, Nat.reduceEqDiff, reduceCtorEq, Nat.reduceAdd, Nat.reduceSub, Nat.reduceLT, decide_true, decide_false, Bool.not_true, Bool.not_false, Int.toNat_one, Int.toNat_zero, Nat.zero_mul, l_g, endK, gd_u]
  exact ⟨by (first | exact True.intro | rfl | assumption), (Keep.refl _).set_new hr1⟩
end Go.Proofs.YtmgpfdfbcnlocaaDoor.S18
