/-
  QuotaAll: both meters, whatever is done.
-/
import Derived.Test.YtmgpfdfbcnlocaaDoorOrder
import Derived.Test.YtmgpfdfbcnlocaaDoorDoc
set_option linter.unusedVariables false
set_option linter.unusedSimpArgs false
namespace Go.Proofs.YtmgpfdfbcnlocaaDoor.S18
open Go Go.RowKit Go.Proofs.YtmgpfdfbcnlocaaDoor.Sep Go.Proofs.YtmgpfdfbcnlocaaDoor.Low Go.Proofs.YtmgpfdfbcnlocaaDoor.Lib Go.Proofs.YtmgpfdfbcnlocaaDoor.S09

theorem dm_oth2 {H H' : Heap} {r k : Nat} {q : Qt} {b e : Int} (h : At1 r H H') (hm : Dm H k q b e) (hne : k ≠ r) : Dm H' k q b e := h.oth _ _ hm hne
theorem minV {a b : Int} : (if b < a then b else a) = min a b := by split <;> omega
/-- how much room an archive takes at most -/
def outerV (q : Qt) : Int := if can q then min 4194304 (min q.b 4194304 + 1536 * min q.e 2730 + 1024 + 1048576) else 0
set_option maxHeartbeats 2000000 in
theorem outer_spec {H : Heap} {q : Qt} (wq : Wq q) : ACalls Tryd.prog 25 [Value.agg (qt q).toArray].toArray H fun e' H' => e' = .returned (.int .i64 (outerV q)) ∧ Keep H H' := by
  refine call25 (Nat.le_of_ble_eq_true rfl) ?_
  unfold L25 env0
  simp -implicitDefEqProofs (maxSteps := 1000000) (disch := first | omega | assumption) only [Sx, reduceIte, Nat.reduceEqDiff, reduceCtorEq, Nat.reduceAdd, Nat.reduceSub, Nat.reduceLT, decide_true, decide_false, Bool.not_true, Bool.not_false, Int.toNat_one, Int.toNat_zero, Nat.zero_mul, l_g, endK, gd_u]
  refine a_box fun r1 hr1 => ?_
  obtain ⟨H1, hH1, hk1, hb1⟩ := qbox (q := q) hr1
  rw [show H.set r1 (.cells (Value.agg (qt q).toArray).cells 23 (0, 0)) = H1 from hH1.symm]
  have l1 := loadN_of (o := 0) (n := 3) (l := qt q) hb1 rfl rfl
  simp -implicitDefEqProofs (maxSteps := 1000000) (disch := first | omega | assumption) only [ev_ldn, l1, Sx, reduceIte, Nat.reduceEqDiff, reduceCtorEq, Nat.reduceAdd, Nat.reduceSub, Nat.reduceLT, decide_true, decide_false, Bool.not_true, Bool.not_false, Int.toNat_one, Int.toNat_zero, Nat.zero_mul, l_g, endK, gd_u]
  refine a_call fits_spec ?_
  rintro e' H2 ⟨rfl, k2⟩
  obtain ⟨d0, d1, d2⟩ := fits_cells (k2 _ _ hb1)
  unfold outerV
  by_cases hc : can q
  · rw [decide_eq_true hc, if_pos hc]
    obtain ⟨c1, c2, c3⟩ := hc
    obtain ⟨w1, w2, w3⟩ := wq
    unfold i64 at w1 w2 w3
    obtain ⟨m1, hm1⟩ : ∃ m1, m1 = min q.b 4194304 := ⟨_, rfl⟩
    obtain ⟨m2, hm2⟩ : ∃ m2, m2 = min q.e 2730 := ⟨_, rfl⟩
    have b1 : 0 ≤ m1 ∧ m1 ≤ 4194304 := by omega
    have b2 : 0 ≤ m2 ∧ m2 ≤ 2730 := by omega
    rw [← hm1, ← hm2]
    simp -implicitDefEqProofs (maxSteps := 1000000) (disch := first | omega | assumption) only [d0, d1, minV, ← hm1, ← hm2, Sx, reduceIte, Nat.reduceEqDiff, reduceCtorEq, Nat.reduceAdd, Nat.reduceSub, Nat.reduceLT, decide_true, decide_false, Bool.not_true, Bool.not_false, Int.toNat_one, Int.toNat_zero, Nat.zero_mul, l_g, endK, gd_u]
    exact ⟨by first | (first | exact True.intro | rfl | assumption) | (rw [minV]), hk1.trans k2⟩
  · rw [decide_eq_false hc, if_neg hc]
    simp -implicitDefEqProofs (maxSteps := 1000000) (disch := first | omega | assumption) only [Sx, reduceIte, Nat.reduceEqDiff, reduceCtorEq, Nat.reduceAdd, Nat.reduceSub, Nat.reduceLT, decide_true, decide_false, Bool.not_true, Bool.not_false, Int.toNat_one, Int.toNat_zero, Nat.zero_mul, l_g, endK, gd_u]
    exact ⟨by (first | exact True.intro | rfl | assumption), hk1.trans k2⟩
set_option maxHeartbeats 2000000 in
theorem router_spec {H : Heap} {q : Qt} (wq : Wq q) : ACalls Tryd.prog 26 [Value.agg (qt q).toArray].toArray H fun e' H' => e' = .returned (.int .i64 (outerV q)) ∧ Keep H H' := by
  refine call26 (Nat.le_of_ble_eq_true rfl) ?_
  unfold L26 env0
  simp -implicitDefEqProofs (maxSteps := 1000000) (disch := first | omega | assumption) only [Sx, reduceIte, Nat.reduceEqDiff, reduceCtorEq, Nat.reduceAdd, Nat.reduceSub, Nat.reduceLT, decide_true, decide_false, Bool.not_true, Bool.not_false, Int.toNat_one, Int.toNat_zero, Nat.zero_mul, l_g, endK, gd_u]
  refine a_box fun r1 hr1 => ?_
  obtain ⟨H1, hH1, hk1, hb1⟩ := qbox (q := q) hr1
  rw [show H.set r1 (.cells (Value.agg (qt q).toArray).cells 23 (0, 0)) = H1 from hH1.symm]
  have l1 := loadN_of (o := 0) (n := 3) (l := qt q) hb1 rfl rfl
  simp -implicitDefEqProofs (maxSteps := 1000000) (disch := first | omega | assumption) only [ev_ldn, l1, Sx, reduceIte, Nat.reduceEqDiff, reduceCtorEq, Nat.reduceAdd, Nat.reduceSub, Nat.reduceLT, decide_true, decide_false, Bool.not_true, Bool.not_false, Int.toNat_one, Int.toNat_zero, Nat.zero_mul, l_g, endK, gd_u]
  refine a_call can_spec ?_
  rintro e' H2 ⟨rfl, k2⟩
  obtain ⟨d0, d1, d2⟩ := fits_cells (k2 _ _ hb1)
  unfold outerV
  by_cases hc : can q
  · rw [decide_eq_true hc, if_pos hc]
    obtain ⟨c1, c2, c3⟩ := hc
    obtain ⟨w1, w2, w3⟩ := wq
    unfold i64 at w1 w2 w3
    by_cases h1 : 4194304 < q.b
    · have f1 : decide (4194304 < q.b) = true := decide_eq_true h1
      rw [show min 4194304 (min q.b 4194304 + 1536 * min q.e 2730 + 1024 + 1048576) = 4194304 by omega]
      simp -implicitDefEqProofs (maxSteps := 1000000) (disch := first | omega | assumption) only [d0, d1, f1, Sx, reduceIte, Nat.reduceEqDiff, reduceCtorEq, Nat.reduceAdd, Nat.reduceSub, Nat.reduceLT, decide_true, decide_false, Bool.not_true, Bool.not_false, Int.toNat_one, Int.toNat_zero, Nat.zero_mul, l_g, endK, gd_u]
      exact ⟨by (first | exact True.intro | rfl | assumption), hk1.trans k2⟩
    have f1 : decide (4194304 < q.b) = false := decide_eq_false h1
    by_cases h2 : 4194304 < q.e
    · have f2 : decide (4194304 < q.e) = true := decide_eq_true h2
      rw [show min 4194304 (min q.b 4194304 + 1536 * min q.e 2730 + 1024 + 1048576) = 4194304 by omega]
      simp -implicitDefEqProofs (maxSteps := 1000000) (disch := first | omega | assumption) only [d0, d1, f1, f2, Sx, reduceIte, Nat.reduceEqDiff, reduceCtorEq, Nat.reduceAdd, Nat.reduceSub, Nat.reduceLT, decide_true, decide_false, Bool.not_true, Bool.not_false, Int.toNat_one, Int.toNat_zero, Nat.zero_mul, l_g, endK, gd_u]
      exact ⟨by (first | exact True.intro | rfl | assumption), hk1.trans k2⟩
    have f2 : decide (4194304 < q.e) = false := decide_eq_false h2
    by_cases h3 : 4194304 < q.b + 1536 * q.e + 1024 + 1048576
    · have f3 : decide (4194304 < q.b + 1536 * q.e + 1024 + 1048576) = true := decide_eq_true h3
      rw [show min 4194304 (min q.b 4194304 + 1536 * min q.e 2730 + 1024 + 1048576) = 4194304 by omega]
      simp -implicitDefEqProofs (maxSteps := 1000000) (disch := first | omega | assumption) only [d0, d1, f1, f2, f3, Sx, reduceIte, Nat.reduceEqDiff, reduceCtorEq, Nat.reduceAdd, Nat.reduceSub, Nat.reduceLT, decide_true, decide_false, Bool.not_true, Bool.not_false, Int.toNat_one, Int.toNat_zero, Nat.zero_mul, l_g, endK, gd_u]
      exact ⟨by (first | exact True.intro | rfl | assumption), hk1.trans k2⟩
    have f3 : decide (4194304 < q.b + 1536 * q.e + 1024 + 1048576) = false := decide_eq_false h3
    rw [show min 4194304 (min q.b 4194304 + 1536 * min q.e 2730 + 1024 + 1048576) = q.b + 1536 * q.e + 1024 + 1048576 by omega]
    simp -implicitDefEqProofs (maxSteps := 1000000) (disch := first | omega | assumption) only [d0, d1, f1, f2, f3, Sx, reduceIte, Nat.reduceEqDiff, reduceCtorEq, Nat.reduceAdd, Nat.reduceSub, Nat.reduceLT, decide_true, decide_false, Bool.not_true, Bool.not_false, Int.toNat_one, Int.toNat_zero, Nat.zero_mul, l_g, endK, gd_u]
    exact ⟨by (first | exact True.intro | rfl | assumption), hk1.trans k2⟩
  · rw [decide_eq_false hc, if_neg hc]
    simp -implicitDefEqProofs (maxSteps := 1000000) (disch := first | omega | assumption) only [Sx, reduceIte, Nat.reduceEqDiff, reduceCtorEq, Nat.reduceAdd, Nat.reduceSub, Nat.reduceLT, decide_true, decide_false, Bool.not_true, Bool.not_false, Int.toNat_one, Int.toNat_zero, Nat.zero_mul, l_g, endK, gd_u]
    exact ⟨by (first | exact True.intro | rfl | assumption), hk1.trans k2⟩

/-- a pair of meters: P the pair's block, M the program's, D the document's -/
structure Pr (H : Heap) (P M D : Nat) (q : Qt) (b e : Int) : Prop where
  p : H P = some (.cells #[.pointer (some ⟨M, 0, none⟩), .pointer (some ⟨D, 0, none⟩)] 52 (0, 0))
  m : Pm H M q b e
  d : Dm H D q b e
  ok : Okm q b e
  pm : P ≠ M
  pd : P ≠ D
  md : M ≠ D
theorem Pr.keep {H H' : Heap} {P M D : Nat} {q : Qt} {b e : Int} (h : Pr H P M D q b e) (k : Keep H H') : Pr H' P M D q b e := ⟨k _ _ h.p, k _ _ h.m, k _ _ h.d, h.ok, h.pm, h.pd, h.md⟩
theorem Pr.oth {H H' : Heap} {P M D r : Nat} {q : Qt} {b e : Int} (h : Pr H P M D q b e) (k : At1 r H H') (h1 : P ≠ r) (h2 : M ≠ r) (h3 : D ≠ r) : Pr H' P M D q b e := ⟨k.oth _ _ h.p h1, k.oth _ _ h.m h2, k.oth _ _ h.d h3, h.ok, h.pm, h.pd, h.md⟩
theorem Pr.cells {H : Heap} {P M D : Nat} {q : Qt} {b e : Int} (h : Pr H P M D q b e) : H.cell? ⟨P, 0, none⟩ = some (.pointer (some ⟨M, 0, none⟩)) ∧ H.cell? ⟨P, 1, none⟩ = some (.pointer (some ⟨D, 0, none⟩)) := ⟨by rw [cell_of h.p]; rfl, by rw [cell_of h.p]; rfl⟩

set_option maxHeartbeats 2000000 in
theorem tells_spec {H : Heap} {P M D : Nat} {q : Qt} {b e : Int} (h : Pr H P M D q b e) : ACalls Tryd.prog 18 [Value.pointer (some ⟨P, 0, none⟩)].toArray H fun e' H' => e' = .returned (.bool true) ∧ Keep H H' := by
  refine call18 (Nat.le_of_ble_eq_true rfl) ?_
  unfold L18 env0
  obtain ⟨c0, c1⟩ := h.cells
  simp -implicitDefEqProofs (maxSteps := 1000000) (disch := first | omega | assumption) only [c0, c1, ev_nilc, l_qk, l_e, Sx, reduceIte, Nat.reduceEqDiff, reduceCtorEq, Nat.reduceAdd, Nat.reduceSub, Nat.reduceLT, decide_true, decide_false, Bool.not_true, Bool.not_false, Int.toNat_one, Int.toNat_zero, Nat.zero_mul, l_g, endK, gd_u]
  refine a_call (left_spec h.m h.ok.can h.ok.w h.ok.b h.ok.e) ?_
  rintro e' H1 ⟨rfl, k1⟩
  have h1 := h.keep k1
  obtain ⟨c0, c1⟩ := h1.cells
  refine ⟨fun z hz _ => ?_, ?_⟩
  · simp only [List.mem_cons, List.not_mem_nil, or_false] at hz
    subst hz
    simp -implicitDefEqProofs (maxSteps := 1000000) (disch := first | omega | assumption) only [c1, Sx, reduceIte, Nat.reduceEqDiff, reduceCtorEq, Nat.reduceAdd, Nat.reduceSub, Nat.reduceLT, decide_true, decide_false, Bool.not_true, Bool.not_false, Int.toNat_one, Int.toNat_zero, Nat.zero_mul, l_g, endK, gd_u]
  try simp -implicitDefEqProofs (maxSteps := 1000000) (disch := first | omega | assumption) only [c0, c1, ev_nilc, l_qk, l_e, Sx, reduceIte, Nat.reduceEqDiff, reduceCtorEq, Nat.reduceAdd, Nat.reduceSub, Nat.reduceLT, decide_true, decide_false, Bool.not_true, Bool.not_false, Int.toNat_one, Int.toNat_zero, Nat.zero_mul, l_g, endK, gd_u]
  refine a_call (rleft_spec h1.d h1.ok) ?_
  rintro e' H2 ⟨rfl, k2⟩
  have h2 := h1.keep k2
  obtain ⟨c0, c1⟩ := h2.cells
  refine ⟨fun z _ h => absurd h List.not_mem_nil, ?_⟩
  try simp -implicitDefEqProofs (maxSteps := 1000000) (disch := first | omega | assumption) only [c0, c1, eqaI, and_self, eq_self, bff, btf, btt, bft, ev_nilc, l_qk, l_e, Sx, reduceIte, Nat.reduceEqDiff, reduceCtorEq, Nat.reduceAdd, Nat.reduceSub, Nat.reduceLT, decide_true, decide_false, Bool.not_true, Bool.not_false, Int.toNat_one, Int.toNat_zero, Nat.zero_mul, l_g, endK, gd_u]
  refine a_call (used_spec h2.m) ?_
  rintro e' H3 ⟨rfl, k3⟩
  have h3 := h2.keep k3
  obtain ⟨c0, c1⟩ := h3.cells
  refine ⟨fun z hz hh => ?_, ?_⟩
  · simp only [List.mem_cons, List.not_mem_nil, or_false] at hz hh
    rcases hz with rfl | rfl
    · simp -implicitDefEqProofs (maxSteps := 1000000) (disch := first | omega | assumption) only [c1, Sx, reduceIte, Nat.reduceEqDiff, reduceCtorEq, Nat.reduceAdd, Nat.reduceSub, Nat.reduceLT, decide_true, decide_false, Bool.not_true, Bool.not_false, Int.toNat_one, Int.toNat_zero, Nat.zero_mul, l_g, endK, gd_u]
    · simp at hh
  try simp -implicitDefEqProofs (maxSteps := 1000000) (disch := first | omega | assumption) only [c0, c1, eqaI, and_self, eq_self, bff, btf, btt, bft, ev_nilc, l_qk, l_e, Sx, reduceIte, Nat.reduceEqDiff, reduceCtorEq, Nat.reduceAdd, Nat.reduceSub, Nat.reduceLT, decide_true, decide_false, Bool.not_true, Bool.not_false, Int.toNat_one, Int.toNat_zero, Nat.zero_mul, l_g, endK, gd_u]
  refine a_call (rused_spec h3.d) ?_
  rintro e' H4 ⟨rfl, k4⟩
  refine ⟨fun z _ h => absurd h List.not_mem_nil, ?_⟩
  try simp -implicitDefEqProofs (maxSteps := 1000000) (disch := first | omega | assumption) only [eqaI, and_self, eq_self, bff, btf, btt, bft, Sx, reduceIte, Nat.reduceEqDiff, reduceCtorEq, Nat.reduceAdd, Nat.reduceSub, Nat.reduceLT, decide_true, decide_false, Bool.not_true, Bool.not_false, Int.toNat_one, Int.toNat_zero, Nat.zero_mul, l_g, endK, gd_u]
  exact ⟨by (first | exact True.intro | rfl | assumption), ((k1.trans k2).trans k3).trans k4⟩
end Go.Proofs.YtmgpfdfbcnlocaaDoor.S18
