/-
  written: a list of ranges, written over.
-/
import Derived.Test.YthflafgijfbpnaaDoorChainLaw
set_option linter.unusedVariables false
set_option linter.unusedSimpArgs false
namespace Go.Proofs.YthflafgijfbpnaaDoor.S15
open Go Go.RowKit Go.Proofs.YthflafgijfbpnaaDoor.Sep Go.Proofs.YthflafgijfbpnaaDoor.Low Go.Proofs.YthflafgijfbpnaaDoor.Lib

theorem written_spec {H : Heap} {v : Value} {m : Nat} {cs : List Value} (hO : Own H 51 2 v cs) (hm : cs.length = m * 2) (hl : m ≤ 1073741824) :
    ACalls Tryd.prog 15 [v].toArray H fun e H' => e = .returned (.tuple #[]) ∧ Oth H v H' := by
  obtain ⟨a, n, c, rfl, hn, hc, _⟩ := hO.view
  have hnm : n = m := by omega
  subst hnm
  refine call15 (Nat.le_of_ble_eq_true rfl) ?_
  unfold L15 env0
  simp -implicitDefEqProofs (maxSteps := 1000000) (disch := first | omega | assumption) only [Sx, reduceIte, Nat.reduceEqDiff, reduceCtorEq, Nat.reduceAdd, Nat.reduceSub, Nat.reduceLT]
  refine c_loop (fun k env H' => ∃ i cs', k + i = n ∧ cs'.length = cs.length ∧ env 0 = .slice a n c ∧ env 2 = .int .i64 i ∧ Own H' 51 2 (.slice a n c) cs' ∧ Oth H (.slice a n c) H') n ⟨0, cs, by omega, rfl, rfl, rfl, hO, Only.refl _ _⟩ ?_
  rintro k env H1 ⟨i, cs1, hk, hlc, h0, h2, hO1, ho1⟩
  unfold L15_0
  by_cases hi : i < n
  · have f0 : decide ((i : Int) < (n : Int)) = true := decide_eq_true (by omega)
    obtain ⟨r, len', c', e, hl', _⟩ := storeC hO1 (j := i * 2) (by omega) (u := .int .i64 0) rfl
    cases e
    simp -implicitDefEqProofs (maxSteps := 1000000) (disch := first | omega | assumption) only [h0, h2, f0, Sx, reduceIte, Nat.reduceEqDiff, reduceCtorEq, Nat.reduceAdd, Nat.reduceSub, Nat.reduceLT]
    refine a_storeCs (j := i * 2) (new := [.int .i64 9, .int .i64 1]) hO1 (by simp; omega) rfl (by simp [scalarV]) ?_
    intro H2 hO2 ho2
    try simp -implicitDefEqProofs (maxSteps := 1000000) (disch := first | omega | assumption) only [h0, h2, Sx, reduceIte, Nat.reduceEqDiff, reduceCtorEq, Nat.reduceAdd, Nat.reduceSub, Nat.reduceLT]
    refine ⟨k - 1, by omega, i + 1, _, by omega, ?_, by trivial, by simp, hO2, ho1.trans ho2 fun q hq => .inl hq⟩
    simp; omega
  · have f0 : decide ((i : Int) < (n : Int)) = false := decide_eq_false (by omega)
    simp -implicitDefEqProofs (maxSteps := 1000000) (disch := first | omega | assumption) only [h0, h2, f0, Sx, reduceIte, Nat.reduceEqDiff, reduceCtorEq, Nat.reduceAdd, Nat.reduceSub, Nat.reduceLT]
    refine c_loop (fun k env H' => ∃ i v cs', k + i = 40 ∧ cs'.length = (n + i) * 2 ∧ env 0 = v ∧ env 3 = .int .i64 i ∧ Own H' 51 2 v cs' ∧ Moved H (.slice a n c) v ∧ Oth H (.slice a n c) H') 40 ⟨0, _, cs1, rfl, by omega, h0, rfl, hO1, .inl rfl, ho1⟩ ?_
    rintro k2 env2 H2 ⟨j, v2, cs2, hk2, hl2, g0, g3, hO2, hm2, ho2⟩
    unfold L15_1
    have hsv := hO2.scalar
    by_cases hj : j < 40
    · have f1 : decide ((j : Int) < 40) = true := decide_eq_true (by omega)
      simp -implicitDefEqProofs (maxSteps := 1000000) (disch := first | omega | assumption) only [g0, g3, f1, Sx, reduceIte, Nat.reduceEqDiff, reduceCtorEq, Nat.reduceAdd, Nat.reduceSub, Nat.reduceLT]
      refine lits_rg ?_
      intro r1 H4 hO4 hk4 hr4
      obtain ⟨_, _, _, e, _, _, hrow4⟩ := hO4.view
      cases e
      try simp -implicitDefEqProofs (maxSteps := 1000000) (disch := first | omega | assumption) only [g0, g3, Sx, reduceIte, Nat.reduceEqDiff, reduceCtorEq, Nat.reduceAdd, Nat.reduceSub, Nat.reduceLT]
      refine a_app (len := n + j) (m := 1) (new := rg ⟨8, 1⟩) (hO2.keep hk4) hl2 (by rfl) (hrow4.cells (by simp [rg])) (by simp [rg]) rfl (by omega) (rg_scalar _) (by omega) ?_
      intro v5 H5 hO5 ho5 hm5
      try simp -implicitDefEqProofs (maxSteps := 1000000) (disch := first | omega | assumption) only [g0, g3, Sx, reduceIte, Nat.reduceEqDiff, reduceCtorEq, Nat.reduceAdd, Nat.reduceSub, Nat.reduceLT]
      refine ⟨k2 - 1, by omega, j + 1, v5, _, by omega, ?_, by trivial, by simp, hO5, ?_, ?_⟩
      · simp [rg]; omega
      · rcases hm5 with e | ⟨q, e, hq⟩
        · rcases hm2 with e2 | ⟨q2, e2, hq2⟩
          · exact .inl (e.trans e2)
          · exact .inr ⟨q2, e.trans e2, hq2⟩
        · exact .inr ⟨q, e, ho2.none (hk4.none hq)⟩
      · refine (ho2.trans (Only.of_keep hk4) (S' := fun _ => False) fun q hq => hq.elim).trans ho5 fun q hq => ?_
        rcases hm2 with e2 | ⟨q2, e2, hq2⟩
        · exact .inl (e2 ▸ hq)
        · rw [e2] at hq; cases hq; exact .inr hq2
    · have f1 : decide ((j : Int) < 40) = false := decide_eq_false (by omega)
      simp -implicitDefEqProofs (maxSteps := 1000000) (disch := first | omega | assumption) only [g3, f1, Sx, reduceIte, Nat.reduceEqDiff, reduceCtorEq, Nat.reduceAdd, Nat.reduceSub, Nat.reduceLT]
      exact ⟨by trivial, ho2⟩
end Go.Proofs.YthflafgijfbpnaaDoor.S15
