/-
  FieldRise: any two numbers, any width.
-/
import Derived.Test.YtigignkgblaoaaaDoorLowK
import Derived.Test.YtigignkgblaoaaaDoorLives
import Derived.Test.YtigignkgblaoaaaDoorSumLaw
import Derived.Test.YtigignkgblaoaaaDoorSepOpn
set_option linter.unusedVariables false
set_option linter.unusedSimpArgs false
namespace Go.Proofs.YtigignkgblaoaaaDoor.S12
open Go Go.RowKit Go.Proofs.YtigignkgblaoaaaDoor.Sep Go.Proofs.YtigignkgblaoaaaDoor.Low Go.Proofs.YtigignkgblaoaaaDoor.Lib

set_option maxHeartbeats 4000000 in
theorem fieldRise_walk {H : Heap} {n m w : Int} (hT : Tz H) (hn : -9223372036854775808 ≤ n ∧ n ≤ 9223372036854775807) (hm : -9223372036854775808 ≤ m ∧ m ≤ 9223372036854775807) (hw : -9223372036854775808 ≤ w ∧ w ≤ 9223372036854775807) :
    ACalls Tryd.prog 7 [Value.int .i64 n, .int .i64 m, .int .i64 w].toArray H fun e H' => e = .returned (.bool true) ∧ Keep H H' := by
  refine call7 (Nat.le_of_ble_eq_true rfl) ?_
  unfold L7 env0
  simp -implicitDefEqProofs (maxSteps := 1000000) (disch := first | omega | assumption) only [Sx, reduceIte, Nat.reduceEqDiff, reduceCtorEq, Nat.reduceAdd, Nat.reduceSub, Nat.reduceLT, decide_true, decide_false, Bool.not_true, Bool.not_false, Int.toNat_one, Int.toNat_zero, Nat.zero_mul, l_g, endK]
  refine a_call (xs := []) lives_spec ?_
  rintro e H1 ⟨rfl, hk1⟩
  simp -implicitDefEqProofs (maxSteps := 1000000) (disch := first | omega | assumption) only [Sx, reduceIte, Nat.reduceEqDiff, reduceCtorEq, Nat.reduceAdd, Nat.reduceSub, Nat.reduceLT, decide_true, decide_false, Bool.not_true, Bool.not_false, Int.toNat_one, Int.toNat_zero, Nat.zero_mul, l_g, endK]
  refine a_call (putOctal_spec (hT.keep hk1) hn hw) ?_
  rintro e H2 ⟨v, rfl, hO, hk2, hF⟩
  have hs := hO.scalar
  have k2 := hk1.trans hk2
  simp -implicitDefEqProofs (maxSteps := 1000000) (disch := first | omega | assumption) only [Sx, reduceIte, Nat.reduceEqDiff, reduceCtorEq, Nat.reduceAdd, Nat.reduceSub, Nat.reduceLT, decide_true, decide_false, Bool.not_true, Bool.not_false, Int.toNat_one, Int.toNat_zero, Nat.zero_mul, l_g, endK]
  refine a_call (putOctal_spec (hT.keep k2) hm hw) ?_
  rintro e H3 ⟨u, rfl, hU, hk3, hG⟩
  have hsu := hU.scalar
  have k3 := k2.trans hk3
  replace hO := Own.keep hO hk3
  obtain ⟨A, c, rfl, hc, hr⟩ := own_by hO
  obtain ⟨B, d, rfl, hd, hrd⟩ := own_by hU
  have q0 : ((0 : Int) == 0) = true := rfl
  by_cases p : (putO n w).2 = 0
  case neg =>
    have f1 := nn p
    have e1 := putO_err p
    have f2 : ((((putO n w).1.length : Nat) : Int) == 0) = true := beq_iff_eq.2 (by rw [e1]; rfl)
    simp -implicitDefEqProofs (maxSteps := 1000000) (disch := first | omega | assumption) only [f1, f2, Sx, reduceIte, Nat.reduceEqDiff, reduceCtorEq, Nat.reduceAdd, Nat.reduceSub, Nat.reduceLT, decide_true, decide_false, Bool.not_true, Bool.not_false, Int.toNat_one, Int.toNat_zero, Nat.zero_mul, l_g, endK]
    exact ⟨by trivial, k3⟩
  have f1 := bn p
  by_cases p2 : (putO m w).2 = 0
  case neg =>
    have f3 := nn p2
    have e1 := putO_err p2
    have f2 : ((((putO m w).1.length : Nat) : Int) == 0) = true := beq_iff_eq.2 (by rw [e1]; rfl)
    simp -implicitDefEqProofs (maxSteps := 1000000) (disch := first | omega | assumption) only [f1, f2, f3, Sx, reduceIte, Nat.reduceEqDiff, reduceCtorEq, Nat.reduceAdd, Nat.reduceSub, Nat.reduceLT, decide_true, decide_false, Bool.not_true, Bool.not_false, Int.toNat_one, Int.toNat_zero, Nat.zero_mul, l_g, endK]
    exact ⟨by trivial, k3⟩
  have f2 := bn p2
  obtain ⟨g1, g2⟩ := rise_less p p2
  have g3 : (txt (putO n w).1 == txt (putO m w).1) = (n == m) := by
    rw [← g2]
    by_cases h : txt (putO n w).1 = txt (putO m w).1 <;> simp [h]
  have b1 := ev_b2s_by (c := c) hr
  have b2 := ev_b2s_by (c := d) hrd
  have qb : ∀ b : Bool, (b == b) = true := fun b => by cases b <;> rfl
  have q1 := qb (decide (n < m))
  have q2 := qb (n == m)
  have q3 : (true != true) = false := rfl
  obtain ⟨hw2, hn2, -⟩ := putO_ok p
  by_cases c1 : 21 < w
  · have f3 : decide (21 < w) = true := decide_eq_true c1
    simp -implicitDefEqProofs (maxSteps := 1000000) (disch := first | omega | assumption) only [f1, f2, f3, b1, b2, v_slss, t_list, g1, g3, q1, q2, q3, Sx, reduceIte, Nat.reduceEqDiff, reduceCtorEq, Nat.reduceAdd, Nat.reduceSub, Nat.reduceLT, decide_true, decide_false, Bool.not_true, Bool.not_false, Int.toNat_one, Int.toNat_zero, Nat.zero_mul, l_g, endK]
    exact ⟨by trivial, k3⟩
  · have f3 : decide (21 < w) = false := decide_eq_false c1
    have f4 : decide (n < 0) = false := decide_eq_false (by omega)
    have e5 : 3 * (w - 1) = ((3 * (w.toNat - 1) : Nat) : Int) := by omega
    have hp : p8 (w.toNat - 1) = 2 ^ (3 * (w.toNat - 1)) := p8_two _
    have hle : p8 (w.toNat - 1) ≤ 1152921504606846976 := by
      have : p8 20 = 1152921504606846976 := by decide
      have := p8_mono (m := w.toNat - 1) (n := 20) (by omega)
      omega
    have hp0 := p8_pos (w.toNat - 1)
    have e6 : min (3 * (w.toNat - 1)) 64 = 3 * (w.toNat - 1) := by omega
    have f5 : decide (n < p8 (w.toNat - 1)) = true := decide_eq_true hn2.2
    simp -implicitDefEqProofs (maxSteps := 1000000) (disch := first | omega | assumption) only [f1, f2, f3, f4, b1, b2, v_slss, t_list, g1, g3, q1, q2, q3, e5, e6, Int.toNat_natCast, Int.one_mul, ← hp, f5, Sx, reduceIte, Nat.reduceEqDiff, reduceCtorEq, Nat.reduceAdd, Nat.reduceSub, Nat.reduceLT, decide_true, decide_false, Bool.not_true, Bool.not_false, Int.toNat_one, Int.toNat_zero, Nat.zero_mul, l_g, endK]
    exact ⟨by trivial, k3⟩
theorem fieldRise_row {H : Heap} (hT : Tz H) (n : Int) (wn : (Lit.int .i64 n).wf = true) (m : Int) (wm : (Lit.int .i64 m).wf = true) (w : Int) (ww : (Lit.int .i64 w).wf = true) :
    ACalls Tryd.prog 7 [Value.int .i64 n, .int .i64 m, .int .i64 w].toArray H fun e H' => e = .returned (.bool true) ∧ Keep H H' :=
  fieldRise_walk hT (wf_i64 wn) (wf_i64 wm) (wf_i64 ww)
end Go.Proofs.YtigignkgblaoaaaDoor.S12
