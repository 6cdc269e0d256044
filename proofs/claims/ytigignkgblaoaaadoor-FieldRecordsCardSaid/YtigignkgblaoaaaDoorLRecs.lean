/-
  FieldRecords: any record.
-/
import Derived.Test.YtigignkgblaoaaaDoorZero
set_option linter.unusedVariables false
set_option linter.unusedSimpArgs false
namespace Go.Proofs.YtigignkgblaoaaaDoor.S12
open Go Go.RowKit Go.Proofs.YtigignkgblaoaaaDoor.Sep Go.Proofs.YtigignkgblaoaaaDoor.Low Go.Proofs.YtigignkgblaoaaaDoor.Lib

set_option maxHeartbeats 4000000 in
theorem fieldRecords_walk {H : Heap} {l : List Int} (hT : Tz H) (hb : isBy l) (hl : l.length = 512) :
    ACalls Tryd.prog 5 [Value.agg (by8 l).toArray].toArray H fun e H' => e = .returned (.bool true) ∧ Keep H H' := by
  refine call5 (Nat.le_of_ble_eq_true rfl) ?_
  unfold L5 env0
  have q : ∀ z : Int, (z == z) = true := fun z => by simp
  have q1 := q (plainS l)
  have q2 := q (signedS l)
  have qb : ∀ b : Bool, (b == b) = true := fun b => by cases b <;> rfl
  have qn : (true != false) = true := rfl
  have q5 : decide (putsumL l = putsumL l) = true := decide_eq_true rfl
  have q3 := qb (checkL l)
  have q4 := qb (decide (l = List.replicate 512 0))
  simp -implicitDefEqProofs (maxSteps := 1000000) (disch := first | omega | assumption) only [Sx, reduceIte, Nat.reduceEqDiff, reduceCtorEq, Nat.reduceAdd, Nat.reduceSub, Nat.reduceLT, decide_true, decide_false, Bool.not_true, Bool.not_false, Int.toNat_one, Int.toNat_zero, Nat.zero_mul, l_g, endK]
  refine a_boxb hl ?_
  intro r H1 hO hk hr
  have e1 := ev_ldn_arr hO
  simp -implicitDefEqProofs (maxSteps := 1000000) (disch := first | omega | assumption) only [e1, Sx, reduceIte, Nat.reduceEqDiff, reduceCtorEq, Nat.reduceAdd, Nat.reduceSub, Nat.reduceLT, decide_true, decide_false, Bool.not_true, Bool.not_false, Int.toNat_one, Int.toNat_zero, Nat.zero_mul, l_g, endK]
  refine a_call (sums_spec hb hl) ?_
  rintro e H2 ⟨rfl, hk2⟩
  have e2 := ev_ldn_arr (Own.keep hO hk2)
  simp -implicitDefEqProofs (maxSteps := 1000000) (disch := first | omega | assumption) only [e2, Sx, reduceIte, Nat.reduceEqDiff, reduceCtorEq, Nat.reduceAdd, Nat.reduceSub, Nat.reduceLT, decide_true, decide_false, Bool.not_true, Bool.not_false, Int.toNat_one, Int.toNat_zero, Nat.zero_mul, l_g, endK]
  refine a_call (rsums_spec hb hl) ?_
  rintro e H3 ⟨rfl, hk3⟩
  have k3 := hk2.trans hk3
  have e3 := ev_ldn_arr (Own.keep hO k3)
  simp -implicitDefEqProofs (maxSteps := 1000000) (disch := first | omega | assumption) only [e3, q1, q2, l_qk, l_e, Sx, reduceIte, Nat.reduceEqDiff, reduceCtorEq, Nat.reduceAdd, Nat.reduceSub, Nat.reduceLT, decide_true, decide_false, Bool.not_true, Bool.not_false, Int.toNat_one, Int.toNat_zero, Nat.zero_mul, l_g, endK]
  refine a_call (check_spec hb hl) ?_
  rintro e H4 ⟨rfl, hk4⟩
  have k4 := k3.trans hk4
  have e4 := ev_ldn_arr (Own.keep hO k4)
  simp -implicitDefEqProofs (maxSteps := 1000000) (disch := first | omega | assumption) only [endK]
  refine ⟨fun z hz _ => by simp only [List.mem_cons, List.not_mem_nil, or_false] at hz; rcases hz with rfl; simp only [e4], ?_⟩
  refine a_call (rcheck_spec hb hl) ?_
  rintro e H5 ⟨rfl, hk5⟩
  have k5 := k4.trans hk5
  have e5 := ev_ldn_arr (Own.keep hO k5)
  simp -implicitDefEqProofs (maxSteps := 1000000) (disch := first | omega | assumption) only [endK]
  refine ⟨fun z hz h => by simp at h, ?_⟩
  simp -implicitDefEqProofs (maxSteps := 1000000) (disch := first | omega | assumption) only [e5, q3, qn, l_qk, l_e, Sx, reduceIte, Nat.reduceEqDiff, reduceCtorEq, Nat.reduceAdd, Nat.reduceSub, Nat.reduceLT, decide_true, decide_false, Bool.not_true, Bool.not_false, Int.toNat_one, Int.toNat_zero, Nat.zero_mul, l_g, endK]
  refine a_call (putSum_spec (hT.keep (hk.trans k5)) hb hl) ?_
  rintro e H6 ⟨rfl, hk6⟩
  have k6 := k5.trans hk6
  have e6 := ev_ldn_arr (Own.keep hO k6)
  simp -implicitDefEqProofs (maxSteps := 1000000) (disch := first | omega | assumption) only [endK]
  refine ⟨fun z hz _ => by simp only [List.mem_cons, List.not_mem_nil, or_false] at hz; rcases hz with rfl | rfl <;> simp only [e6], ?_⟩
  refine a_call (rputSum_spec hb hl) ?_
  rintro e H7 ⟨rfl, hk7⟩
  have k7 := k6.trans hk7
  have e7 := ev_ldn_arr (Own.keep hO k7)
  simp -implicitDefEqProofs (maxSteps := 1000000) (disch := first | omega | assumption) only [endK]
  refine ⟨fun z hz h => by simp at h, ?_⟩
  have e8 := ev_eq512 (H := H7) (putsum_len hl) (putsum_len hl)
  simp -implicitDefEqProofs (maxSteps := 1000000) (disch := first | omega | assumption) only [e7, e8, q5, l_qk, l_e, Sx, reduceIte, Nat.reduceEqDiff, reduceCtorEq, Nat.reduceAdd, Nat.reduceSub, Nat.reduceLT, decide_true, decide_false, Bool.not_true, Bool.not_false, Int.toNat_one, Int.toNat_zero, Nat.zero_mul, l_g, endK]
  refine a_call (zero_spec hl) ?_
  rintro e H8 ⟨rfl, hk8⟩
  have k8 := k7.trans hk8
  have e9 := ev_ldn_arr (Own.keep hO k8)
  simp -implicitDefEqProofs (maxSteps := 1000000) (disch := first | omega | assumption) only [endK]
  refine ⟨fun z hz _ => by simp only [List.mem_cons, List.not_mem_nil, or_false] at hz; rcases hz with rfl | rfl | rfl <;> simp only [e9], ?_⟩
  refine a_call (rzero_spec hl) ?_
  rintro e H9 ⟨rfl, hk9⟩
  have k9 := k8.trans hk9
  simp -implicitDefEqProofs (maxSteps := 1000000) (disch := first | omega | assumption) only [endK]
  refine ⟨fun z hz h => by simp at h, ?_⟩
  have e10 := ev_bld (H := H9) (n := 512)
  simp -implicitDefEqProofs (maxSteps := 1000000) (disch := first | omega | assumption) only [q4, qn, e10, l_qk, l_e, Sx, reduceIte, Nat.reduceEqDiff, reduceCtorEq, Nat.reduceAdd, Nat.reduceSub, Nat.reduceLT, decide_true, decide_false, Bool.not_true, Bool.not_false, Int.toNat_one, Int.toNat_zero, Nat.zero_mul, l_g, endK]
  refine a_call (zero_spec List.length_replicate) ?_
  rintro e H10 ⟨rfl, hk10⟩
  simp -implicitDefEqProofs (maxSteps := 1000000) (disch := first | omega | assumption) only [endK]
  refine ⟨fun z hz h => by simp at h, ?_⟩
  have f1 : decide (List.replicate 512 (0 : Int) = List.replicate 512 0) = true := decide_eq_true rfl
  simp -implicitDefEqProofs (maxSteps := 1000000) (disch := first | omega | assumption) only [f1, Sx, reduceIte, Nat.reduceEqDiff, reduceCtorEq, Nat.reduceAdd, Nat.reduceSub, Nat.reduceLT, decide_true, decide_false, Bool.not_true, Bool.not_false, Int.toNat_one, Int.toNat_zero, Nat.zero_mul, l_g, endK]
  exact ⟨by trivial, (hk.trans k9).trans hk10⟩
end Go.Proofs.YtigignkgblaoaaaDoor.S12
