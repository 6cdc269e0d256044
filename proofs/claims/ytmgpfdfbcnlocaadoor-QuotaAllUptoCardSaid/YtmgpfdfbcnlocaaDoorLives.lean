/-
  The document's first example.
-/
import Derived.Test.YtmgpfdfbcnlocaaDoorMeter
set_option linter.unusedVariables false
set_option linter.unusedSimpArgs false
namespace Go.Proofs.YtmgpfdfbcnlocaaDoor.S18
open Go Go.RowKit Go.Proofs.YtmgpfdfbcnlocaaDoor.Sep Go.Proofs.YtmgpfdfbcnlocaaDoor.Low Go.Proofs.YtmgpfdfbcnlocaaDoor.Lib Go.Proofs.YtmgpfdfbcnlocaaDoor.S09

theorem bq3 {H : Heap} {a b c : Int} : (QI.build #[(.int .i64 0), (.int .i64 0), (.int .i64 0)] [(0, 1), (1, 1), (2, 1)]).ev [.int .i64 a, .int .i64 b, .int .i64 c] H = some (.agg (qt ⟨a, b, c⟩).toArray) := rfl
theorem bq2 {H : Heap} {a b : Int} : (QI.build #[(.int .i64 0), (.int .i64 0), (.int .i64 0)] [(0, 1), (1, 1)]).ev [.int .i64 a, .int .i64 b] H = some (.agg (qt ⟨a, b, 0⟩).toArray) := rfl
theorem bq2' {H : Heap} {a b : Int} : (QI.build #[(.int .i64 0), (.int .i64 0), (.int .i64 0)] [(0, 1), (2, 1)]).ev [.int .i64 a, .int .i64 b] H = some (.agg (qt ⟨a, 0, b⟩).toArray) := rfl
abbrev ex (n : List UInt8) (k s : Int) : En := ⟨n, k, 0, 0, 0, 0, 0, [], [], [], s, 0⟩
theorem be3 {H : Heap} {n : Array UInt8} {k s : Int} : (QI.build #[(.string ⟨#[]⟩), (.int .i64 0), (.int .u32 0), (.int .u32 0), (.int .u32 0), (.int .i64 0), (.int .i32 0), (.string ⟨#[]⟩), (.string ⟨#[]⟩), (.string ⟨#[]⟩), (.int .i64 0), (.int .u8 0)] [(0, 1), (1, 1), (10, 1)]).ev [.string ⟨n⟩, .int .i64 k, .int .i64 s] H = some (.agg (en (ex n.toList k s)).toArray) := rfl
theorem be2 {H : Heap} {n : Array UInt8} {k : Int} : (QI.build #[(.string ⟨#[]⟩), (.int .i64 0), (.int .u32 0), (.int .u32 0), (.int .u32 0), (.int .i64 0), (.int .i32 0), (.string ⟨#[]⟩), (.string ⟨#[]⟩), (.string ⟨#[]⟩), (.int .i64 0), (.int .u8 0)] [(0, 1), (1, 1)]).ev [.string ⟨n⟩, .int .i64 k] H = some (.agg (en (ex n.toList k 0)).toArray) := rfl
theorem wn_ex {n : List UInt8} {k s : Int} (h : n.length ≤ 100) (hk : i64 k) (hs : i64 s) : Wn (ex n k s) := ⟨by show n.length ≤ _; omega, hk, hs⟩
theorem tv1 : takeV ⟨10, 2, 1⟩ 0 0 (ex [97] 2 7) = (0, 7, 1) := by decide
theorem tv2 : takeV ⟨10, 2, 1⟩ 7 1 (ex [98] 2 4) = (182, 7, 1) := by decide
theorem tv3 : takeV ⟨10, 2, 1⟩ 7 1 (ex [98, 47, 99] 2 1) = (181, 7, 1) := by decide
theorem tv4 : takeV ⟨10, 2, 1⟩ 7 1 (ex [100] 1 0) = (0, 7, 2) := by decide
theorem tv5 : takeV ⟨10, 2, 1⟩ 7 2 (ex [101] 1 0) = (180, 7, 2) := by decide
theorem bv1 : backV 7 2 (ex [97] 2 7) = (0, 0, 1) := by decide
theorem ok0 {b e : Int} (hb : 0 ≤ b ∧ b ≤ 10) (he : 0 ≤ e ∧ e ≤ 2) : Okm ⟨10, 2, 1⟩ b e := ⟨by decide, ⟨by decide, by decide, by decide⟩, hb, he⟩

theorem eqaI {H : Heap} {a b c a' b' c' : Int} {neg : Bool} : (QI.eqa [(0, .i), (1, .i), (2, .i)] neg).ev [.agg #[.int .i64 a, .int .i64 b, .int .i64 c], .agg #[.int .i64 a', .int .i64 b', .int .i64 c']] H = some (.bool (decide (a = a' ∧ b = b' ∧ c = c') != neg)) := by
  have e : (QI.eqa [(0, .i), (1, .i), (2, .i)] neg).ev [.agg #[.int .i64 a, .int .i64 b, .int .i64 c], .agg #[.int .i64 a', .int .i64 b', .int .i64 c']] H = some (.bool ((a == a' && (b == b' && (c == c' && true))) != neg)) := rfl
  rw [e]
  congr 3
  rw [Bool.eq_iff_iff]
  simp
theorem bff : (false != false) = false := rfl
theorem btf : (true != false) = true := rfl
theorem btt : (true != true) = false := rfl
theorem bft : (false != true) = true := rfl
theorem dL : decide ((10 : Int) - 7 = 3 ∧ (2 : Int) - 2 = 0 ∧ True) = true := by decide
theorem dU : decide (True ∧ True ∧ True) = true := by decide
theorem n00 : ((0 : Int) != 0) = false := rfl
theorem e00 : ((0 : Int) == 0) = true := rfl
theorem n182 : ((182 : Int) != 182) = false := rfl
theorem n181 : ((181 : Int) != 181) = false := rfl
theorem e180 : ((180 : Int) == 180) = true := rfl
/-- a fresh meter's block and what else is new -/
theorem new_free {H H1 : Heap} {r q : Nat} {o : Obj} (h : Keep H H1) (hq : H1 q = some o) (hn : H1 r = none) : r ≠ q := by rintro rfl; rw [hq] at hn; cases hn

set_option maxHeartbeats 4000000 in
theorem lives_spec {H : Heap} : ACalls Tryd.prog 7 #[] H fun e' H' => e' = .returned (.bool true) ∧ Keep H H' := by
  refine call7 (Nat.le_of_ble_eq_true rfl) ?_
  unfold L7 env0
  simp -implicitDefEqProofs (maxSteps := 1000000) (disch := first | omega | assumption) only [bff, btf, btt, bft, dL, dU, n00, e00, n182, n181, e180, eqaI, Sx, reduceIte, Nat.reduceEqDiff, reduceCtorEq, Nat.reduceAdd, Nat.reduceSub, Nat.reduceLT, decide_true, decide_false, Bool.not_true, Bool.not_false, Int.toNat_one, Int.toNat_zero, Nat.zero_mul, l_g, endK, gd_u]
  refine a_call (new_spec (q := ⟨10, 2, 1⟩)) ?_
  rintro e' H1 ⟨hk1, ⟨hc, r, rfl, hr, hm⟩ | ⟨hc, -⟩⟩
  rotate_left
  · exact absurd (by decide) hc
  simp -implicitDefEqProofs (maxSteps := 1000000) (disch := first | omega | assumption) only [bff, btf, btt, bft, dL, dU, n00, e00, n182, n181, e180, eqaI, Sx, reduceIte, Nat.reduceEqDiff, reduceCtorEq, Nat.reduceAdd, Nat.reduceSub, Nat.reduceLT, decide_true, decide_false, Bool.not_true, Bool.not_false, Int.toNat_one, Int.toNat_zero, Nat.zero_mul, l_g, endK, gd_u]
  refine a_new fun r2 hr2 => ?_
  have hne := new_free (Keep.refl _) hm hr2
  try simp -implicitDefEqProofs (maxSteps := 1000000) (disch := first | omega | assumption) only [Sx, reduceIte, Nat.reduceEqDiff, reduceCtorEq, Nat.reduceAdd, Nat.reduceSub, Nat.reduceLT, decide_true, decide_false, Bool.not_true, Bool.not_false, Int.toNat_one, Int.toNat_zero, Nat.zero_mul, l_g, endK, gd_u]
  refine st_all (old := en (ex [] 0 0)) (ci := en (ex [97] 2 7)) set_same (by rfl) (by rfl) (en_scalar _) ?_
  rw [set_set]
  obtain ⟨H2, hH2⟩ : ∃ H2, H2 = H1.set r2 (.cells (en (ex [97] 2 7)).toArray 38 (0, 0)) := ⟨_, rfl⟩
  have k2 : Keep H H2 := by rw [hH2]; exact hk1.set_new hr2
  have hm2 : Pm H2 r ⟨10, 2, 1⟩ 0 0 := by rw [hH2]; show (H1.set r2 _) r = _; rw [set_other (Ne.symm hne)]; exact hm
  have hb2 : H2 r2 = some (.cells (en (ex [97] 2 7)).toArray 38 (0, 0)) := by rw [hH2]; exact set_same
  rw [← hH2]
  have hld := fun (H' : Heap) (h : H' r2 = some (.cells (en (ex [97] 2 7)).toArray 38 (0, 0))) => loadN_of (o := 0) (n := 12) (l := en (ex [97] 2 7)) h rfl rfl
  have l2 := hld _ hb2
  simp -implicitDefEqProofs (maxSteps := 1000000) (disch := first | omega | assumption) only [bff, btf, btt, bft, dL, dU, n00, e00, n182, n181, e180, eqaI, ev_ldn, l2, Sx, reduceIte, Nat.reduceEqDiff, reduceCtorEq, Nat.reduceAdd, Nat.reduceSub, Nat.reduceLT, decide_true, decide_false, Bool.not_true, Bool.not_false, Int.toNat_one, Int.toNat_zero, Nat.zero_mul, l_g, endK, gd_u]
  refine a_call (take_spec (x := ex [97] 2 7) (hm2) (ok0 (by decide) (by decide)) (wn_ex (by decide) (by decide) (by decide))) ?_
  rw [tv1]
  rintro e' H3 ⟨rfl, hm3, a3⟩
  have hm3 : Pm H3 r ⟨10, 2, 1⟩ 7 1 := hm3
  simp -implicitDefEqProofs (maxSteps := 1000000) (disch := first | omega | assumption) only [bff, btf, btt, bft, dL, dU, n00, e00, n182, n181, e180, eqaI, Sx, reduceIte, Nat.reduceEqDiff, reduceCtorEq, Nat.reduceAdd, Nat.reduceSub, Nat.reduceLT, decide_true, decide_false, Bool.not_true, Bool.not_false, Int.toNat_one, Int.toNat_zero, Nat.zero_mul, l_g, endK, gd_u]
  refine a_call (take_spec (x := ex [98] 2 4) (hm3) (ok0 (by decide) (by decide)) (wn_ex (by decide) (by decide) (by decide))) ?_
  rw [tv2]
  rintro e' H4 ⟨rfl, hm4, a4⟩
  have hm4 : Pm H4 r ⟨10, 2, 1⟩ 7 1 := hm4
  simp -implicitDefEqProofs (maxSteps := 1000000) (disch := first | omega | assumption) only [bff, btf, btt, bft, dL, dU, n00, e00, n182, n181, e180, eqaI, Sx, reduceIte, Nat.reduceEqDiff, reduceCtorEq, Nat.reduceAdd, Nat.reduceSub, Nat.reduceLT, decide_true, decide_false, Bool.not_true, Bool.not_false, Int.toNat_one, Int.toNat_zero, Nat.zero_mul, l_g, endK, gd_u]
  refine a_call (take_spec (x := ex [98, 47, 99] 2 1) (hm4) (ok0 (by decide) (by decide)) (wn_ex (by decide) (by decide) (by decide))) ?_
  rw [tv3]
  rintro e' H5 ⟨rfl, hm5, a5⟩
  have hm5 : Pm H5 r ⟨10, 2, 1⟩ 7 1 := hm5
  simp -implicitDefEqProofs (maxSteps := 1000000) (disch := first | omega | assumption) only [bff, btf, btt, bft, dL, dU, n00, e00, n182, n181, e180, eqaI, Sx, reduceIte, Nat.reduceEqDiff, reduceCtorEq, Nat.reduceAdd, Nat.reduceSub, Nat.reduceLT, decide_true, decide_false, Bool.not_true, Bool.not_false, Int.toNat_one, Int.toNat_zero, Nat.zero_mul, l_g, endK, gd_u]
  refine a_call (take_spec (x := ex [100] 1 0) (hm5) (ok0 (by decide) (by decide)) (wn_ex (by decide) (by decide) (by decide))) ?_
  rw [tv4]
  rintro e' H6 ⟨rfl, hm6, a6⟩
  have hm6 : Pm H6 r ⟨10, 2, 1⟩ 7 2 := hm6
  simp -implicitDefEqProofs (maxSteps := 1000000) (disch := first | omega | assumption) only [bff, btf, btt, bft, dL, dU, n00, e00, n182, n181, e180, eqaI, Sx, reduceIte, Nat.reduceEqDiff, reduceCtorEq, Nat.reduceAdd, Nat.reduceSub, Nat.reduceLT, decide_true, decide_false, Bool.not_true, Bool.not_false, Int.toNat_one, Int.toNat_zero, Nat.zero_mul, l_g, endK, gd_u]
  refine a_call (take_spec (x := ex [101] 1 0) (hm6) (ok0 (by decide) (by decide)) (wn_ex (by decide) (by decide) (by decide))) ?_
  rw [tv5]
  rintro e' H7 ⟨rfl, hm7, a7⟩
  have hm7 : Pm H7 r ⟨10, 2, 1⟩ 7 2 := hm7
  simp -implicitDefEqProofs (maxSteps := 1000000) (disch := first | omega | assumption) only [bff, btf, btt, bft, dL, dU, n00, e00, n182, n181, e180, eqaI, Sx, reduceIte, Nat.reduceEqDiff, reduceCtorEq, Nat.reduceAdd, Nat.reduceSub, Nat.reduceLT, decide_true, decide_false, Bool.not_true, Bool.not_false, Int.toNat_one, Int.toNat_zero, Nat.zero_mul, l_g, endK, gd_u]
  refine a_call (left_spec hm7 (by decide) ⟨by decide, by decide, by decide⟩ (by decide) (by decide)) ?_
  rintro e' H8 ⟨rfl, k8⟩
  simp -implicitDefEqProofs (maxSteps := 1000000) (disch := first | omega | assumption) only [bff, btf, btt, bft, dL, dU, n00, e00, n182, n181, e180, eqaI, Sx, reduceIte, Nat.reduceEqDiff, reduceCtorEq, Nat.reduceAdd, Nat.reduceSub, Nat.reduceLT, decide_true, decide_false, Bool.not_true, Bool.not_false, Int.toNat_one, Int.toNat_zero, Nat.zero_mul, l_g, endK, gd_u]
  refine a_call (used_spec (k8 _ _ hm7)) ?_
  rintro e' H9 ⟨rfl, k9⟩
  have a9 : At1 r H2 H9 := at_trans (at_trans (at_trans (at_trans (at_trans (at_trans a3 a4) a5) a6) a7) (at_keep k8)) (at_keep k9)
  have hb9 := a9.oth _ _ hb2 hne
  have l9 := hld _ hb9
  simp -implicitDefEqProofs (maxSteps := 1000000) (disch := first | omega | assumption) only [bff, btf, btt, bft, dL, dU, n00, e00, n182, n181, e180, eqaI, ev_ldn, l9, Sx, reduceIte, Nat.reduceEqDiff, reduceCtorEq, Nat.reduceAdd, Nat.reduceSub, Nat.reduceLT, decide_true, decide_false, Bool.not_true, Bool.not_false, Int.toNat_one, Int.toNat_zero, Nat.zero_mul, l_g, endK, gd_u]
  refine a_call (back_spec (x := ex [97] 2 7) (k9 _ _ (k8 _ _ hm7)) (ok0 (by decide) (by decide)) (wn_ex (by decide) (by decide) (by decide))) ?_
  rw [bv1]
  rintro e' Ha ⟨rfl, hma, aa⟩
  simp -implicitDefEqProofs (maxSteps := 1000000) (disch := first | omega | assumption) only [bff, btf, btt, bft, dL, dU, n00, e00, n182, n181, e180, eqaI, Sx, reduceIte, Nat.reduceEqDiff, reduceCtorEq, Nat.reduceAdd, Nat.reduceSub, Nat.reduceLT, decide_true, decide_false, Bool.not_true, Bool.not_false, Int.toNat_one, Int.toNat_zero, Nat.zero_mul, l_g, endK, gd_u]
  refine ⟨by (first | exact True.intro | rfl | assumption), fun q o hq => ?_⟩
  have h1 : q ≠ r := by rintro rfl; rw [hr] at hq; cases hq
  exact (at_trans a9 aa).oth q o (k2 q o hq) h1
end Go.Proofs.YtmgpfdfbcnlocaaDoor.S18
