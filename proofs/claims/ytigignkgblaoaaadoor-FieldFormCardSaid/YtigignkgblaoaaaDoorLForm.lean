/-
  FieldForm: any bytes.
-/
import Derived.Test.YtigignkgblaoaaaDoorLowK
import Derived.Test.YtigignkgblaoaaaDoorLives
import Derived.Test.YtigignkgblaoaaaDoorSumLaw
import Derived.Test.YtigignkgblaoaaaDoorSepOpn
set_option linter.unusedVariables false
set_option linter.unusedSimpArgs false
namespace Go.Proofs.YtigignkgblaoaaaDoor.S12
open Go Go.RowKit Go.Proofs.YtigignkgblaoaaaDoor.Sep Go.Proofs.YtigignkgblaoaaaDoor.Low Go.Proofs.YtigignkgblaoaaaDoor.Lib

set_option maxHeartbeats 4000000 in
theorem form_tail {H : Heap} {A : Option Addr} {c : Nat} {l : List Int} {env : Env} {Q : Post} {QP : List PanicEntry → Heap → Prop} (hT : Tz H) (hr : Row H A (by8 l)) (hc : l.length ≤ c) (hb : isBy l) (hl : l.length ≤ 140737488351232)
    (h0 : env 0 = .slice A l.length c) (hq : ∀ env' H', env' 2 = .bool true → Keep H H' → Q .ret env' H') : awpC Tryd.prog L6_0 Q QP env H := by
  unfold L6_0
  simp -implicitDefEqProofs (maxSteps := 1000000) (disch := first | omega | assumption) only [h0, Sx, reduceIte, Nat.reduceEqDiff, reduceCtorEq, Nat.reduceAdd, Nat.reduceSub, Nat.reduceLT, decide_true, decide_false, Bool.not_true, Bool.not_false, Int.toNat_one, Int.toNat_zero, Nat.zero_mul, l_g, endK]
  refine a_call (octal_spec ⟨A, c, rfl, hc, hr⟩ hb (by omega)) ?_
  rintro e H1 ⟨rfl, hk1⟩
  have hge := octN_ge l
  by_cases g : (octN l).2 = 0
  case neg =>
    have f1 := nn g
    have f2 := bq (octN_err g)
    simp -implicitDefEqProofs (maxSteps := 1000000) (disch := first | omega | assumption) only [h0, f1, f2, Sx, reduceIte, Nat.reduceEqDiff, reduceCtorEq, Nat.reduceAdd, Nat.reduceSub, Nat.reduceLT, decide_true, decide_false, Bool.not_true, Bool.not_false, Int.toNat_one, Int.toNat_zero, Nat.zero_mul, l_g, endK]
    exact hq _ _ (by simp -implicitDefEqProofs (maxSteps := 1000000) (disch := first | omega | assumption) only [Sx, reduceIte, Nat.reduceEqDiff, reduceCtorEq, Nat.reduceAdd, Nat.reduceSub, Nat.reduceLT]) hk1
  have f1 := bn g
  have f2 : decide ((0 : Int) ≤ (octN l).1) = true := decide_eq_true hge.1
  by_cases w1 : l.length < 2
  · have f3 : decide ((l.length : Int) < 2) = true := decide_eq_true (by omega)
    simp -implicitDefEqProofs (maxSteps := 1000000) (disch := first | omega | assumption) only [h0, f1, f2, f3, Sx, reduceIte, Nat.reduceEqDiff, reduceCtorEq, Nat.reduceAdd, Nat.reduceSub, Nat.reduceLT, decide_true, decide_false, Bool.not_true, Bool.not_false, Int.toNat_one, Int.toNat_zero, Nat.zero_mul, l_g, endK]
    exact hq _ _ (by simp -implicitDefEqProofs (maxSteps := 1000000) (disch := first | omega | assumption) only [Sx, reduceIte, Nat.reduceEqDiff, reduceCtorEq, Nat.reduceAdd, Nat.reduceSub, Nat.reduceLT]) hk1
  have f3 : decide ((l.length : Int) < 2) = false := decide_eq_false (by omega)
  by_cases w2 : 512 < l.length
  · have f4 : decide ((512 : Int) < (l.length : Int)) = true := decide_eq_true (by omega)
    simp -implicitDefEqProofs (maxSteps := 1000000) (disch := first | omega | assumption) only [h0, f1, f2, f3, f4, Sx, reduceIte, Nat.reduceEqDiff, reduceCtorEq, Nat.reduceAdd, Nat.reduceSub, Nat.reduceLT, decide_true, decide_false, Bool.not_true, Bool.not_false, Int.toNat_one, Int.toNat_zero, Nat.zero_mul, l_g, endK]
    exact hq _ _ (by simp -implicitDefEqProofs (maxSteps := 1000000) (disch := first | omega | assumption) only [Sx, reduceIte, Nat.reduceEqDiff, reduceCtorEq, Nat.reduceAdd, Nat.reduceSub, Nat.reduceLT]) hk1
  have f4 : decide ((512 : Int) < (l.length : Int)) = false := decide_eq_false (by omega)
  simp -implicitDefEqProofs (maxSteps := 1000000) (disch := first | omega | assumption) only [h0, f1, f2, f3, f4, Sx, reduceIte, Nat.reduceEqDiff, reduceCtorEq, Nat.reduceAdd, Nat.reduceSub, Nat.reduceLT, decide_true, decide_false, Bool.not_true, Bool.not_false, Int.toNat_one, Int.toNat_zero, Nat.zero_mul, l_g, endK]
  refine a_call (putOctal_spec (hT.keep hk1) (by omega) (by omega)) ?_
  rintro e H2 ⟨v, rfl, hO, hk2, hF⟩
  have hs := hO.scalar
  have k2 := hk1.trans hk2
  by_cases p : (putO (octN l).1 (l.length : Int)).2 = 0
  case neg =>
    have f5 := nn p
    have f6 := bq (putO_wide p (by omega))
    simp -implicitDefEqProofs (maxSteps := 1000000) (disch := first | omega | assumption) only [h0, f2, f5, f6, Sx, reduceIte, Nat.reduceEqDiff, reduceCtorEq, Nat.reduceAdd, Nat.reduceSub, Nat.reduceLT, decide_true, decide_false, Bool.not_true, Bool.not_false, Int.toNat_one, Int.toNat_zero, Nat.zero_mul, l_g, endK]
    exact hq _ _ (by simp -implicitDefEqProofs (maxSteps := 1000000) (disch := first | omega | assumption) only [Sx, reduceIte, Nat.reduceEqDiff, reduceCtorEq, Nat.reduceAdd, Nat.reduceSub, Nat.reduceLT]) k2
  have f5 := bn p
  have hback := putO_back p (by omega)
  have hlen := putO_length p
  have hlast := putO_last p
  rw [Int.toNat_natCast] at hlast
  have hby := putO_ok p
  generalize hD : (putO (octN l).1 (l.length : Int)).1 = D at hO hback hlen hlast hby
  have hDb : isBy D := by
    rw [hby.2.2]
    intro x hx
    rcases List.mem_append.1 hx with hx | hx
    · exact od_by _ _ x hx
    · rw [List.mem_singleton.1 hx]; omega
  have hDl : D.length = l.length := by omega
  obtain ⟨B, d, rfl, hd, hrd⟩ := own_by hO
  simp -implicitDefEqProofs (maxSteps := 1000000) (disch := first | omega | assumption) only [h0, f2, f5, Sx, reduceIte, Nat.reduceEqDiff, reduceCtorEq, Nat.reduceAdd, Nat.reduceSub, Nat.reduceLT, decide_true, decide_false, Bool.not_true, Bool.not_false, Int.toNat_one, Int.toNat_zero, Nat.zero_mul, l_g, endK]
  refine a_call (octal_spec ⟨B, d, rfl, hd, hrd⟩ hDb (by omega)) ?_
  rintro e H3 ⟨rfl, hk3⟩
  rw [hback]
  have q0 : ((0 : Int) == 0) = true := rfl
  have q1 := bq (rfl : (octN l).1 = (octN l).1)
  obtain ⟨b, rfl, hcell⟩ := by_at (hk3.row hrd) (i := D.length - 1) (by omega)
  rw [← hDl] at hlast
  have hz : D[D.length - 1]'(by omega) = 0 := by
    rw [List.getElem?_eq_getElem (by omega)] at hlast
    simpa using hlast
  rw [hz] at hcell
  have hin : (0 : Int) ≤ (D.length : Int) - 1 ∧ (D.length : Int) - 1 < (D.length : Int) := by omega
  have e1 : ((D.length : Int) - 1).toNat = D.length - 1 := by omega
  simp -implicitDefEqProofs (maxSteps := 1000000) (disch := first | omega | assumption) only [h0, q0, q1, e1, hcell, Sx, reduceIte, Nat.reduceEqDiff, reduceCtorEq, Nat.reduceAdd, Nat.reduceSub, Nat.reduceLT, decide_true, decide_false, Bool.not_true, Bool.not_false, Int.toNat_one, Int.toNat_zero, Nat.zero_mul, l_g, endK]
  exact hq _ _ (by simp -implicitDefEqProofs (maxSteps := 1000000) (disch := first | omega | assumption) only [Sx, reduceIte, Nat.reduceEqDiff, reduceCtorEq, Nat.reduceAdd, Nat.reduceSub, Nat.reduceLT]) (k2.trans hk3)
set_option maxHeartbeats 4000000 in
theorem fieldForm_walk {H : Heap} {A : Option Addr} {c : Nat} {l : List Int} (hT : Tz H) (hrb : Row H A (by8 l)) (hcc : l.length ≤ c) (hb : isBy l) (hl : l.length ≤ 140737488351232) :
    ACalls Tryd.prog 6 [Value.slice A l.length c].toArray H fun e H' => e = .returned (.bool true) ∧ Keep H H' := by
  refine call6 (Nat.le_of_ble_eq_true rfl) ?_
  unfold L6 env0
  have fin : ∀ {H1 : Heap}, Keep H H1 → ∀ (env' : Env) (H' : Heap), env' 2 = .bool true → Keep H1 H' → retQ [.t 2] (fun e H' => e = .returned (.bool true) ∧ Keep H H') .ret env' H' := by
    intro H1 hk1 env' H' e2 hk
    simp -implicitDefEqProofs (maxSteps := 1000000) (disch := first | omega | assumption) only [e2, Sx, reduceIte, Nat.reduceEqDiff, reduceCtorEq, Nat.reduceAdd, Nat.reduceSub, Nat.reduceLT]
    exact ⟨by trivial, hk1.trans hk⟩
  simp -implicitDefEqProofs (maxSteps := 1000000) (disch := first | omega | assumption) only [Sx, reduceIte, Nat.reduceEqDiff, reduceCtorEq, Nat.reduceAdd, Nat.reduceSub, Nat.reduceLT, decide_true, decide_false, Bool.not_true, Bool.not_false, Int.toNat_one, Int.toNat_zero, Nat.zero_mul, l_g, endK]
  refine a_call (xs := []) lives_spec ?_
  rintro e H1 ⟨rfl, hk1⟩
  simp -implicitDefEqProofs (maxSteps := 1000000) (disch := first | omega | assumption) only [Sx, reduceIte, Nat.reduceEqDiff, reduceCtorEq, Nat.reduceAdd, Nat.reduceSub, Nat.reduceLT, decide_true, decide_false, Bool.not_true, Bool.not_false, Int.toNat_one, Int.toNat_zero, Nat.zero_mul, l_g, endK]
  refine a_call (binary_spec ⟨A, c, rfl, hcc, hk1.row hrb⟩ hb (by omega)) ?_
  rintro e H2 ⟨rfl, rfl⟩
  by_cases g : (binN l).2 = 0
  case neg =>
    have f1 := nq g
    simp -implicitDefEqProofs (maxSteps := 1000000) (disch := first | omega | assumption) only [f1, Sx, reduceIte, Nat.reduceEqDiff, reduceCtorEq, Nat.reduceAdd, Nat.reduceSub, Nat.reduceLT, decide_true, decide_false, Bool.not_true, Bool.not_false, Int.toNat_one, Int.toNat_zero, Nat.zero_mul, l_g, endK]
    exact form_tail (hT.keep hk1) (hk1.row hrb) hcc hb hl (by simp -implicitDefEqProofs (maxSteps := 1000000) (disch := first | omega | assumption) only [Sx, reduceIte, Nat.reduceEqDiff, reduceCtorEq, Nat.reduceAdd, Nat.reduceSub, Nat.reduceLT]) fun env' H' e2 hk => fin hk1 env' H' e2 hk
  have f1 := bq g
  by_cases w1 : l.length ≤ 512
  case neg =>
    have f2 : decide ((l.length : Int) ≤ 512) = false := decide_eq_false (by omega)
    simp -implicitDefEqProofs (maxSteps := 1000000) (disch := first | omega | assumption) only [f1, f2, Sx, reduceIte, Nat.reduceEqDiff, reduceCtorEq, Nat.reduceAdd, Nat.reduceSub, Nat.reduceLT, decide_true, decide_false, Bool.not_true, Bool.not_false, Int.toNat_one, Int.toNat_zero, Nat.zero_mul, l_g, endK]
    exact form_tail (hT.keep hk1) (hk1.row hrb) hcc hb hl (by simp -implicitDefEqProofs (maxSteps := 1000000) (disch := first | omega | assumption) only [Sx, reduceIte, Nat.reduceEqDiff, reduceCtorEq, Nat.reduceAdd, Nat.reduceSub, Nat.reduceLT]) fun env' H' e2 hk => fin hk1 env' H' e2 hk
  have f2 : decide ((l.length : Int) ≤ 512) = true := decide_eq_true (by omega)
  have hfit : fits64 (binN l).1 := by
    unfold binN at g ⊢
    split
    · decide
    · rename_i h; rw [if_neg h] at g
      split
      · assumption
      · decide
  have hform := bin_form hb (show binN l = ((binN l).1, 0) by rw [← g]) w1
  simp only [fits64, lo64, hi64] at hfit
  simp -implicitDefEqProofs (maxSteps := 1000000) (disch := first | omega | assumption) only [f1, f2, Sx, reduceIte, Nat.reduceEqDiff, reduceCtorEq, Nat.reduceAdd, Nat.reduceSub, Nat.reduceLT, decide_true, decide_false, Bool.not_true, Bool.not_false, Int.toNat_one, Int.toNat_zero, Nat.zero_mul, l_g, endK]
  refine a_call (putBinary_spec (by omega) (by omega)) ?_
  rintro e H3 ⟨v, rfl, hO, hk3, hF⟩
  rw [hform] at hO ⊢
  have hO : Bs H3 v l := hO
  obtain ⟨B, d, rfl, hd, hrd⟩ := own_by hO
  have k3 := hk1.trans hk3
  have b1 := ev_b2s_by (c := d) hrd
  have b2 := ev_b2s_by (c := c) (k3.row hrb)
  have q0 : ((0 : Int) != 0) = false := rfl
  have q1 : (!decide (txt l = txt l)) = false := by simp
  simp -implicitDefEqProofs (maxSteps := 1000000) (disch := first | omega | assumption) only [q0, q1, b1, b2, v_sneq, t_eq, Sx, reduceIte, Nat.reduceEqDiff, reduceCtorEq, Nat.reduceAdd, Nat.reduceSub, Nat.reduceLT, decide_true, decide_false, Bool.not_true, Bool.not_false, Int.toNat_one, Int.toNat_zero, Nat.zero_mul, l_g, endK]
  exact form_tail (hT.keep k3) (k3.row hrb) hcc hb hl (by simp -implicitDefEqProofs (maxSteps := 1000000) (disch := first | omega | assumption) only [Sx, reduceIte, Nat.reduceEqDiff, reduceCtorEq, Nat.reduceAdd, Nat.reduceSub, Nat.reduceLT]) fun env' H' e2 hk => fin k3 env' H' e2 hk
theorem fieldForm_row {H : Heap} (hT : Tz H) (A : Option Addr) (c : Nat) (bs : List Int) (cl : List (List Value)) (he : Els (Ty.int .u8) H A bs cl) (hc : bs.length ≤ c) (wf : (∀ y ∈ bs, (Lit.int .u8 y).wf = true) ∧ bs.length ≤ maxLen) (hy : bs.length * 1 ≤ 140737488351232) :
    ACalls Tryd.prog 6 [Value.slice A bs.length c].toArray H fun e H' => e = .returned (.bool true) ∧ Keep H H' := by
  exact fieldForm_walk hT he.ints hc (fun y hy => wf_u8 (wf.1 y hy)) (by omega)
end Go.Proofs.YtigignkgblaoaaaDoor.S12
