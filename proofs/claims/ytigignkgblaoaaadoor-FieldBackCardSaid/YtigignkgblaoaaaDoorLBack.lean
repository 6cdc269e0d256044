/-
  FieldBack: any number, text and width.
-/
import Derived.Test.YtigignkgblaoaaaDoorLowK
import Derived.Test.YtigignkgblaoaaaDoorLives
import Derived.Test.YtigignkgblaoaaaDoorSumLaw
import Derived.Test.YtigignkgblaoaaaDoorSepOpn
set_option linter.unusedVariables false
set_option linter.unusedSimpArgs false
namespace Go.Proofs.YtigignkgblaoaaaDoor.S12
open Go Go.RowKit Go.Proofs.YtigignkgblaoaaaDoor.Sep Go.Proofs.YtigignkgblaoaaaDoor.Low Go.Proofs.YtigignkgblaoaaaDoor.Lib

theorem gd_u {P : Program} {want keep : Bool} {i : Nat} {ins : Ins} {args : List Operand} {re : List Nat} {rest : List Stp} {dst : Option Tmp} {D : Done} {K : Env → Heap → Prop} {KP : List PanicEntry → Heap → Prop} {env : Env} {H : Heap} : goG P undef want i ins args re keep rest dst D K KP env H = awpL P rest D K KP (env.put dst undef) H := rfl
set_option maxHeartbeats 4000000 in
theorem back_tail {H : Heap} {s : List UInt8} {w : Int} {env : Env} {Q : Post} {QP : List PanicEntry → Heap → Prop} (hs : s.length ≤ 140737488351232) (hw : -9223372036854775808 ≤ w ∧ w ≤ 9223372036854775807)
    (h1 : env 1 = .string ⟨s.toArray⟩) (h2 : env 2 = .int .i64 w) (hq : ∀ env' H', env' 6 = .bool true → Keep H H' → Q .ret env' H') : awpC Tryd.prog L9_0 Q QP env H := by
  unfold L9_0
  simp -implicitDefEqProofs (maxSteps := 1000000) (disch := first | omega | assumption) only [h1, h2, Sx, reduceIte, Nat.reduceEqDiff, reduceCtorEq, Nat.reduceAdd, Nat.reduceSub, Nat.reduceLT, decide_true, decide_false, Bool.not_true, Bool.not_false, Int.toNat_one, Int.toNat_zero, Nat.zero_mul, l_g, endK]
  refine a_call (putText_spec hw) ?_
  rintro e H1 ⟨v, rfl, hO, hk1, hF⟩
  have hsv := hO.scalar
  by_cases p : (putT s w).2 = 0
  case neg =>
    have f1 := nn p
    simp -implicitDefEqProofs (maxSteps := 1000000) (disch := first | omega | assumption) only [h1, h2, f1, Sx, reduceIte, Nat.reduceEqDiff, reduceCtorEq, Nat.reduceAdd, Nat.reduceSub, Nat.reduceLT, decide_true, decide_false, Bool.not_true, Bool.not_false, Int.toNat_one, Int.toNat_zero, Nat.zero_mul, l_g, endK]
    exact hq _ _ (by simp -implicitDefEqProofs (maxSteps := 1000000) (disch := first | omega | assumption) only [Sx, reduceIte, Nat.reduceEqDiff, reduceCtorEq, Nat.reduceAdd, Nat.reduceSub, Nat.reduceLT]) hk1
  have f1 := bn p
  have hb := text_back p
  have hlen := putT_length p
  obtain ⟨hw2, h0, hle, e0⟩ := putT_ok p
  have hby : isBy (putT s w).1 := by
    rw [e0]
    intro x hx
    rcases List.mem_append.1 hx with hx | hx
    · exact nats_by s x hx
    · exact zeros_isBy _ x hx
  generalize (putT s w).1 = D at hO hb hlen e0 hby
  obtain ⟨B, d, rfl, hd, hrd⟩ := own_by hO
  obtain ⟨r, rfl⟩ := own_some hO (by omega)
  simp -implicitDefEqProofs (maxSteps := 1000000) (disch := first | omega | assumption) only [h1, h2, f1, Sx, reduceIte, Nat.reduceEqDiff, reduceCtorEq, Nat.reduceAdd, Nat.reduceSub, Nat.reduceLT, decide_true, decide_false, Bool.not_true, Bool.not_false, Int.toNat_one, Int.toNat_zero, Nat.zero_mul, l_g, endK]
  refine a_call (text_spec hd hrd hby (by omega)) ?_
  rintro e H2 ⟨rfl, hk2⟩
  rw [hb, txt_nats]
  have q1 : decide (s = s) = true := decide_eq_true rfl
  have q2 := bq hlen
  simp -implicitDefEqProofs (maxSteps := 1000000) (disch := first | omega | assumption) only [h1, h2, f1, t_eq, q1, q2, Sx, reduceIte, Nat.reduceEqDiff, reduceCtorEq, Nat.reduceAdd, Nat.reduceSub, Nat.reduceLT, decide_true, decide_false, Bool.not_true, Bool.not_false, Int.toNat_one, Int.toNat_zero, Nat.zero_mul, l_g, endK]
  exact hq _ _ (by simp -implicitDefEqProofs (maxSteps := 1000000) (disch := first | omega | assumption) only [Sx, reduceIte, Nat.reduceEqDiff, reduceCtorEq, Nat.reduceAdd, Nat.reduceSub, Nat.reduceLT]) (hk1.trans hk2)
set_option maxHeartbeats 4000000 in
theorem fieldBack_walk {H : Heap} {n w : Int} {s : List UInt8} (hT : Tz H) (hn : -9223372036854775808 ≤ n ∧ n ≤ 9223372036854775807) (hs : s.length ≤ 140737488351232) (hw : -9223372036854775808 ≤ w ∧ w ≤ 9223372036854775807) :
    ACalls Tryd.prog 9 [Value.int .i64 n, .string ⟨s.toArray⟩, .int .i64 w].toArray H fun e H' => e = .returned (.bool true) ∧ Keep H H' := by
  have hf : fits64 n := by simp only [fits64, lo64, hi64]; omega
  refine call9 (Nat.le_of_ble_eq_true rfl) ?_
  unfold L9 env0
  have fin : ∀ {H1 : Heap}, Keep H H1 → ∀ (env' : Env) (H' : Heap), env' 6 = .bool true → Keep H1 H' → retQ [.t 6] (fun e H' => e = .returned (.bool true) ∧ Keep H H') .ret env' H' := by
    intro H1 hk1 env' H' e2 hk
    simp -implicitDefEqProofs (maxSteps := 1000000) (disch := first | omega | assumption) only [e2, Sx, reduceIte, Nat.reduceEqDiff, reduceCtorEq, Nat.reduceAdd, Nat.reduceSub, Nat.reduceLT]
    exact ⟨by trivial, hk1.trans hk⟩
  simp -implicitDefEqProofs (maxSteps := 1000000) (disch := first | omega | assumption) only [Sx, reduceIte, Nat.reduceEqDiff, reduceCtorEq, Nat.reduceAdd, Nat.reduceSub, Nat.reduceLT, decide_true, decide_false, Bool.not_true, Bool.not_false, Int.toNat_one, Int.toNat_zero, Nat.zero_mul, l_g, endK]
  refine a_call (xs := []) lives_spec ?_
  rintro e H1 ⟨rfl, hk1⟩
  simp -implicitDefEqProofs (maxSteps := 1000000) (disch := first | omega | assumption) only [Sx, reduceIte, Nat.reduceEqDiff, reduceCtorEq, Nat.reduceAdd, Nat.reduceSub, Nat.reduceLT, decide_true, decide_false, Bool.not_true, Bool.not_false, Int.toNat_one, Int.toNat_zero, Nat.zero_mul, l_g, endK]
  refine a_call (putNumber_spec (hT.keep hk1) hn hw) ?_
  rintro e H2 ⟨v, rfl, hO, hk2, hF⟩
  have hsv := hO.scalar
  have k2 := hk1.trans hk2
  by_cases p : (putN n w).2 = 0
  case neg =>
    have f1 := nn p
    have f2 := nq p
    by_cases c1 : 9 ≤ w
    · have c2 : ¬ w ≤ 512 := fun h => p (putN_fits hf ⟨c1, h⟩)
      have g1 : decide (9 ≤ w) = true := decide_eq_true c1
      have g2 : decide (w ≤ 512) = false := decide_eq_false c2
      simp -implicitDefEqProofs (maxSteps := 1000000) (disch := first | omega | assumption) only [f1, f2, g1, g2, Sx, reduceIte, Nat.reduceEqDiff, reduceCtorEq, Nat.reduceAdd, Nat.reduceSub, Nat.reduceLT, decide_true, decide_false, Bool.not_true, Bool.not_false, Int.toNat_one, Int.toNat_zero, Nat.zero_mul, l_g, endK]
      exact back_tail hs hw (by simp -implicitDefEqProofs (maxSteps := 1000000) (disch := first | omega | assumption) only [Sx, reduceIte, Nat.reduceEqDiff, reduceCtorEq, Nat.reduceAdd, Nat.reduceSub, Nat.reduceLT]) (by simp -implicitDefEqProofs (maxSteps := 1000000) (disch := first | omega | assumption) only [Sx, reduceIte, Nat.reduceEqDiff, reduceCtorEq, Nat.reduceAdd, Nat.reduceSub, Nat.reduceLT]) fun env' H' e2 hk => fin k2 env' H' e2 hk
    · have g1 : decide (9 ≤ w) = false := decide_eq_false c1
      simp -implicitDefEqProofs (maxSteps := 1000000) (disch := first | omega | assumption) only [f1, f2, g1, Sx, reduceIte, Nat.reduceEqDiff, reduceCtorEq, Nat.reduceAdd, Nat.reduceSub, Nat.reduceLT, decide_true, decide_false, Bool.not_true, Bool.not_false, Int.toNat_one, Int.toNat_zero, Nat.zero_mul, l_g, endK]
      exact back_tail hs hw (by simp -implicitDefEqProofs (maxSteps := 1000000) (disch := first | omega | assumption) only [Sx, reduceIte, Nat.reduceEqDiff, reduceCtorEq, Nat.reduceAdd, Nat.reduceSub, Nat.reduceLT]) (by simp -implicitDefEqProofs (maxSteps := 1000000) (disch := first | omega | assumption) only [Sx, reduceIte, Nat.reduceEqDiff, reduceCtorEq, Nat.reduceAdd, Nat.reduceSub, Nat.reduceLT]) fun env' H' e2 hk => fin k2 env' H' e2 hk
  have f1 := bn p
  have f2 := bq p
  have hback := putN_back p hf
  have hlen := putN_length p
  have h12 : w = 12 → ∃ x, (putN n w).1[0]? = some x ∧ (x < 128 ↔ 0 ≤ n ∧ n < 8589934592) := by rintro rfl; exact putN_12 p
  have hby : isBy (putN n w).1 ∧ 2 ≤ w ∧ w ≤ 512 := by
    unfold putN at p ⊢
    by_cases p1 : (putO n w).2 = 0
    · rw [if_pos p1]
      obtain ⟨a, b, e⟩ := putO_ok p1
      refine ⟨?_, a⟩
      rw [e]
      intro x hx
      rcases List.mem_append.1 hx with hx | hx
      · exact od_by _ _ x hx
      · rw [List.mem_singleton.1 hx]; omega
    · rw [if_neg p1] at p ⊢
      obtain ⟨a, b, e⟩ := putB_ok p
      refine ⟨?_, a⟩
      obtain ⟨y, r, e2, h2⟩ := putB_head p
      rw [e2]
      rw [e] at e2
      obtain ⟨k, hk⟩ : ∃ k : Nat, w.toNat = k + 1 := ⟨w.toNat - 1, by omega⟩
      rw [hk, hd, orB] at e2
      intro x hx
      rcases List.mem_cons.1 hx with rfl | hx
      · omega
      · rw [← (List.cons.inj e2).2] at hx
        exact hd_by _ _ x hx
  obtain ⟨hby, hw2⟩ := hby
  obtain ⟨D, hD⟩ : ∃ D, D = (putN n w).1 := ⟨_, rfl⟩
  rw [← hD] at hO hback hlen h12 hby
  have hback2 : numB D = (n, 0) := hback
  obtain ⟨B, d, rfl, hd, hrd⟩ := own_by hO
  have g3 : ((0 : Int) != 0) = false := rfl
  have g4 := bn (rfl : n = n)
  have g5 := bn hlen
  have q3 : (true != true) = false := rfl
  have q4 : (false != false) = false := rfl
  have q5 : (true == true) = true := rfl
  have q6 : (false == false) = true := rfl
  by_cases c1 : 9 ≤ w
  · have g1 : decide (9 ≤ w) = true := decide_eq_true c1
    have g2 : decide (w ≤ 512) = true := decide_eq_true hw2.2
    simp -implicitDefEqProofs (maxSteps := 1000000) (disch := first | omega | assumption) only [f1, f2, g1, g2, Sx, reduceIte, Nat.reduceEqDiff, reduceCtorEq, Nat.reduceAdd, Nat.reduceSub, Nat.reduceLT, decide_true, decide_false, Bool.not_true, Bool.not_false, Int.toNat_one, Int.toNat_zero, Nat.zero_mul, l_g, endK]
    refine a_call (number_spec ⟨B, d, rfl, hd, hrd⟩ hby (by omega)) ?_
    rintro e H3 ⟨rfl, hk3⟩
    rw [hback2]
    have k3 := k2.trans hk3
    by_cases c2 : w = 12
    · obtain ⟨x, hx, hx2⟩ := h12 c2
      have f3 := bq c2
      obtain ⟨b, rfl, hcell⟩ := by_at (hk3.row hrd) (i := 0) (by omega)
      have hz : D[0]'(by omega) = x := by
        rw [List.getElem?_eq_getElem (by omega)] at hx
        simpa using hx
      rw [hz, add_zero_a] at hcell
      have hin : (0 : Int) ≤ 0 ∧ (0 : Int) < (D.length : Int) := by omega
      have e1 : (b.add ((0 : Int).toNat * 1)) = b := by simp [Addr.add]
      by_cases c3 : 0 ≤ n
      · have g6 : decide (0 ≤ n) = true := decide_eq_true c3
        by_cases c4 : n < 8589934592
        · have g7 : decide (n < 8589934592) = true := decide_eq_true c4
          have g8 : decide (x < 128) = true := decide_eq_true (hx2.2 ⟨c3, c4⟩)
          simp -implicitDefEqProofs (maxSteps := 1000000) (disch := first | omega | assumption) only [f3, g3, g4, g5, g6, g7, g8, q3, q4, q5, q6, gd_u, hcell, Sx, reduceIte, Nat.reduceEqDiff, reduceCtorEq, Nat.reduceAdd, Nat.reduceSub, Nat.reduceLT, decide_true, decide_false, Bool.not_true, Bool.not_false, Int.toNat_one, Int.toNat_zero, Nat.zero_mul, l_g, endK]
          exact back_tail hs hw (by simp -implicitDefEqProofs (maxSteps := 1000000) (disch := first | omega | assumption) only [Sx, reduceIte, Nat.reduceEqDiff, reduceCtorEq, Nat.reduceAdd, Nat.reduceSub, Nat.reduceLT]) (by simp -implicitDefEqProofs (maxSteps := 1000000) (disch := first | omega | assumption) only [Sx, reduceIte, Nat.reduceEqDiff, reduceCtorEq, Nat.reduceAdd, Nat.reduceSub, Nat.reduceLT]) fun env' H' e2 hk => fin k3 env' H' e2 hk
        · have g7 : decide (n < 8589934592) = false := decide_eq_false c4
          have g8 : decide (x < 128) = false := decide_eq_false fun h => c4 (hx2.1 h).2
          simp -implicitDefEqProofs (maxSteps := 1000000) (disch := first | omega | assumption) only [f3, g3, g4, g5, g6, g7, g8, q3, q4, q5, q6, gd_u, hcell, Sx, reduceIte, Nat.reduceEqDiff, reduceCtorEq, Nat.reduceAdd, Nat.reduceSub, Nat.reduceLT, decide_true, decide_false, Bool.not_true, Bool.not_false, Int.toNat_one, Int.toNat_zero, Nat.zero_mul, l_g, endK]
          exact back_tail hs hw (by simp -implicitDefEqProofs (maxSteps := 1000000) (disch := first | omega | assumption) only [Sx, reduceIte, Nat.reduceEqDiff, reduceCtorEq, Nat.reduceAdd, Nat.reduceSub, Nat.reduceLT]) (by simp -implicitDefEqProofs (maxSteps := 1000000) (disch := first | omega | assumption) only [Sx, reduceIte, Nat.reduceEqDiff, reduceCtorEq, Nat.reduceAdd, Nat.reduceSub, Nat.reduceLT]) fun env' H' e2 hk => fin k3 env' H' e2 hk
      · have g6 : decide (0 ≤ n) = false := decide_eq_false c3
        have g8 : decide (x < 128) = false := decide_eq_false fun h => c3 (hx2.1 h).1
        simp -implicitDefEqProofs (maxSteps := 1000000) (disch := first | omega | assumption) only [f3, g3, g4, g5, g6, g8, q3, q4, q5, q6, gd_u, hcell, Sx, reduceIte, Nat.reduceEqDiff, reduceCtorEq, Nat.reduceAdd, Nat.reduceSub, Nat.reduceLT, decide_true, decide_false, Bool.not_true, Bool.not_false, Int.toNat_one, Int.toNat_zero, Nat.zero_mul, l_g, endK]
        exact back_tail hs hw (by simp -implicitDefEqProofs (maxSteps := 1000000) (disch := first | omega | assumption) only [Sx, reduceIte, Nat.reduceEqDiff, reduceCtorEq, Nat.reduceAdd, Nat.reduceSub, Nat.reduceLT]) (by simp -implicitDefEqProofs (maxSteps := 1000000) (disch := first | omega | assumption) only [Sx, reduceIte, Nat.reduceEqDiff, reduceCtorEq, Nat.reduceAdd, Nat.reduceSub, Nat.reduceLT]) fun env' H' e2 hk => fin k3 env' H' e2 hk
    · have f3 := nq c2
      simp -implicitDefEqProofs (maxSteps := 1000000) (disch := first | omega | assumption) only [f3, g3, g4, g5, q3, q4, q5, q6, gd_u, Sx, reduceIte, Nat.reduceEqDiff, reduceCtorEq, Nat.reduceAdd, Nat.reduceSub, Nat.reduceLT, decide_true, decide_false, Bool.not_true, Bool.not_false, Int.toNat_one, Int.toNat_zero, Nat.zero_mul, l_g, endK]
      exact back_tail hs hw (by simp -implicitDefEqProofs (maxSteps := 1000000) (disch := first | omega | assumption) only [Sx, reduceIte, Nat.reduceEqDiff, reduceCtorEq, Nat.reduceAdd, Nat.reduceSub, Nat.reduceLT]) (by simp -implicitDefEqProofs (maxSteps := 1000000) (disch := first | omega | assumption) only [Sx, reduceIte, Nat.reduceEqDiff, reduceCtorEq, Nat.reduceAdd, Nat.reduceSub, Nat.reduceLT]) fun env' H' e2 hk => fin k3 env' H' e2 hk
  · have g1 : decide (9 ≤ w) = false := decide_eq_false c1
    simp -implicitDefEqProofs (maxSteps := 1000000) (disch := first | omega | assumption) only [f1, f2, g1, Sx, reduceIte, Nat.reduceEqDiff, reduceCtorEq, Nat.reduceAdd, Nat.reduceSub, Nat.reduceLT, decide_true, decide_false, Bool.not_true, Bool.not_false, Int.toNat_one, Int.toNat_zero, Nat.zero_mul, l_g, endK]
    refine a_call (number_spec ⟨B, d, rfl, hd, hrd⟩ hby (by omega)) ?_
    rintro e H3 ⟨rfl, hk3⟩
    rw [hback2]
    have k3 := k2.trans hk3
    have f3 := nq (show w ≠ 12 by omega)
    simp -implicitDefEqProofs (maxSteps := 1000000) (disch := first | omega | assumption) only [f3, g3, g4, g5, q3, q4, q5, q6, gd_u, Sx, reduceIte, Nat.reduceEqDiff, reduceCtorEq, Nat.reduceAdd, Nat.reduceSub, Nat.reduceLT, decide_true, decide_false, Bool.not_true, Bool.not_false, Int.toNat_one, Int.toNat_zero, Nat.zero_mul, l_g, endK]
    exact back_tail hs hw (by simp -implicitDefEqProofs (maxSteps := 1000000) (disch := first | omega | assumption) only [Sx, reduceIte, Nat.reduceEqDiff, reduceCtorEq, Nat.reduceAdd, Nat.reduceSub, Nat.reduceLT]) (by simp -implicitDefEqProofs (maxSteps := 1000000) (disch := first | omega | assumption) only [Sx, reduceIte, Nat.reduceEqDiff, reduceCtorEq, Nat.reduceAdd, Nat.reduceSub, Nat.reduceLT]) fun env' H' e2 hk => fin k3 env' H' e2 hk
theorem fieldBack_row {H : Heap} (hT : Tz H) (n : Int) (wn : (Lit.int .i64 n).wf = true) (s : ByteArray) (ws : s.size ≤ maxLen) (hb : s.size ≤ 140737488351232) (w : Int) (ww : (Lit.int .i64 w).wf = true) :
    ACalls Tryd.prog 9 [.int .i64 n, .string s, .int .i64 w].toArray H fun e H' => e = .returned (.bool true) ∧ Keep H H' := by
  obtain ⟨⟨l⟩⟩ := s
  exact fieldBack_walk hT (wf_i64 wn) (s := l) (by simp [ByteArray.size] at hb; omega) (wf_i64 ww)
end Go.Proofs.YtigignkgblaoaaaDoor.S12
