/-
  The document's Octal, whole; Number's two ways.
-/
import Derived.Test.YtigignkgblaoaaaDoorOctal
set_option linter.unusedVariables false
set_option linter.unusedSimpArgs false
namespace Go.Proofs.YtigignkgblaoaaaDoor.S12
open Go Go.RowKit Go.Proofs.YtigignkgblaoaaaDoor.Sep Go.Proofs.YtigignkgblaoaaaDoor.Low Go.Proofs.YtigignkgblaoaaaDoor.Lib

set_option maxHeartbeats 2000000 in
theorem roct_5 {H : Heap} {A : Option Addr} {c i0 : Nat} {l : List Int} {env : Env} {Q : Post} {QP : List PanicEntry → Heap → Prop} (hr : Row H A (by8 l)) (hl : l.length ≤ 1125899906842624) (hi : i0 ≤ l.length)
    (h0 : env 0 = .slice A l.length c) (h4 : env 4 = .int .i64 i0)
    (hq : ∀ env', env' 2 = .int .i64 (octT (l.drop i0)).1 → env' 3 = .int .i64 (octT (l.drop i0)).2 → Q .ret env' H) : awpC Tryd.prog L11_5 Q QP env H := by
  unfold L11_5
  simp -implicitDefEqProofs (maxSteps := 1000000) (disch := first | omega | assumption) only [Sx, reduceIte, Nat.reduceEqDiff, reduceCtorEq, Nat.reduceAdd, Nat.reduceSub, Nat.reduceLT]
  -- what is said of digits behind the first ones that are digits
  have fin : ∀ (j : Nat) (n : Int) (big : Bool) (env' : Env), j ≤ (l.drop i0).length → (∀ y ∈ (l.drop i0).take j, isOct y = true) → (∀ h : j < (l.drop i0).length, isOct (l.drop i0)[j] = false) →
      ((big = false ∧ octV 0 ((l.drop i0).take j) = some n) ∨ (big = true ∧ octV 0 ((l.drop i0).take j) = none)) →
      env' 2 = .int .i64 (if (l.drop (i0 + j)).all blankZ then if big then 0 else n else 0) → env' 3 = .int .i64 (if (l.drop (i0 + j)).all blankZ then if big then 121 else 0 else 120) → Q .ret env' H := by
    intro j n big env' hj hy hend hv e2 e3
    obtain ⟨ht, hd⟩ := while_split hy hend
    unfold octT at hq
    rw [hd, ht, List.drop_drop] at hq
    cases hall : (l.drop (i0 + j)).all blankZ with
    | false =>
      rw [hall] at e2 e3
      rw [if_neg (by rw [hall]; simp)] at hq
      exact hq env' (by simpa using e2) (by simpa using e3)
    | true =>
      rw [hall] at e2 e3
      rw [if_pos hall] at hq
      rcases hv with ⟨rfl, hv⟩ | ⟨rfl, hv⟩
      · rw [hv] at hq; exact hq env' (by simpa using e2) (by simpa using e3)
      · rw [hv] at hq; exact hq env' (by simpa using e2) (by simpa using e3)
  have hdl : (l.drop i0).length = l.length - i0 := List.length_drop
  refine c_loop (fun k env H' => H' = H ∧ ∃ (j : Nat) (n : Int) (big : Bool), k + j = (l.drop i0).length ∧ env 0 = .slice A l.length c ∧ env 4 = .int .i64 (i0 + j : Nat) ∧ env 5 = .int .i64 n ∧ env 6 = .bool big ∧ 0 ≤ n ∧ n ≤ 9223372036854775807 ∧ (∀ y ∈ (l.drop i0).take j, isOct y = true) ∧
      ((big = false ∧ octV 0 ((l.drop i0).take j) = some n) ∨ (big = true ∧ octV 0 ((l.drop i0).take j) = none))) (l.drop i0).length ⟨rfl, 0, 0, false, by omega, by simp -implicitDefEqProofs (maxSteps := 1000000) (disch := first | omega | assumption) only [h0, Sx, reduceIte, Nat.reduceEqDiff, reduceCtorEq, Nat.reduceAdd, Nat.reduceSub, Nat.reduceLT], by simp -implicitDefEqProofs (maxSteps := 1000000) (disch := first | omega | assumption) only [h4, Sx, reduceIte, Nat.reduceEqDiff, reduceCtorEq, Nat.reduceAdd, Nat.reduceSub, Nat.reduceLT], by simp -implicitDefEqProofs (maxSteps := 1000000) (disch := first | omega | assumption) only [Sx, reduceIte, Nat.reduceEqDiff, reduceCtorEq, Nat.reduceAdd, Nat.reduceSub, Nat.reduceLT], by simp -implicitDefEqProofs (maxSteps := 1000000) (disch := first | omega | assumption) only [Sx, reduceIte, Nat.reduceEqDiff, reduceCtorEq, Nat.reduceAdd, Nat.reduceSub, Nat.reduceLT], by omega, by omega, by simp, .inl ⟨rfl, rfl⟩⟩ ?_
  rintro k env H1 ⟨rfl, j, n, big, hk, h0, h4, h5, h6, hn0, hn1, hy, hv⟩
  unfold L11_2
  have leave : ∀ env2 : Env, env2 0 = .slice A l.length c → env2 4 = .int .i64 (i0 + j : Nat) → env2 5 = .int .i64 n → env2 6 = .bool big → (∀ h : j < (l.drop i0).length, isOct (l.drop i0)[j] = false) → awpC Tryd.prog L11_b4 Q QP env2 H1 := by
    intro env2 g0 g4 g5 g6 hend
    exact roct_b4 hr hl (by omega) g0 g4 g5 g6 fun env' e2 e3 => fin j n big env' (by omega) hy hend hv e2 e3
  by_cases hj : i0 + j < l.length
  · have f0 : decide (((i0 + j : Nat) : Int) < (l.length : Int)) = true := decide_eq_true (by omega)
    obtain ⟨b, rfl, hx⟩ := by_at hr hj
    have hjd : j < (l.drop i0).length := by omega
    have hget : (l.drop i0)[j] = l[i0 + j] := List.getElem_drop
    have hstep := all_take_succ hjd hy
    rw [hget] at hstep
    have htk : (l.drop i0).take (j + 1) = (l.drop i0).take j ++ [l[i0 + j]] := by rw [List.take_succ_eq_append_getElem hjd, hget]
    generalize hxx : l[i0 + j] = x at hx hstep htk
    by_cases h1 : 48 ≤ x
    · have f1 : decide (48 ≤ x) = true := decide_eq_true h1
      by_cases h2 : x ≤ 55
      · have f2 : decide (x ≤ 55) = true := decide_eq_true h2
        have hy2 := hstep (by simp [isOct, h1, h2])
        by_cases hbig : (9223372036854775807 - (x - 48)) / 8 < n
        · have f3 : decide ((9223372036854775807 - (x - 48)) / 8 < n) = true := decide_eq_true hbig
          simp -implicitDefEqProofs (maxSteps := 1000000) (disch := first | omega | assumption) only [h0, h4, h5, h6, f0, f1, f2, f3, hx, w_u8, Sx, reduceIte, Nat.reduceEqDiff, reduceCtorEq, Nat.reduceAdd, Nat.reduceSub, Nat.reduceLT, decide_true, decide_false, Bool.not_true, Bool.not_false, Int.toNat_one, Int.toNat_zero, Nat.zero_mul, l_g, endK]
          unfold L11_1
          simp -implicitDefEqProofs (maxSteps := 1000000) (disch := first | omega | assumption) only [h0, h4, h5, h6, Sx, reduceIte, Nat.reduceEqDiff, reduceCtorEq, Nat.reduceAdd, Nat.reduceSub, Nat.reduceLT, decide_true, decide_false, Bool.not_true, Bool.not_false, Int.toNat_one, Int.toNat_zero, Nat.zero_mul, l_g, endK]
          refine ⟨k - 1, by omega, by trivial, j + 1, n, true, by omega, by trivial, by simp -implicitDefEqProofs (maxSteps := 1000000) (disch := first | omega | assumption) only [← Nat.add_assoc, Int.natCast_add, Int.natCast_one, Sx, reduceIte, Nat.reduceEqDiff, reduceCtorEq, Nat.reduceAdd, Nat.reduceSub, Nat.reduceLT], by trivial, by trivial, hn0, hn1, hy2, .inr ⟨rfl, ?_⟩⟩
          rw [htk, octV_app]
          rcases hv with ⟨-, hv⟩ | ⟨-, hv⟩
          · rw [hv]; show octV n [x] = none; rw [octV, if_pos hbig]
          · rw [hv]
        · have f3 : decide ((9223372036854775807 - (x - 48)) / 8 < n) = false := decide_eq_false hbig
          simp -implicitDefEqProofs (maxSteps := 1000000) (disch := first | omega | assumption) only [h0, h4, h5, h6, f0, f1, f2, f3, hx, w_u8, Sx, reduceIte, Nat.reduceEqDiff, reduceCtorEq, Nat.reduceAdd, Nat.reduceSub, Nat.reduceLT, decide_true, decide_false, Bool.not_true, Bool.not_false, Int.toNat_one, Int.toNat_zero, Nat.zero_mul, l_g, endK]
          unfold L11_1
          simp -implicitDefEqProofs (maxSteps := 1000000) (disch := first | omega | assumption) only [h0, h4, h5, h6, Sx, reduceIte, Nat.reduceEqDiff, reduceCtorEq, Nat.reduceAdd, Nat.reduceSub, Nat.reduceLT, decide_true, decide_false, Bool.not_true, Bool.not_false, Int.toNat_one, Int.toNat_zero, Nat.zero_mul, l_g, endK]
          refine ⟨k - 1, by omega, by trivial, j + 1, _, big, by omega, by trivial, by simp -implicitDefEqProofs (maxSteps := 1000000) (disch := first | omega | assumption) only [← Nat.add_assoc, Int.natCast_add, Int.natCast_one, Sx, reduceIte, Nat.reduceEqDiff, reduceCtorEq, Nat.reduceAdd, Nat.reduceSub, Nat.reduceLT], rfl, by trivial, by omega, by omega, hy2, ?_⟩
          rw [htk, octV_app]
          rcases hv with ⟨rfl, hv⟩ | ⟨rfl, hv⟩
          · refine .inl ⟨rfl, ?_⟩
            rw [hv]; show octV n [x] = some _; rw [octV, if_neg hbig, octV, Int.mul_comm]
          · exact .inr ⟨rfl, by rw [hv]⟩
      · have f2 : decide (x ≤ 55) = false := decide_eq_false h2
        simp -implicitDefEqProofs (maxSteps := 1000000) (disch := first | omega | assumption) only [h0, h4, h5, h6, f0, f1, f2, hx, Sx, reduceIte, Nat.reduceEqDiff, reduceCtorEq, Nat.reduceAdd, Nat.reduceSub, Nat.reduceLT, decide_true, decide_false, Bool.not_true, Bool.not_false, Int.toNat_one, Int.toNat_zero, Nat.zero_mul, l_g, endK]
        exact leave _ (by simp -implicitDefEqProofs (maxSteps := 1000000) (disch := first | omega | assumption) only [h0, Sx, reduceIte, Nat.reduceEqDiff, reduceCtorEq, Nat.reduceAdd, Nat.reduceSub, Nat.reduceLT]) (by simp -implicitDefEqProofs (maxSteps := 1000000) (disch := first | omega | assumption) only [h4, Sx, reduceIte, Nat.reduceEqDiff, reduceCtorEq, Nat.reduceAdd, Nat.reduceSub, Nat.reduceLT]) (by simp -implicitDefEqProofs (maxSteps := 1000000) (disch := first | omega | assumption) only [h5, Sx, reduceIte, Nat.reduceEqDiff, reduceCtorEq, Nat.reduceAdd, Nat.reduceSub, Nat.reduceLT]) (by simp -implicitDefEqProofs (maxSteps := 1000000) (disch := first | omega | assumption) only [h6, Sx, reduceIte, Nat.reduceEqDiff, reduceCtorEq, Nat.reduceAdd, Nat.reduceSub, Nat.reduceLT]) fun _ => by rw [hget, hxx]; simp [isOct, h2]
    · have f1 : decide (48 ≤ x) = false := decide_eq_false h1
      simp -implicitDefEqProofs (maxSteps := 1000000) (disch := first | omega | assumption) only [h0, h4, h5, h6, f0, f1, hx, Sx, reduceIte, Nat.reduceEqDiff, reduceCtorEq, Nat.reduceAdd, Nat.reduceSub, Nat.reduceLT, decide_true, decide_false, Bool.not_true, Bool.not_false, Int.toNat_one, Int.toNat_zero, Nat.zero_mul, l_g, endK]
      exact leave _ (by simp -implicitDefEqProofs (maxSteps := 1000000) (disch := first | omega | assumption) only [h0, Sx, reduceIte, Nat.reduceEqDiff, reduceCtorEq, Nat.reduceAdd, Nat.reduceSub, Nat.reduceLT]) (by simp -implicitDefEqProofs (maxSteps := 1000000) (disch := first | omega | assumption) only [h4, Sx, reduceIte, Nat.reduceEqDiff, reduceCtorEq, Nat.reduceAdd, Nat.reduceSub, Nat.reduceLT]) (by simp -implicitDefEqProofs (maxSteps := 1000000) (disch := first | omega | assumption) only [h5, Sx, reduceIte, Nat.reduceEqDiff, reduceCtorEq, Nat.reduceAdd, Nat.reduceSub, Nat.reduceLT]) (by simp -implicitDefEqProofs (maxSteps := 1000000) (disch := first | omega | assumption) only [h6, Sx, reduceIte, Nat.reduceEqDiff, reduceCtorEq, Nat.reduceAdd, Nat.reduceSub, Nat.reduceLT]) fun _ => by rw [hget, hxx]; simp [isOct, h1]
  · have f0 : decide (((i0 + j : Nat) : Int) < (l.length : Int)) = false := decide_eq_false (by omega)
    simp -implicitDefEqProofs (maxSteps := 1000000) (disch := first | omega | assumption) only [h0, h4, h5, h6, f0, Sx, reduceIte, Nat.reduceEqDiff, reduceCtorEq, Nat.reduceAdd, Nat.reduceSub, Nat.reduceLT, decide_true, decide_false, Bool.not_true, Bool.not_false, Int.toNat_one, Int.toNat_zero, Nat.zero_mul, l_g, endK]
    exact leave _ (by simp -implicitDefEqProofs (maxSteps := 1000000) (disch := first | omega | assumption) only [h0, Sx, reduceIte, Nat.reduceEqDiff, reduceCtorEq, Nat.reduceAdd, Nat.reduceSub, Nat.reduceLT]) (by simp -implicitDefEqProofs (maxSteps := 1000000) (disch := first | omega | assumption) only [h4, Sx, reduceIte, Nat.reduceEqDiff, reduceCtorEq, Nat.reduceAdd, Nat.reduceSub, Nat.reduceLT]) (by simp -implicitDefEqProofs (maxSteps := 1000000) (disch := first | omega | assumption) only [h5, Sx, reduceIte, Nat.reduceEqDiff, reduceCtorEq, Nat.reduceAdd, Nat.reduceSub, Nat.reduceLT]) (by simp -implicitDefEqProofs (maxSteps := 1000000) (disch := first | omega | assumption) only [h6, Sx, reduceIte, Nat.reduceEqDiff, reduceCtorEq, Nat.reduceAdd, Nat.reduceSub, Nat.reduceLT]) fun h => absurd h (by omega)
set_option maxHeartbeats 1000000 in
theorem roctal_spec {H : Heap} {v : Value} {l : List Int} (hb : By H v l) (hl : l.length ≤ 1125899906842624) :
    ACalls Tryd.prog 11 [v].toArray H fun e H' => e = .returned (.tuple #[.int .i64 (octN l).1, .int .i64 (octN l).2]) ∧ H' = H := by
  obtain ⟨A, c, rfl, hc, hr⟩ := hb
  refine call11 (Nat.le_of_ble_eq_true rfl) ?_
  unfold L11 env0
  simp -implicitDefEqProofs (maxSteps := 1000000) (disch := first | omega | assumption) only [Sx, reduceIte, Nat.reduceEqDiff, reduceCtorEq, Nat.reduceAdd, Nat.reduceSub, Nat.reduceLT]
  refine c_loop (fun k env H' => H' = H ∧ ∃ i, k + i = l.length ∧ env 0 = .slice A l.length c ∧ env 4 = .int .i64 i ∧ ∀ y ∈ l.take i, (y == 32) = true) l.length ⟨rfl, 0, by omega, by simp -implicitDefEqProofs (maxSteps := 1000000) (disch := first | omega | assumption) only [Sx, reduceIte, Nat.reduceEqDiff, reduceCtorEq, Nat.reduceAdd, Nat.reduceSub, Nat.reduceLT], by simp -implicitDefEqProofs (maxSteps := 1000000) (disch := first | omega | assumption) only [Sx, reduceIte, Nat.reduceEqDiff, reduceCtorEq, Nat.reduceAdd, Nat.reduceSub, Nat.reduceLT]; rfl, by simp⟩ ?_
  rintro k env H2 ⟨rfl, i, hk, h0, h4, hy⟩
  unfold L11_0
  have leave : ∀ env2 : Env, env2 0 = .slice A l.length c → env2 4 = .int .i64 i → (∀ h : i < l.length, (l[i] == 32) = false) → awpC Tryd.prog L11_5 (retQ [.t 2, .t 3] fun e H' => e = .returned (.tuple #[.int .i64 (octN l).1, .int .i64 (octN l).2]) ∧ H' = H2) (fun ch H => False ∧ H = H2) env2 H2 := by
    intro env2 g0 g4 hend
    obtain ⟨-, hd⟩ := while_split (p := fun y : Int => y == 32) hy hend
    refine roct_5 hr hl (by omega) g0 g4 ?_
    intro env' e2 e3
    rw [← hd] at e2 e3
    simp -implicitDefEqProofs (maxSteps := 1000000) (disch := first | omega | assumption) only [e2, e3, Sx, reduceIte, Nat.reduceEqDiff, reduceCtorEq, Nat.reduceAdd, Nat.reduceSub, Nat.reduceLT]
    exact ⟨by trivial, by trivial⟩
  by_cases hi : i < l.length
  · have f0 : decide ((i : Int) < (l.length : Int)) = true := decide_eq_true (by omega)
    obtain ⟨b, rfl, hx⟩ := by_at hr hi
    have hstep := all_take_succ (p := fun y : Int => y == 32) hi hy
    generalize hxx : l[i] = x at hx hstep
    cases hx32 : (x == 32) with
    | true =>
      simp -implicitDefEqProofs (maxSteps := 1000000) (disch := first | omega | assumption) only [h0, h4, f0, hx, hx32, Sx, reduceIte, Nat.reduceEqDiff, reduceCtorEq, Nat.reduceAdd, Nat.reduceSub, Nat.reduceLT, decide_true, decide_false, Bool.not_true, Bool.not_false, Int.toNat_one, Int.toNat_zero, Nat.zero_mul, l_g, endK]
      exact ⟨k - 1, by omega, by trivial, i + 1, by omega, by trivial, by simp -implicitDefEqProofs (maxSteps := 1000000) (disch := first | omega | assumption) only [Int.natCast_add, Int.natCast_one, Sx, reduceIte, Nat.reduceEqDiff, reduceCtorEq, Nat.reduceAdd, Nat.reduceSub, Nat.reduceLT], by simpa using hstep hx32⟩
    | false =>
      simp -implicitDefEqProofs (maxSteps := 1000000) (disch := first | omega | assumption) only [h0, h4, f0, hx, hx32, Sx, reduceIte, Nat.reduceEqDiff, reduceCtorEq, Nat.reduceAdd, Nat.reduceSub, Nat.reduceLT, decide_true, decide_false, Bool.not_true, Bool.not_false, Int.toNat_one, Int.toNat_zero, Nat.zero_mul, l_g, endK]
      exact leave _ (by simp -implicitDefEqProofs (maxSteps := 1000000) (disch := first | omega | assumption) only [h0, Sx, reduceIte, Nat.reduceEqDiff, reduceCtorEq, Nat.reduceAdd, Nat.reduceSub, Nat.reduceLT]) (by simp -implicitDefEqProofs (maxSteps := 1000000) (disch := first | omega | assumption) only [h4, Sx, reduceIte, Nat.reduceEqDiff, reduceCtorEq, Nat.reduceAdd, Nat.reduceSub, Nat.reduceLT]) fun _ => by rw [hxx]; exact hx32
  · have f0 : decide ((i : Int) < (l.length : Int)) = false := decide_eq_false (by omega)
    simp -implicitDefEqProofs (maxSteps := 1000000) (disch := first | omega | assumption) only [h0, h4, f0, Sx, reduceIte, Nat.reduceEqDiff, reduceCtorEq, Nat.reduceAdd, Nat.reduceSub, Nat.reduceLT, decide_true, decide_false, Bool.not_true, Bool.not_false, Int.toNat_one, Int.toNat_zero, Nat.zero_mul, l_g, endK]
    exact leave _ (by simp -implicitDefEqProofs (maxSteps := 1000000) (disch := first | omega | assumption) only [h0, Sx, reduceIte, Nat.reduceEqDiff, reduceCtorEq, Nat.reduceAdd, Nat.reduceSub, Nat.reduceLT]) (by simp -implicitDefEqProofs (maxSteps := 1000000) (disch := first | omega | assumption) only [h4, Sx, reduceIte, Nat.reduceEqDiff, reduceCtorEq, Nat.reduceAdd, Nat.reduceSub, Nat.reduceLT]) fun h => absurd h hi
end Go.Proofs.YtigignkgblaoaaaDoor.S12
