/-
  Octal, of the code and of the document.
-/
import Derived.Test.YtigignkgblaoaaaDoorLowB
import Derived.Test.YtigignkgblaoaaaDoorTrim
import Derived.Test.YtigignkgblaoaaaDoorOctLaw
set_option linter.unusedVariables false
set_option linter.unusedSimpArgs false
namespace Go.Proofs.YtigignkgblaoaaaDoor.S12
open Go Go.RowKit Go.Proofs.YtigignkgblaoaaaDoor.Sep Go.Proofs.YtigignkgblaoaaaDoor.Low Go.Proofs.YtigignkgblaoaaaDoor.Lib

set_option maxHeartbeats 2000000 in
theorem oct_tail {H0 H : Heap} {A : Option Addr} {c i : Nat} {t : List Int} {env : Env} {Q : Post} {QP : List PanicEntry → Heap → Prop} (hr : Row H A (by8 t)) (hc : t.length ≤ c) (hb : isBy t) (hl : t.length ≤ 1125899906842624) (hi : i ≤ t.length)
    (ht : t.takeWhile isOct = t.take i) (hd : t.dropWhile isOct = t.drop i) (h0 : env 0 = .slice A t.length c) (h4 : env 4 = .int .i64 i) (hk : Keep H0 H)
    (hq : ∀ env' H', env' 2 = .int .i64 (octT t).1 → env' 3 = .int .i64 (octT t).2 → Keep H0 H' → Q .ret env' H') : awpC Tryd.prog L10_30 Q QP env H := by
  unfold L10_30
  simp -implicitDefEqProofs (maxSteps := 1000000) (disch := first | omega | assumption) only [h0, h4, ev_slc_lo, Int.toNat_natCast, Sx, reduceIte, Nat.reduceEqDiff, reduceCtorEq, Nat.reduceAdd, Nat.reduceSub, Nat.reduceLT, decide_true, decide_false, Bool.not_true, Bool.not_false, Int.toNat_one, Int.toNat_zero, Nat.zero_mul, l_g, endK]
  refine a_call (trim_spec (By.drop hr hc hi) (hb.drop i) (by rw [List.length_drop]; omega)) ?_
  rintro e H1 ⟨hk1, A1, n1, c1, rfl, hn⟩
  unfold octT at hq
  rw [hd] at hq
  cases hall : (t.drop i).all blank0 with
  | false =>
    rw [if_neg (by rw [show (t.drop i).all blankZ = (t.drop i).all blank0 from rfl, hall]; simp)] at hq
    have f0 : decide ((0 : Int) < (n1 : Int)) = true := by rw [hn, hall]; rfl
    simp -implicitDefEqProofs (maxSteps := 1000000) (disch := first | omega | assumption) only [h0, h4, f0, Sx, reduceIte, Nat.reduceEqDiff, reduceCtorEq, Nat.reduceAdd, Nat.reduceSub, Nat.reduceLT, decide_true, decide_false, Bool.not_true, Bool.not_false, Int.toNat_one, Int.toNat_zero, Nat.zero_mul, l_g, endK]
    exact hq _ _ (by simp -implicitDefEqProofs (maxSteps := 1000000) (disch := first | omega | assumption) only [Sx, reduceIte, Nat.reduceEqDiff, reduceCtorEq, Nat.reduceAdd, Nat.reduceSub, Nat.reduceLT]) (by simp -implicitDefEqProofs (maxSteps := 1000000) (disch := first | omega | assumption) only [Sx, reduceIte, Nat.reduceEqDiff, reduceCtorEq, Nat.reduceAdd, Nat.reduceSub, Nat.reduceLT]) (hk.trans hk1)
  | true =>
    rw [if_pos (by rw [show (t.drop i).all blankZ = (t.drop i).all blank0 from rfl, hall]), ht] at hq
    have f0 : decide ((0 : Int) < (n1 : Int)) = false := by rw [hn, hall]; rfl
    have hlt : (t.take i).length = i := by rw [List.length_take]; omega
    have hoct : ∀ y ∈ t.take i, isOct y = true := by
      intro y hy
      rw [← ht] at hy
      exact tw_mem hy
    simp -implicitDefEqProofs (maxSteps := 1000000) (disch := first | omega | assumption) only [h0, h4, f0, ev_slc_hi, Int.toNat_natCast, Sx, reduceIte, Nat.reduceEqDiff, reduceCtorEq, Nat.reduceAdd, Nat.reduceSub, Nat.reduceLT, decide_true, decide_false, Bool.not_true, Bool.not_false, Int.toNat_one, Int.toNat_zero, Nat.zero_mul, l_g, endK]
    refine c_loop (fun k env H' => H' = H1 ∧ ∃ (j : Nat) (n : Int), k + j = i ∧ env 38 = .slice A i c ∧ env 39 = .int .i64 i ∧ env 40 = .int .i64 j ∧ env 5 = .int .i64 n ∧ 0 ≤ n ∧ n ≤ 9223372036854775807 ∧ octV n ((t.take i).drop j) = octV 0 (t.take i)) i ⟨rfl, 0, 0, by omega, by simp -implicitDefEqProofs (maxSteps := 1000000) (disch := first | omega | assumption) only [Sx, reduceIte, Nat.reduceEqDiff, reduceCtorEq, Nat.reduceAdd, Nat.reduceSub, Nat.reduceLT], by simp -implicitDefEqProofs (maxSteps := 1000000) (disch := first | omega | assumption) only [Sx, reduceIte, Nat.reduceEqDiff, reduceCtorEq, Nat.reduceAdd, Nat.reduceSub, Nat.reduceLT], by simp -implicitDefEqProofs (maxSteps := 1000000) (disch := first | omega | assumption) only [Sx, reduceIte, Nat.reduceEqDiff, reduceCtorEq, Nat.reduceAdd, Nat.reduceSub, Nat.reduceLT]; rfl, by simp -implicitDefEqProofs (maxSteps := 1000000) (disch := first | omega | assumption) only [Sx, reduceIte, Nat.reduceEqDiff, reduceCtorEq, Nat.reduceAdd, Nat.reduceSub, Nat.reduceLT], by omega, by omega, rfl⟩ ?_
    rintro k env1 H2 ⟨rfl, j, n, hkj, g38, g39, g40, g5, hn0, hn1, hv⟩
    unfold L10_1
    by_cases hj : j < i
    · have f1 : decide ((j : Int) < (i : Int)) = true := decide_eq_true (by omega)
      have hjt : j < (t.take i).length := by omega
      obtain ⟨b, rfl, hx⟩ := by_at (row_take (k := i) (hk1.row hr)) hjt
      have ho := hoct _ (List.getElem_mem hjt)
      rw [List.drop_eq_getElem_cons hjt, octV] at hv
      generalize hxx : (t.take i)[j] = x at hx ho hv
      simp only [isOct, Bool.and_eq_true, decide_eq_true_eq] at ho
      by_cases hbig : (9223372036854775807 - (x - 48)) / 8 < n
      · rw [if_pos hbig] at hv
        rw [← hv] at hq
        have f2 : decide ((9223372036854775807 - (x - 48)) / 8 < n) = true := decide_eq_true hbig
        simp -implicitDefEqProofs (maxSteps := 1000000) (disch := first | omega | assumption) only [g38, g39, g40, g5, f1, f2, hx, w_u8, Sx, reduceIte, Nat.reduceEqDiff, reduceCtorEq, Nat.reduceAdd, Nat.reduceSub, Nat.reduceLT, decide_true, decide_false, Bool.not_true, Bool.not_false, Int.toNat_one, Int.toNat_zero, Nat.zero_mul, l_g, endK]
        exact hq _ _ (by simp -implicitDefEqProofs (maxSteps := 1000000) (disch := first | omega | assumption) only [Sx, reduceIte, Nat.reduceEqDiff, reduceCtorEq, Nat.reduceAdd, Nat.reduceSub, Nat.reduceLT]) (by simp -implicitDefEqProofs (maxSteps := 1000000) (disch := first | omega | assumption) only [Sx, reduceIte, Nat.reduceEqDiff, reduceCtorEq, Nat.reduceAdd, Nat.reduceSub, Nat.reduceLT]) (hk.trans hk1)
      · rw [if_neg hbig] at hv
        have f2 : decide ((9223372036854775807 - (x - 48)) / 8 < n) = false := decide_eq_false hbig
        simp -implicitDefEqProofs (maxSteps := 1000000) (disch := first | omega | assumption) only [g38, g39, g40, g5, f1, f2, hx, w_u8, Sx, reduceIte, Nat.reduceEqDiff, reduceCtorEq, Nat.reduceAdd, Nat.reduceSub, Nat.reduceLT, decide_true, decide_false, Bool.not_true, Bool.not_false, Int.toNat_one, Int.toNat_zero, Nat.zero_mul, l_g, endK]
        exact ⟨k - 1, by omega, by trivial, j + 1, _, by omega, by trivial, by trivial, by simp -implicitDefEqProofs (maxSteps := 1000000) (disch := first | omega | assumption) only [Int.natCast_add, Int.natCast_one, Sx, reduceIte, Nat.reduceEqDiff, reduceCtorEq, Nat.reduceAdd, Nat.reduceSub, Nat.reduceLT], rfl, by omega, by omega, hv⟩
    · have f1 : decide ((j : Int) < (i : Int)) = false := decide_eq_false (by omega)
      rw [List.drop_of_length_le (by omega), octV] at hv
      rw [← hv] at hq
      simp -implicitDefEqProofs (maxSteps := 1000000) (disch := first | omega | assumption) only [g38, g39, g40, g5, f1, Sx, reduceIte, Nat.reduceEqDiff, reduceCtorEq, Nat.reduceAdd, Nat.reduceSub, Nat.reduceLT, decide_true, decide_false, Bool.not_true, Bool.not_false, Int.toNat_one, Int.toNat_zero, Nat.zero_mul, l_g, endK]
      exact hq _ _ (by simp -implicitDefEqProofs (maxSteps := 1000000) (disch := first | omega | assumption) only [g5, Sx, reduceIte, Nat.reduceEqDiff, reduceCtorEq, Nat.reduceAdd, Nat.reduceSub, Nat.reduceLT]) (by simp -implicitDefEqProofs (maxSteps := 1000000) (disch := first | omega | assumption) only [Sx, reduceIte, Nat.reduceEqDiff, reduceCtorEq, Nat.reduceAdd, Nat.reduceSub, Nat.reduceLT]) (hk.trans hk1)
set_option maxHeartbeats 2000000 in
theorem octal_spec {H : Heap} {v : Value} {l : List Int} (hb : By H v l) (hi : isBy l) (hl : l.length ≤ 1125899906842624) :
    ACalls Tryd.prog 10 [v].toArray H fun e H' => e = .returned (.tuple #[.int .i64 (octN l).1, .int .i64 (octN l).2]) ∧ Keep H H' := by
  refine call10 (Nat.le_of_ble_eq_true rfl) ?_
  unfold L10 env0
  have hs : scalarV v = true := by obtain ⟨_, _, rfl, _⟩ := hb; rfl
  simp -implicitDefEqProofs (maxSteps := 1000000) (disch := first | omega | assumption) only [Sx, reduceIte, Nat.reduceEqDiff, reduceCtorEq, Nat.reduceAdd, Nat.reduceSub, Nat.reduceLT]
  refine a_call (trimLeftSp_spec hb hl) ?_
  rintro e H1 ⟨rfl, v', rfl, A, c, rfl, hc, hr⟩
  obtain ⟨t, ht⟩ : ∃ t, t = l.dropWhile (· == 32) := ⟨_, rfl⟩
  rw [← ht] at hc hr
  have hti : isBy t := fun x hx => hi x (by rw [ht] at hx; exact (List.dropWhile_sublist _).subset hx)
  have htl : t.length ≤ 1125899906842624 := by
    have := (List.dropWhile_sublist (l := l) (fun x => x == 32)).length_le
    rw [← ht] at this
    omega
  have fin : ∀ (env' : Env) (H' : Heap), env' 2 = .int .i64 (octT t).1 → env' 3 = .int .i64 (octT t).2 → Keep H1 H' → retQ [.t 2, .t 3] (fun e H' => e = .returned (.tuple #[.int .i64 (octN l).1, .int .i64 (octN l).2]) ∧ Keep H1 H') .ret env' H' := by
    intro env' H' e2 e3 hk
    simp -implicitDefEqProofs (maxSteps := 1000000) (disch := first | omega | assumption) only [e2, e3, Sx, reduceIte, Nat.reduceEqDiff, reduceCtorEq, Nat.reduceAdd, Nat.reduceSub, Nat.reduceLT]
    exact ⟨by unfold octN; rw [← ht], hk⟩
  rw [← ht]
  simp -implicitDefEqProofs (maxSteps := 1000000) (disch := first | omega | assumption) only [Sx, reduceIte, Nat.reduceEqDiff, reduceCtorEq, Nat.reduceAdd, Nat.reduceSub, Nat.reduceLT, decide_true, decide_false, Bool.not_true, Bool.not_false, Int.toNat_one, Int.toNat_zero, Nat.zero_mul, l_g, endK]
  refine c_loop (fun k env H' => H' = H1 ∧ ∃ i, k + i = t.length ∧ env 0 = .slice A t.length c ∧ env 4 = .int .i64 i ∧ ∀ y ∈ t.take i, isOct y = true) t.length ⟨rfl, 0, by omega, by simp -implicitDefEqProofs (maxSteps := 1000000) (disch := first | omega | assumption) only [Sx, reduceIte, Nat.reduceEqDiff, reduceCtorEq, Nat.reduceAdd, Nat.reduceSub, Nat.reduceLT], by simp -implicitDefEqProofs (maxSteps := 1000000) (disch := first | omega | assumption) only [Sx, reduceIte, Nat.reduceEqDiff, reduceCtorEq, Nat.reduceAdd, Nat.reduceSub, Nat.reduceLT]; rfl, by simp⟩ ?_
  rintro k env H2 ⟨rfl, i, hk, h0, h4, hy⟩
  unfold L10_0
  by_cases hit : i < t.length
  · have f0 : decide ((i : Int) < (t.length : Int)) = true := decide_eq_true (by omega)
    obtain ⟨b, rfl, hx⟩ := by_at hr hit
    have hstep := all_take_succ hit hy
    have hend := while_split (t := t) (i := i) hy
    generalize hxx : t[i] = x at hx hstep hend
    by_cases h1 : 48 ≤ x
    · have f1 : decide (48 ≤ x) = true := decide_eq_true h1
      by_cases h2 : x ≤ 55
      · have f2 : decide (x ≤ 55) = true := decide_eq_true h2
        simp -implicitDefEqProofs (maxSteps := 1000000) (disch := first | omega | assumption) only [h0, h4, f0, f1, f2, hx, Sx, reduceIte, Nat.reduceEqDiff, reduceCtorEq, Nat.reduceAdd, Nat.reduceSub, Nat.reduceLT, decide_true, decide_false, Bool.not_true, Bool.not_false, Int.toNat_one, Int.toNat_zero, Nat.zero_mul, l_g, endK]
        exact ⟨k - 1, by omega, by trivial, i + 1, by omega, by trivial, by simp -implicitDefEqProofs (maxSteps := 1000000) (disch := first | omega | assumption) only [Int.natCast_add, Int.natCast_one, Sx, reduceIte, Nat.reduceEqDiff, reduceCtorEq, Nat.reduceAdd, Nat.reduceSub, Nat.reduceLT], hstep (by simp [isOct, h1, h2])⟩
      · have f2 : decide (x ≤ 55) = false := decide_eq_false h2
        obtain ⟨e1, e2⟩ := hend fun _ => by rw [hxx]; simp [isOct, h2]
        simp -implicitDefEqProofs (maxSteps := 1000000) (disch := first | omega | assumption) only [h0, h4, f0, f1, f2, hx, Sx, reduceIte, Nat.reduceEqDiff, reduceCtorEq, Nat.reduceAdd, Nat.reduceSub, Nat.reduceLT, decide_true, decide_false, Bool.not_true, Bool.not_false, Int.toNat_one, Int.toNat_zero, Nat.zero_mul, l_g, endK]
        exact oct_tail hr hc hti htl (by omega) e1 e2 (by simp -implicitDefEqProofs (maxSteps := 1000000) (disch := first | omega | assumption) only [h0, Sx, reduceIte, Nat.reduceEqDiff, reduceCtorEq, Nat.reduceAdd, Nat.reduceSub, Nat.reduceLT]) (by simp -implicitDefEqProofs (maxSteps := 1000000) (disch := first | omega | assumption) only [h4, Sx, reduceIte, Nat.reduceEqDiff, reduceCtorEq, Nat.reduceAdd, Nat.reduceSub, Nat.reduceLT]) (Keep.refl _) fin
    · have f1 : decide (48 ≤ x) = false := decide_eq_false h1
      obtain ⟨e1, e2⟩ := hend fun _ => by rw [hxx]; simp [isOct, h1]
      simp -implicitDefEqProofs (maxSteps := 1000000) (disch := first | omega | assumption) only [h0, h4, f0, f1, hx, Sx, reduceIte, Nat.reduceEqDiff, reduceCtorEq, Nat.reduceAdd, Nat.reduceSub, Nat.reduceLT, decide_true, decide_false, Bool.not_true, Bool.not_false, Int.toNat_one, Int.toNat_zero, Nat.zero_mul, l_g, endK]
      exact oct_tail hr hc hti htl (by omega) e1 e2 (by simp -implicitDefEqProofs (maxSteps := 1000000) (disch := first | omega | assumption) only [h0, Sx, reduceIte, Nat.reduceEqDiff, reduceCtorEq, Nat.reduceAdd, Nat.reduceSub, Nat.reduceLT]) (by simp -implicitDefEqProofs (maxSteps := 1000000) (disch := first | omega | assumption) only [h4, Sx, reduceIte, Nat.reduceEqDiff, reduceCtorEq, Nat.reduceAdd, Nat.reduceSub, Nat.reduceLT]) (Keep.refl _) fin
  · have f0 : decide ((i : Int) < (t.length : Int)) = false := decide_eq_false (by omega)
    obtain ⟨e1, e2⟩ := while_split (t := t) (i := i) hy fun h => absurd h hit
    simp -implicitDefEqProofs (maxSteps := 1000000) (disch := first | omega | assumption) only [h0, h4, f0, Sx, reduceIte, Nat.reduceEqDiff, reduceCtorEq, Nat.reduceAdd, Nat.reduceSub, Nat.reduceLT, decide_true, decide_false, Bool.not_true, Bool.not_false, Int.toNat_one, Int.toNat_zero, Nat.zero_mul, l_g, endK]
    exact oct_tail hr hc hti htl (by omega) e1 e2 (by simp -implicitDefEqProofs (maxSteps := 1000000) (disch := first | omega | assumption) only [h0, Sx, reduceIte, Nat.reduceEqDiff, reduceCtorEq, Nat.reduceAdd, Nat.reduceSub, Nat.reduceLT]) (by simp -implicitDefEqProofs (maxSteps := 1000000) (disch := first | omega | assumption) only [h4, Sx, reduceIte, Nat.reduceEqDiff, reduceCtorEq, Nat.reduceAdd, Nat.reduceSub, Nat.reduceLT]) (Keep.refl _) fin

/-! ### the document's -/
set_option maxHeartbeats 2000000 in
theorem roct_74 {H : Heap} {env : Env} {Q : Post} {QP : List PanicEntry → Heap → Prop} {n : Int} {big : Bool} (h5 : env 5 = .int .i64 n) (h6 : env 6 = .bool big) (hq : ∀ env', env' 2 = .int .i64 (if big then 0 else n) → env' 3 = .int .i64 (if big then 121 else 0) → Q .ret env' H) : awpC Tryd.prog L11_74 Q QP env H := by
  unfold L11_74
  cases big with
  | true =>
    rw [if_pos rfl, if_pos rfl] at hq
    simp -implicitDefEqProofs (maxSteps := 1000000) (disch := first | omega | assumption) only [h5, h6, Sx, reduceIte, Nat.reduceEqDiff, reduceCtorEq, Nat.reduceAdd, Nat.reduceSub, Nat.reduceLT, decide_true, decide_false, Bool.not_true, Bool.not_false, Int.toNat_one, Int.toNat_zero, Nat.zero_mul, l_g, endK]
    exact hq _ (by simp -implicitDefEqProofs (maxSteps := 1000000) (disch := first | omega | assumption) only [Sx, reduceIte, Nat.reduceEqDiff, reduceCtorEq, Nat.reduceAdd, Nat.reduceSub, Nat.reduceLT]) (by simp -implicitDefEqProofs (maxSteps := 1000000) (disch := first | omega | assumption) only [Sx, reduceIte, Nat.reduceEqDiff, reduceCtorEq, Nat.reduceAdd, Nat.reduceSub, Nat.reduceLT])
  | false =>
    rw [if_neg (by simp), if_neg (by simp)] at hq
    simp -implicitDefEqProofs (maxSteps := 1000000) (disch := first | omega | assumption) only [h5, h6, Sx, reduceIte, Nat.reduceEqDiff, reduceCtorEq, Nat.reduceAdd, Nat.reduceSub, Nat.reduceLT, decide_true, decide_false, Bool.not_true, Bool.not_false, Int.toNat_one, Int.toNat_zero, Nat.zero_mul, l_g, endK]
    exact hq _ (by simp -implicitDefEqProofs (maxSteps := 1000000) (disch := first | omega | assumption) only [h5, Sx, reduceIte, Nat.reduceEqDiff, reduceCtorEq, Nat.reduceAdd, Nat.reduceSub, Nat.reduceLT]) (by simp -implicitDefEqProofs (maxSteps := 1000000) (disch := first | omega | assumption) only [Sx, reduceIte, Nat.reduceEqDiff, reduceCtorEq, Nat.reduceAdd, Nat.reduceSub, Nat.reduceLT])
set_option maxHeartbeats 2000000 in
theorem roct_b4 {H : Heap} {A : Option Addr} {c i : Nat} {l : List Int} {env : Env} {Q : Post} {QP : List PanicEntry → Heap → Prop} {n : Int} {big : Bool} (hr : Row H A (by8 l)) (hl : l.length ≤ 1125899906842624) (hi : i ≤ l.length)
    (h0 : env 0 = .slice A l.length c) (h4 : env 4 = .int .i64 i) (h5 : env 5 = .int .i64 n) (h6 : env 6 = .bool big)
    (hq : ∀ env', env' 2 = .int .i64 (if (l.drop i).all blankZ then if big then 0 else n else 0) → env' 3 = .int .i64 (if (l.drop i).all blankZ then if big then 121 else 0 else 120) → Q .ret env' H) : awpC Tryd.prog L11_b4 Q QP env H := by
  unfold L11_b4
  simp -implicitDefEqProofs (maxSteps := 1000000) (disch := first | omega | assumption) only [Sx, reduceIte, Nat.reduceEqDiff, reduceCtorEq, Nat.reduceAdd, Nat.reduceSub, Nat.reduceLT]
  refine c_loop (fun k env H' => H' = H ∧ ∃ j, k + j = l.length ∧ env 0 = .slice A l.length c ∧ env 4 = .int .i64 j ∧ env 5 = .int .i64 n ∧ env 6 = .bool big ∧ (l.drop i).all blankZ = (l.drop j).all blankZ) (l.length - i) ⟨rfl, i, by omega, by simp -implicitDefEqProofs (maxSteps := 1000000) (disch := first | omega | assumption) only [h0, Sx, reduceIte, Nat.reduceEqDiff, reduceCtorEq, Nat.reduceAdd, Nat.reduceSub, Nat.reduceLT], by simp -implicitDefEqProofs (maxSteps := 1000000) (disch := first | omega | assumption) only [h4, Sx, reduceIte, Nat.reduceEqDiff, reduceCtorEq, Nat.reduceAdd, Nat.reduceSub, Nat.reduceLT], by simp -implicitDefEqProofs (maxSteps := 1000000) (disch := first | omega | assumption) only [h5, Sx, reduceIte, Nat.reduceEqDiff, reduceCtorEq, Nat.reduceAdd, Nat.reduceSub, Nat.reduceLT], by simp -implicitDefEqProofs (maxSteps := 1000000) (disch := first | omega | assumption) only [h6, Sx, reduceIte, Nat.reduceEqDiff, reduceCtorEq, Nat.reduceAdd, Nat.reduceSub, Nat.reduceLT], rfl⟩ ?_
  rintro k env H1 ⟨rfl, j, hk, h0, h4, h5, h6, hall⟩
  rw [hall] at hq
  unfold L11_3
  by_cases hj : j < l.length
  · have f0 : decide ((j : Int) < (l.length : Int)) = true := decide_eq_true (by omega)
    obtain ⟨b, rfl, hx⟩ := by_at hr hj
    rw [List.drop_eq_getElem_cons hj, List.all_cons] at hq hall
    generalize hxx : l[j] = x at hx hq hall
    by_cases h1 : x = 32
    · have f1 : (x != 32) = false := by rw [bne_eq_false_iff_eq]; exact h1
      have e1 : blankZ x = true := by simp [blankZ, h1]
      rw [e1, Bool.true_and] at hall
      simp -implicitDefEqProofs (maxSteps := 1000000) (disch := first | omega | assumption) only [h0, h4, h5, h6, f0, f1, hx, Sx, reduceIte, Nat.reduceEqDiff, reduceCtorEq, Nat.reduceAdd, Nat.reduceSub, Nat.reduceLT, decide_true, decide_false, Bool.not_true, Bool.not_false, Int.toNat_one, Int.toNat_zero, Nat.zero_mul, l_g, endK]
      exact ⟨k - 1, by omega, by trivial, j + 1, by omega, by trivial, by simp -implicitDefEqProofs (maxSteps := 1000000) (disch := first | omega | assumption) only [Int.natCast_add, Int.natCast_one, Sx, reduceIte, Nat.reduceEqDiff, reduceCtorEq, Nat.reduceAdd, Nat.reduceSub, Nat.reduceLT], by trivial, by trivial, hall⟩
    · have f1 : (x != 32) = true := by rw [bne_iff_ne]; exact h1
      by_cases h2 : x = 0
      · have f2 : (x != 0) = false := by rw [bne_eq_false_iff_eq]; exact h2
        have e1 : blankZ x = true := by simp [blankZ, h2]
        rw [e1, Bool.true_and] at hall
        simp -implicitDefEqProofs (maxSteps := 1000000) (disch := first | omega | assumption) only [h0, h4, h5, h6, f0, f1, f2, hx, Sx, reduceIte, Nat.reduceEqDiff, reduceCtorEq, Nat.reduceAdd, Nat.reduceSub, Nat.reduceLT, decide_true, decide_false, Bool.not_true, Bool.not_false, Int.toNat_one, Int.toNat_zero, Nat.zero_mul, l_g, endK]
        exact ⟨k - 1, by omega, by trivial, j + 1, by omega, by trivial, by simp -implicitDefEqProofs (maxSteps := 1000000) (disch := first | omega | assumption) only [Int.natCast_add, Int.natCast_one, Sx, reduceIte, Nat.reduceEqDiff, reduceCtorEq, Nat.reduceAdd, Nat.reduceSub, Nat.reduceLT], by trivial, by trivial, hall⟩
      · have f2 : (x != 0) = true := by rw [bne_iff_ne]; exact h2
        have e1 : blankZ x = false := by simp [blankZ, h1, h2]
        rw [e1, Bool.false_and] at hq
        simp -implicitDefEqProofs (maxSteps := 1000000) (disch := first | omega | assumption) only [h0, h4, h5, h6, f0, f1, f2, hx, Sx, reduceIte, Nat.reduceEqDiff, reduceCtorEq, Nat.reduceAdd, Nat.reduceSub, Nat.reduceLT, decide_true, decide_false, Bool.not_true, Bool.not_false, Int.toNat_one, Int.toNat_zero, Nat.zero_mul, l_g, endK]
        exact hq _ (by simp -implicitDefEqProofs (maxSteps := 1000000) (disch := first | omega | assumption) only [Sx, reduceIte, Nat.reduceEqDiff, reduceCtorEq, Nat.reduceAdd, Nat.reduceSub, Nat.reduceLT]) (by simp -implicitDefEqProofs (maxSteps := 1000000) (disch := first | omega | assumption) only [Sx, reduceIte, Nat.reduceEqDiff, reduceCtorEq, Nat.reduceAdd, Nat.reduceSub, Nat.reduceLT])
  · have f0 : decide ((j : Int) < (l.length : Int)) = false := decide_eq_false (by omega)
    rw [List.drop_of_length_le (by omega), List.all_nil] at hq
    simp -implicitDefEqProofs (maxSteps := 1000000) (disch := first | omega | assumption) only [h0, h4, h5, h6, f0, Sx, reduceIte, Nat.reduceEqDiff, reduceCtorEq, Nat.reduceAdd, Nat.reduceSub, Nat.reduceLT, decide_true, decide_false, Bool.not_true, Bool.not_false, Int.toNat_one, Int.toNat_zero, Nat.zero_mul, l_g, endK]
    exact roct_74 (by simp -implicitDefEqProofs (maxSteps := 1000000) (disch := first | omega | assumption) only [h5, Sx, reduceIte, Nat.reduceEqDiff, reduceCtorEq, Nat.reduceAdd, Nat.reduceSub, Nat.reduceLT]) (by simp -implicitDefEqProofs (maxSteps := 1000000) (disch := first | omega | assumption) only [h6, Sx, reduceIte, Nat.reduceEqDiff, reduceCtorEq, Nat.reduceAdd, Nat.reduceSub, Nat.reduceLT]) hq
end Go.Proofs.YtigignkgblaoaaaDoor.S12
