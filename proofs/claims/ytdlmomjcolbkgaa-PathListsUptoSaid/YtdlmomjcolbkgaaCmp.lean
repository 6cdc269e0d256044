/-
  The order of names.
-/
import Derived.Test.YtdlmomjcolbkgaaLowD
import Derived.Test.YtdlmomjcolbkgaaStr
set_option linter.unusedVariables false
set_option linter.unusedSimpArgs false
namespace Go.Proofs.Ytdlmomjcolbkgaa.S09
open Go Go.RowKit Go.Proofs.Ytdlmomjcolbkgaa.Sep Go.Proofs.Ytdlmomjcolbkgaa.Low Go.Proofs.Ytdlmomjcolbkgaa.Lib

def cmpT (a b : List UInt8) : Int := if Op.bytesLess a b = true then -1 else if a = b then 0 else 1
def cmpL : List (List UInt8) → List (List UInt8) → Int
  | [], [] => 0
  | [], _ :: _ => -1
  | _ :: _, [] => 1
  | x :: xs, y :: ys => if cmpT x y = 0 then cmpL xs ys else cmpT x y
theorem less_self (a : List UInt8) : Op.bytesLess a a = false := by
  induction a with
  | nil => rfl
  | cons x a ih => simp [Op.bytesLess, ih]
theorem cmpT_zero {a b : List UInt8} : cmpT a b = 0 ↔ a = b := by
  unfold cmpT
  by_cases h : Op.bytesLess a b = true
  · rw [if_pos h]
    constructor
    · intro e; cases e
    · rintro rfl
      rw [less_self] at h
      cases h
  · rw [if_neg h]
    by_cases e : a = b
    · simp [e]
    · simp [e]
theorem cmpL_zero : ∀ {xs ys : List (List UInt8)}, cmpL xs ys = 0 ↔ xs = ys
  | [], [] => by simp [cmpL]
  | [], _ :: _ => by simp [cmpL]
  | _ :: _, [] => by simp [cmpL]
  | x :: xs, y :: ys => by
    rw [cmpL]
    by_cases h : cmpT x y = 0
    · rw [if_pos h, cmpL_zero, cmpT_zero.1 h]; simp
    · rw [if_neg h]
      have : x ≠ y := fun e => h (cmpT_zero.2 e)
      simp [h, this]
theorem isNaN_spec {H : Heap} (a : List UInt8) : ACalls Try.prog 32 [Value.string ⟨a.toArray⟩].toArray H fun e H' => e = .returned (.bool false) ∧ H' = H := by
  refine call32 (Nat.le_of_ble_eq_true rfl) ?_
  unfold L32 env0
  have f0 : (!decide (a = a)) = false := by simp
  simp -implicitDefEqProofs (maxSteps := 1000000) (disch := first | omega | assumption) only [t_eq, f0, Sx, reduceIte, Nat.reduceEqDiff, reduceCtorEq, Nat.reduceAdd, Nat.reduceSub, Nat.reduceLT]
  exact ⟨by trivial, by trivial⟩
set_option maxHeartbeats 1000000 in
theorem cmpT_spec {H : Heap} (a b : List UInt8) : ACalls Try.prog 24 [Value.string ⟨a.toArray⟩, .string ⟨b.toArray⟩].toArray H fun e H' => e = .returned (.int .i64 (cmpT a b)) ∧ H' = H := by
  refine call24 (Nat.le_of_ble_eq_true rfl) ?_
  unfold L24 env0
  unfold cmpT
  simp -implicitDefEqProofs (maxSteps := 1000000) (disch := first | omega | assumption) only [Sx, reduceIte, Nat.reduceEqDiff, reduceCtorEq, Nat.reduceAdd, Nat.reduceSub, Nat.reduceLT]
  refine a_call (isNaN_spec a) ?_
  rintro e H1 ⟨rfl, rfl⟩
  simp -implicitDefEqProofs (maxSteps := 1000000) (disch := first | omega | assumption) only [endK, Sx, reduceIte, Nat.reduceEqDiff, reduceCtorEq, Nat.reduceAdd, Nat.reduceSub, Nat.reduceLT]
  refine a_call (isNaN_spec b) ?_
  rintro e H1 ⟨rfl, rfl⟩
  by_cases h : Op.bytesLess a b = true
  · simp -implicitDefEqProofs (maxSteps := 1000000) (disch := first | omega | assumption) only [endK, t_list, h, Sx, reduceIte, Nat.reduceEqDiff, reduceCtorEq, Nat.reduceAdd, Nat.reduceSub, Nat.reduceLT]
    exact ⟨by trivial, by trivial⟩
  · have h' : Op.bytesLess a b = false := by simpa using h
    by_cases h2 : a = b
    · have f1 : (!(false || a == b)) = false := by simp [h2]
      simp -implicitDefEqProofs (maxSteps := 1000000) (disch := first | omega | assumption) only [endK, t_list, h', f1, Sx, reduceIte, Nat.reduceEqDiff, reduceCtorEq, Nat.reduceAdd, Nat.reduceSub, Nat.reduceLT]
      exact ⟨by rw [if_pos h2], by trivial⟩
    · have f1 : (!(false || a == b)) = true := by simp [h2]
      simp -implicitDefEqProofs (maxSteps := 1000000) (disch := first | omega | assumption) only [endK, t_list, h', f1, Sx, reduceIte, Nat.reduceEqDiff, reduceCtorEq, Nat.reduceAdd, Nat.reduceSub, Nat.reduceLT]
      exact ⟨by rw [if_neg h2], by trivial⟩
set_option maxHeartbeats 2000000 in
theorem compares_spec {H : Heap} {a b : Option Addr} {n m c d : Nat} {xs ys : List (List UInt8)} (hx : Row H a (strs xs)) (hy : Row H b (strs ys)) (hn : n = xs.length) (hm : m = ys.length) (hl : xs.length ≤ 1125899906842624) (hl2 : ys.length ≤ 1125899906842624) :
    ACalls Try.prog 17 [Value.slice a n c, .slice b m d].toArray H fun e H' => e = .returned (.int .i64 (cmpL xs ys)) ∧ H' = H := by
  subst hn; subst hm
  refine call17 (Nat.le_of_ble_eq_true rfl) ?_
  unfold L17 env0
  simp -implicitDefEqProofs (maxSteps := 1000000) (disch := first | omega | assumption) only [Sx, reduceIte, Nat.reduceEqDiff, reduceCtorEq, Nat.reduceAdd, Nat.reduceSub, Nat.reduceLT]
  refine c_loop (fun k env H' => H' = H ∧ ∃ i, k + i = xs.length ∧ env 0 = .slice a xs.length c ∧ env 1 = .slice b ys.length d ∧ env 9 = .slice a xs.length c ∧ env 10 = .int .i64 xs.length ∧ env 11 = .int .i64 i ∧ i ≤ ys.length ∧ cmpL (xs.drop i) (ys.drop i) = cmpL xs ys) xs.length ⟨rfl, 0, by omega, by simp -implicitDefEqProofs (maxSteps := 1000000) (disch := first | omega | assumption) only [Sx, reduceIte, Nat.reduceEqDiff, reduceCtorEq, Nat.reduceAdd, Nat.reduceSub, Nat.reduceLT], by simp -implicitDefEqProofs (maxSteps := 1000000) (disch := first | omega | assumption) only [Sx, reduceIte, Nat.reduceEqDiff, reduceCtorEq, Nat.reduceAdd, Nat.reduceSub, Nat.reduceLT], by simp -implicitDefEqProofs (maxSteps := 1000000) (disch := first | omega | assumption) only [Sx, reduceIte, Nat.reduceEqDiff, reduceCtorEq, Nat.reduceAdd, Nat.reduceSub, Nat.reduceLT], by simp -implicitDefEqProofs (maxSteps := 1000000) (disch := first | omega | assumption) only [Sx, reduceIte, Nat.reduceEqDiff, reduceCtorEq, Nat.reduceAdd, Nat.reduceSub, Nat.reduceLT], by simp -implicitDefEqProofs (maxSteps := 1000000) (disch := first | omega | assumption) only [Sx, reduceIte, Nat.reduceEqDiff, reduceCtorEq, Nat.reduceAdd, Nat.reduceSub, Nat.reduceLT]; rfl, by omega, rfl⟩ ?_
  rintro k env H' ⟨rfl, i, hk, h0, h1, h9, h10, h11, hiy, ht⟩
  unfold L17_0
  by_cases hi : i < xs.length
  · have f1 : decide ((i : Int) < (xs.length : Int)) = true := decide_eq_true (by omega)
    obtain ⟨p, rfl, hp⟩ := str_at hx hi
    rw [List.drop_eq_getElem_cons hi] at ht
    by_cases hj : i < ys.length
    · have f2 : decide ((ys.length : Int) ≤ (i : Int)) = false := decide_eq_false (by omega)
      obtain ⟨q, rfl, hq⟩ := str_at hy hj
      rw [List.drop_eq_getElem_cons hj, cmpL] at ht
      simp -implicitDefEqProofs (maxSteps := 1000000) (disch := first | omega | assumption) only [h0, h1, h9, h10, h11, f1, f2, hp, hq, Sx, reduceIte, Nat.reduceEqDiff, reduceCtorEq, Nat.reduceAdd, Nat.reduceSub, Nat.reduceLT]
      refine a_call (cmpT_spec _ _) ?_
      rintro e H2 ⟨rfl, rfl⟩
      by_cases hc : cmpT xs[i] ys[i] = 0
      · have f3 : (cmpT xs[i] ys[i] != 0) = false := by rw [bne_eq_false_iff_eq]; exact hc
        rw [if_pos hc] at ht
        simp -implicitDefEqProofs (maxSteps := 1000000) (disch := first | omega | assumption) only [endK, h0, h1, h9, h10, h11, f3, Sx, reduceIte, Nat.reduceEqDiff, reduceCtorEq, Nat.reduceAdd, Nat.reduceSub, Nat.reduceLT]
        exact ⟨k - 1, by omega, by trivial, i + 1, by omega, by trivial, by trivial, by trivial, by trivial, by simp -implicitDefEqProofs (maxSteps := 1000000) (disch := first | omega | assumption) only [Int.natCast_add, Int.natCast_one, Sx, reduceIte, Nat.reduceEqDiff, reduceCtorEq, Nat.reduceAdd, Nat.reduceSub, Nat.reduceLT], by omega, ht⟩
      · have f3 : (cmpT xs[i] ys[i] != 0) = true := by rw [bne_iff_ne]; exact hc
        rw [if_neg hc] at ht
        simp -implicitDefEqProofs (maxSteps := 1000000) (disch := first | omega | assumption) only [endK, h0, h1, h9, h10, h11, f3, Sx, reduceIte, Nat.reduceEqDiff, reduceCtorEq, Nat.reduceAdd, Nat.reduceSub, Nat.reduceLT]
        exact ⟨by rw [ht], by trivial⟩
    · have f2 : decide ((ys.length : Int) ≤ (i : Int)) = true := decide_eq_true (by omega)
      rw [List.drop_of_length_le (show ys.length ≤ i by omega), cmpL] at ht
      simp -implicitDefEqProofs (maxSteps := 1000000) (disch := first | omega | assumption) only [h0, h1, h9, h10, h11, f1, f2, hp, Sx, reduceIte, Nat.reduceEqDiff, reduceCtorEq, Nat.reduceAdd, Nat.reduceSub, Nat.reduceLT]
      exact ⟨by rw [← ht], by trivial⟩
  · have f1 : decide ((i : Int) < (xs.length : Int)) = false := decide_eq_false (by omega)
    rw [List.drop_of_length_le (by omega)] at ht
    by_cases hj : xs.length < ys.length
    · have f2 : decide ((xs.length : Int) < (ys.length : Int)) = true := decide_eq_true (by omega)
      rw [List.drop_eq_getElem_cons (show i < ys.length by omega), cmpL] at ht
      simp -implicitDefEqProofs (maxSteps := 1000000) (disch := first | omega | assumption) only [h0, h1, h9, h10, h11, f1, f2, Sx, reduceIte, Nat.reduceEqDiff, reduceCtorEq, Nat.reduceAdd, Nat.reduceSub, Nat.reduceLT]
      exact ⟨by rw [← ht], by trivial⟩
    · have f2 : decide ((xs.length : Int) < (ys.length : Int)) = false := decide_eq_false (by omega)
      rw [List.drop_of_length_le (show ys.length ≤ i by omega), cmpL] at ht
      simp -implicitDefEqProofs (maxSteps := 1000000) (disch := first | omega | assumption) only [h0, h1, h9, h10, h11, f1, f2, Sx, reduceIte, Nat.reduceEqDiff, reduceCtorEq, Nat.reduceAdd, Nat.reduceSub, Nat.reduceLT]
      exact ⟨by rw [← ht], by trivial⟩
theorem pcompare_spec {H : Heap} {a b : Option Addr} {n m c d : Nat} {xs ys : List (List UInt8)} (hx : Row H a (strs xs)) (hy : Row H b (strs ys)) (hn : n = xs.length) (hm : m = ys.length) (hl : xs.length ≤ 1125899906842624) (hl2 : ys.length ≤ 1125899906842624) :
    ACalls Try.prog 5 [Value.slice a n c, .slice b m d].toArray H fun e H' => e = .returned (.int .i64 (cmpL xs ys)) ∧ H' = H := by
  refine call5 (Nat.le_of_ble_eq_true rfl) ?_
  unfold L5 env0
  simp -implicitDefEqProofs (maxSteps := 1000000) (disch := first | omega | assumption) only [Sx, reduceIte, Nat.reduceEqDiff, reduceCtorEq, Nat.reduceAdd, Nat.reduceSub, Nat.reduceLT]
  refine a_call (compares_spec hx hy hn hm hl hl2) ?_
  rintro e H2 ⟨rfl, rfl⟩
  simp -implicitDefEqProofs (maxSteps := 1000000) (disch := first | omega | assumption) only [endK, Sx, reduceIte, Nat.reduceEqDiff, reduceCtorEq, Nat.reduceAdd, Nat.reduceSub, Nat.reduceLT]
  exact ⟨by trivial, by trivial⟩
end Go.Proofs.Ytdlmomjcolbkgaa.S09
