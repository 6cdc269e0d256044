/-
  The statements' own same, on texts.
-/
import Derived.Test.YtdlmomjcolbkgaaDoorLowA
import Derived.Test.YtdlmomjcolbkgaaDoorStr
set_option linter.unusedVariables false
set_option linter.unusedSimpArgs false
namespace Go.Proofs.YtdlmomjcolbkgaaDoor.S09
open Go Go.RowKit Go.Proofs.YtdlmomjcolbkgaaDoor.Sep Go.Proofs.YtdlmomjcolbkgaaDoor.Low Go.Proofs.YtdlmomjcolbkgaaDoor.Lib

theorem take_eq {α : Type} {xs ys : List α} {i : Nat} (h : xs.take i = ys.take i) (hx : i < xs.length) (hy : i < ys.length) (e : xs[i] = ys[i]) : xs.take (i + 1) = ys.take (i + 1) := by
  rw [List.take_succ_eq_append_getElem hx, List.take_succ_eq_append_getElem hy, h, e]
set_option maxHeartbeats 2000000 in
theorem same_spec {a b : Option Addr} {n m c d : Nat} {H : Heap} {xs ys : List (List UInt8)} (hx : Row H a (strs xs)) (hy : Row H b (strs ys)) (hn : n = xs.length) (hm : m = ys.length) (hl : xs.length ≤ 1125899906842624) :
    ACalls Tryd.prog 10 [Value.slice a n c, Value.slice b m d].toArray H fun e H' => e = .returned (.bool (decide (xs = ys))) ∧ H' = H := by
  subst hn; subst hm
  refine call10 (Nat.le_of_ble_eq_true rfl) ?_
  unfold L10 env0
  by_cases hlen : xs.length = ys.length
  case neg =>
    have f0 : ((xs.length : Int) != (ys.length : Int)) = true := by rw [bne_iff_ne]; omega
    simp -implicitDefEqProofs (maxSteps := 1000000) (disch := first | omega | assumption) only [f0, Sx, reduceIte, Nat.reduceEqDiff, reduceCtorEq, Nat.reduceAdd, Nat.reduceSub, Nat.reduceLT]
    refine ⟨?_, by trivial⟩
    have : xs ≠ ys := by rintro rfl; exact hlen rfl
    simp [this]
  have f0 : ((xs.length : Int) != (ys.length : Int)) = false := by rw [bne_eq_false_iff_eq]; omega
  simp -implicitDefEqProofs (maxSteps := 1000000) (disch := first | omega | assumption) only [f0, Sx, reduceIte, Nat.reduceEqDiff, reduceCtorEq, Nat.reduceAdd, Nat.reduceSub, Nat.reduceLT]
  refine c_loop (fun k env H' => H' = H ∧ ∃ i, k + i = xs.length ∧ env 0 = .slice a xs.length c ∧ env 1 = .slice b ys.length d ∧ env 5 = .int .i64 i ∧ xs.take i = ys.take i) xs.length ⟨rfl, 0, by omega, by simp -implicitDefEqProofs (maxSteps := 1000000) (disch := first | omega | assumption) only [Sx, reduceIte, Nat.reduceEqDiff, reduceCtorEq, Nat.reduceAdd, Nat.reduceSub, Nat.reduceLT], by simp -implicitDefEqProofs (maxSteps := 1000000) (disch := first | omega | assumption) only [Sx, reduceIte, Nat.reduceEqDiff, reduceCtorEq, Nat.reduceAdd, Nat.reduceSub, Nat.reduceLT], by simp -implicitDefEqProofs (maxSteps := 1000000) (disch := first | omega | assumption) only [Sx, reduceIte, Nat.reduceEqDiff, reduceCtorEq, Nat.reduceAdd, Nat.reduceSub, Nat.reduceLT]; rfl, rfl⟩ ?_
  rintro k env H' ⟨rfl, i, hk, h0, h1, h5, ht⟩
  unfold L10_0
  by_cases hi : i < xs.length
  · have f1 : decide ((i : Int) < (xs.length : Int)) = true := decide_eq_true (by omega)
    obtain ⟨p, rfl, hp⟩ := str_at hx hi
    obtain ⟨q, rfl, hq⟩ := str_at hy (i := i) (by omega)
    by_cases he : xs[i] = ys[i]
    · have f2 : (!decide (xs[i] = ys[i])) = false := by rw [decide_eq_true he]; rfl
      simp -implicitDefEqProofs (maxSteps := 1000000) (disch := first | omega | assumption) only [h0, h1, h5, f1, hp, hq, t_eq, f2, Sx, reduceIte, Nat.reduceEqDiff, reduceCtorEq, Nat.reduceAdd, Nat.reduceSub, Nat.reduceLT]
      exact ⟨k - 1, by omega, by trivial, i + 1, by omega, by trivial, by trivial, by simp -implicitDefEqProofs (maxSteps := 1000000) (disch := first | omega | assumption) only [Int.natCast_add, Int.natCast_one, Sx, reduceIte, Nat.reduceEqDiff, reduceCtorEq, Nat.reduceAdd, Nat.reduceSub, Nat.reduceLT], take_eq ht hi (by omega) he⟩
    · have f2 : (!decide (xs[i] = ys[i])) = true := by rw [decide_eq_false he]; rfl
      simp -implicitDefEqProofs (maxSteps := 1000000) (disch := first | omega | assumption) only [h0, h1, h5, f1, hp, hq, t_eq, f2, Sx, reduceIte, Nat.reduceEqDiff, reduceCtorEq, Nat.reduceAdd, Nat.reduceSub, Nat.reduceLT]
      refine ⟨?_, by trivial⟩
      have : xs ≠ ys := by rintro rfl; exact he rfl
      simp [this]
  · have f1 : decide ((i : Int) < (xs.length : Int)) = false := decide_eq_false (by omega)
    simp -implicitDefEqProofs (maxSteps := 1000000) (disch := first | omega | assumption) only [h0, h1, h5, f1, Sx, reduceIte, Nat.reduceEqDiff, reduceCtorEq, Nat.reduceAdd, Nat.reduceSub, Nat.reduceLT]
    have : i = xs.length := by omega
    subst this
    rw [List.take_length, hlen, List.take_length] at ht
    simp [ht]

end Go.Proofs.YtdlmomjcolbkgaaDoor.S09
