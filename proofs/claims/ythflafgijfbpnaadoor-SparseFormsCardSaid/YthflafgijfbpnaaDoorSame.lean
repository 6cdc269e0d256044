/-
  The statements' own small functions: same.
-/
import Derived.Test.YthflafgijfbpnaaDoorLowA
import Derived.Test.YthflafgijfbpnaaDoorBase
set_option linter.unusedVariables false
set_option linter.unusedSimpArgs false
namespace Go.Proofs.YthflafgijfbpnaaDoor.Lib
open Go Go.RowKit Go.Proofs.YthflafgijfbpnaaDoor.Sep Go.Proofs.YthflafgijfbpnaaDoor.Low

theorem take_eq {α : Type} {xs ys : List α} {i : Nat} (h : xs.take i = ys.take i) (hx : i < xs.length) (hy : i < ys.length) (e : xs[i] = ys[i]) : xs.take (i + 1) = ys.take (i + 1) := by
  rw [List.take_succ_eq_append_getElem hx, List.take_succ_eq_append_getElem hy, h, e]
theorem same_spec {a b : Option Addr} {n m c d : Nat} {H : Heap} {xs ys : List Int} (hx : Row H a (by8 xs)) (hy : Row H b (by8 ys)) (hn : n = xs.length) (hm : m = ys.length) (hl : xs.length ≤ 1125899906842624) :
    ACalls Tryd.prog 11 [Value.slice a n c, Value.slice b m d].toArray H fun e H' => e = .returned (.bool (decide (xs = ys))) ∧ H' = H := by
  subst hn; subst hm
  refine call11 (Nat.le_of_ble_eq_true rfl) ?_
  unfold L11 env0
  simp -implicitDefEqProofs (maxSteps := 1000000) (disch := first | omega | assumption) only [Sx, reduceIte, Nat.reduceEqDiff, reduceCtorEq, Nat.reduceAdd, Nat.reduceSub, Nat.reduceLT]
  refine d_intro (fun h => ?_) (fun h => ?_)
  · simp only [Sx, reduceIte, Nat.reduceEqDiff, reduceCtorEq, Nat.reduceAdd, Nat.reduceSub, Nat.reduceLT] at h
    simp -implicitDefEqProofs (maxSteps := 1000000) (disch := first | omega | assumption) only [Sx, reduceIte, Nat.reduceEqDiff, reduceCtorEq, Nat.reduceAdd, Nat.reduceSub, Nat.reduceLT]
    refine ⟨?_, by trivial⟩
    have : xs ≠ ys := by rintro rfl; exact h rfl
    simp [this]
  · simp only [Sx, reduceIte, Nat.reduceEqDiff, reduceCtorEq, Nat.reduceAdd, Nat.reduceSub, Nat.reduceLT] at h
    have hlen : xs.length = ys.length := by omega
    simp -implicitDefEqProofs (maxSteps := 1000000) (disch := first | omega | assumption) only [Sx, reduceIte, Nat.reduceEqDiff, reduceCtorEq, Nat.reduceAdd, Nat.reduceSub, Nat.reduceLT]
    refine c_loop (fun k env H' => H' = H ∧ ∃ i, k + i = xs.length ∧ env 0 = .slice a xs.length c ∧ env 1 = .slice b ys.length d ∧ env 5 = .int .i64 i ∧ xs.take i = ys.take i) xs.length ⟨rfl, 0, by omega, rfl, rfl, rfl, rfl⟩ ?_
    rintro k env H' ⟨rfl, i, hk, h0, h1, h5, ht⟩
    unfold L11_0
    simp -implicitDefEqProofs (maxSteps := 1000000) (disch := first | omega | assumption) only [h0, h1, h5, Sx, reduceIte, Nat.reduceEqDiff, reduceCtorEq, Nat.reduceAdd, Nat.reduceSub, Nat.reduceLT]
    refine d_dec (fun hlt => ?_) (fun hge => ?_)
    · have hi : i < xs.length := by omega
      have hi' : i < ys.length := by omega
      obtain ⟨p, rfl, hp⟩ := hx.at (i := i) (by simpa using hi)
      obtain ⟨q, rfl, hq⟩ := hy.at (i := i) (by simpa using hi')
      simp only [List.getElem_map] at hp hq
      simp -implicitDefEqProofs (maxSteps := 1000000) (disch := first | omega | assumption) only [h0, h1, h5, hp, hq, Sx, reduceIte, Nat.reduceEqDiff, reduceCtorEq, Nat.reduceAdd, Nat.reduceSub, Nat.reduceLT]
      refine d_intro (fun h => ?_) (fun h => ?_)
      · simp only [Sx, reduceIte, Nat.reduceEqDiff, reduceCtorEq, Nat.reduceAdd, Nat.reduceSub, Nat.reduceLT] at h
        simp -implicitDefEqProofs (maxSteps := 1000000) (disch := first | omega | assumption) only [Sx, reduceIte, Nat.reduceEqDiff, reduceCtorEq, Nat.reduceAdd, Nat.reduceSub, Nat.reduceLT]
        refine ⟨?_, by trivial⟩
        have : xs ≠ ys := by rintro rfl; exact h rfl
        simp [this]
      · simp only [Sx, reduceIte, Nat.reduceEqDiff, reduceCtorEq, Nat.reduceAdd, Nat.reduceSub, Nat.reduceLT] at h
        simp -implicitDefEqProofs (maxSteps := 1000000) (disch := first | omega | assumption) only [h0, h1, h5, Sx, reduceIte, Nat.reduceEqDiff, reduceCtorEq, Nat.reduceAdd, Nat.reduceSub, Nat.reduceLT]
        exact ⟨k - 1, by omega, by trivial, i + 1, by omega, by trivial, by trivial, by simp, take_eq ht hi hi' h⟩
    · simp -implicitDefEqProofs (maxSteps := 1000000) (disch := first | omega | assumption) only [Sx, reduceIte, Nat.reduceEqDiff, reduceCtorEq, Nat.reduceAdd, Nat.reduceSub, Nat.reduceLT]
      have : i = xs.length := by omega
      subst this
      rw [List.take_length, hlen, List.take_length] at ht
      simp [ht]
end Go.Proofs.YthflafgijfbpnaaDoor.Lib
