/-
  PathLeaves: any directory, any target.
-/
import Derived.Test.YtdlmomjcolbkgaaDoorLeaves
set_option linter.unusedVariables false
set_option linter.unusedSimpArgs false
namespace Go.Proofs.YtdlmomjcolbkgaaDoor.S09
open Go Go.RowKit Go.Proofs.YtdlmomjcolbkgaaDoor.Sep Go.Proofs.YtdlmomjcolbkgaaDoor.Low Go.Proofs.YtdlmomjcolbkgaaDoor.Lib

theorem take_eq {α : Type} {xs ys : List α} {i : Nat} (h : xs.take i = ys.take i) (hx : i < xs.length) (hy : i < ys.length) (e : xs[i] = ys[i]) : xs.take (i + 1) = ys.take (i + 1) := by
  rw [List.take_succ_eq_append_getElem hx, List.take_succ_eq_append_getElem hy, h, e]
set_option maxHeartbeats 2000000 in
theorem same_spec {a b : Option Addr} {n m c d : Nat} {H : Heap} {xs ys : List (List UInt8)} (hx : Row H a (strs xs)) (hy : Row H b (strs ys)) (hn : n = xs.length) (hm : m = ys.length) (hl : xs.length ≤ 1125899906842624) :
    ACalls Tryd.prog 10 [Value.slice a n c, Value.slice b m d].toArray H fun e H' => e = .returned (.bool (decide (xs = ys))) ∧ H' = H := by
  subst hn; subst hm
  refine call10 (Nat.le_of_ble_eq_true rfl) ?_
  unfold L10 env0
  by_cases hlen : xs.length = ys.length
  case neg =>
    have f0 : ((xs.length : Int) != (ys.length : Int)) = true := by rw [bne_iff_ne]; omega
    simp -implicitDefEqProofs (maxSteps := 1000000) (disch := first | omega | assumption) only [f0, Sx, reduceIte, Nat.reduceEqDiff, reduceCtorEq, Nat.reduceAdd, Nat.reduceSub, Nat.reduceLT]
    refine ⟨?_, by trivial⟩
    have : xs ≠ ys := by rintro rfl; exact hlen rfl
    simp [this]
  have f0 : ((xs.length : Int) != (ys.length : Int)) = false := by rw [bne_eq_false_iff_eq]; omega
  simp -implicitDefEqProofs (maxSteps := 1000000) (disch := first | omega | assumption) only [f0, Sx, reduceIte, Nat.reduceEqDiff, reduceCtorEq, Nat.reduceAdd, Nat.reduceSub, Nat.reduceLT]
  refine c_loop (fun k env H' => H' = H ∧ ∃ i, k + i = xs.length ∧ env 0 = .slice a xs.length c ∧ env 1 = .slice b ys.length d ∧ env 5 = .int .i64 i ∧ xs.take i = ys.take i) xs.length ⟨rfl, 0, by omega, by simp -implicitDefEqProofs (maxSteps := 1000000) (disch := first | omega | assumption) only [Sx, reduceIte, Nat.reduceEqDiff, reduceCtorEq, Nat.reduceAdd, Nat.reduceSub, Nat.reduceLT], by simp -implicitDefEqProofs (maxSteps := 1000000) (disch := first | omega | assumption) only [Sx, reduceIte, Nat.reduceEqDiff, reduceCtorEq, Nat.reduceAdd, Nat.reduceSub, Nat.reduceLT], by simp -implicitDefEqProofs (maxSteps := 1000000) (disch := first | omega | assumption) only [Sx, reduceIte, Nat.reduceEqDiff, reduceCtorEq, Nat.reduceAdd, Nat.reduceSub, Nat.reduceLT]; rfl, rfl⟩ ?_
  rintro k env H' ⟨rfl, i, hk, h0, h1, h5, ht⟩
  unfold L10_0
  by_cases hi : i < xs.length
  · have f1 : decide ((i : Int) < (xs.length : Int)) = true := decide_eq_true (by omega)
    obtain ⟨p, rfl, hp⟩ := str_at hx hi
    obtain ⟨q, rfl, hq⟩ := str_at hy (i := i) (by omega)
    by_cases he : xs[i] = ys[i]
    · have f2 : (!decide (xs[i] = ys[i])) = false := by rw [decide_eq_true he]; rfl
      simp -implicitDefEqProofs (maxSteps := 1000000) (disch := first | omega | assumption) only [h0, h1, h5, f1, hp, hq, t_eq, f2, Sx, reduceIte, Nat.reduceEqDiff, reduceCtorEq, Nat.reduceAdd, Nat.reduceSub, Nat.reduceLT]
      exact ⟨k - 1, by omega, by trivial, i + 1, by omega, by trivial, by trivial, by simp -implicitDefEqProofs (maxSteps := 1000000) (disch := first | omega | assumption) only [Int.natCast_add, Int.natCast_one, Sx, reduceIte, Nat.reduceEqDiff, reduceCtorEq, Nat.reduceAdd, Nat.reduceSub, Nat.reduceLT], take_eq ht hi (by omega) he⟩
    · have f2 : (!decide (xs[i] = ys[i])) = true := by rw [decide_eq_false he]; rfl
      simp -implicitDefEqProofs (maxSteps := 1000000) (disch := first | omega | assumption) only [h0, h1, h5, f1, hp, hq, t_eq, f2, Sx, reduceIte, Nat.reduceEqDiff, reduceCtorEq, Nat.reduceAdd, Nat.reduceSub, Nat.reduceLT]
      refine ⟨?_, by trivial⟩
      have : xs ≠ ys := by rintro rfl; exact he rfl
      simp [this]
  · have f1 : decide ((i : Int) < (xs.length : Int)) = false := decide_eq_false (by omega)
    simp -implicitDefEqProofs (maxSteps := 1000000) (disch := first | omega | assumption) only [h0, h1, h5, f1, Sx, reduceIte, Nat.reduceEqDiff, reduceCtorEq, Nat.reduceAdd, Nat.reduceSub, Nat.reduceLT]
    have : i = xs.length := by omega
    subst this
    rw [List.take_length, hlen, List.take_length] at ht
    simp [ht]

set_option maxHeartbeats 4000000 in
theorem pathLeaves_walk {H : Heap} {A : Option Addr} {c : Nat} {xs : List (List UInt8)} {t : List UInt8} (hr : Row H A (strs xs)) (hx : xs.length ≤ 1099511627) (ht : t.length ≤ 1099511627) :
    ACalls Tryd.prog 3 [Value.slice A xs.length c, .string ⟨t.toArray⟩].toArray H fun e H' => e = .returned (.bool true) ∧ Keep H H' := by
  refine call3 (Nat.le_of_ble_eq_true rfl) ?_
  unfold L3 env0
  simp -implicitDefEqProofs (maxSteps := 1000000) (disch := first | omega | assumption) only [Sx, reduceIte, Nat.reduceEqDiff, reduceCtorEq, Nat.reduceAdd, Nat.reduceSub, Nat.reduceLT]
  refine lits_nostr ?_
  intro r1 H1 hO1 hk1 hr1
  try simp -implicitDefEqProofs (maxSteps := 1000000) (disch := first | omega | assumption) only [Sx, reduceIte, Nat.reduceEqDiff, reduceCtorEq, Nat.reduceAdd, Nat.reduceSub, Nat.reduceLT]
  refine a_app (len := 0) (m := xs.length) (new := strs xs) hO1 rfl (by rfl) ((hk1.row hr).cells (by simp)) (by simp) rfl (by omega) (strs_scalar _) (by omega) ?_
  intro v2 H2 hO2 ho2 hm2
  have hk2 : Keep H H2 := ho2.keep hk1 (by rintro q ⟨⟩; exact hr1)
  have hO2' : Ss H2 v2 xs := hO2
  obtain ⟨a2, c2, rfl, hc2, hrow2⟩ := hO2'.len
  try simp -implicitDefEqProofs (maxSteps := 1000000) (disch := first | omega | assumption) only [Sx, reduceIte, Nat.reduceEqDiff, reduceCtorEq, Nat.reduceAdd, Nat.reduceSub, Nat.reduceLT]
  refine a_call (leaves_spec (n := xs.length) ht (by omega)) ?_
  rintro e H3 ⟨rfl, hk3⟩
  simp -implicitDefEqProofs (maxSteps := 1000000) (disch := first | omega | assumption) only [endK, Sx, reduceIte, Nat.reduceEqDiff, reduceCtorEq, Nat.reduceAdd, Nat.reduceSub, Nat.reduceLT]
  refine a_call (rleaves_spec (n := xs.length) ht (by omega)) ?_
  rintro e H4 ⟨rfl, hk4⟩
  have hk24 := hk3.trans hk4
  have hkk := hk2.trans hk24
  have q0 : ((leavesL xs.length t == leavesL xs.length t) != false) = true := by simp
  simp -implicitDefEqProofs (maxSteps := 1000000) (disch := first | omega | assumption) only [endK, ev_eqb, q0, l_g, Sx, reduceIte, Nat.reduceEqDiff, reduceCtorEq, Nat.reduceAdd, Nat.reduceSub, Nat.reduceLT]
  refine a_call (same_spec (xs := xs) (ys := xs) (hk24.row hrow2) (hkk.row hr) rfl rfl (by omega)) ?_
  rintro e H5 ⟨rfl, rfl⟩
  rw [decide_eq_true rfl]
  simp -implicitDefEqProofs (maxSteps := 1000000) (disch := first | omega | assumption) only [endK, l_g, Sx, reduceIte, Nat.reduceEqDiff, reduceCtorEq, Nat.reduceAdd, Nat.reduceSub, Nat.reduceLT]
  refine a_call (leaves_spec (n := 0) (l := [46, 46]) (by decide) (by omega)) ?_
  rintro e H6 ⟨rfl, hk6⟩
  rw [show leavesL 0 [46, 46] = true by decide]
  simp -implicitDefEqProofs (maxSteps := 1000000) (disch := first | omega | assumption) only [endK, l_g, Sx, reduceIte, Nat.reduceEqDiff, reduceCtorEq, Nat.reduceAdd, Nat.reduceSub, Nat.reduceLT]
  refine a_call (leaves_spec (n := 0) (l := [97]) (by decide) (by omega)) ?_
  rintro e H7 ⟨rfl, hk7⟩
  rw [show leavesL 0 [97] = false by decide]
  simp -implicitDefEqProofs (maxSteps := 1000000) (disch := first | omega | assumption) only [endK, l_g, Bool.not_false, Sx, reduceIte, Nat.reduceEqDiff, reduceCtorEq, Nat.reduceAdd, Nat.reduceSub, Nat.reduceLT]
  exact ⟨by trivial, (hkk.trans hk6).trans hk7⟩
theorem strs_of (xs : List ByteArray) : xs.map Value.string = strs (xs.map fun s => s.data.toList) := by
  rw [strs, List.map_map]
  apply List.map_congr_left
  intro s _
  simp
theorem t_data (s : ByteArray) : s = ⟨s.data.toList.toArray⟩ := by
  cases s
  rw [Array.toArray_toList]
theorem pathLeaves_row {H : Heap} (A : Option Addr) (c : Nat) (xs : List ByteArray) (cl : List (List Value)) (he : Els Ty.string H A xs cl) (hc : xs.length ≤ c) (wf : (∀ x ∈ xs, x.size ≤ maxLen) ∧ xs.length ≤ maxLen) (t : ByteArray) (wt : t.size ≤ maxLen)
    (hb : (xs.map fun s => s.size + 1).sum + 1 + (t.size + 1) ≤ 1048576) :
    ACalls Tryd.prog 3 [Value.slice A xs.length c, .string t].toArray H fun e H' => e = .returned (.bool true) ∧ Keep H H' := by
  have hr := he.strings
  rw [strs_of] at hr
  have h1 : ∀ l : List ByteArray, l.length ≤ (l.map fun s => s.size + 1).sum := by
    intro l
    induction l with
    | nil => simp
    | cons x l ih => rw [List.map_cons, List.sum_cons, List.length_cons]; omega
  have h2 := h1 xs
  have h3 : t.data.toList.length = t.size := Array.length_toList
  have := pathLeaves_walk (c := c) (t := t.data.toList) hr (by rw [List.length_map]; omega) (by omega)
  rw [List.length_map, ← t_data] at this
  exact this
end Go.Proofs.YtdlmomjcolbkgaaDoor.S09
