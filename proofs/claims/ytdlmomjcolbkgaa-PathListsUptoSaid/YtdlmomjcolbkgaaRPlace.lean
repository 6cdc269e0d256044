/-
  The document's Compare, Under, Strip, Place.
-/
import Derived.Test.YtdlmomjcolbkgaaLowE
import Derived.Test.YtdlmomjcolbkgaaPlace
import Derived.Test.YtdlmomjcolbkgaaCmp
import Derived.Test.YtdlmomjcolbkgaaSameT
set_option linter.unusedVariables false
set_option linter.unusedSimpArgs false
namespace Go.Proofs.Ytdlmomjcolbkgaa.S09
open Go Go.RowKit Go.Proofs.Ytdlmomjcolbkgaa.Sep Go.Proofs.Ytdlmomjcolbkgaa.Low Go.Proofs.Ytdlmomjcolbkgaa.Lib

set_option maxHeartbeats 2000000 in
theorem rcompare_spec {H : Heap} {a b : Option Addr} {n m c d : Nat} {xs ys : List (List UInt8)} (hx : Row H a (strs xs)) (hy : Row H b (strs ys)) (hn : n = xs.length) (hm : m = ys.length) (hl : xs.length ≤ 1125899906842624) (hl2 : ys.length ≤ 1125899906842624) :
    ACalls Try.prog 10 [Value.slice a n c, .slice b m d].toArray H fun e H' => e = .returned (.int .i64 (cmpL xs ys)) ∧ H' = H := by
  subst hn; subst hm
  refine call10 (Nat.le_of_ble_eq_true rfl) ?_
  unfold L10 env0
  simp -implicitDefEqProofs (maxSteps := 1000000) (disch := first | omega | assumption) only [Sx, reduceIte, Nat.reduceEqDiff, reduceCtorEq, Nat.reduceAdd, Nat.reduceSub, Nat.reduceLT]
  refine c_loop (fun k env H' => H' = H ∧ ∃ i, k + i = xs.length ∧ i ≤ ys.length ∧ env 0 = .slice a xs.length c ∧ env 1 = .slice b ys.length d ∧ env 5 = .int .i64 i ∧ cmpL (xs.drop i) (ys.drop i) = cmpL xs ys) xs.length ⟨rfl, 0, by omega, by omega, by simp -implicitDefEqProofs (maxSteps := 1000000) (disch := first | omega | assumption) only [Sx, reduceIte, Nat.reduceEqDiff, reduceCtorEq, Nat.reduceAdd, Nat.reduceSub, Nat.reduceLT], by simp -implicitDefEqProofs (maxSteps := 1000000) (disch := first | omega | assumption) only [Sx, reduceIte, Nat.reduceEqDiff, reduceCtorEq, Nat.reduceAdd, Nat.reduceSub, Nat.reduceLT], by simp -implicitDefEqProofs (maxSteps := 1000000) (disch := first | omega | assumption) only [Sx, reduceIte, Nat.reduceEqDiff, reduceCtorEq, Nat.reduceAdd, Nat.reduceSub, Nat.reduceLT]; rfl, rfl⟩ ?_
  rintro k env H' ⟨rfl, i, hk, hiy, h0, h1, h5, ht⟩
  unfold L10_0
  by_cases hi : i < xs.length
  · have f1 : decide ((i : Int) < (xs.length : Int)) = true := decide_eq_true (by omega)
    by_cases hj : i < ys.length
    · have f2 : decide ((i : Int) < (ys.length : Int)) = true := decide_eq_true (by omega)
      obtain ⟨p, rfl, hp⟩ := str_at hx hi
      obtain ⟨q, rfl, hq⟩ := str_at hy hj
      rw [List.drop_eq_getElem_cons hi, List.drop_eq_getElem_cons hj, cmpL] at ht
      unfold cmpT at ht
      by_cases hlt : Op.bytesLess xs[i] ys[i] = true
      · rw [if_pos hlt] at ht
        simp -implicitDefEqProofs (maxSteps := 1000000) (disch := first | omega | assumption) only [h0, h1, h5, f1, f2, hp, hq, t_list, hlt, l_g, Sx, reduceIte, Nat.reduceEqDiff, reduceCtorEq, Nat.reduceAdd, Nat.reduceSub, Nat.reduceLT]
        exact ⟨by rw [← ht]; rfl, by trivial⟩
      · have hlt' : Op.bytesLess xs[i] ys[i] = false := by simpa using hlt
        rw [if_neg hlt] at ht
        by_cases he : xs[i] = ys[i]
        · have f3 : (!(false || xs[i] == ys[i])) = false := by simp [he]
          rw [if_pos he, if_pos rfl] at ht
          simp -implicitDefEqProofs (maxSteps := 1000000) (disch := first | omega | assumption) only [h0, h1, h5, f1, f2, hp, hq, t_list, hlt', f3, l_g, Sx, reduceIte, Nat.reduceEqDiff, reduceCtorEq, Nat.reduceAdd, Nat.reduceSub, Nat.reduceLT]
          exact ⟨k - 1, by omega, by trivial, i + 1, by omega, by omega, by trivial, by trivial, by simp -implicitDefEqProofs (maxSteps := 1000000) (disch := first | omega | assumption) only [Int.natCast_add, Int.natCast_one, Sx, reduceIte, Nat.reduceEqDiff, reduceCtorEq, Nat.reduceAdd, Nat.reduceSub, Nat.reduceLT], ht⟩
        · have f3 : (!(false || xs[i] == ys[i])) = true := by simp [he]
          rw [if_neg he] at ht
          simp -implicitDefEqProofs (maxSteps := 1000000) (disch := first | omega | assumption) only [h0, h1, h5, f1, f2, hp, hq, t_list, hlt', f3, l_g, Sx, reduceIte, Nat.reduceEqDiff, reduceCtorEq, Nat.reduceAdd, Nat.reduceSub, Nat.reduceLT]
          exact ⟨by rw [← ht]; rfl, by trivial⟩
    · have f2 : decide ((i : Int) < (ys.length : Int)) = false := decide_eq_false (by omega)
      have f3 : decide ((xs.length : Int) < (ys.length : Int)) = false := decide_eq_false (by omega)
      have f4 : decide ((ys.length : Int) < (xs.length : Int)) = true := decide_eq_true (by omega)
      rw [List.drop_eq_getElem_cons hi, List.drop_of_length_le (show ys.length ≤ i by omega), cmpL] at ht
      simp -implicitDefEqProofs (maxSteps := 1000000) (disch := first | omega | assumption) only [h0, h1, h5, f1, f2, f3, f4, l_g, Sx, reduceIte, Nat.reduceEqDiff, reduceCtorEq, Nat.reduceAdd, Nat.reduceSub, Nat.reduceLT]
      exact ⟨by rw [← ht], by trivial⟩
  · have f1 : decide ((i : Int) < (xs.length : Int)) = false := decide_eq_false (by omega)
    rw [List.drop_of_length_le (show xs.length ≤ i by omega)] at ht
    have f4 : decide ((ys.length : Int) < (xs.length : Int)) = false := decide_eq_false (by omega)
    by_cases hj : xs.length < ys.length
    · have f2 : decide ((xs.length : Int) < (ys.length : Int)) = true := decide_eq_true (by omega)
      rw [List.drop_eq_getElem_cons (show i < ys.length by omega), cmpL] at ht
      simp -implicitDefEqProofs (maxSteps := 1000000) (disch := first | omega | assumption) only [h0, h1, h5, f1, f2, f4, l_g, Sx, reduceIte, Nat.reduceEqDiff, reduceCtorEq, Nat.reduceAdd, Nat.reduceSub, Nat.reduceLT]
      exact ⟨by rw [← ht], by trivial⟩
    · have f2 : decide ((xs.length : Int) < (ys.length : Int)) = false := decide_eq_false (by omega)
      rw [List.drop_of_length_le (show ys.length ≤ i by omega), cmpL] at ht
      simp -implicitDefEqProofs (maxSteps := 1000000) (disch := first | omega | assumption) only [h0, h1, h5, f1, f2, f4, l_g, Sx, reduceIte, Nat.reduceEqDiff, reduceCtorEq, Nat.reduceAdd, Nat.reduceSub, Nat.reduceLT]
      exact ⟨by rw [← ht], by trivial⟩
set_option maxHeartbeats 2000000 in
theorem runder_spec {a b : Option Addr} {n m c d : Nat} {H : Heap} {xs ys : List (List UInt8)} (hx : Row H a (strs xs)) (hy : Row H b (strs ys)) (hn : n = xs.length) (hm : m = ys.length) (hl : xs.length ≤ 1125899906842624) :
    ACalls Try.prog 11 [Value.slice a n c, Value.slice b m d].toArray H fun e H' => e = .returned (.bool (underN xs ys)) ∧ H' = H := by
  subst hn; subst hm
  refine call11 (Nat.le_of_ble_eq_true rfl) ?_
  unfold L11 env0
  unfold underN
  by_cases hlen : ys.length < xs.length
  case neg =>
    have f0 : decide ((xs.length : Int) ≤ (ys.length : Int)) = true := decide_eq_true (by omega)
    rw [decide_eq_false hlen, Bool.false_and]
    simp -implicitDefEqProofs (maxSteps := 1000000) (disch := first | omega | assumption) only [f0, Sx, reduceIte, Nat.reduceEqDiff, reduceCtorEq, Nat.reduceAdd, Nat.reduceSub, Nat.reduceLT]
    exact ⟨by trivial, by trivial⟩
  have f0 : decide ((xs.length : Int) ≤ (ys.length : Int)) = false := decide_eq_false (by omega)
  rw [decide_eq_true hlen, Bool.true_and]
  simp -implicitDefEqProofs (maxSteps := 1000000) (disch := first | omega | assumption) only [f0, Sx, reduceIte, Nat.reduceEqDiff, reduceCtorEq, Nat.reduceAdd, Nat.reduceSub, Nat.reduceLT]
  refine c_loop (fun k env H' => H' = H ∧ ∃ i, k + i = ys.length ∧ env 0 = .slice a xs.length c ∧ env 1 = .slice b ys.length d ∧ env 5 = .int .i64 i ∧ xs.take i = ys.take i) ys.length ⟨rfl, 0, by omega, by simp -implicitDefEqProofs (maxSteps := 1000000) (disch := first | omega | assumption) only [Sx, reduceIte, Nat.reduceEqDiff, reduceCtorEq, Nat.reduceAdd, Nat.reduceSub, Nat.reduceLT], by simp -implicitDefEqProofs (maxSteps := 1000000) (disch := first | omega | assumption) only [Sx, reduceIte, Nat.reduceEqDiff, reduceCtorEq, Nat.reduceAdd, Nat.reduceSub, Nat.reduceLT], by simp -implicitDefEqProofs (maxSteps := 1000000) (disch := first | omega | assumption) only [Sx, reduceIte, Nat.reduceEqDiff, reduceCtorEq, Nat.reduceAdd, Nat.reduceSub, Nat.reduceLT]; rfl, rfl⟩ ?_
  rintro k env H' ⟨rfl, i, hk, h0, h1, h5, ht⟩
  unfold L11_0
  by_cases hi : i < ys.length
  · have f1 : decide ((i : Int) < (ys.length : Int)) = true := decide_eq_true (by omega)
    obtain ⟨p, rfl, hp⟩ := str_at hx (i := i) (by omega)
    obtain ⟨q, rfl, hq⟩ := str_at hy hi
    have hix : i < xs.length := by omega
    by_cases he : xs[i] = ys[i]
    · have f2 : (!decide (xs[i] = ys[i])) = false := by rw [decide_eq_true he]; rfl
      simp -implicitDefEqProofs (maxSteps := 1000000) (disch := first | omega | assumption) only [h0, h1, h5, f1, hp, hq, t_eq, f2, Sx, reduceIte, Nat.reduceEqDiff, reduceCtorEq, Nat.reduceAdd, Nat.reduceSub, Nat.reduceLT]
      exact ⟨k - 1, by omega, by trivial, i + 1, by omega, by trivial, by trivial, by simp -implicitDefEqProofs (maxSteps := 1000000) (disch := first | omega | assumption) only [Int.natCast_add, Int.natCast_one, Sx, reduceIte, Nat.reduceEqDiff, reduceCtorEq, Nat.reduceAdd, Nat.reduceSub, Nat.reduceLT], by rw [List.take_succ_eq_append_getElem hix, List.take_succ_eq_append_getElem hi, ht, he]⟩
    · have f2 : (!decide (xs[i] = ys[i])) = true := by rw [decide_eq_false he]; rfl
      simp -implicitDefEqProofs (maxSteps := 1000000) (disch := first | omega | assumption) only [h0, h1, h5, f1, hp, hq, t_eq, f2, Sx, reduceIte, Nat.reduceEqDiff, reduceCtorEq, Nat.reduceAdd, Nat.reduceSub, Nat.reduceLT]
      refine ⟨?_, by trivial⟩
      have : xs.take ys.length ≠ ys := by
        intro e
        apply he
        have h2 : (xs.take ys.length)[i]? = ys[i]? := by rw [e]
        rw [List.getElem?_take_of_lt hi, List.getElem?_eq_getElem hix, List.getElem?_eq_getElem hi] at h2
        exact Option.some.inj h2
      rw [decide_eq_false this]
  · have f1 : decide ((i : Int) < (ys.length : Int)) = false := decide_eq_false (by omega)
    simp -implicitDefEqProofs (maxSteps := 1000000) (disch := first | omega | assumption) only [h0, h1, h5, f1, Sx, reduceIte, Nat.reduceEqDiff, reduceCtorEq, Nat.reduceAdd, Nat.reduceSub, Nat.reduceLT]
    have : i = ys.length := by omega
    subst this
    rw [List.take_length] at ht
    rw [decide_eq_true ht]
    exact ⟨by trivial, by trivial⟩
theorem rstrip_spec {a : Option Addr} {n c : Nat} {z : Int} {H : Heap} {xs : List (List UInt8)} (hx : Row H a (strs xs)) (hn : n = xs.length) (hc : n ≤ c) (hl : xs.length ≤ 1099511627) :
    ACalls Try.prog 13 [Value.slice a n c, .int .i64 z].toArray H fun e H' => H' = H ∧ ∃ A C, e = .returned (.tuple #[.slice A (stripN xs z).1.length C, .bool (stripN xs z).2]) ∧ Row H A (strs (stripN xs z).1) := by
  subst hn
  refine call13 (Nat.le_of_ble_eq_true rfl) ?_
  unfold L13 env0
  unfold stripN
  by_cases h1 : z < 0
  · have f0 : decide (z < 0) = true := decide_eq_true h1
    rw [if_pos (.inl h1)]
    simp -implicitDefEqProofs (maxSteps := 1000000) (disch := first | omega | assumption) only [f0, l_g, Sx, reduceIte, Nat.reduceEqDiff, reduceCtorEq, Nat.reduceAdd, Nat.reduceSub, Nat.reduceLT]
    exact ⟨by trivial, none, 0, rfl, fun i v hv => by cases hv⟩
  have f0 : decide (z < 0) = false := decide_eq_false h1
  by_cases h2 : (xs.length : Int) ≤ z
  · have f1 : decide ((xs.length : Int) ≤ z) = true := decide_eq_true h2
    rw [if_pos (.inr h2)]
    simp -implicitDefEqProofs (maxSteps := 1000000) (disch := first | omega | assumption) only [f0, f1, l_g, Sx, reduceIte, Nat.reduceEqDiff, reduceCtorEq, Nat.reduceAdd, Nat.reduceSub, Nat.reduceLT]
    exact ⟨by trivial, none, 0, rfl, fun i v hv => by cases hv⟩
  have f1 : decide ((xs.length : Int) ≤ z) = false := decide_eq_false h2
  rw [if_neg (by rintro (h | h); exact h1 h; exact h2 h)]
  have hcut : (0 : Int) ≤ z ∧ z ≤ (xs.length : Int) := by omega
  simp -implicitDefEqProofs (maxSteps := 1000000) (disch := first | omega | assumption) only [f0, f1, ev_slc_lo, hcut, l_g, Sx, reduceIte, Nat.reduceEqDiff, reduceCtorEq, Nat.reduceAdd, Nat.reduceSub, Nat.reduceLT]
  have hd := hx.cut (c := c) (l := z.toNat) (sz := 1) (by simpa using hc)
  rw [Nat.mul_one, strs, ← List.map_drop] at hd
  exact ⟨by trivial, _, _, by rw [List.length_drop], hd⟩
set_option maxHeartbeats 2000000 in
theorem rplace_spec {a b : Option Addr} {n m c d : Nat} {H : Heap} {xs ys : List (List UInt8)} (hx : Row H a (strs xs)) (hy : Row H b (strs ys)) (hn : n = xs.length) (hm : m = ys.length) (hl : tot xs + tot ys ≤ 1099511627) :
    ACalls Try.prog 15 [Value.slice a n c, Value.slice b m d].toArray H fun e H' => ∃ v, e = .returned (.tuple #[v, .int .i64 (placeN xs ys).2]) ∧ Ss H' v (placeN xs ys).1 ∧ Keep H H' ∧ Fresh H v := by
  subst hn; subst hm
  refine call15 (Nat.le_of_ble_eq_true rfl) ?_
  unfold L15 env0
  have hl1 := len_tot xs
  have hl2 := len_tot ys
  simp -implicitDefEqProofs (maxSteps := 1000000) (disch := first | omega | assumption) only [Sx, reduceIte, Nat.reduceEqDiff, reduceCtorEq, Nat.reduceAdd, Nat.reduceSub, Nat.reduceLT]
  refine lits_nostr ?_
  intro r1 H1 hO1 hk1 hr1
  try simp -implicitDefEqProofs (maxSteps := 1000000) (disch := first | omega | assumption) only [Sx, reduceIte, Nat.reduceEqDiff, reduceCtorEq, Nat.reduceAdd, Nat.reduceSub, Nat.reduceLT]
  refine a_app (len := 0) (m := xs.length) (new := strs xs) hO1 rfl (by rfl) ((hk1.row hx).cells (by simp)) (by simp) rfl (by omega) (strs_scalar _) (by omega) ?_
  intro v2 H2 hO2 ho2 hm2
  have hk2 : Keep H H2 := ho2.keep hk1 (by rintro q ⟨⟩; exact hr1)
  have hf2 : Fresh H v2 := hm2.fresh hk1 (by rintro q ⟨⟩; exact hr1)
  try simp -implicitDefEqProofs (maxSteps := 1000000) (disch := first | omega | assumption) only [Sx, reduceIte, Nat.reduceEqDiff, reduceCtorEq, Nat.reduceAdd, Nat.reduceSub, Nat.reduceLT]
  refine a_app (len := xs.length) (m := ys.length) (new := strs ys) hO2 (by simp) (by rfl) ((hk2.row hy).cells (by simp)) (by simp) rfl (by omega) (strs_scalar _) (by omega) ?_
  intro v3 H3 hO3 ho3 hm3
  have hk3 : Keep H H3 := ho3.keep hk2 hf2
  have hf3 : Fresh H v3 := hm3.fresh hk2 hf2
  have hO3' : Ss H3 v3 (xs ++ ys) := by
    show Own H3 _ 1 _ _
    rw [strs, List.map_append]
    exact hO3
  obtain ⟨a2, c2, rfl, hc2, r2⟩ := Ss.len hO3'
  try simp -implicitDefEqProofs (maxSteps := 1000000) (disch := first | omega | assumption) only [Sx, reduceIte, Nat.reduceEqDiff, reduceCtorEq, Nat.reduceAdd, Nat.reduceSub, Nat.reduceLT]
  refine a_call (rjoin_spec r2 rfl (by rw [tot_app]; omega)) ?_
  rintro e H4 ⟨rfl, rfl⟩
  unfold placeN
  by_cases h : (joinN (xs ++ ys)).2 = 0
  · have q0 : ((joinN (xs ++ ys)).2 != 0) = false := by rw [bne_eq_false_iff_eq]; exact h
    simp -implicitDefEqProofs (maxSteps := 1000000) (disch := first | omega | assumption) only [endK, q0, Sx, reduceIte, Nat.reduceEqDiff, reduceCtorEq, Nat.reduceAdd, Nat.reduceSub, Nat.reduceLT]
    rw [if_neg (fun e => e h)]
    exact ⟨_, rfl, hO3', hk3, hf3⟩
  · have q0 : ((joinN (xs ++ ys)).2 != 0) = true := by rw [bne_iff_ne]; exact h
    simp -implicitDefEqProofs (maxSteps := 1000000) (disch := first | omega | assumption) only [endK, q0, Sx, reduceIte, Nat.reduceEqDiff, reduceCtorEq, Nat.reduceAdd, Nat.reduceSub, Nat.reduceLT]
    rw [if_pos h]
    exact ⟨_, rfl, .nil, hk3, fun q hq => by cases hq⟩
end Go.Proofs.Ytdlmomjcolbkgaa.S09
