/-
  PathPlaces: any directory, any components.
-/
import Derived.Test.YtdlmomjcolbkgaaDoorLowF
import Derived.Test.YtdlmomjcolbkgaaDoorPlace
import Derived.Test.YtdlmomjcolbkgaaDoorSafeLaw
import Derived.Test.YtdlmomjcolbkgaaDoorSameT
set_option linter.unusedVariables false
set_option linter.unusedSimpArgs false
namespace Go.Proofs.YtdlmomjcolbkgaaDoor.S09
open Go Go.RowKit Go.Proofs.YtdlmomjcolbkgaaDoor.Sep Go.Proofs.YtdlmomjcolbkgaaDoor.Low Go.Proofs.YtdlmomjcolbkgaaDoor.Lib

theorem under_app (xs ys : List (List UInt8)) : underN (xs ++ ys) xs = decide (0 < ys.length) := by
  unfold underN
  rw [List.take_left' rfl, decide_eq_true rfl, Bool.and_true, List.length_append]
  by_cases h : 0 < ys.length
  · rw [decide_eq_true h, decide_eq_true (by omega)]
  · rw [decide_eq_false h, decide_eq_false (by omega)]
theorem strip_app (xs ys : List (List UInt8)) : stripN (xs ++ ys) xs.length = (ys, decide (0 < ys.length)) := by
  unfold stripN
  rw [List.length_append]
  cases ys with
  | nil => rw [if_pos (.inr (by simp))]; rfl
  | cons y r =>
    rw [if_neg (by simp; omega), decide_eq_true (by simp)]
    simp
set_option maxHeartbeats 8000000 in
theorem pathPlaces_walk {H : Heap} {A B : Option Addr} {c d : Nat} {xs ys : List (List UInt8)} (hra : Row H A (strs xs)) (hrb : Row H B (strs ys)) (hca : xs.length ≤ c) (hcb : ys.length ≤ d) (hl : tot xs + tot ys ≤ 1048576) :
    ACalls Tryd.prog 7 [Value.slice A xs.length c, .slice B ys.length d].toArray H fun e H' => e = .returned (.bool true) ∧ Keep H H' := by
  have hl1 := len_tot xs
  have hl2 := len_tot ys
  refine call7 (Nat.le_of_ble_eq_true rfl) ?_
  unfold L7 env0
  simp -implicitDefEqProofs (maxSteps := 1000000) (disch := first | omega | assumption) only [Sx, reduceIte, Nat.reduceEqDiff, reduceCtorEq, Nat.reduceAdd, Nat.reduceSub, Nat.reduceLT]
  refine lits_nostr ?_
  intro r1 H1 hO1 hk1 hr1
  try simp -implicitDefEqProofs (maxSteps := 1000000) (disch := first | omega | assumption) only [Sx, reduceIte, Nat.reduceEqDiff, reduceCtorEq, Nat.reduceAdd, Nat.reduceSub, Nat.reduceLT]
  refine a_app (len := 0) (m := xs.length) (new := strs xs) hO1 rfl (by rfl) ((hk1.row hra).cells (by simp)) (by simp) rfl (by omega) (strs_scalar _) (by omega) ?_
  intro v2 H2 hO2 ho2 hm2
  have hk2 : Keep H H2 := ho2.keep hk1 (by rintro q ⟨⟩; exact hr1)
  have hO2 : Ss H2 v2 xs := hO2
  try simp -implicitDefEqProofs (maxSteps := 1000000) (disch := first | omega | assumption) only [Sx, reduceIte, Nat.reduceEqDiff, reduceCtorEq, Nat.reduceAdd, Nat.reduceSub, Nat.reduceLT]
  refine lits_nostr ?_
  intro r3 H3 hO3 hk3 hr3
  try simp -implicitDefEqProofs (maxSteps := 1000000) (disch := first | omega | assumption) only [Sx, reduceIte, Nat.reduceEqDiff, reduceCtorEq, Nat.reduceAdd, Nat.reduceSub, Nat.reduceLT]
  refine a_app (len := 0) (m := ys.length) (new := strs ys) hO3 rfl (by rfl) (((hk2.trans hk3).row hrb).cells (by simp)) (by simp) rfl (by omega) (strs_scalar _) (by omega) ?_
  intro v4 H4 hO4 ho4 hm4
  have hk24 : Keep H2 H4 := ho4.keep hk3 (by rintro q ⟨⟩; exact hr3)
  have hk4 := hk2.trans hk24
  have hOx := Own.keep hO2 hk24
  have hOy : Ss H4 v4 ys := hO4
  clear hO1 hk1 hr1 ho2 hm2 hk2 hO2 hO3 hk3 hr3 hO4 ho4 hm4 hk24
  obtain ⟨ax, cx, rfl, hcx, rx⟩ := Ss.len hOx
  obtain ⟨ay, cy, rfl, hcy, ry⟩ := hOy.len
  try simp -implicitDefEqProofs (maxSteps := 1000000) (disch := first | omega | assumption) only [Sx, reduceIte, Nat.reduceEqDiff, reduceCtorEq, Nat.reduceAdd, Nat.reduceSub, Nat.reduceLT]
  refine a_call (place_spec rx ry rfl rfl (by omega)) ?_
  rintro e H5 ⟨vl, rfl, hOl, hk5, hFl⟩
  have hk45 := hk4.trans hk5
  by_cases h0 : (joinN (xs ++ ys)).2 = 0
  case neg =>
    have hpl : placeN xs ys = ([], (joinN (xs ++ ys)).2) := by unfold placeN; rw [if_pos h0]
    rw [hpl] at hOl
    rw [hpl]
    have q0 : ((joinN (xs ++ ys)).2 != 0) = true := by rw [bne_iff_ne]; exact h0
    obtain ⟨al, cl, rfl, hcl, rl⟩ := Ss.len hOl
    simp -implicitDefEqProofs (maxSteps := 1000000) (disch := first | omega | assumption) only [endK, q0, Sx, reduceIte, Nat.reduceEqDiff, reduceCtorEq, Nat.reduceAdd, Nat.reduceSub, Nat.reduceLT]
    refine lits_nostr ?_
    intro r6 H6 hO6 hk6 hr6
    try simp -implicitDefEqProofs (maxSteps := 1000000) (disch := first | omega | assumption) only [Sx, reduceIte, Nat.reduceEqDiff, reduceCtorEq, Nat.reduceAdd, Nat.reduceSub, Nat.reduceLT]
    refine a_app (len := 0) (m := xs.length) (new := strs xs) hO6 rfl (by rfl) (((hk45.trans hk6).row hra).cells (by simp)) (by simp) rfl (by omega) (strs_scalar _) (by omega) ?_
    intro v7 H7 hO7 ho7 hm7
    have hO7 : Ss H7 v7 xs := hO7
    have hk57 : Keep H5 H7 := ho7.keep hk6 (by rintro q ⟨⟩; exact hr6)
    have hf7 : Fresh H5 v7 := hm7.fresh hk6 (by rintro q ⟨⟩; exact hr6)
    try simp -implicitDefEqProofs (maxSteps := 1000000) (disch := first | omega | assumption) only [Sx, reduceIte, Nat.reduceEqDiff, reduceCtorEq, Nat.reduceAdd, Nat.reduceSub, Nat.reduceLT]
    refine a_app (len := xs.length) (m := ys.length) (new := strs ys) hO7 (by simp) (by rfl) (((hk45.trans hk57).row hrb).cells (by simp)) (by simp) rfl (by omega) (strs_scalar _) (by omega) ?_
    intro v8 H8 hO8 ho8 hm8
    have hk58 : Keep H5 H8 := ho8.keep hk57 hf7
    have hO8 : Ss H8 v8 (xs ++ ys) := by
      show Own H8 _ 1 _ _
      rw [strs, List.map_append]
      exact hO8
    obtain ⟨a8, c8, rfl, hc8, r8⟩ := hO8.len
    try simp -implicitDefEqProofs (maxSteps := 1000000) (disch := first | omega | assumption) only [Sx, reduceIte, Nat.reduceEqDiff, reduceCtorEq, Nat.reduceAdd, Nat.reduceSub, Nat.reduceLT]
    refine a_call (pjoin_spec r8 (own_spot hO8 rfl) rfl hc8 (by rw [tot_app]; omega)) ?_
    rintro e H9 ⟨rfl, rfl⟩
    have q1 : ((joinN (xs ++ ys)).2 == (joinN (xs ++ ys)).2) = true := by simp
    have q2 : (((0 : Nat) : Int) == 0) = true := rfl
    simp -implicitDefEqProofs (maxSteps := 1000000) (disch := first | omega | assumption) only [endK, q1, q2, l_g, Sx, reduceIte, Nat.reduceEqDiff, reduceCtorEq, Nat.reduceAdd, Nat.reduceSub, Nat.reduceLT]
    exact ⟨by trivial, hk45.trans hk58⟩
  have hpl : placeN xs ys = (xs ++ ys, 0) := by unfold placeN; rw [if_neg (fun e => e h0)]
  obtain ⟨hne, hgood, hjn⟩ := join_zero h0
  rw [hpl] at hOl
  rw [hpl]
  obtain ⟨al, cl, rfl, hcl, rl⟩ := Ss.len hOl
  have hll : (xs ++ ys).length = xs.length + ys.length := List.length_append
  simp only at hll hcl rl
  have q0 : ((0 : Int) != 0) = false := rfl
  have q1 : ((((xs ++ ys).length : Nat) : Int) != (xs.length : Int) + (ys.length : Int)) = false := by rw [bne_eq_false_iff_eq]; omega
  simp -implicitDefEqProofs (maxSteps := 1000000) (disch := first | omega | assumption) only [endK, q0, q1, l_g, Sx, reduceIte, Nat.reduceEqDiff, reduceCtorEq, Nat.reduceAdd, Nat.reduceSub, Nat.reduceLT]
  refine a_call (under_spec rl (hk45.row hra) rfl rfl hcl (by omega)) ?_
  rintro e H6 ⟨rfl, rfl⟩
  rw [under_app]
  have q2 : decide ((0 : Int) < (ys.length : Int)) = decide (0 < ys.length) := by
    by_cases h : 0 < ys.length
    · rw [decide_eq_true h, decide_eq_true (by omega)]
    · rw [decide_eq_false h, decide_eq_false (by omega)]
  have q3 : ((decide (0 < ys.length) == decide (0 < ys.length)) != true) = false := by simp
  simp -implicitDefEqProofs (maxSteps := 1000000) (disch := first | omega | assumption) only [endK, q2, q3, ev_eqb, l_g, Sx, reduceIte, Nat.reduceEqDiff, reduceCtorEq, Nat.reduceAdd, Nat.reduceSub, Nat.reduceLT]
  refine a_call (strip_spec rl rfl hcl (by omega)) ?_
  rintro e H7 ⟨vs, rfl, hOs, hk7, hFs⟩
  rw [strip_app] at hOs
  rw [strip_app]
  obtain ⟨as9, cs, rfl, hcs, rs⟩ := Ss.len hOs
  have key : ∀ env2 : Env, env2 5 = .slice ax xs.length cx → env2 7 = .slice al (xs ++ ys).length cl → env2 0 = .slice A xs.length c → env2 1 = .slice B ys.length d → True := fun _ _ _ _ _ => trivial
  have fin0 : leavesL 0 (jn (xs ++ ys)) = false := safe_out 0 hne hgood
  have fin1 : leavesL xs.length (jn (xs ++ ys)) = false := safe_out _ hne hgood
  have hjl := jn_le (ls := xs ++ ys)
  rw [tot_app] at hjl
  have q8 : ((0 : Int) == 0) = true := rfl
  by_cases hy : 0 < ys.length
  · have d1 : decide (0 < ys.length) = true := decide_eq_true hy
    have q4 : ((true == true) != true) = false := rfl
    simp -implicitDefEqProofs (maxSteps := 1000000) (disch := first | omega | assumption) only [endK, q2, d1, q4, ev_eqb, l_g, Sx, reduceIte, Nat.reduceEqDiff, reduceCtorEq, Nat.reduceAdd, Nat.reduceSub, Nat.reduceLT]
    refine a_call (same_spec rs ((hk45.trans hk7).row hrb) rfl rfl (by simp only; omega)) ?_
    rintro e H8 ⟨rfl, rfl⟩
    simp -implicitDefEqProofs (maxSteps := 1000000) (disch := first | omega | assumption) only [endK, decide_true, Bool.not_true, l_g, Sx, reduceIte, Nat.reduceEqDiff, reduceCtorEq, Nat.reduceAdd, Nat.reduceSub, Nat.reduceLT]
    refine a_call (pjoin_spec (hk7.row rl) (own_spot hOl rfl) rfl hcl (by rw [tot_app]; omega)) ?_
    rintro e H9 ⟨rfl, rfl⟩
    rw [hjn]
    simp -implicitDefEqProofs (maxSteps := 1000000) (disch := first | omega | assumption) only [endK, q8, l_g, Sx, reduceIte, Nat.reduceEqDiff, reduceCtorEq, Nat.reduceAdd, Nat.reduceSub, Nat.reduceLT]
    refine a_call (leaves_spec (n := 0) (by omega) (by omega)) ?_
    rintro e H10 ⟨rfl, hk10⟩
    rw [fin0]
    simp -implicitDefEqProofs (maxSteps := 1000000) (disch := first | omega | assumption) only [endK, Bool.not_false, l_g, Sx, reduceIte, Nat.reduceEqDiff, reduceCtorEq, Nat.reduceAdd, Nat.reduceSub, Nat.reduceLT]
    refine a_call (leaves_spec (n := xs.length) (by omega) (by omega)) ?_
    rintro e H11 ⟨rfl, hk11⟩
    rw [fin1]
    simp -implicitDefEqProofs (maxSteps := 1000000) (disch := first | omega | assumption) only [endK, Bool.not_false, l_g, Sx, reduceIte, Nat.reduceEqDiff, reduceCtorEq, Nat.reduceAdd, Nat.reduceSub, Nat.reduceLT]
    exact ⟨by trivial, ((hk45.trans hk7).trans hk10).trans hk11⟩
  · have d1 : decide (0 < ys.length) = false := decide_eq_false hy
    have q4 : ((false == false) != true) = false := rfl
    simp -implicitDefEqProofs (maxSteps := 1000000) (disch := first | omega | assumption) only [endK, q2, d1, q4, ev_eqb, l_g, Sx, reduceIte, Nat.reduceEqDiff, reduceCtorEq, Nat.reduceAdd, Nat.reduceSub, Nat.reduceLT]
    refine a_call (pjoin_spec (hk7.row rl) (own_spot hOl rfl) rfl hcl (by rw [tot_app]; omega)) ?_
    rintro e H9 ⟨rfl, rfl⟩
    rw [hjn]
    simp -implicitDefEqProofs (maxSteps := 1000000) (disch := first | omega | assumption) only [endK, q8, l_g, Sx, reduceIte, Nat.reduceEqDiff, reduceCtorEq, Nat.reduceAdd, Nat.reduceSub, Nat.reduceLT]
    refine a_call (leaves_spec (n := 0) (by omega) (by omega)) ?_
    rintro e H10 ⟨rfl, hk10⟩
    rw [fin0]
    simp -implicitDefEqProofs (maxSteps := 1000000) (disch := first | omega | assumption) only [endK, Bool.not_false, l_g, Sx, reduceIte, Nat.reduceEqDiff, reduceCtorEq, Nat.reduceAdd, Nat.reduceSub, Nat.reduceLT]
    refine a_call (leaves_spec (n := xs.length) (by omega) (by omega)) ?_
    rintro e H11 ⟨rfl, hk11⟩
    rw [fin1]
    simp -implicitDefEqProofs (maxSteps := 1000000) (disch := first | omega | assumption) only [endK, Bool.not_false, l_g, Sx, reduceIte, Nat.reduceEqDiff, reduceCtorEq, Nat.reduceAdd, Nat.reduceSub, Nat.reduceLT]
    exact ⟨by trivial, ((hk45.trans hk7).trans hk10).trans hk11⟩
theorem tot_of (xs : List ByteArray) : tot (xs.map fun s => s.data.toList) = (xs.map fun s => s.size + 1).sum := by
  induction xs with
  | nil => rfl
  | cons x l ih => simp only [tot, List.map_cons, List.sum_cons] at ih ⊢; rw [ih]; rfl
theorem strs_of (xs : List ByteArray) : xs.map Value.string = strs (xs.map fun s => s.data.toList) := by
  rw [strs, List.map_map]
  apply List.map_congr_left
  intro s _
  simp
theorem pathPlaces_row {H : Heap} (A : Option Addr) (c : Nat) (xs : List ByteArray) (cl : List (List Value)) (he : Els Ty.string H A xs cl) (hc : xs.length ≤ c) (wf : (∀ x ∈ xs, x.size ≤ maxLen) ∧ xs.length ≤ maxLen)
    (B : Option Addr) (d : Nat) (ys : List ByteArray) (dl : List (List Value)) (hf : Els Ty.string H B ys dl) (hd : ys.length ≤ d) (wg : (∀ x ∈ ys, x.size ≤ maxLen) ∧ ys.length ≤ maxLen)
    (hb : (xs.map fun s => s.size + 1).sum + 1 + ((ys.map fun s => s.size + 1).sum + 1) ≤ 1048576) :
    ACalls Tryd.prog 7 [Value.slice A xs.length c, .slice B ys.length d].toArray H fun e H' => e = .returned (.bool true) ∧ Keep H H' := by
  have hr := he.strings
  rw [strs_of] at hr
  have hs := hf.strings
  rw [strs_of] at hs
  have h1 := tot_of xs
  have h2 := tot_of ys
  have := pathPlaces_walk (c := c) (d := d) hr hs (by rw [List.length_map]; exact hc) (by rw [List.length_map]; exact hd) (by omega)
  rw [List.length_map, List.length_map] at this
  exact this
end Go.Proofs.YtdlmomjcolbkgaaDoor.S09
