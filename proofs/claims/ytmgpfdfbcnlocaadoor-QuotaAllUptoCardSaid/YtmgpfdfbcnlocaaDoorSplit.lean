/-
  strings.Split at a slash, and the document's Pieces: one list.
-/
import Derived.Test.YtmgpfdfbcnlocaaDoorLowA
import Derived.Test.YtmgpfdfbcnlocaaDoorStr
set_option linter.unusedVariables false
set_option linter.unusedSimpArgs false
namespace Go.Proofs.YtmgpfdfbcnlocaaDoor.S09
open Go Go.RowKit Go.Proofs.YtmgpfdfbcnlocaaDoor.Sep Go.Proofs.YtmgpfdfbcnlocaaDoor.Low Go.Proofs.YtmgpfdfbcnlocaaDoor.Lib

theorem count_spec {H : Heap} (l : List UInt8) (c : UInt8) : ACalls Tryd.prog 61 [Value.string ⟨l.toArray⟩, .string ⟨#[c]⟩].toArray H fun e H' => e = .returned (.int .i64 (l.count c : Nat)) ∧ H' = H :=
  acalls_of fun w _ => (Tryd.strings_Count_one ⟨l.toArray⟩ c w).mono fun e w' h => h
theorem index_spec {H : Heap} (l : List UInt8) (c : UInt8) : ACalls Tryd.prog 62 [Value.string ⟨l.toArray⟩, .string ⟨#[c]⟩].toArray H fun e H' => e = .returned (.int .i64 (Go.Lib.indexByte l c)) ∧ H' = H :=
  acalls_of fun w _ => (Tryd.strings_Index_one ⟨l.toArray⟩ c w).mono fun e w' h => h
theorem prefix_spec {H : Heap} (l p : List UInt8) : ACalls Tryd.prog 34 [Value.string ⟨l.toArray⟩, .string ⟨p.toArray⟩].toArray H fun e H' => e = .returned (.bool (p.isPrefixOf l)) ∧ H' = H :=
  acalls_of fun w _ => (Tryd.strings_HasPrefix ⟨l.toArray⟩ ⟨p.toArray⟩ w).mono fun e w' h => h

/-- while a text is cut -/
structure CU (H0 : Heap) (l : List UInt8) (r : Nat) (i : Nat) (env : Env) (H : Heap) : Prop where
  h1 : env 1 = .string ⟨#[47]⟩
  h2 : env 2 = .int .i64 0
  h3 : env 3 = .int .i64 (l.count 47 : Nat)
  h9 : env 9 = .slice (some ⟨r, 0, none⟩) (l.count 47 + 1) (l.count 47 + 1)
  h10 : env 10 = .int .i64 i
  K : Keep H0 H
  F : H0 r = none
  rest : ∃ (ps : List (List UInt8)) (cur : List UInt8) (qs : List (List UInt8)), env 0 = .string ⟨cur.toArray⟩ ∧ ps.length = i ∧ cur.length ≤ l.length ∧ splitL l = ps ++ splitL cur ∧ i + cur.count 47 = l.count 47 ∧ qs.length = cur.count 47 + 1 ∧ Ss H (.slice (some ⟨r, 0, none⟩) (l.count 47 + 1) (l.count 47 + 1)) (ps ++ qs)

theorem set_at {ps qs : List (List UInt8)} {x : List UInt8} {i : Nat} (hi : ps.length = i) (hq : qs ≠ []) : (ps ++ qs).set i x = ps ++ x :: qs.tail := by
  subst hi
  cases qs with
  | nil => exact absurd rfl hq
  | cons q qs => simp
set_option maxHeartbeats 4000000 in
theorem cut_round {H0 H : Heap} {l : List UInt8} {r i : Nat} {env : Env} {Q : Post} {QP : List PanicEntry → Heap → Prop} (hl : l.length ≤ 1099511627776) (hi : i < l.count 47) (hS : CU H0 l r i env H) (hk : ∀ env' H', CU H0 l r (i + 1) env' H' → Q .normal env' H') :
    awpC Tryd.prog L58_0 Q QP env H := by
  obtain ⟨h1, h2, h3, h9, h10, hK, hF, ps, cur, qs, h0, hpl, hcl, hsp, hcnt, hql, hO⟩ := hS
  have hlc : l.count 47 ≤ l.length := List.count_le_length
  have f0 : decide ((i : Int) < (l.count 47 : Nat)) = true := decide_eq_true (by omega)
  unfold L58_0
  simp -implicitDefEqProofs (maxSteps := 1000000) (disch := first | omega | assumption) only [h0, h1, h2, h3, h9, h10, f0, Sx, reduceIte, Nat.reduceEqDiff, reduceCtorEq, Nat.reduceAdd, Nat.reduceSub, Nat.reduceLT]
  refine a_call (index_spec cur 47) ?_
  rintro e H1 ⟨rfl, rfl⟩
  rcases index_cases 47 cur with ⟨-, hno⟩ | ⟨p, rr, rfl, hp, hix⟩
  · have := List.count_eq_zero.2 hno
    omega
  rw [hix]
  have f1 : decide ((p.length : Int) < 0) = false := decide_eq_false (by omega)
  have e1 : (p.length : Int) + 0 = (p.length : Int) := by omega
  have hpl2 : (p ++ 47 :: rr).length = p.length + rr.length + 1 := by simp; omega
  have hb1 : (0 : Int) ≤ p.length ∧ (p.length : Int) ≤ (p ++ 47 :: rr).length := by omega
  have hb2 : (0 : Int) ≤ (p.length : Int) + 1 ∧ (p.length : Int) + 1 ≤ (p ++ 47 :: rr).length := by omega
  have e2 : (p ++ 47 :: rr).take p.length = p := by simp
  have e3 : (p ++ 47 :: rr).drop ((p.length : Int) + 1).toNat = rr := by
    rw [show ((p.length : Int) + 1).toNat = p.length + 1 by omega]
    simp
  have hone : (([47] : List UInt8).length : Int) = 1 := rfl
  simp -implicitDefEqProofs (maxSteps := 1000000) (disch := first | omega | assumption) only [endK, h0, h1, h2, h3, h9, h10, f1, e1, e_sls_hi, hb1, e2, Sx, reduceIte, Nat.reduceEqDiff, reduceCtorEq, Nat.reduceAdd, Nat.reduceSub, Nat.reduceLT]
  refine a_storeC hO (j := i) (u := .string ⟨p.toArray⟩) (by simp; omega) rfl ?_
  intro H2 hO2 ho2
  simp -implicitDefEqProofs (maxSteps := 1000000) (disch := first | omega | assumption) only [h0, h1, h2, h3, h9, h10, t_size, Int.natCast_one, e_sls_lo, hb2, e3, Sx, reduceIte, Nat.reduceEqDiff, reduceCtorEq, Nat.reduceAdd, Nat.reduceSub, Nat.reduceLT]
  have hc47 : (p ++ 47 :: rr).count 47 = rr.count 47 + 1 := by
    rw [List.count_append, List.count_eq_zero.2 hp, List.count_cons_self]; omega
  refine hk _ _ ⟨by simp -implicitDefEqProofs (maxSteps := 1000000) (disch := first | omega | assumption) only [h1, Sx, reduceIte, Nat.reduceEqDiff, reduceCtorEq, Nat.reduceAdd, Nat.reduceSub, Nat.reduceLT], by simp -implicitDefEqProofs (maxSteps := 1000000) (disch := first | omega | assumption) only [h2, Sx, reduceIte, Nat.reduceEqDiff, reduceCtorEq, Nat.reduceAdd, Nat.reduceSub, Nat.reduceLT], by simp -implicitDefEqProofs (maxSteps := 1000000) (disch := first | omega | assumption) only [h3, Sx, reduceIte, Nat.reduceEqDiff, reduceCtorEq, Nat.reduceAdd, Nat.reduceSub, Nat.reduceLT], by simp -implicitDefEqProofs (maxSteps := 1000000) (disch := first | omega | assumption) only [h9, Sx, reduceIte, Nat.reduceEqDiff, reduceCtorEq, Nat.reduceAdd, Nat.reduceSub, Nat.reduceLT], by simp -implicitDefEqProofs (maxSteps := 1000000) (disch := first | omega | assumption) only [h10, Int.natCast_add, Int.natCast_one, Sx, reduceIte, Nat.reduceEqDiff, reduceCtorEq, Nat.reduceAdd, Nat.reduceSub, Nat.reduceLT], ho2.keep hK fun q hq => by cases hq; exact hF, hF, ps ++ [p], rr, qs.tail, by simp -implicitDefEqProofs (maxSteps := 1000000) (disch := first | omega | assumption) only [Sx, reduceIte, Nat.reduceEqDiff, reduceCtorEq, Nat.reduceAdd, Nat.reduceSub, Nat.reduceLT], by simp [hpl], by simp at hcl; omega, by rw [hsp, splitL_cons hp]; simp, by omega, by rw [List.length_tail]; omega, ?_⟩
  have hqne : qs ≠ [] := by rintro rfl; simp at hql
  have e5 : (strs (ps ++ qs)).set i (.string ⟨p.toArray⟩) = strs ((ps ++ [p]) ++ qs.tail) := by
    rw [strs, ← List.map_set (f := fun l : List UInt8 => Value.string ⟨l.toArray⟩), set_at hpl hqne]
    simp
  show Own H2 _ 1 _ _
  rw [← e5]
  exact hO2

set_option maxHeartbeats 4000000 in
theorem gensplit_spec {H : Heap} {l : List UInt8} (hl : l.length ≤ 1099511627776) :
    ACalls Tryd.prog 58 [Value.string ⟨l.toArray⟩, .string ⟨#[47]⟩, .int .i64 0, .int .i64 (-1)].toArray H fun e H' => ∃ v, e = .returned v ∧ Ss H' v (splitL l) ∧ Keep H H' ∧ Fresh H v := by
  refine call58 (Nat.le_of_ble_eq_true rfl) ?_
  unfold L58 env0
  have hlc : l.count 47 ≤ l.length := List.count_le_length
  have f0 : ((-1 : Int) == 0) = false := rfl
  have f1 : decide ((-1 : Int) < 0) = true := rfl
  have f2 : decide (([47] : List UInt8) = []) = false := rfl
  simp -implicitDefEqProofs (maxSteps := 1000000) (disch := first | omega | assumption) only [f0, f1, t_eq, decide_false, List.cons_ne_nil, Sx, reduceIte, Nat.reduceEqDiff, reduceCtorEq, Nat.reduceAdd, Nat.reduceSub, Nat.reduceLT]
  refine a_call (count_spec l 47) ?_
  rintro e H1 ⟨rfl, rfl⟩
  unfold L58_2
  have e1 : (if (l.length : Int) + 1 < (l.count 47 : Int) + 1 then (l.length : Int) + 1 else (l.count 47 : Int) + 1) = ((l.count 47 + 1 : Nat) : Int) := by rw [if_neg (by omega)]; rfl
  simp -implicitDefEqProofs (maxSteps := 1000000) (disch := first | omega | assumption) only [endK, t_size, e1, Sx, reduceIte, Nat.reduceEqDiff, reduceCtorEq, Nat.reduceAdd, Nat.reduceSub, Nat.reduceLT]
  refine a_mks (l := l.count 47 + 1) (c := l.count 47 + 1) (sz := 1) (by omega) (by omega) (by omega) rfl (by omega) ?_
  intro r H2 rest hbr hW hk1 hr1
  have e2 : ((l.count 47 + 1 : Nat) : Int) - 1 = (l.count 47 : Nat) := by omega
  try simp -implicitDefEqProofs (maxSteps := 1000000) (disch := first | omega | assumption) only [e2, Sx, reduceIte, Nat.reduceEqDiff, reduceCtorEq, Nat.reduceAdd, Nat.reduceSub, Nat.reduceLT]
  have hO0 : Ss H2 (.slice (some ⟨r, 0, none⟩) (l.count 47 + 1) (l.count 47 + 1)) ([] ++ List.replicate (l.count 47 + 1) []) := by
    have : strs ([] ++ List.replicate (l.count 47 + 1) []) = (List.replicate (l.count 47 + 1) (#[Value.string ⟨#[]⟩] : Array Value).toList).flatten := by
      rw [List.nil_append, strs, List.map_replicate]
      simp
    show Own H2 _ 1 _ _
    rw [this]
    exact hW
  refine c_loop (fun k env H' => ∃ i, k + i = l.count 47 ∧ CU H1 l r i env H') (l.count 47) ⟨0, by omega, ⟨by simp -implicitDefEqProofs (maxSteps := 1000000) (disch := first | omega | assumption) only [Sx, reduceIte, Nat.reduceEqDiff, reduceCtorEq, Nat.reduceAdd, Nat.reduceSub, Nat.reduceLT], by simp -implicitDefEqProofs (maxSteps := 1000000) (disch := first | omega | assumption) only [Sx, reduceIte, Nat.reduceEqDiff, reduceCtorEq, Nat.reduceAdd, Nat.reduceSub, Nat.reduceLT], by simp -implicitDefEqProofs (maxSteps := 1000000) (disch := first | omega | assumption) only [Sx, reduceIte, Nat.reduceEqDiff, reduceCtorEq, Nat.reduceAdd, Nat.reduceSub, Nat.reduceLT], by simp -implicitDefEqProofs (maxSteps := 1000000) (disch := first | omega | assumption) only [Sx, reduceIte, Nat.reduceEqDiff, reduceCtorEq, Nat.reduceAdd, Nat.reduceSub, Nat.reduceLT], by simp -implicitDefEqProofs (maxSteps := 1000000) (disch := first | omega | assumption) only [Sx, reduceIte, Nat.reduceEqDiff, reduceCtorEq, Nat.reduceAdd, Nat.reduceSub, Nat.reduceLT]; rfl, hk1, hr1, [], l, List.replicate (l.count 47 + 1) [], by simp -implicitDefEqProofs (maxSteps := 1000000) (disch := first | omega | assumption) only [Sx, reduceIte, Nat.reduceEqDiff, reduceCtorEq, Nat.reduceAdd, Nat.reduceSub, Nat.reduceLT], rfl, Nat.le_refl _, rfl, by omega, by simp, hO0⟩⟩ ?_
  rintro k env H3 ⟨i, hki, hC⟩
  by_cases hi : i < l.count 47
  · refine cut_round hl hi hC ?_
    intro env' H' hC'
    exact ⟨k - 1, by omega, i + 1, by omega, hC'⟩
  · have : i = l.count 47 := by omega
    subst this
    obtain ⟨h1, h2, h3, h9, h10, hK, hF, ps, cur, qs, h0, hpl, hcl, hsp, hcnt, hql, hO⟩ := hC
    have f3 : decide (((l.count 47 : Nat) : Int) < (l.count 47 : Nat)) = false := decide_eq_false (by omega)
    have hc0 : cur.count 47 = 0 := by omega
    have hno : 47 ∉ cur := List.count_eq_zero.1 hc0
    rw [hc0] at hql
    unfold L58_0
    simp -implicitDefEqProofs (maxSteps := 1000000) (disch := first | omega | assumption) only [h0, h1, h2, h3, h9, h10, f3, Sx, reduceIte, Nat.reduceEqDiff, reduceCtorEq, Nat.reduceAdd, Nat.reduceSub, Nat.reduceLT]
    unfold L58_1
    simp -implicitDefEqProofs (maxSteps := 1000000) (disch := first | omega | assumption) only [h0, h1, h2, h3, h9, h10, Sx, reduceIte, Nat.reduceEqDiff, reduceCtorEq, Nat.reduceAdd, Nat.reduceSub, Nat.reduceLT]
    refine a_storeC hO (j := l.count 47) (u := .string ⟨cur.toArray⟩) (by simp; omega) rfl ?_
    intro H4 hO4 ho4
    have e3 : ((l.count 47 : Nat) : Int) + 1 = ((l.count 47 + 1 : Nat) : Int) := by omega
    simp -implicitDefEqProofs (maxSteps := 1000000) (disch := first | omega | assumption) only [h0, h1, h2, h3, h9, h10, e3, ev_slc_hi, Sx, reduceIte, Nat.reduceEqDiff, reduceCtorEq, Nat.reduceAdd, Nat.reduceSub, Nat.reduceLT]
    refine ⟨_, rfl, ?_, ho4.keep hK fun q hq => by cases hq; exact hF, fun q hq => by cases hq; exact hF⟩
    have hqne : qs ≠ [] := by rintro rfl; simp at hql
    have e5 : (strs (ps ++ qs)).set (l.count 47) (.string ⟨cur.toArray⟩) = strs (splitL l) := by
      rw [strs, ← List.map_set (f := fun l : List UInt8 => Value.string ⟨l.toArray⟩), set_at hpl hqne, hsp, splitL_none hno]
      have : qs.tail = [] := List.length_eq_zero_iff.1 (by rw [List.length_tail]; omega)
      rw [this]
    show Own H4 _ 1 _ _
    rw [← e5]
    exact hO4
theorem split_spec {H : Heap} {l : List UInt8} (hl : l.length ≤ 1099511627776) :
    ACalls Tryd.prog 47 [Value.string ⟨l.toArray⟩, .string ⟨#[47]⟩].toArray H fun e H' => ∃ v, e = .returned v ∧ Ss H' v (splitL l) ∧ Keep H H' ∧ Fresh H v := by
  refine call47 (Nat.le_of_ble_eq_true rfl) ?_
  unfold L47 env0
  simp -implicitDefEqProofs (maxSteps := 1000000) (disch := first | omega | assumption) only [Sx, reduceIte, Nat.reduceEqDiff, reduceCtorEq, Nat.reduceAdd, Nat.reduceSub, Nat.reduceLT]
  refine a_call (gensplit_spec hl) ?_
  rintro e H1 ⟨v, rfl, h1, h2, h3⟩
  have hs := h1.scalar
  simp -implicitDefEqProofs (maxSteps := 1000000) (disch := first | omega | assumption) only [endK, Sx, reduceIte, Nat.reduceEqDiff, reduceCtorEq, Nat.reduceAdd, Nat.reduceSub, Nat.reduceLT]
  exact ⟨v, rfl, h1, h2, h3⟩

/-- while the document cuts -/
structure PU (H0 : Heap) (l : List UInt8) (i : Nat) (env : Env) (H : Heap) : Prop where
  h0 : env 0 = .string ⟨l.toArray⟩
  h5 : env 5 = .int .i64 i
  K : Keep H0 H
  rest : ∃ v ps from_, env 3 = v ∧ env 4 = .int .i64 (from_ : Nat) ∧ from_ ≤ i ∧ Ss H v ps ∧ Fresh H0 v ∧ ps.length ≤ i ∧ splitL l = ps ++ splitL (l.drop from_) ∧ 47 ∉ (l.take i).drop from_

set_option maxHeartbeats 4000000 in
theorem piece_round {H0 H : Heap} {l : List UInt8} {i : Nat} {env : Env} {Q : Post} {QP : List PanicEntry → Heap → Prop} (hl : l.length ≤ 1099511627) (hi : i < l.length) (hS : PU H0 l i env H) (hk : ∀ env' H', PU H0 l (i + 1) env' H' → Q .normal env' H') :
    awpC Tryd.prog L38_1 Q QP env H := by
  obtain ⟨h0, h5, hK, v, ps, fr, h3, h4, hfi, hO, hF, hpl, hsp, hno⟩ := hS
  have f0 : decide ((i : Int) ≤ (l.length : Int)) = true := decide_eq_true (by omega)
  have f1 : ((i : Int) == (l.length : Int)) = false := by rw [beq_eq_false_iff_ne]; omega
  obtain ⟨x, hx⟩ : ∃ x, l[i]? = some x := ⟨_, List.getElem?_eq_getElem hi⟩
  have hsv := hO.scalar
  have htk : (l.take (i + 1)).drop fr = (l.take i).drop fr ++ [x] := by
    rw [List.take_succ_eq_append_getElem hi, List.drop_append_of_le_length (by rw [List.length_take]; omega)]
    rw [List.getElem?_eq_getElem hi] at hx
    rw [Option.some.inj hx]
  have hdr : l.drop fr = (l.take i).drop fr ++ x :: l.drop (i + 1) := by
    have : l = l.take i ++ x :: l.drop (i + 1) := by
      rw [List.getElem?_eq_getElem hi] at hx
      rw [← Option.some.inj hx, ← List.drop_eq_getElem_cons hi, List.take_append_drop]
    conv => lhs; rw [this]
    rw [List.drop_append_of_le_length (by rw [List.length_take]; omega)]
  unfold L38_1
  by_cases hs : x = 47
  · subst hs
    have f2 : (((47 : UInt8).toNat : Int) == 47) = true := rfl
    have hb : (0 : Int) ≤ (fr : Int) ∧ (fr : Int) ≤ (i : Int) ∧ (i : Int) ≤ l.length := by omega
    simp -implicitDefEqProofs (maxSteps := 1000000) (disch := first | omega | assumption) only [h0, h3, h4, h5, f0, f1, f2, t_size, e_ixs, hx, e_sls, l_g, Sx, reduceIte, Nat.reduceEqDiff, reduceCtorEq, Nat.reduceAdd, Nat.reduceSub, Nat.reduceLT]
    refine lits_str ?_
    intro r1 H1 hO1 hk1 hr1
    try simp -implicitDefEqProofs (maxSteps := 1000000) (disch := first | omega | assumption) only [h0, h3, h4, h5, Sx, reduceIte, Nat.reduceEqDiff, reduceCtorEq, Nat.reduceAdd, Nat.reduceSub, Nat.reduceLT]
    refine app_str (hO.keep hk1) (by omega) hO1 ?_
    intro v2 H2 hO2 ho2 hm2
    unfold L38_0
    try simp -implicitDefEqProofs (maxSteps := 1000000) (disch := first | omega | assumption) only [h0, h3, h4, h5, Sx, reduceIte, Nat.reduceEqDiff, reduceCtorEq, Nat.reduceAdd, Nat.reduceSub, Nat.reduceLT]
    refine hk _ _ ⟨by simp -implicitDefEqProofs (maxSteps := 1000000) (disch := first | omega | assumption) only [h0, Sx, reduceIte, Nat.reduceEqDiff, reduceCtorEq, Nat.reduceAdd, Nat.reduceSub, Nat.reduceLT], by simp -implicitDefEqProofs (maxSteps := 1000000) (disch := first | omega | assumption) only [Int.natCast_add, Int.natCast_one, Sx, reduceIte, Nat.reduceEqDiff, reduceCtorEq, Nat.reduceAdd, Nat.reduceSub, Nat.reduceLT], ho2.keep (hK.trans hk1) hF, v2, ps ++ [(l.take i).drop fr], i + 1, by simp -implicitDefEqProofs (maxSteps := 1000000) (disch := first | omega | assumption) only [Sx, reduceIte, Nat.reduceEqDiff, reduceCtorEq, Nat.reduceAdd, Nat.reduceSub, Nat.reduceLT], by simp -implicitDefEqProofs (maxSteps := 1000000) (disch := first | omega | assumption) only [Int.natCast_add, Int.natCast_one, Sx, reduceIte, Nat.reduceEqDiff, reduceCtorEq, Nat.reduceAdd, Nat.reduceSub, Nat.reduceLT], Nat.le_refl _, hO2, hm2.fresh (hK.trans hk1) hF, by simp; omega, ?_, ?_⟩
    · rw [hsp, hdr, splitL_cons hno]; simp
    · rw [List.drop_of_length_le (by rw [List.length_take]; omega)]; simp
  · have f2 : ((x.toNat : Int) == 47) = false := by
      rw [beq_eq_false_iff_ne]
      intro e
      exact hs (UInt8.toNat_inj.1 (by rw [show (47 : UInt8).toNat = 47 from rfl]; omega))
    simp -implicitDefEqProofs (maxSteps := 1000000) (disch := first | omega | assumption) only [h0, h3, h4, h5, f0, f1, f2, t_size, e_ixs, hx, l_g, Sx, reduceIte, Nat.reduceEqDiff, reduceCtorEq, Nat.reduceAdd, Nat.reduceSub, Nat.reduceLT]
    unfold L38_0
    simp -implicitDefEqProofs (maxSteps := 1000000) (disch := first | omega | assumption) only [h0, h3, h4, h5, Sx, reduceIte, Nat.reduceEqDiff, reduceCtorEq, Nat.reduceAdd, Nat.reduceSub, Nat.reduceLT]
    refine hk _ _ ⟨by simp -implicitDefEqProofs (maxSteps := 1000000) (disch := first | omega | assumption) only [h0, Sx, reduceIte, Nat.reduceEqDiff, reduceCtorEq, Nat.reduceAdd, Nat.reduceSub, Nat.reduceLT], by simp -implicitDefEqProofs (maxSteps := 1000000) (disch := first | omega | assumption) only [Int.natCast_add, Int.natCast_one, Sx, reduceIte, Nat.reduceEqDiff, reduceCtorEq, Nat.reduceAdd, Nat.reduceSub, Nat.reduceLT], hK, v, ps, fr, by simp -implicitDefEqProofs (maxSteps := 1000000) (disch := first | omega | assumption) only [h3, Sx, reduceIte, Nat.reduceEqDiff, reduceCtorEq, Nat.reduceAdd, Nat.reduceSub, Nat.reduceLT], by simp -implicitDefEqProofs (maxSteps := 1000000) (disch := first | omega | assumption) only [h4, Sx, reduceIte, Nat.reduceEqDiff, reduceCtorEq, Nat.reduceAdd, Nat.reduceSub, Nat.reduceLT], by omega, hO, hF, by omega, hsp, ?_⟩
    rw [htk, List.mem_append, not_or]
    exact ⟨hno, fun h => hs (List.mem_singleton.1 h).symm⟩
set_option maxHeartbeats 4000000 in
theorem pieces_spec {H : Heap} {l : List UInt8} (hl : l.length ≤ 1099511627) :
    ACalls Tryd.prog 38 [Value.string ⟨l.toArray⟩].toArray H fun e H' => ∃ v, e = .returned v ∧ Ss H' v (splitL l) ∧ Keep H H' ∧ Fresh H v := by
  refine call38 (Nat.le_of_ble_eq_true rfl) ?_
  unfold L38 env0
  simp -implicitDefEqProofs (maxSteps := 1000000) (disch := first | omega | assumption) only [Sx, reduceIte, Nat.reduceEqDiff, reduceCtorEq, Nat.reduceAdd, Nat.reduceSub, Nat.reduceLT]
  refine lits_nostr ?_
  intro r0 H0 hO0 hk0 hr0
  try simp -implicitDefEqProofs (maxSteps := 1000000) (disch := first | omega | assumption) only [Sx, reduceIte, Nat.reduceEqDiff, reduceCtorEq, Nat.reduceAdd, Nat.reduceSub, Nat.reduceLT]
  refine c_loop (fun k env H' => (∃ i, k + i = l.length + 1 ∧ i ≤ l.length ∧ PU H l i env H') ∨ (k = 0 ∧ env 0 = .string ⟨l.toArray⟩ ∧ env 5 = .int .i64 (l.length + 1 : Nat) ∧ ∃ v, env 3 = v ∧ Ss H' v (splitL l) ∧ Keep H H' ∧ Fresh H v)) (l.length + 1) (.inl ⟨0, by omega, by omega, ⟨by simp -implicitDefEqProofs (maxSteps := 1000000) (disch := first | omega | assumption) only [Sx, reduceIte, Nat.reduceEqDiff, reduceCtorEq, Nat.reduceAdd, Nat.reduceSub, Nat.reduceLT], by simp -implicitDefEqProofs (maxSteps := 1000000) (disch := first | omega | assumption) only [Sx, reduceIte, Nat.reduceEqDiff, reduceCtorEq, Nat.reduceAdd, Nat.reduceSub, Nat.reduceLT]; rfl, hk0, _, [], 0, by simp -implicitDefEqProofs (maxSteps := 1000000) (disch := first | omega | assumption) only [Sx, reduceIte, Nat.reduceEqDiff, reduceCtorEq, Nat.reduceAdd, Nat.reduceSub, Nat.reduceLT], by simp -implicitDefEqProofs (maxSteps := 1000000) (disch := first | omega | assumption) only [Sx, reduceIte, Nat.reduceEqDiff, reduceCtorEq, Nat.reduceAdd, Nat.reduceSub, Nat.reduceLT]; rfl, Nat.le_refl _, hO0, (fun q hq => by cases hq; exact hr0), by simp, by simp, by simp⟩⟩) ?_
  rintro k env H1 (⟨i, hki, hil, hP⟩ | ⟨rfl, h0, h5, v, h3, hO, hK, hF⟩)
  · by_cases hi : i < l.length
    · refine piece_round hl hi hP ?_
      intro env' H' hP'
      exact ⟨k - 1, by omega, .inl ⟨i + 1, by omega, by omega, hP'⟩⟩
    · have : i = l.length := by omega
      subst this
      obtain ⟨h0, h5, hK, v, ps, fr, h3, h4, hfi, hO, hF, hpl, hsp, hno⟩ := hP
      have f0 : decide ((l.length : Int) ≤ (l.length : Int)) = true := decide_eq_true (by omega)
      have f1 : ((l.length : Int) == (l.length : Int)) = true := by simp
      have hsv := hO.scalar
      have hb : (0 : Int) ≤ (fr : Int) ∧ (fr : Int) ≤ (l.length : Int) ∧ (l.length : Int) ≤ l.length := by omega
      unfold L38_1
      simp -implicitDefEqProofs (maxSteps := 1000000) (disch := first | omega | assumption) only [h0, h3, h4, h5, f0, f1, t_size, e_sls, l_g, Sx, reduceIte, Nat.reduceEqDiff, reduceCtorEq, Nat.reduceAdd, Nat.reduceSub, Nat.reduceLT]
      refine lits_str ?_
      intro r1 H2 hO1 hk1 hr1
      try simp -implicitDefEqProofs (maxSteps := 1000000) (disch := first | omega | assumption) only [h0, h3, h4, h5, Sx, reduceIte, Nat.reduceEqDiff, reduceCtorEq, Nat.reduceAdd, Nat.reduceSub, Nat.reduceLT]
      refine app_str (hO.keep hk1) (by omega) hO1 ?_
      intro v2 H3 hO2 ho2 hm2
      unfold L38_0
      try simp -implicitDefEqProofs (maxSteps := 1000000) (disch := first | omega | assumption) only [h0, h3, h4, h5, Sx, reduceIte, Nat.reduceEqDiff, reduceCtorEq, Nat.reduceAdd, Nat.reduceSub, Nat.reduceLT]
      refine ⟨0, by omega, .inr ⟨rfl, by simp -implicitDefEqProofs (maxSteps := 1000000) (disch := first | omega | assumption) only [h0, Sx, reduceIte, Nat.reduceEqDiff, reduceCtorEq, Nat.reduceAdd, Nat.reduceSub, Nat.reduceLT], by simp -implicitDefEqProofs (maxSteps := 1000000) (disch := first | omega | assumption) only [Int.natCast_add, Int.natCast_one, Sx, reduceIte, Nat.reduceEqDiff, reduceCtorEq, Nat.reduceAdd, Nat.reduceSub, Nat.reduceLT], v2, by simp -implicitDefEqProofs (maxSteps := 1000000) (disch := first | omega | assumption) only [Sx, reduceIte, Nat.reduceEqDiff, reduceCtorEq, Nat.reduceAdd, Nat.reduceSub, Nat.reduceLT], ?_, ho2.keep (hK.trans hk1) hF, hm2.fresh (hK.trans hk1) hF⟩⟩
      rw [List.take_length] at hO2 hno
      rw [hsp, splitL_none hno]
      exact hO2
  · have f0 : decide (((l.length + 1 : Nat) : Int) ≤ (l.length : Int)) = false := decide_eq_false (by omega)
    have hsv := hO.scalar
    unfold L38_1
    simp -implicitDefEqProofs (maxSteps := 1000000) (disch := first | omega | assumption) only [h0, h3, h5, f0, t_size, Sx, reduceIte, Nat.reduceEqDiff, reduceCtorEq, Nat.reduceAdd, Nat.reduceSub, Nat.reduceLT]
    exact ⟨v, rfl, hO, hK, hF⟩
end Go.Proofs.YtmgpfdfbcnlocaaDoor.S09
