/-
  The reference's PutSum; Zero of both; FieldRecords.
-/
import Derived.Test.YtigignkgblaoaaaDoorCheck
import Derived.Test.YtigignkgblaoaaaDoorSepOpn
set_option linter.unusedVariables false
set_option linter.unusedSimpArgs false
namespace Go.Proofs.YtigignkgblaoaaaDoor.S12
open Go Go.RowKit Go.Proofs.YtigignkgblaoaaaDoor.Sep Go.Proofs.YtigignkgblaoaaaDoor.Low Go.Proofs.YtigignkgblaoaaaDoor.Lib

theorem dig_set {l M : List Int} {k : Nat} (hk : k < l.length) (x : Int) : (l.take (k + 1) ++ M).set k x = l.take k ++ (x :: M) := by
  rw [List.take_add_one, List.getElem?_eq_getElem hk, List.append_assoc, List.set_append_right _ _ (by simp; omega)]
  have : min k l.length = k := by omega
  simp [this]
theorem sum_tail {l M : List Int} (hl : l.length = 512) (hM : M.length = 6) : ((l.take 148 ++ (M ++ l.drop 154)).set 154 0).set 155 32 = l.take 148 ++ (M ++ [0, 32]) ++ l.drop 156 := by
  have h1 : l.drop 154 = l[154] :: l[155] :: l.drop 156 := by
    rw [List.drop_eq_getElem_cons (by omega), List.drop_eq_getElem_cons (by omega)]
  have h2 : (l.take 148).length = 148 := by simp [hl]
  rw [h1, List.set_append_right _ _ (by omega), h2, List.set_append_right _ _ (by omega), h2, List.set_append_right _ _ (by omega), hM, List.set_append_right _ _ (by omega), hM]
  simp only [Nat.sub_self, List.set_cons_zero, show 155 - 148 - 6 = 0 + 1 from rfl, show 154 - 148 - 6 = 0 from rfl, List.set_cons_succ, List.append_assoc, List.cons_append, List.nil_append]
set_option maxHeartbeats 2000000 in
theorem rputSum_spec {H : Heap} {l : List Int} (hb : isBy l) (hl : l.length = 512) :
    ACalls Tryd.prog 32 [Value.agg (by8 l).toArray].toArray H fun e H' => e = .returned (.agg (by8 (putsumL l)).toArray) ∧ Keep H H' := by
  have hp := plainS_in hb hl
  refine call32 (Nat.le_of_ble_eq_true rfl) ?_
  unfold L32 env0
  simp -implicitDefEqProofs (maxSteps := 1000000) (disch := first | omega | assumption) only [Sx, reduceIte, Nat.reduceEqDiff, reduceCtorEq, Nat.reduceAdd, Nat.reduceSub, Nat.reduceLT, decide_true, decide_false, Bool.not_true, Bool.not_false, Int.toNat_one, Int.toNat_zero, Nat.zero_mul, l_g, endK]
  refine a_boxb hl ?_
  intro r H1 hO hk hr
  simp -implicitDefEqProofs (maxSteps := 1000000) (disch := first | omega | assumption) only [Sx, reduceIte, Nat.reduceEqDiff, reduceCtorEq, Nat.reduceAdd, Nat.reduceSub, Nat.reduceLT, decide_true, decide_false, Bool.not_true, Bool.not_false, Int.toNat_one, Int.toNat_zero, Nat.zero_mul, l_g, endK]
  refine a_new ?_
  intro r2 hr2
  rw [repN]
  have hO2 := arr_of (T := 33) (n := 512) (l := List.replicate 512 0) List.length_replicate (set_same (H := H1) (r := r2) (o := .cells (by8 (List.replicate 512 0)).toArray 33 (0, 0)))
  have hk2 := (Keep.refl H1).set_new (o := .cells (by8 (List.replicate 512 0)).toArray 33 (0, 0)) hr2
  generalize H1.set r2 _ = H2 at hO2 hk2 ⊢
  have hO1 := Own.keep hO hk2
  have e2 := ev_ldn_arr hO1
  have hne : r2 ≠ r := by
    rintro rfl
    exact hO.known (r := r2) rfl hr2
  simp -implicitDefEqProofs (maxSteps := 1000000) (disch := first | omega | assumption) only [e2, Sx, reduceIte, Nat.reduceEqDiff, reduceCtorEq, Nat.reduceAdd, Nat.reduceSub, Nat.reduceLT, decide_true, decide_false, Bool.not_true, Bool.not_false, Int.toNat_one, Int.toNat_zero, Nat.zero_mul, l_g, endK]
  refine a_call (rsums_spec hb hl) ?_
  rintro e H3 ⟨rfl, hk3⟩
  have hk03 := (hk.trans hk2).trans hk3
  have keep : ∀ {Ha Hb : Heap}, Keep H Ha → Oth Ha (.slice (some ⟨r, 0, none⟩) 512 512) Hb → Keep H Hb := fun hK ho => ho.keep hK fun q hq => by cases hq; exact hr
  have two : ∀ {Ha Hb : Heap}, Arr Ha 33 512 r2 (List.replicate 512 0) → Oth Ha (.slice (some ⟨r, 0, none⟩) 512 512) Hb → Arr Hb 33 512 r2 (List.replicate 512 0) := fun hA ho => hA.only ho fun q hq e => by
    cases hq; cases e; exact hne rfl
  simp -implicitDefEqProofs (maxSteps := 1000000) (disch := first | omega | assumption) only [Sx, reduceIte, Nat.reduceEqDiff, reduceCtorEq, Nat.reduceAdd, Nat.reduceSub, Nat.reduceLT, decide_true, decide_false, Bool.not_true, Bool.not_false, Int.toNat_one, Int.toNat_zero, Nat.zero_mul, l_g, endK]
  refine c_loop (fun k env H' => ∃ j, k + j = 6 ∧ env 1 = .pointer (some ⟨r, 0, none⟩) ∧ env 2 = .pointer (some ⟨r2, 0, none⟩) ∧ env 3 = .int .i64 (plainS l / p8 j) ∧ env 5 = .int .i64 ((153 : Int) - j) ∧ Arr H' 33 512 r (l.take (154 - j) ++ (od j (plainS l) ++ l.drop 154)) ∧ Arr H' 33 512 r2 (List.replicate 512 0) ∧ Keep H H') 6
    ⟨0, rfl, by simp -implicitDefEqProofs (maxSteps := 1000000) (disch := first | omega | assumption) only [Sx, reduceIte, Nat.reduceEqDiff, reduceCtorEq, Nat.reduceAdd, Nat.reduceSub, Nat.reduceLT], by simp -implicitDefEqProofs (maxSteps := 1000000) (disch := first | omega | assumption) only [Sx, reduceIte, Nat.reduceEqDiff, reduceCtorEq, Nat.reduceAdd, Nat.reduceSub, Nat.reduceLT], by rw [p8, Int.ediv_one]; simp -implicitDefEqProofs (maxSteps := 1000000) (disch := first | omega | assumption) only [Sx, reduceIte, Nat.reduceEqDiff, reduceCtorEq, Nat.reduceAdd, Nat.reduceSub, Nat.reduceLT], by simp -implicitDefEqProofs (maxSteps := 1000000) (disch := first | omega | assumption) only [Sx, reduceIte, Nat.reduceEqDiff, reduceCtorEq, Nat.reduceAdd, Nat.reduceSub, Nat.reduceLT]; rfl, by rw [od, List.nil_append, Nat.sub_zero, List.take_append_drop]; exact Own.keep hO1 hk3, Own.keep hO2 hk3, hk03⟩ ?_
  rintro k env H4 ⟨j, hkj, h1, h2, h3, h5, hA, hB, hK⟩
  unfold L32_0
  have hd0 : 0 ≤ plainS l / p8 j := Int.ediv_nonneg (by omega) (by have := p8_pos j; omega)
  have hd1 : plainS l / p8 j ≤ plainS l := Int.ediv_le_self _ (by omega)
  have hd2 : 0 ≤ plainS l / p8 (j + 1) := Int.ediv_nonneg (by omega) (by have := p8_pos (j + 1); omega)
  have hd3 : plainS l / p8 (j + 1) ≤ plainS l := Int.ediv_le_self _ (by omega)
  by_cases hj : j < 6
  · have f3 : decide ((148 : Int) ≤ (153 : Int) - j) = true := decide_eq_true (by omega)
    have hin : (0 : Int) ≤ (153 : Int) - j ∧ (153 : Int) - j < ((512 : Nat) : Int) := by omega
    have e3 : ((153 : Int) - j).toNat = 153 - j := by omega
    simp -implicitDefEqProofs (maxSteps := 1000000) (disch := first | omega | assumption) only [h1, h2, h3, h5, f3, v_rem, w_u8, e3, Sx, reduceIte, Nat.reduceEqDiff, reduceCtorEq, Nat.reduceAdd, Nat.reduceSub, Nat.reduceLT, decide_true, decide_false, Bool.not_true, Bool.not_false, Int.toNat_one, Int.toNat_zero, Nat.zero_mul, l_g, endK]
    refine a_putA hA (j := 153 - j) (by have := arr_len hA; omega) ?_
    intro H5 hA5 ho5
    rw [show 154 - j = 153 - j + 1 by omega, dig_set (by omega)] at hA5
    have e4 : (153 : Int) - j - 1 = (153 : Int) - ((j + 1 : Nat) : Int) := by omega
    simp -implicitDefEqProofs (maxSteps := 1000000) (disch := first | omega | assumption) only [h1, h2, h3, h5, e4, p8_div, Sx, reduceIte, Nat.reduceEqDiff, reduceCtorEq, Nat.reduceAdd, Nat.reduceSub, Nat.reduceLT, decide_true, decide_false, Bool.not_true, Bool.not_false, Int.toNat_one, Int.toNat_zero, Nat.zero_mul, l_g, endK]
    refine ⟨k - 1, by omega, j + 1, by omega, ?_, ?_, ?_, ?_, ?_, two hB ho5, keep hK ho5⟩
    · first | exact True.intro | rfl
    · first | exact True.intro | rfl
    · first | exact True.intro | rfl
    · first | exact True.intro | rfl
    · rw [show 154 - (j + 1) = 153 - j by omega]; exact hA5
  · obtain rfl : j = 6 := by omega
    have f3 : decide ((148 : Int) ≤ (153 : Int) - (6 : Nat)) = false := by decide
    rw [show 154 - 6 = 148 from rfl] at hA
    have i1 : (0 : Int) ≤ 154 ∧ (154 : Int) < ((512 : Nat) : Int) := by decide
    have i2 : (0 : Int) ≤ 155 ∧ (155 : Int) < ((512 : Nat) : Int) := by decide
    have n1 : (154 : Int).toNat = 154 := rfl
    have n2 : (155 : Int).toNat = 155 := rfl
    simp -implicitDefEqProofs (maxSteps := 1000000) (disch := first | omega | assumption) only [h1, h2, h3, h5, f3, n1, Sx, reduceIte, Nat.reduceEqDiff, reduceCtorEq, Nat.reduceAdd, Nat.reduceSub, Nat.reduceLT, decide_true, decide_false, Bool.not_true, Bool.not_false, Int.toNat_one, Int.toNat_zero, Nat.zero_mul, l_g, endK]
    refine a_putA hA (j := 154) (by have := arr_len hA; omega) ?_
    intro H5 hA5 ho5
    simp -implicitDefEqProofs (maxSteps := 1000000) (disch := first | omega | assumption) only [h1, h2, h3, h5, n2, Sx, reduceIte, Nat.reduceEqDiff, reduceCtorEq, Nat.reduceAdd, Nat.reduceSub, Nat.reduceLT, decide_true, decide_false, Bool.not_true, Bool.not_false, Int.toNat_one, Int.toNat_zero, Nat.zero_mul, l_g, endK]
    refine a_putA hA5 (j := 155) (by have := arr_len hA5; omega) ?_
    intro H6 hA6 ho6
    rw [sum_tail hl (od_len _ _)] at hA6
    have hA6 : Arr H6 33 512 r (putsumL l) := hA6
    have e6 := ev_ldn_arr hA6
    simp -implicitDefEqProofs (maxSteps := 1000000) (disch := first | omega | assumption) only [h1, h2, h3, h5, e6, Sx, reduceIte, Nat.reduceEqDiff, reduceCtorEq, Nat.reduceAdd, Nat.reduceSub, Nat.reduceLT, decide_true, decide_false, Bool.not_true, Bool.not_false, Int.toNat_one, Int.toNat_zero, Nat.zero_mul, l_g, endK]
    refine a_stA (two (two hB ho5) ho6) (putsum_len hl) ?_
    intro H8 hO8 ho8
    have hk8 : Keep H H8 := ho8.keep (keep (keep hK ho5) ho6) fun q hq => by cases hq; exact hk.none hr2
    simp -implicitDefEqProofs (maxSteps := 1000000) (disch := first | omega | assumption) only [Sx, reduceIte, Nat.reduceEqDiff, reduceCtorEq, Nat.reduceAdd, Nat.reduceSub, Nat.reduceLT, decide_true, decide_false, Bool.not_true, Bool.not_false, Int.toNat_one, Int.toNat_zero, Nat.zero_mul, l_g, endK]
    rw [g_arr hO8 (by simp -implicitDefEqProofs (maxSteps := 1000000) (disch := first | omega | assumption) only [h2, Sx, reduceIte, Nat.reduceEqDiff, reduceCtorEq, Nat.reduceAdd, Nat.reduceSub, Nat.reduceLT, decide_true, decide_false, Bool.not_true, Bool.not_false, Int.toNat_one, Int.toNat_zero, Nat.zero_mul, l_g, endK])]
    simp -implicitDefEqProofs (maxSteps := 1000000) (disch := first | omega | assumption) only [Sx, reduceIte, Nat.reduceEqDiff, reduceCtorEq, Nat.reduceAdd, Nat.reduceSub, Nat.reduceLT, decide_true, decide_false, Bool.not_true, Bool.not_false, Int.toNat_one, Int.toNat_zero, Nat.zero_mul, l_g, endK]
    exact ⟨by trivial, hk8⟩
theorem allV_by {l m : List Int} : ∀ (L : List Nat), (∀ i ∈ L, i < l.length ∧ i < m.length) → allV (L.map fun i => (i, Leaf.i)) (fun i => (by8 l).toArray[i]?) (fun i => (by8 m).toArray[i]?) = some (L.all fun i => l.getD i 0 == m.getD i 0)
  | [], _ => rfl
  | i :: L, h => by
    have h1 := h i List.mem_cons_self
    have h2 := allV_by L fun j hj => h j (List.mem_cons_of_mem _ hj)
    have e1 : (by8 l).toArray[i]? = some (.int .u8 (l.getD i 0)) := by simp [List.getElem?_eq_getElem h1.1]
    have e2 : (by8 m).toArray[i]? = some (.int .u8 (m.getD i 0)) := by simp [List.getElem?_eq_getElem h1.2]
    simp only [List.map_cons, allV, e1, e2, h2, leafV, List.all_cons, if_true]
theorem ev_eq512 {H : Heap} {l m : List Int} {n : Nat} (hl : l.length = n) (hm : m.length = n) : (QI.eqa (eqI n) false).ev [.agg (by8 l).toArray, .agg (by8 m).toArray] H = some (.bool (decide (l = m))) := by
  have h := allV_by (l := l) (m := m) (List.range n) fun i hi => by rw [List.mem_range] at hi; omega
  rw [ev_eqa_of (show allV (eqI n) _ _ = _ from h)]
  congr 2
  rw [Bool.bne_false]
  by_cases e : l = m
  · subst e
    rw [decide_eq_true rfl]
    exact List.all_eq_true.2 fun i _ => by simp
  · rw [decide_eq_false e]
    apply Bool.eq_false_iff.2
    intro h2
    refine e (List.ext_getElem (by omega) fun i h3 h4 => ?_)
    have := List.all_eq_true.1 h2 i (List.mem_range.2 (by omega))
    simpa [List.getElem?_eq_getElem h3, List.getElem?_eq_getElem h4] using this
theorem ev_bld {H : Heap} {n : Nat} : (QI.build (Array.replicate n (Value.int .u8 0)) []).ev [] H = some (.agg (by8 (List.replicate n 0)).toArray) := by
  rw [repN]; rfl
theorem zero_spec {H : Heap} {l : List Int} (hl : l.length = 512) :
    ACalls Tryd.prog 33 [Value.agg (by8 l).toArray].toArray H fun e H' => e = .returned (.bool (decide (l = List.replicate 512 0))) ∧ Keep H H' := by
  refine call33 (Nat.le_of_ble_eq_true rfl) ?_
  unfold L33 env0
  simp -implicitDefEqProofs (maxSteps := 1000000) (disch := first | omega | assumption) only [Sx, reduceIte, Nat.reduceEqDiff, reduceCtorEq, Nat.reduceAdd, Nat.reduceSub, Nat.reduceLT, decide_true, decide_false, Bool.not_true, Bool.not_false, Int.toNat_one, Int.toNat_zero, Nat.zero_mul, l_g, endK]
  refine a_boxb hl ?_
  intro r H1 hO hk hr
  have e2 := ev_ldn_arr hO
  have e3 := ev_eq512 (H := H1) (m := List.replicate 512 0) hl List.length_replicate
  have e4 := ev_bld (H := H1) (n := 512)
  simp -implicitDefEqProofs (maxSteps := 1000000) (disch := first | omega | assumption) only [e2, e3, e4, Sx, reduceIte, Nat.reduceEqDiff, reduceCtorEq, Nat.reduceAdd, Nat.reduceSub, Nat.reduceLT, decide_true, decide_false, Bool.not_true, Bool.not_false, Int.toNat_one, Int.toNat_zero, Nat.zero_mul, l_g, endK]
  exact ⟨by trivial, hk⟩
theorem rzero_spec {H : Heap} {l : List Int} (hl : l.length = 512) :
    ACalls Tryd.prog 34 [Value.agg (by8 l).toArray].toArray H fun e H' => e = .returned (.bool (decide (l = List.replicate 512 0))) ∧ Keep H H' := by
  refine call34 (Nat.le_of_ble_eq_true rfl) ?_
  unfold L34 env0
  simp -implicitDefEqProofs (maxSteps := 1000000) (disch := first | omega | assumption) only [Sx, reduceIte, Nat.reduceEqDiff, reduceCtorEq, Nat.reduceAdd, Nat.reduceSub, Nat.reduceLT, decide_true, decide_false, Bool.not_true, Bool.not_false, Int.toNat_one, Int.toNat_zero, Nat.zero_mul, l_g, endK]
  refine a_boxb hl ?_
  intro r H1 hO hk hr
  have e2 := ev_ldn_arr hO
  have e3 := ev_eq512 (H := H1) (m := List.replicate 512 0) hl List.length_replicate
  have e4 := ev_bld (H := H1) (n := 512)
  simp -implicitDefEqProofs (maxSteps := 1000000) (disch := first | omega | assumption) only [e2, e3, e4, Sx, reduceIte, Nat.reduceEqDiff, reduceCtorEq, Nat.reduceAdd, Nat.reduceSub, Nat.reduceLT, decide_true, decide_false, Bool.not_true, Bool.not_false, Int.toNat_one, Int.toNat_zero, Nat.zero_mul, l_g, endK]
  exact ⟨by trivial, hk⟩
end Go.Proofs.YtigignkgblaoaaaDoor.S12
