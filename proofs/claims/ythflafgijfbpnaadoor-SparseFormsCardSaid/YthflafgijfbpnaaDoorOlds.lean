/-
  SparseOlds: PutOld, ReadOld and ReadMore of both.
-/
import Derived.Test.YthflafgijfbpnaaDoorLowP
import Derived.Test.YthflafgijfbpnaaDoorOldsA
import Derived.Test.YthflafgijfbpnaaDoorPutT
import Derived.Test.YthflafgijfbpnaaDoorSepOpn
/-
  SparseOlds: PutOld, ReadOld and ReadMore of both.
-/
set_option linter.unusedVariables false
set_option linter.unusedSimpArgs false
namespace Go.Proofs.YthflafgijfbpnaaDoor.S15
open Go Go.RowKit Go.Proofs.YthflafgijfbpnaaDoor.Sep Go.Proofs.YthflafgijfbpnaaDoor.Low Go.Proofs.YthflafgijfbpnaaDoor.Lib Go.Proofs.YthflafgijfbpnaaDoor.S12

theorem more_len : ∀ (n : Nat) {l : List Rg}, l.length ≤ n → Goods l → (∀ x ∈ moreV l, x.length = 512) ∧ (moreV l).length ≤ l.length
  | 0, l, hn, hg => by
    rw [more_nil (by omega)]
    exact ⟨(fun x hx => by cases hx), by simp⟩
  | n + 1, l, hn, hg => by
    by_cases h : l.length = 0
    · rw [more_nil h]
      exact ⟨(fun x hx => by cases hx), by simp⟩
    · rw [more_cons h]
      obtain ⟨h1, h2⟩ := more_len n (l := l.drop 21) (by rw [List.length_drop]; omega) (hg.drop 21)
      rw [List.length_drop] at h2
      refine ⟨fun x hx => ?_, by rw [List.length_cons]; omega⟩
      rcases List.mem_cons.1 hx with rfl | hx
      · exact (more_back hg).1
      · exact h1 x hx
theorem po_len {r : List Int} {l : List Rg} {size : Int} (hl : r.length = 512) (hs : size ≤ 9223372036854775807) : (putOldV r l size).1.length = 512 := by
  unfold putOldV
  split
  · rename_i hv
    obtain ⟨v1, v2, -⟩ := valid_true hv
    have hg := goods_of hv hs
    have hF := fillR_len (k := 4) hl hg (a := 386) (l := l) (by omega)
    have hn := (num_ok ⟨v1, hs⟩).2
    show (ow _ 483 (num size)).length = 512
    rw [ow_len (by rw [hn, List.length_set]; omega), List.length_set]; exact hF
  · exact hl
theorem po_more {r : List Int} {l : List Rg} {size : Int} (hs : size ≤ 9223372036854775807) : (∀ x ∈ (putOldV r l size).2.1, x.length = 512) ∧ (putOldV r l size).2.1.length ≤ 65536 := by
  unfold putOldV
  split
  · rename_i hv
    obtain ⟨v1, v2, -⟩ := valid_true hv
    obtain ⟨h1, h2⟩ := more_len _ (Nat.le_refl (l.drop 4).length) ((goods_of hv hs).drop 4)
    rw [List.length_drop] at h2
    exact ⟨h1, by show (moreV (l.drop 4)).length ≤ _; omega⟩
  · exact ⟨(fun x hx => by cases hx), by simp⟩
theorem ms_take : ∀ {M : List (List Int)} {i : Nat}, (∀ x ∈ M, x.length = 512) → (hi : i < M.length) → ((ms M).drop (i * 512)).take 512 = by8 M[i]
  | x :: M, 0, h, hi => by
    have hx := h x (.head _)
    show ((by8 x ++ ms M).drop (0 * 512)).take 512 = by8 x
    rw [Nat.zero_mul, List.drop_zero, List.take_append_of_le_length (by rw [List.length_map]; omega), List.take_of_length_le (by rw [List.length_map]; omega)]
  | x :: M, i + 1, h, hi => by
    have hx := h x (.head _)
    have hi' : i < M.length := by simpa using hi
    have ih := ms_take (M := M) (i := i) (fun y hy => h y (.tail _ hy)) (by simpa using hi)
    show ((by8 x ++ ms M).drop ((i + 1) * 512)).take 512 = by8 (M[i]'hi')
    rw [← ih, List.drop_append, List.drop_of_length_le (by rw [List.length_map]; omega), List.nil_append, List.length_map, hx, show (i + 1) * 512 - 512 = i * 512 by omega]
theorem ms_at {H : Heap} {A : Option Addr} {M : List (List Int)} (h : Row H A (ms M)) (hM : ∀ x ∈ M, x.length = 512) {i : Nat} (hi : i < M.length) : ∃ b, A = some b ∧ H.loadN (b.add (i * 512)) 0 512 = some (by8 M[i]) := by
  have hl := ms_len hM
  have ht := ms_take hM hi
  have hb : (by8 M[i]).length = 512 := by rw [List.length_map]; exact hM _ (List.getElem_mem hi)
  have get : ∀ j, j < 512 → (ms M)[i * 512 + j]? = (by8 M[i])[j]? := fun j hj => by
    rw [← ht, List.getElem?_take, if_pos hj, List.getElem?_drop]
  obtain ⟨v, hv⟩ : ∃ v, (ms M)[i * 512 + 0]? = some v := by
    rw [get 0 (by omega)]
    exact ⟨_, List.getElem?_eq_getElem (by omega)⟩
  obtain ⟨b, rfl, -⟩ := h _ _ hv
  refine ⟨b, rfl, ?_⟩
  have := Heap.loadN_row (H := H) (a := b.add (i * 512)) (by8 M[i]) 0 fun j v hv => by
    have hj : j < 512 := by have := (List.getElem?_eq_some_iff.1 hv).1; omega
    rw [← get j hj] at hv
    obtain ⟨b', e, hc⟩ := h _ _ hv
    cases e
    rw [Nat.zero_add, add_add]
    exact hc
  rwa [hb] at this
theorem getF_len (r : List Int) (a : Nat) : ∀ (k i : Nat) (L : List Rg), (getF r a k i L).1.length ≤ L.length + k
  | 0, i, L => by simp [getF]
  | k + 1, i, L => by
    unfold getF
    split
    · simp
    split
    · simp
    split
    · simp
    split
    · simp
    · have := getF_len r a k (i + 1) (L ++ [⟨(nnV (win r (a + 24 * i) 12)).1, (nnV (win r (a + 24 * i) 12)).1 + (nnV (win r (a + 24 * i + 12) 12)).1⟩])
      simp only [List.length_append, List.length_cons, List.length_nil] at this
      omega
theorem ro_len (r : List Int) : (roV r).1.length ≤ 4 := by
  have := getF_len r 386 4 0 []
  unfold roV
  split
  · simp
  split
  · simp
  · simpa using this
theorem rm_len (r : List Int) : (rmV r).1.length ≤ 21 := by
  have := getF_len r 0 21 0 []
  unfold rmV
  split
  · simp
  · simpa using this
theorem put_at {size : Int} (hs : 0 ≤ size ∧ size ≤ 9223372036854775807) {j : Nat} (hj : j < 12) : (putOldV Z512 [] size).1[483 + j]? = (num size)[j]? := by
  have hv : validV [] size = true := by
    unfold validV
    rw [if_neg (by omega), if_neg (by simp)]
    rfl
  have hF := fillR_len (k := 4) z512_len (l := []) (fun x hx => by cases hx) (a := 386) (by omega)
  have hn := (num_ok hs).2
  unfold putOldV
  rw [if_pos hv]
  show (ow _ 483 (num size))[483 + j]? = _
  rw [ow_get (by rw [hn, List.length_set]; omega), if_neg (by omega), if_pos (by omega), show 483 + j - 483 = j by omega]
theorem one_493 : (putOldV Z512 [] 1).1.getD 493 0 = 49 := by
  have h := put_at (size := 1) (by omega) (j := 10) (by omega)
  have h2 : (num 1)[10]? = some 49 := by decide
  rw [h2] at h
  rw [List.getD_eq_getElem?_getD, h]
  rfl
theorem zero_494 : (putOldV Z512 [] 0).1.getD 494 0 = 0 := by
  have h := put_at (size := 0) (by omega) (j := 11) (by omega)
  have h2 : (num 0)[11]? = some 0 := by decide
  rw [h2] at h
  rw [List.getD_eq_getElem?_getD, h]
  rfl
theorem ev_eqI {H : Heap} {l m : List Int} {neg : Bool} (hl : l.length = 512) (hm : m.length = 512) : (QI.eqa (eqI 512) neg).ev [.agg (by8 l).toArray, .agg (by8 m).toArray] H = some (.bool (decide (l = m) != neg)) := ev_eqn hl hm
set_option maxHeartbeats 8000000 in
theorem sparseOlds_walk {H : Heap} {A B : Option Addr} {ca cb : Nat} {l : List Rg} {b : List Int} {size : Int} (hT : Tz H) (hA : Row H A (rgs l)) (hB : Row H B (by8 b)) (hca : l.length ≤ ca) (hcb : b.length ≤ cb) (hby : isBy b) (hl : l.length ≤ 8796093021952) (hbl : b.length ≤ 140737488351232) (hs : -9223372036854775808 ≤ size ∧ size ≤ 9223372036854775807) :
    ACalls Tryd.prog 4 [Value.slice B b.length cb, Value.slice A l.length ca, .int .i64 size].toArray H fun e H' => e = .returned (.bool true) ∧ Keep H H' := by
  refine call4 (Nat.le_of_ble_eq_true rfl) ?_
  unfold L4 env0
  obtain ⟨R, hR⟩ : ∃ R, R = putOldV (recV b) l size := ⟨_, rfl⟩
  have hR1 : R.1.length = 512 := by rw [hR]; exact po_len rec_len hs.2
  obtain ⟨hR2, hR3⟩ := po_more (r := recV b) (l := l) hs.2
  rw [← hR] at hR2 hR3
  obtain ⟨RO, hRO⟩ : ∃ RO, RO = roV (recV b) := ⟨_, rfl⟩
  obtain ⟨RM, hRM⟩ : ∃ RM, RM = rmV (recV b) := ⟨_, rfl⟩
  have hrb := rec_by hby
  simp -implicitDefEqProofs (maxSteps := 1000000) (disch := first | omega | assumption) only [Sx, reduceIte, Nat.reduceEqDiff, reduceCtorEq, Nat.reduceAdd, Nat.reduceSub, Nat.reduceLT, decide_true, decide_false, Bool.not_true, Bool.not_false, Int.toNat_one, Int.toNat_zero, Nat.zero_mul, l_g, endK, gd_u]
  refine a_lits (sz := 2) (cells := #[]) rfl rfl ?_
  intro r1 H1 hO1 hk1 hr1
  try simp -implicitDefEqProofs (maxSteps := 1000000) (disch := first | omega | assumption) only [Sx, reduceIte, Nat.reduceEqDiff, reduceCtorEq, Nat.reduceAdd, Nat.reduceSub, Nat.reduceLT, decide_true, decide_false, Bool.not_true, Bool.not_false, Int.toNat_one, Int.toNat_zero, Nat.zero_mul, l_g, endK, gd_u]
  refine a_app (len := 0) (m := l.length) (new := rgs l) hO1 rfl rfl ((hk1.row hA).cells (encs_len rg_len l)) (encs_len rg_len l) rfl (by omega) (encs_scalar rg_scalar l) (by omega) ?_
  intro vp H2 hOp ho2 hm2
  obtain ⟨k2, hFp⟩ := grown hk1 (H0 := H) (v := .slice (some ⟨r1, 0, none⟩) 0 0) (by rintro q ⟨⟩; exact hr1) ho2 hm2
  have hOp : Own H2 51 2 vp (rgs l) := hOp
  obtain ⟨ap, np, cp, rfl, hnp, hcp, hrp⟩ := hOp.view
  have hnp2 : np = l.length := by rw [encs_len rg_len] at hnp; omega
  subst hnp2
  try simp -implicitDefEqProofs (maxSteps := 1000000) (disch := first | omega | assumption) only [Sx, reduceIte, Nat.reduceEqDiff, reduceCtorEq, Nat.reduceAdd, Nat.reduceSub, Nat.reduceLT, decide_true, decide_false, Bool.not_true, Bool.not_false, Int.toNat_one, Int.toNat_zero, Nat.zero_mul, l_g, endK, gd_u]
  refine e_gen (fun env => env 0 = .slice B b.length cb ∧ env 1 = .slice A l.length ca ∧ env 2 = .int .i64 size ∧ env 7 = .slice ap l.length cp) ⟨by simp -implicitDefEqProofs (maxSteps := 1000000) (disch := first | omega | assumption) only [Sx, reduceIte, Nat.reduceEqDiff, reduceCtorEq, Nat.reduceAdd, Nat.reduceSub, Nat.reduceLT], by simp -implicitDefEqProofs (maxSteps := 1000000) (disch := first | omega | assumption) only [Sx, reduceIte, Nat.reduceEqDiff, reduceCtorEq, Nat.reduceAdd, Nat.reduceSub, Nat.reduceLT], by simp -implicitDefEqProofs (maxSteps := 1000000) (disch := first | omega | assumption) only [Sx, reduceIte, Nat.reduceEqDiff, reduceCtorEq, Nat.reduceAdd, Nat.reduceSub, Nat.reduceLT], by simp -implicitDefEqProofs (maxSteps := 1000000) (disch := first | omega | assumption) only [Sx, reduceIte, Nat.reduceEqDiff, reduceCtorEq, Nat.reduceAdd, Nat.reduceSub, Nat.reduceLT]⟩ ?_
  rintro env ⟨g0, g1, g2, g7⟩
  refine a_call (record_spec (k2.row hB) (by omega)) ?_
  rintro e H3 ⟨rfl, k3⟩
  have k3' := k2.trans k3
  simp -implicitDefEqProofs (maxSteps := 1000000) (disch := first | omega | assumption) only [g0, g1, g2, g7, Sx, reduceIte, Nat.reduceEqDiff, reduceCtorEq, Nat.reduceAdd, Nat.reduceSub, Nat.reduceLT, decide_true, decide_false, Bool.not_true, Bool.not_false, Int.toNat_one, Int.toNat_zero, Nat.zero_mul, l_g, endK, gd_u]
  refine a_call (pputOld_spec (c := cp) (hT.keep k3') rec_len (k3.row hrp) hcp hs) ?_
  rw [← hR]
  rintro e H4 ⟨vm, rfl, hOm, hFm, k4⟩
  have hsm := hOm.scalar
  have k4' := k3'.trans k4
  simp -implicitDefEqProofs (maxSteps := 1000000) (disch := first | omega | assumption) only [g0, g1, g2, g7, Sx, reduceIte, Nat.reduceEqDiff, reduceCtorEq, Nat.reduceAdd, Nat.reduceSub, Nat.reduceLT, decide_true, decide_false, Bool.not_true, Bool.not_false, Int.toNat_one, Int.toNat_zero, Nat.zero_mul, l_g, endK, gd_u]
  refine a_newr ?_
  intro r8 H5 hO8 k5 hr8
  simp -implicitDefEqProofs (maxSteps := 1000000) (disch := first | omega | assumption) only [g0, g1, g2, g7, Sx, reduceIte, Nat.reduceEqDiff, reduceCtorEq, Nat.reduceAdd, Nat.reduceSub, Nat.reduceLT, decide_true, decide_false, Bool.not_true, Bool.not_false, Int.toNat_one, Int.toNat_zero, Nat.zero_mul, l_g, endK, gd_u]
  have n8 : H r8 = none := (k4'.none hr8)
  refine a_str hO8 hR1 ?_
  intro H6 hO8 ho6
  have k6' : Keep H H6 := ho6.keep (k4'.trans k5) fun q hq => by cases hq; exact n8
  have hrp6 : Row H6 ap (rgs l) := by
    have : Keep H2 H6 := ho6.keep ((k3.trans k4).trans k5) fun q hq => by cases hq; exact (k3.trans k4).none hr8
    exact this.row hrp
  have hOm6 : Om H6 vm R.2.1 := (hOm.keep k5).only ho6 fun q hq e => by cases e; exact hOm.known hq hr8
  have hFm6 : Fresh H vm := fun q hq => k3'.none (hFm q hq)
  simp -implicitDefEqProofs (maxSteps := 1000000) (disch := first | omega | assumption) only [g0, g1, g2, g7, Sx, reduceIte, Nat.reduceEqDiff, reduceCtorEq, Nat.reduceAdd, Nat.reduceSub, Nat.reduceLT, decide_true, decide_false, Bool.not_true, Bool.not_false, Int.toNat_one, Int.toNat_zero, Nat.zero_mul, l_g, endK, gd_u]
  refine e_gen (fun env => env 0 = .slice B b.length cb ∧ env 1 = .slice A l.length ca ∧ env 2 = .int .i64 size ∧ env 7 = .slice ap l.length cp ∧ env 8 = .pointer (some ⟨r8, 0, none⟩) ∧ env 9 = vm ∧ env 10 = .int .i64 R.2.2) ⟨by simp -implicitDefEqProofs (maxSteps := 1000000) (disch := first | omega | assumption) only [g0, g1, g2, g7, Sx, reduceIte, Nat.reduceEqDiff, reduceCtorEq, Nat.reduceAdd, Nat.reduceSub, Nat.reduceLT], by simp -implicitDefEqProofs (maxSteps := 1000000) (disch := first | omega | assumption) only [g0, g1, g2, g7, Sx, reduceIte, Nat.reduceEqDiff, reduceCtorEq, Nat.reduceAdd, Nat.reduceSub, Nat.reduceLT], by simp -implicitDefEqProofs (maxSteps := 1000000) (disch := first | omega | assumption) only [g0, g1, g2, g7, Sx, reduceIte, Nat.reduceEqDiff, reduceCtorEq, Nat.reduceAdd, Nat.reduceSub, Nat.reduceLT], by simp -implicitDefEqProofs (maxSteps := 1000000) (disch := first | omega | assumption) only [g0, g1, g2, g7, Sx, reduceIte, Nat.reduceEqDiff, reduceCtorEq, Nat.reduceAdd, Nat.reduceSub, Nat.reduceLT], by simp -implicitDefEqProofs (maxSteps := 1000000) (disch := first | omega | assumption) only [g0, g1, g2, g7, Sx, reduceIte, Nat.reduceEqDiff, reduceCtorEq, Nat.reduceAdd, Nat.reduceSub, Nat.reduceLT], by simp -implicitDefEqProofs (maxSteps := 1000000) (disch := first | omega | assumption) only [g0, g1, g2, g7, Sx, reduceIte, Nat.reduceEqDiff, reduceCtorEq, Nat.reduceAdd, Nat.reduceSub, Nat.reduceLT], by simp -implicitDefEqProofs (maxSteps := 1000000) (disch := first | omega | assumption) only [g0, g1, g2, g7, Sx, reduceIte, Nat.reduceEqDiff, reduceCtorEq, Nat.reduceAdd, Nat.reduceSub, Nat.reduceLT]⟩ ?_
  clear g0 g1 g2 g7
  rintro env ⟨g0, g1, g2, g7, g8, g9, g10⟩
  refine a_call (record_spec (k6'.row hB) (by omega)) ?_
  rintro e H7 ⟨rfl, k7⟩
  simp -implicitDefEqProofs (maxSteps := 1000000) (disch := first | omega | assumption) only [g0, g1, g2, g7, g8, g9, g10, Sx, reduceIte, Nat.reduceEqDiff, reduceCtorEq, Nat.reduceAdd, Nat.reduceSub, Nat.reduceLT, decide_true, decide_false, Bool.not_true, Bool.not_false, Int.toNat_one, Int.toNat_zero, Nat.zero_mul, l_g, endK, gd_u]
  have k7' := k6'.trans k7
  refine a_call (rputOld_spec (c := ca) rec_len (k7'.row hA) hca hs) ?_
  rw [← hR]
  rintro e H8 ⟨vn, rfl, hOn, hFn, k8⟩
  have hsn := hOn.scalar
  have k8' := k7'.trans k8
  simp -implicitDefEqProofs (maxSteps := 1000000) (disch := first | omega | assumption) only [g0, g1, g2, g7, g8, g9, g10, Sx, reduceIte, Nat.reduceEqDiff, reduceCtorEq, Nat.reduceAdd, Nat.reduceSub, Nat.reduceLT, decide_true, decide_false, Bool.not_true, Bool.not_false, Int.toNat_one, Int.toNat_zero, Nat.zero_mul, l_g, endK, gd_u]
  refine a_newr ?_
  intro r11 H9 hO11 k9 hr11
  simp -implicitDefEqProofs (maxSteps := 1000000) (disch := first | omega | assumption) only [g0, g1, g2, g7, g8, g9, g10, Sx, reduceIte, Nat.reduceEqDiff, reduceCtorEq, Nat.reduceAdd, Nat.reduceSub, Nat.reduceLT, decide_true, decide_false, Bool.not_true, Bool.not_false, Int.toNat_one, Int.toNat_zero, Nat.zero_mul, l_g, endK, gd_u]
  refine a_str hO11 hR1 ?_
  intro H10 hO11 ho10
  have k610 : Keep H6 H10 := ho10.keep ((k7.trans k8).trans k9) fun q hq => by cases hq; exact (k7.trans k8).none hr11
  have k10' := k6'.trans k610
  have hO8 := hO8.keep k610
  have hOm10 := hOm6.keep k610
  have hrp10 := k610.row hrp6
  have hOn10 : Om H10 vn R.2.1 := (hOn.keep k9).only ho10 fun q hq e => by cases e; exact hOn.known hq hr11
  obtain ⟨ma, mn, mc, rfl, hml, hmc, hmr⟩ := hOm10.view
  obtain ⟨na, nn_, nc, rfl, hnl, hnc, hnr⟩ := hOn10.view
  rw [ms_len hR2] at hml hnl
  have hmn : mn = R.2.1.length := by omega
  have hnn : nn_ = R.2.1.length := by omega
  subst hmn hnn
  have e8 := ev_ldnr hO8
  have e11 := ev_ldnr hO11
  have eq := ev_eqI (H := H10) (neg := true) hR1 hR1
  have dR : (decide (R.1 = R.1) != true) = false := by simp
  rw [dR] at eq
  have nE : (R.2.2 != R.2.2) = false := by simp
  have nL : ((R.2.1.length : Int) != (R.2.1.length : Int)) = false := by simp
  have dl : decide (l = l) = true := by simp
  simp -implicitDefEqProofs (maxSteps := 1000000) (disch := first | omega | assumption) only [g0, g1, g2, g7, g8, g9, g10, e8, e11, eq, nE, nL, Sx, reduceIte, Nat.reduceEqDiff, reduceCtorEq, Nat.reduceAdd, Nat.reduceSub, Nat.reduceLT, decide_true, decide_false, Bool.not_true, Bool.not_false, Int.toNat_one, Int.toNat_zero, Nat.zero_mul, l_g, endK, gd_u]
  refine a_call (ranges_spec hrp10 (k10'.row hA) rfl rfl (by omega)) ?_
  rintro e H11 ⟨rfl, hH⟩
  rw [dl, hH]
  clear hH H11
  simp -implicitDefEqProofs (maxSteps := 1000000) (disch := first | omega | assumption) only [g0, g1, g2, g7, g8, g9, g10, Sx, reduceIte, Nat.reduceEqDiff, reduceCtorEq, Nat.reduceAdd, Nat.reduceSub, Nat.reduceLT, decide_true, decide_false, Bool.not_true, Bool.not_false, Int.toNat_one, Int.toNat_zero, Nat.zero_mul, l_g, endK, gd_u]
  refine c_loop (fun k env H' => H' = H10 ∧ ∃ i, k + i = R.2.1.length ∧ env 0 = .slice B b.length cb ∧ env 9 = .slice ma R.2.1.length mc ∧ env 12 = .slice na R.2.1.length nc ∧ env 14 = .int .i64 (i : Nat)) R.2.1.length
    ⟨rfl, 0, by omega, by simp -implicitDefEqProofs (maxSteps := 1000000) (disch := first | omega | assumption) only [g0, Sx, reduceIte, Nat.reduceEqDiff, reduceCtorEq, Nat.reduceAdd, Nat.reduceSub, Nat.reduceLT, decide_true, decide_false, Bool.not_true, Bool.not_false, Int.toNat_one, Int.toNat_zero, Nat.zero_mul, l_g, endK, gd_u], by simp -implicitDefEqProofs (maxSteps := 1000000) (disch := first | omega | assumption) only [g9, Sx, reduceIte, Nat.reduceEqDiff, reduceCtorEq, Nat.reduceAdd, Nat.reduceSub, Nat.reduceLT, decide_true, decide_false, Bool.not_true, Bool.not_false, Int.toNat_one, Int.toNat_zero, Nat.zero_mul, l_g, endK, gd_u], by simp -implicitDefEqProofs (maxSteps := 1000000) (disch := first | omega | assumption) only [Sx, reduceIte, Nat.reduceEqDiff, reduceCtorEq, Nat.reduceAdd, Nat.reduceSub, Nat.reduceLT, decide_true, decide_false, Bool.not_true, Bool.not_false, Int.toNat_one, Int.toNat_zero, Nat.zero_mul, l_g, endK, gd_u], by simp -implicitDefEqProofs (maxSteps := 1000000) (disch := first | omega | assumption) only [Sx, reduceIte, Nat.reduceEqDiff, reduceCtorEq, Nat.reduceAdd, Nat.reduceSub, Nat.reduceLT, decide_true, decide_false, Bool.not_true, Bool.not_false, Int.toNat_one, Int.toNat_zero, Nat.zero_mul, l_g, endK, gd_u]; rfl⟩ ?_
  clear g0 g1 g2 g7 g8 g9 g10
  rintro k env H11 ⟨rfl, i, hk, g0, g9, g12, g14⟩
  unfold L4_0
  by_cases hi : i < R.2.1.length
  · have f0 : decide ((i : Int) < (R.2.1.length : Int)) = true := decide_eq_true (by omega)
    obtain ⟨b1, rfl, l1⟩ := ms_at hmr hR2 hi
    obtain ⟨b2, rfl, l2⟩ := ms_at hnr hR2 hi
    have hin : (0 : Int) ≤ (i : Int) ∧ (i : Int) < (R.2.1.length : Nat) := by omega
    have hx : (R.2.1[i]).length = 512 := hR2 _ (List.getElem_mem hi)
    have eqi := ev_eqI (H := H11) (neg := true) hx hx
    have dI : (decide (R.2.1[i] = R.2.1[i]) != true) = false := by simp
    rw [dI] at eqi
    simp -implicitDefEqProofs (maxSteps := 1000000) (disch := first | omega | assumption) only [g0, g9, g12, g14, f0, ev_ldn, l1, l2, eqi, Sx, reduceIte, Nat.reduceEqDiff, reduceCtorEq, Nat.reduceAdd, Nat.reduceSub, Nat.reduceLT, decide_true, decide_false, Bool.not_true, Bool.not_false, Int.toNat_one, Int.toNat_zero, Nat.zero_mul, l_g, endK, gd_u]
    exact ⟨k - 1, by omega, by (first | exact True.intro | rfl | assumption), i + 1, by omega, by (first | exact True.intro | rfl | assumption), by (first | exact True.intro | rfl | assumption), by (first | exact True.intro | rfl | assumption), by (first | exact True.intro | rfl | assumption)⟩
  have f0 : decide ((i : Int) < (R.2.1.length : Int)) = false := decide_eq_false (by omega)
  simp -implicitDefEqProofs (maxSteps := 1000000) (disch := first | omega | assumption) only [g0, g9, g12, g14, f0, Sx, reduceIte, Nat.reduceEqDiff, reduceCtorEq, Nat.reduceAdd, Nat.reduceSub, Nat.reduceLT, decide_true, decide_false, Bool.not_true, Bool.not_false, Int.toNat_one, Int.toNat_zero, Nat.zero_mul, l_g, endK, gd_u]
  refine a_call (record_spec (k10'.row hB) (by omega)) ?_
  rintro e H12 ⟨rfl, k12⟩
  have k12' := k10'.trans k12
  simp -implicitDefEqProofs (maxSteps := 1000000) (disch := first | omega | assumption) only [g0, Sx, reduceIte, Nat.reduceEqDiff, reduceCtorEq, Nat.reduceAdd, Nat.reduceSub, Nat.reduceLT, decide_true, decide_false, Bool.not_true, Bool.not_false, Int.toNat_one, Int.toNat_zero, Nat.zero_mul, l_g, endK, gd_u]
  refine a_call (readOld_spec rec_len hrb) ?_
  rw [← hRO]
  rintro e H13 ⟨vr, rfl, hOr, hFr, k13⟩
  have hsr := hOr.scalar
  have k13' := k12'.trans k13
  simp -implicitDefEqProofs (maxSteps := 1000000) (disch := first | omega | assumption) only [g0, Sx, reduceIte, Nat.reduceEqDiff, reduceCtorEq, Nat.reduceAdd, Nat.reduceSub, Nat.reduceLT, decide_true, decide_false, Bool.not_true, Bool.not_false, Int.toNat_one, Int.toNat_zero, Nat.zero_mul, l_g, endK, gd_u]
  refine e_gen (fun env => env 0 = .slice B b.length cb ∧ env 15 = vr ∧ env 16 = .int .i64 RO.2.1 ∧ env 17 = .bool RO.2.2.1 ∧ env 18 = .int .i64 RO.2.2.2) ⟨by simp -implicitDefEqProofs (maxSteps := 1000000) (disch := first | omega | assumption) only [g0, Sx, reduceIte, Nat.reduceEqDiff, reduceCtorEq, Nat.reduceAdd, Nat.reduceSub, Nat.reduceLT], by simp -implicitDefEqProofs (maxSteps := 1000000) (disch := first | omega | assumption) only [g0, Sx, reduceIte, Nat.reduceEqDiff, reduceCtorEq, Nat.reduceAdd, Nat.reduceSub, Nat.reduceLT], by simp -implicitDefEqProofs (maxSteps := 1000000) (disch := first | omega | assumption) only [g0, Sx, reduceIte, Nat.reduceEqDiff, reduceCtorEq, Nat.reduceAdd, Nat.reduceSub, Nat.reduceLT], by simp -implicitDefEqProofs (maxSteps := 1000000) (disch := first | omega | assumption) only [g0, Sx, reduceIte, Nat.reduceEqDiff, reduceCtorEq, Nat.reduceAdd, Nat.reduceSub, Nat.reduceLT], by simp -implicitDefEqProofs (maxSteps := 1000000) (disch := first | omega | assumption) only [g0, Sx, reduceIte, Nat.reduceEqDiff, reduceCtorEq, Nat.reduceAdd, Nat.reduceSub, Nat.reduceLT]⟩ ?_
  clear g0
  rintro env ⟨g0, g15, g16, g17, g18⟩
  refine a_call (record_spec (k13'.row hB) (by omega)) ?_
  rintro e H14 ⟨rfl, k14⟩
  have k14' := k13'.trans k14
  simp -implicitDefEqProofs (maxSteps := 1000000) (disch := first | omega | assumption) only [g0, g15, g16, g17, g18, Sx, reduceIte, Nat.reduceEqDiff, reduceCtorEq, Nat.reduceAdd, Nat.reduceSub, Nat.reduceLT, decide_true, decide_false, Bool.not_true, Bool.not_false, Int.toNat_one, Int.toNat_zero, Nat.zero_mul, l_g, endK, gd_u]
  refine a_call (rreadOld_spec rec_len hrb) ?_
  rw [← hRO]
  rintro e H15 ⟨vu, rfl, hOu, hFu, k15⟩
  have hsu := hOu.scalar
  have k15' := k14'.trans k15
  have hOr := hOr.keep (k14.trans k15)
  obtain ⟨ra, rn, rc, rfl, hrl, hrc, hrr⟩ := hOr.view
  obtain ⟨ua, un, uc, rfl, hul, huc, hur⟩ := hOu.view
  rw [encs_len rg_len] at hrl hul
  have hrn : rn = RO.1.length := by omega
  have hun : un = RO.1.length := by omega
  subst hrn hun
  have nS : (RO.2.1 != RO.2.1) = false := by simp
  have nB : (RO.2.2.1 != RO.2.2.1) = false := by simp
  have nH : (RO.2.2.2 != RO.2.2.2) = false := by simp
  have nB2 : ((RO.2.2.1 == RO.2.2.1) != true) = false := by simp
  have dr : decide (RO.1 = RO.1) = true := by simp
  have hrob : RO.1.length ≤ 1125899906842624 := by
    rw [hRO]; exact Nat.le_trans (ro_len _) (by omega)
  simp -implicitDefEqProofs (maxSteps := 1000000) (disch := first | omega | assumption) only [g0, g15, g16, g17, g18, Sx, reduceIte, Nat.reduceEqDiff, reduceCtorEq, Nat.reduceAdd, Nat.reduceSub, Nat.reduceLT, decide_true, decide_false, Bool.not_true, Bool.not_false, Int.toNat_one, Int.toNat_zero, Nat.zero_mul, l_g, endK, gd_u]
  refine a_call (ranges_spec hrr hur rfl rfl hrob) ?_
  rintro e H16 ⟨rfl, rfl⟩
  rw [dr]
  simp -implicitDefEqProofs (maxSteps := 1000000) (disch := first | omega | assumption) only [g0, g15, g16, g17, g18, nS, nB, nH, nB2, Sx, reduceIte, Nat.reduceEqDiff, reduceCtorEq, Nat.reduceAdd, Nat.reduceSub, Nat.reduceLT, decide_true, decide_false, Bool.not_true, Bool.not_false, Int.toNat_one, Int.toNat_zero, Nat.zero_mul, l_g, endK, gd_u]
  refine a_call (record_spec (k15'.row hB) (by omega)) ?_
  rintro e H17 ⟨rfl, k17⟩
  have k17' := k15'.trans k17
  simp -implicitDefEqProofs (maxSteps := 1000000) (disch := first | omega | assumption) only [g0, Sx, reduceIte, Nat.reduceEqDiff, reduceCtorEq, Nat.reduceAdd, Nat.reduceSub, Nat.reduceLT, decide_true, decide_false, Bool.not_true, Bool.not_false, Int.toNat_one, Int.toNat_zero, Nat.zero_mul, l_g, endK, gd_u]
  refine a_call (readMore_spec rec_len hrb) ?_
  rw [← hRM]
  rintro e H18 ⟨vr, rfl, hOr, hFr, k18⟩
  have hsr := hOr.scalar
  have k18' := k17'.trans k18
  simp -implicitDefEqProofs (maxSteps := 1000000) (disch := first | omega | assumption) only [g0, Sx, reduceIte, Nat.reduceEqDiff, reduceCtorEq, Nat.reduceAdd, Nat.reduceSub, Nat.reduceLT, decide_true, decide_false, Bool.not_true, Bool.not_false, Int.toNat_one, Int.toNat_zero, Nat.zero_mul, l_g, endK, gd_u]
  refine e_gen (fun env => env 0 = .slice B b.length cb ∧ env 15 = vr ∧ env 17 = .bool RM.2.1 ∧ env 18 = .int .i64 RM.2.2) ⟨by simp -implicitDefEqProofs (maxSteps := 1000000) (disch := first | omega | assumption) only [g0, Sx, reduceIte, Nat.reduceEqDiff, reduceCtorEq, Nat.reduceAdd, Nat.reduceSub, Nat.reduceLT], by simp -implicitDefEqProofs (maxSteps := 1000000) (disch := first | omega | assumption) only [g0, Sx, reduceIte, Nat.reduceEqDiff, reduceCtorEq, Nat.reduceAdd, Nat.reduceSub, Nat.reduceLT], by simp -implicitDefEqProofs (maxSteps := 1000000) (disch := first | omega | assumption) only [g0, Sx, reduceIte, Nat.reduceEqDiff, reduceCtorEq, Nat.reduceAdd, Nat.reduceSub, Nat.reduceLT], by simp -implicitDefEqProofs (maxSteps := 1000000) (disch := first | omega | assumption) only [g0, Sx, reduceIte, Nat.reduceEqDiff, reduceCtorEq, Nat.reduceAdd, Nat.reduceSub, Nat.reduceLT]⟩ ?_
  clear g0
  rintro env ⟨g0, g15, g17, g18⟩
  refine a_call (record_spec (k18'.row hB) (by omega)) ?_
  rintro e H19 ⟨rfl, k19⟩
  have k19' := k18'.trans k19
  simp -implicitDefEqProofs (maxSteps := 1000000) (disch := first | omega | assumption) only [g0, g15, g17, g18, Sx, reduceIte, Nat.reduceEqDiff, reduceCtorEq, Nat.reduceAdd, Nat.reduceSub, Nat.reduceLT, decide_true, decide_false, Bool.not_true, Bool.not_false, Int.toNat_one, Int.toNat_zero, Nat.zero_mul, l_g, endK, gd_u]
  refine a_call (rreadMore_spec rec_len hrb) ?_
  rw [← hRM]
  rintro e H20 ⟨vu, rfl, hOu, hFu, k20⟩
  have hsu := hOu.scalar
  have k20' := k19'.trans k20
  have hOr := hOr.keep (k19.trans k20)
  obtain ⟨ra, rn, rc, rfl, hrl, hrc, hrr⟩ := hOr.view
  obtain ⟨ua, un, uc, rfl, hul, huc, hur⟩ := hOu.view
  rw [encs_len rg_len] at hrl hul
  have hrn : rn = RM.1.length := by omega
  have hun : un = RM.1.length := by omega
  subst hrn hun
  have nB : (RM.2.1 != RM.2.1) = false := by simp
  have nB2 : ((RM.2.1 == RM.2.1) != true) = false := by simp
  have nH : (RM.2.2 != RM.2.2) = false := by simp
  have dr : decide (RM.1 = RM.1) = true := by simp
  have hrob : RM.1.length ≤ 1125899906842624 := by
    rw [hRM]; exact Nat.le_trans (rm_len _) (by omega)
  simp -implicitDefEqProofs (maxSteps := 1000000) (disch := first | omega | assumption) only [g0, g15, g17, g18, Sx, reduceIte, Nat.reduceEqDiff, reduceCtorEq, Nat.reduceAdd, Nat.reduceSub, Nat.reduceLT, decide_true, decide_false, Bool.not_true, Bool.not_false, Int.toNat_one, Int.toNat_zero, Nat.zero_mul, l_g, endK, gd_u]
  refine a_call (ranges_spec hrr hur rfl rfl hrob) ?_
  rintro e H21 ⟨rfl, rfl⟩
  rw [dr]
  have ez := ev_bz (H := H21)
  simp -implicitDefEqProofs (maxSteps := 1000000) (disch := first | omega | assumption) only [g0, g15, g17, g18, nB, nB2, nH, ez, Sx, reduceIte, Nat.reduceEqDiff, reduceCtorEq, Nat.reduceAdd, Nat.reduceSub, Nat.reduceLT, decide_true, decide_false, Bool.not_true, Bool.not_false, Int.toNat_one, Int.toNat_zero, Nat.zero_mul, l_g, endK, gd_u]
  refine a_call (pputOld_spec (r := Z512) (A := none) (c := 0) (l := []) (size := 1) (hT.keep k20') z512_len (fun i v hv => by simp at hv) (Nat.le_refl _) (by omega)) ?_
  rintro e H22 ⟨v1, rfl, hO1, hF1, k22⟩
  have hs1 := hO1.scalar
  have hP : putOldV Z512 [] 1 = (ow (((fillR Z512 386 [] 4)).set 482 0) 483 (num 1), [], 0) := by
    unfold putOldV
    rw [if_pos (by rfl)]
    have : moreV (List.drop 4 []) = [] := more_nil rfl
    rw [this]
    rfl
  have hX1 : (putOldV Z512 [] 1).1.length = 512 := po_len z512_len (by omega)
  have h493 : (putOldV Z512 [] 1).1.getD 493 0 = 49 := one_493
  have hE0 : (putOldV Z512 [] 1).2.2 = 0 := by rw [hP]
  obtain ⟨W, hW⟩ : ∃ W, W = putOldV Z512 [] 1 := ⟨_, rfl⟩
  rw [← hW] at hX1 h493 hE0 ⊢
  simp -implicitDefEqProofs (maxSteps := 1000000) (disch := first | omega | assumption) only [Sx, reduceIte, Nat.reduceEqDiff, reduceCtorEq, Nat.reduceAdd, Nat.reduceSub, Nat.reduceLT, decide_true, decide_false, Bool.not_true, Bool.not_false, Int.toNat_one, Int.toNat_zero, Nat.zero_mul, l_g, endK, gd_u]
  refine a_newr ?_
  intro r23 H23 hO23 k23 hr23
  simp -implicitDefEqProofs (maxSteps := 1000000) (disch := first | omega | assumption) only [Sx, reduceIte, Nat.reduceEqDiff, reduceCtorEq, Nat.reduceAdd, Nat.reduceSub, Nat.reduceLT, decide_true, decide_false, Bool.not_true, Bool.not_false, Int.toNat_one, Int.toNat_zero, Nat.zero_mul, l_g, endK, gd_u]
  refine a_str hO23 hX1 ?_
  intro H24 hO24 ho24
  have c493 := cell_at hO24 (i := 493) (by omega)
  rw [h493] at c493
  have t493 : (493 : Int).toNat = 493 := rfl
  have q0 : ((0 : Int) == 0) = true := rfl
  have q49 : ((49 : Int) == 49) = true := rfl
  simp -implicitDefEqProofs (maxSteps := 1000000) (disch := first | omega | assumption) only [hE0, c493, t493, q0, q49, Sx, reduceIte, Nat.reduceEqDiff, reduceCtorEq, Nat.reduceAdd, Nat.reduceSub, Nat.reduceLT, decide_true, decide_false, Bool.not_true, Bool.not_false, Int.toNat_one, Int.toNat_zero, Nat.zero_mul, l_g, endK, gd_u]
  exact ⟨by (first | exact True.intro | rfl | assumption), ho24.keep ((k20'.trans k22).trans k23) fun q hq => by cases hq; exact (k20'.trans k22).none hr23⟩
theorem sparseOlds_row {H : Heap} (hT : Tz H) (B : Option Addr) (cb : Nat) (b : List Int) (cl' : List (List Value)) (he' : Els (Ty.int .u8) H B b cl') (hcb : b.length ≤ cb) (wb : (∀ y ∈ b, (Lit.int .u8 y).wf = true) ∧ b.length ≤ maxLen) (hb : b.length * 1 ≤ 140737488351232)
    (A : Option Addr) (ca : Nat) (l : List Rg) (cl : List (List Value)) (he : Els rgTy H A l cl) (hca : l.length ≤ ca) (wl : (∀ y ∈ l, True) ∧ l.length ≤ maxLen) (hl : l.length * 16 ≤ 140737488351232) (size : Int) (ws : (Lit.int .i64 size).wf = true) :
    ACalls Tryd.prog 4 [Value.slice B b.length cb, Value.slice A l.length ca, .int .i64 size].toArray H fun e H' => e = .returned (.bool true) ∧ Keep H H' :=
  sparseOlds_walk hT (Els.flat he) he'.ints hca hcb (fun y hy => wf_u8 (wb.1 y hy)) (by omega) (by omega) (wf_i64 ws)
end Go.Proofs.YthflafgijfbpnaaDoor.S15
