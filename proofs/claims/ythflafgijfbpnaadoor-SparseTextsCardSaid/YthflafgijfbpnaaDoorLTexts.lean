/-
  SparseTexts: Put and Read of both.
-/
import Derived.Test.YthflafgijfbpnaaDoorLowU
import Derived.Test.YthflafgijfbpnaaDoorLent
import Derived.Test.YthflafgijfbpnaaDoorSame
import Derived.Test.YthflafgijfbpnaaDoorRReadT
import Derived.Test.YthflafgijfbpnaaDoorWritten
import Derived.Test.YthflafgijfbpnaaDoorSepOpn
set_option linter.unusedVariables false
set_option linter.unusedSimpArgs false
namespace Go.Proofs.YthflafgijfbpnaaDoor.S15
open Go Go.RowKit Go.Proofs.YthflafgijfbpnaaDoor.Sep Go.Proofs.YthflafgijfbpnaaDoor.Low Go.Proofs.YthflafgijfbpnaaDoor.Lib

theorem rdR_len (b : List Int) : ∀ (k p : Nat) (en : Int) (L : List Rg), (rdR b k p en L).1.length ≤ L.length + k
  | 0, p, en, L => by simp [rdR]
  | k + 1, p, en, L => by
    unfold rdR
    split
    · simp
    · split
      · simp
      · split
        · simp
        · have := rdR_len b k (p + (numAt b p).2.1 + (numAt b (p + (numAt b p).2.1)).2.1) ((numAt b p).1 + (numAt b (p + (numAt b p).2.1)).1) (L ++ [⟨(numAt b p).1, (numAt b p).1 + (numAt b (p + (numAt b p).2.1)).1⟩])
          simp only [List.length_append, List.length_cons, List.length_nil] at this
          omega
theorem finish_len (b : List Int) (x : List Rg × Nat × Int) : (finish b x).1.length ≤ x.1.length := by
  unfold finish
  split
  · simp
  · split
    · simp
    · simp
theorem readV_len (b : List Int) : (readV b).1.length ≤ 65536 := by
  unfold readV
  refine Nat.le_trans (finish_len _ _) ?_
  split
  · simp
  · split
    · simp
    · rename_i h1 h2
      have := rdR_len b (numAt b 0).1.toNat (numAt b 0).2.1 0 []
      simp only [List.length_nil] at this
      omega
theorem txtV_len {l : List Rg} (hv : validV l 9223372036854775807 = true) : (txtV l).length ≤ 3000000 := by
  obtain ⟨-, hl, -⟩ := valid_true hv
  have h := txtL_len hl (chain_mem (Int.le_refl _) (valid_true hv).2.2) l.length (Nat.le_refl _)
  have := padN_lt (txtL l l.length).length
  unfold txtV
  rw [List.length_append, List.length_replicate]
  omega
theorem txtV_nil : (txtV []).length = 512 := by
  have : txtL [] ([] : List Rg).length = [48, 10] := by
    unfold txtL
    rw [show ((([] : List Rg).length : Nat) : Int) = 0 from rfl, decI_small (by omega) (by omega)]
    rfl
  unfold txtV
  rw [this, List.length_append, List.length_replicate]
  rfl
set_option maxHeartbeats 8000000 in
theorem sparseTexts_walk {H : Heap} {A B : Option Addr} {ca cb : Nat} {l : List Rg} {b : List Int} (hT : Tab H) (hA : Row H A (rgs l)) (hB : Row H B (by8 b)) (hca : l.length ≤ ca) (hcb : b.length ≤ cb) (hby : isBy b) (hl : l.length ≤ 8796093021952) (hbl : b.length ≤ 140737488351232) :
    ACalls Tryd.prog 3 [Value.slice A l.length ca, Value.slice B b.length cb].toArray H fun e H' => e = .returned (.bool true) ∧ Keep H H' := by
  refine call3 (Nat.le_of_ble_eq_true rfl) ?_
  unfold L3 env0
  simp -implicitDefEqProofs (maxSteps := 1000000) (disch := first | omega | assumption) only [Sx, reduceIte, Nat.reduceEqDiff, reduceCtorEq, Nat.reduceAdd, Nat.reduceSub, Nat.reduceLT, decide_true, decide_false, Bool.not_true, Bool.not_false, Int.toNat_one, Int.toNat_zero, Nat.zero_mul, l_g, endK, gd_u]
  refine a_lits (sz := 2) (cells := #[]) rfl rfl ?_
  intro r1 H1 hO1 hk1 hr1
  try simp -implicitDefEqProofs (maxSteps := 1000000) (disch := first | omega | assumption) only [Sx, reduceIte, Nat.reduceEqDiff, reduceCtorEq, Nat.reduceAdd, Nat.reduceSub, Nat.reduceLT, decide_true, decide_false, Bool.not_true, Bool.not_false, Int.toNat_one, Int.toNat_zero, Nat.zero_mul, l_g, endK, gd_u]
  refine a_app (len := 0) (m := l.length) (new := rgs l) hO1 rfl rfl ((hk1.row hA).cells (encs_len rg_len l)) (encs_len rg_len l) rfl (by omega) (encs_scalar rg_scalar l) (by omega) ?_
  intro vp H2 hOp ho2 hm2
  obtain ⟨k2, hFp⟩ := grown hk1 (H0 := H) (v := .slice (some ⟨r1, 0, none⟩) 0 0) (by rintro q ⟨⟩; exact hr1) ho2 hm2
  have hOp : Own H2 51 2 vp (rgs l) := hOp
  obtain ⟨ap, np, cp, rfl, hnp, hcp, hrp⟩ := hOp.view
  have hnp2 : np = l.length := by rw [encs_len rg_len] at hnp; omega
  subst hnp2
  try simp -implicitDefEqProofs (maxSteps := 1000000) (disch := first | omega | assumption) only [Sx, reduceIte, Nat.reduceEqDiff, reduceCtorEq, Nat.reduceAdd, Nat.reduceSub, Nat.reduceLT, decide_true, decide_false, Bool.not_true, Bool.not_false, Int.toNat_one, Int.toNat_zero, Nat.zero_mul, l_g, endK, gd_u]
  refine e_gen (fun env => env 0 = .slice A l.length ca ∧ env 1 = .slice B b.length cb ∧ env 5 = .slice ap l.length cp) ⟨by simp -implicitDefEqProofs (maxSteps := 1000000) (disch := first | omega | assumption) only [Sx, reduceIte, Nat.reduceEqDiff, reduceCtorEq, Nat.reduceAdd, Nat.reduceSub, Nat.reduceLT], by simp -implicitDefEqProofs (maxSteps := 1000000) (disch := first | omega | assumption) only [Sx, reduceIte, Nat.reduceEqDiff, reduceCtorEq, Nat.reduceAdd, Nat.reduceSub, Nat.reduceLT], by simp -implicitDefEqProofs (maxSteps := 1000000) (disch := first | omega | assumption) only [Sx, reduceIte, Nat.reduceEqDiff, reduceCtorEq, Nat.reduceAdd, Nat.reduceSub, Nat.reduceLT]⟩ ?_
  rintro env ⟨g0, g1, g5⟩
  refine a_call (put_spec (hT.keep k2) hrp rfl) ?_
  rintro e H3 ⟨vx, rfl, hOx, hk3, hFx⟩
  have hsx := hOx.scalar
  simp -implicitDefEqProofs (maxSteps := 1000000) (disch := first | omega | assumption) only [g0, g1, g5, Sx, reduceIte, Nat.reduceEqDiff, reduceCtorEq, Nat.reduceAdd, Nat.reduceSub, Nat.reduceLT, decide_true, decide_false, Bool.not_true, Bool.not_false, Int.toNat_one, Int.toNat_zero, Nat.zero_mul, l_g, endK, gd_u]
  have k3 := k2.trans hk3
  refine e_gen (fun env => env 0 = .slice A l.length ca ∧ env 1 = .slice B b.length cb ∧ env 5 = .slice ap l.length cp ∧ env 6 = vx ∧ env 7 = .int .i64 (if validV l 9223372036854775807 then 0 else 1)) ⟨by simp -implicitDefEqProofs (maxSteps := 1000000) (disch := first | omega | assumption) only [g0, g1, g5, Sx, reduceIte, Nat.reduceEqDiff, reduceCtorEq, Nat.reduceAdd, Nat.reduceSub, Nat.reduceLT], by simp -implicitDefEqProofs (maxSteps := 1000000) (disch := first | omega | assumption) only [g0, g1, g5, Sx, reduceIte, Nat.reduceEqDiff, reduceCtorEq, Nat.reduceAdd, Nat.reduceSub, Nat.reduceLT], by simp -implicitDefEqProofs (maxSteps := 1000000) (disch := first | omega | assumption) only [g0, g1, g5, Sx, reduceIte, Nat.reduceEqDiff, reduceCtorEq, Nat.reduceAdd, Nat.reduceSub, Nat.reduceLT], by simp -implicitDefEqProofs (maxSteps := 1000000) (disch := first | omega | assumption) only [g0, g1, g5, Sx, reduceIte, Nat.reduceEqDiff, reduceCtorEq, Nat.reduceAdd, Nat.reduceSub, Nat.reduceLT], by simp -implicitDefEqProofs (maxSteps := 1000000) (disch := first | omega | assumption) only [g0, g1, g5, Sx, reduceIte, Nat.reduceEqDiff, reduceCtorEq, Nat.reduceAdd, Nat.reduceSub, Nat.reduceLT]⟩ ?_
  clear g0 g1 g5
  rintro env ⟨g0, g1, g5, g6, g7⟩
  refine a_call (rput_spec (k3.row hA) rfl) ?_
  rintro e H4 ⟨vy, rfl, hOy, hk4, hFy⟩
  have hsy := hOy.scalar
  have k4 := k3.trans hk4
  simp -implicitDefEqProofs (maxSteps := 1000000) (disch := first | omega | assumption) only [g0, g1, g5, g6, g7, Sx, reduceIte, Nat.reduceEqDiff, reduceCtorEq, Nat.reduceAdd, Nat.reduceSub, Nat.reduceLT, decide_true, decide_false, Bool.not_true, Bool.not_false, Int.toNat_one, Int.toNat_zero, Nat.zero_mul, l_g, endK, gd_u]
  refine e_gen (fun env => env 0 = .slice A l.length ca ∧ env 1 = .slice B b.length cb ∧ env 5 = .slice ap l.length cp ∧ env 6 = vx ∧ env 7 = .int .i64 (if validV l 9223372036854775807 then 0 else 1) ∧ env 8 = vy ∧ env 9 = .int .i64 (if validV l 9223372036854775807 then 0 else 1)) ⟨by simp -implicitDefEqProofs (maxSteps := 1000000) (disch := first | omega | assumption) only [g0, g1, g5, g6, g7, Sx, reduceIte, Nat.reduceEqDiff, reduceCtorEq, Nat.reduceAdd, Nat.reduceSub, Nat.reduceLT], by simp -implicitDefEqProofs (maxSteps := 1000000) (disch := first | omega | assumption) only [g0, g1, g5, g6, g7, Sx, reduceIte, Nat.reduceEqDiff, reduceCtorEq, Nat.reduceAdd, Nat.reduceSub, Nat.reduceLT], by simp -implicitDefEqProofs (maxSteps := 1000000) (disch := first | omega | assumption) only [g0, g1, g5, g6, g7, Sx, reduceIte, Nat.reduceEqDiff, reduceCtorEq, Nat.reduceAdd, Nat.reduceSub, Nat.reduceLT], by simp -implicitDefEqProofs (maxSteps := 1000000) (disch := first | omega | assumption) only [g0, g1, g5, g6, g7, Sx, reduceIte, Nat.reduceEqDiff, reduceCtorEq, Nat.reduceAdd, Nat.reduceSub, Nat.reduceLT], by simp -implicitDefEqProofs (maxSteps := 1000000) (disch := first | omega | assumption) only [g0, g1, g5, g6, g7, Sx, reduceIte, Nat.reduceEqDiff, reduceCtorEq, Nat.reduceAdd, Nat.reduceSub, Nat.reduceLT], by simp -implicitDefEqProofs (maxSteps := 1000000) (disch := first | omega | assumption) only [g0, g1, g5, g6, g7, Sx, reduceIte, Nat.reduceEqDiff, reduceCtorEq, Nat.reduceAdd, Nat.reduceSub, Nat.reduceLT], by simp -implicitDefEqProofs (maxSteps := 1000000) (disch := first | omega | assumption) only [g0, g1, g5, g6, g7, Sx, reduceIte, Nat.reduceEqDiff, reduceCtorEq, Nat.reduceAdd, Nat.reduceSub, Nat.reduceLT]⟩ ?_
  clear g0 g1 g5 g6 g7
  rintro env ⟨g0, g1, g5, g6, g7, g8, g9⟩
  refine a_call (lent_spec (k4.row hB) rfl (by omega)) ?_
  rintro e H5 ⟨aa, ac, rfl, hOa, hk5, hFa⟩
  have k5 := k4.trans hk5
  obtain ⟨_, _, _, e, _, hac, hra⟩ := hOa.view
  cases e
  have hrc : Row H5 aa (by8 b) := by
    rw [by8, List.map_append] at hra
    exact row_prefix hra
  simp -implicitDefEqProofs (maxSteps := 1000000) (disch := first | omega | assumption) only [g0, g1, g5, g6, g7, g8, g9, Sx, reduceIte, Nat.reduceEqDiff, reduceCtorEq, Nat.reduceAdd, Nat.reduceSub, Nat.reduceLT, decide_true, decide_false, Bool.not_true, Bool.not_false, Int.toNat_one, Int.toNat_zero, Nat.zero_mul, l_g, endK, gd_u]
  refine e_gen (fun env => env 0 = .slice A l.length ca ∧ env 1 = .slice B b.length cb ∧ env 5 = .slice ap l.length cp ∧ env 6 = vx ∧ env 7 = .int .i64 (if validV l 9223372036854775807 then 0 else 1) ∧ env 8 = vy ∧ env 9 = .int .i64 (if validV l 9223372036854775807 then 0 else 1) ∧ env 10 = .slice aa b.length ac ∧ env 11 = .slice aa (b.length + 32) ac) ⟨by simp -implicitDefEqProofs (maxSteps := 1000000) (disch := first | omega | assumption) only [g0, g1, g5, g6, g7, g8, g9, Sx, reduceIte, Nat.reduceEqDiff, reduceCtorEq, Nat.reduceAdd, Nat.reduceSub, Nat.reduceLT], by simp -implicitDefEqProofs (maxSteps := 1000000) (disch := first | omega | assumption) only [g0, g1, g5, g6, g7, g8, g9, Sx, reduceIte, Nat.reduceEqDiff, reduceCtorEq, Nat.reduceAdd, Nat.reduceSub, Nat.reduceLT], by simp -implicitDefEqProofs (maxSteps := 1000000) (disch := first | omega | assumption) only [g0, g1, g5, g6, g7, g8, g9, Sx, reduceIte, Nat.reduceEqDiff, reduceCtorEq, Nat.reduceAdd, Nat.reduceSub, Nat.reduceLT], by simp -implicitDefEqProofs (maxSteps := 1000000) (disch := first | omega | assumption) only [g0, g1, g5, g6, g7, g8, g9, Sx, reduceIte, Nat.reduceEqDiff, reduceCtorEq, Nat.reduceAdd, Nat.reduceSub, Nat.reduceLT], by simp -implicitDefEqProofs (maxSteps := 1000000) (disch := first | omega | assumption) only [g0, g1, g5, g6, g7, g8, g9, Sx, reduceIte, Nat.reduceEqDiff, reduceCtorEq, Nat.reduceAdd, Nat.reduceSub, Nat.reduceLT], by simp -implicitDefEqProofs (maxSteps := 1000000) (disch := first | omega | assumption) only [g0, g1, g5, g6, g7, g8, g9, Sx, reduceIte, Nat.reduceEqDiff, reduceCtorEq, Nat.reduceAdd, Nat.reduceSub, Nat.reduceLT], by simp -implicitDefEqProofs (maxSteps := 1000000) (disch := first | omega | assumption) only [g0, g1, g5, g6, g7, g8, g9, Sx, reduceIte, Nat.reduceEqDiff, reduceCtorEq, Nat.reduceAdd, Nat.reduceSub, Nat.reduceLT], by simp -implicitDefEqProofs (maxSteps := 1000000) (disch := first | omega | assumption) only [g0, g1, g5, g6, g7, g8, g9, Sx, reduceIte, Nat.reduceEqDiff, reduceCtorEq, Nat.reduceAdd, Nat.reduceSub, Nat.reduceLT], by simp -implicitDefEqProofs (maxSteps := 1000000) (disch := first | omega | assumption) only [g0, g1, g5, g6, g7, g8, g9, Sx, reduceIte, Nat.reduceEqDiff, reduceCtorEq, Nat.reduceAdd, Nat.reduceSub, Nat.reduceLT]⟩ ?_
  clear g0 g1 g5 g6 g7 g8 g9
  rintro env ⟨g0, g1, g5, g6, g7, g8, g9, g10, g11⟩
  refine a_call (read_spec hrc hby rfl (by omega)) ?_
  rintro e H6 ⟨vr, rfl, hOr, hk6, hFr⟩
  have hsr := hOr.scalar
  have k6 := k5.trans hk6
  simp -implicitDefEqProofs (maxSteps := 1000000) (disch := first | omega | assumption) only [g0, g1, g5, g6, g7, g8, g9, g10, g11, Sx, reduceIte, Nat.reduceEqDiff, reduceCtorEq, Nat.reduceAdd, Nat.reduceSub, Nat.reduceLT, decide_true, decide_false, Bool.not_true, Bool.not_false, Int.toNat_one, Int.toNat_zero, Nat.zero_mul, l_g, endK, gd_u]
  refine e_gen (fun env => env 0 = .slice A l.length ca ∧ env 1 = .slice B b.length cb ∧ env 5 = .slice ap l.length cp ∧ env 6 = vx ∧ env 7 = .int .i64 (if validV l 9223372036854775807 then 0 else 1) ∧ env 8 = vy ∧ env 9 = .int .i64 (if validV l 9223372036854775807 then 0 else 1) ∧ env 11 = .slice aa (b.length + 32) ac ∧ env 12 = vr ∧ env 13 = .int .i64 (readV b).2.1 ∧ env 14 = .int .i64 (readV b).2.2) ⟨by simp -implicitDefEqProofs (maxSteps := 1000000) (disch := first | omega | assumption) only [g0, g1, g5, g6, g7, g8, g9, g11, Sx, reduceIte, Nat.reduceEqDiff, reduceCtorEq, Nat.reduceAdd, Nat.reduceSub, Nat.reduceLT], by simp -implicitDefEqProofs (maxSteps := 1000000) (disch := first | omega | assumption) only [g0, g1, g5, g6, g7, g8, g9, g11, Sx, reduceIte, Nat.reduceEqDiff, reduceCtorEq, Nat.reduceAdd, Nat.reduceSub, Nat.reduceLT], by simp -implicitDefEqProofs (maxSteps := 1000000) (disch := first | omega | assumption) only [g0, g1, g5, g6, g7, g8, g9, g11, Sx, reduceIte, Nat.reduceEqDiff, reduceCtorEq, Nat.reduceAdd, Nat.reduceSub, Nat.reduceLT], by simp -implicitDefEqProofs (maxSteps := 1000000) (disch := first | omega | assumption) only [g0, g1, g5, g6, g7, g8, g9, g11, Sx, reduceIte, Nat.reduceEqDiff, reduceCtorEq, Nat.reduceAdd, Nat.reduceSub, Nat.reduceLT], by simp -implicitDefEqProofs (maxSteps := 1000000) (disch := first | omega | assumption) only [g0, g1, g5, g6, g7, g8, g9, g11, Sx, reduceIte, Nat.reduceEqDiff, reduceCtorEq, Nat.reduceAdd, Nat.reduceSub, Nat.reduceLT], by simp -implicitDefEqProofs (maxSteps := 1000000) (disch := first | omega | assumption) only [g0, g1, g5, g6, g7, g8, g9, g11, Sx, reduceIte, Nat.reduceEqDiff, reduceCtorEq, Nat.reduceAdd, Nat.reduceSub, Nat.reduceLT], by simp -implicitDefEqProofs (maxSteps := 1000000) (disch := first | omega | assumption) only [g0, g1, g5, g6, g7, g8, g9, g11, Sx, reduceIte, Nat.reduceEqDiff, reduceCtorEq, Nat.reduceAdd, Nat.reduceSub, Nat.reduceLT], by simp -implicitDefEqProofs (maxSteps := 1000000) (disch := first | omega | assumption) only [g0, g1, g5, g6, g7, g8, g9, g11, Sx, reduceIte, Nat.reduceEqDiff, reduceCtorEq, Nat.reduceAdd, Nat.reduceSub, Nat.reduceLT], by simp -implicitDefEqProofs (maxSteps := 1000000) (disch := first | omega | assumption) only [g0, g1, g5, g6, g7, g8, g9, g11, Sx, reduceIte, Nat.reduceEqDiff, reduceCtorEq, Nat.reduceAdd, Nat.reduceSub, Nat.reduceLT], by simp -implicitDefEqProofs (maxSteps := 1000000) (disch := first | omega | assumption) only [g0, g1, g5, g6, g7, g8, g9, g11, Sx, reduceIte, Nat.reduceEqDiff, reduceCtorEq, Nat.reduceAdd, Nat.reduceSub, Nat.reduceLT], by simp -implicitDefEqProofs (maxSteps := 1000000) (disch := first | omega | assumption) only [g0, g1, g5, g6, g7, g8, g9, g11, Sx, reduceIte, Nat.reduceEqDiff, reduceCtorEq, Nat.reduceAdd, Nat.reduceSub, Nat.reduceLT]⟩ ?_
  clear g0 g1 g5 g6 g7 g8 g9 g11
  rintro env ⟨g0, g1, g5, g6, g7, g8, g9, g11, g12, g13, g14⟩
  refine a_call (rread_spec (k6.row hB) hby rfl (by omega)) ?_
  rintro e H7 ⟨vs, rfl, hOs, hk7, hFs⟩
  have hss := hOs.scalar
  have k7 := k6.trans hk7
  obtain ⟨E, hE⟩ : ∃ E : Int, E = (if validV l 9223372036854775807 then 0 else 1) := ⟨_, rfl⟩
  obtain ⟨X, hX⟩ : ∃ X, X = (if validV l 9223372036854775807 then txtV l else []) := ⟨_, rfl⟩
  rw [← hE] at g7 g9
  rw [← hX] at hOx hOy
  have hXl : X.length ≤ 3000000 := by
    rw [hX]
    cases hv : validV l 9223372036854775807 with
    | true => exact txtV_len hv
    | false => simp
  obtain ⟨RV, hRV⟩ : ∃ RV, RV = readV b := ⟨_, rfl⟩
  have hRl := readV_len b
  rw [← hRV] at hOr hOs g13 g14 hRl ⊢
  have e1 : (E != E) = false := by simp
  have e2 : (RV.2.2 != RV.2.2) = false := by simp
  have e3 : ((RV.2.1 : Int) != (RV.2.1 : Int)) = false := by simp
  -- x, y; r, s as slices
  obtain ⟨xa, xn, xc, hxv, hxl, hxc, hxr⟩ := hOx.view
  obtain ⟨ya, yn, yc, hyv, hyl, hyc, hyr⟩ := hOy.view
  obtain ⟨ra, rn, rc, hrv, hrl, hrc', hrr⟩ := hOr.view
  obtain ⟨sa, sn, sc, hsv, hsl, hsc, hsr'⟩ := hOs.view
  rw [List.length_map, Nat.mul_one] at hxl hyl
  rw [encs_len rg_len] at hrl hsl
  have hrn : rn = RV.1.length := by omega
  have hsn : sn = RV.1.length := by omega
  subst hrn hsn hxv hyv hrv hsv
  have d1 : decide (X = X) = true := by simp
  have d2 : decide (l = l) = true := by simp
  have d3 : decide (RV.1 = RV.1) = true := by simp
  have hxK : Keep H3 H7 := ((hk4.trans hk5).trans hk6).trans hk7
  have hyK : Keep H4 H7 := (hk5.trans hk6).trans hk7
  have haK : Keep H5 H7 := hk6.trans hk7
  have hpK : Keep H2 H7 := hk3.trans hxK
  simp -implicitDefEqProofs (maxSteps := 1000000) (disch := first | omega | assumption) only [g0, g1, g5, g6, g7, g8, g9, g11, g12, g13, g14, e1, e2, e3, Sx, reduceIte, Nat.reduceEqDiff, reduceCtorEq, Nat.reduceAdd, Nat.reduceSub, Nat.reduceLT, decide_true, decide_false, Bool.not_true, Bool.not_false, Int.toNat_one, Int.toNat_zero, Nat.zero_mul, l_g, endK, gd_u]
  refine a_call (same_spec (hxK.row hxr) (hyK.row hyr) hxl.symm hyl.symm (by omega)) ?_
  rintro e H8 ⟨rfl, rfl⟩
  rw [d1]
  simp -implicitDefEqProofs (maxSteps := 1000000) (disch := first | omega | assumption) only [g0, g1, g5, g6, g7, g8, g9, g11, g12, g13, g14, e1, e2, e3, Bool.not_true, Sx, reduceIte, Nat.reduceEqDiff, reduceCtorEq, Nat.reduceAdd, Nat.reduceSub, Nat.reduceLT, decide_true, decide_false, Bool.not_true, Bool.not_false, Int.toNat_one, Int.toNat_zero, Nat.zero_mul, l_g, endK, gd_u]
  refine a_call (ranges_spec (hpK.row hrp) (k7.row hA) rfl rfl (by omega)) ?_
  rintro e H8 ⟨rfl, rfl⟩
  rw [d2]
  simp -implicitDefEqProofs (maxSteps := 1000000) (disch := first | omega | assumption) only [g0, g1, g5, g6, g7, g8, g9, g11, g12, g13, g14, e1, e2, e3, Bool.not_true, Sx, reduceIte, Nat.reduceEqDiff, reduceCtorEq, Nat.reduceAdd, Nat.reduceSub, Nat.reduceLT, decide_true, decide_false, Bool.not_true, Bool.not_false, Int.toNat_one, Int.toNat_zero, Nat.zero_mul, l_g, endK, gd_u]
  refine a_call (ranges_spec (hk7.row hrr) hsr' rfl rfl (by omega)) ?_
  rintro e H8 ⟨rfl, rfl⟩
  rw [d3]
  simp -implicitDefEqProofs (maxSteps := 1000000) (disch := first | omega | assumption) only [g0, g1, g5, g6, g7, g8, g9, g11, g12, g13, g14, e1, e2, e3, Bool.not_true, Sx, reduceIte, Nat.reduceEqDiff, reduceCtorEq, Nat.reduceAdd, Nat.reduceSub, Nat.reduceLT, decide_true, decide_false, Bool.not_true, Bool.not_false, Int.toNat_one, Int.toNat_zero, Nat.zero_mul, l_g, endK, gd_u]
  refine a_call (kept_spec (haK.row hra) (k7.row hB) rfl rfl (by omega) hby) ?_
  rintro e H8 ⟨rfl, rfl⟩
  simp -implicitDefEqProofs (maxSteps := 1000000) (disch := first | omega | assumption) only [g0, g1, g5, g6, g7, g8, g9, g11, g12, g13, g14, e1, e2, e3, Bool.not_true, Sx, reduceIte, Nat.reduceEqDiff, reduceCtorEq, Nat.reduceAdd, Nat.reduceSub, Nat.reduceLT, decide_true, decide_false, Bool.not_true, Bool.not_false, Int.toNat_one, Int.toNat_zero, Nat.zero_mul, l_g, endK, gd_u]
  refine e_gen (fun env => env 0 = .slice A l.length ca ∧ env 1 = .slice B b.length cb ∧ env 5 = .slice ap l.length cp ∧ env 6 = .slice xa xn xc ∧ env 11 = .slice aa (b.length + 32) ac ∧ env 12 = .slice ra RV.1.length rc) ⟨by simp -implicitDefEqProofs (maxSteps := 1000000) (disch := first | omega | assumption) only [g0, g1, g5, g6, g7, g8, g9, g11, g12, g13, g14, Sx, reduceIte, Nat.reduceEqDiff, reduceCtorEq, Nat.reduceAdd, Nat.reduceSub, Nat.reduceLT], by simp -implicitDefEqProofs (maxSteps := 1000000) (disch := first | omega | assumption) only [g0, g1, g5, g6, g7, g8, g9, g11, g12, g13, g14, Sx, reduceIte, Nat.reduceEqDiff, reduceCtorEq, Nat.reduceAdd, Nat.reduceSub, Nat.reduceLT], by simp -implicitDefEqProofs (maxSteps := 1000000) (disch := first | omega | assumption) only [g0, g1, g5, g6, g7, g8, g9, g11, g12, g13, g14, Sx, reduceIte, Nat.reduceEqDiff, reduceCtorEq, Nat.reduceAdd, Nat.reduceSub, Nat.reduceLT], by simp -implicitDefEqProofs (maxSteps := 1000000) (disch := first | omega | assumption) only [g0, g1, g5, g6, g7, g8, g9, g11, g12, g13, g14, Sx, reduceIte, Nat.reduceEqDiff, reduceCtorEq, Nat.reduceAdd, Nat.reduceSub, Nat.reduceLT], by simp -implicitDefEqProofs (maxSteps := 1000000) (disch := first | omega | assumption) only [g0, g1, g5, g6, g7, g8, g9, g11, g12, g13, g14, Sx, reduceIte, Nat.reduceEqDiff, reduceCtorEq, Nat.reduceAdd, Nat.reduceSub, Nat.reduceLT], by simp -implicitDefEqProofs (maxSteps := 1000000) (disch := first | omega | assumption) only [g0, g1, g5, g6, g7, g8, g9, g11, g12, g13, g14, Sx, reduceIte, Nat.reduceEqDiff, reduceCtorEq, Nat.reduceAdd, Nat.reduceSub, Nat.reduceLT]⟩ ?_
  clear g0 g1 g5 g6 g7 g8 g9 g11 g12 g13 g14
  rintro env ⟨g0, g1, g5, g6, g11, g12⟩
  refine a_call (full_spec (hOx.keep hxK) (by simp; omega)) ?_
  rintro e H9 ⟨rfl, ho9⟩
  have hFx0 : Fresh H (.slice xa xn xc) := fun q hq => k2.none (hFx q hq)
  have k9 : Keep H H9 := oth_keep ho9 k7 hFx0
  have hpK9 : Keep H2 H9 := oth_keep ho9 hpK hFx
  have haK9 : Own H9 5 1 (.slice aa (b.length + 32) ac) (by8 (b ++ marks 32)) := oth_own ho9 (hOa.keep haK) fun q hq e => (hOx.keep hk4).known hq (hFa q e)
  have hrK9 : Own H9 51 2 (.slice ra RV.1.length rc) (rgs RV.1) := oth_own ho9 (hOr.keep hk7) fun q hq e => (hOx.keep (hk4.trans hk5)).known hq (hFr q e)
  simp -implicitDefEqProofs (maxSteps := 1000000) (disch := first | omega | assumption) only [g0, g1, g5, g6, g11, g12, Sx, reduceIte, Nat.reduceEqDiff, reduceCtorEq, Nat.reduceAdd, Nat.reduceSub, Nat.reduceLT, decide_true, decide_false, Bool.not_true, Bool.not_false, Int.toNat_one, Int.toNat_zero, Nat.zero_mul, l_g, endK, gd_u]
  refine a_call (written_spec hrK9 (encs_len rg_len RV.1) (by omega)) ?_
  rintro e H10 ⟨rfl, ho10⟩
  have k10 : Keep H H10 := oth_keep ho10 k9 fun q hq => k5.none (hFr q hq)
  have hpK10 : Keep H2 H10 := oth_keep ho10 hpK9 fun q hq => ((hk3.trans hk4).trans hk5).none (hFr q hq)
  have haK10 : Own H10 5 1 (.slice aa (b.length + 32) ac) (by8 (b ++ marks 32)) := oth_own ho10 haK9 fun q hq e => hOa.known e (hFr q hq)
  simp -implicitDefEqProofs (maxSteps := 1000000) (disch := first | omega | assumption) only [g0, g1, g5, g11, Sx, reduceIte, Nat.reduceEqDiff, reduceCtorEq, Nat.reduceAdd, Nat.reduceSub, Nat.reduceLT, decide_true, decide_false, Bool.not_true, Bool.not_false, Int.toNat_one, Int.toNat_zero, Nat.zero_mul, l_g, endK, gd_u]
  refine a_call (put_spec (l := []) (hT.keep k10) (fun i v hv => by simp at hv) rfl) ?_
  rintro e H11 ⟨vo, rfl, hOo, hk11, hFo⟩
  have hv0 : validV [] 9223372036854775807 = true := rfl
  rw [hv0] at hOo
  simp only [if_true] at hOo
  obtain ⟨oa, on_, oc, rfl, hol, _, _⟩ := hOo.view
  rw [List.length_map, Nat.mul_one, txtV_nil] at hol
  subst hol
  have k11 := k10.trans hk11
  simp -implicitDefEqProofs (maxSteps := 1000000) (disch := first | omega | assumption) only [g0, g1, g5, g11, hv0, Sx, reduceIte, Nat.reduceEqDiff, reduceCtorEq, Nat.reduceAdd, Nat.reduceSub, Nat.reduceLT, decide_true, decide_false, Bool.not_true, Bool.not_false, Int.toNat_one, Int.toNat_zero, Nat.zero_mul, l_g, endK, gd_u]
  refine a_call (ranges_spec ((hpK10.trans hk11).row hrp) (k11.row hA) rfl rfl (by omega)) ?_
  rintro e H12 ⟨rfl, rfl⟩
  rw [d2]
  simp -implicitDefEqProofs (maxSteps := 1000000) (disch := first | omega | assumption) only [g0, g1, g5, g11, Sx, reduceIte, Nat.reduceEqDiff, reduceCtorEq, Nat.reduceAdd, Nat.reduceSub, Nat.reduceLT, decide_true, decide_false, Bool.not_true, Bool.not_false, Int.toNat_one, Int.toNat_zero, Nat.zero_mul, l_g, endK, gd_u]
  obtain ⟨_, _, _, e, _, _, hra11⟩ := (haK10.keep hk11).view
  cases e
  refine a_call (kept_spec hra11 (k11.row hB) rfl rfl (by omega) hby) ?_
  rintro e H12 ⟨rfl, rfl⟩
  have z1 : ((0 : Int) == 0) = true := rfl
  have z2 : (((512 : Nat) : Int) == 512) = true := rfl
  simp -implicitDefEqProofs (maxSteps := 1000000) (disch := first | omega | assumption) only [g0, g1, g5, g11, z1, z2, Sx, reduceIte, Nat.reduceEqDiff, reduceCtorEq, Nat.reduceAdd, Nat.reduceSub, Nat.reduceLT, decide_true, decide_false, Bool.not_true, Bool.not_false, Int.toNat_one, Int.toNat_zero, Nat.zero_mul, l_g, endK, gd_u]
  exact ⟨by (first | exact True.intro | rfl | assumption), k11⟩
theorem sparseTexts_row {H : Heap} (hT : Tab H) (A : Option Addr) (ca : Nat) (l : List Rg) (cl : List (List Value)) (he : Els rgTy H A l cl) (hca : l.length ≤ ca) (wl : (∀ y ∈ l, True) ∧ l.length ≤ maxLen) (hl : l.length * 16 ≤ 140737488351232)
    (B : Option Addr) (cb : Nat) (b : List Int) (cl' : List (List Value)) (he' : Els (Ty.int .u8) H B b cl') (hcb : b.length ≤ cb) (wb : (∀ y ∈ b, (Lit.int .u8 y).wf = true) ∧ b.length ≤ maxLen) (hb : b.length * 1 ≤ 140737488351232) :
    ACalls Tryd.prog 3 [Value.slice A l.length ca, Value.slice B b.length cb].toArray H fun e H' => e = .returned (.bool true) ∧ Keep H H' :=
  sparseTexts_walk hT (Els.flat he) he'.ints hca hcb (fun y hy => wf_u8 (wb.1 y hy)) (by omega) (by omega)
end Go.Proofs.YthflafgijfbpnaaDoor.S15
