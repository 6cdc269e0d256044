/-
  FieldReads: any bytes.
-/
import Derived.Test.YtigignkgblaoaaaDoorText
import Derived.Test.YtigignkgblaoaaaDoorSepOpn
set_option linter.unusedVariables false
set_option linter.unusedSimpArgs false
namespace Go.Proofs.YtigignkgblaoaaaDoor.S12
open Go Go.RowKit Go.Proofs.YtigignkgblaoaaaDoor.Sep Go.Proofs.YtigignkgblaoaaaDoor.Low Go.Proofs.YtigignkgblaoaaaDoor.Lib

theorem own_some' {H : Heap} {T : TypeId} {a : Option Addr} {n c : Nat} {cs : List Value} (h : Own H T 1 (.slice a n c) cs) (hl : 0 < cs.length) : ∃ r, a = some ⟨r, 0, none⟩ := by
  cases h with
  | nil => simp at hl
  | @«at» r len cap _ rest f hb hf hl hr hc => exact ⟨r, rfl⟩
theorem own_some {H : Heap} {T : TypeId} {a : Option Addr} {n c : Nat} {l : List Int} (h : Own H T 1 (.slice a n c) (by8 l)) (hl : 0 < l.length) : ∃ r, a = some ⟨r, 0, none⟩ := own_some' h (by simpa using hl)
set_option maxHeartbeats 8000000 in
theorem fieldReads_walk {H : Heap} {A : Option Addr} {c : Nat} {l : List Int} (hrb : Row H A (by8 l)) (hcc : l.length ≤ c) (hb : isBy l) (hl : l.length ≤ 140737488351232) :
    ACalls Tryd.prog 3 [Value.slice A l.length c].toArray H fun e H' => e = .returned (.bool true) ∧ Keep H H' := by
  refine call3 (Nat.le_of_ble_eq_true rfl) ?_
  unfold L3 env0
  simp -implicitDefEqProofs (maxSteps := 1000000) (disch := first | omega | assumption) only [Sx, reduceIte, Nat.reduceEqDiff, reduceCtorEq, Nat.reduceAdd, Nat.reduceSub, Nat.reduceLT]
  refine lits_b0 ?_
  intro r1 H1 hO1 hk1 hr1
  try simp -implicitDefEqProofs (maxSteps := 1000000) (disch := first | omega | assumption) only [Sx, reduceIte, Nat.reduceEqDiff, reduceCtorEq, Nat.reduceAdd, Nat.reduceSub, Nat.reduceLT]
  refine app_b1 hO1 (by simp; omega) ⟨A, c, rfl, hcc, hk1.row hrb⟩ ?_
  intro v2 H2 hO2 ho2 hm2
  have hk2 : Keep H H2 := ho2.keep hk1 (by rintro q ⟨⟩; exact hr1)
  have hf2 : Fresh H v2 := hm2.fresh hk1 (by rintro q ⟨⟩; exact hr1)
  try simp -implicitDefEqProofs (maxSteps := 1000000) (disch := first | omega | assumption) only [Sx, reduceIte, Nat.reduceEqDiff, reduceCtorEq, Nat.reduceAdd, Nat.reduceSub, Nat.reduceLT]
  refine a_lits (sz := 1) (cells := #[.int .u8 55, .int .u8 55, .int .u8 0]) rfl rfl ?_
  intro r3 H3 hO3 hk3 hr3
  have hO3 : Bs H3 (.slice (some ⟨r3, 0, none⟩) 3 3) [55, 55, 0] := hO3
  try simp -implicitDefEqProofs (maxSteps := 1000000) (disch := first | omega | assumption) only [Sx, reduceIte, Nat.reduceEqDiff, reduceCtorEq, Nat.reduceAdd, Nat.reduceSub, Nat.reduceLT]
  refine app_b1 (hO2.keep hk3) (by simp; omega) (own_by hO3) ?_
  intro v4 H4 hO4 ho4 hm4
  have hk4 : Keep H H4 := ho4.keep (hk2.trans hk3) hf2
  rw [List.nil_append] at hO4
  obtain ⟨a4, c4, rfl, hc4, hr4⟩ := own_by hO4
  have hll : (l ++ [55, 55, 0]).length = l.length + 3 := by simp
  obtain ⟨r, rfl⟩ := own_some hO4 (by omega)
  have hrl : Row H4 (some ⟨r, 0, none⟩) (by8 l) := by
    have := row_take (k := l.length) hr4
    rwa [List.take_left' rfl] at this
  have hyl : ∀ {H' : Heap}, Keep H4 H' → By H' (.slice (some ⟨r, 0, none⟩) l.length c4) l := fun hk => ⟨_, _, rfl, by omega, hk.row hrl⟩
  have hyb : ∀ {H' : Heap}, Keep H H' → By H' (.slice A l.length c) l := fun hk => ⟨_, _, rfl, hcc, hk.row hrb⟩
  have hcut : (0 : Int) ≤ (l.length : Int) ∧ (l.length : Int) ≤ (c4 : Int) := by omega
  obtain ⟨n4, hn4⟩ : ∃ n, n = (l ++ [55, 55, 0]).length := ⟨_, rfl⟩
  rw [← hn4]
  clear hO1 hO2 hO3 hO4 ho2 ho4 hm2 hm4 hf2 hr1 hr3 hk2 hk3 hk1
  try simp -implicitDefEqProofs (maxSteps := 1000000) (disch := first | omega | assumption) only [ev_slc_hi, Int.toNat_natCast, Sx, reduceIte, Nat.reduceEqDiff, reduceCtorEq, Nat.reduceAdd, Nat.reduceSub, Nat.reduceLT]
  refine e_gen (fun env => env 0 = .slice A l.length c ∧ env 3 = .slice (some ⟨r, 0, none⟩) n4 c4 ∧ env 4 = .slice (some ⟨r, 0, none⟩) l.length c4) ⟨by simp -implicitDefEqProofs (maxSteps := 1000000) (disch := first | omega | assumption) only [Sx, reduceIte, Nat.reduceEqDiff, reduceCtorEq, Nat.reduceAdd, Nat.reduceSub, Nat.reduceLT], by simp -implicitDefEqProofs (maxSteps := 1000000) (disch := first | omega | assumption) only [Sx, reduceIte, Nat.reduceEqDiff, reduceCtorEq, Nat.reduceAdd, Nat.reduceSub, Nat.reduceLT], by simp -implicitDefEqProofs (maxSteps := 1000000) (disch := first | omega | assumption) only [Sx, reduceIte, Nat.reduceEqDiff, reduceCtorEq, Nat.reduceAdd, Nat.reduceSub, Nat.reduceLT]⟩ ?_
  rintro env ⟨g0, g3, g4⟩
  refine a_call (octal_spec (hyl (Keep.refl _)) hb (by omega)) ?_
  rintro e H5 ⟨rfl, hk5⟩
  simp -implicitDefEqProofs (maxSteps := 1000000) (disch := first | omega | assumption) only [g0, g3, g4, Sx, reduceIte, Nat.reduceEqDiff, reduceCtorEq, Nat.reduceAdd, Nat.reduceSub, Nat.reduceLT, decide_true, decide_false, Bool.not_true, Bool.not_false, Int.toNat_one, Int.toNat_zero, Nat.zero_mul, l_g, endK]
  refine a_call (roctal_spec (hyb (hk4.trans hk5)) (by omega)) ?_
  rintro e H6 ⟨rfl, rfl⟩
  simp -implicitDefEqProofs (maxSteps := 1000000) (disch := first | omega | assumption) only [g0, g3, g4, Sx, reduceIte, Nat.reduceEqDiff, reduceCtorEq, Nat.reduceAdd, Nat.reduceSub, Nat.reduceLT, decide_true, decide_false, Bool.not_true, Bool.not_false, Int.toNat_one, Int.toNat_zero, Nat.zero_mul, l_g, endK]
  refine a_call (binary_spec (hyl hk5) hb (by omega)) ?_
  rintro e H7 ⟨rfl, rfl⟩
  simp -implicitDefEqProofs (maxSteps := 1000000) (disch := first | omega | assumption) only [g0, g3, g4, Sx, reduceIte, Nat.reduceEqDiff, reduceCtorEq, Nat.reduceAdd, Nat.reduceSub, Nat.reduceLT, decide_true, decide_false, Bool.not_true, Bool.not_false, Int.toNat_one, Int.toNat_zero, Nat.zero_mul, l_g, endK]
  refine a_call (rbinary_spec (hyb (hk4.trans hk5)) hb (by omega)) ?_
  rintro e H8 ⟨rfl, hk8⟩
  simp -implicitDefEqProofs (maxSteps := 1000000) (disch := first | omega | assumption) only [g0, g3, g4, Sx, reduceIte, Nat.reduceEqDiff, reduceCtorEq, Nat.reduceAdd, Nat.reduceSub, Nat.reduceLT, decide_true, decide_false, Bool.not_true, Bool.not_false, Int.toNat_one, Int.toNat_zero, Nat.zero_mul, l_g, endK]
  refine a_call (number_spec (hyl (hk5.trans hk8)) hb (by omega)) ?_
  rintro e H9 ⟨rfl, hk9⟩
  have hk49 := (hk5.trans hk8).trans hk9
  simp -implicitDefEqProofs (maxSteps := 1000000) (disch := first | omega | assumption) only [g0, g3, g4, Sx, reduceIte, Nat.reduceEqDiff, reduceCtorEq, Nat.reduceAdd, Nat.reduceSub, Nat.reduceLT, decide_true, decide_false, Bool.not_true, Bool.not_false, Int.toNat_one, Int.toNat_zero, Nat.zero_mul, l_g, endK]
  refine a_call (rnumber_spec (hyb (hk4.trans hk49)) hb (by omega)) ?_
  rintro e H10 ⟨rfl, hk10⟩
  have hk410 := hk49.trans hk10
  have q : ∀ z : Int, (z == z) = true := fun z => by simp
  have q1 := q (octN l).1
  have q2 := q (octN l).2
  have q3 := q (binN l).1
  have q4 := q (binN l).2
  have q5 := q (numB l).1
  have q6 := q (numB l).2
  simp -implicitDefEqProofs (maxSteps := 1000000) (disch := first | omega | assumption) only [g0, g3, g4, q1, q2, q3, q4, q5, q6, Sx, reduceIte, Nat.reduceEqDiff, reduceCtorEq, Nat.reduceAdd, Nat.reduceSub, Nat.reduceLT, decide_true, decide_false, Bool.not_true, Bool.not_false, Int.toNat_one, Int.toNat_zero, Nat.zero_mul, l_g, endK]
  refine a_call (text_spec (by omega) (hk410.row hrl) hb (by omega)) ?_
  rintro e H11 ⟨rfl, hk11⟩
  simp -implicitDefEqProofs (maxSteps := 1000000) (disch := first | omega | assumption) only [g0, g3, g4, Sx, reduceIte, Nat.reduceEqDiff, reduceCtorEq, Nat.reduceAdd, Nat.reduceSub, Nat.reduceLT, decide_true, decide_false, Bool.not_true, Bool.not_false, Int.toNat_one, Int.toNat_zero, Nat.zero_mul, l_g, endK]
  refine a_call (rtext_spec (hyb (hk4.trans (hk410.trans hk11))) (by omega)) ?_
  rintro e H12 ⟨rfl, rfl⟩
  have hk412 := hk410.trans hk11
  have hb1 := ev_b2s_by (c := c4) (hk412.row hr4)
  rw [← hn4] at hb1
  have hb2 := ev_b2s_by (c := c) ((hk4.trans hk412).row hrb)
  have hlt : (txt l).length + ([55, 55, 0] : List UInt8).length ≤ 9223372036854775807 := by simp [txt]; omega
  have hfin : decide (txt (l ++ [55, 55, 0]) = txt l ++ [55, 55, 0]) = true := decide_eq_true (by rw [txt_append]; rfl)
  simp -implicitDefEqProofs (maxSteps := 1000000) (disch := first | omega | assumption) only [g0, g3, g4, t_eq, hb1, hb2, v_cat, hfin, Sx, reduceIte, Nat.reduceEqDiff, reduceCtorEq, Nat.reduceAdd, Nat.reduceSub, Nat.reduceLT, decide_true, decide_false, Bool.not_true, Bool.not_false, Int.toNat_one, Int.toNat_zero, Nat.zero_mul, l_g, endK]
  exact ⟨by trivial, hk4.trans hk412⟩
theorem fieldReads_row {H : Heap} (A : Option Addr) (c : Nat) (bs : List Int) (cl : List (List Value)) (he : Els (Ty.int .u8) H A bs cl) (hc : bs.length ≤ c) (wf : (∀ y ∈ bs, (Lit.int .u8 y).wf = true) ∧ bs.length ≤ maxLen) (hy : bs.length * 1 ≤ 140737488351232) :
    ACalls Tryd.prog 3 [Value.slice A bs.length c].toArray H fun e H' => e = .returned (.bool true) ∧ Keep H H' := by
  exact fieldReads_walk he.ints hc (fun y hy => wf_u8 (wf.1 y hy)) (by omega)
end Go.Proofs.YtigignkgblaoaaaDoor.S12
