/-
  QuotaMany, walked.
-/
import Derived.Test.YtmgpfdfbcnlocaaDoorMany
set_option linter.unusedVariables false
set_option linter.unusedSimpArgs false
namespace Go.Proofs.YtmgpfdfbcnlocaaDoor.S18
open Go Go.RowKit Go.Proofs.YtmgpfdfbcnlocaaDoor.Sep Go.Proofs.YtmgpfdfbcnlocaaDoor.Low Go.Proofs.YtmgpfdfbcnlocaaDoor.Lib Go.Proofs.YtmgpfdfbcnlocaaDoor.S09

theorem dm_oth {H H' : Heap} {r k : Nat} {q : Qt} {b e : Int} (h : At1 r H H') (hm : Dm H k q b e) (hne : k ≠ r) : Dm H' k q b e := h.oth _ _ hm hne
theorem Ob.keep {H H' : Heap} {r : Nat} {C : List Int} (h : Ob H r C) (hk : Keep H H') : Ob H' r C := by
  obtain ⟨rest, h⟩ := h; exact ⟨rest, hk _ _ h⟩
theorem Ob.oth {H H' : Heap} {r k : Nat} {C : List Int} (h : Ob H r C) (hk : At1 k H H') (hne : r ≠ k) : Ob H' r C := by
  obtain ⟨rest, h⟩ := h; exact ⟨rest, hk.oth _ _ h hne⟩
theorem Ob.free {H : Heap} {r k : Nat} {C : List Int} (h : Ob H r C) (hk : H k = none) : r ≠ k := by
  obtain ⟨rest, h⟩ := h; rintro rfl; rw [hk] at h; cases h

set_option maxHeartbeats 8000000 in
/-- the end of QuotaMany: what is left and used; the document's order -/
theorem many_end {H0 H : Heap} {env : Env} {r1 rm ro : Nat} {q : Qt} {A : Option Addr} {c t : Nat} {l : List En} {C : List Int} (wq : Wq q) (hc : can q) (hr : Row H0 A (ens l)) (hwn : ∀ x ∈ l, Wn x) (hl : l.length ≤ 1048576) (hK : Keep H0 H) (h1 : H r1 = some (.cells (qt q).toArray 23 (0, 0)))
    (hm : Pm H rm q (run q (fun j => at_ l (plc l.length t j)) l.length).1 (run q (fun j => at_ l (plc l.length t j)) l.length).2) (ho : Ob H ro C) (ha : Ans q l t C l.length)
    (g1 : env 1 = .slice A l.length c) (g3 : env 3 = .pointer (some ⟨r1, 0, none⟩)) (g7 : env 7 = .pointer (some ⟨rm, 0, none⟩)) (g9 : env 9 = .slice (some ⟨ro, 0, none⟩) l.length l.length) (g12 : env 12 = .int .i64 (sm (gG C) l.length)) (g13 : env 13 = .int .i64 (sm (gF l C) l.length)) {QP : List PanicEntry → Heap → Prop} :
    awpC Tryd.prog L3_7 (retQ [RV.t 6] fun e' H' => e' = Ending.returned (Value.bool true) ∧ Keep H0 H') QP env H := by
  obtain ⟨s1, s2⟩ := ha.sums
  rw [s1] at g13
  rw [s2] at g12
  obtain ⟨-, -, rb, re⟩ := run_ok (xs := fun j => at_ l (plc l.length t j)) hc wq l.length
  obtain ⟨B, hB⟩ : ∃ B, B = (run q (fun j => at_ l (plc l.length t j)) l.length).1 := ⟨_, rfl⟩
  obtain ⟨E, hE⟩ : ∃ E, E = (run q (fun j => at_ l (plc l.length t j)) l.length).2 := ⟨_, rfl⟩
  rw [← hB] at hm rb g13
  rw [← hE] at hm re g12
  obtain ⟨w1, w2, w3⟩ := wq
  have wq : Wq q := ⟨w1, w2, w3⟩
  unfold i64 at w1 w2 w3
  unfold L3_7
  simp -implicitDefEqProofs (maxSteps := 1000000) (disch := first | omega | assumption) only [g7, Sx, reduceIte, Nat.reduceEqDiff, reduceCtorEq, Nat.reduceAdd, Nat.reduceSub, Nat.reduceLT, decide_true, decide_false, Bool.not_true, Bool.not_false, Int.toNat_one, Int.toNat_zero, Nat.zero_mul, l_g, endK, gd_u]
  refine a_call (left_spec hm hc wq rb re) ?_
  rintro e' H1 ⟨rfl, k1⟩
  simp -implicitDefEqProofs (maxSteps := 1000000) (disch := first | omega | assumption) only [Sx, reduceIte, Nat.reduceEqDiff, reduceCtorEq, Nat.reduceAdd, Nat.reduceSub, Nat.reduceLT, decide_true, decide_false, Bool.not_true, Bool.not_false, Int.toNat_one, Int.toNat_zero, Nat.zero_mul, l_g, endK, gd_u]
  refine a_new fun r5 hr5 => ?_
  try simp -implicitDefEqProofs (maxSteps := 1000000) (disch := first | omega | assumption) only [Sx, reduceIte, Nat.reduceEqDiff, reduceCtorEq, Nat.reduceAdd, Nat.reduceSub, Nat.reduceLT, decide_true, decide_false, Bool.not_true, Bool.not_false, Int.toNat_one, Int.toNat_zero, Nat.zero_mul, l_g, endK, gd_u]
  refine st_all (old := qt ⟨0, 0, 0⟩) (ci := qt ⟨q.b - B, q.e - E, q.d⟩) set_same (by rfl) (by rfl) (by simp [scalarV]) ?_
  rw [set_set]
  obtain ⟨H2, k2, h5, e2⟩ : ∃ H2, Keep H H2 ∧ H2 r5 = some (.cells (qt ⟨q.b - B, q.e - E, q.d⟩).toArray 23 (0, 0)) ∧ H1.set r5 (.cells (qt ⟨q.b - B, q.e - E, q.d⟩).toArray 23 (0, 0)) = H2 := ⟨_, k1.set_new hr5, set_same, rfl⟩
  rw [e2]
  simp -implicitDefEqProofs (maxSteps := 1000000) (disch := first | omega | assumption) only [g7, Sx, reduceIte, Nat.reduceEqDiff, reduceCtorEq, Nat.reduceAdd, Nat.reduceSub, Nat.reduceLT, decide_true, decide_false, Bool.not_true, Bool.not_false, Int.toNat_one, Int.toNat_zero, Nat.zero_mul, l_g, endK, gd_u]
  refine a_call (used_spec (k2 _ _ hm)) ?_
  rintro e' H3 ⟨rfl, k3⟩
  have k3 := k2.trans k3
  have c0 : H3.cell? ⟨r5, 0, none⟩ = some (.int .i64 (q.b - B)) ∧ H3.cell? ⟨r5, 1, none⟩ = some (.int .i64 (q.e - E)) ∧ H3.cell? ⟨r5, 2, none⟩ = some (.int .i64 q.d) := by
    have h := (by assumption : Keep H2 H3) _ _ h5
    exact ⟨by rw [cell_of h]; rfl, by rw [cell_of h]; rfl, by rw [cell_of h]; rfl⟩
  obtain ⟨d0, d1, d2⟩ := fits_cells (k3 _ _ h1)
  obtain ⟨c0, c1, c2⟩ := c0
  have f1 : decide (q.e < E) = false := decide_eq_false (by omega)
  have f2 : (q.b - B != q.b - B) = false := by simp
  have f3 : (q.e - E != q.e - E) = false := by simp
  have f4 : (q.d != q.d) = false := by simp
  have l3 := loadN_of (o := 0) (n := 3) (l := qt q) (k3 _ _ h1) rfl rfl
  simp -implicitDefEqProofs (maxSteps := 1000000) (disch := first | omega | assumption) only [g3, g7, g12, g13, eqaI, and_self, eq_self, bff, btf, btt, bft, c0, c1, c2, d0, d1, d2, f1, f2, f3, f4, ev_ldn, l3, Sx, reduceIte, Nat.reduceEqDiff, reduceCtorEq, Nat.reduceAdd, Nat.reduceSub, Nat.reduceLT, decide_true, decide_false, Bool.not_true, Bool.not_false, Int.toNat_one, Int.toNat_zero, Nat.zero_mul, l_g, endK, gd_u]
  refine a_call rnew_spec ?_
  rintro e' H4 ⟨k4, hN4⟩
  rcases hN4 with ⟨-, rd, rfl, hrd, hmd⟩ | ⟨hc', rfl⟩
  rotate_left
  · exact absurd hc hc'
  have frd : H0 rd = none := (hK.trans k3).none hrd
  have ho3 := ho.keep k3
  have nod : ro ≠ rd := ho3.free hrd
  have n1d : r1 ≠ rd := Ne.symm (new_free (Keep.refl _) (k3 _ _ h1) hrd)
  simp -implicitDefEqProofs (maxSteps := 1000000) (disch := first | omega | assumption) only [g1, g3, g7, g9, Sx, reduceIte, Nat.reduceEqDiff, reduceCtorEq, Nat.reduceAdd, Nat.reduceSub, Nat.reduceLT, decide_true, decide_false, Bool.not_true, Bool.not_false, Int.toNat_one, Int.toNat_zero, Nat.zero_mul, l_g, endK, gd_u]
  refine c_loop (fun k env H' => Keep H0 H' ∧ H' r1 = some (.cells (qt q).toArray 23 (0, 0)) ∧ Ob H' ro C ∧ ∃ i, k + i = l.length ∧ Dm H' rd q (run q (at_ l) i).1 (run q (at_ l) i).2 ∧ (∀ j, j < i → code q (at_ l) j ≠ 180 ∧ code q (at_ l) j ≠ 182) ∧ env 1 = .slice A l.length c ∧ env 3 = .pointer (some ⟨r1, 0, none⟩) ∧ env 9 = .slice (some ⟨ro, 0, none⟩) l.length l.length ∧ env 16 = .pointer (some ⟨rd, 0, none⟩) ∧ env 18 = .int .i64 (i : Nat)) l.length ⟨(hK.trans k3).trans k4, k4 _ _ (k3 _ _ h1), ho3.keep k4, 0, by omega, hmd, fun j hj => absurd hj (by omega), by (first | exact True.intro | rfl | assumption), by (first | exact True.intro | rfl | assumption), by (first | exact True.intro | rfl | assumption), by (first | exact True.intro | rfl | assumption), by (first | exact True.intro | rfl | assumption)⟩ ?_
  rintro k env H5 ⟨k5, h15, ho5, i, hk, hd5, hno, g1, g3, g9, g16, g18⟩
  unfold L3_5
  by_cases hi : i < l.length
  · have f0 : decide ((i : Int) < (l.length : Int)) = true := decide_eq_true (by omega)
    obtain ⟨b0, rfl, hld, -⟩ := en_at (k5.row hr) hi
    have hx := at_lt hi
    have hxl : at_ l i ∈ l := by rw [hx]; exact List.getElem_mem _
    rw [← hx] at hld
    simp -implicitDefEqProofs (maxSteps := 1000000) (disch := first | omega | assumption) only [g1, g3, g9, g16, g18, f0, ev_ldn, hld, Sx, reduceIte, Nat.reduceEqDiff, reduceCtorEq, Nat.reduceAdd, Nat.reduceSub, Nat.reduceLT, decide_true, decide_false, Bool.not_true, Bool.not_false, Int.toNat_one, Int.toNat_zero, Nat.zero_mul, l_g, endK, gd_u]
    refine a_call (rtake_spec hd5 (run_ok hc wq i) (hwn _ hxl)) ?_
    rintro e' H6 ⟨rfl, hd6, a6⟩
    have k6 := keep1 k5 frd a6
    by_cases z0 : code q (at_ l) i = 180
    · have z1 : ((takeV q (run q (at_ l) i).1 (run q (at_ l) i).2 (at_ l i)).1 == 180) = true := by rw [beq_iff_eq]; exact z0
      simp -implicitDefEqProofs (maxSteps := 1000000) (disch := first | omega | assumption) only [g1, g3, g9, g16, g18, z1, Sx, reduceIte, Nat.reduceEqDiff, reduceCtorEq, Nat.reduceAdd, Nat.reduceSub, Nat.reduceLT, decide_true, decide_false, Bool.not_true, Bool.not_false, Int.toNat_one, Int.toNat_zero, Nat.zero_mul, l_g, endK, gd_u]
      exact ⟨by (first | exact True.intro | rfl | assumption), k6⟩
    have z1 : ((takeV q (run q (at_ l) i).1 (run q (at_ l) i).2 (at_ l i)).1 == 180) = false := by rw [beq_eq_false_iff_ne]; exact z0
    by_cases z2 : code q (at_ l) i = 182
    · have z3 : ((takeV q (run q (at_ l) i).1 (run q (at_ l) i).2 (at_ l i)).1 == 182) = true := by rw [beq_iff_eq]; exact z2
      simp -implicitDefEqProofs (maxSteps := 1000000) (disch := first | omega | assumption) only [g1, g3, g9, g16, g18, z1, z3, Sx, reduceIte, Nat.reduceEqDiff, reduceCtorEq, Nat.reduceAdd, Nat.reduceSub, Nat.reduceLT, decide_true, decide_false, Bool.not_true, Bool.not_false, Int.toNat_one, Int.toNat_zero, Nat.zero_mul, l_g, endK, gd_u]
      exact ⟨by (first | exact True.intro | rfl | assumption), k6⟩
    have z3 : ((takeV q (run q (at_ l) i).1 (run q (at_ l) i).2 (at_ l i)).1 == 182) = false := by rw [beq_eq_false_iff_ne]; exact z2
    simp -implicitDefEqProofs (maxSteps := 1000000) (disch := first | omega | assumption) only [g1, g3, g9, g16, g18, z1, z3, Sx, reduceIte, Nat.reduceEqDiff, reduceCtorEq, Nat.reduceAdd, Nat.reduceSub, Nat.reduceLT, decide_true, decide_false, Bool.not_true, Bool.not_false, Int.toNat_one, Int.toNat_zero, Nat.zero_mul, l_g, endK, gd_u]
    exact ⟨k - 1, by omega, k6, a6.oth _ _ h15 n1d, ho5.oth a6 nod, i + 1, by omega, hd6, fun j hj => by
      by_cases hj' : j < i
      · exact hno j hj'
      · rw [show j = i by omega]; exact ⟨z0, z2⟩, by (first | exact True.intro | rfl | assumption), by (first | exact True.intro | rfl | assumption), by (first | exact True.intro | rfl | assumption), by (first | exact True.intro | rfl | assumption), by (first | exact True.intro | rfl | assumption)⟩
  have f0 : decide ((i : Int) < (l.length : Int)) = false := decide_eq_false (by omega)
  obtain rfl : i = l.length := by omega
  have l5 := loadN_of (o := 0) (n := 3) (l := qt q) h15 rfl rfl
  simp -implicitDefEqProofs (maxSteps := 1000000) (disch := first | omega | assumption) only [g1, g3, g9, g16, g18, f0, ev_ldn, l5, Sx, reduceIte, Nat.reduceEqDiff, reduceCtorEq, Nat.reduceAdd, Nat.reduceSub, Nat.reduceLT, decide_true, decide_false, Bool.not_true, Bool.not_false, Int.toNat_one, Int.toNat_zero, Nat.zero_mul, l_g, endK, gd_u]
  refine a_call rnew_spec ?_
  rintro e' H6 ⟨k6, hN6⟩
  rcases hN6 with ⟨-, rd2, rfl, hrd2, hmd2⟩ | ⟨hc', rfl⟩
  rotate_left
  · exact absurd hc hc'
  have frd2 : H0 rd2 = none := k5.none hrd2
  have nod2 : ro ≠ rd2 := ho5.free hrd2
  simp -implicitDefEqProofs (maxSteps := 1000000) (disch := first | omega | assumption) only [g1, g3, g9, Sx, reduceIte, Nat.reduceEqDiff, reduceCtorEq, Nat.reduceAdd, Nat.reduceSub, Nat.reduceLT, decide_true, decide_false, Bool.not_true, Bool.not_false, Int.toNat_one, Int.toNat_zero, Nat.zero_mul, l_g, endK, gd_u]
  refine c_loop (fun k env H' => Keep H0 H' ∧ Ob H' ro C ∧ ∃ i, k + i = l.length ∧ Dm H' rd2 q (run q (at_ l) i).1 (run q (at_ l) i).2 ∧ env 1 = .slice A l.length c ∧ env 9 = .slice (some ⟨ro, 0, none⟩) l.length l.length ∧ env 16 = .pointer (some ⟨rd2, 0, none⟩) ∧ env 20 = .int .i64 (i : Nat)) l.length ⟨k5.trans k6, ho5.keep k6, 0, by omega, hmd2, by (first | exact True.intro | rfl | assumption), by (first | exact True.intro | rfl | assumption), by (first | exact True.intro | rfl | assumption), by (first | exact True.intro | rfl | assumption)⟩ ?_
  rintro k env H7 ⟨k7, ho7, i, hk, hd7, g1, g9, g16, g20⟩
  unfold L3_6
  by_cases hi : i < l.length
  · have f0 : decide ((i : Int) < (l.length : Int)) = true := decide_eq_true (by omega)
    obtain ⟨b0, rfl, hld, -⟩ := en_at (k7.row hr) hi
    have hx := at_lt hi
    have hxl : at_ l i ∈ l := by rw [hx]; exact List.getElem_mem _
    rw [← hx] at hld
    have hcl : C.length = l.length := ha.len
    have hcell := ho7.cell (i := i) (by omega)
    simp -implicitDefEqProofs (maxSteps := 1000000) (disch := first | omega | assumption) only [g1, g9, g16, g20, f0, ev_ldn, hld, hcell, l_qk, l_e, Sx, reduceIte, Nat.reduceEqDiff, reduceCtorEq, Nat.reduceAdd, Nat.reduceSub, Nat.reduceLT, decide_true, decide_false, Bool.not_true, Bool.not_false, Int.toNat_one, Int.toNat_zero, Nat.zero_mul, l_g, endK, gd_u]
    refine a_call (rtake_spec hd7 (run_ok hc wq i) (hwn _ hxl)) ?_
    rintro e' H8 ⟨rfl, hd8, a8⟩
    have ho8 := ho7.oth a8 nod2
    have hcell8 := ho8.cell (i := i) (by omega)
    refine ⟨fun z hz _ => ?_, ?_⟩
    · simp only [List.mem_cons, List.not_mem_nil, or_false] at hz
      subst hz
      simp -implicitDefEqProofs (maxSteps := 1000000) (disch := first | omega | assumption) only [hcell8, Sx, reduceIte, Nat.reduceEqDiff, reduceCtorEq, Nat.reduceAdd, Nat.reduceSub, Nat.reduceLT, decide_true, decide_false, Bool.not_true, Bool.not_false, Int.toNat_one, Int.toNat_zero, Nat.zero_mul, l_g, endK, gd_u]
    have hj := ha.just hc wq hno hi
    unfold code at hj
    obtain ⟨bb, hbb⟩ : ∃ bb, bb = ((takeV q (run q (at_ l) i).1 (run q (at_ l) i).2 (at_ l i)).1 == 0) := ⟨_, rfl⟩
    rw [← hbb] at hj
    have hbb' := hbb.symm
    have fb : (bb == bb) = true := by simp
    simp -implicitDefEqProofs (maxSteps := 1000000) (disch := first | omega | assumption) only [g1, g9, g16, g20, hj, hbb', fb, btt, bff, Sx, reduceIte, Nat.reduceEqDiff, reduceCtorEq, Nat.reduceAdd, Nat.reduceSub, Nat.reduceLT, decide_true, decide_false, Bool.not_true, Bool.not_false, Int.toNat_one, Int.toNat_zero, Nat.zero_mul, l_g, endK, gd_u]
    exact ⟨k - 1, by omega, keep1 k7 frd2 a8, ho8, i + 1, by omega, hd8, by (first | exact True.intro | rfl | assumption), by (first | exact True.intro | rfl | assumption), by (first | exact True.intro | rfl | assumption), by (first | exact True.intro | rfl | assumption)⟩
  have f0 : decide ((i : Int) < (l.length : Int)) = false := decide_eq_false (by omega)
  simp -implicitDefEqProofs (maxSteps := 1000000) (disch := first | omega | assumption) only [g1, g9, g16, g20, f0, Sx, reduceIte, Nat.reduceEqDiff, reduceCtorEq, Nat.reduceAdd, Nat.reduceSub, Nat.reduceLT, decide_true, decide_false, Bool.not_true, Bool.not_false, Int.toNat_one, Int.toNat_zero, Nat.zero_mul, l_g, endK, gd_u]
  exact ⟨by (first | exact True.intro | rfl | assumption), k7⟩
end Go.Proofs.YtmgpfdfbcnlocaaDoor.S18
