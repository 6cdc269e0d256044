/-
  QuotaAll: made, step.
-/
import Derived.Test.YtmgpfdfbcnlocaaDoorAll
import Derived.Test.YtmgpfdfbcnlocaaDoorLowS
set_option linter.unusedVariables false
set_option linter.unusedSimpArgs false
namespace Go.Proofs.YtmgpfdfbcnlocaaDoor.S18
open Go Go.RowKit Go.Proofs.YtmgpfdfbcnlocaaDoor.Sep Go.Proofs.YtmgpfdfbcnlocaaDoor.Low Go.Proofs.YtmgpfdfbcnlocaaDoor.Lib Go.Proofs.YtmgpfdfbcnlocaaDoor.S09

structure Op where
  k : Int
  x : En
def opc (o : Op) : List Value := .int .i64 o.k :: en o.x
theorem opc_len (o : Op) : (opc o).length = 13 := rfl
theorem opc_scalar (o : Op) : ∀ v ∈ opc o, scalarV v = true := by
  intro v hv
  rcases List.mem_cons.1 hv with rfl | hv
  · rfl
  · exact en_scalar _ v hv

/-- all else stays -/
def Fr (M D : Nat) (H H' : Heap) : Prop := ∀ k o, H k = some o → k ≠ M → k ≠ D → H' k = some o
theorem Fr.keep {M D : Nat} {H H' : Heap} (h : Keep H H') : Fr M D H H' := fun k o hk _ _ => h k o hk
theorem Fr.trans {M D : Nat} {H H1 H2 : Heap} (h : Fr M D H H1) (k : Fr M D H1 H2) : Fr M D H H2 := fun j o hj h1 h2 => k j o (h j o hj h1 h2) h1 h2
theorem Fr.l {M D : Nat} {H H' : Heap} (h : At1 M H H') : Fr M D H H' := fun k o hk h1 _ => h.oth k o hk h1
theorem Fr.r {M D : Nat} {H H' : Heap} (h : At1 D H H') : Fr M D H H' := fun k o hk _ h2 => h.oth k o hk h2

set_option maxHeartbeats 4000000 in
theorem step_spec {H : Heap} {P M D : Nat} {q : Qt} {b e : Int} {o : Op} (h : Pr H P M D q b e) (wx : Wn o.x) (wk : i64 o.k) : ACalls Tryd.prog 17 [Value.pointer (some ⟨P, 0, none⟩), .agg (opc o).toArray].toArray H fun e' H' => e' = .returned (.bool true) ∧ Fr M D H H' ∧ ∃ b' e', Pr H' P M D q b' e' := by
  refine call17 (Nat.le_of_ble_eq_true rfl) ?_
  unfold L17 env0
  simp -implicitDefEqProofs (maxSteps := 1000000) (disch := first | omega | assumption) only [Sx, reduceIte, Nat.reduceEqDiff, reduceCtorEq, Nat.reduceAdd, Nat.reduceSub, Nat.reduceLT, decide_true, decide_false, Bool.not_true, Bool.not_false, Int.toNat_one, Int.toNat_zero, Nat.zero_mul, l_g, endK, gd_u]
  refine a_box fun r1 hr1 => ?_
  obtain ⟨H1, k1, hb1, e1⟩ : ∃ H1, Keep H H1 ∧ H1 r1 = some (.cells (opc o).toArray 55 (0, 0)) ∧ H.set r1 (.cells (Value.agg (opc o).toArray).cells 55 (0, 0)) = H1 := ⟨_, (Keep.refl _).set_new hr1, set_same, rfl⟩
  rw [e1]
  have n1m := new_free (Keep.refl _) h.m hr1
  have n1d := new_free (Keep.refl _) h.d hr1
  have h1 := h.keep k1
  have hld : ∀ H' : Heap, H' r1 = some (.cells (opc o).toArray 55 (0, 0)) → H'.loadN ⟨r1, 1, none⟩ 0 12 = some (en o.x) := fun H' hh => loadN_of (o := 1) (n := 12) (l := en o.x) hh rfl rfl
  have hck : H1.cell? ⟨r1, 0, none⟩ = some (.int .i64 o.k) := by rw [cell_of hb1]; rfl
  obtain ⟨c0, c1⟩ := h1.cells
  by_cases hk0 : o.k = 0
  · have f0 : (o.k == 0) = true := by rw [beq_iff_eq]; exact hk0
    have l1 := hld _ hb1
    simp -implicitDefEqProofs (maxSteps := 1000000) (disch := first | omega | assumption) only [hck, f0, c0, c1, ev_nilc, ev_ldn, l1, l_qk, l_e, Sx, reduceIte, Nat.reduceEqDiff, reduceCtorEq, Nat.reduceAdd, Nat.reduceSub, Nat.reduceLT, decide_true, decide_false, Bool.not_true, Bool.not_false, Int.toNat_one, Int.toNat_zero, Nat.zero_mul, l_g, endK, gd_u]
    refine a_call (take_spec h1.m h1.ok wx) ?_
    rintro e' H2 ⟨rfl, hm2, a2⟩
    have hd2 := dm_oth2 a2 h1.d (Ne.symm h.md)
    have hp2 := a2.oth _ _ h1.p h.pm
    have hb2 := a2.oth _ _ hb1 n1m
    have l2 := hld _ hb2
    have c2 : H2.cell? ⟨P, 1, none⟩ = some (.pointer (some ⟨D, 0, none⟩)) := by rw [cell_of hp2]; rfl
    refine ⟨fun z hz _ => ?_, ?_⟩
    · simp only [List.mem_cons, List.not_mem_nil, or_false] at hz
      rcases hz with rfl | rfl <;> simp -implicitDefEqProofs (maxSteps := 1000000) (disch := first | omega | assumption) only [c2, ev_ldn, l2, Sx, reduceIte, Nat.reduceEqDiff, reduceCtorEq, Nat.reduceAdd, Nat.reduceSub, Nat.reduceLT, decide_true, decide_false, Bool.not_true, Bool.not_false, Int.toNat_one, Int.toNat_zero, Nat.zero_mul, l_g, endK, gd_u]
    try simp -implicitDefEqProofs (maxSteps := 1000000) (disch := first | omega | assumption) only [Sx, reduceIte, Nat.reduceEqDiff, reduceCtorEq, Nat.reduceAdd, Nat.reduceSub, Nat.reduceLT, decide_true, decide_false, Bool.not_true, Bool.not_false, Int.toNat_one, Int.toNat_zero, Nat.zero_mul, l_g, endK, gd_u]
    refine a_call (rtake_spec hd2 h1.ok wx) ?_
    rintro e' H3 ⟨rfl, hd3, a3⟩
    refine ⟨fun z _ h => absurd h List.not_mem_nil, ?_⟩
    have fe : ((takeV q b e o.x).1 == (takeV q b e o.x).1) = true := by simp
    try simp -implicitDefEqProofs (maxSteps := 1000000) (disch := first | omega | assumption) only [fe, Sx, reduceIte, Nat.reduceEqDiff, reduceCtorEq, Nat.reduceAdd, Nat.reduceSub, Nat.reduceLT, decide_true, decide_false, Bool.not_true, Bool.not_false, Int.toNat_one, Int.toNat_zero, Nat.zero_mul, l_g, endK, gd_u]
    exact ⟨by (first | exact True.intro | rfl | assumption), ((Fr.keep k1).trans (Fr.l a2)).trans (Fr.r a3), _, _, ⟨a3.oth _ _ hp2 h.pd, a3.oth _ _ hm2 h.md, hd3, h.ok.take _, h.pm, h.pd, h.md⟩⟩
  have f0 : (o.k == 0) = false := by rw [beq_eq_false_iff_ne]; exact hk0
  by_cases hk1 : o.k = 1
  · have f1 : (o.k == 1) = true := by rw [beq_iff_eq]; exact hk1
    have l1 := hld _ hb1
    simp -implicitDefEqProofs (maxSteps := 1000000) (disch := first | omega | assumption) only [hck, f0, f1, c0, c1, ev_nilc, ev_ldn, l1, l_qk, l_e, Sx, reduceIte, Nat.reduceEqDiff, reduceCtorEq, Nat.reduceAdd, Nat.reduceSub, Nat.reduceLT, decide_true, decide_false, Bool.not_true, Bool.not_false, Int.toNat_one, Int.toNat_zero, Nat.zero_mul, l_g, endK, gd_u]
    refine a_call (back_spec h1.m h1.ok wx) ?_
    rintro e' H2 ⟨rfl, hm2, a2⟩
    have hd2 := dm_oth2 a2 h1.d (Ne.symm h.md)
    have hp2 := a2.oth _ _ h1.p h.pm
    have hb2 := a2.oth _ _ hb1 n1m
    have l2 := hld _ hb2
    have c2 : H2.cell? ⟨P, 1, none⟩ = some (.pointer (some ⟨D, 0, none⟩)) := by rw [cell_of hp2]; rfl
    refine ⟨fun z hz _ => ?_, ?_⟩
    · simp only [List.mem_cons, List.not_mem_nil, or_false] at hz
      rcases hz with rfl | rfl <;> simp -implicitDefEqProofs (maxSteps := 1000000) (disch := first | omega | assumption) only [c2, ev_ldn, l2, Sx, reduceIte, Nat.reduceEqDiff, reduceCtorEq, Nat.reduceAdd, Nat.reduceSub, Nat.reduceLT, decide_true, decide_false, Bool.not_true, Bool.not_false, Int.toNat_one, Int.toNat_zero, Nat.zero_mul, l_g, endK, gd_u]
    try simp -implicitDefEqProofs (maxSteps := 1000000) (disch := first | omega | assumption) only [Sx, reduceIte, Nat.reduceEqDiff, reduceCtorEq, Nat.reduceAdd, Nat.reduceSub, Nat.reduceLT, decide_true, decide_false, Bool.not_true, Bool.not_false, Int.toNat_one, Int.toNat_zero, Nat.zero_mul, l_g, endK, gd_u]
    refine a_call (rback_spec hd2 h1.ok wx) ?_
    rintro e' H3 ⟨rfl, hd3, a3⟩
    refine ⟨fun z _ h => absurd h List.not_mem_nil, ?_⟩
    have fe : ((backV b e o.x).1 == (backV b e o.x).1) = true := by simp
    try simp -implicitDefEqProofs (maxSteps := 1000000) (disch := first | omega | assumption) only [fe, Sx, reduceIte, Nat.reduceEqDiff, reduceCtorEq, Nat.reduceAdd, Nat.reduceSub, Nat.reduceLT, decide_true, decide_false, Bool.not_true, Bool.not_false, Int.toNat_one, Int.toNat_zero, Nat.zero_mul, l_g, endK, gd_u]
    exact ⟨by (first | exact True.intro | rfl | assumption), ((Fr.keep k1).trans (Fr.l a2)).trans (Fr.r a3), _, _, ⟨a3.oth _ _ hp2 h.pd, a3.oth _ _ hm2 h.md, hd3, h.ok.back _, h.pm, h.pd, h.md⟩⟩
  have f1 : (o.k == 1) = false := by rw [beq_eq_false_iff_ne]; exact hk1
  simp -implicitDefEqProofs (maxSteps := 1000000) (disch := first | omega | assumption) only [hck, f0, f1, Sx, reduceIte, Nat.reduceEqDiff, reduceCtorEq, Nat.reduceAdd, Nat.reduceSub, Nat.reduceLT, decide_true, decide_false, Bool.not_true, Bool.not_false, Int.toNat_one, Int.toNat_zero, Nat.zero_mul, l_g, endK, gd_u]
  refine a_call (tells_spec h1) ?_
  rintro e' H2 ⟨rfl, k2⟩
  simp -implicitDefEqProofs (maxSteps := 1000000) (disch := first | omega | assumption) only [Sx, reduceIte, Nat.reduceEqDiff, reduceCtorEq, Nat.reduceAdd, Nat.reduceSub, Nat.reduceLT, decide_true, decide_false, Bool.not_true, Bool.not_false, Int.toNat_one, Int.toNat_zero, Nat.zero_mul, l_g, endK, gd_u]
  exact ⟨by (first | exact True.intro | rfl | assumption), Fr.keep (k1.trans k2), _, _, h1.keep k2⟩

theorem eff : (false == false) = true := rfl
theorem ett : (true == true) = true := rfl
/-- what made answers -/
def MadeOk (q : Qt) (H : Heap) (e' : Ending) (H' : Heap) : Prop := Keep H H' ∧ ∃ P, e' = .returned (.tuple #[.pointer (some ⟨P, 0, none⟩), .bool true]) ∧ H P = none ∧
  ((can q ∧ ∃ M D, H M = none ∧ H D = none ∧ Pr H' P M D q 0 0) ∨ (¬ can q ∧ H' P = some (.cells #[.pointer none, .pointer none] 52 (0, 0))))
theorem ok00 {q : Qt} (hc : can q) (wq : Wq q) : Okm q 0 0 := ⟨hc, wq, ⟨Int.le_refl _, hc.1⟩, ⟨Int.le_refl _, hc.2.1⟩⟩
set_option maxHeartbeats 4000000 in
theorem made_spec {H : Heap} {q : Qt} (wq : Wq q) : ACalls Tryd.prog 16 [Value.agg (qt q).toArray].toArray H fun e' H' => MadeOk q H e' H' := by
  refine call16 (Nat.le_of_ble_eq_true rfl) ?_
  unfold L16 env0
  simp -implicitDefEqProofs (maxSteps := 1000000) (disch := first | omega | assumption) only [Sx, reduceIte, Nat.reduceEqDiff, reduceCtorEq, Nat.reduceAdd, Nat.reduceSub, Nat.reduceLT, decide_true, decide_false, Bool.not_true, Bool.not_false, Int.toNat_one, Int.toNat_zero, Nat.zero_mul, l_g, endK, gd_u]
  refine a_box fun r1 hr1 => ?_
  obtain ⟨H1, hH1, k1, hb1⟩ := qbox (q := q) hr1
  rw [show H.set r1 (.cells (Value.agg (qt q).toArray).cells 23 (0, 0)) = H1 from hH1.symm]
  have lq : ∀ H' : Heap, H' r1 = some (.cells (qt q).toArray 23 (0, 0)) → H'.loadN ⟨r1, 0, none⟩ 0 3 = some (qt q) := fun H' hh => loadN_of (o := 0) (n := 3) (l := qt q) hh rfl rfl
  have l1 := lq _ hb1
  simp -implicitDefEqProofs (maxSteps := 1000000) (disch := first | omega | assumption) only [ev_ldn, l1, Sx, reduceIte, Nat.reduceEqDiff, reduceCtorEq, Nat.reduceAdd, Nat.reduceSub, Nat.reduceLT, decide_true, decide_false, Bool.not_true, Bool.not_false, Int.toNat_one, Int.toNat_zero, Nat.zero_mul, l_g, endK, gd_u]
  refine a_call new_spec ?_
  rintro e' H2 ⟨k2, hN2⟩
  have l2 := lq _ (k2 _ _ hb1)
  have k2' := k1.trans k2
  rcases hN2 with ⟨hc, M, rfl, hrm, hm2⟩ | ⟨hc, rfl⟩
  · simp -implicitDefEqProofs (maxSteps := 1000000) (disch := first | omega | assumption) only [ev_ldn, l2, Sx, reduceIte, Nat.reduceEqDiff, reduceCtorEq, Nat.reduceAdd, Nat.reduceSub, Nat.reduceLT, decide_true, decide_false, Bool.not_true, Bool.not_false, Int.toNat_one, Int.toNat_zero, Nat.zero_mul, l_g, endK, gd_u]
    refine a_call rnew_spec ?_
    rintro e' H3 ⟨k3, hN3⟩
    rcases hN3 with ⟨-, D, rfl, hrd, hd3⟩ | ⟨hc', -⟩
    rotate_left
    · exact absurd hc hc'
    have l3 := lq _ (k3 _ _ (k2 _ _ hb1))
    have k3' := k2'.trans k3
    simp -implicitDefEqProofs (maxSteps := 1000000) (disch := first | omega | assumption) only [n00, e00, bff, eff, ett, btf, ev_ldn, l3, l_qk, l_e, Sx, reduceIte, Nat.reduceEqDiff, reduceCtorEq, Nat.reduceAdd, Nat.reduceSub, Nat.reduceLT, decide_true, decide_false, Bool.not_true, Bool.not_false, Int.toNat_one, Int.toNat_zero, Nat.zero_mul, l_g, endK, gd_u]
    refine a_call (outer_spec wq) ?_
    rintro e' H4 ⟨rfl, k4⟩
    have l4 := lq _ (k4 _ _ (k3 _ _ (k2 _ _ hb1)))
    refine ⟨fun z hz _ => ?_, ?_⟩
    · simp only [List.mem_cons, List.not_mem_nil, or_false] at hz
      subst hz
      simp -implicitDefEqProofs (maxSteps := 1000000) (disch := first | omega | assumption) only [ev_ldn, l4, Sx, reduceIte, Nat.reduceEqDiff, reduceCtorEq, Nat.reduceAdd, Nat.reduceSub, Nat.reduceLT, decide_true, decide_false, Bool.not_true, Bool.not_false, Int.toNat_one, Int.toNat_zero, Nat.zero_mul, l_g, endK, gd_u]
    try simp -implicitDefEqProofs (maxSteps := 1000000) (disch := first | omega | assumption) only [Sx, reduceIte, Nat.reduceEqDiff, reduceCtorEq, Nat.reduceAdd, Nat.reduceSub, Nat.reduceLT, decide_true, decide_false, Bool.not_true, Bool.not_false, Int.toNat_one, Int.toNat_zero, Nat.zero_mul, l_g, endK, gd_u]
    refine a_call (router_spec wq) ?_
    rintro e' H5 ⟨rfl, k5⟩
    refine ⟨fun z _ h => absurd h List.not_mem_nil, ?_⟩
    have fe : (outerV q == outerV q) = true := by simp
    try simp -implicitDefEqProofs (maxSteps := 1000000) (disch := first | omega | assumption) only [fe, l_qk, l_e, Sx, reduceIte, Nat.reduceEqDiff, reduceCtorEq, Nat.reduceAdd, Nat.reduceSub, Nat.reduceLT, decide_true, decide_false, Bool.not_true, Bool.not_false, Int.toNat_one, Int.toNat_zero, Nat.zero_mul, l_g, endK, gd_u]
    refine a_box fun P hP => ?_
    refine ⟨fun z _ h => absurd h List.not_mem_nil, ?_⟩
    try simp -implicitDefEqProofs (maxSteps := 1000000) (disch := first | omega | assumption) only [Sx, reduceIte, Nat.reduceEqDiff, reduceCtorEq, Nat.reduceAdd, Nat.reduceSub, Nat.reduceLT, decide_true, decide_false, Bool.not_true, Bool.not_false, Int.toNat_one, Int.toNat_zero, Nat.zero_mul, l_g, endK, gd_u]
    have k5' := (k3'.trans k4).trans k5
    have hm5 := k5 _ _ (k4 _ _ (k3 _ _ hm2))
    have hd5 := k5 _ _ (k4 _ _ hd3)
    refine ⟨k5'.set_new hP, P, by (first | exact True.intro | rfl | assumption), k5'.none hP, .inl ⟨hc, M, D, k1.none hrm, k2'.none hrd, ⟨set_same, by show (H5.set P _) M = _; rw [set_other (Ne.symm (new_free (Keep.refl _) hm5 hP))]; exact hm5, by show (H5.set P _) D = _; rw [set_other (Ne.symm (new_free (Keep.refl _) hd5 hP))]; exact hd5, ok00 hc wq, new_free (Keep.refl _) hm5 hP, new_free (Keep.refl _) hd5 hP, Ne.symm (new_free (Keep.refl _) hm2 hrd)⟩⟩⟩
  · simp -implicitDefEqProofs (maxSteps := 1000000) (disch := first | omega | assumption) only [ev_ldn, l2, Sx, reduceIte, Nat.reduceEqDiff, reduceCtorEq, Nat.reduceAdd, Nat.reduceSub, Nat.reduceLT, decide_true, decide_false, Bool.not_true, Bool.not_false, Int.toNat_one, Int.toNat_zero, Nat.zero_mul, l_g, endK, gd_u]
    refine a_call rnew_spec ?_
    rintro e' H3 ⟨k3, hN3⟩
    rcases hN3 with ⟨hc', -⟩ | ⟨-, rfl⟩
    · exact absurd hc' hc
    have l3 := lq _ (k3 _ _ (k2 _ _ hb1))
    have k3' := k2'.trans k3
    simp -implicitDefEqProofs (maxSteps := 1000000) (disch := first | omega | assumption) only [n01, e11, eff, ett, bff, Option.isNone_none, btf, btt, bft, ev_ldn, l3, l_qk, l_e, Sx, reduceIte, Nat.reduceEqDiff, reduceCtorEq, Nat.reduceAdd, Nat.reduceSub, Nat.reduceLT, decide_true, decide_false, Bool.not_true, Bool.not_false, Int.toNat_one, Int.toNat_zero, Nat.zero_mul, l_g, endK, gd_u]
    refine a_call (outer_spec wq) ?_
    rintro e' H4 ⟨rfl, k4⟩
    have l4 := lq _ (k4 _ _ (k3 _ _ (k2 _ _ hb1)))
    refine ⟨fun z hz _ => ?_, ?_⟩
    · simp only [List.mem_cons, List.not_mem_nil, or_false] at hz
      subst hz
      simp -implicitDefEqProofs (maxSteps := 1000000) (disch := first | omega | assumption) only [ev_ldn, l4, Sx, reduceIte, Nat.reduceEqDiff, reduceCtorEq, Nat.reduceAdd, Nat.reduceSub, Nat.reduceLT, decide_true, decide_false, Bool.not_true, Bool.not_false, Int.toNat_one, Int.toNat_zero, Nat.zero_mul, l_g, endK, gd_u]
    try simp -implicitDefEqProofs (maxSteps := 1000000) (disch := first | omega | assumption) only [Sx, reduceIte, Nat.reduceEqDiff, reduceCtorEq, Nat.reduceAdd, Nat.reduceSub, Nat.reduceLT, decide_true, decide_false, Bool.not_true, Bool.not_false, Int.toNat_one, Int.toNat_zero, Nat.zero_mul, l_g, endK, gd_u]
    refine a_call (router_spec wq) ?_
    rintro e' H5 ⟨rfl, k5⟩
    refine ⟨fun z _ h => absurd h List.not_mem_nil, ?_⟩
    have fe : (outerV q == outerV q) = true := by simp
    try simp -implicitDefEqProofs (maxSteps := 1000000) (disch := first | omega | assumption) only [fe, l_qk, l_e, Sx, reduceIte, Nat.reduceEqDiff, reduceCtorEq, Nat.reduceAdd, Nat.reduceSub, Nat.reduceLT, decide_true, decide_false, Bool.not_true, Bool.not_false, Int.toNat_one, Int.toNat_zero, Nat.zero_mul, l_g, endK, gd_u]
    refine a_box fun P hP => ?_
    refine ⟨fun z _ h => absurd h List.not_mem_nil, ?_⟩
    try simp -implicitDefEqProofs (maxSteps := 1000000) (disch := first | omega | assumption) only [Sx, reduceIte, Nat.reduceEqDiff, reduceCtorEq, Nat.reduceAdd, Nat.reduceSub, Nat.reduceLT, decide_true, decide_false, Bool.not_true, Bool.not_false, Int.toNat_one, Int.toNat_zero, Nat.zero_mul, l_g, endK, gd_u]
    have k5' := (k3'.trans k4).trans k5
    exact ⟨k5'.set_new hP, P, by (first | exact True.intro | rfl | assumption), k5'.none hP, .inr ⟨hc, set_same⟩⟩
end Go.Proofs.YtmgpfdfbcnlocaaDoor.S18
