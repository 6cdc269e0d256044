/-
  QuotaAll.
-/
import Derived.Test.YtmgpfdfbcnlocaaDoorAll2
import Derived.Test.YtmgpfdfbcnlocaaDoorQLaw
import Derived.Test.YtmgpfdfbcnlocaaDoorOpnEn
set_option linter.unusedVariables false
set_option linter.unusedSimpArgs false
namespace Go.Proofs.YtmgpfdfbcnlocaaDoor.S18
open Go Go.RowKit Go.Proofs.YtmgpfdfbcnlocaaDoor.Sep Go.Proofs.YtmgpfdfbcnlocaaDoor.Low Go.Proofs.YtmgpfdfbcnlocaaDoor.Lib Go.Proofs.YtmgpfdfbcnlocaaDoor.S09

theorem Pr.fr {H H' : Heap} {P M D M' D' : Nat} {q : Qt} {b e : Int} (h : Pr H P M D q b e) (k : Fr M' D' H H') (h1 : P ≠ M') (h2 : P ≠ D') (h3 : M ≠ M') (h4 : M ≠ D') (h5 : D ≠ M') (h6 : D ≠ D') : Pr H' P M D q b e := ⟨k _ _ h.p h1 h2, k _ _ h.m h3 h4, k _ _ h.d h5 h6, h.ok, h.pm, h.pd, h.md⟩
abbrev ops (l : List Op) : List Value := encs opc l
theorem op_at {H : Heap} {A : Option Addr} {l : List Op} (h : Row H A (ops l)) {i : Nat} (hi : i < l.length) :
    ∃ b, A = some b ∧ H.loadN (b.add (i * 13)) 0 13 = some (opc l[i]) ∧ (∀ j v, (opc l[i])[j]? = some v → H.cell? ((b.add (i * 13)).add j) = some v) := elemR opc_len (by decide) h hi
set_option maxHeartbeats 4000000 in
/-- one step on a meter of both -/
theorem all_one {H : Heap} {Q : Post} {QP : List PanicEntry → Heap → Prop} {env : Env} {P M D : Nat} {q : Qt} {b e : Int} {A : Option Addr} {c i : Nat} {l : List Op} (h : Pr H P M D q b e) (hr : Row H A (ops l)) (hi : i < l.length) (wx : Wn l[i].x) (wk : i64 l[i].k)
    (g2 : env 2 = .slice A l.length c) (g13 : env 13 = .int .i64 (i : Nat)) (g14 : env 14 = .pointer (some ⟨P, 0, none⟩))
    (hQ : ∀ env' H' b' e', env' 2 = env 2 → env' 3 = env 3 → env' 9 = env 9 → env' 11 = env 11 → env' 13 = env 13 → Fr M D H H' → Pr H' P M D q b' e' → Q .normal env' H') :
    awpC Tryd.prog L6_0 Q QP env H := by
  obtain ⟨ba, rfl, hld, -⟩ := op_at hr hi
  unfold L6_0
  simp -implicitDefEqProofs (maxSteps := 1000000) (disch := first | omega | assumption) only [g2, g13, g14, ev_ldn, hld, Sx, reduceIte, Nat.reduceEqDiff, reduceCtorEq, Nat.reduceAdd, Nat.reduceSub, Nat.reduceLT, decide_true, decide_false, Bool.not_true, Bool.not_false, Int.toNat_one, Int.toNat_zero, Nat.zero_mul, l_g, endK, gd_u]
  refine a_call (step_spec h wx wk) ?_
  rintro e' H1 ⟨rfl, f1, b', e', h1⟩
  simp -implicitDefEqProofs (maxSteps := 1000000) (disch := first | omega | assumption) only [g2, g13, g14, Sx, reduceIte, Nat.reduceEqDiff, reduceCtorEq, Nat.reduceAdd, Nat.reduceSub, Nat.reduceLT, decide_true, decide_false, Bool.not_true, Bool.not_false, Int.toNat_one, Int.toNat_zero, Nat.zero_mul, l_g, endK, gd_u]
  refine a_call (tells_spec h1) ?_
  rintro e' H2 ⟨rfl, k2⟩
  simp -implicitDefEqProofs (maxSteps := 1000000) (disch := first | omega | assumption) only [Sx, reduceIte, Nat.reduceEqDiff, reduceCtorEq, Nat.reduceAdd, Nat.reduceSub, Nat.reduceLT, decide_true, decide_false, Bool.not_true, Bool.not_false, Int.toNat_one, Int.toNat_zero, Nat.zero_mul, l_g, endK, gd_u]
  exact hQ _ _ _ _ (by (first | exact True.intro | rfl | assumption)) (by (first | exact True.intro | rfl | assumption)) (by (first | exact True.intro | rfl | assumption)) (by (first | exact True.intro | rfl | assumption)) (by (first | exact True.intro | rfl | assumption)) (f1.trans (Fr.keep k2)) (h1.keep k2)

set_option maxHeartbeats 8000000 in
theorem all_walk {H : Heap} {A B : Option Addr} {c d : Nat} {l : List Op} {on : List Bool} {q q' : Qt} (wq : Wq q) (wq' : Wq q') (hr : Row H A (ops l)) (hw : ∀ o ∈ l, Wn o.x ∧ i64 o.k) (hl : l.length ≤ 1048576) (hcl : l.length ≤ c) (hb : Row H B (on.map .bool)) (hol : on.length ≤ 1048576) (hcd : on.length ≤ d) :
    ACalls Tryd.prog 6 [Value.agg (qt q).toArray, .agg (qt q').toArray, .slice A l.length c, .slice B on.length d].toArray H fun e' H' => e' = .returned (.bool true) ∧ Keep H H' := by
  refine call6 (Nat.le_of_ble_eq_true rfl) ?_
  unfold L6 env0
  simp -implicitDefEqProofs (maxSteps := 1000000) (disch := first | omega | assumption) only [Sx, reduceIte, Nat.reduceEqDiff, reduceCtorEq, Nat.reduceAdd, Nat.reduceSub, Nat.reduceLT, decide_true, decide_false, Bool.not_true, Bool.not_false, Int.toNat_one, Int.toNat_zero, Nat.zero_mul, l_g, endK, gd_u]
  refine a_box fun r1 hr1 => ?_
  obtain ⟨H1, hH1, k1, hb1⟩ := qbox (q := q) hr1
  rw [show H.set r1 (.cells (Value.agg (qt q).toArray).cells 23 (0, 0)) = H1 from hH1.symm]
  try simp -implicitDefEqProofs (maxSteps := 1000000) (disch := first | omega | assumption) only [Sx, reduceIte, Nat.reduceEqDiff, reduceCtorEq, Nat.reduceAdd, Nat.reduceSub, Nat.reduceLT, decide_true, decide_false, Bool.not_true, Bool.not_false, Int.toNat_one, Int.toNat_zero, Nat.zero_mul, l_g, endK, gd_u]
  refine a_box fun r2 hr2 => ?_
  obtain ⟨H2, hH2, k2, hb2⟩ := qbox (q := q') hr2
  rw [show H1.set r2 (.cells (Value.agg (qt q').toArray).cells 23 (0, 0)) = H2 from hH2.symm]
  have l1 := loadN_of (o := 0) (n := 3) (l := qt q) (k2 _ _ hb1) rfl rfl
  have k2' := k1.trans k2
  simp -implicitDefEqProofs (maxSteps := 1000000) (disch := first | omega | assumption) only [ev_ldn, l1, Sx, reduceIte, Nat.reduceEqDiff, reduceCtorEq, Nat.reduceAdd, Nat.reduceSub, Nat.reduceLT, decide_true, decide_false, Bool.not_true, Bool.not_false, Int.toNat_one, Int.toNat_zero, Nat.zero_mul, l_g, endK, gd_u]
  refine a_call (made_spec wq) ?_
  rintro e' H3 ⟨k3, P, rfl, hP, hX⟩
  have l2 := loadN_of (o := 0) (n := 3) (l := qt q') (k3 _ _ hb2) rfl rfl
  have k3' := k2'.trans k3
  simp -implicitDefEqProofs (maxSteps := 1000000) (disch := first | omega | assumption) only [ev_ldn, l2, Sx, reduceIte, Nat.reduceEqDiff, reduceCtorEq, Nat.reduceAdd, Nat.reduceSub, Nat.reduceLT, decide_true, decide_false, Bool.not_true, Bool.not_false, Int.toNat_one, Int.toNat_zero, Nat.zero_mul, l_g, endK, gd_u]
  refine a_call (made_spec wq') ?_
  rintro e' H4 ⟨k4, P', rfl, hP', hY⟩
  have k4' := k3'.trans k4
  rcases hX with ⟨hc, M, D, hM, hD, hx⟩ | ⟨hc, hx⟩
  rotate_left
  · have c0 : H4.cell? ⟨P, 0, none⟩ = some (.pointer none) := by rw [cell_of (k4 _ _ hx)]; rfl
    simp -implicitDefEqProofs (maxSteps := 1000000) (disch := first | omega | assumption) only [c0, ev_nilc, bff, btf, btt, bft, Option.isNone_none, Sx, reduceIte, Nat.reduceEqDiff, reduceCtorEq, Nat.reduceAdd, Nat.reduceSub, Nat.reduceLT, decide_true, decide_false, Bool.not_true, Bool.not_false, Int.toNat_one, Int.toNat_zero, Nat.zero_mul, l_g, endK, gd_u]
    exact ⟨by (first | exact True.intro | rfl | assumption), k4'⟩
  have hx3 := hx
  have hx := hx.keep k4
  obtain ⟨c0, -⟩ := hx.cells
  rcases hY with ⟨hc', M', D', hM', hD', hy⟩ | ⟨hc', hy⟩
  rotate_left
  · have c2 : H4.cell? ⟨P', 0, none⟩ = some (.pointer none) := by rw [cell_of hy]; rfl
    simp -implicitDefEqProofs (maxSteps := 1000000) (disch := first | omega | assumption) only [c0, c2, ev_nilc, bff, btf, btt, bft, Option.isNone_none, Sx, reduceIte, Nat.reduceEqDiff, reduceCtorEq, Nat.reduceAdd, Nat.reduceSub, Nat.reduceLT, decide_true, decide_false, Bool.not_true, Bool.not_false, Int.toNat_one, Int.toNat_zero, Nat.zero_mul, l_g, endK, gd_u]
    exact ⟨by (first | exact True.intro | rfl | assumption), k4'⟩
  obtain ⟨c2, -⟩ := hy.cells
  have ne : ∀ {u v : Nat} {o : Obj}, H3 u = some o → H3 v = none → v ≠ u := fun {u v o} h1 h2 => by rintro rfl; rw [h2] at h1; cases h1
  have fM := k2'.none hM
  have fD := k2'.none hD
  have fM' := k3'.none hM'
  have fD' := k3'.none hD'
  have frk : ∀ {H5 H6 : Heap} {m d : Nat}, H m = none → H d = none → Keep H H5 → Fr m d H5 H6 → Keep H H6 := fun {H5 H6 m d} h1 h2 hk hf k o hko => hf k o (hk k o hko) (by rintro rfl; rw [h1] at hko; cases hko) (by rintro rfl; rw [h2] at hko; cases hko)
  simp -implicitDefEqProofs (maxSteps := 1000000) (disch := first | omega | assumption) only [c0, c2, ev_nilc, bff, btf, btt, bft, Sx, reduceIte, Nat.reduceEqDiff, reduceCtorEq, Nat.reduceAdd, Nat.reduceSub, Nat.reduceLT, decide_true, decide_false, Bool.not_true, Bool.not_false, Int.toNat_one, Int.toNat_zero, Nat.zero_mul, l_g, endK, gd_u]
  refine c_loop (fun k env H' => Keep H H' ∧ ∃ i b e b' e', k + i = l.length ∧ Pr H' P M D q b e ∧ Pr H' P' M' D' q' b' e' ∧ env 2 = .slice A l.length c ∧ env 3 = .slice B on.length d ∧ env 9 = .pointer (some ⟨P, 0, none⟩) ∧ env 11 = .pointer (some ⟨P', 0, none⟩) ∧ env 13 = .int .i64 (i : Nat)) l.length ⟨k4', 0, 0, 0, 0, 0, by omega, hx, hy, by (first | exact True.intro | rfl | assumption), by (first | exact True.intro | rfl | assumption), by (first | exact True.intro | rfl | assumption), by (first | exact True.intro | rfl | assumption), by (first | exact True.intro | rfl | assumption)⟩ ?_
  rintro k env H5 ⟨k5, i, b, e, b', e', hk, hx5, hy5, g2, g3, g9, g11, g13⟩
  unfold L6_2
  by_cases hi : i < l.length
  · have f0 : decide ((i : Int) < (l.length : Int)) = true := decide_eq_true (by omega)
    obtain ⟨wx, wk⟩ := hw _ (List.getElem_mem hi)
    have first : ∀ (Q : Post) (QP : List PanicEntry → Heap → Prop) (env : Env), env 2 = .slice A l.length c → env 13 = .int .i64 (i : Nat) → env 14 = .pointer (some ⟨P, 0, none⟩) →
        (∀ env' H' b e, env' 2 = env 2 → env' 3 = env 3 → env' 9 = env 9 → env' 11 = env 11 → env' 13 = env 13 → Keep H H' → Pr H' P M D q b e → Pr H' P' M' D' q' b' e' → Q .normal env' H') → awpC Tryd.prog L6_0 Q QP env H5 := by
      intro Q QP env z2 z13 z14 hQ
      refine all_one hx5 (k5.row hr) hi wx wk z2 z13 z14 ?_
      intro env' H' b1 e1 y2 y3 y9 y11 y13 hf hp
      exact hQ env' H' b1 e1 y2 y3 y9 y11 y13 (frk fM fD k5 hf) hp (hy5.fr hf (ne hx3.m hP') (ne hx3.d hP') (ne hx3.m hM') (ne hx3.d hM') (ne hx3.m hD') (ne hx3.d hD'))
    have second : ∀ (Q : Post) (QP : List PanicEntry → Heap → Prop) (env : Env), env 2 = .slice A l.length c → env 13 = .int .i64 (i : Nat) → env 14 = .pointer (some ⟨P', 0, none⟩) →
        (∀ env' H' b' e', env' 2 = env 2 → env' 3 = env 3 → env' 9 = env 9 → env' 11 = env 11 → env' 13 = env 13 → Keep H H' → Pr H' P M D q b e → Pr H' P' M' D' q' b' e' → Q .normal env' H') → awpC Tryd.prog L6_0 Q QP env H5 := by
      intro Q QP env z2 z13 z14 hQ
      refine all_one hy5 (k5.row hr) hi wx wk z2 z13 z14 ?_
      intro env' H' b1 e1 y2 y3 y9 y11 y13 hf hp
      exact hQ env' H' b1 e1 y2 y3 y9 y11 y13 (frk fM' fD' k5 hf) (hx5.fr hf (Ne.symm (ne hx3.p hM')) (Ne.symm (ne hx3.p hD')) (Ne.symm (ne hx3.m hM')) (Ne.symm (ne hx3.m hD')) (Ne.symm (ne hx3.d hM')) (Ne.symm (ne hx3.d hD'))) hp
    by_cases hj : i < on.length
    · have f1 : decide ((i : Int) < (on.length : Int)) = true := decide_eq_true (by omega)
      obtain ⟨bb, rfl, hcell⟩ := (k5.row hb) i (.bool on[i]) (by rw [List.getElem?_map, List.getElem?_eq_getElem hj]; rfl)
      cases hv : on[i] with
      | true =>
        rw [hv] at hcell
        simp -implicitDefEqProofs (maxSteps := 1000000) (disch := first | omega | assumption) only [g2, g3, g9, g11, g13, f0, f1, hcell, Sx, reduceIte, Nat.reduceEqDiff, reduceCtorEq, Nat.reduceAdd, Nat.reduceSub, Nat.reduceLT, decide_true, decide_false, Bool.not_true, Bool.not_false, Int.toNat_one, Int.toNat_zero, Nat.zero_mul, l_g, endK, gd_u]
        refine second _ _ _ (by simp -implicitDefEqProofs (maxSteps := 1000000) (disch := first | omega | assumption) only [g2, Sx, reduceIte, Nat.reduceEqDiff, reduceCtorEq, Nat.reduceAdd, Nat.reduceSub, Nat.reduceLT, decide_true, decide_false, Bool.not_true, Bool.not_false, Int.toNat_one, Int.toNat_zero, Nat.zero_mul, l_g, endK, gd_u]) (by simp -implicitDefEqProofs (maxSteps := 1000000) (disch := first | omega | assumption) only [g13, Sx, reduceIte, Nat.reduceEqDiff, reduceCtorEq, Nat.reduceAdd, Nat.reduceSub, Nat.reduceLT, decide_true, decide_false, Bool.not_true, Bool.not_false, Int.toNat_one, Int.toNat_zero, Nat.zero_mul, l_g, endK, gd_u]) (by simp -implicitDefEqProofs (maxSteps := 1000000) (disch := first | omega | assumption) only [g11, Sx, reduceIte, Nat.reduceEqDiff, reduceCtorEq, Nat.reduceAdd, Nat.reduceSub, Nat.reduceLT, decide_true, decide_false, Bool.not_true, Bool.not_false, Int.toNat_one, Int.toNat_zero, Nat.zero_mul, l_g, endK, gd_u]) ?_
        intro env' H' b1 e1 y2 y3 y9 y11 y13 kk p1 p2
        unfold L6_1
        simp -implicitDefEqProofs (maxSteps := 1000000) (disch := first | omega | assumption) only [y2, y3, y9, y11, y13, g2, g3, g9, g11, g13, Sx, reduceIte, Nat.reduceEqDiff, reduceCtorEq, Nat.reduceAdd, Nat.reduceSub, Nat.reduceLT, decide_true, decide_false, Bool.not_true, Bool.not_false, Int.toNat_one, Int.toNat_zero, Nat.zero_mul, l_g, endK, gd_u]
        exact ⟨k - 1, by omega, kk, i + 1, b, e, b1, e1, by omega, p1, p2, by (first | exact True.intro | rfl | assumption), by (first | exact True.intro | rfl | assumption), by (first | exact True.intro | rfl | assumption), by (first | exact True.intro | rfl | assumption), by (first | exact True.intro | rfl | assumption)⟩
      | false =>
        rw [hv] at hcell
        simp -implicitDefEqProofs (maxSteps := 1000000) (disch := first | omega | assumption) only [g2, g3, g9, g11, g13, f0, f1, hcell, Sx, reduceIte, Nat.reduceEqDiff, reduceCtorEq, Nat.reduceAdd, Nat.reduceSub, Nat.reduceLT, decide_true, decide_false, Bool.not_true, Bool.not_false, Int.toNat_one, Int.toNat_zero, Nat.zero_mul, l_g, endK, gd_u]
        refine first _ _ _ (by simp -implicitDefEqProofs (maxSteps := 1000000) (disch := first | omega | assumption) only [g2, Sx, reduceIte, Nat.reduceEqDiff, reduceCtorEq, Nat.reduceAdd, Nat.reduceSub, Nat.reduceLT, decide_true, decide_false, Bool.not_true, Bool.not_false, Int.toNat_one, Int.toNat_zero, Nat.zero_mul, l_g, endK, gd_u]) (by simp -implicitDefEqProofs (maxSteps := 1000000) (disch := first | omega | assumption) only [g13, Sx, reduceIte, Nat.reduceEqDiff, reduceCtorEq, Nat.reduceAdd, Nat.reduceSub, Nat.reduceLT, decide_true, decide_false, Bool.not_true, Bool.not_false, Int.toNat_one, Int.toNat_zero, Nat.zero_mul, l_g, endK, gd_u]) (by simp -implicitDefEqProofs (maxSteps := 1000000) (disch := first | omega | assumption) only [g9, Sx, reduceIte, Nat.reduceEqDiff, reduceCtorEq, Nat.reduceAdd, Nat.reduceSub, Nat.reduceLT, decide_true, decide_false, Bool.not_true, Bool.not_false, Int.toNat_one, Int.toNat_zero, Nat.zero_mul, l_g, endK, gd_u]) ?_
        intro env' H' b1 e1 y2 y3 y9 y11 y13 kk p1 p2
        unfold L6_1
        simp -implicitDefEqProofs (maxSteps := 1000000) (disch := first | omega | assumption) only [y2, y3, y9, y11, y13, g2, g3, g9, g11, g13, Sx, reduceIte, Nat.reduceEqDiff, reduceCtorEq, Nat.reduceAdd, Nat.reduceSub, Nat.reduceLT, decide_true, decide_false, Bool.not_true, Bool.not_false, Int.toNat_one, Int.toNat_zero, Nat.zero_mul, l_g, endK, gd_u]
        exact ⟨k - 1, by omega, kk, i + 1, b1, e1, b', e', by omega, p1, p2, by (first | exact True.intro | rfl | assumption), by (first | exact True.intro | rfl | assumption), by (first | exact True.intro | rfl | assumption), by (first | exact True.intro | rfl | assumption), by (first | exact True.intro | rfl | assumption)⟩
    · have f1 : decide ((i : Int) < (on.length : Int)) = false := decide_eq_false (by omega)
      simp -implicitDefEqProofs (maxSteps := 1000000) (disch := first | omega | assumption) only [g2, g3, g9, g11, g13, f0, f1, Sx, reduceIte, Nat.reduceEqDiff, reduceCtorEq, Nat.reduceAdd, Nat.reduceSub, Nat.reduceLT, decide_true, decide_false, Bool.not_true, Bool.not_false, Int.toNat_one, Int.toNat_zero, Nat.zero_mul, l_g, endK, gd_u]
      refine first _ _ _ (by simp -implicitDefEqProofs (maxSteps := 1000000) (disch := first | omega | assumption) only [g2, Sx, reduceIte, Nat.reduceEqDiff, reduceCtorEq, Nat.reduceAdd, Nat.reduceSub, Nat.reduceLT, decide_true, decide_false, Bool.not_true, Bool.not_false, Int.toNat_one, Int.toNat_zero, Nat.zero_mul, l_g, endK, gd_u]) (by simp -implicitDefEqProofs (maxSteps := 1000000) (disch := first | omega | assumption) only [g13, Sx, reduceIte, Nat.reduceEqDiff, reduceCtorEq, Nat.reduceAdd, Nat.reduceSub, Nat.reduceLT, decide_true, decide_false, Bool.not_true, Bool.not_false, Int.toNat_one, Int.toNat_zero, Nat.zero_mul, l_g, endK, gd_u]) (by simp -implicitDefEqProofs (maxSteps := 1000000) (disch := first | omega | assumption) only [g9, Sx, reduceIte, Nat.reduceEqDiff, reduceCtorEq, Nat.reduceAdd, Nat.reduceSub, Nat.reduceLT, decide_true, decide_false, Bool.not_true, Bool.not_false, Int.toNat_one, Int.toNat_zero, Nat.zero_mul, l_g, endK, gd_u]) ?_
      intro env' H' b1 e1 y2 y3 y9 y11 y13 kk p1 p2
      unfold L6_1
      simp -implicitDefEqProofs (maxSteps := 1000000) (disch := first | omega | assumption) only [y2, y3, y9, y11, y13, g2, g3, g9, g11, g13, Sx, reduceIte, Nat.reduceEqDiff, reduceCtorEq, Nat.reduceAdd, Nat.reduceSub, Nat.reduceLT, decide_true, decide_false, Bool.not_true, Bool.not_false, Int.toNat_one, Int.toNat_zero, Nat.zero_mul, l_g, endK, gd_u]
      exact ⟨k - 1, by omega, kk, i + 1, b1, e1, b', e', by omega, p1, p2, by (first | exact True.intro | rfl | assumption), by (first | exact True.intro | rfl | assumption), by (first | exact True.intro | rfl | assumption), by (first | exact True.intro | rfl | assumption), by (first | exact True.intro | rfl | assumption)⟩
  have f0 : decide ((i : Int) < (l.length : Int)) = false := decide_eq_false (by omega)
  simp -implicitDefEqProofs (maxSteps := 1000000) (disch := first | omega | assumption) only [g2, g3, g9, g11, g13, f0, Sx, reduceIte, Nat.reduceEqDiff, reduceCtorEq, Nat.reduceAdd, Nat.reduceSub, Nat.reduceLT, decide_true, decide_false, Bool.not_true, Bool.not_false, Int.toNat_one, Int.toNat_zero, Nat.zero_mul, l_g, endK, gd_u]
  refine a_call (tells_spec hx5) ?_
  rintro e' H6 ⟨rfl, k6⟩
  simp -implicitDefEqProofs (maxSteps := 1000000) (disch := first | omega | assumption) only [g2, g3, g9, g11, g13, Sx, reduceIte, Nat.reduceEqDiff, reduceCtorEq, Nat.reduceAdd, Nat.reduceSub, Nat.reduceLT, decide_true, decide_false, Bool.not_true, Bool.not_false, Int.toNat_one, Int.toNat_zero, Nat.zero_mul, l_g, endK, gd_u]
  refine a_call (tells_spec (hy5.keep k6)) ?_
  rintro e' H7 ⟨rfl, k7⟩
  simp -implicitDefEqProofs (maxSteps := 1000000) (disch := first | omega | assumption) only [Sx, reduceIte, Nat.reduceEqDiff, reduceCtorEq, Nat.reduceAdd, Nat.reduceSub, Nat.reduceLT, decide_true, decide_false, Bool.not_true, Bool.not_false, Int.toNat_one, Int.toNat_zero, Nat.zero_mul, l_g, endK, gd_u]
  exact ⟨by (first | exact True.intro | rfl | assumption), (k5.trans k6).trans k7⟩

/-! ### How an Op is opened -/
def opTy : Ty Op := Ty.flat 13 opc opc_len
theorem cellsOp : Tryd.prog.cellsOf 55 = 13 := by kernel_rfl
structure Wo (o : Op) : Prop where
  k : i64 o.k
  x : Wm o.x
set_option maxRecDepth 100000
theorem opnOp : Opn Tryd.prog 55 opTy Wo (fun o => o.x.n.length + 8) := ⟨fun {H enc w base spare held fuel cs x} h => by
  obtain ⟨xs, n, _, rfl, hl, hlen, hf⟩ := DataW.trod_struct Tryd.underlying55 h
  rw [cellsOp] at hl
  match xs, hlen, cs, hl with
  | [y0, y1], _, [c0, c1, m0, m1, m2, m3, m4, c3, c4, c5, c6, c7, c8], _ =>
    have e0 : DataW.trod enc Tryd.prog w base spare held n 3 [c0] = some y0 := by simpa [cellsInt] using hf 0 _ rfl
    have e1 : DataW.trod enc Tryd.prog w base spare held n 38 [c1, m0, m1, m2, m3, m4, c3, c4, c5, c6, c7, c8] = some y1 := by simpa [cellsEn] using hf 1 _ rfl
    obtain ⟨a0, k0, w0, b0⟩ := (Opn.int Tryd.underlying3).op e0
    obtain ⟨a1, k1, w1, b1⟩ := opnEn.op e1
    obtain ⟨rfl⟩ : c0 = .int .i64 a0 := by simpa [Ty.int] using k0
    have k1' : [c1, m0, m1, m2, m3, m4, c3, c4, c5, c6, c7, c8] = en a1 := k1
    refine ⟨⟨a0, a1⟩, by show _ :: _ = _ :: _; rw [k1'], ⟨wf_i64 w0, w1⟩, ?_⟩
    have b1' : a1.n.length + 8 ≤ Rows.uptoBulk y1.1 := b1
    simp only [Rows.uptoBulk, List.map_cons, List.map_nil, Rows.uptoBulkAll]
    omega⟩
theorem Els.bools {H : Heap} {A : Option Addr} {xs : List Bool} {cl : List (List Value)} (h : Els Ty.bool H A xs cl) : Row H A (xs.map .bool) := by
  have : cl = xs.map fun x => [.bool x] := by
    apply List.ext_getElem?
    intro i
    rw [List.getElem?_map]
    cases hx : xs[i]? with
    | none => rw [List.getElem?_eq_none (by rw [h.len]; exact List.getElem?_eq_none_iff.1 hx)]; rfl
    | some x =>
      have hi := (List.getElem?_eq_some_iff.1 hx).1
      have hi2 : i < cl.length := by rw [h.len]; exact hi
      have hc : cl[i]? = some cl[i] := List.getElem?_eq_getElem hi2
      have := h.each i x _ hx hc
      rw [hc]
      exact congrArg some this
  have hr := h.row
  rw [this] at hr
  rwa [flat_single] at hr
theorem obulk_mem : ∀ {l : List Op} {x : Op}, x ∈ l → x.x.n.length + 8 ≤ (l.map fun o => o.x.n.length + 8).sum
  | [], x, h => by cases h
  | y :: l, x, h => by
    simp only [List.map_cons, List.sum_cons]
    rcases List.mem_cons.1 h with rfl | h
    · omega
    · have := obulk_mem h
      omega
theorem obulk_len : ∀ (l : List Op), l.length * 8 ≤ (l.map fun o => o.x.n.length + 8).sum
  | [] => Nat.le_refl _
  | y :: l => by
    have := obulk_len l
    simp only [List.map_cons, List.sum_cons, List.length_cons]
    omega
theorem sum_ones : ∀ (l : List Bool), (l.map fun _ => 1).sum = l.length
  | [] => rfl
  | y :: l => by simp only [List.map_cons, List.sum_cons, List.length_cons, sum_ones l]; omega
theorem all_row {H : Heap} (q : Qt) (cs : Array Value) (hK : qtTy.K H q cs.toList) (wq : Wq q) (q' : Qt) (cs' : Array Value) (hK' : qtTy.K H q' cs'.toList) (wq' : Wq q') (A : Option Addr) (c : Nat) (l : List Op) (cl : List (List Value)) (he : Els opTy H A l cl) (hc : l.length ≤ c) (wl : (∀ x ∈ l, Wo x) ∧ l.length ≤ maxLen)
    (B : Option Addr) (d : Nat) (on : List Bool) (dl : List (List Value)) (hd : Els Ty.bool H B on dl) (hdc : on.length ≤ d) (wd : (∀ x ∈ on, True) ∧ on.length ≤ maxLen) (hb : (l.map fun o => o.x.n.length + 8).sum + (on.map fun _ => 1).sum ≤ 1048576) :
    ACalls Tryd.prog 6 [Value.agg cs, .agg cs', .slice A l.length c, .slice B on.length d].toArray H fun e' H' => e' = .returned (.bool true) ∧ Keep H H' := by
  rw [cs_qt hK, cs_qt hK']
  rw [sum_ones] at hb
  exact all_walk wq wq' (Go.Proofs.YtmgpfdfbcnlocaaDoor.Lib.Els.flat he) (fun o ho => ⟨⟨by have := obulk_mem ho; omega, (wl.1 o ho).x.k, (wl.1 o ho).x.s⟩, (wl.1 o ho).k⟩) (by have := obulk_len l; omega) hc (Els.bools hd) (by omega) hdc
end Go.Proofs.YtmgpfdfbcnlocaaDoor.S18
