/-
  QuotaMany, from the beginning.
-/
import Derived.Test.YtmgpfdfbcnlocaaDoorMany2
set_option linter.unusedVariables false
set_option linter.unusedSimpArgs false
namespace Go.Proofs.YtmgpfdfbcnlocaaDoor.S18
open Go Go.RowKit Go.Proofs.YtmgpfdfbcnlocaaDoor.Sep Go.Proofs.YtmgpfdfbcnlocaaDoor.Low Go.Proofs.YtmgpfdfbcnlocaaDoor.Lib Go.Proofs.YtmgpfdfbcnlocaaDoor.S09

set_option maxHeartbeats 8000000 in
theorem many_walk {H : Heap} {A : Option Addr} {c : Nat} {l : List En} {q : Qt} {turn : Int} (wq : Wq q) (hr : Row H A (ens l)) (hcl : l.length ≤ c) (hwn : ∀ x ∈ l, Wn x) (hl : l.length ≤ 1048576) (ht : 0 ≤ turn ∧ turn ≤ 65535) :
    ACalls Tryd.prog 3 [Value.agg (qt q).toArray, .slice A l.length c, .int .u16 turn].toArray H fun e' H' => e' = .returned (.bool true) ∧ Keep H H' := by
  obtain ⟨t, rfl⟩ : ∃ t : Nat, turn = t := ⟨turn.toNat, by omega⟩
  have ht' : t ≤ 65535 := by omega
  refine call3 (Nat.le_of_ble_eq_true rfl) ?_
  unfold L3 env0
  simp -implicitDefEqProofs (maxSteps := 1000000) (disch := first | omega | assumption) only [Sx, reduceIte, Nat.reduceEqDiff, reduceCtorEq, Nat.reduceAdd, Nat.reduceSub, Nat.reduceLT, decide_true, decide_false, Bool.not_true, Bool.not_false, Int.toNat_one, Int.toNat_zero, Nat.zero_mul, l_g, endK, gd_u]
  refine a_box fun r1 hr1 => ?_
  obtain ⟨H1, hH1, k1, hb1⟩ := qbox (q := q) hr1
  rw [show H.set r1 (.cells (Value.agg (qt q).toArray).cells 23 (0, 0)) = H1 from hH1.symm]
  try simp -implicitDefEqProofs (maxSteps := 1000000) (disch := first | omega | assumption) only [Sx, reduceIte, Nat.reduceEqDiff, reduceCtorEq, Nat.reduceAdd, Nat.reduceSub, Nat.reduceLT, decide_true, decide_false, Bool.not_true, Bool.not_false, Int.toNat_one, Int.toNat_zero, Nat.zero_mul, l_g, endK, gd_u]
  refine a_call lives_spec ?_
  rintro e' H2 ⟨rfl, k2⟩
  have hb2 := k2 _ _ hb1
  have l2 := loadN_of (o := 0) (n := 3) (l := qt q) hb2 rfl rfl
  have k2 := k1.trans k2
  simp -implicitDefEqProofs (maxSteps := 1000000) (disch := first | omega | assumption) only [ev_ldn, l2, Sx, reduceIte, Nat.reduceEqDiff, reduceCtorEq, Nat.reduceAdd, Nat.reduceSub, Nat.reduceLT, decide_true, decide_false, Bool.not_true, Bool.not_false, Int.toNat_one, Int.toNat_zero, Nat.zero_mul, l_g, endK, gd_u]
  refine a_call new_spec ?_
  rintro e' H3 ⟨k3, hN3⟩
  have hb3 := k3 _ _ hb2
  have l3 := loadN_of (o := 0) (n := 3) (l := qt q) hb3 rfl rfl
  have k3' := k2.trans k3
  rcases hN3 with ⟨hc, rm, rfl, hrm, hm3⟩ | ⟨hc, rfl⟩
  rotate_left
  · simp -implicitDefEqProofs (maxSteps := 1000000) (disch := first | omega | assumption) only [n01, e11, ev_ldn, l3, Sx, reduceIte, Nat.reduceEqDiff, reduceCtorEq, Nat.reduceAdd, Nat.reduceSub, Nat.reduceLT, decide_true, decide_false, Bool.not_true, Bool.not_false, Int.toNat_one, Int.toNat_zero, Nat.zero_mul, l_g, endK, gd_u]
    refine a_call can_spec ?_
    rintro e' H5 ⟨rfl, k5⟩
    rw [decide_eq_false hc]
    simp -implicitDefEqProofs (maxSteps := 1000000) (disch := first | omega | assumption) only [n01, e11, Sx, reduceIte, Nat.reduceEqDiff, reduceCtorEq, Nat.reduceAdd, Nat.reduceSub, Nat.reduceLT, decide_true, decide_false, Bool.not_true, Bool.not_false, Int.toNat_one, Int.toNat_zero, Nat.zero_mul, l_g, endK, gd_u]
    exact ⟨by (first | exact True.intro | rfl | assumption), k3'.trans k5⟩
  have frm : H rm = none := k2.none hrm
  have n1m : r1 ≠ rm := Ne.symm (new_free (Keep.refl _) hb2 hrm)
  simp -implicitDefEqProofs (maxSteps := 1000000) (disch := first | omega | assumption) only [n00, e00, bff, Sx, reduceIte, Nat.reduceEqDiff, reduceCtorEq, Nat.reduceAdd, Nat.reduceSub, Nat.reduceLT, decide_true, decide_false, Bool.not_true, Bool.not_false, Int.toNat_one, Int.toNat_zero, Nat.zero_mul, l_g, endK, gd_u]
  refine a_mks (l := l.length) (c := l.length) (sz := 1) (by omega) (by omega) (by omega) rfl (by omega) ?_
  intro ro H4 rest hro _ k4 hron
  have fro : H ro = none := k3'.none hron
  have n1o : r1 ≠ ro := Ne.symm (new_free (Keep.refl _) hb3 hron)
  have nom : ro ≠ rm := new_free (Keep.refl _) hm3 hron
  have ho4 : Ob H4 ro (List.replicate l.length 0) := ⟨rest, by
    rw [hro]
    congr 3
    rw [List.map_replicate]
    have : ∀ n : Nat, (List.replicate n [Value.int .i64 0]).flatten = List.replicate n (Value.int .i64 0) := fun n => by
      induction n with
      | zero => rfl
      | succ n ih => rw [List.replicate_succ, List.flatten_cons, ih, List.replicate_succ]; rfl
    exact congrArg (· ++ rest) (this l.length)⟩
  simp -implicitDefEqProofs (maxSteps := 1000000) (disch := first | omega | assumption) only [Sx, reduceIte, Nat.reduceEqDiff, reduceCtorEq, Nat.reduceAdd, Nat.reduceSub, Nat.reduceLT, decide_true, decide_false, Bool.not_true, Bool.not_false, Int.toNat_one, Int.toNat_zero, Nat.zero_mul, l_g, endK, gd_u]
  obtain ⟨xs, hxs⟩ : ∃ xs : Nat → En, xs = fun j => at_ l (plc l.length t j) := ⟨_, rfl⟩
  refine c_loop (fun k env H' => Keep H H' ∧ H' r1 = some (.cells (qt q).toArray 23 (0, 0)) ∧ ∃ i C, k + i = l.length ∧ Pm H' rm q (run q xs i).1 (run q xs i).2 ∧ Ob H' ro C ∧ Ans q l t C i ∧ env 1 = .slice A l.length c ∧ env 2 = .int .u16 t ∧ env 3 = .pointer (some ⟨r1, 0, none⟩) ∧ env 7 = .pointer (some ⟨rm, 0, none⟩) ∧ env 9 = .slice (some ⟨ro, 0, none⟩) l.length l.length ∧ env 10 = .int .i64 (i : Nat)) l.length ⟨k3'.trans k4, k4 _ _ hb3, 0, _, by omega, k4 _ _ hm3, ho4, ⟨by simp, fun j hj => absurd hj (by omega)⟩, by (first | exact True.intro | rfl | assumption), by (first | exact True.intro | rfl | assumption), by (first | exact True.intro | rfl | assumption), by (first | exact True.intro | rfl | assumption), by (first | exact True.intro | rfl | assumption), by (first | exact True.intro | rfl | assumption)⟩ ?_
  rintro k env H5 ⟨k5, h15, i, C, hk, hm5, ho5, ha, g1, g2, g3, g7, g9, g10⟩
  unfold L3_2
  by_cases hi : i < l.length
  · have f0 : decide ((i : Int) < (l.length : Int)) = true := decide_eq_true (by omega)
    have hnp : 0 < l.length := by omega
    have hne0 : ((l.length : Nat) : Int) ≠ 0 := by omega
    have e1 : (((i : Int) + (t : Int)).tmod (l.length : Int)) = ((rot l.length t i : Nat) : Int) := by rw [← Int.natCast_add, rem_lt hnp, rot_mod hi]
    have e2 : ((t : Int).tmod 2) = ((t % 2 : Nat) : Int) := rem_lt (n := 2) (by omega)
    have hrl := rot_lt (t := t) hi
    have hpl := plc_lt (t := t) hi
    have hcl' : C.length = l.length := ha.len
    have okx := run_ok (xs := xs) hc wq i
    have wxx : Wn (at_ l (plc l.length t i)) := hwn _ (by rw [at_lt hpl]; exact List.getElem_mem _)
    have hcode : (takeV q (run q xs i).1 (run q xs i).2 (at_ l (plc l.length t i))).1 = code q xs i := by rw [hxs]; rfl
    have hrun : (takeV q (run q xs i).1 (run q xs i).2 (at_ l (plc l.length t i))).2 = run q xs (i + 1) := by rw [hxs]; rfl
    have ha1 : Ans q l t (C.set (plc l.length t i) (code q xs i)) (i + 1) := by rw [hxs]; exact ha.step hi
    have fin : ∀ (Q : Post) (QP : List PanicEntry → Heap → Prop) (env : Env), env 1 = .slice A l.length c → env 7 = .pointer (some ⟨rm, 0, none⟩) → env 9 = .slice (some ⟨ro, 0, none⟩) l.length l.length → env 11 = .int .i64 ((plc l.length t i : Nat) : Int) →
        (∀ env' H', env' 1 = env 1 → env' 2 = env 2 → env' 3 = env 3 → env' 7 = env 7 → env' 9 = env 9 → env' 10 = env 10 → Keep H H' → H' r1 = some (.cells (qt q).toArray 23 (0, 0)) → Pm H' rm q (run q xs (i + 1)).1 (run q xs (i + 1)).2 → Ob H' ro (C.set (plc l.length t i) (code q xs i)) → Q .normal env' H') → awpC Tryd.prog L3_0 Q QP env H5 := by
      intro Q QP env z1 z7 z9 z11 hQ
      refine many_one hm5 ho5 hcl' (k5.row hr) hpl okx wxx nom z1 z7 z9 z11 ?_
      rw [hcode, hrun]
      intro env' H' y1 y2 y3 y7 y9 y10 hfr hm' ho'
      refine hQ env' H' y1 y2 y3 y7 y9 y10 (fun j o hj => hfr j o (k5 _ _ hj) ?_ ?_) (hfr _ _ h15 n1m n1o) hm' ho'
      · rintro rfl; rw [frm] at hj; cases hj
      · rintro rfl; rw [fro] at hj; cases hj
    by_cases hodd : t % 2 = 1
    · have f2 : (((t % 2 : Nat) : Int) == 1) = true := by rw [beq_iff_eq]; omega
      have ep : (((plc l.length t i : Nat)) : Int) = (l.length : Int) - 1 - ((rot l.length t i : Nat) : Int) := by unfold plc; rw [if_pos hodd]; omega
      simp -implicitDefEqProofs (maxSteps := 1000000) (disch := first | omega | assumption) only [g1, g2, g3, g7, g9, g10, f0, e1, e2, f2, Sx, reduceIte, Nat.reduceEqDiff, reduceCtorEq, Nat.reduceAdd, Nat.reduceSub, Nat.reduceLT, decide_true, decide_false, Bool.not_true, Bool.not_false, Int.toNat_one, Int.toNat_zero, Nat.zero_mul, l_g, endK, gd_u]
      refine fin _ _ _ (by simp -implicitDefEqProofs (maxSteps := 1000000) (disch := first | omega | assumption) only [g1, Sx, reduceIte, Nat.reduceEqDiff, reduceCtorEq, Nat.reduceAdd, Nat.reduceSub, Nat.reduceLT, decide_true, decide_false, Bool.not_true, Bool.not_false, Int.toNat_one, Int.toNat_zero, Nat.zero_mul, l_g, endK, gd_u]) (by simp -implicitDefEqProofs (maxSteps := 1000000) (disch := first | omega | assumption) only [g7, Sx, reduceIte, Nat.reduceEqDiff, reduceCtorEq, Nat.reduceAdd, Nat.reduceSub, Nat.reduceLT, decide_true, decide_false, Bool.not_true, Bool.not_false, Int.toNat_one, Int.toNat_zero, Nat.zero_mul, l_g, endK, gd_u]) (by simp -implicitDefEqProofs (maxSteps := 1000000) (disch := first | omega | assumption) only [g9, Sx, reduceIte, Nat.reduceEqDiff, reduceCtorEq, Nat.reduceAdd, Nat.reduceSub, Nat.reduceLT, decide_true, decide_false, Bool.not_true, Bool.not_false, Int.toNat_one, Int.toNat_zero, Nat.zero_mul, l_g, endK, gd_u]) (by rw [ep]; (first | exact True.intro | rfl | assumption)) ?_
      intro env' H' y1 y2 y3 y7 y9 y10 kk hb' hm' ho'
      unfold L3_1
      simp -implicitDefEqProofs (maxSteps := 1000000) (disch := first | omega | assumption) only [y1, y2, y3, y7, y9, y10, g1, g2, g3, g7, g9, g10, Sx, reduceIte, Nat.reduceEqDiff, reduceCtorEq, Nat.reduceAdd, Nat.reduceSub, Nat.reduceLT, decide_true, decide_false, Bool.not_true, Bool.not_false, Int.toNat_one, Int.toNat_zero, Nat.zero_mul, l_g, endK, gd_u]
      exact ⟨k - 1, by omega, kk, hb', i + 1, _, by omega, hm', ho', ha1, by (first | exact True.intro | rfl | assumption), by (first | exact True.intro | rfl | assumption), by (first | exact True.intro | rfl | assumption), by (first | exact True.intro | rfl | assumption), by (first | exact True.intro | rfl | assumption), by (first | exact True.intro | rfl | assumption)⟩
    · have f2 : (((t % 2 : Nat) : Int) == 1) = false := by rw [beq_eq_false_iff_ne]; omega
      have ep : (((plc l.length t i : Nat)) : Int) = ((rot l.length t i : Nat) : Int) := by unfold plc; rw [if_neg hodd]
      simp -implicitDefEqProofs (maxSteps := 1000000) (disch := first | omega | assumption) only [g1, g2, g3, g7, g9, g10, f0, e1, e2, f2, Sx, reduceIte, Nat.reduceEqDiff, reduceCtorEq, Nat.reduceAdd, Nat.reduceSub, Nat.reduceLT, decide_true, decide_false, Bool.not_true, Bool.not_false, Int.toNat_one, Int.toNat_zero, Nat.zero_mul, l_g, endK, gd_u]
      refine fin _ _ _ (by simp -implicitDefEqProofs (maxSteps := 1000000) (disch := first | omega | assumption) only [g1, Sx, reduceIte, Nat.reduceEqDiff, reduceCtorEq, Nat.reduceAdd, Nat.reduceSub, Nat.reduceLT, decide_true, decide_false, Bool.not_true, Bool.not_false, Int.toNat_one, Int.toNat_zero, Nat.zero_mul, l_g, endK, gd_u]) (by simp -implicitDefEqProofs (maxSteps := 1000000) (disch := first | omega | assumption) only [g7, Sx, reduceIte, Nat.reduceEqDiff, reduceCtorEq, Nat.reduceAdd, Nat.reduceSub, Nat.reduceLT, decide_true, decide_false, Bool.not_true, Bool.not_false, Int.toNat_one, Int.toNat_zero, Nat.zero_mul, l_g, endK, gd_u]) (by simp -implicitDefEqProofs (maxSteps := 1000000) (disch := first | omega | assumption) only [g9, Sx, reduceIte, Nat.reduceEqDiff, reduceCtorEq, Nat.reduceAdd, Nat.reduceSub, Nat.reduceLT, decide_true, decide_false, Bool.not_true, Bool.not_false, Int.toNat_one, Int.toNat_zero, Nat.zero_mul, l_g, endK, gd_u]) (by rw [ep]; (first | exact True.intro | rfl | assumption)) ?_
      intro env' H' y1 y2 y3 y7 y9 y10 kk hb' hm' ho'
      unfold L3_1
      simp -implicitDefEqProofs (maxSteps := 1000000) (disch := first | omega | assumption) only [y1, y2, y3, y7, y9, y10, g1, g2, g3, g7, g9, g10, Sx, reduceIte, Nat.reduceEqDiff, reduceCtorEq, Nat.reduceAdd, Nat.reduceSub, Nat.reduceLT, decide_true, decide_false, Bool.not_true, Bool.not_false, Int.toNat_one, Int.toNat_zero, Nat.zero_mul, l_g, endK, gd_u]
      exact ⟨k - 1, by omega, kk, hb', i + 1, _, by omega, hm', ho', ha1, by (first | exact True.intro | rfl | assumption), by (first | exact True.intro | rfl | assumption), by (first | exact True.intro | rfl | assumption), by (first | exact True.intro | rfl | assumption), by (first | exact True.intro | rfl | assumption), by (first | exact True.intro | rfl | assumption)⟩
  have f0 : decide ((i : Int) < (l.length : Int)) = false := decide_eq_false (by omega)
  obtain rfl : i = l.length := by omega
  rw [hxs] at hm5
  obtain ⟨s1, s2⟩ := ha.sums
  obtain ⟨p1, p2⟩ := ha.fnn
  obtain ⟨-, -, rb, re⟩ := run_ok (xs := fun j => at_ l (plc l.length t j)) hc wq l.length
  rw [← s1] at rb
  rw [← s2] at re
  have hw := wq.b
  have hwe := wq.e
  unfold i64 at hw hwe
  simp -implicitDefEqProofs (maxSteps := 1000000) (disch := first | omega | assumption) only [g1, g2, g3, g7, g9, g10, f0, Sx, reduceIte, Nat.reduceEqDiff, reduceCtorEq, Nat.reduceAdd, Nat.reduceSub, Nat.reduceLT, decide_true, decide_false, Bool.not_true, Bool.not_false, Int.toNat_one, Int.toNat_zero, Nat.zero_mul, l_g, endK, gd_u]
  refine c_loop (fun k env H' => H' = H5 ∧ ∃ i, k + i = l.length ∧ env 1 = .slice A l.length c ∧ env 3 = .pointer (some ⟨r1, 0, none⟩) ∧ env 7 = .pointer (some ⟨rm, 0, none⟩) ∧ env 9 = .slice (some ⟨ro, 0, none⟩) l.length l.length ∧ env 12 = .int .i64 (sm (gG C) i) ∧ env 13 = .int .i64 (sm (gF l C) i) ∧ env 14 = .int .i64 (i : Nat)) l.length ⟨rfl, 0, by omega, by (first | exact True.intro | rfl | assumption), by (first | exact True.intro | rfl | assumption), by (first | exact True.intro | rfl | assumption), by (first | exact True.intro | rfl | assumption), by (first | exact True.intro | rfl | assumption), by (first | exact True.intro | rfl | assumption), by (first | exact True.intro | rfl | assumption)⟩ ?_
  rintro k env H6 ⟨rfl, i, hk, g1, g3, g7, g9, g12, g13, g14⟩
  unfold L3_4
  by_cases hi : i < l.length
  · have f0 : decide ((i : Int) < (l.length : Int)) = true := decide_eq_true (by omega)
    have hcl' : C.length = l.length := ha.len
    have hcell := ho5.cell (i := i) (by omega)
    obtain ⟨b0, rfl, -, hce⟩ := en_at (k5.row hr) hi
    have hx := at_lt hi
    rw [← hx] at hce
    have ck := hce 1 (.int .i64 (at_ l i).k) rfl
    have cs := hce 10 (.int .i64 (at_ l i).s) rfl
    have uF : sm (gF l C) (i + 1) = sm (gF l C) i + gF l C i := rfl
    have uG : sm (gG C) (i + 1) = sm (gG C) i + gG C i := rfl
    have mF := sm_mono p1 (m := i) (by omega)
    have mF1 := sm_mono p1 (m := i + 1) (by omega)
    have mG := sm_mono p2 (m := i) (by omega)
    have mG1 := sm_mono p2 (m := i + 1) (by omega)
    by_cases hz : C.getD i 0 = 0
    · have f1 := ngf hz
      have hg := ha.good hi hz
      have vF : gF l C i = needV (at_ l i) := by unfold gF; rw [if_pos hz]
      have vG : gG C i = 1 := by unfold gG; rw [if_pos hz]
      rw [vF] at uF
      rw [vG] at uG
      by_cases hk2 : (at_ l i).k = 2
      · have f2 : ((at_ l i).k == 2) = true := by rw [beq_iff_eq]; exact hk2
        have hnv : needV (at_ l i) = (at_ l i).s := by unfold needV; rw [if_pos hk2]
        have hgn := hg.n
        rw [hnv] at uF hgn
        have f3 : decide ((at_ l i).s < 0) = false := decide_eq_false (by omega)
        have f4 : decide (q.b - sm (gF l C) i < (at_ l i).s) = false := decide_eq_false (by omega)
        obtain ⟨d0, -, -⟩ := fits_cells h15
        unfold L3_3
        simp -implicitDefEqProofs (maxSteps := 1000000) (disch := first | omega | assumption) only [g1, g3, g7, g9, g12, g13, g14, f0, f1, f2, f3, f4, hcell, ck, cs, d0, Sx, reduceIte, Nat.reduceEqDiff, reduceCtorEq, Nat.reduceAdd, Nat.reduceSub, Nat.reduceLT, decide_true, decide_false, Bool.not_true, Bool.not_false, Int.toNat_one, Int.toNat_zero, Nat.zero_mul, l_g, endK, gd_u]
        exact ⟨k - 1, by omega, by (first | exact True.intro | rfl | assumption), i + 1, by omega, by (first | exact True.intro | rfl | assumption), by (first | exact True.intro | rfl | assumption), by (first | exact True.intro | rfl | assumption), by (first | exact True.intro | rfl | assumption), by rw [uG], by rw [uF], by (first | exact True.intro | rfl | assumption)⟩
      · have f2 : ((at_ l i).k == 2) = false := by rw [beq_eq_false_iff_ne]; exact hk2
        have hnv : needV (at_ l i) = 0 := by unfold needV; rw [if_neg hk2]
        rw [hnv, Int.add_zero] at uF
        unfold L3_3
        simp -implicitDefEqProofs (maxSteps := 1000000) (disch := first | omega | assumption) only [g1, g3, g7, g9, g12, g13, g14, f0, f1, f2, hcell, ck, cs, Sx, reduceIte, Nat.reduceEqDiff, reduceCtorEq, Nat.reduceAdd, Nat.reduceSub, Nat.reduceLT, decide_true, decide_false, Bool.not_true, Bool.not_false, Int.toNat_one, Int.toNat_zero, Nat.zero_mul, l_g, endK, gd_u]
        exact ⟨k - 1, by omega, by (first | exact True.intro | rfl | assumption), i + 1, by omega, by (first | exact True.intro | rfl | assumption), by (first | exact True.intro | rfl | assumption), by (first | exact True.intro | rfl | assumption), by (first | exact True.intro | rfl | assumption), by rw [uG], by rw [uF], by (first | exact True.intro | rfl | assumption)⟩
    · have f1 := ngt hz
      have vF : gF l C i = 0 := by unfold gF; rw [if_neg hz]
      have vG : gG C i = 0 := by unfold gG; rw [if_neg hz]
      rw [vF, Int.add_zero] at uF
      rw [vG, Int.add_zero] at uG
      unfold L3_3
      simp -implicitDefEqProofs (maxSteps := 1000000) (disch := first | omega | assumption) only [g1, g3, g7, g9, g12, g13, g14, f0, f1, hcell, Sx, reduceIte, Nat.reduceEqDiff, reduceCtorEq, Nat.reduceAdd, Nat.reduceSub, Nat.reduceLT, decide_true, decide_false, Bool.not_true, Bool.not_false, Int.toNat_one, Int.toNat_zero, Nat.zero_mul, l_g, endK, gd_u]
      exact ⟨k - 1, by omega, by (first | exact True.intro | rfl | assumption), i + 1, by omega, by (first | exact True.intro | rfl | assumption), by (first | exact True.intro | rfl | assumption), by (first | exact True.intro | rfl | assumption), by (first | exact True.intro | rfl | assumption), by rw [uG], by rw [uF], by (first | exact True.intro | rfl | assumption)⟩
  have f0 : decide ((i : Int) < (l.length : Int)) = false := decide_eq_false (by omega)
  obtain rfl : i = l.length := by omega
  simp -implicitDefEqProofs (maxSteps := 1000000) (disch := first | omega | assumption) only [g1, g3, g7, g9, g12, g13, g14, f0, Sx, reduceIte, Nat.reduceEqDiff, reduceCtorEq, Nat.reduceAdd, Nat.reduceSub, Nat.reduceLT, decide_true, decide_false, Bool.not_true, Bool.not_false, Int.toNat_one, Int.toNat_zero, Nat.zero_mul, l_g, endK, gd_u]
  exact many_end (A := A) (c := c) (t := t) (r1 := r1) (rm := rm) wq hc hr hwn hl k5 h15 hm5 ho5 ha (by simp -implicitDefEqProofs (maxSteps := 1000000) (disch := first | omega | assumption) only [g1, Sx, reduceIte, Nat.reduceEqDiff, reduceCtorEq, Nat.reduceAdd, Nat.reduceSub, Nat.reduceLT, decide_true, decide_false, Bool.not_true, Bool.not_false, Int.toNat_one, Int.toNat_zero, Nat.zero_mul, l_g, endK, gd_u]) (by simp -implicitDefEqProofs (maxSteps := 1000000) (disch := first | omega | assumption) only [g3, Sx, reduceIte, Nat.reduceEqDiff, reduceCtorEq, Nat.reduceAdd, Nat.reduceSub, Nat.reduceLT, decide_true, decide_false, Bool.not_true, Bool.not_false, Int.toNat_one, Int.toNat_zero, Nat.zero_mul, l_g, endK, gd_u]) (by simp -implicitDefEqProofs (maxSteps := 1000000) (disch := first | omega | assumption) only [g7, Sx, reduceIte, Nat.reduceEqDiff, reduceCtorEq, Nat.reduceAdd, Nat.reduceSub, Nat.reduceLT, decide_true, decide_false, Bool.not_true, Bool.not_false, Int.toNat_one, Int.toNat_zero, Nat.zero_mul, l_g, endK, gd_u]) (by simp -implicitDefEqProofs (maxSteps := 1000000) (disch := first | omega | assumption) only [g9, Sx, reduceIte, Nat.reduceEqDiff, reduceCtorEq, Nat.reduceAdd, Nat.reduceSub, Nat.reduceLT, decide_true, decide_false, Bool.not_true, Bool.not_false, Int.toNat_one, Int.toNat_zero, Nat.zero_mul, l_g, endK, gd_u]) (by simp -implicitDefEqProofs (maxSteps := 1000000) (disch := first | omega | assumption) only [g12, Sx, reduceIte, Nat.reduceEqDiff, reduceCtorEq, Nat.reduceAdd, Nat.reduceSub, Nat.reduceLT, decide_true, decide_false, Bool.not_true, Bool.not_false, Int.toNat_one, Int.toNat_zero, Nat.zero_mul, l_g, endK, gd_u]) (by simp -implicitDefEqProofs (maxSteps := 1000000) (disch := first | omega | assumption) only [g13, Sx, reduceIte, Nat.reduceEqDiff, reduceCtorEq, Nat.reduceAdd, Nat.reduceSub, Nat.reduceLT, decide_true, decide_false, Bool.not_true, Bool.not_false, Int.toNat_one, Int.toNat_zero, Nat.zero_mul, l_g, endK, gd_u])
end Go.Proofs.YtmgpfdfbcnlocaaDoor.S18
