/-
  QuotaOrder.
-/
import Derived.Test.YtmgpfdfbcnlocaaDoorLowR
import Derived.Test.YtmgpfdfbcnlocaaDoorLives
import Derived.Test.YtmgpfdfbcnlocaaDoorQLaw
set_option linter.unusedVariables false
set_option linter.unusedSimpArgs false
namespace Go.Proofs.YtmgpfdfbcnlocaaDoor.S18
open Go Go.RowKit Go.Proofs.YtmgpfdfbcnlocaaDoor.Sep Go.Proofs.YtmgpfdfbcnlocaaDoor.Low Go.Proofs.YtmgpfdfbcnlocaaDoor.Lib Go.Proofs.YtmgpfdfbcnlocaaDoor.S09

theorem keep1 {H0 H H' : Heap} {r : Nat} (hK : Keep H0 H) (hr : H0 r = none) (h : At1 r H H') : Keep H0 H' := fun q o hq => by
  have h1 : q ≠ r := by rintro rfl; rw [hr] at hq; cases hq
  exact h.oth q o (hK q o hq) h1
theorem pm_oth {H H' : Heap} {r k : Nat} {q : Qt} {b e : Int} (h : At1 r H H') (hm : Pm H k q b e) (hne : k ≠ r) : Pm H' k q b e := h.oth _ _ hm hne
/-- sums of what is needed, in the order of g -/
abbrev nd (l : List En) (g : Nat → Nat) (i : Nat) : Int := sm (fun j => needV (at_ l (g j))) i
theorem n01 : ((1 : Int) != 0) = true := rfl
theorem e11 : ((1 : Int) == 1) = true := rfl
theorem ngt {z : Int} (h : z ≠ 0) : (z != 0) = true := bne_iff_ne.2 h
theorem ngf {z : Int} (h : z = 0) : (z != 0) = false := by subst h; rfl
theorem rem_lt {t n : Nat} (h : 0 < n) : ((t : Int).tmod n) = ((t % n : Nat) : Int) := by rw [Int.tmod_eq_emod_of_nonneg (by omega)]; rfl

set_option maxHeartbeats 4000000 in
theorem order_walk {H : Heap} {A : Option Addr} {c : Nat} {l : List En} {q : Qt} {turn : Int} (wq : Wq q) (hr : Row H A (ens l)) (hcl : l.length ≤ c) (hwn : ∀ x ∈ l, Wn x) (hl : l.length ≤ 1048576) (ht : i64 turn) :
    ACalls Tryd.prog 5 [Value.agg (qt q).toArray, .slice A l.length c, .int .i64 turn].toArray H fun e' H' => e' = .returned (.bool true) ∧ Keep H H' := by
  refine call5 (Nat.le_of_ble_eq_true rfl) ?_
  unfold L5 env0
  simp -implicitDefEqProofs (maxSteps := 1000000) (disch := first | omega | assumption) only [Sx, reduceIte, Nat.reduceEqDiff, reduceCtorEq, Nat.reduceAdd, Nat.reduceSub, Nat.reduceLT, decide_true, decide_false, Bool.not_true, Bool.not_false, Int.toNat_one, Int.toNat_zero, Nat.zero_mul, l_g, endK, gd_u]
  refine a_box fun r1 hr1 => ?_
  obtain ⟨H1, hH1, k1, hb1⟩ := qbox (q := q) hr1
  rw [show H.set r1 (.cells (Value.agg (qt q).toArray).cells 23 (0, 0)) = H1 from hH1.symm]
  try simp -implicitDefEqProofs (maxSteps := 1000000) (disch := first | omega | assumption) only [Sx, reduceIte, Nat.reduceEqDiff, reduceCtorEq, Nat.reduceAdd, Nat.reduceSub, Nat.reduceLT, decide_true, decide_false, Bool.not_true, Bool.not_false, Int.toNat_one, Int.toNat_zero, Nat.zero_mul, l_g, endK, gd_u]
  refine a_call lives_spec ?_
  rintro e' H2 ⟨rfl, k2⟩
  have hb2 := k2 _ _ hb1
  have l2 := loadN_of (o := 0) (n := 3) (l := qt q) hb2 rfl rfl
  have k2 := k1.trans k2
  simp -implicitDefEqProofs (maxSteps := 1000000) (disch := first | omega | assumption) only [ev_ldn, l2, Sx, reduceIte, Nat.reduceEqDiff, reduceCtorEq, Nat.reduceAdd, Nat.reduceSub, Nat.reduceLT, decide_true, decide_false, Bool.not_true, Bool.not_false, Int.toNat_one, Int.toNat_zero, Nat.zero_mul, l_g, endK, gd_u]
  refine a_call new_spec ?_
  rintro e' H3 ⟨k3, hN3⟩
  have hb3 := k3 _ _ hb2
  have l3 := loadN_of (o := 0) (n := 3) (l := qt q) hb3 rfl rfl
  have k3 := k2.trans k3
  rcases hN3 with ⟨hc, ra, rfl, hra, hma⟩ | ⟨hc, rfl⟩
  rotate_left
  · simp -implicitDefEqProofs (maxSteps := 1000000) (disch := first | omega | assumption) only [ev_ldn, l3, Sx, reduceIte, Nat.reduceEqDiff, reduceCtorEq, Nat.reduceAdd, Nat.reduceSub, Nat.reduceLT, decide_true, decide_false, Bool.not_true, Bool.not_false, Int.toNat_one, Int.toNat_zero, Nat.zero_mul, l_g, endK, gd_u]
    refine a_call new_spec ?_
    rintro e' H4 ⟨k4, hN4⟩
    rcases hN4 with ⟨hc', -⟩ | ⟨-, rfl⟩
    · exact absurd hc' hc
    simp -implicitDefEqProofs (maxSteps := 1000000) (disch := first | omega | assumption) only [n01, e11, Sx, reduceIte, Nat.reduceEqDiff, reduceCtorEq, Nat.reduceAdd, Nat.reduceSub, Nat.reduceLT, decide_true, decide_false, Bool.not_true, Bool.not_false, Int.toNat_one, Int.toNat_zero, Nat.zero_mul, l_g, endK, gd_u]
    exact ⟨by (first | exact True.intro | rfl | assumption), k3.trans k4⟩
  simp -implicitDefEqProofs (maxSteps := 1000000) (disch := first | omega | assumption) only [ev_ldn, l3, Sx, reduceIte, Nat.reduceEqDiff, reduceCtorEq, Nat.reduceAdd, Nat.reduceSub, Nat.reduceLT, decide_true, decide_false, Bool.not_true, Bool.not_false, Int.toNat_one, Int.toNat_zero, Nat.zero_mul, l_g, endK, gd_u]
  refine a_call new_spec ?_
  rintro e' H4 ⟨k4, hN4⟩
  rcases hN4 with ⟨-, rb, rfl, hrb, hmb⟩ | ⟨hc', rfl⟩
  rotate_left
  · exact absurd hc hc'
  have hma4 : Pm H4 ra q 0 0 := k4 _ _ hma
  have nba : rb ≠ ra := new_free (Keep.refl _) hma hrb
  have k4 := k3.trans k4
  have fa : H ra = none := k2.none hra
  have fb : H rb = none := k3.none hrb
  by_cases hn : l.length = 0
  · have f0 : ((l.length : Int) == 0) = true := by rw [hn]; rfl
    simp -implicitDefEqProofs (maxSteps := 1000000) (disch := first | omega | assumption) only [n00, e00, bff, f0, Sx, reduceIte, Nat.reduceEqDiff, reduceCtorEq, Nat.reduceAdd, Nat.reduceSub, Nat.reduceLT, decide_true, decide_false, Bool.not_true, Bool.not_false, Int.toNat_one, Int.toNat_zero, Nat.zero_mul, l_g, endK, gd_u]
    exact ⟨by (first | exact True.intro | rfl | assumption), k4⟩
  have f0 : ((l.length : Int) == 0) = false := by rw [beq_eq_false_iff_ne]; omega
  simp -implicitDefEqProofs (maxSteps := 1000000) (disch := first | omega | assumption) only [n00, e00, bff, f0, Sx, reduceIte, Nat.reduceEqDiff, reduceCtorEq, Nat.reduceAdd, Nat.reduceSub, Nat.reduceLT, decide_true, decide_false, Bool.not_true, Bool.not_false, Int.toNat_one, Int.toNat_zero, Nat.zero_mul, l_g, endK, gd_u]
  refine c_loop (fun k env H' => Keep H H' ∧ Pm H' rb q 0 0 ∧ ∃ i, k + i = l.length ∧ Pm H' ra q (nd l id i) i ∧ nd l id i ≤ q.b ∧ (i : Int) ≤ q.e ∧ (∀ j, j < i → Ok1 q (at_ l j)) ∧ env 1 = .slice A l.length c ∧ env 2 = .int .i64 turn ∧ env 7 = .pointer (some ⟨ra, 0, none⟩) ∧ env 9 = .pointer (some ⟨rb, 0, none⟩) ∧ env 11 = .int .i64 i) l.length ⟨k4, hmb, 0, by omega, hma4, hc.1, hc.2.1, fun j hj => absurd hj (by omega), rfl, rfl, rfl, rfl, rfl⟩ ?_
  rintro k env H5 ⟨k5, hb5, i, hk, ha5, hs5, hi5, hok, g1, g2, g7, g9, g11⟩
  unfold L5_0
  by_cases hi : i < l.length
  · have f1 : decide ((i : Int) < (l.length : Int)) = true := decide_eq_true (by omega)
    obtain ⟨b, rfl, hld, -⟩ := en_at (k5.row hr) hi
    have hx := at_lt hi
    rw [← hx] at hld
    simp -implicitDefEqProofs (maxSteps := 1000000) (disch := first | omega | assumption) only [g1, g2, g7, g9, g11, f1, ev_ldn, hld, Sx, reduceIte, Nat.reduceEqDiff, reduceCtorEq, Nat.reduceAdd, Nat.reduceSub, Nat.reduceLT, decide_true, decide_false, Bool.not_true, Bool.not_false, Int.toNat_one, Int.toNat_zero, Nat.zero_mul, l_g, endK, gd_u]
    have hnn : 0 ≤ nd l id i := (sm_mono (f := fun j => needV (at_ l (id j))) (n := i) (fun j hj => (hok j hj).n) (Nat.le_refl _)).1
    refine a_call (take_spec ha5 ⟨hc, wq, ⟨hnn, hs5⟩, ⟨by omega, hi5⟩⟩ (hwn _ (by rw [hx]; exact List.getElem_mem _))) ?_
    rintro e' H6 ⟨rfl, ha6, a6⟩
    have k6 := keep1 k5 fa a6
    by_cases h0 : (takeV q (nd l id i) i (at_ l i)).1 = 0
    · obtain ⟨o1, o2, o3⟩ := take_zero h0
      rw [take_yes o1 o2 o3] at ha6
      have f2 := ngf h0
      simp -implicitDefEqProofs (maxSteps := 1000000) (disch := first | omega | assumption) only [g1, g2, g7, g9, g11, f2, Sx, reduceIte, Nat.reduceEqDiff, reduceCtorEq, Nat.reduceAdd, Nat.reduceSub, Nat.reduceLT, decide_true, decide_false, Bool.not_true, Bool.not_false, Int.toNat_one, Int.toNat_zero, Nat.zero_mul, l_g, endK, gd_u]
      exact ⟨k - 1, by omega, k6, pm_oth a6 hb5 nba, i + 1, by omega, by exact_mod_cast ha6, o3, by omega, fun j hj => by
        by_cases hj' : j < i
        · exact hok j hj'
        · rw [show j = i by omega]; exact o1, by (first | exact True.intro | rfl | assumption), by (first | exact True.intro | rfl | assumption), by (first | exact True.intro | rfl | assumption), by (first | exact True.intro | rfl | assumption), by (first | exact True.intro | rfl | assumption)⟩
    · have f2 := ngt h0
      simp -implicitDefEqProofs (maxSteps := 1000000) (disch := first | omega | assumption) only [g1, g2, g7, g9, g11, f2, Sx, reduceIte, Nat.reduceEqDiff, reduceCtorEq, Nat.reduceAdd, Nat.reduceSub, Nat.reduceLT, decide_true, decide_false, Bool.not_true, Bool.not_false, Int.toNat_one, Int.toNat_zero, Nat.zero_mul, l_g, endK, gd_u]
      exact ⟨by (first | exact True.intro | rfl | assumption), k6⟩
  have f1 : decide ((i : Int) < (l.length : Int)) = false := decide_eq_false (by omega)
  obtain rfl : i = l.length := by omega
  -- the second order
  have hnp : 0 < l.length := by omega
  have hne0 : ((l.length : Nat) : Int) ≠ 0 := by omega
  have fin : ∀ (env : Env) (t : Nat), (t : Int) ≤ 9223372036854775807 → env 1 = .slice A l.length c → env 2 = .int .i64 t → env 7 = .pointer (some ⟨ra, 0, none⟩) → env 9 = .pointer (some ⟨rb, 0, none⟩) →
      awpC Tryd.prog L5_2 (retQ [RV.t 6] fun e' H' => e' = Ending.returned (Value.bool true) ∧ Keep H H') (fun ch H_1 => False ∧ Keep H H_1) env H5 := by
    intro env t ht1 g1 g2 g7 g9
    obtain ⟨g, hg⟩ : ∃ g : Nat → Nat, g = fun j => (j + t % l.length) % l.length := ⟨_, rfl⟩
    have hgl : ∀ j, g j < l.length := fun j => by rw [hg]; exact Nat.mod_lt _ hnp
    have htot : nd l g l.length = nd l id l.length := by rw [hg]; exact sm_turn (fun j => needV (at_ l j)) (Nat.mod_lt _ hnp)
    have hnn : ∀ j, 0 ≤ needV (at_ l (g j)) := fun j => (hok _ (hgl j)).n
    have hmono : ∀ m, m ≤ l.length → 0 ≤ nd l g m ∧ nd l g m ≤ nd l g l.length := fun m (hm : m ≤ l.length) => sm_mono (f := fun j => needV (at_ l (g j))) (n := l.length) (fun j _ => hnn j) hm
    unfold L5_2
    simp -implicitDefEqProofs (maxSteps := 1000000) (disch := first | omega | assumption) only [g1, g2, g7, g9, Sx, reduceIte, Nat.reduceEqDiff, reduceCtorEq, Nat.reduceAdd, Nat.reduceSub, Nat.reduceLT, decide_true, decide_false, Bool.not_true, Bool.not_false, Int.toNat_one, Int.toNat_zero, Nat.zero_mul, l_g, endK, gd_u]
    refine c_loop (fun k env H' => Keep H H' ∧ k ≤ l.length ∧ Pm H' ra q (nd l id l.length) l.length ∧ Pm H' rb q (nd l id l.length - nd l g k) (l.length - k) ∧ env 1 = .slice A l.length c ∧ env 2 = .int .i64 t ∧ env 7 = .pointer (some ⟨ra, 0, none⟩) ∧ env 9 = .pointer (some ⟨rb, 0, none⟩) ∧ env 12 = .int .i64 (k - 1)) l.length ⟨k5, Nat.le_refl _, ha5, by rw [htot, Int.sub_self, Int.sub_self]; exact hb5, by (first | exact True.intro | rfl | assumption), by (first | exact True.intro | rfl | assumption), by (first | exact True.intro | rfl | assumption), by (first | exact True.intro | rfl | assumption), by (first | exact True.intro | rfl | assumption)⟩ ?_
    rintro k env H6 ⟨k6, hkl, ha6, hb6, g1, g2, g7, g9, g12⟩
    unfold L5_1
    by_cases hk0 : k = 0
    · subst hk0
      have f2 : decide (0 ≤ ((0 : Nat) : Int) - 1) = false := rfl
      have hb6 : Pm H6 rb q (nd l id l.length) l.length := by
        have e0 : nd l g 0 = 0 := rfl
        rw [e0, Int.sub_zero, show ((l.length : Int) - ((0 : Nat) : Int)) = l.length by omega] at hb6
        exact hb6
      have hs0 : 0 ≤ nd l id l.length := by rw [← htot]; exact (hmono _ (Nat.le_refl _)).1
      simp -implicitDefEqProofs (maxSteps := 1000000) (disch := first | omega | assumption) only [g1, g2, g7, g9, g12, f2, Sx, reduceIte, Nat.reduceEqDiff, reduceCtorEq, Nat.reduceAdd, Nat.reduceSub, Nat.reduceLT, decide_true, decide_false, Bool.not_true, Bool.not_false, Int.toNat_one, Int.toNat_zero, Nat.zero_mul, l_g, endK, gd_u]
      refine a_call (left_spec ha6 hc wq ⟨hs0, hs5⟩ ⟨by omega, hi5⟩) ?_
      rintro e' H7 ⟨rfl, k7⟩
      simp -implicitDefEqProofs (maxSteps := 1000000) (disch := first | omega | assumption) only [g1, g2, g7, g9, g12, Sx, reduceIte, Nat.reduceEqDiff, reduceCtorEq, Nat.reduceAdd, Nat.reduceSub, Nat.reduceLT, decide_true, decide_false, Bool.not_true, Bool.not_false, Int.toNat_one, Int.toNat_zero, Nat.zero_mul, l_g, endK, gd_u]
      refine a_call (left_spec (k7 _ _ hb6) hc wq ⟨hs0, hs5⟩ ⟨by omega, hi5⟩) ?_
      rintro e' H8 ⟨rfl, k8⟩
      simp -implicitDefEqProofs (maxSteps := 1000000) (disch := first | omega | assumption) only [g1, g2, g7, g9, g12, eqaI, and_self, eq_self, bff, btf, btt, bft, Sx, reduceIte, Nat.reduceEqDiff, reduceCtorEq, Nat.reduceAdd, Nat.reduceSub, Nat.reduceLT, decide_true, decide_false, Bool.not_true, Bool.not_false, Int.toNat_one, Int.toNat_zero, Nat.zero_mul, l_g, endK, gd_u]
      refine a_call (used_spec (k8 _ _ (k7 _ _ ha6))) ?_
      rintro e' H9 ⟨rfl, k9⟩
      simp -implicitDefEqProofs (maxSteps := 1000000) (disch := first | omega | assumption) only [g1, g2, g7, g9, g12, eqaI, and_self, eq_self, bff, btf, btt, bft, Sx, reduceIte, Nat.reduceEqDiff, reduceCtorEq, Nat.reduceAdd, Nat.reduceSub, Nat.reduceLT, decide_true, decide_false, Bool.not_true, Bool.not_false, Int.toNat_one, Int.toNat_zero, Nat.zero_mul, l_g, endK, gd_u]
      refine a_call (used_spec (k9 _ _ (k8 _ _ (k7 _ _ hb6)))) ?_
      rintro e' Ha ⟨rfl, ka⟩
      simp -implicitDefEqProofs (maxSteps := 1000000) (disch := first | omega | assumption) only [g1, g2, g7, g9, g12, eqaI, and_self, eq_self, bff, btf, btt, bft, Sx, reduceIte, Nat.reduceEqDiff, reduceCtorEq, Nat.reduceAdd, Nat.reduceSub, Nat.reduceLT, decide_true, decide_false, Bool.not_true, Bool.not_false, Int.toNat_one, Int.toNat_zero, Nat.zero_mul, l_g, endK, gd_u]
      exact ⟨by (first | exact True.intro | rfl | assumption), (((k6.trans k7).trans k8).trans k9).trans ka⟩
    · obtain ⟨m, rfl⟩ : ∃ m, k = m + 1 := ⟨k - 1, by omega⟩
      have f2 : decide (0 ≤ (m : Int)) = true := decide_eq_true (by omega)
      have hp : ((m + 1 : Nat) : Int) - 1 = m := by omega
      obtain ⟨b, rfl, hld, -⟩ := en_at (k6.row hr) (hgl m)
      have hx := at_lt (hgl m)
      rw [← hx] at hld
      have e1 : ((t : Int).tmod (l.length : Int)) = ((t % l.length : Nat) : Int) := rem_lt hnp
      have e2 : (((m : Int) + ((t % l.length : Nat) : Int)).tmod (l.length : Int)) = ((g m : Nat) : Int) := by rw [hg, ← Int.natCast_add]; exact rem_lt hnp
      have hml := Nat.mod_lt t hnp
      have hgm := hgl m
      rw [hp] at g12
      simp -implicitDefEqProofs (maxSteps := 1000000) (disch := first | omega | assumption) only [g1, g2, g7, g9, g12, f2, e1, e2, ev_ldn, hld, Sx, reduceIte, Nat.reduceEqDiff, reduceCtorEq, Nat.reduceAdd, Nat.reduceSub, Nat.reduceLT, decide_true, decide_false, Bool.not_true, Bool.not_false, Int.toNat_one, Int.toNat_zero, Nat.zero_mul, l_g, endK, gd_u]
      have o1 := hok _ hgm
      have hs1 : nd l g (m + 1) = nd l g m + needV (at_ l (g m)) := rfl
      have hm1 := hmono m (by omega)
      have hm2 := hmono (m + 1) hkl
      have htk : takeV q (nd l id l.length - nd l g (m + 1)) ((l.length : Int) - ((m + 1 : Nat) : Int)) (at_ l (g m)) = ((0 : Int), nd l id l.length - nd l g m, (l.length : Int) - (m : Int)) := by
        rw [take_yes o1 (by omega) (by omega), show nd l id l.length - nd l g (m + 1) + needV (at_ l (g m)) = nd l id l.length - nd l g m by omega, show ((l.length : Int) - ((m + 1 : Nat) : Int)) + 1 = l.length - m by omega]
      refine a_call (take_spec (x := at_ l (g m)) hb6 ⟨hc, wq, ⟨by omega, by omega⟩, ⟨by omega, by omega⟩⟩ (hwn _ (by rw [hx]; exact List.getElem_mem _))) ?_
      rw [htk]
      rintro e' H7 ⟨rfl, hb7, a7⟩
      simp -implicitDefEqProofs (maxSteps := 1000000) (disch := first | omega | assumption) only [g1, g2, g7, g9, g12, n00, Sx, reduceIte, Nat.reduceEqDiff, reduceCtorEq, Nat.reduceAdd, Nat.reduceSub, Nat.reduceLT, decide_true, decide_false, Bool.not_true, Bool.not_false, Int.toNat_one, Int.toNat_zero, Nat.zero_mul, l_g, endK, gd_u]
      exact ⟨m, by omega, keep1 k6 fb a7, by omega, pm_oth a7 ha6 (Ne.symm nba), hb7, by (first | exact True.intro | rfl | assumption), by (first | exact True.intro | rfl | assumption), by (first | exact True.intro | rfl | assumption), by (first | exact True.intro | rfl | assumption), by (first | exact True.intro | rfl | assumption)⟩
  by_cases hneg : turn < 0
  · have f2 : decide (turn < 0) = true := decide_eq_true hneg
    unfold i64 at ht
    simp -implicitDefEqProofs (maxSteps := 1000000) (disch := first | omega | assumption) only [g1, g2, g7, g9, g11, f1, f2, Sx, reduceIte, Nat.reduceEqDiff, reduceCtorEq, Nat.reduceAdd, Nat.reduceSub, Nat.reduceLT, decide_true, decide_false, Bool.not_true, Bool.not_false, Int.toNat_one, Int.toNat_zero, Nat.zero_mul, l_g, endK, gd_u]
    exact fin _ (-(turn + 1)).toNat (by omega) (by simp -implicitDefEqProofs (maxSteps := 1000000) (disch := first | omega | assumption) only [g1, Sx, reduceIte, Nat.reduceEqDiff, reduceCtorEq, Nat.reduceAdd, Nat.reduceSub, Nat.reduceLT, decide_true, decide_false, Bool.not_true, Bool.not_false, Int.toNat_one, Int.toNat_zero, Nat.zero_mul, l_g, endK, gd_u]) (by simp -implicitDefEqProofs (maxSteps := 1000000) (disch := first | omega | assumption) only [Sx, reduceIte, Nat.reduceEqDiff, reduceCtorEq, Nat.reduceAdd, Nat.reduceSub, Nat.reduceLT, decide_true, decide_false, Bool.not_true, Bool.not_false, Int.toNat_one, Int.toNat_zero, Nat.zero_mul, l_g, endK, gd_u]; rw [Int.toNat_of_nonneg (by omega), Int.zero_sub]) (by simp -implicitDefEqProofs (maxSteps := 1000000) (disch := first | omega | assumption) only [g7, Sx, reduceIte, Nat.reduceEqDiff, reduceCtorEq, Nat.reduceAdd, Nat.reduceSub, Nat.reduceLT, decide_true, decide_false, Bool.not_true, Bool.not_false, Int.toNat_one, Int.toNat_zero, Nat.zero_mul, l_g, endK, gd_u]) (by simp -implicitDefEqProofs (maxSteps := 1000000) (disch := first | omega | assumption) only [g9, Sx, reduceIte, Nat.reduceEqDiff, reduceCtorEq, Nat.reduceAdd, Nat.reduceSub, Nat.reduceLT, decide_true, decide_false, Bool.not_true, Bool.not_false, Int.toNat_one, Int.toNat_zero, Nat.zero_mul, l_g, endK, gd_u])
  · have f2 : decide (turn < 0) = false := decide_eq_false hneg
    unfold i64 at ht
    simp -implicitDefEqProofs (maxSteps := 1000000) (disch := first | omega | assumption) only [g1, g2, g7, g9, g11, f1, f2, Sx, reduceIte, Nat.reduceEqDiff, reduceCtorEq, Nat.reduceAdd, Nat.reduceSub, Nat.reduceLT, decide_true, decide_false, Bool.not_true, Bool.not_false, Int.toNat_one, Int.toNat_zero, Nat.zero_mul, l_g, endK, gd_u]
    exact fin _ turn.toNat (by omega) (by simp -implicitDefEqProofs (maxSteps := 1000000) (disch := first | omega | assumption) only [g1, Sx, reduceIte, Nat.reduceEqDiff, reduceCtorEq, Nat.reduceAdd, Nat.reduceSub, Nat.reduceLT, decide_true, decide_false, Bool.not_true, Bool.not_false, Int.toNat_one, Int.toNat_zero, Nat.zero_mul, l_g, endK, gd_u]) (by simp -implicitDefEqProofs (maxSteps := 1000000) (disch := first | omega | assumption) only [g2, Sx, reduceIte, Nat.reduceEqDiff, reduceCtorEq, Nat.reduceAdd, Nat.reduceSub, Nat.reduceLT, decide_true, decide_false, Bool.not_true, Bool.not_false, Int.toNat_one, Int.toNat_zero, Nat.zero_mul, l_g, endK, gd_u]; rw [Int.toNat_of_nonneg (by omega)]) (by simp -implicitDefEqProofs (maxSteps := 1000000) (disch := first | omega | assumption) only [g7, Sx, reduceIte, Nat.reduceEqDiff, reduceCtorEq, Nat.reduceAdd, Nat.reduceSub, Nat.reduceLT, decide_true, decide_false, Bool.not_true, Bool.not_false, Int.toNat_one, Int.toNat_zero, Nat.zero_mul, l_g, endK, gd_u]) (by simp -implicitDefEqProofs (maxSteps := 1000000) (disch := first | omega | assumption) only [g9, Sx, reduceIte, Nat.reduceEqDiff, reduceCtorEq, Nat.reduceAdd, Nat.reduceSub, Nat.reduceLT, decide_true, decide_false, Bool.not_true, Bool.not_false, Int.toNat_one, Int.toNat_zero, Nat.zero_mul, l_g, endK, gd_u])
end Go.Proofs.YtmgpfdfbcnlocaaDoor.S18
