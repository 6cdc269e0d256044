/-
  QuotaAlone.
-/
import Derived.Test.YtmgpfdfbcnlocaaDoorOrder
set_option linter.unusedVariables false
set_option linter.unusedSimpArgs false
namespace Go.Proofs.YtmgpfdfbcnlocaaDoor.S18
open Go Go.RowKit Go.Proofs.YtmgpfdfbcnlocaaDoor.Sep Go.Proofs.YtmgpfdfbcnlocaaDoor.Low Go.Proofs.YtmgpfdfbcnlocaaDoor.Lib Go.Proofs.YtmgpfdfbcnlocaaDoor.S09

/-- the other's data about x's name, kind and (a file's) size -/
def mix (y x : En) : En := { y with n := x.n, k := x.k, s := if x.k = 2 then x.s else y.s }
theorem need_mix {x y : En} : needV (mix y x) = needV x := by
  unfold needV mix
  by_cases h : x.k = 2
  · simp [h]
  · simp [h]
theorem take_mix {q : Qt} {b e : Int} {x y : En} : takeV q b e (mix y x) = takeV q b e x := by
  unfold takeV
  rw [need_mix]
  rfl
theorem back_yes {q : Qt} {b e : Int} {x : En} (h : Ok1 q x) (hb : 0 ≤ b) (he : 0 ≤ e) : backV (b + needV x) (e + 1) x = (0, b, e) := by
  have := h.n
  unfold backV
  rw [if_neg (by omega), show b + needV x - needV x = b by omega, show e + 1 - 1 = e by omega]

theorem wn_mix {x y : En} (hx : Wn x) (hy : Wn y) : Wn (mix y x) := by
  refine ⟨hx.n, hx.k, ?_⟩
  show i64 (if x.k = 2 then x.s else y.s)
  split
  · exact hx.s
  · exact hy.s

theorem eqaT {H : Heap} {q : Qt} {neg : Bool} : (QI.eqa [(0, .i), (1, .i), (2, .i)] neg).ev [.agg (qt q).toArray, .agg (qt q).toArray] H = some (.bool (true != neg)) := by
  rw [show (QI.eqa [(0, .i), (1, .i), (2, .i)] neg).ev [.agg (qt q).toArray, .agg (qt q).toArray] H = some (.bool (decide (q.b = q.b ∧ q.e = q.e ∧ q.d = q.d) != neg)) from eqaI]
  simp
set_option maxHeartbeats 8000000 in
/-- one entry on both meters -/
theorem alone_one {H : Heap} {Q : Post} {QP : List PanicEntry → Heap → Prop} {env : Env} {ra rb r3 r4 : Nat} {q : Qt} {b e : Int} {x y : En} (ha : Pm H ra q b e) (hb : Pm H rb q b e) (hx : H r3 = some (.cells (en x).toArray 38 (0, 0))) (hy : H r4 = some (.cells (en (mix y x)).toArray 38 (0, 0)))
    (ok : Okm q b e) (wx : Wn x) (wy : Wn y) (nba : rb ≠ ra) (n3a : r3 ≠ ra) (n3b : r3 ≠ rb) (n4a : r4 ≠ ra) (n4b : r4 ≠ rb) (g7 : env 7 = .pointer (some ⟨ra, 0, none⟩)) (g9 : env 9 = .pointer (some ⟨rb, 0, none⟩)) (g12 : env 12 = .pointer (some ⟨r3, 0, none⟩)) (g13 : env 13 = .pointer (some ⟨r4, 0, none⟩))
    (hQ : ∀ env' H' b' e', env' 1 = env 1 → env' 5 = env 5 → env' 7 = env 7 → env' 9 = env 9 → env' 11 = env 11 → (∀ k o, H k = some o → k ≠ ra → k ≠ rb → H' k = some o) → Pm H' ra q b' e' → Pm H' rb q b' e' → Okm q b' e' → Q .normal env' H') :
    awpC Tryd.prog L4_0 Q QP env H := by
  obtain ⟨W, hW⟩ : ∃ W : Qt, W = ⟨q.b - b, q.e - e, q.d⟩ := ⟨_, rfl⟩
  unfold L4_0
  simp -implicitDefEqProofs (maxSteps := 1000000) (disch := first | omega | assumption) only [g7, g9, g12, g13, Sx, reduceIte, Nat.reduceEqDiff, reduceCtorEq, Nat.reduceAdd, Nat.reduceSub, Nat.reduceLT, decide_true, decide_false, Bool.not_true, Bool.not_false, Int.toNat_one, Int.toNat_zero, Nat.zero_mul, l_g, endK, gd_u]
  refine a_call (left_spec ha ok.can ok.w ok.b ok.e) ?_
  rw [← hW]
  rintro e' H1 ⟨rfl, k1⟩
  simp -implicitDefEqProofs (maxSteps := 1000000) (disch := first | omega | assumption) only [g7, g9, g12, g13, Sx, reduceIte, Nat.reduceEqDiff, reduceCtorEq, Nat.reduceAdd, Nat.reduceSub, Nat.reduceLT, decide_true, decide_false, Bool.not_true, Bool.not_false, Int.toNat_one, Int.toNat_zero, Nat.zero_mul, l_g, endK, gd_u]
  refine a_new fun r5 hr5 => ?_
  try simp -implicitDefEqProofs (maxSteps := 1000000) (disch := first | omega | assumption) only [g7, g9, g12, g13, Sx, reduceIte, Nat.reduceEqDiff, reduceCtorEq, Nat.reduceAdd, Nat.reduceSub, Nat.reduceLT, decide_true, decide_false, Bool.not_true, Bool.not_false, Int.toNat_one, Int.toNat_zero, Nat.zero_mul, l_g, endK, gd_u]
  refine st_all (old := qt ⟨0, 0, 0⟩) (ci := qt W) set_same (by rfl) (by rfl) (by simp [scalarV]) ?_
  rw [set_set]
  have n5a := new_free (Keep.refl _) (k1 _ _ ha) hr5
  have n5b := new_free (Keep.refl _) (k1 _ _ hb) hr5
  obtain ⟨H2, k2, h5, h2⟩ : ∃ H2, Keep H H2 ∧ H2 r5 = some (.cells (qt W).toArray 23 (0, 0)) ∧ H1.set r5 (.cells (qt W).toArray 23 (0, 0)) = H2 := ⟨_, k1.set_new hr5, set_same, rfl⟩
  rw [h2]
  have lx := fun (H' : Heap) (h : H' r3 = some (.cells (en x).toArray 38 (0, 0))) => loadN_of (o := 0) (n := 12) (l := en x) h rfl rfl
  have lx2 := lx _ (k2 _ _ hx)
  simp -implicitDefEqProofs (maxSteps := 1000000) (disch := first | omega | assumption) only [g7, g9, g12, g13, ev_ldn, lx2, Sx, reduceIte, Nat.reduceEqDiff, reduceCtorEq, Nat.reduceAdd, Nat.reduceSub, Nat.reduceLT, decide_true, decide_false, Bool.not_true, Bool.not_false, Int.toNat_one, Int.toNat_zero, Nat.zero_mul, l_g, endK, gd_u]
  refine a_call (take_spec (x := x) (k2 _ _ ha) ok wx) ?_
  rintro e' H3 ⟨rfl, ha3, a3⟩
  have hb3 := pm_oth a3 (k2 _ _ hb) nba
  have hy3 := a3.oth _ _ (k2 _ _ hy) n4a
  have hx3 := a3.oth _ _ (k2 _ _ hx) n3a
  have h53 := a3.oth _ _ h5 n5a
  have ly3 := loadN_of (o := 0) (n := 12) (l := en (mix y x)) hy3 rfl rfl
  obtain ⟨V, hV⟩ : ∃ V, V = takeV q b e x := ⟨_, rfl⟩
  have ok3 := ok.take x
  rw [← hV] at ha3 ok3 ⊢
  simp -implicitDefEqProofs (maxSteps := 1000000) (disch := first | omega | assumption) only [g7, g9, g12, g13, ev_ldn, ly3, Sx, reduceIte, Nat.reduceEqDiff, reduceCtorEq, Nat.reduceAdd, Nat.reduceSub, Nat.reduceLT, decide_true, decide_false, Bool.not_true, Bool.not_false, Int.toNat_one, Int.toNat_zero, Nat.zero_mul, l_g, endK, gd_u]
  refine a_call (take_spec (x := mix y x) hb3 ok (wn_mix wx wy)) ?_
  rw [take_mix, ← hV]
  rintro e' H4 ⟨rfl, hb4, a4⟩
  have ha4 := pm_oth a4 ha3 (Ne.symm nba)
  have hx4 := a4.oth _ _ hx3 n3b
  have h54 := a4.oth _ _ h53 n5b
  have fr4 : ∀ k o, H k = some o → k ≠ ra → k ≠ rb → H4 k = some o := fun k o hk h1 h2 => a4.oth _ _ (a3.oth _ _ (k2 _ _ hk) h1) h2
  have fz : (V.1 != V.1) = false := by simp
  simp -implicitDefEqProofs (maxSteps := 1000000) (disch := first | omega | assumption) only [g7, g9, g12, g13, fz, Sx, reduceIte, Nat.reduceEqDiff, reduceCtorEq, Nat.reduceAdd, Nat.reduceSub, Nat.reduceLT, decide_true, decide_false, Bool.not_true, Bool.not_false, Int.toNat_one, Int.toNat_zero, Nat.zero_mul, l_g, endK, gd_u]
  refine a_call (left_spec ha4 ok3.can ok3.w ok3.b ok3.e) ?_
  obtain ⟨W2, hW2⟩ : ∃ W2 : Qt, W2 = ⟨q.b - V.2.1, q.e - V.2.2, q.d⟩ := ⟨_, rfl⟩
  rw [← hW2]
  rintro e' H5 ⟨rfl, k5⟩
  simp -implicitDefEqProofs (maxSteps := 1000000) (disch := first | omega | assumption) only [g7, g9, g12, g13, Sx, reduceIte, Nat.reduceEqDiff, reduceCtorEq, Nat.reduceAdd, Nat.reduceSub, Nat.reduceLT, decide_true, decide_false, Bool.not_true, Bool.not_false, Int.toNat_one, Int.toNat_zero, Nat.zero_mul, l_g, endK, gd_u]
  refine a_call (left_spec (k5 _ _ hb4) ok3.can ok3.w ok3.b ok3.e) ?_
  rw [← hW2]
  rintro e' H6 ⟨rfl, k6⟩
  have k6 := k5.trans k6
  have ha6 : Pm H6 ra q V.2.1 V.2.2 := k6 _ _ ha4
  have hb6 : Pm H6 rb q V.2.1 V.2.2 := k6 _ _ hb4
  have hx6 := k6 _ _ hx4
  have h56 := k6 _ _ h54
  have fr6 : ∀ k o, H k = some o → k ≠ ra → k ≠ rb → H6 k = some o := fun k o hk h1 h2 => k6 _ _ (fr4 k o hk h1 h2)
  by_cases hz : V.1 = 0
  · have z1 : (V.1 != 0) = false := ngf hz
    have z2 : (V.1 == 0) = true := by rw [hz]; rfl
    have hz' := hz
    rw [hV] at hz'
    obtain ⟨o1, o2, o3⟩ := take_zero hz'
    have hVe := take_yes o1 o2 o3
    rw [← hV] at hVe
    have w1 : V.2.1 = b + needV x := by rw [hVe]
    have w2 : V.2.2 = e + 1 := by rw [hVe]
    have lx6 := lx _ hx6
    simp -implicitDefEqProofs (maxSteps := 1000000) (disch := first | omega | assumption) only [g7, g9, g12, g13, z1, z2, eqaI, and_self, eq_self, bff, btf, btt, bft, ev_ldn, lx6, Sx, reduceIte, Nat.reduceEqDiff, reduceCtorEq, Nat.reduceAdd, Nat.reduceSub, Nat.reduceLT, decide_true, decide_false, Bool.not_true, Bool.not_false, Int.toNat_one, Int.toNat_zero, Nat.zero_mul, l_g, endK, gd_u]
    refine a_call (back_spec (x := x) ha6 ok3 wx) ?_
    rw [w1, w2, back_yes o1 ok.b.1 ok.e.1]
    rintro e' H7 ⟨rfl, ha7, a7⟩
    have hb7 := pm_oth a7 hb6 nba
    have h57 := a7.oth _ _ h56 n5a
    have hx7 := a7.oth _ _ hx6 n3a
    have l57 := loadN_of (o := 0) (n := 3) (l := qt W) h57 rfl rfl
    simp -implicitDefEqProofs (maxSteps := 1000000) (disch := first | omega | assumption) only [g7, g9, g12, g13, n00, ev_ldn, l57, l_qk, l_e, Sx, reduceIte, Nat.reduceEqDiff, reduceCtorEq, Nat.reduceAdd, Nat.reduceSub, Nat.reduceLT, decide_true, decide_false, Bool.not_true, Bool.not_false, Int.toNat_one, Int.toNat_zero, Nat.zero_mul, l_g, endK, gd_u]
    refine a_call (left_spec ha7 ok.can ok.w ok.b ok.e) ?_
    rw [← hW]
    rintro e' H8 ⟨rfl, k8⟩
    have l58 := loadN_of (o := 0) (n := 3) (l := qt W) (k8 _ _ h57) rfl rfl
    refine ⟨fun z hz _ => ?_, ?_⟩
    · simp only [List.mem_cons, List.not_mem_nil, or_false] at hz
      subst hz
      simp -implicitDefEqProofs (maxSteps := 1000000) (disch := first | omega | assumption) only [ev_ldn, l58, Sx, reduceIte, Nat.reduceEqDiff, reduceCtorEq, Nat.reduceAdd, Nat.reduceSub, Nat.reduceLT, decide_true, decide_false, Bool.not_true, Bool.not_false, Int.toNat_one, Int.toNat_zero, Nat.zero_mul, l_g, endK, gd_u]
    have lx8 := lx _ (k8 _ _ hx7)
    simp -implicitDefEqProofs (maxSteps := 1000000) (disch := first | omega | assumption) only [g7, g9, g12, g13, eqaI, and_self, eq_self, bff, btf, btt, bft, ev_ldn, lx8, Sx, reduceIte, Nat.reduceEqDiff, reduceCtorEq, Nat.reduceAdd, Nat.reduceSub, Nat.reduceLT, decide_true, decide_false, Bool.not_true, Bool.not_false, Int.toNat_one, Int.toNat_zero, Nat.zero_mul, l_g, endK, gd_u]
    refine a_call (take_spec (x := x) (k8 _ _ ha7) ok wx) ?_
    rw [← hV, hVe]
    rintro e' H9 ⟨rfl, ha9, a9⟩
    refine ⟨fun z _ h => absurd h List.not_mem_nil, ?_⟩
    simp -implicitDefEqProofs (maxSteps := 1000000) (disch := first | omega | assumption) only [g7, g9, g12, g13, n00, Sx, reduceIte, Nat.reduceEqDiff, reduceCtorEq, Nat.reduceAdd, Nat.reduceSub, Nat.reduceLT, decide_true, decide_false, Bool.not_true, Bool.not_false, Int.toNat_one, Int.toNat_zero, Nat.zero_mul, l_g, endK, gd_u]
    refine hQ _ _ _ _ (by (first | exact True.intro | rfl | assumption)) (by (first | exact True.intro | rfl | assumption)) (by (first | exact True.intro | rfl | assumption)) (by (first | exact True.intro | rfl | assumption)) (by (first | exact True.intro | rfl | assumption)) (fun k o hk h1 h2 => a9.oth _ _ (k8 _ _ (a7.oth _ _ (fr6 k o hk h1 h2) h1)) h1) ha9 ?_ ?_
    · rw [← w1, ← w2]
      exact pm_oth a9 (k8 _ _ hb7) nba
    · rw [w1, w2] at ok3
      exact ok3
  · have z1 : (V.1 != 0) = true := ngt hz
    have z2 : (V.1 == 0) = false := by rw [beq_eq_false_iff_ne]; exact hz
    have hz' := hz
    rw [hV] at hz'
    have hVe := take_no hz'
    rw [← hV] at hVe
    have w1 : V.2.1 = b := by rw [hVe]
    have w2 : V.2.2 = e := by rw [hVe]
    have l56 := loadN_of (o := 0) (n := 3) (l := qt W) h56 rfl rfl
    simp -implicitDefEqProofs (maxSteps := 1000000) (disch := first | omega | assumption) only [g7, g9, g12, g13, z1, z2, eqaI, and_self, eq_self, bff, btf, btt, bft, ev_ldn, l56, l_qk, l_e, Sx, reduceIte, Nat.reduceEqDiff, reduceCtorEq, Nat.reduceAdd, Nat.reduceSub, Nat.reduceLT, decide_true, decide_false, Bool.not_true, Bool.not_false, Int.toNat_one, Int.toNat_zero, Nat.zero_mul, l_g, endK, gd_u]
    refine a_call (left_spec ha6 ok3.can ok3.w ok3.b ok3.e) ?_
    rw [← hW2]
    have hWW : W2 = W := by rw [hW, hW2, w1, w2]
    rw [hWW]
    rintro e' H8 ⟨rfl, k8⟩
    have l58 := loadN_of (o := 0) (n := 3) (l := qt W) (k8 _ _ h56) rfl rfl
    refine ⟨fun z hz _ => ?_, ?_⟩
    · simp only [List.mem_cons, List.not_mem_nil, or_false] at hz
      subst hz
      simp -implicitDefEqProofs (maxSteps := 1000000) (disch := first | omega | assumption) only [ev_ldn, l58, Sx, reduceIte, Nat.reduceEqDiff, reduceCtorEq, Nat.reduceAdd, Nat.reduceSub, Nat.reduceLT, decide_true, decide_false, Bool.not_true, Bool.not_false, Int.toNat_one, Int.toNat_zero, Nat.zero_mul, l_g, endK, gd_u]
    simp -implicitDefEqProofs (maxSteps := 1000000) (disch := first | omega | assumption) only [g7, g9, g12, g13, z1, z2, eqaI, and_self, eq_self, bff, btf, btt, bft, Sx, reduceIte, Nat.reduceEqDiff, reduceCtorEq, Nat.reduceAdd, Nat.reduceSub, Nat.reduceLT, decide_true, decide_false, Bool.not_true, Bool.not_false, Int.toNat_one, Int.toNat_zero, Nat.zero_mul, l_g, endK, gd_u]
    exact hQ _ _ _ _ (by (first | exact True.intro | rfl | assumption)) (by (first | exact True.intro | rfl | assumption)) (by (first | exact True.intro | rfl | assumption)) (by (first | exact True.intro | rfl | assumption)) (by (first | exact True.intro | rfl | assumption)) (fun k o hk h1 h2 => k8 _ _ (fr6 k o hk h1 h2)) (k8 _ _ ha6) (k8 _ _ hb6) ok3

set_option maxHeartbeats 8000000 in
theorem alone_walk {H : Heap} {A : Option Addr} {c : Nat} {l : List En} {q : Qt} {y : En} (wq : Wq q) (hr : Row H A (ens l)) (hcl : l.length ≤ c) (hwn : ∀ x ∈ l, Wn x) (hl : l.length ≤ 1048576) (hy : Wn y) :
    ACalls Tryd.prog 4 [Value.agg (qt q).toArray, .slice A l.length c, .agg (en y).toArray].toArray H fun e' H' => e' = .returned (.bool true) ∧ Keep H H' := by
  refine call4 (Nat.le_of_ble_eq_true rfl) ?_
  unfold L4 env0
  simp -implicitDefEqProofs (maxSteps := 1000000) (disch := first | omega | assumption) only [Sx, reduceIte, Nat.reduceEqDiff, reduceCtorEq, Nat.reduceAdd, Nat.reduceSub, Nat.reduceLT, decide_true, decide_false, Bool.not_true, Bool.not_false, Int.toNat_one, Int.toNat_zero, Nat.zero_mul, l_g, endK, gd_u]
  refine a_box fun r1 hr1 => ?_
  obtain ⟨H1, hH1, k1, hb1⟩ := qbox (q := q) hr1
  rw [show H.set r1 (.cells (Value.agg (qt q).toArray).cells 23 (0, 0)) = H1 from hH1.symm]
  try simp -implicitDefEqProofs (maxSteps := 1000000) (disch := first | omega | assumption) only [Sx, reduceIte, Nat.reduceEqDiff, reduceCtorEq, Nat.reduceAdd, Nat.reduceSub, Nat.reduceLT, decide_true, decide_false, Bool.not_true, Bool.not_false, Int.toNat_one, Int.toNat_zero, Nat.zero_mul, l_g, endK, gd_u]
  refine a_box fun r2 hr2 => ?_
  obtain ⟨H1b, hH1b, k1b, hbb⟩ := boxed (x := y) hr2
  rw [show H1.set r2 (.cells (Value.agg (en y).toArray).cells 38 (0, 0)) = H1b from hH1b.symm]
  have hb1 := k1b _ _ hb1
  have fr2 : H r2 = none := k1.none hr2
  have k1 := k1.trans k1b
  try simp -implicitDefEqProofs (maxSteps := 1000000) (disch := first | omega | assumption) only [Sx, reduceIte, Nat.reduceEqDiff, reduceCtorEq, Nat.reduceAdd, Nat.reduceSub, Nat.reduceLT, decide_true, decide_false, Bool.not_true, Bool.not_false, Int.toNat_one, Int.toNat_zero, Nat.zero_mul, l_g, endK, gd_u]
  refine a_call lives_spec ?_
  rintro e' H2 ⟨rfl, k2⟩
  have hb2 := k2 _ _ hb1
  have hbb2 := k2 _ _ hbb
  have l2 := loadN_of (o := 0) (n := 3) (l := qt q) hb2 rfl rfl
  have k2 := k1.trans k2
  simp -implicitDefEqProofs (maxSteps := 1000000) (disch := first | omega | assumption) only [ev_ldn, l2, Sx, reduceIte, Nat.reduceEqDiff, reduceCtorEq, Nat.reduceAdd, Nat.reduceSub, Nat.reduceLT, decide_true, decide_false, Bool.not_true, Bool.not_false, Int.toNat_one, Int.toNat_zero, Nat.zero_mul, l_g, endK, gd_u]
  refine a_call new_spec ?_
  rintro e' H3 ⟨k3, hN3⟩
  have hb3 := k3 _ _ hb2
  have hbb3 := k3 _ _ hbb2
  have l3 := loadN_of (o := 0) (n := 3) (l := qt q) hb3 rfl rfl
  have k3' := k2.trans k3
  rcases hN3 with ⟨hc, ra, rfl, hra, hma⟩ | ⟨hc, rfl⟩
  rotate_left
  · simp -implicitDefEqProofs (maxSteps := 1000000) (disch := first | omega | assumption) only [ev_ldn, l3, Sx, reduceIte, Nat.reduceEqDiff, reduceCtorEq, Nat.reduceAdd, Nat.reduceSub, Nat.reduceLT, decide_true, decide_false, Bool.not_true, Bool.not_false, Int.toNat_one, Int.toNat_zero, Nat.zero_mul, l_g, endK, gd_u]
    refine a_call new_spec ?_
    rintro e' H4 ⟨k4, hN4⟩
    rcases hN4 with ⟨hc', -⟩ | ⟨-, rfl⟩
    · exact absurd hc' hc
    have l4 := loadN_of (o := 0) (n := 3) (l := qt q) (k4 _ _ hb3) rfl rfl
    simp -implicitDefEqProofs (maxSteps := 1000000) (disch := first | omega | assumption) only [n01, e11, ev_ldn, l4, Sx, reduceIte, Nat.reduceEqDiff, reduceCtorEq, Nat.reduceAdd, Nat.reduceSub, Nat.reduceLT, decide_true, decide_false, Bool.not_true, Bool.not_false, Int.toNat_one, Int.toNat_zero, Nat.zero_mul, l_g, endK, gd_u]
    refine a_call can_spec ?_
    rintro e' H5 ⟨rfl, k5⟩
    rw [decide_eq_false hc]
    simp -implicitDefEqProofs (maxSteps := 1000000) (disch := first | omega | assumption) only [n01, e11, Sx, reduceIte, Nat.reduceEqDiff, reduceCtorEq, Nat.reduceAdd, Nat.reduceSub, Nat.reduceLT, decide_true, decide_false, Bool.not_true, Bool.not_false, Int.toNat_one, Int.toNat_zero, Nat.zero_mul, l_g, endK, gd_u]
    exact ⟨by (first | exact True.intro | rfl | assumption), (k3'.trans k4).trans k5⟩
  simp -implicitDefEqProofs (maxSteps := 1000000) (disch := first | omega | assumption) only [ev_ldn, l3, Sx, reduceIte, Nat.reduceEqDiff, reduceCtorEq, Nat.reduceAdd, Nat.reduceSub, Nat.reduceLT, decide_true, decide_false, Bool.not_true, Bool.not_false, Int.toNat_one, Int.toNat_zero, Nat.zero_mul, l_g, endK, gd_u]
  refine a_call new_spec ?_
  rintro e' H4 ⟨k4, hN4⟩
  rcases hN4 with ⟨-, rb, rfl, hrb, hmb⟩ | ⟨hc', rfl⟩
  rotate_left
  · exact absurd hc hc'
  have hma4 : Pm H4 ra q 0 0 := k4 _ _ hma
  have hbb4 := k4 _ _ hbb3
  have nba : rb ≠ ra := new_free (Keep.refl _) hma hrb
  have n2a : r2 ≠ ra := Ne.symm (new_free (Keep.refl _) hbb2 hra)
  have n2b : r2 ≠ rb := Ne.symm (new_free (Keep.refl _) hbb3 hrb)
  have k4 := k3'.trans k4
  have fa : H ra = none := k2.none hra
  have fb : H rb = none := k3'.none hrb
  simp -implicitDefEqProofs (maxSteps := 1000000) (disch := first | omega | assumption) only [n00, e00, bff, Sx, reduceIte, Nat.reduceEqDiff, reduceCtorEq, Nat.reduceAdd, Nat.reduceSub, Nat.reduceLT, decide_true, decide_false, Bool.not_true, Bool.not_false, Int.toNat_one, Int.toNat_zero, Nat.zero_mul, l_g, endK, gd_u]
  refine c_loop (fun k env H' => Keep H H' ∧ H' r2 = some (.cells (en y).toArray 38 (0, 0)) ∧ ∃ i b e, k + i = l.length ∧ Pm H' ra q b e ∧ Pm H' rb q b e ∧ Okm q b e ∧ env 1 = .slice A l.length c ∧ env 5 = .pointer (some ⟨r2, 0, none⟩) ∧ env 7 = .pointer (some ⟨ra, 0, none⟩) ∧ env 9 = .pointer (some ⟨rb, 0, none⟩) ∧ env 11 = .int .i64 (i : Nat)) l.length ⟨k4, hbb4, 0, 0, 0, by omega, hma4, hmb, ⟨hc, wq, ⟨by omega, hc.1⟩, ⟨by omega, hc.2.1⟩⟩, by (first | exact True.intro | rfl | assumption), by (first | exact True.intro | rfl | assumption), by (first | exact True.intro | rfl | assumption), by (first | exact True.intro | rfl | assumption), by (first | exact True.intro | rfl | assumption)⟩ ?_
  rintro k env H5 ⟨k5, hb5, i, b, e, hk, ha5, hbm5, ok5, g1, g5, g7, g9, g11⟩
  unfold L4_2
  by_cases hi : i < l.length
  · have f1 : decide ((i : Int) < (l.length : Int)) = true := decide_eq_true (by omega)
    obtain ⟨b0, rfl, hld, -⟩ := en_at (k5.row hr) hi
    obtain ⟨x, hx⟩ : ∃ x, x = l[i] := ⟨_, rfl⟩
    have hxl : x ∈ l := by rw [hx]; exact List.getElem_mem _
    rw [← hx] at hld
    simp -implicitDefEqProofs (maxSteps := 1000000) (disch := first | omega | assumption) only [g1, g5, g7, g9, g11, f1, ev_ldn, hld, Sx, reduceIte, Nat.reduceEqDiff, reduceCtorEq, Nat.reduceAdd, Nat.reduceSub, Nat.reduceLT, decide_true, decide_false, Bool.not_true, Bool.not_false, Int.toNat_one, Int.toNat_zero, Nat.zero_mul, l_g, endK, gd_u]
    refine a_new fun r3 hr3 => ?_
    try simp -implicitDefEqProofs (maxSteps := 1000000) (disch := first | omega | assumption) only [Sx, reduceIte, Nat.reduceEqDiff, reduceCtorEq, Nat.reduceAdd, Nat.reduceSub, Nat.reduceLT, decide_true, decide_false, Bool.not_true, Bool.not_false, Int.toNat_one, Int.toNat_zero, Nat.zero_mul, l_g, endK, gd_u]
    refine st_all (old := en (ex [] 0 0)) (ci := en x) set_same (by rfl) (by rfl) (en_scalar _) ?_
    rw [set_set]
    have n3a := new_free (Keep.refl _) ha5 hr3
    have n3b := new_free (Keep.refl _) hbm5 hr3
    have n32 := new_free (Keep.refl _) hb5 hr3
    have f3 : H r3 = none := k5.none hr3
    obtain ⟨H6, k6, hx6, h6⟩ : ∃ H6, Keep H5 H6 ∧ H6 r3 = some (.cells (en x).toArray 38 (0, 0)) ∧ H5.set r3 (.cells (en x).toArray 38 (0, 0)) = H6 := ⟨_, (Keep.refl _).set_new hr3, set_same, rfl⟩
    rw [h6]
    have hy6 := k6 _ _ hb5
    have ly := loadN_of (o := 0) (n := 12) (l := en y) hy6 rfl rfl
    simp -implicitDefEqProofs (maxSteps := 1000000) (disch := first | omega | assumption) only [g1, g5, g7, g9, g11, ev_ldn, ly, Sx, reduceIte, Nat.reduceEqDiff, reduceCtorEq, Nat.reduceAdd, Nat.reduceSub, Nat.reduceLT, decide_true, decide_false, Bool.not_true, Bool.not_false, Int.toNat_one, Int.toNat_zero, Nat.zero_mul, l_g, endK, gd_u]
    refine a_new fun r4 hr4 => ?_
    have n4a := new_free (Keep.refl _) (k6 _ _ ha5) hr4
    have n4b := new_free (Keep.refl _) (k6 _ _ hbm5) hr4
    have n43 := new_free (Keep.refl _) hx6 hr4
    try simp -implicitDefEqProofs (maxSteps := 1000000) (disch := first | omega | assumption) only [g1, g5, g7, g9, g11, Sx, reduceIte, Nat.reduceEqDiff, reduceCtorEq, Nat.reduceAdd, Nat.reduceSub, Nat.reduceLT, decide_true, decide_false, Bool.not_true, Bool.not_false, Int.toNat_one, Int.toNat_zero, Nat.zero_mul, l_g, endK, gd_u]
    refine st_all (old := en (ex [] 0 0)) (ci := en y) set_same (by rfl) (by rfl) (en_scalar _) ?_
    rw [set_set]
    have c0 : ∀ o, (H6.set r4 o).cell? ⟨r3, 0, none⟩ = some (.string ⟨x.n.toArray⟩) ∧ (H6.set r4 o).cell? ⟨r3, 1, none⟩ = some (.int .i64 x.k) ∧ (H6.set r4 o).cell? ⟨r3, 10, none⟩ = some (.int .i64 x.s) := fun o => by
      have : (H6.set r4 o) r3 = some (.cells (en x).toArray 38 (0, 0)) := by rw [set_other (Ne.symm n43)]; exact hx6
      exact ⟨by rw [cell_of this]; rfl, by rw [cell_of this]; rfl, by rw [cell_of this]; rfl⟩
    simp -implicitDefEqProofs (maxSteps := 1000000) (disch := first | omega | assumption) only [g1, g5, g7, g9, g11, (c0 _).1, (c0 _).2.1, l_qk, l_e, Sx, reduceIte, Nat.reduceEqDiff, reduceCtorEq, Nat.reduceAdd, Nat.reduceSub, Nat.reduceLT, decide_true, decide_false, Bool.not_true, Bool.not_false, Int.toNat_one, Int.toNat_zero, Nat.zero_mul, l_g, endK, gd_u]
    refine st_one (o := 0) (v := .string ⟨x.n.toArray⟩) set_same (by rw [List.size_toArray, en_len]; omega) rfl ?_
    rw [set_set]
    refine ⟨fun z hz _ => ?_, ?_⟩
    · simp only [List.mem_cons, List.not_mem_nil, or_false] at hz
      subst hz
      simp -implicitDefEqProofs (maxSteps := 1000000) (disch := first | omega | assumption) only [(c0 _).2.1, Sx, reduceIte, Nat.reduceEqDiff, reduceCtorEq, Nat.reduceAdd, Nat.reduceSub, Nat.reduceLT, decide_true, decide_false, Bool.not_true, Bool.not_false, Int.toNat_one, Int.toNat_zero, Nat.zero_mul, l_g, endK, gd_u]
    try simp -implicitDefEqProofs (maxSteps := 1000000) (disch := first | omega | assumption) only [g1, g5, g7, g9, g11, l_qk, l_e, Sx, reduceIte, Nat.reduceEqDiff, reduceCtorEq, Nat.reduceAdd, Nat.reduceSub, Nat.reduceLT, decide_true, decide_false, Bool.not_true, Bool.not_false, Int.toNat_one, Int.toNat_zero, Nat.zero_mul, l_g, endK, gd_u]
    refine st_one (o := 1) (v := .int .i64 x.k) set_same (by rw [List.size_toArray, List.length_set, en_len]; omega) rfl ?_
    rw [set_set]
    refine ⟨fun z hz h => by simp at h, ?_⟩
    rw [show (((en y).set 0 (.string ⟨x.n.toArray⟩)).toArray.setIfInBounds 1 (.int .i64 x.k) : Array Value) = (en { y with n := x.n, k := x.k }).toArray from rfl]
    have fr4 : H r4 = none := (k5.trans k6).none hr4
    have n42 := new_free (Keep.refl _) hy6 hr4
    have fin : ∀ (Q : Post) (QP : List PanicEntry → Heap → Prop) (env : Env) (o : Obj), o = .cells (en (mix y x)).toArray 38 (0, 0) → env 7 = .pointer (some ⟨ra, 0, none⟩) → env 9 = .pointer (some ⟨rb, 0, none⟩) → env 12 = .pointer (some ⟨r3, 0, none⟩) → env 13 = .pointer (some ⟨r4, 0, none⟩) →
        (∀ env' H' b' e', env' 1 = env 1 → env' 5 = env 5 → env' 7 = env 7 → env' 9 = env 9 → env' 11 = env 11 → Keep H H' → H' r2 = some (.cells (en y).toArray 38 (0, 0)) → Pm H' ra q b' e' → Pm H' rb q b' e' → Okm q b' e' → Q .normal env' H') → awpC Tryd.prog L4_0 Q QP env (H6.set r4 o) := by
      rintro Q QP env o rfl h7 h9 h12 h13 hQ
      refine alone_one (x := x) (y := y) (by show (H6.set r4 _) ra = _; rw [set_other (Ne.symm n4a)]; exact k6 _ _ ha5) (by show (H6.set r4 _) rb = _; rw [set_other (Ne.symm n4b)]; exact k6 _ _ hbm5) (by rw [set_other (Ne.symm n43)]; exact hx6) set_same ok5 (hwn x hxl) hy nba n3a n3b n4a n4b h7 h9 h12 h13 ?_
      intro env' H' b' e' z1 z5 z7 z9 z11 hfr ha' hb' ok'
      refine hQ env' H' b' e' z1 z5 z7 z9 z11 (fun k o hk => hfr k o ?_ ?_ ?_) (hfr r2 _ ?_ n2a n2b) ha' hb' ok'
      · rw [set_other (by rintro rfl; rw [fr4] at hk; cases hk)]; exact k6 _ _ (k5 _ _ hk)
      · rintro rfl; rw [fa] at hk; cases hk
      · rintro rfl; rw [fb] at hk; cases hk
      · rw [set_other (Ne.symm n42)]; exact hy6
    by_cases hk2 : x.k = 2
    · have f2 : (x.k == 2) = true := by rw [beq_iff_eq]; exact hk2
      simp -implicitDefEqProofs (maxSteps := 1000000) (disch := first | omega | assumption) only [g1, g5, g7, g9, g11, f2, (c0 _).1, (c0 _).2.1, (c0 _).2.2, Sx, reduceIte, Nat.reduceEqDiff, reduceCtorEq, Nat.reduceAdd, Nat.reduceSub, Nat.reduceLT, decide_true, decide_false, Bool.not_true, Bool.not_false, Int.toNat_one, Int.toNat_zero, Nat.zero_mul, l_g, endK, gd_u]
      refine st_one (o := 10) (v := .int .i64 x.s) set_same (by rw [List.size_toArray, en_len]; omega) rfl ?_
      rw [set_set]
      refine fin _ _ _ _ ?_ (by simp -implicitDefEqProofs (maxSteps := 1000000) (disch := first | omega | assumption) only [g7, Sx, reduceIte, Nat.reduceEqDiff, reduceCtorEq, Nat.reduceAdd, Nat.reduceSub, Nat.reduceLT, decide_true, decide_false, Bool.not_true, Bool.not_false, Int.toNat_one, Int.toNat_zero, Nat.zero_mul, l_g, endK, gd_u]) (by simp -implicitDefEqProofs (maxSteps := 1000000) (disch := first | omega | assumption) only [g9, Sx, reduceIte, Nat.reduceEqDiff, reduceCtorEq, Nat.reduceAdd, Nat.reduceSub, Nat.reduceLT, decide_true, decide_false, Bool.not_true, Bool.not_false, Int.toNat_one, Int.toNat_zero, Nat.zero_mul, l_g, endK, gd_u]) (by simp -implicitDefEqProofs (maxSteps := 1000000) (disch := first | omega | assumption) only [Sx, reduceIte, Nat.reduceEqDiff, reduceCtorEq, Nat.reduceAdd, Nat.reduceSub, Nat.reduceLT, decide_true, decide_false, Bool.not_true, Bool.not_false, Int.toNat_one, Int.toNat_zero, Nat.zero_mul, l_g, endK, gd_u]) (by simp -implicitDefEqProofs (maxSteps := 1000000) (disch := first | omega | assumption) only [Sx, reduceIte, Nat.reduceEqDiff, reduceCtorEq, Nat.reduceAdd, Nat.reduceSub, Nat.reduceLT, decide_true, decide_false, Bool.not_true, Bool.not_false, Int.toNat_one, Int.toNat_zero, Nat.zero_mul, l_g, endK, gd_u]) ?_
      · congr 1
        unfold mix
        rw [if_pos hk2]
        rfl
      intro env' H' b' e' z1 z5 z7 z9 z11 kk hb' ha' hbm' ok'
      unfold L4_1
      simp -implicitDefEqProofs (maxSteps := 1000000) (disch := first | omega | assumption) only [z1, z5, z7, z9, z11, g1, g5, g7, g9, g11, Sx, reduceIte, Nat.reduceEqDiff, reduceCtorEq, Nat.reduceAdd, Nat.reduceSub, Nat.reduceLT, decide_true, decide_false, Bool.not_true, Bool.not_false, Int.toNat_one, Int.toNat_zero, Nat.zero_mul, l_g, endK, gd_u]
      exact ⟨k - 1, by omega, kk, hb', i + 1, b', e', by omega, ha', hbm', ok', (by first | (show env' 1 = _; rw [z1]; (first | exact True.intro | rfl | assumption)) | (first | exact True.intro | rfl | assumption)), (by first | (show env' 5 = _; rw [z5]; (first | exact True.intro | rfl | assumption)) | (first | exact True.intro | rfl | assumption)), (by first | (show env' 7 = _; rw [z7]; (first | exact True.intro | rfl | assumption)) | (first | exact True.intro | rfl | assumption)), (by first | (show env' 9 = _; rw [z9]; (first | exact True.intro | rfl | assumption)) | (first | exact True.intro | rfl | assumption)), by (first | exact True.intro | rfl | assumption)⟩
    · have f2 : (x.k == 2) = false := by rw [beq_eq_false_iff_ne]; exact hk2
      simp -implicitDefEqProofs (maxSteps := 1000000) (disch := first | omega | assumption) only [g1, g5, g7, g9, g11, f2, (c0 _).1, (c0 _).2.1, (c0 _).2.2, Sx, reduceIte, Nat.reduceEqDiff, reduceCtorEq, Nat.reduceAdd, Nat.reduceSub, Nat.reduceLT, decide_true, decide_false, Bool.not_true, Bool.not_false, Int.toNat_one, Int.toNat_zero, Nat.zero_mul, l_g, endK, gd_u]
      refine fin _ _ _ _ ?_ (by simp -implicitDefEqProofs (maxSteps := 1000000) (disch := first | omega | assumption) only [g7, Sx, reduceIte, Nat.reduceEqDiff, reduceCtorEq, Nat.reduceAdd, Nat.reduceSub, Nat.reduceLT, decide_true, decide_false, Bool.not_true, Bool.not_false, Int.toNat_one, Int.toNat_zero, Nat.zero_mul, l_g, endK, gd_u]) (by simp -implicitDefEqProofs (maxSteps := 1000000) (disch := first | omega | assumption) only [g9, Sx, reduceIte, Nat.reduceEqDiff, reduceCtorEq, Nat.reduceAdd, Nat.reduceSub, Nat.reduceLT, decide_true, decide_false, Bool.not_true, Bool.not_false, Int.toNat_one, Int.toNat_zero, Nat.zero_mul, l_g, endK, gd_u]) (by simp -implicitDefEqProofs (maxSteps := 1000000) (disch := first | omega | assumption) only [Sx, reduceIte, Nat.reduceEqDiff, reduceCtorEq, Nat.reduceAdd, Nat.reduceSub, Nat.reduceLT, decide_true, decide_false, Bool.not_true, Bool.not_false, Int.toNat_one, Int.toNat_zero, Nat.zero_mul, l_g, endK, gd_u]) (by simp -implicitDefEqProofs (maxSteps := 1000000) (disch := first | omega | assumption) only [Sx, reduceIte, Nat.reduceEqDiff, reduceCtorEq, Nat.reduceAdd, Nat.reduceSub, Nat.reduceLT, decide_true, decide_false, Bool.not_true, Bool.not_false, Int.toNat_one, Int.toNat_zero, Nat.zero_mul, l_g, endK, gd_u]) ?_
      · congr 1
        unfold mix
        rw [if_neg hk2]
      intro env' H' b' e' z1 z5 z7 z9 z11 kk hb' ha' hbm' ok'
      unfold L4_1
      simp -implicitDefEqProofs (maxSteps := 1000000) (disch := first | omega | assumption) only [z1, z5, z7, z9, z11, g1, g5, g7, g9, g11, Sx, reduceIte, Nat.reduceEqDiff, reduceCtorEq, Nat.reduceAdd, Nat.reduceSub, Nat.reduceLT, decide_true, decide_false, Bool.not_true, Bool.not_false, Int.toNat_one, Int.toNat_zero, Nat.zero_mul, l_g, endK, gd_u]
      exact ⟨k - 1, by omega, kk, hb', i + 1, b', e', by omega, ha', hbm', ok', (by first | (show env' 1 = _; rw [z1]; (first | exact True.intro | rfl | assumption)) | (first | exact True.intro | rfl | assumption)), (by first | (show env' 5 = _; rw [z5]; (first | exact True.intro | rfl | assumption)) | (first | exact True.intro | rfl | assumption)), (by first | (show env' 7 = _; rw [z7]; (first | exact True.intro | rfl | assumption)) | (first | exact True.intro | rfl | assumption)), (by first | (show env' 9 = _; rw [z9]; (first | exact True.intro | rfl | assumption)) | (first | exact True.intro | rfl | assumption)), by (first | exact True.intro | rfl | assumption)⟩
  have f1 : decide ((i : Int) < (l.length : Int)) = false := decide_eq_false (by omega)
  simp -implicitDefEqProofs (maxSteps := 1000000) (disch := first | omega | assumption) only [g1, g5, g7, g9, g11, f1, Sx, reduceIte, Nat.reduceEqDiff, reduceCtorEq, Nat.reduceAdd, Nat.reduceSub, Nat.reduceLT, decide_true, decide_false, Bool.not_true, Bool.not_false, Int.toNat_one, Int.toNat_zero, Nat.zero_mul, l_g, endK, gd_u]
  refine a_call (used_spec ha5) ?_
  rintro e' H6 ⟨rfl, k6⟩
  simp -implicitDefEqProofs (maxSteps := 1000000) (disch := first | omega | assumption) only [g1, g5, g7, g9, g11, eqaI, and_self, eq_self, bff, btf, btt, bft, Sx, reduceIte, Nat.reduceEqDiff, reduceCtorEq, Nat.reduceAdd, Nat.reduceSub, Nat.reduceLT, decide_true, decide_false, Bool.not_true, Bool.not_false, Int.toNat_one, Int.toNat_zero, Nat.zero_mul, l_g, endK, gd_u]
  refine a_call (used_spec (k6 _ _ hbm5)) ?_
  rintro e' H7 ⟨rfl, k7⟩
  simp -implicitDefEqProofs (maxSteps := 1000000) (disch := first | omega | assumption) only [g1, g5, g7, g9, g11, eqaI, and_self, eq_self, bff, btf, btt, bft, Sx, reduceIte, Nat.reduceEqDiff, reduceCtorEq, Nat.reduceAdd, Nat.reduceSub, Nat.reduceLT, decide_true, decide_false, Bool.not_true, Bool.not_false, Int.toNat_one, Int.toNat_zero, Nat.zero_mul, l_g, endK, gd_u]
  exact ⟨by (first | exact True.intro | rfl | assumption), (k5.trans k6).trans k7⟩
end Go.Proofs.YtmgpfdfbcnlocaaDoor.S18
