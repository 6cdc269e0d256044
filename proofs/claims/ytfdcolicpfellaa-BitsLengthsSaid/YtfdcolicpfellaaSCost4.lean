/-
  Cost, whole.
-/
import Derived.Test.YtfdcolicpfellaaSCost3
set_option linter.unusedVariables false
set_option linter.unusedSimpArgs false
namespace Go.Proofs.Ytfdcolicpfellaa.S05
open Go Go.RowKit Go.Proofs.Ytfdcolicpfellaa.Sep Go.Proofs.Ytfdcolicpfellaa.Low
open Go.Proofs.Ytfdcolicpfellaa.PackLaw (Tr wt cnt cntL leaves merge Up lev pairs psum)
open Go.Proofs.Ytfdcolicpfellaa.Lib (by64 by64_scalar encs encs_len encs_append encs_one encs_scalar elemR)

/-- the levels -/
structure LC (H0 : Heap) (a : Option Addr) (c : Nat) (os : List Int) (most : Nat) (S : List Tr) (j : Nat) (env : Env) (H : Heap) : Prop where
  h0 : env 0 = .slice a os.length c
  h1 : env 1 = .int .i64 most
  h9 : env 9 = .int .i64 (j + 1 : Nat)
  K : Keep H0 H
  rest : ∃ sv ss lv ls, env 5 = sv ∧ env 8 = lv ∧ PL H sv os.length ss ∧ PL H lv os.length ls ∧ ss.map Pk.w = S.map (wt (oft os)) ∧ ls.map Pk.w = (lev (oft os) S j).map (wt (oft os))

theorem sorted_ws {o : Nat → Int} {S : List Tr} (hup : Up (wt o) S) {j : Nat} {l' ss ps : List Pk} (hp : l'.Perm (ss ++ ps)) (hs : l'.Pairwise fun p q => p.w ≤ q.w) (hss : ss.map Pk.w = S.map (wt o)) (hps : ps.map Pk.w = psum ((lev o S j).map (wt o))) : l'.map Pk.w = (lev o S (j + 1)).map (wt o) := by
  refine PackLaw.sorted_one ?_ ?_ ?_
  · have h1 := hp.map Pk.w
    rw [List.map_append, hss, hps, ← PackLaw.psum_pairs, ← List.map_append] at h1
    rw [lev]
    exact h1.trans ((PackLaw.merge_perm _ _).map (wt o)).symm
  · exact List.pairwise_map.2 hs
  · exact List.pairwise_map.2 (PackLaw.lev_up hup (j + 1))

set_option maxHeartbeats 4000000 in
theorem level_round {H0 H : Heap} {a : Option Addr} {c most j : Nat} {os : List Int} {S : List Tr} {env : Env} {Q : Post} {QP : List PanicEntry → Heap → Prop} (hl : os.length ≤ 320) (hSg : Sg (oft os) os.length S) (hm : most ≤ 15) (hj : j + 1 < most)
    (hS : LC H0 a c os most S j env H) (hk : ∀ env' H', LC H0 a c os most S (j + 1) env' H' → Q .normal env' H') :
    awpC Try.prog L43_6 Q QP env H := by
  obtain ⟨h0, h1, h9, hK, sv, ss, lv, ls, h5, h8, hP, hL, hsw, hlw⟩ := hS
  have f0 : decide (((j + 1 : Nat) : Int) < (most : Int)) = true := decide_eq_true (by omega)
  have hsl : ss.length = S.length := by have := congrArg List.length hsw; simpa using this
  have hll : ls.length = (lev (oft os) S j).length := by have := congrArg List.length hlw; simpa using this
  have h320 := hSg.len
  have h640 := hSg.bound j
  have hwt : ∀ p ∈ ls, 0 ≤ p.w ∧ p.w ≤ 18014398509481984 := by
    intro p hp
    have : p.w ∈ (lev (oft os) S j).map (wt (oft os)) := by rw [← hlw]; exact List.mem_map_of_mem hp
    obtain ⟨t, ht, e⟩ := List.mem_map.1 this
    rw [← e]
    exact hSg.wt j (by omega) t ht
  have hsv := hP.O.scalar
  obtain ⟨la, lc, rfl, hlc, lrow⟩ := hL.O.len
  unfold L43_6
  simp -implicitDefEqProofs (maxSteps := 1000000) (disch := first | omega | assumption) only [h0, h1, h5, h8, h9, f0, Sx, reduceIte, Nat.reduceEqDiff, reduceCtorEq, Nat.reduceAdd, Nat.reduceSub, Nat.reduceLT]
  refine lits_no ?_
  intro r1 H1 hO1 hk1 hr1
  try simp -implicitDefEqProofs (maxSteps := 1000000) (disch := first | omega | assumption) only [h0, h1, h5, h8, h9, Sx, reduceIte, Nat.reduceEqDiff, reduceCtorEq, Nat.reduceAdd, Nat.reduceSub, Nat.reduceLT]
  refine c_loop (fun k env H' => ∃ t, k + t = ls.length / 2 ∧ t ≤ ls.length / 2 ∧ PA H a c os.length most sv (.slice la ls.length lc) (j + 1) ls t env H') (ls.length / 2) ⟨0, by omega, by omega, ⟨by simp -implicitDefEqProofs (maxSteps := 1000000) (disch := first | omega | assumption) only [h0, Sx, reduceIte, Nat.reduceEqDiff, reduceCtorEq, Nat.reduceAdd, Nat.reduceSub, Nat.reduceLT], by simp -implicitDefEqProofs (maxSteps := 1000000) (disch := first | omega | assumption) only [h1, Sx, reduceIte, Nat.reduceEqDiff, reduceCtorEq, Nat.reduceAdd, Nat.reduceSub, Nat.reduceLT], by simp -implicitDefEqProofs (maxSteps := 1000000) (disch := first | omega | assumption) only [h5, Sx, reduceIte, Nat.reduceEqDiff, reduceCtorEq, Nat.reduceAdd, Nat.reduceSub, Nat.reduceLT], by simp -implicitDefEqProofs (maxSteps := 1000000) (disch := first | omega | assumption) only [h8, Sx, reduceIte, Nat.reduceEqDiff, reduceCtorEq, Nat.reduceAdd, Nat.reduceSub, Nat.reduceLT], by simp -implicitDefEqProofs (maxSteps := 1000000) (disch := first | omega | assumption) only [h9, Sx, reduceIte, Nat.reduceEqDiff, reduceCtorEq, Nat.reduceAdd, Nat.reduceSub, Nat.reduceLT], by simp -implicitDefEqProofs (maxSteps := 1000000) (disch := first | omega | assumption) only [Sx, reduceIte, Nat.reduceEqDiff, reduceCtorEq, Nat.reduceAdd, Nat.reduceSub, Nat.reduceLT]; rfl, hk1, _, [], by simp -implicitDefEqProofs (maxSteps := 1000000) (disch := first | omega | assumption) only [Sx, reduceIte, Nat.reduceEqDiff, reduceCtorEq, Nat.reduceAdd, Nat.reduceSub, Nat.reduceLT], ⟨hO1, (fun p hp => by cases hp)⟩, by simp, (fun q hq => by cases hq; exact hr1)⟩⟩ ?_
  rintro k env2 H2 ⟨t, hkt, htl, hA⟩
  by_cases ht : 2 * t + 1 < ls.length
  · refine pairs_round hl hL ht (by omega) hwt hsv hA ?_
    intro env' H' hA'
    exact ⟨k - 1, by omega, t + 1, by omega, by omega, hA'⟩
  · have htt : t = ls.length / 2 := by omega
    subst htt
    obtain ⟨h0, h1, h5, h8, h9, h11, hK2, pv, ps, h10, hPs, hpw, hF⟩ := hA
    rw [List.take_of_length_le (by rw [psum_len, List.length_map]; exact Nat.le_refl _), hlw] at hpw
    have f1 : decide (((2 * (ls.length / 2) : Nat) : Int) + 1 < (ls.length : Int)) = false := decide_eq_false (by omega)
    have hpl : ps.length ≤ 320 := by
      have := congrArg List.length hpw
      rw [List.length_map, psum_len, List.length_map] at this
      omega
    have hpv := hPs.O.scalar
    unfold L43_3
    simp -implicitDefEqProofs (maxSteps := 1000000) (disch := first | omega | assumption) only [h0, h1, h5, h8, h9, h10, h11, f1, Sx, reduceIte, Nat.reduceEqDiff, reduceCtorEq, Nat.reduceAdd, Nat.reduceSub, Nat.reduceLT]
    unfold L43_4
    simp -implicitDefEqProofs (maxSteps := 1000000) (disch := first | omega | assumption) only [h0, h1, h5, h8, h9, h10, h11, Sx, reduceIte, Nat.reduceEqDiff, reduceCtorEq, Nat.reduceAdd, Nat.reduceSub, Nat.reduceLT]
    refine lits_no ?_
    intro r3 H3 hO3 hk3 hr3
    try simp -implicitDefEqProofs (maxSteps := 1000000) (disch := first | omega | assumption) only [h0, h1, h5, h8, h9, h10, h11, Sx, reduceIte, Nat.reduceEqDiff, reduceCtorEq, Nat.reduceAdd, Nat.reduceSub, Nat.reduceLT]
    have hK3 := hK2.trans hk3
    obtain ⟨sa, sc, rfl, hsc, srow⟩ := hP.O.len
    refine app_pk (m := ss) (k := ss.length) hO3 rfl rfl ((hK3.row srow).cells (encs_len pk_len ss)) (by simp; omega) ?_
    intro v4 H4 hO4 ho4 hm4
    have hF4 : Fresh H2 v4 := hm4.fresh hk3 fun q hq => by cases hq; exact hr3
    have hk4 : Keep H2 H4 := ho4.keep hk3 fun q hq => by cases hq; exact hr3
    have hs4 := hO4.scalar
    obtain ⟨pa, pc, rfl, hpc, prow⟩ := hPs.O.len
    try simp -implicitDefEqProofs (maxSteps := 1000000) (disch := first | omega | assumption) only [h0, h1, h5, h8, h9, h10, h11, Sx, reduceIte, Nat.reduceEqDiff, reduceCtorEq, Nat.reduceAdd, Nat.reduceSub, Nat.reduceLT]
    refine app_pk (m := ps) (k := ps.length) hO4 rfl rfl ((hk4.row prow).cells (encs_len pk_len ps)) (by simp; omega) ?_
    intro v5 H5 hO5 ho5 hm5
    have hF5 : Fresh H2 v5 := hm5.fresh hk4 hF4
    have hk5 : Keep H2 H5 := ho5.keep hk4 hF4
    have hs5 := hO5.scalar
    try simp -implicitDefEqProofs (maxSteps := 1000000) (disch := first | omega | assumption) only [h0, h1, h5, h8, h9, h10, h11, Sx, reduceIte, Nat.reduceEqDiff, reduceCtorEq, Nat.reduceAdd, Nat.reduceSub, Nat.reduceLT]
    have hPL5 : PL H5 v5 os.length (ss ++ ps) := ⟨by simpa using hO5, fun p hp => by
      rcases List.mem_append.1 hp with hp | hp
      · exact ((hP.I p hp).keep hK2).keep hk5
      · exact (hPs.I p hp).keep hk5⟩
    refine a_call (sorted_spec hPL5 (by rw [List.length_append]; omega)) ?_
    rintro e H6 ⟨v6, l6, rfl, hp6, hs6, hPL6, hk6, hF6⟩
    have hsc6 := hPL6.O.scalar
    simp -implicitDefEqProofs (maxSteps := 1000000) (disch := first | omega | assumption) only [endK, h0, h1, h5, h8, h9, h10, h11, Sx, reduceIte, Nat.reduceEqDiff, reduceCtorEq, Nat.reduceAdd, Nat.reduceSub, Nat.reduceLT]
    unfold L43_5
    simp -implicitDefEqProofs (maxSteps := 1000000) (disch := first | omega | assumption) only [h0, h1, h5, h8, h9, h10, h11, Sx, reduceIte, Nat.reduceEqDiff, reduceCtorEq, Nat.reduceAdd, Nat.reduceSub, Nat.reduceLT]
    have hK6 : Keep H H6 := (hK2.trans hk5).trans hk6
    exact hk _ _ ⟨by simp -implicitDefEqProofs (maxSteps := 1000000) (disch := first | omega | assumption) only [h0, Sx, reduceIte, Nat.reduceEqDiff, reduceCtorEq, Nat.reduceAdd, Nat.reduceSub, Nat.reduceLT], by simp -implicitDefEqProofs (maxSteps := 1000000) (disch := first | omega | assumption) only [h1, Sx, reduceIte, Nat.reduceEqDiff, reduceCtorEq, Nat.reduceAdd, Nat.reduceSub, Nat.reduceLT], by simp -implicitDefEqProofs (maxSteps := 1000000) (disch := first | omega | assumption) only [h9, Int.natCast_add, Int.natCast_one, Sx, reduceIte, Nat.reduceEqDiff, reduceCtorEq, Nat.reduceAdd, Nat.reduceSub, Nat.reduceLT], hK.trans hK6, .slice sa ss.length sc, ss, v6, l6, by simp -implicitDefEqProofs (maxSteps := 1000000) (disch := first | omega | assumption) only [h5, Sx, reduceIte, Nat.reduceEqDiff, reduceCtorEq, Nat.reduceAdd, Nat.reduceSub, Nat.reduceLT], by simp -implicitDefEqProofs (maxSteps := 1000000) (disch := first | omega | assumption) only [Sx, reduceIte, Nat.reduceEqDiff, reduceCtorEq, Nat.reduceAdd, Nat.reduceSub, Nat.reduceLT], hP.keep hK6, hPL6, hsw, sorted_ws hSg.up hp6 hs6 hsw hpw⟩

theorem tot_perm {o : Nat → Int} {a b : List Tr} (h : a.Perm b) : (a.map (wt o)).sum = (b.map (wt o)).sum := by
  induction h with
  | nil => rfl
  | cons x _ ih => rw [List.map_cons, List.map_cons, List.sum_cons, List.sum_cons, ih]
  | swap x y l => simp only [List.map_cons, List.sum_cons]; omega
  | trans _ _ h1 h2 => rw [h1, h2]
theorem tot_pairs {o : Nat → Int} : ∀ l : List Tr, (∀ t ∈ l, 0 ≤ wt o t) → ((pairs l).map (wt o)).sum ≤ (l.map (wt o)).sum
  | [], _ => Int.le_refl _
  | [a], h => by have := h a List.mem_cons_self; simp [pairs]; exact this
  | a :: b :: r, h => by
    have := tot_pairs r fun t ht => h t (List.mem_cons_of_mem _ (List.mem_cons_of_mem _ ht))
    simp only [pairs, List.map_cons, List.sum_cons, wt] at this ⊢
    omega
theorem Sg.sum {o : Nat → Int} {M : Nat} {S : List Tr} (h : Sg o M S) : (S.map (PackLaw.wt o)).sum ≤ S.length * 1099511627776 := by
  have : ∀ l : List Tr, (∀ t ∈ l, PackLaw.wt o t ≤ 1099511627776) → (l.map (PackLaw.wt o)).sum ≤ l.length * 1099511627776 := by
    intro l
    induction l with
    | nil => intro _; simp
    | cons t l ih =>
      intro hl
      have h1 := hl t List.mem_cons_self
      have h2 := ih fun t ht => hl t (List.mem_cons_of_mem _ ht)
      rw [List.map_cons, List.sum_cons, List.length_cons]
      omega
  refine this S fun t ht => ?_
  obtain ⟨s, rfl, h1, h2, h3⟩ := h.lf t ht
  exact h3
theorem Sg.tot {o : Nat → Int} {M : Nat} {S : List Tr} (h : Sg o M S) : ∀ j, j ≤ 14 → ((lev o S j).map (PackLaw.wt o)).sum ≤ (j + 1 : Nat) * 351843720888320
  | 0, _ => by
    have := h.sum
    have := h.len
    rw [lev]
    omega
  | j + 1, hj => by
    have h1 := h.tot j (by omega)
    have h2 := tot_pairs (o := o) (lev o S j) fun t ht => (h.wt j (by omega) t ht).1
    have h3 := tot_perm (o := o) (PackLaw.merge_perm (w := PackLaw.wt o) S (pairs (lev o S j)))
    have h4 := h.sum
    have h5 := h.len
    rw [lev, h3, List.map_append, List.sum_append]
    omega
theorem take_sum {l : List Int} (h : ∀ x ∈ l, 0 ≤ x) (n : Nat) : 0 ≤ (l.take n).sum ∧ (l.take n).sum ≤ l.sum := by
  have nn : ∀ l : List Int, (∀ x ∈ l, 0 ≤ x) → 0 ≤ l.sum := by
    intro l
    induction l with
    | nil => intro _; simp
    | cons x l ih =>
      intro hl
      have h1 := hl x List.mem_cons_self
      have h2 := ih fun t ht => hl t (List.mem_cons_of_mem _ ht)
      rw [List.sum_cons]
      omega
  have h1 := nn (l.take n) fun x hx => h x (List.mem_of_mem_take hx)
  have h2 := nn (l.drop n) fun x hx => h x (List.mem_of_mem_drop hx)
  have h3 : l.sum = (l.take n).sum + (l.drop n).sum := by rw [← List.sum_append, List.take_append_drop]
  omega

set_option maxHeartbeats 4000000 in
/-- what is chosen is summed up -/
theorem total_spec {H0 H : Heap} {a : Option Addr} {c most j n : Nat} {os : List Int} {S : List Tr} {env : Env} {Q : Post} {QP : List PanicEntry → Heap → Prop} (hSg : Sg (oft os) os.length S) (hj : j ≤ 14) (hn : n = S.length) (hn2 : 2 ≤ n) (hle : 2 * n - 2 ≤ (lev (oft os) S j).length)
    (hS : LC H0 a c os most S j env H) (hk : ∀ env' H', env' 4 = .int .i64 (((lev (oft os) S j).take (2 * n - 2)).map (wt (oft os))).sum → Keep H0 H' → Q .ret env' H') :
    awpC Try.prog L43_8 Q QP env H := by
  obtain ⟨h0, h1, h9, hK, sv, ss, lv, ls, h5, h8, hP, hL, hsw, hlw⟩ := hS
  have hsl : ss.length = n := by have := congrArg List.length hsw; rw [hn]; simpa using this
  have hll : ls.length = (lev (oft os) S j).length := by have := congrArg List.length hlw; simpa using this
  have h640 := hSg.bound j
  obtain ⟨la, lc, rfl, hlc, lrow⟩ := hL.O.len
  obtain ⟨sa, sc, rfl, hsc, srow⟩ := hP.O.len
  obtain ⟨W, hW⟩ : ∃ W, W = ls.map Pk.w := ⟨_, rfl⟩
  have hpos : ∀ x ∈ W, 0 ≤ x := by
    intro x hx
    rw [hW, hlw] at hx
    obtain ⟨t, ht, rfl⟩ := List.mem_map.1 hx
    exact (hSg.wt j hj t ht).1
  have htot : W.sum ≤ 5277655813324800 := by
    have := hSg.tot j hj
    rw [hW, hlw]
    omega
  have g1 : (2 : Int) * ((ss.length : Int) - 1) = ((2 * n - 2 : Nat) : Int) := by omega
  unfold L43_8
  simp -implicitDefEqProofs (maxSteps := 1000000) (disch := first | omega | assumption) only [h5, h8, Sx, reduceIte, Nat.reduceEqDiff, reduceCtorEq, Nat.reduceAdd, Nat.reduceSub, Nat.reduceLT]
  refine c_loop (fun k env H' => H' = H ∧ ∃ i, k + i = 2 * n - 2 ∧ i ≤ 2 * n - 2 ∧ env 5 = .slice sa ss.length sc ∧ env 8 = .slice la ls.length lc ∧ env 15 = .int .i64 i ∧ env 14 = .int .i64 (W.take i).sum) (2 * n - 2) ⟨rfl, 0, by omega, by omega, by simp -implicitDefEqProofs (maxSteps := 1000000) (disch := first | omega | assumption) only [h5, Sx, reduceIte, Nat.reduceEqDiff, reduceCtorEq, Nat.reduceAdd, Nat.reduceSub, Nat.reduceLT], by simp -implicitDefEqProofs (maxSteps := 1000000) (disch := first | omega | assumption) only [h8, Sx, reduceIte, Nat.reduceEqDiff, reduceCtorEq, Nat.reduceAdd, Nat.reduceSub, Nat.reduceLT], by simp -implicitDefEqProofs (maxSteps := 1000000) (disch := first | omega | assumption) only [Sx, reduceIte, Nat.reduceEqDiff, reduceCtorEq, Nat.reduceAdd, Nat.reduceSub, Nat.reduceLT]; rfl, by simp -implicitDefEqProofs (maxSteps := 1000000) (disch := first | omega | assumption) only [Sx, reduceIte, Nat.reduceEqDiff, reduceCtorEq, Nat.reduceAdd, Nat.reduceSub, Nat.reduceLT]; simp⟩ ?_
  rintro k env2 H2 ⟨rfl, i, hki, hil, h5, h8, h15, h14⟩
  unfold L43_7
  by_cases hi : i < 2 * n - 2
  · have f0 : decide ((i : Int) < ((2 * n - 2 : Nat) : Int)) = true := decide_eq_true (by omega)
    have hil2 : i < ls.length := by omega
    obtain ⟨b, rfl, -, hx0⟩ := elemR pk_len (by omega) lrow (i := i) hil2
    have hx1 : H2.cell? (b.add (i * 2)) = some (.int .i64 ls[i].w) := by
      have := hx0 0 _ rfl
      rwa [add_zero_a] at this
    have hWi : W[i]'(by rw [hW, List.length_map]; exact hil2) = ls[i].w := by simp [hW]
    have hst : (W.take (i + 1)).sum = (W.take i).sum + ls[i].w := by
      rw [List.take_succ_eq_append_getElem (by rw [hW, List.length_map]; exact hil2), List.sum_append, hWi]
      simp
    have hb1 := take_sum hpos (i + 1)
    have hb2 := take_sum hpos i
    rw [hst] at hb1
    obtain ⟨s1, hs1⟩ : ∃ s1, s1 = (W.take i).sum := ⟨_, rfl⟩
    rw [← hs1] at h14 hb1 hb2 hst
    simp -implicitDefEqProofs (maxSteps := 1000000) (disch := first | omega | assumption) only [h5, h8, h14, h15, g1, f0, hx1, Sx, reduceIte, Nat.reduceEqDiff, reduceCtorEq, Nat.reduceAdd, Nat.reduceSub, Nat.reduceLT]
    refine ⟨k - 1, by omega, by trivial, i + 1, by omega, by omega, by trivial, by trivial, by simp -implicitDefEqProofs (maxSteps := 1000000) (disch := first | omega | assumption) only [Int.natCast_add, Int.natCast_one, Sx, reduceIte, Nat.reduceEqDiff, reduceCtorEq, Nat.reduceAdd, Nat.reduceSub, Nat.reduceLT], by rw [hst]⟩
  · have : i = 2 * n - 2 := by omega
    subst this
    have f0 : decide (((2 * n - 2 : Nat) : Int) < ((2 * n - 2 : Nat) : Int)) = false := decide_eq_false (by omega)
    simp -implicitDefEqProofs (maxSteps := 1000000) (disch := first | omega | assumption) only [h5, h8, h14, h15, g1, f0, Sx, reduceIte, Nat.reduceEqDiff, reduceCtorEq, Nat.reduceAdd, Nat.reduceSub, Nat.reduceLT]
    refine hk _ _ ?_ hK
    rw [List.map_take, ← hlw, ← hW]
    simp -implicitDefEqProofs (maxSteps := 1000000) (disch := first | omega | assumption) only [Sx, reduceIte, Nat.reduceEqDiff, reduceCtorEq, Nat.reduceAdd, Nat.reduceSub, Nat.reduceLT]

set_option maxHeartbeats 4000000 in
theorem cost_spec {H : Heap} {a : Option Addr} {n c L : Nat} {os : List Int} {S : List Tr} (hr : Row H a (by64 os)) (hn : n = os.length) (hok : okArgs os L) (hS : Sg (oft os) os.length S) (hp : S.Perm ((F (oft os) os.length).map Tr.leaf)) (h2 : 2 ≤ S.length) (hle : S.length ≤ 2 ^ L) :
    ACalls Try.prog 43 [Value.slice a n c, .int .i64 (L : Nat)].toArray H fun e H' => e = .returned (.int .i64 (((lev (oft os) S (L - 1)).take (2 * S.length - 2)).map (wt (oft os))).sum) ∧ Keep H H' := by
  subst hn
  have hM := hok.1.2
  have hL1 := hok.2.1
  refine call43 (Nat.le_of_ble_eq_true rfl) ?_
  unfold L43 env0
  simp -implicitDefEqProofs (maxSteps := 1000000) (disch := first | omega | assumption) only [Sx, reduceIte, Nat.reduceEqDiff, reduceCtorEq, Nat.reduceAdd, Nat.reduceSub, Nat.reduceLT]
  refine lits_no ?_
  intro r1 H1 hO1 hk1 hr1
  try simp -implicitDefEqProofs (maxSteps := 1000000) (disch := first | omega | assumption) only [Sx, reduceIte, Nat.reduceEqDiff, reduceCtorEq, Nat.reduceAdd, Nat.reduceSub, Nat.reduceLT]
  refine c_loop (fun k env H' => ∃ i, k + i = os.length ∧ SG H a c os L i env H') os.length ⟨0, by omega, ⟨by simp -implicitDefEqProofs (maxSteps := 1000000) (disch := first | omega | assumption) only [Sx, reduceIte, Nat.reduceEqDiff, reduceCtorEq, Nat.reduceAdd, Nat.reduceSub, Nat.reduceLT], by simp -implicitDefEqProofs (maxSteps := 1000000) (disch := first | omega | assumption) only [Sx, reduceIte, Nat.reduceEqDiff, reduceCtorEq, Nat.reduceAdd, Nat.reduceSub, Nat.reduceLT], by simp -implicitDefEqProofs (maxSteps := 1000000) (disch := first | omega | assumption) only [Sx, reduceIte, Nat.reduceEqDiff, reduceCtorEq, Nat.reduceAdd, Nat.reduceSub, Nat.reduceLT]; rfl, hk1, _, [], by simp -implicitDefEqProofs (maxSteps := 1000000) (disch := first | omega | assumption) only [Sx, reduceIte, Nat.reduceEqDiff, reduceCtorEq, Nat.reduceAdd, Nat.reduceSub, Nat.reduceLT], ⟨hO1, (fun p hp => by cases hp)⟩, by simp [F], (fun q hq => by cases hq; exact hr1)⟩⟩ ?_
  rintro k env2 H2 ⟨i, hki, hSG⟩
  by_cases hi : i < os.length
  · refine single_round hr hi hM hSG ?_
    intro env' H' hS'
    exact ⟨k - 1, by omega, i + 1, by omega, hS'⟩
  · have : i = os.length := by omega
    subst this
    obtain ⟨h0, h1, h6, hK, sv, ls, h5, hP, hw, hF⟩ := hSG
    have f0 : decide ((os.length : Int) < (os.length : Int)) = false := decide_eq_false (by omega)
    have hsv := hP.O.scalar
    have hll : ls.length ≤ 320 := by
      have := congrArg List.length hw
      rw [List.length_map, List.length_map] at this
      have := F_len (oft os) os.length
      omega
    unfold L43_1
    simp -implicitDefEqProofs (maxSteps := 1000000) (disch := first | omega | assumption) only [h0, h1, h5, h6, f0, Sx, reduceIte, Nat.reduceEqDiff, reduceCtorEq, Nat.reduceAdd, Nat.reduceSub, Nat.reduceLT]
    refine a_call (sorted_spec hP (by omega)) ?_
    rintro e H3 ⟨v3, l3, rfl, hp3, hs3, hP3, hk3, hF3⟩
    have hs3' := hP3.O.scalar
    have hw3 : l3.map Pk.w = S.map (wt (oft os)) := by
      refine PackLaw.sorted_one ?_ (List.pairwise_map.2 hs3) (List.pairwise_map.2 hS.up)
      have h1 := hp3.map Pk.w
      rw [hw] at h1
      have h2 := hp.map (wt (oft os))
      rw [List.map_map] at h2
      exact h1.trans h2.symm
    simp -implicitDefEqProofs (maxSteps := 1000000) (disch := first | omega | assumption) only [endK, h0, h1, h5, h6, Sx, reduceIte, Nat.reduceEqDiff, reduceCtorEq, Nat.reduceAdd, Nat.reduceSub, Nat.reduceLT]
    refine c_loop (fun k env H' => ∃ j, k + j = L - 1 ∧ j ≤ L - 1 ∧ LC H a c os L S j env H') (L - 1) ⟨0, by omega, by omega, ⟨by simp -implicitDefEqProofs (maxSteps := 1000000) (disch := first | omega | assumption) only [h0, Sx, reduceIte, Nat.reduceEqDiff, reduceCtorEq, Nat.reduceAdd, Nat.reduceSub, Nat.reduceLT], by simp -implicitDefEqProofs (maxSteps := 1000000) (disch := first | omega | assumption) only [h1, Sx, reduceIte, Nat.reduceEqDiff, reduceCtorEq, Nat.reduceAdd, Nat.reduceSub, Nat.reduceLT], by simp -implicitDefEqProofs (maxSteps := 1000000) (disch := first | omega | assumption) only [Sx, reduceIte, Nat.reduceEqDiff, reduceCtorEq, Nat.reduceAdd, Nat.reduceSub, Nat.reduceLT]; rfl, hK.trans hk3, v3, l3, v3, l3, by simp -implicitDefEqProofs (maxSteps := 1000000) (disch := first | omega | assumption) only [Sx, reduceIte, Nat.reduceEqDiff, reduceCtorEq, Nat.reduceAdd, Nat.reduceSub, Nat.reduceLT], by simp -implicitDefEqProofs (maxSteps := 1000000) (disch := first | omega | assumption) only [Sx, reduceIte, Nat.reduceEqDiff, reduceCtorEq, Nat.reduceAdd, Nat.reduceSub, Nat.reduceLT], hP3, hP3, hw3, hw3⟩⟩ ?_
    rintro k env4 H4 ⟨j, hkj, hjl, hLC⟩
    by_cases hj : j + 1 < L
    · refine level_round hM hS (by omega) hj hLC ?_
      intro env' H' hS'
      exact ⟨k - 1, by omega, j + 1, by omega, by omega, hS'⟩
    · have : j = L - 1 := by omega
      subst this
      have hpm := PackLaw.lev_enough (o := oft os) (S := S) (L := L) hle (L - 1) (by omega)
      rw [show L - (L - 1) = 1 by omega] at hpm
      obtain ⟨h0, h1, h9, hK4, sv, ss, lv, ls', h5, h8, hPs, hLs, hsw, hlw⟩ := hLC
      have f1 : decide (((L - 1 + 1 : Nat) : Int) < (L : Int)) = false := decide_eq_false (by omega)
      have hsv := hPs.O.scalar
      have hlv := hLs.O.scalar
      unfold L43_6
      simp -implicitDefEqProofs (maxSteps := 1000000) (disch := first | omega | assumption) only [h0, h1, h5, h8, h9, f1, Sx, reduceIte, Nat.reduceEqDiff, reduceCtorEq, Nat.reduceAdd, Nat.reduceSub, Nat.reduceLT]
      refine total_spec (H0 := H) (a := a) (c := c) (most := L) (j := L - 1) (n := S.length) hS (by omega) rfl h2 (by omega) ⟨by simp -implicitDefEqProofs (maxSteps := 1000000) (disch := first | omega | assumption) only [h0, Sx, reduceIte, Nat.reduceEqDiff, reduceCtorEq, Nat.reduceAdd, Nat.reduceSub, Nat.reduceLT], by simp -implicitDefEqProofs (maxSteps := 1000000) (disch := first | omega | assumption) only [h1, Sx, reduceIte, Nat.reduceEqDiff, reduceCtorEq, Nat.reduceAdd, Nat.reduceSub, Nat.reduceLT], by simp -implicitDefEqProofs (maxSteps := 1000000) (disch := first | omega | assumption) only [h9, Sx, reduceIte, Nat.reduceEqDiff, reduceCtorEq, Nat.reduceAdd, Nat.reduceSub, Nat.reduceLT], hK4, sv, ss, lv, ls', by simp -implicitDefEqProofs (maxSteps := 1000000) (disch := first | omega | assumption) only [h5, Sx, reduceIte, Nat.reduceEqDiff, reduceCtorEq, Nat.reduceAdd, Nat.reduceSub, Nat.reduceLT], by simp -implicitDefEqProofs (maxSteps := 1000000) (disch := first | omega | assumption) only [h8, Sx, reduceIte, Nat.reduceEqDiff, reduceCtorEq, Nat.reduceAdd, Nat.reduceSub, Nat.reduceLT], hPs, hLs, hsw, hlw⟩ ?_
      intro env' H' h4 hK'
      simp -implicitDefEqProofs (maxSteps := 1000000) (disch := first | omega | assumption) only [h4, Sx, reduceIte, Nat.reduceEqDiff, reduceCtorEq, Nat.reduceAdd, Nat.reduceSub, Nat.reduceLT]
      exact ⟨by trivial, hK'⟩
end Go.Proofs.Ytfdcolicpfellaa.S05
