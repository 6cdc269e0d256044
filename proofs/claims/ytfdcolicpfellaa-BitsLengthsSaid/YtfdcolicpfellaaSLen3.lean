/-
  A level of package-merge; all that is chosen is counted.
-/
import Derived.Test.YtfdcolicpfellaaSLen2
set_option linter.unusedVariables false
set_option linter.unusedSimpArgs false
namespace Go.Proofs.Ytfdcolicpfellaa.S05
open Go Go.RowKit Go.Proofs.Ytfdcolicpfellaa.Sep Go.Proofs.Ytfdcolicpfellaa.Low
open Go.Proofs.Ytfdcolicpfellaa.PackLaw (Tr wt cnt cntL leaves merge Up lev pairs)
open Go.Proofs.Ytfdcolicpfellaa.Lib (by64 by64_scalar)

theorem up_map {o : Nat → Int} {tr : Nat → Tr} {D : List Nat} (h : Up (wt o) (D.map tr)) : Up (fun b => wt o (tr b)) D := (List.pairwise_map (f := tr) (R := fun x y => wt o x ≤ wt o y)).1 h
/-- while the levels are made -/
structure LV (H0 : Heap) (most : Nat) (cv lv : Value) (o : Nat → Int) (M : Nat) (S : List Tr) (j : Nat) (env : Env) (H : Heap) : Prop where
  h6 : env 6 = cv
  h9 : env 9 = lv
  h10 : env 10 = cmpF
  h87 : env 87 = .int .i64 ((most : Int) - 1)
  h88 : env 88 = .int .i64 j
  K : Keep H0 H
  L : Ls H lv M fun _ => 0
  rest : ∃ pv P D tr, env 11 = pv ∧ CL H cv o tr D ∧ CL H pv o tr P ∧ D.map tr = S ∧ P.map tr = lev o S j

theorem sort_eq {o : Nat → Int} {M : Nat} {S : List Tr} (hS : Sg o M S) {j : Nat} {D qs N : List Nat} {tr : Nat → Tr} {rk : Nat → Nat} (hD : D.map tr = S) (hq : qs.map tr = pairs (lev o S j)) (hA : Asc rk (D ++ qs)) (hN : N.Perm (D ++ qs)) (hs : Srt (fun b => wt o (tr b)) rk N) : N.map tr = lev o S (j + 1) := by
  have hA' := List.pairwise_append.1 hA
  have h1 : Srt (fun b => wt o (tr b)) rk D := up_srt (up_map (by rw [hD]; exact hS.up)) hA'.1
  have h2 : Srt (fun b => wt o (tr b)) rk qs := up_srt (up_map (by rw [hq]; exact PackLaw.pairs_up _ (PackLaw.lev_up hS.up j))) hA'.2.1
  have h3 := merge_srt D qs h1 h2 hA'.2.2
  have h4 : N = merge (fun b => wt o (tr b)) D qs := srt_one (hN.trans (PackLaw.merge_perm D qs).symm) hs h3
  rw [h4, merge_map (u := wt o) tr D qs (fun _ _ => rfl), hD, hq, lev]

set_option maxHeartbeats 4000000 in
theorem lev_round {H0 H : Heap} {most j M : Nat} {cv lv : Value} {o : Nat → Int} {S : List Tr} {env : Env} {Q : Post} {QP : List PanicEntry → Heap → Prop} (hSg : Sg o M S) (hne : S ≠ []) (hm : most ≤ 15) (hj : j + 1 < most)
    (hS : LV H0 most cv lv o M S j env H) (hk : ∀ env' H', LV H0 most cv lv o M S (j + 1) env' H' → Q .normal env' H') :
    awpC Try.prog L41_3 Q QP env H := by
  obtain ⟨h6, h9, h10, h87, h88, hK, hL, pv, P, D, tr, h11, hD, hP, hDm, hPm⟩ := hS
  have f0 : decide ((j : Int) < (most : Int) - 1) = true := decide_eq_true (by omega)
  have hDl : D.length = S.length := by rw [← hDm, List.length_map]
  have hPl : P.length = (lev o S j).length := by rw [← hPm, List.length_map]
  have hDne : D ≠ [] := by rintro rfl; exact hne (by rw [← hDm]; rfl)
  have h320 := hSg.len
  have h640 := hSg.bound j
  have hPne : P ≠ [] := by
    rintro rfl
    have h0 : 0 < S.length := List.length_pos_iff.2 hne
    rw [List.length_nil] at hPl
    cases j with
    | zero => rw [lev] at hPl; omega
    | succ j => rw [PackLaw.lev_len] at hPl; omega
  obtain ⟨r, c, rfl, hrc⟩ := hD.O.view hDne
  obtain ⟨pr, pc, rfl, hpc⟩ := hP.O.view hPne
  unfold L41_3
  simp -implicitDefEqProofs (maxSteps := 1000000) (disch := first | omega | assumption) only [h6, h9, h10, h11, h87, h88, f0, Sx, reduceIte, Nat.reduceEqDiff, reduceCtorEq, Nat.reduceAdd, Nat.reduceSub, Nat.reduceLT]
  refine a_call (cclone_spec hD.O (by omega)) ?_
  rintro e H1 ⟨nv, rfl, hO1, hk1, hF1⟩
  have hsv := hO1.scalar
  simp -implicitDefEqProofs (maxSteps := 1000000) (disch := first | omega | assumption) only [endK, h6, h9, h10, h11, h87, h88, Sx, reduceIte, Nat.reduceEqDiff, reduceCtorEq, Nat.reduceAdd, Nat.reduceSub, Nat.reduceLT]
  have hP1 := hP.keep hk1
  have hD1 := hD.keep hk1
  have hL1 : Ls H1 lv M fun _ => 0 := Own.keep hL hk1
  have hwt : ∀ b ∈ P, 0 ≤ wt o (tr b) ∧ wt o (tr b) ≤ 18014398509481984 := fun b hb => hSg.wt j (by omega) _ (by rw [← hPm]; exact List.mem_map_of_mem hb)
  refine c_loop (fun k env H' => ∃ t, k + t = P.length / 2 ∧ t ≤ P.length / 2 ∧ PR H most (.slice (some ⟨r, 0, none⟩) D.length c) (.slice (some ⟨pr, 0, none⟩) P.length pc) lv o D P tr j t env H') (P.length / 2) ⟨0, by omega, by omega, ⟨by simp -implicitDefEqProofs (maxSteps := 1000000) (disch := first | omega | assumption) only [h6, Sx, reduceIte, Nat.reduceEqDiff, reduceCtorEq, Nat.reduceAdd, Nat.reduceSub, Nat.reduceLT], by simp -implicitDefEqProofs (maxSteps := 1000000) (disch := first | omega | assumption) only [h9, Sx, reduceIte, Nat.reduceEqDiff, reduceCtorEq, Nat.reduceAdd, Nat.reduceSub, Nat.reduceLT], by simp -implicitDefEqProofs (maxSteps := 1000000) (disch := first | omega | assumption) only [h10, Sx, reduceIte, Nat.reduceEqDiff, reduceCtorEq, Nat.reduceAdd, Nat.reduceSub, Nat.reduceLT], by simp -implicitDefEqProofs (maxSteps := 1000000) (disch := first | omega | assumption) only [h11, Sx, reduceIte, Nat.reduceEqDiff, reduceCtorEq, Nat.reduceAdd, Nat.reduceSub, Nat.reduceLT], by simp -implicitDefEqProofs (maxSteps := 1000000) (disch := first | omega | assumption) only [Sx, reduceIte, Nat.reduceEqDiff, reduceCtorEq, Nat.reduceAdd, Nat.reduceSub, Nat.reduceLT]; rfl, by simp -implicitDefEqProofs (maxSteps := 1000000) (disch := first | omega | assumption) only [h87, Sx, reduceIte, Nat.reduceEqDiff, reduceCtorEq, Nat.reduceAdd, Nat.reduceSub, Nat.reduceLT], by simp -implicitDefEqProofs (maxSteps := 1000000) (disch := first | omega | assumption) only [h88, Sx, reduceIte, Nat.reduceEqDiff, reduceCtorEq, Nat.reduceAdd, Nat.reduceSub, Nat.reduceLT], hk1, nv, [], tr, by simp -implicitDefEqProofs (maxSteps := 1000000) (disch := first | omega | assumption) only [Sx, reduceIte, Nat.reduceEqDiff, reduceCtorEq, Nat.reduceAdd, Nat.reduceSub, Nat.reduceLT], ⟨by rw [List.append_nil]; exact hO1, fun b hb => hD1.T b (by simpa using hb), by simpa using hD.nd⟩, by simp, fun _ _ => rfl, hF1⟩⟩ ?_
  rintro k env2 H2 ⟨t, hkt, htl, hR⟩
  by_cases ht : 2 * t + 1 < P.length
  · refine pair_round hP ht hwt (fun b hb => (hD.T b hb).live) (by omega) (by omega) hR ?_
    intro env' H' hR'
    exact ⟨k - 1, by omega, t + 1, by omega, by omega, hR'⟩
  · have htt : t = P.length / 2 := by omega
    subst htt
    obtain ⟨h6, h9, h10, h11, h13, h87, h88, hK2, nv2, qs, tr', h12, hC, hqs, htr, hF⟩ := hR
    rw [List.take_of_length_le (by rw [PackLaw.pairs_len, List.length_map]; exact Nat.le_refl _), hPm] at hqs
    have f1 : decide (((2 * (P.length / 2) : Nat) : Int) + 1 < (P.length : Int)) = false := decide_eq_false (by omega)
    unfold L41_2
    simp -implicitDefEqProofs (maxSteps := 1000000) (disch := first | omega | assumption) only [h6, h9, h10, h11, h12, h13, h87, h88, f1, Sx, reduceIte, Nat.reduceEqDiff, reduceCtorEq, Nat.reduceAdd, Nat.reduceSub, Nat.reduceLT]
    obtain ⟨rk, hrk⟩ := asc_ex (D ++ qs) hC.nd
    have hql : qs.length = (lev o S j).length / 2 := by
      have := congrArg List.length hqs
      rw [List.length_map, PackLaw.pairs_len] at this
      omega
    refine a_call (csort_spec hC (by simp [hDne]) (by rw [List.length_append]; omega) rk hrk) ?_
    rintro e H3 ⟨rfl, ⟨N, hNp, hNs, hN⟩, ho3⟩
    have hk3 : Keep H H3 := ho3.keep hK2 hF
    have hDm' : D.map tr' = S := by
      rw [← hDm]
      exact List.map_congr_left fun b hb => htr b (hD.T b hb).live
    simp -implicitDefEqProofs (maxSteps := 1000000) (disch := first | omega | assumption) only [endK, h6, h9, h10, h11, h12, h13, h87, h88, Sx, reduceIte, Nat.reduceEqDiff, reduceCtorEq, Nat.reduceAdd, Nat.reduceSub, Nat.reduceLT]
    refine hk _ _ ⟨by simp -implicitDefEqProofs (maxSteps := 1000000) (disch := first | omega | assumption) only [h6, Sx, reduceIte, Nat.reduceEqDiff, reduceCtorEq, Nat.reduceAdd, Nat.reduceSub, Nat.reduceLT], by simp -implicitDefEqProofs (maxSteps := 1000000) (disch := first | omega | assumption) only [h9, Sx, reduceIte, Nat.reduceEqDiff, reduceCtorEq, Nat.reduceAdd, Nat.reduceSub, Nat.reduceLT], by simp -implicitDefEqProofs (maxSteps := 1000000) (disch := first | omega | assumption) only [h10, Sx, reduceIte, Nat.reduceEqDiff, reduceCtorEq, Nat.reduceAdd, Nat.reduceSub, Nat.reduceLT], by simp -implicitDefEqProofs (maxSteps := 1000000) (disch := first | omega | assumption) only [h87, Sx, reduceIte, Nat.reduceEqDiff, reduceCtorEq, Nat.reduceAdd, Nat.reduceSub, Nat.reduceLT], by simp -implicitDefEqProofs (maxSteps := 1000000) (disch := first | omega | assumption) only [h88, Int.natCast_add, Int.natCast_one, Sx, reduceIte, Nat.reduceEqDiff, reduceCtorEq, Nat.reduceAdd, Nat.reduceSub, Nat.reduceLT], hK.trans hk3, Own.keep hL hk3, nv2, N, D, tr', by simp -implicitDefEqProofs (maxSteps := 1000000) (disch := first | omega | assumption) only [h12, Sx, reduceIte, Nat.reduceEqDiff, reduceCtorEq, Nat.reduceAdd, Nat.reduceSub, Nat.reduceLT], ?_, hN, hDm', sort_eq hSg hDm' hqs hrk hNp hNs⟩
    exact ⟨hD.O.keep hk3, fun b hb => by rw [htr b (hD.T b hb).live]; exact (hD.T b hb).keep hk3, hD.nd⟩

theorem cntL_le {x c : Nat} : ∀ ts : List Tr, (∀ t ∈ ts, cnt t x ≤ c) → cntL ts x ≤ ts.length * c
  | [], _ => by simp [PackLaw.cntL]
  | t :: ts, h => by
    have h1 := h t List.mem_cons_self
    have h2 := cntL_le ts fun t ht => h t (List.mem_cons_of_mem _ ht)
    unfold PackLaw.cntL at h2 ⊢
    rw [List.map_cons, List.sum_cons, List.length_cons, Nat.add_mul]
    omega
set_option maxHeartbeats 4000000 in
/-- what is chosen is counted -/
theorem pick_spec {H0 H : Heap} {M n : Nat} {cv lv : Value} {o : Nat → Int} {S : List Tr} {j : Nat} {P D : List Nat} {tr : Nat → Tr} {pv : Value} {env : Env} {Q : Post} {QP : List PanicEntry → Heap → Prop} (hSg : Sg o M S) (hj : j ≤ 14) (hn : 2 ≤ n) (hnn : n = S.length) (hle : 2 * n - 2 ≤ P.length)
    (h6 : env 6 = cv) (h9 : env 9 = lv) (h11 : env 11 = pv) (hD : CL H cv o tr D) (hP : CL H pv o tr P) (hDl : D.length = n) (hPm : P.map tr = lev o S j) (hK : Keep H0 H) (hL : Ls H lv M fun _ => 0) (hF0 : Fresh H0 lv)
    (hk : ∀ env' H', env' 4 = lv → env' 5 = .int .i64 0 → Ls H' lv M (cntL ((lev o S j).take (2 * n - 2))) → Keep H0 H' → Q .ret env' H') :
    awpC Try.prog L41_5 Q QP env H := by
  have hPne : P ≠ [] := by rintro rfl; rw [List.length_nil] at hle; omega
  have hDne : D ≠ [] := by rintro rfl; rw [List.length_nil] at hDl; omega
  have hPl : P.length = (lev o S j).length := by rw [← hPm, List.length_map]
  have h640 := hSg.bound j
  obtain ⟨pr, pc, rfl, hpc⟩ := hP.O.view hPne
  obtain ⟨r, c, rfl, hrc⟩ := hD.O.view hDne
  have hlsv := hL.scalar
  subst hDl
  have g1 : (2 : Int) * (D.length : Int) - 2 = ((2 * D.length - 2 : Nat) : Int) := by omega
  unfold L41_5
  simp -implicitDefEqProofs (maxSteps := 1000000) (disch := first | omega | assumption) only [h6, h9, h11, g1, ev_slc_hi, Sx, reduceIte, Nat.reduceEqDiff, reduceCtorEq, Nat.reduceAdd, Nat.reduceSub, Nat.reduceLT]
  have hne : ∀ q, own (.slice (some ⟨pr, 0, none⟩) P.length pc) = some q → own lv ≠ some q := fun q hq => Lib.apart hP.O hL (by decide) hq
  refine c_loop (fun k env H' => ∃ i, k + i = 2 * D.length - 2 ∧ i ≤ 2 * D.length - 2 ∧ env 9 = lv ∧ env 139 = .slice (some ⟨pr, 0, none⟩) (2 * D.length - 2) pc ∧ env 140 = .int .i64 (2 * D.length - 2 : Nat) ∧ env 141 = .int .i64 i ∧ Ls H' lv M (cntL ((lev o S j).take i)) ∧ Oth H lv H') (2 * D.length - 2) ⟨0, by omega, by omega, by simp -implicitDefEqProofs (maxSteps := 1000000) (disch := first | omega | assumption) only [h9, Sx, reduceIte, Nat.reduceEqDiff, reduceCtorEq, Nat.reduceAdd, Nat.reduceSub, Nat.reduceLT], by simp -implicitDefEqProofs (maxSteps := 1000000) (disch := first | omega | assumption) only [Sx, reduceIte, Nat.reduceEqDiff, reduceCtorEq, Nat.reduceAdd, Nat.reduceSub, Nat.reduceLT], by simp -implicitDefEqProofs (maxSteps := 1000000) (disch := first | omega | assumption) only [Sx, reduceIte, Nat.reduceEqDiff, reduceCtorEq, Nat.reduceAdd, Nat.reduceSub, Nat.reduceLT], by simp -implicitDefEqProofs (maxSteps := 1000000) (disch := first | omega | assumption) only [Sx, reduceIte, Nat.reduceEqDiff, reduceCtorEq, Nat.reduceAdd, Nat.reduceSub, Nat.reduceLT]; rfl, ?_, Only.refl _ _⟩ ?_
  · have : (cntL ((lev o S j).take 0)) = fun _ => 0 := by funext x; simp [PackLaw.cntL]
    rw [this]; exact hL
  rintro k env2 H2 ⟨i, hki, hil, h9, h139, h140, h141, hL2, ho2⟩
  by_cases hi : i < 2 * D.length - 2
  · have f0 : decide ((i : Int) < ((2 * D.length - 2 : Nat) : Int)) = true := decide_eq_true (by omega)
    have hiP : i < P.length := by omega
    have hP2O : Cs H2 (.slice (some ⟨pr, 0, none⟩) P.length pc) P := Lib.oth_own ho2 hP.O fun q hq hq' => hne q hq' hq
    obtain ⟨b, hb⟩ : ∃ b, b = P[i] := ⟨_, rfl⟩
    have cb : H2.cell? ⟨pr, i, none⟩ = some (.pointer (some ⟨b, 0, none⟩)) := hP2O.cell (by rw [List.getElem?_eq_getElem hiP, hb])
    have hbm : b ∈ P := hb ▸ List.getElem_mem _
    have hlb : tr b ∈ lev o S j := by rw [← hPm]; exact List.mem_map_of_mem hbm
    have hil' : i < (lev o S j).length := by omega
    have hgi : (lev o S j)[i] = tr b := by
      have : (P.map tr)[i]'(by rw [List.length_map]; exact hiP) = tr b := by rw [List.getElem_map, hb]
      rw [← this]
      congr 1
      exact hPm.symm
    have htk : (lev o S j).take (i + 1) = (lev o S j).take i ++ [tr b] := by rw [List.take_succ_eq_append_getElem hil', hgi]
    unfold L41_4
    simp -implicitDefEqProofs (maxSteps := 1000000) (disch := first | omega | assumption) only [h9, h139, h140, h141, f0, cb, Sx, reduceIte, Nat.reduceEqDiff, reduceCtorEq, Nat.reduceAdd, Nat.reduceSub, Nat.reduceLT]
    refine a_call (each_spec (tr b) ((hP.T b hbm).oth hL (by decide) ho2) hL2 (hSg.leaves j _ hlb) (fun x => ?_)) ?_
    · have h1 := cntL_le (x := x) (c := 16384) ((lev o S j).take i) fun t ht => hSg.cnt j hj x t (List.mem_of_mem_take ht)
      have h2 := hSg.cnt j hj x _ hlb
      rw [List.length_take] at h1
      have h3 : min i (lev o S j).length * 16384 ≤ 640 * 16384 := Nat.mul_le_mul_right _ (by omega)
      omega
    rintro e H3 ⟨rfl, hL3, ho3⟩
    simp -implicitDefEqProofs (maxSteps := 1000000) (disch := first | omega | assumption) only [endK, h9, h139, h140, h141, Sx, reduceIte, Nat.reduceEqDiff, reduceCtorEq, Nat.reduceAdd, Nat.reduceSub, Nat.reduceLT]
    refine ⟨k - 1, by omega, i + 1, by omega, by omega, by trivial, by trivial, by trivial, by simp -implicitDefEqProofs (maxSteps := 1000000) (disch := first | omega | assumption) only [Int.natCast_add, Int.natCast_one, Sx, reduceIte, Nat.reduceEqDiff, reduceCtorEq, Nat.reduceAdd, Nat.reduceSub, Nat.reduceLT], ?_, ho2.trans ho3 fun q hq => .inl hq⟩
    have : (cntL ((lev o S j).take (i + 1))) = fun x => cntL ((lev o S j).take i) x + cnt (tr b) x := by
      funext x
      rw [htk, PackLaw.cntL_append]
      simp [PackLaw.cntL]
    rw [this]
    exact hL3
  · have : i = 2 * D.length - 2 := by omega
    subst this
    have f0 : decide (((2 * D.length - 2 : Nat) : Int) < ((2 * D.length - 2 : Nat) : Int)) = false := decide_eq_false (by omega)
    unfold L41_4
    simp -implicitDefEqProofs (maxSteps := 1000000) (disch := first | omega | assumption) only [h9, h139, h140, h141, f0, Sx, reduceIte, Nat.reduceEqDiff, reduceCtorEq, Nat.reduceAdd, Nat.reduceSub, Nat.reduceLT]
    exact hk _ _ (by simp -implicitDefEqProofs (maxSteps := 1000000) (disch := first | omega | assumption) only [h9, Sx, reduceIte, Nat.reduceEqDiff, reduceCtorEq, Nat.reduceAdd, Nat.reduceSub, Nat.reduceLT]) (by simp -implicitDefEqProofs (maxSteps := 1000000) (disch := first | omega | assumption) only [Sx, reduceIte, Nat.reduceEqDiff, reduceCtorEq, Nat.reduceAdd, Nat.reduceSub, Nat.reduceLT]) hL2 (ho2.keep hK fun q hq => hF0 q hq)
end Go.Proofs.Ytfdcolicpfellaa.S05
