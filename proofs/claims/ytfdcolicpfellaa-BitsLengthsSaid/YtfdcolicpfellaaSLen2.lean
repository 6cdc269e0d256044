/-
  The levels of package-merge.
-/
import Derived.Test.YtfdcolicpfellaaSLen
set_option linter.unusedVariables false
set_option linter.unusedSimpArgs false
namespace Go.Proofs.Ytfdcolicpfellaa.S05
open Go Go.RowKit Go.Proofs.Ytfdcolicpfellaa.Sep Go.Proofs.Ytfdcolicpfellaa.Low
open Go.Proofs.Ytfdcolicpfellaa.PackLaw (Tr wt cnt cntL leaves merge Up lev pairs)
open Go.Proofs.Ytfdcolicpfellaa.Lib (by64 by64_scalar)

theorem lev_all {o : Nat → Int} {S : List Tr} (p : Nat → Tr → Prop) (hS : ∀ j, ∀ t ∈ S, p j t) (hn : ∀ j a b, p j a → p j b → p (j + 1) (.node a b)) : ∀ j, ∀ t ∈ lev o S j, p j t
  | 0, t, h => hS 0 t h
  | j + 1, t, h => by
    rw [lev] at h
    rcases List.mem_append.1 ((PackLaw.merge_perm _ _).mem_iff.1 h) with h | h
    · exact hS _ t h
    · obtain ⟨i, hi, e⟩ := List.getElem_of_mem h
      rw [PackLaw.pairs_get] at e
      rw [← e]
      exact hn _ _ _ (lev_all p hS hn j _ (List.getElem_mem _)) (lev_all p hS hn j _ (List.getElem_mem _))
theorem pow_up (j c : Nat) : (c : Int) * 2 ^ j + c * 2 ^ j = c * 2 ^ (j + 1) := by rw [Int.pow_succ, ← Int.mul_assoc]; omega
/-- singles: what a level is made of -/
structure Sg (o : Nat → Int) (M : Nat) (S : List Tr) : Prop where
  up : Up (wt o) S
  lf : ∀ t ∈ S, ∃ s, t = .leaf s ∧ s < M ∧ 0 < o s ∧ o s ≤ 1099511627776
  len : S.length ≤ 320
theorem Sg.wt {o : Nat → Int} {M : Nat} {S : List Tr} (h : Sg o M S) (j : Nat) (hj : j ≤ 14) : ∀ t ∈ lev o S j, 0 ≤ wt o t ∧ wt o t ≤ 18014398509481984 := by
  have := lev_all (o := o) (S := S) (fun j t => 0 ≤ PackLaw.wt o t ∧ PackLaw.wt o t ≤ 1099511627776 * 2 ^ j) (fun j t ht => by
    obtain ⟨s, rfl, h1, h2, h3⟩ := h.lf t ht
    have : (1 : Int) ≤ 2 ^ j := by have := Nat.one_le_two_pow (n := j); exact_mod_cast this
    rw [PackLaw.wt]
    omega) (fun j a b ha hb => by
    have := pow_up j 1099511627776
    rw [PackLaw.wt]
    omega) j
  intro t ht
  have h1 := this t ht
  have h2 : (2 : Int) ^ j ≤ 2 ^ 14 := by have := Nat.pow_le_pow_right (n := 2) (by omega) hj; exact_mod_cast this
  omega
theorem Sg.cnt {o : Nat → Int} {M : Nat} {S : List Tr} (h : Sg o M S) (j : Nat) (hj : j ≤ 14) (x : Nat) : ∀ t ∈ lev o S j, cnt t x ≤ 16384 := by
  have := lev_all (o := o) (S := S) (fun j t => PackLaw.cnt t x ≤ 2 ^ j) (fun j t ht => by
    obtain ⟨s, rfl, h1, h2, h3⟩ := h.lf t ht
    have := Nat.one_le_two_pow (n := j)
    rw [PackLaw.cnt]
    split <;> omega) (fun j a b ha hb => by
    rw [PackLaw.cnt, Nat.pow_succ]
    omega) j
  intro t ht
  have h1 := this t ht
  have h2 := Nat.pow_le_pow_right (n := 2) (by omega) hj
  omega
theorem Sg.leaves {o : Nat → Int} {M : Nat} {S : List Tr} (h : Sg o M S) (j : Nat) : ∀ t ∈ lev o S j, leaves (· < M) t :=
  lev_all (o := o) (S := S) (fun _ t => PackLaw.leaves (· < M) t) (fun j t ht => by
    obtain ⟨s, rfl, h1, h2, h3⟩ := h.lf t ht
    exact h1) (fun j a b ha hb => ⟨ha, hb⟩) j
theorem Sg.bound {o : Nat → Int} {M : Nat} {S : List Tr} (h : Sg o M S) : ∀ j, (lev o S j).length ≤ 640
  | 0 => by rw [lev]; have := h.len; omega
  | j + 1 => by rw [PackLaw.lev_len]; have := h.len; have := h.bound j; omega

/-- while the pairs are made -/
structure PR (H1 : Heap) (most : Nat) (cv pv lv : Value) (o : Nat → Int) (D P : List Nat) (tr : Nat → Tr) (j t : Nat) (env : Env) (H : Heap) : Prop where
  h6 : env 6 = cv
  h9 : env 9 = lv
  h10 : env 10 = cmpF
  h11 : env 11 = pv
  h13 : env 13 = .int .i64 (2 * t : Nat)
  h87 : env 87 = .int .i64 ((most : Int) - 1)
  h88 : env 88 = .int .i64 j
  K : Keep H1 H
  rest : ∃ nv qs tr', env 12 = nv ∧ CL H nv o tr' (D ++ qs) ∧ qs.map tr' = (pairs (P.map tr)).take t ∧ (∀ b, H1 b ≠ none → tr' b = tr b) ∧ Fresh H1 nv

theorem TrAt.live {H : Heap} {o : Nat → Int} {t : Tr} {b : Nat} (h : TrAt H o t b) : H b ≠ none := by
  obtain ⟨s, l, r, e⟩ := h.key
  rw [e]; exact fun h => by cases h

set_option maxHeartbeats 4000000 in
theorem pair_round {H1 H : Heap} {most j t : Nat} {cv lv : Value} {r c : Nat} {o : Nat → Int} {D P : List Nat} {tr : Nat → Tr} {env : Env} {Q : Post} {QP : List PanicEntry → Heap → Prop} (hP : CL H1 (.slice (some ⟨r, 0, none⟩) P.length c) o tr P) (ht : 2 * t + 1 < P.length) (hw : ∀ b ∈ P, 0 ≤ wt o (tr b) ∧ wt o (tr b) ≤ 18014398509481984) (hD : ∀ b ∈ D, H1 b ≠ none) (hDl : D.length ≤ 320) (hPl : P.length ≤ 640)
    (hS : PR H1 most cv (.slice (some ⟨r, 0, none⟩) P.length c) lv o D P tr j t env H) (hk : ∀ env' H', PR H1 most cv (.slice (some ⟨r, 0, none⟩) P.length c) lv o D P tr j (t + 1) env' H' → Q .normal env' H') :
    awpC Try.prog L41_2 Q QP env H := by
  obtain ⟨h6, h9, h10, h11, h13, h87, h88, hK, nv, qs, tr', h12, hC, hqs, htr, hF⟩ := hS
  have f0 : decide (((2 * t : Nat) : Int) + 1 < (P.length : Int)) = true := decide_eq_true (by omega)
  obtain ⟨x, hx⟩ : ∃ x, x = P[2 * t] := ⟨_, rfl⟩
  obtain ⟨y, hy⟩ : ∃ y, y = P[2 * t + 1] := ⟨_, rfl⟩
  have hxm : x ∈ P := hx ▸ List.getElem_mem _
  have hym : y ∈ P := hy ▸ List.getElem_mem _
  have hPk := hP.keep hK
  have cx : H.cell? ⟨r, 2 * t, none⟩ = some (.pointer (some ⟨x, 0, none⟩)) := hPk.O.cell (by rw [List.getElem?_eq_getElem (by omega), hx])
  have cy : H.cell? ⟨r, 2 * t + 1, none⟩ = some (.pointer (some ⟨y, 0, none⟩)) := hPk.O.cell (by rw [List.getElem?_eq_getElem (by omega), hy])
  obtain ⟨s1, l1, r1, bx⟩ := (hPk.T x hxm).key
  obtain ⟨s2, l2, r2, bY⟩ := (hPk.T y hym).key
  have wx := hw x hxm
  have wy := hw y hym
  obtain ⟨u, hu⟩ : ∃ u, u = wt o (tr x) := ⟨_, rfl⟩
  obtain ⟨w, hw'⟩ : ∃ w, w = wt o (tr y) := ⟨_, rfl⟩
  rw [← hu] at bx wx
  rw [← hw'] at bY wy
  have g1 : (((2 * t : Nat) : Int) + 1).toNat = 2 * t + 1 := by omega
  have hsv := hC.O.scalar
  unfold L41_2
  simp -implicitDefEqProofs (maxSteps := 1000000) (disch := first | omega | assumption) only [h6, h9, h10, h11, h12, h13, h87, h88, f0, g1, cx, cy, cell_of bx, cell_of bY, l_g, Sx, reduceIte, Nat.reduceEqDiff, reduceCtorEq, Nat.reduceAdd, Nat.reduceSub, Nat.reduceLT]
  refine a_box fun q hq => ?_
  simp -implicitDefEqProofs (maxSteps := 1000000) (disch := first | omega | assumption) only [Value.cells, Sx, reduceIte, Nat.reduceEqDiff, reduceCtorEq, Nat.reduceAdd, Nat.reduceSub, Nat.reduceLT]
  have hk1 : Keep H (H.set q (.cells #[.int .i64 (u + w), .int .i64 0, .pointer (some ⟨x, 0, none⟩), .pointer (some ⟨y, 0, none⟩)] 99 (0, 0))) := (Keep.refl H).set_new hq
  have hb1 : (H.set q (.cells #[.int .i64 (u + w), .int .i64 0, .pointer (some ⟨x, 0, none⟩), .pointer (some ⟨y, 0, none⟩)] 99 (0, 0))) q = some (.cells #[.int .i64 (u + w), .int .i64 0, .pointer (some ⟨x, 0, none⟩), .pointer (some ⟨y, 0, none⟩)] 99 (0, 0)) := set_same
  generalize H.set q (.cells #[.int .i64 (u + w), .int .i64 0, .pointer (some ⟨x, 0, none⟩), .pointer (some ⟨y, 0, none⟩)] 99 (0, 0)) = H2 at hk1 hb1 ⊢
  refine a_lits (sz := 1) (cells := #[.pointer (some ⟨q, 0, none⟩)]) rfl rfl ?_
  intro r3 H3 hO3 hk3 hr3
  obtain ⟨_, _, _, e, _, _, hrow3⟩ := hO3.view
  cases e
  try simp -implicitDefEqProofs (maxSteps := 1000000) (disch := first | omega | assumption) only [h6, h9, h10, h11, h12, h13, h87, h88, Sx, reduceIte, Nat.reduceEqDiff, reduceCtorEq, Nat.reduceAdd, Nat.reduceSub, Nat.reduceLT]
  have hk13 := hk1.trans hk3
  have hql : qs.length ≤ t := by
    have := congrArg List.length hqs
    rw [List.length_map, List.length_take] at this
    omega
  refine a_app (len := (D ++ qs).length) (m := 1) (new := ps [q]) (hC.O.keep hk13) (by simp) (by rfl) (hrow3.cells (by simp)) (by simp) rfl (by omega) (ps_scalar _) (by rw [List.length_append]; omega) ?_
  intro v4 H4 hO4 ho4 hm4
  have g2 : ((2 * t : Nat) : Int) + 2 = ((2 * (t + 1) : Nat) : Int) := by omega
  try simp -implicitDefEqProofs (maxSteps := 1000000) (disch := first | omega | assumption) only [h6, h9, h10, h11, h12, h13, h87, h88, g2, Sx, reduceIte, Nat.reduceEqDiff, reduceCtorEq, Nat.reduceAdd, Nat.reduceSub, Nat.reduceLT]
  have hqn : q ∉ D ++ qs := hC.new hq
  have hq1 : H1 q = none := hK.none hq
  have hO2' := hC.O.keep hk13
  have hk4 : Keep H1 H4 := ho4.keep (hK.trans hk13) fun z hz => hF z hz
  have tx : tr' x = tr x := htr x (hP.T x hxm).live
  have ty : tr' y = tr y := htr y (hP.T y hym).live
  have htk : (pairs (P.map tr)).take (t + 1) = (pairs (P.map tr)).take t ++ [.node (tr x) (tr y)] := by
    have hl : t < (pairs (P.map tr)).length := by rw [PackLaw.pairs_len, List.length_map]; omega
    rw [List.take_succ_eq_append_getElem hl, PackLaw.pairs_get, List.getElem_map, List.getElem_map, ← hx, ← hy]
  refine hk _ _ ⟨by simp -implicitDefEqProofs (maxSteps := 1000000) (disch := first | omega | assumption) only [h6, Sx, reduceIte, Nat.reduceEqDiff, reduceCtorEq, Nat.reduceAdd, Nat.reduceSub, Nat.reduceLT], by simp -implicitDefEqProofs (maxSteps := 1000000) (disch := first | omega | assumption) only [h9, Sx, reduceIte, Nat.reduceEqDiff, reduceCtorEq, Nat.reduceAdd, Nat.reduceSub, Nat.reduceLT], by simp -implicitDefEqProofs (maxSteps := 1000000) (disch := first | omega | assumption) only [h10, Sx, reduceIte, Nat.reduceEqDiff, reduceCtorEq, Nat.reduceAdd, Nat.reduceSub, Nat.reduceLT], by simp -implicitDefEqProofs (maxSteps := 1000000) (disch := first | omega | assumption) only [h11, Sx, reduceIte, Nat.reduceEqDiff, reduceCtorEq, Nat.reduceAdd, Nat.reduceSub, Nat.reduceLT], by simp -implicitDefEqProofs (maxSteps := 1000000) (disch := first | omega | assumption) only [h13, Sx, reduceIte, Nat.reduceEqDiff, reduceCtorEq, Nat.reduceAdd, Nat.reduceSub, Nat.reduceLT], by simp -implicitDefEqProofs (maxSteps := 1000000) (disch := first | omega | assumption) only [h87, Sx, reduceIte, Nat.reduceEqDiff, reduceCtorEq, Nat.reduceAdd, Nat.reduceSub, Nat.reduceLT], by simp -implicitDefEqProofs (maxSteps := 1000000) (disch := first | omega | assumption) only [h88, Sx, reduceIte, Nat.reduceEqDiff, reduceCtorEq, Nat.reduceAdd, Nat.reduceSub, Nat.reduceLT], hk4, v4, qs ++ [q], upd tr' q (.node (tr x) (tr y)), by simp -implicitDefEqProofs (maxSteps := 1000000) (disch := first | omega | assumption) only [Sx, reduceIte, Nat.reduceEqDiff, reduceCtorEq, Nat.reduceAdd, Nat.reduceSub, Nat.reduceLT], ⟨?_, fun z hz => ?_, ?_⟩, ?_, fun b hb => ?_, hm4.fresh (hK.trans hk13) hF⟩
  · show Own H4 _ 1 _ _
    rw [← List.append_assoc, ps, List.map_append]
    exact hO4
  · rw [← List.append_assoc] at hz
    rcases List.mem_append.1 hz with hz | hz
    · have e' : z ≠ q := fun e => hqn (by rw [← e]; exact hz)
      have e : upd tr' q (.node (tr x) (tr y)) z = tr' z := by
        show (if z = q then _ else tr' z) = tr' z
        rw [if_neg e']
      rw [e]
      exact ((hC.T z hz).keep hk13).oth hO2' (by decide) ho4
    · rw [List.mem_singleton] at hz
      subst hz
      have e : upd tr' z (.node (tr x) (tr y)) z = .node (tr x) (tr y) := by show (if z = z then _ else _) = _; rw [if_pos rfl]
      rw [e]
      have h5 : TrAt H3 o (.node (tr x) (tr y)) z := .node (by rw [PackLaw.wt, ← hu, ← hw']; exact hk3 _ _ hb1) ((hPk.T x hxm).keep hk13) ((hPk.T y hym).keep hk13)
      exact h5.oth hO2' (by decide) ho4
  · rw [← List.append_assoc]
    exact List.nodup_append.2 ⟨hC.nd, by simp, fun x hx y hy => by rw [List.mem_singleton] at hy; subst hy; exact fun e => hqn (e ▸ hx)⟩
  · rw [List.map_append, upd_map (fun h => hqn (List.mem_append_right _ h)), hqs, htk]
    congr 1
    simp [upd]
  · have e' : b ≠ q := fun e => hb (by rw [e]; exact hq1)
    show (if b = q then _ else tr' b) = tr b
    rw [if_neg e']
    exact htr b hb
end Go.Proofs.Ytfdcolicpfellaa.S05
