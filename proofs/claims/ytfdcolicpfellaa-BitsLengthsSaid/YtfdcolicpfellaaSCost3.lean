/-
  Cost: pairs, levels.
-/
import Derived.Test.YtfdcolicpfellaaSCost2
set_option linter.unusedVariables false
set_option linter.unusedSimpArgs false
namespace Go.Proofs.Ytfdcolicpfellaa.S05
open Go Go.RowKit Go.Proofs.Ytfdcolicpfellaa.Sep Go.Proofs.Ytfdcolicpfellaa.Low
open Go.Proofs.Ytfdcolicpfellaa.PackLaw (Tr wt cnt cntL leaves merge Up lev pairs psum)
open Go.Proofs.Ytfdcolicpfellaa.Lib (by64 by64_scalar encs encs_len encs_append encs_one encs_scalar elemR)

theorem psum_len : ∀ l : List Int, (psum l).length = l.length / 2
  | [] => rfl
  | [_] => by simp [psum]
  | a :: b :: r => by
    have := psum_len r
    rw [psum, List.length_cons, this, List.length_cons, List.length_cons]
    omega
theorem psum_get : ∀ (l : List Int) (t : Nat) (h : t < (psum l).length), (psum l)[t] = l[2 * t]'(by rw [psum_len] at h; omega) + l[2 * t + 1]'(by rw [psum_len] at h; omega)
  | [], t, h => by simp [psum] at h
  | [_], t, h => by simp [psum] at h
  | a :: b :: r, 0, h => rfl
  | a :: b :: r, t + 1, h => by
    have := psum_get r t (by simpa [psum] using h)
    simp only [psum, List.getElem_cons_succ, this]
    rfl
theorem psum_take (l : List Int) {t : Nat} (h : 2 * t + 1 < l.length) : (psum l).take (t + 1) = (psum l).take t ++ [l[2 * t] + l[2 * t + 1]] := by
  rw [List.take_succ_eq_append_getElem (by rw [psum_len]; omega), psum_get]

/-- pairs so far -/
structure PA (H0 : Heap) (a : Option Addr) (c M : Nat) (most : Int) (sv lv : Value) (level : Nat) (ls : List Pk) (t : Nat) (env : Env) (H : Heap) : Prop where
  h0 : env 0 = .slice a M c
  h1 : env 1 = .int .i64 most
  h5 : env 5 = sv
  h8 : env 8 = lv
  h9 : env 9 = .int .i64 level
  h11 : env 11 = .int .i64 (2 * t : Nat)
  K : Keep H0 H
  rest : ∃ pv ps, env 10 = pv ∧ PL H pv M ps ∧ ps.map Pk.w = (psum (ls.map Pk.w)).take t ∧ Fresh H0 pv

set_option maxHeartbeats 4000000 in
theorem pairs_round {H0 H : Heap} {a : Option Addr} {c M t level : Nat} {most : Int} {sv : Value} {ls : List Pk} {la : Option Addr} {lc : Nat} {env : Env} {Q : Post} {QP : List PanicEntry → Heap → Prop} (hM : M ≤ 320) (hl : PL H0 (.slice la ls.length lc) M ls) (ht : 2 * t + 1 < ls.length) (hll : ls.length ≤ 1000) (hw : ∀ p ∈ ls, 0 ≤ p.w ∧ p.w ≤ 18014398509481984)
    (hsv : scalarV sv = true) (hS : PA H0 a c M most sv (.slice la ls.length lc) level ls t env H) (hk : ∀ env' H', PA H0 a c M most sv (.slice la ls.length lc) level ls (t + 1) env' H' → Q .normal env' H') :
    awpC Try.prog L43_3 Q QP env H := by
  obtain ⟨h0, h1, h5, h8, h9, h11, hK, pv, ps, h10, hP, hpw, hF⟩ := hS
  have f0 : decide (((2 * t : Nat) : Int) + 1 < (ls.length : Int)) = true := decide_eq_true (by omega)
  have hl1 := hl.keep hK
  obtain ⟨_, _, e, hlc, hrow⟩ := hl1.O.len
  cases e
  obtain ⟨b, rfl, -, hx0⟩ := elemR pk_len (by omega) hrow (i := 2 * t) (by omega)
  obtain ⟨b', e, -, hy0⟩ := elemR pk_len (by omega) hrow (i := 2 * t + 1) (by omega)
  cases e
  obtain ⟨x, hx⟩ : ∃ x, x = ls[2 * t] := ⟨_, rfl⟩
  obtain ⟨y, hy⟩ : ∃ y, y = ls[2 * t + 1] := ⟨_, rfl⟩
  rw [← hx] at hx0
  rw [← hy] at hy0
  have hx1 : H.cell? (b.add (2 * t * 2)) = some (.int .i64 x.w) := by
    have := hx0 0 _ rfl
    rwa [add_zero_a] at this
  have hy1 : H.cell? (b.add ((2 * t + 1) * 2)) = some (.int .i64 y.w) := by
    have := hy0 0 _ rfl
    rwa [add_zero_a] at this
  have wx := hw x (hx ▸ List.getElem_mem _)
  have wy := hw y (hy ▸ List.getElem_mem _)
  have e1 : (((2 * t : Nat) : Int) + 1).toNat = 2 * t + 1 := by omega
  have hpv := hP.O.scalar
  have hpl : ps.length ≤ t := by
    have := congrArg List.length hpw
    rw [List.length_map, List.length_take] at this
    omega
  unfold L43_3
  simp -implicitDefEqProofs (maxSteps := 1000000) (disch := first | omega | assumption) only [h0, h1, h5, h8, h9, h10, h11, f0, e1, hx1, hy1, l_qk, l_e, Sx, reduceIte, Nat.reduceEqDiff, reduceCtorEq, Nat.reduceAdd, Nat.reduceSub, Nat.reduceLT]
  refine a_new fun q hq => ?_
  have hkn : Keep H (H.set q (.cells #[.int .i64 0, .slice none 0 0] 107 (0, 0))) := (Keep.refl H).set_new hq
  refine ⟨fun p hp _ => ?_, ?_⟩
  · simp only [List.mem_cons, List.not_mem_nil, or_false] at hp
    rcases hp with rfl | rfl
    · exact hkn.cell hy1
    · exact hkn.cell hx1
  refine st_all (old := [.int .i64 0, .slice none 0 0]) (ci := [.int .i64 (x.w + y.w), .slice none 0 0]) set_same rfl rfl (by simp [scalarV]) ?_
  refine ⟨fun p _ hp => by simp at hp, ?_⟩
  have hk2 : Keep H ((H.set q (.cells #[.int .i64 0, .slice none 0 0] 107 (0, 0))).set q (.cells [.int .i64 (x.w + y.w), .slice none 0 0].toArray 107 (0, 0))) := hkn.set_fresh hq
  have hb2 : ((H.set q (.cells #[.int .i64 0, .slice none 0 0] 107 (0, 0))).set q (.cells [.int .i64 (x.w + y.w), .slice none 0 0].toArray 107 (0, 0))) q = some (.cells #[.int .i64 (x.w + y.w), .slice none 0 0] 107 (0, 0)) := set_same
  generalize (H.set q (.cells #[.int .i64 0, .slice none 0 0] 107 (0, 0))).set q (.cells [.int .i64 (x.w + y.w), .slice none 0 0].toArray 107 (0, 0)) = H2 at hk2 hb2 ⊢
  try simp -implicitDefEqProofs (maxSteps := 1000000) (disch := first | omega | assumption) only [h0, h1, h5, h8, h9, h10, h11, Sx, reduceIte, Nat.reduceEqDiff, reduceCtorEq, Nat.reduceAdd, Nat.reduceSub, Nat.reduceLT]
  refine c_loop (fun k' env H' => ∃ k, k' + k = M ∧ k ≤ M ∧ AD H a c M most sv (.slice (some b) ls.length lc) pv level (2 * t) q (x.w + y.w) k env H') M ⟨0, by omega, by omega, ⟨by simp -implicitDefEqProofs (maxSteps := 1000000) (disch := first | omega | assumption) only [h0, Sx, reduceIte, Nat.reduceEqDiff, reduceCtorEq, Nat.reduceAdd, Nat.reduceSub, Nat.reduceLT], by simp -implicitDefEqProofs (maxSteps := 1000000) (disch := first | omega | assumption) only [h1, Sx, reduceIte, Nat.reduceEqDiff, reduceCtorEq, Nat.reduceAdd, Nat.reduceSub, Nat.reduceLT], by simp -implicitDefEqProofs (maxSteps := 1000000) (disch := first | omega | assumption) only [h5, Sx, reduceIte, Nat.reduceEqDiff, reduceCtorEq, Nat.reduceAdd, Nat.reduceSub, Nat.reduceLT], by simp -implicitDefEqProofs (maxSteps := 1000000) (disch := first | omega | assumption) only [h8, Sx, reduceIte, Nat.reduceEqDiff, reduceCtorEq, Nat.reduceAdd, Nat.reduceSub, Nat.reduceLT], by simp -implicitDefEqProofs (maxSteps := 1000000) (disch := first | omega | assumption) only [h9, Sx, reduceIte, Nat.reduceEqDiff, reduceCtorEq, Nat.reduceAdd, Nat.reduceSub, Nat.reduceLT], by simp -implicitDefEqProofs (maxSteps := 1000000) (disch := first | omega | assumption) only [h10, Sx, reduceIte, Nat.reduceEqDiff, reduceCtorEq, Nat.reduceAdd, Nat.reduceSub, Nat.reduceLT], by simp -implicitDefEqProofs (maxSteps := 1000000) (disch := first | omega | assumption) only [h11, Sx, reduceIte, Nat.reduceEqDiff, reduceCtorEq, Nat.reduceAdd, Nat.reduceSub, Nat.reduceLT], by simp -implicitDefEqProofs (maxSteps := 1000000) (disch := first | omega | assumption) only [Sx, reduceIte, Nat.reduceEqDiff, reduceCtorEq, Nat.reduceAdd, Nat.reduceSub, Nat.reduceLT], by simp -implicitDefEqProofs (maxSteps := 1000000) (disch := first | omega | assumption) only [Sx, reduceIte, Nat.reduceEqDiff, reduceCtorEq, Nat.reduceAdd, Nat.reduceSub, Nat.reduceLT]; rfl, hk2, none, 0, 0, [], rfl, .nil, hb2, (fun r hr => by cases hr)⟩⟩ ?_
  rintro k' env3 H3 ⟨k, hkk, hkM, hA⟩
  by_cases hlt : k < M
  · refine add_round hM hlt hl1 (by omega) hll hq hsv hpv hA ?_
    intro env' H' hA'
    exact ⟨k' - 1, by omega, k + 1, by omega, by omega, hA'⟩
  · have : k = M := by omega
    subst this
    obtain ⟨h0, h1, h5, h8, h9, h10, h11, h12, h13, hK3, na, nn, nc, xs, hxl, hN, hb3, hF3⟩ := hA
    have f1 : decide ((k : Int) < (k : Int)) = false := decide_eq_false (by omega)
    have hld := load2 hb3
    unfold L43_2
    simp -implicitDefEqProofs (maxSteps := 1000000) (disch := first | omega | assumption) only [h0, h1, h5, h8, h9, h10, h11, h12, h13, f1, ev_ldn, hld, Sx, reduceIte, Nat.reduceEqDiff, reduceCtorEq, Nat.reduceAdd, Nat.reduceSub, Nat.reduceLT]
    refine lits_pk (p := ⟨x.w + y.w, na, nn, nc⟩) ?_
    intro r4 H4 hO4 hk4 hr4
    obtain ⟨_, _, e, _, hrow4⟩ := hO4.len
    cases e
    try simp -implicitDefEqProofs (maxSteps := 1000000) (disch := first | omega | assumption) only [h0, h1, h5, h8, h9, h10, h11, Sx, reduceIte, Nat.reduceEqDiff, reduceCtorEq, Nat.reduceAdd, Nat.reduceSub, Nat.reduceLT]
    have hK4 := hK3.trans hk4
    refine app_pk (m := [⟨x.w + y.w, na, nn, nc⟩]) (k := 1) (Own.keep hP.O hK4) rfl rfl (hrow4.cells rfl) (by simp; omega) ?_
    intro v5 H5 hO5 ho5 hm5
    have g2 : ((2 * t : Nat) : Int) + 2 = ((2 * (t + 1) : Nat) : Int) := by omega
    try simp -implicitDefEqProofs (maxSteps := 1000000) (disch := first | omega | assumption) only [h0, h1, h5, h8, h9, h10, h11, g2, Sx, reduceIte, Nat.reduceEqDiff, reduceCtorEq, Nat.reduceAdd, Nat.reduceSub, Nat.reduceLT]
    have hIn : InOk H4 k ⟨x.w + y.w, na, nn, nc⟩ := ⟨xs, hxl, hN.keep hk4⟩
    refine hk _ _ ⟨by simp -implicitDefEqProofs (maxSteps := 1000000) (disch := first | omega | assumption) only [h0, Sx, reduceIte, Nat.reduceEqDiff, reduceCtorEq, Nat.reduceAdd, Nat.reduceSub, Nat.reduceLT], by simp -implicitDefEqProofs (maxSteps := 1000000) (disch := first | omega | assumption) only [h1, Sx, reduceIte, Nat.reduceEqDiff, reduceCtorEq, Nat.reduceAdd, Nat.reduceSub, Nat.reduceLT], by simp -implicitDefEqProofs (maxSteps := 1000000) (disch := first | omega | assumption) only [h5, Sx, reduceIte, Nat.reduceEqDiff, reduceCtorEq, Nat.reduceAdd, Nat.reduceSub, Nat.reduceLT], by simp -implicitDefEqProofs (maxSteps := 1000000) (disch := first | omega | assumption) only [h8, Sx, reduceIte, Nat.reduceEqDiff, reduceCtorEq, Nat.reduceAdd, Nat.reduceSub, Nat.reduceLT], by simp -implicitDefEqProofs (maxSteps := 1000000) (disch := first | omega | assumption) only [h9, Sx, reduceIte, Nat.reduceEqDiff, reduceCtorEq, Nat.reduceAdd, Nat.reduceSub, Nat.reduceLT], by simp -implicitDefEqProofs (maxSteps := 1000000) (disch := first | omega | assumption) only [Sx, reduceIte, Nat.reduceEqDiff, reduceCtorEq, Nat.reduceAdd, Nat.reduceSub, Nat.reduceLT], ho5.keep (hK.trans hK4) fun z hz => hF z hz, v5, ps ++ [⟨x.w + y.w, na, nn, nc⟩], by simp -implicitDefEqProofs (maxSteps := 1000000) (disch := first | omega | assumption) only [Sx, reduceIte, Nat.reduceEqDiff, reduceCtorEq, Nat.reduceAdd, Nat.reduceSub, Nat.reduceLT], ⟨hO5, fun p hp => ?_⟩, ?_, hm5.fresh (hK.trans hK4) hF⟩
    · rcases List.mem_append.1 hp with hp | hp
      · exact ((hP.I p hp).keep hK4).oth (Own.keep hP.O hK4) ho5
      · rw [List.mem_singleton] at hp
        subst hp
        exact hIn.oth (Own.keep hP.O hK4) ho5
    · rw [List.map_append, hpw, psum_take _ (by rw [List.length_map]; exact ht)]
      congr 1
      simp only [List.map_cons, List.map_nil, List.getElem_map, hx, hy]
end Go.Proofs.Ytfdcolicpfellaa.S05
