/-
  The statements' own small functions: lent, kept, full.
-/
import Derived.Test.YthflafgijfbpnaaDoorLowA
import Derived.Test.YthflafgijfbpnaaDoorBase
set_option linter.unusedVariables false
set_option linter.unusedSimpArgs false
namespace Go.Proofs.YthflafgijfbpnaaDoor.Lib
open Go Go.RowKit Go.Proofs.YthflafgijfbpnaaDoor.Sep Go.Proofs.YthflafgijfbpnaaDoor.Low

def marks (n : Nat) : List Int := (List.range n).map fun (i : Nat) => (171 : Int) + (i : Int)
theorem marks_len (n : Nat) : (marks n).length = n := by simp [marks]
theorem marks_succ (n : Nat) : marks (n + 1) = marks n ++ [171 + (n : Int)] := by simp [marks, List.range_succ]
theorem marks_get (n i : Nat) (h : i < n) : (marks n)[i]? = some (171 + (i : Int)) := by simp [marks, h]

theorem lent_spec {H : Heap} {a : Option Addr} {n c : Nat} {bs : List Int} (hr : Row H a (by8 bs)) (hl : n = bs.length) (hn : n ≤ 140737488355328) :
    ACalls Tryd.prog 8 [Value.slice a n c].toArray H fun e H' => ∃ a' c', e = .returned (.tuple #[.slice a' n c', .slice a' (n + 32) c']) ∧ Own H' 5 1 (.slice a' (n + 32) c') (by8 (bs ++ marks 32)) ∧ Keep H H' ∧ Fresh H (.slice a' (n + 32) c') := by
  subst hl
  refine call8 (Nat.le_of_ble_eq_true rfl) ?_
  unfold L8 env0
  have e1 : ((bs.length : Int) + 32) = ((bs.length + 32 : Nat) : Int) := by omega
  simp -implicitDefEqProofs (maxSteps := 1000000) (disch := first | omega | assumption) only [e1, Sx, reduceIte, Nat.reduceEqDiff, reduceCtorEq, Nat.reduceAdd, Nat.reduceSub, Nat.reduceLT]
  refine a_mks (l := 0) (c := bs.length + 32) (sz := 1) (by omega) (by omega) (by omega) rfl (by omega) ?_
  intro r H1 rest hb hO hk hr1
  try simp -implicitDefEqProofs (maxSteps := 1000000) (disch := first | omega | assumption) only [Sx, reduceIte, Nat.reduceEqDiff, reduceCtorEq, Nat.reduceAdd, Nat.reduceSub, Nat.reduceLT]
  refine a_app (len := 0) (m := bs.length) (new := by8 bs) hO rfl (by rfl) ((hk.row hr).cells (by simp)) (by simp) rfl (by omega) (by8_scalar _) (by omega) ?_
  intro v H2 hO2 ho hm
  try simp -implicitDefEqProofs (maxSteps := 1000000) (disch := first | omega | assumption) only [Sx, reduceIte, Nat.reduceEqDiff, reduceCtorEq, Nat.reduceAdd, Nat.reduceSub, Nat.reduceLT]
  have hk2 : Keep H H2 := ho.keep hk (by rintro q ⟨⟩; exact hr1)
  have hf2 : Fresh H v := hm.fresh hk (by rintro q ⟨⟩; exact hr1)
  refine c_loop (fun k env H' => ∃ i v, k + i = 32 ∧ env 0 = .slice a bs.length c ∧ env 4 = v ∧ env 5 = .int .i64 i ∧ Own H' 5 1 v (by8 (bs ++ marks i)) ∧ Keep H H' ∧ Fresh H v) 32 ⟨0, v, rfl, rfl, rfl, rfl, by simpa [marks] using hO2, hk2, hf2⟩ ?_
  rintro k env H3 ⟨i, v, hk3, h0, h4, h5, hO3, hK3, hF3⟩
  unfold L8_0
  by_cases hi : i < 32
  · have f0 : decide ((i : Int) < 32) = true := decide_eq_true (by omega)
    have e2 : IntKind.u8.wrap (171 + (i : Int)) = 171 + (i : Int) := w_u8 (by omega)
    have hsv := hO3.scalar
    simp -implicitDefEqProofs (maxSteps := 1000000) (disch := first | omega | assumption) only [h0, h4, h5, f0, e2, Sx, reduceIte, Nat.reduceEqDiff, reduceCtorEq, Nat.reduceAdd, Nat.reduceSub, Nat.reduceLT]
    refine a_lits (sz := 1) (cells := #[.int .u8 (171 + (i : Int))]) rfl rfl ?_
    intro r1 H4 hO4 hk4 hr4
    obtain ⟨_, _, _, e, _, _, hrow4⟩ := hO4.view
    cases e
    try simp -implicitDefEqProofs (maxSteps := 1000000) (disch := first | omega | assumption) only [h0, h4, h5, Sx, reduceIte, Nat.reduceEqDiff, reduceCtorEq, Nat.reduceAdd, Nat.reduceSub, Nat.reduceLT]
    refine a_app (len := bs.length + i) (m := 1) (new := [.int .u8 (171 + (i : Int))]) (hO3.keep hk4) (by simp [marks_len]) (by rfl) (hrow4.cells (by simp)) (by simp) rfl (by omega) (by simp [scalarV]) (by omega) ?_
    intro v5 H5 hO5 ho5 hm5
    try simp -implicitDefEqProofs (maxSteps := 1000000) (disch := first | omega | assumption) only [h0, h4, h5, Sx, reduceIte, Nat.reduceEqDiff, reduceCtorEq, Nat.reduceAdd, Nat.reduceSub, Nat.reduceLT]
    refine ⟨k - 1, by omega, i + 1, v5, by omega, by trivial, by trivial, by simp, ?_, ho5.keep (hK3.trans hk4) hF3, hm5.fresh (hK3.trans hk4) hF3⟩
    rw [marks_succ]
    simpa using hO5
  · have : i = 32 := by omega
    subst this
    have f0 : decide (((32 : Nat) : Int) < 32) = false := rfl
    obtain ⟨a', n', c', rfl, hl', hc', hr'⟩ := hO3.view
    have hn' : n' = bs.length + 32 := by simp [marks_len] at hl'; omega
    subst hn'
    simp -implicitDefEqProofs (maxSteps := 1000000) (disch := first | omega | assumption) only [h0, h4, h5, f0, ev_slc_hi, Sx, reduceIte, Nat.reduceEqDiff, reduceCtorEq, Nat.reduceAdd, Nat.reduceSub, Nat.reduceLT]
    exact ⟨a', c', rfl, hO3, hK3, hF3⟩

theorem kept_spec {H : Heap} {a b : Option Addr} {n m c d : Nat} {bs : List Int} (ha : Row H a (by8 (bs ++ marks 32))) (hb : Row H b (by8 bs)) (hn : n = bs.length + 32) (hm : m = bs.length) (hl : bs.length ≤ 140737488355328) (hx : ∀ x ∈ bs, 0 ≤ x ∧ x < 256) :
    ACalls Tryd.prog 13 [Value.slice a n c, Value.slice b m d].toArray H fun e H' => e = .returned (.bool true) ∧ H' = H := by
  subst hn; subst hm
  refine call13 (Nat.le_of_ble_eq_true rfl) ?_
  unfold L13 env0
  simp -implicitDefEqProofs (maxSteps := 1000000) (disch := first | omega | assumption) only [Sx, reduceIte, Nat.reduceEqDiff, reduceCtorEq, Nat.reduceAdd, Nat.reduceSub, Nat.reduceLT]
  refine c_loop (fun k env H' => H' = H ∧ ∃ i, k + i = bs.length + 32 ∧ env 0 = .slice a (bs.length + 32) c ∧ env 1 = .slice b bs.length d ∧ env 5 = .int .i64 i) (bs.length + 32) ⟨rfl, 0, by omega, rfl, rfl, rfl⟩ ?_
  rintro k env H' ⟨rfl, i, hk, h0, h1, h5⟩
  unfold L13_0
  by_cases hi : i < bs.length + 32
  · have f0 : decide ((i : Int) < ((bs.length + 32 : Nat) : Int)) = true := decide_eq_true (by omega)
    obtain ⟨p, rfl, hp⟩ := ha.at (i := i) (by simp [marks_len]; omega)
    simp only [List.getElem_map] at hp
    by_cases hi2 : i < bs.length
    · have f1 : decide ((i : Int) < (bs.length : Int)) = true := decide_eq_true (by omega)
      have f2 : decide ((bs.length : Int) ≤ (i : Int)) = false := decide_eq_false (by omega)
      obtain ⟨q, rfl, hq⟩ := hb.at (i := i) (by simpa using hi2)
      simp only [List.getElem_map] at hq
      rw [List.getElem_append_left hi2] at hp
      simp -implicitDefEqProofs (maxSteps := 1000000) (disch := first | omega | assumption) only [h0, h1, h5, f0, f1, f2, l_g, hp, hq, bne_self_eq_false, Sx, reduceIte, Nat.reduceEqDiff, reduceCtorEq, Nat.reduceAdd, Nat.reduceSub, Nat.reduceLT]
      exact ⟨k - 1, by omega, by trivial, i + 1, by omega, by trivial, by trivial, by simp⟩
    · have f1 : decide ((i : Int) < (bs.length : Int)) = false := decide_eq_false (by omega)
      have f2 : decide ((bs.length : Int) ≤ (i : Int)) = true := decide_eq_true (by omega)
      have hg : (bs ++ marks 32)[i]'(by simp [marks_len]; omega) = 171 + (i : Int) - bs.length := by
        have h1 : (bs ++ marks 32)[i]? = some (171 + ((i - bs.length : Nat) : Int)) := by
          rw [List.getElem?_append_right (by omega), marks_get _ _ (by omega)]
        have h2 := List.getElem?_eq_some_iff.1 h1
        obtain ⟨_, h3⟩ := h2
        rw [h3]; omega
      rw [hg] at hp
      have e2 : IntKind.u8.wrap (171 + (i : Int) - bs.length) = 171 + (i : Int) - bs.length := w_u8 (by omega)
      simp -implicitDefEqProofs (maxSteps := 1000000) (disch := first | omega | assumption) only [h0, h1, h5, f0, f1, f2, l_g, hp, e2, bne_self_eq_false, Sx, reduceIte, Nat.reduceEqDiff, reduceCtorEq, Nat.reduceAdd, Nat.reduceSub, Nat.reduceLT]
      exact ⟨k - 1, by omega, by trivial, i + 1, by omega, by trivial, by trivial, by simp⟩
  · have f0 : decide ((i : Int) < ((bs.length + 32 : Nat) : Int)) = false := decide_eq_false (by omega)
    simp -implicitDefEqProofs (maxSteps := 1000000) (disch := first | omega | assumption) only [h0, h5, f0, Sx, reduceIte, Nat.reduceEqDiff, reduceCtorEq, Nat.reduceAdd, Nat.reduceSub, Nat.reduceLT]
    exact ⟨by trivial, by trivial⟩

theorem full_spec {H : Heap} {v : Value} {x : Int} {cs : List Value} (hO : Own H 5 1 v cs) (hl : cs.length ≤ 140737488355328) :
    ACalls Tryd.prog 14 [v, .int .u8 x].toArray H fun e H' => e = .returned (.tuple #[]) ∧ Oth H v H' := by
  obtain ⟨a, n, c, rfl, hn, hc, _⟩ := hO.view
  rw [Nat.mul_one] at hn
  subst hn
  refine call14 (Nat.le_of_ble_eq_true rfl) ?_
  unfold L14 env0
  simp -implicitDefEqProofs (maxSteps := 1000000) (disch := first | omega | assumption) only [Sx, reduceIte, Nat.reduceEqDiff, reduceCtorEq, Nat.reduceAdd, Nat.reduceSub, Nat.reduceLT]
  refine c_loop (fun k env H' => ∃ i cs', k + i = cs.length ∧ cs'.length = cs.length ∧ env 0 = .slice a cs.length c ∧ env 1 = .int .u8 x ∧ env 4 = .int .i64 i ∧ Own H' 5 1 (.slice a cs.length c) cs' ∧ Oth H (.slice a cs.length c) H') cs.length ⟨0, cs, by omega, rfl, rfl, rfl, rfl, hO, Only.refl _ _⟩ ?_
  rintro k env H1 ⟨i, cs1, hk, hlc, h0, h1, h4, hO1, ho1⟩
  unfold L14_0
  by_cases hi : i < cs.length
  · have f0 : decide ((i : Int) < (cs.length : Int)) = true := decide_eq_true (by omega)
    obtain ⟨r, len', c', e, hl', _⟩ := storeC hO1 (j := i) (by omega) (u := .int .u8 x) rfl
    cases e
    simp -implicitDefEqProofs (maxSteps := 1000000) (disch := first | omega | assumption) only [h0, h1, h4, f0, Sx, reduceIte, Nat.reduceEqDiff, reduceCtorEq, Nat.reduceAdd, Nat.reduceSub, Nat.reduceLT]
    refine a_storeC hO1 (by omega) rfl ?_
    intro H2 hO2 ho2
    try simp -implicitDefEqProofs (maxSteps := 1000000) (disch := first | omega | assumption) only [h0, h1, h4, Sx, reduceIte, Nat.reduceEqDiff, reduceCtorEq, Nat.reduceAdd, Nat.reduceSub, Nat.reduceLT]
    exact ⟨k - 1, by omega, i + 1, _, by omega, by simpa using hlc, by trivial, by trivial, by simp, hO2, ho1.trans ho2 fun q hq => .inl hq⟩
  · have f0 : decide ((i : Int) < (cs.length : Int)) = false := decide_eq_false (by omega)
    simp -implicitDefEqProofs (maxSteps := 1000000) (disch := first | omega | assumption) only [h0, h1, h4, f0, Sx, reduceIte, Nat.reduceEqDiff, reduceCtorEq, Nat.reduceAdd, Nat.reduceSub, Nat.reduceLT]
    refine c_loop (fun k env H' => ∃ i v cs', k + i = 90 ∧ cs'.length = cs.length + i ∧ env 0 = v ∧ env 1 = .int .u8 x ∧ env 5 = .int .i64 i ∧ Own H' 5 1 v cs' ∧ Moved H (.slice a cs.length c) v ∧ Oth H (.slice a cs.length c) H') 90 ⟨0, _, cs1, rfl, hlc, h0, by simp -implicitDefEqProofs (maxSteps := 1000000) (disch := first | omega | assumption) only [h1, Sx, reduceIte, Nat.reduceEqDiff, reduceCtorEq, Nat.reduceAdd, Nat.reduceSub, Nat.reduceLT], rfl, hO1, .inl rfl, ho1⟩ ?_
    rintro k2 env2 H2 ⟨j, v2, cs2, hk2, hl2, g0, g1, g5, hO2, hm2, ho2⟩
    unfold L14_1
    have hsv := hO2.scalar
    by_cases hj : j < 90
    · have f1 : decide ((j : Int) < 90) = true := decide_eq_true (by omega)
      simp -implicitDefEqProofs (maxSteps := 1000000) (disch := first | omega | assumption) only [g0, g1, g5, f1, Sx, reduceIte, Nat.reduceEqDiff, reduceCtorEq, Nat.reduceAdd, Nat.reduceSub, Nat.reduceLT]
      refine a_lits (sz := 1) (cells := #[.int .u8 x]) rfl rfl ?_
      intro r1 H4 hO4 hk4 hr4
      obtain ⟨_, _, _, e, _, _, hrow4⟩ := hO4.view
      cases e
      try simp -implicitDefEqProofs (maxSteps := 1000000) (disch := first | omega | assumption) only [g0, g1, g5, Sx, reduceIte, Nat.reduceEqDiff, reduceCtorEq, Nat.reduceAdd, Nat.reduceSub, Nat.reduceLT]
      refine a_app (len := cs2.length) (m := 1) (new := [.int .u8 x]) (hO2.keep hk4) (by simp) (by rfl) (hrow4.cells (by simp)) (by simp) rfl (by omega) (by simp [scalarV]) (by omega) ?_
      intro v5 H5 hO5 ho5 hm5
      try simp -implicitDefEqProofs (maxSteps := 1000000) (disch := first | omega | assumption) only [g0, g1, g5, Sx, reduceIte, Nat.reduceEqDiff, reduceCtorEq, Nat.reduceAdd, Nat.reduceSub, Nat.reduceLT]
      refine ⟨k2 - 1, by omega, j + 1, v5, _, by omega, ?_, by trivial, by trivial, by simp, hO5, ?_, ?_⟩
      · simp; omega
      · rcases hm5 with e | ⟨q, e, hq⟩
        · rcases hm2 with e2 | ⟨q2, e2, hq2⟩
          · exact .inl (e.trans e2)
          · exact .inr ⟨q2, e.trans e2, hq2⟩
        · exact .inr ⟨q, e, ho2.none (hk4.none hq)⟩
      · refine (ho2.trans (Only.of_keep hk4) (S' := fun _ => False) fun q hq => hq.elim).trans ho5 fun q hq => ?_
        rcases hm2 with e2 | ⟨q2, e2, hq2⟩
        · exact .inl (e2 ▸ hq)
        · rw [e2] at hq; cases hq; exact .inr hq2
    · have f1 : decide ((j : Int) < 90) = false := decide_eq_false (by omega)
      simp -implicitDefEqProofs (maxSteps := 1000000) (disch := first | omega | assumption) only [g5, f1, Sx, reduceIte, Nat.reduceEqDiff, reduceCtorEq, Nat.reduceAdd, Nat.reduceSub, Nat.reduceLT]
      exact ⟨by trivial, ho2⟩
end Go.Proofs.YthflafgijfbpnaaDoor.Lib
