/-
  The document's packages: lists of them, sorted.
-/
import Derived.Test.YtfdcolicpfellaaLowS
import Derived.Test.YtfdcolicpfellaaBase
import Derived.Test.YtfdcolicpfellaaSCode
set_option linter.unusedVariables false
set_option linter.unusedSimpArgs false
namespace Go.Proofs.Ytfdcolicpfellaa.S05
open Go Go.RowKit Go.Proofs.Ytfdcolicpfellaa.Sep Go.Proofs.Ytfdcolicpfellaa.Low
open Go.Proofs.Ytfdcolicpfellaa.Lib (by64 by64_scalar encs encs_len encs_append encs_one encs_scalar elemR)

structure Pk where
  w : Int
  a : Option Addr
  n : Nat
  c : Nat
def Pk.s (p : Pk) : Value := .slice p.a p.n p.c
def pk (p : Pk) : List Value := [.int .i64 p.w, .slice p.a p.n p.c]
theorem pk_len (p : Pk) : (pk p).length = 2 := rfl
theorem pk_scalar (p : Pk) : ∀ v ∈ pk p, scalarV v = true := by
  intro v hv
  simp only [pk, List.mem_cons, List.not_mem_nil, or_false] at hv
  rcases hv with rfl | rfl <;> rfl
/-- what is in a package -/
def InOk (H : Heap) (M : Nat) (p : Pk) : Prop := ∃ xs : List Int, xs.length = M ∧ Own H 3 1 p.s (by64 xs)
theorem InOk.keep {H H' : Heap} {M : Nat} {p : Pk} (h : InOk H M p) (hk : Keep H H') : InOk H' M p := by
  obtain ⟨xs, h1, h2⟩ := h
  exact ⟨xs, h1, h2.keep hk⟩
abbrev Pks (H : Heap) (v : Value) (l : List Pk) : Prop := Own H 107 2 v (encs pk l)
theorem InOk.oth {H H' : Heap} {M : Nat} {p : Pk} {v : Value} {l : List Pk} (h : InOk H M p) (hO : Pks H v l) (ho : Oth H v H') : InOk H' M p := by
  obtain ⟨xs, h1, h2⟩ := h
  exact ⟨xs, h1, Lib.oth_own ho h2 fun r hr => Lib.apart hO h2 (by decide) hr⟩
structure PL (H : Heap) (v : Value) (M : Nat) (l : List Pk) : Prop where
  O : Pks H v l
  I : ∀ p ∈ l, InOk H M p
theorem PL.keep {H H' : Heap} {v : Value} {M : Nat} {l : List Pk} (h : PL H v M l) (hk : Keep H H') : PL H' v M l := ⟨h.O.keep hk, fun p hp => (h.I p hp).keep hk⟩
theorem Pks.len {H : Heap} {v : Value} {l : List Pk} (h : Pks H v l) : ∃ a c, v = .slice a l.length c ∧ l.length ≤ c ∧ Row H a (encs pk l) := by
  obtain ⟨a, n, c, e, hn, hc, hr⟩ := Own.view h
  rw [encs_len pk_len] at hn
  have : n = l.length := by omega
  subst this
  exact ⟨a, c, e, hc, hr⟩
/-- packages are put behind -/
theorem app_pk {P : Program} {H : Heap} {v y : Value} {l m : List Pk} {k : Nat} {KV : Value → Heap → Prop} {KP : List PanicEntry → Heap → Prop} (hO : Pks H v l) (hy : lenV y = some k) (hk : k = m.length) (hc : cellsV 2 k y H = some (encs pk m)) (hl : l.length + m.length ≤ 100000)
    (hK : ∀ v' H', Pks H' v' (l ++ m) → Oth H v H' → Moved H v v' → KV v' H') : awpE P (.app 107 2 32 #[.int .i64 0, .slice none 0 0]) [v, y] KV KP H := by
  subst hk
  refine a_app (len := l.length) (m := m.length) (new := encs pk m) hO (encs_len pk_len l) hy hc (encs_len pk_len m) rfl (by omega) (encs_scalar pk_scalar m) (by omega) ?_
  intro v' H' h2 h3 h4
  refine hK v' H' ?_ h3 h4
  show Own H' _ 2 _ _
  rw [encs_append]
  exact h2
theorem lits_pk {P : Program} {H : Heap} {p : Pk} {KV : Value → Heap → Prop} {KP : List PanicEntry → Heap → Prop}
    (hk : ∀ r H', Pks H' (.slice (some ⟨r, 0, none⟩) 1 1) [p] → Keep H H' → H r = none → KV (.slice (some ⟨r, 0, none⟩) 1 1) H') : awpE P (.lits 107 #[.int .i64 0, .slice none 0 0] 1 [(0, 2)]) [.agg #[.int .i64 p.w, .slice p.a p.n p.c]] KV KP H := by
  refine a_lits (sz := 2) (cells := (pk p).toArray) (by
    simp only [List.length_cons, List.length_nil, if_true, List.zip_cons_cons, List.zip_nil_right]
    rw [fill_a]
    simp [fill_nil, pk]) (by simp [pk]) ?_
  intro r H' h1 h2 h3
  refine hk r H' ?_ h2 h3
  show Own H' _ 2 _ _
  rw [encs_one]
  exact h1
theorem lits_no {P : Program} {H : Heap} {KV : Value → Heap → Prop} {KP : List PanicEntry → Heap → Prop}
    (hk : ∀ r H', Pks H' (.slice (some ⟨r, 0, none⟩) 0 0) [] → Keep H H' → H r = none → KV (.slice (some ⟨r, 0, none⟩) 0 0) H') : awpE P (.lits 107 #[] 0 []) [] KV KP H :=
  a_lits (sz := 2) (cells := #[]) rfl rfl fun r H' h1 h2 h3 => hk r H' h1 h2 h3

theorem ins_sorted {l : List Pk} {x : Pk} {k : Nat} (h : l.Pairwise fun p q => p.w ≤ q.w) (h1 : ∀ j (hj : j < l.length), k ≤ j → x.w < l[j].w) (h2 : k = 0 ∨ ∃ hk : k - 1 < l.length, l[k - 1].w ≤ x.w) : (l.take k ++ [x] ++ l.drop k).Pairwise fun p q => p.w ≤ q.w := by
  rw [List.append_assoc, List.pairwise_append]
  have hs : l = l.take k ++ l.drop k := (List.take_append_drop k l).symm
  rw [hs, List.pairwise_append] at h
  refine ⟨h.1, ?_, ?_⟩
  · rw [List.singleton_append, List.pairwise_cons]
    refine ⟨fun q hq => ?_, h.2.1⟩
    obtain ⟨j, hj, rfl⟩ := List.getElem_of_mem hq
    rw [List.getElem_drop]
    rw [List.length_drop] at hj
    have := h1 (k + j) (by omega) (by omega)
    omega
  · intro p hp q hq
    rcases List.mem_append.1 hq with hq | hq
    · rw [List.mem_singleton] at hq
      subst hq
      rcases h2 with h2 | ⟨hk, h2⟩
      · subst h2; simp at hp
      · obtain ⟨j, hj, rfl⟩ := List.getElem_of_mem hp
        rw [List.length_take] at hj
        rw [List.getElem_take]
        rcases Nat.lt_or_ge j (k - 1) with h3 | h3
        · have h4 := List.pairwise_iff_getElem.1 h.1 j (k - 1) (by rw [List.length_take]; omega) (by rw [List.length_take]; omega) h3
          rw [List.getElem_take, List.getElem_take] at h4
          omega
        · have : j = k - 1 := by omega
          subst this
          exact h2
    · exact h.2.2 p hp q hq

def SortRes (H : Heap) (M : Nat) (l : List Pk) (e : Ending) (H' : Heap) : Prop := ∃ v' l', e = .returned v' ∧ l'.Perm l ∧ (l'.Pairwise fun p q => p.w ≤ q.w) ∧ PL H' v' M l' ∧ Keep H H' ∧ Fresh H v'

structure St (H0 : Heap) (v : Value) (M : Nat) (l : List Pk) (i : Nat) (env : Env) (H : Heap) : Prop where
  h0 : env 0 = v
  h4 : env 4 = .int .i64 i
  K : Keep H0 H
  rest : ∃ rv rs, env 3 = rv ∧ PL H rv M rs ∧ rs.Perm (l.take i) ∧ (rs.Pairwise fun p q => p.w ≤ q.w) ∧ Fresh H0 rv

set_option maxHeartbeats 4000000 in
theorem sort_round {H0 H : Heap} {v : Value} {M i : Nat} {l : List Pk} {env : Env} {Q : Post} {QP : List PanicEntry → Heap → Prop} (hL : PL H0 v M l) (hsm : l.length ≤ 1000) (hi : i < l.length) (hS : St H0 v M l i env H) (hk : ∀ env' H', St H0 v M l (i + 1) env' H' → Q .normal env' H') :
    awpC Try.prog L57_1 Q QP env H := by
  obtain ⟨h0, h4, hK, rv, rs, h3, hR, hp, hsd, hF⟩ := hS
  obtain ⟨a, c, rfl, hlc, hrow⟩ := (hL.keep hK).O.len
  obtain ⟨ra, rc, rfl, hrc, rrow⟩ := hR.O.len
  have hrl : rs.length = i := by rw [hp.length_eq, List.length_take]; omega
  have f0 : decide ((i : Int) < (l.length : Int)) = true := decide_eq_true (by omega)
  obtain ⟨x, hx⟩ : ∃ x, x = l[i] := ⟨_, rfl⟩
  obtain ⟨b, rfl, hbl, hbc⟩ := elemR pk_len (by omega) hrow hi
  rw [← hx] at hbl hbc
  have hx0 : H.cell? (b.add (i * 2)) = some (.int .i64 x.w) := by
    have := hbc 0 _ rfl
    rwa [add_zero_a] at this
  have hxI : InOk H M x := (hL.keep hK).I x (hx ▸ List.getElem_mem _)
  unfold L57_1
  simp -implicitDefEqProofs (maxSteps := 1000000) (disch := first | omega | assumption) only [h0, h3, h4, f0, Sx, reduceIte, Nat.reduceEqDiff, reduceCtorEq, Nat.reduceAdd, Nat.reduceSub, Nat.reduceLT]
  refine c_loop (fun k env H' => H' = H ∧ k ≤ rs.length ∧ (∀ j (hj : j < rs.length), k ≤ j → x.w < rs[j].w) ∧ env 0 = .slice (some b) l.length c ∧ env 3 = .slice ra rs.length rc ∧ env 4 = .int .i64 i ∧ env 5 = .int .i64 k) rs.length ⟨rfl, Nat.le_refl _, fun j h1 h2 => by omega, by simp -implicitDefEqProofs (maxSteps := 1000000) (disch := first | omega | assumption) only [h0, Sx, reduceIte, Nat.reduceEqDiff, reduceCtorEq, Nat.reduceAdd, Nat.reduceSub, Nat.reduceLT], by simp -implicitDefEqProofs (maxSteps := 1000000) (disch := first | omega | assumption) only [h3, Sx, reduceIte, Nat.reduceEqDiff, reduceCtorEq, Nat.reduceAdd, Nat.reduceSub, Nat.reduceLT], by simp -implicitDefEqProofs (maxSteps := 1000000) (disch := first | omega | assumption) only [h4, Sx, reduceIte, Nat.reduceEqDiff, reduceCtorEq, Nat.reduceAdd, Nat.reduceSub, Nat.reduceLT], by simp -implicitDefEqProofs (maxSteps := 1000000) (disch := first | omega | assumption) only [Sx, reduceIte, Nat.reduceEqDiff, reduceCtorEq, Nat.reduceAdd, Nat.reduceSub, Nat.reduceLT]⟩ ?_
  rintro k env2 H2 ⟨rfl, hkl, hgt, g0, g3, g4, g5⟩
  unfold L57_0
  by_cases hgo : 0 < k ∧ ∃ hk : k - 1 < rs.length, x.w < rs[k - 1].w
  · obtain ⟨hk0, hk1, hlt⟩ := hgo
    obtain ⟨rb, rfl, -, rbc⟩ := elemR pk_len (by omega) rrow hk1
    have hy0 : H2.cell? (rb.add ((k - 1) * 2)) = some (.int .i64 rs[k - 1].w) := by
      have := rbc 0 _ rfl
      rwa [add_zero_a] at this
    have f1 : decide (0 < (k : Int)) = true := decide_eq_true (by omega)
    have f2 : decide (x.w < rs[k - 1].w) = true := decide_eq_true hlt
    have e1 : ((k : Int) - 1).toNat = k - 1 := by omega
    have e2 : (k : Int) - 1 = ((k - 1 : Nat) : Int) := by omega
    simp -implicitDefEqProofs (maxSteps := 1000000) (disch := first | omega | assumption) only [g0, g3, g4, g5, f1, f2, e1, hx0, hy0, l_g, Sx, reduceIte, Nat.reduceEqDiff, reduceCtorEq, Nat.reduceAdd, Nat.reduceSub, Nat.reduceLT]
    refine ⟨k - 1, by omega, by trivial, by omega, fun j hj hkj => ?_, by trivial, by trivial, by trivial, by rw [e2]⟩
    rcases Nat.lt_or_ge j k with h | h
    · have : j = k - 1 := by omega
      subst this
      exact hlt
    · exact hgt j hj h
  · have hc : k = 0 ∨ (0 < k ∧ ∃ hk : k - 1 < rs.length, rs[k - 1].w ≤ x.w) := by
      rcases Nat.eq_zero_or_pos k with h | h
      · exact .inl h
      · refine .inr ⟨h, by omega, ?_⟩
        by_cases h2 : rs[k - 1].w ≤ x.w
        · exact h2
        · exact absurd ⟨h, by omega, by omega⟩ hgo
    have hc2 : k = 0 ∨ ∃ hk : k - 1 < rs.length, rs[k - 1].w ≤ x.w := hc.imp_right fun h => h.2
    have hsd2 := ins_sorted hsd hgt hc2
    have hcc : ∀ v, v ∈ [Value.slice (some b) l.length c, .slice ra rs.length rc] → scalarV v = true := by
      intro v hv
      simp only [List.mem_cons, List.not_mem_nil, or_false] at hv
      rcases hv with rfl | rfl <;> rfl
    rcases hc with hk0 | ⟨hk0, hk1, hle⟩
    have f1 : decide (0 < (k : Int)) = false := decide_eq_false (by omega)
    simp -implicitDefEqProofs (maxSteps := 1000000) (disch := first | omega | assumption) only [g0, g3, g4, g5, f1, l_g, Sx, reduceIte, Nat.reduceEqDiff, reduceCtorEq, Nat.reduceAdd, Nat.reduceSub, Nat.reduceLT]
    refine Lib.e_gen (fun env => env 0 = .slice (some b) l.length c ∧ env 3 = .slice ra rs.length rc ∧ env 4 = .int .i64 i ∧ env 5 = .int .i64 k) ⟨by simp -implicitDefEqProofs (maxSteps := 1000000) (disch := first | omega | assumption) only [g0, Sx, reduceIte, Nat.reduceEqDiff, reduceCtorEq, Nat.reduceAdd, Nat.reduceSub, Nat.reduceLT], by simp -implicitDefEqProofs (maxSteps := 1000000) (disch := first | omega | assumption) only [g3, Sx, reduceIte, Nat.reduceEqDiff, reduceCtorEq, Nat.reduceAdd, Nat.reduceSub, Nat.reduceLT], by simp -implicitDefEqProofs (maxSteps := 1000000) (disch := first | omega | assumption) only [g4, Sx, reduceIte, Nat.reduceEqDiff, reduceCtorEq, Nat.reduceAdd, Nat.reduceSub, Nat.reduceLT], by simp -implicitDefEqProofs (maxSteps := 1000000) (disch := first | omega | assumption) only [g5, Sx, reduceIte, Nat.reduceEqDiff, reduceCtorEq, Nat.reduceAdd, Nat.reduceSub, Nat.reduceLT]⟩ ?_
    rotate_left
    obtain ⟨rb, rfl, -, rbc⟩ := elemR pk_len (by omega) rrow hk1
    have hy0 : H2.cell? (rb.add ((k - 1) * 2)) = some (.int .i64 rs[k - 1].w) := by
      have := rbc 0 _ rfl
      rwa [add_zero_a] at this
    have f1 : decide (0 < (k : Int)) = true := decide_eq_true (by omega)
    have f2 : decide (x.w < rs[k - 1].w) = false := decide_eq_false (by omega)
    have e1 : ((k : Int) - 1).toNat = k - 1 := by omega
    simp -implicitDefEqProofs (maxSteps := 1000000) (disch := first | omega | assumption) only [g0, g3, g4, g5, f1, f2, e1, hx0, hy0, l_g, Sx, reduceIte, Nat.reduceEqDiff, reduceCtorEq, Nat.reduceAdd, Nat.reduceSub, Nat.reduceLT]
    refine Lib.e_gen (fun env => env 0 = .slice (some b) l.length c ∧ env 3 = .slice (some rb) rs.length rc ∧ env 4 = .int .i64 i ∧ env 5 = .int .i64 k) ⟨by simp -implicitDefEqProofs (maxSteps := 1000000) (disch := first | omega | assumption) only [g0, Sx, reduceIte, Nat.reduceEqDiff, reduceCtorEq, Nat.reduceAdd, Nat.reduceSub, Nat.reduceLT], by simp -implicitDefEqProofs (maxSteps := 1000000) (disch := first | omega | assumption) only [g3, Sx, reduceIte, Nat.reduceEqDiff, reduceCtorEq, Nat.reduceAdd, Nat.reduceSub, Nat.reduceLT], by simp -implicitDefEqProofs (maxSteps := 1000000) (disch := first | omega | assumption) only [g4, Sx, reduceIte, Nat.reduceEqDiff, reduceCtorEq, Nat.reduceAdd, Nat.reduceSub, Nat.reduceLT], by simp -implicitDefEqProofs (maxSteps := 1000000) (disch := first | omega | assumption) only [g5, Sx, reduceIte, Nat.reduceEqDiff, reduceCtorEq, Nat.reduceAdd, Nat.reduceSub, Nat.reduceLT]⟩ ?_
    all_goals
      clear g0 g3 g4 g5
      rintro env3 ⟨g0, g3, g4, g5⟩
      refine lits_no ?_
      intro r3 H3 hO3 hk3 hr3
      try simp -implicitDefEqProofs (maxSteps := 1000000) (disch := first | omega | assumption) only [g0, g3, g4, g5, ev_slc_hi, Sx, reduceIte, Nat.reduceEqDiff, reduceCtorEq, Nat.reduceAdd, Nat.reduceSub, Nat.reduceLT]
      have rtk : (rs.take k).length = k := by rw [List.length_take]; omega
      refine app_pk (m := rs.take k) (k := k) hO3 rfl rtk.symm (((hk3.row rrow).take (k * 2)).cells (by rw [List.length_take, encs_len pk_len]; omega) |>.trans (by rw [Lib.encs_take pk_len])) (by simp; omega) ?_
      intro hv H4 hO4 ho4 hm4
      have hF4 : Fresh H2 hv := hm4.fresh hk3 fun q hq => by cases hq; exact hr3
      have hK4 : Keep H2 H4 := ho4.keep hk3 fun q hq => by cases hq; exact hr3
      have hs4 := hO4.scalar
      have hbl4 : H4.loadN (b.add (i * 2)) 0 2 = some (pk x) := by
        obtain ⟨b', e, hbl', -⟩ := elemR pk_len (by omega) (hK4.row hrow) hi
        cases e
        rw [← hx] at hbl'
        exact hbl'
      try simp -implicitDefEqProofs (maxSteps := 1000000) (disch := first | omega | assumption) only [g0, g3, g4, g5, hbl4, pk, ev_ldn, Sx, reduceIte, Nat.reduceEqDiff, reduceCtorEq, Nat.reduceAdd, Nat.reduceSub, Nat.reduceLT]
      refine lits_pk (p := x) ?_
      intro r5 H5 hO5 hk5 hr5
      obtain ⟨_, _, e, _, hrow5⟩ := hO5.len
      cases e
      try simp -implicitDefEqProofs (maxSteps := 1000000) (disch := first | omega | assumption) only [g0, g3, g4, g5, Sx, reduceIte, Nat.reduceEqDiff, reduceCtorEq, Nat.reduceAdd, Nat.reduceSub, Nat.reduceLT]
      refine app_pk (m := [x]) (k := 1) (Own.keep hO4 hk5) rfl rfl (hrow5.cells rfl) (by simp; omega) ?_
      intro hv6 H6 hO6 ho6 hm6
      have hK5 := hK4.trans hk5
      have hF6 : Fresh H2 hv6 := hm6.fresh hK5 hF4
      have hK6 : Keep H2 H6 := ho6.keep hK5 hF4
      have hs6 := hO6.scalar
      try simp -implicitDefEqProofs (maxSteps := 1000000) (disch := first | omega | assumption) only [g0, g3, g4, g5, ev_slc_lo, Sx, reduceIte, Nat.reduceEqDiff, reduceCtorEq, Nat.reduceAdd, Nat.reduceSub, Nat.reduceLT]
      refine app_pk (m := rs.drop k) (k := rs.length - k) hO6 rfl (by simp) (((hK6.row rrow).cut (l := k) (sz := 2) (by rw [encs_len pk_len]; omega)).cells (by rw [List.length_drop, encs_len pk_len]; omega) |>.trans (by rw [Lib.encs_drop pk_len])) (by simp; omega) ?_
      intro rv7 H7 hO7 ho7 hm7
      have hF7 : Fresh H2 rv7 := hm7.fresh hK6 hF6
      have hK7 : Keep H2 H7 := ho7.keep hK6 hF6
      try simp -implicitDefEqProofs (maxSteps := 1000000) (disch := first | omega | assumption) only [g0, g3, g4, g5, Sx, reduceIte, Nat.reduceEqDiff, reduceCtorEq, Nat.reduceAdd, Nat.reduceSub, Nat.reduceLT]
      refine hk _ _ ⟨by simp -implicitDefEqProofs (maxSteps := 1000000) (disch := first | omega | assumption) only [g0, Sx, reduceIte, Nat.reduceEqDiff, reduceCtorEq, Nat.reduceAdd, Nat.reduceSub, Nat.reduceLT], by simp -implicitDefEqProofs (maxSteps := 1000000) (disch := first | omega | assumption) only [g4, Int.natCast_add, Int.natCast_one, Sx, reduceIte, Nat.reduceEqDiff, reduceCtorEq, Nat.reduceAdd, Nat.reduceSub, Nat.reduceLT], hK.trans hK7, rv7, rs.take k ++ [x] ++ rs.drop k, by simp -implicitDefEqProofs (maxSteps := 1000000) (disch := first | omega | assumption) only [Sx, reduceIte, Nat.reduceEqDiff, reduceCtorEq, Nat.reduceAdd, Nat.reduceSub, Nat.reduceLT], ⟨by simpa using hO7, fun p hp => ?_⟩, ?_, hsd2, fun q hq => hK.none (hF7 q hq)⟩
      · rw [List.append_assoc] at hp
        rcases List.mem_append.1 hp with hp | hp
        · exact (hR.I p (List.mem_of_mem_take hp)).keep hK7
        · rcases List.mem_append.1 hp with hp | hp
          · rw [List.mem_singleton] at hp
            subst hp
            exact hxI.keep hK7
          · exact (hR.I p (List.mem_of_mem_drop hp)).keep hK7
      · rw [List.take_succ_eq_append_getElem hi, ← hx]
        refine List.Perm.trans ?_ (hp.append_right [x])
        rw [List.append_assoc]
        refine (List.Perm.append_left _ List.perm_append_comm).trans ?_
        rw [← List.append_assoc, List.take_append_drop]
theorem sorted_spec {H : Heap} {v : Value} {M : Nat} {l : List Pk} (hL : PL H v M l) (hsm : l.length ≤ 1000) :
    ACalls Try.prog 57 [v].toArray H fun e H' => SortRes H M l e H' := by
  refine call57 (Nat.le_of_ble_eq_true rfl) ?_
  unfold L57 env0
  obtain ⟨a, c, rfl, hlc, hrow⟩ := hL.O.len
  simp -implicitDefEqProofs (maxSteps := 1000000) (disch := first | omega | assumption) only [Sx, reduceIte, Nat.reduceEqDiff, reduceCtorEq, Nat.reduceAdd, Nat.reduceSub, Nat.reduceLT]
  refine lits_no ?_
  intro r3 H3 hO3 hk3 hr3
  try simp -implicitDefEqProofs (maxSteps := 1000000) (disch := first | omega | assumption) only [Sx, reduceIte, Nat.reduceEqDiff, reduceCtorEq, Nat.reduceAdd, Nat.reduceSub, Nat.reduceLT]
  refine c_loop (fun k env H' => ∃ i, k + i = l.length ∧ St H (.slice a l.length c) M l i env H') l.length ⟨0, by omega, ⟨by simp -implicitDefEqProofs (maxSteps := 1000000) (disch := first | omega | assumption) only [Sx, reduceIte, Nat.reduceEqDiff, reduceCtorEq, Nat.reduceAdd, Nat.reduceSub, Nat.reduceLT], by simp -implicitDefEqProofs (maxSteps := 1000000) (disch := first | omega | assumption) only [Sx, reduceIte, Nat.reduceEqDiff, reduceCtorEq, Nat.reduceAdd, Nat.reduceSub, Nat.reduceLT]; rfl, hk3, _, [], by simp -implicitDefEqProofs (maxSteps := 1000000) (disch := first | omega | assumption) only [Sx, reduceIte, Nat.reduceEqDiff, reduceCtorEq, Nat.reduceAdd, Nat.reduceSub, Nat.reduceLT], ⟨hO3, (fun p hp => by cases hp)⟩, by simp, List.Pairwise.nil, (fun q hq => by cases hq; exact hr3)⟩⟩ ?_
  rintro k env H1 ⟨i, hki, hS⟩
  by_cases hi : i < l.length
  · refine sort_round hL hsm hi hS ?_
    intro env' H' hS'
    exact ⟨k - 1, by omega, i + 1, by omega, hS'⟩
  · have : i = l.length := by omega
    subst this
    obtain ⟨h0, h4, hK, rv, rs, h3, hR, hp, hsd, hF⟩ := hS
    have f0 : decide ((l.length : Int) < (l.length : Int)) = false := decide_eq_false (by omega)
    have hs := hR.O.scalar
    unfold L57_1
    simp -implicitDefEqProofs (maxSteps := 1000000) (disch := first | omega | assumption) only [h0, h3, h4, f0, Sx, reduceIte, Nat.reduceEqDiff, reduceCtorEq, Nat.reduceAdd, Nat.reduceSub, Nat.reduceLT]
    unfold L57_2
    simp -implicitDefEqProofs (maxSteps := 1000000) (disch := first | omega | assumption) only [h0, h3, h4, f0, Sx, reduceIte, Nat.reduceEqDiff, reduceCtorEq, Nat.reduceAdd, Nat.reduceSub, Nat.reduceLT]
    exact ⟨rv, rs, rfl, by rw [List.take_length] at hp; exact hp, hsd, hR, hK, hF⟩
end Go.Proofs.Ytfdcolicpfellaa.S05
