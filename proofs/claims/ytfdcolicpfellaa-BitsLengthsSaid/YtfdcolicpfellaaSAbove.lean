/-
  The document's Above.
-/
import Derived.Test.YtfdcolicpfellaaSLen4
set_option linter.unusedVariables false
set_option linter.unusedSimpArgs false
namespace Go.Proofs.Ytfdcolicpfellaa.S05
open Go Go.RowKit Go.Proofs.Ytfdcolicpfellaa.Sep Go.Proofs.Ytfdcolicpfellaa.Low
open Go.Proofs.Ytfdcolicpfellaa.Lib (by64 by64_scalar)

def okArgsTo (os : List Int) (L : Int) (i : Nat) : Prop := (1 ≤ os.length ∧ os.length ≤ 320) ∧ (1 ≤ L ∧ L ≤ 15) ∧ ∀ j, j < i → 0 ≤ oft os j ∧ oft os j ≤ 1099511627776
theorem okArgsTo_all {os : List Int} {L : Int} : okArgsTo os L os.length ↔ okArgs os L := by
  constructor
  · rintro ⟨h1, h2, h3⟩
    refine ⟨h1, h2, fun x hx => ?_⟩
    obtain ⟨j, hj, rfl⟩ := List.getElem_of_mem hx
    have := h3 j hj
    simp only [oft] at this
    rwa [List.getD_eq_getElem?_getD, List.getElem?_eq_getElem hj] at this
  · rintro ⟨h1, h2, h3⟩
    refine ⟨h1, h2, fun j hj => ?_⟩
    simp only [oft]
    rw [List.getD_eq_getElem?_getD, List.getElem?_eq_getElem hj]
    exact h3 _ (List.getElem_mem hj)

structure AB (a : Option Addr) (c : Nat) (os : List Int) (L : Int) (i : Nat) (env : Env) : Prop where
  h0 : env 0 = .slice a os.length c
  h6 : env 6 = .int .i64 i
  h4 : env 4 = .int .i64 (F (oft os) i).length
  h5 : ∃ r, env 5 = .bool r ∧ (r = true ↔ okArgsTo os L i)

set_option maxHeartbeats 4000000 in
theorem above_round {H : Heap} {a : Option Addr} {c i : Nat} {os : List Int} {L : Int} {env : Env} {Q : Post} {QP : List PanicEntry → Heap → Prop} (hr : Row H a (by64 os)) (hl : os.length ≤ 70368744177664) (hi : i < os.length) (hS : AB a c os L i env) (hk : ∀ env', AB a c os L (i + 1) env' → Q .normal env' H) :
    awpC Try.prog L42_2 Q QP env H := by
  obtain ⟨h0, h6, h4, r, h5, hrr⟩ := hS
  have f0 : decide ((i : Int) < (os.length : Int)) = true := decide_eq_true (by omega)
  obtain ⟨b, rfl, hb⟩ := int_at hr hi
  have hg : oft os i = os[i] := by show os.getD i 0 = _; rw [List.getD_eq_getElem?_getD, List.getElem?_eq_getElem hi]; rfl
  have hFs := F_succ (oft os) i
  rw [hg] at hFs
  have hFl := F_len (oft os) i
  have hnext : ∀ {v : Bool}, (v = true ↔ r = true ∧ 0 ≤ os[i] ∧ os[i] ≤ 1099511627776) → (v = true ↔ okArgsTo os L (i + 1)) := by
    intro v hv
    rw [hv, hrr]
    constructor
    · rintro ⟨⟨h1, h2, h3⟩, h4⟩
      refine ⟨h1, h2, fun j hj => ?_⟩
      by_cases e : j = i
      · subst e; rw [hg]; exact h4
      · exact h3 j (by omega)
    · rintro ⟨h1, h2, h3⟩
      have := h3 i (by omega)
      rw [hg] at this
      exact ⟨⟨h1, h2, fun j hj => h3 j (by omega)⟩, this⟩
  unfold L42_2
  by_cases h7 : os[i] < 0
  · have f1 : decide (os[i] < 0) = true := decide_eq_true h7
    have f3 : decide (0 < os[i]) = false := decide_eq_false (by omega)
    rw [if_neg (by omega), List.append_nil] at hFs
    simp -implicitDefEqProofs (maxSteps := 1000000) (disch := first | omega | assumption) only [h0, h4, h5, h6, f0, f1, hb, l_g, Sx, reduceIte, Nat.reduceEqDiff, reduceCtorEq, Nat.reduceAdd, Nat.reduceSub, Nat.reduceLT]
    unfold L42_0
    simp -implicitDefEqProofs (maxSteps := 1000000) (disch := first | omega | assumption) only [h0, h4, h5, h6, f3, hb, Sx, reduceIte, Nat.reduceEqDiff, reduceCtorEq, Nat.reduceAdd, Nat.reduceSub, Nat.reduceLT]
    unfold L42_1
    simp -implicitDefEqProofs (maxSteps := 1000000) (disch := first | omega | assumption) only [h0, h4, h5, h6, Sx, reduceIte, Nat.reduceEqDiff, reduceCtorEq, Nat.reduceAdd, Nat.reduceSub, Nat.reduceLT]
    exact hk _ ⟨by simp -implicitDefEqProofs (maxSteps := 1000000) (disch := first | omega | assumption) only [h0, Sx, reduceIte, Nat.reduceEqDiff, reduceCtorEq, Nat.reduceAdd, Nat.reduceSub, Nat.reduceLT], by simp -implicitDefEqProofs (maxSteps := 1000000) (disch := first | omega | assumption) only [Int.natCast_add, Int.natCast_one, Sx, reduceIte, Nat.reduceEqDiff, reduceCtorEq, Nat.reduceAdd, Nat.reduceSub, Nat.reduceLT], by simp -implicitDefEqProofs (maxSteps := 1000000) (disch := first | omega | assumption) only [h4, Sx, reduceIte, Nat.reduceEqDiff, reduceCtorEq, Nat.reduceAdd, Nat.reduceSub, Nat.reduceLT]; rw [hFs], false, by simp -implicitDefEqProofs (maxSteps := 1000000) (disch := first | omega | assumption) only [Sx, reduceIte, Nat.reduceEqDiff, reduceCtorEq, Nat.reduceAdd, Nat.reduceSub, Nat.reduceLT], hnext ⟨(fun h => by cases h), (fun h => by omega)⟩⟩
  have f1 : decide (os[i] < 0) = false := decide_eq_false h7
  by_cases h8 : 1099511627776 < os[i]
  · have f2 : decide (1099511627776 < os[i]) = true := decide_eq_true h8
    have f3 : decide (0 < os[i]) = true := decide_eq_true (by omega)
    rw [if_pos (by omega)] at hFs
    have e1 : ((F (oft os) i).length : Int) + 1 = ((F (oft os) (i + 1)).length : Int) := by rw [hFs, List.length_append]; simp
    simp -implicitDefEqProofs (maxSteps := 1000000) (disch := first | omega | assumption) only [h0, h4, h5, h6, f0, f1, f2, hb, l_g, Sx, reduceIte, Nat.reduceEqDiff, reduceCtorEq, Nat.reduceAdd, Nat.reduceSub, Nat.reduceLT]
    unfold L42_0
    simp -implicitDefEqProofs (maxSteps := 1000000) (disch := first | omega | assumption) only [h0, h4, h5, h6, f3, e1, hb, Sx, reduceIte, Nat.reduceEqDiff, reduceCtorEq, Nat.reduceAdd, Nat.reduceSub, Nat.reduceLT]
    unfold L42_1
    simp -implicitDefEqProofs (maxSteps := 1000000) (disch := first | omega | assumption) only [h0, h4, h5, h6, Sx, reduceIte, Nat.reduceEqDiff, reduceCtorEq, Nat.reduceAdd, Nat.reduceSub, Nat.reduceLT]
    exact hk _ ⟨by simp -implicitDefEqProofs (maxSteps := 1000000) (disch := first | omega | assumption) only [h0, Sx, reduceIte, Nat.reduceEqDiff, reduceCtorEq, Nat.reduceAdd, Nat.reduceSub, Nat.reduceLT], by simp -implicitDefEqProofs (maxSteps := 1000000) (disch := first | omega | assumption) only [Int.natCast_add, Int.natCast_one, Sx, reduceIte, Nat.reduceEqDiff, reduceCtorEq, Nat.reduceAdd, Nat.reduceSub, Nat.reduceLT], by simp -implicitDefEqProofs (maxSteps := 1000000) (disch := first | omega | assumption) only [e1, Sx, reduceIte, Nat.reduceEqDiff, reduceCtorEq, Nat.reduceAdd, Nat.reduceSub, Nat.reduceLT], false, by simp -implicitDefEqProofs (maxSteps := 1000000) (disch := first | omega | assumption) only [Sx, reduceIte, Nat.reduceEqDiff, reduceCtorEq, Nat.reduceAdd, Nat.reduceSub, Nat.reduceLT], hnext ⟨(fun h => by cases h), (fun h => by omega)⟩⟩
  have f2 : decide (1099511627776 < os[i]) = false := decide_eq_false h8
  by_cases h9 : 0 < os[i]
  · have f3 : decide (0 < os[i]) = true := decide_eq_true h9
    rw [if_pos h9] at hFs
    have e1 : ((F (oft os) i).length : Int) + 1 = ((F (oft os) (i + 1)).length : Int) := by rw [hFs, List.length_append]; simp
    simp -implicitDefEqProofs (maxSteps := 1000000) (disch := first | omega | assumption) only [h0, h4, h5, h6, f0, f1, f2, hb, l_g, Sx, reduceIte, Nat.reduceEqDiff, reduceCtorEq, Nat.reduceAdd, Nat.reduceSub, Nat.reduceLT]
    unfold L42_0
    simp -implicitDefEqProofs (maxSteps := 1000000) (disch := first | omega | assumption) only [h0, h4, h5, h6, f3, e1, hb, Sx, reduceIte, Nat.reduceEqDiff, reduceCtorEq, Nat.reduceAdd, Nat.reduceSub, Nat.reduceLT]
    unfold L42_1
    simp -implicitDefEqProofs (maxSteps := 1000000) (disch := first | omega | assumption) only [h0, h4, h5, h6, Sx, reduceIte, Nat.reduceEqDiff, reduceCtorEq, Nat.reduceAdd, Nat.reduceSub, Nat.reduceLT]
    exact hk _ ⟨by simp -implicitDefEqProofs (maxSteps := 1000000) (disch := first | omega | assumption) only [h0, Sx, reduceIte, Nat.reduceEqDiff, reduceCtorEq, Nat.reduceAdd, Nat.reduceSub, Nat.reduceLT], by simp -implicitDefEqProofs (maxSteps := 1000000) (disch := first | omega | assumption) only [Int.natCast_add, Int.natCast_one, Sx, reduceIte, Nat.reduceEqDiff, reduceCtorEq, Nat.reduceAdd, Nat.reduceSub, Nat.reduceLT], by simp -implicitDefEqProofs (maxSteps := 1000000) (disch := first | omega | assumption) only [e1, Sx, reduceIte, Nat.reduceEqDiff, reduceCtorEq, Nat.reduceAdd, Nat.reduceSub, Nat.reduceLT], r, by simp -implicitDefEqProofs (maxSteps := 1000000) (disch := first | omega | assumption) only [h5, Sx, reduceIte, Nat.reduceEqDiff, reduceCtorEq, Nat.reduceAdd, Nat.reduceSub, Nat.reduceLT], hnext ⟨(fun h => ⟨h, by omega, by omega⟩), (fun h => h.1)⟩⟩
  · have f3 : decide (0 < os[i]) = false := decide_eq_false h9
    rw [if_neg h9, List.append_nil] at hFs
    simp -implicitDefEqProofs (maxSteps := 1000000) (disch := first | omega | assumption) only [h0, h4, h5, h6, f0, f1, f2, hb, l_g, Sx, reduceIte, Nat.reduceEqDiff, reduceCtorEq, Nat.reduceAdd, Nat.reduceSub, Nat.reduceLT]
    unfold L42_0
    simp -implicitDefEqProofs (maxSteps := 1000000) (disch := first | omega | assumption) only [h0, h4, h5, h6, f3, hb, Sx, reduceIte, Nat.reduceEqDiff, reduceCtorEq, Nat.reduceAdd, Nat.reduceSub, Nat.reduceLT]
    unfold L42_1
    simp -implicitDefEqProofs (maxSteps := 1000000) (disch := first | omega | assumption) only [h0, h4, h5, h6, Sx, reduceIte, Nat.reduceEqDiff, reduceCtorEq, Nat.reduceAdd, Nat.reduceSub, Nat.reduceLT]
    exact hk _ ⟨by simp -implicitDefEqProofs (maxSteps := 1000000) (disch := first | omega | assumption) only [h0, Sx, reduceIte, Nat.reduceEqDiff, reduceCtorEq, Nat.reduceAdd, Nat.reduceSub, Nat.reduceLT], by simp -implicitDefEqProofs (maxSteps := 1000000) (disch := first | omega | assumption) only [Int.natCast_add, Int.natCast_one, Sx, reduceIte, Nat.reduceEqDiff, reduceCtorEq, Nat.reduceAdd, Nat.reduceSub, Nat.reduceLT], by simp -implicitDefEqProofs (maxSteps := 1000000) (disch := first | omega | assumption) only [h4, Sx, reduceIte, Nat.reduceEqDiff, reduceCtorEq, Nat.reduceAdd, Nat.reduceSub, Nat.reduceLT]; rw [hFs], r, by simp -implicitDefEqProofs (maxSteps := 1000000) (disch := first | omega | assumption) only [h5, Sx, reduceIte, Nat.reduceEqDiff, reduceCtorEq, Nat.reduceAdd, Nat.reduceSub, Nat.reduceLT], hnext ⟨(fun h => ⟨h, by omega, by omega⟩), (fun h => h.1)⟩⟩

theorem above_loop {H : Heap} {a : Option Addr} {c : Nat} {os : List Int} {L : Int} {env : Env} {Q : Post} {QP : List PanicEntry → Heap → Prop} (hr : Row H a (by64 os)) (hl : os.length ≤ 70368744177664) (hS : AB a c os L 0 env) (hk : ∀ env', AB a c os L os.length env' → Q (.exit 0) env' H) :
    awpC Try.prog (.loop L42_2) Q QP env H := by
  refine c_loop (fun k env H' => H' = H ∧ ∃ i, k + i = os.length ∧ AB a c os L i env) os.length ⟨rfl, 0, by omega, hS⟩ ?_
  rintro k env H1 ⟨rfl, i, hki, hA⟩
  by_cases hi : i < os.length
  · refine above_round hr hl hi hA ?_
    intro env' hA'
    exact ⟨k - 1, by omega, rfl, i + 1, by omega, hA'⟩
  · have : i = os.length := by omega
    subst this
    obtain ⟨h0, h6, h4, r, h5, hrr⟩ := hA
    have f0 : decide ((os.length : Int) < (os.length : Int)) = false := decide_eq_false (by omega)
    unfold L42_2
    simp -implicitDefEqProofs (maxSteps := 1000000) (disch := first | omega | assumption) only [h0, h4, h5, h6, f0, Sx, reduceIte, Nat.reduceEqDiff, reduceCtorEq, Nat.reduceAdd, Nat.reduceSub, Nat.reduceLT]
    exact hk _ ⟨by simp -implicitDefEqProofs (maxSteps := 1000000) (disch := first | omega | assumption) only [h0, Sx, reduceIte, Nat.reduceEqDiff, reduceCtorEq, Nat.reduceAdd, Nat.reduceSub, Nat.reduceLT], by simp -implicitDefEqProofs (maxSteps := 1000000) (disch := first | omega | assumption) only [h6, Sx, reduceIte, Nat.reduceEqDiff, reduceCtorEq, Nat.reduceAdd, Nat.reduceSub, Nat.reduceLT], by simp -implicitDefEqProofs (maxSteps := 1000000) (disch := first | omega | assumption) only [h4, Sx, reduceIte, Nat.reduceEqDiff, reduceCtorEq, Nat.reduceAdd, Nat.reduceSub, Nat.reduceLT], r, by simp -implicitDefEqProofs (maxSteps := 1000000) (disch := first | omega | assumption) only [h5, Sx, reduceIte, Nat.reduceEqDiff, reduceCtorEq, Nat.reduceAdd, Nat.reduceSub, Nat.reduceLT], hrr⟩
set_option maxHeartbeats 4000000 in
theorem above_spec {H : Heap} {a : Option Addr} {n c : Nat} {os : List Int} {L : Int} (hr : Row H a (by64 os)) (hn : n = os.length) (hl : os.length ≤ 70368744177664) :
    ACalls Try.prog 42 [Value.slice a n c, .int .i64 L].toArray H fun e H' => H' = H ∧ ∃ r, e = .returned (.tuple #[.int .i64 (F (oft os) os.length).length, .bool r]) ∧ (r = true ↔ okArgs os L) := by
  subst hn
  refine call42 (Nat.le_of_ble_eq_true rfl) ?_
  unfold L42 env0
  by_cases h1 : 1 ≤ os.length
  case neg =>
    have f1 : decide ((1 : Int) ≤ (os.length : Int)) = false := decide_eq_false (by omega)
    simp -implicitDefEqProofs (maxSteps := 1000000) (disch := first | omega | assumption) only [f1, l_g, Sx, reduceIte, Nat.reduceEqDiff, reduceCtorEq, Nat.reduceAdd, Nat.reduceSub, Nat.reduceLT]
    refine above_loop (a := a) (c := c) (os := os) (L := L) hr hl ⟨by simp -implicitDefEqProofs (maxSteps := 1000000) (disch := first | omega | assumption) only [Sx, reduceIte, Nat.reduceEqDiff, reduceCtorEq, Nat.reduceAdd, Nat.reduceSub, Nat.reduceLT], by simp -implicitDefEqProofs (maxSteps := 1000000) (disch := first | omega | assumption) only [Sx, reduceIte, Nat.reduceEqDiff, reduceCtorEq, Nat.reduceAdd, Nat.reduceSub, Nat.reduceLT]; rfl, by simp -implicitDefEqProofs (maxSteps := 1000000) (disch := first | omega | assumption) only [Sx, reduceIte, Nat.reduceEqDiff, reduceCtorEq, Nat.reduceAdd, Nat.reduceSub, Nat.reduceLT]; simp [F], false, by simp -implicitDefEqProofs (maxSteps := 1000000) (disch := first | omega | assumption) only [Sx, reduceIte, Nat.reduceEqDiff, reduceCtorEq, Nat.reduceAdd, Nat.reduceSub, Nat.reduceLT], ⟨(fun h => by cases h), (fun h => by have := h.1; omega)⟩⟩ ?_
    rintro env' ⟨h0, h6, h4, r, h5, hrr⟩
    simp -implicitDefEqProofs (maxSteps := 1000000) (disch := first | omega | assumption) only [h0, h4, h5, h6, Sx, reduceIte, Nat.reduceEqDiff, reduceCtorEq, Nat.reduceAdd, Nat.reduceSub, Nat.reduceLT]
    exact ⟨by trivial, r, rfl, hrr.trans okArgsTo_all⟩
  have f1 : decide ((1 : Int) ≤ (os.length : Int)) = true := decide_eq_true (by omega)
  by_cases h2 : os.length ≤ 320
  case neg =>
    have f2 : decide ((os.length : Int) ≤ 320) = false := decide_eq_false (by omega)
    simp -implicitDefEqProofs (maxSteps := 1000000) (disch := first | omega | assumption) only [f1, f2, l_g, Sx, reduceIte, Nat.reduceEqDiff, reduceCtorEq, Nat.reduceAdd, Nat.reduceSub, Nat.reduceLT]
    refine above_loop (a := a) (c := c) (os := os) (L := L) hr hl ⟨by simp -implicitDefEqProofs (maxSteps := 1000000) (disch := first | omega | assumption) only [Sx, reduceIte, Nat.reduceEqDiff, reduceCtorEq, Nat.reduceAdd, Nat.reduceSub, Nat.reduceLT], by simp -implicitDefEqProofs (maxSteps := 1000000) (disch := first | omega | assumption) only [Sx, reduceIte, Nat.reduceEqDiff, reduceCtorEq, Nat.reduceAdd, Nat.reduceSub, Nat.reduceLT]; rfl, by simp -implicitDefEqProofs (maxSteps := 1000000) (disch := first | omega | assumption) only [Sx, reduceIte, Nat.reduceEqDiff, reduceCtorEq, Nat.reduceAdd, Nat.reduceSub, Nat.reduceLT]; simp [F], false, by simp -implicitDefEqProofs (maxSteps := 1000000) (disch := first | omega | assumption) only [Sx, reduceIte, Nat.reduceEqDiff, reduceCtorEq, Nat.reduceAdd, Nat.reduceSub, Nat.reduceLT], ⟨(fun h => by cases h), (fun h => by have := h.1; omega)⟩⟩ ?_
    rintro env' ⟨h0, h6, h4, r, h5, hrr⟩
    simp -implicitDefEqProofs (maxSteps := 1000000) (disch := first | omega | assumption) only [h0, h4, h5, h6, Sx, reduceIte, Nat.reduceEqDiff, reduceCtorEq, Nat.reduceAdd, Nat.reduceSub, Nat.reduceLT]
    exact ⟨by trivial, r, rfl, hrr.trans okArgsTo_all⟩
  have f2 : decide ((os.length : Int) ≤ 320) = true := decide_eq_true (by omega)
  by_cases h3 : 1 ≤ L
  case neg =>
    have f3 : decide (1 ≤ L) = false := decide_eq_false (by omega)
    simp -implicitDefEqProofs (maxSteps := 1000000) (disch := first | omega | assumption) only [f1, f2, f3, l_g, Sx, reduceIte, Nat.reduceEqDiff, reduceCtorEq, Nat.reduceAdd, Nat.reduceSub, Nat.reduceLT]
    refine above_loop (a := a) (c := c) (os := os) (L := L) hr hl ⟨by simp -implicitDefEqProofs (maxSteps := 1000000) (disch := first | omega | assumption) only [Sx, reduceIte, Nat.reduceEqDiff, reduceCtorEq, Nat.reduceAdd, Nat.reduceSub, Nat.reduceLT], by simp -implicitDefEqProofs (maxSteps := 1000000) (disch := first | omega | assumption) only [Sx, reduceIte, Nat.reduceEqDiff, reduceCtorEq, Nat.reduceAdd, Nat.reduceSub, Nat.reduceLT]; rfl, by simp -implicitDefEqProofs (maxSteps := 1000000) (disch := first | omega | assumption) only [Sx, reduceIte, Nat.reduceEqDiff, reduceCtorEq, Nat.reduceAdd, Nat.reduceSub, Nat.reduceLT]; simp [F], false, by simp -implicitDefEqProofs (maxSteps := 1000000) (disch := first | omega | assumption) only [Sx, reduceIte, Nat.reduceEqDiff, reduceCtorEq, Nat.reduceAdd, Nat.reduceSub, Nat.reduceLT], ⟨(fun h => by cases h), (fun h => by have := h.2.1; omega)⟩⟩ ?_
    rintro env' ⟨h0, h6, h4, r, h5, hrr⟩
    simp -implicitDefEqProofs (maxSteps := 1000000) (disch := first | omega | assumption) only [h0, h4, h5, h6, Sx, reduceIte, Nat.reduceEqDiff, reduceCtorEq, Nat.reduceAdd, Nat.reduceSub, Nat.reduceLT]
    exact ⟨by trivial, r, rfl, hrr.trans okArgsTo_all⟩
  have f3 : decide (1 ≤ L) = true := decide_eq_true (by omega)
  by_cases h4 : L ≤ 15
  case neg =>
    have f4 : decide (L ≤ 15) = false := decide_eq_false (by omega)
    simp -implicitDefEqProofs (maxSteps := 1000000) (disch := first | omega | assumption) only [f1, f2, f3, f4, l_g, Sx, reduceIte, Nat.reduceEqDiff, reduceCtorEq, Nat.reduceAdd, Nat.reduceSub, Nat.reduceLT]
    refine above_loop (a := a) (c := c) (os := os) (L := L) hr hl ⟨by simp -implicitDefEqProofs (maxSteps := 1000000) (disch := first | omega | assumption) only [Sx, reduceIte, Nat.reduceEqDiff, reduceCtorEq, Nat.reduceAdd, Nat.reduceSub, Nat.reduceLT], by simp -implicitDefEqProofs (maxSteps := 1000000) (disch := first | omega | assumption) only [Sx, reduceIte, Nat.reduceEqDiff, reduceCtorEq, Nat.reduceAdd, Nat.reduceSub, Nat.reduceLT]; rfl, by simp -implicitDefEqProofs (maxSteps := 1000000) (disch := first | omega | assumption) only [Sx, reduceIte, Nat.reduceEqDiff, reduceCtorEq, Nat.reduceAdd, Nat.reduceSub, Nat.reduceLT]; simp [F], false, by simp -implicitDefEqProofs (maxSteps := 1000000) (disch := first | omega | assumption) only [Sx, reduceIte, Nat.reduceEqDiff, reduceCtorEq, Nat.reduceAdd, Nat.reduceSub, Nat.reduceLT], ⟨(fun h => by cases h), (fun h => by have := h.2.1; omega)⟩⟩ ?_
    rintro env' ⟨h0, h6, h4, r, h5, hrr⟩
    simp -implicitDefEqProofs (maxSteps := 1000000) (disch := first | omega | assumption) only [h0, h4, h5, h6, Sx, reduceIte, Nat.reduceEqDiff, reduceCtorEq, Nat.reduceAdd, Nat.reduceSub, Nat.reduceLT]
    exact ⟨by trivial, r, rfl, hrr.trans okArgsTo_all⟩
  have f4 : decide (L ≤ 15) = true := decide_eq_true (by omega)
  simp -implicitDefEqProofs (maxSteps := 1000000) (disch := first | omega | assumption) only [f1, f2, f3, f4, l_g, Sx, reduceIte, Nat.reduceEqDiff, reduceCtorEq, Nat.reduceAdd, Nat.reduceSub, Nat.reduceLT]
  refine above_loop (a := a) (c := c) (os := os) (L := L) hr hl ⟨by simp -implicitDefEqProofs (maxSteps := 1000000) (disch := first | omega | assumption) only [Sx, reduceIte, Nat.reduceEqDiff, reduceCtorEq, Nat.reduceAdd, Nat.reduceSub, Nat.reduceLT], by simp -implicitDefEqProofs (maxSteps := 1000000) (disch := first | omega | assumption) only [Sx, reduceIte, Nat.reduceEqDiff, reduceCtorEq, Nat.reduceAdd, Nat.reduceSub, Nat.reduceLT]; rfl, by simp -implicitDefEqProofs (maxSteps := 1000000) (disch := first | omega | assumption) only [Sx, reduceIte, Nat.reduceEqDiff, reduceCtorEq, Nat.reduceAdd, Nat.reduceSub, Nat.reduceLT]; simp [F], true, by simp -implicitDefEqProofs (maxSteps := 1000000) (disch := first | omega | assumption) only [Sx, reduceIte, Nat.reduceEqDiff, reduceCtorEq, Nat.reduceAdd, Nat.reduceSub, Nat.reduceLT], ⟨(fun _ => ⟨by omega, by omega, fun j hj => by omega⟩), (fun h => rfl)⟩⟩ ?_
  rintro env' ⟨h0, h6, h4, r, h5, hrr⟩
  simp -implicitDefEqProofs (maxSteps := 1000000) (disch := first | omega | assumption) only [h0, h4, h5, h6, Sx, reduceIte, Nat.reduceEqDiff, reduceCtorEq, Nat.reduceAdd, Nat.reduceSub, Nat.reduceLT]
  exact ⟨by trivial, r, rfl, hrr.trans okArgsTo_all⟩
end Go.Proofs.Ytfdcolicpfellaa.S05
