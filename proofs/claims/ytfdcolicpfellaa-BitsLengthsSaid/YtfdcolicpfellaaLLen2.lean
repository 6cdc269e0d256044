/-
  BitsLengths, whole.
-/
import Derived.Test.YtfdcolicpfellaaLLen
import Derived.Test.YtfdcolicpfellaaSepOpn
set_option linter.unusedVariables false
set_option linter.unusedSimpArgs false
namespace Go.Proofs.Ytfdcolicpfellaa.S05
open Go Go.RowKit Go.Proofs.Ytfdcolicpfellaa.Sep Go.Proofs.Ytfdcolicpfellaa.Low Go.Proofs.Ytfdcolicpfellaa.CodeLaw
open Go.Proofs.Ytfdcolicpfellaa.PackLaw (Tr wt cntL leaves merge Up lev pairs psum)
open Go.Proofs.Ytfdcolicpfellaa.Lib (by64 by64_scalar)

theorem LenRes.split {H H' : Heap} {os : List Int} {L : Int} {e : Ending} (h : LenRes H os L e H') : ∃ (la : Option Addr) (ln lc : Nat) (E : Int), e = .returned (.tuple #[.slice la ln lc, .int .i64 E]) ∧ Keep H H' ∧ (¬ okArgs os L → E = 1 ∧ ln = 0) ∧ (okArgs os L → 2 ^ L.toNat < (F (oft os) os.length).length → E = 2 ∧ ln = 0) ∧ (okArgs os L → (F (oft os) os.length).length ≤ 2 ^ L.toNat → E = 0 ∧ ln = os.length ∧ ∃ f, Ls H' (.slice la ln lc) os.length f ∧ Pick os L.toNat f) := by
  obtain ⟨hk, h⟩ := h
  rcases h with ⟨h1, rfl⟩ | ⟨h1, h2, rfl⟩ | ⟨h1, h2, v, f, rfl, h3, h4, h5⟩
  · exact ⟨none, 0, 0, 1, rfl, hk, (fun _ => ⟨rfl, rfl⟩), (fun h => absurd h h1), (fun h => absurd h h1)⟩
  · exact ⟨none, 0, 0, 2, rfl, hk, (fun h => absurd h1 h), (fun _ _ => ⟨rfl, rfl⟩), (fun _ h => by omega)⟩
  · obtain ⟨la, ln, lc, rfl, hl, hc, hr⟩ := Own.view h3
    have : ln = os.length := by simpa using hl.symm
    exact ⟨la, ln, lc, 0, rfl, hk, (fun h => absurd h1 h), (fun _ h => by omega), (fun _ _ => ⟨rfl, this, f, h3, h5⟩)⟩

set_option maxHeartbeats 8000000 in
theorem lengths_walk {H : Heap} (A : Option Addr) (c : Nat) (os : List Int) (cl : List (List Value)) (he : Els (Ty.int .i64) H A os cl) (hc : os.length ≤ c) (wf : (∀ x ∈ os, (Lit.int .i64 x).wf = true) ∧ os.length ≤ maxLen) (y : os.length * 8 ≤ 140737488351232)
    (most : Int) (wf2 : (Lit.int .i64 most).wf = true) :
    ACalls Try.prog 9 [Value.slice A os.length c, .int .i64 most].toArray H fun e H' => e = .returned (.bool true) ∧ Keep H H' := by
  have hr := he.ints
  have hw := wf_i64 wf2
  refine call9 (Nat.le_of_ble_eq_true rfl) ?_
  unfold L9 env0
  simp -implicitDefEqProofs (maxSteps := 1000000) (disch := first | omega | assumption) only [Sx, reduceIte, Nat.reduceEqDiff, reduceCtorEq, Nat.reduceAdd, Nat.reduceSub, Nat.reduceLT]
  refine a_lits (sz := 1) (cells := #[]) rfl rfl ?_
  intro r1 H1 hO1 hk1 hr1
  try simp -implicitDefEqProofs (maxSteps := 1000000) (disch := first | omega | assumption) only [Sx, reduceIte, Nat.reduceEqDiff, reduceCtorEq, Nat.reduceAdd, Nat.reduceSub, Nat.reduceLT]
  refine a_app (len := 0) (m := os.length) (new := by64 os) hO1 rfl (by rfl) ((hk1.row hr).cells (by simp)) (by simp) rfl (by omega) (by64_scalar _) (by omega) ?_
  intro v2 H2 hO2 ho2 hm2
  have hk2 : Keep H H2 := ho2.keep hk1 (by rintro q ⟨⟩; exact hr1)
  have hF2 : Fresh H v2 := hm2.fresh hk1 (by rintro q ⟨⟩; exact hr1)
  have hs2 := hO2.scalar
  try simp -implicitDefEqProofs (maxSteps := 1000000) (disch := first | omega | assumption) only [Sx, reduceIte, Nat.reduceEqDiff, reduceCtorEq, Nat.reduceAdd, Nat.reduceSub, Nat.reduceLT]
  refine a_lits (sz := 1) (cells := #[.int .i64 (-7)]) rfl rfl ?_
  intro r3 H3 hO3 hk3 hr3
  obtain ⟨_, _, _, e, _, _, hrow3⟩ := hO3.view
  cases e
  have hk23 := hk2.trans hk3
  try simp -implicitDefEqProofs (maxSteps := 1000000) (disch := first | omega | assumption) only [Sx, reduceIte, Nat.reduceEqDiff, reduceCtorEq, Nat.reduceAdd, Nat.reduceSub, Nat.reduceLT]
  refine a_app (len := os.length) (m := 1) (new := by64 [-7]) (hO2.keep hk3) (by simp) (by rfl) (hrow3.cells (by simp)) (by simp) rfl (by omega) (by64_scalar _) (by omega) ?_
  intro v4 H4 hO4 ho4 hm4
  have hk4 : Keep H H4 := ho4.keep hk23 hF2
  have hO4' : Own H4 2 1 v4 (by64 (os ++ [-7])) := by simpa using hO4
  obtain ⟨A4, n4, c4, rfl, hl4, hc4, hrow4⟩ := hO4'.view
  have hn4 : n4 = os.length + 1 := by simp at hl4; omega
  subst hn4
  try simp -implicitDefEqProofs (maxSteps := 1000000) (disch := first | omega | assumption) only [ev_slc_hi, Sx, reduceIte, Nat.reduceEqDiff, reduceCtorEq, Nat.reduceAdd, Nat.reduceSub, Nat.reduceLT]
  have htk : by64 os = (by64 (os ++ [-7])).take os.length := by simp [List.take_append]
  refine a_call (lengths_spec (os := os) (by rw [htk]; exact hrow4.take os.length) rfl) ?_
  intro e H5 hres
  obtain ⟨la, ln, lc, E, rfl, hk5, hbad, hlong, hfine⟩ := hres.split
  have hk45 := hk4.trans hk5
  simp -implicitDefEqProofs (maxSteps := 1000000) (disch := first | omega | assumption) only [endK, Sx, reduceIte, Nat.reduceEqDiff, reduceCtorEq, Nat.reduceAdd, Nat.reduceSub, Nat.reduceLT]
  refine a_call (above_spec (os := os) (hk45.row hr) rfl (by omega)) ?_
  rintro e H6 ⟨rfl, r, rfl, hrr⟩
  have hrow6 := hk5.row hrow4
  simp -implicitDefEqProofs (maxSteps := 1000000) (disch := first | omega | assumption) only [endK, Sx, reduceIte, Nat.reduceEqDiff, reduceCtorEq, Nat.reduceAdd, Nat.reduceSub, Nat.reduceLT]
  refine same_loop (os := os) (ot := [-7]) (c := c) (d := c4) (hk45.row hr) hrow6 rfl (by omega) (by simp -implicitDefEqProofs (maxSteps := 1000000) (disch := first | omega | assumption) only [Sx, reduceIte, Nat.reduceEqDiff, reduceCtorEq, Nat.reduceAdd, Nat.reduceSub, Nat.reduceLT]) (by simp -implicitDefEqProofs (maxSteps := 1000000) (disch := first | omega | assumption) only [Sx, reduceIte, Nat.reduceEqDiff, reduceCtorEq, Nat.reduceAdd, Nat.reduceSub, Nat.reduceLT]) (by simp -implicitDefEqProofs (maxSteps := 1000000) (disch := first | omega | assumption) only [Sx, reduceIte, Nat.reduceEqDiff, reduceCtorEq, Nat.reduceAdd, Nat.reduceSub, Nat.reduceLT]) ?_
  rintro env1 ⟨g0, g1, g5, g6, g7, g8, g9, g10⟩
  simp -implicitDefEqProofs (disch := first | omega | assumption) only [Sx, reduceIte, Nat.reduceEqDiff, reduceCtorEq, Nat.reduceAdd, Nat.reduceSub, Nat.reduceLT] at g0 g1 g5 g6 g7 g8 g9
  simp -implicitDefEqProofs (maxSteps := 1000000) (disch := first | omega | assumption) only [Sx, reduceIte, Nat.reduceEqDiff, reduceCtorEq, Nat.reduceAdd, Nat.reduceSub, Nat.reduceLT]
  refine a_lits (sz := 1) (cells := #[.int .i64 4, .int .i64 4]) rfl rfl ?_
  intro r7 H7 hO7 hk7 hr7
  obtain ⟨_, _, _, e, _, _, hrow7⟩ := hO7.view
  cases e
  try simp -implicitDefEqProofs (maxSteps := 1000000) (disch := first | omega | assumption) only [g0, g1, g5, g6, g7, g8, g9, Sx, reduceIte, Nat.reduceEqDiff, reduceCtorEq, Nat.reduceAdd, Nat.reduceSub, Nat.reduceLT]
  refine a_call (lengths_spec (os := [4, 4]) (by simpa using hrow7) rfl) ?_
  intro e H8 hres8
  obtain ⟨ta, tn, tc, E8, rfl, hk8, -, -, hfine8⟩ := hres8.split
  have hok4 : okArgs [4, 4] 3 := ⟨by decide, by decide, by decide⟩
  obtain ⟨rfl, rfl, f4, hL4, hP4⟩ := hfine8 hok4 (by decide)
  obtain ⟨p0, p1⟩ := pick_two hP4
  obtain ⟨_, _, _, e, _, _, trow⟩ := hL4.view
  cases e
  obtain ⟨tb, rfl, ht0⟩ := int_at trow (i := 0) (by simp)
  obtain ⟨tb', e, ht1⟩ := int_at trow (i := 1) (by simp)
  cases e
  rw [show (nums ([4, 4] : List Int).length f4)[0]'(by simp) = ((f4 0 : Nat) : Int) by simp, p0] at ht0
  rw [show (nums ([4, 4] : List Int).length f4)[1]'(by simp) = ((f4 1 : Nat) : Int) by simp, p1] at ht1
  have hk68 := hk7.trans hk8
  have hrow8 := hk68.row hrow6
  obtain ⟨ob, rfl, hm7⟩ := int_at hrow8 (i := os.length) (by simp)
  rw [show (os ++ [-7])[os.length]'(by simp) = -7 by simp] at hm7
  have hkk8 := hk45.trans hk68
  have hr8 := hkk8.row hr
  rw [show ([4, 4] : List Int).length = 2 from rfl]
  have q1 : (((2 : Nat) : Int) != 2) = false := rfl
  have q2 : ((0 : Int) != 0) = false := rfl
  have q3 : (((1 : Nat) : Int) != 1) = false := rfl
  have q4 : ((-7 : Int) != -7) = false := rfl
  rw [add_zero_a] at ht0
  simp -implicitDefEqProofs (maxSteps := 1000000) (disch := first | omega | assumption) only [endK, g0, g1, g5, g6, g7, g8, g9, q1, q2, q3, q4, ht0, ht1, hm7, Int.toNat_zero, Int.toNat_one, l_g, Sx, reduceIte, Nat.reduceEqDiff, reduceCtorEq, Nat.reduceAdd, Nat.reduceSub, Nat.reduceLT]
  cases hrv : r with
  | false =>
    have hno : ¬ okArgs os most := fun h => by have := hrr.2 h; rw [hrv] at this; cases this
    obtain ⟨rfl, rfl⟩ := hbad hno
    rw [hrv] at g9
    have z1 : (((1 : Int)) == 1) = true := rfl
    have z2 : (((0 : Nat) : Int) == 0) = true := rfl
    simp -implicitDefEqProofs (maxSteps := 1000000) (disch := first | omega | assumption) only [g0, g1, g5, g6, g7, g8, g9, z1, z2, l_g, Bool.not_false, Bool.not_true, Sx, reduceIte, Nat.reduceEqDiff, reduceCtorEq, Nat.reduceAdd, Nat.reduceSub, Nat.reduceLT]
    exact ⟨by trivial, hkk8⟩
  | true =>
    have hok : okArgs os most := hrr.1 hrv
    rw [hrv] at g9
    obtain ⟨L, rfl⟩ : ∃ L : Nat, most = L := ⟨most.toNat, by have := hok.2.1; omega⟩
    have hL := hok.2.1
    have hM := hok.1
    have hLt : ((L : Nat) : Int).toNat = L := by omega
    rw [hLt] at hlong hfine
    have e1 : IntKind.u64.wrap (L : Int) = (L : Int) := w_u64 (by omega)
    have e2 := shlL (L := L) (by omega)
    by_cases hbig : 2 ^ L < (F (oft os) os.length).length
    · obtain ⟨rfl, rfl⟩ := hlong hok hbig
      have f1 : decide (((2 ^ L : Nat) : Int) < ((F (oft os) os.length).length : Int)) = true := decide_eq_true (by omega)
      have z1 : (((2 : Int)) == 2) = true := rfl
      have z2 : (((0 : Nat) : Int) == 0) = true := rfl
      simp -implicitDefEqProofs (maxSteps := 1000000) (disch := first | omega | assumption) only [g0, g1, g5, g6, g7, g8, g9, e1, e2, f1, z1, z2, ev_cvi, l_g, Bool.not_false, Bool.not_true, Sx, reduceIte, Nat.reduceEqDiff, reduceCtorEq, Nat.reduceAdd, Nat.reduceSub, Nat.reduceLT]
      exact ⟨by trivial, hkk8⟩
    · obtain ⟨rfl, rfl, f, hLs, hP⟩ := hfine hok (by omega)
      have f1 : decide (((2 ^ L : Nat) : Int) < ((F (oft os) os.length).length : Int)) = false := decide_eq_false (by omega)
      have z1 : (((0 : Int)) != 0) = false := rfl
      have z2 : ((os.length : Int) != (os.length : Int)) = false := by simp
      obtain ⟨hfacts, hone⟩ := pick_facts (by omega) (by omega) hP
      have hLs8 : Ls H8 (.slice la os.length lc) os.length f := Own.keep hLs hk68
      obtain ⟨_, _, _, e, _, _, lrow⟩ := hLs8.view
      cases e
      simp -implicitDefEqProofs (maxSteps := 1000000) (disch := first | omega | assumption) only [g0, g1, g5, g6, g7, g8, g9, e1, e2, f1, z1, z2, ev_cvi, l_g, Bool.not_false, Bool.not_true, Sx, reduceIte, Nat.reduceEqDiff, reduceCtorEq, Nat.reduceAdd, Nat.reduceSub, Nat.reduceLT]
      refine cost_loop (a := A) (c := c) (la := la) (lc := lc) (n := (F (oft os) os.length).length) (L := L) hr8 lrow hok hfacts hone ⟨by simp -implicitDefEqProofs (maxSteps := 1000000) (disch := first | omega | assumption) only [g0, Sx, reduceIte, Nat.reduceEqDiff, reduceCtorEq, Nat.reduceAdd, Nat.reduceSub, Nat.reduceLT], by simp -implicitDefEqProofs (maxSteps := 1000000) (disch := first | omega | assumption) only [g1, Sx, reduceIte, Nat.reduceEqDiff, reduceCtorEq, Nat.reduceAdd, Nat.reduceSub, Nat.reduceLT], by simp -implicitDefEqProofs (maxSteps := 1000000) (disch := first | omega | assumption) only [g6, Sx, reduceIte, Nat.reduceEqDiff, reduceCtorEq, Nat.reduceAdd, Nat.reduceSub, Nat.reduceLT], by simp -implicitDefEqProofs (maxSteps := 1000000) (disch := first | omega | assumption) only [g8, Sx, reduceIte, Nat.reduceEqDiff, reduceCtorEq, Nat.reduceAdd, Nat.reduceSub, Nat.reduceLT], by simp -implicitDefEqProofs (maxSteps := 1000000) (disch := first | omega | assumption) only [Sx, reduceIte, Nat.reduceEqDiff, reduceCtorEq, Nat.reduceAdd, Nat.reduceSub, Nat.reduceLT]; rfl, by simp -implicitDefEqProofs (maxSteps := 1000000) (disch := first | omega | assumption) only [Sx, reduceIte, Nat.reduceEqDiff, reduceCtorEq, Nat.reduceAdd, Nat.reduceSub, Nat.reduceLT]; rfl⟩ ?_
      rintro env2 ⟨h0, h1, h6, h8, h13, h14⟩
      by_cases hn2 : (F (oft os) os.length).length < 2
      · have f2 : decide (((F (oft os) os.length).length : Int) < 2) = true := decide_eq_true (by omega)
        simp -implicitDefEqProofs (maxSteps := 1000000) (disch := first | omega | assumption) only [h0, h1, h6, h8, h13, h14, f2, Sx, reduceIte, Nat.reduceEqDiff, reduceCtorEq, Nat.reduceAdd, Nat.reduceSub, Nat.reduceLT]
        exact ⟨by trivial, hkk8⟩
      · have f2 : decide (((F (oft os) os.length).length : Int) < 2) = false := decide_eq_false (by omega)
        simp -implicitDefEqProofs (maxSteps := 1000000) (disch := first | omega | assumption) only [h0, h1, h6, h8, h13, h14, f2, Sx, reduceIte, Nat.reduceEqDiff, reduceCtorEq, Nat.reduceAdd, Nat.reduceSub, Nat.reduceLT]
        refine a_call (rcode_spec (l := nums os.length f) lrow (by simp)) ?_
        rintro e H9 ⟨rfl, rfl⟩
        cases hP with
        | zero h => rw [h] at hn2; simp at hn2
        | one h => rw [h] at hn2; simp at hn2
        | @many S h2 hle hS hp =>
          obtain ⟨-, hk⟩ := many_law h2 hle (by omega) (by omega) hS hp
          have hwhole : isWhole (nums os.length (cntL ((lev (oft os) S (L - 1)).take (2 * S.length - 2)))) = true := by
            unfold isWhole
            rw [okLens_mk (by simpa using hM) (fun x hx => by
              obtain ⟨z, hz, rfl⟩ := List.mem_map.1 hx
              have := hfacts.le z (List.mem_range.1 hz)
              omega), decide_eq_true hk]
            rfl
          rw [hwhole]
          simp -implicitDefEqProofs (maxSteps := 1000000) (disch := first | omega | assumption) only [endK, h0, h1, h6, h8, h13, h14, l_g, Sx, reduceIte, Nat.reduceEqDiff, reduceCtorEq, Nat.reduceAdd, Nat.reduceSub, Nat.reduceLT]
          refine a_call (cost_spec (os := os) (S := S) hr8 rfl hok hS hp h2 hle) ?_
          rintro e H10 ⟨rfl, hk10⟩
          have hcost : cs os (cntL ((lev (oft os) S (L - 1)).take (2 * S.length - 2))) os.length = (((lev (oft os) S (L - 1)).take (2 * S.length - 2)).map (wt (oft os))).sum := many_cost hS _ _
          have z5 : (cs os (cntL ((lev (oft os) S (L - 1)).take (2 * S.length - 2))) os.length == (((lev (oft os) S (L - 1)).take (2 * S.length - 2)).map (wt (oft os))).sum) = true := by rw [hcost]; simp
          simp -implicitDefEqProofs (maxSteps := 1000000) (disch := first | omega | assumption) only [endK, h0, h1, h6, h8, h13, h14, z5, l_g, Sx, reduceIte, Nat.reduceEqDiff, reduceCtorEq, Nat.reduceAdd, Nat.reduceSub, Nat.reduceLT]
          exact ⟨by trivial, hkk8.trans hk10⟩
end Go.Proofs.Ytfdcolicpfellaa.S05
