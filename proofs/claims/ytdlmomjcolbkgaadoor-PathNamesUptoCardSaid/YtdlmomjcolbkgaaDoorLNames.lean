/-
  PathNames: any name.
-/
import Derived.Test.YtdlmomjcolbkgaaDoorNames2
import Derived.Test.YtdlmomjcolbkgaaDoorSameT
set_option linter.unusedVariables false
set_option linter.unusedSimpArgs false
namespace Go.Proofs.YtdlmomjcolbkgaaDoor.S09
open Go Go.RowKit Go.Proofs.YtdlmomjcolbkgaaDoor.Sep Go.Proofs.YtdlmomjcolbkgaaDoor.Low Go.Proofs.YtdlmomjcolbkgaaDoor.Lib

set_option maxHeartbeats 8000000 in
theorem pathNames_walk {H : Heap} {l : List UInt8} (hl : l.length ≤ 10995116) :
    ACalls Tryd.prog 4 [Value.string ⟨l.toArray⟩].toArray H fun e H' => e = .returned (.bool true) ∧ Keep H H' := by
  refine call4 (Nat.le_of_ble_eq_true rfl) ?_
  unfold L4 env0
  simp -implicitDefEqProofs (maxSteps := 1000000) (disch := first | omega | assumption) only [Sx, reduceIte, Nat.reduceEqDiff, reduceCtorEq, Nat.reduceAdd, Nat.reduceSub, Nat.reduceLT]
  refine a_call (psplit_spec (by omega)) ?_
  rintro e H1 ⟨v1, rfl, hO1, hk1, hF1⟩
  have hs1 := hO1.scalar
  simp -implicitDefEqProofs (maxSteps := 1000000) (disch := first | omega | assumption) only [endK, Sx, reduceIte, Nat.reduceEqDiff, reduceCtorEq, Nat.reduceAdd, Nat.reduceSub, Nat.reduceLT]
  refine a_call (psplit_spec (by omega)) ?_
  rintro e H2 ⟨v2, rfl, hO2, hk2, hF2⟩
  have hs2 := hO2.scalar
  simp -implicitDefEqProofs (maxSteps := 1000000) (disch := first | omega | assumption) only [endK, Sx, reduceIte, Nat.reduceEqDiff, reduceCtorEq, Nat.reduceAdd, Nat.reduceSub, Nat.reduceLT]
  refine a_call (rsplit_spec (by omega)) ?_
  rintro e H3 ⟨v3, rfl, hO3, hk3, hF3⟩
  have hs3 := hO3.scalar
  simp -implicitDefEqProofs (maxSteps := 1000000) (disch := first | omega | assumption) only [endK, Sx, reduceIte, Nat.reduceEqDiff, reduceCtorEq, Nat.reduceAdd, Nat.reduceSub, Nat.reduceLT]
  refine a_call (pclean_spec (by omega)) ?_
  rintro e H4 ⟨rfl, hk4⟩
  simp -implicitDefEqProofs (maxSteps := 1000000) (disch := first | omega | assumption) only [endK, Sx, reduceIte, Nat.reduceEqDiff, reduceCtorEq, Nat.reduceAdd, Nat.reduceSub, Nat.reduceLT]
  refine a_call (rclean_spec (by omega)) ?_
  rintro e H5 ⟨rfl, hk5⟩
  have q0 : ((splitN l).2 != (splitN l).2) = false := by simp
  have k25 := (hk3.trans hk4).trans hk5
  have k15 := hk2.trans k25
  have k05 := hk1.trans k15
  have hlen : (splitN l).1.length ≤ 10995117 := by
    by_cases h : (splitN l).2 = 0
    · rw [(split_ok h).eq]; have := comps_le l; omega
    · rw [split_err l h]; simp
  have hO1' := Own.keep hO1 k15
  have hO2' := Own.keep hO2 k25
  have hO3' := Own.keep hO3 (hk4.trans hk5)
  obtain ⟨a1, c1, rfl, hc1, r1⟩ := Ss.len hO1'
  obtain ⟨a2, c2, rfl, hc2, r2⟩ := Ss.len hO2'
  obtain ⟨a3, c3, rfl, hc3, r3⟩ := Ss.len hO3'
  simp -implicitDefEqProofs (maxSteps := 1000000) (disch := first | omega | assumption) only [endK, q0, l_g, Sx, reduceIte, Nat.reduceEqDiff, reduceCtorEq, Nat.reduceAdd, Nat.reduceSub, Nat.reduceLT]
  refine a_call (same_spec r1 r3 rfl rfl (by omega)) ?_
  rintro e H6 ⟨rfl, rfl⟩
  rw [decide_eq_true rfl]
  simp -implicitDefEqProofs (maxSteps := 1000000) (disch := first | omega | assumption) only [endK, Bool.not_true, l_g, Sx, reduceIte, Nat.reduceEqDiff, reduceCtorEq, Nat.reduceAdd, Nat.reduceSub, Nat.reduceLT]
  refine a_call (same_spec r2 r3 rfl rfl (by omega)) ?_
  rintro e H7 ⟨rfl, rfl⟩
  rw [decide_eq_true rfl]
  have q1 : (!decide ((cleanN l).1 = (cleanN l).1)) = false := by simp
  have q2 : ((cleanN l).2 != (cleanN l).2) = false := by simp
  simp -implicitDefEqProofs (maxSteps := 1000000) (disch := first | omega | assumption) only [endK, Bool.not_true, t_eq, decide_true, q2, l_g, Sx, reduceIte, Nat.reduceEqDiff, reduceCtorEq, Nat.reduceAdd, Nat.reduceSub, Nat.reduceLT]
  refine a_call (written_spec hO1' (by omega)) ?_
  rintro e H8 ⟨rfl, ho8⟩
  simp -implicitDefEqProofs (maxSteps := 1000000) (disch := first | omega | assumption) only [endK, Sx, reduceIte, Nat.reduceEqDiff, reduceCtorEq, Nat.reduceAdd, Nat.reduceSub, Nat.reduceLT]
  refine a_call (psplit_spec (l := [97, 47, 98]) (by decide)) ?_
  rintro e H9 ⟨v9, rfl, hO9, hk9, hF9⟩
  have hsp : splitN [97, 47, 98] = ([[97], [98]], 0) := by decide
  rw [hsp] at hO9
  rw [hsp]
  have hs9 := hO9.scalar
  obtain ⟨a9, c9, rfl, hc9, -⟩ := hO9.len
  have hO2'' : Ss H9 (.slice a2 (splitN l).1.length c2) (splitN l).1 := Own.keep (oth_own ho8 hO2' fun r hr hr2 => by
    have h1 := hO1.known hr
    exact h1 (hF2 r hr2)) hk9
  have hO3'' : Ss H9 (.slice a3 (splitN l).1.length c3) (splitN l).1 := Own.keep (oth_own ho8 hO3' fun r hr hr2 => by
    have h1 := hO1.known hr
    have h2 := hF3 r hr2
    exact h1 (hk2.none h2)) hk9
  obtain ⟨_, _, e, _, r2'⟩ := hO2''.len
  cases e
  obtain ⟨_, _, e, _, r3'⟩ := hO3''.len
  cases e
  simp -implicitDefEqProofs (maxSteps := 1000000) (disch := first | omega | assumption) only [endK, Sx, reduceIte, Nat.reduceEqDiff, reduceCtorEq, Nat.reduceAdd, Nat.reduceSub, Nat.reduceLT]
  refine a_call (same_spec r2' r3' rfl rfl (by omega)) ?_
  rintro e H10 ⟨rfl, rfl⟩
  rw [decide_eq_true rfl]
  have q5 : ((0 : Int) == 0) = true := rfl
  have q6 : ((([[97], [98]] : List (List UInt8)).length : Int) == 2) = true := rfl
  have q7 : (((2 : Nat) : Int) == 2) = true := rfl
  simp -implicitDefEqProofs (maxSteps := 1000000) (disch := first | omega | assumption) only [endK, q5, q6, q7, l_g, Sx, reduceIte, Nat.reduceEqDiff, reduceCtorEq, Nat.reduceAdd, Nat.reduceSub, Nat.reduceLT]
  refine ⟨by trivial, ?_⟩
  exact (ho8.keep k05 fun q hq => hF1 q hq).trans hk9
theorem pathNames_row {H : Heap} (t : ByteArray) (wt : t.size ≤ maxLen) (hb : t.size + 1 ≤ 1048576) :
    ACalls Tryd.prog 4 [Value.string t].toArray H fun e H' => e = .returned (.bool true) ∧ Keep H H' := by
  have h3 : t.data.toList.length = t.size := Array.length_toList
  have := pathNames_walk (H := H) (l := t.data.toList) (by omega)
  have e : (⟨t.data.toList.toArray⟩ : ByteArray) = t := by
    cases t
    rw [Array.toArray_toList]
  rw [e] at this
  exact this
end Go.Proofs.YtdlmomjcolbkgaaDoor.S09
