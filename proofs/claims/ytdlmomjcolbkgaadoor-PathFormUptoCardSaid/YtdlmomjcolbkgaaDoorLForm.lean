/-
  PathForm: any two names.
-/
import Derived.Test.YtdlmomjcolbkgaaDoorNames2
import Derived.Test.YtdlmomjcolbkgaaDoorSameT
import Derived.Test.YtdlmomjcolbkgaaDoorCmp
set_option linter.unusedVariables false
set_option linter.unusedSimpArgs false
namespace Go.Proofs.YtdlmomjcolbkgaaDoor.S09
open Go Go.RowKit Go.Proofs.YtdlmomjcolbkgaaDoor.Sep Go.Proofs.YtdlmomjcolbkgaaDoor.Low Go.Proofs.YtdlmomjcolbkgaaDoor.Lib

theorem clean_ok {l : List UInt8} (h : (splitN l).2 = 0) : cleanN l = (jn (splitN l).1, 0) := by unfold cleanN; rw [if_neg (fun e => e h)]
theorem clean_err {l : List UInt8} (h : (splitN l).2 ≠ 0) : cleanN l = ([], (splitN l).2) := by unfold cleanN; rw [if_pos h]
theorem clean_again {l : List UInt8} {ls : List (List UInt8)} (h : Taken l ls) : cleanN (jn ls) = (jn ls, 0) := by
  unfold cleanN; rw [h.again]; simp
theorem jne {l : List UInt8} {ls : List (List UInt8)} (h : Taken l ls) : jn ls ≠ [] := by
  intro e
  have := split_jn h.ne fun p hp => (h.mem p hp).2.1
  rw [e] at this
  have h2 := h.mem [] (by rw [← this]; simp [splitL])
  exact h2.1.1 rfl
theorem jinj {a b : List UInt8} {la lb : List (List UInt8)} (ha : Taken a la) (hb : Taken b lb) : jn la = jn lb ↔ la = lb := by
  constructor
  · intro e
    have h1 := split_jn ha.ne fun p hp => (ha.mem p hp).2.1
    have h2 := split_jn hb.ne fun p hp => (hb.mem p hp).2.1
    rw [e, h2] at h1
    exact h1.symm
  · rintro rfl; rfl
theorem namesLen (l : List UInt8) (hl : l.length ≤ 10995116) : (splitN l).1.length ≤ 10995117 := by
  by_cases h : (splitN l).2 = 0
  · rw [(split_ok h).eq]; have := comps_le l; omega
  · rw [split_err l h]; simp

set_option maxHeartbeats 4000000 in
theorem form_tail {H0 H : Heap} {a b : List UInt8} {env : Env} {Q : Post} {QP : List PanicEntry → Heap → Prop} (ha : a.length ≤ 10995116) (hb : b.length ≤ 10995116) (h0 : env 0 = .string ⟨a.toArray⟩) (h1 : env 1 = .string ⟨b.toArray⟩)
    (h5 : env 5 = .string ⟨(cleanN a).1.toArray⟩) (h6 : env 6 = .int .i64 (cleanN a).2) (h7 : env 7 = .string ⟨(cleanN b).1.toArray⟩) (h8 : env 8 = .int .i64 (cleanN b).2) (hk : Keep H0 H)
    (hq : ∀ env' H', env' 4 = .bool true → Keep H0 H' → Q .ret env' H') : awpC Tryd.prog L5_0 Q QP env H := by
  unfold L5_0
  by_cases e0 : (splitN a).2 = 0 ∧ (splitN b).2 = 0
  · obtain ⟨ea, eb⟩ := e0
    have ta := split_ok ea
    have tb := split_ok eb
    rw [clean_ok ea] at h5 h6
    rw [clean_ok eb] at h7 h8
    have f1 : ((0 : Int) != 0) = false := rfl
    simp -implicitDefEqProofs (maxSteps := 1000000) (disch := first | omega | assumption) only [h0, h1, h5, h6, h7, h8, f1, l_g, Sx, reduceIte, Nat.reduceEqDiff, reduceCtorEq, Nat.reduceAdd, Nat.reduceSub, Nat.reduceLT]
    refine a_call (psplit_spec (by omega)) ?_
    rintro e H1 ⟨v1, rfl, hO1, hk1, hF1⟩
    have hs1 := hO1.scalar
    simp -implicitDefEqProofs (maxSteps := 1000000) (disch := first | omega | assumption) only [endK, h0, h1, h5, h6, h7, h8, Sx, reduceIte, Nat.reduceEqDiff, reduceCtorEq, Nat.reduceAdd, Nat.reduceSub, Nat.reduceLT]
    refine a_call (psplit_spec (by omega)) ?_
    rintro e H2 ⟨v2, rfl, hO2, hk2, hF2⟩
    have hs2 := hO2.scalar
    have hO1' := Own.keep hO1 hk2
    have hla := namesLen a ha
    have hlb := namesLen b hb
    obtain ⟨a1, c1, rfl, hc1, r1⟩ := Ss.len hO1'
    obtain ⟨a2, c2, rfl, hc2, r2⟩ := Ss.len hO2
    simp -implicitDefEqProofs (maxSteps := 1000000) (disch := first | omega | assumption) only [endK, h0, h1, h5, h6, h7, h8, t_eq, Sx, reduceIte, Nat.reduceEqDiff, reduceCtorEq, Nat.reduceAdd, Nat.reduceSub, Nat.reduceLT]
    refine a_call (same_spec r1 r2 rfl rfl (by omega)) ?_
    rintro e H3 ⟨rfl, rfl⟩
    have f2 : decide (jn (splitN a).1 = jn (splitN b).1) = decide ((splitN a).1 = (splitN b).1) := by
      by_cases h : (splitN a).1 = (splitN b).1
      · rw [decide_eq_true h, decide_eq_true ((jinj ta tb).2 h)]
      · rw [decide_eq_false h, decide_eq_false (fun e => h ((jinj ta tb).1 e))]
    have f3 : ((decide ((splitN a).1 = (splitN b).1) == decide ((splitN a).1 = (splitN b).1)) != false) = true := by simp
    have f4 : (cmpL (splitN a).1 (splitN b).1 == 0) = decide ((splitN a).1 = (splitN b).1) := by
      by_cases h : (splitN a).1 = (splitN b).1
      · rw [decide_eq_true h, beq_iff_eq]; exact cmpL_zero.2 h
      · rw [decide_eq_false h, beq_eq_false_iff_ne]; exact fun e => h (cmpL_zero.1 e)
    simp -implicitDefEqProofs (maxSteps := 1000000) (disch := first | omega | assumption) only [endK, h0, h1, h5, h6, h7, h8, t_eq, f2, f3, ev_eqb, l_g, Sx, reduceIte, Nat.reduceEqDiff, reduceCtorEq, Nat.reduceAdd, Nat.reduceSub, Nat.reduceLT]
    refine a_call (pcompare_spec r1 r2 rfl rfl (by omega) (by omega)) ?_
    rintro e H3 ⟨rfl, rfl⟩
    simp -implicitDefEqProofs (maxSteps := 1000000) (disch := first | omega | assumption) only [endK, h0, h1, h5, h6, h7, h8, t_eq, f2, f3, f4, ev_eqb, l_g, Sx, reduceIte, Nat.reduceEqDiff, reduceCtorEq, Nat.reduceAdd, Nat.reduceSub, Nat.reduceLT]
    exact hq _ _ (by simp -implicitDefEqProofs (maxSteps := 1000000) (disch := first | omega | assumption) only [Sx, reduceIte, Nat.reduceEqDiff, reduceCtorEq, Nat.reduceAdd, Nat.reduceSub, Nat.reduceLT]) ((hk.trans hk1).trans hk2)
  · have hcl : cleanN [97, 47, 47, 46, 47, 98, 47] = ([97, 47, 98], 0) := by decide
    have ff : ∀ (z : Int), z ≠ 0 → (z != 0) = true := fun z h => by rw [bne_iff_ne]; exact h
    have key : ∀ env2 : Env, env2 50 = .bool true → env2 4 = env2 4 → True := fun _ _ _ => trivial
    have g1 : decide (([97, 47, 98] : List UInt8) = [97, 47, 98]) = true := by decide
    have g2 : ((0 : Int) == 0) = true := rfl
    by_cases ea : (splitN a).2 = 0
    · have eb : (splitN b).2 ≠ 0 := fun h => e0 ⟨ea, h⟩
      rw [clean_ok ea] at h5 h6
      rw [clean_err eb] at h7 h8
      have f1 : ((0 : Int) != 0) = false := rfl
      have f2 := ff _ eb
      simp -implicitDefEqProofs (maxSteps := 1000000) (disch := first | omega | assumption) only [h0, h1, h5, h6, h7, h8, f1, f2, l_g, Sx, reduceIte, Nat.reduceEqDiff, reduceCtorEq, Nat.reduceAdd, Nat.reduceSub, Nat.reduceLT]
      refine a_call (pclean_spec (l := [97, 47, 47, 46, 47, 98, 47]) (by decide)) ?_
      rintro e H1 ⟨rfl, hk1⟩
      rw [hcl]
      simp -implicitDefEqProofs (maxSteps := 1000000) (disch := first | omega | assumption) only [endK, h0, h1, h5, h6, h7, h8, t_eq, g1, g2, l_g, Sx, reduceIte, Nat.reduceEqDiff, reduceCtorEq, Nat.reduceAdd, Nat.reduceSub, Nat.reduceLT]
      exact hq _ _ (by simp -implicitDefEqProofs (maxSteps := 1000000) (disch := first | omega | assumption) only [g2, Sx, reduceIte, Nat.reduceEqDiff, reduceCtorEq, Nat.reduceAdd, Nat.reduceSub, Nat.reduceLT]) (hk.trans hk1)
    · rw [clean_err ea] at h5 h6
      have f2 := ff _ ea
      simp -implicitDefEqProofs (maxSteps := 1000000) (disch := first | omega | assumption) only [h0, h1, h5, h6, h7, h8, f2, l_g, Sx, reduceIte, Nat.reduceEqDiff, reduceCtorEq, Nat.reduceAdd, Nat.reduceSub, Nat.reduceLT]
      refine a_call (pclean_spec (l := [97, 47, 47, 46, 47, 98, 47]) (by decide)) ?_
      rintro e H1 ⟨rfl, hk1⟩
      rw [hcl]
      simp -implicitDefEqProofs (maxSteps := 1000000) (disch := first | omega | assumption) only [endK, h0, h1, h5, h6, h7, h8, t_eq, g1, g2, l_g, Sx, reduceIte, Nat.reduceEqDiff, reduceCtorEq, Nat.reduceAdd, Nat.reduceSub, Nat.reduceLT]
      exact hq _ _ (by simp -implicitDefEqProofs (maxSteps := 1000000) (disch := first | omega | assumption) only [g2, Sx, reduceIte, Nat.reduceEqDiff, reduceCtorEq, Nat.reduceAdd, Nat.reduceSub, Nat.reduceLT]) (hk.trans hk1)

set_option maxHeartbeats 4000000 in
theorem pathForm_walk {H : Heap} {a b : List UInt8} (ha : a.length ≤ 10995116) (hb : b.length ≤ 10995116) :
    ACalls Tryd.prog 5 [Value.string ⟨a.toArray⟩, .string ⟨b.toArray⟩].toArray H fun e H' => e = .returned (.bool true) ∧ Keep H H' := by
  refine call5 (Nat.le_of_ble_eq_true rfl) ?_
  unfold L5 env0
  simp -implicitDefEqProofs (maxSteps := 1000000) (disch := first | omega | assumption) only [Sx, reduceIte, Nat.reduceEqDiff, reduceCtorEq, Nat.reduceAdd, Nat.reduceSub, Nat.reduceLT]
  refine a_call (pclean_spec (by omega)) ?_
  rintro e H1 ⟨rfl, hk1⟩
  simp -implicitDefEqProofs (maxSteps := 1000000) (disch := first | omega | assumption) only [endK, Sx, reduceIte, Nat.reduceEqDiff, reduceCtorEq, Nat.reduceAdd, Nat.reduceSub, Nat.reduceLT]
  refine a_call (pclean_spec (by omega)) ?_
  rintro e H2 ⟨rfl, hk2⟩
  by_cases ea : (splitN a).2 = 0
  · have ta := split_ok ea
    have hca := clean_ok ea
    have f0 : ((cleanN a).2 == 0) = true := by rw [hca]; rfl
    have hjl := ta.jlen
    simp -implicitDefEqProofs (maxSteps := 1000000) (disch := first | omega | assumption) only [endK, f0, Sx, reduceIte, Nat.reduceEqDiff, reduceCtorEq, Nat.reduceAdd, Nat.reduceSub, Nat.reduceLT]
    refine a_call (pclean_spec (l := (cleanN a).1) (by rw [hca]; simp only; omega)) ?_
    rintro e H3 ⟨rfl, hk3⟩
    have hc2 : cleanN (cleanN a).1 = cleanN a := by rw [hca]; exact clean_again ta
    rw [hc2]
    have g0 : ((cleanN a).2 != 0) = false := by rw [hca]; rfl
    have g1 : (!decide ((cleanN a).1 = (cleanN a).1)) = false := by simp
    have g2 : decide ((cleanN a).1 = []) = false := decide_eq_false (by rw [hca]; exact jne ta)
    simp -implicitDefEqProofs (maxSteps := 1000000) (disch := first | omega | assumption) only [endK, f0, g0, decide_true, Bool.not_true, g2, t_eq, l_g, Sx, reduceIte, Nat.reduceEqDiff, reduceCtorEq, Nat.reduceAdd, Nat.reduceSub, Nat.reduceLT]
    refine form_tail ha hb (by simp -implicitDefEqProofs (maxSteps := 1000000) (disch := first | omega | assumption) only [Sx, reduceIte, Nat.reduceEqDiff, reduceCtorEq, Nat.reduceAdd, Nat.reduceSub, Nat.reduceLT]) (by simp -implicitDefEqProofs (maxSteps := 1000000) (disch := first | omega | assumption) only [Sx, reduceIte, Nat.reduceEqDiff, reduceCtorEq, Nat.reduceAdd, Nat.reduceSub, Nat.reduceLT]) (by simp -implicitDefEqProofs (maxSteps := 1000000) (disch := first | omega | assumption) only [Sx, reduceIte, Nat.reduceEqDiff, reduceCtorEq, Nat.reduceAdd, Nat.reduceSub, Nat.reduceLT]) (by simp -implicitDefEqProofs (maxSteps := 1000000) (disch := first | omega | assumption) only [Sx, reduceIte, Nat.reduceEqDiff, reduceCtorEq, Nat.reduceAdd, Nat.reduceSub, Nat.reduceLT]) (by simp -implicitDefEqProofs (maxSteps := 1000000) (disch := first | omega | assumption) only [Sx, reduceIte, Nat.reduceEqDiff, reduceCtorEq, Nat.reduceAdd, Nat.reduceSub, Nat.reduceLT]) (by simp -implicitDefEqProofs (maxSteps := 1000000) (disch := first | omega | assumption) only [Sx, reduceIte, Nat.reduceEqDiff, reduceCtorEq, Nat.reduceAdd, Nat.reduceSub, Nat.reduceLT]) ((hk1.trans hk2).trans hk3) ?_
    intro env' H' h4 hk'
    simp -implicitDefEqProofs (maxSteps := 1000000) (disch := first | omega | assumption) only [h4, Sx, reduceIte, Nat.reduceEqDiff, reduceCtorEq, Nat.reduceAdd, Nat.reduceSub, Nat.reduceLT]
    exact ⟨by trivial, hk'⟩
  · have f0 : ((cleanN a).2 == 0) = false := by rw [clean_err ea, beq_eq_false_iff_ne]; exact ea
    simp -implicitDefEqProofs (maxSteps := 1000000) (disch := first | omega | assumption) only [endK, f0, Sx, reduceIte, Nat.reduceEqDiff, reduceCtorEq, Nat.reduceAdd, Nat.reduceSub, Nat.reduceLT]
    refine form_tail (H0 := H) (a := a) (b := b) ha hb ?_ ?_ ?_ ?_ ?_ ?_ (hk1.trans hk2) ?_
    case refine_7 =>
      intro env' H' h4 hk'
      simp -implicitDefEqProofs (maxSteps := 1000000) (disch := first | omega | assumption) only [h4, Sx, reduceIte, Nat.reduceEqDiff, reduceCtorEq, Nat.reduceAdd, Nat.reduceSub, Nat.reduceLT]
      exact ⟨by trivial, hk'⟩
    · simp -implicitDefEqProofs (maxSteps := 1000000) (disch := first | omega | assumption) only [Sx, reduceIte, Nat.reduceEqDiff, reduceCtorEq, Nat.reduceAdd, Nat.reduceSub, Nat.reduceLT]
    · simp -implicitDefEqProofs (maxSteps := 1000000) (disch := first | omega | assumption) only [Sx, reduceIte, Nat.reduceEqDiff, reduceCtorEq, Nat.reduceAdd, Nat.reduceSub, Nat.reduceLT]
    · simp -implicitDefEqProofs (maxSteps := 1000000) (disch := first | omega | assumption) only [Sx, reduceIte, Nat.reduceEqDiff, reduceCtorEq, Nat.reduceAdd, Nat.reduceSub, Nat.reduceLT]
    · simp -implicitDefEqProofs (maxSteps := 1000000) (disch := first | omega | assumption) only [Sx, reduceIte, Nat.reduceEqDiff, reduceCtorEq, Nat.reduceAdd, Nat.reduceSub, Nat.reduceLT]
    · simp -implicitDefEqProofs (maxSteps := 1000000) (disch := first | omega | assumption) only [Sx, reduceIte, Nat.reduceEqDiff, reduceCtorEq, Nat.reduceAdd, Nat.reduceSub, Nat.reduceLT]
    · simp -implicitDefEqProofs (maxSteps := 1000000) (disch := first | omega | assumption) only [Sx, reduceIte, Nat.reduceEqDiff, reduceCtorEq, Nat.reduceAdd, Nat.reduceSub, Nat.reduceLT]
theorem pathForm_row {H : Heap} (t : ByteArray) (wt : t.size ≤ maxLen) (u : ByteArray) (wu : u.size ≤ maxLen) (hb : t.size + 1 + (u.size + 1) ≤ 1048576) :
    ACalls Tryd.prog 5 [Value.string t, .string u].toArray H fun e H' => e = .returned (.bool true) ∧ Keep H H' := by
  have h3 : t.data.toList.length = t.size := Array.length_toList
  have h4 : u.data.toList.length = u.size := Array.length_toList
  have := pathForm_walk (H := H) (a := t.data.toList) (b := u.data.toList) (by omega) (by omega)
  have e : ∀ t : ByteArray, (⟨t.data.toList.toArray⟩ : ByteArray) = t := by
    intro t
    cases t
    rw [Array.toArray_toList]
  rw [e, e] at this
  exact this
end Go.Proofs.YtdlmomjcolbkgaaDoor.S09
