/-
  Split and Clean, of the code and of the document.
-/
import Derived.Test.YtmgpfdfbcnlocaaDoorLowB
import Derived.Test.YtmgpfdfbcnlocaaDoorSplit
import Derived.Test.YtmgpfdfbcnlocaaDoorComp2
set_option linter.unusedVariables false
set_option linter.unusedSimpArgs false
namespace Go.Proofs.YtmgpfdfbcnlocaaDoor.S09
open Go Go.RowKit Go.Proofs.YtmgpfdfbcnlocaaDoor.Sep Go.Proofs.YtmgpfdfbcnlocaaDoor.Low Go.Proofs.YtmgpfdfbcnlocaaDoor.Lib

def Names (H : Heap) (r : List (List UInt8) × Int) (e : Ending) (H' : Heap) : Prop := ∃ v, e = .returned (.tuple #[v, .int .i64 r.2]) ∧ Ss H' v r.1 ∧ Keep H H' ∧ Fresh H v

theorem filter_take {ps : List (List UInt8)} {i : Nat} (hi : i < ps.length) (f : List UInt8 → Bool) : (ps.take (i + 1)).filter f = (ps.take i).filter f ++ if f ps[i] then [ps[i]] else [] := by
  rw [List.take_succ_eq_append_getElem hi, List.filter_append]
  congr 1
  by_cases h : f ps[i] <;> simp [h]
theorem any_take {ps : List (List UInt8)} {i : Nat} (hi : i < ps.length) (f : List UInt8 → Bool) : (ps.take (i + 1)).any f = ((ps.take i).any f || f ps[i]) := by
  rw [List.take_succ_eq_append_getElem hi, List.any_append]
  simp
abbrev isDots (p : List UInt8) : Bool := decide (p = [46, 46])
/-- while the parts are gone through -/
structure PT (H0 : Heap) (a : Option Addr) (c : Nat) (ps : List (List UInt8)) (i : Nat) (env : Env) (H : Heap) : Prop where
  h7 : env 7 = .slice a ps.length c
  h8 : env 8 = .int .i64 ps.length
  h9 : env 9 = .int .i64 i
  h3 : env 3 = .bool ((ps.take i).any isDots)
  K : Keep H0 H
  rest : ∃ v, env 2 = v ∧ Ss H v ((ps.take i).filter goodC) ∧ Fresh H0 v

set_option maxHeartbeats 4000000 in
theorem parts_round {H0 H : Heap} {a : Option Addr} {c i : Nat} {ps : List (List UInt8)} {env : Env} {Q : Post} {QP : List PanicEntry → Heap → Prop} (hr : Row H0 a (strs ps)) (hl : ps.length ≤ 1099511627) (hi : i < ps.length) (hS : PT H0 a c ps i env H)
    (hk : ∀ env' H', PT H0 a c ps (i + 1) env' H' → Q .normal env' H') : awpC Tryd.prog L32_2 Q QP env H := by
  obtain ⟨h7, h8, h9, h3, hK, v, h2, hO, hF⟩ := hS
  have f0 : decide ((i : Int) < (ps.length : Int)) = true := decide_eq_true (by omega)
  obtain ⟨b, rfl, hb⟩ := str_at (hK.row hr) hi
  have hft := filter_take hi goodC
  have hat := any_take hi isDots
  obtain ⟨p, hp⟩ : ∃ p, p = ps[i] := ⟨_, rfl⟩
  rw [← hp] at hb hft hat
  have hsv := hO.scalar
  obtain ⟨dd, hdd⟩ : ∃ dd, dd = (ps.take i).any isDots := ⟨_, rfl⟩
  rw [← hdd] at h3 hat
  have fin : ∀ env2 : Env, env2 2 = v → env2 3 = .bool dd → env2 7 = .slice (some b) ps.length c → env2 8 = .int .i64 ps.length → env2 9 = .int .i64 ((i : Int) + 1) → goodC p = false → isDots p = false → Q .normal env2 H := by
    intro env2 e2 e3 e7 e8 e9 hg hd
    refine hk _ _ ⟨e7, e8, by rw [e9]; rfl, by rw [e3, hat, hd, Bool.or_false], hK, v, e2, ?_, hF⟩
    rw [hft, hg]
    simpa using hO
  unfold L32_2
  by_cases h1 : p = []
  · have q1 : decide (p = []) = true := decide_eq_true h1
    simp -implicitDefEqProofs (maxSteps := 1000000) (disch := first | omega | assumption) only [h2, h3, h7, h8, h9, f0, hb, q1, t_eq, Sx, reduceIte, Nat.reduceEqDiff, reduceCtorEq, Nat.reduceAdd, Nat.reduceSub, Nat.reduceLT]
    unfold L32_0
    simp -implicitDefEqProofs (maxSteps := 1000000) (disch := first | omega | assumption) only [h2, h3, h7, h8, h9, Sx, reduceIte, Nat.reduceEqDiff, reduceCtorEq, Nat.reduceAdd, Nat.reduceSub, Nat.reduceLT]
    unfold L32_1
    simp -implicitDefEqProofs (maxSteps := 1000000) (disch := first | omega | assumption) only [h2, h3, h7, h8, h9, Sx, reduceIte, Nat.reduceEqDiff, reduceCtorEq, Nat.reduceAdd, Nat.reduceSub, Nat.reduceLT]
    exact fin _ (by simp -implicitDefEqProofs (maxSteps := 1000000) (disch := first | omega | assumption) only [h2, Sx, reduceIte, Nat.reduceEqDiff, reduceCtorEq, Nat.reduceAdd, Nat.reduceSub, Nat.reduceLT]) (by simp -implicitDefEqProofs (maxSteps := 1000000) (disch := first | omega | assumption) only [h3, Sx, reduceIte, Nat.reduceEqDiff, reduceCtorEq, Nat.reduceAdd, Nat.reduceSub, Nat.reduceLT]) (by simp -implicitDefEqProofs (maxSteps := 1000000) (disch := first | omega | assumption) only [h7, Sx, reduceIte, Nat.reduceEqDiff, reduceCtorEq, Nat.reduceAdd, Nat.reduceSub, Nat.reduceLT]) (by simp -implicitDefEqProofs (maxSteps := 1000000) (disch := first | omega | assumption) only [h8, Sx, reduceIte, Nat.reduceEqDiff, reduceCtorEq, Nat.reduceAdd, Nat.reduceSub, Nat.reduceLT]) (by simp -implicitDefEqProofs (maxSteps := 1000000) (disch := first | omega | assumption) only [Sx, reduceIte, Nat.reduceEqDiff, reduceCtorEq, Nat.reduceAdd, Nat.reduceSub, Nat.reduceLT]) (by rw [h1]; rfl) (by rw [h1]; rfl)
  have q1 : decide (p = []) = false := decide_eq_false h1
  by_cases h2' : p = [46]
  · have q2 : decide (p = [46]) = true := decide_eq_true h2'
    simp -implicitDefEqProofs (maxSteps := 1000000) (disch := first | omega | assumption) only [h2, h3, h7, h8, h9, f0, hb, q1, q2, t_eq, Sx, reduceIte, Nat.reduceEqDiff, reduceCtorEq, Nat.reduceAdd, Nat.reduceSub, Nat.reduceLT]
    unfold L32_0
    simp -implicitDefEqProofs (maxSteps := 1000000) (disch := first | omega | assumption) only [h2, h3, h7, h8, h9, Sx, reduceIte, Nat.reduceEqDiff, reduceCtorEq, Nat.reduceAdd, Nat.reduceSub, Nat.reduceLT]
    unfold L32_1
    simp -implicitDefEqProofs (maxSteps := 1000000) (disch := first | omega | assumption) only [h2, h3, h7, h8, h9, Sx, reduceIte, Nat.reduceEqDiff, reduceCtorEq, Nat.reduceAdd, Nat.reduceSub, Nat.reduceLT]
    exact fin _ (by simp -implicitDefEqProofs (maxSteps := 1000000) (disch := first | omega | assumption) only [h2, Sx, reduceIte, Nat.reduceEqDiff, reduceCtorEq, Nat.reduceAdd, Nat.reduceSub, Nat.reduceLT]) (by simp -implicitDefEqProofs (maxSteps := 1000000) (disch := first | omega | assumption) only [h3, Sx, reduceIte, Nat.reduceEqDiff, reduceCtorEq, Nat.reduceAdd, Nat.reduceSub, Nat.reduceLT]) (by simp -implicitDefEqProofs (maxSteps := 1000000) (disch := first | omega | assumption) only [h7, Sx, reduceIte, Nat.reduceEqDiff, reduceCtorEq, Nat.reduceAdd, Nat.reduceSub, Nat.reduceLT]) (by simp -implicitDefEqProofs (maxSteps := 1000000) (disch := first | omega | assumption) only [h8, Sx, reduceIte, Nat.reduceEqDiff, reduceCtorEq, Nat.reduceAdd, Nat.reduceSub, Nat.reduceLT]) (by simp -implicitDefEqProofs (maxSteps := 1000000) (disch := first | omega | assumption) only [Sx, reduceIte, Nat.reduceEqDiff, reduceCtorEq, Nat.reduceAdd, Nat.reduceSub, Nat.reduceLT]) (by rw [h2']; rfl) (by rw [h2']; rfl)
  have q2 : decide (p = [46]) = false := decide_eq_false h2'
  by_cases h3' : p = [46, 46]
  · have q3 : decide (p = [46, 46]) = true := decide_eq_true h3'
    simp -implicitDefEqProofs (maxSteps := 1000000) (disch := first | omega | assumption) only [h2, h3, h7, h8, h9, f0, hb, q1, q2, t_eq, Sx, reduceIte, Nat.reduceEqDiff, reduceCtorEq, Nat.reduceAdd, Nat.reduceSub, Nat.reduceLT]
    unfold L32_0
    simp -implicitDefEqProofs (maxSteps := 1000000) (disch := first | omega | assumption) only [h2, h3, h7, h8, h9, q3, t_eq, Sx, reduceIte, Nat.reduceEqDiff, reduceCtorEq, Nat.reduceAdd, Nat.reduceSub, Nat.reduceLT]
    unfold L32_1
    simp -implicitDefEqProofs (maxSteps := 1000000) (disch := first | omega | assumption) only [h2, h3, h7, h8, h9, Sx, reduceIte, Nat.reduceEqDiff, reduceCtorEq, Nat.reduceAdd, Nat.reduceSub, Nat.reduceLT]
    refine hk _ _ ⟨by simp -implicitDefEqProofs (maxSteps := 1000000) (disch := first | omega | assumption) only [h7, Sx, reduceIte, Nat.reduceEqDiff, reduceCtorEq, Nat.reduceAdd, Nat.reduceSub, Nat.reduceLT], by simp -implicitDefEqProofs (maxSteps := 1000000) (disch := first | omega | assumption) only [h8, Sx, reduceIte, Nat.reduceEqDiff, reduceCtorEq, Nat.reduceAdd, Nat.reduceSub, Nat.reduceLT], by simp -implicitDefEqProofs (maxSteps := 1000000) (disch := first | omega | assumption) only [Int.natCast_add, Int.natCast_one, Sx, reduceIte, Nat.reduceEqDiff, reduceCtorEq, Nat.reduceAdd, Nat.reduceSub, Nat.reduceLT], ?_, hK, v, by simp -implicitDefEqProofs (maxSteps := 1000000) (disch := first | omega | assumption) only [h2, Sx, reduceIte, Nat.reduceEqDiff, reduceCtorEq, Nat.reduceAdd, Nat.reduceSub, Nat.reduceLT], ?_, hF⟩
    · rw [hat, show isDots p = true from q3, Bool.or_true]
      simp -implicitDefEqProofs (maxSteps := 1000000) (disch := first | omega | assumption) only [Sx, reduceIte, Nat.reduceEqDiff, reduceCtorEq, Nat.reduceAdd, Nat.reduceSub, Nat.reduceLT]
    · rw [hft, h3']
      simpa using hO
  · have q3 : decide (p = [46, 46]) = false := decide_eq_false h3'
    simp -implicitDefEqProofs (maxSteps := 1000000) (disch := first | omega | assumption) only [h2, h3, h7, h8, h9, f0, hb, q1, q2, t_eq, Sx, reduceIte, Nat.reduceEqDiff, reduceCtorEq, Nat.reduceAdd, Nat.reduceSub, Nat.reduceLT]
    unfold L32_0
    simp -implicitDefEqProofs (maxSteps := 1000000) (disch := first | omega | assumption) only [h2, h3, h7, h8, h9, q3, t_eq, Sx, reduceIte, Nat.reduceEqDiff, reduceCtorEq, Nat.reduceAdd, Nat.reduceSub, Nat.reduceLT]
    refine lits_str ?_
    intro r1 H1 hO1 hk1 hr1
    try simp -implicitDefEqProofs (maxSteps := 1000000) (disch := first | omega | assumption) only [h2, h3, h7, h8, h9, Sx, reduceIte, Nat.reduceEqDiff, reduceCtorEq, Nat.reduceAdd, Nat.reduceSub, Nat.reduceLT]
    have hfl : ((ps.take i).filter goodC).length ≤ ps.length := by
      have h1 := List.length_filter_le goodC (ps.take i)
      rw [List.length_take] at h1
      omega
    refine app_str (hO.keep hk1) (by omega) hO1 ?_
    intro v2 H2 hO2 ho2 hm2
    unfold L32_1
    try simp -implicitDefEqProofs (maxSteps := 1000000) (disch := first | omega | assumption) only [h2, h3, h7, h8, h9, Sx, reduceIte, Nat.reduceEqDiff, reduceCtorEq, Nat.reduceAdd, Nat.reduceSub, Nat.reduceLT]
    refine hk _ _ ⟨by simp -implicitDefEqProofs (maxSteps := 1000000) (disch := first | omega | assumption) only [h7, Sx, reduceIte, Nat.reduceEqDiff, reduceCtorEq, Nat.reduceAdd, Nat.reduceSub, Nat.reduceLT], by simp -implicitDefEqProofs (maxSteps := 1000000) (disch := first | omega | assumption) only [h8, Sx, reduceIte, Nat.reduceEqDiff, reduceCtorEq, Nat.reduceAdd, Nat.reduceSub, Nat.reduceLT], by simp -implicitDefEqProofs (maxSteps := 1000000) (disch := first | omega | assumption) only [Int.natCast_add, Int.natCast_one, Sx, reduceIte, Nat.reduceEqDiff, reduceCtorEq, Nat.reduceAdd, Nat.reduceSub, Nat.reduceLT], ?_, ho2.keep (hK.trans hk1) hF, v2, by simp -implicitDefEqProofs (maxSteps := 1000000) (disch := first | omega | assumption) only [Sx, reduceIte, Nat.reduceEqDiff, reduceCtorEq, Nat.reduceAdd, Nat.reduceSub, Nat.reduceLT], ?_, hm2.fresh (hK.trans hk1) hF⟩
    · rw [hat, show isDots p = false from q3, Bool.or_false]
      simp -implicitDefEqProofs (maxSteps := 1000000) (disch := first | omega | assumption) only [h3, Sx, reduceIte, Nat.reduceEqDiff, reduceCtorEq, Nat.reduceAdd, Nat.reduceSub, Nat.reduceLT]
    · rw [hft, show goodC p = true from decide_eq_true ⟨h1, h2', h3'⟩]
      exact hO2

set_option maxHeartbeats 2000000 in
theorem parts_spec {H : Heap} {l : List UInt8} (hl : l.length ≤ 109951162) :
    ACalls Tryd.prog 32 [Value.string ⟨l.toArray⟩].toArray H fun e H' => ∃ v, e = .returned (.tuple #[v, .bool (dots l)]) ∧ Ss H' v (comps l) ∧ Keep H H' ∧ Fresh H v := by
  refine call32 (Nat.le_of_ble_eq_true rfl) ?_
  unfold L32 env0
  simp -implicitDefEqProofs (maxSteps := 1000000) (disch := first | omega | assumption) only [Sx, reduceIte, Nat.reduceEqDiff, reduceCtorEq, Nat.reduceAdd, Nat.reduceSub, Nat.reduceLT]
  refine a_call (split_spec (by omega)) ?_
  rintro e H1 ⟨v, rfl, hO, hK, hF⟩
  obtain ⟨a, c, rfl, hc, hrow⟩ := hO.len
  have hpl : (splitL l).length ≤ 1099511627 := by rw [splitL_len]; have := List.count_le_length (a := (47 : UInt8)) (l := l); omega
  simp -implicitDefEqProofs (maxSteps := 1000000) (disch := first | omega | assumption) only [endK, Sx, reduceIte, Nat.reduceEqDiff, reduceCtorEq, Nat.reduceAdd, Nat.reduceSub, Nat.reduceLT]
  refine c_loop (fun k env H' => ∃ i, k + i = (splitL l).length ∧ PT H1 a c (splitL l) i env H') (splitL l).length ⟨0, by omega, ⟨by simp -implicitDefEqProofs (maxSteps := 1000000) (disch := first | omega | assumption) only [Sx, reduceIte, Nat.reduceEqDiff, reduceCtorEq, Nat.reduceAdd, Nat.reduceSub, Nat.reduceLT], by simp -implicitDefEqProofs (maxSteps := 1000000) (disch := first | omega | assumption) only [Sx, reduceIte, Nat.reduceEqDiff, reduceCtorEq, Nat.reduceAdd, Nat.reduceSub, Nat.reduceLT], by simp -implicitDefEqProofs (maxSteps := 1000000) (disch := first | omega | assumption) only [Sx, reduceIte, Nat.reduceEqDiff, reduceCtorEq, Nat.reduceAdd, Nat.reduceSub, Nat.reduceLT]; rfl, by simp -implicitDefEqProofs (maxSteps := 1000000) (disch := first | omega | assumption) only [Sx, reduceIte, Nat.reduceEqDiff, reduceCtorEq, Nat.reduceAdd, Nat.reduceSub, Nat.reduceLT]; rfl, Keep.refl _, .slice none 0 0, by simp -implicitDefEqProofs (maxSteps := 1000000) (disch := first | omega | assumption) only [Sx, reduceIte, Nat.reduceEqDiff, reduceCtorEq, Nat.reduceAdd, Nat.reduceSub, Nat.reduceLT], .nil, (fun q hq => by cases hq)⟩⟩ ?_
  rintro k env H2 ⟨i, hki, hP⟩
  by_cases hi : i < (splitL l).length
  · refine parts_round hrow hpl hi hP ?_
    intro env' H' hP'
    exact ⟨k - 1, by omega, i + 1, by omega, hP'⟩
  · have : i = (splitL l).length := by omega
    subst this
    obtain ⟨h7, h8, h9, h3, hK2, v, h2, hO2, hF2⟩ := hP
    rw [List.take_length] at h3 hO2
    have hsv := hO2.scalar
    have f0 : decide (((splitL l).length : Int) < ((splitL l).length : Int)) = false := decide_eq_false (by omega)
    unfold L32_2
    simp -implicitDefEqProofs (maxSteps := 1000000) (disch := first | omega | assumption) only [h2, h3, h7, h8, h9, f0, Sx, reduceIte, Nat.reduceEqDiff, reduceCtorEq, Nat.reduceAdd, Nat.reduceSub, Nat.reduceLT]
    exact ⟨v, rfl, hO2, hK.trans hK2, fun q hq => hK.none (hF2 q hq)⟩

theorem long_spec {H : Heap} (p : List UInt8) : ACalls Tryd.prog 36 [Value.string ⟨p.toArray⟩].toArray H fun e H' => e = .returned (.bool (decide (255 < p.length))) ∧ H' = H := by
  refine call36 (Nat.le_of_ble_eq_true rfl) ?_
  unfold L36 env0
  have e1 : decide ((255 : Int) < (p.length : Int)) = decide (255 < p.length) := by
    by_cases h : 255 < p.length
    · rw [decide_eq_true h, decide_eq_true (by omega)]
    · rw [decide_eq_false h, decide_eq_false (by omega)]
  simp -implicitDefEqProofs (maxSteps := 1000000) (disch := first | omega | assumption) only [t_size, e1, Sx, reduceIte, Nat.reduceEqDiff, reduceCtorEq, Nat.reduceAdd, Nat.reduceSub, Nat.reduceLT]
  exact ⟨by trivial, by trivial⟩
abbrev longF : Value := .func (.func 36) #[] #[]
set_option maxHeartbeats 2000000 in
theorem ixf_spec {H : Heap} {a : Option Addr} {c n : Nat} {xs : List (List UInt8)} (hr : Row H a (strs xs)) (hn : n = xs.length) (hl : xs.length ≤ 1099511627) :
    ACalls Tryd.prog 50 [Value.slice a n c, longF].toArray H fun e H' => H' = H ∧ ∃ z : Int, e = .returned (.int .i64 z) ∧ decide (0 ≤ z) = xs.any fun p => decide (255 < p.length) := by
  subst hn
  refine call50 (Nat.le_of_ble_eq_true rfl) ?_
  unfold L50 env0
  simp -implicitDefEqProofs (maxSteps := 1000000) (disch := first | omega | assumption) only [Sx, reduceIte, Nat.reduceEqDiff, reduceCtorEq, Nat.reduceAdd, Nat.reduceSub, Nat.reduceLT]
  refine c_loop (fun k env H' => H' = H ∧ ∃ i, k + i = xs.length ∧ env 0 = .slice a xs.length c ∧ env 1 = longF ∧ env 7 = .int .i64 xs.length ∧ env 8 = .int .i64 i ∧ ((xs.take i).any fun p => decide (255 < p.length)) = false) xs.length ⟨rfl, 0, by omega, by simp -implicitDefEqProofs (maxSteps := 1000000) (disch := first | omega | assumption) only [Sx, reduceIte, Nat.reduceEqDiff, reduceCtorEq, Nat.reduceAdd, Nat.reduceSub, Nat.reduceLT], by simp -implicitDefEqProofs (maxSteps := 1000000) (disch := first | omega | assumption) only [Sx, reduceIte, Nat.reduceEqDiff, reduceCtorEq, Nat.reduceAdd, Nat.reduceSub, Nat.reduceLT], by simp -implicitDefEqProofs (maxSteps := 1000000) (disch := first | omega | assumption) only [Sx, reduceIte, Nat.reduceEqDiff, reduceCtorEq, Nat.reduceAdd, Nat.reduceSub, Nat.reduceLT], by simp -implicitDefEqProofs (maxSteps := 1000000) (disch := first | omega | assumption) only [Sx, reduceIte, Nat.reduceEqDiff, reduceCtorEq, Nat.reduceAdd, Nat.reduceSub, Nat.reduceLT]; rfl, rfl⟩ ?_
  rintro k env H1 ⟨rfl, i, hk, h0, h1, h7, h8, hno⟩
  unfold L50_0
  by_cases hi : i < xs.length
  · have f0 : decide ((i : Int) < (xs.length : Int)) = true := decide_eq_true (by omega)
    obtain ⟨b, rfl, hb⟩ := str_at hr hi
    simp -implicitDefEqProofs (maxSteps := 1000000) (disch := first | omega | assumption) only [h0, h1, h7, h8, f0, hb, Sx, reduceIte, Nat.reduceEqDiff, reduceCtorEq, Nat.reduceAdd, Nat.reduceSub, Nat.reduceLT]
    refine a_callv (by kernel_rfl) (long_spec xs[i]) ?_
    rintro e H2 ⟨rfl, rfl⟩
    by_cases hlong : 255 < xs[i].length
    · rw [decide_eq_true hlong]
      simp -implicitDefEqProofs (maxSteps := 1000000) (disch := first | omega | assumption) only [endK, h0, h1, h7, h8, Sx, reduceIte, Nat.reduceEqDiff, reduceCtorEq, Nat.reduceAdd, Nat.reduceSub, Nat.reduceLT]
      refine ⟨by trivial, (i : Int), rfl, ?_⟩
      rw [decide_eq_true (by omega)]
      symm
      rw [List.any_eq_true]
      exact ⟨xs[i], List.getElem_mem hi, decide_eq_true hlong⟩
    · rw [decide_eq_false hlong]
      simp -implicitDefEqProofs (maxSteps := 1000000) (disch := first | omega | assumption) only [endK, h0, h1, h7, h8, Sx, reduceIte, Nat.reduceEqDiff, reduceCtorEq, Nat.reduceAdd, Nat.reduceSub, Nat.reduceLT]
      refine ⟨k - 1, by omega, by trivial, i + 1, by omega, by trivial, by trivial, by trivial, by simp -implicitDefEqProofs (maxSteps := 1000000) (disch := first | omega | assumption) only [Int.natCast_add, Int.natCast_one, Sx, reduceIte, Nat.reduceEqDiff, reduceCtorEq, Nat.reduceAdd, Nat.reduceSub, Nat.reduceLT], ?_⟩
      rw [any_take hi, hno, decide_eq_false hlong]
      rfl
  · have f0 : decide ((i : Int) < (xs.length : Int)) = false := decide_eq_false (by omega)
    simp -implicitDefEqProofs (maxSteps := 1000000) (disch := first | omega | assumption) only [h0, h1, h7, h8, f0, Sx, reduceIte, Nat.reduceEqDiff, reduceCtorEq, Nat.reduceAdd, Nat.reduceSub, Nat.reduceLT]
    refine ⟨by trivial, -1, rfl, ?_⟩
    rw [List.take_of_length_le (by omega)] at hno
    rw [hno]
    rfl
theorem cf_spec {H : Heap} {a : Option Addr} {c n : Nat} {xs : List (List UInt8)} (hr : Row H a (strs xs)) (hn : n = xs.length) (hl : xs.length ≤ 1099511627) :
    ACalls Tryd.prog 35 [Value.slice a n c, longF].toArray H fun e H' => e = .returned (.bool (xs.any fun p => decide (255 < p.length))) ∧ H' = H := by
  refine call35 (Nat.le_of_ble_eq_true rfl) ?_
  unfold L35 env0
  simp -implicitDefEqProofs (maxSteps := 1000000) (disch := first | omega | assumption) only [Sx, reduceIte, Nat.reduceEqDiff, reduceCtorEq, Nat.reduceAdd, Nat.reduceSub, Nat.reduceLT]
  refine a_call (ixf_spec hr hn hl) ?_
  rintro e H1 ⟨rfl, z, rfl, hz⟩
  simp -implicitDefEqProofs (maxSteps := 1000000) (disch := first | omega | assumption) only [endK, hz, Sx, reduceIte, Nat.reduceEqDiff, reduceCtorEq, Nat.reduceAdd, Nat.reduceSub, Nat.reduceLT]
  exact ⟨by trivial, by trivial⟩
end Go.Proofs.YtmgpfdfbcnlocaaDoor.S09
