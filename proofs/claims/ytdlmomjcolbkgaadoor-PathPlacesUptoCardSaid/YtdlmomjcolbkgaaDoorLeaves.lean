/-
  Leaves, of the code and of the document.
-/
import Derived.Test.YtdlmomjcolbkgaaDoorSplit
set_option linter.unusedVariables false
set_option linter.unusedSimpArgs false
namespace Go.Proofs.YtdlmomjcolbkgaaDoor.S09
open Go Go.RowKit Go.Proofs.YtdlmomjcolbkgaaDoor.Sep Go.Proofs.YtdlmomjcolbkgaaDoor.Low Go.Proofs.YtdlmomjcolbkgaaDoor.Lib

/-- does a way lead out? -/
def goOut : Nat → List (List UInt8) → Bool
  | _, [] => false
  | d, p :: ps => if p = [] ∨ p = [46] then goOut d ps else if p = [46, 46] then (if d = 0 then true else goOut (d - 1) ps) else goOut (d + 1) ps
def leavesL (d : Nat) (l : List UInt8) : Bool := if [47].isPrefixOf l then true else goOut d (splitL l)

theorem out_step {d : Nat} {ps : List (List UInt8)} {i : Nat} {p : List UInt8} (hi : i < ps.length) (hp : p = ps[i]) : goOut d (ps.drop i) = if p = [] ∨ p = [46] then goOut d (ps.drop (i + 1)) else if p = [46, 46] then (if d = 0 then true else goOut (d - 1) (ps.drop (i + 1))) else goOut (d + 1) (ps.drop (i + 1)) := by
  rw [List.drop_eq_getElem_cons hi, ← hp, goOut]

structure LO (a : Option Addr) (c : Nat) (ps : List (List UInt8)) (d0 : Nat) (i : Nat) (env : Env) : Prop where
  h13 : env 13 = .slice a ps.length c
  h14 : env 14 = .int .i64 ps.length
  h15 : env 15 = .int .i64 i
  rest : ∃ d : Nat, env 5 = .int .i64 d ∧ d ≤ d0 + i ∧ goOut d (ps.drop i) = goOut d0 ps

set_option maxHeartbeats 4000000 in
theorem leaves_round {H : Heap} {a : Option Addr} {c d0 i : Nat} {ps : List (List UInt8)} {env : Env} {Q : Post} {QP : List PanicEntry → Heap → Prop} (hr : Row H a (strs ps)) (hd : d0 ≤ 1099511627776) (hl : ps.length ≤ 1099511627776) (hi : i < ps.length) (hS : LO a c ps d0 i env)
    (hk : ∀ env', LO a c ps d0 (i + 1) env' → Q .normal env' H) (ht : ∀ env', env' 4 = .bool true → goOut d0 ps = true → Q .ret env' H) :
    awpC Tryd.prog L8_2 Q QP env H := by
  obtain ⟨h13, h14, h15, d, h5, hdl, hg⟩ := hS
  have f0 : decide ((i : Int) < (ps.length : Int)) = true := decide_eq_true (by omega)
  obtain ⟨b, rfl, hb⟩ := str_at hr hi
  obtain ⟨p, hp⟩ : ∃ p, p = ps[i] := ⟨_, rfl⟩
  rw [← hp] at hb
  rw [out_step hi hp] at hg
  unfold L8_2
  by_cases h1 : p = []
  · have q1 : decide (p = []) = true := decide_eq_true h1
    rw [if_pos (.inl h1)] at hg
    simp -implicitDefEqProofs (maxSteps := 1000000) (disch := first | omega | assumption) only [h5, h13, h14, h15, f0, hb, q1, t_eq, Sx, reduceIte, Nat.reduceEqDiff, reduceCtorEq, Nat.reduceAdd, Nat.reduceSub, Nat.reduceLT]
    unfold L8_0
    simp -implicitDefEqProofs (maxSteps := 1000000) (disch := first | omega | assumption) only [h5, h13, h14, h15, Sx, reduceIte, Nat.reduceEqDiff, reduceCtorEq, Nat.reduceAdd, Nat.reduceSub, Nat.reduceLT]
    unfold L8_1
    simp -implicitDefEqProofs (maxSteps := 1000000) (disch := first | omega | assumption) only [h5, h13, h14, h15, Sx, reduceIte, Nat.reduceEqDiff, reduceCtorEq, Nat.reduceAdd, Nat.reduceSub, Nat.reduceLT]
    exact hk _ ⟨by simp -implicitDefEqProofs (maxSteps := 1000000) (disch := first | omega | assumption) only [h13, Sx, reduceIte, Nat.reduceEqDiff, reduceCtorEq, Nat.reduceAdd, Nat.reduceSub, Nat.reduceLT], by simp -implicitDefEqProofs (maxSteps := 1000000) (disch := first | omega | assumption) only [h14, Sx, reduceIte, Nat.reduceEqDiff, reduceCtorEq, Nat.reduceAdd, Nat.reduceSub, Nat.reduceLT], by simp -implicitDefEqProofs (maxSteps := 1000000) (disch := first | omega | assumption) only [Int.natCast_add, Int.natCast_one, Sx, reduceIte, Nat.reduceEqDiff, reduceCtorEq, Nat.reduceAdd, Nat.reduceSub, Nat.reduceLT], d, by simp -implicitDefEqProofs (maxSteps := 1000000) (disch := first | omega | assumption) only [h5, Sx, reduceIte, Nat.reduceEqDiff, reduceCtorEq, Nat.reduceAdd, Nat.reduceSub, Nat.reduceLT], by omega, hg⟩
  have q1 : decide (p = []) = false := decide_eq_false h1
  by_cases h2 : p = [46]
  · have q2 : decide (p = [46]) = true := decide_eq_true h2
    rw [if_pos (.inr h2)] at hg
    simp -implicitDefEqProofs (maxSteps := 1000000) (disch := first | omega | assumption) only [h5, h13, h14, h15, f0, hb, q1, q2, t_eq, Sx, reduceIte, Nat.reduceEqDiff, reduceCtorEq, Nat.reduceAdd, Nat.reduceSub, Nat.reduceLT]
    unfold L8_0
    simp -implicitDefEqProofs (maxSteps := 1000000) (disch := first | omega | assumption) only [h5, h13, h14, h15, Sx, reduceIte, Nat.reduceEqDiff, reduceCtorEq, Nat.reduceAdd, Nat.reduceSub, Nat.reduceLT]
    unfold L8_1
    simp -implicitDefEqProofs (maxSteps := 1000000) (disch := first | omega | assumption) only [h5, h13, h14, h15, Sx, reduceIte, Nat.reduceEqDiff, reduceCtorEq, Nat.reduceAdd, Nat.reduceSub, Nat.reduceLT]
    exact hk _ ⟨by simp -implicitDefEqProofs (maxSteps := 1000000) (disch := first | omega | assumption) only [h13, Sx, reduceIte, Nat.reduceEqDiff, reduceCtorEq, Nat.reduceAdd, Nat.reduceSub, Nat.reduceLT], by simp -implicitDefEqProofs (maxSteps := 1000000) (disch := first | omega | assumption) only [h14, Sx, reduceIte, Nat.reduceEqDiff, reduceCtorEq, Nat.reduceAdd, Nat.reduceSub, Nat.reduceLT], by simp -implicitDefEqProofs (maxSteps := 1000000) (disch := first | omega | assumption) only [Int.natCast_add, Int.natCast_one, Sx, reduceIte, Nat.reduceEqDiff, reduceCtorEq, Nat.reduceAdd, Nat.reduceSub, Nat.reduceLT], d, by simp -implicitDefEqProofs (maxSteps := 1000000) (disch := first | omega | assumption) only [h5, Sx, reduceIte, Nat.reduceEqDiff, reduceCtorEq, Nat.reduceAdd, Nat.reduceSub, Nat.reduceLT], by omega, hg⟩
  have q2 : decide (p = [46]) = false := decide_eq_false h2
  rw [if_neg (by rintro (h | h); exact h1 h; exact h2 h)] at hg
  by_cases h3 : p = [46, 46]
  · have q3 : decide (p = [46, 46]) = true := decide_eq_true h3
    rw [if_pos h3] at hg
    simp -implicitDefEqProofs (maxSteps := 1000000) (disch := first | omega | assumption) only [h5, h13, h14, h15, f0, hb, q1, q2, t_eq, Sx, reduceIte, Nat.reduceEqDiff, reduceCtorEq, Nat.reduceAdd, Nat.reduceSub, Nat.reduceLT]
    unfold L8_0
    by_cases hd0 : d = 0
    · have q4 : ((d : Int) == 0) = true := by rw [beq_iff_eq]; omega
      rw [if_pos hd0] at hg
      simp -implicitDefEqProofs (maxSteps := 1000000) (disch := first | omega | assumption) only [h5, h13, h14, h15, q3, q4, t_eq, Sx, reduceIte, Nat.reduceEqDiff, reduceCtorEq, Nat.reduceAdd, Nat.reduceSub, Nat.reduceLT]
      exact ht _ (by simp -implicitDefEqProofs (maxSteps := 1000000) (disch := first | omega | assumption) only [Sx, reduceIte, Nat.reduceEqDiff, reduceCtorEq, Nat.reduceAdd, Nat.reduceSub, Nat.reduceLT]) hg.symm
    · have q4 : ((d : Int) == 0) = false := by rw [beq_eq_false_iff_ne]; omega
      rw [if_neg hd0] at hg
      have e1 : (d : Int) - 1 = ((d - 1 : Nat) : Int) := by omega
      simp -implicitDefEqProofs (maxSteps := 1000000) (disch := first | omega | assumption) only [h5, h13, h14, h15, q3, q4, e1, t_eq, Sx, reduceIte, Nat.reduceEqDiff, reduceCtorEq, Nat.reduceAdd, Nat.reduceSub, Nat.reduceLT]
      unfold L8_1
      simp -implicitDefEqProofs (maxSteps := 1000000) (disch := first | omega | assumption) only [h5, h13, h14, h15, Sx, reduceIte, Nat.reduceEqDiff, reduceCtorEq, Nat.reduceAdd, Nat.reduceSub, Nat.reduceLT]
      exact hk _ ⟨by simp -implicitDefEqProofs (maxSteps := 1000000) (disch := first | omega | assumption) only [h13, Sx, reduceIte, Nat.reduceEqDiff, reduceCtorEq, Nat.reduceAdd, Nat.reduceSub, Nat.reduceLT], by simp -implicitDefEqProofs (maxSteps := 1000000) (disch := first | omega | assumption) only [h14, Sx, reduceIte, Nat.reduceEqDiff, reduceCtorEq, Nat.reduceAdd, Nat.reduceSub, Nat.reduceLT], by simp -implicitDefEqProofs (maxSteps := 1000000) (disch := first | omega | assumption) only [Int.natCast_add, Int.natCast_one, Sx, reduceIte, Nat.reduceEqDiff, reduceCtorEq, Nat.reduceAdd, Nat.reduceSub, Nat.reduceLT], d - 1, by simp -implicitDefEqProofs (maxSteps := 1000000) (disch := first | omega | assumption) only [Sx, reduceIte, Nat.reduceEqDiff, reduceCtorEq, Nat.reduceAdd, Nat.reduceSub, Nat.reduceLT], by omega, hg⟩
  · have q3 : decide (p = [46, 46]) = false := decide_eq_false h3
    rw [if_neg h3] at hg
    simp -implicitDefEqProofs (maxSteps := 1000000) (disch := first | omega | assumption) only [h5, h13, h14, h15, f0, hb, q1, q2, t_eq, Sx, reduceIte, Nat.reduceEqDiff, reduceCtorEq, Nat.reduceAdd, Nat.reduceSub, Nat.reduceLT]
    unfold L8_0
    simp -implicitDefEqProofs (maxSteps := 1000000) (disch := first | omega | assumption) only [h5, h13, h14, h15, q3, t_eq, Sx, reduceIte, Nat.reduceEqDiff, reduceCtorEq, Nat.reduceAdd, Nat.reduceSub, Nat.reduceLT]
    unfold L8_1
    simp -implicitDefEqProofs (maxSteps := 1000000) (disch := first | omega | assumption) only [h5, h13, h14, h15, Sx, reduceIte, Nat.reduceEqDiff, reduceCtorEq, Nat.reduceAdd, Nat.reduceSub, Nat.reduceLT]
    exact hk _ ⟨by simp -implicitDefEqProofs (maxSteps := 1000000) (disch := first | omega | assumption) only [h13, Sx, reduceIte, Nat.reduceEqDiff, reduceCtorEq, Nat.reduceAdd, Nat.reduceSub, Nat.reduceLT], by simp -implicitDefEqProofs (maxSteps := 1000000) (disch := first | omega | assumption) only [h14, Sx, reduceIte, Nat.reduceEqDiff, reduceCtorEq, Nat.reduceAdd, Nat.reduceSub, Nat.reduceLT], by simp -implicitDefEqProofs (maxSteps := 1000000) (disch := first | omega | assumption) only [Int.natCast_add, Int.natCast_one, Sx, reduceIte, Nat.reduceEqDiff, reduceCtorEq, Nat.reduceAdd, Nat.reduceSub, Nat.reduceLT], d + 1, by simp -implicitDefEqProofs (maxSteps := 1000000) (disch := first | omega | assumption) only [Int.natCast_add, Int.natCast_one, Sx, reduceIte, Nat.reduceEqDiff, reduceCtorEq, Nat.reduceAdd, Nat.reduceSub, Nat.reduceLT], by omega, hg⟩

set_option maxHeartbeats 4000000 in
theorem leaves_spec {H : Heap} {a : Option Addr} {n c : Nat} {l : List UInt8} (hl : l.length ≤ 1099511627) (hn : n ≤ 1099511627776) :
    ACalls Tryd.prog 8 [Value.slice a n c, .string ⟨l.toArray⟩].toArray H fun e H' => e = .returned (.bool (leavesL n l)) ∧ Keep H H' := by
  refine call8 (Nat.le_of_ble_eq_true rfl) ?_
  unfold L8 env0
  simp -implicitDefEqProofs (maxSteps := 1000000) (disch := first | omega | assumption) only [Sx, reduceIte, Nat.reduceEqDiff, reduceCtorEq, Nat.reduceAdd, Nat.reduceSub, Nat.reduceLT]
  refine a_call (prefix_spec l [47]) ?_
  rintro e H1 ⟨rfl, rfl⟩
  cases hp : [47].isPrefixOf l with
  | true =>
    simp -implicitDefEqProofs (maxSteps := 1000000) (disch := first | omega | assumption) only [endK, Sx, reduceIte, Nat.reduceEqDiff, reduceCtorEq, Nat.reduceAdd, Nat.reduceSub, Nat.reduceLT]
    exact ⟨by rw [leavesL, if_pos hp], Keep.refl _⟩
  | false =>
    have hlv : leavesL n l = goOut n (splitL l) := by rw [leavesL, if_neg (by rw [hp]; exact fun h => by cases h)]
    simp -implicitDefEqProofs (maxSteps := 1000000) (disch := first | omega | assumption) only [endK, Sx, reduceIte, Nat.reduceEqDiff, reduceCtorEq, Nat.reduceAdd, Nat.reduceSub, Nat.reduceLT]
    refine a_call (split_spec (by omega)) ?_
    rintro e H2 ⟨v, rfl, hO, hK, hF⟩
    obtain ⟨pa, pc, rfl, hpc, hrow⟩ := hO.len
    have hpl : (splitL l).length ≤ 1099511627776 := by rw [splitL_len]; have := List.count_le_length (a := (47 : UInt8)) (l := l); omega
    simp -implicitDefEqProofs (maxSteps := 1000000) (disch := first | omega | assumption) only [endK, Sx, reduceIte, Nat.reduceEqDiff, reduceCtorEq, Nat.reduceAdd, Nat.reduceSub, Nat.reduceLT]
    refine c_loop (fun k env H' => H' = H2 ∧ ∃ i, k + i = (splitL l).length ∧ LO pa pc (splitL l) n i env) (splitL l).length ⟨rfl, 0, by omega, ⟨by simp -implicitDefEqProofs (maxSteps := 1000000) (disch := first | omega | assumption) only [Sx, reduceIte, Nat.reduceEqDiff, reduceCtorEq, Nat.reduceAdd, Nat.reduceSub, Nat.reduceLT], by simp -implicitDefEqProofs (maxSteps := 1000000) (disch := first | omega | assumption) only [Sx, reduceIte, Nat.reduceEqDiff, reduceCtorEq, Nat.reduceAdd, Nat.reduceSub, Nat.reduceLT], by simp -implicitDefEqProofs (maxSteps := 1000000) (disch := first | omega | assumption) only [Sx, reduceIte, Nat.reduceEqDiff, reduceCtorEq, Nat.reduceAdd, Nat.reduceSub, Nat.reduceLT]; rfl, n, by simp -implicitDefEqProofs (maxSteps := 1000000) (disch := first | omega | assumption) only [Sx, reduceIte, Nat.reduceEqDiff, reduceCtorEq, Nat.reduceAdd, Nat.reduceSub, Nat.reduceLT], by omega, by simp⟩⟩ ?_
    rintro k env H3 ⟨rfl, i, hki, hS⟩
    by_cases hi : i < (splitL l).length
    · refine leaves_round hrow hn hpl hi hS ?_ ?_
      · intro env' hS'
        exact ⟨k - 1, by omega, rfl, i + 1, by omega, hS'⟩
      · intro env' h4 hg
        simp -implicitDefEqProofs (maxSteps := 1000000) (disch := first | omega | assumption) only [h4, Sx, reduceIte, Nat.reduceEqDiff, reduceCtorEq, Nat.reduceAdd, Nat.reduceSub, Nat.reduceLT]
        exact ⟨by rw [hlv, hg], hK⟩
    · have : i = (splitL l).length := by omega
      subst this
      obtain ⟨h13, h14, h15, d, h5, hdl, hg⟩ := hS
      rw [List.drop_length, goOut] at hg
      have f0 : decide (((splitL l).length : Int) < ((splitL l).length : Int)) = false := decide_eq_false (by omega)
      unfold L8_2
      simp -implicitDefEqProofs (maxSteps := 1000000) (disch := first | omega | assumption) only [h5, h13, h14, h15, f0, Sx, reduceIte, Nat.reduceEqDiff, reduceCtorEq, Nat.reduceAdd, Nat.reduceSub, Nat.reduceLT]
      exact ⟨by rw [hlv, ← hg], hK⟩

/-- the document's -/
structure RO (a : Option Addr) (c : Nat) (ps : List (List UInt8)) (d0 : Nat) (i : Nat) (env : Env) : Prop where
  h5 : env 5 = .slice a ps.length c
  h7 : env 7 = .int .i64 i
  rest : ∃ d : Nat, env 6 = .int .i64 d ∧ d ≤ d0 + i ∧ goOut d (ps.drop i) = goOut d0 ps

set_option maxHeartbeats 4000000 in
theorem rleaves_round {H : Heap} {a : Option Addr} {c d0 i : Nat} {ps : List (List UInt8)} {env : Env} {Q : Post} {QP : List PanicEntry → Heap → Prop} (hr : Row H a (strs ps)) (hd : d0 ≤ 1099511627776) (hl : ps.length ≤ 1099511627776) (hi : i < ps.length) (hS : RO a c ps d0 i env)
    (hk : ∀ env', RO a c ps d0 (i + 1) env' → Q .normal env' H) (ht : ∀ env', env' 4 = .bool true → goOut d0 ps = true → Q .ret env' H) :
    awpC Tryd.prog L9_1 Q QP env H := by
  obtain ⟨h5, h7, d, h6, hdl, hg⟩ := hS
  have f0 : decide ((i : Int) < (ps.length : Int)) = true := decide_eq_true (by omega)
  obtain ⟨b, rfl, hb⟩ := str_at hr hi
  obtain ⟨p, hp⟩ : ∃ p, p = ps[i] := ⟨_, rfl⟩
  rw [← hp] at hb
  rw [out_step hi hp] at hg
  unfold L9_1
  by_cases h3 : p = [46, 46]
  · have q3 : decide (p = [46, 46]) = true := decide_eq_true h3
    rw [if_neg (by rw [h3]; decide), if_pos h3] at hg
    by_cases hd0 : d = 0
    · have q4 : ((d : Int) == 0) = true := by rw [beq_iff_eq]; omega
      rw [if_pos hd0] at hg
      simp -implicitDefEqProofs (maxSteps := 1000000) (disch := first | omega | assumption) only [h5, h6, h7, f0, hb, q3, q4, t_eq, Sx, reduceIte, Nat.reduceEqDiff, reduceCtorEq, Nat.reduceAdd, Nat.reduceSub, Nat.reduceLT]
      exact ht _ (by simp -implicitDefEqProofs (maxSteps := 1000000) (disch := first | omega | assumption) only [Sx, reduceIte, Nat.reduceEqDiff, reduceCtorEq, Nat.reduceAdd, Nat.reduceSub, Nat.reduceLT]) hg.symm
    · have q4 : ((d : Int) == 0) = false := by rw [beq_eq_false_iff_ne]; omega
      rw [if_neg hd0] at hg
      have e1 : (d : Int) - 1 = ((d - 1 : Nat) : Int) := by omega
      simp -implicitDefEqProofs (maxSteps := 1000000) (disch := first | omega | assumption) only [h5, h6, h7, f0, hb, q3, q4, e1, t_eq, Sx, reduceIte, Nat.reduceEqDiff, reduceCtorEq, Nat.reduceAdd, Nat.reduceSub, Nat.reduceLT]
      unfold L9_0
      simp -implicitDefEqProofs (maxSteps := 1000000) (disch := first | omega | assumption) only [h5, h6, h7, Sx, reduceIte, Nat.reduceEqDiff, reduceCtorEq, Nat.reduceAdd, Nat.reduceSub, Nat.reduceLT]
      exact hk _ ⟨by simp -implicitDefEqProofs (maxSteps := 1000000) (disch := first | omega | assumption) only [h5, Sx, reduceIte, Nat.reduceEqDiff, reduceCtorEq, Nat.reduceAdd, Nat.reduceSub, Nat.reduceLT], by simp -implicitDefEqProofs (maxSteps := 1000000) (disch := first | omega | assumption) only [Int.natCast_add, Int.natCast_one, Sx, reduceIte, Nat.reduceEqDiff, reduceCtorEq, Nat.reduceAdd, Nat.reduceSub, Nat.reduceLT], d - 1, by simp -implicitDefEqProofs (maxSteps := 1000000) (disch := first | omega | assumption) only [Sx, reduceIte, Nat.reduceEqDiff, reduceCtorEq, Nat.reduceAdd, Nat.reduceSub, Nat.reduceLT], by omega, hg⟩
  have q3 : decide (p = [46, 46]) = false := decide_eq_false h3
  by_cases h1 : p = []
  · have q1 : decide (p = []) = true := decide_eq_true h1
    rw [if_pos (.inl h1)] at hg
    simp -implicitDefEqProofs (maxSteps := 1000000) (disch := first | omega | assumption) only [h5, h6, h7, f0, hb, q1, q3, t_eq, Bool.not_true, l_g, Sx, reduceIte, Nat.reduceEqDiff, reduceCtorEq, Nat.reduceAdd, Nat.reduceSub, Nat.reduceLT]
    unfold L9_0
    simp -implicitDefEqProofs (maxSteps := 1000000) (disch := first | omega | assumption) only [h5, h6, h7, Sx, reduceIte, Nat.reduceEqDiff, reduceCtorEq, Nat.reduceAdd, Nat.reduceSub, Nat.reduceLT]
    exact hk _ ⟨by simp -implicitDefEqProofs (maxSteps := 1000000) (disch := first | omega | assumption) only [h5, Sx, reduceIte, Nat.reduceEqDiff, reduceCtorEq, Nat.reduceAdd, Nat.reduceSub, Nat.reduceLT], by simp -implicitDefEqProofs (maxSteps := 1000000) (disch := first | omega | assumption) only [Int.natCast_add, Int.natCast_one, Sx, reduceIte, Nat.reduceEqDiff, reduceCtorEq, Nat.reduceAdd, Nat.reduceSub, Nat.reduceLT], d, by simp -implicitDefEqProofs (maxSteps := 1000000) (disch := first | omega | assumption) only [h6, Sx, reduceIte, Nat.reduceEqDiff, reduceCtorEq, Nat.reduceAdd, Nat.reduceSub, Nat.reduceLT], by omega, hg⟩
  have q1 : decide (p = []) = false := decide_eq_false h1
  by_cases h2 : p = [46]
  · have q2 : decide (p = [46]) = true := decide_eq_true h2
    rw [if_pos (.inr h2)] at hg
    simp -implicitDefEqProofs (maxSteps := 1000000) (disch := first | omega | assumption) only [h5, h6, h7, f0, hb, q1, q2, q3, t_eq, Bool.not_true, Bool.not_false, l_g, Sx, reduceIte, Nat.reduceEqDiff, reduceCtorEq, Nat.reduceAdd, Nat.reduceSub, Nat.reduceLT]
    unfold L9_0
    simp -implicitDefEqProofs (maxSteps := 1000000) (disch := first | omega | assumption) only [h5, h6, h7, Sx, reduceIte, Nat.reduceEqDiff, reduceCtorEq, Nat.reduceAdd, Nat.reduceSub, Nat.reduceLT]
    exact hk _ ⟨by simp -implicitDefEqProofs (maxSteps := 1000000) (disch := first | omega | assumption) only [h5, Sx, reduceIte, Nat.reduceEqDiff, reduceCtorEq, Nat.reduceAdd, Nat.reduceSub, Nat.reduceLT], by simp -implicitDefEqProofs (maxSteps := 1000000) (disch := first | omega | assumption) only [Int.natCast_add, Int.natCast_one, Sx, reduceIte, Nat.reduceEqDiff, reduceCtorEq, Nat.reduceAdd, Nat.reduceSub, Nat.reduceLT], d, by simp -implicitDefEqProofs (maxSteps := 1000000) (disch := first | omega | assumption) only [h6, Sx, reduceIte, Nat.reduceEqDiff, reduceCtorEq, Nat.reduceAdd, Nat.reduceSub, Nat.reduceLT], by omega, hg⟩
  · have q2 : decide (p = [46]) = false := decide_eq_false h2
    rw [if_neg (by rintro (h | h); exact h1 h; exact h2 h), if_neg h3] at hg
    simp -implicitDefEqProofs (maxSteps := 1000000) (disch := first | omega | assumption) only [h5, h6, h7, f0, hb, q1, q2, q3, t_eq, Bool.not_true, Bool.not_false, l_g, Sx, reduceIte, Nat.reduceEqDiff, reduceCtorEq, Nat.reduceAdd, Nat.reduceSub, Nat.reduceLT]
    unfold L9_0
    simp -implicitDefEqProofs (maxSteps := 1000000) (disch := first | omega | assumption) only [h5, h6, h7, Sx, reduceIte, Nat.reduceEqDiff, reduceCtorEq, Nat.reduceAdd, Nat.reduceSub, Nat.reduceLT]
    exact hk _ ⟨by simp -implicitDefEqProofs (maxSteps := 1000000) (disch := first | omega | assumption) only [h5, Sx, reduceIte, Nat.reduceEqDiff, reduceCtorEq, Nat.reduceAdd, Nat.reduceSub, Nat.reduceLT], by simp -implicitDefEqProofs (maxSteps := 1000000) (disch := first | omega | assumption) only [Int.natCast_add, Int.natCast_one, Sx, reduceIte, Nat.reduceEqDiff, reduceCtorEq, Nat.reduceAdd, Nat.reduceSub, Nat.reduceLT], d + 1, by simp -implicitDefEqProofs (maxSteps := 1000000) (disch := first | omega | assumption) only [Int.natCast_add, Int.natCast_one, Sx, reduceIte, Nat.reduceEqDiff, reduceCtorEq, Nat.reduceAdd, Nat.reduceSub, Nat.reduceLT], by omega, hg⟩

theorem rleaves_tail {H H0 : Heap} {pa : Option Addr} {pc n : Nat} {ps : List (List UInt8)} {env : Env} {Q : Post} {QP : List PanicEntry → Heap → Prop} (hrow : Row H pa (strs ps)) (hn : n ≤ 1099511627776) (hpl : ps.length ≤ 1099511627776) (hS : RO pa pc ps n 0 env)
    (hk : ∀ env', goOut n ps = false → Q (.exit 0) env' H) (ht : ∀ env', env' 4 = .bool true → goOut n ps = true → Q .ret env' H) : awpC Tryd.prog (.loop L9_1) Q QP env H := by
  refine c_loop (fun k env H' => H' = H ∧ ∃ i, k + i = ps.length ∧ RO pa pc ps n i env) ps.length ⟨rfl, 0, by omega, hS⟩ ?_
  rintro k env H3 ⟨rfl, i, hki, hS⟩
  by_cases hi : i < ps.length
  · refine rleaves_round hrow hn hpl hi hS ?_ ht
    intro env' hS'
    exact ⟨k - 1, by omega, rfl, i + 1, by omega, hS'⟩
  · have : i = ps.length := by omega
    subst this
    obtain ⟨h5, h7, d, h6, hdl, hg⟩ := hS
    rw [List.drop_length, goOut] at hg
    have f0 : decide ((ps.length : Int) < (ps.length : Int)) = false := decide_eq_false (by omega)
    unfold L9_1
    simp -implicitDefEqProofs (maxSteps := 1000000) (disch := first | omega | assumption) only [h5, h6, h7, f0, Sx, reduceIte, Nat.reduceEqDiff, reduceCtorEq, Nat.reduceAdd, Nat.reduceSub, Nat.reduceLT]
    exact hk _ hg.symm

set_option maxHeartbeats 4000000 in
theorem rleaves_spec {H : Heap} {a : Option Addr} {n c : Nat} {l : List UInt8} (hl : l.length ≤ 1099511627) (hn : n ≤ 1099511627776) :
    ACalls Tryd.prog 9 [Value.slice a n c, .string ⟨l.toArray⟩].toArray H fun e H' => e = .returned (.bool (leavesL n l)) ∧ Keep H H' := by
  refine call9 (Nat.le_of_ble_eq_true rfl) ?_
  unfold L9 env0
  have hpl : (splitL l).length ≤ 1099511627776 := by rw [splitL_len]; have := List.count_le_length (a := (47 : UInt8)) (l := l); omega
  rcases Nat.eq_zero_or_pos l.length with h0 | h0
  · have f0 : decide ((0 : Int) < (l.length : Int)) = false := decide_eq_false (by omega)
    have hlv : leavesL n l = goOut n (splitL l) := by rw [List.length_eq_zero_iff.1 h0]; rfl
    simp -implicitDefEqProofs (maxSteps := 1000000) (disch := first | omega | assumption) only [t_size, f0, l_g, Sx, reduceIte, Nat.reduceEqDiff, reduceCtorEq, Nat.reduceAdd, Nat.reduceSub, Nat.reduceLT]
    refine a_call (pieces_spec hl) ?_
    rintro e H2 ⟨v, rfl, hO, hK, hF⟩
    obtain ⟨pa, pc, rfl, hpc, hrow⟩ := hO.len
    simp -implicitDefEqProofs (maxSteps := 1000000) (disch := first | omega | assumption) only [endK, Sx, reduceIte, Nat.reduceEqDiff, reduceCtorEq, Nat.reduceAdd, Nat.reduceSub, Nat.reduceLT]
    refine rleaves_tail (H0 := H) (pa := pa) (pc := pc) hrow hn hpl ⟨by simp -implicitDefEqProofs (maxSteps := 1000000) (disch := first | omega | assumption) only [Sx, reduceIte, Nat.reduceEqDiff, reduceCtorEq, Nat.reduceAdd, Nat.reduceSub, Nat.reduceLT], by simp -implicitDefEqProofs (maxSteps := 1000000) (disch := first | omega | assumption) only [Sx, reduceIte, Nat.reduceEqDiff, reduceCtorEq, Nat.reduceAdd, Nat.reduceSub, Nat.reduceLT]; rfl, n, by simp -implicitDefEqProofs (maxSteps := 1000000) (disch := first | omega | assumption) only [Sx, reduceIte, Nat.reduceEqDiff, reduceCtorEq, Nat.reduceAdd, Nat.reduceSub, Nat.reduceLT], by omega, by simp⟩ ?_ ?_
    · intro env' hg
      simp -implicitDefEqProofs (maxSteps := 1000000) (disch := first | omega | assumption) only [Sx, reduceIte, Nat.reduceEqDiff, reduceCtorEq, Nat.reduceAdd, Nat.reduceSub, Nat.reduceLT]
      exact ⟨by rw [hlv, hg], hK⟩
    · intro env' h4 hg
      simp -implicitDefEqProofs (maxSteps := 1000000) (disch := first | omega | assumption) only [h4, Sx, reduceIte, Nat.reduceEqDiff, reduceCtorEq, Nat.reduceAdd, Nat.reduceSub, Nat.reduceLT]
      exact ⟨by rw [hlv, hg], hK⟩
  · have f0 : decide ((0 : Int) < (l.length : Int)) = true := decide_eq_true (by omega)
    obtain ⟨x, hx⟩ : ∃ x, l[0]? = some x := ⟨_, List.getElem?_eq_getElem h0⟩
    obtain ⟨r, hlr⟩ : ∃ r, l = x :: r := by
      cases l with
      | nil => simp at h0
      | cons y r => simp at hx; exact ⟨r, by rw [hx]⟩
    by_cases hs : x = 47
    · have f2 : ((x.toNat : Int) == 47) = true := by rw [hs]; rfl
      have hlv : leavesL n l = true := by rw [leavesL, if_pos (by rw [hlr, hs]; simp [List.isPrefixOf])]
      simp -implicitDefEqProofs (maxSteps := 1000000) (disch := first | omega | assumption) only [t_size, f0, e_ixs, hx, f2, Int.toNat_zero, l_g, Sx, reduceIte, Nat.reduceEqDiff, reduceCtorEq, Nat.reduceAdd, Nat.reduceSub, Nat.reduceLT]
      exact ⟨by rw [hlv], Keep.refl _⟩
    · have f2 : ((x.toNat : Int) == 47) = false := by
        rw [beq_eq_false_iff_ne]
        intro e
        exact hs (UInt8.toNat_inj.1 (by rw [show (47 : UInt8).toNat = 47 from rfl]; omega))
      have hlv : leavesL n l = goOut n (splitL l) := by
        rw [leavesL, if_neg (by rw [hlr]; simp [List.isPrefixOf]; exact fun e => hs e.symm)]
      simp -implicitDefEqProofs (maxSteps := 1000000) (disch := first | omega | assumption) only [t_size, f0, e_ixs, hx, f2, Int.toNat_zero, l_g, Sx, reduceIte, Nat.reduceEqDiff, reduceCtorEq, Nat.reduceAdd, Nat.reduceSub, Nat.reduceLT]
      refine a_call (pieces_spec hl) ?_
      rintro e H2 ⟨v, rfl, hO, hK, hF⟩
      obtain ⟨pa, pc, rfl, hpc, hrow⟩ := hO.len
      simp -implicitDefEqProofs (maxSteps := 1000000) (disch := first | omega | assumption) only [endK, Sx, reduceIte, Nat.reduceEqDiff, reduceCtorEq, Nat.reduceAdd, Nat.reduceSub, Nat.reduceLT]
      refine rleaves_tail (H0 := H) (pa := pa) (pc := pc) hrow hn hpl ⟨by simp -implicitDefEqProofs (maxSteps := 1000000) (disch := first | omega | assumption) only [Sx, reduceIte, Nat.reduceEqDiff, reduceCtorEq, Nat.reduceAdd, Nat.reduceSub, Nat.reduceLT], by simp -implicitDefEqProofs (maxSteps := 1000000) (disch := first | omega | assumption) only [Sx, reduceIte, Nat.reduceEqDiff, reduceCtorEq, Nat.reduceAdd, Nat.reduceSub, Nat.reduceLT]; rfl, n, by simp -implicitDefEqProofs (maxSteps := 1000000) (disch := first | omega | assumption) only [Sx, reduceIte, Nat.reduceEqDiff, reduceCtorEq, Nat.reduceAdd, Nat.reduceSub, Nat.reduceLT], by omega, by simp⟩ ?_ ?_
      · intro env' hg
        simp -implicitDefEqProofs (maxSteps := 1000000) (disch := first | omega | assumption) only [Sx, reduceIte, Nat.reduceEqDiff, reduceCtorEq, Nat.reduceAdd, Nat.reduceSub, Nat.reduceLT]
        exact ⟨by rw [hlv, hg], hK⟩
      · intro env' h4 hg
        simp -implicitDefEqProofs (maxSteps := 1000000) (disch := first | omega | assumption) only [h4, Sx, reduceIte, Nat.reduceEqDiff, reduceCtorEq, Nat.reduceAdd, Nat.reduceSub, Nat.reduceLT]
        exact ⟨by rw [hlv, hg], hK⟩
end Go.Proofs.YtdlmomjcolbkgaaDoor.S09
