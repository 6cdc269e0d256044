/-
  Split and Clean, whole.
-/
import Derived.Test.YtmgpfdfbcnlocaaDoorNames
set_option linter.unusedVariables false
set_option linter.unusedSimpArgs false
namespace Go.Proofs.YtmgpfdfbcnlocaaDoor.S09
open Go Go.RowKit Go.Proofs.YtmgpfdfbcnlocaaDoor.Sep Go.Proofs.YtmgpfdfbcnlocaaDoor.Low Go.Proofs.YtmgpfdfbcnlocaaDoor.Lib

theorem comps_le (l : List UInt8) : (comps l).length ≤ l.length + 1 := by
  have h1 := List.length_filter_le goodC (splitL l)
  have h2 := splitL_len l
  have h3 := List.count_le_length (a := (47 : UInt8)) (l := l)
  show ((splitL l).filter goodC).length ≤ _
  omega
theorem Names.err {H H' : Heap} {l : List UInt8} {n : Int} (hk : Keep H H') (h : splitN l = ([], n)) : Names H (splitN l) (.returned (.tuple #[.slice none 0 0, .int .i64 n])) H' :=
  ⟨_, by rw [h], by rw [h]; exact .nil, hk, (fun q hq => by cases hq)⟩
set_option maxHeartbeats 4000000 in
theorem psplit_spec {H : Heap} {l : List UInt8} (hl : l.length ≤ 109951162) :
    ACalls Tryd.prog 22 [Value.string ⟨l.toArray⟩].toArray H fun e H' => Names H (splitN l) e H' := by
  refine call22 (Nat.le_of_ble_eq_true rfl) ?_
  unfold L22 env0
  simp -implicitDefEqProofs (maxSteps := 1000000) (disch := first | omega | assumption) only [Sx, reduceIte, Nat.reduceEqDiff, reduceCtorEq, Nat.reduceAdd, Nat.reduceSub, Nat.reduceLT]
  refine a_call (parts_spec hl) ?_
  rintro e H1 ⟨v, rfl, hO, hK, hF⟩
  obtain ⟨a, c, rfl, hc, hrow⟩ := hO.len
  have hcl := comps_le l
  by_cases h1 : 4096 < l.length
  · have q1 : decide ((4096 : Int) < (l.length : Int)) = true := decide_eq_true (by omega)
    simp -implicitDefEqProofs (maxSteps := 1000000) (disch := first | omega | assumption) only [endK, t_size, q1, Sx, reduceIte, Nat.reduceEqDiff, reduceCtorEq, Nat.reduceAdd, Nat.reduceSub, Nat.reduceLT]
    exact .err hK (by unfold splitN; rw [if_pos h1])
  have q1 : decide ((4096 : Int) < (l.length : Int)) = false := decide_eq_false (by omega)
  simp -implicitDefEqProofs (maxSteps := 1000000) (disch := first | omega | assumption) only [endK, t_size, q1, Sx, reduceIte, Nat.reduceEqDiff, reduceCtorEq, Nat.reduceAdd, Nat.reduceSub, Nat.reduceLT]
  refine a_call (ixb_spec l 0) ?_
  rintro e H2 ⟨rfl, rfl⟩
  by_cases h2 : 0 ∈ l
  · have q2 : decide ((0 : Int) ≤ Go.Lib.indexByte l 0) = true := by rw [ix_mem, decide_eq_true h2]
    simp -implicitDefEqProofs (maxSteps := 1000000) (disch := first | omega | assumption) only [endK, q2, Sx, reduceIte, Nat.reduceEqDiff, reduceCtorEq, Nat.reduceAdd, Nat.reduceSub, Nat.reduceLT]
    exact .err hK (by unfold splitN; rw [if_neg h1, if_pos h2])
  have q2 : decide ((0 : Int) ≤ Go.Lib.indexByte l 0) = false := by rw [ix_mem, decide_eq_false h2]
  simp -implicitDefEqProofs (maxSteps := 1000000) (disch := first | omega | assumption) only [endK, q2, Sx, reduceIte, Nat.reduceEqDiff, reduceCtorEq, Nat.reduceAdd, Nat.reduceSub, Nat.reduceLT]
  refine a_call (prefix_spec l [47]) ?_
  rintro e H3 ⟨rfl, rfl⟩
  cases h3 : [47].isPrefixOf l with
  | true =>
    simp -implicitDefEqProofs (maxSteps := 1000000) (disch := first | omega | assumption) only [endK, Sx, reduceIte, Nat.reduceEqDiff, reduceCtorEq, Nat.reduceAdd, Nat.reduceSub, Nat.reduceLT]
    exact .err hK (by unfold splitN; rw [if_neg h1, if_neg h2, if_pos h3])
  | false =>
  have h3' : ¬ [47].isPrefixOf l = true := by rw [h3]; exact fun h => by cases h
  cases h4 : dots l with
  | true =>
    simp -implicitDefEqProofs (maxSteps := 1000000) (disch := first | omega | assumption) only [endK, Sx, reduceIte, Nat.reduceEqDiff, reduceCtorEq, Nat.reduceAdd, Nat.reduceSub, Nat.reduceLT]
    exact .err hK (by unfold splitN; rw [if_neg h1, if_neg h2, if_neg h3', if_pos h4])
  | false =>
  have h4' : ¬ dots l = true := by rw [h4]; exact fun h => by cases h
  by_cases h5 : (comps l).length = 0
  · have q5 : (((comps l).length : Int) == 0) = true := by rw [beq_iff_eq]; omega
    simp -implicitDefEqProofs (maxSteps := 1000000) (disch := first | omega | assumption) only [endK, q5, Sx, reduceIte, Nat.reduceEqDiff, reduceCtorEq, Nat.reduceAdd, Nat.reduceSub, Nat.reduceLT]
    exact .err hK (by unfold splitN; rw [if_neg h1, if_neg h2, if_neg h3', if_neg h4', if_pos h5])
  have q5 : (((comps l).length : Int) == 0) = false := by rw [beq_eq_false_iff_ne]; omega
  simp -implicitDefEqProofs (maxSteps := 1000000) (disch := first | omega | assumption) only [endK, q5, Sx, reduceIte, Nat.reduceEqDiff, reduceCtorEq, Nat.reduceAdd, Nat.reduceSub, Nat.reduceLT]
  refine a_call (cf_spec hrow rfl (by omega)) ?_
  rintro e H4 ⟨rfl, rfl⟩
  cases h6 : (comps l).any fun p => decide (255 < p.length) with
  | true =>
    simp -implicitDefEqProofs (maxSteps := 1000000) (disch := first | omega | assumption) only [endK, Sx, reduceIte, Nat.reduceEqDiff, reduceCtorEq, Nat.reduceAdd, Nat.reduceSub, Nat.reduceLT]
    exact .err hK (by unfold splitN; rw [if_neg h1, if_neg h2, if_neg h3', if_neg h4', if_neg h5, if_pos h6])
  | false =>
  have h6' : ¬ ((comps l).any fun p => decide (255 < p.length)) = true := by rw [h6]; exact fun h => by cases h
  by_cases h7 : 256 < (comps l).length
  · have q7 : decide ((256 : Int) < ((comps l).length : Int)) = true := decide_eq_true (by omega)
    simp -implicitDefEqProofs (maxSteps := 1000000) (disch := first | omega | assumption) only [endK, q7, Sx, reduceIte, Nat.reduceEqDiff, reduceCtorEq, Nat.reduceAdd, Nat.reduceSub, Nat.reduceLT]
    exact .err hK (by unfold splitN; rw [if_neg h1, if_neg h2, if_neg h3', if_neg h4', if_neg h5, if_neg h6', if_pos h7])
  · have q7 : decide ((256 : Int) < ((comps l).length : Int)) = false := decide_eq_false (by omega)
    simp -implicitDefEqProofs (maxSteps := 1000000) (disch := first | omega | assumption) only [endK, q7, Sx, reduceIte, Nat.reduceEqDiff, reduceCtorEq, Nat.reduceAdd, Nat.reduceSub, Nat.reduceLT]
    have e : splitN l = (comps l, 0) := by unfold splitN; rw [if_neg h1, if_neg h2, if_neg h3', if_neg h4', if_neg h5, if_neg h6', if_neg h7]
    exact ⟨_, by rw [e], by rw [e]; exact hO, hK, hF⟩

/-- while the document's pieces are gone through -/
structure RS (H0 : Heap) (a : Option Addr) (c : Nat) (ps : List (List UInt8)) (i : Nat) (env : Env) (H : Heap) : Prop where
  h4 : env 4 = .slice a ps.length c
  h7 : env 7 = .int .i64 i
  h6 : env 6 = .bool (((ps.take i).filter goodC).any fun p => decide (255 < p.length))
  nd : (ps.take i).any isDots = false
  K : Keep H0 H
  rest : ∃ v, env 5 = v ∧ Ss H v ((ps.take i).filter goodC) ∧ Fresh H0 v
theorem or_dec {b : Bool} {p : List UInt8} : (b || decide (255 < p.length)) = if b then true else decide (255 < p.length) := by cases b <;> rfl

set_option maxHeartbeats 4000000 in
theorem rsplit_round {H0 H : Heap} {a : Option Addr} {c i : Nat} {ps : List (List UInt8)} {env : Env} {Q : Post} {QP : List PanicEntry → Heap → Prop} (hr : Row H0 a (strs ps)) (hl : ps.length ≤ 1099511627) (hi : i < ps.length) (hS : RS H0 a c ps i env H)
    (hk : ∀ env' H', RS H0 a c ps (i + 1) env' H' → Q .normal env' H') (ht : ∀ env', env' 2 = .slice none 0 0 → env' 3 = .int .i64 92 → ps.any isDots = true → Keep H0 H → Q .ret env' H) : awpC Tryd.prog L24_1 Q QP env H := by
  obtain ⟨h4, h7, h6, hnd, hK, v, h5, hO, hF⟩ := hS
  have f0 : decide ((i : Int) < (ps.length : Int)) = true := decide_eq_true (by omega)
  obtain ⟨b, rfl, hb⟩ := str_at (hK.row hr) hi
  have hft := filter_take hi goodC
  have hat := any_take hi isDots
  have hmem : ps[i] ∈ ps := List.getElem_mem hi
  obtain ⟨p, hp⟩ : ∃ p, p = ps[i] := ⟨_, rfl⟩
  rw [← hp] at hb hft hat hmem
  have hsv := hO.scalar
  obtain ⟨g, hg⟩ : ∃ g, g = ((ps.take i).filter goodC).any fun p => decide (255 < p.length) := ⟨_, rfl⟩
  rw [← hg] at h6
  have fin : ∀ env2 : Env, env2 4 = .slice (some b) ps.length c → env2 5 = v → env2 6 = .bool g → env2 7 = .int .i64 ((i : Int) + 1) → goodC p = false → isDots p = false → Q .normal env2 H := by
    intro env2 e4 e5 e6 e7 hgd hd
    rw [hgd] at hft
    refine hk _ _ ⟨e4, by rw [e7]; rfl, ?_, by rw [hat, hnd, hd]; rfl, hK, v, e5, ?_, hF⟩
    · rw [e6, hft, hg]; simp
    · rw [hft]
      simpa using hO
  unfold L24_1
  by_cases h3' : p = [46, 46]
  · have q3 : decide (p = [46, 46]) = true := decide_eq_true h3'
    simp -implicitDefEqProofs (maxSteps := 1000000) (disch := first | omega | assumption) only [h4, h5, h6, h7, f0, hb, q3, t_eq, Sx, reduceIte, Nat.reduceEqDiff, reduceCtorEq, Nat.reduceAdd, Nat.reduceSub, Nat.reduceLT]
    exact ht _ (by simp -implicitDefEqProofs (maxSteps := 1000000) (disch := first | omega | assumption) only [Sx, reduceIte, Nat.reduceEqDiff, reduceCtorEq, Nat.reduceAdd, Nat.reduceSub, Nat.reduceLT]) (by simp -implicitDefEqProofs (maxSteps := 1000000) (disch := first | omega | assumption) only [Sx, reduceIte, Nat.reduceEqDiff, reduceCtorEq, Nat.reduceAdd, Nat.reduceSub, Nat.reduceLT]) (List.any_eq_true.2 ⟨p, hmem, q3⟩) hK
  have q3 : decide (p = [46, 46]) = false := decide_eq_false h3'
  by_cases h1 : p = []
  · have q1 : decide (p = []) = true := decide_eq_true h1
    simp -implicitDefEqProofs (maxSteps := 1000000) (disch := first | omega | assumption) only [h4, h5, h6, h7, f0, hb, q1, q3, t_eq, Bool.not_true, l_g, Sx, reduceIte, Nat.reduceEqDiff, reduceCtorEq, Nat.reduceAdd, Nat.reduceSub, Nat.reduceLT]
    unfold L24_0
    simp -implicitDefEqProofs (maxSteps := 1000000) (disch := first | omega | assumption) only [h4, h5, h6, h7, Sx, reduceIte, Nat.reduceEqDiff, reduceCtorEq, Nat.reduceAdd, Nat.reduceSub, Nat.reduceLT]
    exact fin _ (by simp -implicitDefEqProofs (maxSteps := 1000000) (disch := first | omega | assumption) only [h4, Sx, reduceIte, Nat.reduceEqDiff, reduceCtorEq, Nat.reduceAdd, Nat.reduceSub, Nat.reduceLT]) (by simp -implicitDefEqProofs (maxSteps := 1000000) (disch := first | omega | assumption) only [h5, Sx, reduceIte, Nat.reduceEqDiff, reduceCtorEq, Nat.reduceAdd, Nat.reduceSub, Nat.reduceLT]) (by simp -implicitDefEqProofs (maxSteps := 1000000) (disch := first | omega | assumption) only [h6, Sx, reduceIte, Nat.reduceEqDiff, reduceCtorEq, Nat.reduceAdd, Nat.reduceSub, Nat.reduceLT]) (by simp -implicitDefEqProofs (maxSteps := 1000000) (disch := first | omega | assumption) only [Sx, reduceIte, Nat.reduceEqDiff, reduceCtorEq, Nat.reduceAdd, Nat.reduceSub, Nat.reduceLT]) (by rw [h1]; rfl) q3
  have q1 : decide (p = []) = false := decide_eq_false h1
  by_cases h2' : p = [46]
  · have q2 : decide (p = [46]) = true := decide_eq_true h2'
    simp -implicitDefEqProofs (maxSteps := 1000000) (disch := first | omega | assumption) only [h4, h5, h6, h7, f0, hb, q1, q2, q3, t_eq, Bool.not_true, Bool.not_false, l_g, Sx, reduceIte, Nat.reduceEqDiff, reduceCtorEq, Nat.reduceAdd, Nat.reduceSub, Nat.reduceLT]
    unfold L24_0
    simp -implicitDefEqProofs (maxSteps := 1000000) (disch := first | omega | assumption) only [h4, h5, h6, h7, Sx, reduceIte, Nat.reduceEqDiff, reduceCtorEq, Nat.reduceAdd, Nat.reduceSub, Nat.reduceLT]
    exact fin _ (by simp -implicitDefEqProofs (maxSteps := 1000000) (disch := first | omega | assumption) only [h4, Sx, reduceIte, Nat.reduceEqDiff, reduceCtorEq, Nat.reduceAdd, Nat.reduceSub, Nat.reduceLT]) (by simp -implicitDefEqProofs (maxSteps := 1000000) (disch := first | omega | assumption) only [h5, Sx, reduceIte, Nat.reduceEqDiff, reduceCtorEq, Nat.reduceAdd, Nat.reduceSub, Nat.reduceLT]) (by simp -implicitDefEqProofs (maxSteps := 1000000) (disch := first | omega | assumption) only [h6, Sx, reduceIte, Nat.reduceEqDiff, reduceCtorEq, Nat.reduceAdd, Nat.reduceSub, Nat.reduceLT]) (by simp -implicitDefEqProofs (maxSteps := 1000000) (disch := first | omega | assumption) only [Sx, reduceIte, Nat.reduceEqDiff, reduceCtorEq, Nat.reduceAdd, Nat.reduceSub, Nat.reduceLT]) (by rw [h2']; rfl) q3
  have q2 : decide (p = [46]) = false := decide_eq_false h2'
  have hgood : goodC p = true := decide_eq_true ⟨h1, h2', h3'⟩
  rw [if_pos hgood] at hft
  simp -implicitDefEqProofs (maxSteps := 1000000) (disch := first | omega | assumption) only [h4, h5, h6, h7, f0, hb, q1, q2, q3, t_eq, Bool.not_true, Bool.not_false, l_g, Sx, reduceIte, Nat.reduceEqDiff, reduceCtorEq, Nat.reduceAdd, Nat.reduceSub, Nat.reduceLT]
  refine lits_str ?_
  intro r1 H1 hO1 hk1 hr1
  try simp -implicitDefEqProofs (maxSteps := 1000000) (disch := first | omega | assumption) only [h4, h5, h6, h7, Sx, reduceIte, Nat.reduceEqDiff, reduceCtorEq, Nat.reduceAdd, Nat.reduceSub, Nat.reduceLT]
  have hfl : ((ps.take i).filter goodC).length ≤ ps.length := by
    have h1 := List.length_filter_le goodC (ps.take i)
    rw [List.length_take] at h1
    omega
  refine app_str (hO.keep hk1) (by omega) hO1 ?_
  intro v2 H2 hO2 ho2 hm2
  have hkk : Keep H0 H2 := ho2.keep (hK.trans hk1) hF
  obtain ⟨b', e', hb2⟩ := str_at (hkk.row hr) hi
  cases e'
  rw [← hp] at hb2
  have e1 : decide ((255 : Int) < (p.length : Int)) = decide (255 < p.length) := by
    by_cases h : 255 < p.length
    · rw [decide_eq_true h, decide_eq_true (by omega)]
    · rw [decide_eq_false h, decide_eq_false (by omega)]
  have fin2 : ∀ env2 : Env, env2 4 = .slice (some b) ps.length c → env2 5 = v2 → env2 6 = .bool (g || decide (255 < p.length)) → env2 7 = .int .i64 ((i : Int) + 1) → Q .normal env2 H2 := by
    intro env2 e4 e5 e6 e7
    refine hk _ _ ⟨e4, by rw [e7]; rfl, ?_, by rw [hat, hnd, show isDots p = false from q3]; rfl, hkk, v2, e5, ?_, hm2.fresh (hK.trans hk1) hF⟩
    · rw [e6, hft, List.any_append, ← hg]; simp
    · rw [hft]; exact hO2
  cases g with
  | true =>
    try simp -implicitDefEqProofs (maxSteps := 1000000) (disch := first | omega | assumption) only [h4, h5, h6, h7, hb2, t_size, e1, l_g, Sx, reduceIte, Nat.reduceEqDiff, reduceCtorEq, Nat.reduceAdd, Nat.reduceSub, Nat.reduceLT]
    unfold L24_0
    simp -implicitDefEqProofs (maxSteps := 1000000) (disch := first | omega | assumption) only [h4, h5, h6, h7, Sx, reduceIte, Nat.reduceEqDiff, reduceCtorEq, Nat.reduceAdd, Nat.reduceSub, Nat.reduceLT]
    exact fin2 _ (by simp -implicitDefEqProofs (maxSteps := 1000000) (disch := first | omega | assumption) only [h4, Sx, reduceIte, Nat.reduceEqDiff, reduceCtorEq, Nat.reduceAdd, Nat.reduceSub, Nat.reduceLT]) (by simp -implicitDefEqProofs (maxSteps := 1000000) (disch := first | omega | assumption) only [Sx, reduceIte, Nat.reduceEqDiff, reduceCtorEq, Nat.reduceAdd, Nat.reduceSub, Nat.reduceLT]) (by simp -implicitDefEqProofs (maxSteps := 1000000) (disch := first | omega | assumption) only [Sx, reduceIte, Nat.reduceEqDiff, reduceCtorEq, Nat.reduceAdd, Nat.reduceSub, Nat.reduceLT]; rfl) (by simp -implicitDefEqProofs (maxSteps := 1000000) (disch := first | omega | assumption) only [Sx, reduceIte, Nat.reduceEqDiff, reduceCtorEq, Nat.reduceAdd, Nat.reduceSub, Nat.reduceLT])
  | false =>
    try simp -implicitDefEqProofs (maxSteps := 1000000) (disch := first | omega | assumption) only [h4, h5, h6, h7, hb2, t_size, e1, l_g, Sx, reduceIte, Nat.reduceEqDiff, reduceCtorEq, Nat.reduceAdd, Nat.reduceSub, Nat.reduceLT]
    unfold L24_0
    simp -implicitDefEqProofs (maxSteps := 1000000) (disch := first | omega | assumption) only [h4, h5, h6, h7, Sx, reduceIte, Nat.reduceEqDiff, reduceCtorEq, Nat.reduceAdd, Nat.reduceSub, Nat.reduceLT]
    exact fin2 _ (by simp -implicitDefEqProofs (maxSteps := 1000000) (disch := first | omega | assumption) only [h4, Sx, reduceIte, Nat.reduceEqDiff, reduceCtorEq, Nat.reduceAdd, Nat.reduceSub, Nat.reduceLT]) (by simp -implicitDefEqProofs (maxSteps := 1000000) (disch := first | omega | assumption) only [Sx, reduceIte, Nat.reduceEqDiff, reduceCtorEq, Nat.reduceAdd, Nat.reduceSub, Nat.reduceLT]) (by simp -implicitDefEqProofs (maxSteps := 1000000) (disch := first | omega | assumption) only [Sx, reduceIte, Nat.reduceEqDiff, reduceCtorEq, Nat.reduceAdd, Nat.reduceSub, Nat.reduceLT]; rfl) (by simp -implicitDefEqProofs (maxSteps := 1000000) (disch := first | omega | assumption) only [Sx, reduceIte, Nat.reduceEqDiff, reduceCtorEq, Nat.reduceAdd, Nat.reduceSub, Nat.reduceLT])

theorem rsplit_loop {H0 H : Heap} {a : Option Addr} {c : Nat} {ps : List (List UInt8)} {env : Env} {Q : Post} {QP : List PanicEntry → Heap → Prop} (hr : Row H0 a (strs ps)) (hl : ps.length ≤ 1099511627) (hS : RS H0 a c ps 0 env H)
    (hk : ∀ env' H', RS H0 a c ps ps.length env' H' → Q (.exit 0) env' H') (ht : ∀ env' H', env' 2 = .slice none 0 0 → env' 3 = .int .i64 92 → ps.any isDots = true → Keep H0 H' → Q .ret env' H') : awpC Tryd.prog (.loop L24_1) Q QP env H := by
  refine c_loop (fun k env H' => ∃ i, k + i = ps.length ∧ RS H0 a c ps i env H') ps.length ⟨0, by omega, hS⟩ ?_
  rintro k env H2 ⟨i, hki, hS⟩
  by_cases hi : i < ps.length
  · refine rsplit_round hr hl hi hS ?_ ?_
    · intro env' H' hS'
      exact ⟨k - 1, by omega, i + 1, by omega, hS'⟩
    · intro env' e2 e3 hd hK
      exact ht env' H2 e2 e3 hd hK
  · have : i = ps.length := by omega
    subst this
    obtain ⟨h4, h7, h6, hnd, hK, v, h5, hO, hF⟩ := hS
    have f0 : decide ((ps.length : Int) < (ps.length : Int)) = false := decide_eq_false (by omega)
    have hsv := hO.scalar
    unfold L24_1
    simp -implicitDefEqProofs (maxSteps := 1000000) (disch := first | omega | assumption) only [h4, h5, h6, h7, f0, Sx, reduceIte, Nat.reduceEqDiff, reduceCtorEq, Nat.reduceAdd, Nat.reduceSub, Nat.reduceLT]
    exact hk _ _ ⟨by simp -implicitDefEqProofs (maxSteps := 1000000) (disch := first | omega | assumption) only [h4, Sx, reduceIte, Nat.reduceEqDiff, reduceCtorEq, Nat.reduceAdd, Nat.reduceSub, Nat.reduceLT], by simp -implicitDefEqProofs (maxSteps := 1000000) (disch := first | omega | assumption) only [h7, Sx, reduceIte, Nat.reduceEqDiff, reduceCtorEq, Nat.reduceAdd, Nat.reduceSub, Nat.reduceLT], by simp -implicitDefEqProofs (maxSteps := 1000000) (disch := first | omega | assumption) only [h6, Sx, reduceIte, Nat.reduceEqDiff, reduceCtorEq, Nat.reduceAdd, Nat.reduceSub, Nat.reduceLT], hnd, hK, v, by simp -implicitDefEqProofs (maxSteps := 1000000) (disch := first | omega | assumption) only [h5, Sx, reduceIte, Nat.reduceEqDiff, reduceCtorEq, Nat.reduceAdd, Nat.reduceSub, Nat.reduceLT], hO, hF⟩

set_option maxHeartbeats 4000000 in
theorem rsplit_spec {H : Heap} {l : List UInt8} (hl : l.length ≤ 109951162) :
    ACalls Tryd.prog 24 [Value.string ⟨l.toArray⟩].toArray H fun e H' => Names H (splitN l) e H' := by
  refine call24 (Nat.le_of_ble_eq_true rfl) ?_
  unfold L24 env0
  have hcl := comps_le l
  have hpl : (splitL l).length ≤ 1099511627 := by rw [splitL_len]; have := List.count_le_length (a := (47 : UInt8)) (l := l); omega
  by_cases h1 : 4096 < l.length
  · have q1 : decide ((4096 : Int) < (l.length : Int)) = true := decide_eq_true (by omega)
    simp -implicitDefEqProofs (maxSteps := 1000000) (disch := first | omega | assumption) only [t_size, q1, Sx, reduceIte, Nat.reduceEqDiff, reduceCtorEq, Nat.reduceAdd, Nat.reduceSub, Nat.reduceLT]
    exact .err (Keep.refl _) (by unfold splitN; rw [if_pos h1])
  have q1 : decide ((4096 : Int) < (l.length : Int)) = false := decide_eq_false (by omega)
  simp -implicitDefEqProofs (maxSteps := 1000000) (disch := first | omega | assumption) only [t_size, q1, Sx, reduceIte, Nat.reduceEqDiff, reduceCtorEq, Nat.reduceAdd, Nat.reduceSub, Nat.reduceLT]
  refine a_call (has_spec (c := 0) (by omega)) ?_
  rintro e H2 ⟨rfl, rfl⟩
  by_cases h2 : 0 ∈ l
  · rw [decide_eq_true h2]
    simp -implicitDefEqProofs (maxSteps := 1000000) (disch := first | omega | assumption) only [endK, Sx, reduceIte, Nat.reduceEqDiff, reduceCtorEq, Nat.reduceAdd, Nat.reduceSub, Nat.reduceLT]
    exact .err (Keep.refl _) (by unfold splitN; rw [if_neg h1, if_pos h2])
  rw [decide_eq_false h2]
  have tail : ∀ env2 : Env, env2 0 = .string ⟨l.toArray⟩ → env2 2 = .slice none 0 0 → True := fun _ _ _ => trivial
  have hempty : l.length = 0 → ¬ [47].isPrefixOf l = true := by
    intro h0
    rw [List.length_eq_zero_iff.1 h0]
    exact fun h => by cases h
  rcases Nat.eq_zero_or_pos l.length with h0 | h0
  · have f0 : decide ((0 : Int) < (l.length : Int)) = false := decide_eq_false (by omega)
    have h3' := hempty h0
    have h5 : (comps l).length = 0 := by rw [List.length_eq_zero_iff.1 h0]; rfl
    have h4' : ¬ dots l = true := by rw [List.length_eq_zero_iff.1 h0]; exact fun h => by cases h
    simp -implicitDefEqProofs (maxSteps := 1000000) (disch := first | omega | assumption) only [endK, t_size, f0, l_g, Sx, reduceIte, Nat.reduceEqDiff, reduceCtorEq, Nat.reduceAdd, Nat.reduceSub, Nat.reduceLT]
    refine a_call (pieces_spec (by omega)) ?_
    rintro e H3 ⟨v, rfl, hO, hK, hF⟩
    obtain ⟨pa, pc, rfl, hpc, hrow⟩ := hO.len
    simp -implicitDefEqProofs (maxSteps := 1000000) (disch := first | omega | assumption) only [endK, Sx, reduceIte, Nat.reduceEqDiff, reduceCtorEq, Nat.reduceAdd, Nat.reduceSub, Nat.reduceLT]
    refine lits_nostr ?_
    intro r4 H4 hO4 hk4 hr4
    try simp -implicitDefEqProofs (maxSteps := 1000000) (disch := first | omega | assumption) only [Sx, reduceIte, Nat.reduceEqDiff, reduceCtorEq, Nat.reduceAdd, Nat.reduceSub, Nat.reduceLT]
    refine rsplit_loop (c := pc) hrow hpl ⟨by simp -implicitDefEqProofs (maxSteps := 1000000) (disch := first | omega | assumption) only [Sx, reduceIte, Nat.reduceEqDiff, reduceCtorEq, Nat.reduceAdd, Nat.reduceSub, Nat.reduceLT], by simp -implicitDefEqProofs (maxSteps := 1000000) (disch := first | omega | assumption) only [Sx, reduceIte, Nat.reduceEqDiff, reduceCtorEq, Nat.reduceAdd, Nat.reduceSub, Nat.reduceLT]; rfl, by simp -implicitDefEqProofs (maxSteps := 1000000) (disch := first | omega | assumption) only [Sx, reduceIte, Nat.reduceEqDiff, reduceCtorEq, Nat.reduceAdd, Nat.reduceSub, Nat.reduceLT]; rfl, rfl, hk4, _, by simp -implicitDefEqProofs (maxSteps := 1000000) (disch := first | omega | assumption) only [Sx, reduceIte, Nat.reduceEqDiff, reduceCtorEq, Nat.reduceAdd, Nat.reduceSub, Nat.reduceLT], hO4, (fun q hq => by cases hq; exact hr4)⟩ ?_ ?_
    · rintro env5 H5 ⟨h4, h7, h6, hnd, hK5, v5, h5', hO5, hF5⟩
      rw [List.take_length] at h6 hO5
      obtain ⟨va, vc, rfl, hvc, -⟩ := hO5.len
      have q5 : (((comps l).length : Int) == 0) = true := by rw [beq_iff_eq]; omega
      have q5' : ((((splitL l).filter goodC).length : Int) == 0) = true := q5
      simp -implicitDefEqProofs (maxSteps := 1000000) (disch := first | omega | assumption) only [h5', q5', Sx, reduceIte, Nat.reduceEqDiff, reduceCtorEq, Nat.reduceAdd, Nat.reduceSub, Nat.reduceLT]
      exact .err (hK.trans hK5) (by unfold splitN; rw [if_neg h1, if_neg h2, if_neg h3', if_neg h4', if_pos h5])
    · intro env5 H5 _ _ hd _
      exact absurd hd h4'
  · have f0 : decide ((0 : Int) < (l.length : Int)) = true := decide_eq_true (by omega)
    obtain ⟨x, hx⟩ : ∃ x, l[0]? = some x := ⟨_, List.getElem?_eq_getElem h0⟩
    obtain ⟨r, hlr⟩ : ∃ r, l = x :: r := by
      cases l with
      | nil => simp at h0
      | cons y r => simp at hx; exact ⟨r, by rw [hx]⟩
    by_cases hs : x = 47
    · have f2 : ((x.toNat : Int) == 47) = true := by rw [hs]; rfl
      have h3 : [47].isPrefixOf l = true := by rw [hlr, hs]; simp [List.isPrefixOf]
      simp -implicitDefEqProofs (maxSteps := 1000000) (disch := first | omega | assumption) only [endK, t_size, f0, e_ixs, hx, f2, Int.toNat_zero, l_g, Sx, reduceIte, Nat.reduceEqDiff, reduceCtorEq, Nat.reduceAdd, Nat.reduceSub, Nat.reduceLT]
      exact .err (Keep.refl _) (by unfold splitN; rw [if_neg h1, if_neg h2, if_pos h3])
    · have f2 : ((x.toNat : Int) == 47) = false := by
        rw [beq_eq_false_iff_ne]
        intro e
        exact hs (UInt8.toNat_inj.1 (by rw [show (47 : UInt8).toNat = 47 from rfl]; omega))
      have h3' : ¬ [47].isPrefixOf l = true := by rw [hlr]; simp [List.isPrefixOf]; exact fun e => hs e.symm
      simp -implicitDefEqProofs (maxSteps := 1000000) (disch := first | omega | assumption) only [endK, t_size, f0, e_ixs, hx, f2, Int.toNat_zero, l_g, Sx, reduceIte, Nat.reduceEqDiff, reduceCtorEq, Nat.reduceAdd, Nat.reduceSub, Nat.reduceLT]
      refine a_call (pieces_spec (by omega)) ?_
      rintro e H3 ⟨v, rfl, hO, hK, hF⟩
      obtain ⟨pa, pc, rfl, hpc, hrow⟩ := hO.len
      simp -implicitDefEqProofs (maxSteps := 1000000) (disch := first | omega | assumption) only [endK, Sx, reduceIte, Nat.reduceEqDiff, reduceCtorEq, Nat.reduceAdd, Nat.reduceSub, Nat.reduceLT]
      refine lits_nostr ?_
      intro r4 H4 hO4 hk4 hr4
      try simp -implicitDefEqProofs (maxSteps := 1000000) (disch := first | omega | assumption) only [Sx, reduceIte, Nat.reduceEqDiff, reduceCtorEq, Nat.reduceAdd, Nat.reduceSub, Nat.reduceLT]
      refine rsplit_loop (c := pc) hrow hpl ⟨by simp -implicitDefEqProofs (maxSteps := 1000000) (disch := first | omega | assumption) only [Sx, reduceIte, Nat.reduceEqDiff, reduceCtorEq, Nat.reduceAdd, Nat.reduceSub, Nat.reduceLT], by simp -implicitDefEqProofs (maxSteps := 1000000) (disch := first | omega | assumption) only [Sx, reduceIte, Nat.reduceEqDiff, reduceCtorEq, Nat.reduceAdd, Nat.reduceSub, Nat.reduceLT]; rfl, by simp -implicitDefEqProofs (maxSteps := 1000000) (disch := first | omega | assumption) only [Sx, reduceIte, Nat.reduceEqDiff, reduceCtorEq, Nat.reduceAdd, Nat.reduceSub, Nat.reduceLT]; rfl, rfl, hk4, _, by simp -implicitDefEqProofs (maxSteps := 1000000) (disch := first | omega | assumption) only [Sx, reduceIte, Nat.reduceEqDiff, reduceCtorEq, Nat.reduceAdd, Nat.reduceSub, Nat.reduceLT], hO4, (fun q hq => by cases hq; exact hr4)⟩ ?_ ?_
      · rintro env5 H5 ⟨h4, h7, h6, hnd, hK5, v5, h5', hO5, hF5⟩
        rw [List.take_length] at h6 hO5 hnd
        have h4' : ¬ dots l = true := by unfold dots; rw [hnd]; exact fun h => by cases h
        obtain ⟨va, vc, rfl, hvc, -⟩ := hO5.len
        have hfc : (splitL l).filter goodC = comps l := rfl
        rw [hfc] at h5' h6 hO5
        by_cases h5 : (comps l).length = 0
        · have q5 : (((comps l).length : Int) == 0) = true := by rw [beq_iff_eq]; omega
          simp -implicitDefEqProofs (maxSteps := 1000000) (disch := first | omega | assumption) only [h5', q5, Sx, reduceIte, Nat.reduceEqDiff, reduceCtorEq, Nat.reduceAdd, Nat.reduceSub, Nat.reduceLT]
          exact .err (hK.trans hK5) (by unfold splitN; rw [if_neg h1, if_neg h2, if_neg h3', if_neg h4', if_pos h5])
        have q5 : (((comps l).length : Int) == 0) = false := by rw [beq_eq_false_iff_ne]; omega
        cases h6e : (comps l).any fun p => decide (255 < p.length) with
        | true =>
          rw [h6e] at h6
          simp -implicitDefEqProofs (maxSteps := 1000000) (disch := first | omega | assumption) only [h5', h6, q5, Sx, reduceIte, Nat.reduceEqDiff, reduceCtorEq, Nat.reduceAdd, Nat.reduceSub, Nat.reduceLT]
          exact .err (hK.trans hK5) (by unfold splitN; rw [if_neg h1, if_neg h2, if_neg h3', if_neg h4', if_neg h5, if_pos h6e])
        | false =>
        have h6' : ¬ ((comps l).any fun p => decide (255 < p.length)) = true := by rw [h6e]; exact fun h => by cases h
        rw [h6e] at h6
        by_cases h7' : 256 < (comps l).length
        · have q7 : decide ((256 : Int) < ((comps l).length : Int)) = true := decide_eq_true (by omega)
          simp -implicitDefEqProofs (maxSteps := 1000000) (disch := first | omega | assumption) only [h5', h6, q5, q7, Sx, reduceIte, Nat.reduceEqDiff, reduceCtorEq, Nat.reduceAdd, Nat.reduceSub, Nat.reduceLT]
          exact .err (hK.trans hK5) (by unfold splitN; rw [if_neg h1, if_neg h2, if_neg h3', if_neg h4', if_neg h5, if_neg h6', if_pos h7'])
        · have q7 : decide ((256 : Int) < ((comps l).length : Int)) = false := decide_eq_false (by omega)
          simp -implicitDefEqProofs (maxSteps := 1000000) (disch := first | omega | assumption) only [h5', h6, q5, q7, Sx, reduceIte, Nat.reduceEqDiff, reduceCtorEq, Nat.reduceAdd, Nat.reduceSub, Nat.reduceLT]
          have e : splitN l = (comps l, 0) := by unfold splitN; rw [if_neg h1, if_neg h2, if_neg h3', if_neg h4', if_neg h5, if_neg h6', if_neg h7']
          exact ⟨.slice va (comps l).length vc, by rw [e], by rw [e]; exact hO5, hK.trans hK5, fun q hq => hK.none (hF5 q hq)⟩
      · intro env5 H5 e2 e3 hd hK5
        simp -implicitDefEqProofs (maxSteps := 1000000) (disch := first | omega | assumption) only [e2, e3, Sx, reduceIte, Nat.reduceEqDiff, reduceCtorEq, Nat.reduceAdd, Nat.reduceSub, Nat.reduceLT]
        exact .err (hK.trans hK5) (by unfold splitN; rw [if_neg h1, if_neg h2, if_neg h3', if_pos (show dots l = true from hd)])

end Go.Proofs.YtmgpfdfbcnlocaaDoor.S09
