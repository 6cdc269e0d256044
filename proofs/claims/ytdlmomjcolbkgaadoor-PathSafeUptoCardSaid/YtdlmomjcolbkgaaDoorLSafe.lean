/-
  PathSafe: any name, any directory.
-/
import Derived.Test.YtdlmomjcolbkgaaDoorNames2
import Derived.Test.YtdlmomjcolbkgaaDoorSameT
import Derived.Test.YtdlmomjcolbkgaaDoorLeaves
import Derived.Test.YtdlmomjcolbkgaaDoorLowD
set_option linter.unusedVariables false
set_option linter.unusedSimpArgs false
namespace Go.Proofs.YtdlmomjcolbkgaaDoor.S09
open Go Go.RowKit Go.Proofs.YtdlmomjcolbkgaaDoor.Sep Go.Proofs.YtdlmomjcolbkgaaDoor.Low Go.Proofs.YtdlmomjcolbkgaaDoor.Lib

theorem out_good : ∀ {ps : List (List UInt8)} (d : Nat), (∀ p ∈ ps, p ≠ [] ∧ p ≠ [46] ∧ p ≠ [46, 46]) → goOut d ps = false
  | [], _, _ => rfl
  | p :: ps, d, h => by
    obtain ⟨h1, h2, h3⟩ := h p List.mem_cons_self
    rw [goOut, if_neg (by rintro (h | h); exact h1 h; exact h2 h), if_neg h3]
    exact out_good (d + 1) fun q hq => h q (List.mem_cons_of_mem _ hq)
theorem jn_abs {ls : List (List UInt8)} (h : ∀ p ∈ ls, p ≠ [] ∧ 47 ∉ p) : ¬ [47].isPrefixOf (jn ls) = true := by
  cases hl : ls with
  | nil => simp [jn]
  | cons p r =>
    have hp := h p (by rw [hl]; exact List.mem_cons_self)
    cases hpp : p with
    | nil => exact absurd hpp hp.1
    | cons b q =>
      have : b ≠ 47 := fun e => hp.2 (by rw [hpp, e]; exact List.mem_cons_self)
      simp [jn, List.isPrefixOf]
      exact fun e => this e.symm
/-- what is taken leads out from nowhere -/
theorem safe_out {ls : List (List UInt8)} (d : Nat) (hne : ls ≠ []) (h : ∀ p ∈ ls, (p ≠ [] ∧ p ≠ [46] ∧ p ≠ [46, 46]) ∧ 47 ∉ p) : leavesL d (jn ls) = false := by
  unfold leavesL
  rw [if_neg (jn_abs fun p hp => ⟨(h p hp).1.1, (h p hp).2⟩), split_jn hne fun p hp => (h p hp).2]
  exact out_good d fun p hp => (h p hp).1

set_option maxHeartbeats 4000000 in
theorem safe_inner {H : Heap} {a : Option Addr} {c i : Nat} {xs : List (List UInt8)} {env : Env} {Q : Post} {QP : List PanicEntry → Heap → Prop} (hr : Row H a (strs xs)) (hi : i < xs.length) (hl : xs[i].length ≤ 255) (hx : xs.length ≤ 256) (hno : 47 ∉ xs[i] ∧ 0 ∉ xs[i])
    {j : Nat} (hj : j < xs[i].length) (h5 : env 5 = .slice a xs.length c) (h9 : env 9 = .int .i64 i) (h10 : env 10 = .int .i64 j)
    (hk : ∀ env', env' 5 = env 5 → env' 9 = env 9 → env' 1 = env 1 → env' 10 = .int .i64 (j + 1 : Nat) → Q .normal env' H) : awpC Tryd.prog L6_0 Q QP env H := by
  unfold L6_0
  obtain ⟨b, rfl, hb⟩ := str_at hr hi
  obtain ⟨p, hp⟩ : ∃ p, p = xs[i] := ⟨_, rfl⟩
  rw [← hp] at hb hl hj hno
  have f0 : decide ((j : Int) < (p.length : Int)) = true := decide_eq_true (by omega)
  obtain ⟨x, hx'⟩ : ∃ x, p[j]? = some x := ⟨_, List.getElem?_eq_getElem hj⟩
  have hxm : x ∈ p := List.mem_of_getElem? hx'
  have f1 : ((x.toNat : Int) == 47) = false := by
    rw [beq_eq_false_iff_ne]; intro e
    exact hno.1 (by rw [show (47 : UInt8) = x from UInt8.toNat_inj.1 (by rw [show (47 : UInt8).toNat = 47 from rfl]; omega)]; exact hxm)
  have f2 : ((x.toNat : Int) == 0) = false := by
    rw [beq_eq_false_iff_ne]; intro e
    exact hno.2 (by rw [show (0 : UInt8) = x from UInt8.toNat_inj.1 (by rw [show (0 : UInt8).toNat = 0 from rfl]; omega)]; exact hxm)
  simp -implicitDefEqProofs (maxSteps := 1000000) (disch := first | omega | assumption) only [h5, h9, h10, f0, hb, t_size, e_ixs, hx', f1, f2, l_g, Sx, reduceIte, Nat.reduceEqDiff, reduceCtorEq, Nat.reduceAdd, Nat.reduceSub, Nat.reduceLT]
  exact hk _ (by simp -implicitDefEqProofs (maxSteps := 1000000) (disch := first | omega | assumption) only [h5, Sx, reduceIte, Nat.reduceEqDiff, reduceCtorEq, Nat.reduceAdd, Nat.reduceSub, Nat.reduceLT]) (by simp -implicitDefEqProofs (maxSteps := 1000000) (disch := first | omega | assumption) only [h9, Sx, reduceIte, Nat.reduceEqDiff, reduceCtorEq, Nat.reduceAdd, Nat.reduceSub, Nat.reduceLT]) (by simp -implicitDefEqProofs (maxSteps := 1000000) (disch := first | omega | assumption) only [Sx, reduceIte, Nat.reduceEqDiff, reduceCtorEq, Nat.reduceAdd, Nat.reduceSub, Nat.reduceLT]) (by simp -implicitDefEqProofs (maxSteps := 1000000) (disch := first | omega | assumption) only [Int.natCast_add, Int.natCast_one, Sx, reduceIte, Nat.reduceEqDiff, reduceCtorEq, Nat.reduceAdd, Nat.reduceSub, Nat.reduceLT])

set_option maxHeartbeats 4000000 in
theorem safe_round {H : Heap} {a : Option Addr} {c i : Nat} {xs : List (List UInt8)} {env : Env} {Q : Post} {QP : List PanicEntry → Heap → Prop} (hr : Row H a (strs xs)) (hi : i < xs.length) (hx : xs.length ≤ 256)
    (hg : (xs[i] ≠ [] ∧ xs[i] ≠ [46] ∧ xs[i] ≠ [46, 46]) ∧ 47 ∉ xs[i] ∧ 0 ∉ xs[i] ∧ xs[i].length ≤ 255) (h5 : env 5 = .slice a xs.length c) (h9 : env 9 = .int .i64 i)
    (hk : ∀ env', env' 5 = env 5 → env' 1 = env 1 → env' 9 = .int .i64 (i + 1 : Nat) → Q .normal env' H) : awpC Tryd.prog L6_1 Q QP env H := by
  unfold L6_1
  obtain ⟨b, rfl, hb⟩ := str_at hr hi
  have hg' := hg
  obtain ⟨⟨g1, g2, g3⟩, g4, g5, g6⟩ := hg
  obtain ⟨p, hp⟩ : ∃ p, p = xs[i] := ⟨_, rfl⟩
  rw [← hp] at hb
  have f0 : decide ((i : Int) < (xs.length : Int)) = true := decide_eq_true (by omega)
  have q1 : decide (p = []) = false := decide_eq_false (hp ▸ g1)
  have q2 : decide (p = [46]) = false := decide_eq_false (hp ▸ g2)
  have q3 : decide (p = [46, 46]) = false := decide_eq_false (hp ▸ g3)
  have q4 : decide ((255 : Int) < (p.length : Int)) = false := decide_eq_false (by rw [hp]; omega)
  simp -implicitDefEqProofs (maxSteps := 1000000) (disch := first | omega | assumption) only [h5, h9, f0, hb, t_size, t_eq, q1, q2, q3, q4, l_g, Sx, reduceIte, Nat.reduceEqDiff, reduceCtorEq, Nat.reduceAdd, Nat.reduceSub, Nat.reduceLT]
  refine c_loop (fun k env' H' => H' = H ∧ ∃ j, k + j = p.length ∧ env' 5 = env 5 ∧ env' 9 = env 9 ∧ env' 1 = env 1 ∧ env' 10 = .int .i64 j) p.length ⟨rfl, 0, by omega, by simp -implicitDefEqProofs (maxSteps := 1000000) (disch := first | omega | assumption) only [h5, Sx, reduceIte, Nat.reduceEqDiff, reduceCtorEq, Nat.reduceAdd, Nat.reduceSub, Nat.reduceLT], by simp -implicitDefEqProofs (maxSteps := 1000000) (disch := first | omega | assumption) only [h9, Sx, reduceIte, Nat.reduceEqDiff, reduceCtorEq, Nat.reduceAdd, Nat.reduceSub, Nat.reduceLT], by simp -implicitDefEqProofs (maxSteps := 1000000) (disch := first | omega | assumption) only [Sx, reduceIte, Nat.reduceEqDiff, reduceCtorEq, Nat.reduceAdd, Nat.reduceSub, Nat.reduceLT], by simp -implicitDefEqProofs (maxSteps := 1000000) (disch := first | omega | assumption) only [Sx, reduceIte, Nat.reduceEqDiff, reduceCtorEq, Nat.reduceAdd, Nat.reduceSub, Nat.reduceLT]; rfl⟩ ?_
  rintro k env2 H1 ⟨rfl, j, hk2, e5, e9, e1, e10⟩
  by_cases hj : j < p.length
  · refine safe_inner hr hi g6 hx ⟨g4, g5⟩ (j := j) (by rw [← hp]; exact hj) (e5.trans h5) (e9.trans h9) e10 ?_
    intro env3 d5 d9 d1 d10
    exact ⟨k - 1, by omega, rfl, j + 1, by omega, d5.trans e5, d9.trans e9, d1.trans e1, d10⟩
  · unfold L6_0
    have f1 : decide ((j : Int) < (p.length : Int)) = false := decide_eq_false (by omega)
    have e5' := e5.trans h5
    have e9' := e9.trans h9
    simp -implicitDefEqProofs (maxSteps := 1000000) (disch := first | omega | assumption) only [e5', e9', e10, f1, hb, t_size, Sx, reduceIte, Nat.reduceEqDiff, reduceCtorEq, Nat.reduceAdd, Nat.reduceSub, Nat.reduceLT]
    exact hk _ (by simp -implicitDefEqProofs (maxSteps := 1000000) (disch := first | omega | assumption) only [e5, Sx, reduceIte, Nat.reduceEqDiff, reduceCtorEq, Nat.reduceAdd, Nat.reduceSub, Nat.reduceLT]) (by simp -implicitDefEqProofs (maxSteps := 1000000) (disch := first | omega | assumption) only [e1, Sx, reduceIte, Nat.reduceEqDiff, reduceCtorEq, Nat.reduceAdd, Nat.reduceSub, Nat.reduceLT]) (by simp -implicitDefEqProofs (maxSteps := 1000000) (disch := first | omega | assumption) only [Int.natCast_add, Int.natCast_one, Sx, reduceIte, Nat.reduceEqDiff, reduceCtorEq, Nat.reduceAdd, Nat.reduceSub, Nat.reduceLT])

set_option maxHeartbeats 8000000 in
theorem pathSafe_walk {H : Heap} {l : List UInt8} {A : Option Addr} {c : Nat} {xs : List (List UInt8)} (hl : l.length ≤ 10995116) (hr : Row H A (strs xs)) (hx : xs.length ≤ 1099511627) :
    ACalls Tryd.prog 6 [Value.string ⟨l.toArray⟩, .slice A xs.length c].toArray H fun e H' => e = .returned (.bool true) ∧ Keep H H' := by
  refine call6 (Nat.le_of_ble_eq_true rfl) ?_
  unfold L6 env0
  simp -implicitDefEqProofs (maxSteps := 1000000) (disch := first | omega | assumption) only [Sx, reduceIte, Nat.reduceEqDiff, reduceCtorEq, Nat.reduceAdd, Nat.reduceSub, Nat.reduceLT]
  refine a_call (psplit_spec (by omega)) ?_
  rintro e H1 ⟨v1, rfl, hO1, hk1, hF1⟩
  have hs1 := hO1.scalar
  by_cases h0 : (splitN l).2 = 0
  case neg =>
    have q0 : ((splitN l).2 != 0) = true := by rw [bne_iff_ne]; exact h0
    have hnil := split_err l h0
    rw [hnil] at hO1
    obtain ⟨a1, c1, rfl, -, -⟩ := Ss.len hO1
    simp -implicitDefEqProofs (maxSteps := 1000000) (disch := first | omega | assumption) only [endK, q0, Sx, reduceIte, Nat.reduceEqDiff, reduceCtorEq, Nat.reduceAdd, Nat.reduceSub, Nat.reduceLT]
    refine a_call (psplit_spec (l := [97]) (by decide)) ?_
    rintro e H2 ⟨v2, rfl, hO2, hk2, hF2⟩
    have hsp : splitN [97] = ([[97]], 0) := by decide
    rw [hsp] at hO2
    rw [hsp]
    obtain ⟨a2, c2, rfl, -, -⟩ := Ss.len hO2
    have q1 : (((0 : Nat) : Int) == 0) = true := rfl
    have q2 : ((0 : Int) == 0) = true := rfl
    have q3 : (((0 + 1 : Nat) : Int) == 1) = true := rfl
    simp -implicitDefEqProofs (maxSteps := 1000000) (disch := first | omega | assumption) only [endK, q1, q2, q3, l_g, Sx, reduceIte, Nat.reduceEqDiff, reduceCtorEq, Nat.reduceAdd, Nat.reduceSub, Nat.reduceLT]
    exact ⟨by trivial, hk1.trans hk2⟩
  have q0 : ((splitN l).2 != 0) = false := by rw [bne_eq_false_iff_eq]; exact h0
  have hT := split_ok h0
  obtain ⟨ls, hls⟩ : ∃ ls, ls = (splitN l).1 := ⟨_, rfl⟩
  rw [← hls] at hO1 hT
  have hpos := List.length_pos_iff.2 hT.ne
  obtain ⟨r, n', c', hv, -, -⟩ := storeC hO1 (j := 0) (u := .string ⟨#[]⟩) (by simpa using hpos) rfl
  obtain ⟨a1, c1, e', hc1, r1⟩ := Ss.len hO1
  rw [hv] at e'
  cases e'
  subst hv
  have hdeep := hT.deep
  have q1 : decide ((ls.length : Int) < 1) = false := decide_eq_false (by omega)
  have q2 : decide ((256 : Int) < (ls.length : Int)) = false := decide_eq_false (by omega)
  simp -implicitDefEqProofs (maxSteps := 1000000) (disch := first | omega | assumption) only [endK, q0, q1, q2, l_g, Sx, reduceIte, Nat.reduceEqDiff, reduceCtorEq, Nat.reduceAdd, Nat.reduceSub, Nat.reduceLT]
  refine c_loop (fun k env H' => H' = H1 ∧ ∃ i, k + i = ls.length ∧ env 5 = .slice (some ⟨r, 0, none⟩) ls.length c' ∧ env 1 = .slice A xs.length c ∧ env 9 = .int .i64 i) ls.length ⟨rfl, 0, by omega, by simp -implicitDefEqProofs (maxSteps := 1000000) (disch := first | omega | assumption) only [Sx, reduceIte, Nat.reduceEqDiff, reduceCtorEq, Nat.reduceAdd, Nat.reduceSub, Nat.reduceLT], by simp -implicitDefEqProofs (maxSteps := 1000000) (disch := first | omega | assumption) only [Sx, reduceIte, Nat.reduceEqDiff, reduceCtorEq, Nat.reduceAdd, Nat.reduceSub, Nat.reduceLT], by simp -implicitDefEqProofs (maxSteps := 1000000) (disch := first | omega | assumption) only [Sx, reduceIte, Nat.reduceEqDiff, reduceCtorEq, Nat.reduceAdd, Nat.reduceSub, Nat.reduceLT]; rfl⟩ ?_
  rintro k env H2 ⟨rfl, i, hk, h5, e1, h9⟩
  by_cases hi : i < ls.length
  · refine safe_round r1 hi hdeep (hT.mem _ (List.getElem_mem hi)) h5 h9 ?_
    intro env' d5 d1 d9
    exact ⟨k - 1, by omega, rfl, i + 1, by omega, d5.trans h5, d1.trans e1, d9⟩
  · unfold L6_1
    have f0 : decide ((i : Int) < (ls.length : Int)) = false := decide_eq_false (by omega)
    have hj := jn_len hT.ne
    have hjl := hT.jlen
    have q3 : ((0 : Int) != 0) = false := rfl
    simp -implicitDefEqProofs (maxSteps := 1000000) (disch := first | omega | assumption) only [h5, e1, h9, f0, Sx, reduceIte, Nat.reduceEqDiff, reduceCtorEq, Nat.reduceAdd, Nat.reduceSub, Nat.reduceLT]
    unfold L6_2
    simp -implicitDefEqProofs (maxSteps := 1000000) (disch := first | omega | assumption) only [h5, e1, h9, f0, Sx, reduceIte, Nat.reduceEqDiff, reduceCtorEq, Nat.reduceAdd, Nat.reduceSub, Nat.reduceLT]
    refine a_call (pjoin_spec r1 (fun b hb => by cases hb; rfl) rfl hc1 (by omega)) ?_
    rintro e H3 ⟨rfl, rfl⟩
    rw [hT.join]
    simp -implicitDefEqProofs (maxSteps := 1000000) (disch := first | omega | assumption) only [endK, h5, e1, h9, q3, l_g, Sx, reduceIte, Nat.reduceEqDiff, reduceCtorEq, Nat.reduceAdd, Nat.reduceSub, Nat.reduceLT]
    refine lits_nostr ?_
    intro r2 H4 hO4 hk4 hr4
    try simp -implicitDefEqProofs (maxSteps := 1000000) (disch := first | omega | assumption) only [h5, e1, h9, q3, l_g, Sx, reduceIte, Nat.reduceEqDiff, reduceCtorEq, Nat.reduceAdd, Nat.reduceSub, Nat.reduceLT]
    refine a_app (len := 0) (m := xs.length) (new := strs xs) hO4 rfl (by rfl) (((hk1.trans hk4).row hr).cells (by simp)) (by simp) rfl (by omega) (strs_scalar _) (by omega) ?_
    intro v5 H5 hO5 ho5 hm5
    have hk5 : Keep H3 H5 := ho5.keep hk4 (by rintro q ⟨⟩; exact hr4)
    have hO5' : Ss H5 v5 xs := hO5
    obtain ⟨a5, c5, rfl, hc5, hrow5⟩ := hO5'.len
    simp -implicitDefEqProofs (maxSteps := 1000000) (disch := first | omega | assumption) only [h5, e1, h9, q3, l_g, Sx, reduceIte, Nat.reduceEqDiff, reduceCtorEq, Nat.reduceAdd, Nat.reduceSub, Nat.reduceLT]
    refine a_call (leaves_spec (n := xs.length) (by omega) (by omega)) ?_
    rintro e H6 ⟨rfl, hk6⟩
    rw [safe_out _ hT.ne fun p hp => ⟨(hT.mem p hp).1, (hT.mem p hp).2.1⟩]
    simp -implicitDefEqProofs (maxSteps := 1000000) (disch := first | omega | assumption) only [endK, h5, e1, h9, q3, l_g, Sx, reduceIte, Nat.reduceEqDiff, reduceCtorEq, Nat.reduceAdd, Nat.reduceSub, Nat.reduceLT]
    refine a_call (psplit_spec (by omega)) ?_
    rintro e H7 ⟨v7, rfl, hO7, hk7, hF7⟩
    rw [hT.again] at hO7
    rw [hT.again]
    have hO7 : Ss H7 v7 ls := hO7
    obtain ⟨a7, c7, rfl, hc7, hrow7⟩ := Ss.len hO7
    have q4 : ((0 : Int) == 0) = true := rfl
    simp -implicitDefEqProofs (maxSteps := 1000000) (disch := first | omega | assumption) only [endK, h5, e1, h9, q4, l_g, Sx, reduceIte, Nat.reduceEqDiff, reduceCtorEq, Nat.reduceAdd, Nat.reduceSub, Nat.reduceLT]
    refine a_call (same_spec hrow7 (((hk5.trans hk6).trans hk7).row r1) rfl rfl (by omega)) ?_
    rintro e H8 ⟨rfl, rfl⟩
    rw [decide_eq_true rfl]
    simp -implicitDefEqProofs (maxSteps := 1000000) (disch := first | omega | assumption) only [endK, h5, e1, h9, q4, l_g, Sx, reduceIte, Nat.reduceEqDiff, reduceCtorEq, Nat.reduceAdd, Nat.reduceSub, Nat.reduceLT]
    exact ⟨by trivial, ((hk1.trans hk5).trans hk6).trans hk7⟩
theorem pathSafe_row {H : Heap} (t : ByteArray) (wt : t.size ≤ maxLen) (A : Option Addr) (c : Nat) (xs : List ByteArray) (cl : List (List Value)) (he : Els Ty.string H A xs cl) (hc : xs.length ≤ c) (wf : (∀ x ∈ xs, x.size ≤ maxLen) ∧ xs.length ≤ maxLen)
    (hb : t.size + 1 + ((xs.map fun s => s.size + 1).sum + 1) ≤ 1048576) :
    ACalls Tryd.prog 6 [Value.string t, .slice A xs.length c].toArray H fun e H' => e = .returned (.bool true) ∧ Keep H H' := by
  have hr := he.strings
  have hst : xs.map Value.string = strs (xs.map fun s => s.data.toList) := by
    rw [strs, List.map_map]
    apply List.map_congr_left
    intro s _
    simp
  rw [hst] at hr
  have h1 : ∀ l : List ByteArray, l.length ≤ (l.map fun s => s.size + 1).sum := by
    intro l
    induction l with
    | nil => simp
    | cons x l ih => rw [List.map_cons, List.sum_cons, List.length_cons]; omega
  have h2 := h1 xs
  have h3 : t.data.toList.length = t.size := Array.length_toList
  have := pathSafe_walk (c := c) (l := t.data.toList) (by omega) hr (by rw [List.length_map]; omega)
  have e : (⟨t.data.toList.toArray⟩ : ByteArray) = t := by
    cases t
    rw [Array.toArray_toList]
  rw [List.length_map, e] at this
  exact this
end Go.Proofs.YtdlmomjcolbkgaaDoor.S09
