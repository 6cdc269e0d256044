/-
  Maps as texts: Put, of both.
-/
import Derived.Test.YthflafgijfbpnaaDoorNum
import Derived.Test.YthflafgijfbpnaaDoorChainLaw
set_option linter.unusedVariables false
set_option linter.unusedSimpArgs false
namespace Go.Proofs.YthflafgijfbpnaaDoor.S15
open Go Go.RowKit Go.Proofs.YthflafgijfbpnaaDoor.Sep Go.Proofs.YthflafgijfbpnaaDoor.Low Go.Proofs.YthflafgijfbpnaaDoor.Lib

def seg (x : Rg) : List Int := decI x.f ++ [10] ++ (decI (x.t - x.f) ++ [10])
def txtL (l : List Rg) (i : Nat) : List Int := decI l.length ++ [10] ++ ((l.take i).map seg).flatten
def padN (n : Nat) : Nat := (512 - n % 512) % 512
def txtV (l : List Rg) : List Int := txtL l l.length ++ List.replicate (padN (txtL l l.length).length) 0
theorem txtL_succ {l : List Rg} {i : Nat} (hi : i < l.length) : txtL l (i + 1) = txtL l i ++ seg l[i] := by
  unfold txtL
  rw [List.take_succ_eq_append_getElem hi, List.map_append, List.flatten_append]
  simp
theorem seg_len {x : Rg} (h : 0 ≤ x.f ∧ x.f ≤ x.t ∧ x.t ≤ 9223372036854775807) : (seg x).length ≤ 40 := by
  have h1 := decI_len (n := x.f) (by omega)
  have h2 := decI_len (n := x.t - x.f) (by omega)
  unfold seg
  simp only [List.length_append, List.length_cons, List.length_nil]
  omega
theorem txtL_len {l : List Rg} (hl : l.length ≤ 65536) (h : ∀ x ∈ l, 0 ≤ x.f ∧ x.f ≤ x.t ∧ x.t ≤ 9223372036854775807) : ∀ i, i ≤ l.length → (txtL l i).length ≤ 20 + 40 * i
  | 0, _ => by
    have h1 := decI_len (n := l.length) (by omega)
    simp [txtL]; omega
  | i + 1, hi => by
    rw [txtL_succ (by omega), List.length_append]
    have := txtL_len hl h i (by omega)
    have := seg_len (h _ (List.getElem_mem (h := (by omega : i < l.length))))
    omega
theorem replicate_snoc (b : List Int) (j : Nat) : b ++ List.replicate j 0 ++ [0] = b ++ List.replicate (j + 1) 0 := by
  rw [List.replicate_succ', List.append_assoc]
theorem pad_more {n j : Nat} (hj : j ≤ padN n) : ((n + j) % 512 ≠ 0 → j < padN n) ∧ ((n + j) % 512 = 0 → j = padN n) := by
  unfold padN at *
  omega
theorem padN_lt (n : Nat) : padN n < 512 := by unfold padN; omega
theorem emod_nat (n : Nat) : ((n : Int) % 512 != 0) = decide (n % 512 ≠ 0) := by
  by_cases h : n % 512 = 0
  · rw [decide_eq_false (by simpa using h), bne_eq_false_iff_eq]; omega
  · rw [decide_eq_true h, bne_iff_ne]; omega

set_option maxHeartbeats 4000000 in
theorem put_spec {H : Heap} {a : Option Addr} {n c : Nat} {l : List Rg} (hT : Tab H) (hr : Row H a (rgs l)) (hn : n = l.length) :
    ACalls Tryd.prog 6 [Value.slice a n c].toArray H fun e H' => ∃ v, e = .returned (.tuple #[v, .int .i64 (if validV l 9223372036854775807 then 0 else 1)]) ∧ Own H' 5 1 v (by8 (if validV l 9223372036854775807 then txtV l else [])) ∧ Keep H H' ∧ Fresh H v := by
  subst hn
  refine call6 (Nat.le_of_ble_eq_true rfl) ?_
  unfold L6 env0
  simp -implicitDefEqProofs (maxSteps := 1000000) (disch := first | omega | assumption) only [Sx, reduceIte, Nat.reduceEqDiff, reduceCtorEq, Nat.reduceAdd, Nat.reduceSub, Nat.reduceLT, decide_true, decide_false, Bool.not_true, Bool.not_false, Int.toNat_one, Int.toNat_zero, Nat.zero_mul, l_g, endK, gd_u]
  refine a_call (fits_spec hr rfl) ?_
  rintro e H1 ⟨rfl, hk1⟩
  cases hv : validV l 9223372036854775807 with
  | false =>
    simp -implicitDefEqProofs (maxSteps := 1000000) (disch := first | omega | assumption) only [Sx, reduceIte, Nat.reduceEqDiff, reduceCtorEq, Nat.reduceAdd, Nat.reduceSub, Nat.reduceLT, decide_true, decide_false, Bool.not_true, Bool.not_false, Int.toNat_one, Int.toNat_zero, Nat.zero_mul, l_g, endK, gd_u]
    exact ⟨_, rfl, .nil, hk1, (fun r e => by cases e)⟩
  | true =>
    obtain ⟨-, hl, -⟩ := valid_true hv
    have hmem : ∀ x ∈ l, 0 ≤ x.f ∧ x.f ≤ x.t ∧ x.t ≤ 9223372036854775807 := chain_mem (Int.le_refl _) (valid_true hv).2.2
    have htl := txtL_len hl hmem
    have hc24 : callable Tryd.prog 24 = true := by kernel_rfl
    simp -implicitDefEqProofs (maxSteps := 1000000) (disch := first | omega | assumption) only [Sx, reduceIte, Nat.reduceEqDiff, reduceCtorEq, Nat.reduceAdd, Nat.reduceSub, Nat.reduceLT, decide_true, decide_false, Bool.not_true, Bool.not_false, Int.toNat_one, Int.toNat_zero, Nat.zero_mul, l_g, endK, gd_u]
    refine a_callv hc24 (line_spec (l := []) (hT.keep hk1) (by omega) (by omega) .nil (by simp)) ?_
    rintro e H2 ⟨v2, rfl, hO2, ho2, hm2⟩
    have hsv2 := hO2.scalar
    obtain ⟨hk2, hf2⟩ := grown hk1 (v := .slice none 0 0) (fun r e => by cases e) ho2 hm2
    simp -implicitDefEqProofs (maxSteps := 1000000) (disch := first | omega | assumption) only [Sx, reduceIte, Nat.reduceEqDiff, reduceCtorEq, Nat.reduceAdd, Nat.reduceSub, Nat.reduceLT, decide_true, decide_false, Bool.not_true, Bool.not_false, Int.toNat_one, Int.toNat_zero, Nat.zero_mul, l_g, endK, gd_u]
    refine c_loop (fun k env H' => ∃ i v, k + i = l.length ∧ env 4 = .func (.func 24) #[] #[] ∧ env 5 = v ∧ env 15 = .slice a l.length c ∧ env 16 = .int .i64 l.length ∧ env 17 = .int .i64 (i : Nat) ∧ Own H' 5 1 v (by8 (txtL l i)) ∧ Keep H H' ∧ Fresh H v) l.length
      ⟨0, v2, by omega, by simp -implicitDefEqProofs (maxSteps := 1000000) (disch := first | omega | assumption) only [Sx, reduceIte, Nat.reduceEqDiff, reduceCtorEq, Nat.reduceAdd, Nat.reduceSub, Nat.reduceLT, decide_true, decide_false, Bool.not_true, Bool.not_false, Int.toNat_one, Int.toNat_zero, Nat.zero_mul, l_g, endK, gd_u], by simp -implicitDefEqProofs (maxSteps := 1000000) (disch := first | omega | assumption) only [Sx, reduceIte, Nat.reduceEqDiff, reduceCtorEq, Nat.reduceAdd, Nat.reduceSub, Nat.reduceLT, decide_true, decide_false, Bool.not_true, Bool.not_false, Int.toNat_one, Int.toNat_zero, Nat.zero_mul, l_g, endK, gd_u], by simp -implicitDefEqProofs (maxSteps := 1000000) (disch := first | omega | assumption) only [Sx, reduceIte, Nat.reduceEqDiff, reduceCtorEq, Nat.reduceAdd, Nat.reduceSub, Nat.reduceLT, decide_true, decide_false, Bool.not_true, Bool.not_false, Int.toNat_one, Int.toNat_zero, Nat.zero_mul, l_g, endK, gd_u], by simp -implicitDefEqProofs (maxSteps := 1000000) (disch := first | omega | assumption) only [Sx, reduceIte, Nat.reduceEqDiff, reduceCtorEq, Nat.reduceAdd, Nat.reduceSub, Nat.reduceLT, decide_true, decide_false, Bool.not_true, Bool.not_false, Int.toNat_one, Int.toNat_zero, Nat.zero_mul, l_g, endK, gd_u], by simp -implicitDefEqProofs (maxSteps := 1000000) (disch := first | omega | assumption) only [Sx, reduceIte, Nat.reduceEqDiff, reduceCtorEq, Nat.reduceAdd, Nat.reduceSub, Nat.reduceLT, decide_true, decide_false, Bool.not_true, Bool.not_false, Int.toNat_one, Int.toNat_zero, Nat.zero_mul, l_g, endK, gd_u]; rfl, by simpa [txtL] using hO2, hk2, hf2⟩ ?_
    rintro k env H3 ⟨i, v, hk, g4, g5, g15, g16, g17, hO, hK, hF⟩
    have hsv := hO.scalar
    unfold L6_0
    by_cases hi : i < l.length
    · have f0 : decide ((i : Int) < (l.length : Int)) = true := decide_eq_true (by omega)
      obtain ⟨b, rfl, hld, _, _⟩ := rg_at (hK.row hr) hi
      have hx := hmem _ (List.getElem_mem hi)
      have hts := txtL_succ hi
      have htli := htl i (by omega)
      generalize l[i] = x at hld hx hts
      have hix : (0 : Int) ≤ (i : Int) ∧ (i : Int) < (l.length : Nat) := by omega
      simp -implicitDefEqProofs (maxSteps := 1000000) (disch := first | omega | assumption) only [g4, g5, g15, g16, g17, f0, ev_ldn, hld, Sx, reduceIte, Nat.reduceEqDiff, reduceCtorEq, Nat.reduceAdd, Nat.reduceSub, Nat.reduceLT, decide_true, decide_false, Bool.not_true, Bool.not_false, Int.toNat_one, Int.toNat_zero, Nat.zero_mul, l_g, endK, gd_u]
      refine a_new fun r hr1 => ?_
      try simp -implicitDefEqProofs (maxSteps := 1000000) (disch := first | omega | assumption) only [Sx, reduceIte, Nat.reduceEqDiff, reduceCtorEq, Nat.reduceAdd, Nat.reduceSub, Nat.reduceLT, decide_true, decide_false, Bool.not_true, Bool.not_false, Int.toNat_one, Int.toNat_zero, Nat.zero_mul, l_g, endK, gd_u]
      refine st_all (old := [.int .i64 0, .int .i64 0]) set_same (by simp) (by rfl) (by simp [scalarV]) ?_
      rw [set_set]
      have hk4 : Keep H3 (H3.set r (.cells [.int .i64 x.f, .int .i64 x.t].toArray 51 (0, 0))) := (Keep.refl _).set_new hr1
      obtain ⟨H4, hH4⟩ : ∃ H4, H4 = H3.set r (.cells [.int .i64 x.f, .int .i64 x.t].toArray 51 (0, 0)) := ⟨_, rfl⟩
      have hb4 : H4 r = some (.cells [.int .i64 x.f, .int .i64 x.t].toArray 51 (0, 0)) := by rw [hH4]; exact set_same
      rw [← hH4] at hk4 ⊢
      have hne : own v ≠ some r := fun e => (hO.known e) hr1
      simp -implicitDefEqProofs (maxSteps := 1000000) (disch := first | omega | assumption) only [g4, g5, cell_of hb4, l_qk, l_e, Sx, reduceIte, Nat.reduceEqDiff, reduceCtorEq, Nat.reduceAdd, Nat.reduceSub, Nat.reduceLT, decide_true, decide_false, Bool.not_true, Bool.not_false, Int.toNat_one, Int.toNat_zero, Nat.zero_mul, l_g, endK, gd_u]
      refine a_callv hc24 (line_spec (hT.keep (hK.trans hk4)) (by omega) (by omega) (hO.keep hk4) (by omega)) ?_
      rintro e H5 ⟨v5, rfl, hO5, ho5, hm5⟩
      have hsv5 := hO5.scalar
      have hb5 := ho5.oth _ _ hb4 hne
      have hl1 := decI_len (n := x.f) (by omega)
      simp -implicitDefEqProofs (maxSteps := 1000000) (disch := first | omega | assumption) only [endK]
      refine ⟨fun z hz _ => by simp only [List.mem_cons, List.not_mem_nil, or_false] at hz; rcases hz with rfl | rfl <;> (simp only [ev_ld, cell_of hb5, cell_of hb4]; rfl), ?_⟩
      obtain ⟨hk5, hf5⟩ := grown (hK.trans hk4) hF ho5 hm5
      refine a_callv hc24 (line_spec (hT.keep hk5) (by omega) (by omega) hO5 (by simp; omega)) ?_
      rintro e H6 ⟨v6, rfl, hO6, ho6, hm6⟩
      have hsv6 := hO6.scalar
      obtain ⟨hk6, hf6⟩ := grown hk5 hf5 ho6 hm6
      simp -implicitDefEqProofs (maxSteps := 1000000) (disch := first | omega | assumption) only [endK]
      refine ⟨fun z hz h => by simp at h, ?_⟩
      simp -implicitDefEqProofs (maxSteps := 1000000) (disch := first | omega | assumption) only [g4, g15, g16, g17, Sx, reduceIte, Nat.reduceEqDiff, reduceCtorEq, Nat.reduceAdd, Nat.reduceSub, Nat.reduceLT, decide_true, decide_false, Bool.not_true, Bool.not_false, Int.toNat_one, Int.toNat_zero, Nat.zero_mul, l_g, endK, gd_u]
      refine ⟨k - 1, by omega, i + 1, v6, by omega, by (first | exact True.intro | rfl | assumption), by (first | exact True.intro | rfl | assumption), by (first | exact True.intro | rfl | assumption), by (first | exact True.intro | rfl | assumption), by simp, ?_, hk6, hf6⟩
      rw [hts, seg]
      simpa [List.append_assoc] using hO6
    · have f0 : decide ((i : Int) < (l.length : Int)) = false := decide_eq_false (by omega)
      have hil : i = l.length := by omega
      subst hil
      simp -implicitDefEqProofs (maxSteps := 1000000) (disch := first | omega | assumption) only [g16, g17, f0, Sx, reduceIte, Nat.reduceEqDiff, reduceCtorEq, Nat.reduceAdd, Nat.reduceSub, Nat.reduceLT, decide_true, decide_false, Bool.not_true, Bool.not_false, Int.toNat_one, Int.toNat_zero, Nat.zero_mul, l_g, endK, gd_u]
      refine c_loop (fun k env H' => ∃ j v, k + j = padN (txtL l l.length).length ∧ env 5 = v ∧ Own H' 5 1 v (by8 (txtL l l.length ++ List.replicate j 0)) ∧ Keep H H' ∧ Fresh H v) (padN (txtL l l.length).length)
        ⟨0, v, by omega, g5, by simpa using hO, hK, hF⟩ ?_
      rintro k2 env2 H4 ⟨j, v4, hk2, g5, hO4, hK4, hF4⟩
      have hsv4 := hO4.scalar
      obtain ⟨A4, n4, c4, rfl, hn4, hc4, -⟩ := hO4.view
      simp only [List.length_map, List.length_append, List.length_replicate, Nat.mul_one] at hn4
      have hp := pad_more (n := (txtL l l.length).length) (j := j) (by omega)
      rw [hn4] at hp
      have hpl := padN_lt (txtL l l.length).length
      have htl' := htl l.length (Nat.le_refl _)
      have em := emod_nat n4
      unfold L6_1
      by_cases hz : n4 % 512 = 0
      · rw [decide_eq_false (by simpa using hz)] at em
        simp -implicitDefEqProofs (maxSteps := 1000000) (disch := first | omega | assumption) only [g5, em, Sx, reduceIte, Nat.reduceEqDiff, reduceCtorEq, Nat.reduceAdd, Nat.reduceSub, Nat.reduceLT, decide_true, decide_false, Bool.not_true, Bool.not_false, Int.toNat_one, Int.toNat_zero, Nat.zero_mul, l_g, endK, gd_u]
        refine ⟨_, rfl, ?_, hK4, hF4⟩
        rw [txtV, ← hp.2 hz]
        exact hO4
      · rw [decide_eq_true hz] at em
        simp -implicitDefEqProofs (maxSteps := 1000000) (disch := first | omega | assumption) only [g5, em, Sx, reduceIte, Nat.reduceEqDiff, reduceCtorEq, Nat.reduceAdd, Nat.reduceSub, Nat.reduceLT, decide_true, decide_false, Bool.not_true, Bool.not_false, Int.toNat_one, Int.toNat_zero, Nat.zero_mul, l_g, endK, gd_u]
        refine lits_byte ?_
        intro r5 H5 hO5 hk5 hr5
        try simp -implicitDefEqProofs (maxSteps := 1000000) (disch := first | omega | assumption) only [g5, Sx, reduceIte, Nat.reduceEqDiff, reduceCtorEq, Nat.reduceAdd, Nat.reduceSub, Nat.reduceLT, decide_true, decide_false, Bool.not_true, Bool.not_false, Int.toNat_one, Int.toNat_zero, Nat.zero_mul, l_g, endK, gd_u]
        refine app_by (x := [0]) (hO4.keep hk5) (own_by hO5) (by simp; omega) ?_
        intro v6 H6 hO6 ho6 hm6
        obtain ⟨hk6, hf6⟩ := grown (hK4.trans hk5) hF4 ho6 hm6
        try simp -implicitDefEqProofs (maxSteps := 1000000) (disch := first | omega | assumption) only [Sx, reduceIte, Nat.reduceEqDiff, reduceCtorEq, Nat.reduceAdd, Nat.reduceSub, Nat.reduceLT, decide_true, decide_false, Bool.not_true, Bool.not_false, Int.toNat_one, Int.toNat_zero, Nat.zero_mul, l_g, endK, gd_u]
        refine ⟨k2 - 1, by have := hp.1 hz; omega, j + 1, v6, by have := hp.1 hz; omega, by (first | exact True.intro | rfl | assumption), ?_, hk6, hf6⟩
        rw [replicate_snoc] at hO6
        exact hO6

set_option maxHeartbeats 4000000 in
theorem rput_spec {H : Heap} {a : Option Addr} {n c : Nat} {l : List Rg} (hr : Row H a (rgs l)) (hn : n = l.length) :
    ACalls Tryd.prog 7 [Value.slice a n c].toArray H fun e H' => ∃ v, e = .returned (.tuple #[v, .int .i64 (if validV l 9223372036854775807 then 0 else 1)]) ∧ Own H' 5 1 v (by8 (if validV l 9223372036854775807 then txtV l else [])) ∧ Keep H H' ∧ Fresh H v := by
  subst hn
  refine call7 (Nat.le_of_ble_eq_true rfl) ?_
  unfold L7 env0
  simp -implicitDefEqProofs (maxSteps := 1000000) (disch := first | omega | assumption) only [Sx, reduceIte, Nat.reduceEqDiff, reduceCtorEq, Nat.reduceAdd, Nat.reduceSub, Nat.reduceLT, decide_true, decide_false, Bool.not_true, Bool.not_false, Int.toNat_one, Int.toNat_zero, Nat.zero_mul, l_g, endK, gd_u]
  refine a_call (rvalid_spec hr rfl) ?_
  rintro e H1 ⟨rfl, rfl⟩
  cases hv : validV l 9223372036854775807 with
  | false =>
    simp -implicitDefEqProofs (maxSteps := 1000000) (disch := first | omega | assumption) only [Sx, reduceIte, Nat.reduceEqDiff, reduceCtorEq, Nat.reduceAdd, Nat.reduceSub, Nat.reduceLT, decide_true, decide_false, Bool.not_true, Bool.not_false, Int.toNat_one, Int.toNat_zero, Nat.zero_mul, l_g, endK, gd_u]
    exact ⟨_, rfl, .nil, Keep.refl _, (fun r e => by cases e)⟩
  | true =>
    obtain ⟨-, hl, -⟩ := valid_true hv
    have hmem : ∀ x ∈ l, 0 ≤ x.f ∧ x.f ≤ x.t ∧ x.t ≤ 9223372036854775807 := chain_mem (Int.le_refl _) (valid_true hv).2.2
    have htl := txtL_len hl hmem
    have hll := decI_len (n := l.length) (by omega)
    simp -implicitDefEqProofs (maxSteps := 1000000) (disch := first | omega | assumption) only [Sx, reduceIte, Nat.reduceEqDiff, reduceCtorEq, Nat.reduceAdd, Nat.reduceSub, Nat.reduceLT, decide_true, decide_false, Bool.not_true, Bool.not_false, Int.toNat_one, Int.toNat_zero, Nat.zero_mul, l_g, endK, gd_u]
    refine a_call (decimal_spec (by omega) (by omega)) ?_
    rintro e H2 ⟨v2, rfl, hO2, hk2, hf2⟩
    have hsv2 := hO2.scalar
    simp -implicitDefEqProofs (maxSteps := 1000000) (disch := first | omega | assumption) only [Sx, reduceIte, Nat.reduceEqDiff, reduceCtorEq, Nat.reduceAdd, Nat.reduceSub, Nat.reduceLT, decide_true, decide_false, Bool.not_true, Bool.not_false, Int.toNat_one, Int.toNat_zero, Nat.zero_mul, l_g, endK, gd_u]
    refine lits_byte ?_
    intro r3 H3 hO3 hk3 hr3
    try simp -implicitDefEqProofs (maxSteps := 1000000) (disch := first | omega | assumption) only [Sx, reduceIte, Nat.reduceEqDiff, reduceCtorEq, Nat.reduceAdd, Nat.reduceSub, Nat.reduceLT, decide_true, decide_false, Bool.not_true, Bool.not_false, Int.toNat_one, Int.toNat_zero, Nat.zero_mul, l_g, endK, gd_u]
    refine app_by (x := [10]) (hO2.keep hk3) (own_by hO3) (by simp; omega) ?_
    intro v4 H4 hO4 ho4 hm4
    obtain ⟨hk4, hf4⟩ := grown (hk2.trans hk3) hf2 ho4 hm4
    try simp -implicitDefEqProofs (maxSteps := 1000000) (disch := first | omega | assumption) only [Sx, reduceIte, Nat.reduceEqDiff, reduceCtorEq, Nat.reduceAdd, Nat.reduceSub, Nat.reduceLT, decide_true, decide_false, Bool.not_true, Bool.not_false, Int.toNat_one, Int.toNat_zero, Nat.zero_mul, l_g, endK, gd_u]
    refine c_loop (fun k env H' => ∃ i v, k + i = l.length ∧ env 0 = .slice a l.length c ∧ env 4 = v ∧ env 5 = .int .i64 (i : Nat) ∧ Own H' 5 1 v (by8 (txtL l i)) ∧ Keep H1 H' ∧ Fresh H1 v) l.length
      ⟨0, v4, by omega, by simp -implicitDefEqProofs (maxSteps := 1000000) (disch := first | omega | assumption) only [Sx, reduceIte, Nat.reduceEqDiff, reduceCtorEq, Nat.reduceAdd, Nat.reduceSub, Nat.reduceLT, decide_true, decide_false, Bool.not_true, Bool.not_false, Int.toNat_one, Int.toNat_zero, Nat.zero_mul, l_g, endK, gd_u], by simp -implicitDefEqProofs (maxSteps := 1000000) (disch := first | omega | assumption) only [Sx, reduceIte, Nat.reduceEqDiff, reduceCtorEq, Nat.reduceAdd, Nat.reduceSub, Nat.reduceLT, decide_true, decide_false, Bool.not_true, Bool.not_false, Int.toNat_one, Int.toNat_zero, Nat.zero_mul, l_g, endK, gd_u], by simp -implicitDefEqProofs (maxSteps := 1000000) (disch := first | omega | assumption) only [Sx, reduceIte, Nat.reduceEqDiff, reduceCtorEq, Nat.reduceAdd, Nat.reduceSub, Nat.reduceLT, decide_true, decide_false, Bool.not_true, Bool.not_false, Int.toNat_one, Int.toNat_zero, Nat.zero_mul, l_g, endK, gd_u]; rfl, by simpa [txtL] using hO4, hk4, hf4⟩ ?_
    rintro k env H5 ⟨i, v, hk, g0, g4, g5, hO, hK, hF⟩
    have hsv := hO.scalar
    unfold L7_0
    by_cases hi : i < l.length
    · have f0 : decide ((i : Int) < (l.length : Int)) = true := decide_eq_true (by omega)
      obtain ⟨b, rfl, _, hc1, hc2⟩ := rg_at (hK.row hr) hi
      have hx := hmem _ (List.getElem_mem hi)
      have hts := txtL_succ hi
      have htli := htl i (by omega)
      obtain ⟨x, hxe⟩ : ∃ x, l[i] = x := ⟨_, rfl⟩
      rw [hxe] at hc1 hc2 hx hts
      have hl1 := decI_len (n := x.f) (by omega)
      have hl2 := decI_len (n := x.t - x.f) (by omega)
      have hix : (0 : Int) ≤ (i : Int) ∧ (i : Int) < (l.length : Nat) := by omega
      simp -implicitDefEqProofs (maxSteps := 1000000) (disch := first | omega | assumption) only [g0, g4, g5, f0, hc1, hc2, Sx, reduceIte, Nat.reduceEqDiff, reduceCtorEq, Nat.reduceAdd, Nat.reduceSub, Nat.reduceLT, decide_true, decide_false, Bool.not_true, Bool.not_false, Int.toNat_one, Int.toNat_zero, Nat.zero_mul, l_g, endK, gd_u]
      refine a_call (decimal_spec (by omega) (by omega)) ?_
      rintro e H6 ⟨v6, rfl, hO6, hk6, hf6⟩
      have hsv6 := hO6.scalar
      simp -implicitDefEqProofs (maxSteps := 1000000) (disch := first | omega | assumption) only [g0, g4, g5, Sx, reduceIte, Nat.reduceEqDiff, reduceCtorEq, Nat.reduceAdd, Nat.reduceSub, Nat.reduceLT, decide_true, decide_false, Bool.not_true, Bool.not_false, Int.toNat_one, Int.toNat_zero, Nat.zero_mul, l_g, endK, gd_u]
      refine app_by (hO.keep hk6) (own_by hO6) (by omega) ?_
      intro v7 H7 hO7 ho7 hm7
      obtain ⟨hk7, hf7⟩ := grown (hK.trans hk6) hF ho7 hm7
      have hsv7 := hO7.scalar
      try simp -implicitDefEqProofs (maxSteps := 1000000) (disch := first | omega | assumption) only [g0, g4, g5, Sx, reduceIte, Nat.reduceEqDiff, reduceCtorEq, Nat.reduceAdd, Nat.reduceSub, Nat.reduceLT, decide_true, decide_false, Bool.not_true, Bool.not_false, Int.toNat_one, Int.toNat_zero, Nat.zero_mul, l_g, endK, gd_u]
      refine lits_byte ?_
      intro r8 H8 hO8 hk8 hr8
      try simp -implicitDefEqProofs (maxSteps := 1000000) (disch := first | omega | assumption) only [g0, g4, g5, Sx, reduceIte, Nat.reduceEqDiff, reduceCtorEq, Nat.reduceAdd, Nat.reduceSub, Nat.reduceLT, decide_true, decide_false, Bool.not_true, Bool.not_false, Int.toNat_one, Int.toNat_zero, Nat.zero_mul, l_g, endK, gd_u]
      refine app_by (x := [10]) (hO7.keep hk8) (own_by hO8) (by simp; omega) ?_
      intro v9 H9 hO9 ho9 hm9
      obtain ⟨hk9, hf9⟩ := grown (hk7.trans hk8) hf7 ho9 hm9
      have hsv9 := hO9.scalar
      obtain ⟨b', eb, _, hd1, hd2⟩ := rg_at (hk9.row hr) hi
      cases eb
      rw [hxe] at hd1 hd2
      simp -implicitDefEqProofs (maxSteps := 1000000) (disch := first | omega | assumption) only [g0, g4, g5, hd1, hd2, Sx, reduceIte, Nat.reduceEqDiff, reduceCtorEq, Nat.reduceAdd, Nat.reduceSub, Nat.reduceLT, decide_true, decide_false, Bool.not_true, Bool.not_false, Int.toNat_one, Int.toNat_zero, Nat.zero_mul, l_g, endK, gd_u]
      refine a_call (decimal_spec (by omega) (by omega)) ?_
      rintro e H10 ⟨v10, rfl, hO10, hk10, hf10⟩
      have hsv10 := hO10.scalar
      simp -implicitDefEqProofs (maxSteps := 1000000) (disch := first | omega | assumption) only [g0, g5, Sx, reduceIte, Nat.reduceEqDiff, reduceCtorEq, Nat.reduceAdd, Nat.reduceSub, Nat.reduceLT, decide_true, decide_false, Bool.not_true, Bool.not_false, Int.toNat_one, Int.toNat_zero, Nat.zero_mul, l_g, endK, gd_u]
      refine app_by (hO9.keep hk10) (own_by hO10) (by simp; omega) ?_
      intro v11 H11 hO11 ho11 hm11
      obtain ⟨hk11, hf11⟩ := grown (hk9.trans hk10) hf9 ho11 hm11
      have hsv11 := hO11.scalar
      try simp -implicitDefEqProofs (maxSteps := 1000000) (disch := first | omega | assumption) only [g0, g5, Sx, reduceIte, Nat.reduceEqDiff, reduceCtorEq, Nat.reduceAdd, Nat.reduceSub, Nat.reduceLT, decide_true, decide_false, Bool.not_true, Bool.not_false, Int.toNat_one, Int.toNat_zero, Nat.zero_mul, l_g, endK, gd_u]
      refine lits_byte ?_
      intro r12 H12 hO12 hk12 hr12
      try simp -implicitDefEqProofs (maxSteps := 1000000) (disch := first | omega | assumption) only [g0, g5, Sx, reduceIte, Nat.reduceEqDiff, reduceCtorEq, Nat.reduceAdd, Nat.reduceSub, Nat.reduceLT, decide_true, decide_false, Bool.not_true, Bool.not_false, Int.toNat_one, Int.toNat_zero, Nat.zero_mul, l_g, endK, gd_u]
      refine app_by (x := [10]) (hO11.keep hk12) (own_by hO12) (by simp; omega) ?_
      intro v13 H13 hO13 ho13 hm13
      obtain ⟨hk13, hf13⟩ := grown (hk11.trans hk12) hf11 ho13 hm13
      try simp -implicitDefEqProofs (maxSteps := 1000000) (disch := first | omega | assumption) only [g0, g5, Sx, reduceIte, Nat.reduceEqDiff, reduceCtorEq, Nat.reduceAdd, Nat.reduceSub, Nat.reduceLT, decide_true, decide_false, Bool.not_true, Bool.not_false, Int.toNat_one, Int.toNat_zero, Nat.zero_mul, l_g, endK, gd_u]
      refine ⟨k - 1, by omega, i + 1, v13, by omega, by (first | exact True.intro | rfl | assumption), by (first | exact True.intro | rfl | assumption), by simp, ?_, hk13, hf13⟩
      rw [hts, seg]
      simpa [List.append_assoc] using hO13
    · have f0 : decide ((i : Int) < (l.length : Int)) = false := decide_eq_false (by omega)
      have hil : i = l.length := by omega
      subst hil
      simp -implicitDefEqProofs (maxSteps := 1000000) (disch := first | omega | assumption) only [g0, g5, f0, Sx, reduceIte, Nat.reduceEqDiff, reduceCtorEq, Nat.reduceAdd, Nat.reduceSub, Nat.reduceLT, decide_true, decide_false, Bool.not_true, Bool.not_false, Int.toNat_one, Int.toNat_zero, Nat.zero_mul, l_g, endK, gd_u]
      refine c_loop (fun k env H' => ∃ j v, k + j = padN (txtL l l.length).length ∧ env 4 = v ∧ Own H' 5 1 v (by8 (txtL l l.length ++ List.replicate j 0)) ∧ Keep H1 H' ∧ Fresh H1 v) (padN (txtL l l.length).length)
        ⟨0, v, by omega, g4, by simpa using hO, hK, hF⟩ ?_
      rintro k2 env2 H4 ⟨j, v4, hk2, g5, hO4, hK4, hF4⟩
      have hsv4 := hO4.scalar
      obtain ⟨A4, n4, c4, rfl, hn4, hc4, -⟩ := hO4.view
      simp only [List.length_map, List.length_append, List.length_replicate, Nat.mul_one] at hn4
      have hp := pad_more (n := (txtL l l.length).length) (j := j) (by omega)
      rw [hn4] at hp
      have hpl := padN_lt (txtL l l.length).length
      have htl' := htl l.length (Nat.le_refl _)
      have em := emod_nat n4
      unfold L7_1
      by_cases hz : n4 % 512 = 0
      · rw [decide_eq_false (by simpa using hz)] at em
        simp -implicitDefEqProofs (maxSteps := 1000000) (disch := first | omega | assumption) only [g5, em, Sx, reduceIte, Nat.reduceEqDiff, reduceCtorEq, Nat.reduceAdd, Nat.reduceSub, Nat.reduceLT, decide_true, decide_false, Bool.not_true, Bool.not_false, Int.toNat_one, Int.toNat_zero, Nat.zero_mul, l_g, endK, gd_u]
        refine ⟨_, rfl, ?_, hK4, hF4⟩
        rw [txtV, ← hp.2 hz]
        exact hO4
      · rw [decide_eq_true hz] at em
        simp -implicitDefEqProofs (maxSteps := 1000000) (disch := first | omega | assumption) only [g5, em, Sx, reduceIte, Nat.reduceEqDiff, reduceCtorEq, Nat.reduceAdd, Nat.reduceSub, Nat.reduceLT, decide_true, decide_false, Bool.not_true, Bool.not_false, Int.toNat_one, Int.toNat_zero, Nat.zero_mul, l_g, endK, gd_u]
        refine lits_byte ?_
        intro r5 H5 hO5 hk5 hr5
        try simp -implicitDefEqProofs (maxSteps := 1000000) (disch := first | omega | assumption) only [g5, Sx, reduceIte, Nat.reduceEqDiff, reduceCtorEq, Nat.reduceAdd, Nat.reduceSub, Nat.reduceLT, decide_true, decide_false, Bool.not_true, Bool.not_false, Int.toNat_one, Int.toNat_zero, Nat.zero_mul, l_g, endK, gd_u]
        refine app_by (x := [0]) (hO4.keep hk5) (own_by hO5) (by simp; omega) ?_
        intro v6 H6 hO6 ho6 hm6
        obtain ⟨hk6, hf6⟩ := grown (hK4.trans hk5) hF4 ho6 hm6
        try simp -implicitDefEqProofs (maxSteps := 1000000) (disch := first | omega | assumption) only [Sx, reduceIte, Nat.reduceEqDiff, reduceCtorEq, Nat.reduceAdd, Nat.reduceSub, Nat.reduceLT, decide_true, decide_false, Bool.not_true, Bool.not_false, Int.toNat_one, Int.toNat_zero, Nat.zero_mul, l_g, endK, gd_u]
        refine ⟨k2 - 1, by have := hp.1 hz; omega, j + 1, v6, by have := hp.1 hz; omega, by (first | exact True.intro | rfl | assumption), ?_, hk6, hf6⟩
        rw [replicate_snoc] at hO6
        exact hO6
end Go.Proofs.YthflafgijfbpnaaDoor.S15
