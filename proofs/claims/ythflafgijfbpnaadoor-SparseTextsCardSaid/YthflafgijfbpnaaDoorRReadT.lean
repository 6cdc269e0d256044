/-
  Maps out of texts: the document's Read.
-/
import Derived.Test.YthflafgijfbpnaaDoorReadT
set_option linter.unusedVariables false
set_option linter.unusedSimpArgs false
namespace Go.Proofs.YthflafgijfbpnaaDoor.S15
open Go Go.RowKit Go.Proofs.YthflafgijfbpnaaDoor.Sep Go.Proofs.YthflafgijfbpnaaDoor.Low Go.Proofs.YthflafgijfbpnaaDoor.Lib

set_option maxHeartbeats 8000000 in
theorem rread_spec {H : Heap} {A : Option Addr} {n c : Nat} {b : List Int} (hr : Row H A (by8 b)) (hby : isBy b) (hn : n = b.length) (hl : b.length ≤ 211106232532992) :
    ACalls Tryd.prog 10 [Value.slice A n c].toArray H fun e H' => RdOk H (readV b) e H' := by
  subst hn
  refine call10 (Nat.le_of_ble_eq_true rfl) ?_
  unfold L10 env0
  simp -implicitDefEqProofs (maxSteps := 1000000) (disch := first | omega | assumption) only [Sx, reduceIte, Nat.reduceEqDiff, reduceCtorEq, Nat.reduceAdd, Nat.reduceSub, Nat.reduceLT, decide_true, decide_false, Bool.not_true, Bool.not_false, Int.toNat_one, Int.toNat_zero, Nat.zero_mul, l_g, endK, gd_u]
  refine a_call (rnum_spec (p := 0) hr hby (by omega) hl) ?_
  rintro e H1 ⟨⟨q, rfl, hq⟩, rfl⟩
  have hok := numAt_ok (b := b) (p := 0) (by omega)
  unfold readV
  obtain ⟨N, hN⟩ : ∃ N, N = numAt b 0 := ⟨_, rfl⟩
  rw [← hN] at hq hok ⊢
  have err : ∀ (e : Int) (p : Nat) (L : List Rg), e ≠ 0 → ∀ H', Keep H1 H' → RdOk H1 (finish b (L, p, e)) (.returned (.tuple #[.slice none 0 0, .int .i64 0, .int .i64 e])) H' := by
    intro e p L he H' hk
    have hFin : finish b (L, p, e) = ([], 0, e) := by unfold finish; rw [if_pos he]
    rw [hFin]
    exact ⟨_, rfl, .nil, hk, fun r e => by cases e⟩
  by_cases he : N.2.2 = 0
  · replace hok := hok he
    replace hq := hq he
    have f0 : (N.2.2 != 0) = false := by rw [bne_eq_false_iff_eq]; exact he
    rw [if_neg (by simpa using he)]
    by_cases h6 : 65536 < N.1
    · have f1 : decide (65536 < N.1) = true := decide_eq_true h6
      rw [if_pos h6]
      simp -implicitDefEqProofs (maxSteps := 1000000) (disch := first | omega | assumption) only [f0, f1, Sx, reduceIte, Nat.reduceEqDiff, reduceCtorEq, Nat.reduceAdd, Nat.reduceSub, Nat.reduceLT, decide_true, decide_false, Bool.not_true, Bool.not_false, Int.toNat_one, Int.toNat_zero, Nat.zero_mul, l_g, endK, gd_u]
      exact err 2 _ _ (by decide) _ (Keep.refl _)
    · have f1 : decide (65536 < N.1) = false := decide_eq_false h6
      rw [if_neg h6]
      obtain ⟨RD, hRD⟩ : ∃ RD, RD = rdR b N.1.toNat N.2.1 0 [] := ⟨_, rfl⟩
      rw [← hRD]
      simp -implicitDefEqProofs (maxSteps := 1000000) (disch := first | omega | assumption) only [f0, f1, Sx, reduceIte, Nat.reduceEqDiff, reduceCtorEq, Nat.reduceAdd, Nat.reduceSub, Nat.reduceLT, decide_true, decide_false, Bool.not_true, Bool.not_false, Int.toNat_one, Int.toNat_zero, Nat.zero_mul, l_g, endK, gd_u]
      refine a_lits (sz := 2) (cells := #[]) rfl rfl ?_
      intro r3 H3 hO3 hk3 hr3
      try simp -implicitDefEqProofs (maxSteps := 1000000) (disch := first | omega | assumption) only [Sx, reduceIte, Nat.reduceEqDiff, reduceCtorEq, Nat.reduceAdd, Nat.reduceSub, Nat.reduceLT, decide_true, decide_false, Bool.not_true, Bool.not_false, Int.toNat_one, Int.toNat_zero, Nat.zero_mul, l_g, endK, gd_u]
      refine c_loop (fun k env' H' => ∃ (i p : Nat) (en : Int) (L : List Rg) (v : Value), k + i = N.1.toNat ∧ env' 0 = .slice A b.length c ∧ env' 5 = .int .i64 N.1 ∧ env' 6 = .int .i64 (p : Nat) ∧ env' 8 = v ∧ env' 9 = .int .i64 en ∧ env' 10 = .int .i64 (i : Nat) ∧
          Own H' 51 2 v (rgs L) ∧ RD = rdR b k p en L ∧ Keep H1 H' ∧ Fresh H1 v ∧ p ≤ b.length ∧ L.length = i ∧ 0 ≤ en ∧ en ≤ 9223372036854775807) N.1.toNat
        ⟨0, 0 + N.2.1, 0, [], _, by omega, by simp -implicitDefEqProofs (maxSteps := 1000000) (disch := first | omega | assumption) only [Sx, reduceIte, Nat.reduceEqDiff, reduceCtorEq, Nat.reduceAdd, Nat.reduceSub, Nat.reduceLT, decide_true, decide_false, Bool.not_true, Bool.not_false, Int.toNat_one, Int.toNat_zero, Nat.zero_mul, l_g, endK, gd_u], by simp -implicitDefEqProofs (maxSteps := 1000000) (disch := first | omega | assumption) only [Sx, reduceIte, Nat.reduceEqDiff, reduceCtorEq, Nat.reduceAdd, Nat.reduceSub, Nat.reduceLT, decide_true, decide_false, Bool.not_true, Bool.not_false, Int.toNat_one, Int.toNat_zero, Nat.zero_mul, l_g, endK, gd_u], by simp -implicitDefEqProofs (maxSteps := 1000000) (disch := first | omega | assumption) only [hq, Sx, reduceIte, Nat.reduceEqDiff, reduceCtorEq, Nat.reduceAdd, Nat.reduceSub, Nat.reduceLT, decide_true, decide_false, Bool.not_true, Bool.not_false, Int.toNat_one, Int.toNat_zero, Nat.zero_mul, l_g, endK, gd_u], by simp -implicitDefEqProofs (maxSteps := 1000000) (disch := first | omega | assumption) only [Sx, reduceIte, Nat.reduceEqDiff, reduceCtorEq, Nat.reduceAdd, Nat.reduceSub, Nat.reduceLT, decide_true, decide_false, Bool.not_true, Bool.not_false, Int.toNat_one, Int.toNat_zero, Nat.zero_mul, l_g, endK, gd_u], by simp -implicitDefEqProofs (maxSteps := 1000000) (disch := first | omega | assumption) only [Sx, reduceIte, Nat.reduceEqDiff, reduceCtorEq, Nat.reduceAdd, Nat.reduceSub, Nat.reduceLT, decide_true, decide_false, Bool.not_true, Bool.not_false, Int.toNat_one, Int.toNat_zero, Nat.zero_mul, l_g, endK, gd_u], by simp -implicitDefEqProofs (maxSteps := 1000000) (disch := first | omega | assumption) only [Sx, reduceIte, Nat.reduceEqDiff, reduceCtorEq, Nat.reduceAdd, Nat.reduceSub, Nat.reduceLT, decide_true, decide_false, Bool.not_true, Bool.not_false, Int.toNat_one, Int.toNat_zero, Nat.zero_mul, l_g, endK, gd_u]; rfl, hO3, by rw [hRD, Nat.zero_add], hk3, (by rintro q ⟨⟩; exact hr3), by omega, rfl, by omega, by omega⟩ ?_
      clear hRD hk3 hO3 hq
      rintro k env H4 ⟨i, p, en, L, v, hk, g0, g5, g6, g8, g9, g10, hO, hRD, hK, hF, hp, hL, he0, he1⟩
      have hsv := hO.scalar
      unfold L10_0
      by_cases hi : (i : Int) < N.1
      · have f2 : decide ((i : Int) < N.1) = true := decide_eq_true hi
        obtain ⟨k, rfl⟩ : ∃ k', k = k' + 1 := ⟨k - 1, by omega⟩
        unfold rdR at hRD
        simp -implicitDefEqProofs (maxSteps := 1000000) (disch := first | omega | assumption) only [g0, g5, g6, g8, g9, g10, f2, Sx, reduceIte, Nat.reduceEqDiff, reduceCtorEq, Nat.reduceAdd, Nat.reduceSub, Nat.reduceLT, decide_true, decide_false, Bool.not_true, Bool.not_false, Int.toNat_one, Int.toNat_zero, Nat.zero_mul, l_g, endK, gd_u]
        refine a_call (rnum_spec (hK.row hr) hby hp hl) ?_
        rintro e H5 ⟨⟨q4, rfl, hq4⟩, rfl⟩
        have hok4 := numAt_ok (b := b) hp
        obtain ⟨M, hM⟩ : ∃ M, M = numAt b p := ⟨_, rfl⟩
        rw [← hM] at hRD hq4 hok4 ⊢
        by_cases hm : M.2.2 = 0
        · have f3 : (M.2.2 != 0) = false := by rw [bne_eq_false_iff_eq]; exact hm
          rw [if_neg (by simpa using hm)] at hRD
          replace hq4 := hq4 hm
          replace hok4 := hok4 hm
          obtain ⟨p4, hp4⟩ : ∃ p4, p4 = p + M.2.1 := ⟨_, rfl⟩
          rw [← hp4] at hRD hok4 hq4
          simp -implicitDefEqProofs (maxSteps := 1000000) (disch := first | omega | assumption) only [g0, g5, g6, g8, g9, g10, f3, hq4, Sx, reduceIte, Nat.reduceEqDiff, reduceCtorEq, Nat.reduceAdd, Nat.reduceSub, Nat.reduceLT, decide_true, decide_false, Bool.not_true, Bool.not_false, Int.toNat_one, Int.toNat_zero, Nat.zero_mul, l_g, endK, gd_u]
          refine a_call (rnum_spec (hK.row hr) hby hok4.2 hl) ?_
          rintro e H6 ⟨⟨q5, rfl, hq5⟩, rfl⟩
          have hok5 := numAt_ok (b := b) hok4.2
          obtain ⟨M2, hM2⟩ : ∃ M2, M2 = numAt b p4 := ⟨_, rfl⟩
          rw [← hM2] at hRD hq5 hok5 ⊢
          by_cases hm2 : M2.2.2 = 0
          · have f4 : (M2.2.2 != 0) = false := by rw [bne_eq_false_iff_eq]; exact hm2
            rw [if_neg (by simpa using hm2)] at hRD
            replace hq5 := hq5 hm2
            replace hok5 := hok5 hm2
            obtain ⟨p5, hp5⟩ : ∃ p5, p5 = p4 + M2.2.1 := ⟨_, rfl⟩
            rw [← hp5] at hRD hok5 hq5
            by_cases h7 : M.1 < en
            · have f5 : decide (M.1 < en) = true := decide_eq_true h7
              rw [if_pos (.inl h7)] at hRD
              simp -implicitDefEqProofs (maxSteps := 1000000) (disch := first | omega | assumption) only [g0, g5, g6, g8, g9, g10, f4, f5, Sx, reduceIte, Nat.reduceEqDiff, reduceCtorEq, Nat.reduceAdd, Nat.reduceSub, Nat.reduceLT, decide_true, decide_false, Bool.not_true, Bool.not_false, Int.toNat_one, Int.toNat_zero, Nat.zero_mul, l_g, endK, gd_u]
              rw [hRD]
              exact err 3 _ _ (by decide) _ hK
            have f5 : decide (M.1 < en) = false := decide_eq_false h7
            by_cases h8 : 9223372036854775807 - M.1 < M2.1
            · have f6 : decide (9223372036854775807 - M.1 < M2.1) = true := decide_eq_true h8
              rw [if_pos (.inr h8)] at hRD
              simp -implicitDefEqProofs (maxSteps := 1000000) (disch := first | omega | assumption) only [g0, g5, g6, g8, g9, g10, f4, f5, f6, Sx, reduceIte, Nat.reduceEqDiff, reduceCtorEq, Nat.reduceAdd, Nat.reduceSub, Nat.reduceLT, decide_true, decide_false, Bool.not_true, Bool.not_false, Int.toNat_one, Int.toNat_zero, Nat.zero_mul, l_g, endK, gd_u]
              rw [hRD]
              exact err 3 _ _ (by decide) _ hK
            have f6 : decide (9223372036854775807 - M.1 < M2.1) = false := decide_eq_false h8
            rw [if_neg (by omega)] at hRD
            simp -implicitDefEqProofs (maxSteps := 1000000) (disch := first | omega | assumption) only [g0, g5, g6, g8, g9, g10, f4, f5, f6, hq5, Sx, reduceIte, Nat.reduceEqDiff, reduceCtorEq, Nat.reduceAdd, Nat.reduceSub, Nat.reduceLT, decide_true, decide_false, Bool.not_true, Bool.not_false, Int.toNat_one, Int.toNat_zero, Nat.zero_mul, l_g, endK, gd_u]
            refine lits_rg ?_
            intro r6 H7 hO6 hk6 hr6
            try simp -implicitDefEqProofs (maxSteps := 1000000) (disch := first | omega | assumption) only [g0, g5, g6, g8, g9, g10, hq5, Sx, reduceIte, Nat.reduceEqDiff, reduceCtorEq, Nat.reduceAdd, Nat.reduceSub, Nat.reduceLT, decide_true, decide_false, Bool.not_true, Bool.not_false, Int.toNat_one, Int.toNat_zero, Nat.zero_mul, l_g, endK, gd_u]
            refine push_rg (hO.keep hk6) (by omega) hO6 ?_
            intro v7 H8 hO7 ho7 hm7
            obtain ⟨hk7, hf7⟩ := grown (hK.trans hk6) hF ho7 hm7
            simp -implicitDefEqProofs (maxSteps := 1000000) (disch := first | omega | assumption) only [g0, g5, g10, hq5, Sx, reduceIte, Nat.reduceEqDiff, reduceCtorEq, Nat.reduceAdd, Nat.reduceSub, Nat.reduceLT, decide_true, decide_false, Bool.not_true, Bool.not_false, Int.toNat_one, Int.toNat_zero, Nat.zero_mul, l_g, endK, gd_u]
            exact ⟨k, by omega, i + 1, p5, M.1 + M2.1, L ++ [⟨M.1, M.1 + M2.1⟩], v7, by omega, by (first | exact True.intro | rfl | assumption), by (first | exact True.intro | rfl | assumption), by (first | exact True.intro | rfl | assumption), by (first | exact True.intro | rfl | assumption), by (first | exact True.intro | rfl | assumption), by simp, hO7, hRD, hk7, hf7, hok5.2, by simp [hL], by omega, by omega⟩
          · have f4 : (M2.2.2 != 0) = true := by rw [bne_iff_ne]; exact hm2
            rw [if_pos hm2] at hRD
            simp -implicitDefEqProofs (maxSteps := 1000000) (disch := first | omega | assumption) only [g0, g5, g6, g8, g9, g10, f4, Sx, reduceIte, Nat.reduceEqDiff, reduceCtorEq, Nat.reduceAdd, Nat.reduceSub, Nat.reduceLT, decide_true, decide_false, Bool.not_true, Bool.not_false, Int.toNat_one, Int.toNat_zero, Nat.zero_mul, l_g, endK, gd_u]
            rw [hRD]
            exact err _ _ _ hm2 _ hK
        · have f3 : (M.2.2 != 0) = true := by rw [bne_iff_ne]; exact hm
          rw [if_pos hm] at hRD
          simp -implicitDefEqProofs (maxSteps := 1000000) (disch := first | omega | assumption) only [g0, g5, g6, g8, g9, g10, f3, Sx, reduceIte, Nat.reduceEqDiff, reduceCtorEq, Nat.reduceAdd, Nat.reduceSub, Nat.reduceLT, decide_true, decide_false, Bool.not_true, Bool.not_false, Int.toNat_one, Int.toNat_zero, Nat.zero_mul, l_g, endK, gd_u]
          rw [hRD]
          exact err _ _ _ hm _ hK
      · have f2 : decide ((i : Int) < N.1) = false := decide_eq_false hi
        obtain rfl : k = 0 := by omega
        unfold rdR at hRD
        obtain ⟨PR, hPR⟩ : ∃ PR, PR = padR b (padN p) p := ⟨_, rfl⟩
        have hFin : finish b (L, p, 0) = if PR.2 ≠ 0 then ([], 0, PR.2) else (L, PR.1, 0) := by
          unfold finish
          rw [if_neg (by simp), ← hPR]
        rw [hRD, hFin]
        simp -implicitDefEqProofs (maxSteps := 1000000) (disch := first | omega | assumption) only [g0, g5, g6, g8, g10, f2, Sx, reduceIte, Nat.reduceEqDiff, reduceCtorEq, Nat.reduceAdd, Nat.reduceSub, Nat.reduceLT, decide_true, decide_false, Bool.not_true, Bool.not_false, Int.toNat_one, Int.toNat_zero, Nat.zero_mul, l_g, endK, gd_u]
        refine c_loop (fun n env' H' => ∃ q : Nat, env' 0 = .slice A b.length c ∧ env' 6 = .int .i64 (q : Nat) ∧ env' 8 = v ∧ H' = H4 ∧ PR = padR b n q ∧ (q + n) % 512 = 0 ∧ n < 512 ∧ q ≤ b.length) (padN p)
          ⟨p, by simp -implicitDefEqProofs (maxSteps := 1000000) (disch := first | omega | assumption) only [g0, Sx, reduceIte, Nat.reduceEqDiff, reduceCtorEq, Nat.reduceAdd, Nat.reduceSub, Nat.reduceLT, decide_true, decide_false, Bool.not_true, Bool.not_false, Int.toNat_one, Int.toNat_zero, Nat.zero_mul, l_g, endK, gd_u], by simp -implicitDefEqProofs (maxSteps := 1000000) (disch := first | omega | assumption) only [g6, Sx, reduceIte, Nat.reduceEqDiff, reduceCtorEq, Nat.reduceAdd, Nat.reduceSub, Nat.reduceLT, decide_true, decide_false, Bool.not_true, Bool.not_false, Int.toNat_one, Int.toNat_zero, Nat.zero_mul, l_g, endK, gd_u], by simp -implicitDefEqProofs (maxSteps := 1000000) (disch := first | omega | assumption) only [g8, Sx, reduceIte, Nat.reduceEqDiff, reduceCtorEq, Nat.reduceAdd, Nat.reduceSub, Nat.reduceLT, decide_true, decide_false, Bool.not_true, Bool.not_false, Int.toNat_one, Int.toNat_zero, Nat.zero_mul, l_g, endK, gd_u], rfl, hPR, by unfold padN; omega, padN_lt p, hp⟩ ?_
        clear g0 g5 g6 g8 g9 g10 hPR
        rintro k env H5 ⟨q, g0, g6, g8, rfl, hPR, hqk, hk5, hq⟩
        have em := emod_nat q
        unfold L10_1
        cases k with
        | zero =>
          have hq5 : q % 512 = 0 := by omega
          rw [decide_eq_false (by simpa using hq5)] at em
          simp only [padR] at hPR
          subst hPR
          simp -implicitDefEqProofs (maxSteps := 1000000) (disch := first | omega | assumption) only [g0, g6, g8, em, Sx, reduceIte, Nat.reduceEqDiff, reduceCtorEq, Nat.reduceAdd, Nat.reduceSub, Nat.reduceLT, decide_true, decide_false, Bool.not_true, Bool.not_false, Int.toNat_one, Int.toNat_zero, Nat.zero_mul, l_g, endK, gd_u]
          exact ⟨v, by simp, by simpa using hO, hK, hF⟩
        | succ k =>
          have hq5 : ¬ q % 512 = 0 := by omega
          rw [decide_eq_true hq5] at em
          unfold padR at hPR
          by_cases hqe : q = b.length
          · rw [if_pos hqe] at hPR
            have f2 : ((q : Int) == (b.length : Int)) = true := by rw [beq_iff_eq]; omega
            simp -implicitDefEqProofs (maxSteps := 1000000) (disch := first | omega | assumption) only [g0, g6, g8, f2, em, Sx, reduceIte, Nat.reduceEqDiff, reduceCtorEq, Nat.reduceAdd, Nat.reduceSub, Nat.reduceLT, decide_true, decide_false, Bool.not_true, Bool.not_false, Int.toNat_one, Int.toNat_zero, Nat.zero_mul, l_g, endK, gd_u]
            rw [hPR]
            exact ⟨_, rfl, .nil, hK, fun r e => by cases e⟩
          · rw [if_neg hqe] at hPR
            have f2 : ((q : Int) == (b.length : Int)) = false := by rw [beq_eq_false_iff_ne]; omega
            have hql : q < b.length := by omega
            obtain ⟨a, rfl, hx⟩ := by_at (hK.row hr) hql
            have hgd : b.getD q 0 = b[q] := by simp [hql]
            rw [hgd] at hPR
            generalize b[q] = x at hx hPR hgd
            have hix : (0 : Int) ≤ (q : Int) ∧ (q : Int) < (b.length : Nat) := by omega
            by_cases hx0 : x = 0
            · have f3 : (x != 0) = false := by rw [bne_eq_false_iff_eq]; exact hx0
              rw [if_neg (by simpa using hx0)] at hPR
              simp -implicitDefEqProofs (maxSteps := 1000000) (disch := first | omega | assumption) only [g0, g6, g8, f2, f3, hx, em, Sx, reduceIte, Nat.reduceEqDiff, reduceCtorEq, Nat.reduceAdd, Nat.reduceSub, Nat.reduceLT, decide_true, decide_false, Bool.not_true, Bool.not_false, Int.toNat_one, Int.toNat_zero, Nat.zero_mul, l_g, endK, gd_u]
              exact ⟨k, by omega, q + 1, by (first | exact True.intro | rfl | assumption), by simp, by (first | exact True.intro | rfl | assumption), by (first | exact True.intro | rfl | assumption), hPR, by omega, by omega, by omega⟩
            · have f3 : (x != 0) = true := by rw [bne_iff_ne]; exact hx0
              rw [if_pos hx0] at hPR
              simp -implicitDefEqProofs (maxSteps := 1000000) (disch := first | omega | assumption) only [g0, g6, g8, f2, f3, hx, em, Sx, reduceIte, Nat.reduceEqDiff, reduceCtorEq, Nat.reduceAdd, Nat.reduceSub, Nat.reduceLT, decide_true, decide_false, Bool.not_true, Bool.not_false, Int.toNat_one, Int.toNat_zero, Nat.zero_mul, l_g, endK, gd_u]
              rw [hPR]
              exact ⟨_, rfl, .nil, hK, fun r e => by cases e⟩
  · have f0 : (N.2.2 != 0) = true := by rw [bne_iff_ne]; exact he
    rw [if_pos he]
    simp -implicitDefEqProofs (maxSteps := 1000000) (disch := first | omega | assumption) only [f0, Sx, reduceIte, Nat.reduceEqDiff, reduceCtorEq, Nat.reduceAdd, Nat.reduceSub, Nat.reduceLT, decide_true, decide_false, Bool.not_true, Bool.not_false, Int.toNat_one, Int.toNat_zero, Nat.zero_mul, l_g, endK, gd_u]
    exact err _ _ _ he _ (Keep.refl _)
end Go.Proofs.YthflafgijfbpnaaDoor.S15
