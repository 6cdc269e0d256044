/-
  The document's PutBinary; PutNumber of both.
-/
import Derived.Test.YtigignkgblaoaaaDoorPutBin
set_option linter.unusedVariables false
set_option linter.unusedSimpArgs false
namespace Go.Proofs.YtigignkgblaoaaaDoor.S12
open Go Go.RowKit Go.Proofs.YtigignkgblaoaaaDoor.Sep Go.Proofs.YtigignkgblaoaaaDoor.Low Go.Proofs.YtigignkgblaoaaaDoor.Lib

/-- the check behind it -/
theorem rputb_end {H0 H : Heap} {r m : Nat} {n : Int} {L : List Int} {env : Env} {Q : Post} {QP : List PanicEntry → Heap → Prop} (hk : Keep H0 H) (hF : Fresh H0 (.slice (some ⟨r, 0, none⟩) (m + 1) (m + 1))) (hO : Bs H (.slice (some ⟨r, 0, none⟩) (m + 1) (m + 1)) L) (hb : isBy L) (hl : L.length = m + 1) (hm : m + 1 ≤ 512)
    (hchk : ((binN L).2 = 0 ∧ (binN L).1 = n) ↔ inR n m) (hL : inR n m → L = orB (hd (m + 1) n)) (h0 : env 0 = .int .i64 n) (h6 : env 6 = .slice (some ⟨r, 0, none⟩) (m + 1) (m + 1))
    (hq : ∀ env' H' v, env' 4 = v → env' 5 = .int .i64 (if inR n m then (orB (hd (m + 1) n), (0 : Int)) else ([], 122)).2 → Bs H' v (if inR n m then (orB (hd (m + 1) n), (0 : Int)) else ([], 122)).1 → Keep H0 H' → Fresh H0 v → Q .ret env' H') : awpC Tryd.prog L21_2 Q QP env H := by
  unfold L21_2
  simp -implicitDefEqProofs (maxSteps := 1000000) (disch := first | omega | assumption) only [h0, h6, Sx, reduceIte, Nat.reduceEqDiff, reduceCtorEq, Nat.reduceAdd, Nat.reduceSub, Nat.reduceLT, decide_true, decide_false, Bool.not_true, Bool.not_false, Int.toNat_one, Int.toNat_zero, Nat.zero_mul, l_g, endK]
  refine a_call (rbinary_spec (own_by hO) hb (by omega)) ?_
  rintro e H5 ⟨rfl, hk5⟩
  have hO5 := Own.keep hO hk5
  have hF2 : Fresh H0 (.slice none 0 0) := fun q hq => by cases hq
  by_cases hR : inR n m
  · obtain ⟨c1, c2⟩ := hchk.2 hR
    rw [if_pos hR] at hq
    have f4 : ((binN L).2 != 0) = false := by rw [bne_eq_false_iff_eq]; exact c1
    have f5 : ((binN L).1 != n) = false := by rw [bne_eq_false_iff_eq]; exact c2
    simp -implicitDefEqProofs (maxSteps := 1000000) (disch := first | omega | assumption) only [h0, h6, f4, f5, Sx, reduceIte, Nat.reduceEqDiff, reduceCtorEq, Nat.reduceAdd, Nat.reduceSub, Nat.reduceLT, decide_true, decide_false, Bool.not_true, Bool.not_false, Int.toNat_one, Int.toNat_zero, Nat.zero_mul, l_g, endK]
    exact hq _ _ (.slice (some ⟨r, 0, none⟩) (m + 1) (m + 1)) (by simp -implicitDefEqProofs (maxSteps := 1000000) (disch := first | omega | assumption) only [Sx, reduceIte, Nat.reduceEqDiff, reduceCtorEq, Nat.reduceAdd, Nat.reduceSub, Nat.reduceLT]) (by simp -implicitDefEqProofs (maxSteps := 1000000) (disch := first | omega | assumption) only [Sx, reduceIte, Nat.reduceEqDiff, reduceCtorEq, Nat.reduceAdd, Nat.reduceSub, Nat.reduceLT]) (by rw [← hL hR]; exact hO5) (hk.trans hk5) hF
  · rw [if_neg hR] at hq
    by_cases he : (binN L).2 = 0
    · have f4 : ((binN L).2 != 0) = false := by rw [bne_eq_false_iff_eq]; exact he
      have f5 : ((binN L).1 != n) = true := by rw [bne_iff_ne]; exact fun h => hR (hchk.1 ⟨he, h⟩)
      simp -implicitDefEqProofs (maxSteps := 1000000) (disch := first | omega | assumption) only [h0, h6, f4, f5, Sx, reduceIte, Nat.reduceEqDiff, reduceCtorEq, Nat.reduceAdd, Nat.reduceSub, Nat.reduceLT, decide_true, decide_false, Bool.not_true, Bool.not_false, Int.toNat_one, Int.toNat_zero, Nat.zero_mul, l_g, endK]
      exact hq _ _ (.slice none 0 0) (by simp -implicitDefEqProofs (maxSteps := 1000000) (disch := first | omega | assumption) only [Sx, reduceIte, Nat.reduceEqDiff, reduceCtorEq, Nat.reduceAdd, Nat.reduceSub, Nat.reduceLT]) (by simp -implicitDefEqProofs (maxSteps := 1000000) (disch := first | omega | assumption) only [Sx, reduceIte, Nat.reduceEqDiff, reduceCtorEq, Nat.reduceAdd, Nat.reduceSub, Nat.reduceLT]) .nil (hk.trans hk5) hF2
    · have f4 : ((binN L).2 != 0) = true := by rw [bne_iff_ne]; exact he
      simp -implicitDefEqProofs (maxSteps := 1000000) (disch := first | omega | assumption) only [h0, h6, f4, Sx, reduceIte, Nat.reduceEqDiff, reduceCtorEq, Nat.reduceAdd, Nat.reduceSub, Nat.reduceLT, decide_true, decide_false, Bool.not_true, Bool.not_false, Int.toNat_one, Int.toNat_zero, Nat.zero_mul, l_g, endK]
      exact hq _ _ (.slice none 0 0) (by simp -implicitDefEqProofs (maxSteps := 1000000) (disch := first | omega | assumption) only [Sx, reduceIte, Nat.reduceEqDiff, reduceCtorEq, Nat.reduceAdd, Nat.reduceSub, Nat.reduceLT]) (by simp -implicitDefEqProofs (maxSteps := 1000000) (disch := first | omega | assumption) only [Sx, reduceIte, Nat.reduceEqDiff, reduceCtorEq, Nat.reduceAdd, Nat.reduceSub, Nat.reduceLT]) .nil (hk.trans hk5) hF2
theorem wu64m {z : Int} : IntKind.u64.wrap z = z % 18446744073709551616 := by
  unfold IntKind.wrap IntKind.bits IntKind.signed
  simp only [Bool.false_and, Bool.false_eq_true, if_false]
  have : (2 ^ 64 : Int) = 18446744073709551616 := by decide
  omega
set_option maxHeartbeats 4000000 in
theorem rputBinary_spec {H : Heap} {n w : Int} (hn : -9223372036854775808 ≤ n ∧ n ≤ 9223372036854775807) (hw : -9223372036854775808 ≤ w ∧ w ≤ 9223372036854775807) :
    ACalls Tryd.prog 21 [Value.int .i64 n, .int .i64 w].toArray H fun e H' => Puts H (putB n w) e H' := by
  refine call21 (Nat.le_of_ble_eq_true rfl) ?_
  unfold L21 env0
  simp -implicitDefEqProofs (maxSteps := 1000000) (disch := first | omega | assumption) only [Sx, reduceIte, Nat.reduceEqDiff, reduceCtorEq, Nat.reduceAdd, Nat.reduceSub, Nat.reduceLT]
  refine a_call width_spec ?_
  rintro e H1 ⟨rfl, rfl⟩
  by_cases h1 : 2 ≤ w ∧ w ≤ 512
  case neg =>
    rw [decide_eq_false h1]
    simp -implicitDefEqProofs (maxSteps := 1000000) (disch := first | omega | assumption) only [Sx, reduceIte, Nat.reduceEqDiff, reduceCtorEq, Nat.reduceAdd, Nat.reduceSub, Nat.reduceLT, decide_true, decide_false, Bool.not_true, Bool.not_false, Int.toNat_one, Int.toNat_zero, Nat.zero_mul, l_g, endK]
    exact .err (Keep.refl _) (by unfold putB; rw [if_pos (by omega)])
  rw [decide_eq_true h1]
  have hput : putB n w = if inR n (w.toNat - 1) then (orB (hd w.toNat n), 0) else ([], 122) := by unfold putB; rw [if_neg (by omega)]
  obtain ⟨m, hm⟩ : ∃ m : Nat, w = (m : Int) + 1 := ⟨w.toNat - 1, by omega⟩
  have hwm : w.toNat = m + 1 := by omega
  rw [hwm, Nat.add_sub_cancel] at hput
  have hwn : w = ((m + 1 : Nat) : Int) := by omega
  rw [hwn] at hput ⊢
  simp -implicitDefEqProofs (maxSteps := 1000000) (disch := first | omega | assumption) only [wu64m, Sx, reduceIte, Nat.reduceEqDiff, reduceCtorEq, Nat.reduceAdd, Nat.reduceSub, Nat.reduceLT, decide_true, decide_false, Bool.not_true, Bool.not_false, Int.toNat_one, Int.toNat_zero, Nat.zero_mul, l_g, endK]
  refine a_mks (l := m + 1) (c := m + 1) (sz := 1) (by omega) (by omega) (by omega) rfl (by omega) ?_
  intro r H2 rest hbr hW hk2 hr2
  rw [zeros_by] at hW
  have hF : Fresh H1 (.slice (some ⟨r, 0, none⟩) (m + 1) (m + 1)) := fun q hq => by cases hq; exact hr2
  have e2 : ((m + 1 : Nat) : Int) - 1 = (m : Int) := by omega
  try simp -implicitDefEqProofs (maxSteps := 1000000) (disch := first | omega | assumption) only [e2, wu64m, Sx, reduceIte, Nat.reduceEqDiff, reduceCtorEq, Nat.reduceAdd, Nat.reduceSub, Nat.reduceLT, decide_true, decide_false, Bool.not_true, Bool.not_false, Int.toNat_one, Int.toNat_zero, Nat.zero_mul, l_g, endK]
  refine c_loop (fun k env H' => ∃ j, k + j = m + 1 ∧ env 0 = .int .i64 n ∧ env 7 = .int .u64 (n / p256 j % 18446744073709551616) ∧ env 6 = .slice (some ⟨r, 0, none⟩) (m + 1) (m + 1) ∧ env 8 = .int .i64 ((m : Int) - j) ∧ Bs H' (.slice (some ⟨r, 0, none⟩) (m + 1) (m + 1)) (List.replicate (m + 1 - j) 0 ++ hd j n) ∧ Keep H1 H') (m + 1)
    ⟨0, by omega, by simp -implicitDefEqProofs (maxSteps := 1000000) (disch := first | omega | assumption) only [Sx, reduceIte, Nat.reduceEqDiff, reduceCtorEq, Nat.reduceAdd, Nat.reduceSub, Nat.reduceLT], by rw [p256, Int.ediv_one]; simp -implicitDefEqProofs (maxSteps := 1000000) (disch := first | omega | assumption) only [Sx, reduceIte, Nat.reduceEqDiff, reduceCtorEq, Nat.reduceAdd, Nat.reduceSub, Nat.reduceLT], by simp -implicitDefEqProofs (maxSteps := 1000000) (disch := first | omega | assumption) only [Sx, reduceIte, Nat.reduceEqDiff, reduceCtorEq, Nat.reduceAdd, Nat.reduceSub, Nat.reduceLT], by simp -implicitDefEqProofs (maxSteps := 1000000) (disch := first | omega | assumption) only [Sx, reduceIte, Nat.reduceEqDiff, reduceCtorEq, Nat.reduceAdd, Nat.reduceSub, Nat.reduceLT]; simp, by rw [Nat.sub_zero, hd, List.append_nil]; exact hW, hk2⟩ ?_
  rintro k env H3 ⟨j, hk, h0, h7, h6, h8, hO, hK⟩
  unfold L21_1
  by_cases hj : j < m + 1
  · have f3 : decide ((0 : Int) ≤ (m : Int) - j) = true := decide_eq_true (by omega)
    have hin : (0 : Int) ≤ (m : Int) - j ∧ (m : Int) - j < ((m + 1 : Nat) : Int) := by omega
    have e3 : ((m : Int) - j).toNat = m + 1 - 1 - j := by omega
    have hp := p256_pos j
    have hlo : -9223372036854775808 ≤ n / p256 j := by
      have h5 : (-9223372036854775808) * p256 j ≤ n := by
        have : 9223372036854775808 * 1 ≤ 9223372036854775808 * p256 j := Int.mul_le_mul_of_nonneg_left (by omega) (by decide)
        omega
      exact (Int.le_ediv_iff_mul_le hp).2 h5
    have hhi : n / p256 j ≤ 9223372036854775807 := by
      rcases Int.le_total 0 n with h | h
      · have := Int.ediv_le_self (p256 j) h; omega
      · skip
        have h6 : n / p256 j ≤ 0 := by
          have h7 := Int.ediv_mul_le n (show p256 j ≠ 0 by omega)
          apply Decidable.byContradiction
          intro hc
          have h8 : 1 * p256 j ≤ n / p256 j * p256 j := Int.mul_le_mul_of_nonneg_right (by omega) (by omega)
          omega
        omega
    have hdv := p256_div n j
    generalize hq0 : n / p256 j = q0 at h7 hlo hhi hdv
    have e1 : q0 % 18446744073709551616 % 256 = n / p256 j % 256 := by rw [hq0]; omega
    have e8 : (q0 % 18446744073709551616).fdiv (2 ^ min (8 : Int).toNat 64) = q0 % 18446744073709551616 / 256 := by
      rw [show (2 : Int) ^ min (8 : Int).toNat 64 = 256 by decide, Int.fdiv_eq_ediv_of_nonneg _ (by omega)]
    simp -implicitDefEqProofs (maxSteps := 1000000) (disch := first | omega | assumption) only [h0, h7, h6, h8, f3, wu8, e1, e3, Sx, reduceIte, Nat.reduceEqDiff, reduceCtorEq, Nat.reduceAdd, Nat.reduceSub, Nat.reduceLT, decide_true, decide_false, Bool.not_true, Bool.not_false, Int.toNat_one, Int.toNat_zero, Nat.zero_mul, l_g, endK]
    refine a_put hO (j := m + 1 - 1 - j) (by simp; omega) ?_
    intro H4 hO4 ho4
    rw [hd_put hj] at hO4
    have e4 : (m : Int) - j - 1 = (m : Int) - ((j + 1 : Nat) : Int) := by omega
    by_cases hneg : n < 0
    · have f5 : decide (n < 0) = true := decide_eq_true hneg
      have hq1 : q0 ≤ -1 := by
        rw [← hq0]
        have h7 := Int.ediv_mul_le n (show p256 j ≠ 0 by omega)
        apply Decidable.byContradiction
        intro hc
        have h8 : 0 * p256 j ≤ n / p256 j * p256 j := Int.mul_le_mul_of_nonneg_right (by omega) (by omega)
        omega
      have e9 : (q0 % 18446744073709551616 / 256 + 18374686479671623680) % 18446744073709551616 = n / p256 (j + 1) % 18446744073709551616 := by rw [← hdv]; omega
      simp -implicitDefEqProofs (maxSteps := 1000000) (disch := first | omega | assumption) only [h0, h7, h6, h8, v_shr, bits_u64, e8, f5, wu64m, e9, Sx, reduceIte, Nat.reduceEqDiff, reduceCtorEq, Nat.reduceAdd, Nat.reduceSub, Nat.reduceLT, decide_true, decide_false, Bool.not_true, Bool.not_false, Int.toNat_one, Int.toNat_zero, Nat.zero_mul, l_g, endK]
      unfold L21_0
      simp -implicitDefEqProofs (maxSteps := 1000000) (disch := first | omega | assumption) only [h0, h7, h6, h8, e4, Sx, reduceIte, Nat.reduceEqDiff, reduceCtorEq, Nat.reduceAdd, Nat.reduceSub, Nat.reduceLT, decide_true, decide_false, Bool.not_true, Bool.not_false, Int.toNat_one, Int.toNat_zero, Nat.zero_mul, l_g, endK]
      exact ⟨k - 1, by omega, j + 1, by omega, by trivial, by trivial, by trivial, by trivial, hO4, ho4.keep hK hF⟩
    · have f5 : decide (n < 0) = false := decide_eq_false hneg
      have hq1 : 0 ≤ q0 := by rw [← hq0]; exact Int.ediv_nonneg (by omega) (by omega)
      have e9 : q0 % 18446744073709551616 / 256 = n / p256 (j + 1) % 18446744073709551616 := by rw [← hdv]; omega
      simp -implicitDefEqProofs (maxSteps := 1000000) (disch := first | omega | assumption) only [h0, h7, h6, h8, v_shr, bits_u64, e8, f5, e9, Sx, reduceIte, Nat.reduceEqDiff, reduceCtorEq, Nat.reduceAdd, Nat.reduceSub, Nat.reduceLT, decide_true, decide_false, Bool.not_true, Bool.not_false, Int.toNat_one, Int.toNat_zero, Nat.zero_mul, l_g, endK]
      unfold L21_0
      simp -implicitDefEqProofs (maxSteps := 1000000) (disch := first | omega | assumption) only [h0, h7, h6, h8, e4, Sx, reduceIte, Nat.reduceEqDiff, reduceCtorEq, Nat.reduceAdd, Nat.reduceSub, Nat.reduceLT, decide_true, decide_false, Bool.not_true, Bool.not_false, Int.toNat_one, Int.toNat_zero, Nat.zero_mul, l_g, endK]
      exact ⟨k - 1, by omega, j + 1, by omega, by trivial, by trivial, by trivial, by trivial, hO4, ho4.keep hK hF⟩
  · have hjm : j = m + 1 := by omega
    subst hjm
    have f3 : decide ((0 : Int) ≤ (m : Int) - ((m + 1 : Nat) : Int)) = false := decide_eq_false (by omega)
    rw [Nat.sub_self, List.replicate_zero, List.nil_append] at hO
    obtain ⟨a3, c3, e3, hc3, hr3⟩ := own_by hO
    have hlen := hd_len (m + 1) n
    obtain ⟨b, eb, hx⟩ := by_at hr3 (i := 0) (by omega)
    rw [hlen] at e3
    cases e3
    cases eb
    rw [add_zero_a] at hx
    have hdby := hd_by (m + 1) n
    have hx0 := hdby.at (i := 0) (by omega)
    have hx1 : (hd (m + 1) n)[0] = n / p256 m % 256 := rfl
    have hin : (0 : Int) ≤ 0 ∧ (0 : Int) < ((m + 1 : Nat) : Int) := by omega
    have hchk := chk_or (m := m) (n := n) (by omega) hn
    have hpair : ∀ L : List Int, ((binN L).2 = 0 ∧ (binN L).1 = n) ↔ binN L = (n, 0) := fun L => ⟨fun h => Prod.ext h.2 h.1, fun h => by rw [h]; exact ⟨rfl, rfl⟩⟩
    have fin : ∀ env' H' v, env' 4 = v → env' 5 = .int .i64 (if inR n m then (orB (hd (m + 1) n), (0 : Int)) else ([], 122)).2 → Bs H' v (if inR n m then (orB (hd (m + 1) n), (0 : Int)) else ([], 122)).1 → Keep H1 H' → Fresh H1 v → retQ [.t 4, .t 5] (fun e H' => Puts H1 (putB n ((m + 1 : Nat) : Int)) e H') .ret env' H' := by
      intro env' H' v e4 e5 hO' hK' hF'
      rw [← hput] at e5 hO'
      have hs := hO'.scalar
      simp -implicitDefEqProofs (maxSteps := 1000000) (disch := first | omega | assumption) only [e4, e5, Sx, reduceIte, Nat.reduceEqDiff, reduceCtorEq, Nat.reduceAdd, Nat.reduceSub, Nat.reduceLT]
      exact ⟨v, rfl, hO', hK', hF'⟩
    have same : 128 ≤ (hd (m + 1) n)[0] → orB (hd (m + 1) n) = hd (m + 1) n := by
      intro h
      rw [hx1] at h
      show (n / p256 m % 256 % 128 + 128) :: hd m n = (n / p256 m % 256) :: hd m n
      congr 1
      omega
    have hhead : (hd (m + 1) n).headD 0 = (hd (m + 1) n)[0] := rfl
    by_cases hneg : 0 ≤ n
    · have f5 : decide (0 ≤ n) = true := decide_eq_true hneg
      by_cases h64 : (hd (m + 1) n)[0] < 64
      · have f6 : decide ((hd (m + 1) n)[0] < 64) = true := decide_eq_true h64
        simp -implicitDefEqProofs (maxSteps := 1000000) (disch := first | omega | assumption) only [h0, h7, h6, h8, f3, f5, hx, f6, w_u8, Sx, reduceIte, Nat.reduceEqDiff, reduceCtorEq, Nat.reduceAdd, Nat.reduceSub, Nat.reduceLT, decide_true, decide_false, Bool.not_true, Bool.not_false, Int.toNat_one, Int.toNat_zero, Nat.zero_mul, l_g, endK]
        refine a_put hO (j := 0) (by omega) ?_
        intro H4 hO4 ho4
        have hset : (hd (m + 1) n).set 0 ((hd (m + 1) n)[0] + 128) = orB (hd (m + 1) n) := by
          rw [hx1] at h64 ⊢
          show (n / p256 m % 256 + 128) :: hd m n = (n / p256 m % 256 % 128 + 128) :: hd m n
          congr 1
          omega
        rw [hset] at hO4
        have hoby : isBy (orB (hd (m + 1) n)) := by
          intro x hx'
          rcases List.mem_cons.1 (show x ∈ (n / p256 m % 256 % 128 + 128) :: hd m n from hx') with rfl | hx'
          · omega
          · exact hd_by m n x hx'
        try simp -implicitDefEqProofs (maxSteps := 1000000) (disch := first | omega | assumption) only [h0, h7, h6, h8, Sx, reduceIte, Nat.reduceEqDiff, reduceCtorEq, Nat.reduceAdd, Nat.reduceSub, Nat.reduceLT, decide_true, decide_false, Bool.not_true, Bool.not_false, Int.toNat_one, Int.toNat_zero, Nat.zero_mul, l_g, endK]
        exact rputb_end (ho4.keep hK hF) hF hO4 hoby (by show (hd m n).length + 1 = m + 1; rw [hd_len]) (by omega) ((hpair _).trans hchk) (fun _ => rfl) (by simp -implicitDefEqProofs (maxSteps := 1000000) (disch := first | omega | assumption) only [h0, Sx, reduceIte, Nat.reduceEqDiff, reduceCtorEq, Nat.reduceAdd, Nat.reduceSub, Nat.reduceLT]) (by simp -implicitDefEqProofs (maxSteps := 1000000) (disch := first | omega | assumption) only [h6, Sx, reduceIte, Nat.reduceEqDiff, reduceCtorEq, Nat.reduceAdd, Nat.reduceSub, Nat.reduceLT]) fin
      · have f6 : decide ((hd (m + 1) n)[0] < 64) = false := decide_eq_false h64
        have hnR : ¬ inR n m := by
          rintro ⟨h9, h10⟩
          have : 0 ≤ n / p256 m := Int.ediv_nonneg hneg (by have := p256_pos m; omega)
          rw [hx1] at h64
          omega
        have hchk2 : ((binN (hd (m + 1) n)).2 = 0 ∧ (binN (hd (m + 1) n)).1 = n) ↔ inR n m := by
          constructor
          · intro h
            by_cases h128 : 128 ≤ (hd (m + 1) n)[0]
            · rw [← same h128] at h
              exact hchk.1 ((hpair _).1 h)
            · have := binN_low (l := hd (m + 1) n) (by rw [hhead]; omega)
              omega
          · intro h; exact absurd h hnR
        simp -implicitDefEqProofs (maxSteps := 1000000) (disch := first | omega | assumption) only [h0, h7, h6, h8, f3, f5, hx, f6, Sx, reduceIte, Nat.reduceEqDiff, reduceCtorEq, Nat.reduceAdd, Nat.reduceSub, Nat.reduceLT, decide_true, decide_false, Bool.not_true, Bool.not_false, Int.toNat_one, Int.toNat_zero, Nat.zero_mul, l_g, endK]
        exact rputb_end hK hF hO hdby hlen (by omega) hchk2 (fun h => absurd h hnR) (by simp -implicitDefEqProofs (maxSteps := 1000000) (disch := first | omega | assumption) only [h0, Sx, reduceIte, Nat.reduceEqDiff, reduceCtorEq, Nat.reduceAdd, Nat.reduceSub, Nat.reduceLT]) (by simp -implicitDefEqProofs (maxSteps := 1000000) (disch := first | omega | assumption) only [h6, Sx, reduceIte, Nat.reduceEqDiff, reduceCtorEq, Nat.reduceAdd, Nat.reduceSub, Nat.reduceLT]) fin
    · have f5 : decide (0 ≤ n) = false := decide_eq_false hneg
      have hchk2 : ((binN (hd (m + 1) n)).2 = 0 ∧ (binN (hd (m + 1) n)).1 = n) ↔ inR n m := by
        by_cases h128 : 128 ≤ (hd (m + 1) n)[0]
        · rw [hpair, ← hchk, same h128]
        · constructor
          · intro h
            have := binN_low (l := hd (m + 1) n) (by rw [hhead]; omega)
            omega
          · rintro ⟨h9, h10⟩
            exfalso
            have hm1 : n / p256 m ≤ -1 := by
              have h7 := Int.ediv_mul_le n (show p256 m ≠ 0 by have := p256_pos m; omega)
              apply Decidable.byContradiction
              intro hc
              have h8 : 0 * p256 m ≤ n / p256 m * p256 m := Int.mul_le_mul_of_nonneg_right (by omega) (by have := p256_pos m; omega)
              omega
            rw [hx1] at h128
            omega
      have hLL : inR n m → hd (m + 1) n = orB (hd (m + 1) n) := by
        rintro ⟨h9, h10⟩
        have hm1 : n / p256 m ≤ -1 := by
          have h7 := Int.ediv_mul_le n (show p256 m ≠ 0 by have := p256_pos m; omega)
          apply Decidable.byContradiction
          intro hc
          have h8 : 0 * p256 m ≤ n / p256 m * p256 m := Int.mul_le_mul_of_nonneg_right (by omega) (by have := p256_pos m; omega)
          omega
        exact (same (by rw [hx1]; omega)).symm
      simp -implicitDefEqProofs (maxSteps := 1000000) (disch := first | omega | assumption) only [h0, h7, h6, h8, f3, f5, Sx, reduceIte, Nat.reduceEqDiff, reduceCtorEq, Nat.reduceAdd, Nat.reduceSub, Nat.reduceLT, decide_true, decide_false, Bool.not_true, Bool.not_false, Int.toNat_one, Int.toNat_zero, Nat.zero_mul, l_g, endK]
      exact rputb_end hK hF hO hdby hlen (by omega) hchk2 hLL (by simp -implicitDefEqProofs (maxSteps := 1000000) (disch := first | omega | assumption) only [h0, Sx, reduceIte, Nat.reduceEqDiff, reduceCtorEq, Nat.reduceAdd, Nat.reduceSub, Nat.reduceLT]) (by simp -implicitDefEqProofs (maxSteps := 1000000) (disch := first | omega | assumption) only [h6, Sx, reduceIte, Nat.reduceEqDiff, reduceCtorEq, Nat.reduceAdd, Nat.reduceSub, Nat.reduceLT]) fin

/-- PutNumber -/
def putN (n w : Int) : List Int × Int := if (putO n w).2 = 0 then putO n w else putB n w
set_option maxHeartbeats 1000000 in
theorem putNumber_spec {H : Heap} {n w : Int} (hT : Tz H) (hn : -9223372036854775808 ≤ n ∧ n ≤ 9223372036854775807) (hw : -9223372036854775808 ≤ w ∧ w ≤ 9223372036854775807) :
    ACalls Tryd.prog 22 [Value.int .i64 n, .int .i64 w].toArray H fun e H' => Puts H (putN n w) e H' := by
  refine call22 (Nat.le_of_ble_eq_true rfl) ?_
  unfold L22 env0
  simp -implicitDefEqProofs (maxSteps := 1000000) (disch := first | omega | assumption) only [Sx, reduceIte, Nat.reduceEqDiff, reduceCtorEq, Nat.reduceAdd, Nat.reduceSub, Nat.reduceLT]
  refine a_call (putOctal_spec hT hn hw) ?_
  rintro e H1 ⟨v, rfl, hO, hk, hF⟩
  have hs := hO.scalar
  unfold putN
  by_cases h : (putO n w).2 = 0
  · have f0 : ((putO n w).2 == 0) = true := by rw [beq_iff_eq]; exact h
    simp -implicitDefEqProofs (maxSteps := 1000000) (disch := first | omega | assumption) only [f0, Sx, reduceIte, Nat.reduceEqDiff, reduceCtorEq, Nat.reduceAdd, Nat.reduceSub, Nat.reduceLT, decide_true, decide_false, Bool.not_true, Bool.not_false, Int.toNat_one, Int.toNat_zero, Nat.zero_mul, l_g, endK]
    rw [if_pos h]
    exact ⟨v, rfl, hO, hk, hF⟩
  · have f0 : ((putO n w).2 == 0) = false := by rw [beq_eq_false_iff_ne]; exact h
    simp -implicitDefEqProofs (maxSteps := 1000000) (disch := first | omega | assumption) only [f0, Sx, reduceIte, Nat.reduceEqDiff, reduceCtorEq, Nat.reduceAdd, Nat.reduceSub, Nat.reduceLT, decide_true, decide_false, Bool.not_true, Bool.not_false, Int.toNat_one, Int.toNat_zero, Nat.zero_mul, l_g, endK]
    refine a_call (putBinary_spec hn hw) ?_
    rintro e H2 ⟨v2, rfl, hO2, hk2, hF2⟩
    have hs2 := hO2.scalar
    simp -implicitDefEqProofs (maxSteps := 1000000) (disch := first | omega | assumption) only [Sx, reduceIte, Nat.reduceEqDiff, reduceCtorEq, Nat.reduceAdd, Nat.reduceSub, Nat.reduceLT, decide_true, decide_false, Bool.not_true, Bool.not_false, Int.toNat_one, Int.toNat_zero, Nat.zero_mul, l_g, endK]
    rw [if_neg h]
    exact ⟨v2, rfl, hO2, hk.trans hk2, fun q hq => hk.none (hF2 q hq)⟩
set_option maxHeartbeats 1000000 in
theorem rputNumber_spec {H : Heap} {n w : Int} (hn : -9223372036854775808 ≤ n ∧ n ≤ 9223372036854775807) (hw : -9223372036854775808 ≤ w ∧ w ≤ 9223372036854775807) :
    ACalls Tryd.prog 23 [Value.int .i64 n, .int .i64 w].toArray H fun e H' => Puts H (putN n w) e H' := by
  refine call23 (Nat.le_of_ble_eq_true rfl) ?_
  unfold L23 env0
  simp -implicitDefEqProofs (maxSteps := 1000000) (disch := first | omega | assumption) only [Sx, reduceIte, Nat.reduceEqDiff, reduceCtorEq, Nat.reduceAdd, Nat.reduceSub, Nat.reduceLT]
  refine a_call (rputOctal_spec hn hw) ?_
  rintro e H1 ⟨v, rfl, hO, hk, hF⟩
  have hs := hO.scalar
  unfold putN
  by_cases h : (putO n w).2 = 0
  · have f0 : ((putO n w).2 == 0) = true := by rw [beq_iff_eq]; exact h
    simp -implicitDefEqProofs (maxSteps := 1000000) (disch := first | omega | assumption) only [f0, Sx, reduceIte, Nat.reduceEqDiff, reduceCtorEq, Nat.reduceAdd, Nat.reduceSub, Nat.reduceLT, decide_true, decide_false, Bool.not_true, Bool.not_false, Int.toNat_one, Int.toNat_zero, Nat.zero_mul, l_g, endK]
    rw [if_pos h]
    exact ⟨v, rfl, hO, hk, hF⟩
  · have f0 : ((putO n w).2 == 0) = false := by rw [beq_eq_false_iff_ne]; exact h
    simp -implicitDefEqProofs (maxSteps := 1000000) (disch := first | omega | assumption) only [f0, Sx, reduceIte, Nat.reduceEqDiff, reduceCtorEq, Nat.reduceAdd, Nat.reduceSub, Nat.reduceLT, decide_true, decide_false, Bool.not_true, Bool.not_false, Int.toNat_one, Int.toNat_zero, Nat.zero_mul, l_g, endK]
    refine a_call (rputBinary_spec hn hw) ?_
    rintro e H2 ⟨v2, rfl, hO2, hk2, hF2⟩
    have hs2 := hO2.scalar
    simp -implicitDefEqProofs (maxSteps := 1000000) (disch := first | omega | assumption) only [Sx, reduceIte, Nat.reduceEqDiff, reduceCtorEq, Nat.reduceAdd, Nat.reduceSub, Nat.reduceLT, decide_true, decide_false, Bool.not_true, Bool.not_false, Int.toNat_one, Int.toNat_zero, Nat.zero_mul, l_g, endK]
    rw [if_neg h]
    exact ⟨v2, rfl, hO2, hk.trans hk2, fun q hq => hk.none (hF2 q hq)⟩
end Go.Proofs.YtigignkgblaoaaaDoor.S12
