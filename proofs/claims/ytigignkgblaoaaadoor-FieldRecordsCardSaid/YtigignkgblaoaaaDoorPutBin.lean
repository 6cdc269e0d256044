/-
  PutBinary and PutNumber, of both.
-/
import Derived.Test.YtigignkgblaoaaaDoorLowG
import Derived.Test.YtigignkgblaoaaaDoorPutOct
set_option linter.unusedVariables false
set_option linter.unusedSimpArgs false
namespace Go.Proofs.YtigignkgblaoaaaDoor.S12
open Go Go.RowKit Go.Proofs.YtigignkgblaoaaaDoor.Sep Go.Proofs.YtigignkgblaoaaaDoor.Low Go.Proofs.YtigignkgblaoaaaDoor.Lib

/-- so many bytes of a number, the highest first -/
def hd : Nat → Int → List Int
  | 0, _ => []
  | j + 1, n => (n / p256 j % 256) :: hd j n
theorem hd_len : ∀ (j : Nat) (n : Int), (hd j n).length = j
  | 0, _ => rfl
  | j + 1, n => by rw [hd, List.length_cons, hd_len j n]
theorem hd_by : ∀ (j : Nat) (n : Int), isBy (hd j n)
  | 0, _ => fun x h => by cases h
  | j + 1, n => fun x h => by
    rw [hd] at h
    rcases List.mem_cons.1 h with rfl | h
    · omega
    · exact hd_by j n x h
theorem hd_bv : ∀ (j : Nat) (n : Int), bv 0 (hd j n) = n % p256 j
  | 0, n => by rw [hd, bv, p256]; omega
  | j + 1, n => by
    have hp := p256_pos j
    rw [hd, bv, bv_lin, hd_len, hd_bv j n, Int.zero_mul, Int.zero_add, p256]
    have h1 := Int.emod_add_mul_ediv n (p256 j)
    have h2 := Int.emod_add_mul_ediv (n / p256 j) 256
    have h3 : n / p256 j / 256 = n / (p256 j * 256) := Int.ediv_ediv_of_nonneg (by omega)
    have h4 := Int.emod_add_mul_ediv n (p256 j * 256)
    rw [← h3] at h4
    generalize n / p256 j = q at h1 h2 h4 ⊢
    have h5 : p256 j * q = p256 j * (q % 256) + p256 j * 256 * (q / 256) := by
      conv => lhs; rw [← h2]
      rw [Int.mul_add, Int.mul_assoc]
    rw [Int.mul_comm (q % 256)]
    omega
theorem p256_div (n : Int) (j : Nat) : n / p256 j / 256 = n / p256 (j + 1) := by
  rw [p256, Int.ediv_ediv_of_nonneg (by have := p256_pos j; omega)]
def orB : List Int → List Int
  | [] => []
  | x :: r => (x % 128 + 128) :: r
/-- what fits so many bytes -/
def inR (n : Int) (m : Nat) : Prop := -64 ≤ n / p256 m ∧ n / p256 m < 64
instance (n : Int) (m : Nat) : Decidable (inR n m) := by unfold inR; infer_instance
/-- PutBinary -/
def putB (n w : Int) : List Int × Int := if w < 2 ∨ 512 < w then ([], 1) else if inR n (w.toNat - 1) then (orB (hd w.toNat n), 0) else ([], 122)
theorem binV_or (m : Nat) (n : Int) : ∃ q : Int, binV (orB (hd (m + 1) n)) = q * p256 m + n % p256 m ∧ -64 ≤ q ∧ q < 64 ∧ (q - n / p256 m) % 128 = 0 := by
  show ∃ q : Int, bv (if 64 ≤ (n / p256 m % 256 % 128 + 128) % 128 then -1 else 0) ((if 64 ≤ (n / p256 m % 256 % 128 + 128) % 128 then n / p256 m % 256 % 128 + 128 else n / p256 m % 256 % 128 + 128 - 128) :: hd m n) = q * p256 m + n % p256 m ∧ -64 ≤ q ∧ q < 64 ∧ (q - n / p256 m) % 128 = 0
  generalize n / p256 m = t
  have e1 : (t % 256 % 128 + 128) % 128 = t % 128 := by omega
  rw [e1]
  by_cases h : 64 ≤ t % 128
  · rw [if_pos h, if_pos h]
    refine ⟨t % 128 - 128, ?_, by omega, by omega, by omega⟩
    rw [bv, bv_lin, hd_len, hd_bv]
    congr 2
    omega
  · rw [if_neg h, if_neg h]
    refine ⟨t % 128, ?_, by omega, by omega, by omega⟩
    rw [bv, bv_lin, hd_len, hd_bv]
    congr 2
    omega
theorem binV_eq {m : Nat} {n : Int} : binV (orB (hd (m + 1) n)) = n ↔ inR n m := by
  obtain ⟨q, hq, h1, h2, h3⟩ := binV_or m n
  rw [hq]
  have hp := p256_pos m
  have hn := Int.emod_add_mul_ediv n (p256 m)
  unfold inR
  constructor
  · intro h
    have h4 : q * p256 m = n / p256 m * p256 m := by rw [Int.mul_comm (n / p256 m)]; omega
    have h5 : q = n / p256 m := Int.eq_of_mul_eq_mul_right (by omega) h4
    omega
  · rintro ⟨h4, h5⟩
    have h6 : q = n / p256 m := by omega
    rw [h6, Int.mul_comm]
    omega
/-- what the check behind it says -/
theorem chk_or {m : Nat} {n : Int} (hm : 1 ≤ m) (hn : fits64 n) : binN (orB (hd (m + 1) n)) = (n, 0) ↔ inR n m := by
  have e : binN (orB (hd (m + 1) n)) = if fits64 (binV (orB (hd (m + 1) n))) then (binV (orB (hd (m + 1) n)), 0) else (0, 121) := by
    unfold binN
    rw [if_neg]
    have h1 : (orB (hd (m + 1) n)).length = m + 1 := by rw [hd, orB, List.length_cons, hd_len]
    have h2 : 128 ≤ (orB (hd (m + 1) n)).headD 0 := by rw [hd, orB, List.headD_cons]; omega
    omega
  rw [e, ← binV_eq]
  constructor
  · intro h
    by_cases hf : fits64 (binV (orB (hd (m + 1) n)))
    · rw [if_pos hf] at h
      exact congrArg (·.1) h
    · rw [if_neg hf] at h
      exact absurd (congrArg (·.2) h) (by simp)
  · intro h
    rw [h, if_pos hn]
theorem binN_low {l : List Int} (h : l.headD 0 < 128) : (binN l).2 = 120 := by unfold binN; rw [if_pos (.inr h)]

/-- byte by byte -/
theorem hd_put {m j : Nat} {n : Int} (hj : j < m) : (List.replicate (m - j) (0 : Int) ++ hd j n).set (m - 1 - j) (n / p256 j % 256) = List.replicate (m - (j + 1)) 0 ++ hd (j + 1) n := by
  rw [show m - j = (m - (j + 1)) + 1 by omega, List.replicate_succ', List.append_assoc, List.set_append_right _ _ (by simp; omega)]
  simp only [List.length_replicate, List.singleton_append]
  rw [show m - 1 - j - (m - (j + 1)) = 0 by omega, List.set_cons_zero]
  rfl
theorem wu8 {z : Int} : IntKind.u8.wrap z = z % 256 := w_u8m
set_option maxHeartbeats 4000000 in
theorem putBinary_spec {H : Heap} {n w : Int} (hn : -9223372036854775808 ≤ n ∧ n ≤ 9223372036854775807) (hw : -9223372036854775808 ≤ w ∧ w ≤ 9223372036854775807) :
    ACalls Tryd.prog 20 [Value.int .i64 n, .int .i64 w].toArray H fun e H' => Puts H (putB n w) e H' := by
  refine call20 (Nat.le_of_ble_eq_true rfl) ?_
  unfold L20 env0
  by_cases h1 : w < 2
  · have f0 : decide (w < 2) = true := decide_eq_true h1
    simp -implicitDefEqProofs (maxSteps := 1000000) (disch := first | omega | assumption) only [f0, Sx, reduceIte, Nat.reduceEqDiff, reduceCtorEq, Nat.reduceAdd, Nat.reduceSub, Nat.reduceLT, decide_true, decide_false, Bool.not_true, Bool.not_false, Int.toNat_one, Int.toNat_zero, Nat.zero_mul, l_g, endK]
    exact .err (Keep.refl _) (by unfold putB; rw [if_pos (.inl h1)])
  have f0 : decide (w < 2) = false := decide_eq_false h1
  by_cases h2 : 512 < w
  · have f1 : decide (512 < w) = true := decide_eq_true h2
    simp -implicitDefEqProofs (maxSteps := 1000000) (disch := first | omega | assumption) only [f0, f1, Sx, reduceIte, Nat.reduceEqDiff, reduceCtorEq, Nat.reduceAdd, Nat.reduceSub, Nat.reduceLT, decide_true, decide_false, Bool.not_true, Bool.not_false, Int.toNat_one, Int.toNat_zero, Nat.zero_mul, l_g, endK]
    exact .err (Keep.refl _) (by unfold putB; rw [if_pos (.inr h2)])
  have f1 : decide (512 < w) = false := decide_eq_false h2
  have hput : putB n w = if inR n (w.toNat - 1) then (orB (hd w.toNat n), 0) else ([], 122) := by unfold putB; rw [if_neg (by omega)]
  obtain ⟨m, hm⟩ : ∃ m : Nat, w = (m : Int) + 1 := ⟨w.toNat - 1, by omega⟩
  have hwm : w.toNat = m + 1 := by omega
  rw [hwm, Nat.add_sub_cancel] at hput
  have hwn : w = ((m + 1 : Nat) : Int) := by omega
  rw [hwn] at f0 f1 hput ⊢
  simp -implicitDefEqProofs (maxSteps := 1000000) (disch := first | omega | assumption) only [f0, f1, Sx, reduceIte, Nat.reduceEqDiff, reduceCtorEq, Nat.reduceAdd, Nat.reduceSub, Nat.reduceLT, decide_true, decide_false, Bool.not_true, Bool.not_false, Int.toNat_one, Int.toNat_zero, Nat.zero_mul, l_g, endK]
  refine a_mks (l := m + 1) (c := m + 1) (sz := 1) (by omega) (by omega) (by omega) rfl (by omega) ?_
  intro r H2 rest hbr hW hk2 hr2
  rw [zeros_by] at hW
  have hF : Fresh H (.slice (some ⟨r, 0, none⟩) (m + 1) (m + 1)) := fun q hq => by cases hq; exact hr2
  have e2 : ((m + 1 : Nat) : Int) - 1 = (m : Int) := by omega
  try simp -implicitDefEqProofs (maxSteps := 1000000) (disch := first | omega | assumption) only [e2, Sx, reduceIte, Nat.reduceEqDiff, reduceCtorEq, Nat.reduceAdd, Nat.reduceSub, Nat.reduceLT, decide_true, decide_false, Bool.not_true, Bool.not_false, Int.toNat_one, Int.toNat_zero, Nat.zero_mul, l_g, endK]
  refine c_loop (fun k env H' => ∃ j, k + j = m + 1 ∧ env 0 = .int .i64 n ∧ env 7 = .int .i64 (n / p256 j) ∧ env 6 = .slice (some ⟨r, 0, none⟩) (m + 1) (m + 1) ∧ env 8 = .int .i64 ((m : Int) - j) ∧ Bs H' (.slice (some ⟨r, 0, none⟩) (m + 1) (m + 1)) (List.replicate (m + 1 - j) 0 ++ hd j n) ∧ Keep H H') (m + 1)
    ⟨0, by omega, by simp -implicitDefEqProofs (maxSteps := 1000000) (disch := first | omega | assumption) only [Sx, reduceIte, Nat.reduceEqDiff, reduceCtorEq, Nat.reduceAdd, Nat.reduceSub, Nat.reduceLT], by rw [p256, Int.ediv_one]; simp -implicitDefEqProofs (maxSteps := 1000000) (disch := first | omega | assumption) only [Sx, reduceIte, Nat.reduceEqDiff, reduceCtorEq, Nat.reduceAdd, Nat.reduceSub, Nat.reduceLT], by simp -implicitDefEqProofs (maxSteps := 1000000) (disch := first | omega | assumption) only [Sx, reduceIte, Nat.reduceEqDiff, reduceCtorEq, Nat.reduceAdd, Nat.reduceSub, Nat.reduceLT], by simp -implicitDefEqProofs (maxSteps := 1000000) (disch := first | omega | assumption) only [Sx, reduceIte, Nat.reduceEqDiff, reduceCtorEq, Nat.reduceAdd, Nat.reduceSub, Nat.reduceLT]; simp, by rw [Nat.sub_zero, hd, List.append_nil]; exact hW, hk2⟩ ?_
  rintro k env H3 ⟨j, hk, h0, h7, h6, h8, hO, hK⟩
  unfold L20_0
  by_cases hj : j < m + 1
  · have f3 : decide ((0 : Int) ≤ (m : Int) - j) = true := decide_eq_true (by omega)
    have hin : (0 : Int) ≤ (m : Int) - j ∧ (m : Int) - j < ((m + 1 : Nat) : Int) := by omega
    have e3 : ((m : Int) - j).toNat = m + 1 - 1 - j := by omega
    have e8 : (n / p256 j).fdiv (2 ^ min (8 : Int).toNat 64) = n / p256 (j + 1) := by
      rw [show (2 : Int) ^ min (8 : Int).toNat 64 = 256 by decide, Int.fdiv_eq_ediv_of_nonneg _ (by omega), p256_div]
    simp -implicitDefEqProofs (maxSteps := 1000000) (disch := first | omega | assumption) only [h0, h7, h6, h8, f3, wu8, e3, Sx, reduceIte, Nat.reduceEqDiff, reduceCtorEq, Nat.reduceAdd, Nat.reduceSub, Nat.reduceLT, decide_true, decide_false, Bool.not_true, Bool.not_false, Int.toNat_one, Int.toNat_zero, Nat.zero_mul, l_g, endK]
    refine a_put hO (j := m + 1 - 1 - j) (by simp; omega) ?_
    intro H4 hO4 ho4
    rw [hd_put hj] at hO4
    have e4 : (m : Int) - j - 1 = (m : Int) - ((j + 1 : Nat) : Int) := by omega
    simp -implicitDefEqProofs (maxSteps := 1000000) (disch := first | omega | assumption) only [h0, h7, h6, h8, v_shr, bits_i64, e8, e4, Sx, reduceIte, Nat.reduceEqDiff, reduceCtorEq, Nat.reduceAdd, Nat.reduceSub, Nat.reduceLT, decide_true, decide_false, Bool.not_true, Bool.not_false, Int.toNat_one, Int.toNat_zero, Nat.zero_mul, l_g, endK]
    exact ⟨k - 1, by omega, j + 1, by omega, by trivial, by trivial, by trivial, by trivial, hO4, ho4.keep hK hF⟩
  · have hjm : j = m + 1 := by omega
    subst hjm
    have f3 : decide ((0 : Int) ≤ (m : Int) - ((m + 1 : Nat) : Int)) = false := decide_eq_false (by omega)
    rw [Nat.sub_self, List.replicate_zero, List.nil_append] at hO
    obtain ⟨a3, c3, e3, hc3, hr3⟩ := own_by hO
    have hlen := hd_len (m + 1) n
    obtain ⟨b, eb, hx⟩ := by_at hr3 (i := 0) (by omega)
    rw [hlen] at e3
    cases e3
    cases eb
    rw [add_zero_a] at hx
    have hx0 := (hd_by (m + 1) n).at (i := 0) (by omega)
    have ho := or128 hx0
    have hin : (0 : Int) ≤ 0 ∧ (0 : Int) < ((m + 1 : Nat) : Int) := by omega
    simp -implicitDefEqProofs (maxSteps := 1000000) (disch := first | omega | assumption) only [h0, h7, h6, h8, f3, hx, ho, Sx, reduceIte, Nat.reduceEqDiff, reduceCtorEq, Nat.reduceAdd, Nat.reduceSub, Nat.reduceLT, decide_true, decide_false, Bool.not_true, Bool.not_false, Int.toNat_one, Int.toNat_zero, Nat.zero_mul, l_g, endK]
    refine a_put hO (j := 0) (by omega) ?_
    intro H4 hO4 ho4
    have hset : (hd (m + 1) n).set 0 ((hd (m + 1) n)[0] % 128 + 128) = orB (hd (m + 1) n) := rfl
    rw [hset] at hO4
    have hkk := ho4.keep hK hF
    have hol : (orB (hd (m + 1) n)).length = m + 1 := by rw [hd, orB, List.length_cons, hd_len]
    have hoby : isBy (orB (hd (m + 1) n)) := by
      have h9 := hd_by (m + 1) n
      rw [hd] at h9 ⊢
      intro x hx'
      rw [orB] at hx'
      rcases List.mem_cons.1 hx' with rfl | hx'
      · omega
      · exact h9 x (List.mem_cons_of_mem _ hx')
    have hby4 := own_by hO4
    try simp -implicitDefEqProofs (maxSteps := 1000000) (disch := first | omega | assumption) only [h0, h7, h6, h8, Sx, reduceIte, Nat.reduceEqDiff, reduceCtorEq, Nat.reduceAdd, Nat.reduceSub, Nat.reduceLT, decide_true, decide_false, Bool.not_true, Bool.not_false, Int.toNat_one, Int.toNat_zero, Nat.zero_mul, l_g, endK]
    refine a_call (binary_spec hby4 hoby (by omega)) ?_
    rintro e H5 ⟨rfl, rfl⟩
    have hchk := chk_or (m := m) (n := n) (by omega) hn
    by_cases hR : inR n m
    · have hb := hchk.2 hR
      rw [hb]
      have f4 : ((0 : Int) != 0) = false := rfl
      have f5 : (n != n) = false := by simp
      simp -implicitDefEqProofs (maxSteps := 1000000) (disch := first | omega | assumption) only [h0, h7, h6, h8, f4, f5, Sx, reduceIte, Nat.reduceEqDiff, reduceCtorEq, Nat.reduceAdd, Nat.reduceSub, Nat.reduceLT, decide_true, decide_false, Bool.not_true, Bool.not_false, Int.toNat_one, Int.toNat_zero, Nat.zero_mul, l_g, endK]
      exact ⟨_, by rw [hput, if_pos hR], by rw [hput, if_pos hR]; exact hO4, hkk, hF⟩
    · have hb : ¬ ((binN (orB (hd (m + 1) n))).2 = 0 ∧ (binN (orB (hd (m + 1) n))).1 = n) := fun h => hR (hchk.1 (Prod.ext h.2 h.1))
      by_cases he : (binN (orB (hd (m + 1) n))).2 = 0
      · have f4 : ((binN (orB (hd (m + 1) n))).2 != 0) = false := by rw [bne_eq_false_iff_eq]; exact he
        have f5 : ((binN (orB (hd (m + 1) n))).1 != n) = true := by rw [bne_iff_ne]; exact fun h => hb ⟨he, h⟩
        simp -implicitDefEqProofs (maxSteps := 1000000) (disch := first | omega | assumption) only [h0, h7, h6, h8, f4, f5, Sx, reduceIte, Nat.reduceEqDiff, reduceCtorEq, Nat.reduceAdd, Nat.reduceSub, Nat.reduceLT, decide_true, decide_false, Bool.not_true, Bool.not_false, Int.toNat_one, Int.toNat_zero, Nat.zero_mul, l_g, endK]
        exact .err hkk (by rw [hput, if_neg hR])
      · have f4 : ((binN (orB (hd (m + 1) n))).2 != 0) = true := by rw [bne_iff_ne]; exact he
        simp -implicitDefEqProofs (maxSteps := 1000000) (disch := first | omega | assumption) only [h0, h7, h6, h8, f4, Sx, reduceIte, Nat.reduceEqDiff, reduceCtorEq, Nat.reduceAdd, Nat.reduceSub, Nat.reduceLT, decide_true, decide_false, Bool.not_true, Bool.not_false, Int.toNat_one, Int.toNat_zero, Nat.zero_mul, l_g, endK]
        exact .err hkk (by rw [hput, if_neg hR])
end Go.Proofs.YtigignkgblaoaaaDoor.S12
