/-
  What is written is what is read: plain.
-/
import Derived.Test.YtigignkgblaoaaaDoorRPutBin
import Derived.Test.YtigignkgblaoaaaDoorText
import Derived.Test.YtigignkgblaoaaaDoorPutTxt
set_option linter.unusedVariables false
set_option linter.unusedSimpArgs false
namespace Go.Proofs.YtigignkgblaoaaaDoor.S12
open Go Go.RowKit Go.Proofs.YtigignkgblaoaaaDoor.Sep Go.Proofs.YtigignkgblaoaaaDoor.Lib

theorem bq {z y : Int} (h : z = y) : (z == y) = true := beq_iff_eq.2 h
theorem bn {z y : Int} (h : z = y) : (z != y) = false := bne_eq_false_iff_eq.2 h
theorem nq {z y : Int} (h : z ≠ y) : (z == y) = false := beq_eq_false_iff_ne.2 h
theorem nn {z y : Int} (h : z ≠ y) : (z != y) = true := bne_iff_ne.2 h
/-! ### Octal -/
theorem od_next (j : Nat) (n : Int) : n % p8 (j + 1) = n / p8 j % 8 * p8 j + n % p8 j := by
  have h1 := Int.mul_ediv_add_emod n (p8 j)
  have h2 := Int.mul_ediv_add_emod (n / p8 j) 8
  have h3 := Int.mul_ediv_add_emod n (p8 (j + 1))
  have h4 := p8_div n j
  rw [p8] at h3 ⊢
  rw [p8] at h4
  rw [← h4] at h3
  generalize n / p8 j / 8 = u at h2 h3 h4
  generalize n / p8 j % 8 = d at h2 ⊢
  generalize n / p8 j = q at h1 h2 h4
  generalize n % (p8 j * 8) = x at h3 ⊢
  generalize n % p8 j = y at h1 ⊢
  generalize p8 j = p at h1 h3 ⊢
  subst h2
  have e1 : p * 8 * u = p * (8 * u) := by rw [Int.mul_assoc]
  have e2 : p * (8 * u + d) = p * (8 * u) + p * d := Int.mul_add ..
  have e3 : p * d = d * p := Int.mul_comm ..
  omega
theorem octV_od : ∀ (j : Nat) (n s : Int), 0 ≤ s → s * p8 j + n % p8 j ≤ 9223372036854775807 → octV s (od j n) = some (s * p8 j + n % p8 j)
  | 0, n, s, _, _ => by simp [od, octV, p8]
  | j + 1, n, s, h0, h => by
    have hp := p8_pos j
    have hd : 0 ≤ n / p8 j % 8 ∧ n / p8 j % 8 < 8 := by omega
    have e1 : s * p8 (j + 1) + n % p8 (j + 1) = (8 * s + n / p8 j % 8) * p8 j + n % p8 j := by
      rw [od_next, p8, Int.add_mul, Int.mul_comm (p8 j) 8, ← Int.mul_assoc, Int.mul_comm s 8, Int.add_assoc]
    rw [e1] at h ⊢
    have hm : 0 ≤ n % p8 j := Int.emod_nonneg _ (by omega)
    have hle : 8 * s + n / p8 j % 8 ≤ (8 * s + n / p8 j % 8) * p8 j := by
      have := Int.mul_le_mul_of_nonneg_left (show 1 ≤ p8 j by omega) (show 0 ≤ 8 * s + n / p8 j % 8 by omega)
      omega
    rw [od, octV, show 48 + n / p8 j % 8 - 48 = n / p8 j % 8 by omega, if_neg (by omega)]
    exact octV_od j n _ (by omega) h
theorem oct_od {j : Nat} {n : Int} {t : List Int} (h0 : 0 ≤ n) (h1 : n < p8 j) (h2 : n ≤ 9223372036854775807) (hj : 0 < j) (ht : t.all blankZ = true) : octN (od j n ++ t) = (n, 0) := by
  have hmod : n % p8 j = n := Int.emod_eq_of_lt h0 h1
  have hv := octV_od j n 0 (Int.le_refl _) (by rw [hmod]; omega)
  rw [hmod, Int.zero_mul, Int.zero_add] at hv
  have hdig : ∀ x ∈ od j n, isOct x = true := fun x hx => by have := od_oct j n x hx; simp [isOct]; omega
  have htk : (od j n ++ t).takeWhile isOct = od j n ∧ (od j n ++ t).dropWhile isOct = t := by
    have hno : t.takeWhile isOct = [] ∧ t.dropWhile isOct = t := by
      cases t with
      | nil => exact ⟨rfl, rfl⟩
      | cons y t =>
        have hy := List.all_eq_true.1 ht y List.mem_cons_self
        have : isOct y = false := by
          simp only [blankZ, Bool.or_eq_true, beq_iff_eq] at hy
          rcases hy with rfl | rfl <;> decide
        simp [List.takeWhile, List.dropWhile, this]
    rw [List.takeWhile_append_of_pos hdig, List.dropWhile_append_of_pos hdig, hno.1, hno.2, List.append_nil]
    exact ⟨rfl, rfl⟩
  unfold octN
  have hd : (od j n ++ t).dropWhile (· == 32) = od j n ++ t := by
    obtain ⟨k, rfl⟩ : ∃ k, j = k + 1 := ⟨j - 1, by omega⟩
    rw [od, List.cons_append, List.dropWhile_cons, if_neg]
    have := od_oct (k + 1) n (48 + n / p8 k % 8) (by rw [od]; exact List.mem_cons_self)
    simp; omega
  rw [hd]
  unfold octT
  rw [htk.1, htk.2, if_pos ht, hv]
theorem octN_err {l : List Int} (h : (octN l).2 ≠ 0) : (octN l).1 = 0 := by
  unfold octN octT at h ⊢
  split
  · rename_i h1
    rw [if_pos h1] at h
    split
    · rfl
    · rename_i h2; rw [h2] at h; exact absurd rfl h
  · rfl
theorem octN_ge (l : List Int) : 0 ≤ (octN l).1 ∧ (octN l).1 ≤ 9223372036854775807 := by
  unfold octN octT
  split
  · split
    · decide
    · rename_i n h
      exact octV_ge _ _ _ (Int.le_refl _) (by decide) (fun x hx => tw_mem hx) h
  · decide
theorem putO_err {n w : Int} (h : (putO n w).2 ≠ 0) : (putO n w).1 = [] := by
  unfold putO at h ⊢
  split
  · rfl
  · rename_i h1; rw [if_neg h1] at h
    split
    · rfl
    · rename_i h2; rw [if_neg h2] at h; exact absurd rfl h
theorem putO_wide {n w : Int} (h : (putO n w).2 ≠ 0) (hw : 2 ≤ w ∧ w ≤ 512) : (putO n w).2 = 122 := by
  unfold putO at h ⊢
  rw [if_neg (by omega)] at h ⊢
  split
  · rfl
  · rename_i h2; rw [if_neg h2] at h; exact absurd rfl h
theorem putO_ok {n w : Int} (h : (putO n w).2 = 0) : (2 ≤ w ∧ w ≤ 512) ∧ (0 ≤ n ∧ n < p8 (w.toNat - 1)) ∧ (putO n w).1 = od (w.toNat - 1) n ++ [0] := by
  unfold putO at h ⊢
  by_cases h1 : w < 2 ∨ 512 < w
  · rw [if_pos h1] at h; cases h
  · rw [if_neg h1] at h ⊢
    by_cases h2 : n < 0 ∨ p8 (w.toNat - 1) ≤ n
    · rw [if_pos h2] at h; cases h
    · rw [if_neg h2]
      exact ⟨by omega, by omega, rfl⟩
theorem putO_back {n w : Int} (h : (putO n w).2 = 0) (hn : n ≤ 9223372036854775807) : octN (putO n w).1 = (n, 0) := by
  obtain ⟨hw, hn2, e⟩ := putO_ok h
  rw [e]
  exact oct_od hn2.1 hn2.2 hn (by omega) (by decide)
theorem putO_length {n w : Int} (h : (putO n w).2 = 0) : ((putO n w).1.length : Int) = w := by
  obtain ⟨hw, hn2, e⟩ := putO_ok h
  rw [e, List.length_append, od_len]
  simp; omega
theorem putO_last {n w : Int} (h : (putO n w).2 = 0) : (putO n w).1[w.toNat - 1]? = some 0 := by
  obtain ⟨hw, hn2, e⟩ := putO_ok h
  rw [e, List.getElem?_append_right (by rw [od_len]; omega), od_len]
  simp
theorem putO_head {n w : Int} (h : (putO n w).2 = 0) : ∃ x, (putO n w).1[0]? = some x ∧ 48 ≤ x ∧ x < 128 := by
  obtain ⟨hw, hn2, e⟩ := putO_ok h
  obtain ⟨k, hk⟩ : ∃ k, w.toNat - 1 = k + 1 := ⟨w.toNat - 2, by omega⟩
  rw [e, hk, od, List.cons_append, List.getElem?_cons_zero]
  exact ⟨_, rfl, by omega⟩

/-! ### Binary -/
theorem hd_back : ∀ (l : List Int) (K : Int), isBy l → hd l.length (K * p256 l.length + bv 0 l) = l
  | [], _, _ => rfl
  | x :: l, K, h => by
    have hx := h x List.mem_cons_self
    have hl : isBy l := fun y hy => h y (List.mem_cons_of_mem _ hy)
    have hp := p256_pos l.length
    have hb := bv_bnd hl
    have e1 : K * p256 (x :: l).length + bv 0 (x :: l) = (K * 256 + x) * p256 l.length + bv 0 l := by
      have e0 : (K * 256 + x) * p256 l.length = K * (p256 l.length * 256) + x * p256 l.length := by rw [Int.add_mul, Int.mul_assoc, Int.mul_comm 256 (p256 _)]
      rw [bv, bv_lin, List.length_cons, p256, e0, Int.zero_mul, Int.zero_add]
      omega
    have e2 : ((K * 256 + x) * p256 l.length + bv 0 l) / p256 l.length = K * 256 + x := by
      rw [Int.add_comm, Int.add_mul_ediv_right _ _ (by omega), Int.ediv_eq_zero_of_lt hb.1 hb.2, Int.zero_add]
    rw [e1, List.length_cons, hd, e2, hd_back l _ hl]
    congr 1
    omega
theorem bin_form {l : List Int} {n : Int} (hb : isBy l) (h : binN l = (n, 0)) (hl : l.length ≤ 512) : putB n l.length = (l, 0) := by
  unfold binN at h
  by_cases h1 : l.length < 2 ∨ l.headD 0 < 128
  · rw [if_pos h1] at h; cases h
  rw [if_neg h1] at h
  by_cases h2 : fits64 (binV l)
  case neg => rw [if_neg h2] at h; cases h
  rw [if_pos h2] at h
  obtain ⟨rfl⟩ : binV l = n := congrArg Prod.fst h
  cases l with
  | nil => simp at h1
  | cons x r =>
    simp only [List.length_cons, List.headD_cons, not_or, Nat.not_lt, Int.not_lt] at h1
    have hx := hb x List.mem_cons_self
    have hr : isBy r := fun y hy => hb y (List.mem_cons_of_mem _ hy)
    have hp := p256_pos r.length
    have hbv := bv_bnd hr
    obtain ⟨q, hq, hq1, hq2⟩ : ∃ q : Int, binV (x :: r) = q * p256 r.length + bv 0 r ∧ (-64 ≤ q ∧ q < 64) ∧ q % 256 % 128 + 128 = x := by
      show ∃ q : Int, bv (if 64 ≤ x % 128 then -1 else 0) ((if 64 ≤ x % 128 then x else x - 128) :: r) = q * p256 r.length + bv 0 r ∧ (-64 ≤ q ∧ q < 64) ∧ q % 256 % 128 + 128 = x
      by_cases hs : 64 ≤ x % 128
      · rw [if_pos hs, if_pos hs, bv, bv_lin]
        exact ⟨_, rfl, by omega, by omega⟩
      · rw [if_neg hs, if_neg hs, bv, bv_lin]
        exact ⟨_, rfl, by omega, by omega⟩
    have hdiv : binV (x :: r) / p256 r.length = q := by
      rw [hq, Int.add_comm, Int.add_mul_ediv_right _ _ (by omega), Int.ediv_eq_zero_of_lt hbv.1 hbv.2, Int.zero_add]
    have hin : inR (binV (x :: r)) r.length := by unfold inR; rw [hdiv]; exact hq1
    unfold putB
    have e1 : (((x :: r).length : Nat) : Int).toNat = r.length + 1 := by simp
    rw [if_neg (by simp only [List.length_cons] at hl ⊢; omega), e1, Nat.add_sub_cancel, if_pos hin, hd, hdiv, orB, hq2, hq, hd_back r q hr]
theorem putB_ok {n w : Int} (h : (putB n w).2 = 0) : (2 ≤ w ∧ w ≤ 512) ∧ inR n (w.toNat - 1) ∧ (putB n w).1 = orB (hd w.toNat n) := by
  unfold putB at h ⊢
  by_cases h1 : w < 2 ∨ 512 < w
  · rw [if_pos h1] at h; cases h
  · rw [if_neg h1] at h ⊢
    by_cases h2 : inR n (w.toNat - 1)
    · rw [if_pos h2]; exact ⟨by omega, h2, rfl⟩
    · rw [if_neg h2] at h; cases h
theorem putB_back {n w : Int} (h : (putB n w).2 = 0) (hn : fits64 n) : binN (putB n w).1 = (n, 0) := by
  obtain ⟨hw, hi, e⟩ := putB_ok h
  obtain ⟨m, hm⟩ : ∃ m : Nat, w.toNat = m + 1 := ⟨w.toNat - 1, by omega⟩
  rw [e, hm]
  rw [hm, Nat.add_sub_cancel] at hi
  exact (chk_or (by omega) hn).2 hi
theorem putB_head {n w : Int} (h : (putB n w).2 = 0) : ∃ x r, (putB n w).1 = x :: r ∧ 128 ≤ x ∧ x < 256 := by
  obtain ⟨hw, hi, e⟩ := putB_ok h
  obtain ⟨m, hm⟩ : ∃ m : Nat, w.toNat = m + 1 := ⟨w.toNat - 1, by omega⟩
  rw [e, hm, hd, orB]
  exact ⟨_, _, rfl, by omega, by omega⟩
theorem putB_length {n w : Int} (h : (putB n w).2 = 0) : ((putB n w).1.length : Int) = w := by
  obtain ⟨hw, hi, e⟩ := putB_ok h
  obtain ⟨m, hm⟩ : ∃ m : Nat, w.toNat = m + 1 := ⟨w.toNat - 1, by omega⟩
  rw [e, hm, hd, orB, List.length_cons, hd_len]
  omega
theorem putN_fits {n w : Int} (hn : fits64 n) (hw : 9 ≤ w ∧ w ≤ 512) : (putN n w).2 = 0 := by
  unfold putN
  split
  · assumption
  · unfold putB
    rw [if_neg (by omega)]
    have : inR n (w.toNat - 1) := by
      obtain ⟨k, hk⟩ : ∃ k : Nat, w.toNat - 1 = 8 + k := ⟨w.toNat - 9, by omega⟩
      have h8 : p256 8 = 18446744073709551616 := by decide
      have hp := p256_pos k
      have hge : 18446744073709551616 ≤ p256 (8 + k) := by
        rw [p256_add, h8]
        have := Int.mul_le_mul_of_nonneg_left (show 1 ≤ p256 k by omega) (show (0 : Int) ≤ 18446744073709551616 by decide)
        omega
      unfold inR
      rw [hk]
      simp only [fits64, lo64, hi64] at hn
      generalize p256 (8 + k) = p at hge
      by_cases h0 : 0 ≤ n
      · rw [Int.ediv_eq_zero_of_lt h0 (by omega)]; decide
      · have h1 : n / p = -1 := by
          have e1 : n = (n + p) + -1 * p := by omega
          rw [e1, Int.add_mul_ediv_right _ _ (by omega), Int.ediv_eq_zero_of_lt (by omega) (by omega)]
          rfl
        rw [h1]; decide
    rw [if_pos this]
theorem putN_back {n w : Int} (h : (putN n w).2 = 0) (hn : fits64 n) : numB (putN n w).1 = (n, 0) := by
  unfold putN at h ⊢
  by_cases h1 : (putO n w).2 = 0
  · rw [if_pos h1]
    obtain ⟨x, hx, h2⟩ := putO_head h1
    have := putO_back h1 (by simp only [fits64, lo64, hi64] at hn; omega)
    unfold numB numN
    rw [if_neg, this]
    cases e : (putO n w).1 with
    | nil => rw [e] at hx; simp at hx
    | cons y r => rw [e] at hx; simp at hx; subst hx; simp; omega
  · rw [if_neg h1] at h ⊢
    obtain ⟨x, r, e, h2⟩ := putB_head h
    unfold numB numN
    rw [if_pos (by rw [e]; simp; omega)]
    exact putB_back h hn
theorem putN_length {n w : Int} (h : (putN n w).2 = 0) : ((putN n w).1.length : Int) = w := by
  unfold putN at h ⊢
  by_cases h1 : (putO n w).2 = 0
  · rw [if_pos h1]; exact putO_length h1
  · rw [if_neg h1] at h ⊢; exact putB_length h
theorem putN_12 {n : Int} (h : (putN n 12).2 = 0) : ∃ x, (putN n 12).1[0]? = some x ∧ (x < 128 ↔ 0 ≤ n ∧ n < 8589934592) := by
  have hp : p8 11 = 8589934592 := by decide
  have e11 : (12 : Int).toNat - 1 = 11 := rfl
  unfold putN at h ⊢
  by_cases h1 : (putO n 12).2 = 0
  · rw [if_pos h1]
    obtain ⟨x, hx, h2⟩ := putO_head h1
    obtain ⟨hw, hn2, e⟩ := putO_ok h1
    rw [e11, hp] at hn2
    exact ⟨x, hx, by omega⟩
  · rw [if_neg h1] at h ⊢
    obtain ⟨x, r, e, h2⟩ := putB_head h
    refine ⟨x, by rw [e]; rfl, ?_⟩
    have : ¬ (0 ≤ n ∧ n < 8589934592) := fun hn => h1 (by
      unfold putO
      rw [if_neg (by decide), e11, hp, if_neg (by omega)])
    omega

/-! ### Texts -/
theorem putT_ok {s : List UInt8} {w : Int} (h : (putT s w).2 = 0) : (1 ≤ w ∧ w ≤ 512) ∧ 0 ∉ s ∧ (s.length : Int) ≤ w ∧ (putT s w).1 = nats s ++ List.replicate (w.toNat - s.length) 0 := by
  unfold putT at h ⊢
  by_cases h1 : w < 1 ∨ 512 < w ∨ 0 ∈ s
  · rw [if_pos h1] at h; cases h
  · rw [if_neg h1] at h ⊢
    by_cases h2 : w < s.length
    · rw [if_pos h2] at h; cases h
    · rw [if_neg h2]
      exact ⟨by omega, fun h => h1 (.inr (.inr h)), by omega, rfl⟩
theorem putT_length {s : List UInt8} {w : Int} (h : (putT s w).2 = 0) : ((putT s w).1.length : Int) = w := by
  obtain ⟨hw, h0, hl, e⟩ := putT_ok h
  rw [e, List.length_append, nats_len, List.length_replicate]
  omega
end Go.Proofs.YtigignkgblaoaaaDoor.S12
