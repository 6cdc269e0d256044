/-
  Sums, order of written numbers, texts read back: plain.
-/
import Derived.Test.YtigignkgblaoaaaDoorFormLaw
import Derived.Test.YtigignkgblaoaaaDoorCheck
set_option linter.unusedVariables false
set_option linter.unusedSimpArgs false
namespace Go.Proofs.YtigignkgblaoaaaDoor.S12
open Go Go.RowKit Go.Proofs.YtigignkgblaoaaaDoor.Sep Go.Proofs.YtigignkgblaoaaaDoor.Lib

/-! ### Sums -/
theorem mask_putsum {l : List Int} (hl : l.length = 512) : maskL (putsumL l) = maskL l := by
  have h1 : (putsumL l).take 148 = l.take 148 := by
    unfold putsumL
    rw [List.append_assoc, List.take_append_of_le_length (by simp [hl]), List.take_take, Nat.min_self]
  have h2 : (putsumL l).drop 156 = l.drop 156 := by
    unfold putsumL
    rw [List.drop_append_of_le_length (by simp [hl, od_len]), List.drop_of_length_le (by simp [hl, od_len]), List.nil_append]
  unfold maskL
  rw [h1, h2]
theorem field_putsum {l : List Int} (hl : l.length = 512) : fieldL (putsumL l) = od 6 (plainS l) ++ [0, 32] := by
  have hA : (l.take 148 ++ (od 6 (plainS l) ++ [0, 32])).length = 156 := by simp [hl, od_len]
  have hB : (l.take 148).length = 148 := by simp [hl]
  unfold fieldL putsumL
  rw [List.take_append_of_le_length (by omega), List.take_of_length_le (by omega), List.drop_append_of_le_length (by omega), List.drop_of_length_le (by omega), List.nil_append]
theorem check_putsum {l : List Int} (hb : isBy l) (hl : l.length = 512) : checkL (putsumL l) = true := by
  have hp := plainS_in hb hl
  have h6 : p8 6 = 262144 := by decide
  have h1 := oct_od (j := 6) (n := plainS l) (t := [0, 32]) hp.1 (by omega) (by omega) (by decide) (by decide)
  have h2 : plainS (putsumL l) = plainS l := by unfold plainS; rw [mask_putsum hl]
  unfold checkL
  rw [field_putsum hl, h1, h2]
  simp
theorem mask_set {l : List Int} (hl : l.length = 512) {i : Nat} (hi : i < 512) (y : Int) : maskL (l.set i y) = if 148 ≤ i ∧ i < 156 then maskL l else (maskL l).set i y := by
  apply List.ext_getElem?
  intro j
  by_cases hj : j < 512
  · rw [mask_at (by simpa using hl) hj]
    by_cases h1 : 148 ≤ i ∧ i < 156
    · rw [if_pos h1, mask_at hl hj]
      by_cases h2 : 148 ≤ j ∧ j < 156
      · rw [if_pos h2, if_pos h2]
      · rw [if_neg h2, if_neg h2, List.getElem_set_ne (by omega)]
    · rw [if_neg h1, List.getElem?_set, mask_len hl]
      by_cases h3 : i = j
      · subst h3
        rw [if_pos rfl, if_pos hi, if_neg h1, List.getElem_set_self]
      · rw [if_neg h3, mask_at hl hj]
        by_cases h2 : 148 ≤ j ∧ j < 156
        · rw [if_pos h2, if_pos h2]
        · rw [if_neg h2, if_neg h2, List.getElem_set_ne h3]
  · rw [List.getElem?_eq_none (by rw [mask_len (by simpa using hl)]; omega)]
    split
    · rw [List.getElem?_eq_none (by rw [mask_len hl]; omega)]
    · rw [List.getElem?_eq_none (by rw [List.length_set, mask_len hl]; omega)]
theorem sum_set : ∀ {l : List Int} {i : Nat} {x : Int} (y : Int), l[i]? = some x → (l.set i y).sum = l.sum - x + y
  | [], i, x, y, h => by simp at h
  | a :: l, 0, x, y, h => by
    simp only [List.getElem?_cons_zero, Option.some.injEq] at h
    subst h
    simp only [List.set_cons_zero, List.sum_cons]
    omega
  | a :: l, i + 1, x, y, h => by
    have := sum_set (l := l) (i := i) y (by simpa using h)
    simp only [List.set_cons_succ, List.sum_cons, this]
    omega
/-- a byte turned is seen, but for the sum's own field -/
theorem sum_turn {l : List Int} (hl : l.length = 512) {i : Nat} (hi : i < 512) (y : Int) : (plainS l == plainS (l.set i y)) = (decide (l[i]'(by omega) = y) || (decide (148 ≤ i) && decide (i < 156))) := by
  have h1 := mask_set hl hi y
  unfold plainS
  rw [h1]
  by_cases c : 148 ≤ i ∧ i < 156
  · rw [if_pos c]
    simp [c.1, c.2]
  · rw [if_neg c]
    have hm := mask_at hl hi
    rw [if_neg c] at hm
    rw [sum_set y hm]
    have e : (decide (148 ≤ i) && decide (i < 156)) = false := by
      by_cases c1 : 148 ≤ i
      · rw [decide_eq_false (p := i < 156) fun h => c ⟨c1, h⟩, Bool.and_false]
      · rw [decide_eq_false c1, Bool.false_and]
    rw [e, Bool.or_false]
    by_cases e2 : l[i]'(by omega) = y
    · rw [decide_eq_true e2, beq_iff_eq]; omega
    · rw [decide_eq_false e2, beq_eq_false_iff_ne]; omega

/-! ### Texts -/
theorem text_back {s : List UInt8} {w : Int} (h : (putT s w).2 = 0) : textB (putT s w).1 = nats s := by
  obtain ⟨hw, h0, hl, e⟩ := putT_ok h
  rw [e]
  unfold textB
  have hall : ∀ x ∈ nats s, (x != 0) = true := by
    intro x hx
    obtain ⟨b, hb, rfl⟩ := List.mem_map.1 hx
    have : b.toNat ≠ 0 := fun hz => h0 (by rw [show (0 : UInt8) = b from (UInt8.toNat_inj.1 hz).symm]; exact hb)
    simp; omega
  rw [List.takeWhile_append_of_pos hall]
  have : (List.replicate (w.toNat - s.length) (0 : Int)).takeWhile (· != 0) = [] := by
    cases w.toNat - s.length with
    | zero => rfl
    | succ n => simp [List.replicate_succ]
  rw [this, List.append_nil]

/-! ### Order -/
theorem less_cons {a b : UInt8} {x y : List UInt8} : Op.bytesLess (a :: x) (b :: y) = (decide (a < b) || (a == b && Op.bytesLess x y)) := by
  simp [Op.bytesLess]
theorem p8_top {j : Nat} {n : Int} (h0 : 0 ≤ n) (h : n < p8 (j + 1)) : 0 ≤ n / p8 j ∧ n / p8 j < 8 := by
  have hp := p8_pos j
  rw [p8] at h
  constructor
  · exact Int.ediv_nonneg h0 (by omega)
  · exact Int.ediv_lt_of_lt_mul hp (by rw [Int.mul_comm]; exact h)
theorem od_mod (j : Nat) (n : Int) : ∀ k ≤ j, od k n = od k (n % p8 j)
  | 0, _ => rfl
  | k + 1, hk => by
    rw [od, od, od_mod j n k (by omega)]
    congr 2
    have hp := p8_pos k
    obtain ⟨m, rfl⟩ : ∃ m, j = (k + 1) + m := ⟨j - (k + 1), by omega⟩
    have h1 := Int.mul_ediv_add_emod n (p8 (k + 1 + m))
    have h2 : n = n % p8 (k + 1 + m) + p8 m * (n / p8 (k + 1 + m)) * 8 * p8 k := by
      conv => lhs; rw [← h1]
      rw [p8_add, p8]
      generalize n / (p8 k * 8 * p8 m) = t
      generalize n % (p8 k * 8 * p8 m) = u
      rw [Int.add_comm]
      congr 1
      rw [Int.mul_comm (p8 k * 8) (p8 m), Int.mul_assoc (p8 m), Int.mul_assoc (p8 m), Int.mul_assoc (p8 m), Int.mul_comm (p8 k) 8, Int.mul_assoc 8, Int.mul_comm t 8, Int.mul_assoc 8 t, Int.mul_comm t (p8 k)]
    conv => lhs; rw [h2, Int.add_mul_ediv_right _ _ (by omega)]
    omega
theorem less_od : ∀ (j : Nat) (n m : Int) (t : List UInt8), 0 ≤ n → n < p8 j → 0 ≤ m → m < p8 j → Op.bytesLess t t = false → Op.bytesLess (txt (od j n) ++ t) (txt (od j m) ++ t) = decide (n < m)
  | 0, n, m, t, h1, h2, h3, h4, ht => by
    have : p8 0 = 1 := rfl
    rw [decide_eq_false (by omega)]
    exact ht
  | j + 1, n, m, t, h1, h2, h3, h4, ht => by
    have hp := p8_pos j
    have a1 := p8_top h1 h2
    have a2 := p8_top h3 h4
    have ih := less_od j (n % p8 j) (m % p8 j) t (Int.emod_nonneg _ (by omega)) (Int.emod_lt_of_pos _ hp) (Int.emod_nonneg _ (by omega)) (Int.emod_lt_of_pos _ hp) ht
    rw [← od_mod j n j (Nat.le_refl _), ← od_mod j m j (Nat.le_refl _)] at ih
    have b1 := Int.mul_ediv_add_emod n (p8 j)
    have b2 := Int.mul_ediv_add_emod m (p8 j)
    have c1 := Int.emod_lt_of_pos n hp
    have c2 := Int.emod_lt_of_pos m hp
    have c3 := Int.emod_nonneg n (show p8 j ≠ 0 by omega)
    have c4 := Int.emod_nonneg m (show p8 j ≠ 0 by omega)
    rw [od, od]
    simp only [txt, List.map_cons, List.cons_append] at ih ⊢
    rw [less_cons, ih]
    have e1 : (48 + n / p8 j % 8).toNat = 48 + (n / p8 j).toNat := by omega
    have e2 : (48 + m / p8 j % 8).toNat = 48 + (m / p8 j).toNat := by omega
    rw [e1, e2]
    have lt : (UInt8.ofNat (48 + (n / p8 j).toNat) < UInt8.ofNat (48 + (m / p8 j).toNat)) ↔ n / p8 j < m / p8 j := by
      rw [UInt8.lt_iff_toNat_lt, UInt8.toNat_ofNat', UInt8.toNat_ofNat']
      omega
    have eq : (UInt8.ofNat (48 + (n / p8 j).toNat) = UInt8.ofNat (48 + (m / p8 j).toNat)) ↔ n / p8 j = m / p8 j := by
      rw [← UInt8.toNat_inj, UInt8.toNat_ofNat', UInt8.toNat_ofNat']
      omega
    generalize n % p8 j = r1 at *
    generalize m % p8 j = r2 at *
    rcases Int.lt_trichotomy (n / p8 j) (m / p8 j) with h | h | h
    · rw [decide_eq_true (lt.2 h), Bool.true_or]
      symm
      apply decide_eq_true
      have := Int.mul_le_mul_of_nonneg_left (show n / p8 j + 1 ≤ m / p8 j by omega) (show 0 ≤ p8 j by omega)
      rw [Int.mul_add] at this
      omega
    · rw [decide_eq_false (fun h2 => by have := lt.1 h2; omega), Bool.false_or, beq_iff_eq.2 (eq.2 h), Bool.true_and]
      rw [h] at b1
      by_cases c : r1 < r2
      · rw [decide_eq_true c, decide_eq_true (by omega)]
      · rw [decide_eq_false c, decide_eq_false (by omega)]
    · rw [decide_eq_false (fun h2 => by have := lt.1 h2; omega), Bool.false_or, beq_eq_false_iff_ne.2 (fun h2 => by have := eq.1 h2; omega), Bool.false_and]
      symm
      apply decide_eq_false
      have := Int.mul_le_mul_of_nonneg_left (show m / p8 j + 1 ≤ n / p8 j by omega) (show 0 ≤ p8 j by omega)
      rw [Int.mul_add] at this
      omega
theorem od_inj {j : Nat} {n m : Int} (h1 : 0 ≤ n) (h2 : n < p8 j) (h3 : 0 ≤ m) (h4 : m < p8 j) (h : txt (od j n ++ [0]) = txt (od j m ++ [0])) : n = m := by
  have a := less_od j n m [0] h1 h2 h3 h4 rfl
  have b := less_od j m n [0] h3 h4 h1 h2 rfl
  rw [txt_append, txt_append] at h
  have e : txt ([0] : List Int) = [0] := rfl
  rw [e] at h
  have self : ∀ t : List UInt8, Op.bytesLess t t = false := by
    intro t
    induction t with
    | nil => rfl
    | cons x t ih => rw [less_cons, ih]; simp
  rw [h, self] at a
  rw [h, self] at b
  have := of_decide_eq_false a.symm
  have := of_decide_eq_false b.symm
  omega
theorem rise_less {n m w : Int} (h1 : (putO n w).2 = 0) (h2 : (putO m w).2 = 0) : Op.bytesLess (txt (putO n w).1) (txt (putO m w).1) = decide (n < m) ∧ decide (txt (putO n w).1 = txt (putO m w).1) = (n == m) := by
  obtain ⟨hw, hn, e⟩ := putO_ok h1
  obtain ⟨-, hm, e'⟩ := putO_ok h2
  rw [e, e']
  constructor
  · rw [txt_append, txt_append]
    exact less_od _ n m [0] hn.1 hn.2 hm.1 hm.2 rfl
  · by_cases c : n = m
    · subst c; simp
    · rw [decide_eq_false fun h => c (od_inj hn.1 hn.2 hm.1 hm.2 h), beq_eq_false_iff_ne.2 c]
theorem p8_two : ∀ k : Nat, p8 k = 2 ^ (3 * k)
  | 0 => rfl
  | k + 1 => by
    rw [p8, p8_two k, show 3 * (k + 1) = 3 * k + 3 by omega, Int.pow_add]
    rfl
end Go.Proofs.YtigignkgblaoaaaDoor.S12
