/-
  Codes, plain: how many words of each length, the first word of each, each symbol's word.
-/
import Derived.Test.YtphojebganlbnaaDoorBitLaw
set_option linter.unusedVariables false
namespace Go.Proofs.YtphojebganlbnaaDoor.CodeLaw
open Go Go.Proofs.YtphojebganlbnaaDoor.Pack

/-- how many of the lengths are n -/
def cnt (l : List Int) (n : Nat) : Nat := l.countP fun x => x == (n : Int)
/-- the first word of length n -/
def fst (l : List Int) : Nat → Nat
  | 0 => 0
  | 1 => 0
  | n + 2 => 2 * (fst l (n + 1) + cnt l (n + 1))
/-- how much of the whole the lengths up to n take -/
def part (l : List Int) (n : Nat) : Nat := (l.map fun x => if 0 < x ∧ x ≤ (n : Int) then 2 ^ (15 - x.toNat) else 0).sum
def kraft (l : List Int) : Nat := (l.map fun x => if 0 < x then 2 ^ (15 - x.toNat) else 0).sum
theorem part_zero : ∀ l : List Int, part l 0 = 0
  | [] => rfl
  | x :: l => by
    have := part_zero l
    unfold part at this ⊢
    rw [List.map_cons, List.sum_cons, this, if_neg (by omega)]
theorem part_succ (n : Nat) : ∀ l : List Int, part l (n + 1) = part l n + cnt l (n + 1) * 2 ^ (15 - (n + 1))
  | [] => by simp [part, cnt]
  | x :: l => by
    have := part_succ n l
    unfold part cnt at this ⊢
    rw [List.map_cons, List.sum_cons, List.map_cons, List.sum_cons, this, List.countP_cons]
    by_cases h1 : 0 < x ∧ x ≤ (n : Int)
    · rw [if_pos h1, if_pos (by omega), if_neg (by simp only [beq_iff_eq]; omega)]
      simp only [Nat.add_zero]
      omega
    · by_cases h2 : x = ((n + 1 : Nat) : Int)
      · have e : x.toNat = n + 1 := by omega
        rw [if_neg h1, if_pos (by omega), if_pos (by simp only [beq_iff_eq]; exact h2), e, Nat.add_mul]
        omega
      · rw [if_neg h1, if_neg (by omega), if_neg (by simp only [beq_iff_eq]; exact h2)]
        simp only [Nat.add_zero]
        omega
theorem part_fst (l : List Int) : ∀ n, n + 1 ≤ 15 → part l (n + 1) = (fst l (n + 1) + cnt l (n + 1)) * 2 ^ (15 - (n + 1))
  | 0, _ => by rw [part_succ, part_zero]; simp [fst]
  | n + 1, h => by
    rw [part_succ, part_fst l n (by omega), fst, show 15 - (n + 1) = (15 - (n + 1 + 1)) + 1 by omega, Nat.pow_succ, Nat.add_mul, Nat.add_mul, Nat.mul_assoc, Nat.add_mul]
    generalize 2 ^ (15 - (n + 1 + 1)) = p
    generalize fst l (n + 1) = f
    generalize cnt l (n + 1) = c
    rw [Nat.mul_comm p 2, ← Nat.mul_assoc, ← Nat.mul_assoc, Nat.mul_add, ← Nat.mul_assoc, ← Nat.mul_assoc, Nat.mul_comm f 2, Nat.mul_comm c 2]
theorem part_le (n : Nat) : ∀ l : List Int, part l n ≤ kraft l
  | [] => Nat.le_refl _
  | x :: l => by
    have := part_le n l
    unfold part kraft at this ⊢
    rw [List.map_cons, List.sum_cons, List.map_cons, List.sum_cons]
    by_cases h : 0 < x
    · rw [if_pos h]
      generalize 2 ^ (15 - x.toNat) = p
      split <;> omega
    · rw [if_neg h, if_neg (by omega)]; omega
/-- words of length n fit -/
theorem fits (l : List Int) (hk : kraft l ≤ 32768) {n : Nat} (h1 : 1 ≤ n) (h2 : n ≤ 15) : fst l n + cnt l n ≤ 2 ^ n := by
  obtain ⟨m, rfl⟩ : ∃ m, n = m + 1 := ⟨n - 1, by omega⟩
  have h3 := part_fst l m h2
  have h4 := part_le (m + 1) l
  have h5 : (fst l (m + 1) + cnt l (m + 1)) * 2 ^ (15 - (m + 1)) ≤ 2 ^ (m + 1) * 2 ^ (15 - (m + 1)) := by
    rw [← Nat.pow_add, show m + 1 + (15 - (m + 1)) = 15 by omega]
    omega
  exact Nat.le_of_mul_le_mul_right h5 (Nat.two_pow_pos _)

theorem fst_succ (l : List Int) {n : Nat} (h : 1 ≤ n) : fst l (n + 1) = 2 * (fst l n + cnt l n) := by
  obtain ⟨m, rfl⟩ : ∃ m, n = m + 1 := ⟨n - 1, by omega⟩
  rfl
/-- the longer words stand behind the shorter -/
theorem fst_ge (l : List Int) {n : Nat} (h : 1 ≤ n) : ∀ d, (fst l n + cnt l n) * 2 ^ (d + 1) ≤ fst l (n + d + 1)
  | 0 => by rw [Nat.add_zero, fst_succ l h, Nat.pow_one, Nat.mul_comm]; exact Nat.le_refl _
  | d + 1 => by
    have := fst_ge l h d
    have e : fst l (n + (d + 1) + 1) = 2 * (fst l (n + d + 1) + cnt l (n + d + 1)) := fst_succ l (by omega)
    rw [e, Nat.pow_succ, ← Nat.mul_assoc]
    omega
/-- no words between: the same number, moved -/
theorem fst_gap (l : List Int) {n : Nat} (h : 1 ≤ n) : ∀ d, (∀ k, k < d → cnt l (n + k + 1) = 0) → fst l (n + d + 1) = (fst l n + cnt l n) * 2 ^ (d + 1)
  | 0, _ => by rw [Nat.add_zero, fst_succ l h, Nat.zero_add, Nat.pow_one, Nat.mul_comm]
  | d + 1, hz => by
    have := fst_gap l h d fun k hk => hz k (by omega)
    have e : fst l (n + (d + 1) + 1) = 2 * (fst l (n + d + 1) + cnt l (n + d + 1)) := fst_succ l (by omega)
    rw [e, hz d (by omega), Nat.add_zero, this, Nat.pow_succ 2 (d + 1)]
    generalize 2 ^ (d + 1) = p
    rw [← Nat.mul_assoc, ← Nat.mul_assoc, Nat.mul_comm _ 2, Nat.mul_assoc 2]
theorem fst_none (l : List Int) : ∀ n, (∀ k, 1 ≤ k → k < n → cnt l k = 0) → fst l n = 0
  | 0, _ => rfl
  | 1, _ => rfl
  | n + 2, h => by
    have := fst_none l (n + 1) fun k h1 h2 => h k h1 (by omega)
    have h3 := h (n + 1) (by omega) (by omega)
    show 2 * (fst l (n + 1) + cnt l (n + 1)) = 0
    omega
/-- how many of the first i lengths are n -/
def rank (l : List Int) (i n : Nat) : Nat := cnt (l.take i) n
theorem rank_lt {l : List Int} {i n : Nat} (hi : i < l.length) (hn : l[i] = (n : Int)) : rank l i n < cnt l n := by
  have e : l = l.take i ++ l[i] :: l.drop (i + 1) := by rw [← List.drop_eq_getElem_cons hi, List.take_append_drop]
  have : cnt l n = cnt (l.take i) n + cnt (l[i] :: l.drop (i + 1)) n := by
    conv => lhs; rw [e]
    unfold cnt
    rw [List.countP_append]
  rw [this]
  unfold rank cnt
  rw [List.countP_cons, if_pos (by rw [hn]; simp)]
  omega
/-- a symbol's word -/
def wordOf (l : List Int) (i : Nat) : Nat := fst l (l.getD i 0).toNat + rank l i (l.getD i 0).toNat
theorem wordOf_lt {l : List Int} (hk : kraft l ≤ 32768) {i n : Nat} (hi : i < l.length) (hn : l[i] = (n : Int)) (h1 : 1 ≤ n) (h2 : n ≤ 15) : wordOf l i < 2 ^ n ∧ fst l n ≤ wordOf l i ∧ wordOf l i < fst l n + cnt l n := by
  have hg : (l.getD i 0).toNat = n := by rw [List.getD_eq_getElem?_getD, List.getElem?_eq_getElem hi]; simp [hn]
  have := rank_lt hi hn
  have := fits l hk h1 h2
  unfold wordOf
  rw [hg]
  omega

/-- bits as a number, the first the highest -/
def val : List Bool → Nat
  | [] => 0
  | b :: r => (if b then 2 ^ r.length else 0) + val r
theorem val_lt : ∀ r : List Bool, val r < 2 ^ r.length
  | [] => by simp [val]
  | b :: r => by
    have := val_lt r
    rw [val, List.length_cons, Nat.pow_succ]
    split <;> omega
theorem val_append : ∀ (a r : List Bool), val (a ++ r) = val a * 2 ^ r.length + val r
  | [], r => by simp [val]
  | b :: a, r => by
    have := val_append a r
    rw [List.cons_append, val, val, this, List.length_append, Nat.pow_add, Nat.add_mul]
    split <;> omega
theorem val_snoc (a : List Bool) (b : Bool) : val (a ++ [b]) = 2 * val a + (if b then 1 else 0) := by
  rw [val_append]
  simp [val]
  omega
/-- the first n of some bits are a word of length n -/
def hit (l : List Int) (rest : List Bool) (n : Nat) : Prop := n ≤ rest.length ∧ fst l n ≤ val (rest.take n) ∧ val (rest.take n) < fst l n + cnt l n
/-- no word begins with another -/
theorem hit_one {l : List Int} {rest : List Bool} {n m : Nat} (h1 : 1 ≤ n) (hn : hit l rest n) (hm : hit l rest m) (hnm : n < m) : False := by
  obtain ⟨d, rfl⟩ : ∃ d, m = n + d + 1 := ⟨m - n - 1, by omega⟩
  have hge := fst_ge l h1 d
  have e : rest.take (n + d + 1) = rest.take n ++ (rest.drop n).take (d + 1) := by rw [← List.take_add, Nat.add_assoc]
  have hl : ((rest.drop n).take (d + 1)).length = d + 1 := by have := hm.1; simp; omega
  have hv := val_append (rest.take n) ((rest.drop n).take (d + 1))
  have hlt := val_lt ((rest.drop n).take (d + 1))
  rw [← e, hl] at hv
  rw [hl] at hlt
  have h2 := hn.2.2
  have h3 := hm.2.1
  have h4 : (val (rest.take n) + 1) * 2 ^ (d + 1) ≤ (fst l n + cnt l n) * 2 ^ (d + 1) := Nat.mul_le_mul_right _ (by omega)
  rw [Nat.add_mul, Nat.one_mul] at h4
  omega
end Go.Proofs.YtphojebganlbnaaDoor.CodeLaw
