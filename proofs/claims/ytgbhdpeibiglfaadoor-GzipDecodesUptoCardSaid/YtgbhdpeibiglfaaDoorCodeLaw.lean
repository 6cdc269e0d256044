/-
  Codes, plain: how many words of each length, the first word of each, each symbol's word.
-/
import Derived.Laws.BitsAllLaws
set_option linter.unusedVariables false
namespace Go.Proofs.YtgbhdpeibiglfaaDoor.Pack

def b2i (b : Bool) : Int := if b then 1 else 0
theorem b2i_range (b : Bool) : 0 ≤ b2i b ∧ b2i b ≤ 1 := by cases b <;> simp [b2i]
/-- bits as a number, the first one lowest -/
def numOf : List Bool → Int
  | [] => 0
  | b :: t => b2i b + 2 * numOf t
/-- so many lowest bits of a number -/
def low : Nat → Int → List Bool
  | 0, _ => []
  | n + 1, v => (v % 2 == 1) :: low n (v / 2)
/-- bytes as bits -/
def unpack : List Int → List Bool
  | [] => []
  | x :: xs => low 8 x ++ unpack xs

theorem low_length : ∀ (n : Nat) (v : Int), (low n v).length = n
  | 0, _ => rfl
  | n + 1, v => by simp [low, low_length n]
theorem unpack_length : ∀ xs : List Int, (unpack xs).length = 8 * xs.length
  | [] => rfl
  | x :: xs => by simp [unpack, low_length, unpack_length xs]; omega
theorem numOf_range : ∀ l : List Bool, 0 ≤ numOf l ∧ numOf l < 2 ^ l.length
  | [] => by simp [numOf]
  | b :: t => by
    have h1 := numOf_range t
    have h2 := b2i_range b
    simp only [numOf, List.length_cons]
    rw [Int.pow_succ]
    omega
theorem numOf_append : ∀ l r : List Bool, numOf (l ++ r) = numOf l + 2 ^ l.length * numOf r
  | [], r => by simp [numOf]
  | b :: t, r => by
    have h := numOf_append t r
    simp only [List.cons_append, numOf, List.length_cons, h]
    rw [Int.pow_succ, Int.mul_add, Int.mul_assoc, Int.mul_comm (2 ^ t.length) (2 * numOf r), Int.mul_assoc 2 (numOf r), Int.mul_comm (numOf r)]
    omega
theorem numOf_snoc (l : List Bool) (b : Bool) : numOf (l ++ [b]) = numOf l + b2i b * 2 ^ l.length := by
  rw [numOf_append]; simp [numOf, Int.mul_comm]
theorem numOf_low : ∀ (n : Nat) (v : Int), 0 ≤ v → v < 2 ^ n → numOf (low n v) = v
  | 0, v, h0, h1 => by simp [low, numOf] at *; omega
  | n + 1, v, h0, h1 => by
    rw [Int.pow_succ] at h1
    have h := numOf_low n (v / 2) (by omega) (by omega)
    simp only [low, numOf, h, b2i]
    split
    · rename_i h2; simp at h2; omega
    · rename_i h2; simp at h2; omega
theorem low_snoc : ∀ (n : Nat) (v : Int), low (n + 1) v = low n v ++ [v / 2 ^ n % 2 == 1]
  | 0, v => by simp [low]
  | n + 1, v => by
    have h := low_snoc n (v / 2)
    have e : v / 2 / 2 ^ n = v / 2 ^ (n + 1) := by rw [Int.ediv_ediv_of_nonneg (by omega), Int.pow_succ, Int.mul_comm]
    rw [show low (n + 1 + 1) v = (v % 2 == 1) :: low (n + 1) (v / 2) from rfl, h, e]
    rfl
theorem unpack_append : ∀ xs ys : List Int, unpack (xs ++ ys) = unpack xs ++ unpack ys
  | [], _ => rfl
  | x :: xs, ys => by simp [unpack, unpack_append xs ys]
/-- filled up to whole bytes -/
def fill (l : List Bool) : List Bool := l ++ List.replicate ((8 - l.length % 8) % 8) false
/-- the numbers of a store, as Go's | tells them -/
theorem or_add (x y : Int) (m : Nat) (hm : m < 8) (h0 : 0 ≤ x) (h1 : x < 2 ^ m) (b : Bool) (hy : y = b2i b * 2 ^ m) : Go.bits .or .u8 x y = x + y := by
  have hp : (2 : Int) ^ m ≤ 2 ^ 7 := by
    have h4 : (2 : Nat) ^ m ≤ 2 ^ 7 := Nat.pow_le_pow_right (by omega) (by omega)
    exact_mod_cast h4
  have hb := b2i_range b
  have hy0 : 0 ≤ y ∧ y < 256 := by
    subst hy
    cases b
    · simp [b2i]
    · simp only [b2i, if_true, Int.one_mul]; omega
  rw [u8_or x y h0 (by omega) hy0.1 hy0.2]
  obtain ⟨a, rfl⟩ := Int.eq_ofNat_of_zero_le h0
  have ha : a < 2 ^ m := by exact_mod_cast h1
  subst hy
  cases b
  · simp [b2i]
  · have e : (b2i true * 2 ^ m : Int) = ((2 ^ m : Nat) : Int) := by simp [b2i]
    rw [e]
    simp only [Int.toNat_natCast]
    have h3 := Nat.two_pow_add_eq_or_of_lt ha 1
    rw [Nat.mul_one] at h3
    rw [Nat.or_comm, ← h3]
    push_cast
    omega
theorem b2i_mod (x : Int) : b2i (x % 2 == 1) = x % 2 := by
  unfold b2i
  split
  · rename_i h; simp at h; omega
  · rename_i h; simp at h; omega
theorem div_pow_succ (V : Int) (i : Nat) : V / 2 ^ i / 2 = V / 2 ^ (i + 1) := by
  rw [Int.ediv_ediv_of_nonneg (by exact_mod_cast Nat.zero_le (2 ^ i)), Int.pow_succ]
theorem bit_of (x : Int) (h0 : 0 ≤ x) (h1 : x < 4294967296) : Go.bits .and .u32 x 1 = b2i (x % 2 == 1) := by
  rw [u32_and x 1 h0 h1 (by omega) (by omega)]
  obtain ⟨a, rfl⟩ := Int.eq_ofNat_of_zero_le h0
  have e : (a &&& 1 : Nat) = a % 2 := Nat.and_one_is_mod a
  simp only [Int.toNat_natCast, show (1 : Int).toNat = 1 from rfl, e, b2i]
  split
  · rename_i h; simp at h; omega
  · rename_i h; simp at h; omega
end Go.Proofs.YtgbhdpeibiglfaaDoor.Pack

set_option linter.unusedVariables false
namespace Go.Proofs.YtgbhdpeibiglfaaDoor.BitLaw
open Go Go.Proofs.YtgbhdpeibiglfaaDoor.Pack

theorem pow_le31 {m : Nat} (hm : m < 32) : (2 : Int) ^ m ≤ 2147483648 := by
  have h4 : (2 : Nat) ^ m ≤ 2147483648 := Nat.pow_le_pow_right (n := 2) (j := 31) (by omega) (by omega)
  have h5 : ((2 ^ m : Nat) : Int) ≤ (2147483648 : Nat) := Int.ofNat_le.2 h4
  rw [Int.natCast_pow] at h5
  exact h5
theorem pow_pos (m : Nat) : (1 : Int) ≤ 2 ^ m := by exact_mod_cast Nat.one_le_two_pow

theorem low_get : ∀ (n : Nat) (v : Int) (i : Nat), i < n → (low n v)[i]? = some (v / 2 ^ i % 2 == 1) := by
  intro n
  induction n with
  | zero => intro v i h; omega
  | succ n ih =>
    intro v i h
    rcases Nat.lt_or_ge i n with h1 | h1
    · rw [low_snoc, List.getElem?_append_left (by rw [low_length]; exact h1), ih v i h1]
    · have : i = n := by omega
      subst this
      rw [low_snoc, List.getElem?_append_right (by rw [low_length]; omega), low_length]
      simp
theorem unpack_get : ∀ (xs : List Int) (i : Nat), i < 8 * xs.length → (unpack xs)[i]? = some (xs.getD (i / 8) 0 / 2 ^ (i % 8) % 2 == 1) := by
  intro xs
  induction xs with
  | nil => intro i h; simp at h
  | cons x xs ih =>
    intro i h
    rw [show unpack (x :: xs) = low 8 x ++ unpack xs from rfl]
    rcases Nat.lt_or_ge i 8 with h1 | h1
    · rw [List.getElem?_append_left (by rw [low_length]; exact h1), low_get 8 x i h1, show i / 8 = 0 by omega, show i % 8 = i by omega]
      simp
    · rw [List.getElem?_append_right (by rw [low_length]; exact h1), low_length, ih (i - 8) (by simp at h; omega), show i / 8 = (i - 8) / 8 + 1 by omega, show i % 8 = (i - 8) % 8 by omega]
      simp

theorem or_add32 (x y : Int) (m : Nat) (hm : m < 32) (h0 : 0 ≤ x) (h1 : x < 2 ^ m) (b : Bool) (hy : y = b2i b * 2 ^ m) : Go.bits .or .u32 x y = x + y := by
  have hp := pow_le31 hm
  have hb := b2i_range b
  have hy0 : 0 ≤ y ∧ y < 4294967296 := by
    subst hy
    cases b
    · simp [b2i]
    · have := pow_pos m
      simp only [b2i, if_true, Int.one_mul]; omega
  rw [u32_or x y h0 (by omega) hy0.1 hy0.2]
  obtain ⟨a, rfl⟩ := Int.eq_ofNat_of_zero_le h0
  have ha : a < 2 ^ m := by exact_mod_cast h1
  subst hy
  cases b
  · simp [b2i]
  · have e : (b2i true * 2 ^ m : Int) = ((2 ^ m : Nat) : Int) := by simp [b2i]
    rw [e]
    simp only [Int.toNat_natCast]
    have h3 := Nat.two_pow_add_eq_or_of_lt ha 1
    rw [Nat.mul_one] at h3
    rw [Nat.or_comm, ← h3]
    push_cast
    omega

theorem take_succ (L : List Bool) (at_ i : Nat) (b : Bool) (h : L[at_ + i]? = some b) : (L.drop at_).take (i + 1) = (L.drop at_).take i ++ [b] := by
  rw [List.take_add_one, List.getElem?_drop, h]; rfl
theorem take_len (L : List Bool) (at_ i : Nat) (h : at_ + i ≤ L.length) : ((L.drop at_).take i).length = i := by simp; omega

/-- a call, as data -/
structure OpS where
  kind : Int
  n : Int
  v : Int
  b : List Int
end Go.Proofs.YtgbhdpeibiglfaaDoor.BitLaw

set_option linter.unusedVariables false
namespace Go.Proofs.YtgbhdpeibiglfaaDoor.CodeLaw
open Go Go.Proofs.YtgbhdpeibiglfaaDoor.Pack

/-- how many of the lengths are n -/
def cnt (l : List Int) (n : Nat) : Nat := l.countP fun x => x == (n : Int)
/-- the first word of length n -/
def fst (l : List Int) : Nat → Nat
  | 0 => 0
  | 1 => 0
  | n + 2 => 2 * (fst l (n + 1) + cnt l (n + 1))
/-- how much of the whole the lengths up to n take -/
def part (l : List Int) (n : Nat) : Nat := (l.map fun x => if 0 < x ∧ x ≤ (n : Int) then 2 ^ (15 - x.toNat) else 0).sum
def kraft (l : List Int) : Nat := (l.map fun x => if 0 < x then 2 ^ (15 - x.toNat) else 0).sum
theorem part_zero : ∀ l : List Int, part l 0 = 0
  | [] => rfl
  | x :: l => by
    have := part_zero l
    unfold part at this ⊢
    rw [List.map_cons, List.sum_cons, this, if_neg (by omega)]
theorem part_succ (n : Nat) : ∀ l : List Int, part l (n + 1) = part l n + cnt l (n + 1) * 2 ^ (15 - (n + 1))
  | [] => by simp [part, cnt]
  | x :: l => by
    have := part_succ n l
    unfold part cnt at this ⊢
    rw [List.map_cons, List.sum_cons, List.map_cons, List.sum_cons, this, List.countP_cons]
    by_cases h1 : 0 < x ∧ x ≤ (n : Int)
    · rw [if_pos h1, if_pos (by omega), if_neg (by simp only [beq_iff_eq]; omega)]
      simp only [Nat.add_zero]
      omega
    · by_cases h2 : x = ((n + 1 : Nat) : Int)
      · have e : x.toNat = n + 1 := by omega
        rw [if_neg h1, if_pos (by omega), if_pos (by simp only [beq_iff_eq]; exact h2), e, Nat.add_mul]
        omega
      · rw [if_neg h1, if_neg (by omega), if_neg (by simp only [beq_iff_eq]; exact h2)]
        simp only [Nat.add_zero]
        omega
theorem part_fst (l : List Int) : ∀ n, n + 1 ≤ 15 → part l (n + 1) = (fst l (n + 1) + cnt l (n + 1)) * 2 ^ (15 - (n + 1))
  | 0, _ => by rw [part_succ, part_zero]; simp [fst]
  | n + 1, h => by
    rw [part_succ, part_fst l n (by omega), fst, show 15 - (n + 1) = (15 - (n + 1 + 1)) + 1 by omega, Nat.pow_succ, Nat.add_mul, Nat.add_mul, Nat.mul_assoc, Nat.add_mul]
    generalize 2 ^ (15 - (n + 1 + 1)) = p
    generalize fst l (n + 1) = f
    generalize cnt l (n + 1) = c
    rw [Nat.mul_comm p 2, ← Nat.mul_assoc, ← Nat.mul_assoc, Nat.mul_add, ← Nat.mul_assoc, ← Nat.mul_assoc, Nat.mul_comm f 2, Nat.mul_comm c 2]
theorem part_le (n : Nat) : ∀ l : List Int, part l n ≤ kraft l
  | [] => Nat.le_refl _
  | x :: l => by
    have := part_le n l
    unfold part kraft at this ⊢
    rw [List.map_cons, List.sum_cons, List.map_cons, List.sum_cons]
    by_cases h : 0 < x
    · rw [if_pos h]
      generalize 2 ^ (15 - x.toNat) = p
      split <;> omega
    · rw [if_neg h, if_neg (by omega)]; omega
/-- words of length n fit -/
theorem fits (l : List Int) (hk : kraft l ≤ 32768) {n : Nat} (h1 : 1 ≤ n) (h2 : n ≤ 15) : fst l n + cnt l n ≤ 2 ^ n := by
  obtain ⟨m, rfl⟩ : ∃ m, n = m + 1 := ⟨n - 1, by omega⟩
  have h3 := part_fst l m h2
  have h4 := part_le (m + 1) l
  have h5 : (fst l (m + 1) + cnt l (m + 1)) * 2 ^ (15 - (m + 1)) ≤ 2 ^ (m + 1) * 2 ^ (15 - (m + 1)) := by
    rw [← Nat.pow_add, show m + 1 + (15 - (m + 1)) = 15 by omega]
    omega
  exact Nat.le_of_mul_le_mul_right h5 (Nat.two_pow_pos _)

theorem fst_succ (l : List Int) {n : Nat} (h : 1 ≤ n) : fst l (n + 1) = 2 * (fst l n + cnt l n) := by
  obtain ⟨m, rfl⟩ : ∃ m, n = m + 1 := ⟨n - 1, by omega⟩
  rfl
/-- the longer words stand behind the shorter -/
theorem fst_ge (l : List Int) {n : Nat} (h : 1 ≤ n) : ∀ d, (fst l n + cnt l n) * 2 ^ (d + 1) ≤ fst l (n + d + 1)
  | 0 => by rw [Nat.add_zero, fst_succ l h, Nat.pow_one, Nat.mul_comm]; exact Nat.le_refl _
  | d + 1 => by
    have := fst_ge l h d
    have e : fst l (n + (d + 1) + 1) = 2 * (fst l (n + d + 1) + cnt l (n + d + 1)) := fst_succ l (by omega)
    rw [e, Nat.pow_succ, ← Nat.mul_assoc]
    omega
/-- no words between: the same number, moved -/
theorem fst_gap (l : List Int) {n : Nat} (h : 1 ≤ n) : ∀ d, (∀ k, k < d → cnt l (n + k + 1) = 0) → fst l (n + d + 1) = (fst l n + cnt l n) * 2 ^ (d + 1)
  | 0, _ => by rw [Nat.add_zero, fst_succ l h, Nat.zero_add, Nat.pow_one, Nat.mul_comm]
  | d + 1, hz => by
    have := fst_gap l h d fun k hk => hz k (by omega)
    have e : fst l (n + (d + 1) + 1) = 2 * (fst l (n + d + 1) + cnt l (n + d + 1)) := fst_succ l (by omega)
    rw [e, hz d (by omega), Nat.add_zero, this, Nat.pow_succ 2 (d + 1)]
    generalize 2 ^ (d + 1) = p
    rw [← Nat.mul_assoc, ← Nat.mul_assoc, Nat.mul_comm _ 2, Nat.mul_assoc 2]
theorem fst_none (l : List Int) : ∀ n, (∀ k, 1 ≤ k → k < n → cnt l k = 0) → fst l n = 0
  | 0, _ => rfl
  | 1, _ => rfl
  | n + 2, h => by
    have := fst_none l (n + 1) fun k h1 h2 => h k h1 (by omega)
    have h3 := h (n + 1) (by omega) (by omega)
    show 2 * (fst l (n + 1) + cnt l (n + 1)) = 0
    omega
/-- how many of the first i lengths are n -/
def rank (l : List Int) (i n : Nat) : Nat := cnt (l.take i) n
theorem rank_lt {l : List Int} {i n : Nat} (hi : i < l.length) (hn : l[i] = (n : Int)) : rank l i n < cnt l n := by
  have e : l = l.take i ++ l[i] :: l.drop (i + 1) := by rw [← List.drop_eq_getElem_cons hi, List.take_append_drop]
  have : cnt l n = cnt (l.take i) n + cnt (l[i] :: l.drop (i + 1)) n := by
    conv => lhs; rw [e]
    unfold cnt
    rw [List.countP_append]
  rw [this]
  unfold rank cnt
  rw [List.countP_cons, if_pos (by rw [hn]; simp)]
  omega
/-- a symbol's word -/
def wordOf (l : List Int) (i : Nat) : Nat := fst l (l.getD i 0).toNat + rank l i (l.getD i 0).toNat
theorem wordOf_lt {l : List Int} (hk : kraft l ≤ 32768) {i n : Nat} (hi : i < l.length) (hn : l[i] = (n : Int)) (h1 : 1 ≤ n) (h2 : n ≤ 15) : wordOf l i < 2 ^ n ∧ fst l n ≤ wordOf l i ∧ wordOf l i < fst l n + cnt l n := by
  have hg : (l.getD i 0).toNat = n := by rw [List.getD_eq_getElem?_getD, List.getElem?_eq_getElem hi]; simp [hn]
  have := rank_lt hi hn
  have := fits l hk h1 h2
  unfold wordOf
  rw [hg]
  omega

/-- bits as a number, the first the highest -/
def val : List Bool → Nat
  | [] => 0
  | b :: r => (if b then 2 ^ r.length else 0) + val r
theorem val_lt : ∀ r : List Bool, val r < 2 ^ r.length
  | [] => by simp [val]
  | b :: r => by
    have := val_lt r
    rw [val, List.length_cons, Nat.pow_succ]
    split <;> omega
theorem val_append : ∀ (a r : List Bool), val (a ++ r) = val a * 2 ^ r.length + val r
  | [], r => by simp [val]
  | b :: a, r => by
    have := val_append a r
    rw [List.cons_append, val, val, this, List.length_append, Nat.pow_add, Nat.add_mul]
    split <;> omega
theorem val_snoc (a : List Bool) (b : Bool) : val (a ++ [b]) = 2 * val a + (if b then 1 else 0) := by
  rw [val_append]
  simp [val]
  omega
/-- the first n of some bits are a word of length n -/
def hit (l : List Int) (rest : List Bool) (n : Nat) : Prop := n ≤ rest.length ∧ fst l n ≤ val (rest.take n) ∧ val (rest.take n) < fst l n + cnt l n
/-- no word begins with another -/
theorem hit_one {l : List Int} {rest : List Bool} {n m : Nat} (h1 : 1 ≤ n) (hn : hit l rest n) (hm : hit l rest m) (hnm : n < m) : False := by
  obtain ⟨d, rfl⟩ : ∃ d, m = n + d + 1 := ⟨m - n - 1, by omega⟩
  have hge := fst_ge l h1 d
  have e : rest.take (n + d + 1) = rest.take n ++ (rest.drop n).take (d + 1) := by rw [← List.take_add, Nat.add_assoc]
  have hl : ((rest.drop n).take (d + 1)).length = d + 1 := by have := hm.1; simp; omega
  have hv := val_append (rest.take n) ((rest.drop n).take (d + 1))
  have hlt := val_lt ((rest.drop n).take (d + 1))
  rw [← e, hl] at hv
  rw [hl] at hlt
  have h2 := hn.2.2
  have h3 := hm.2.1
  have h4 : (val (rest.take n) + 1) * 2 ^ (d + 1) ≤ (fst l n + cnt l n) * 2 ^ (d + 1) := Nat.mul_le_mul_right _ (by omega)
  rw [Nat.add_mul, Nat.one_mul] at h4
  omega
end Go.Proofs.YtgbhdpeibiglfaaDoor.CodeLaw
