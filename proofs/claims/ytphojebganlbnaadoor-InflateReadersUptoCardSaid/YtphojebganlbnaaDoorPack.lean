/-
  Bits as bytes: of each byte the lowest bit first. Plain lists; no program.
-/
import Derived.Laws.BitsAllLaws
set_option linter.unusedVariables false
namespace Go.Proofs.YtphojebganlbnaaDoor.Pack

def b2i (b : Bool) : Int := if b then 1 else 0
theorem b2i_range (b : Bool) : 0 ≤ b2i b ∧ b2i b ≤ 1 := by cases b <;> simp [b2i]
/-- bits as a number, the first one lowest -/
def numOf : List Bool → Int
  | [] => 0
  | b :: t => b2i b + 2 * numOf t
/-- so many lowest bits of a number -/
def low : Nat → Int → List Bool
  | 0, _ => []
  | n + 1, v => (v % 2 == 1) :: low n (v / 2)
/-- bits as bytes, the last one filled up with zeros -/
def pack (l : List Bool) : List Int := if h : l.length = 0 then [] else numOf (l.take 8) :: pack (l.drop 8)
termination_by l.length
decreasing_by rw [List.length_drop]; omega
/-- bytes as bits -/
def unpack : List Int → List Bool
  | [] => []
  | x :: xs => low 8 x ++ unpack xs

theorem pack_nil : pack [] = [] := by unfold pack; simp
theorem pack_pos {l : List Bool} (h : 0 < l.length) : pack l = numOf (l.take 8) :: pack (l.drop 8) := by rw [pack]; simp [show l.length ≠ 0 by omega]
theorem low_length : ∀ (n : Nat) (v : Int), (low n v).length = n
  | 0, _ => rfl
  | n + 1, v => by simp [low, low_length n]
theorem unpack_length : ∀ xs : List Int, (unpack xs).length = 8 * xs.length
  | [] => rfl
  | x :: xs => by simp [unpack, low_length, unpack_length xs]; omega
theorem numOf_range : ∀ l : List Bool, 0 ≤ numOf l ∧ numOf l < 2 ^ l.length
  | [] => by simp [numOf]
  | b :: t => by
    have h1 := numOf_range t
    have h2 := b2i_range b
    simp only [numOf, List.length_cons]
    rw [Int.pow_succ]
    omega
theorem numOf_append : ∀ l r : List Bool, numOf (l ++ r) = numOf l + 2 ^ l.length * numOf r
  | [], r => by simp [numOf]
  | b :: t, r => by
    have h := numOf_append t r
    simp only [List.cons_append, numOf, List.length_cons, h]
    rw [Int.pow_succ, Int.mul_add, Int.mul_assoc, Int.mul_comm (2 ^ t.length) (2 * numOf r), Int.mul_assoc 2 (numOf r), Int.mul_comm (numOf r)]
    omega
theorem numOf_snoc (l : List Bool) (b : Bool) : numOf (l ++ [b]) = numOf l + b2i b * 2 ^ l.length := by
  rw [numOf_append]; simp [numOf, Int.mul_comm]
theorem low_numOf : ∀ l : List Bool, low l.length (numOf l) = l
  | [] => rfl
  | b :: t => by
    have h := low_numOf t
    have h2 := b2i_range b
    have e1 : (b2i b + 2 * numOf t) / 2 = numOf t := by omega
    have e2 : ((b2i b + 2 * numOf t) % 2 == 1) = b := by
      cases b
      · simp [b2i]
      · simp only [b2i, if_true, beq_iff_eq]; omega
    simp only [List.length_cons, numOf, low, e1, e2, h]
theorem numOf_low : ∀ (n : Nat) (v : Int), 0 ≤ v → v < 2 ^ n → numOf (low n v) = v
  | 0, v, h0, h1 => by simp [low, numOf] at *; omega
  | n + 1, v, h0, h1 => by
    rw [Int.pow_succ] at h1
    have h := numOf_low n (v / 2) (by omega) (by omega)
    simp only [low, numOf, h, b2i]
    split
    · rename_i h2; simp at h2; omega
    · rename_i h2; simp at h2; omega
theorem low_snoc : ∀ (n : Nat) (v : Int), low (n + 1) v = low n v ++ [v / 2 ^ n % 2 == 1]
  | 0, v => by simp [low]
  | n + 1, v => by
    have h := low_snoc n (v / 2)
    have e : v / 2 / 2 ^ n = v / 2 ^ (n + 1) := by rw [Int.ediv_ediv_of_nonneg (by omega), Int.pow_succ, Int.mul_comm]
    rw [show low (n + 1 + 1) v = (v % 2 == 1) :: low (n + 1) (v / 2) from rfl, h, e]
    rfl
theorem pack_length : ∀ (n : Nat) (l : List Bool), l.length ≤ n → (pack l).length = (l.length + 7) / 8
  | n, l, h => by
    rcases Nat.eq_zero_or_pos l.length with h0 | h0
    · obtain rfl := List.eq_nil_of_length_eq_zero h0
      simp [pack_nil]
    · cases n with
      | zero => omega
      | succ n =>
        rw [pack_pos h0, List.length_cons, pack_length n (l.drop 8) (by rw [List.length_drop]; omega), List.length_drop]
        omega
theorem pack_len (l : List Bool) : (pack l).length = (l.length + 7) / 8 := pack_length _ l (Nat.le_refl _)
theorem pack_bytes : ∀ (n : Nat) (l : List Bool), l.length ≤ n → ∀ x ∈ pack l, 0 ≤ x ∧ x < 256
  | n, l, h => by
    rcases Nat.eq_zero_or_pos l.length with h0 | h0
    · obtain rfl := List.eq_nil_of_length_eq_zero h0
      intro x hx; rw [pack_nil] at hx; cases hx
    · cases n with
      | zero => omega
      | succ n =>
        rw [pack_pos h0]
        intro x hx
        rcases List.mem_cons.1 hx with rfl | hx
        · have := numOf_range (l.take 8)
          have h3 : (2 : Int) ^ (l.take 8).length ≤ 2 ^ 8 := by
            have : (l.take 8).length ≤ 8 := List.length_take_le _ _
            have h4 : (2 : Nat) ^ (l.take 8).length ≤ 2 ^ 8 := Nat.pow_le_pow_right (by omega) this
            exact_mod_cast h4
          omega
        · exact pack_bytes n (l.drop 8) (by rw [List.length_drop]; omega) x hx
/-- One bit more: a new byte, or into the last one. -/
theorem pack_snoc_new : ∀ (n : Nat) (l : List Bool) (b : Bool), l.length ≤ n → l.length % 8 = 0 → pack (l ++ [b]) = pack l ++ [b2i b]
  | n, l, b, h, h8 => by
    rcases Nat.eq_zero_or_pos l.length with h0 | h0
    · obtain rfl := List.eq_nil_of_length_eq_zero h0
      rw [List.nil_append, pack_pos (by simp), pack_nil]
      simp [numOf, pack_nil]
    · cases n with
      | zero => omega
      | succ n =>
        rw [pack_pos (by simp), pack_pos h0, List.take_append_of_le_length (by omega), List.drop_append_of_le_length (by omega), pack_snoc_new n (l.drop 8) b (by rw [List.length_drop]; omega) (by rw [List.length_drop]; omega)]
        rfl
theorem pack_snoc_in : ∀ (n : Nat) (l : List Bool) (b : Bool), l.length ≤ n → l.length % 8 ≠ 0 →
    pack (l ++ [b]) = (pack l).set ((pack l).length - 1) ((pack l).getD ((pack l).length - 1) 0 + b2i b * 2 ^ (l.length % 8)) ∧ (pack l).getD ((pack l).length - 1) 0 < 2 ^ (l.length % 8) ∧ 0 ≤ (pack l).getD ((pack l).length - 1) 0
  | n, l, b, h, h8 => by
    rcases Nat.lt_or_ge l.length 8 with h0 | h0
    · have hp : pack l = [numOf l] := by rw [pack_pos (by omega), List.take_of_length_le (by omega), List.drop_of_length_le (by omega), pack_nil]
      have hm : l.length % 8 = l.length := Nat.mod_eq_of_lt h0
      have hr := numOf_range l
      rw [pack_pos (by simp), List.take_of_length_le (by simp; omega), List.drop_of_length_le (by simp; omega), pack_nil, numOf_snoc, hp, hm]
      exact ⟨by simp, by simpa using hr.2, by simpa using hr.1⟩
    · cases n with
      | zero => omega
      | succ n =>
        obtain ⟨h1, h2, h3⟩ := pack_snoc_in n (l.drop 8) b (by rw [List.length_drop]; omega) (by rw [List.length_drop]; omega)
        have hm : (l.drop 8).length % 8 = l.length % 8 := by rw [List.length_drop]; omega
        have hl : 0 < (pack (l.drop 8)).length := by rw [pack_len, List.length_drop]; omega
        rw [hm] at h1 h2
        rw [pack_pos (by simp), List.take_append_of_le_length h0, List.drop_append_of_le_length h0, h1, pack_pos (l := l) (by omega)]
        obtain ⟨m, hm⟩ : ∃ m, (pack (l.drop 8)).length = m + 1 := ⟨(pack (l.drop 8)).length - 1, by omega⟩
        rw [hm] at h2 h3
        simp only [Nat.add_sub_cancel] at h2 h3
        simp only [List.length_cons, hm, Nat.add_sub_cancel, List.set_cons_succ, List.getD_cons_succ]
        exact ⟨trivial, h2, h3⟩
theorem unpack_append : ∀ xs ys : List Int, unpack (xs ++ ys) = unpack xs ++ unpack ys
  | [], _ => rfl
  | x :: xs, ys => by simp [unpack, unpack_append xs ys]
theorem pack_unpack_append : ∀ (xs : List Int) (l : List Bool), (∀ x ∈ xs, 0 ≤ x ∧ x < 256) → pack (unpack xs ++ l) = xs ++ pack l
  | [], l, _ => rfl
  | x :: xs, l, h => by
    have h8 : (low 8 x).length = 8 := low_length 8 x
    have hx := h x List.mem_cons_self
    simp only [unpack, List.append_assoc, List.cons_append]
    rw [pack_pos (by simp [h8]; omega), List.take_append_of_le_length (by omega), List.drop_append_of_le_length (by omega), List.take_of_length_le (by omega), List.drop_of_length_le (by omega), List.nil_append,
      pack_unpack_append xs l (fun y hy => h y (List.mem_cons_of_mem _ hy)), numOf_low 8 x hx.1 (by omega)]
theorem pack_unpack (xs : List Int) (h : ∀ x ∈ xs, 0 ≤ x ∧ x < 256) : pack (unpack xs) = xs := by
  have := pack_unpack_append xs [] h
  simpa [pack_nil] using this
/-- filled up to whole bytes -/
def fill (l : List Bool) : List Bool := l ++ List.replicate ((8 - l.length % 8) % 8) false
theorem fill_length (l : List Bool) : (fill l).length = 8 * ((l.length + 7) / 8) := by
  unfold fill
  rw [List.length_append, List.length_replicate]
  omega
theorem numOf_zeros : ∀ n, numOf (List.replicate n false) = 0
  | 0 => rfl
  | n + 1 => by simp [List.replicate_succ, numOf, numOf_zeros n, b2i]
theorem pack_zeros : ∀ (n : Nat) (l : List Bool) (m : Nat), l.length ≤ n → m ≤ (8 - l.length % 8) % 8 → pack (l ++ List.replicate m false) = pack l
  | n, l, m, h, hm => by
    rcases Nat.eq_zero_or_pos l.length with h0 | h0
    · obtain rfl := List.eq_nil_of_length_eq_zero h0
      have : m = 0 := by simpa using hm
      subst this
      simp
    · rcases Nat.lt_or_ge l.length 8 with h8 | h8
      · rw [pack_pos (by simp; omega), pack_pos h0, List.take_of_length_le (by simp; omega), List.take_of_length_le (by omega), List.drop_of_length_le (by simp; omega), List.drop_of_length_le (by omega), numOf_append, numOf_zeros]
        simp
      · cases n with
        | zero => omega
        | succ n =>
          rw [pack_pos (by simp; omega), pack_pos h0, List.take_append_of_le_length h8, List.drop_append_of_le_length h8, pack_zeros n (l.drop 8) m (by rw [List.length_drop]; omega) (by rw [List.length_drop]; omega)]
theorem pack_fill (l : List Bool) : pack (fill l) = pack l := pack_zeros _ l _ (Nat.le_refl _) (Nat.le_refl _)
/-- bits behind whole bytes -/
theorem pack_append : ∀ (n : Nat) (l r : List Bool), l.length ≤ n → l.length % 8 = 0 → pack (l ++ r) = pack l ++ pack r
  | n, l, r, h, h8 => by
    rcases Nat.eq_zero_or_pos l.length with h0 | h0
    · obtain rfl := List.eq_nil_of_length_eq_zero h0
      simp [pack_nil]
    · cases n with
      | zero => omega
      | succ n =>
        rw [pack_pos (by simp; omega), pack_pos h0, List.take_append_of_le_length (by omega), List.drop_append_of_le_length (by omega), pack_append n (l.drop 8) r (by rw [List.length_drop]; omega) (by rw [List.length_drop]; omega)]
        rfl
/-- the numbers of a store, as Go's | tells them -/
theorem or_add (x y : Int) (m : Nat) (hm : m < 8) (h0 : 0 ≤ x) (h1 : x < 2 ^ m) (b : Bool) (hy : y = b2i b * 2 ^ m) : Go.bits .or .u8 x y = x + y := by
  have hp : (2 : Int) ^ m ≤ 2 ^ 7 := by
    have h4 : (2 : Nat) ^ m ≤ 2 ^ 7 := Nat.pow_le_pow_right (by omega) (by omega)
    exact_mod_cast h4
  have hb := b2i_range b
  have hy0 : 0 ≤ y ∧ y < 256 := by
    subst hy
    cases b
    · simp [b2i]
    · simp only [b2i, if_true, Int.one_mul]; omega
  rw [u8_or x y h0 (by omega) hy0.1 hy0.2]
  obtain ⟨a, rfl⟩ := Int.eq_ofNat_of_zero_le h0
  have ha : a < 2 ^ m := by exact_mod_cast h1
  subst hy
  cases b
  · simp [b2i]
  · have e : (b2i true * 2 ^ m : Int) = ((2 ^ m : Nat) : Int) := by simp [b2i]
    rw [e]
    simp only [Int.toNat_natCast]
    have h3 := Nat.two_pow_add_eq_or_of_lt ha 1
    rw [Nat.mul_one] at h3
    rw [Nat.or_comm, ← h3]
    push_cast
    omega
theorem b2i_mod (x : Int) : b2i (x % 2 == 1) = x % 2 := by
  unfold b2i
  split
  · rename_i h; simp at h; omega
  · rename_i h; simp at h; omega
theorem div_pow_succ (V : Int) (i : Nat) : V / 2 ^ i / 2 = V / 2 ^ (i + 1) := by
  rw [Int.ediv_ediv_of_nonneg (by exact_mod_cast Nat.zero_le (2 ^ i)), Int.pow_succ]
theorem bit_of (x : Int) (h0 : 0 ≤ x) (h1 : x < 4294967296) : Go.bits .and .u32 x 1 = b2i (x % 2 == 1) := by
  rw [u32_and x 1 h0 h1 (by omega) (by omega)]
  obtain ⟨a, rfl⟩ := Int.eq_ofNat_of_zero_le h0
  have e : (a &&& 1 : Nat) = a % 2 := Nat.and_one_is_mod a
  simp only [Int.toNat_natCast, show (1 : Int).toNat = 1 from rfl, e, b2i]
  split
  · rename_i h; simp at h; omega
  · rename_i h; simp at h; omega
/-- one bit into the last byte -/
theorem round_row (M : List Bool) (xs : List Int) (j : Nat) (V : Int) (i : Nat) (hV0 : 0 ≤ V) (hV1 : V < 4294967296) (hx : xs = if M.length % 8 = 0 then pack M ++ [0] else pack M) (hj : xs.length = j + 1) :
    xs.set j (Go.bits .or .u8 (xs.getD j 0) (Go.bits .and .u32 (V / 2 ^ i) 1 % 256 * 2 ^ (M.length % 8) % 256)) = pack (M ++ [V / 2 ^ i % 2 == 1]) := by
  have hq0 : 0 ≤ V / 2 ^ i := Int.ediv_nonneg hV0 (by exact_mod_cast Nat.zero_le (2 ^ i))
  have hq1 : V / 2 ^ i < 4294967296 := by
    have h1 : (1 : Int) ≤ 2 ^ i := by exact_mod_cast Nat.one_le_two_pow
    have := Int.ediv_le_self (2 ^ i) hV0
    omega
  rw [bit_of _ hq0 hq1]
  obtain ⟨b, hb⟩ : ∃ b, b = (V / 2 ^ i % 2 == 1) := ⟨_, rfl⟩
  rw [← hb]
  have hm : M.length % 8 < 8 := Nat.mod_lt _ (by omega)
  obtain ⟨m, hm'⟩ : ∃ m, m = M.length % 8 := ⟨_, rfl⟩
  have hp : (2 : Int) ^ m ≤ 128 := by
    have h4 : (2 : Nat) ^ m ≤ 2 ^ 7 := Nat.pow_le_pow_right (by omega) (by omega)
    exact_mod_cast h4
  have hp0 : (1 : Int) ≤ 2 ^ m := by exact_mod_cast Nat.one_le_two_pow
  have hval : b2i b % 256 * 2 ^ m % 256 = b2i b * 2 ^ m := by
    cases b
    · simp [b2i]
    · simp only [b2i, if_true]; omega
  rw [← hm'] at hx ⊢
  rw [hval]
  by_cases h8 : m = 0
  · rw [if_pos h8] at hx
    have hl : (pack M).length = j := by rw [hx, List.length_append, List.length_singleton] at hj; omega
    have hg : xs.getD j 0 = 0 := by rw [hx, ← hl]; simp
    have hs : ∀ y, xs.set j y = pack M ++ [y] := by intro y; rw [hx, ← hl, List.set_append_right _ _ (by omega)]; simp
    rw [hs, hg, or_add 0 (b2i b * 2 ^ m) m (by omega) (by omega) (by omega) b rfl, pack_snoc_new _ M b (Nat.le_refl _) (by omega), h8]
    simp
  · rw [if_neg h8] at hx
    obtain ⟨h1, h2, h3⟩ := pack_snoc_in _ M b (Nat.le_refl _) (by omega)
    rw [← hx, hj, Nat.add_sub_cancel, ← hm'] at h1
    rw [← hx, hj, Nat.add_sub_cancel, ← hm'] at h2
    rw [← hx, hj, Nat.add_sub_cancel] at h3
    rw [h1, or_add _ _ m (by omega) h3 h2 b rfl]
end Go.Proofs.YtphojebganlbnaaDoor.Pack
