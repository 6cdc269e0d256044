/-
  Bits, plain: what is packed, taken, written and read back.
-/
import Derived.Test.YtphojebganlbnaaDoorPack
set_option linter.unusedVariables false
namespace Go.Proofs.YtphojebganlbnaaDoor.BitLaw
open Go Go.Proofs.YtphojebganlbnaaDoor.Pack

theorem pow_le31 {m : Nat} (hm : m < 32) : (2 : Int) ^ m ≤ 2147483648 := by
  have h4 : (2 : Nat) ^ m ≤ 2147483648 := Nat.pow_le_pow_right (n := 2) (j := 31) (by omega) (by omega)
  have h5 : ((2 ^ m : Nat) : Int) ≤ (2147483648 : Nat) := Int.ofNat_le.2 h4
  rw [Int.natCast_pow] at h5
  exact h5
theorem pow_pos (m : Nat) : (1 : Int) ≤ 2 ^ m := by exact_mod_cast Nat.one_le_two_pow

theorem low_get : ∀ (n : Nat) (v : Int) (i : Nat), i < n → (low n v)[i]? = some (v / 2 ^ i % 2 == 1) := by
  intro n
  induction n with
  | zero => intro v i h; omega
  | succ n ih =>
    intro v i h
    rcases Nat.lt_or_ge i n with h1 | h1
    · rw [low_snoc, List.getElem?_append_left (by rw [low_length]; exact h1), ih v i h1]
    · have : i = n := by omega
      subst this
      rw [low_snoc, List.getElem?_append_right (by rw [low_length]; omega), low_length]
      simp
theorem unpack_get : ∀ (xs : List Int) (i : Nat), i < 8 * xs.length → (unpack xs)[i]? = some (xs.getD (i / 8) 0 / 2 ^ (i % 8) % 2 == 1) := by
  intro xs
  induction xs with
  | nil => intro i h; simp at h
  | cons x xs ih =>
    intro i h
    rw [show unpack (x :: xs) = low 8 x ++ unpack xs from rfl]
    rcases Nat.lt_or_ge i 8 with h1 | h1
    · rw [List.getElem?_append_left (by rw [low_length]; exact h1), low_get 8 x i h1, show i / 8 = 0 by omega, show i % 8 = i by omega]
      simp
    · rw [List.getElem?_append_right (by rw [low_length]; exact h1), low_length, ih (i - 8) (by simp at h; omega), show i / 8 = (i - 8) / 8 + 1 by omega, show i % 8 = (i - 8) % 8 by omega]
      simp

theorem or_add32 (x y : Int) (m : Nat) (hm : m < 32) (h0 : 0 ≤ x) (h1 : x < 2 ^ m) (b : Bool) (hy : y = b2i b * 2 ^ m) : Go.bits .or .u32 x y = x + y := by
  have hp := pow_le31 hm
  have hb := b2i_range b
  have hy0 : 0 ≤ y ∧ y < 4294967296 := by
    subst hy
    cases b
    · simp [b2i]
    · have := pow_pos m
      simp only [b2i, if_true, Int.one_mul]; omega
  rw [u32_or x y h0 (by omega) hy0.1 hy0.2]
  obtain ⟨a, rfl⟩ := Int.eq_ofNat_of_zero_le h0
  have ha : a < 2 ^ m := by exact_mod_cast h1
  subst hy
  cases b
  · simp [b2i]
  · have e : (b2i true * 2 ^ m : Int) = ((2 ^ m : Nat) : Int) := by simp [b2i]
    rw [e]
    simp only [Int.toNat_natCast]
    have h3 := Nat.two_pow_add_eq_or_of_lt ha 1
    rw [Nat.mul_one] at h3
    rw [Nat.or_comm, ← h3]
    push_cast
    omega

def takeV (L : List Bool) (at_ : Nat) (n : Int) : Int × Int × Int :=
  if n < 0 ∨ 32 < n then (0, 1, (at_ : Int)) else if (L.length : Int) - at_ < n then (0, 50, (at_ : Int)) else (numOf ((L.drop at_).take n.toNat), 0, at_ + n)

theorem take_succ (L : List Bool) (at_ i : Nat) (b : Bool) (h : L[at_ + i]? = some b) : (L.drop at_).take (i + 1) = (L.drop at_).take i ++ [b] := by
  rw [List.take_add_one, List.getElem?_drop, h]; rfl
theorem take_len (L : List Bool) (at_ i : Nat) (h : at_ + i ≤ L.length) : ((L.drop at_).take i).length = i := by simp; omega

/-- a call, as data -/
structure OpS where
  kind : Int
  n : Int
  v : Int
  b : List Int
def bytesV (bs : List Int) (at_ : Nat) (n : Int) : List Int × Int × Nat :=
  if n < 0 then ([], 1, (at_ + 7) / 8 * 8) else if (bs.length : Int) - ((at_ + 7) / 8 : Nat) < n then ([], 50, (at_ + 7) / 8 * 8) else ((bs.drop ((at_ + 7) / 8)).take n.toNat, 0, (at_ + 7) / 8 * 8 + 8 * n.toNat)
theorem pack_add (L : List Bool) (ys : List Int) (hy : ∀ x ∈ ys, 0 ≤ x ∧ x < 256) : pack (fill L ++ unpack ys) = pack L ++ ys := by
  rw [pack_append _ _ _ (Nat.le_refl _) (by rw [fill_length]; omega), pack_fill, pack_unpack ys hy]

/-- a call that is written down -/
def good (x : OpS) : Bool := decide (x.kind = 0 → 0 ≤ x.n ∧ x.n ≤ 32 ∧ x.v < 2 ^ x.n.toNat)
/-- what it writes -/
def wrt (L : List Bool) (x : OpS) : List Bool := if x.kind = 0 then L ++ low x.n.toNat x.v else if x.kind = 1 then fill L else if x.kind = 2 then fill L ++ unpack x.b else L
theorem wr_ext (L : List Bool) (x : OpS) : ∃ t, wrt L x = L ++ t := by
  unfold wrt fill
  split
  · exact ⟨_, rfl⟩
  · split
    · exact ⟨_, rfl⟩
    · split
      · exact ⟨_, List.append_assoc ..⟩
      · exact ⟨[], (List.append_nil _).symm⟩
theorem fold_ext : ∀ (l : List OpS) (L : List Bool), ∃ t, l.foldl wrt L = L ++ t
  | [], L => ⟨[], (List.append_nil _).symm⟩
  | x :: l, L => by
    obtain ⟨t, ht⟩ := wr_ext L x
    obtain ⟨t2, ht2⟩ := fold_ext l (wrt L x)
    exact ⟨t ++ t2, by rw [List.foldl_cons, ht2, ht, List.append_assoc]⟩
/-- the bits after the first j -/
def bitsAt (D : List OpS) (j : Nat) : List Bool := (D.take j).foldl wrt []
theorem bitsAt_succ (D : List OpS) (j : Nat) (x : OpS) (h : D[j]? = some x) : bitsAt D (j + 1) = wrt (bitsAt D j) x := by
  unfold bitsAt
  rw [List.take_add_one, h]
  simp
theorem bitsAt_ext (D : List OpS) (j : Nat) : ∃ t, bitsAt D D.length = bitsAt D j ++ t := by
  unfold bitsAt
  obtain ⟨t, ht⟩ := fold_ext (D.drop j) ((D.take j).foldl wrt [])
  exact ⟨t, by rw [List.take_length, ← ht, ← List.foldl_append, List.take_append_drop]⟩
theorem low_zero : ∀ n, low n 0 = List.replicate n false
  | 0 => rfl
  | n + 1 => by
    rw [low_snoc, low_zero n, List.replicate_succ']
    simp
/-- packed and unpacked: filled up -/
theorem unpack_pack : ∀ (n : Nat) (L : List Bool), L.length ≤ n → unpack (pack L) = fill L := by
  intro n
  induction n with
  | zero =>
    intro L h
    have : L = [] := List.eq_nil_of_length_eq_zero (by omega)
    subst this
    simp [pack_nil, unpack, fill]
  | succ n ih =>
    intro L h
    rcases Nat.eq_zero_or_pos L.length with h0 | h0
    · have : L = [] := List.eq_nil_of_length_eq_zero h0
      subst this
      simp [pack_nil, unpack, fill]
    · rw [pack_pos h0, show unpack (numOf (L.take 8) :: pack (L.drop 8)) = low 8 (numOf (L.take 8)) ++ unpack (pack (L.drop 8)) from rfl, ih _ (by simp; omega)]
      rcases Nat.lt_or_ge L.length 8 with h8 | h8
      · rw [List.take_of_length_le (by omega), List.drop_of_length_le (by omega)]
        have e : numOf (L ++ List.replicate (8 - L.length) false) = numOf L := by rw [numOf_append, numOf_zeros]; simp
        have e2 := low_numOf (L ++ List.replicate (8 - L.length) false)
        rw [e, List.length_append, List.length_replicate, show L.length + (8 - L.length) = 8 by omega] at e2
        rw [e2]
        unfold fill
        rw [show (8 - L.length % 8) % 8 = 8 - L.length by omega]
        simp
      · have e := low_numOf (L.take 8)
        rw [List.length_take, show min 8 L.length = 8 by omega] at e
        rw [e]
        unfold fill
        rw [List.length_drop, show (L.length - 8) % 8 = L.length % 8 by omega, ← List.append_assoc, List.take_append_drop]

/-- what is read at j of what was written -/
theorem back_take (D : List OpS) (j : Nat) (x : OpS) (h : D[j]? = some x) (hk : x.kind = 0) (hg : good x = true) (hv : 0 ≤ x.v) :
    takeV (unpack (pack (bitsAt D D.length))) (bitsAt D j).length x.n = (x.v, 0, ((bitsAt D (j + 1)).length : Int)) := by
  have hg' := (of_decide_eq_true hg) hk
  have hs := bitsAt_succ D j x h
  have hw : wrt (bitsAt D j) x = bitsAt D j ++ low x.n.toNat x.v := by unfold wrt; rw [if_pos hk]
  rw [hw] at hs
  obtain ⟨t, ht⟩ := bitsAt_ext D (j + 1)
  have hf : unpack (pack (bitsAt D D.length)) = bitsAt D j ++ (low x.n.toNat x.v ++ (t ++ List.replicate ((8 - (bitsAt D D.length).length % 8) % 8) false)) := by
    rw [unpack_pack _ _ (Nat.le_refl _)]
    unfold fill
    rw [ht, hs]
    simp [List.append_assoc]
  unfold takeV
  rw [if_neg (by omega), hf, if_neg (by rw [List.length_append, List.length_append, low_length]; omega), List.drop_left' rfl, List.take_left' (low_length _ _), numOf_low _ _ hv hg'.2.2, hs, List.length_append, low_length]
  congr 2
  omega
theorem back_align (D : List OpS) (j : Nat) (x : OpS) (h : D[j]? = some x) (hk : x.kind = 1) : ((bitsAt D j).length + 7) / 8 * 8 = (bitsAt D (j + 1)).length := by
  rw [bitsAt_succ D j x h]
  unfold wrt
  rw [if_neg (by omega), if_pos hk, fill_length]
  omega
theorem back_bytes (D : List OpS) (j : Nat) (x : OpS) (h : D[j]? = some x) (hk : x.kind = 2) (hb : ∀ y ∈ x.b, 0 ≤ y ∧ y < 256) :
    bytesV (pack (bitsAt D D.length)) (bitsAt D j).length (x.b.length : Nat) = (x.b, 0, (bitsAt D (j + 1)).length) := by
  have hs := bitsAt_succ D j x h
  have hw : wrt (bitsAt D j) x = fill (bitsAt D j) ++ unpack x.b := by unfold wrt; rw [if_neg (by omega), if_neg (by omega), if_pos hk]
  rw [hw] at hs
  obtain ⟨t, ht⟩ := bitsAt_ext D (j + 1)
  have hl : (fill (bitsAt D j) ++ unpack x.b).length % 8 = 0 := by rw [List.length_append, fill_length, unpack_length]; omega
  have hp : pack (bitsAt D D.length) = pack (bitsAt D j) ++ (x.b ++ pack t) := by
    rw [ht, hs, pack_append _ _ _ (Nat.le_refl _) hl, pack_add _ _ hb, List.append_assoc]
  have hpl := pack_len (bitsAt D j)
  unfold bytesV
  rw [if_neg (by omega), hp, if_neg (by rw [List.length_append, List.length_append, hpl]; omega), ← hpl, List.drop_left' rfl, Int.toNat_natCast, List.take_left' rfl, hs, List.length_append, fill_length, unpack_length, hpl]
  congr 2
  omega
theorem back_rest (D : List OpS) (j : Nat) (x : OpS) (h : D[j]? = some x) (h0 : x.kind ≠ 0) (h1 : x.kind ≠ 1) (h2 : x.kind ≠ 2) : bitsAt D (j + 1) = bitsAt D j := by
  rw [bitsAt_succ D j x h]
  unfold wrt
  rw [if_neg h0, if_neg h1, if_neg h2]
theorem bitsAt_le (D : List OpS) (j : Nat) : (bitsAt D j).length ≤ 8 * (pack (bitsAt D D.length)).length := by
  obtain ⟨t, ht⟩ := bitsAt_ext D j
  rw [pack_len, ht, List.length_append]
  omega
end Go.Proofs.YtphojebganlbnaaDoor.BitLaw
