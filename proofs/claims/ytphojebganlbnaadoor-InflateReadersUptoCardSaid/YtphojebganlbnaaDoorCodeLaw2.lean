/-
  Codes, plain: words as bits, what a code reads.
-/
import Derived.Test.YtphojebganlbnaaDoorCodeLists
set_option linter.unusedVariables false
namespace Go.Proofs.YtphojebganlbnaaDoor.S05
open Go Go.Proofs.YtphojebganlbnaaDoor.CodeLaw Go.Proofs.YtphojebganlbnaaDoor.Pack Go.Proofs.YtphojebganlbnaaDoor.BitLaw

theorem msb_of_val : ∀ r : List Bool, msb r.length (val r) = r
  | [] => rfl
  | b :: r => by
    have hlt := val_lt r
    have ih := msb_of_val r
    rw [List.length_cons, msb, val]
    have e1 : ((if b = true then 2 ^ r.length else 0) + val r) / 2 ^ r.length % 2 = if b then 1 else 0 := by
      cases b with
      | true =>
        simp only [if_true]
        rw [Nat.add_comm, Nat.add_div_right _ (Nat.two_pow_pos _), Nat.div_eq_of_lt hlt]
      | false => simp [Nat.div_eq_of_lt hlt]
    rw [e1]
    have e2 : ∀ w, msb r.length ((if b = true then 2 ^ r.length else 0) + w) = msb r.length w := by
      intro w
      cases b with
      | false => simp
      | true =>
        simp only [if_true]
        have key : ∀ n k w, n ≤ k → msb n (2 ^ k + w) = msb n w := by
          intro n
          induction n with
          | zero => intros; rfl
          | succ n ih =>
            intro k w h
            rw [msb, msb, ih k w (by omega)]
            congr 2
            obtain ⟨d, rfl⟩ : ∃ d, k = n + d + 1 := ⟨k - n - 1, by omega⟩
            rw [show n + d + 1 = n + (d + 1) by omega, Nat.pow_add, Nat.add_comm, Nat.add_mul_div_left _ _ (Nat.two_pow_pos _), Nat.pow_succ]
            omega
        exact key _ _ _ (Nat.le_refl _)
    rw [e2, ih]
    cases b <;> rfl
theorem msb_take : ∀ n k w, k ≤ n → (msb n w).take k = msb k (w / 2 ^ (n - k))
  | _, 0, w, _ => by simp [msb]
  | n + 1, k + 1, w, h => by
    rw [msb, List.take_succ_cons, msb_take n k w (by omega), msb, Nat.div_div_eq_div_mul, ← Nat.pow_add, show n + 1 - (k + 1) + k = n by omega, show n + 1 - (k + 1) = n - k by omega]
/-- a word's bits, lowest first, as they are written: the highest first -/
theorem low_rev : ∀ n w, low n ((rev n w : Nat) : Int) = msb n w
  | 0, w => rfl
  | n + 1, w => by
    have ih := low_rev n w
    rw [rev, msb, low]
    have e1 : (((w / 2 ^ n % 2 + 2 * rev n w : Nat) : Int) % 2 == 1) = (w / 2 ^ n % 2 == 1) := by
      have : w / 2 ^ n % 2 < 2 := Nat.mod_lt _ (by omega)
      rcases (show w / 2 ^ n % 2 = 0 ∨ w / 2 ^ n % 2 = 1 by omega) with h | h <;> rw [h] <;> simp <;> omega
    have e2 : ((w / 2 ^ n % 2 + 2 * rev n w : Nat) : Int) / 2 = ((rev n w : Nat) : Int) := by omega
    rw [e1, e2, ih]

/-- a symbol's word, as bits -/
def wb (l : List Int) (i : Nat) : List Bool := msb (len_ l i) (wordOf l i)
theorem wb_len (l : List Int) (i : Nat) : (wb l i).length = len_ l i := msb_len _ _
theorem len_lt {l : List Int} {i : Nat} (h : 0 < len_ l i) : i < l.length := by
  rcases Nat.lt_or_ge i l.length with h1 | h1
  · exact h1
  · unfold len_ at h; rw [List.getD_eq_getElem?_getD, List.getElem?_eq_none h1] at h; simp at h
theorem len_get {l : List Int} {i n : Nat} (hn : 1 ≤ n) : len_ l i = n ↔ ∃ h : i < l.length, l[i] = (n : Int) := by
  constructor
  · intro h
    have hi := len_lt (l := l) (i := i) (by omega)
    refine ⟨hi, ?_⟩
    unfold len_ at h
    rw [List.getD_eq_getElem?_getD, List.getElem?_eq_getElem hi] at h
    simp only [Option.getD_some] at h
    omega
  · rintro ⟨hi, h⟩
    unfold len_
    rw [List.getD_eq_getElem?_getD, List.getElem?_eq_getElem hi]
    simp [h]
theorem len_le {l : List Int} (hok : LenOk l) (i : Nat) : len_ l i ≤ 15 := by
  rcases Nat.lt_or_ge i l.length with h1 | h1
  · unfold len_
    rw [List.getD_eq_getElem?_getD, List.getElem?_eq_getElem h1]
    have := hok _ (List.getElem_mem h1)
    simp only [Option.getD_some]
    omega
  · unfold len_; rw [List.getD_eq_getElem?_getD, List.getElem?_eq_none h1]; simp
theorem isCode_ok {l : List Int} (h : isCode l = true) : (1 ≤ l.length ∧ l.length ≤ 320) ∧ LenOk l ∧ 0 < kraft l ∧ kraft l ≤ 32768 := by
  unfold isCode at h
  simp only [Bool.and_eq_true, decide_eq_true_eq] at h
  have := okLens_true h.1
  exact ⟨this.1, this.2, h.2⟩
theorem word_in {l : List Int} (hc : isCode l = true) {i : Nat} (h : 0 < len_ l i) : wordOf l i < 2 ^ len_ l i ∧ fst l (len_ l i) ≤ wordOf l i ∧ wordOf l i < fst l (len_ l i) + cnt l (len_ l i) ∧ wordOf l i = fst l (len_ l i) + rank l i (len_ l i) := by
  obtain ⟨_, hok, _, hk⟩ := isCode_ok hc
  obtain ⟨hi, hx⟩ := (len_get (l := l) (i := i) (n := len_ l i) h).1 rfl
  have := wordOf_lt hk hi hx h (len_le hok i)
  exact ⟨this.1, this.2.1, this.2.2, rfl⟩

theorem idx_len (l : List Int) {n : Nat} (hn : 1 ≤ n) : ∀ i, i ≤ l.length → (idx l n i).length = rank l i n
  | 0, _ => rfl
  | i + 1, h => by
    have ih := idx_len l hn i (by omega)
    rw [rank, cnt_take (by omega)]
    unfold rank at ih
    unfold idx at ih ⊢
    rw [List.range_succ, List.filter_append, List.length_append, ih]
    congr 1
    by_cases hx : l[i] = (n : Int)
    · rw [if_pos hx]
      have := (len_get (l := l) (i := i) hn).2 ⟨by omega, hx⟩
      simp [this]
    · rw [if_neg hx]
      have : len_ l i ≠ n := fun e => by obtain ⟨_, h⟩ := (len_get (l := l) (i := i) hn).1 e; exact hx h
      simp [this]
theorem idx_pre (l : List Int) (n : Nat) : ∀ d i, ∃ t, idx l n (i + d) = idx l n i ++ t
  | 0, i => ⟨[], by simp⟩
  | d + 1, i => by
    obtain ⟨t, ht⟩ := idx_pre l n d i
    unfold idx at ht ⊢
    rw [← Nat.add_assoc, List.range_succ, List.filter_append, ht, List.append_assoc]
    exact ⟨_, rfl⟩
/-- the symbol at a rank -/
theorem idx_at {l : List Int} {n i : Nat} (hn : 1 ≤ n) (h : len_ l i = n) : (idx l n l.length)[rank l i n]? = some i := by
  have hi := len_lt (l := l) (i := i) (by omega)
  obtain ⟨t, ht⟩ := idx_pre l n (l.length - (i + 1)) (i + 1)
  rw [show i + 1 + (l.length - (i + 1)) = l.length by omega] at ht
  rw [ht]
  have e : idx l n (i + 1) = idx l n i ++ [i] := by unfold idx; rw [List.range_succ, List.filter_append]; simp [h]
  rw [e, ← idx_len l hn i (by omega), List.append_assoc, List.getElem?_append_right (Nat.le_refl _)]
  simp
theorem idx_get {l : List Int} {n j : Nat} (hn : 1 ≤ n) (hj : j < cnt l n) : ∃ i, len_ l i = n ∧ rank l i n = j ∧ (idx l n l.length)[j]? = some i := by
  have hl : (idx l n l.length).length = cnt l n := by rw [idx_len l hn _ (Nat.le_refl _), rank_all']
  obtain ⟨i, hi⟩ : ∃ i, (idx l n l.length)[j]? = some i := ⟨_, List.getElem?_eq_getElem (by omega)⟩
  have hm := List.mem_of_getElem? hi
  unfold idx at hm
  rw [List.mem_filter] at hm
  have hlen : len_ l i = n := by simpa using hm.2
  refine ⟨i, hlen, ?_, hi⟩
  have h2 := idx_at hn hlen
  have hnd : (idx l n l.length).Nodup := List.Nodup.sublist List.filter_sublist List.nodup_range
  have hr : rank l i n < (idx l n l.length).length := by
    obtain ⟨hi', hx⟩ := (len_get (l := l) (i := i) hn).1 hlen
    rw [hl]; exact rank_lt hi' hx
  have hj' : j < (idx l n l.length).length := by omega
  rw [List.getElem?_eq_getElem hr] at h2
  rw [List.getElem?_eq_getElem hj'] at hi
  have e : (idx l n l.length)[rank l i n] = (idx l n l.length)[j] := by rw [Option.some.inj h2, Option.some.inj hi]
  rcases Nat.lt_trichotomy (rank l i n) j with h | h | h
  · exact absurd e (List.pairwise_iff_getElem.1 hnd _ _ hr hj' h)
  · exact h
  · exact absurd e.symm (List.pairwise_iff_getElem.1 hnd _ _ hj' hr h)
where rank_all' : rank l l.length n = cnt l n := by unfold rank; rw [List.take_length]
/-- how many words are shorter -/
def past (l : List Int) : Nat → Nat
  | 0 => 0
  | 1 => 0
  | n + 2 => past l (n + 1) + cnt l (n + 1)
theorem past_succ (l : List Int) {n : Nat} (h : 1 ≤ n) : past l (n + 1) = past l n + cnt l n := by
  obtain ⟨m, rfl⟩ : ∃ m, n = m + 1 := ⟨n - 1, by omega⟩
  rfl
theorem ol_past (l : List Int) : ∀ n, 1 ≤ n → (((List.range n).map fun m => if m = 0 then [] else idx l m l.length).flatten).length = past l n
  | 0, h => by omega
  | 1, _ => rfl
  | n + 2, _ => by
    rw [List.range_succ, List.map_append, List.flatten_append, List.length_append, ol_past l (n + 1) (by omega), past]
    congr 1
    rw [List.map_cons, List.map_nil, List.flatten_cons, List.flatten_nil, List.append_nil, if_neg (by omega), idx_len l (by omega) _ (Nat.le_refl _)]
    unfold rank
    rw [List.take_length]
theorem ol_pre (l : List Int) : ∀ d n, ∃ t, ((List.range (n + d)).map fun m => if m = 0 then [] else idx l m l.length).flatten = ((List.range n).map fun m => if m = 0 then [] else idx l m l.length).flatten ++ t
  | 0, n => ⟨[], by simp⟩
  | d + 1, n => by
    obtain ⟨t, ht⟩ := ol_pre l d n
    rw [← Nat.add_assoc, List.range_succ, List.map_append, List.flatten_append, ht, List.append_assoc]
    exact ⟨_, rfl⟩
/-- the order's symbol at a word -/
theorem ol_at {l : List Int} {n i : Nat} (hn : 1 ≤ n) (hn2 : n ≤ 15) (h : len_ l i = n) : (OL l 16 0)[past l n + rank l i n]? = some i := by
  unfold OL
  obtain ⟨t, ht⟩ := ol_pre l (16 - (n + 1)) (n + 1)
  rw [show n + 1 + (16 - (n + 1)) = 16 by omega, List.range_succ (n := n), List.map_append, List.flatten_append] at ht
  rw [ht, List.append_assoc, List.append_assoc, List.getElem?_append_right (by rw [ol_past l n hn]; omega), ol_past l n hn, Nat.add_sub_cancel_left]
  have := idx_at hn h
  rw [List.map_cons, List.map_nil, List.flatten_cons, List.flatten_nil, List.append_nil, if_neg (by omega)]
  rw [List.getElem?_append_left (List.getElem?_eq_some_iff.1 this).1]
  exact this

/-- what a code reads of some bits: the symbol, how many bits, the error -/
inductive RdIs (l : List Int) (rest : List Bool) : Nat → Nat → Int → Prop where
  | hit {i : Nat} : 0 < len_ l i → wb l i <+: rest → RdIs l rest i (len_ l i) 0
  | more {i : Nat} : (∀ j, 0 < len_ l j → ¬ wb l j <+: rest) → 0 < len_ l i → rest <+: wb l i → RdIs l rest 0 0 50
  | none : (∀ j, 0 < len_ l j → ¬ wb l j <+: rest) → (∀ j, 0 < len_ l j → ¬ rest <+: wb l j) → RdIs l rest 0 0 52
theorem wb_pre {l : List Int} (hc : isCode l = true) {rest : List Bool} {i : Nat} (h : 0 < len_ l i) : wb l i <+: rest ↔ len_ l i ≤ rest.length ∧ val (rest.take (len_ l i)) = wordOf l i := by
  have hw := word_in hc h
  constructor
  · rintro ⟨t, rfl⟩
    rw [List.take_append, wb_len, Nat.sub_self, List.take_zero, List.append_nil, List.take_of_length_le (by rw [wb_len]; exact Nat.le_refl _)]
    refine ⟨by rw [List.length_append, wb_len]; omega, ?_⟩
    unfold wb
    rw [msb_val, Nat.mod_eq_of_lt hw.1]
  · rintro ⟨h1, h2⟩
    refine ⟨rest.drop (len_ l i), ?_⟩
    have := msb_of_val (rest.take (len_ l i))
    rw [List.length_take, Nat.min_eq_left h1, h2] at this
    unfold wb
    rw [this, List.take_append_drop]
theorem wb_hit {l : List Int} (hc : isCode l = true) {rest : List Bool} {i : Nat} (h : 0 < len_ l i) (hp : wb l i <+: rest) : hit l rest (len_ l i) := by
  have h1 := (wb_pre hc h).1 hp
  have h2 := word_in hc h
  exact ⟨h1.1, by omega, by omega⟩
theorem hit_wb {l : List Int} (hc : isCode l = true) {rest : List Bool} {n : Nat} (hn : 1 ≤ n) (hh : hit l rest n) : ∃ i, len_ l i = n ∧ rank l i n = val (rest.take n) - fst l n ∧ wb l i <+: rest := by
  obtain ⟨i, h1, h2, _⟩ := idx_get (l := l) (j := val (rest.take n) - fst l n) hn (by have := hh.2.1; have := hh.2.2; omega)
  refine ⟨i, h1, h2, (wb_pre hc (by omega)).2 ?_⟩
  have := word_in hc (i := i) (by omega)
  rw [h1] at this ⊢
  refine ⟨hh.1, ?_⟩
  have h3 := hh.2.1
  omega
theorem wb_one {l : List Int} (hc : isCode l = true) {rest : List Bool} {i j : Nat} (hi : 0 < len_ l i) (hj : 0 < len_ l j) (h : wb l i <+: rest) (k : wb l j <+: rest) : i = j := by
  have h1 := wb_hit hc hi h
  have h2 := wb_hit hc hj k
  rcases Nat.lt_trichotomy (len_ l i) (len_ l j) with h3 | h3 | h3
  · exact (hit_one (by omega) h1 h2 h3).elim
  · have a := (wb_pre hc hi).1 h
    have b := (wb_pre hc hj).1 k
    have c := word_in hc hi
    have d := word_in hc hj
    rw [h3] at a c
    have e1 : rank l i (len_ l j) = rank l j (len_ l j) := by omega
    have e2 := idx_at (l := l) (i := i) (by omega) h3
    have e3 := idx_at (l := l) (i := j) (n := len_ l j) (by omega) rfl
    rw [e1, e3] at e2
    exact (Option.some.inj e2).symm
  · exact (hit_one (by omega) h2 h1 h3).elim
theorem RdIs.one {l : List Int} (hc : isCode l = true) {rest : List Bool} {i j n m : Nat} {e f : Int} (h : RdIs l rest i n e) (k : RdIs l rest j m f) : i = j ∧ n = m ∧ e = f := by
  cases h with
  | hit h1 h2 => cases k with
    | hit k1 k2 => have := wb_one hc h1 k1 h2 k2; subst this; exact ⟨rfl, rfl, rfl⟩
    | more k1 k2 k3 => exact (k1 _ h1 h2).elim
    | none k1 k2 => exact (k1 _ h1 h2).elim
  | more h1 h2 h3 => cases k with
    | hit k1 k2 => exact (h1 _ k1 k2).elim
    | more k1 k2 k3 => exact ⟨rfl, rfl, rfl⟩
    | none k1 k2 => exact (k2 _ h2 h3).elim
  | none h1 h2 => cases k with
    | hit k1 k2 => exact (h1 _ k1 k2).elim
    | more k1 k2 k3 => exact (h2 _ k2 k3).elim
    | none k1 k2 => exact ⟨rfl, rfl, rfl⟩
/-- bits begin a longer word -/
theorem pre_wb {l : List Int} (hc : isCode l = true) {rest : List Bool} {i : Nat} (h : 0 < len_ l i) : rest <+: wb l i ↔ rest.length ≤ len_ l i ∧ wordOf l i / 2 ^ (len_ l i - rest.length) = val rest := by
  have hw := word_in hc h
  constructor
  · rintro ⟨t, ht⟩
    have hl := congrArg List.length ht
    rw [List.length_append, wb_len] at hl
    refine ⟨by omega, ?_⟩
    have e := congrArg (List.take rest.length) ht
    rw [List.take_append, Nat.sub_self, List.take_zero, List.append_nil, List.take_of_length_le (Nat.le_refl _)] at e
    unfold wb at e
    rw [msb_take _ _ _ (by omega)] at e
    have := congrArg val e
    rw [msb_val, Nat.mod_eq_of_lt] at this
    · exact this.symm
    · rw [Nat.div_lt_iff_lt_mul (Nat.two_pow_pos _), ← Nat.pow_add, show rest.length + (len_ l i - rest.length) = len_ l i by omega]
      exact hw.1
  · rintro ⟨h1, h2⟩
    refine ⟨(wb l i).drop rest.length, ?_⟩
    have e : (wb l i).take rest.length = rest := by
      unfold wb
      rw [msb_take _ _ _ h1, h2, msb_of_val]
    conv => lhs; lhs; rw [← e]
    rw [List.take_append_drop]
/-- all bits begin with a word of a whole code -/
theorem whole_hit {l : List Int} (hok : LenOk l) (hk : kraft l = 32768) {rest : List Bool} (hr : 15 ≤ rest.length) : ∃ n, 1 ≤ n ∧ n ≤ 15 ∧ hit l rest n := by
  have key : ∀ n, 1 ≤ n → n ≤ 15 → (∃ m, 1 ≤ m ∧ m ≤ 15 ∧ hit l rest m) ∨ fst l n + cnt l n ≤ val (rest.take n) := by
    intro n
    induction n with
    | zero => intro h; omega
    | succ n ih =>
      intro h1 h2
      by_cases h0 : n = 0
      · subst h0
        by_cases h : val (rest.take 1) < fst l 1 + cnt l 1
        · exact .inl ⟨1, by omega, by omega, by omega, Nat.zero_le _, h⟩
        · exact .inr (Nat.le_of_not_lt h)
      · rcases ih (by omega) (by omega) with h | h
        · exact .inl h
        · by_cases h3 : val (rest.take (n + 1)) < fst l (n + 1) + cnt l (n + 1)
          · refine .inl ⟨n + 1, by omega, by omega, by omega, ?_, h3⟩
            rw [fst_succ l (by omega)]
            have hn : n < rest.length := by omega
            rw [List.take_succ_eq_append_getElem hn, val_snoc]
            split <;> omega
          · exact .inr (by omega)
  rcases key 15 (by omega) (by omega) with h | h
  · exact h
  · have h1 := part_fst l 14 (by omega)
    have h2 : CodeLaw.part l 15 = kraft l := by
      unfold CodeLaw.part kraft
      congr 1
      apply List.map_congr_left
      intro x hx
      have := hok x hx
      by_cases h0 : 0 < x
      · rw [if_pos h0, if_pos ⟨h0, by omega⟩]
      · rw [if_neg h0, if_neg (by omega)]
    have h3 := val_lt (rest.take 15)
    rw [List.length_take, Nat.min_eq_left hr] at h3
    simp only [Nat.reduceAdd, Nat.sub_self, Nat.pow_zero, Nat.mul_one] at h1
    rw [h2, hk] at h1
    have : (2 : Nat) ^ 15 = 32768 := rfl
    omega
end Go.Proofs.YtphojebganlbnaaDoor.S05
