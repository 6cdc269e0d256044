/-
  The lists that NewCode makes, plain.
-/
import Derived.Test.YtphojebganlbnaaDoorSCode2
set_option linter.unusedVariables false
namespace Go.Proofs.YtphojebganlbnaaDoor.S05
open Go Go.Proofs.YtphojebganlbnaaDoor.CodeLaw

theorem cnt_take {l : List Int} {i n : Nat} (hi : i < l.length) : cnt (l.take (i + 1)) n = cnt (l.take i) n + (if l[i] = (n : Int) then 1 else 0) := by
  unfold cnt
  rw [List.take_succ_eq_append_getElem hi, List.countP_append, List.countP_singleton]
  simp
/-- the length of the j-th word -/
def len_ (l : List Int) (j : Nat) : Nat := (l.getD j 0).toNat
def wordAt (l : List Int) (j : Nat) : Nat × Nat := (rev (len_ l j) (wordOf l j), len_ l j)
/-- the words that are made when length n is at symbol i -/
def WL (l : List Int) (n i : Nat) : List (Nat × Nat) := (List.range l.length).map fun j => if (0 < len_ l j ∧ len_ l j < n) ∨ (0 < len_ l j ∧ len_ l j = n ∧ j < i) then wordAt l j else (0, 0)
theorem WL_len (l : List Int) (n i : Nat) : (WL l n i).length = l.length := by simp [WL]
theorem WL_start (l : List Int) : WL l 1 0 = List.replicate l.length (0, 0) := by
  apply List.ext_getElem (by simp [WL])
  intro j h1 h2
  simp [WL]
  intro h
  omega
theorem WL_skip {l : List Int} {n i : Nat} (h : len_ l i ≠ n) : WL l n (i + 1) = WL l n i := by
  unfold WL
  apply List.map_congr_left
  intro j hj
  have : ((0 < len_ l j ∧ len_ l j < n) ∨ (0 < len_ l j ∧ len_ l j = n ∧ j < i + 1)) ↔ ((0 < len_ l j ∧ len_ l j < n) ∨ (0 < len_ l j ∧ len_ l j = n ∧ j < i)) := by
    constructor
    · rintro (h1 | ⟨h0, h1, h2⟩)
      · exact .inl h1
      · refine .inr ⟨h0, h1, ?_⟩
        rcases Nat.lt_or_ge j i with h3 | h3
        · exact h3
        · rw [show j = i by omega] at h1; exact absurd h1 h
    · rintro (h1 | ⟨h0, h1, h2⟩)
      · exact .inl h1
      · exact .inr ⟨h0, h1, by omega⟩
  simp only [this]
theorem WL_put {l : List Int} {n i : Nat} (hn : 1 ≤ n) (hi : i < l.length) (h : len_ l i = n) : WL l n (i + 1) = (WL l n i).set i (wordAt l i) := by
  apply List.ext_getElem (by simp [WL])
  intro j h1 h2
  rw [List.getElem_set]
  simp only [WL, List.getElem_map, List.getElem_range]
  by_cases hj : i = j
  · subst hj
    rw [if_pos rfl, if_pos (.inr ⟨by omega, h, by omega⟩)]
  · rw [if_neg hj]
    have : ((0 < len_ l j ∧ len_ l j < n) ∨ (0 < len_ l j ∧ len_ l j = n ∧ j < i + 1)) ↔ ((0 < len_ l j ∧ len_ l j < n) ∨ (0 < len_ l j ∧ len_ l j = n ∧ j < i)) := by
      constructor
      · rintro (h1 | ⟨h0, h1, h2⟩)
        · exact .inl h1
        · exact .inr ⟨h0, h1, by omega⟩
      · rintro (h1 | ⟨h0, h1, h2⟩)
        · exact .inl h1
        · exact .inr ⟨h0, h1, by omega⟩
    simp only [this]
theorem WL_next (l : List Int) (n : Nat) : WL l n l.length = WL l (n + 1) 0 := by
  unfold WL
  apply List.map_congr_left
  intro j hj
  have hj := List.mem_range.1 hj
  have : ((0 < len_ l j ∧ len_ l j < n) ∨ (0 < len_ l j ∧ len_ l j = n ∧ j < l.length)) ↔ ((0 < len_ l j ∧ len_ l j < n + 1) ∨ (0 < len_ l j ∧ len_ l j = n + 1 ∧ j < 0)) := by
    constructor
    · rintro (h1 | ⟨h0, h1, h2⟩)
      · exact .inl ⟨h1.1, by omega⟩
      · exact .inl ⟨h0, by omega⟩
    · rintro (h1 | ⟨h0, h1, h2⟩)
      · rcases Nat.lt_or_ge (len_ l j) n with h3 | h3
        · exact .inl ⟨h1.1, h3⟩
        · exact .inr ⟨h1.1, by omega, hj⟩
      · omega
  simp only [this]
/-- the first i symbols of length n, in their order -/
def idx (l : List Int) (n i : Nat) : List Nat := (List.range i).filter fun j => len_ l j == n
def OL (l : List Int) (n i : Nat) : List Nat := ((List.range n).map fun m => if m = 0 then [] else idx l m l.length).flatten ++ idx l n i
theorem OL_skip {l : List Int} {n i : Nat} (h : len_ l i ≠ n) : OL l n (i + 1) = OL l n i := by
  unfold OL idx
  rw [List.range_succ, List.filter_append]
  simp [h]
theorem OL_put {l : List Int} {n i : Nat} (h : len_ l i = n) : OL l n (i + 1) = OL l n i ++ [i] := by
  unfold OL idx
  rw [List.range_succ, List.filter_append]
  simp [h]
theorem OL_next (l : List Int) {n : Nat} (hn : 1 ≤ n) : OL l n l.length = OL l (n + 1) 0 := by
  unfold OL
  rw [List.range_succ, List.map_append, List.flatten_append]
  simp [idx, show n ≠ 0 by omega]
theorem idx_le (l : List Int) (n i : Nat) : (idx l n i).length ≤ i := by
  unfold idx
  have := List.length_filter_le (fun j => len_ l j == n) (List.range i)
  rwa [List.length_range] at this
theorem OL_le0 (l : List Int) {N : Nat} (hl : l.length ≤ N) : ∀ n, ((List.range n).map fun m => if m = 0 then [] else idx l m l.length).flatten.length ≤ n * N
  | 0 => by simp
  | n + 1 => by
    have := OL_le0 l hl n
    rw [List.range_succ, List.map_append, List.flatten_append, List.length_append, Nat.add_mul]
    have h2 := idx_le l n l.length
    simp only [List.map_cons, List.map_nil, List.flatten_cons, List.flatten_nil, List.append_nil]
    split
    · simp only [List.length_nil]; omega
    · omega
theorem OL_le {l : List Int} {n i : Nat} (hl : l.length ≤ 320) (hn : n ≤ 15) (hi : i ≤ l.length) : (OL l n i).length ≤ 320 + 15 * 320 := by
  unfold OL
  have h1 := OL_le0 l hl n
  have h2 := idx_le l n i
  have h3 : n * 320 ≤ 15 * 320 := Nat.mul_le_mul_right _ hn
  rw [List.length_append]
  omega
theorem OL_start (l : List Int) : OL l 1 0 = [] := by simp [OL, idx, List.range_succ]
end Go.Proofs.YtphojebganlbnaaDoor.S05
