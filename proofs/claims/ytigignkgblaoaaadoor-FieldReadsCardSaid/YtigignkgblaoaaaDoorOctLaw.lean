/-
  Octal fields, plain.
-/
import Derived.Test.YtigignkgblaoaaaDoorBytes
set_option linter.unusedVariables false
set_option linter.unusedSimpArgs false
namespace Go.Proofs.YtigignkgblaoaaaDoor.S12
open Go Go.Proofs.YtigignkgblaoaaaDoor.Lib

theorem while_split {α : Type} {p : α → Bool} : ∀ {t : List α} {i : Nat}, (∀ y ∈ t.take i, p y = true) → (∀ h : i < t.length, p t[i] = false) → t.takeWhile p = t.take i ∧ t.dropWhile p = t.drop i
  | [], i, _, _ => by simp
  | x :: t, 0, _, h => by
    have := h (by simp)
    simp only [List.getElem_cons_zero] at this
    simp [this]
  | x :: t, i + 1, hy, h => by
    have hx := hy x (by simp)
    have ih := while_split (t := t) (i := i) (fun y hy' => hy y (by simp [hy'])) (fun hi => by have := h (by simpa using hi); simpa using this)
    simp [hx, ih.1, ih.2]
theorem all_take_succ {α : Type} {p : α → Bool} {t : List α} {i : Nat} (hi : i < t.length) (h : ∀ y ∈ t.take i, p y = true) (hx : p t[i] = true) : ∀ y ∈ t.take (i + 1), p y = true := by
  intro y hy
  rw [List.take_succ_eq_append_getElem hi] at hy
  rcases List.mem_append.1 hy with hy | hy
  · exact h y hy
  · rw [List.mem_singleton.1 hy]; exact hx
theorem tw_mem {α : Type} {p : α → Bool} : ∀ {t : List α} {y : α}, y ∈ t.takeWhile p → p y = true
  | [], y, h => by simp at h
  | x :: t, y, h => by
    rw [List.takeWhile_cons] at h
    by_cases hx : p x = true
    · rw [if_pos hx] at h
      rcases List.mem_cons.1 h with rfl | h
      · exact hx
      · exact tw_mem h
    · rw [if_neg hx] at h; cases h
abbrev isOct (x : Int) : Bool := decide (48 ≤ x) && decide (x ≤ 55)
def octV : Int → List Int → Option Int
  | n, [] => some n
  | n, d :: ds => if (9223372036854775807 - (d - 48)) / 8 < n then none else octV (8 * n + (d - 48)) ds
abbrev blankZ (x : Int) : Bool := x == 32 || x == 0
def octT (t : List Int) : Int × Int := if (t.dropWhile isOct).all blankZ then match octV 0 (t.takeWhile isOct) with | none => (0, 121) | some n => (n, 0) else (0, 120)
/-- Octal -/
def octN (l : List Int) : Int × Int := octT (l.dropWhile (· == 32))
theorem octV_app : ∀ (a b : List Int) (s : Int), octV s (a ++ b) = match octV s a with | none => none | some n => octV n b
  | [], b, s => rfl
  | d :: a, b, s => by
    rw [List.cons_append, octV, octV]
    by_cases h : (9223372036854775807 - (d - 48)) / 8 < s
    · rw [if_pos h, if_pos h]
    · rw [if_neg h, if_neg h, octV_app a b]
theorem octV_ge : ∀ (a : List Int) (s n : Int), 0 ≤ s → s ≤ 9223372036854775807 → (∀ x ∈ a, isOct x = true) → octV s a = some n → 0 ≤ n ∧ n ≤ 9223372036854775807
  | [], s, n, h0, h1, _, h => by rw [octV, Option.some.injEq] at h; omega
  | d :: a, s, n, h0, h1, hd, h => by
    have hx := hd d List.mem_cons_self
    simp only [isOct, Bool.and_eq_true, decide_eq_true_eq] at hx
    rw [octV] at h
    by_cases hc : (9223372036854775807 - (d - 48)) / 8 < s
    · rw [if_pos hc] at h; cases h
    · rw [if_neg hc] at h
      exact octV_ge a _ n (by omega) (by omega) (fun x hx => hd x (List.mem_cons_of_mem _ hx)) h
end Go.Proofs.YtigignkgblaoaaaDoor.S12
