/-
  What is taken leads out from nowhere.
-/
import Derived.Test.YtdlmomjcolbkgaaDoorLeaves
import Derived.Test.YtdlmomjcolbkgaaDoorNameLaw
set_option linter.unusedVariables false
set_option linter.unusedSimpArgs false
namespace Go.Proofs.YtdlmomjcolbkgaaDoor.S09
open Go Go.RowKit Go.Proofs.YtdlmomjcolbkgaaDoor.Sep Go.Proofs.YtdlmomjcolbkgaaDoor.Low Go.Proofs.YtdlmomjcolbkgaaDoor.Lib

theorem out_good : ∀ {ps : List (List UInt8)} (d : Nat), (∀ p ∈ ps, p ≠ [] ∧ p ≠ [46] ∧ p ≠ [46, 46]) → goOut d ps = false
  | [], _, _ => rfl
  | p :: ps, d, h => by
    obtain ⟨h1, h2, h3⟩ := h p List.mem_cons_self
    rw [goOut, if_neg (by rintro (h | h); exact h1 h; exact h2 h), if_neg h3]
    exact out_good (d + 1) fun q hq => h q (List.mem_cons_of_mem _ hq)
theorem jn_abs {ls : List (List UInt8)} (h : ∀ p ∈ ls, p ≠ [] ∧ 47 ∉ p) : ¬ [47].isPrefixOf (jn ls) = true := by
  cases hl : ls with
  | nil => simp [jn]
  | cons p r =>
    have hp := h p (by rw [hl]; exact List.mem_cons_self)
    cases hpp : p with
    | nil => exact absurd hpp hp.1
    | cons b q =>
      have : b ≠ 47 := fun e => hp.2 (by rw [hpp, e]; exact List.mem_cons_self)
      simp [jn, List.isPrefixOf]
      exact fun e => this e.symm
/-- what is taken leads out from nowhere -/
theorem safe_out {ls : List (List UInt8)} (d : Nat) (hne : ls ≠ []) (h : ∀ p ∈ ls, (p ≠ [] ∧ p ≠ [46] ∧ p ≠ [46, 46]) ∧ 47 ∉ p) : leavesL d (jn ls) = false := by
  unfold leavesL
  rw [if_neg (jn_abs fun p hp => ⟨(h p hp).1.1, (h p hp).2⟩), split_jn hne fun p hp => (h p hp).2]
  exact out_good d fun p hp => (h p hp).1

theorem wrong_zero {p : List UInt8} (h : wrongN p = 0) : (p ≠ [] ∧ p ≠ [46] ∧ p ≠ [46, 46]) ∧ 47 ∉ p := by
  unfold wrongN at h
  split at h
  · cases h
  · rename_i h1
    split at h
    · cases h
    · rename_i h2
      split at h
      · cases h
      · split at h
        · cases h
        · rename_i h4
          exact ⟨⟨fun e => h1 (.inl e), fun e => h1 (.inr e), h2⟩, h4⟩
theorem wrongs_zero : ∀ {ls : List (List UInt8)}, wrongs ls = 0 → ∀ p ∈ ls, wrongN p = 0
  | [], _, p, hp => by cases hp
  | q :: r, h, p, hp => by
    rw [wrongs] at h
    by_cases hq : wrongN q = 0
    · rw [if_pos hq] at h
      rcases List.mem_cons.1 hp with rfl | hp
      · exact hq
      · exact wrongs_zero h p hp
    · rw [if_neg hq] at h
      exact absurd h hq
theorem join_zero {ls : List (List UInt8)} (h : (joinN ls).2 = 0) : ls ≠ [] ∧ (∀ p ∈ ls, (p ≠ [] ∧ p ≠ [46] ∧ p ≠ [46, 46]) ∧ 47 ∉ p) ∧ joinN ls = (jn ls, 0) := by
  unfold joinN at h ⊢
  by_cases h1 : ls.length = 0
  · rw [if_pos h1] at h; cases h
  rw [if_neg h1] at h ⊢
  by_cases h2 : wrongs ls ≠ 0
  · rw [if_pos h2] at h; exact absurd h h2
  rw [if_neg h2] at h ⊢
  by_cases h3 : 256 < ls.length
  · rw [if_pos h3] at h; cases h
  rw [if_neg h3] at h ⊢
  by_cases h4 : 4096 < (jn ls).length
  · rw [if_pos h4] at h; cases h
  rw [if_neg h4] at h ⊢
  refine ⟨fun e => h1 (by rw [e]; rfl), fun p hp => ?_, rfl⟩
  have : wrongs ls = 0 := Decidable.of_not_not h2
  exact wrong_zero (wrongs_zero this p hp)
end Go.Proofs.YtdlmomjcolbkgaaDoor.S09
