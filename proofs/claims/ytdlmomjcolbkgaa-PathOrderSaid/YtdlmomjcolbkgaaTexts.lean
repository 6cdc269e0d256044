/-
  The order of texts, byte by byte ('Op.bytesLess'): irreflexive, asymmetric, total, transitive.
-/
import Derived.WalkKit
set_option linter.unusedVariables false
namespace Go.Proofs.Ytdlmomjcolbkgaa.Texts
/-! ### texts -/
theorem bl_irrefl : ∀ a : List UInt8, Op.bytesLess a a = false
  | [] => rfl
  | x :: a => by
    have := bl_irrefl a
    simp [Op.bytesLess, this]
theorem bl_asymm : ∀ a b : List UInt8, Op.bytesLess a b = true → Op.bytesLess b a = false
  | [], [], h => by simp [Op.bytesLess] at h
  | [], _ :: _, _ => rfl
  | _ :: _, [], h => by simp [Op.bytesLess] at h
  | x :: a, y :: b, h => by
    have ih := bl_asymm a b
    simp only [Op.bytesLess] at h ⊢
    simp only [Bool.or_eq_true, Bool.and_eq_true, decide_eq_true_eq, beq_iff_eq, Bool.or_eq_false_iff, Bool.and_eq_false_iff, decide_eq_false_iff_not, beq_eq_false_iff_ne] at h ⊢
    rcases h with h | ⟨h, h2⟩
    · exact ⟨UInt8.not_lt.2 (UInt8.le_of_lt h), .inl (fun e => UInt8.lt_irrefl y (e ▸ h))⟩
    · subst h
      exact ⟨UInt8.lt_irrefl x, .inr (ih h2)⟩
theorem bl_tri : ∀ a b : List UInt8, Op.bytesLess a b = false → Op.bytesLess b a = false → a = b
  | [], [], _, _ => rfl
  | [], _ :: _, h, _ => by simp [Op.bytesLess] at h
  | _ :: _, [], _, h => by simp [Op.bytesLess] at h
  | x :: a, y :: b, h, h' => by
    simp only [Op.bytesLess] at h h'
    simp only [Bool.or_eq_false_iff, Bool.and_eq_false_iff, decide_eq_false_iff_not, beq_eq_false_iff_ne] at h h'
    have e : x = y := by
      rcases UInt8.lt_or_lt_of_ne (a := x) (b := y) with h1
      exact Classical.byContradiction fun hne => (h1 hne).elim h.1 h'.1
    subst e
    rw [bl_tri a b (h.2.resolve_left (fun f => f rfl)) (h'.2.resolve_left (fun f => f rfl))]
theorem bl_trans : ∀ a b c : List UInt8, Op.bytesLess a b = true → Op.bytesLess b c = true → Op.bytesLess a c = true
  | _, [], _, h, _ => by
    rename_i a _
    cases a <;> simp [Op.bytesLess] at h
  | _, _ :: _, [], _, h => by simp [Op.bytesLess] at h
  | [], _ :: _, _ :: _, _, _ => rfl
  | x :: a, y :: b, z :: c, h, h' => by
    have ih := bl_trans a b c
    simp only [Op.bytesLess] at h h' ⊢
    simp only [Bool.or_eq_true, Bool.and_eq_true, decide_eq_true_eq, beq_iff_eq] at h h' ⊢
    rcases h with h | ⟨h, h2⟩ <;> rcases h' with h' | ⟨h', h2'⟩
    · exact .inl (UInt8.lt_trans h h')
    · subst h'; exact .inl h
    · subst h; exact .inl h'
    · subst h; subst h'; exact .inr ⟨rfl, ih h2 h2'⟩

end Go.Proofs.Ytdlmomjcolbkgaa.Texts
