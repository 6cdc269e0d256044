/-
  Takes in any order: sums.
-/
import Derived.Test.YtmgpfdfbcnlocaaDoorMeter
set_option linter.unusedVariables false
set_option linter.unusedSimpArgs false
namespace Go.Proofs.YtmgpfdfbcnlocaaDoor.S18
open Go Go.RowKit Go.Proofs.YtmgpfdfbcnlocaaDoor.Sep Go.Proofs.YtmgpfdfbcnlocaaDoor.Low Go.Proofs.YtmgpfdfbcnlocaaDoor.Lib Go.Proofs.YtmgpfdfbcnlocaaDoor.S09

def sm (f : Nat → Int) : Nat → Int
  | 0 => 0
  | n + 1 => sm f n + f n
theorem sm_congr {f g : Nat → Int} : ∀ {n : Nat}, (∀ j, j < n → f j = g j) → sm f n = sm g n
  | 0, _ => rfl
  | n + 1, h => by
    unfold sm
    rw [sm_congr (n := n) fun j hj => h j (by omega), h n (by omega)]
theorem sm_add (f : Nat → Int) (a : Nat) : ∀ b, sm f (a + b) = sm f a + sm (fun j => f (a + j)) b
  | 0 => by simp [sm]
  | b + 1 => by
    rw [← Nat.add_assoc]
    show sm f (a + b) + f (a + b) = sm f a + (sm (fun j => f (a + j)) b + f (a + b))
    rw [sm_add f a b]
    omega
theorem sm_turn (f : Nat → Int) {n t : Nat} (ht : t < n) : sm (fun j => f ((j + t) % n)) n = sm f n := by
  have e : n = (n - t) + t := by omega
  have h1 := sm_add (fun j => f ((j + t) % n)) (n - t) t
  have h2 := sm_add f t (n - t)
  rw [show n - t + t = n by omega] at h1
  rw [show t + (n - t) = n by omega] at h2
  rw [h1, h2, sm_congr (n := n - t) (g := fun j => f (t + j)) fun j hj => by
    show f ((j + t) % n) = f (t + j)
    rw [Nat.mod_eq_of_lt (by omega), Nat.add_comm], sm_congr (n := t) (g := f) fun j hj => by
    show f ((n - t + j + t) % n) = f j
    rw [show n - t + j + t = j + n by omega, Nat.add_mod_right, Nat.mod_eq_of_lt (by omega)]]
  omega
theorem sm_back (f : Nat → Int) : ∀ n, sm (fun j => f (n - 1 - j)) n = sm f n
  | 0 => rfl
  | n + 1 => by
    have h := sm_add (fun j => f (n + 1 - 1 - j)) 1 n
    rw [Nat.add_comm 1 n] at h
    rw [h, show sm (fun j => f (n + 1 - 1 - j)) 1 = f n by show 0 + f (n + 1 - 1 - 0) = f n; rw [Int.zero_add, Nat.add_sub_cancel, Nat.sub_zero], sm_congr (n := n) (g := fun j => f (n - 1 - j)) fun j hj => by
      show f (n + 1 - 1 - (1 + j)) = f (n - 1 - j)
      rw [show n + 1 - 1 - (1 + j) = n - 1 - j by omega], sm_back f n]
    show f n + sm f n = sm f n + f n
    omega
theorem sm_mono {f : Nat → Int} {n : Nat} (h : ∀ j, j < n → 0 ≤ f j) : ∀ {m : Nat}, m ≤ n → 0 ≤ sm f m ∧ sm f m ≤ sm f n := by
  intro m hm
  have p : ∀ k, k ≤ n → 0 ≤ sm f k := by
    intro k
    induction k with
    | zero => intro _; exact Int.le_refl _
    | succ k ih => intro hk; have := ih (by omega); have := h k (by omega); show 0 ≤ sm f k + f k; omega
  refine ⟨p m hm, ?_⟩
  have e : n = m + (n - m) := by omega
  have q : ∀ d, m + d ≤ n → sm f m ≤ sm f (m + d) := by
    intro d
    induction d with
    | zero => intro _; exact Int.le_refl _
    | succ d ih => intro hk; have := ih (by omega); have := h (m + d) (by omega); show sm f m ≤ sm f (m + d) + f (m + d); omega
  have := q (n - m) (by omega)
  rwa [← e] at this

/-- what alone must hold of an entry -/
structure Ok1 (q : Qt) (x : En) : Prop where
  w : (splitN x.n).2 = 0
  d : ¬ q.d < (splitN x.n).1.length
  n : 0 ≤ needV x
theorem take_yes {q : Qt} {b e : Int} {x : En} (h : Ok1 q x) (he : e < q.e) (hb : b + needV x ≤ q.b) : takeV q b e x = (0, b + needV x, e + 1) := by
  obtain ⟨h1, h2, h3⟩ := h
  unfold takeV
  rw [if_neg (by omega), if_neg (by simp [h1]), if_neg h2, if_neg (by omega), if_neg (by omega)]
theorem take_zero {q : Qt} {b e : Int} {x : En} (h : (takeV q b e x).1 = 0) : Ok1 q x ∧ e < q.e ∧ b + needV x ≤ q.b := by
  unfold takeV at h
  by_cases h1 : q.e ≤ e
  · rw [if_pos h1] at h; cases h
  rw [if_neg h1] at h
  by_cases h2 : (splitN x.n).2 ≠ 0
  · rw [if_pos h2] at h; exact absurd h h2
  rw [if_neg h2] at h
  by_cases h3 : q.d < (splitN x.n).1.length
  · rw [if_pos h3] at h; cases h
  rw [if_neg h3] at h
  by_cases h4 : needV x < 0
  · rw [if_pos h4] at h; cases h
  rw [if_neg h4] at h
  by_cases h5 : q.b - b < needV x
  · rw [if_pos h5] at h; cases h
  exact ⟨⟨by omega, h3, by omega⟩, by omega, by omega⟩
theorem take_no {q : Qt} {b e : Int} {x : En} (h : (takeV q b e x).1 ≠ 0) : (takeV q b e x).2 = (b, e) := by
  unfold takeV at h ⊢
  by_cases h1 : q.e ≤ e
  · rw [if_pos h1]
  rw [if_neg h1] at h ⊢
  by_cases h2 : (splitN x.n).2 ≠ 0
  · rw [if_pos h2]
  rw [if_neg h2] at h ⊢
  by_cases h3 : q.d < (splitN x.n).1.length
  · rw [if_pos h3]
  rw [if_neg h3] at h ⊢
  by_cases h4 : needV x < 0
  · rw [if_pos h4]
  rw [if_neg h4] at h ⊢
  by_cases h5 : q.b - b < needV x
  · rw [if_pos h5]
  rw [if_neg h5] at h ⊢
  exact absurd rfl h
abbrev x0 : En := ⟨[], 0, 0, 0, 0, 0, 0, [], [], [], 0, 0⟩
/-- the entry at a place -/
abbrev at_ (l : List En) (j : Nat) : En := l[j]?.getD x0
theorem at_lt {l : List En} {j : Nat} (h : j < l.length) : at_ l j = l[j] := by simp [at_, h]
def enTy : Ty En := Ty.flat 12 en en_len
abbrev ens (l : List En) : List Value := encs en l
theorem en_at {H : Heap} {A : Option Addr} {l : List En} (h : Row H A (ens l)) {i : Nat} (hi : i < l.length) :
    ∃ b, A = some b ∧ H.loadN (b.add (i * 12)) 0 12 = some (en l[i]) ∧ (∀ j v, (en l[i])[j]? = some v → H.cell? ((b.add (i * 12)).add j) = some v) := elemR en_len (by decide) h hi
end Go.Proofs.YtmgpfdfbcnlocaaDoor.S18
