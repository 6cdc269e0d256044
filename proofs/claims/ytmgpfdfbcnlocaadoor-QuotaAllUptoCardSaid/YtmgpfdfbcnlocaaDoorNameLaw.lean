/-
  Names and their components, plain.
-/
import Derived.Test.YtmgpfdfbcnlocaaDoorStr
import Derived.Lib.Join
set_option linter.unusedVariables false
set_option linter.unusedSimpArgs false
namespace Go.Proofs.YtmgpfdfbcnlocaaDoor.Lib
open Go

/-- components, a slash between two -/
def jn : List (List UInt8) → List UInt8
  | [] => []
  | x :: r => x ++ (r.map (47 :: ·)).flatten
theorem jn_join (ls : List (List UInt8)) : Go.Lib.join ls [47] = jn ls := by
  cases ls with
  | nil => rfl
  | cons x r => rw [Go.Lib.join_cons]; rfl
theorem jn_cons2 (p q : List UInt8) (r : List (List UInt8)) : jn (p :: q :: r) = p ++ 47 :: jn (q :: r) := by simp [jn]
theorem jn_snoc {ls : List (List UInt8)} (h : ls ≠ []) (p : List UInt8) : jn (ls ++ [p]) = jn ls ++ 47 :: p := by
  cases ls with
  | nil => exact absurd rfl h
  | cons x r => simp [jn]
theorem jn_split (l : List UInt8) : jn (splitL l) = l := by
  induction l with
  | nil => rfl
  | cons b l ih =>
    rw [splitL]
    by_cases h : b = 47
    · rw [if_pos h]
      cases hs : splitL l with
      | nil => exact absurd hs (splitL_ne l)
      | cons p ps => rw [jn_cons2, ← hs, ih, h]; rfl
    · rw [if_neg h]
      cases hs : splitL l with
      | nil => exact absurd hs (splitL_ne l)
      | cons p ps =>
        rw [hs] at ih
        simp only [jn, List.cons_append] at ih ⊢
        rw [ih]
theorem split_jn : ∀ {ls : List (List UInt8)}, ls ≠ [] → (∀ p ∈ ls, 47 ∉ p) → splitL (jn ls) = ls
  | [], h, _ => absurd rfl h
  | [p], _, h => by
    rw [show jn [p] = p by simp [jn]]
    exact splitL_none (h p List.mem_cons_self)
  | p :: q :: r, _, h => by
    rw [jn_cons2, splitL_cons (h p List.mem_cons_self), split_jn (by simp) fun x hx => h x (List.mem_cons_of_mem _ hx)]
theorem split_mem (l : List UInt8) : ∀ p ∈ splitL l, 47 ∉ p ∧ ∀ x ∈ p, x ∈ l := by
  induction l with
  | nil => intro p hp; simp [splitL] at hp; subst hp; simp
  | cons b l ih =>
    intro p hp
    rw [splitL] at hp
    by_cases h : b = 47
    · rw [if_pos h] at hp
      rcases List.mem_cons.1 hp with rfl | hp
      · simp
      · exact ⟨(ih p hp).1, fun x hx => List.mem_cons_of_mem _ ((ih p hp).2 x hx)⟩
    · rw [if_neg h] at hp
      cases hs : splitL l with
      | nil => exact absurd hs (splitL_ne l)
      | cons q qs =>
        rw [hs] at hp
        rcases List.mem_cons.1 hp with rfl | hp
        · have := ih q (by rw [hs]; exact List.mem_cons_self)
          refine ⟨by rw [List.mem_cons, not_or]; exact ⟨fun e => h e.symm, this.1⟩, fun x hx => ?_⟩
          rcases List.mem_cons.1 hx with rfl | hx
          · exact List.mem_cons_self
          · exact List.mem_cons_of_mem _ (this.2 x hx)
        · have := ih p (by rw [hs]; exact List.mem_cons_of_mem _ hp)
          exact ⟨this.1, fun x hx => List.mem_cons_of_mem _ (this.2 x hx)⟩
theorem jn_mem {ls : List (List UInt8)} {x : UInt8} (h : x ∈ jn ls) : x = 47 ∨ ∃ p ∈ ls, x ∈ p := by
  cases ls with
  | nil => simp [jn] at h
  | cons p r =>
    simp only [jn, List.mem_append, List.mem_flatten, List.mem_map] at h
    rcases h with h | ⟨_, ⟨q, hq, rfl⟩, hx⟩
    · exact .inr ⟨p, List.mem_cons_self, h⟩
    · rcases List.mem_cons.1 hx with h | h
      · exact .inl h
      · exact .inr ⟨q, List.mem_cons_of_mem _ hq, h⟩
def tot (ls : List (List UInt8)) : Nat := (ls.map fun p => p.length + 1).sum
theorem jn_len : ∀ {ls : List (List UInt8)}, ls ≠ [] → (jn ls).length + 1 = tot ls
  | [], h => absurd rfl h
  | [p], _ => by simp [jn, tot]
  | p :: q :: r, _ => by
    have := jn_len (ls := q :: r) (by simp)
    rw [jn_cons2, List.length_append, List.length_cons]
    simp only [tot, List.map_cons, List.sum_cons] at this ⊢
    omega
theorem tot_sub {a b : List (List UInt8)} (h : a.Sublist b) : tot a ≤ tot b := by
  induction h with
  | slnil => exact Nat.le_refl _
  | cons x _ ih => simp only [tot, List.map_cons, List.sum_cons] at ih ⊢; omega
  | cons_cons x _ ih => simp only [tot, List.map_cons, List.sum_cons] at ih ⊢; omega

abbrev goodC (p : List UInt8) : Bool := decide (p ≠ [] ∧ p ≠ [46] ∧ p ≠ [46, 46])
def comps (l : List UInt8) : List (List UInt8) := (splitL l).filter goodC
def dots (l : List UInt8) : Bool := (splitL l).any fun p => decide (p = [46, 46])
/-- Split -/
def splitN (l : List UInt8) : List (List UInt8) × Int :=
  if 4096 < l.length then ([], 2) else if 0 ∈ l then ([], 93) else if [47].isPrefixOf l then ([], 91) else if dots l then ([], 92) else if (comps l).length = 0 then ([], 90)
  else if (comps l).any (fun p => decide (255 < p.length)) then ([], 94) else if 256 < (comps l).length then ([], 95) else (comps l, 0)
def wrongN (p : List UInt8) : Int := if p = [] ∨ p = [46] then 90 else if p = [46, 46] then 92 else if 0 ∈ p then 93 else if 47 ∈ p then 91 else if 255 < p.length then 94 else 0
/-- the first that is wrong -/
def wrongs : List (List UInt8) → Int
  | [] => 0
  | p :: r => if wrongN p = 0 then wrongs r else wrongN p
/-- Join -/
def joinN (ls : List (List UInt8)) : List UInt8 × Int :=
  if ls.length = 0 then ([], 90) else if wrongs ls ≠ 0 then ([], wrongs ls) else if 256 < ls.length then ([], 95) else if 4096 < (jn ls).length then ([], 2) else (jn ls, 0)
def cleanN (l : List UInt8) : List UInt8 × Int := if (splitN l).2 ≠ 0 then ([], (splitN l).2) else (jn (splitN l).1, 0)
/-- what is taken -/
structure Taken (l : List UInt8) (ls : List (List UInt8)) : Prop where
  eq : ls = comps l
  ne : ls ≠ []
  long : l.length ≤ 4096
  zero : 0 ∉ l
  abs : [47].isPrefixOf l = false
  nd : dots l = false
  name : ∀ p ∈ ls, p.length ≤ 255
  deep : ls.length ≤ 256
theorem split_err (l : List UInt8) : (splitN l).2 ≠ 0 → (splitN l).1 = [] := by
  unfold splitN
  repeat' split
  all_goals first | (intro _; rfl) | (intro h; exact absurd rfl h)
theorem split_ok {l : List UInt8} (h : (splitN l).2 = 0) : Taken l (splitN l).1 := by
  unfold splitN at h ⊢
  by_cases h1 : 4096 < l.length
  · rw [if_pos h1] at h; cases h
  rw [if_neg h1] at h ⊢
  by_cases h2 : 0 ∈ l
  · rw [if_pos h2] at h; cases h
  rw [if_neg h2] at h ⊢
  by_cases h3 : [47].isPrefixOf l = true
  · rw [if_pos h3] at h; cases h
  rw [if_neg h3] at h ⊢
  by_cases h4 : dots l = true
  · rw [if_pos h4] at h; cases h
  rw [if_neg h4] at h ⊢
  by_cases h5 : (comps l).length = 0
  · rw [if_pos h5] at h; cases h
  rw [if_neg h5] at h ⊢
  by_cases h6 : ((comps l).any fun p => decide (255 < p.length)) = true
  · rw [if_pos h6] at h; cases h
  rw [if_neg h6] at h ⊢
  by_cases h7 : 256 < (comps l).length
  · rw [if_pos h7] at h; cases h
  rw [if_neg h7] at h ⊢
  refine ⟨rfl, fun e => h5 (by simp only at e; rw [e]; rfl), by omega, h2, Bool.eq_false_iff.2 h3, Bool.eq_false_iff.2 h4, fun p hp => ?_, by simp only; omega⟩
  apply Nat.le_of_not_lt
  intro hlt
  exact h6 (List.any_eq_true.2 ⟨p, hp, by simpa using hlt⟩)
theorem Taken.mem {l : List UInt8} {ls : List (List UInt8)} (h : Taken l ls) : ∀ p ∈ ls, (p ≠ [] ∧ p ≠ [46] ∧ p ≠ [46, 46]) ∧ 47 ∉ p ∧ 0 ∉ p ∧ p.length ≤ 255 := by
  intro p hp
  have hp' := hp
  rw [h.eq, comps, List.mem_filter, decide_eq_true_eq] at hp'
  have hm := split_mem l p hp'.1
  exact ⟨hp'.2, hm.1, fun h0 => h.zero (hm.2 _ h0), h.name p hp⟩
theorem wrong_no {p : List UInt8} (h : (p ≠ [] ∧ p ≠ [46] ∧ p ≠ [46, 46]) ∧ 47 ∉ p ∧ 0 ∉ p ∧ p.length ≤ 255) : wrongN p = 0 := by
  obtain ⟨⟨h1, h2, h3⟩, h4, h5, h6⟩ := h
  unfold wrongN
  rw [if_neg (by rintro (h | h); exact h1 h; exact h2 h), if_neg h3, if_neg h5, if_neg h4, if_neg (by omega)]
theorem wrongs_no {ls : List (List UInt8)} (h : ∀ p ∈ ls, wrongN p = 0) : wrongs ls = 0 := by
  induction ls with
  | nil => rfl
  | cons p r ih =>
    rw [wrongs, if_pos (h p List.mem_cons_self)]
    exact ih fun q hq => h q (List.mem_cons_of_mem _ hq)
theorem Taken.jlen {l : List UInt8} {ls : List (List UInt8)} (h : Taken l ls) : (jn ls).length ≤ l.length := by
  have h1 := jn_len h.ne
  have h2 := jn_len (splitL_ne l)
  rw [jn_split] at h2
  have h3 := tot_sub (a := ls) (b := splitL l) (by rw [h.eq]; exact List.filter_sublist)
  omega
/-- what is taken is joined -/
theorem Taken.join {l : List UInt8} {ls : List (List UInt8)} (h : Taken l ls) : joinN ls = (jn ls, 0) := by
  have hw := wrongs_no fun p hp => wrong_no (h.mem p hp)
  have h1 := h.jlen
  have h2 := h.long
  have h3 := h.deep
  unfold joinN
  rw [if_neg (fun e => h.ne (List.length_eq_zero_iff.1 e)), if_neg (fun e => e hw), if_neg (by omega), if_neg (by omega)]
/-- and split again -/
theorem Taken.again {l : List UInt8} {ls : List (List UInt8)} (h : Taken l ls) : splitN (jn ls) = (ls, 0) := by
  have hs := split_jn h.ne fun p hp => (h.mem p hp).2.1
  have h1 := h.jlen
  have h2 := h.long
  have hz : 0 ∉ jn ls := by
    intro h0
    rcases jn_mem h0 with e | ⟨p, hp, hx⟩
    · exact absurd e (by decide)
    · exact (h.mem p hp).2.2.1 hx
  have ha : ¬ [47].isPrefixOf (jn ls) = true := by
    cases hl : ls with
    | nil => exact absurd hl h.ne
    | cons p r =>
      have hp := h.mem p (by rw [hl]; exact List.mem_cons_self)
      cases hpp : p with
      | nil => exact absurd hpp hp.1.1
      | cons b q =>
        have : b ≠ 47 := fun e => hp.2.1 (by rw [hpp, e]; exact List.mem_cons_self)
        simp [jn, List.isPrefixOf]
        exact fun e => this e.symm
  have hd : ¬ dots (jn ls) = true := by
    unfold dots
    rw [hs, List.any_eq_true]
    rintro ⟨p, hp, e⟩
    exact (h.mem p hp).1.2.2 (by simpa using e)
  have hc : comps (jn ls) = ls := by
    unfold comps
    rw [hs]
    exact List.filter_eq_self.2 fun p hp => by simpa using (h.mem p hp).1
  unfold splitN
  rw [if_neg (by omega), if_neg hz, if_neg ha, if_neg hd, hc, if_neg (fun e => h.ne (List.length_eq_zero_iff.1 e)), if_neg ?_, if_neg (by have := h.deep; omega)]
  rw [List.any_eq_true]
  rintro ⟨p, hp, e⟩
  have := h.name p hp
  simp at e
  omega
end Go.Proofs.YtmgpfdfbcnlocaaDoor.Lib
