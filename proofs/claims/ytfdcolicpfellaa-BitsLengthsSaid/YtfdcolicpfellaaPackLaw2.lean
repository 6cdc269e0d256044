/-
  Package-merge, plain: the code that comes of it.
-/
import Derived.Test.YtfdcolicpfellaaPackLaw
set_option linter.unusedVariables false
namespace Go.Proofs.Ytfdcolicpfellaa.PackLaw

theorem sum_sub (n : Nat) (c : Nat) (f : Nat → Nat) (h : ∀ i, i < n → f i ≤ c) : ((List.range n).map fun i => c - f i).sum + ((List.range n).map f).sum = n * c := by
  induction n with
  | zero => simp
  | succ n ih =>
    have := ih fun i hi => h i (by omega)
    have h2 := h n (by omega)
    rw [List.range_succ, List.map_append, List.map_append, List.sum_append, List.sum_append]
    simp only [List.map_cons, List.map_nil, List.sum_cons, List.sum_nil, Nat.add_zero]
    rw [Nat.succ_mul]
    omega
theorem sum_two (n : Nat) (f : Nat → Nat) {i j : Nat} (hi : i < n) (hj : j < n) (hij : i ≠ j) : f i + f j ≤ ((List.range n).map f).sum := by
  have one : ∀ n i, i < n → f i ≤ ((List.range n).map f).sum := by
    intro n
    induction n with
    | zero => intro i h; omega
    | succ n ih =>
      intro i h
      rw [List.range_succ, List.map_append, List.sum_append]
      simp only [List.map_cons, List.map_nil, List.sum_cons, List.sum_nil, Nat.add_zero]
      by_cases e : i = n
      · subst e; omega
      · have := ih i (by omega); omega
  induction n with
  | zero => omega
  | succ n ih =>
    rw [List.range_succ, List.map_append, List.sum_append]
    simp only [List.map_cons, List.map_nil, List.sum_cons, List.sum_nil, Nat.add_zero]
    by_cases ei : i = n
    · subst ei
      have := one i j (by omega); omega
    · by_cases ej : j = n
      · subst ej
        have := one j i (by omega); omega
      · have := ih (by omega) (by omega); omega
/-- the packages taken at the top make a whole code, every length within the bound -/
theorem pm_code {o : Nat → Int} {S : List Tr} {σ : Nat → Nat} {L : Nat} (hσ : ∀ i (h : i < S.length), S[i] = .leaf (σ i)) (hinj : ∀ i j, i < S.length → j < S.length → σ i = σ j → i = j) (hup : Up (wt o) S) (hpos : ∀ t ∈ S, 0 < wt o t) (hn : 2 ≤ S.length) (hL : 1 ≤ L) (hle : S.length ≤ 2 ^ L) :
    2 * S.length - 2 ≤ (lev o S (L - 1)).length ∧ (∀ i, i < S.length → 1 ≤ cntL ((lev o S (L - 1)).take (2 * S.length - 2)) (σ i) ∧ cntL ((lev o S (L - 1)).take (2 * S.length - 2)) (σ i) ≤ L) ∧ ((List.range S.length).map fun i => 2 ^ (L - cntL ((lev o S (L - 1)).take (2 * S.length - 2)) (σ i))).sum = 2 ^ L := by
  have he := lev_enough (o := o) hle (L - 1) (by omega)
  rw [show L - (L - 1) = 1 by omega] at he
  have hm : 2 * S.length - 2 ≤ (lev o S (L - 1)).length := by omega
  obtain ⟨s, T⟩ := taken hσ hinj hup hpos (L - 1) (2 * S.length - 2) hm
  have hw := T.width
  have hb := T.bd
  rw [show L - 1 + 1 = L by omega] at hw hb
  generalize hc : (fun i => cntL ((lev o S (L - 1)).take (2 * S.length - 2)) (σ i)) = c at *
  have hc' : ∀ i, cntL ((lev o S (L - 1)).take (2 * S.length - 2)) (σ i) = c i := fun i => by rw [← hc]
  simp only [hc'] at hw hb ⊢
  have hs := sum_sub S.length (2 ^ L) (fun i => 2 ^ (L - c i)) fun i hi => Nat.pow_le_pow_right (by omega) (by omega)
  have e2 : (2 * S.length - 2) * 2 ^ (L - 1) + 2 ^ L = S.length * 2 ^ L := by
    have : 2 ^ L = 2 * 2 ^ (L - 1) := by rw [← Nat.pow_succ', show (L - 1).succ = L by omega]
    rw [this]
    obtain ⟨k, hk⟩ : ∃ k, S.length = k + 2 := ⟨S.length - 2, by omega⟩
    rw [hk, show 2 * (k + 2) - 2 = 2 * k + 2 by omega]
    generalize 2 ^ (L - 1) = p
    rw [← Nat.mul_assoc, Nat.mul_comm (k + 2) 2, Nat.mul_add, ← Nat.add_mul]
  have hsum : ((List.range S.length).map fun i => 2 ^ (L - c i)).sum = 2 ^ L := by omega
  refine ⟨hm, fun i hi => ⟨?_, hb i hi⟩, hsum⟩
  rcases Nat.eq_zero_or_pos (c i) with h0 | h0
  · exfalso
    obtain ⟨j, hj, hij⟩ : ∃ j, j < S.length ∧ i ≠ j := by
      by_cases e : i = 0
      · exact ⟨1, by omega, by omega⟩
      · exact ⟨0, by omega, e⟩
    have := sum_two S.length (fun i => 2 ^ (L - c i)) hi hj hij
    simp only [h0, Nat.sub_zero] at this
    have := Nat.two_pow_pos (L - c j)
    omega
  · exact h0

/-- all leaves of a tree have p -/
def leaves (p : Nat → Prop) : Tr → Prop
  | .leaf s => p s
  | .node a b => leaves p a ∧ leaves p b
theorem cnt_leaf {p : Nat → Prop} : ∀ {t : Tr} {x : Nat}, leaves p t → 0 < cnt t x → p x
  | .leaf s, x, h, hc => by
    rw [cnt] at hc
    by_cases e : s = x
    · subst e; exact h
    · rw [if_neg e] at hc; omega
  | .node a b, x, h, hc => by
    rw [cnt] at hc
    by_cases e : 0 < cnt a x
    · exact cnt_leaf h.1 e
    · exact cnt_leaf h.2 (by omega)
theorem cntL_leaf {p : Nat → Prop} {x : Nat} : ∀ {ts : List Tr}, (∀ t ∈ ts, leaves p t) → 0 < cntL ts x → p x
  | [], _, hc => by simp [cntL] at hc
  | t :: ts, h, hc => by
    by_cases e : 0 < cnt t x
    · exact cnt_leaf (h t List.mem_cons_self) e
    · refine cntL_leaf (ts := ts) (fun u hu => h u (List.mem_cons_of_mem _ hu)) ?_
      unfold cntL at hc ⊢
      rw [List.map_cons, List.sum_cons] at hc
      omega
theorem isum_add (n : Nat) (f g : Nat → Int) : ((List.range n).map fun i => f i + g i).sum = ((List.range n).map f).sum + ((List.range n).map g).sum := by
  induction n with
  | zero => rfl
  | succ n ih => rw [List.range_succ, List.map_append, List.map_append, List.map_append, List.sum_append, List.sum_append, List.sum_append, ih]; simp; omega
theorem isum_one (o : Nat → Int) (s : Nat) : ∀ n, s < n → ((List.range n).map fun x => ((if s = x then 1 else 0 : Nat) : Int) * o x).sum = o s
  | 0, h => by omega
  | n + 1, h => by
    rw [List.range_succ, List.map_append, List.sum_append]
    by_cases e : s = n
    · subst e
      have z : ∀ m, m ≤ s → ((List.range m).map fun x => ((if s = x then 1 else 0 : Nat) : Int) * o x).sum = 0 := by
        intro m
        induction m with
        | zero => intro _; rfl
        | succ m ih =>
          intro hm
          rw [List.range_succ, List.map_append, List.sum_append, ih (by omega)]
          simp [show s ≠ m by omega]
      rw [z s (Nat.le_refl _)]
      simp
    · rw [isum_one o s n (by omega)]
      simp [e]
/-- a tree's weight, symbol by symbol -/
theorem wt_sum {o : Nat → Int} {M : Nat} : ∀ t : Tr, leaves (· < M) t → ((List.range M).map fun x => (cnt t x : Int) * o x).sum = wt o t
  | .leaf s, h => isum_one o s M h
  | .node a b, h => by
    have e : ((List.range M).map fun x => (cnt (.node a b) x : Int) * o x) = (List.range M).map fun x => (cnt a x : Int) * o x + (cnt b x : Int) * o x := by
      apply List.map_congr_left
      intro x _
      rw [cnt, Int.natCast_add, Int.add_mul]
    rw [e, isum_add, wt_sum a h.1, wt_sum b h.2, wt]
theorem wt_sumL {o : Nat → Int} {M : Nat} : ∀ ts : List Tr, (∀ t ∈ ts, leaves (· < M) t) → ((List.range M).map fun x => (cntL ts x : Int) * o x).sum = (ts.map (wt o)).sum
  | [], _ => by
    have : ∀ n, ((List.range n).map fun x => (cntL [] x : Int) * o x).sum = 0 := by
      intro n
      induction n with
      | zero => rfl
      | succ n ih => rw [List.range_succ, List.map_append, List.sum_append, ih]; simp [cntL]
    rw [this]; rfl
  | t :: ts, h => by
    have e : ((List.range M).map fun x => (cntL (t :: ts) x : Int) * o x) = (List.range M).map fun x => (cnt t x : Int) * o x + (cntL ts x : Int) * o x := by
      apply List.map_congr_left
      intro x _
      rw [← Int.add_mul, ← Int.natCast_add]
      rfl
    rw [e, isum_add, wt_sum t (h t List.mem_cons_self), wt_sumL ts fun u hu => h u (List.mem_cons_of_mem _ hu)]
    rfl
/-- two sorted lists of the same numbers are one -/
theorem sorted_one : ∀ {a b : List Int}, a.Perm b → a.Pairwise (· ≤ ·) → b.Pairwise (· ≤ ·) → a = b
  | [], b, h, _, _ => (List.Perm.nil_eq h)
  | x :: a, [], h, _, _ => by have := h.length_eq; simp at this
  | x :: a, y :: b, h, ha, hb => by
    have ha' := List.pairwise_cons.1 ha
    have hb' := List.pairwise_cons.1 hb
    have hxy : x = y := by
      have h1 : x ≤ y := by
        rcases List.mem_cons.1 (h.mem_iff.2 List.mem_cons_self) with e | e
        · omega
        · exact ha'.1 y e
      have h2 : y ≤ x := by
        rcases List.mem_cons.1 (h.mem_iff.1 (List.mem_cons_self (a := x) (l := a))) with e | e
        · omega
        · exact hb'.1 x e
      omega
    subst hxy
    rw [sorted_one (List.Perm.cons_inv h) ha'.2 hb'.2]
/-- the weights of pairs -/
def psum : List Int → List Int
  | a :: b :: r => (a + b) :: psum r
  | _ => []
theorem psum_pairs {o : Nat → Int} : ∀ l : List Tr, (pairs l).map (wt o) = psum (l.map (wt o))
  | [] => rfl
  | [_] => rfl
  | a :: b :: r => by
    have := psum_pairs (o := o) r
    rw [pairs, List.map_cons, this]
    rfl
end Go.Proofs.Ytfdcolicpfellaa.PackLaw
