/-
  Package-merge, plain.
-/
set_option linter.unusedVariables false
namespace Go.Proofs.Ytfdcolicpfellaa.PackLaw

/-- two sorted lists are merged; of equals the first list's stands first -/
def merge {α : Type} (w : α → Int) : List α → List α → List α
  | [], Q => Q
  | a :: S, [] => a :: S
  | a :: S, b :: Q => if w a ≤ w b then a :: merge w S (b :: Q) else b :: merge w (a :: S) Q
termination_by S Q => S.length + Q.length
abbrev Up {α : Type} (w : α → Int) (S : List α) : Prop := S.Pairwise fun x y => w x ≤ w y
section
variable {α : Type} {w : α → Int}
theorem merge_perm : ∀ (S Q : List α), (merge w S Q).Perm (S ++ Q)
  | [], Q => by rw [merge]; exact .refl _
  | a :: S, [] => by rw [merge, List.append_nil]
  | a :: S, b :: Q => by
    rw [merge]
    split
    · exact (merge_perm S (b :: Q)).cons a
    · refine ((merge_perm (a :: S) Q).cons b).trans ?_
      exact (List.perm_middle (l₁ := a :: S) (l₂ := Q) (a := b)).symm
termination_by S Q => S.length + Q.length
theorem merge_up : ∀ (S Q : List α), Up w S → Up w Q → Up w (merge w S Q)
  | [], Q, _, h => by rw [merge]; exact h
  | a :: S, [], h, _ => by rw [merge]; exact h
  | a :: S, b :: Q, hS, hQ => by
    rw [merge]
    have hS' := List.pairwise_cons.1 hS
    have hQ' := List.pairwise_cons.1 hQ
    split
    · rename_i h
      refine List.pairwise_cons.2 ⟨fun z hz => ?_, merge_up S (b :: Q) hS'.2 hQ⟩
      rcases List.mem_append.1 ((merge_perm S (b :: Q)).mem_iff.1 hz) with hz | hz
      · exact hS'.1 z hz
      · rcases List.mem_cons.1 hz with rfl | hz
        · exact h
        · have := hQ'.1 z hz; omega
    · rename_i h
      refine List.pairwise_cons.2 ⟨fun z hz => ?_, merge_up (a :: S) Q hS hQ'.2⟩
      rcases List.mem_append.1 ((merge_perm (a :: S) Q).mem_iff.1 hz) with hz | hz
      · rcases List.mem_cons.1 hz with rfl | hz
        · omega
        · have := hS'.1 z hz; omega
      · exact hQ'.1 z hz
termination_by S Q => S.length + Q.length
/-- the first m of a merged list -/
theorem merge_take : ∀ (S Q : List α), Up w S → ∀ m, m ≤ S.length + Q.length → ∃ s p, s + p = m ∧ s ≤ S.length ∧ p ≤ Q.length ∧ ((merge w S Q).take m).Perm (S.take s ++ Q.take p) ∧ ∀ (hp : 0 < p) (hs : s < S.length) (hq : p - 1 < Q.length), w Q[p - 1] < w S[s]
  | S, Q, _, 0, _ => ⟨0, 0, rfl, Nat.zero_le _, Nat.zero_le _, by simp, fun hp => by omega⟩
  | [], Q, _, m + 1, hm => ⟨0, m + 1, by omega, Nat.le_refl _, by simpa using hm, by rw [merge]; simp, fun _ hs => by simp at hs⟩
  | a :: S, [], _, m + 1, hm => ⟨m + 1, 0, rfl, by simpa using hm, Nat.le_refl _, by rw [merge]; simp, fun hp => by omega⟩
  | a :: S, b :: Q, hS, m + 1, hm => by
    have hS' := List.pairwise_cons.1 hS
    rw [merge]
    simp only [List.length_cons] at hm
    split
    · rename_i h
      obtain ⟨s, p, h1, h2, h3, h4, h5⟩ := merge_take S (b :: Q) hS'.2 m (by simp only [List.length_cons]; omega)
      refine ⟨s + 1, p, by omega, by simp only [List.length_cons]; omega, h3, ?_, fun hp hs hq => ?_⟩
      · rw [List.take_succ_cons, List.take_succ_cons, List.cons_append]; exact h4.cons a
      · rw [List.getElem_cons_succ]
        exact h5 hp (by simpa using hs) hq
    · rename_i h
      obtain ⟨s, p, h1, h2, h3, h4, h5⟩ := merge_take (a :: S) Q hS m (by simp only [List.length_cons]; omega)
      refine ⟨s, p + 1, by omega, h2, by simp only [List.length_cons]; omega, ?_, fun hp hs hq => ?_⟩
      · rw [List.take_succ_cons, List.take_succ_cons]
        refine (h4.cons b).trans ?_
        exact (List.perm_middle (l₁ := (a :: S).take s) (l₂ := Q.take p) (a := b)).symm
      · by_cases hp0 : p = 0
        · subst hp0
          have : w a ≤ w ((a :: S)[s]) := by
            cases s with
            | zero => exact Int.le_refl _
            | succ s => exact hS'.1 _ (List.getElem_mem _)
          simp only [Nat.zero_add, Nat.sub_self, List.getElem_cons_zero]
          omega
        · have h6 := h5 (by omega) hs (by omega)
          have e : (b :: Q)[p + 1 - 1] = Q[p - 1]'(by omega) := by
            have : p + 1 - 1 = p - 1 + 1 := by omega
            simp only [this, List.getElem_cons_succ]
          rw [e]
          exact h6
termination_by S Q => S.length + Q.length
end

inductive Tr where
  | leaf (s : Nat)
  | node (a b : Tr)
def wt (o : Nat → Int) : Tr → Int
  | .leaf s => o s
  | .node a b => wt o a + wt o b
def cnt : Tr → Nat → Nat
  | .leaf s, x => if s = x then 1 else 0
  | .node a b, x => cnt a x + cnt b x
def cntL (ts : List Tr) (x : Nat) : Nat := (ts.map (cnt · x)).sum
theorem cntL_append (a b : List Tr) (x : Nat) : cntL (a ++ b) x = cntL a x + cntL b x := by simp [cntL]
theorem cntL_perm {a b : List Tr} (h : a.Perm b) (x : Nat) : cntL a x = cntL b x := by
  unfold cntL
  exact (h.map _).sum_nat
def pairs : List Tr → List Tr
  | a :: b :: r => .node a b :: pairs r
  | _ => []
theorem pairs_len : ∀ l : List Tr, (pairs l).length = l.length / 2
  | [] => rfl
  | [_] => by simp [pairs]
  | a :: b :: r => by rw [pairs, List.length_cons, pairs_len r, List.length_cons, List.length_cons]; omega
theorem pairs_get : ∀ (l : List Tr) (i : Nat) (h : i < (pairs l).length), (pairs l)[i] = .node (l[2 * i]'(by rw [pairs_len] at h; omega)) (l[2 * i + 1]'(by rw [pairs_len] at h; omega))
  | [], i, h => by simp [pairs] at h
  | [_], i, h => by simp [pairs] at h
  | a :: b :: r, 0, h => rfl
  | a :: b :: r, i + 1, h => by
    have h' : i < (pairs r).length := by simpa [pairs] using h
    have ih := pairs_get r i h'
    have e : (pairs (a :: b :: r))[i + 1] = (pairs r)[i] := rfl
    rw [e, ih]
    rfl
theorem pairs_take : ∀ (l : List Tr) (p : Nat), (pairs l).take p = pairs (l.take (2 * p))
  | [], p => by simp [pairs]
  | [a], 0 => by simp [pairs]
  | [a], p + 1 => by rw [show 2 * (p + 1) = 2 * p + 1 + 1 by omega]; simp [pairs]
  | a :: b :: r, 0 => by simp [pairs]
  | a :: b :: r, p + 1 => by
    rw [pairs, List.take_succ_cons, pairs_take r p, show 2 * (p + 1) = 2 * p + 1 + 1 by omega, List.take_succ_cons, List.take_succ_cons, pairs]
theorem cntL_pairs : ∀ (l : List Tr) (x : Nat), l.length % 2 = 0 → cntL (pairs l) x = cntL l x
  | [], x, _ => rfl
  | [_], x, h => by simp at h
  | a :: b :: r, x, h => by
    have ih := cntL_pairs r x (by simp at h; omega)
    unfold cntL at ih ⊢
    rw [pairs, List.map_cons, List.sum_cons, ih, List.map_cons, List.map_cons, List.sum_cons, List.sum_cons, cnt]
    omega
theorem pairs_up {o : Nat → Int} (l : List Tr) (h : Up (wt o) l) : Up (wt o) (pairs l) := by
  refine List.pairwise_iff_getElem.2 fun i j hi hj hij => ?_
  rw [pairs_get l i hi, pairs_get l j hj, wt, wt]
  have hj' := hj
  rw [pairs_len] at hj'
  have h1 := List.pairwise_iff_getElem.1 h (2 * i) (2 * j) (by omega) (by omega) (by omega)
  have h2 := List.pairwise_iff_getElem.1 h (2 * i + 1) (2 * j + 1) (by omega) (by omega) (by omega)
  omega
/-- the lists of packages -/
def lev (o : Nat → Int) (S : List Tr) : Nat → List Tr
  | 0 => S
  | j + 1 => merge (wt o) S (pairs (lev o S j))
theorem lev_up {o : Nat → Int} {S : List Tr} (h : Up (wt o) S) : ∀ j, Up (wt o) (lev o S j)
  | 0 => h
  | j + 1 => merge_up _ _ h (pairs_up _ (lev_up h j))
theorem lev_len {o : Nat → Int} {S : List Tr} (j : Nat) : (lev o S (j + 1)).length = S.length + (lev o S j).length / 2 := by
  rw [lev, (merge_perm _ _).length_eq, List.length_append, pairs_len]
theorem lev_mem {o : Nat → Int} {S : List Tr} (p : Tr → Prop) (hS : ∀ t ∈ S, p t) (hn : ∀ a b, p a → p b → p (.node a b)) : ∀ j, ∀ t ∈ lev o S j, p t
  | 0, t, h => hS t h
  | j + 1, t, h => by
    rw [lev] at h
    rcases List.mem_append.1 ((merge_perm _ _).mem_iff.1 h) with h | h
    · exact hS t h
    · obtain ⟨i, hi, e⟩ := List.getElem_of_mem h
      rw [pairs_get] at e
      rw [← e]
      exact hn _ _ (lev_mem p hS hn j _ (List.getElem_mem _)) (lev_mem p hS hn j _ (List.getElem_mem _))
/-- enough packages for a code -/
theorem lev_enough {o : Nat → Int} {S : List Tr} {L : Nat} (hn : S.length ≤ 2 ^ L) : ∀ j, j < L → 2 * S.length ≤ (lev o S j).length + 2 ^ (L - j)
  | 0, h => by rw [lev, Nat.sub_zero]; omega
  | j + 1, h => by
    have ih := lev_enough (o := o) hn j (by omega)
    rw [lev_len]
    have e : 2 ^ (L - j) = 2 * 2 ^ (L - (j + 1)) := by rw [show L - j = L - (j + 1) + 1 by omega, Nat.pow_succ, Nat.mul_comm]
    omega

/-- what the packages taken at a level hold; c i: how often the i-th single is in them -/
structure Taken (o : Nat → Int) (S : List Tr) (σ : Nat → Nat) (j m : Nat) (s : Nat) : Prop where
  le : s ≤ S.length
  sup : ∀ i, i < S.length → 0 < cntL ((lev o S j).take m) (σ i) → i < s
  bd : ∀ i, i < S.length → cntL ((lev o S j).take m) (σ i) ≤ j + 1
  width : ((List.range S.length).map fun i => 2 ^ (j + 1) - 2 ^ (j + 1 - cntL ((lev o S j).take m) (σ i))).sum = m * 2 ^ j
  last : ∀ (h : 0 < s) (hs : s - 1 < S.length), ∃ hm : m - 1 < (lev o S j).length, 0 < m ∧ wt o S[s - 1] ≤ wt o (lev o S j)[m - 1]
theorem sum_range_le : ∀ (n s : Nat) (c : Nat), s ≤ n → ((List.range n).map fun i => if i < s then c else 0).sum = s * c
  | 0, s, c, h => by have : s = 0 := by omega
                     subst this; simp
  | n + 1, s, c, h => by
    rw [List.range_succ, List.map_append, List.sum_append]
    by_cases hs : s ≤ n
    · rw [sum_range_le n s c hs]; simp; omega
    · have : s = n + 1 := by omega
      subst this
      have e : ((List.range n).map fun i => if i < n + 1 then c else 0) = (List.range n).map fun i => if i < n then c else 0 := by
        apply List.map_congr_left
        intro i hi
        have := List.mem_range.1 hi
        rw [if_pos (by omega), if_pos this]
      rw [e, sum_range_le n n c (Nat.le_refl _)]
      simp [Nat.succ_mul]
theorem sum_add (n : Nat) (f g : Nat → Nat) : ((List.range n).map fun i => f i + g i).sum = ((List.range n).map f).sum + ((List.range n).map g).sum := by
  induction n with
  | zero => rfl
  | succ n ih => rw [List.range_succ, List.map_append, List.map_append, List.map_append, List.sum_append, List.sum_append, List.sum_append, ih]; simp; omega
theorem cnt_singles {S : List Tr} {σ : Nat → Nat} (hσ : ∀ i (h : i < S.length), S[i] = .leaf (σ i)) (hinj : ∀ i j, i < S.length → j < S.length → σ i = σ j → i = j) {i : Nat} (hi : i < S.length) : ∀ s, s ≤ S.length → cntL (S.take s) (σ i) = if i < s then 1 else 0
  | 0, _ => by simp [cntL]
  | s + 1, hs => by
    rw [List.take_succ_eq_append_getElem (by omega), cntL_append, cnt_singles hσ hinj hi s (by omega)]
    simp only [cntL, List.map_cons, List.map_nil, List.sum_cons, List.sum_nil, Nat.add_zero]
    rw [hσ s (by omega), cnt]
    by_cases e : s = i
    · subst e; simp
    · rw [if_neg (fun h => e (hinj s i (by omega) hi h))]
      by_cases h : i < s
      · rw [if_pos h, if_pos (by omega)]
      · rw [if_neg h, if_neg (by omega)]
theorem taken {o : Nat → Int} {S : List Tr} {σ : Nat → Nat} (hσ : ∀ i (h : i < S.length), S[i] = .leaf (σ i)) (hinj : ∀ i j, i < S.length → j < S.length → σ i = σ j → i = j) (hup : Up (wt o) S) (hpos : ∀ t ∈ S, 0 < wt o t) : ∀ (j m : Nat), m ≤ (lev o S j).length → ∃ s, Taken o S σ j m s
  | 0, m, hm => by
    rw [lev] at hm
    refine ⟨m, hm, fun i hi hc => ?_, fun i hi => ?_, ?_, fun h hs => ?_⟩
    · rw [lev, cnt_singles hσ hinj hi m hm] at hc
      by_cases h : i < m
      · exact h
      · rw [if_neg h] at hc; omega
    · rw [lev, cnt_singles hσ hinj hi m hm]; split <;> omega
    · have e : ((List.range S.length).map fun i => 2 ^ (0 + 1) - 2 ^ (0 + 1 - cntL ((lev o S 0).take m) (σ i))) = (List.range S.length).map fun i => if i < m then 1 else 0 := by
        apply List.map_congr_left
        intro i hi
        have hi := List.mem_range.1 hi
        rw [lev, cnt_singles hσ hinj hi m hm]
        split <;> rfl
      rw [e, sum_range_le _ _ _ hm]
    · exact ⟨by rw [lev]; omega, h, Int.le_refl _⟩
  | j + 1, m, hm => by
    have hupj := lev_up hup j
    have hm2 : m ≤ S.length + (pairs (lev o S j)).length := by rw [lev_len] at hm; rw [pairs_len]; exact hm
    obtain ⟨s, p, h1, h2, h3, h4, h5⟩ := merge_take S (pairs (lev o S j)) hup m hm2
    have h3' := h3
    rw [pairs_len] at h3'
    obtain ⟨s', T⟩ := taken hσ hinj hup hpos j (2 * p) (by omega)
    have hc : ∀ i, i < S.length → cntL ((lev o S (j + 1)).take m) (σ i) = (if i < s then 1 else 0) + cntL ((lev o S j).take (2 * p)) (σ i) := by
      intro i hi
      rw [lev, cntL_perm h4, cntL_append, cnt_singles hσ hinj hi s h2, pairs_take, cntL_pairs _ _ (by rw [List.length_take]; omega)]
    have hmono : s' ≤ s := by
      rcases Nat.lt_or_ge s s' with h | h
      · exfalso
        have hT := T.le
        obtain ⟨hm', hp, hle⟩ := T.last (by omega) (by omega)
        have h6 := h5 (by omega) (by omega) (by omega)
        rw [pairs_get, wt] at h6
        have hpos2 := lev_mem (o := o) (S := S) (fun t => 0 < wt o t) hpos (fun a b ha hb => by rw [wt]; omega) j (lev o S j)[2 * (p - 1)] (List.getElem_mem _)
        have e : (lev o S j)[2 * (p - 1) + 1]'(by omega) = (lev o S j)[2 * p - 1] := by
          congr 1; omega
        rw [e] at h6
        have h7 : wt o S[s] ≤ wt o S[s' - 1] := by
          by_cases he : s = s' - 1
          · subst he; exact Int.le_refl _
          · exact List.pairwise_iff_getElem.1 hup s (s' - 1) (by omega) (by omega) (by omega)
        omega
      · exact h
    have hz : ∀ i, i < S.length → s ≤ i → cntL ((lev o S j).take (2 * p)) (σ i) = 0 := by
      intro i hi his
      rcases Nat.eq_zero_or_pos (cntL ((lev o S j).take (2 * p)) (σ i)) with h | h
      · exact h
      · have := T.sup i hi h; omega
    refine ⟨s, h2, fun i hi hci => ?_, fun i hi => ?_, ?_, fun h hs => ?_⟩
    · rcases Nat.lt_or_ge i s with h | h
      · exact h
      · rw [hc i hi, hz i hi h, if_neg (by omega)] at hci; omega
    · rw [hc i hi]
      have := T.bd i hi
      split <;> omega
    · have e : ((List.range S.length).map fun i => 2 ^ (j + 1 + 1) - 2 ^ (j + 1 + 1 - cntL ((lev o S (j + 1)).take m) (σ i))) = (List.range S.length).map fun i => (if i < s then 2 ^ (j + 1) else 0) + (2 ^ (j + 1) - 2 ^ (j + 1 - cntL ((lev o S j).take (2 * p)) (σ i))) := by
        apply List.map_congr_left
        intro i hi
        have hi := List.mem_range.1 hi
        rw [hc i hi]
        by_cases h : i < s
        · rw [if_pos h, if_pos h]
          have hb := T.bd i hi
          generalize cntL ((lev o S j).take (2 * p)) (σ i) = c at hb
          rw [show j + 1 + 1 - (1 + c) = j + 1 - c by omega, Nat.pow_succ 2 (j + 1)]
          have : 2 ^ (j + 1 - c) ≤ 2 ^ (j + 1) := Nat.pow_le_pow_right (by omega) (by omega)
          omega
        · rw [if_neg h, if_neg h, hz i hi (by omega)]
          simp
      rw [e, sum_add, sum_range_le _ _ _ h2, T.width, ← h1, Nat.add_mul, Nat.pow_succ, Nat.mul_comm 2 p, Nat.mul_assoc, Nat.mul_comm 2]
    · have hmem : S[s - 1] ∈ (lev o S (j + 1)).take m := by
        rw [lev, h4.mem_iff]
        refine List.mem_append_left _ ?_
        rw [List.mem_take_iff_getElem]
        exact ⟨s - 1, by omega, rfl⟩
      obtain ⟨i, hi, e⟩ := List.getElem_of_mem hmem
      rw [List.length_take] at hi
      rw [List.getElem_take] at e
      refine ⟨by omega, by omega, ?_⟩
      rw [← e]
      by_cases he : i = m - 1
      · subst he; exact Int.le_refl _
      · exact List.pairwise_iff_getElem.1 (lev_up hup (j + 1)) i (m - 1) (by omega) (by omega) (by omega)
end Go.Proofs.Ytfdcolicpfellaa.PackLaw
