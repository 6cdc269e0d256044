/-
  SparseForms, the plain law of texts: what is put is read, what is read is put again.
-/
import Derived.Test.YthflafgijfbpnaaDoorReadT
set_option linter.unusedVariables false
set_option linter.unusedSimpArgs false
namespace Go.Proofs.YthflafgijfbpnaaDoor.S15
open Go Go.RowKit Go.Proofs.YthflafgijfbpnaaDoor.Sep Go.Proofs.YthflafgijfbpnaaDoor.Low Go.Proofs.YthflafgijfbpnaaDoor.Lib

theorem decI_pos (n : Int) : 0 < (decI n).length := by
  unfold decI
  rw [List.length_map, Go.Lib.decDigits]
  split <;> simp
theorem decI_one {n : Int} (h : 10 ≤ n) : 2 ≤ (decI n).length := by
  rw [decI_big h, List.length_append]
  have := decI_pos (n / 10)
  simp only [List.length_cons, List.length_nil]
  omega
theorem numL_dec : ∀ (k : Nat) (n : Int) (rest : List Int), n.toNat < k → 0 ≤ n → n ≤ 9223372036854775807 → numL 0 0 (decI n ++ rest) = numL (decI n).length n rest
  | 0, n, rest, hk, _, _ => absurd hk (by omega)
  | k + 1, n, rest, hk, h0, h1 => by
    by_cases h : n < 10
    · rw [decI_small h0 h, List.singleton_append, numL, if_neg (by omega), if_neg (by omega)]
      show numL 1 (0 * 10 + (48 + n - 48)) rest = numL 1 n rest
      congr 1
      omega
    · rw [decI_big (by omega), List.append_assoc, numL_dec k (n / 10) _ (by omega) (by omega) (by omega), List.singleton_append, numL]
      have hp := decI_pos (n / 10)
      rw [if_neg (by omega), if_neg (by omega), List.length_append]
      show numL _ (n / 10 * 10 + (48 + n % 10 - 48)) rest = numL _ n rest
      congr 1
      omega
theorem num_dec {b rest : List Int} {p : Nat} {n : Int} (hb : b.drop p = decI n ++ 10 :: rest) (h0 : 0 ≤ n) (h1 : n ≤ 9223372036854775807) : numAt b p = (n, (decI n).length + 1, 0) := by
  unfold numAt
  have hp := decI_pos n
  rw [hb, numL_dec (n.toNat + 1) n _ (by omega) h0 h1, numL, if_pos ⟨rfl, hp⟩]
theorem numL_inv : ∀ (r : List Int) (i : Nat) (s : Int), 0 ≤ s → i = (decI s).length → (numL i s r).2.2 = 0 → decI s ++ r.take ((numL i s r).2.1 - i) = decI (numL i s r).1 ++ [10] ∧ i < (numL i s r).2.1
  | [], i, s, h0, hi, h => by simp [numL] at h
  | c :: r, i, s, h0, hi, h => by
    unfold numL at h ⊢
    by_cases h2 : c = 10 ∧ 0 < i
    · rw [if_pos h2]
      have : i + 1 - i = 1 := by omega
      simp only [this, h2.1]
      exact ⟨rfl, by omega⟩
    · rw [if_neg h2] at h ⊢
      by_cases h3 : c < 48 ∨ 57 < c ∨ (i = 1 ∧ s = 0) ∨ (9223372036854775807 - (c - 48)) / 10 < s
      · rw [if_pos h3] at h; simp at h
      · rw [if_neg h3] at h ⊢
        have hs : 1 ≤ s := by
          by_cases e : s = 0
          · subst e
            rw [decI_small (by omega) (by omega)] at hi
            exact absurd (.inr (.inr (.inl ⟨hi, rfl⟩))) h3
          · omega
        have e1 : decI (s * 10 + (c - 48)) = decI s ++ [c] := by
          rw [decI_big (by omega)]
          congr 2
          · omega
          · omega
        have := numL_inv r (i + 1) (s * 10 + (c - 48)) (by omega) (by rw [e1, List.length_append, ← hi]; rfl) h
        refine ⟨?_, by omega⟩
        rw [← this.1, e1]
        have e2 : (numL (i + 1) (s * 10 + (c - 48)) r).2.1 - i = ((numL (i + 1) (s * 10 + (c - 48)) r).2.1 - (i + 1)) + 1 := by omega
        rw [e2, List.take_succ_cons]
        simp
theorem num_inv {b : List Int} {p : Nat} (h : (numAt b p).2.2 = 0) : (b.drop p).take (numAt b p).2.1 = decI (numAt b p).1 ++ [10] := by
  unfold numAt at h ⊢
  cases hb : b.drop p with
  | nil => rw [hb] at h; simp [numL] at h
  | cons c r =>
    rw [hb] at h
    unfold numL at h ⊢
    rw [if_neg (by omega)] at h ⊢
    by_cases h3 : c < 48 ∨ 57 < c ∨ (0 = 1 ∧ (0 : Int) = 0) ∨ (9223372036854775807 - (c - 48)) / 10 < 0
    · rw [if_pos h3] at h; simp at h
    · rw [if_neg h3] at h ⊢
      have e0 : (0 : Int) * 10 + (c - 48) = c - 48 := by omega
      rw [Nat.zero_add, e0] at h ⊢
      have e1 : decI (c - 48) = [c] := by
        rw [decI_small (by omega) (by omega)]; congr 1; omega
      have := numL_inv r 1 (c - 48) (by omega) (by rw [e1]; rfl) h
      rw [← this.1, e1]
      have e2 : (numL 1 (c - 48) r).2.1 = ((numL 1 (c - 48) r).2.1 - 1) + 1 := by omega
      rw [e2, List.take_succ_cons]
      simp

/-! ### What is put is read -/
theorem pad_zero : ∀ (k p : Nat) (b rest : List Int), b.drop p = List.replicate k 0 ++ rest → padR b k p = (p + k, 0)
  | 0, p, b, rest, h => rfl
  | k + 1, p, b, rest, h => by
    have hp : p < b.length := by
      have := congrArg List.length h
      simp at this
      omega
    rw [List.replicate_succ, List.cons_append, List.drop_eq_getElem_cons hp] at h
    injection h with h1 h2
    have hg : b.getD p 0 = 0 := by simp [List.getD_eq_getElem?_getD, List.getElem?_eq_getElem hp, h1]
    rw [padR, if_neg (by omega), if_neg (by rw [hg]; simp), pad_zero k (p + 1) b rest h2]
    congr 1
    omega
theorem drop_app {b x y z : List Int} {p : Nat} (h : b.drop p = x ++ y ++ z) : b.drop (p + x.length) = y ++ z := by
  rw [← List.drop_drop, h, List.append_assoc, List.drop_left]
theorem drop_app2 {b x y : List Int} {p : Nat} (h : b.drop p = x ++ y) : b.drop (p + x.length) = y := by
  rw [← List.drop_drop, h, List.drop_left]
theorem rd_put {b : List Int} : ∀ (l : List Rg) (L : List Rg) (p : Nat) (en : Int) (rest : List Int), chain 9223372036854775807 en l = true → 0 ≤ en → b.drop p = (l.map seg).flatten ++ rest → rdR b l.length p en L = (L ++ l, p + ((l.map seg).flatten).length, 0)
  | [], L, p, en, rest, hc, h0, hb => by simp [rdR]
  | x :: l, L, p, en, rest, hc, h0, hb => by
    obtain ⟨h1, h2, h3, h4⟩ := chain_cons hc
    obtain ⟨S, hS⟩ : ∃ S, S = (l.map seg).flatten := ⟨_, rfl⟩
    have hb1 : b.drop p = decI x.f ++ 10 :: (decI (x.t - x.f) ++ 10 :: (S ++ rest)) := by
      rw [hb, List.map_cons, List.flatten_cons, ← hS, seg]
      simp
    have n1 := num_dec hb1 (by omega) (by omega)
    have hb2 : b.drop (p + ((decI x.f).length + 1)) = decI (x.t - x.f) ++ 10 :: (S ++ rest) := by
      have := drop_app2 (x := decI x.f ++ [10]) (y := decI (x.t - x.f) ++ 10 :: (S ++ rest)) (by rw [hb1]; simp)
      rw [List.length_append] at this
      exact this
    have n2 := num_dec hb2 (by omega) (by omega)
    have hb3 : b.drop (p + ((decI x.f).length + 1) + ((decI (x.t - x.f)).length + 1)) = S ++ rest := by
      have := drop_app2 (x := decI (x.t - x.f) ++ [10]) (y := S ++ rest) (by rw [hb2]; simp)
      rw [List.length_append] at this
      exact this
    rw [List.length_cons, rdR, n1]
    simp only [n2]
    rw [if_neg (by simp), if_neg (by simp), if_neg (by omega)]
    have e1 : x.f + (x.t - x.f) = x.t := by omega
    rw [e1, rd_put l _ _ _ rest h4 (by omega) (by rw [hb3, hS]), List.map_cons, List.flatten_cons, ← hS, List.length_append]
    have e2 : (seg x).length = ((decI x.f).length + 1) + ((decI (x.t - x.f)).length + 1) := by
      unfold seg
      simp only [List.length_append, List.length_cons, List.length_nil]
    rw [e2, List.append_assoc, List.singleton_append]
    simp only [Prod.mk.injEq, true_and, and_true]
    omega
theorem read_put {l : List Rg} (h : validV l 9223372036854775807 = true) (rest : List Int) : readV (txtV l ++ rest) = (l, (txtV l).length, 0) := by
  obtain ⟨-, hl, hc⟩ := valid_true h
  obtain ⟨b, hb⟩ : ∃ b, b = txtV l ++ rest := ⟨_, rfl⟩
  rw [← hb]
  obtain ⟨P, hP⟩ : ∃ P, P = List.replicate (padN (txtL l l.length).length) (0 : Int) ++ rest := ⟨_, rfl⟩
  have hS : txtL l l.length = decI l.length ++ [10] ++ (l.map seg).flatten := by unfold txtL; rw [List.take_of_length_le (Nat.le_refl _)]
  have hb0 : b.drop 0 = decI l.length ++ 10 :: ((l.map seg).flatten ++ P) := by
    rw [List.drop_zero, hb, hP, txtV]
    conv => lhs; lhs; lhs; rw [hS]
    simp
  have n1 := num_dec hb0 (by omega) (by omega)
  have hb1 : b.drop ((decI l.length).length + 1) = (l.map seg).flatten ++ P := by
    have := drop_app2 (p := 0) (x := decI l.length ++ [10]) (y := (l.map seg).flatten ++ P) (by rw [hb0]; simp)
    rw [List.length_append, Nat.zero_add] at this
    exact this
  have r1 := rd_put l [] ((decI l.length).length + 1) 0 P hc (Int.le_refl _) hb1
  have hlen : (decI l.length).length + 1 + ((l.map seg).flatten).length = (txtL l l.length).length := by rw [hS, List.length_append, List.length_append]; rfl
  rw [hlen, List.nil_append] at r1
  have hb2 : b.drop (txtL l l.length).length = List.replicate (padN (txtL l l.length).length) 0 ++ rest := by
    rw [hb, txtV, List.append_assoc, List.drop_left]
  have p1 := pad_zero _ _ _ _ hb2
  unfold readV
  rw [n1]
  simp only [ne_eq, not_true, if_false]
  rw [if_neg (by omega), Int.toNat_natCast, r1]
  unfold finish
  simp only [ne_eq, not_true, if_false, p1]
  rw [txtV, List.length_append, List.length_replicate]

/-! ### What is read is put again -/
theorem endAt_last : ∀ {l : List Rg} {x : Rg}, endAt (l ++ [x]) (l ++ [x]).length = x.t := by
  intro l x
  simp [endAt]
theorem chain_snoc {size : Int} : ∀ {l : List Rg} {at_ : Int} {x : Rg}, chain size at_ l = true → (∀ y, l.getLast? = some y → y.t ≤ x.f) → (l = [] → at_ ≤ x.f) → x.f ≤ x.t → x.t ≤ size → chain size at_ (l ++ [x]) = true
  | [], at_, x, h, h1, h2, h3, h4 => by
    have := h2 rfl
    show chain size at_ [x] = true
    unfold chain
    rw [if_neg (by omega), if_neg (by omega), if_neg (by omega)]
    rfl
  | y :: l, at_, x, h, h1, h2, h3, h4 => by
    obtain ⟨c1, c2, c3, c4⟩ := chain_cons h
    have := chain_snoc (l := l) (x := x) c4 (fun z hz => h1 z (by
      cases l with
      | nil => cases hz
      | cons w l => rwa [List.getLast?_cons_cons])) (fun e => h1 y (by subst e; rfl)) h3 h4
    show chain size at_ (y :: (l ++ [x])) = true
    unfold chain
    rw [if_neg (by omega), if_neg (by omega), if_neg (by omega)]
    exact this
theorem take_app {b x : List Int} {p n : Nat} (h : (b.drop p).take n = x) : b.take (p + n) = b.take p ++ x := by
  rw [List.take_add, h]
theorem rd_inv {b : List Int} : ∀ (k p : Nat) (en : Int) (L : List Rg), chain 9223372036854775807 0 L = true → 0 ≤ en → (∀ y, L.getLast? = some y → y.t = en) → p ≤ b.length → (rdR b k p en L).2.2 = 0 →
    ∃ T, (rdR b k p en L).1 = L ++ T ∧ T.length = k ∧ chain 9223372036854775807 0 (L ++ T) = true ∧ (rdR b k p en L).2.1 ≤ b.length ∧ b.take (rdR b k p en L).2.1 = b.take p ++ (T.map seg).flatten
  | 0, p, en, L, hc, h0, hl, hp, h => ⟨[], by simp [rdR], rfl, by simpa using hc, by simpa [rdR] using hp, by simp [rdR]⟩
  | k + 1, p, en, L, hc, h0, hl, hp, h => by
    unfold rdR at h ⊢
    by_cases h1 : (numAt b p).2.2 ≠ 0
    · rw [if_pos h1] at h; exact absurd h h1
    rw [if_neg h1] at h ⊢
    have i1 := num_inv (b := b) (p := p) (by omega)
    obtain ⟨o1, o2⟩ := numAt_ok hp (by omega)
    obtain ⟨N1, hN1⟩ : ∃ N1, N1 = numAt b p := ⟨_, rfl⟩
    rw [← hN1] at h i1 o1 o2 ⊢
    by_cases h2 : (numAt b (p + N1.2.1)).2.2 ≠ 0
    · rw [if_pos h2] at h; exact absurd h h2
    rw [if_neg h2] at h ⊢
    have i2 := num_inv (b := b) (p := p + N1.2.1) (by omega)
    obtain ⟨u1, u2⟩ := numAt_ok (p := p + N1.2.1) o2 (by omega)
    obtain ⟨N2, hN2⟩ : ∃ N2, N2 = numAt b (p + N1.2.1) := ⟨_, rfl⟩
    rw [← hN2] at h i2 u1 u2 ⊢
    by_cases h3 : N1.1 < en ∨ 9223372036854775807 - N1.1 < N2.1
    · rw [if_pos h3] at h; simp at h
    rw [if_neg h3] at h ⊢
    obtain ⟨T, t1, t2, t3, t4, t5⟩ := rd_inv k (p + N1.2.1 + N2.2.1) (N1.1 + N2.1) (L ++ [⟨N1.1, N1.1 + N2.1⟩]) (chain_snoc hc (fun y hy => by rw [hl y hy]; show en ≤ N1.1; omega) (fun _ => o1.1) (by show N1.1 ≤ N1.1 + N2.1; omega) (by show N1.1 + N2.1 ≤ _; omega)) (by omega) (fun y hy => by
      rw [List.getLast?_append] at hy
      simp at hy
      rw [← hy]) u2 h
    refine ⟨⟨N1.1, N1.1 + N2.1⟩ :: T, by rw [t1]; simp, by simp [t2], by rw [show L ++ (⟨N1.1, N1.1 + N2.1⟩ :: T) = L ++ [⟨N1.1, N1.1 + N2.1⟩] ++ T by simp]; exact t3, t4, ?_⟩
    rw [t5, take_app i2, take_app i1, List.map_cons, List.flatten_cons, seg]
    have e : N1.1 + N2.1 - N1.1 = N2.1 := by omega
    simp only [e, List.append_assoc]
theorem pad_inv {b : List Int} : ∀ (k p : Nat), p ≤ b.length → (padR b k p).2 = 0 → (padR b k p).1 = p + k ∧ p + k ≤ b.length ∧ b.take (p + k) = b.take p ++ List.replicate k 0
  | 0, p, hp, h => ⟨rfl, hp, by simp⟩
  | k + 1, p, hp, h => by
    unfold padR at h ⊢
    by_cases h1 : p = b.length
    · rw [if_pos h1] at h; simp at h
    rw [if_neg h1] at h ⊢
    by_cases h2 : b.getD p 0 ≠ 0
    · rw [if_pos h2] at h; simp at h
    rw [if_neg h2] at h ⊢
    have hlt : p < b.length := by omega
    obtain ⟨a1, a2, a3⟩ := pad_inv k (p + 1) (by omega) h
    have e : p + 1 + k = p + (k + 1) := by omega
    rw [e] at a1 a2 a3
    refine ⟨a1, a2, ?_⟩
    have h0 : b[p] = 0 := by simpa [List.getD_eq_getElem?_getD, List.getElem?_eq_getElem hlt] using h2
    rw [a3, List.take_succ_eq_append_getElem hlt, h0, List.replicate_succ, List.append_assoc]
    rfl
theorem read_inv {b : List Int} (h : (readV b).2.2 = 0) : validV (readV b).1 9223372036854775807 = true ∧ (readV b).2.1 ≤ b.length ∧ txtV (readV b).1 = b.take (readV b).2.1 := by
  unfold readV at h ⊢
  by_cases h1 : (numAt b 0).2.2 ≠ 0
  · rw [if_pos h1] at h
    unfold finish at h
    rw [if_pos h1] at h
    exact absurd h h1
  rw [if_neg h1] at h ⊢
  have i1 := num_inv (b := b) (p := 0) (by omega)
  obtain ⟨o1, o2⟩ := numAt_ok (b := b) (p := 0) (by omega) (by omega)
  obtain ⟨N1, hN1⟩ : ∃ N1, N1 = numAt b 0 := ⟨_, rfl⟩
  rw [← hN1] at h i1 o1 o2 ⊢
  rw [List.drop_zero] at i1
  rw [Nat.zero_add] at o2
  by_cases h2 : 65536 < N1.1
  · rw [if_pos h2] at h; simp [finish] at h
  rw [if_neg h2] at h ⊢
  obtain ⟨R, hR⟩ : ∃ R, R = rdR b N1.1.toNat N1.2.1 0 [] := ⟨_, rfl⟩
  have h3 : R.2.2 = 0 := by
    rw [← hR] at h
    unfold finish at h
    by_cases h3 : R.2.2 ≠ 0
    · rw [if_pos h3] at h; exact absurd h h3
    · omega
  obtain ⟨T, t1, t2, t3, t4, t5⟩ := rd_inv (b := b) N1.1.toNat N1.2.1 0 [] rfl (Int.le_refl _) (fun y hy => by cases hy) o2 (by rw [← hR]; exact h3)
  rw [← hR] at h t1 t4 t5 ⊢
  rw [List.nil_append] at t1 t3
  unfold finish at h ⊢
  rw [if_neg (by omega)] at h ⊢
  by_cases h4 : (padR b (padN R.2.1) R.2.1).2 ≠ 0
  · rw [if_pos h4] at h; exact absurd h h4
  rw [if_neg h4]
  obtain ⟨a1, a2, a3⟩ := pad_inv (b := b) (padN R.2.1) R.2.1 t4 (by omega)
  have hT : txtL R.1 R.1.length = b.take R.2.1 := by
    unfold txtL
    rw [List.take_of_length_le (Nat.le_refl _), t5, i1, t1, t2]
    congr 3
    omega
  have hlen : (txtL R.1 R.1.length).length = R.2.1 := by rw [hT, List.length_take]; omega
  refine ⟨?_, by rw [a1]; exact a2, ?_⟩
  · unfold validV
    rw [t1, if_neg (by omega), if_neg (by omega)]
    exact t3
  · show txtV R.1 = b.take (padR b (padN R.2.1) R.2.1).1
    rw [a1, a3]
    unfold txtV
    rw [hlen, hT]
end Go.Proofs.YthflafgijfbpnaaDoor.S15
