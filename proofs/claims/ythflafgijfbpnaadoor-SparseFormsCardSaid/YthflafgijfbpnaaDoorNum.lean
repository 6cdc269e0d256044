/-
  Numbers of a map's text, line by line: both.
-/
import Derived.Test.YthflafgijfbpnaaDoorDec
import Derived.Test.YthflafgijfbpnaaDoorRg
set_option linter.unusedVariables false
set_option linter.unusedSimpArgs false
namespace Go.Proofs.YthflafgijfbpnaaDoor.S15
open Go Go.RowKit Go.Proofs.YthflafgijfbpnaaDoor.Sep Go.Proofs.YthflafgijfbpnaaDoor.Low Go.Proofs.YthflafgijfbpnaaDoor.Lib

/-- the number, how many bytes, the error -/
def numL : Nat → Int → List Int → Int × Nat × Int
  | i, n, [] => (0, i, 4)
  | i, n, c :: r => if c = 10 ∧ 0 < i then (n, i + 1, 0) else if c < 48 ∨ 57 < c ∨ (i = 1 ∧ n = 0) ∨ (9223372036854775807 - (c - 48)) / 10 < n then (0, i, 3) else numL (i + 1) (n * 10 + (c - 48)) r
theorem numL_ok : ∀ (l : List Int) (i : Nat) (n : Int), 0 ≤ n → n ≤ 9223372036854775807 → (numL i n l).2.2 = 0 → (0 ≤ (numL i n l).1 ∧ (numL i n l).1 ≤ 9223372036854775807) ∧ i < (numL i n l).2.1 ∧ (numL i n l).2.1 ≤ i + l.length
  | [], i, n, h0, h1, h => by simp [numL] at h
  | c :: r, i, n, h0, h1, h => by
    unfold numL at h ⊢
    by_cases h2 : c = 10 ∧ 0 < i
    · rw [if_pos h2] at h ⊢
      simp only [List.length_cons]
      omega
    · rw [if_neg h2] at h ⊢
      by_cases h3 : c < 48 ∨ 57 < c ∨ (i = 1 ∧ n = 0) ∨ (9223372036854775807 - (c - 48)) / 10 < n
      · rw [if_pos h3] at h
        simp at h
      · rw [if_neg h3] at h ⊢
        have := numL_ok r (i + 1) (n * 10 + (c - 48)) (by omega) (by omega) h
        simp only [List.length_cons]
        omega
abbrev numAt (b : List Int) (p : Nat) : Int × Nat × Int := numL 0 0 (b.drop p)
theorem numAt_ok {b : List Int} {p : Nat} (hp : p ≤ b.length) (h : (numAt b p).2.2 = 0) : (0 ≤ (numAt b p).1 ∧ (numAt b p).1 ≤ 9223372036854775807) ∧ p + (numAt b p).2.1 ≤ b.length := by
  have := numL_ok (b.drop p) 0 0 (by omega) (by omega) h
  rw [List.length_drop] at this
  exact ⟨this.1, by unfold numAt; omega⟩

abbrev linesC (A : Option Addr) (n c : Nat) (p : Nat) : Array Value := [.slice A n c, .int .i64 p].toArray
set_option maxHeartbeats 4000000 in
theorem next_spec {H : Heap} {r : Nat} {A : Option Addr} {c p : Nat} {b : List Int} (hb : H r = some (.cells (linesC A b.length c p) 55 (0, 0))) (hr : Row H A (by8 b)) (hby : isBy b) (hA : ∀ a, A = some a → 0 < b.length → a.block ≠ r) (hp : p ≤ b.length) (hl : b.length ≤ 211106232532992) :
    ACalls Tryd.prog 28 [Value.pointer (some ⟨r, 0, none⟩)].toArray H fun e H' => e = .returned (.tuple #[.int .i64 (numAt b p).1, .int .i64 (numAt b p).2.2]) ∧ ∃ q : Nat, H' = H.set r (.cells (linesC A b.length c q) 55 (0, 0)) ∧ ((numAt b p).2.2 = 0 → q = p + (numAt b p).2.1) := by
  obtain ⟨V, hV⟩ : ∃ V, V = numAt b p := ⟨_, rfl⟩
  rw [← hV]
  refine call28 (Nat.le_of_ble_eq_true rfl) ?_
  unfold L28 env0
  simp -implicitDefEqProofs (maxSteps := 1000000) (disch := first | omega | assumption) only [Sx, reduceIte, Nat.reduceEqDiff, reduceCtorEq, Nat.reduceAdd, Nat.reduceSub, Nat.reduceLT, decide_true, decide_false, Bool.not_true, Bool.not_false, Int.toNat_one, Int.toNat_zero, Nat.zero_mul, l_g, endK, gd_u]
  refine c_loop (fun k env H' => ∃ (i : Nat) (n : Int), p + i + k = b.length ∧ env 0 = .pointer (some ⟨r, 0, none⟩) ∧ env 4 = .int .i64 n ∧ env 5 = .int .i64 i ∧ H' = H.set r (.cells (linesC A b.length c (p + i)) 55 (0, 0)) ∧ 0 ≤ n ∧ n ≤ 9223372036854775807 ∧ V = numL i n (b.drop (p + i))) (b.length - p)
    ⟨0, 0, by omega, by simp -implicitDefEqProofs (maxSteps := 1000000) (disch := first | omega | assumption) only [Sx, reduceIte, Nat.reduceEqDiff, reduceCtorEq, Nat.reduceAdd, Nat.reduceSub, Nat.reduceLT, decide_true, decide_false, Bool.not_true, Bool.not_false, Int.toNat_one, Int.toNat_zero, Nat.zero_mul, l_g, endK, gd_u], by simp -implicitDefEqProofs (maxSteps := 1000000) (disch := first | omega | assumption) only [Sx, reduceIte, Nat.reduceEqDiff, reduceCtorEq, Nat.reduceAdd, Nat.reduceSub, Nat.reduceLT, decide_true, decide_false, Bool.not_true, Bool.not_false, Int.toNat_one, Int.toNat_zero, Nat.zero_mul, l_g, endK, gd_u], by simp -implicitDefEqProofs (maxSteps := 1000000) (disch := first | omega | assumption) only [Sx, reduceIte, Nat.reduceEqDiff, reduceCtorEq, Nat.reduceAdd, Nat.reduceSub, Nat.reduceLT, decide_true, decide_false, Bool.not_true, Bool.not_false, Int.toNat_one, Int.toNat_zero, Nat.zero_mul, l_g, endK, gd_u]; rfl, by rw [Nat.add_zero, set_self hb], by omega, by omega, by rw [Nat.add_zero]; exact hV⟩ ?_
  clear hV
  rintro k env H1 ⟨i, n, hk, g0, g4, g5, hH1, hn0, hn1, hnum⟩
  have hb1 : H1 r = some (.cells (linesC A b.length c (p + i)) 55 (0, 0)) := by rw [hH1]; exact set_same
  have c0 : H1.cell? ⟨r, 0, none⟩ = some (.slice A b.length c) := by rw [cell_of hb1]; rfl
  have c1 : H1.cell? ⟨r, 0 + 1, none⟩ = some (.int .i64 ((p + i : Nat) : Int)) := by rw [cell_of hb1]; rfl
  have hr1 : Row H1 A (by8 b) := by
    intro j v hv
    obtain ⟨a, e, ha⟩ := hr j v hv
    refine ⟨a, e, ?_⟩
    rw [hH1]
    unfold Heap.cell? at ha ⊢
    rw [set_other (by rw [block_add]; exact hA a e (by have := (List.getElem?_eq_some_iff.1 hv).1; rw [List.length_map] at this; omega))]
    exact ha
  unfold L28_0
  by_cases hi : p + i < b.length
  · have f0 : ((((p + i : Nat) : Int)) == (b.length : Int)) = false := by rw [beq_eq_false_iff_ne]; omega
    rw [List.drop_eq_getElem_cons hi] at hnum
    obtain ⟨a, rfl, hx⟩ := by_at hr1 hi
    have hbx := hby.at hi
    generalize b[p + i] = x at hx hbx hnum
    have hix : (0 : Int) ≤ ((p + i : Nat) : Int) ∧ ((p + i : Nat) : Int) < (b.length : Nat) := by omega
    have fin : H1.set r (.cells [.slice (some a) b.length c, .int .i64 (((p + i : Nat) : Int) + 1)].toArray 55 (0, 0)) = H.set r (.cells (linesC (some a) b.length c (p + (i + 1))) 55 (0, 0)) := by
      rw [hH1, set_set]
      simp only [linesC]
      congr 4
    simp -implicitDefEqProofs (maxSteps := 1000000) (disch := first | omega | assumption) only [g0, g4, g5, c0, c1, f0, hx, ev_nilc, Sx, reduceIte, Nat.reduceEqDiff, reduceCtorEq, Nat.reduceAdd, Nat.reduceSub, Nat.reduceLT, decide_true, decide_false, Bool.not_true, Bool.not_false, Int.toNat_one, Int.toNat_zero, Nat.zero_mul, l_g, endK, gd_u]
    refine st_one (o := 1) hb1 (by simp [linesC]) rfl ?_
    try simp -implicitDefEqProofs (maxSteps := 1000000) (disch := first | omega | assumption) only [g0, g4, g5, linesC, Sx, reduceIte, Nat.reduceEqDiff, reduceCtorEq, Nat.reduceAdd, Nat.reduceSub, Nat.reduceLT, decide_true, decide_false, Bool.not_true, Bool.not_false, Int.toNat_one, Int.toNat_zero, Nat.zero_mul, l_g, endK, gd_u]
    rw [fin]
    by_cases h1 : x = 10 ∧ 0 < i
    · have f1 : (x == 10) = true := by rw [beq_iff_eq]; exact h1.1
      have f2 : decide ((0 : Int) < (i : Int)) = true := decide_eq_true (by omega)
      unfold numL at hnum
      rw [if_pos h1] at hnum
      simp -implicitDefEqProofs (maxSteps := 1000000) (disch := first | omega | assumption) only [g0, g4, g5, f1, f2, hnum, Sx, reduceIte, Nat.reduceEqDiff, reduceCtorEq, Nat.reduceAdd, Nat.reduceSub, Nat.reduceLT, decide_true, decide_false, Bool.not_true, Bool.not_false, Int.toNat_one, Int.toNat_zero, Nat.zero_mul, l_g, endK, gd_u]
      exact ⟨by trivial, _, rfl, fun _ => rfl⟩
    · have hfirst : (x == 10) = false ∨ ((x == 10) = true ∧ decide ((0 : Int) < (i : Int)) = false) := by
        by_cases hx10 : x = 10
        · right; exact ⟨by rw [beq_iff_eq]; exact hx10, decide_eq_false (by omega)⟩
        · left; rw [beq_eq_false_iff_ne]; exact hx10
      have e1 : IntKind.i64.wrap x = x := w_i64 (by omega)
      unfold numL at hnum
      rw [if_neg h1] at hnum
      rcases hfirst with f1 | ⟨f1, f2⟩
      · by_cases h2 : x < 48
        · rw [if_pos (.inl h2)] at hnum
          have f3 : decide (x - 48 < 0) = true := decide_eq_true (by omega)
          simp -implicitDefEqProofs (maxSteps := 1000000) (disch := first | omega | assumption) only [g0, g4, g5, f1, f3, e1, hnum, Sx, reduceIte, Nat.reduceEqDiff, reduceCtorEq, Nat.reduceAdd, Nat.reduceSub, Nat.reduceLT, decide_true, decide_false, Bool.not_true, Bool.not_false, Int.toNat_one, Int.toNat_zero, Nat.zero_mul, l_g, endK, gd_u]
          exact ⟨by trivial, _, rfl, fun h => by simp at h⟩
        have f3 : decide (x - 48 < 0) = false := decide_eq_false (by omega)
        by_cases h3 : 57 < x
        · rw [if_pos (.inr (.inl h3))] at hnum
          have f4 : decide (9 < x - 48) = true := decide_eq_true (by omega)
          simp -implicitDefEqProofs (maxSteps := 1000000) (disch := first | omega | assumption) only [g0, g4, g5, f1, f3, f4, e1, hnum, Sx, reduceIte, Nat.reduceEqDiff, reduceCtorEq, Nat.reduceAdd, Nat.reduceSub, Nat.reduceLT, decide_true, decide_false, Bool.not_true, Bool.not_false, Int.toNat_one, Int.toNat_zero, Nat.zero_mul, l_g, endK, gd_u]
          exact ⟨by trivial, _, rfl, fun h => by simp at h⟩
        have f4 : decide (9 < x - 48) = false := decide_eq_false (by omega)
        by_cases h4 : i = 1 ∧ n = 0
        · rw [if_pos (.inr (.inr (.inl h4)))] at hnum
          have f5 : ((i : Int) == 1) = true := by rw [beq_iff_eq]; omega
          have f6 : (n == 0) = true := by rw [beq_iff_eq]; exact h4.2
          simp -implicitDefEqProofs (maxSteps := 1000000) (disch := first | omega | assumption) only [g0, g4, g5, f1, f3, f4, f5, f6, e1, hnum, Sx, reduceIte, Nat.reduceEqDiff, reduceCtorEq, Nat.reduceAdd, Nat.reduceSub, Nat.reduceLT, decide_true, decide_false, Bool.not_true, Bool.not_false, Int.toNat_one, Int.toNat_zero, Nat.zero_mul, l_g, endK, gd_u]
          exact ⟨by trivial, _, rfl, fun h => by simp at h⟩
        have h45 : ((i : Int) == 1) = false ∨ (((i : Int) == 1) = true ∧ (n == 0) = false) := by
          by_cases h5 : i = 1
          · right; exact ⟨by rw [beq_iff_eq]; omega, by rw [beq_eq_false_iff_ne]; exact fun h => h4 ⟨h5, h⟩⟩
          · left; rw [beq_eq_false_iff_ne]; omega
        by_cases h6 : (9223372036854775807 - (x - 48)) / 10 < n
        · rw [if_pos (.inr (.inr (.inr h6)))] at hnum
          have f7 : decide ((9223372036854775807 - (x - 48)) / 10 < n) = true := decide_eq_true h6
          rcases h45 with f5 | ⟨f5, f6⟩
          · simp -implicitDefEqProofs (maxSteps := 1000000) (disch := first | omega | assumption) only [g0, g4, g5, f1, f3, f4, f5, f7, e1, hnum, Sx, reduceIte, Nat.reduceEqDiff, reduceCtorEq, Nat.reduceAdd, Nat.reduceSub, Nat.reduceLT, decide_true, decide_false, Bool.not_true, Bool.not_false, Int.toNat_one, Int.toNat_zero, Nat.zero_mul, l_g, endK, gd_u]
            exact ⟨by trivial, _, rfl, fun h => by simp at h⟩
          · simp -implicitDefEqProofs (maxSteps := 1000000) (disch := first | omega | assumption) only [g0, g4, g5, f1, f3, f4, f5, f6, f7, e1, hnum, Sx, reduceIte, Nat.reduceEqDiff, reduceCtorEq, Nat.reduceAdd, Nat.reduceSub, Nat.reduceLT, decide_true, decide_false, Bool.not_true, Bool.not_false, Int.toNat_one, Int.toNat_zero, Nat.zero_mul, l_g, endK, gd_u]
            exact ⟨by trivial, _, rfl, fun h => by simp at h⟩
        have f7 : decide ((9223372036854775807 - (x - 48)) / 10 < n) = false := decide_eq_false h6
        rw [if_neg (by omega)] at hnum
        have e2 : n * 10 + (x - 48) = 10 * n + (x - 48) := by omega
        rw [e2] at hnum
        rcases h45 with f5 | ⟨f5, f6⟩
        · simp -implicitDefEqProofs (maxSteps := 1000000) (disch := first | omega | assumption) only [g0, g4, g5, f1, f3, f4, f5, f7, e1, Sx, reduceIte, Nat.reduceEqDiff, reduceCtorEq, Nat.reduceAdd, Nat.reduceSub, Nat.reduceLT, decide_true, decide_false, Bool.not_true, Bool.not_false, Int.toNat_one, Int.toNat_zero, Nat.zero_mul, l_g, endK, gd_u]
          exact ⟨k - 1, by omega, i + 1, 10 * n + (x - 48), by omega, by trivial, by trivial, by simp, by trivial, by omega, by omega, hnum⟩
        · simp -implicitDefEqProofs (maxSteps := 1000000) (disch := first | omega | assumption) only [g0, g4, g5, f1, f3, f4, f5, f6, f7, e1, Sx, reduceIte, Nat.reduceEqDiff, reduceCtorEq, Nat.reduceAdd, Nat.reduceSub, Nat.reduceLT, decide_true, decide_false, Bool.not_true, Bool.not_false, Int.toNat_one, Int.toNat_zero, Nat.zero_mul, l_g, endK, gd_u]
          exact ⟨k - 1, by omega, i + 1, 10 * n + (x - 48), by omega, by trivial, by trivial, by simp, by trivial, by omega, by omega, hnum⟩
      · have hx10 : x = 10 := by rw [beq_iff_eq] at f1; exact f1
        rw [if_pos (.inl (by omega))] at hnum
        have f3 : decide (x - 48 < 0) = true := decide_eq_true (by omega)
        simp -implicitDefEqProofs (maxSteps := 1000000) (disch := first | omega | assumption) only [g0, g4, g5, f1, f2, f3, e1, hnum, Sx, reduceIte, Nat.reduceEqDiff, reduceCtorEq, Nat.reduceAdd, Nat.reduceSub, Nat.reduceLT, decide_true, decide_false, Bool.not_true, Bool.not_false, Int.toNat_one, Int.toNat_zero, Nat.zero_mul, l_g, endK, gd_u]
        exact ⟨by trivial, _, rfl, fun h => by simp at h⟩
  · have hie : p + i = b.length := by omega
    have f0 : ((((p + i : Nat) : Int)) == (b.length : Int)) = true := by rw [beq_iff_eq]; omega
    rw [List.drop_of_length_le (by omega)] at hnum
    unfold numL at hnum
    simp -implicitDefEqProofs (maxSteps := 1000000) (disch := first | omega | assumption) only [g0, g4, g5, c0, c1, f0, hnum, ev_nilc, Sx, reduceIte, Nat.reduceEqDiff, reduceCtorEq, Nat.reduceAdd, Nat.reduceSub, Nat.reduceLT, decide_true, decide_false, Bool.not_true, Bool.not_false, Int.toNat_one, Int.toNat_zero, Nat.zero_mul, l_g, endK, gd_u]
    exact ⟨by trivial, _, hH1, fun h => by simp at h⟩

set_option maxHeartbeats 4000000 in
theorem rnum_spec {H : Heap} {A : Option Addr} {c p : Nat} {b : List Int} (hr : Row H A (by8 b)) (hby : isBy b) (hp : p ≤ b.length) (hl : b.length ≤ 211106232532992) :
    ACalls Tryd.prog 29 [Value.slice A b.length c, .int .i64 p].toArray H fun e H' => (∃ z : Int, e = .returned (.tuple #[.int .i64 (numAt b p).1, .int .i64 z, .int .i64 (numAt b p).2.2]) ∧ ((numAt b p).2.2 = 0 → z = ((p + (numAt b p).2.1 : Nat) : Int))) ∧ H' = H := by
  obtain ⟨V, hV⟩ : ∃ V, V = numAt b p := ⟨_, rfl⟩
  rw [← hV]
  refine call29 (Nat.le_of_ble_eq_true rfl) ?_
  unfold L29 env0
  simp -implicitDefEqProofs (maxSteps := 1000000) (disch := first | omega | assumption) only [Sx, reduceIte, Nat.reduceEqDiff, reduceCtorEq, Nat.reduceAdd, Nat.reduceSub, Nat.reduceLT, decide_true, decide_false, Bool.not_true, Bool.not_false, Int.toNat_one, Int.toNat_zero, Nat.zero_mul, l_g, endK, gd_u]
  refine c_loop (fun k env H' => H' = H ∧ ∃ (i : Nat) (n : Int), p + i + k = b.length ∧ env 0 = .slice A b.length c ∧ env 1 = .int .i64 ((p + i : Nat) : Int) ∧ env 7 = .int .i64 n ∧ env 8 = .int .i64 p ∧ 0 ≤ n ∧ n ≤ 9223372036854775807 ∧ ((i = 0 ∧ n = 0) ∨ (∃ h : p < b.length, (b[p] = 48 ∧ i = 1 ∧ n = 0) ∨ (b[p] ≠ 48 ∧ ¬ (i = 1 ∧ n = 0) ∧ 0 < i))) ∧ V = numL i n (b.drop (p + i))) (b.length - p)
    ⟨rfl, 0, 0, by omega, by simp -implicitDefEqProofs (maxSteps := 1000000) (disch := first | omega | assumption) only [Sx, reduceIte, Nat.reduceEqDiff, reduceCtorEq, Nat.reduceAdd, Nat.reduceSub, Nat.reduceLT, decide_true, decide_false, Bool.not_true, Bool.not_false, Int.toNat_one, Int.toNat_zero, Nat.zero_mul, l_g, endK, gd_u], by simp -implicitDefEqProofs (maxSteps := 1000000) (disch := first | omega | assumption) only [Sx, reduceIte, Nat.reduceEqDiff, reduceCtorEq, Nat.reduceAdd, Nat.reduceSub, Nat.reduceLT, decide_true, decide_false, Bool.not_true, Bool.not_false, Int.toNat_one, Int.toNat_zero, Nat.zero_mul, l_g, endK, gd_u], by simp -implicitDefEqProofs (maxSteps := 1000000) (disch := first | omega | assumption) only [Sx, reduceIte, Nat.reduceEqDiff, reduceCtorEq, Nat.reduceAdd, Nat.reduceSub, Nat.reduceLT, decide_true, decide_false, Bool.not_true, Bool.not_false, Int.toNat_one, Int.toNat_zero, Nat.zero_mul, l_g, endK, gd_u], by simp -implicitDefEqProofs (maxSteps := 1000000) (disch := first | omega | assumption) only [Sx, reduceIte, Nat.reduceEqDiff, reduceCtorEq, Nat.reduceAdd, Nat.reduceSub, Nat.reduceLT, decide_true, decide_false, Bool.not_true, Bool.not_false, Int.toNat_one, Int.toNat_zero, Nat.zero_mul, l_g, endK, gd_u], by omega, by omega, .inl ⟨rfl, rfl⟩, by rw [Nat.add_zero]; exact hV⟩ ?_
  clear hV
  rintro k env H1 ⟨rfl, i, n, hk, g0, g1, g7, g8, hn0, hn1, hJ, hnum⟩
  unfold L29_0
  by_cases hi : p + i < b.length
  · have f0 : decide (((p + i : Nat) : Int) < (b.length : Int)) = true := decide_eq_true (by omega)
    rw [List.drop_eq_getElem_cons hi] at hnum
    obtain ⟨a, rfl, hx⟩ := by_at hr hi
    have hbx := hby.at hi
    have hxi : i = 0 → ∀ h : p < b.length, b[p] = b[p + i] := by intro e h; subst e; rfl
    generalize b[p + i] = x at hx hbx hnum hxi
    have hix : (0 : Int) ≤ ((p + i : Nat) : Int) ∧ ((p + i : Nat) : Int) < (b.length : Nat) := by omega
    have e1 : IntKind.i64.wrap (x - 48) = x - 48 := w_i64 (by omega)
    unfold numL at hnum
    by_cases hx10 : x = 10
    · have f1 : (x == 10) = true := by rw [beq_iff_eq]; exact hx10
      by_cases h0 : i = 0
      · have f2 : (((p + i : Nat) : Int) == (p : Int)) = true := by rw [beq_iff_eq]; omega
        rw [if_neg (by omega), if_pos (.inl (by omega))] at hnum
        simp -implicitDefEqProofs (maxSteps := 1000000) (disch := first | omega | assumption) only [g0, g1, g7, g8, f0, f1, f2, hx, hnum, Sx, reduceIte, Nat.reduceEqDiff, reduceCtorEq, Nat.reduceAdd, Nat.reduceSub, Nat.reduceLT, decide_true, decide_false, Bool.not_true, Bool.not_false, Int.toNat_one, Int.toNat_zero, Nat.zero_mul, l_g, endK, gd_u]
        exact ⟨⟨_, rfl, fun h => by simp at h⟩, by trivial⟩
      · have f2 : (((p + i : Nat) : Int) == (p : Int)) = false := by rw [beq_eq_false_iff_ne]; omega
        rw [if_pos ⟨hx10, by omega⟩] at hnum
        simp -implicitDefEqProofs (maxSteps := 1000000) (disch := first | omega | assumption) only [g0, g1, g7, g8, f0, f1, f2, hx, hnum, Sx, reduceIte, Nat.reduceEqDiff, reduceCtorEq, Nat.reduceAdd, Nat.reduceSub, Nat.reduceLT, decide_true, decide_false, Bool.not_true, Bool.not_false, Int.toNat_one, Int.toNat_zero, Nat.zero_mul, l_g, endK, gd_u]
        exact ⟨⟨_, rfl, fun _ => by omega⟩, by trivial⟩
    have f1 : (x == 10) = false := by rw [beq_eq_false_iff_ne]; exact hx10
    rw [if_neg (fun h => hx10 h.1)] at hnum
    by_cases h2 : x < 48
    · rw [if_pos (.inl h2)] at hnum
      have f3 : decide (x < 48) = true := decide_eq_true h2
      simp -implicitDefEqProofs (maxSteps := 1000000) (disch := first | omega | assumption) only [g0, g1, g7, g8, f0, f1, f3, hx, hnum, Sx, reduceIte, Nat.reduceEqDiff, reduceCtorEq, Nat.reduceAdd, Nat.reduceSub, Nat.reduceLT, decide_true, decide_false, Bool.not_true, Bool.not_false, Int.toNat_one, Int.toNat_zero, Nat.zero_mul, l_g, endK, gd_u]
      exact ⟨⟨_, rfl, fun h => by simp at h⟩, by trivial⟩
    have f3 : decide (x < 48) = false := decide_eq_false h2
    by_cases h3 : 57 < x
    · rw [if_pos (.inr (.inl h3))] at hnum
      have f4 : decide (57 < x) = true := decide_eq_true h3
      simp -implicitDefEqProofs (maxSteps := 1000000) (disch := first | omega | assumption) only [g0, g1, g7, g8, f0, f1, f3, f4, hx, hnum, Sx, reduceIte, Nat.reduceEqDiff, reduceCtorEq, Nat.reduceAdd, Nat.reduceSub, Nat.reduceLT, decide_true, decide_false, Bool.not_true, Bool.not_false, Int.toNat_one, Int.toNat_zero, Nat.zero_mul, l_g, endK, gd_u]
      exact ⟨⟨_, rfl, fun h => by simp at h⟩, by trivial⟩
    have f4 : decide (57 < x) = false := decide_eq_false h3
    have e2 : IntKind.u8.wrap (x - 48) = x - 48 := w_u8 (by omega)
    have hpl : p < b.length := by omega
    obtain ⟨a', ea, hy⟩ := by_at hr hpl
    cases ea
    have hip : (0 : Int) ≤ (p : Int) ∧ (p : Int) < (b.length : Nat) := by omega
    have hcase : (i = 0 ∧ decide ((p : Int) < ((p + i : Nat) : Int)) = false) ∨ (0 < i ∧ decide ((p : Int) < ((p + i : Nat) : Int)) = true) := by
      by_cases h0 : i = 0
      · exact .inl ⟨h0, decide_eq_false (by omega)⟩
      · exact .inr ⟨by omega, decide_eq_true (by omega)⟩
    by_cases h4 : i = 1 ∧ n = 0
    · rw [if_pos (.inr (.inr (.inl h4)))] at hnum
      rcases hcase with ⟨h0, f5⟩ | ⟨h0, f5⟩
      · omega
      have h48 : b[p] = 48 := by
        rcases hJ with h | ⟨_, h | h⟩
        · omega
        · exact h.1
        · exact absurd h4 h.2.1
      have f6 : (b[p] == 48) = true := by rw [beq_iff_eq]; exact h48
      simp -implicitDefEqProofs (maxSteps := 1000000) (disch := first | omega | assumption) only [g0, g1, g7, g8, f0, f1, f3, f4, f5, f6, hx, hy, hnum, Sx, reduceIte, Nat.reduceEqDiff, reduceCtorEq, Nat.reduceAdd, Nat.reduceSub, Nat.reduceLT, decide_true, decide_false, Bool.not_true, Bool.not_false, Int.toNat_one, Int.toNat_zero, Nat.zero_mul, l_g, endK, gd_u]
      exact ⟨⟨_, rfl, fun h => by simp at h⟩, by trivial⟩
    have hJ2 : 0 < i → (b[p] == 48) = false := by
      intro hi0
      rw [beq_eq_false_iff_ne]
      rcases hJ with h | ⟨_, h | h⟩
      · omega
      · exact absurd h.2 h4
      · exact h.1
    by_cases h6 : (9223372036854775807 - (x - 48)) / 10 < n
    · rw [if_pos (.inr (.inr (.inr h6)))] at hnum
      have f7 : decide ((9223372036854775807 - (x - 48)) / 10 < n) = true := decide_eq_true h6
      rcases hcase with ⟨h0, f5⟩ | ⟨h0, f5⟩
      · simp -implicitDefEqProofs (maxSteps := 1000000) (disch := first | omega | assumption) only [g0, g1, g7, g8, f0, f1, f3, f4, f5, f7, e1, e2, hx, hnum, Sx, reduceIte, Nat.reduceEqDiff, reduceCtorEq, Nat.reduceAdd, Nat.reduceSub, Nat.reduceLT, decide_true, decide_false, Bool.not_true, Bool.not_false, Int.toNat_one, Int.toNat_zero, Nat.zero_mul, l_g, endK, gd_u]
        exact ⟨⟨_, rfl, fun h => by simp at h⟩, by trivial⟩
      · have f6 := hJ2 h0
        simp -implicitDefEqProofs (maxSteps := 1000000) (disch := first | omega | assumption) only [g0, g1, g7, g8, f0, f1, f3, f4, f5, f6, f7, e1, e2, hx, hy, hnum, Sx, reduceIte, Nat.reduceEqDiff, reduceCtorEq, Nat.reduceAdd, Nat.reduceSub, Nat.reduceLT, decide_true, decide_false, Bool.not_true, Bool.not_false, Int.toNat_one, Int.toNat_zero, Nat.zero_mul, l_g, endK, gd_u]
        exact ⟨⟨_, rfl, fun h => by simp at h⟩, by trivial⟩
    have f7 : decide ((9223372036854775807 - (x - 48)) / 10 < n) = false := decide_eq_false h6
    rw [if_neg (by omega)] at hnum
    rcases hcase with ⟨h0, f5⟩ | ⟨h0, f5⟩
    · simp -implicitDefEqProofs (maxSteps := 1000000) (disch := first | omega | assumption) only [g0, g1, g7, g8, f0, f1, f3, f4, f5, f7, e1, e2, hx, Sx, reduceIte, Nat.reduceEqDiff, reduceCtorEq, Nat.reduceAdd, Nat.reduceSub, Nat.reduceLT, decide_true, decide_false, Bool.not_true, Bool.not_false, Int.toNat_one, Int.toNat_zero, Nat.zero_mul, l_g, endK, gd_u]
      refine ⟨k - 1, by omega, by trivial, i + 1, n * 10 + (x - 48), by omega, by trivial, by simp; omega, by trivial, by trivial, by omega, by omega, .inr ⟨hpl, ?_⟩, hnum⟩
      have hxx := hxi h0 hpl
      subst h0
      rw [hxx]
      have hn : n = 0 := by
        rcases hJ with h | ⟨_, h | h⟩
        · exact h.2
        · omega
        · omega
      by_cases h48 : x = 48
      · left; exact ⟨h48, rfl, by omega⟩
      · right; exact ⟨h48, by omega, by omega⟩
    · have f6 := hJ2 h0
      simp -implicitDefEqProofs (maxSteps := 1000000) (disch := first | omega | assumption) only [g0, g1, g7, g8, f0, f1, f3, f4, f5, f6, f7, e1, e2, hx, hy, Sx, reduceIte, Nat.reduceEqDiff, reduceCtorEq, Nat.reduceAdd, Nat.reduceSub, Nat.reduceLT, decide_true, decide_false, Bool.not_true, Bool.not_false, Int.toNat_one, Int.toNat_zero, Nat.zero_mul, l_g, endK, gd_u]
      refine ⟨k - 1, by omega, by trivial, i + 1, n * 10 + (x - 48), by omega, by trivial, by simp; omega, by trivial, by trivial, by omega, by omega, .inr ⟨hpl, .inr ⟨?_, by omega, by omega⟩⟩, hnum⟩
      have := hJ2 h0
      rw [beq_eq_false_iff_ne] at this
      exact this
  · have f0 : decide (((p + i : Nat) : Int) < (b.length : Int)) = false := decide_eq_false (by omega)
    rw [List.drop_of_length_le (by omega)] at hnum
    unfold numL at hnum
    simp -implicitDefEqProofs (maxSteps := 1000000) (disch := first | omega | assumption) only [g0, g1, g7, g8, f0, hnum, Sx, reduceIte, Nat.reduceEqDiff, reduceCtorEq, Nat.reduceAdd, Nat.reduceSub, Nat.reduceLT, decide_true, decide_false, Bool.not_true, Bool.not_false, Int.toNat_one, Int.toNat_zero, Nat.zero_mul, l_g, endK, gd_u]
    exact ⟨⟨_, rfl, fun h => by simp at h⟩, by trivial⟩
end Go.Proofs.YthflafgijfbpnaaDoor.S15
