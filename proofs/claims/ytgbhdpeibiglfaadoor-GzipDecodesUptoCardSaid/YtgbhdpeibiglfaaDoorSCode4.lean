/-
  What a code reads.
-/
import Derived.Test.YtgbhdpeibiglfaaDoorSCode3
set_option linter.unusedVariables false
set_option linter.unusedSimpArgs false
namespace Go.Proofs.YtgbhdpeibiglfaaDoor.S05
open Go Go.RowKit Go.Proofs.YtgbhdpeibiglfaaDoor.Sep Go.Proofs.YtgbhdpeibiglfaaDoor.Low Go.Proofs.YtgbhdpeibiglfaaDoor.CodeLaw Go.Proofs.YtgbhdpeibiglfaaDoor.Pack Go.Proofs.YtgbhdpeibiglfaaDoor.BitLaw
open Go.Proofs.YtgbhdpeibiglfaaDoor.Lib (by64 by64_scalar encs encs_len)

theorem shlw {x k : Nat} (hk : k ≤ 15) (hx : x ≤ 65536) : IntKind.i64.wrap ((x : Int) * 2 ^ min k 64) = ((x * 2 ^ k : Nat) : Int) := by
  have hp : 2 ^ k ≤ 2 ^ 15 := Nat.pow_le_pow_right (by omega) hk
  have h2 : x * 2 ^ k ≤ 65536 * 2 ^ 15 := Nat.mul_le_mul hx hp
  rw [Nat.min_eq_left (by omega)]
  have e : (x : Int) * 2 ^ k = ((x * 2 ^ k : Nat) : Int) := by simp
  rw [e]
  generalize x * 2 ^ k = q at h2
  exact w_i64 (by omega)
theorem div_is {f c w d x : Nat} (h1 : f ≤ x) (h2 : x < f + c) (h : x / 2 ^ d = w) : f < w * 2 ^ d + 2 ^ d ∧ w * 2 ^ d < f + c := by
  subst h
  have hp := Nat.two_pow_pos d
  have h3 := Nat.div_mul_le_self x (2 ^ d)
  have h4 := Nat.lt_div_mul_add hp (a := x)
  omega
theorem div_ex {f c w d : Nat} (h0 : 0 < c) (h1 : f < w * 2 ^ d + 2 ^ d) (h2 : w * 2 ^ d < f + c) : ∃ x, f ≤ x ∧ x < f + c ∧ x / 2 ^ d = w := by
  have hp := Nat.two_pow_pos d
  refine ⟨max f (w * 2 ^ d), by omega, by omega, ?_⟩
  have h3 : w * 2 ^ d ≤ max f (w * 2 ^ d) := by omega
  have h4 : max f (w * 2 ^ d) < (w + 1) * 2 ^ d := by rw [Nat.add_mul, Nat.one_mul]; omega
  have := (Nat.le_div_iff_mul_le hp).2 h3
  have := (Nat.div_lt_iff_lt_mul hp).2 h4
  omega
theorem word_ex {l : List Int} (hc : isCode l = true) {n x : Nat} (hn : 1 ≤ n) (h1 : fst l n ≤ x) (h2 : x < fst l n + cnt l n) : ∃ i, len_ l i = n ∧ wordOf l i = x := by
  obtain ⟨i, h3, h4, _⟩ := idx_get (l := l) (j := x - fst l n) hn (by omega)
  refine ⟨i, h3, ?_⟩
  have := word_in hc (i := i) (by omega)
  rw [h3] at this
  omega
theorem lo_le {l : List Int} {lo : Nat} (hc : isCode l = true) (h : Lo l 16 0 lo) : lo ≤ 15 := by
  have := h.le
  rcases Nat.lt_or_ge lo 16 with h1 | h1
  · omega
  · have : lo = 16 := by omega
    subst this
    rcases h.got with h2 | h2
    · omega
    · unfold cnt at h2
      obtain ⟨x, hx, he⟩ := List.countP_pos_iff.1 h2
      have := (isCode_ok hc).2.1 x hx
      simp only [beq_iff_eq] at he
      omega
theorem len_lo {l : List Int} {lo : Nat} (hc : isCode l = true) (h : Lo l 16 0 lo) {i : Nat} (hi : 0 < len_ l i) : len_ l i ≤ lo := by
  have h1 := len_le (isCode_ok hc).2.1 i
  rcases Nat.lt_or_ge lo (len_ l i) with h2 | h2
  · have := h.gap _ h2 (by omega)
    have := word_in hc hi
    omega
  · exact h2

set_option maxHeartbeats 4000000 in
theorem begins_spec {H : Heap} {p w n : Nat} {l : List Int} {wv ov : Value} {fs : List Int} {lo : Nat} (h : CAt H p l wv ov fs lo) (hc : isCode l = true) (hw : w < 2 ^ n) (hn : n ≤ 15) :
    ACalls Tryd.prog 93 [Value.pointer (some ⟨p, 0, none⟩), .int .i64 w, .int .i64 n].toArray H fun e H' => ∃ b, e = .returned (.bool b) ∧ H' = H ∧ (b = true → ∃ i, n < len_ l i ∧ wordOf l i / 2 ^ (len_ l i - n) = w) ∧ (b = false → ∀ i, n < len_ l i → wordOf l i / 2 ^ (len_ l i - n) ≠ w) := by
  refine call93 (Nat.le_of_ble_eq_true rfl) ?_
  unfold L93 env0
  have hlo := lo_le hc h.L
  have hp15 : 2 ^ n ≤ 2 ^ 15 := Nat.pow_le_pow_right (by omega) hn
  have hcl := cc_wh (wv := wv) (ov := ov) (cs := cnts l) (fs := fs) (wh := isWhole l) (lo := lo) (cnts_len _) h.fl
  simp -implicitDefEqProofs (maxSteps := 1000000) (disch := first | omega | assumption) only [Sx, reduceIte, Nat.reduceEqDiff, reduceCtorEq, Nat.reduceAdd, Nat.reduceSub, Nat.reduceLT]
  refine c_loop (fun k env H' => ∃ m, k + m = 16 ∧ n < m ∧ env 0 = .pointer (some ⟨p, 0, none⟩) ∧ env 1 = .int .i64 w ∧ env 2 = .int .i64 n ∧ env 7 = .int .i64 m ∧ (∀ i, n < len_ l i → len_ l i < m → wordOf l i / 2 ^ (len_ l i - n) ≠ w) ∧ H' = H) (15 - n) ⟨n + 1, by omega, by omega, by simp -implicitDefEqProofs (maxSteps := 1000000) (disch := first | omega | assumption) only [Sx, reduceIte, Nat.reduceEqDiff, reduceCtorEq, Nat.reduceAdd, Nat.reduceSub, Nat.reduceLT], by simp -implicitDefEqProofs (maxSteps := 1000000) (disch := first | omega | assumption) only [Sx, reduceIte, Nat.reduceEqDiff, reduceCtorEq, Nat.reduceAdd, Nat.reduceSub, Nat.reduceLT], by simp -implicitDefEqProofs (maxSteps := 1000000) (disch := first | omega | assumption) only [Sx, reduceIte, Nat.reduceEqDiff, reduceCtorEq, Nat.reduceAdd, Nat.reduceSub, Nat.reduceLT], by simp -implicitDefEqProofs (maxSteps := 1000000) (disch := first | omega | assumption) only [Int.natCast_add, Int.natCast_one, Sx, reduceIte, Nat.reduceEqDiff, reduceCtorEq, Nat.reduceAdd, Nat.reduceSub, Nat.reduceLT], fun i h1 h2 => by omega, rfl⟩ ?_
  rintro k env H1 ⟨m, hk, hm, h0, h1, h2, h7, hno, rfl⟩
  unfold L93_0
  by_cases hml : m ≤ lo
  · have f0 : decide ((m : Int) ≤ (lo : Int)) = true := decide_eq_true (by omega)
    have e1 : ((m : Int) - (n : Int)) = ((m - n : Nat) : Int) := by omega
    have e2 := shlw (x := w) (k := m - n) (by omega) (by omega)
    have e3 := shlw (x := 1) (k := m - n) (by omega) (by omega)
    rw [Nat.one_mul] at e3
    rw [show ((1 : Nat) : Int) = 1 from rfl] at e3
    have hpd : 2 ^ (m - n) ≤ 2 ^ 15 := Nat.pow_le_pow_right (by omega) (by omega)
    have hwd : w * 2 ^ (m - n) ≤ 2 ^ 15 * 2 ^ 15 := Nat.mul_le_mul (by omega) hpd
    have hcn := cc_cnt (wv := wv) (ov := ov) (cs := cnts l) (fs := fs) (wh := isWhole l) (lo := lo) (n := m) (cnts_len _) (by omega)
    rw [cnts_get (by omega) (by omega)] at hcn
    have hfn := cc_fst (wv := wv) (ov := ov) (cs := cnts l) (fs := fs) (wh := isWhole l) (lo := lo) (n := m) (cnts_len _) h.fl (by omega)
    rw [h.ff m (by omega) (by omega)] at hfn
    have hfl := fst_le hc (n := m) (by omega) (by omega)
    have key : ∀ i, n < len_ l i → len_ l i < m + 1 → ¬ len_ l i < m → len_ l i = m := fun i h1 h2 h3 => by omega
    generalize hP : w * 2 ^ (m - n) = P at e2 hwd
    generalize hD : 2 ^ (m - n) = D at e3 hpd
    have e4 : ((P : Int) + (D : Int)) = ((P + D : Nat) : Int) := by omega
    have next : (¬ (0 < cnt l m ∧ fst l m < P + D ∧ P < fst l m + cnt l m)) → ∀ i, n < len_ l i → len_ l i < m + 1 → wordOf l i / 2 ^ (len_ l i - n) ≠ w := by
      intro hneg i h1 h2 he
      by_cases h3 : len_ l i < m
      · exact hno i h1 h3 he
      · have h4 : len_ l i = m := by omega
        have h5 := word_in hc (i := i) (by omega)
        rw [h4] at h5 he
        have h6 := div_is h5.2.1 h5.2.2.1 he
        rw [hP, hD] at h6
        exact hneg ⟨by omega, h6.1, h6.2⟩
    by_cases hc1 : 0 < cnt l m
    · have f1 : decide ((0 : Int) < ((cnt l m : Nat) : Int)) = true := decide_eq_true (by omega)
      by_cases hc2 : fst l m < P + D
      · have f2 : decide (((fst l m : Nat) : Int) < ((P + D : Nat) : Int)) = true := decide_eq_true (by omega)
        by_cases hc3 : P < fst l m + cnt l m
        · have f3 : decide ((P : Int) < ((fst l m : Nat) : Int) + ((cnt l m : Nat) : Int)) = true := decide_eq_true (by omega)
          simp -implicitDefEqProofs (maxSteps := 1000000) (disch := first | omega | assumption) only [h0, h1, h2, h7, f0, f1, f2, f3, e1, e2, e3, e4, hcl.2, hcn, hfn, cell_of h.B, l_g, Sx, reduceIte, Nat.reduceEqDiff, reduceCtorEq, Nat.reduceAdd, Nat.reduceSub, Nat.reduceLT]
          refine ⟨true, rfl, by trivial, fun _ => ?_, (fun h => by cases h)⟩
          obtain ⟨x, hx1, hx2, hx3⟩ := div_ex hc1 (by rw [hP, hD]; exact hc2) (by rw [hP]; exact hc3)
          obtain ⟨i, hi1, hi2⟩ := word_ex hc (by omega) hx1 hx2
          exact ⟨i, by omega, by rw [hi1, hi2]; exact hx3⟩
        · have f3 : decide ((P : Int) < ((fst l m : Nat) : Int) + ((cnt l m : Nat) : Int)) = false := decide_eq_false (by omega)
          simp -implicitDefEqProofs (maxSteps := 1000000) (disch := first | omega | assumption) only [h0, h1, h2, h7, f0, f1, f2, f3, e1, e2, e3, e4, hcl.2, hcn, hfn, cell_of h.B, l_g, Sx, reduceIte, Nat.reduceEqDiff, reduceCtorEq, Nat.reduceAdd, Nat.reduceSub, Nat.reduceLT]
          exact ⟨k - 1, by omega, m + 1, by omega, by omega, by trivial, by trivial, by trivial, by simp, next (by omega), by trivial⟩
      · have f2 : decide (((fst l m : Nat) : Int) < ((P + D : Nat) : Int)) = false := decide_eq_false (by omega)
        simp -implicitDefEqProofs (maxSteps := 1000000) (disch := first | omega | assumption) only [h0, h1, h2, h7, f0, f1, f2, e1, e2, e3, e4, hcl.2, hcn, hfn, cell_of h.B, l_g, Sx, reduceIte, Nat.reduceEqDiff, reduceCtorEq, Nat.reduceAdd, Nat.reduceSub, Nat.reduceLT]
        exact ⟨k - 1, by omega, m + 1, by omega, by omega, by trivial, by trivial, by trivial, by simp, next (by omega), by trivial⟩
    · have f1 : decide ((0 : Int) < ((cnt l m : Nat) : Int)) = false := decide_eq_false (by omega)
      simp -implicitDefEqProofs (maxSteps := 1000000) (disch := first | omega | assumption) only [h0, h1, h2, h7, f0, f1, e1, e2, e3, e4, hcl.2, hcn, hfn, cell_of h.B, l_g, Sx, reduceIte, Nat.reduceEqDiff, reduceCtorEq, Nat.reduceAdd, Nat.reduceSub, Nat.reduceLT]
      exact ⟨k - 1, by omega, m + 1, by omega, by omega, by trivial, by trivial, by trivial, by simp, next (by omega), by trivial⟩
  · have f0 : decide ((m : Int) ≤ (lo : Int)) = false := decide_eq_false (by omega)
    simp -implicitDefEqProofs (maxSteps := 1000000) (disch := first | omega | assumption) only [h0, h1, h2, h7, f0, hcl.2, cell_of h.B, Sx, reduceIte, Nat.reduceEqDiff, reduceCtorEq, Nat.reduceAdd, Nat.reduceSub, Nat.reduceLT]
    refine ⟨false, rfl, by trivial, (fun h => by cases h), fun _ i hi => ?_⟩
    have := len_lo hc h.L (i := i) (by omega)
    exact hno i hi (by omega)

end Go.Proofs.YtgbhdpeibiglfaaDoor.S05
