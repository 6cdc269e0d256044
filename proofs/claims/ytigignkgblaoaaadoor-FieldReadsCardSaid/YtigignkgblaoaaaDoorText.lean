/-
  Number and Text, of both.
-/
import Derived.Test.YtigignkgblaoaaaDoorLowD
import Derived.Test.YtigignkgblaoaaaDoorRBinary
import Derived.Test.YtigignkgblaoaaaDoorOctal2
import Derived.Test.YtigignkgblaoaaaDoorStr
set_option linter.unusedVariables false
set_option linter.unusedSimpArgs false
namespace Go.Proofs.YtigignkgblaoaaaDoor.S12
open Go Go.RowKit Go.Proofs.YtigignkgblaoaaaDoor.Sep Go.Proofs.YtigignkgblaoaaaDoor.Low Go.Proofs.YtigignkgblaoaaaDoor.Lib

abbrev numB (l : List Int) : Int × Int := numN octN l
set_option maxHeartbeats 1000000 in
theorem number_spec {H : Heap} {v : Value} {l : List Int} (hv : By H v l) (hb : isBy l) (hl : l.length ≤ 211106232532992) :
    ACalls Tryd.prog 14 [v].toArray H fun e H' => e = .returned (.tuple #[.int .i64 (numB l).1, .int .i64 (numB l).2]) ∧ Keep H H' := by
  have hv0 := hv
  obtain ⟨A, c, rfl, hc, hr⟩ := hv
  refine call14 (Nat.le_of_ble_eq_true rfl) ?_
  unfold L14 env0
  unfold numB numN
  by_cases h0 : 0 < l.length
  · have f0 : decide ((0 : Int) < (l.length : Int)) = true := decide_eq_true (by omega)
    obtain ⟨b, rfl, hx⟩ := by_at hr h0
    have hhd := head_at h0
    have hx0 := hb.at h0
    rw [← hhd] at hx hx0
    rw [add_zero_a] at hx
    have a1 := and128 hx0
    by_cases h1 : 128 ≤ l.headD 0
    · rw [if_pos h1] at a1
      have f1 : ((128 : Int) != 0) = true := rfl
      rw [if_pos ⟨h0, h1⟩]
      simp -implicitDefEqProofs (maxSteps := 1000000) (disch := first | omega | assumption) only [f0, hx, a1, f1, Sx, reduceIte, Nat.reduceEqDiff, reduceCtorEq, Nat.reduceAdd, Nat.reduceSub, Nat.reduceLT, decide_true, decide_false, Bool.not_true, Bool.not_false, Int.toNat_one, Int.toNat_zero, Nat.zero_mul, l_g, endK]
      refine a_call (binary_spec hv0 hb (by omega)) ?_
      rintro e H1 ⟨rfl, rfl⟩
      simp -implicitDefEqProofs (maxSteps := 1000000) (disch := first | omega | assumption) only [Sx, reduceIte, Nat.reduceEqDiff, reduceCtorEq, Nat.reduceAdd, Nat.reduceSub, Nat.reduceLT, decide_true, decide_false, Bool.not_true, Bool.not_false, Int.toNat_one, Int.toNat_zero, Nat.zero_mul, l_g, endK]
      exact ⟨by trivial, Keep.refl _⟩
    · rw [if_neg h1] at a1
      have f1 : ((0 : Int) != 0) = false := rfl
      rw [if_neg (fun h => h1 h.2)]
      simp -implicitDefEqProofs (maxSteps := 1000000) (disch := first | omega | assumption) only [f0, hx, a1, f1, Sx, reduceIte, Nat.reduceEqDiff, reduceCtorEq, Nat.reduceAdd, Nat.reduceSub, Nat.reduceLT, decide_true, decide_false, Bool.not_true, Bool.not_false, Int.toNat_one, Int.toNat_zero, Nat.zero_mul, l_g, endK]
      refine a_call (octal_spec hv0 hb (by omega)) ?_
      rintro e H1 ⟨rfl, hk⟩
      simp -implicitDefEqProofs (maxSteps := 1000000) (disch := first | omega | assumption) only [Sx, reduceIte, Nat.reduceEqDiff, reduceCtorEq, Nat.reduceAdd, Nat.reduceSub, Nat.reduceLT, decide_true, decide_false, Bool.not_true, Bool.not_false, Int.toNat_one, Int.toNat_zero, Nat.zero_mul, l_g, endK]
      exact ⟨by trivial, hk⟩
  · have f0 : decide ((0 : Int) < (l.length : Int)) = false := decide_eq_false (by omega)
    rw [if_neg (fun h => h0 h.1)]
    simp -implicitDefEqProofs (maxSteps := 1000000) (disch := first | omega | assumption) only [f0, Sx, reduceIte, Nat.reduceEqDiff, reduceCtorEq, Nat.reduceAdd, Nat.reduceSub, Nat.reduceLT, decide_true, decide_false, Bool.not_true, Bool.not_false, Int.toNat_one, Int.toNat_zero, Nat.zero_mul, l_g, endK]
    refine a_call (octal_spec hv0 hb (by omega)) ?_
    rintro e H1 ⟨rfl, hk⟩
    simp -implicitDefEqProofs (maxSteps := 1000000) (disch := first | omega | assumption) only [Sx, reduceIte, Nat.reduceEqDiff, reduceCtorEq, Nat.reduceAdd, Nat.reduceSub, Nat.reduceLT, decide_true, decide_false, Bool.not_true, Bool.not_false, Int.toNat_one, Int.toNat_zero, Nat.zero_mul, l_g, endK]
    exact ⟨by trivial, hk⟩
set_option maxHeartbeats 1000000 in
theorem rnumber_spec {H : Heap} {v : Value} {l : List Int} (hv : By H v l) (hb : isBy l) (hl : l.length ≤ 211106232532992) :
    ACalls Tryd.prog 15 [v].toArray H fun e H' => e = .returned (.tuple #[.int .i64 (numB l).1, .int .i64 (numB l).2]) ∧ Keep H H' := by
  have hv0 := hv
  obtain ⟨A, c, rfl, hc, hr⟩ := hv
  refine call15 (Nat.le_of_ble_eq_true rfl) ?_
  unfold L15 env0
  unfold numB numN
  by_cases h0 : 0 < l.length
  · have f0 : decide ((0 : Int) < (l.length : Int)) = true := decide_eq_true (by omega)
    obtain ⟨b, rfl, hx⟩ := by_at hr h0
    have hhd := head_at h0
    rw [← hhd] at hx
    rw [add_zero_a] at hx
    by_cases h1 : 128 ≤ l.headD 0
    · have f1 : decide (128 ≤ l.headD 0) = true := decide_eq_true h1
      rw [if_pos ⟨h0, h1⟩]
      simp -implicitDefEqProofs (maxSteps := 1000000) (disch := first | omega | assumption) only [f0, hx, f1, Sx, reduceIte, Nat.reduceEqDiff, reduceCtorEq, Nat.reduceAdd, Nat.reduceSub, Nat.reduceLT, decide_true, decide_false, Bool.not_true, Bool.not_false, Int.toNat_one, Int.toNat_zero, Nat.zero_mul, l_g, endK]
      refine a_call (rbinary_spec hv0 hb hl) ?_
      rintro e H1 ⟨rfl, hk⟩
      simp -implicitDefEqProofs (maxSteps := 1000000) (disch := first | omega | assumption) only [Sx, reduceIte, Nat.reduceEqDiff, reduceCtorEq, Nat.reduceAdd, Nat.reduceSub, Nat.reduceLT, decide_true, decide_false, Bool.not_true, Bool.not_false, Int.toNat_one, Int.toNat_zero, Nat.zero_mul, l_g, endK]
      exact ⟨by trivial, hk⟩
    · have f1 : decide (128 ≤ l.headD 0) = false := decide_eq_false h1
      rw [if_neg (fun h => h1 h.2)]
      simp -implicitDefEqProofs (maxSteps := 1000000) (disch := first | omega | assumption) only [f0, hx, f1, Sx, reduceIte, Nat.reduceEqDiff, reduceCtorEq, Nat.reduceAdd, Nat.reduceSub, Nat.reduceLT, decide_true, decide_false, Bool.not_true, Bool.not_false, Int.toNat_one, Int.toNat_zero, Nat.zero_mul, l_g, endK]
      refine a_call (roctal_spec hv0 (by omega)) ?_
      rintro e H1 ⟨rfl, rfl⟩
      simp -implicitDefEqProofs (maxSteps := 1000000) (disch := first | omega | assumption) only [Sx, reduceIte, Nat.reduceEqDiff, reduceCtorEq, Nat.reduceAdd, Nat.reduceSub, Nat.reduceLT, decide_true, decide_false, Bool.not_true, Bool.not_false, Int.toNat_one, Int.toNat_zero, Nat.zero_mul, l_g, endK]
      exact ⟨by trivial, Keep.refl _⟩
  · have f0 : decide ((0 : Int) < (l.length : Int)) = false := decide_eq_false (by omega)
    rw [if_neg (fun h => h0 h.1)]
    simp -implicitDefEqProofs (maxSteps := 1000000) (disch := first | omega | assumption) only [f0, Sx, reduceIte, Nat.reduceEqDiff, reduceCtorEq, Nat.reduceAdd, Nat.reduceSub, Nat.reduceLT, decide_true, decide_false, Bool.not_true, Bool.not_false, Int.toNat_one, Int.toNat_zero, Nat.zero_mul, l_g, endK]
    refine a_call (roctal_spec hv0 (by omega)) ?_
    rintro e H1 ⟨rfl, rfl⟩
    simp -implicitDefEqProofs (maxSteps := 1000000) (disch := first | omega | assumption) only [Sx, reduceIte, Nat.reduceEqDiff, reduceCtorEq, Nat.reduceAdd, Nat.reduceSub, Nat.reduceLT, decide_true, decide_false, Bool.not_true, Bool.not_false, Int.toNat_one, Int.toNat_zero, Nat.zero_mul, l_g, endK]
    exact ⟨by trivial, Keep.refl _⟩

/-! ### texts -/
abbrev textB (l : List Int) : List Int := l.takeWhile (· != 0)
theorem idx_by : ∀ {l : List Int}, isBy l → (Go.Lib.indexByte (txt l) 0 = -1 ∧ textB l = l) ∨ (∃ i : Nat, i < l.length ∧ Go.Lib.indexByte (txt l) 0 = i ∧ textB l = l.take i)
  | [], _ => .inl ⟨rfl, rfl⟩
  | x :: l, hb => by
    have hx := hb x List.mem_cons_self
    have ih := idx_by (l := l) fun y hy => hb y (List.mem_cons_of_mem _ hy)
    simp only [txt, List.map_cons] at ih ⊢
    unfold Go.Lib.indexByte
    by_cases h : x = 0
    · subst h
      exact .inr ⟨0, by simp, by simp, by simp [textB]⟩
    · have h' : ¬ (UInt8.ofNat x.toNat == 0) = true := by
        rw [beq_iff_eq]
        intro e
        have e2 := congrArg UInt8.toNat e
        simp only [UInt8.toNat_ofNat', UInt8.toNat_zero] at e2
        omega
      have hne : (x != 0) = true := by rw [bne_iff_ne]; exact h
      rw [if_neg h']
      rcases ih with ⟨h1, h2⟩ | ⟨i, hi, h1, h2⟩
      · rw [h1]
        refine .inl ⟨rfl, ?_⟩
        rw [textB, List.takeWhile_cons, if_pos hne]
        rw [show List.takeWhile (fun x => x != 0) l = l from h2]
      · rw [h1, if_neg (by simp)]
        refine .inr ⟨i + 1, by simp; omega, by simp, ?_⟩
        rw [textB, List.takeWhile_cons, if_pos hne, List.take_succ_cons]
        rw [show List.takeWhile (fun x => x != 0) l = l.take i from h2]
set_option maxHeartbeats 1000000 in
theorem text_spec {H : Heap} {a : Addr} {c : Nat} {l : List Int} (hc : l.length ≤ c) (hr : Row H (some a) (by8 l)) (hb : isBy l) (hl : l.length ≤ 211106232532992) :
    ACalls Tryd.prog 16 [Value.slice (some a) l.length c].toArray H fun e H' => e = .returned (.string ⟨(txt (textB l)).toArray⟩) ∧ Keep H H' := by
  refine call16 (Nat.le_of_ble_eq_true rfl) ?_
  unfold L16 env0
  simp -implicitDefEqProofs (maxSteps := 1000000) (disch := first | omega | assumption) only [Sx, reduceIte, Nat.reduceEqDiff, reduceCtorEq, Nat.reduceAdd, Nat.reduceSub, Nat.reduceLT]
  refine lits_b1 ?_
  intro r1 H1 hO1 hk1 hr1
  try simp -implicitDefEqProofs (maxSteps := 1000000) (disch := first | omega | assumption) only [Sx, reduceIte, Nat.reduceEqDiff, reduceCtorEq, Nat.reduceAdd, Nat.reduceSub, Nat.reduceLT]
  have hr2 := hk1.row hr
  have hcell : H1.cell? ⟨r1, 0, none⟩ = some (.int .u8 0) := by
    obtain ⟨A, c', e, hc', hrow⟩ := own_by hO1
    cases e
    obtain ⟨b, e, h⟩ := hrow.at (i := 0) (by simp)
    cases e
    rw [add_zero_a] at h
    simpa using h
  have hcut : ACalls Tryd.prog 38 [Value.slice (some a) l.length c, .slice (some ⟨r1, 0, none⟩) 1 1].toArray H1 fun e H' => H' = H1 ∧ ∃ (n : Nat) (v2 : Value) (b : Bool), e = .returned (.tuple #[.slice (some a) n c, v2, .bool b]) ∧ textB l = l.take n ∧ n ≤ l.length ∧ scalarV v2 = true := by
    have hidx : ACalls Tryd.prog 50 [Value.slice (some a) l.length c, .slice (some ⟨r1, 0, none⟩) 1 1].toArray H1 fun e H' => e = .returned (.int .i64 (Go.Lib.indexByte (txt l) 0)) ∧ H' = H1 :=
      acalls_of fun w hw => (Tryd.bytes_Index_one_at a l.length c r1 0 1 l 0 w rfl (fun i hi => by
        obtain ⟨b, e, h⟩ := by_at hr2 hi
        cases e
        have := hw.cell h
        rwa [List.getD_eq_getElem?_getD, List.getElem?_eq_getElem hi]) (hw.cell hcell)).mono fun e w' h => h
    refine call38 (Nat.le_of_ble_eq_true rfl) ?_
    unfold L38 env0
    simp -implicitDefEqProofs (maxSteps := 1000000) (disch := first | omega | assumption) only [Sx, reduceIte, Nat.reduceEqDiff, reduceCtorEq, Nat.reduceAdd, Nat.reduceSub, Nat.reduceLT]
    refine a_call hidx ?_
    rintro e H2 ⟨rfl, rfl⟩
    rcases idx_by hb with ⟨h1, h2⟩ | ⟨i, hi, h1, h2⟩
    · rw [h1]
      have f0 : decide ((0 : Int) ≤ -1) = false := by decide
      simp -implicitDefEqProofs (maxSteps := 1000000) (disch := first | omega | assumption) only [f0, Sx, reduceIte, Nat.reduceEqDiff, reduceCtorEq, Nat.reduceAdd, Nat.reduceSub, Nat.reduceLT, decide_true, decide_false, Bool.not_true, Bool.not_false, Int.toNat_one, Int.toNat_zero, Nat.zero_mul, l_g, endK]
      exact ⟨by trivial, _, _, _, rfl, by rw [h2, List.take_length], Nat.le_refl _, rfl⟩
    · rw [h1]
      have f0 : decide ((0 : Int) ≤ (i : Int)) = true := decide_eq_true (by omega)
      have hc1 : (0 : Int) ≤ (i : Int) ∧ (i : Int) ≤ (c : Int) := by omega
      have hc2 : (0 : Int) ≤ (i : Int) + ((1 : Nat) : Int) ∧ (i : Int) + ((1 : Nat) : Int) ≤ (l.length : Int) := by omega
      simp -implicitDefEqProofs (maxSteps := 1000000) (disch := first | omega | assumption) only [f0, ev_slc_hi, ev_slc_lo, Int.toNat_natCast, Sx, reduceIte, Nat.reduceEqDiff, reduceCtorEq, Nat.reduceAdd, Nat.reduceSub, Nat.reduceLT, decide_true, decide_false, Bool.not_true, Bool.not_false, Int.toNat_one, Int.toNat_zero, Nat.zero_mul, l_g, endK]
      exact ⟨by trivial, i, _, _, rfl, h2, by omega, rfl⟩
  refine a_call hcut ?_
  rintro e H2 ⟨rfl, n, v2, b, rfl, ht, hn, hs⟩
  have hrt := row_take (k := n) hr2
  have hlen : (l.take n).length = n := by rw [List.length_take]; omega
  have hb2 : QI.b2s.ev [.slice (some a) n c] H2 = some (.string ⟨(txt (l.take n)).toArray⟩) := by
    have := ev_b2s_by (c := c) hrt
    rwa [hlen] at this
  simp -implicitDefEqProofs (maxSteps := 1000000) (disch := first | omega | assumption) only [hb2, Sx, reduceIte, Nat.reduceEqDiff, reduceCtorEq, Nat.reduceAdd, Nat.reduceSub, Nat.reduceLT, decide_true, decide_false, Bool.not_true, Bool.not_false, Int.toNat_one, Int.toNat_zero, Nat.zero_mul, l_g, endK]
  exact ⟨by rw [ht], hk1⟩
set_option maxHeartbeats 1000000 in
theorem rtext_spec {H : Heap} {v : Value} {l : List Int} (hv : By H v l) (hl : l.length ≤ 211106232532992) :
    ACalls Tryd.prog 17 [v].toArray H fun e H' => e = .returned (.string ⟨(txt (textB l)).toArray⟩) ∧ H' = H := by
  obtain ⟨A, c, rfl, hc, hr⟩ := hv
  refine call17 (Nat.le_of_ble_eq_true rfl) ?_
  unfold L17 env0
  simp -implicitDefEqProofs (maxSteps := 1000000) (disch := first | omega | assumption) only [Sx, reduceIte, Nat.reduceEqDiff, reduceCtorEq, Nat.reduceAdd, Nat.reduceSub, Nat.reduceLT]
  refine c_loop (fun k env H' => H' = H ∧ ∃ i, k + i = l.length ∧ env 0 = .slice A l.length c ∧ env 3 = .int .i64 i ∧ ∀ y ∈ l.take i, (fun x : Int => x != 0) y = true) l.length ⟨rfl, 0, by omega, by simp -implicitDefEqProofs (maxSteps := 1000000) (disch := first | omega | assumption) only [Sx, reduceIte, Nat.reduceEqDiff, reduceCtorEq, Nat.reduceAdd, Nat.reduceSub, Nat.reduceLT], by simp -implicitDefEqProofs (maxSteps := 1000000) (disch := first | omega | assumption) only [Sx, reduceIte, Nat.reduceEqDiff, reduceCtorEq, Nat.reduceAdd, Nat.reduceSub, Nat.reduceLT]; rfl, by simp⟩ ?_
  rintro k env H1 ⟨rfl, i, hk, h0, h3, hy⟩
  unfold L17_0
  by_cases hi : i < l.length
  · have f0 : decide ((i : Int) < (l.length : Int)) = true := decide_eq_true (by omega)
    obtain ⟨b, rfl, hx⟩ := by_at hr hi
    have hstep := all_take_succ hi hy
    have hend := while_split hy
    generalize hxx : l[i] = x at hx hstep
    by_cases h : x = 0
    · have f1 : (x == 0) = true := by rw [beq_iff_eq]; exact h
      obtain ⟨e1, -⟩ := hend fun _ => by rw [hxx, h]; rfl
      have hrt := row_take (k := i) hr
      have hlen : (l.take i).length = i := by rw [List.length_take]; omega
      have hb2 : QI.b2s.ev [.slice (some b) i c] H1 = some (.string ⟨(txt (l.take i)).toArray⟩) := by
        have := ev_b2s_by (c := c) hrt
        rwa [hlen] at this
      have hc1 : (0 : Int) ≤ (i : Int) ∧ (i : Int) ≤ (c : Int) := by omega
      simp -implicitDefEqProofs (maxSteps := 1000000) (disch := first | omega | assumption) only [h0, h3, f0, hx, f1, ev_slc_hi, Int.toNat_natCast, hb2, Sx, reduceIte, Nat.reduceEqDiff, reduceCtorEq, Nat.reduceAdd, Nat.reduceSub, Nat.reduceLT, decide_true, decide_false, Bool.not_true, Bool.not_false, Int.toNat_one, Int.toNat_zero, Nat.zero_mul, l_g, endK]
      exact ⟨by rw [show textB l = l.take i from e1], by trivial⟩
    · have f1 : (x == 0) = false := by rw [beq_eq_false_iff_ne]; exact h
      simp -implicitDefEqProofs (maxSteps := 1000000) (disch := first | omega | assumption) only [h0, h3, f0, hx, f1, Sx, reduceIte, Nat.reduceEqDiff, reduceCtorEq, Nat.reduceAdd, Nat.reduceSub, Nat.reduceLT, decide_true, decide_false, Bool.not_true, Bool.not_false, Int.toNat_one, Int.toNat_zero, Nat.zero_mul, l_g, endK]
      refine ⟨k - 1, by omega, by trivial, i + 1, by omega, by trivial, by simp -implicitDefEqProofs (maxSteps := 1000000) (disch := first | omega | assumption) only [Int.natCast_add, Int.natCast_one, Sx, reduceIte, Nat.reduceEqDiff, reduceCtorEq, Nat.reduceAdd, Nat.reduceSub, Nat.reduceLT], ?_⟩
      have := hstep (by simpa using h)
      simpa using this
  · have f0 : decide ((i : Int) < (l.length : Int)) = false := decide_eq_false (by omega)
    obtain ⟨e1, -⟩ := while_split hy fun h => absurd h hi
    rw [List.take_of_length_le (by omega)] at e1
    have hb2 := ev_b2s_by (c := c) hr
    simp -implicitDefEqProofs (maxSteps := 1000000) (disch := first | omega | assumption) only [h0, h3, f0, hb2, Sx, reduceIte, Nat.reduceEqDiff, reduceCtorEq, Nat.reduceAdd, Nat.reduceSub, Nat.reduceLT, decide_true, decide_false, Bool.not_true, Bool.not_false, Int.toNat_one, Int.toNat_zero, Nat.zero_mul, l_g, endK]
    exact ⟨by rw [show textB l = l from e1], by trivial⟩
end Go.Proofs.YtigignkgblaoaaaDoor.S12
