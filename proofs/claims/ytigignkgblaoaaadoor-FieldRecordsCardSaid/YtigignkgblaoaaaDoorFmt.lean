/-
  strconv.FormatInt to the base 8.
-/
import Derived.Test.YtigignkgblaoaaaDoorLowE
import Derived.Test.YtigignkgblaoaaaDoorOdLaw
import Derived.Test.YtigignkgblaoaaaDoorBytes
set_option linter.unusedVariables false
set_option linter.unusedSimpArgs false
namespace Go.Proofs.YtigignkgblaoaaaDoor.S12
open Go Go.RowKit Go.Proofs.YtigignkgblaoaaaDoor.Sep Go.Proofs.YtigignkgblaoaaaDoor.Low Go.Proofs.YtigignkgblaoaaaDoor.Lib

/-- the one place of the library's table that is looked at -/
def Tz (H : Heap) : Prop := H.cell? ⟨5, 7, none⟩ = some (.int .u8 3)
theorem Tz.keep {H H' : Heap} (h : Tz H) (hk : Keep H H') : Tz H' := hk.cell h
theorem tz_spec {H : Heap} (hT : Tz H) : ACalls Tryd.prog 90 [Value.int .u64 8].toArray H fun e H' => e = .returned (.int .i64 3) ∧ H' = H := by
  refine call90 (Nat.le_of_ble_eq_true rfl) ?_
  unfold L90 env0
  have f0 : ((8 : Int) == 0) = false := rfl
  have f1 : IntKind.u64.wrap (0 - 8) = 18446744073709551608 := by decide
  have f2 : Go.bits .and .u64 8 18446744073709551608 = 8 := by decide
  have f3 : IntKind.u64.wrap (8 * 285870213051353865) = 2286961704410830920 := by decide
  have f4 : (2286961704410830920 : Int).fdiv (2 ^ min (58 : Int).toNat 64) = 7 := by decide
  have f5 : (QI.iada 64 1).ev [.pointer (some ⟨5, 0, none⟩), .int .u64 7] H = some (.pointer (some ⟨5, 7, none⟩)) := rfl
  have f6 : QI.ld.ev [.pointer (some ⟨5, 7, none⟩)] H = some (.int .u8 3) := hT
  simp -implicitDefEqProofs (maxSteps := 1000000) (disch := first | omega | assumption) only [f0, f1, f2, f3, v_shr, bits_u64, f4, e_global, f5, f6, Sx, reduceIte, Nat.reduceEqDiff, reduceCtorEq, Nat.reduceAdd, Nat.reduceSub, Nat.reduceLT, decide_true, decide_false, Bool.not_true, Bool.not_false, Int.toNat_one, Int.toNat_zero, Nat.zero_mul, l_g, endK]
  exact ⟨by trivial, by trivial⟩
theorem tz0_spec {H : Heap} (hT : Tz H) : ACalls Tryd.prog 86 [Value.int .u64 8].toArray H fun e H' => e = .returned (.int .i64 3) ∧ H' = H := by
  refine call86 (Nat.le_of_ble_eq_true rfl) ?_
  unfold L86 env0
  simp -implicitDefEqProofs (maxSteps := 1000000) (disch := first | omega | assumption) only [Sx, reduceIte, Nat.reduceEqDiff, reduceCtorEq, Nat.reduceAdd, Nat.reduceSub, Nat.reduceLT, decide_true, decide_false, Bool.not_true, Bool.not_false, Int.toNat_one, Int.toNat_zero, Nat.zero_mul, l_g, endK]
  refine a_call (tz_spec hT) ?_
  rintro e H1 ⟨rfl, rfl⟩
  simp -implicitDefEqProofs (maxSteps := 1000000) (disch := first | omega | assumption) only [Sx, reduceIte, Nat.reduceEqDiff, reduceCtorEq, Nat.reduceAdd, Nat.reduceSub, Nat.reduceLT, decide_true, decide_false, Bool.not_true, Bool.not_false, Int.toNat_one, Int.toNat_zero, Nat.zero_mul, l_g, endK]
  exact ⟨by trivial, by trivial⟩
theorem pow2_spec {H : Heap} : ACalls Tryd.prog 85 [Value.int .i64 8].toArray H fun e H' => e = .returned (.bool true) ∧ H' = H := by
  refine call85 (Nat.le_of_ble_eq_true rfl) ?_
  unfold L85 env0
  have f0 : Go.bits .and .i64 8 (8 - 1) = 0 := by decide
  have f1 : ((0 : Int) == 0) = true := rfl
  simp -implicitDefEqProofs (maxSteps := 1000000) (disch := first | omega | assumption) only [f0, f1, Sx, reduceIte, Nat.reduceEqDiff, reduceCtorEq, Nat.reduceAdd, Nat.reduceSub, Nat.reduceLT, decide_true, decide_false, Bool.not_true, Bool.not_false, Int.toNat_one, Int.toNat_zero, Nat.zero_mul, l_g, endK]
  exact ⟨by trivial, by trivial⟩
theorem dig_at {H : Heap} {d : Int} (h : 0 ≤ d ∧ d < 8) : QI.ixs.ev [.string ⟨#[48, 49, 50, 51, 52, 53, 54, 55, 56, 57, 97, 98, 99, 100, 101, 102, 103, 104, 105, 106, 107, 108, 109, 110, 111, 112, 113, 114, 115, 116, 117, 118, 119, 120, 121, 122]⟩, .int .u64 d] H = some (.int .u8 (48 + d)) := by
  have : d = 0 ∨ d = 1 ∨ d = 2 ∨ d = 3 ∨ d = 4 ∨ d = 5 ∨ d = 6 ∨ d = 7 := by omega
  rcases this with rfl | rfl | rfl | rfl | rfl | rfl | rfl | rfl <;> rfl
abbrev T65 : TypeId := 95
/-- while digits are written from behind -/
structure FB (H1 : Heap) (r : Nat) (u0 : Int) (neg : Bool) (j : Nat) (env : Env) (H : Heap) : Prop where
  h0 : env 0 = .slice none 0 0
  h3 : env 3 = .bool neg
  h4 : env 4 = .bool false
  h10 : env 10 = .slice none 0 0
  h12 : env 12 = .pointer (some ⟨r, 0, none⟩)
  h13 : env 13 = .int .i64 (65 - j : Nat)
  cells : ∃ cs : List Value, cs.length = 65 ∧ cs.drop (65 - j) = by8 (od j u0) ∧ H = H1.set r (.cells cs.toArray T65 (0, 0))
theorem digit_put {cs : List Value} {j : Nat} {u0 : Int} (hl : cs.length = 65) (hj : j ≤ 64) (hd : cs.drop (65 - j) = by8 (od j u0)) : (cs.set (64 - j) (.int .u8 (48 + u0 / p8 j % 8))).drop (65 - (j + 1)) = by8 (od (j + 1) u0) := by
  have e : 65 - (j + 1) = 64 - j := by omega
  rw [e, List.drop_eq_getElem_cons (by rw [List.length_set]; omega), List.getElem_set_self, List.drop_set_of_lt (by omega), show 64 - j + 1 = 65 - j by omega, hd]
  rfl
theorem ev_b2s_set {H1 : Heap} {r i : Nat} {cs : List Value} {ds : List Int} (hl : cs.length = 65) (hi : i ≤ 65) (hd : cs.drop i = by8 ds) : QI.b2s.ev [.slice (some (cutP ⟨r, 0, none⟩ 65 i 1)) (65 - i) (65 - i)] (H1.set r (.cells cs.toArray T65 (0, 0))) = some (.string ⟨(txt ds).toArray⟩) := by
  have hds : ds.length = 65 - i := by have := congrArg List.length hd; simpa [hl] using this.symm
  rw [← hds]
  by_cases h65 : 65 = i
  · have : ds = [] := List.length_eq_zero_iff.1 (by omega)
    subst this
    exact ev_b2s_by (l := []) (c := 0) fun k v hv => by simp at hv
  · refine ev_b2s_by fun k v hv => ⟨_, rfl, ?_⟩
    unfold cutP
    rw [if_neg h65, add_mk, add_mk, cell_of set_same, List.getElem?_toArray, ← hv, ← hd, List.getElem?_drop]
    congr 1
    omega
theorem few_of {u0 : Int} {j : Nat} (h0 : 0 ≤ u0) (h1 : u0 < 18446744073709551616) (hlt : u0 / p8 j < 8) (hf : j = 0 ∨ p8 j ≤ u0) : Few (j + 1) u0 ∧ j ≤ 21 := by
  have hj : j ≤ 21 := by
    rcases hf with h | h
    · omega
    · exact p8_small (by omega)
  refine ⟨⟨by omega, by omega, ?_, ?_⟩, hj⟩
  · rw [p8]
    have hp := p8_pos j
    exact Int.lt_of_not_ge fun hge => by
      have : 8 ≤ u0 / p8 j := (Int.le_ediv_iff_mul_le hp).2 (by rw [Int.mul_comm]; exact hge)
      omega
  · rcases hf with h | h
    · exact .inl (by omega)
    · exact .inr (by rw [Nat.add_sub_cancel]; exact h)
set_option maxHeartbeats 4000000 in
theorem fb_end {H1 H : Heap} {r : Nat} {u0 : Int} {neg : Bool} {k : Nat} {env : Env} {Q : Post} {QP : List PanicEntry → Heap → Prop} (hk : 1 ≤ k) (hk2 : k ≤ 22) (hF : FB H1 r u0 neg k env H)
    (hq : ∀ env' H', env' 10 = .slice none 0 0 → env' 11 = .string ⟨(txt ((if neg then [45] else []) ++ od k u0)).toArray⟩ → (∃ o, H' = H1.set r o) → Q .ret env' H') : awpC Tryd.prog L71_3 Q QP env H := by
  obtain ⟨h0, h3, h4, h10, h12, h13, cs, hl, hd, rfl⟩ := hF
  unfold L71_3
  cases neg with
  | false =>
    have hc : (0 : Int) ≤ ((65 - k : Nat) : Int) ∧ ((65 - k : Nat) : Int) ≤ ((65 : Nat) : Int) := by omega
    have hb := ev_b2s_set (H1 := H1) (r := r) hl (by omega : 65 - k ≤ 65) hd
    simp -implicitDefEqProofs (maxSteps := 1000000) (disch := first | omega | assumption) only [h0, h3, h4, h10, h12, h13, Sx, reduceIte, Nat.reduceEqDiff, reduceCtorEq, Nat.reduceAdd, Nat.reduceSub, Nat.reduceLT, decide_true, decide_false, Bool.not_true, Bool.not_false, Int.toNat_one, Int.toNat_zero, Nat.zero_mul, l_g, endK]
    unfold L71_2
    simp -implicitDefEqProofs (maxSteps := 1000000) (disch := first | omega | assumption) only [h0, h3, h4, h10, h12, h13, ev_sla_lo, Int.toNat_natCast, hb, Sx, reduceIte, Nat.reduceEqDiff, reduceCtorEq, Nat.reduceAdd, Nat.reduceSub, Nat.reduceLT, decide_true, decide_false, Bool.not_true, Bool.not_false, Int.toNat_one, Int.toNat_zero, Nat.zero_mul, l_g, endK]
    exact hq _ _ (by simp -implicitDefEqProofs (maxSteps := 1000000) (disch := first | omega | assumption) only [h10, Sx, reduceIte, Nat.reduceEqDiff, reduceCtorEq, Nat.reduceAdd, Nat.reduceSub, Nat.reduceLT]) (by simp -implicitDefEqProofs (maxSteps := 1000000) (disch := first | omega | assumption) only [Sx, reduceIte, Nat.reduceEqDiff, reduceCtorEq, Nat.reduceAdd, Nat.reduceSub, Nat.reduceLT]; rfl) ⟨_, rfl⟩
  | true =>
    have e1 : ((65 - k : Nat) : Int) - 1 = ((64 - k : Nat) : Int) := by omega
    have hc : (0 : Int) ≤ ((64 - k : Nat) : Int) ∧ ((64 - k : Nat) : Int) < ((65 : Nat) : Int) := by omega
    have hc2 : (0 : Int) ≤ ((64 - k : Nat) : Int) ∧ ((64 - k : Nat) : Int) ≤ ((65 : Nat) : Int) := by omega
    simp -implicitDefEqProofs (maxSteps := 1000000) (disch := first | omega | assumption) only [h0, h3, h4, h10, h12, h13, e1, ev_iada, Int.toNat_natCast, Sx, reduceIte, Nat.reduceEqDiff, reduceCtorEq, Nat.reduceAdd, Nat.reduceSub, Nat.reduceLT, decide_true, decide_false, Bool.not_true, Bool.not_false, Int.toNat_one, Int.toNat_zero, Nat.zero_mul, l_g, endK]
    refine st_one set_same (by rw [List.size_toArray, hl]; omega) rfl ?_
    rw [set_set, List.setIfInBounds_toArray]
    have hd2 : (cs.set (64 - k) (.int .u8 45)).drop (64 - k) = by8 (45 :: od k u0) := by
      rw [List.drop_eq_getElem_cons (by rw [List.length_set]; omega), List.getElem_set_self, List.drop_set_of_lt (by omega), show 64 - k + 1 = 65 - k by omega, hd]
      rfl
    have hb := ev_b2s_set (H1 := H1) (r := r) (by rw [List.length_set]; exact hl) (by omega : 64 - k ≤ 65) hd2
    generalize cs.set (64 - k) (.int .u8 45) = cs2 at hb ⊢
    try simp -implicitDefEqProofs (maxSteps := 1000000) (disch := first | omega | assumption) only [h0, h3, h4, h10, h12, h13, Sx, reduceIte, Nat.reduceEqDiff, reduceCtorEq, Nat.reduceAdd, Nat.reduceSub, Nat.reduceLT, decide_true, decide_false, Bool.not_true, Bool.not_false, Int.toNat_one, Int.toNat_zero, Nat.zero_mul, l_g, endK]
    unfold L71_2
    simp -implicitDefEqProofs (maxSteps := 1000000) (disch := first | omega | assumption) only [h0, h3, h4, h10, h12, h13, ev_sla_lo, Int.toNat_natCast, hb, Sx, reduceIte, Nat.reduceEqDiff, reduceCtorEq, Nat.reduceAdd, Nat.reduceSub, Nat.reduceLT, decide_true, decide_false, Bool.not_true, Bool.not_false, Int.toNat_one, Int.toNat_zero, Nat.zero_mul, l_g, endK]
    exact hq _ _ (by simp -implicitDefEqProofs (maxSteps := 1000000) (disch := first | omega | assumption) only [h10, Sx, reduceIte, Nat.reduceEqDiff, reduceCtorEq, Nat.reduceAdd, Nat.reduceSub, Nat.reduceLT]) (by simp -implicitDefEqProofs (maxSteps := 1000000) (disch := first | omega | assumption) only [Sx, reduceIte, Nat.reduceEqDiff, reduceCtorEq, Nat.reduceAdd, Nat.reduceSub, Nat.reduceLT]; rfl) ⟨_, rfl⟩

set_option maxHeartbeats 4000000 in
theorem fb_4 {H1 H : Heap} {r : Nat} {u0 : Int} {neg : Bool} {env : Env} {Q : Post} {QP : List PanicEntry → Heap → Prop} (hT : Tz H) (hu : 0 ≤ u0 ∧ u0 < 18446744073709551616) (hF : FB H1 r u0 neg 0 env H) (h1 : env 1 = .int .u64 u0) (h2 : env 2 = .int .i64 8)
    (hq : ∀ k, Few k u0 → ∀ env' H', env' 10 = .slice none 0 0 → env' 11 = .string ⟨(txt ((if neg then [45] else []) ++ od k u0)).toArray⟩ → (∃ o, H' = H1.set r o) → Q .ret env' H') : awpC Tryd.prog L71_4 Q QP env H := by
  unfold L71_4
  obtain ⟨h0, h3, h4, h10, h12, h13, cs0, hl0, hd0, hH⟩ := hF
  have w8 : IntKind.u64.wrap 8 = 8 := by decide
  have w3 : IntKind.u64.wrap 3 = 3 := by decide
  have w7 : IntKind.u64.wrap (8 - 1) = 7 := by decide
  simp -implicitDefEqProofs (maxSteps := 1000000) (disch := first | omega | assumption) only [h0, h1, h2, h3, h4, h10, h12, h13, Sx, reduceIte, Nat.reduceEqDiff, reduceCtorEq, Nat.reduceAdd, Nat.reduceSub, Nat.reduceLT, decide_true, decide_false, Bool.not_true, Bool.not_false, Int.toNat_one, Int.toNat_zero, Nat.zero_mul, l_g, endK]
  refine a_call pow2_spec ?_
  rintro e H2 ⟨rfl, rfl⟩
  simp -implicitDefEqProofs (maxSteps := 1000000) (disch := first | omega | assumption) only [h0, h1, h2, h3, h4, h10, h12, h13, w8, Sx, reduceIte, Nat.reduceEqDiff, reduceCtorEq, Nat.reduceAdd, Nat.reduceSub, Nat.reduceLT, decide_true, decide_false, Bool.not_true, Bool.not_false, Int.toNat_one, Int.toNat_zero, Nat.zero_mul, l_g, endK]
  refine a_call (tz0_spec hT) ?_
  rintro e H2 ⟨rfl, rfl⟩
  simp -implicitDefEqProofs (maxSteps := 1000000) (disch := first | omega | assumption) only [h0, h1, h2, h3, h4, h10, h12, h13, w8, w3, w7, Sx, reduceIte, Nat.reduceEqDiff, reduceCtorEq, Nat.reduceAdd, Nat.reduceSub, Nat.reduceLT, decide_true, decide_false, Bool.not_true, Bool.not_false, Int.toNat_one, Int.toNat_zero, Nat.zero_mul, l_g, endK]
  refine c_loop (fun k env H' => ∃ j, k + j = 21 ∧ FB H1 r u0 neg j env H' ∧ env 1 = .int .u64 (u0 / p8 j) ∧ env 14 = .int .u64 3 ∧ env 15 = .int .u64 8 ∧ env 16 = .int .u64 7 ∧ (j = 0 ∨ p8 j ≤ u0)) 21
    ⟨0, by omega, ⟨by simp -implicitDefEqProofs (maxSteps := 1000000) (disch := first | omega | assumption) only [h0, Sx, reduceIte, Nat.reduceEqDiff, reduceCtorEq, Nat.reduceAdd, Nat.reduceSub, Nat.reduceLT], by simp -implicitDefEqProofs (maxSteps := 1000000) (disch := first | omega | assumption) only [h3, Sx, reduceIte, Nat.reduceEqDiff, reduceCtorEq, Nat.reduceAdd, Nat.reduceSub, Nat.reduceLT], by simp -implicitDefEqProofs (maxSteps := 1000000) (disch := first | omega | assumption) only [h4, Sx, reduceIte, Nat.reduceEqDiff, reduceCtorEq, Nat.reduceAdd, Nat.reduceSub, Nat.reduceLT], by simp -implicitDefEqProofs (maxSteps := 1000000) (disch := first | omega | assumption) only [h10, Sx, reduceIte, Nat.reduceEqDiff, reduceCtorEq, Nat.reduceAdd, Nat.reduceSub, Nat.reduceLT], by simp -implicitDefEqProofs (maxSteps := 1000000) (disch := first | omega | assumption) only [h12, Sx, reduceIte, Nat.reduceEqDiff, reduceCtorEq, Nat.reduceAdd, Nat.reduceSub, Nat.reduceLT], by simp -implicitDefEqProofs (maxSteps := 1000000) (disch := first | omega | assumption) only [h13, Sx, reduceIte, Nat.reduceEqDiff, reduceCtorEq, Nat.reduceAdd, Nat.reduceSub, Nat.reduceLT], cs0, hl0, hd0, hH⟩, by rw [p8, Int.ediv_one]; simp -implicitDefEqProofs (maxSteps := 1000000) (disch := first | omega | assumption) only [h1, Sx, reduceIte, Nat.reduceEqDiff, reduceCtorEq, Nat.reduceAdd, Nat.reduceSub, Nat.reduceLT], by simp -implicitDefEqProofs (maxSteps := 1000000) (disch := first | omega | assumption) only [Sx, reduceIte, Nat.reduceEqDiff, reduceCtorEq, Nat.reduceAdd, Nat.reduceSub, Nat.reduceLT], by simp -implicitDefEqProofs (maxSteps := 1000000) (disch := first | omega | assumption) only [Sx, reduceIte, Nat.reduceEqDiff, reduceCtorEq, Nat.reduceAdd, Nat.reduceSub, Nat.reduceLT], by simp -implicitDefEqProofs (maxSteps := 1000000) (disch := first | omega | assumption) only [Sx, reduceIte, Nat.reduceEqDiff, reduceCtorEq, Nat.reduceAdd, Nat.reduceSub, Nat.reduceLT], .inl rfl⟩ ?_
  rintro k env2 H3 ⟨j, hk, ⟨g0, g3, g4, g10, g12, g13, cs, hl, hd, rfl⟩, g1, g14, g15, g16, hfew⟩
  unfold L71_0
  have hdiv0 : 0 ≤ u0 / p8 j := Int.ediv_nonneg hu.1 (by have := p8_pos j; omega)
  have hdiv1 : u0 / p8 j ≤ u0 := Int.ediv_le_self _ hu.1
  have e1 : ((65 - j : Nat) : Int) - 1 = ((64 - j : Nat) : Int) := by omega
  have hc : (0 : Int) ≤ ((64 - j : Nat) : Int) ∧ ((64 - j : Nat) : Int) < ((65 : Nat) : Int) := by omega
  have hput := digit_put hl (by omega : j ≤ 64) hd
  by_cases h8 : 8 ≤ u0 / p8 j
  · have f0 : decide ((8 : Int) ≤ u0 / p8 j) = true := decide_eq_true h8
    have a7 := and7 (u := u0 / p8 j) (by omega)
    have hdig := dig_at (H := H1.set r (.cells cs.toArray T65 (0, 0))) (d := u0 / p8 j % 8) (by omega)
    have hfd : (u0 / p8 j).fdiv (2 ^ min (3 : Int).toNat 64) = u0 / p8 (j + 1) := by
      rw [show (2 : Int) ^ min (3 : Int).toNat 64 = 8 by decide, Int.fdiv_eq_ediv_of_nonneg _ (by omega), p8_div]
    have hge : p8 (j + 1) ≤ u0 := by
      have h9 := (Int.le_ediv_iff_mul_le (p8_pos j)).1 h8
      rw [p8, Int.mul_comm]; exact h9
    have hj20 : j + 1 ≤ 21 := p8_small (by omega)
    simp -implicitDefEqProofs (maxSteps := 1000000) (disch := first | omega | assumption) only [g0, g1, g3, g4, g10, g12, g13, g14, g15, g16, f0, e1, a7, hdig, ev_iada, Int.toNat_natCast, Sx, reduceIte, Nat.reduceEqDiff, reduceCtorEq, Nat.reduceAdd, Nat.reduceSub, Nat.reduceLT, decide_true, decide_false, Bool.not_true, Bool.not_false, Int.toNat_one, Int.toNat_zero, Nat.zero_mul, l_g, endK]
    refine st_one set_same (by rw [List.size_toArray, hl]; omega) rfl ?_
    rw [set_set, List.setIfInBounds_toArray]
    simp -implicitDefEqProofs (maxSteps := 1000000) (disch := first | omega | assumption) only [g0, g1, g3, g4, g10, g12, g13, g14, g15, g16, v_shr, bits_u64, hfd, Sx, reduceIte, Nat.reduceEqDiff, reduceCtorEq, Nat.reduceAdd, Nat.reduceSub, Nat.reduceLT, decide_true, decide_false, Bool.not_true, Bool.not_false, Int.toNat_one, Int.toNat_zero, Nat.zero_mul, l_g, endK]
    refine ⟨k - 1, by omega, j + 1, by omega, ⟨by trivial, by trivial, by trivial, by trivial, by trivial, ?_, cs.set (64 - j) (.int .u8 (48 + u0 / p8 j % 8)), by rw [List.length_set]; exact hl, hput, rfl⟩, by trivial, by trivial, by trivial, by trivial, .inr hge⟩
    rw [show 65 - (j + 1) = 64 - j by omega]
    simp -implicitDefEqProofs (maxSteps := 1000000) (disch := first | omega | assumption) only [Sx, reduceIte, Nat.reduceEqDiff, reduceCtorEq, Nat.reduceAdd, Nat.reduceSub, Nat.reduceLT]
  · have f0 : decide ((8 : Int) ≤ u0 / p8 j) = false := decide_eq_false h8
    obtain ⟨hfw, hj21⟩ := few_of hu.1 hu.2 (by omega) hfew
    have hdig := dig_at (H := H1.set r (.cells cs.toArray T65 (0, 0))) (d := u0 / p8 j) (by omega)
    have hmod : u0 / p8 j % 8 = u0 / p8 j := Int.emod_eq_of_lt hdiv0 (by omega)
    rw [hmod] at hput
    simp -implicitDefEqProofs (maxSteps := 1000000) (disch := first | omega | assumption) only [g0, g1, g3, g4, g10, g12, g13, g14, g15, g16, f0, e1, hdig, ev_iada, Int.toNat_natCast, Sx, reduceIte, Nat.reduceEqDiff, reduceCtorEq, Nat.reduceAdd, Nat.reduceSub, Nat.reduceLT, decide_true, decide_false, Bool.not_true, Bool.not_false, Int.toNat_one, Int.toNat_zero, Nat.zero_mul, l_g, endK]
    refine st_one set_same (by rw [List.size_toArray, hl]; omega) rfl ?_
    rw [set_set, List.setIfInBounds_toArray]
    try simp -implicitDefEqProofs (maxSteps := 1000000) (disch := first | omega | assumption) only [g0, g1, g3, g4, g10, g12, g13, g14, g15, g16, Sx, reduceIte, Nat.reduceEqDiff, reduceCtorEq, Nat.reduceAdd, Nat.reduceSub, Nat.reduceLT, decide_true, decide_false, Bool.not_true, Bool.not_false, Int.toNat_one, Int.toNat_zero, Nat.zero_mul, l_g, endK]
    refine fb_end (k := j + 1) (by omega) (by omega) ⟨by simp -implicitDefEqProofs (maxSteps := 1000000) (disch := first | omega | assumption) only [g0, Sx, reduceIte, Nat.reduceEqDiff, reduceCtorEq, Nat.reduceAdd, Nat.reduceSub, Nat.reduceLT], by simp -implicitDefEqProofs (maxSteps := 1000000) (disch := first | omega | assumption) only [g3, Sx, reduceIte, Nat.reduceEqDiff, reduceCtorEq, Nat.reduceAdd, Nat.reduceSub, Nat.reduceLT], by simp -implicitDefEqProofs (maxSteps := 1000000) (disch := first | omega | assumption) only [g4, Sx, reduceIte, Nat.reduceEqDiff, reduceCtorEq, Nat.reduceAdd, Nat.reduceSub, Nat.reduceLT], by simp -implicitDefEqProofs (maxSteps := 1000000) (disch := first | omega | assumption) only [g10, Sx, reduceIte, Nat.reduceEqDiff, reduceCtorEq, Nat.reduceAdd, Nat.reduceSub, Nat.reduceLT], by simp -implicitDefEqProofs (maxSteps := 1000000) (disch := first | omega | assumption) only [g12, Sx, reduceIte, Nat.reduceEqDiff, reduceCtorEq, Nat.reduceAdd, Nat.reduceSub, Nat.reduceLT], by rw [show 65 - (j + 1) = 64 - j by omega]; simp -implicitDefEqProofs (maxSteps := 1000000) (disch := first | omega | assumption) only [Sx, reduceIte, Nat.reduceEqDiff, reduceCtorEq, Nat.reduceAdd, Nat.reduceSub, Nat.reduceLT], _, by rw [List.length_set]; exact hl, hput, rfl⟩ (hq _ hfw)
theorem rep65 : (Array.replicate 65 (Value.int .u8 0)) = (List.replicate 65 (Value.int .u8 0)).toArray := by
  apply Array.ext'
  rw [Array.toList_replicate]
set_option maxHeartbeats 4000000 in
theorem fbits_spec {H : Heap} {u0 u1 : Int} {neg : Bool} (hT : Tz H) (hu : 0 ≤ u0 ∧ u0 < 18446744073709551616) (hu1 : u1 = if neg then IntKind.u64.wrap (0 - u0) else u0) :
    ACalls Tryd.prog 71 [Value.slice none 0 0, .int .u64 u0, .int .i64 8, .bool neg, .bool false].toArray H fun e H' => ∃ k, Few k u1 ∧ e = .returned (.tuple #[.slice none 0 0, .string ⟨(txt ((if neg then [45] else []) ++ od k u1)).toArray⟩]) ∧ Keep H H' := by
  refine call71 (Nat.le_of_ble_eq_true rfl) ?_
  unfold L71 env0
  have f0 : decide ((8 : Int) < 2) = false := by decide
  have f1 : ((8 : Int) == 10) = false := by decide
  have f2 : decide ((36 : Int) < 8) = false := by decide
  have hu1b : 0 ≤ u1 ∧ u1 < 18446744073709551616 := by
    rw [hu1]
    cases neg with
    | false => exact hu
    | true =>
      simp only [if_true]
      unfold IntKind.wrap IntKind.bits IntKind.signed
      simp only [Bool.false_and, Bool.false_eq_true, if_false]
      have : (2 ^ 64 : Int) = 18446744073709551616 := by decide
      omega
  simp -implicitDefEqProofs (maxSteps := 1000000) (disch := first | omega | assumption) only [f0, f1, f2, Sx, reduceIte, Nat.reduceEqDiff, reduceCtorEq, Nat.reduceAdd, Nat.reduceSub, Nat.reduceLT, decide_true, decide_false, Bool.not_true, Bool.not_false, Int.toNat_one, Int.toNat_zero, Nat.zero_mul, l_g, endK]
  unfold L71_5
  simp -implicitDefEqProofs (maxSteps := 1000000) (disch := first | omega | assumption) only [Sx, reduceIte, Nat.reduceEqDiff, reduceCtorEq, Nat.reduceAdd, Nat.reduceSub, Nat.reduceLT]
  refine a_new ?_
  intro r hr
  rw [rep65]
  have hkeep : ∀ o, Keep H (H.set r o) := fun o => (Keep.refl H).set_new hr
  have fin : ∀ k, Few k u1 → ∀ env' H', env' 10 = .slice none 0 0 → env' 11 = .string ⟨(txt ((if neg then [45] else []) ++ od k u1)).toArray⟩ → (∃ o, H' = H.set r o) → retQ [.t 10, .t 11] (fun e H' => ∃ k, Few k u1 ∧ e = .returned (.tuple #[.slice none 0 0, .string ⟨(txt ((if neg then [45] else []) ++ od k u1)).toArray⟩]) ∧ Keep H H') .ret env' H' := by
    rintro k hk env' H' e10 e11 ⟨o, rfl⟩
    simp -implicitDefEqProofs (maxSteps := 1000000) (disch := first | omega | assumption) only [e10, e11, Sx, reduceIte, Nat.reduceEqDiff, reduceCtorEq, Nat.reduceAdd, Nat.reduceSub, Nat.reduceLT]
    exact ⟨k, hk, rfl, hkeep o⟩
  cases neg with
  | false =>
    simp only [Bool.false_eq_true, if_false] at hu1
    subst hu1
    try simp -implicitDefEqProofs (maxSteps := 1000000) (disch := first | omega | assumption) only [Sx, reduceIte, Nat.reduceEqDiff, reduceCtorEq, Nat.reduceAdd, Nat.reduceSub, Nat.reduceLT, decide_true, decide_false, Bool.not_true, Bool.not_false, Int.toNat_one, Int.toNat_zero, Nat.zero_mul, l_g, endK]
    refine fb_4 (H1 := H) (r := r) (hT.keep (hkeep _)) hu ⟨by simp -implicitDefEqProofs (maxSteps := 1000000) (disch := first | omega | assumption) only [Sx, reduceIte, Nat.reduceEqDiff, reduceCtorEq, Nat.reduceAdd, Nat.reduceSub, Nat.reduceLT], by simp -implicitDefEqProofs (maxSteps := 1000000) (disch := first | omega | assumption) only [Sx, reduceIte, Nat.reduceEqDiff, reduceCtorEq, Nat.reduceAdd, Nat.reduceSub, Nat.reduceLT], by simp -implicitDefEqProofs (maxSteps := 1000000) (disch := first | omega | assumption) only [Sx, reduceIte, Nat.reduceEqDiff, reduceCtorEq, Nat.reduceAdd, Nat.reduceSub, Nat.reduceLT], by simp -implicitDefEqProofs (maxSteps := 1000000) (disch := first | omega | assumption) only [Sx, reduceIte, Nat.reduceEqDiff, reduceCtorEq, Nat.reduceAdd, Nat.reduceSub, Nat.reduceLT], by simp -implicitDefEqProofs (maxSteps := 1000000) (disch := first | omega | assumption) only [Sx, reduceIte, Nat.reduceEqDiff, reduceCtorEq, Nat.reduceAdd, Nat.reduceSub, Nat.reduceLT], by simp -implicitDefEqProofs (maxSteps := 1000000) (disch := first | omega | assumption) only [Sx, reduceIte, Nat.reduceEqDiff, reduceCtorEq, Nat.reduceAdd, Nat.reduceSub, Nat.reduceLT]; rfl, List.replicate 65 (.int .u8 0), List.length_replicate, by rw [List.drop_of_length_le (by rw [List.length_replicate]; omega)]; rfl, rfl⟩ (by simp -implicitDefEqProofs (maxSteps := 1000000) (disch := first | omega | assumption) only [Sx, reduceIte, Nat.reduceEqDiff, reduceCtorEq, Nat.reduceAdd, Nat.reduceSub, Nat.reduceLT]) (by simp -implicitDefEqProofs (maxSteps := 1000000) (disch := first | omega | assumption) only [Sx, reduceIte, Nat.reduceEqDiff, reduceCtorEq, Nat.reduceAdd, Nat.reduceSub, Nat.reduceLT]) fin
  | true =>
    simp only [if_true] at hu1
    rw [show (0 : Int) - u0 = -u0 by omega] at hu1
    have hneg : unV .neg (.int .u64 u0) = some (.int .u64 u1) := by rw [u_neg, show (0 : Int) - u0 = -u0 by omega, hu1]
    try simp -implicitDefEqProofs (maxSteps := 1000000) (disch := first | omega | assumption) only [hneg, Sx, reduceIte, Nat.reduceEqDiff, reduceCtorEq, Nat.reduceAdd, Nat.reduceSub, Nat.reduceLT, decide_true, decide_false, Bool.not_true, Bool.not_false, Int.toNat_one, Int.toNat_zero, Nat.zero_mul, l_g, endK]
    refine fb_4 (H1 := H) (r := r) (hT.keep (hkeep _)) hu1b ⟨by simp -implicitDefEqProofs (maxSteps := 1000000) (disch := first | omega | assumption) only [Sx, reduceIte, Nat.reduceEqDiff, reduceCtorEq, Nat.reduceAdd, Nat.reduceSub, Nat.reduceLT], by simp -implicitDefEqProofs (maxSteps := 1000000) (disch := first | omega | assumption) only [Sx, reduceIte, Nat.reduceEqDiff, reduceCtorEq, Nat.reduceAdd, Nat.reduceSub, Nat.reduceLT], by simp -implicitDefEqProofs (maxSteps := 1000000) (disch := first | omega | assumption) only [Sx, reduceIte, Nat.reduceEqDiff, reduceCtorEq, Nat.reduceAdd, Nat.reduceSub, Nat.reduceLT], by simp -implicitDefEqProofs (maxSteps := 1000000) (disch := first | omega | assumption) only [Sx, reduceIte, Nat.reduceEqDiff, reduceCtorEq, Nat.reduceAdd, Nat.reduceSub, Nat.reduceLT], by simp -implicitDefEqProofs (maxSteps := 1000000) (disch := first | omega | assumption) only [Sx, reduceIte, Nat.reduceEqDiff, reduceCtorEq, Nat.reduceAdd, Nat.reduceSub, Nat.reduceLT], by simp -implicitDefEqProofs (maxSteps := 1000000) (disch := first | omega | assumption) only [Sx, reduceIte, Nat.reduceEqDiff, reduceCtorEq, Nat.reduceAdd, Nat.reduceSub, Nat.reduceLT]; rfl, List.replicate 65 (.int .u8 0), List.length_replicate, by rw [List.drop_of_length_le (by rw [List.length_replicate]; omega)]; rfl, rfl⟩ (by simp -implicitDefEqProofs (maxSteps := 1000000) (disch := first | omega | assumption) only [Sx, reduceIte, Nat.reduceEqDiff, reduceCtorEq, Nat.reduceAdd, Nat.reduceSub, Nat.reduceLT]) (by simp -implicitDefEqProofs (maxSteps := 1000000) (disch := first | omega | assumption) only [Sx, reduceIte, Nat.reduceEqDiff, reduceCtorEq, Nat.reduceAdd, Nat.reduceSub, Nat.reduceLT]) fin
/-- FormatInt to the base 8 -/
theorem fmt8_spec {H : Heap} {n : Int} (hT : Tz H) (hn : -9223372036854775808 ≤ n ∧ n ≤ 9223372036854775807) :
    ACalls Tryd.prog 39 [Value.int .i64 n, .int .i64 8].toArray H fun e H' => ∃ s, e = .returned (.string ⟨(txt s).toArray⟩) ∧ s.length ≤ 23 ∧ (0 ≤ n → ∃ k, Few k n ∧ s = od k n) ∧ Keep H H' := by
  have inner : ACalls Tryd.prog 51 [Value.int .i64 n, .int .i64 8].toArray H fun e H' => ∃ s, e = .returned (.string ⟨(txt s).toArray⟩) ∧ s.length ≤ 23 ∧ (0 ≤ n → ∃ k, Few k n ∧ s = od k n) ∧ Keep H H' := by
    refine call51 (Nat.le_of_ble_eq_true rfl) ?_
    unfold L51 env0
    have f0 : ((8 : Int) == 10) = false := by decide
    have hu : 0 ≤ IntKind.u64.wrap n ∧ IntKind.u64.wrap n < 18446744073709551616 := by
      unfold IntKind.wrap IntKind.bits IntKind.signed
      simp only [Bool.false_and, Bool.false_eq_true, if_false]
      have : (2 ^ 64 : Int) = 18446744073709551616 := by decide
      omega
    by_cases h0 : n < 0
    · have f1 : decide (n < 0) = true := decide_eq_true h0
      simp -implicitDefEqProofs (maxSteps := 1000000) (disch := first | omega | assumption) only [f0, f1, Sx, reduceIte, Nat.reduceEqDiff, reduceCtorEq, Nat.reduceAdd, Nat.reduceSub, Nat.reduceLT, decide_true, decide_false, Bool.not_true, Bool.not_false, Int.toNat_one, Int.toNat_zero, Nat.zero_mul, l_g, endK]
      refine a_call (fbits_spec (neg := true) hT hu rfl) ?_
      rintro e H1 ⟨k, hk, rfl, hk1⟩
      simp -implicitDefEqProofs (maxSteps := 1000000) (disch := first | omega | assumption) only [Sx, reduceIte, Nat.reduceEqDiff, reduceCtorEq, Nat.reduceAdd, Nat.reduceSub, Nat.reduceLT, decide_true, decide_false, Bool.not_true, Bool.not_false, Int.toNat_one, Int.toNat_zero, Nat.zero_mul, l_g, endK]
      exact ⟨_, rfl, by have := hk.2.1; simp [od_len]; omega, fun h => absurd h (by omega), hk1⟩
    · have f1 : decide (n < 0) = false := decide_eq_false h0
      have hw : IntKind.u64.wrap n = n := w_u64 (by omega)
      rw [hw] at hu
      simp -implicitDefEqProofs (maxSteps := 1000000) (disch := first | omega | assumption) only [f0, f1, hw, Sx, reduceIte, Nat.reduceEqDiff, reduceCtorEq, Nat.reduceAdd, Nat.reduceSub, Nat.reduceLT, decide_true, decide_false, Bool.not_true, Bool.not_false, Int.toNat_one, Int.toNat_zero, Nat.zero_mul, l_g, endK]
      refine a_call (fbits_spec (neg := false) hT hu rfl) ?_
      rintro e H1 ⟨k, hk, rfl, hk1⟩
      simp -implicitDefEqProofs (maxSteps := 1000000) (disch := first | omega | assumption) only [Sx, reduceIte, Nat.reduceEqDiff, reduceCtorEq, Nat.reduceAdd, Nat.reduceSub, Nat.reduceLT, decide_true, decide_false, Bool.not_true, Bool.not_false, Int.toNat_one, Int.toNat_zero, Nat.zero_mul, l_g, endK]
      exact ⟨_, rfl, by have := hk.2.1; simp [od_len]; omega, fun h => ⟨k, hk, rfl⟩, hk1⟩
  refine call39 (Nat.le_of_ble_eq_true rfl) ?_
  unfold L39 env0
  simp -implicitDefEqProofs (maxSteps := 1000000) (disch := first | omega | assumption) only [Sx, reduceIte, Nat.reduceEqDiff, reduceCtorEq, Nat.reduceAdd, Nat.reduceSub, Nat.reduceLT]
  refine a_call inner ?_
  rintro e H1 ⟨s, rfl, h1, h2, hk1⟩
  simp -implicitDefEqProofs (maxSteps := 1000000) (disch := first | omega | assumption) only [Sx, reduceIte, Nat.reduceEqDiff, reduceCtorEq, Nat.reduceAdd, Nat.reduceSub, Nat.reduceLT, decide_true, decide_false, Bool.not_true, Bool.not_false, Int.toNat_one, Int.toNat_zero, Nat.zero_mul, l_g, endK]
  exact ⟨s, rfl, h1, h2, hk1⟩
end Go.Proofs.YtigignkgblaoaaaDoor.S12
