/-
  The document's small functions of codes.
-/
import Derived.Test.YtgbhdpeibiglfaaDoorSCode3
set_option linter.unusedVariables false
set_option linter.unusedSimpArgs false
namespace Go.Proofs.YtgbhdpeibiglfaaDoor.S05
open Go Go.RowKit Go.Proofs.YtgbhdpeibiglfaaDoor.Sep Go.Proofs.YtgbhdpeibiglfaaDoor.Low Go.Proofs.YtgbhdpeibiglfaaDoor.CodeLaw Go.Proofs.YtgbhdpeibiglfaaDoor.Pack Go.Proofs.YtgbhdpeibiglfaaDoor.BitLaw
open Go.Proofs.YtgbhdpeibiglfaaDoor.Lib (by64 by64_scalar encs encs_len)

/-- bits as they lie in memory -/
abbrev byb (X : List Bool) : List Value := X.map fun b => .int .u8 (b2i b)
theorem b2i_inj {a b : Bool} : b2i a = b2i b ↔ a = b := by cases a <;> cases b <;> simp [b2i]
theorem bit_at {H : Heap} {a : Option Addr} {X : List Bool} (hr : Row H a (byb X)) {i : Nat} (hi : i < X.length) : ∃ b, a = some b ∧ H.cell? (b.add i) = some (.int .u8 (b2i X[i])) := by
  obtain ⟨b, e, h⟩ := hr.at (i := i) (by simpa using hi)
  exact ⟨b, e, by rw [h]; simp⟩

theorem starts_spec {H : Heap} {a b : Option Addr} {n m c d : Nat} {X Y : List Bool} (hx : Row H a (byb X)) (hy : Row H b (byb Y)) (hn : n = X.length) (hm : m = Y.length) (hl : X.length ≤ 1099511627776) :
    ACalls Tryd.prog 91 [Value.slice a n c, .slice b m d].toArray H fun e H' => e = .returned (.bool (Y.isPrefixOf X)) ∧ H' = H := by
  subst hn hm
  refine call91 (Nat.le_of_ble_eq_true rfl) ?_
  unfold L91 env0
  by_cases h1 : X.length < Y.length
  · have f1 : decide ((X.length : Int) < (Y.length : Int)) = true := decide_eq_true (by omega)
    have hp : Y.isPrefixOf X = false := by
      rw [Bool.eq_false_iff, Ne, List.isPrefixOf_iff_prefix]
      intro h
      have := h.length_le
      omega
    rw [hp]
    simp -implicitDefEqProofs (maxSteps := 1000000) (disch := first | omega | assumption) only [f1, Sx, Nat.reduceEqDiff, reduceCtorEq]
    exact ⟨by trivial, by trivial⟩
  have f1 : decide ((X.length : Int) < (Y.length : Int)) = false := decide_eq_false (by omega)
  simp -implicitDefEqProofs (maxSteps := 1000000) (disch := first | omega | assumption) only [f1, Sx, Nat.reduceEqDiff, reduceCtorEq]
  refine c_loop (fun k env H' => ∃ i, k + i = Y.length ∧ env 0 = .slice a X.length c ∧ env 1 = .slice b Y.length d ∧ env 5 = .int .i64 i ∧ X.take i = Y.take i ∧ H' = H) Y.length ⟨0, by omega, by simp -implicitDefEqProofs (maxSteps := 1000000) (disch := first | omega | assumption) only [Sx, reduceCtorEq], by simp -implicitDefEqProofs (maxSteps := 1000000) (disch := first | omega | assumption) only [Sx, Nat.reduceEqDiff], by simp -implicitDefEqProofs (maxSteps := 1000000) (disch := first | omega | assumption) only [Sx, Nat.reduceEqDiff]; rfl, rfl, rfl⟩ ?_
  rintro k env H1 ⟨i, hk, h0, h1, h5, htk, rfl⟩
  unfold L91_0
  by_cases hi : i < Y.length
  · have f0 : decide ((i : Int) < (Y.length : Int)) = true := decide_eq_true (by omega)
    obtain ⟨a, rfl, ha⟩ := bit_at hx (i := i) (by omega)
    obtain ⟨b, rfl, hb⟩ := bit_at hy hi
    by_cases he : X[i] = Y[i]
    · have f2 : (b2i X[i] != b2i Y[i]) = false := by rw [bne_eq_false_iff_eq, he]
      simp -implicitDefEqProofs (maxSteps := 1000000) (disch := first | omega | assumption) only [h0, h1, h5, f0, f2, ha, hb, Sx, Nat.reduceEqDiff, reduceCtorEq]
      refine ⟨k - 1, by omega, i + 1, by omega, by trivial, by trivial, by simp, ?_, by trivial⟩
      rw [List.take_succ_eq_append_getElem (by omega), List.take_succ_eq_append_getElem hi, htk, he]
    · have f2 : (b2i X[i] != b2i Y[i]) = true := by rw [bne_iff_ne, Ne, b2i_inj]; exact he
      have hp : Y.isPrefixOf X = false := by
        rw [Bool.eq_false_iff, Ne, List.isPrefixOf_iff_prefix]
        intro h
        exact he (h.getElem hi).symm
      rw [hp]
      simp -implicitDefEqProofs (maxSteps := 1000000) (disch := first | omega | assumption) only [h0, h1, h5, f0, f2, ha, hb, Sx, Nat.reduceEqDiff, reduceCtorEq]
      exact ⟨by trivial, by trivial⟩
  · have f0 : decide ((i : Int) < (Y.length : Int)) = false := decide_eq_false (by omega)
    have hp : Y.isPrefixOf X = true := by
      rw [List.isPrefixOf_iff_prefix]
      rw [show i = Y.length by omega, List.take_length] at htk
      exact ⟨X.drop Y.length, by conv => { lhs; lhs; rw [← htk] }; rw [List.take_append_drop]⟩
    rw [hp]
    simp -implicitDefEqProofs (maxSteps := 1000000) (disch := first | omega | assumption) only [h1, h5, f0, Sx, Nat.reduceEqDiff]
    exact ⟨by trivial, by trivial⟩

set_option maxHeartbeats 1000000 in
theorem rbits_spec {H : Heap} {a : Option Addr} {n c : Nat} {bs : List Int} (hr : Row H a (by8 bs)) (hn : n = bs.length) (hx : ∀ x ∈ bs, 0 ≤ x ∧ x < 256) (hl : bs.length ≤ 1099511627776) :
    ACalls Tryd.prog 43 [Value.slice a n c].toArray H fun e H' => ∃ v, e = .returned v ∧ Own H' 5 1 v (byb (unpack bs)) ∧ Keep H H' ∧ Fresh H v := by
  subst hn
  refine call43 (Nat.le_of_ble_eq_true rfl) ?_
  unfold L43 env0
  simp -implicitDefEqProofs (maxSteps := 1000000) (disch := first | omega | assumption) only [Sx, reduceCtorEq]
  refine a_lits (sz := 1) (cells := #[]) rfl rfl ?_
  intro r H1 hO hk hr1
  try simp -implicitDefEqProofs (maxSteps := 1000000) (disch := first | omega | assumption) only [Sx, Nat.reduceEqDiff]
  refine c_loop (fun k env H' => ∃ i v, k + i = bs.length ∧ env 0 = .slice a bs.length c ∧ env 3 = v ∧ env 4 = .int .i64 i ∧ Own H' 5 1 v (byb (unpack (bs.take i))) ∧ Keep H H' ∧ Fresh H v) bs.length ⟨0, .slice (some ⟨r, 0, none⟩) 0 0, by omega, by simp -implicitDefEqProofs (maxSteps := 1000000) (disch := first | omega | assumption) only [Sx, reduceCtorEq], by simp -implicitDefEqProofs (maxSteps := 1000000) (disch := first | omega | assumption) only [Sx, Nat.reduceEqDiff], by simp -implicitDefEqProofs (maxSteps := 1000000) (disch := first | omega | assumption) only [Sx, Nat.reduceEqDiff]; rfl, by simpa [unpack] using hO, hk, fun q hq => by cases hq; exact hr1⟩ ?_
  rintro k env H2 ⟨i, v, hki, h0, h3, h4, hO, hK, hF⟩
  unfold L43_1
  by_cases hi : i < bs.length
  · have f0 : decide ((i : Int) < (bs.length : Int)) = true := decide_eq_true (by omega)
    obtain ⟨b, rfl, hb⟩ := (hK.row hr).at (i := i) (by simpa using hi)
    have hxi := hx _ (List.getElem_mem hi)
    simp only [List.getElem_map] at hb
    obtain ⟨x, hxe⟩ : ∃ x, x = bs[i] := ⟨_, rfl⟩
    rw [← hxe] at hb hxi
    simp -implicitDefEqProofs (maxSteps := 1000000) (disch := first | omega | assumption) only [h0, h4, f0, hb, Sx, Nat.reduceEqDiff, reduceCtorEq]
    refine c_loop (fun k' env H' => ∃ j v, k' + j = 8 ∧ env 0 = .slice (some b) bs.length c ∧ env 3 = v ∧ env 4 = .int .i64 i ∧ env 5 = .int .u8 (x / 2 ^ j) ∧ env 6 = .int .i64 j ∧ Own H' 5 1 v (byb (unpack (bs.take i) ++ low j x)) ∧ Keep H H' ∧ Fresh H v) 8 ⟨0, v, by omega, by simp -implicitDefEqProofs (maxSteps := 1000000) (disch := first | omega | assumption) only [h0, Sx, reduceCtorEq], by simp -implicitDefEqProofs (maxSteps := 1000000) (disch := first | omega | assumption) only [h3, Sx, Nat.reduceEqDiff], by simp -implicitDefEqProofs (maxSteps := 1000000) (disch := first | omega | assumption) only [h4, Sx, Nat.reduceEqDiff], by rw [Int.pow_zero, Int.ediv_one]; simp -implicitDefEqProofs (maxSteps := 1000000) (disch := first | omega | assumption) only [Sx, Nat.reduceEqDiff], by simp -implicitDefEqProofs (maxSteps := 1000000) (disch := first | omega | assumption) only [Sx, Nat.reduceEqDiff]; rfl, by simpa [low] using hO, hK, hF⟩ ?_
    clear h0 h3 h4 hO hK hF
    rintro k' env H3 ⟨j, v, hkj, h0, h3, h4, h5, h6, hO, hK, hF⟩
    unfold L43_0
    have h8 : (0 : Int) ≤ x / 2 ^ j := Int.ediv_nonneg hxi.1 (by have := pow_pos j; omega)
    have h9 : x / 2 ^ j ≤ x := Int.ediv_le_self _ hxi.1
    by_cases hj : j < 8
    · have g0 : decide ((j : Int) < 8) = true := decide_eq_true (by omega)
      have e2 : x / 2 ^ j % 2 = b2i (x / 2 ^ j % 2 == 1) := (b2i_mod _).symm
      have e3 := div_pow_succ x j
      have e4 : IntKind.u8.wrap (x / 2 ^ (j + 1)) = x / 2 ^ (j + 1) := by
        have h10 : (0 : Int) ≤ x / 2 ^ (j + 1) := Int.ediv_nonneg hxi.1 (by have := pow_pos (j + 1); omega)
        have h11 : x / 2 ^ (j + 1) ≤ x := Int.ediv_le_self _ hxi.1
        exact w_u8 ⟨h10, by omega⟩
      have hsv := hO.scalar
      simp -implicitDefEqProofs (maxSteps := 1000000) (disch := first | omega | assumption) only [h3, h5, h6, g0, Sx, Nat.reduceEqDiff]
      rw [e2]
      refine a_lits (sz := 1) (cells := #[.int .u8 (b2i (x / 2 ^ j % 2 == 1))]) rfl rfl ?_
      intro r1 H4 hO4 hk4 hr4
      obtain ⟨_, _, _, e, _, _, hrow4⟩ := hO4.view
      cases e
      try simp -implicitDefEqProofs (maxSteps := 1000000) (disch := first | omega | assumption) only [Sx, Nat.reduceEqDiff]
      have hlen : (unpack (bs.take i) ++ low j x).length = 8 * i + j := by rw [List.length_append, unpack_length, low_length, List.length_take, Nat.min_eq_left (by omega)]
      refine a_app (len := 8 * i + j) (m := 1) (new := [.int .u8 (b2i (x / 2 ^ j % 2 == 1))]) (hO.keep hk4) (by rw [List.length_map, hlen]; omega) (by rfl) (hrow4.cells (by simp)) (by simp) rfl (by omega) (by simp [scalarV]) (by omega) ?_
      intro v5 H5 hO5 ho5 hm5
      try simp -implicitDefEqProofs (maxSteps := 1000000) (disch := first | omega | assumption) only [h0, h3, h4, h5, h6, Sx, Nat.reduceEqDiff, reduceCtorEq]
      refine ⟨k' - 1, by omega, j + 1, v5, by omega, by trivial, by trivial, by trivial, ?_, by simp, ?_, ho5.keep (hK.trans hk4) hF, hm5.fresh (hK.trans hk4) hF⟩
      · rw [e3, e4]
      · rw [low_snoc, ← List.append_assoc, byb, List.map_append]
        exact hO5
    · have g0 : decide ((j : Int) < 8) = false := decide_eq_false (by omega)
      have : j = 8 := by omega
      subst this
      simp -implicitDefEqProofs (maxSteps := 1000000) (disch := first | omega | assumption) only [h0, h3, h4, h6, g0, Sx, Nat.reduceEqDiff, reduceCtorEq]
      refine ⟨k - 1, by omega, i + 1, v, by omega, by trivial, by trivial, by simp, ?_, hK, hF⟩
      rw [List.take_succ_eq_append_getElem hi, unpack_append, ← hxe]
      simpa [unpack] using hO
  · have f0 : decide ((i : Int) < (bs.length : Int)) = false := decide_eq_false (by omega)
    rw [List.take_of_length_le (by omega)] at hO
    simp -implicitDefEqProofs (maxSteps := 1000000) (disch := first | omega | assumption) only [h0, h4, f0, Sx, Nat.reduceEqDiff, reduceCtorEq]
    unfold L43_2
    simp -implicitDefEqProofs (maxSteps := 1000000) (disch := first | omega | assumption) only [h3, Sx, Nat.reduceEqDiff]
    exact ⟨v, rfl, hO, hK, hF⟩
end Go.Proofs.YtgbhdpeibiglfaaDoor.S05
