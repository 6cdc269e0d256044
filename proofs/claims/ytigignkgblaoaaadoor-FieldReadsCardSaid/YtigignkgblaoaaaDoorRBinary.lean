/-
  Binary of the document.
-/
import Derived.Test.YtigignkgblaoaaaDoorBinary
set_option linter.unusedVariables false
set_option linter.unusedSimpArgs false
namespace Go.Proofs.YtigignkgblaoaaaDoor.S12
open Go Go.RowKit Go.Proofs.YtigignkgblaoaaaDoor.Sep Go.Proofs.YtigignkgblaoaaaDoor.Low Go.Proofs.YtigignkgblaoaaaDoor.Lib

theorem mid_run {s : Int} (hs : s = 0 ∨ s = -1) : ∀ (l : List Int) (n : Int), isBy l → l.length ≤ 7 → Mid s n l.length → fits64 (bv n l)
  | [], n, _, _, hM => mid_fits hs hM
  | x :: l, n, hb, hl, hM => by
    rw [bv]
    have hll : l.length ≤ 6 := by simpa using hl
    exact mid_run hs l _ (fun y hy => hb y (List.mem_cons_of_mem _ hy)) (by omega) (mid_step hs (hb x List.mem_cons_self) hM (fun h => by omega) (fun h => by omega))
theorem bv_fill {s : Int} (hs : s = 0 ∨ s = -1) (l : List Int) : bv s (fillB s :: l) = bv s l := by
  rw [bv]
  rcases hs with rfl | rfl <;> rfl
theorem fill_by {s : Int} (hs : s = 0 ∨ s = -1) : 0 ≤ fillB s ∧ fillB s < 256 := by rcases hs with rfl | rfl <;> decide
abbrev Bs (H : Heap) (v : Value) (l : List Int) : Prop := Own H 5 1 v (by8 l)
/-- a byte is put behind -/
theorem app_b1 {P : Program} {H : Heap} {v : Value} {l m : List Int} {y : Value} {KV : Value → Heap → Prop} {KP : List PanicEntry → Heap → Prop} (hO : Bs H v l) (hl : l.length + m.length ≤ 211106232532992) (h1 : By H y m)
    (hk : ∀ v' H', Bs H' v' (l ++ m) → Oth H v H' → Moved H v v' → KV v' H') : awpE P (.app 5 1 1 #[.int .u8 0]) [v, y] KV KP H := by
  obtain ⟨A, c, rfl, hc, hr⟩ := h1
  refine a_app (len := l.length) (m := m.length) (new := by8 m) hO (by simp) rfl (hr.cells (by simp)) (by simp) rfl (by omega) (by8_scalar m) (by omega) ?_
  intro v' H' h2 h3 h4
  refine hk v' H' ?_ h3 h4
  show Own H' _ 1 _ _
  rw [by8, List.map_append]
  exact h2
theorem lits_b1 {P : Program} {H : Heap} {x : Int} {KV : Value → Heap → Prop} {KP : List PanicEntry → Heap → Prop}
    (hk : ∀ r H', Bs H' (.slice (some ⟨r, 0, none⟩) 1 1) [x] → Keep H H' → H r = none → KV (.slice (some ⟨r, 0, none⟩) 1 1) H') : awpE P (.lits 5 #[.int .u8 0] 1 [(0, 1)]) [.int .u8 x] KV KP H :=
  a_lits (sz := 1) (cells := #[.int .u8 x]) rfl rfl fun r H' h1 h2 h3 => hk r H' h1 h2 h3
theorem lits_b0 {P : Program} {H : Heap} {KV : Value → Heap → Prop} {KP : List PanicEntry → Heap → Prop}
    (hk : ∀ r H', Bs H' (.slice (some ⟨r, 0, none⟩) 0 0) [] → Keep H H' → H r = none → KV (.slice (some ⟨r, 0, none⟩) 0 0) H') : awpE P (.lits 5 #[] 0 []) [] KV KP H :=
  a_lits (sz := 1) (cells := #[]) rfl rfl fun r H' h1 h2 h3 => hk r H' h1 h2 h3

set_option maxHeartbeats 2000000 in
/-- eight bytes as a number -/
theorem rbin_num {H : Heap} {A : Option Addr} {c : Nat} {l : List Int} {s : Int} {env : Env} {Q : Post} {QP : List PanicEntry → Heap → Prop} (hr : Row H A (by8 l)) (hb : isBy l) (hl : l.length = 8) (hs : s = 0 ∨ s = -1) (hf : fits64 (bv s l))
    (h5 : env 5 = .slice A 8 c) (hq : ∀ env', env' 2 = .int .i64 (bv s l) → env' 3 = .int .i64 0 → Q .ret env' H) : awpC Tryd.prog L13_9 Q QP env H := by
  unfold L13_9
  simp -implicitDefEqProofs (maxSteps := 1000000) (disch := first | omega | assumption) only [Sx, reduceIte, Nat.reduceEqDiff, reduceCtorEq, Nat.reduceAdd, Nat.reduceSub, Nat.reduceLT]
  refine c_loop (fun k env H' => H' = H ∧ ∃ (j : Nat) (n : Int), k + j = 8 ∧ env 5 = .slice A 8 c ∧ env 10 = .int .i64 j ∧ env 9 = .int .u64 n ∧ n = bv 0 (l.take j)) 8 ⟨rfl, 0, 0, by omega, by simp -implicitDefEqProofs (maxSteps := 1000000) (disch := first | omega | assumption) only [h5, Sx, reduceIte, Nat.reduceEqDiff, reduceCtorEq, Nat.reduceAdd, Nat.reduceSub, Nat.reduceLT], by simp -implicitDefEqProofs (maxSteps := 1000000) (disch := first | omega | assumption) only [Sx, reduceIte, Nat.reduceEqDiff, reduceCtorEq, Nat.reduceAdd, Nat.reduceSub, Nat.reduceLT]; rfl, by simp -implicitDefEqProofs (maxSteps := 1000000) (disch := first | omega | assumption) only [Sx, reduceIte, Nat.reduceEqDiff, reduceCtorEq, Nat.reduceAdd, Nat.reduceSub, Nat.reduceLT], rfl⟩ ?_
  rintro k env H1 ⟨rfl, j, n, hk, h5, h10, h9, hn⟩
  unfold L13_5
  by_cases hj : j < 8
  · have f0 : decide ((j : Int) < 8) = true := decide_eq_true (by omega)
    have hjl : j < l.length := by omega
    obtain ⟨b, rfl, hx⟩ := by_at hr hjl
    have hx0 := hb.at hjl
    have htk : bv 0 (l.take (j + 1)) = n * 256 + l[j] := by rw [List.take_succ_eq_append_getElem hjl, bv_app, ← hn]; rfl
    have hbn := bv_bnd (hb.take (j + 1))
    rw [htk] at hbn
    have hp : p256 (l.take (j + 1)).length ≤ 18446744073709551616 := by
      have : (l.take (j + 1)).length = j + 1 := by rw [List.length_take]; omega
      rw [this]
      match j, hj with
      | 0, _ | 1, _ | 2, _ | 3, _ | 4, _ | 5, _ | 6, _ | 7, _ => decide
    have hn0 : 0 ≤ n := by rw [hn]; exact (bv_bnd (hb.take j)).1
    generalize hxx : l[j] = x at hx hx0 htk hbn
    simp -implicitDefEqProofs (maxSteps := 1000000) (disch := first | omega | assumption) only [h5, h10, h9, f0, hx, w_u64, Sx, reduceIte, Nat.reduceEqDiff, reduceCtorEq, Nat.reduceAdd, Nat.reduceSub, Nat.reduceLT, decide_true, decide_false, Bool.not_true, Bool.not_false, Int.toNat_one, Int.toNat_zero, Nat.zero_mul, l_g, endK]
    exact ⟨k - 1, by omega, by trivial, j + 1, _, by omega, by trivial, by simp -implicitDefEqProofs (maxSteps := 1000000) (disch := first | omega | assumption) only [Int.natCast_add, Int.natCast_one, Sx, reduceIte, Nat.reduceEqDiff, reduceCtorEq, Nat.reduceAdd, Nat.reduceSub, Nat.reduceLT], rfl, htk.symm⟩
  · have f0 : decide ((j : Int) < 8) = false := decide_eq_false (by omega)
    rw [List.take_of_length_le (by omega)] at hn
    have hbn := bv_bnd hb
    rw [hl, show p256 8 = 18446744073709551616 from rfl, ← hn] at hbn
    have hlin := bv_lin l s
    rw [hl, show p256 8 = 18446744073709551616 from rfl, ← hn] at hlin
    have hwrap : IntKind.i64.wrap n = bv s l := by
      simp only [fits64, lo64, hi64] at hf
      unfold IntKind.wrap IntKind.bits IntKind.signed
      have e1 : (2 ^ 64 : Int) = 18446744073709551616 := by decide
      have e2 : (2 ^ (64 - 1) : Int) = 9223372036854775808 := by decide
      simp only [Bool.true_and, decide_eq_true_eq, e1, e2]
      split <;> omega
    simp -implicitDefEqProofs (maxSteps := 1000000) (disch := first | omega | assumption) only [h5, h10, h9, f0, ev_cvi, hwrap, Sx, reduceIte, Nat.reduceEqDiff, reduceCtorEq, Nat.reduceAdd, Nat.reduceSub, Nat.reduceLT, decide_true, decide_false, Bool.not_true, Bool.not_false, Int.toNat_one, Int.toNat_zero, Nat.zero_mul, l_g, endK]
    exact hq _ (by simp -implicitDefEqProofs (maxSteps := 1000000) (disch := first | omega | assumption) only [Sx, reduceIte, Nat.reduceEqDiff, reduceCtorEq, Nat.reduceAdd, Nat.reduceSub, Nat.reduceLT]) (by simp -implicitDefEqProofs (maxSteps := 1000000) (disch := first | omega | assumption) only [Sx, reduceIte, Nat.reduceEqDiff, reduceCtorEq, Nat.reduceAdd, Nat.reduceSub, Nat.reduceLT])
set_option maxHeartbeats 2000000 in
theorem rbin_top {H : Heap} {A : Option Addr} {c : Nat} {l : List Int} {s V : Int} {env : Env} {Q : Post} {QP : List PanicEntry → Heap → Prop} (hr : Row H A (by8 l)) (hb : isBy l) (hl : l.length = 8) (hs : s = 0 ∨ s = -1) (hv : bv s l = V)
    (h5 : env 5 = .slice A 8 c) (h4 : env 4 = .bool (decide (s = -1)))
    (hq : ∀ env', env' 2 = .int .i64 (if fits64 V then V else 0) → env' 3 = .int .i64 (if fits64 V then 0 else 121) → Q .ret env' H) : awpC Tryd.prog L13_65 Q QP env H := by
  unfold L13_65
  obtain ⟨b, rfl, hx⟩ := by_at hr (i := 0) (by omega)
  rw [add_zero_a] at hx
  have hx0 := hb.at (i := 0) (by omega)
  have hsplit : l = l[0] :: l.drop 1 := by rw [← List.drop_eq_getElem_cons (by omega), List.drop_zero]
  have hrest : isBy (l.drop 1) := hb.drop 1
  have hrl : (l.drop 1).length = 7 := by rw [List.length_drop]; omega
  have hin : (0 : Int) ≤ 0 ∧ (0 : Int) < ((8 : Nat) : Int) := by omega
  generalize hxx : l[0] = x at hx hx0 hsplit
  by_cases hbad : (s = 0 ∧ 128 ≤ x) ∨ (s = -1 ∧ x < 128)
  · have hnf : ¬ fits64 V := by rw [← hv, hsplit]; exact top_big hs hx0 hbad hrest hrl
    rw [if_neg hnf, if_neg hnf] at hq
    have f0 : ((decide (128 ≤ x) == decide (s = -1)) != true) = true := by
      rcases hbad with ⟨rfl, h⟩ | ⟨rfl, h⟩
      · simp [h]
      · have : ¬ 128 ≤ x := by omega
        simp [this]
    simp -implicitDefEqProofs (maxSteps := 1000000) (disch := first | omega | assumption) only [h5, h4, hx, ev_eqb, f0, Sx, reduceIte, Nat.reduceEqDiff, reduceCtorEq, Nat.reduceAdd, Nat.reduceSub, Nat.reduceLT, decide_true, decide_false, Bool.not_true, Bool.not_false, Int.toNat_one, Int.toNat_zero, Nat.zero_mul, l_g, endK]
    exact hq _ (by simp -implicitDefEqProofs (maxSteps := 1000000) (disch := first | omega | assumption) only [Sx, reduceIte, Nat.reduceEqDiff, reduceCtorEq, Nat.reduceAdd, Nat.reduceSub, Nat.reduceLT]) (by simp -implicitDefEqProofs (maxSteps := 1000000) (disch := first | omega | assumption) only [Sx, reduceIte, Nat.reduceEqDiff, reduceCtorEq, Nat.reduceAdd, Nat.reduceSub, Nat.reduceLT])
  · have hfit : fits64 V := by
      rw [← hv, hsplit, bv]
      refine mid_run hs _ _ hrest (by omega) ?_
      rw [hrl]
      exact mid_step hs hx0 (mid_first hs) (fun h => by omega) (fun _ => hbad)
    rw [if_pos hfit, if_pos hfit] at hq
    have f0 : ((decide (128 ≤ x) == decide (s = -1)) != true) = false := by
      rcases hs with rfl | rfl
      · have : ¬ 128 ≤ x := fun h => hbad (.inl ⟨rfl, h⟩)
        simp [this]
      · have : 128 ≤ x := Decidable.byContradiction fun h => hbad (.inr ⟨rfl, by omega⟩)
        simp [this]
    simp -implicitDefEqProofs (maxSteps := 1000000) (disch := first | omega | assumption) only [h5, h4, hx, ev_eqb, f0, Sx, reduceIte, Nat.reduceEqDiff, reduceCtorEq, Nat.reduceAdd, Nat.reduceSub, Nat.reduceLT, decide_true, decide_false, Bool.not_true, Bool.not_false, Int.toNat_one, Int.toNat_zero, Nat.zero_mul, l_g, endK]
    refine rbin_num (c := c) hr hb hl hs (by rw [hv]; exact hfit) (by simp -implicitDefEqProofs (maxSteps := 1000000) (disch := first | omega | assumption) only [h5, Sx, reduceIte, Nat.reduceEqDiff, reduceCtorEq, Nat.reduceAdd, Nat.reduceSub, Nat.reduceLT]) ?_
    rw [hv]
    exact hq

set_option maxHeartbeats 2000000 in
/-- bytes of the sign are put ahead -/
theorem rbin_b4 {H0 H : Heap} {v : Value} {l : List Int} {s V : Int} {env : Env} {Q : Post} {QP : List PanicEntry → Heap → Prop} (hk0 : Keep H0 H) (hy : By H v l) (hb : isBy l) (hl : l.length ≤ 8) (hs : s = 0 ∨ s = -1) (hv : bv s l = V)
    (h5 : env 5 = v) (h4 : env 4 = .bool (decide (s = -1))) (h8 : env 8 = .int .u8 (fillB s))
    (hq : ∀ env' H', Keep H0 H' → env' 2 = .int .i64 (if fits64 V then V else 0) → env' 3 = .int .i64 (if fits64 V then 0 else 121) → Q .ret env' H') : awpC Tryd.prog L13_b4 Q QP env H := by
  unfold L13_b4
  simp -implicitDefEqProofs (maxSteps := 1000000) (disch := first | omega | assumption) only [Sx, reduceIte, Nat.reduceEqDiff, reduceCtorEq, Nat.reduceAdd, Nat.reduceSub, Nat.reduceLT]
  refine c_loop (fun k env H' => ∃ v l, k + l.length = 8 ∧ env 5 = v ∧ env 4 = .bool (decide (s = -1)) ∧ env 8 = .int .u8 (fillB s) ∧ By H' v l ∧ isBy l ∧ bv s l = V ∧ Keep H0 H') (8 - l.length) ⟨v, l, by omega, by simp -implicitDefEqProofs (maxSteps := 1000000) (disch := first | omega | assumption) only [h5, Sx, reduceIte, Nat.reduceEqDiff, reduceCtorEq, Nat.reduceAdd, Nat.reduceSub, Nat.reduceLT], by simp -implicitDefEqProofs (maxSteps := 1000000) (disch := first | omega | assumption) only [h4, Sx, reduceIte, Nat.reduceEqDiff, reduceCtorEq, Nat.reduceAdd, Nat.reduceSub, Nat.reduceLT], by simp -implicitDefEqProofs (maxSteps := 1000000) (disch := first | omega | assumption) only [h8, Sx, reduceIte, Nat.reduceEqDiff, reduceCtorEq, Nat.reduceAdd, Nat.reduceSub, Nat.reduceLT], hy, hb, hv, hk0⟩ ?_
  rintro k env H1 ⟨v, l, hk, h5, h4, h8, hy, hb, hv, hK⟩
  unfold L13_4
  obtain ⟨A, c, rfl, hc, hr⟩ := hy
  by_cases h8l : l.length < 8
  · have f0 : decide ((l.length : Int) < 8) = true := decide_eq_true (by omega)
    simp -implicitDefEqProofs (maxSteps := 1000000) (disch := first | omega | assumption) only [h5, h4, h8, f0, Sx, reduceIte, Nat.reduceEqDiff, reduceCtorEq, Nat.reduceAdd, Nat.reduceSub, Nat.reduceLT, decide_true, decide_false, Bool.not_true, Bool.not_false, Int.toNat_one, Int.toNat_zero, Nat.zero_mul, l_g, endK]
    refine lits_b1 ?_
    intro r1 H2 hO1 hk1 hr1
    try simp -implicitDefEqProofs (maxSteps := 1000000) (disch := first | omega | assumption) only [h5, h4, h8, Sx, reduceIte, Nat.reduceEqDiff, reduceCtorEq, Nat.reduceAdd, Nat.reduceSub, Nat.reduceLT, decide_true, decide_false, Bool.not_true, Bool.not_false, Int.toNat_one, Int.toNat_zero, Nat.zero_mul, l_g, endK]
    refine app_b1 hO1 (by simp; omega) ⟨A, c, rfl, hc, hk1.row hr⟩ ?_
    intro v3 H3 hO3 ho3 hm3
    have hk3 : Keep H1 H3 := ho3.keep hk1 (by rintro q ⟨⟩; exact hr1)
    try simp -implicitDefEqProofs (maxSteps := 1000000) (disch := first | omega | assumption) only [h5, h4, h8, Sx, reduceIte, Nat.reduceEqDiff, reduceCtorEq, Nat.reduceAdd, Nat.reduceSub, Nat.reduceLT, decide_true, decide_false, Bool.not_true, Bool.not_false, Int.toNat_one, Int.toNat_zero, Nat.zero_mul, l_g, endK]
    refine ⟨k - 1, by omega, v3, [fillB s] ++ l, by simp; omega, by simp -implicitDefEqProofs (maxSteps := 1000000) (disch := first | omega | assumption) only [Sx, reduceIte, Nat.reduceEqDiff, reduceCtorEq, Nat.reduceAdd, Nat.reduceSub, Nat.reduceLT], by simp -implicitDefEqProofs (maxSteps := 1000000) (disch := first | omega | assumption) only [h4, Sx, reduceIte, Nat.reduceEqDiff, reduceCtorEq, Nat.reduceAdd, Nat.reduceSub, Nat.reduceLT], by simp -implicitDefEqProofs (maxSteps := 1000000) (disch := first | omega | assumption) only [h8, Sx, reduceIte, Nat.reduceEqDiff, reduceCtorEq, Nat.reduceAdd, Nat.reduceSub, Nat.reduceLT], own_by hO3, ?_, ?_, hK.trans hk3⟩
    · intro y hy
      rcases List.mem_cons.1 hy with rfl | hy
      · exact fill_by hs
      · exact hb y hy
    · rw [List.singleton_append, bv_fill hs, hv]
  · have f0 : decide ((l.length : Int) < 8) = false := decide_eq_false (by omega)
    have hl8 : l.length = 8 := by omega
    rw [hl8] at h5 f0
    simp -implicitDefEqProofs (maxSteps := 1000000) (disch := first | omega | assumption) only [h5, h4, h8, f0, Sx, reduceIte, Nat.reduceEqDiff, reduceCtorEq, Nat.reduceAdd, Nat.reduceSub, Nat.reduceLT, decide_true, decide_false, Bool.not_true, Bool.not_false, Int.toNat_one, Int.toNat_zero, Nat.zero_mul, l_g, endK]
    exact rbin_top (c := c) hr hb hl8 hs hv (by simp -implicitDefEqProofs (maxSteps := 1000000) (disch := first | omega | assumption) only [h5, Sx, reduceIte, Nat.reduceEqDiff, reduceCtorEq, Nat.reduceAdd, Nat.reduceSub, Nat.reduceLT]) (by simp -implicitDefEqProofs (maxSteps := 1000000) (disch := first | omega | assumption) only [h4, Sx, reduceIte, Nat.reduceEqDiff, reduceCtorEq, Nat.reduceAdd, Nat.reduceSub, Nat.reduceLT]) fun env' e2 e3 => hq env' H1 hK e2 e3
set_option maxHeartbeats 2000000 in
/-- bytes of the sign are taken off -/
theorem rbin_6 {H0 H : Heap} {v : Value} {l : List Int} {s V : Int} {env : Env} {Q : Post} {QP : List PanicEntry → Heap → Prop} (hk0 : Keep H0 H) (hy : By H v l) (hb : isBy l) (hl : l.length ≤ 1125899906842624) (hs : s = 0 ∨ s = -1) (hv : bv s l = V)
    (h5 : env 5 = v) (h4 : env 4 = .bool (decide (s = -1))) (h8 : env 8 = .int .u8 (fillB s))
    (hq : ∀ env' H', Keep H0 H' → env' 2 = .int .i64 (if fits64 V then V else 0) → env' 3 = .int .i64 (if fits64 V then 0 else 121) → Q .ret env' H') : awpC Tryd.prog L13_6 Q QP env H := by
  unfold L13_6
  simp -implicitDefEqProofs (maxSteps := 1000000) (disch := first | omega | assumption) only [Sx, reduceIte, Nat.reduceEqDiff, reduceCtorEq, Nat.reduceAdd, Nat.reduceSub, Nat.reduceLT]
  refine c_loop (fun k env H' => H' = H ∧ ∃ v l, k = l.length ∧ env 5 = v ∧ env 4 = .bool (decide (s = -1)) ∧ env 8 = .int .u8 (fillB s) ∧ By H v l ∧ isBy l ∧ l.length ≤ 1125899906842624 ∧ bv s l = V) l.length ⟨rfl, v, l, rfl, by simp -implicitDefEqProofs (maxSteps := 1000000) (disch := first | omega | assumption) only [h5, Sx, reduceIte, Nat.reduceEqDiff, reduceCtorEq, Nat.reduceAdd, Nat.reduceSub, Nat.reduceLT], by simp -implicitDefEqProofs (maxSteps := 1000000) (disch := first | omega | assumption) only [h4, Sx, reduceIte, Nat.reduceEqDiff, reduceCtorEq, Nat.reduceAdd, Nat.reduceSub, Nat.reduceLT], by simp -implicitDefEqProofs (maxSteps := 1000000) (disch := first | omega | assumption) only [h8, Sx, reduceIte, Nat.reduceEqDiff, reduceCtorEq, Nat.reduceAdd, Nat.reduceSub, Nat.reduceLT], hy, hb, hl, hv⟩ ?_
  rintro k env H1 ⟨rfl, v, l, rfl, h5, h4, h8, hy, hb, hl, hv⟩
  unfold L13_3
  obtain ⟨A, c, rfl, hc, hr⟩ := hy
  by_cases h9 : 8 < l.length
  · have f0 : decide ((8 : Int) < (l.length : Int)) = true := decide_eq_true (by omega)
    obtain ⟨b, rfl, hx⟩ := by_at hr (i := 0) (by omega)
    rw [add_zero_a] at hx
    have hx0 := hb.at (i := 0) (by omega)
    have hsplit : l = l[0] :: l.drop 1 := by rw [← List.drop_eq_getElem_cons (by omega), List.drop_zero]
    have hrest : isBy (l.drop 1) := hb.drop 1
    have hrl : (l.drop 1).length = l.length - 1 := List.length_drop
    have hin : (0 : Int) ≤ 0 ∧ (0 : Int) < (l.length : Int) := by omega
    generalize hxx : l[0] = x at hx hx0 hsplit
    by_cases hxf : x = fillB s
    · have f1 : (x != fillB s) = false := by rw [bne_eq_false_iff_eq]; exact hxf
      have hcut : (0 : Int) ≤ 1 ∧ (1 : Int) ≤ (l.length : Int) := by omega
      simp -implicitDefEqProofs (maxSteps := 1000000) (disch := first | omega | assumption) only [h5, h4, h8, f0, hx, f1, ev_slc_lo, Sx, reduceIte, Nat.reduceEqDiff, reduceCtorEq, Nat.reduceAdd, Nat.reduceSub, Nat.reduceLT, decide_true, decide_false, Bool.not_true, Bool.not_false, Int.toNat_one, Int.toNat_zero, Nat.zero_mul, l_g, endK]
      refine ⟨(l.drop 1).length, by omega, by trivial, _, l.drop 1, rfl, rfl, by trivial, by trivial, By.drop hr hc (by omega), hrest, by omega, ?_⟩
      rw [← hv]
      conv => rhs; rw [hsplit, hxf]
      exact (bv_fill hs _).symm
    · have f1 : (x != fillB s) = true := by rw [bne_iff_ne]; exact hxf
      have hnf : ¬ fits64 V := by rw [← hv, hsplit]; exact far_big hs hx0 hxf hrest (by omega)
      rw [if_neg hnf, if_neg hnf] at hq
      simp -implicitDefEqProofs (maxSteps := 1000000) (disch := first | omega | assumption) only [h5, h4, h8, f0, hx, f1, Sx, reduceIte, Nat.reduceEqDiff, reduceCtorEq, Nat.reduceAdd, Nat.reduceSub, Nat.reduceLT, decide_true, decide_false, Bool.not_true, Bool.not_false, Int.toNat_one, Int.toNat_zero, Nat.zero_mul, l_g, endK]
      exact hq _ _ hk0 (by simp -implicitDefEqProofs (maxSteps := 1000000) (disch := first | omega | assumption) only [Sx, reduceIte, Nat.reduceEqDiff, reduceCtorEq, Nat.reduceAdd, Nat.reduceSub, Nat.reduceLT]) (by simp -implicitDefEqProofs (maxSteps := 1000000) (disch := first | omega | assumption) only [Sx, reduceIte, Nat.reduceEqDiff, reduceCtorEq, Nat.reduceAdd, Nat.reduceSub, Nat.reduceLT])
  · have f0 : decide ((8 : Int) < (l.length : Int)) = false := decide_eq_false (by omega)
    simp -implicitDefEqProofs (maxSteps := 1000000) (disch := first | omega | assumption) only [h5, h4, h8, f0, Sx, reduceIte, Nat.reduceEqDiff, reduceCtorEq, Nat.reduceAdd, Nat.reduceSub, Nat.reduceLT, decide_true, decide_false, Bool.not_true, Bool.not_false, Int.toNat_one, Int.toNat_zero, Nat.zero_mul, l_g, endK]
    exact rbin_b4 hk0 ⟨A, c, rfl, hc, hr⟩ hb (by omega) hs hv (by simp -implicitDefEqProofs (maxSteps := 1000000) (disch := first | omega | assumption) only [h5, Sx, reduceIte, Nat.reduceEqDiff, reduceCtorEq, Nat.reduceAdd, Nat.reduceSub, Nat.reduceLT]) (by simp -implicitDefEqProofs (maxSteps := 1000000) (disch := first | omega | assumption) only [h4, Sx, reduceIte, Nat.reduceEqDiff, reduceCtorEq, Nat.reduceAdd, Nat.reduceSub, Nat.reduceLT]) (by simp -implicitDefEqProofs (maxSteps := 1000000) (disch := first | omega | assumption) only [h8, Sx, reduceIte, Nat.reduceEqDiff, reduceCtorEq, Nat.reduceAdd, Nat.reduceSub, Nat.reduceLT]) hq
set_option maxHeartbeats 4000000 in
theorem rbinary_spec {H : Heap} {v : Value} {l : List Int} (hv : By H v l) (hb : isBy l) (hl : l.length ≤ 211106232532992) :
    ACalls Tryd.prog 13 [v].toArray H fun e H' => e = .returned (.tuple #[.int .i64 (binN l).1, .int .i64 (binN l).2]) ∧ Keep H H' := by
  obtain ⟨A, c, rfl, hc, hr⟩ := hv
  refine call13 (Nat.le_of_ble_eq_true rfl) ?_
  unfold L13 env0
  by_cases h2 : l.length < 2
  · have f0 : decide ((l.length : Int) < 2) = true := decide_eq_true (by omega)
    have e : binN l = (0, 120) := by unfold binN; rw [if_pos (.inl h2)]
    rw [e]
    simp -implicitDefEqProofs (maxSteps := 1000000) (disch := first | omega | assumption) only [f0, Sx, reduceIte, Nat.reduceEqDiff, reduceCtorEq, Nat.reduceAdd, Nat.reduceSub, Nat.reduceLT, decide_true, decide_false, Bool.not_true, Bool.not_false, Int.toNat_one, Int.toNat_zero, Nat.zero_mul, l_g, endK]
    exact ⟨by trivial, Keep.refl _⟩
  have f0 : decide ((l.length : Int) < 2) = false := decide_eq_false (by omega)
  obtain ⟨b, rfl, hx⟩ := by_at hr (i := 0) (by omega)
  rw [add_zero_a] at hx
  have hhd := head_at (l := l) (by omega)
  have hx0 := hb.at (i := 0) (by omega)
  rw [← hhd] at hx hx0
  have hin : (0 : Int) ≤ 0 ∧ (0 : Int) < (l.length : Int) := by omega
  by_cases h128 : l.headD 0 < 128
  · have f1 : decide (l.headD 0 < 128) = true := decide_eq_true h128
    have e : binN l = (0, 120) := by unfold binN; rw [if_pos (.inr h128)]
    rw [e]
    simp -implicitDefEqProofs (maxSteps := 1000000) (disch := first | omega | assumption) only [f0, hx, f1, Sx, reduceIte, Nat.reduceEqDiff, reduceCtorEq, Nat.reduceAdd, Nat.reduceSub, Nat.reduceLT, decide_true, decide_false, Bool.not_true, Bool.not_false, Int.toNat_one, Int.toNat_zero, Nat.zero_mul, l_g, endK]
    exact ⟨by trivial, Keep.refl _⟩
  have f1 : decide (l.headD 0 < 128) = false := decide_eq_false h128
  have hbb := bodyB_by hb (by omega)
  have hbl := bodyB_len l
  have hs := sign_cases l
  have hbin : binN l = if fits64 (binV l) then (binV l, 0) else (0, 121) := by unfold binN; rw [if_neg (by omega)]
  have hbel : decide (64 ≤ l.headD 0 % 128) = decide (signB l = -1) := by
    unfold signB
    by_cases h : 64 ≤ l.headD 0 % 128
    · rw [if_pos h, decide_eq_true h]; rfl
    · rw [if_neg h, decide_eq_false h]; rfl
  simp -implicitDefEqProofs (maxSteps := 1000000) (disch := first | omega | assumption) only [f0, hx, f1, v_rem, hbel, Sx, reduceIte, Nat.reduceEqDiff, reduceCtorEq, Nat.reduceAdd, Nat.reduceSub, Nat.reduceLT, decide_true, decide_false, Bool.not_true, Bool.not_false, Int.toNat_one, Int.toNat_zero, Nat.zero_mul, l_g, endK]
  refine c_loop (fun k env H' => ∃ (i : Nat) (v : Value), k + i = l.length ∧ env 0 = .slice (some b) l.length c ∧ env 4 = .bool (decide (signB l = -1)) ∧ env 5 = v ∧ env 6 = .int .i64 i ∧ Bs H' v ((bodyB l).take i) ∧ Keep H H' ∧ Fresh H v) l.length
    ⟨0, .slice none 0 0, by omega, by simp -implicitDefEqProofs (maxSteps := 1000000) (disch := first | omega | assumption) only [Sx, reduceIte, Nat.reduceEqDiff, reduceCtorEq, Nat.reduceAdd, Nat.reduceSub, Nat.reduceLT], by simp -implicitDefEqProofs (maxSteps := 1000000) (disch := first | omega | assumption) only [Sx, reduceIte, Nat.reduceEqDiff, reduceCtorEq, Nat.reduceAdd, Nat.reduceSub, Nat.reduceLT], by simp -implicitDefEqProofs (maxSteps := 1000000) (disch := first | omega | assumption) only [Sx, reduceIte, Nat.reduceEqDiff, reduceCtorEq, Nat.reduceAdd, Nat.reduceSub, Nat.reduceLT], by simp -implicitDefEqProofs (maxSteps := 1000000) (disch := first | omega | assumption) only [Sx, reduceIte, Nat.reduceEqDiff, reduceCtorEq, Nat.reduceAdd, Nat.reduceSub, Nat.reduceLT]; rfl, .nil, Keep.refl _, fun q hq => by cases hq⟩ ?_
  rintro k env H1 ⟨i, v, hk, h0, h4, h5, h6, hO, hK, hF⟩
  unfold L13_2
  have hsv := hO.scalar
  by_cases hi : i < l.length
  · have f2 : decide ((i : Int) < (l.length : Int)) = true := decide_eq_true (by omega)
    have hib : i < (bodyB l).length := by omega
    have hyb := hbb.at hib
    have htk : (bodyB l).take (i + 1) = (bodyB l).take i ++ [(bodyB l)[i]] := List.take_succ_eq_append_getElem hib
    have htl : ((bodyB l).take i).length = i := by rw [List.length_take]; omega
    have push : ∀ env2 : Env, env2 0 = .slice (some b) l.length c → env2 4 = .bool (decide (signB l = -1)) → env2 5 = v → env2 6 = .int .i64 i → env2 7 = .int .u8 ((bodyB l)[i]) →
        ∀ (Q2 : Post) (QP2 : List PanicEntry → Heap → Prop), (∀ env' H' v', env' 0 = .slice (some b) l.length c → env' 4 = .bool (decide (signB l = -1)) → env' 5 = v' → env' 6 = .int .i64 i → Bs H' v' ((bodyB l).take (i + 1)) → Keep H H' → Fresh H v' → Q2 .normal env' H') → awpC Tryd.prog L13_0 Q2 QP2 env2 H1 := by
      intro env2 e0 e4 e5 e6 e7 Q2 QP2 hq2
      unfold L13_0
      simp -implicitDefEqProofs (maxSteps := 1000000) (disch := first | omega | assumption) only [e0, e4, e5, e6, e7, Sx, reduceIte, Nat.reduceEqDiff, reduceCtorEq, Nat.reduceAdd, Nat.reduceSub, Nat.reduceLT]
      refine lits_b1 ?_
      intro r1 H2 hO1 hk1 hr1
      try simp -implicitDefEqProofs (maxSteps := 1000000) (disch := first | omega | assumption) only [e0, e4, e5, e6, e7, Sx, reduceIte, Nat.reduceEqDiff, reduceCtorEq, Nat.reduceAdd, Nat.reduceSub, Nat.reduceLT]
      refine app_b1 (hO.keep hk1) (by rw [htl]; simp; omega) (own_by hO1) ?_
      intro v3 H3 hO3 ho3 hm3
      try simp -implicitDefEqProofs (maxSteps := 1000000) (disch := first | omega | assumption) only [e0, e4, e5, e6, e7, Sx, reduceIte, Nat.reduceEqDiff, reduceCtorEq, Nat.reduceAdd, Nat.reduceSub, Nat.reduceLT]
      exact hq2 _ _ v3 (by simp -implicitDefEqProofs (maxSteps := 1000000) (disch := first | omega | assumption) only [e0, Sx, reduceIte, Nat.reduceEqDiff, reduceCtorEq, Nat.reduceAdd, Nat.reduceSub, Nat.reduceLT]) (by simp -implicitDefEqProofs (maxSteps := 1000000) (disch := first | omega | assumption) only [e4, Sx, reduceIte, Nat.reduceEqDiff, reduceCtorEq, Nat.reduceAdd, Nat.reduceSub, Nat.reduceLT]) (by simp -implicitDefEqProofs (maxSteps := 1000000) (disch := first | omega | assumption) only [Sx, reduceIte, Nat.reduceEqDiff, reduceCtorEq, Nat.reduceAdd, Nat.reduceSub, Nat.reduceLT]) (by simp -implicitDefEqProofs (maxSteps := 1000000) (disch := first | omega | assumption) only [e6, Sx, reduceIte, Nat.reduceEqDiff, reduceCtorEq, Nat.reduceAdd, Nat.reduceSub, Nat.reduceLT]) (by rw [htk]; exact hO3) (ho3.keep (hK.trans hk1) hF) (hm3.fresh (hK.trans hk1) hF)
    have next : ∀ (env' : Env) (H' : Heap) (v' : Value), env' 0 = .slice (some b) l.length c → env' 4 = .bool (decide (signB l = -1)) → env' 5 = v' → env' 6 = .int .i64 i → Bs H' v' ((bodyB l).take (i + 1)) → Keep H H' → Fresh H v' →
        ∀ (Q2 : Post) (QP2 : List PanicEntry → Heap → Prop), (∀ env3, (∃ (i : Nat) (v : Value), k - 1 + i = l.length ∧ env3 0 = .slice (some b) l.length c ∧ env3 4 = .bool (decide (signB l = -1)) ∧ env3 5 = v ∧ env3 6 = .int .i64 i ∧ Bs H' v ((bodyB l).take i) ∧ Keep H H' ∧ Fresh H v) → Q2 .normal env3 H') → awpC Tryd.prog L13_1 Q2 QP2 env' H' := by
      intro env' H' v' e0 e4 e5 e6 hO' hK' hF' Q2 QP2 hq2
      unfold L13_1
      simp -implicitDefEqProofs (maxSteps := 1000000) (disch := first | omega | assumption) only [e0, e4, e5, e6, Sx, reduceIte, Nat.reduceEqDiff, reduceCtorEq, Nat.reduceAdd, Nat.reduceSub, Nat.reduceLT]
      exact hq2 _ ⟨i + 1, v', by omega, by simp -implicitDefEqProofs (maxSteps := 1000000) (disch := first | omega | assumption) only [e0, Sx, reduceIte, Nat.reduceEqDiff, reduceCtorEq, Nat.reduceAdd, Nat.reduceSub, Nat.reduceLT], by simp -implicitDefEqProofs (maxSteps := 1000000) (disch := first | omega | assumption) only [e4, Sx, reduceIte, Nat.reduceEqDiff, reduceCtorEq, Nat.reduceAdd, Nat.reduceSub, Nat.reduceLT], by simp -implicitDefEqProofs (maxSteps := 1000000) (disch := first | omega | assumption) only [e5, Sx, reduceIte, Nat.reduceEqDiff, reduceCtorEq, Nat.reduceAdd, Nat.reduceSub, Nat.reduceLT], by simp -implicitDefEqProofs (maxSteps := 1000000) (disch := first | omega | assumption) only [Int.natCast_add, Int.natCast_one, Sx, reduceIte, Nat.reduceEqDiff, reduceCtorEq, Nat.reduceAdd, Nat.reduceSub, Nat.reduceLT], hO', hK', hF'⟩
    by_cases hi0 : i = 0
    · subst hi0
      have f3 : (((0 : Nat) : Int) == 0) = true := rfl
      have hx' := hK.cell hx
      have hx2 : H1.cell? (b.add 0) = some (.int .u8 (l.headD 0)) := by rw [add_zero_a]; exact hx'
      by_cases h64 : 64 ≤ l.headD 0 % 128
      · have hm1 : signB l = -1 := by unfold signB; rw [if_pos h64]
        have f4 : decide (signB l = -1) = true := decide_eq_true hm1
        have hfirst : (bodyB l)[0] = l.headD 0 := by rw [body_at hib, if_pos h64]
        have h4' := h4
        rw [f4] at h4'
        simp -implicitDefEqProofs (maxSteps := 1000000) (disch := first | omega | assumption) only [h0, h4', h5, h6, f2, f3, hx', Sx, reduceIte, Nat.reduceEqDiff, reduceCtorEq, Nat.reduceAdd, Nat.reduceSub, Nat.reduceLT, decide_true, decide_false, Bool.not_true, Bool.not_false, Int.toNat_one, Int.toNat_zero, Nat.zero_mul, l_g, endK]
        refine push _ (by simp -implicitDefEqProofs (maxSteps := 1000000) (disch := first | omega | assumption) only [h0, Sx, reduceIte, Nat.reduceEqDiff, reduceCtorEq, Nat.reduceAdd, Nat.reduceSub, Nat.reduceLT]) (by simp -implicitDefEqProofs (maxSteps := 1000000) (disch := first | omega | assumption) only [h4, Sx, reduceIte, Nat.reduceEqDiff, reduceCtorEq, Nat.reduceAdd, Nat.reduceSub, Nat.reduceLT]) (by simp -implicitDefEqProofs (maxSteps := 1000000) (disch := first | omega | assumption) only [h5, Sx, reduceIte, Nat.reduceEqDiff, reduceCtorEq, Nat.reduceAdd, Nat.reduceSub, Nat.reduceLT]) (by simp -implicitDefEqProofs (maxSteps := 1000000) (disch := first | omega | assumption) only [h6, Sx, reduceIte, Nat.reduceEqDiff, reduceCtorEq, Nat.reduceAdd, Nat.reduceSub, Nat.reduceLT]) (by rw [hfirst]; simp -implicitDefEqProofs (maxSteps := 1000000) (disch := first | omega | assumption) only [Sx, reduceIte, Nat.reduceEqDiff, reduceCtorEq, Nat.reduceAdd, Nat.reduceSub, Nat.reduceLT]) _ _ ?_
        intro env' H' v' e0 e4 e5 e6 hO' hK' hF'
        refine next env' H' v' e0 e4 e5 e6 hO' hK' hF' _ _ ?_
        intro env3 h3
        exact ⟨k - 1, by omega, h3⟩
      · have hm1 : signB l = 0 := by unfold signB; rw [if_neg h64]
        have f4 : decide (signB l = -1) = false := decide_eq_false (by rw [hm1]; decide)
        have hfirst : (bodyB l)[0] = l.headD 0 - 128 := by rw [body_at hib, if_neg h64]
        have h4' := h4
        rw [f4] at h4'
        simp -implicitDefEqProofs (maxSteps := 1000000) (disch := first | omega | assumption) only [h0, h4', h5, h6, f2, f3, hx', w_u8, Sx, reduceIte, Nat.reduceEqDiff, reduceCtorEq, Nat.reduceAdd, Nat.reduceSub, Nat.reduceLT, decide_true, decide_false, Bool.not_true, Bool.not_false, Int.toNat_one, Int.toNat_zero, Nat.zero_mul, l_g, endK]
        refine push _ (by simp -implicitDefEqProofs (maxSteps := 1000000) (disch := first | omega | assumption) only [h0, Sx, reduceIte, Nat.reduceEqDiff, reduceCtorEq, Nat.reduceAdd, Nat.reduceSub, Nat.reduceLT]) (by simp -implicitDefEqProofs (maxSteps := 1000000) (disch := first | omega | assumption) only [h4, Sx, reduceIte, Nat.reduceEqDiff, reduceCtorEq, Nat.reduceAdd, Nat.reduceSub, Nat.reduceLT]) (by simp -implicitDefEqProofs (maxSteps := 1000000) (disch := first | omega | assumption) only [h5, Sx, reduceIte, Nat.reduceEqDiff, reduceCtorEq, Nat.reduceAdd, Nat.reduceSub, Nat.reduceLT]) (by simp -implicitDefEqProofs (maxSteps := 1000000) (disch := first | omega | assumption) only [h6, Sx, reduceIte, Nat.reduceEqDiff, reduceCtorEq, Nat.reduceAdd, Nat.reduceSub, Nat.reduceLT]) (by rw [hfirst]; simp -implicitDefEqProofs (maxSteps := 1000000) (disch := first | omega | assumption) only [Sx, reduceIte, Nat.reduceEqDiff, reduceCtorEq, Nat.reduceAdd, Nat.reduceSub, Nat.reduceLT]) _ _ ?_
        intro env' H' v' e0 e4 e5 e6 hO' hK' hF'
        refine next env' H' v' e0 e4 e5 e6 hO' hK' hF' _ _ ?_
        intro env3 h3
        exact ⟨k - 1, by omega, h3⟩
    · have f3 : ((i : Int) == 0) = false := by rw [beq_eq_false_iff_ne]; omega
      obtain ⟨b2, e2, hxi⟩ := by_at (hK.row hr) hi
      cases e2
      have hget : (bodyB l)[i] = l[i] := by
        cases l with
        | nil => simp at hi
        | cons x r =>
          cases i with
          | zero => exact absurd rfl hi0
          | succ i => rfl
      rw [← hget] at hxi
      simp -implicitDefEqProofs (maxSteps := 1000000) (disch := first | omega | assumption) only [h0, h4, h5, h6, f2, f3, hxi, Sx, reduceIte, Nat.reduceEqDiff, reduceCtorEq, Nat.reduceAdd, Nat.reduceSub, Nat.reduceLT, decide_true, decide_false, Bool.not_true, Bool.not_false, Int.toNat_one, Int.toNat_zero, Nat.zero_mul, l_g, endK]
      refine push _ (by simp -implicitDefEqProofs (maxSteps := 1000000) (disch := first | omega | assumption) only [h0, Sx, reduceIte, Nat.reduceEqDiff, reduceCtorEq, Nat.reduceAdd, Nat.reduceSub, Nat.reduceLT]) (by simp -implicitDefEqProofs (maxSteps := 1000000) (disch := first | omega | assumption) only [h4, Sx, reduceIte, Nat.reduceEqDiff, reduceCtorEq, Nat.reduceAdd, Nat.reduceSub, Nat.reduceLT]) (by simp -implicitDefEqProofs (maxSteps := 1000000) (disch := first | omega | assumption) only [h5, Sx, reduceIte, Nat.reduceEqDiff, reduceCtorEq, Nat.reduceAdd, Nat.reduceSub, Nat.reduceLT]) (by simp -implicitDefEqProofs (maxSteps := 1000000) (disch := first | omega | assumption) only [h6, Sx, reduceIte, Nat.reduceEqDiff, reduceCtorEq, Nat.reduceAdd, Nat.reduceSub, Nat.reduceLT]) (by simp -implicitDefEqProofs (maxSteps := 1000000) (disch := first | omega | assumption) only [Sx, reduceIte, Nat.reduceEqDiff, reduceCtorEq, Nat.reduceAdd, Nat.reduceSub, Nat.reduceLT]) _ _ ?_
      intro env' H' v' e0 e4 e5 e6 hO' hK' hF'
      refine next env' H' v' e0 e4 e5 e6 hO' hK' hF' _ _ ?_
      intro env3 h3
      exact ⟨k - 1, by omega, h3⟩
  · have f2 : decide ((i : Int) < (l.length : Int)) = false := decide_eq_false (by omega)
    rw [List.take_of_length_le (by omega)] at hO
    have fin : ∀ env' H', Keep H H' → env' 2 = .int .i64 (if fits64 (binV l) then binV l else 0) → env' 3 = .int .i64 (if fits64 (binV l) then 0 else 121) → retQ [.t 2, .t 3] (fun e H' => e = .returned (.tuple #[.int .i64 (binN l).1, .int .i64 (binN l).2]) ∧ Keep H H') .ret env' H' := by
      intro env' H' hk' e2 e3
      simp -implicitDefEqProofs (maxSteps := 1000000) (disch := first | omega | assumption) only [e2, e3, Sx, reduceIte, Nat.reduceEqDiff, reduceCtorEq, Nat.reduceAdd, Nat.reduceSub, Nat.reduceLT]
      refine ⟨?_, hk'⟩
      rw [hbin]
      by_cases hf : fits64 (binV l)
      · rw [if_pos hf, if_pos hf, if_pos hf]
      · rw [if_neg hf, if_neg hf, if_neg hf]
    have hfill : fillB (signB l) = if decide (signB l = -1) = true then 255 else 0 := by
      rcases hs with h | h <;> rw [h] <;> rfl
    cases hd : decide (signB l = -1) with
    | true =>
      have hfl : fillB (signB l) = 255 := by rw [hfill, hd]; rfl
      have h4' := h4
      rw [hd] at h4'
      simp -implicitDefEqProofs (maxSteps := 1000000) (disch := first | omega | assumption) only [h0, h4', h5, h6, f2, Sx, reduceIte, Nat.reduceEqDiff, reduceCtorEq, Nat.reduceAdd, Nat.reduceSub, Nat.reduceLT, decide_true, decide_false, Bool.not_true, Bool.not_false, Int.toNat_one, Int.toNat_zero, Nat.zero_mul, l_g, endK]
      exact rbin_6 hK (own_by hO) hbb (by omega) hs rfl (by simp -implicitDefEqProofs (maxSteps := 1000000) (disch := first | omega | assumption) only [h5, Sx, reduceIte, Nat.reduceEqDiff, reduceCtorEq, Nat.reduceAdd, Nat.reduceSub, Nat.reduceLT]) (by simp -implicitDefEqProofs (maxSteps := 1000000) (disch := first | omega | assumption) only [h4, Sx, reduceIte, Nat.reduceEqDiff, reduceCtorEq, Nat.reduceAdd, Nat.reduceSub, Nat.reduceLT]) (by rw [hfl]; simp -implicitDefEqProofs (maxSteps := 1000000) (disch := first | omega | assumption) only [Sx, reduceIte, Nat.reduceEqDiff, reduceCtorEq, Nat.reduceAdd, Nat.reduceSub, Nat.reduceLT]) fin
    | false =>
      have hfl : fillB (signB l) = 0 := by rw [hfill, hd]; rfl
      have h4' := h4
      rw [hd] at h4'
      simp -implicitDefEqProofs (maxSteps := 1000000) (disch := first | omega | assumption) only [h0, h4', h5, h6, f2, Sx, reduceIte, Nat.reduceEqDiff, reduceCtorEq, Nat.reduceAdd, Nat.reduceSub, Nat.reduceLT, decide_true, decide_false, Bool.not_true, Bool.not_false, Int.toNat_one, Int.toNat_zero, Nat.zero_mul, l_g, endK]
      exact rbin_6 hK (own_by hO) hbb (by omega) hs rfl (by simp -implicitDefEqProofs (maxSteps := 1000000) (disch := first | omega | assumption) only [h5, Sx, reduceIte, Nat.reduceEqDiff, reduceCtorEq, Nat.reduceAdd, Nat.reduceSub, Nat.reduceLT]) (by simp -implicitDefEqProofs (maxSteps := 1000000) (disch := first | omega | assumption) only [h4, Sx, reduceIte, Nat.reduceEqDiff, reduceCtorEq, Nat.reduceAdd, Nat.reduceSub, Nat.reduceLT]) (by rw [hfl]; simp -implicitDefEqProofs (maxSteps := 1000000) (disch := first | omega | assumption) only [Sx, reduceIte, Nat.reduceEqDiff, reduceCtorEq, Nat.reduceAdd, Nat.reduceSub, Nat.reduceLT]) fin
end Go.Proofs.YtigignkgblaoaaaDoor.S12
