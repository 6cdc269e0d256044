/-
  Concat, Equal, Clone of texts; Under, Strip, Place.
-/
import Derived.Test.YtdlmomjcolbkgaaDoorLowP
import Derived.Test.YtdlmomjcolbkgaaDoorComp2
set_option linter.unusedVariables false
set_option linter.unusedSimpArgs false
namespace Go.Proofs.YtdlmomjcolbkgaaDoor.S09
open Go Go.RowKit Go.Proofs.YtdlmomjcolbkgaaDoor.Sep Go.Proofs.YtdlmomjcolbkgaaDoor.Low Go.Proofs.YtdlmomjcolbkgaaDoor.Lib

theorem own_spot {H : Heap} {T sz : Nat} {v : Value} {cs : List Value} (h : Own H T sz v cs) {a : Option Addr} {n c : Nat} (e : v = .slice a n c) : ∀ b, a = some b → b.spot = none := by
  intro b hb
  cases h with
  | nil => cases e; cases hb
  | «at» _ _ _ _ => cases e; cases hb; rfl
theorem own_cut0 {H : Heap} {T sz : Nat} {a : Option Addr} {n c : Nat} {cs : List Value} (h : Own H T sz (.slice a n c) cs) : Own H T sz (.slice a 0 c) [] := by
  cases h with
  | nil => exact .nil
  | @«at» r len cap _ rest hb hl hr hc => exact .at (rest := cs ++ rest) (by simpa using hb) (by simp) (by rw [List.length_append, hl, hr, ← Nat.add_mul]; congr 1; omega) (by omega)
theorem zeros_scalar {n : Nat} : ∀ v ∈ zerosV 1 #[Value.string ⟨#[]⟩] n, scalarV v = true := by
  intro v hv
  unfold zerosV at hv
  split at hv
  · cases hv
  · simp only [Builtin.zeroCells, Array.toList_map, List.mem_map] at hv
    obtain ⟨i, -, rfl⟩ := hv
    simp [Nat.mod_one, scalarV]
set_option maxHeartbeats 1000000 in
theorem grow_spec {H : Heap} {n : Nat} (hn : n ≤ 1099511627776) : ACalls Tryd.prog 46 [Value.slice none 0 0, .int .i64 n].toArray H fun e H' => ∃ v, e = .returned v ∧ Ss H' v [] ∧ Keep H H' ∧ Fresh H v := by
  refine call46 (Nat.le_of_ble_eq_true rfl) ?_
  unfold L46 env0
  have f0 : decide ((n : Int) < 0) = false := decide_eq_false (by omega)
  have e0 : (((0 : Nat) : Int) - ((0 : Nat) : Int)) = 0 := rfl
  have e1 : (n : Int) - 0 = n := by omega
  simp -implicitDefEqProofs (maxSteps := 1000000) (disch := first | omega | assumption) only [f0, Sx, reduceIte, Nat.reduceEqDiff, reduceCtorEq, Nat.reduceAdd, Nat.reduceSub, Nat.reduceLT]
  unfold L46_1
  by_cases h0 : n = 0
  · have f1 : decide ((0 : Int) < (n : Int)) = false := decide_eq_false (by omega)
    simp -implicitDefEqProofs (maxSteps := 1000000) (disch := first | omega | assumption) only [e0, e1, f1, Sx, reduceIte, Nat.reduceEqDiff, reduceCtorEq, Nat.reduceAdd, Nat.reduceSub, Nat.reduceLT]
    unfold L46_0
    simp -implicitDefEqProofs (maxSteps := 1000000) (disch := first | omega | assumption) only [Sx, reduceIte, Nat.reduceEqDiff, reduceCtorEq, Nat.reduceAdd, Nat.reduceSub, Nat.reduceLT]
    exact ⟨_, rfl, .nil, Keep.refl _, fun q hq => by cases hq⟩
  · have f1 : decide ((0 : Int) < (n : Int)) = true := decide_eq_true (by omega)
    simp -implicitDefEqProofs (maxSteps := 1000000) (disch := first | omega | assumption) only [e0, e1, f1, ev_slc_hi, Sx, reduceIte, Nat.reduceEqDiff, reduceCtorEq, Nat.reduceAdd, Nat.reduceSub, Nat.reduceLT]
    refine a_appz (len := 0) (sz := 1) (cs := []) (m := n) .nil (by rfl) rfl (by omega) zeros_scalar (by omega) (by omega) ?_
    intro v2 H2 hO2 ho2 hm2
    rw [List.nil_append] at hO2
    obtain ⟨a, len, cap, rfl, hl, hc, hr⟩ := Own.view hO2
    have hk2 : Keep H H2 := ho2.keep (Keep.refl _) fun q hq => by cases hq
    simp -implicitDefEqProofs (maxSteps := 1000000) (disch := first | omega | assumption) only [ev_slc_hi, Sx, reduceIte, Nat.reduceEqDiff, reduceCtorEq, Nat.reduceAdd, Nat.reduceSub, Nat.reduceLT]
    unfold L46_0
    simp -implicitDefEqProofs (maxSteps := 1000000) (disch := first | omega | assumption) only [Sx, reduceIte, Nat.reduceEqDiff, reduceCtorEq, Nat.reduceAdd, Nat.reduceSub, Nat.reduceLT]
    refine ⟨_, rfl, own_cut0 hO2, hk2, fun q hq => ?_⟩
    have e3 : own (Value.slice a 0 cap) = own (Value.slice a len cap) := by cases a <;> rfl
    rw [e3] at hq
    rcases hm2 with e | ⟨r, e, hr2⟩
    · rw [e] at hq; cases hq
    · rw [e] at hq
      cases hq
      exact hr2

/-- rows of rows -/
structure Rws (H : Heap) (a : Option Addr) (ws : List (List (List UInt8))) : Prop where
  each : ∀ (i : Nat) (h : i < ws.length), ∃ b A C, a = some b ∧ H.cell? (b.add i) = some (.slice A ws[i].length C) ∧ Row H A (strs ws[i])
theorem Rws.keep {H H' : Heap} {a : Option Addr} {ws : List (List (List UInt8))} (h : Rws H a ws) (hk : Keep H H') : Rws H' a ws :=
  ⟨fun i hi => by
    obtain ⟨b, A, C, e, hc, hr⟩ := h.each i hi
    exact ⟨b, A, C, e, hk.cell hc, hk.row hr⟩⟩
theorem flat_take {ws : List (List (List UInt8))} {i : Nat} (h : i < ws.length) : (ws.take (i + 1)).flatten = (ws.take i).flatten ++ ws[i] := by
  rw [List.take_succ_eq_append_getElem h, List.flatten_append]
  simp
theorem flat_take_le (ws : List (List (List UInt8))) (i : Nat) : (ws.take i).flatten.length ≤ ws.flatten.length := by
  conv => rhs; rw [← List.take_append_drop i ws, List.flatten_append, List.length_append]
  omega
set_option maxHeartbeats 4000000 in
theorem concat_spec {H : Heap} {a : Option Addr} {n c : Nat} {ws : List (List (List UInt8))} (hw : Rws H a ws) (hn : n = ws.length) (hl : ws.flatten.length ≤ 1099511627) (hl2 : ws.length ≤ 1099511627) :
    ACalls Tryd.prog 33 [Value.slice a n c].toArray H fun e H' => ∃ v, e = .returned v ∧ Ss H' v ws.flatten ∧ Keep H H' ∧ Fresh H v := by
  subst hn
  refine call33 (Nat.le_of_ble_eq_true rfl) ?_
  unfold L33 env0
  simp -implicitDefEqProofs (maxSteps := 1000000) (disch := first | omega | assumption) only [Sx, reduceIte, Nat.reduceEqDiff, reduceCtorEq, Nat.reduceAdd, Nat.reduceSub, Nat.reduceLT]
  refine c_loop (fun k env H' => H' = H ∧ ∃ i, k + i = ws.length ∧ env 0 = .slice a ws.length c ∧ env 9 = .slice a ws.length c ∧ env 10 = .int .i64 ws.length ∧ env 11 = .int .i64 i ∧ env 3 = .int .i64 (ws.take i).flatten.length) ws.length ⟨rfl, 0, by omega, by simp -implicitDefEqProofs (maxSteps := 1000000) (disch := first | omega | assumption) only [Sx, reduceIte, Nat.reduceEqDiff, reduceCtorEq, Nat.reduceAdd, Nat.reduceSub, Nat.reduceLT], by simp -implicitDefEqProofs (maxSteps := 1000000) (disch := first | omega | assumption) only [Sx, reduceIte, Nat.reduceEqDiff, reduceCtorEq, Nat.reduceAdd, Nat.reduceSub, Nat.reduceLT], by simp -implicitDefEqProofs (maxSteps := 1000000) (disch := first | omega | assumption) only [Sx, reduceIte, Nat.reduceEqDiff, reduceCtorEq, Nat.reduceAdd, Nat.reduceSub, Nat.reduceLT], by simp -implicitDefEqProofs (maxSteps := 1000000) (disch := first | omega | assumption) only [Sx, reduceIte, Nat.reduceEqDiff, reduceCtorEq, Nat.reduceAdd, Nat.reduceSub, Nat.reduceLT]; rfl, by simp -implicitDefEqProofs (maxSteps := 1000000) (disch := first | omega | assumption) only [Sx, reduceIte, Nat.reduceEqDiff, reduceCtorEq, Nat.reduceAdd, Nat.reduceSub, Nat.reduceLT]; rfl⟩ ?_
  rintro k env H1 ⟨rfl, i, hk, h0, h9, h10, h11, h3⟩
  unfold L33_1
  by_cases hi : i < ws.length
  · have f0 : decide ((i : Int) < (ws.length : Int)) = true := decide_eq_true (by omega)
    obtain ⟨b, A, C, rfl, hb, hr⟩ := hw.each i hi
    have hle := flat_take_le ws i
    have hle2 := flat_take_le ws (i + 1)
    have hft := flat_take hi
    rw [hft, List.length_append] at hle2
    have f1 : decide ((((ws.take i).flatten.length : Nat) : Int) + (ws[i].length : Int) < 0) = false := decide_eq_false (by omega)
    simp -implicitDefEqProofs (maxSteps := 1000000) (disch := first | omega | assumption) only [h0, h9, h10, h11, h3, f0, f1, hb, Sx, reduceIte, Nat.reduceEqDiff, reduceCtorEq, Nat.reduceAdd, Nat.reduceSub, Nat.reduceLT]
    unfold L33_0
    simp -implicitDefEqProofs (maxSteps := 1000000) (disch := first | omega | assumption) only [h0, h9, h10, h11, h3, Sx, reduceIte, Nat.reduceEqDiff, reduceCtorEq, Nat.reduceAdd, Nat.reduceSub, Nat.reduceLT]
    exact ⟨k - 1, by omega, by trivial, i + 1, by omega, by trivial, by trivial, by trivial, by simp -implicitDefEqProofs (maxSteps := 1000000) (disch := first | omega | assumption) only [Int.natCast_add, Int.natCast_one, Sx, reduceIte, Nat.reduceEqDiff, reduceCtorEq, Nat.reduceAdd, Nat.reduceSub, Nat.reduceLT], by rw [hft, List.length_append]; simp -implicitDefEqProofs (maxSteps := 1000000) (disch := first | omega | assumption) only [Int.natCast_add, Sx, reduceIte, Nat.reduceEqDiff, reduceCtorEq, Nat.reduceAdd, Nat.reduceSub, Nat.reduceLT]⟩
  · have f0 : decide ((i : Int) < (ws.length : Int)) = false := decide_eq_false (by omega)
    rw [List.take_of_length_le (by omega)] at h3
    simp -implicitDefEqProofs (maxSteps := 1000000) (disch := first | omega | assumption) only [h0, h9, h10, h11, h3, f0, Sx, reduceIte, Nat.reduceEqDiff, reduceCtorEq, Nat.reduceAdd, Nat.reduceSub, Nat.reduceLT]
    refine a_call (grow_spec (by omega)) ?_
    rintro e H2 ⟨v2, rfl, hO2, hk2, hF2⟩
    have hs2 := hO2.scalar
    simp -implicitDefEqProofs (maxSteps := 1000000) (disch := first | omega | assumption) only [endK, h0, h9, h10, h11, h3, Sx, reduceIte, Nat.reduceEqDiff, reduceCtorEq, Nat.reduceAdd, Nat.reduceSub, Nat.reduceLT]
    refine c_loop (fun k env H' => ∃ i v, k + i = ws.length ∧ env 25 = .slice a ws.length c ∧ env 26 = .int .i64 ws.length ∧ env 27 = .int .i64 i ∧ env 6 = v ∧ Ss H' v (ws.take i).flatten ∧ Keep H1 H' ∧ Fresh H1 v) ws.length ⟨0, v2, by omega, by simp -implicitDefEqProofs (maxSteps := 1000000) (disch := first | omega | assumption) only [Sx, reduceIte, Nat.reduceEqDiff, reduceCtorEq, Nat.reduceAdd, Nat.reduceSub, Nat.reduceLT], by simp -implicitDefEqProofs (maxSteps := 1000000) (disch := first | omega | assumption) only [Sx, reduceIte, Nat.reduceEqDiff, reduceCtorEq, Nat.reduceAdd, Nat.reduceSub, Nat.reduceLT], by simp -implicitDefEqProofs (maxSteps := 1000000) (disch := first | omega | assumption) only [Sx, reduceIte, Nat.reduceEqDiff, reduceCtorEq, Nat.reduceAdd, Nat.reduceSub, Nat.reduceLT]; rfl, by simp -implicitDefEqProofs (maxSteps := 1000000) (disch := first | omega | assumption) only [Sx, reduceIte, Nat.reduceEqDiff, reduceCtorEq, Nat.reduceAdd, Nat.reduceSub, Nat.reduceLT], hO2, hk2, hF2⟩ ?_
    rintro k2 env2 H3 ⟨j, v, hk3, h25, h26, h27, h6, hO3, hK3, hF3⟩
    unfold L33_2
    have hs3 := hO3.scalar
    by_cases hj : j < ws.length
    · have f1 : decide ((j : Int) < (ws.length : Int)) = true := decide_eq_true (by omega)
      obtain ⟨b, A, C, rfl, hb, hr⟩ := (hw.keep hK3).each j hj
      have hft := flat_take hj
      have hle := flat_take_le ws (j + 1)
      rw [hft, List.length_append] at hle
      simp -implicitDefEqProofs (maxSteps := 1000000) (disch := first | omega | assumption) only [h25, h26, h27, h6, f1, hb, Sx, reduceIte, Nat.reduceEqDiff, reduceCtorEq, Nat.reduceAdd, Nat.reduceSub, Nat.reduceLT]
      refine a_app (len := (ws.take j).flatten.length) (m := ws[j].length) (new := strs ws[j]) hO3 (by rw [strs, List.length_map, Nat.mul_one]) rfl (hr.cells (by simp)) (by simp) rfl (by omega) (strs_scalar _) (by omega) ?_
      intro v4 H4 hO4 ho4 hm4
      try simp -implicitDefEqProofs (maxSteps := 1000000) (disch := first | omega | assumption) only [h25, h26, h27, h6, Sx, reduceIte, Nat.reduceEqDiff, reduceCtorEq, Nat.reduceAdd, Nat.reduceSub, Nat.reduceLT]
      refine ⟨k2 - 1, by omega, j + 1, v4, by omega, by simp -implicitDefEqProofs (maxSteps := 1000000) (disch := first | omega | assumption) only [h25, Sx, reduceIte, Nat.reduceEqDiff, reduceCtorEq, Nat.reduceAdd, Nat.reduceSub, Nat.reduceLT], by simp -implicitDefEqProofs (maxSteps := 1000000) (disch := first | omega | assumption) only [h26, Sx, reduceIte, Nat.reduceEqDiff, reduceCtorEq, Nat.reduceAdd, Nat.reduceSub, Nat.reduceLT], by simp -implicitDefEqProofs (maxSteps := 1000000) (disch := first | omega | assumption) only [Int.natCast_add, Int.natCast_one, Sx, reduceIte, Nat.reduceEqDiff, reduceCtorEq, Nat.reduceAdd, Nat.reduceSub, Nat.reduceLT], by simp -implicitDefEqProofs (maxSteps := 1000000) (disch := first | omega | assumption) only [Sx, reduceIte, Nat.reduceEqDiff, reduceCtorEq, Nat.reduceAdd, Nat.reduceSub, Nat.reduceLT], ?_, ho4.keep hK3 hF3, hm4.fresh hK3 hF3⟩
      show Own H4 _ 1 _ _
      rw [hft, strs, List.map_append]
      exact hO4
    · have f1 : decide ((j : Int) < (ws.length : Int)) = false := decide_eq_false (by omega)
      rw [List.take_of_length_le (by omega)] at hO3
      simp -implicitDefEqProofs (maxSteps := 1000000) (disch := first | omega | assumption) only [h25, h26, h27, h6, f1, Sx, reduceIte, Nat.reduceEqDiff, reduceCtorEq, Nat.reduceAdd, Nat.reduceSub, Nat.reduceLT]
      exact ⟨v, rfl, hO3, hK3, hF3⟩

set_option maxHeartbeats 2000000 in
theorem equal_spec {a b : Option Addr} {n m c d : Nat} {H : Heap} {xs ys : List (List UInt8)} (hx : Row H a (strs xs)) (hy : Row H b (strs ys)) (hn : n = xs.length) (hm : m = ys.length) (hl : xs.length ≤ 1125899906842624) :
    ACalls Tryd.prog 34 [Value.slice a n c, Value.slice b m d].toArray H fun e H' => e = .returned (.bool (decide (xs = ys))) ∧ H' = H := by
  subst hn; subst hm
  refine call34 (Nat.le_of_ble_eq_true rfl) ?_
  unfold L34 env0
  by_cases hlen : xs.length = ys.length
  case neg =>
    have f0 : ((xs.length : Int) != (ys.length : Int)) = true := by rw [bne_iff_ne]; omega
    simp -implicitDefEqProofs (maxSteps := 1000000) (disch := first | omega | assumption) only [f0, Sx, reduceIte, Nat.reduceEqDiff, reduceCtorEq, Nat.reduceAdd, Nat.reduceSub, Nat.reduceLT]
    refine ⟨?_, by trivial⟩
    have : xs ≠ ys := by rintro rfl; exact hlen rfl
    simp [this]
  have f0 : ((xs.length : Int) != (ys.length : Int)) = false := by rw [bne_eq_false_iff_eq]; omega
  simp -implicitDefEqProofs (maxSteps := 1000000) (disch := first | omega | assumption) only [f0, Sx, reduceIte, Nat.reduceEqDiff, reduceCtorEq, Nat.reduceAdd, Nat.reduceSub, Nat.reduceLT]
  refine c_loop (fun k env H' => H' = H ∧ ∃ i, k + i = xs.length ∧ env 0 = .slice a xs.length c ∧ env 1 = .slice b ys.length d ∧ env 12 = .int .i64 xs.length ∧ env 13 = .int .i64 i ∧ xs.take i = ys.take i) xs.length ⟨rfl, 0, by omega, by simp -implicitDefEqProofs (maxSteps := 1000000) (disch := first | omega | assumption) only [Sx, reduceIte, Nat.reduceEqDiff, reduceCtorEq, Nat.reduceAdd, Nat.reduceSub, Nat.reduceLT], by simp -implicitDefEqProofs (maxSteps := 1000000) (disch := first | omega | assumption) only [Sx, reduceIte, Nat.reduceEqDiff, reduceCtorEq, Nat.reduceAdd, Nat.reduceSub, Nat.reduceLT], by simp -implicitDefEqProofs (maxSteps := 1000000) (disch := first | omega | assumption) only [Sx, reduceIte, Nat.reduceEqDiff, reduceCtorEq, Nat.reduceAdd, Nat.reduceSub, Nat.reduceLT], by simp -implicitDefEqProofs (maxSteps := 1000000) (disch := first | omega | assumption) only [Sx, reduceIte, Nat.reduceEqDiff, reduceCtorEq, Nat.reduceAdd, Nat.reduceSub, Nat.reduceLT]; rfl, rfl⟩ ?_
  rintro k env H' ⟨rfl, i, hk, h0, h1, h12, h13, ht⟩
  unfold L34_0
  by_cases hi : i < xs.length
  · have f1 : decide ((i : Int) < (xs.length : Int)) = true := decide_eq_true (by omega)
    obtain ⟨p, rfl, hp⟩ := str_at hx hi
    obtain ⟨q, rfl, hq⟩ := str_at hy (i := i) (by omega)
    by_cases he : xs[i] = ys[i]
    · have f2 : (!decide (xs[i] = ys[i])) = false := by rw [decide_eq_true he]; rfl
      simp -implicitDefEqProofs (maxSteps := 1000000) (disch := first | omega | assumption) only [h0, h1, h12, h13, f1, hp, hq, t_eq, f2, Sx, reduceIte, Nat.reduceEqDiff, reduceCtorEq, Nat.reduceAdd, Nat.reduceSub, Nat.reduceLT]
      exact ⟨k - 1, by omega, by trivial, i + 1, by omega, by trivial, by trivial, by trivial, by simp -implicitDefEqProofs (maxSteps := 1000000) (disch := first | omega | assumption) only [Int.natCast_add, Int.natCast_one, Sx, reduceIte, Nat.reduceEqDiff, reduceCtorEq, Nat.reduceAdd, Nat.reduceSub, Nat.reduceLT], by rw [List.take_succ_eq_append_getElem hi, List.take_succ_eq_append_getElem (show i < ys.length by omega), ht, he]⟩
    · have f2 : (!decide (xs[i] = ys[i])) = true := by rw [decide_eq_false he]; rfl
      simp -implicitDefEqProofs (maxSteps := 1000000) (disch := first | omega | assumption) only [h0, h1, h12, h13, f1, hp, hq, t_eq, f2, Sx, reduceIte, Nat.reduceEqDiff, reduceCtorEq, Nat.reduceAdd, Nat.reduceSub, Nat.reduceLT]
      refine ⟨?_, by trivial⟩
      have : xs ≠ ys := by rintro rfl; exact he rfl
      simp [this]
  · have f1 : decide ((i : Int) < (xs.length : Int)) = false := decide_eq_false (by omega)
    simp -implicitDefEqProofs (maxSteps := 1000000) (disch := first | omega | assumption) only [h0, h1, h12, h13, f1, Sx, reduceIte, Nat.reduceEqDiff, reduceCtorEq, Nat.reduceAdd, Nat.reduceSub, Nat.reduceLT]
    have : i = xs.length := by omega
    subst this
    rw [List.take_length, hlen, List.take_length] at ht
    simp [ht]
theorem clone_spec {H : Heap} {a : Option Addr} {n c : Nat} {xs : List (List UInt8)} (hx : Row H a (strs xs)) (hn : n = xs.length) (hl : xs.length ≤ 1099511627) :
    ACalls Tryd.prog 35 [Value.slice a n c].toArray H fun e H' => ∃ v, e = .returned v ∧ Ss H' v xs ∧ Keep H H' ∧ Fresh H v := by
  subst hn
  refine call35 (Nat.le_of_ble_eq_true rfl) ?_
  unfold L35 env0
  cases a with
  | none =>
    have hnil : xs = [] := by
      cases xs with
      | nil => rfl
      | cons x xs => obtain ⟨b, e, _⟩ := hx 0 _ rfl; cases e
    subst hnil
    have f0 : ((none : Option Addr).isNone != false) = true := rfl
    simp -implicitDefEqProofs (maxSteps := 1000000) (disch := first | omega | assumption) only [ev_eqs0, f0, Sx, reduceIte, Nat.reduceEqDiff, reduceCtorEq, Nat.reduceAdd, Nat.reduceSub, Nat.reduceLT]
    exact ⟨_, rfl, .nil, Keep.refl _, fun q hq => by cases hq⟩
  | some a =>
    have f0 : (false != false) = false := rfl
    simp -implicitDefEqProofs (maxSteps := 1000000) (disch := first | omega | assumption) only [ev_eqs1, f0, Sx, reduceIte, Nat.reduceEqDiff, reduceCtorEq, Nat.reduceAdd, Nat.reduceSub, Nat.reduceLT]
    refine lits_nostr ?_
    intro r1 H1 hO1 hk1 hr1
    try simp -implicitDefEqProofs (maxSteps := 1000000) (disch := first | omega | assumption) only [Sx, reduceIte, Nat.reduceEqDiff, reduceCtorEq, Nat.reduceAdd, Nat.reduceSub, Nat.reduceLT]
    refine a_app (len := 0) (m := xs.length) (new := strs xs) hO1 rfl (by rfl) ((hk1.row hx).cells (by simp)) (by simp) rfl (by omega) (strs_scalar _) (by omega) ?_
    intro v2 H2 hO2 ho2 hm2
    try simp -implicitDefEqProofs (maxSteps := 1000000) (disch := first | omega | assumption) only [Sx, reduceIte, Nat.reduceEqDiff, reduceCtorEq, Nat.reduceAdd, Nat.reduceSub, Nat.reduceLT]
    exact ⟨v2, rfl, hO2, ho2.keep hk1 (by rintro q ⟨⟩; exact hr1), hm2.fresh hk1 (by rintro q ⟨⟩; exact hr1)⟩

def underN (xs ys : List (List UInt8)) : Bool := decide (ys.length < xs.length) && decide (xs.take ys.length = ys)
theorem under_spec {a b : Option Addr} {n m c d : Nat} {H : Heap} {xs ys : List (List UInt8)} (hx : Row H a (strs xs)) (hy : Row H b (strs ys)) (hn : n = xs.length) (hm : m = ys.length) (hc : n ≤ c) (hl : xs.length ≤ 1125899906842624) :
    ACalls Tryd.prog 19 [Value.slice a n c, Value.slice b m d].toArray H fun e H' => e = .returned (.bool (underN xs ys)) ∧ H' = H := by
  subst hn; subst hm
  refine call19 (Nat.le_of_ble_eq_true rfl) ?_
  unfold L19 env0
  unfold underN
  by_cases h : ys.length < xs.length
  · have f0 : decide ((ys.length : Int) < (xs.length : Int)) = true := decide_eq_true (by omega)
    have hcut : (0 : Int) ≤ (ys.length : Int) ∧ (ys.length : Int) ≤ (c : Int) := by omega
    simp -implicitDefEqProofs (maxSteps := 1000000) (disch := first | omega | assumption) only [f0, ev_slc_hi, hcut, l_g, Sx, reduceIte, Nat.reduceEqDiff, reduceCtorEq, Nat.reduceAdd, Nat.reduceSub, Nat.reduceLT]
    have ht := hx.take ys.length
    rw [strs, ← List.map_take] at ht
    refine a_call (equal_spec (n := ys.length) ht hy (by rw [List.length_take]; omega) rfl (by rw [List.length_take]; omega)) ?_
    rintro e H1 ⟨rfl, rfl⟩
    rw [decide_eq_true h, Bool.true_and]
    simp -implicitDefEqProofs (maxSteps := 1000000) (disch := first | omega | assumption) only [endK, l_g, Sx, reduceIte, Nat.reduceEqDiff, reduceCtorEq, Nat.reduceAdd, Nat.reduceSub, Nat.reduceLT]
    exact ⟨by trivial, by trivial⟩
  · have f0 : decide ((ys.length : Int) < (xs.length : Int)) = false := decide_eq_false (by omega)
    rw [decide_eq_false h, Bool.false_and]
    simp -implicitDefEqProofs (maxSteps := 1000000) (disch := first | omega | assumption) only [f0, l_g, Sx, reduceIte, Nat.reduceEqDiff, reduceCtorEq, Nat.reduceAdd, Nat.reduceSub, Nat.reduceLT]
    exact ⟨by trivial, by trivial⟩
/-- Strip -/
def stripN (xs : List (List UInt8)) (z : Int) : List (List UInt8) × Bool := if z < 0 ∨ (xs.length : Int) ≤ z then ([], false) else (xs.drop z.toNat, true)
theorem strip_spec {a : Option Addr} {n c : Nat} {z : Int} {H : Heap} {xs : List (List UInt8)} (hx : Row H a (strs xs)) (hn : n = xs.length) (hc : n ≤ c) (hl : xs.length ≤ 1099511627) :
    ACalls Tryd.prog 20 [Value.slice a n c, .int .i64 z].toArray H fun e H' => ∃ v, e = .returned (.tuple #[v, .bool (stripN xs z).2]) ∧ Ss H' v (stripN xs z).1 ∧ Keep H H' ∧ Fresh H v := by
  subst hn
  refine call20 (Nat.le_of_ble_eq_true rfl) ?_
  unfold L20 env0
  unfold stripN
  by_cases h1 : z < 0
  · have f0 : decide (z < 0) = true := decide_eq_true h1
    rw [if_pos (.inl h1)]
    simp -implicitDefEqProofs (maxSteps := 1000000) (disch := first | omega | assumption) only [f0, l_g, Sx, reduceIte, Nat.reduceEqDiff, reduceCtorEq, Nat.reduceAdd, Nat.reduceSub, Nat.reduceLT]
    exact ⟨_, rfl, .nil, Keep.refl _, fun q hq => by cases hq⟩
  have f0 : decide (z < 0) = false := decide_eq_false h1
  by_cases h2 : (xs.length : Int) ≤ z
  · have f1 : decide ((xs.length : Int) ≤ z) = true := decide_eq_true h2
    rw [if_pos (.inr h2)]
    simp -implicitDefEqProofs (maxSteps := 1000000) (disch := first | omega | assumption) only [f0, f1, l_g, Sx, reduceIte, Nat.reduceEqDiff, reduceCtorEq, Nat.reduceAdd, Nat.reduceSub, Nat.reduceLT]
    exact ⟨_, rfl, .nil, Keep.refl _, fun q hq => by cases hq⟩
  have f1 : decide ((xs.length : Int) ≤ z) = false := decide_eq_false h2
  rw [if_neg (by rintro (h | h); exact h1 h; exact h2 h)]
  have hcut : (0 : Int) ≤ z ∧ z ≤ (xs.length : Int) := by omega
  simp -implicitDefEqProofs (maxSteps := 1000000) (disch := first | omega | assumption) only [f0, f1, ev_slc_lo, hcut, l_g, Sx, reduceIte, Nat.reduceEqDiff, reduceCtorEq, Nat.reduceAdd, Nat.reduceSub, Nat.reduceLT]
  have hd := hx.cut (c := c) (l := z.toNat) (sz := 1) (by simpa using hc)
  rw [Nat.mul_one, strs, ← List.map_drop] at hd
  refine a_call (clone_spec (n := xs.length - z.toNat) hd (by simp) (by simp; omega)) ?_
  rintro e H1 ⟨v, rfl, hO, hk, hF⟩
  have hs := hO.scalar
  simp -implicitDefEqProofs (maxSteps := 1000000) (disch := first | omega | assumption) only [endK, l_g, Sx, reduceIte, Nat.reduceEqDiff, reduceCtorEq, Nat.reduceAdd, Nat.reduceSub, Nat.reduceLT]
  exact ⟨v, rfl, hO, hk, hF⟩

/-- Place -/
def placeN (xs ys : List (List UInt8)) : List (List UInt8) × Int := if (joinN (xs ++ ys)).2 ≠ 0 then ([], (joinN (xs ++ ys)).2) else (xs ++ ys, 0)
theorem tot_app (xs ys : List (List UInt8)) : tot (xs ++ ys) = tot xs + tot ys := by simp [tot, List.sum_append]
set_option maxHeartbeats 2000000 in
theorem place_spec {a b : Option Addr} {n m c d : Nat} {H : Heap} {xs ys : List (List UInt8)} (hx : Row H a (strs xs)) (hy : Row H b (strs ys)) (hn : n = xs.length) (hm : m = ys.length) (hl : tot xs + tot ys ≤ 1099511627) :
    ACalls Tryd.prog 18 [Value.slice a n c, Value.slice b m d].toArray H fun e H' => ∃ v, e = .returned (.tuple #[v, .int .i64 (placeN xs ys).2]) ∧ Ss H' v (placeN xs ys).1 ∧ Keep H H' ∧ Fresh H v := by
  subst hn; subst hm
  refine call18 (Nat.le_of_ble_eq_true rfl) ?_
  unfold L18 env0
  have hl1 := len_tot xs
  have hl2 := len_tot ys
  simp -implicitDefEqProofs (maxSteps := 1000000) (disch := first | omega | assumption) only [Sx, reduceIte, Nat.reduceEqDiff, reduceCtorEq, Nat.reduceAdd, Nat.reduceSub, Nat.reduceLT]
  refine a_lits (sz := 1) (cells := #[.slice a xs.length c, .slice b ys.length d]) rfl rfl ?_
  intro r H1 hO1 hk1 hr1
  try simp -implicitDefEqProofs (maxSteps := 1000000) (disch := first | omega | assumption) only [Sx, reduceIte, Nat.reduceEqDiff, reduceCtorEq, Nat.reduceAdd, Nat.reduceSub, Nat.reduceLT]
  obtain ⟨_, _, _, e, _, _, hrow⟩ := Own.view hO1
  cases e
  have hw : Rws H1 (some ⟨r, 0, none⟩) [xs, ys] := ⟨fun i hi => by
    rcases i with _ | _ | i
    · obtain ⟨b', e, h⟩ := hrow 0 _ rfl
      cases e
      exact ⟨_, a, c, rfl, h, hk1.row hx⟩
    · obtain ⟨b', e, h⟩ := hrow 1 _ rfl
      cases e
      exact ⟨_, b, d, rfl, h, hk1.row hy⟩
    · simp at hi; omega⟩
  refine a_call (concat_spec (n := 2) hw rfl (by simp; omega) (by simp)) ?_
  rintro e H2 ⟨v, rfl, hO2, hk2, hF2⟩
  have hfl : [xs, ys].flatten = xs ++ ys := by simp
  rw [hfl] at hO2
  obtain ⟨a2, c2, rfl, hc2, r2⟩ := Ss.len hO2
  have hF0 : Fresh H (Value.slice a2 (xs ++ ys).length c2) := fun q hq => hk1.none (hF2 q hq)
  simp -implicitDefEqProofs (maxSteps := 1000000) (disch := first | omega | assumption) only [endK, Sx, reduceIte, Nat.reduceEqDiff, reduceCtorEq, Nat.reduceAdd, Nat.reduceSub, Nat.reduceLT]
  refine a_call (pjoin_spec r2 (own_spot hO2 rfl) rfl hc2 (by rw [tot_app]; omega)) ?_
  rintro e H3 ⟨rfl, rfl⟩
  unfold placeN
  by_cases h : (joinN (xs ++ ys)).2 = 0
  · have q0 : ((joinN (xs ++ ys)).2 != 0) = false := by rw [bne_eq_false_iff_eq]; exact h
    simp -implicitDefEqProofs (maxSteps := 1000000) (disch := first | omega | assumption) only [endK, q0, Sx, reduceIte, Nat.reduceEqDiff, reduceCtorEq, Nat.reduceAdd, Nat.reduceSub, Nat.reduceLT]
    rw [if_neg (fun e => e h)]
    exact ⟨_, rfl, hO2, hk1.trans hk2, hF0⟩
  · have q0 : ((joinN (xs ++ ys)).2 != 0) = true := by rw [bne_iff_ne]; exact h
    simp -implicitDefEqProofs (maxSteps := 1000000) (disch := first | omega | assumption) only [endK, q0, Sx, reduceIte, Nat.reduceEqDiff, reduceCtorEq, Nat.reduceAdd, Nat.reduceSub, Nat.reduceLT]
    rw [if_pos h]
    exact ⟨_, rfl, .nil, hk1.trans hk2, fun q hq => by cases hq⟩
end Go.Proofs.YtdlmomjcolbkgaaDoor.S09
