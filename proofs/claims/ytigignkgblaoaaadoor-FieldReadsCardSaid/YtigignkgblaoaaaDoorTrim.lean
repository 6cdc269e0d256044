/-
  bytes.TrimLeft at a blank, bytes.Trim at blanks and zeros.
-/
import Derived.Test.YtigignkgblaoaaaDoorLowA
import Derived.Test.YtigignkgblaoaaaDoorBytes
set_option linter.unusedVariables false
set_option linter.unusedSimpArgs false
namespace Go.Proofs.YtigignkgblaoaaaDoor.S12
open Go Go.RowKit Go.Proofs.YtigignkgblaoaaaDoor.Sep Go.Proofs.YtigignkgblaoaaaDoor.Low Go.Proofs.YtigignkgblaoaaaDoor.Lib

theorem one_cut {n : Nat} (h : 0 < n) : (0 : Int) ≤ 1 ∧ (1 : Int) ≤ (n : Int) := by omega
set_option maxHeartbeats 1000000 in
theorem trimLeft_spec {H : Heap} {v : Value} {l : List Int} {x : Int} (hb : By H v l) (hl : l.length ≤ 1125899906842624) :
    ACalls Tryd.prog 43 [v, .int .u8 x].toArray H fun e H' => H' = H ∧ ∃ v', e = .returned v' ∧ By H v' (l.dropWhile (· == x)) := by
  obtain ⟨A, c, rfl, hc, hr⟩ := hb
  refine call43 (Nat.le_of_ble_eq_true rfl) ?_
  unfold L43 env0
  simp -implicitDefEqProofs (maxSteps := 1000000) (disch := first | omega | assumption) only [Sx, reduceIte, Nat.reduceEqDiff, reduceCtorEq, Nat.reduceAdd, Nat.reduceSub, Nat.reduceLT]
  refine c_loop (fun k env H' => H' = H ∧ ∃ A c l', k = l'.length ∧ env 0 = .slice A l'.length c ∧ env 1 = .int .u8 x ∧ l'.length ≤ c ∧ Row H A (by8 l') ∧ l'.length ≤ 1125899906842624 ∧ l'.dropWhile (· == x) = l.dropWhile (· == x)) l.length ⟨rfl, A, c, l, rfl, by simp -implicitDefEqProofs (maxSteps := 1000000) (disch := first | omega | assumption) only [Sx, reduceIte, Nat.reduceEqDiff, reduceCtorEq, Nat.reduceAdd, Nat.reduceSub, Nat.reduceLT], by simp -implicitDefEqProofs (maxSteps := 1000000) (disch := first | omega | assumption) only [Sx, reduceIte, Nat.reduceEqDiff, reduceCtorEq, Nat.reduceAdd, Nat.reduceSub, Nat.reduceLT], hc, hr, hl, rfl⟩ ?_
  rintro k env H1 ⟨rfl, A, c, l', rfl, h0, h1, hc, hr, hl', ht⟩
  unfold L43_0
  cases l' with
  | nil =>
    have f0 : decide ((0 : Int) < ((([] : List Int).length : Nat) : Int)) = false := by decide
    have f1 : (((([] : List Int).length : Nat) : Int) == 0) = true := by decide
    simp only [List.length_nil] at f0 f1
    simp -implicitDefEqProofs (maxSteps := 1000000) (disch := first | omega | assumption) only [h0, h1, f0, f1, l_g, Sx, reduceIte, Nat.reduceEqDiff, reduceCtorEq, Nat.reduceAdd, Nat.reduceSub, Nat.reduceLT]
    refine ⟨by trivial, _, rfl, ?_⟩
    rw [← ht]
    exact .nil
  | cons y r =>
    obtain ⟨n, hn⟩ : ∃ n, n = (y :: r).length := ⟨_, rfl⟩
    have hn1 : n = r.length + 1 := by simpa using hn
    rw [← hn] at h0 hc hl'
    have f0 : decide ((0 : Int) < (n : Int)) = true := decide_eq_true (by omega)
    obtain ⟨b, rfl, hy⟩ := by_at hr (i := 0) (by simp)
    rw [add_zero_a] at hy
    simp only [List.getElem_cons_zero] at hy
    have hin : (0 : Int) ≤ 0 ∧ (0 : Int) < (n : Int) := by omega
    by_cases hyx : y = x
    · have f1 : (y == x) = true := by rw [beq_iff_eq]; exact hyx
      have hcut := one_cut (n := n) (by omega)
      simp -implicitDefEqProofs (maxSteps := 1000000) (disch := first | omega | assumption) only [h0, h1, f0, f1, hy, Int.toNat_zero, Nat.zero_mul, ev_slc_lo, Int.toNat_one, l_g, Sx, reduceIte, Nat.reduceEqDiff, reduceCtorEq, Nat.reduceAdd, Nat.reduceSub, Nat.reduceLT]
      have hd := row_drop (k := 1) hr (by rw [← hn]; exact hc)
      refine ⟨r.length, by omega, by trivial, _, _, r, rfl, by rw [show n - 1 = r.length by omega], by trivial, ?_, hd, by omega, ?_⟩
      · show r.length ≤ c - 1; omega
      · rw [← ht, List.dropWhile_cons, f1]; simp
    · have f1 : (y == x) = false := by rw [beq_eq_false_iff_ne]; exact hyx
      have f2 : ((n : Int) == 0) = false := by rw [beq_eq_false_iff_ne]; omega
      simp -implicitDefEqProofs (maxSteps := 1000000) (disch := first | omega | assumption) only [h0, h1, f0, f1, f2, hy, Int.toNat_zero, Nat.zero_mul, l_g, Sx, reduceIte, Nat.reduceEqDiff, reduceCtorEq, Nat.reduceAdd, Nat.reduceSub, Nat.reduceLT]
      refine ⟨by trivial, _, rfl, ?_⟩
      rw [← ht, List.dropWhile_cons, if_neg (by rw [f1]; simp)]
      exact ⟨_, _, by rw [hn], by rw [← hn]; exact hc, hr⟩
theorem trimLeftSp_spec {H : Heap} {v : Value} {l : List Int} (hb : By H v l) (hl : l.length ≤ 1125899906842624) :
    ACalls Tryd.prog 36 [v, .string ⟨#[32]⟩].toArray H fun e H' => H' = H ∧ ∃ v', e = .returned v' ∧ By H v' (l.dropWhile (· == 32)) := by
  have hb' := hb
  obtain ⟨A, c, rfl, hc, hr⟩ := hb
  refine call36 (Nat.le_of_ble_eq_true rfl) ?_
  unfold L36 env0
  by_cases h0 : l.length = 0
  · have f0 : ((l.length : Int) == 0) = true := by rw [beq_iff_eq]; omega
    have : l = [] := List.length_eq_zero_iff.1 h0
    simp -implicitDefEqProofs (maxSteps := 1000000) (disch := first | omega | assumption) only [f0, Sx, reduceIte, Nat.reduceEqDiff, reduceCtorEq, Nat.reduceAdd, Nat.reduceSub, Nat.reduceLT]
    exact ⟨by trivial, _, rfl, by rw [this]; exact .nil⟩
  · have f0 : ((l.length : Int) == 0) = false := by rw [beq_eq_false_iff_ne]; omega
    have f1 : decide (([32] : List UInt8) = []) = false := by decide
    have f2 : (((([32] : List UInt8).length : Nat) : Int) == 1) = true := by decide
    have f3 : QI.ixs.ev [.string ⟨#[32]⟩, .int .i64 0] H = some (.int .u8 32) := rfl
    have f4 : decide ((32 : Int) < 128) = true := by decide
    have f2' : (((0 + 1 : Nat) : Int) == 1) = true := by decide
    simp -implicitDefEqProofs (maxSteps := 1000000) (disch := first | omega | assumption) only [f0, t_eq, t_size, f2', f3, f4, Sx, reduceIte, Nat.reduceEqDiff, reduceCtorEq, Nat.reduceAdd, Nat.reduceSub, Nat.reduceLT, decide_true, decide_false, Bool.not_true, Bool.not_false, Int.toNat_one, Int.toNat_zero, Nat.zero_mul, l_g, endK]
    refine a_call (trimLeft_spec hb' hl) ?_
    rintro e H1 ⟨rfl, v', rfl, hv⟩
    have hs : scalarV v' = true := by obtain ⟨_, _, rfl, _⟩ := hv; rfl
    simp -implicitDefEqProofs (maxSteps := 1000000) (disch := first | omega | assumption) only [endK, Sx, reduceIte, Nat.reduceEqDiff, reduceCtorEq, Nat.reduceAdd, Nat.reduceSub, Nat.reduceLT]
    exact ⟨by trivial, v', rfl, hv⟩

/-! ### a set of bytes -/
def tab0 : List Value := List.replicate 256 (.bool false)
def tab : List Value := (tab0.set 32 (.bool true)).set 0 (.bool true)
theorem tab0_len : tab0.length = 256 := List.length_replicate
theorem tab0_at {i : Nat} (h : i < 256) : tab0[i]? = some (.bool false) := by
  unfold tab0; rw [List.getElem?_replicate, if_pos h]
theorem tab0_rep : (Array.replicate 256 (Value.bool false)) = tab0.toArray := by
  apply Array.ext'
  rw [Array.toList_replicate]
  rfl
theorem tab_len : tab.length = 256 := by unfold tab; rw [List.length_set, List.length_set, tab0_len]
theorem tab_at {x : Int} (h : 0 ≤ x ∧ x < 256) : tab[x.toNat]? = some (.bool (x == 32 || x == 0)) := by
  unfold tab
  rw [List.getElem?_set, List.getElem?_set, List.length_set, tab0_len]
  by_cases h0 : x = 0
  · subst h0; rfl
  · by_cases h1 : x = 32
    · subst h1; rfl
    · rw [if_neg (by omega), if_neg (by omega), tab0_at (by omega)]
      have e1 : (x == 32) = false := by rw [beq_eq_false_iff_ne]; exact h1
      have e2 : (x == 0) = false := by rw [beq_eq_false_iff_ne]; exact h0
      rw [e1, e2]; rfl
theorem tab_scalar : ∀ v ∈ tab, scalarV v = true := by
  intro v hv
  unfold tab at hv
  rcases List.mem_or_eq_of_mem_set hv with hv | rfl
  · rcases List.mem_or_eq_of_mem_set hv with hv | rfl
    · rw [List.eq_of_mem_replicate hv]; rfl
    · rfl
  · rfl
set_option maxHeartbeats 1000000 in
theorem makeset_spec {H : Heap} : ACalls Tryd.prog 44 [Value.string ⟨#[32, 0]⟩].toArray H fun e H' => e = .returned (.tuple #[.agg tab.toArray, .bool true]) ∧ Keep H H' := by
  refine call44 (Nat.le_of_ble_eq_true rfl) ?_
  unfold L44 env0
  simp -implicitDefEqProofs (maxSteps := 1000000) (disch := first | omega | assumption) only [Sx, reduceIte, Nat.reduceEqDiff, reduceCtorEq, Nat.reduceAdd, Nat.reduceSub, Nat.reduceLT]
  refine a_new ?_
  intro r hr
  try simp -implicitDefEqProofs (maxSteps := 1000000) (disch := first | omega | assumption) only [Sx, reduceIte, Nat.reduceEqDiff, reduceCtorEq, Nat.reduceAdd, Nat.reduceSub, Nat.reduceLT]
  rw [tab0_rep]
  refine c_loop (fun k env H' => ∃ i T, k + i = 2 ∧ env 0 = .string ⟨#[32, 0]⟩ ∧ env 2 = .pointer (some ⟨r, 0, none⟩) ∧ env 4 = .int .i64 i ∧ H' = H.set r (.cells (List.toArray T) 54 (0, 0)) ∧ ((i = 0 ∧ T = tab0) ∨ (i = 1 ∧ T = tab0.set 32 (.bool true)) ∨ (i = 2 ∧ T = tab))) 2 ⟨0, tab0, by omega, by simp -implicitDefEqProofs (maxSteps := 1000000) (disch := first | omega | assumption) only [Sx, reduceIte, Nat.reduceEqDiff, reduceCtorEq, Nat.reduceAdd, Nat.reduceSub, Nat.reduceLT], by simp -implicitDefEqProofs (maxSteps := 1000000) (disch := first | omega | assumption) only [Sx, reduceIte, Nat.reduceEqDiff, reduceCtorEq, Nat.reduceAdd, Nat.reduceSub, Nat.reduceLT], by simp -implicitDefEqProofs (maxSteps := 1000000) (disch := first | omega | assumption) only [Sx, reduceIte, Nat.reduceEqDiff, reduceCtorEq, Nat.reduceAdd, Nat.reduceSub, Nat.reduceLT]; rfl, rfl, .inl ⟨rfl, rfl⟩⟩ ?_
  rintro k env H1 ⟨i, T, hk, h0, h2, h4, rfl, hT⟩
  unfold L44_0
  have hsz : ((⟨#[32, 0]⟩ : ByteArray).size : Int) = 2 := rfl
  have hTl : T.length = 256 := by
    rcases hT with ⟨-, rfl⟩ | ⟨-, rfl⟩ | ⟨-, rfl⟩
    · exact tab0_len
    · rw [List.length_set, tab0_len]
    · exact tab_len
  rcases hT with ⟨rfl, rfl⟩ | ⟨rfl, rfl⟩ | ⟨rfl, rfl⟩
  · have f0 : decide (((0 : Nat) : Int) < 2) = true := by decide
    have f1 : QI.ixs.ev [.string ⟨#[32, 0]⟩, .int .i64 ((0 : Nat) : Int)] (H.set r (.cells tab0.toArray 54 (0, 0))) = some (.int .u8 32) := rfl
    have f2 : decide ((128 : Int) ≤ 32) = false := by decide
    have f3 : (0 : Int) ≤ 32 ∧ (32 : Int) < ((256 : Nat) : Int) := by omega
    have f4 : (32 : Int).toNat = 32 := rfl
    simp -implicitDefEqProofs (maxSteps := 1000000) (disch := first | omega | assumption) only [h0, h2, h4, hsz, f0, f1, f2, ev_iada, f4, Sx, reduceIte, Nat.reduceEqDiff, reduceCtorEq, Nat.reduceAdd, Nat.reduceSub, Nat.reduceLT]
    refine st_one set_same (by rw [List.size_toArray, hTl]; omega) rfl ?_
    simp -implicitDefEqProofs (maxSteps := 1000000) (disch := first | omega | assumption) only [h0, h2, h4, Sx, reduceIte, Nat.reduceEqDiff, reduceCtorEq, Nat.reduceAdd, Nat.reduceSub, Nat.reduceLT]
    refine ⟨1, by omega, 1, tab0.set 32 (.bool true), rfl, by trivial, by trivial, by rfl, ?_, .inr (.inl ⟨rfl, rfl⟩)⟩
    rw [set_set]
  · have f0 : decide (((1 : Nat) : Int) < 2) = true := by decide
    have f1 : QI.ixs.ev [.string ⟨#[32, 0]⟩, .int .i64 ((1 : Nat) : Int)] (H.set r (.cells (tab0.set 32 (.bool true)).toArray 54 (0, 0))) = some (.int .u8 0) := rfl
    have f2 : decide ((128 : Int) ≤ 0) = false := by decide
    have f3 : (0 : Int) ≤ 0 ∧ (0 : Int) < ((256 : Nat) : Int) := by omega
    have f4 : (0 : Int).toNat = 0 := rfl
    simp -implicitDefEqProofs (maxSteps := 1000000) (disch := first | omega | assumption) only [h0, h2, h4, hsz, f0, f1, f2, ev_iada, f4, Sx, reduceIte, Nat.reduceEqDiff, reduceCtorEq, Nat.reduceAdd, Nat.reduceSub, Nat.reduceLT]
    refine st_one set_same (by rw [List.size_toArray, hTl]; omega) rfl ?_
    simp -implicitDefEqProofs (maxSteps := 1000000) (disch := first | omega | assumption) only [h0, h2, h4, Sx, reduceIte, Nat.reduceEqDiff, reduceCtorEq, Nat.reduceAdd, Nat.reduceSub, Nat.reduceLT]
    refine ⟨0, by omega, 2, tab, rfl, by trivial, by trivial, by rfl, ?_, .inr (.inr ⟨rfl, rfl⟩)⟩
    rw [set_set]; rfl
  · have f0 : decide (((2 : Nat) : Int) < 2) = false := by decide
    have hld : (H.set r (.cells tab.toArray 54 (0, 0))).loadN ⟨r, 0, none⟩ 0 256 = some tab := by
      have := (row_of_block (cs := tab) (rest := []) (H := H.set r (.cells tab.toArray 54 (0, 0))) (f := (0, 0)) (by rw [set_same, List.append_nil])).loadN
      rwa [tab_len] at this
    simp -implicitDefEqProofs (maxSteps := 1000000) (disch := first | omega | assumption) only [h0, h2, h4, hsz, f0, ev_ldn, hld, Sx, reduceIte, Nat.reduceEqDiff, reduceCtorEq, Nat.reduceAdd, Nat.reduceSub, Nat.reduceLT]
    refine st_all set_same rfl tab_len tab_scalar ?_
    rw [set_set]
    try simp -implicitDefEqProofs (maxSteps := 1000000) (disch := first | omega | assumption) only [h0, h2, h4, Sx, reduceIte, Nat.reduceEqDiff, reduceCtorEq, Nat.reduceAdd, Nat.reduceSub, Nat.reduceLT]
    show match getAll _ _ _ with | some vs => _ | none => False
    rw [g_cn (by simp -implicitDefEqProofs (maxSteps := 1000000) (disch := first | omega | assumption) only [h2, Sx, reduceIte, Nat.reduceEqDiff, reduceCtorEq, Nat.reduceAdd, Nat.reduceSub, Nat.reduceLT]) hld]
    simp -implicitDefEqProofs (maxSteps := 1000000) (disch := first | omega | assumption) only [Sx, reduceIte, Nat.reduceEqDiff, reduceCtorEq, Nat.reduceAdd, Nat.reduceSub, Nat.reduceLT]
    exact ⟨by trivial, (Keep.refl H).set_new hr⟩
theorem contains_spec {H : Heap} {r : Nat} {x : Int} (hb : H r = some (.cells tab.toArray 54 (0, 0))) (hx : 0 ≤ x ∧ x < 256) :
    ACalls Tryd.prog 59 [Value.pointer (some ⟨r, 0, none⟩), .int .u8 x].toArray H fun e H' => e = .returned (.bool (x == 32 || x == 0)) ∧ H' = H := by
  refine call59 (Nat.le_of_ble_eq_true rfl) ?_
  unfold L59 env0
  have f3 : (0 : Int) ≤ x ∧ x < ((256 : Nat) : Int) := by omega
  have f4 := tab_at hx
  simp -implicitDefEqProofs (maxSteps := 1000000) (disch := first | omega | assumption) only [ev_iada, cell_of hb, f4, Sx, reduceIte, Nat.reduceEqDiff, reduceCtorEq, Nat.reduceAdd, Nat.reduceSub, Nat.reduceLT]
  exact ⟨by trivial, by trivial⟩
abbrev blank0 (x : Int) : Bool := x == 32 || x == 0
set_option maxHeartbeats 1000000 in
theorem trimR_spec {H : Heap} {r : Nat} {v : Value} {l : List Int} (hT : H r = some (.cells tab.toArray 54 (0, 0))) (hb : By H v l) (hi : isBy l) (hl : l.length ≤ 1125899906842624) :
    ACalls Tryd.prog 48 [v, .pointer (some ⟨r, 0, none⟩)].toArray H fun e H' => H' = H ∧ ∃ v' l', e = .returned v' ∧ By H v' l' ∧ isBy l' ∧ l'.length ≤ 1125899906842624 ∧ l'.all blank0 = l.all blank0 := by
  obtain ⟨A, c, rfl, hc, hr⟩ := hb
  refine call48 (Nat.le_of_ble_eq_true rfl) ?_
  unfold L48 env0
  simp -implicitDefEqProofs (maxSteps := 1000000) (disch := first | omega | assumption) only [Sx, reduceIte, Nat.reduceEqDiff, reduceCtorEq, Nat.reduceAdd, Nat.reduceSub, Nat.reduceLT]
  refine c_loop (fun k env H' => H' = H ∧ ∃ l', k = l'.length ∧ env 0 = .slice A l'.length c ∧ env 1 = .pointer (some ⟨r, 0, none⟩) ∧ l'.length ≤ c ∧ Row H A (by8 l') ∧ isBy l' ∧ l'.length ≤ 1125899906842624 ∧ l'.all blank0 = l.all blank0) l.length ⟨rfl, l, rfl, by simp -implicitDefEqProofs (maxSteps := 1000000) (disch := first | omega | assumption) only [Sx, reduceIte, Nat.reduceEqDiff, reduceCtorEq, Nat.reduceAdd, Nat.reduceSub, Nat.reduceLT], by simp -implicitDefEqProofs (maxSteps := 1000000) (disch := first | omega | assumption) only [Sx, reduceIte, Nat.reduceEqDiff, reduceCtorEq, Nat.reduceAdd, Nat.reduceSub, Nat.reduceLT], hc, hr, hi, hl, rfl⟩ ?_
  rintro k env H1 ⟨rfl, l', rfl, h0, h1, hc, hr, hi, hl', ht⟩
  unfold L48_0
  by_cases hn : l'.length = 0
  · have f0 : decide ((0 : Int) < (l'.length : Int)) = false := decide_eq_false (by omega)
    simp -implicitDefEqProofs (maxSteps := 1000000) (disch := first | omega | assumption) only [h0, h1, f0, Sx, reduceIte, Nat.reduceEqDiff, reduceCtorEq, Nat.reduceAdd, Nat.reduceSub, Nat.reduceLT]
    unfold L48_1
    simp -implicitDefEqProofs (maxSteps := 1000000) (disch := first | omega | assumption) only [h0, h1, Sx, reduceIte, Nat.reduceEqDiff, reduceCtorEq, Nat.reduceAdd, Nat.reduceSub, Nat.reduceLT]
    exact ⟨by trivial, _, l', rfl, ⟨_, _, rfl, hc, hr⟩, hi, hl', ht⟩
  · have f0 : decide ((0 : Int) < (l'.length : Int)) = true := decide_eq_true (by omega)
    have hlast : l'.length - 1 < l'.length := by omega
    obtain ⟨b, rfl, hy⟩ := by_at hr hlast
    have f1 : (0 : Int) ≤ (l'.length : Int) - 1 ∧ (l'.length : Int) - 1 < (l'.length : Int) := by omega
    have f2 : ((l'.length : Int) - 1).toNat = l'.length - 1 := by omega
    have hsplit : l' = l'.take (l'.length - 1) ++ [l'[l'.length - 1]] := by
      rw [← List.take_succ_eq_append_getElem hlast, List.take_of_length_le (by omega)]
    simp -implicitDefEqProofs (maxSteps := 1000000) (disch := first | omega | assumption) only [h0, h1, f0, f2, hy, Sx, reduceIte, Nat.reduceEqDiff, reduceCtorEq, Nat.reduceAdd, Nat.reduceSub, Nat.reduceLT]
    refine a_call (contains_spec hT (hi.at hlast)) ?_
    rintro e H2 ⟨rfl, rfl⟩
    cases hbl : blank0 l'[l'.length - 1] with
    | true =>
      rw [show (l'[l'.length - 1] == 32 || l'[l'.length - 1] == 0) = true from hbl]
      have f3 : (0 : Int) ≤ (l'.length : Int) - 1 ∧ (l'.length : Int) - 1 ≤ (c : Int) := by omega
      simp -implicitDefEqProofs (maxSteps := 1000000) (disch := first | omega | assumption) only [endK, h0, h1, Bool.not_true, ev_slc_hi, f2, Sx, reduceIte, Nat.reduceEqDiff, reduceCtorEq, Nat.reduceAdd, Nat.reduceSub, Nat.reduceLT]
      refine ⟨l'.length - 1, by omega, by trivial, l'.take (l'.length - 1), by rw [List.length_take]; omega, by rw [List.length_take, Nat.min_eq_left (by omega)], by trivial, by rw [List.length_take]; omega, row_take hr, hi.take _, by rw [List.length_take]; omega, ?_⟩
      rw [← ht]
      conv => rhs; rw [hsplit, List.all_append]
      simp [hbl]
    | false =>
      rw [show (l'[l'.length - 1] == 32 || l'[l'.length - 1] == 0) = false from hbl]
      simp -implicitDefEqProofs (maxSteps := 1000000) (disch := first | omega | assumption) only [endK, h0, h1, Bool.not_false, Sx, reduceIte, Nat.reduceEqDiff, reduceCtorEq, Nat.reduceAdd, Nat.reduceSub, Nat.reduceLT]
      unfold L48_1
      simp -implicitDefEqProofs (maxSteps := 1000000) (disch := first | omega | assumption) only [h0, h1, Sx, reduceIte, Nat.reduceEqDiff, reduceCtorEq, Nat.reduceAdd, Nat.reduceSub, Nat.reduceLT]
      exact ⟨by trivial, _, l', rfl, ⟨_, _, rfl, hc, hr⟩, hi, hl', ht⟩
set_option maxHeartbeats 1000000 in
theorem trimL_spec {H : Heap} {r : Nat} {v : Value} {l : List Int} (hT : H r = some (.cells tab.toArray 54 (0, 0))) (hb : By H v l) (hi : isBy l) (hl : l.length ≤ 1125899906842624) :
    ACalls Tryd.prog 45 [v, .pointer (some ⟨r, 0, none⟩)].toArray H fun e H' => H' = H ∧ ∃ A n c, e = .returned (.slice A n c) ∧ decide (0 < (n : Int)) = !l.all blank0 := by
  obtain ⟨A, c, rfl, hc, hr⟩ := hb
  refine call45 (Nat.le_of_ble_eq_true rfl) ?_
  unfold L45 env0
  simp -implicitDefEqProofs (maxSteps := 1000000) (disch := first | omega | assumption) only [Sx, reduceIte, Nat.reduceEqDiff, reduceCtorEq, Nat.reduceAdd, Nat.reduceSub, Nat.reduceLT]
  refine c_loop (fun k env H' => H' = H ∧ ∃ A c l', k = l'.length ∧ env 0 = .slice A l'.length c ∧ env 1 = .pointer (some ⟨r, 0, none⟩) ∧ l'.length ≤ c ∧ Row H A (by8 l') ∧ isBy l' ∧ l'.length ≤ 1125899906842624 ∧ l'.all blank0 = l.all blank0) l.length ⟨rfl, A, c, l, rfl, by simp -implicitDefEqProofs (maxSteps := 1000000) (disch := first | omega | assumption) only [Sx, reduceIte, Nat.reduceEqDiff, reduceCtorEq, Nat.reduceAdd, Nat.reduceSub, Nat.reduceLT], by simp -implicitDefEqProofs (maxSteps := 1000000) (disch := first | omega | assumption) only [Sx, reduceIte, Nat.reduceEqDiff, reduceCtorEq, Nat.reduceAdd, Nat.reduceSub, Nat.reduceLT], hc, hr, hi, hl, rfl⟩ ?_
  rintro k env H1 ⟨rfl, A, c, l', rfl, h0, h1, hc, hr, hi, hl', ht⟩
  unfold L45_0
  cases l' with
  | nil =>
    have f0 : decide ((0 : Int) < ((([] : List Int).length : Nat) : Int)) = false := by decide
    have f1 : (((([] : List Int).length : Nat) : Int) == 0) = true := by decide
    simp only [List.length_nil] at f0 f1
    simp -implicitDefEqProofs (maxSteps := 1000000) (disch := first | omega | assumption) only [h0, h1, f0, Sx, reduceIte, Nat.reduceEqDiff, reduceCtorEq, Nat.reduceAdd, Nat.reduceSub, Nat.reduceLT]
    unfold L45_1
    simp -implicitDefEqProofs (maxSteps := 1000000) (disch := first | omega | assumption) only [h0, h1, f1, Sx, reduceIte, Nat.reduceEqDiff, reduceCtorEq, Nat.reduceAdd, Nat.reduceSub, Nat.reduceLT]
    refine ⟨by trivial, none, 0, 0, rfl, ?_⟩
    rw [← ht]
    rfl
  | cons y q =>
    obtain ⟨n, hn⟩ : ∃ n, n = (y :: q).length := ⟨_, rfl⟩
    have hn1 : n = q.length + 1 := by simpa using hn
    rw [← hn] at h0 hc hl'
    have f0 : decide ((0 : Int) < (n : Int)) = true := decide_eq_true (by omega)
    obtain ⟨b, rfl, hy⟩ := by_at hr (i := 0) (by simp)
    rw [add_zero_a] at hy
    simp only [List.getElem_cons_zero] at hy
    have hin : (0 : Int) ≤ 0 ∧ (0 : Int) < (n : Int) := by omega
    simp -implicitDefEqProofs (maxSteps := 1000000) (disch := first | omega | assumption) only [h0, h1, f0, hy, Int.toNat_zero, Nat.zero_mul, Sx, reduceIte, Nat.reduceEqDiff, reduceCtorEq, Nat.reduceAdd, Nat.reduceSub, Nat.reduceLT]
    refine a_call (contains_spec hT (hi y List.mem_cons_self)) ?_
    rintro e H2 ⟨rfl, rfl⟩
    cases hbl : blank0 y with
    | true =>
      rw [show (y == 32 || y == 0) = true from hbl]
      have hcut := one_cut (n := n) (by omega)
      simp -implicitDefEqProofs (maxSteps := 1000000) (disch := first | omega | assumption) only [endK, h0, h1, Bool.not_true, ev_slc_lo, Int.toNat_one, Sx, reduceIte, Nat.reduceEqDiff, reduceCtorEq, Nat.reduceAdd, Nat.reduceSub, Nat.reduceLT]
      have hd := row_drop (k := 1) hr (by rw [← hn]; exact hc)
      refine ⟨q.length, by omega, by trivial, _, _, q, rfl, by rw [show n - 1 = q.length by omega], by trivial, ?_, hd, fun z hz => hi z (List.mem_cons_of_mem _ hz), by omega, ?_⟩
      · show q.length ≤ c - 1; omega
      · rw [← ht, List.all_cons, hbl, Bool.true_and]
    | false =>
      rw [show (y == 32 || y == 0) = false from hbl]
      have f2 : ((n : Int) == 0) = false := by rw [beq_eq_false_iff_ne]; omega
      simp -implicitDefEqProofs (maxSteps := 1000000) (disch := first | omega | assumption) only [endK, h0, h1, Bool.not_false, Sx, reduceIte, Nat.reduceEqDiff, reduceCtorEq, Nat.reduceAdd, Nat.reduceSub, Nat.reduceLT]
      unfold L45_1
      simp -implicitDefEqProofs (maxSteps := 1000000) (disch := first | omega | assumption) only [h0, h1, f2, Sx, reduceIte, Nat.reduceEqDiff, reduceCtorEq, Nat.reduceAdd, Nat.reduceSub, Nat.reduceLT]
      refine ⟨by trivial, _, _, _, rfl, ?_⟩
      rw [← ht, List.all_cons, hbl, Bool.false_and]
      exact f0
set_option maxHeartbeats 1000000 in
theorem trim_spec {H : Heap} {v : Value} {l : List Int} (hb : By H v l) (hi : isBy l) (hl : l.length ≤ 1125899906842624) :
    ACalls Tryd.prog 37 [v, .string ⟨#[32, 0]⟩].toArray H fun e H' => Keep H H' ∧ ∃ A n c, e = .returned (.slice A n c) ∧ decide (0 < (n : Int)) = !l.all blank0 := by
  have hb' := hb
  obtain ⟨A, c, rfl, hc, hr⟩ := hb
  refine call37 (Nat.le_of_ble_eq_true rfl) ?_
  unfold L37 env0
  by_cases h0 : l.length = 0
  · have f0 : ((l.length : Int) == 0) = true := by rw [beq_iff_eq]; omega
    have : l = [] := List.length_eq_zero_iff.1 h0
    simp -implicitDefEqProofs (maxSteps := 1000000) (disch := first | omega | assumption) only [f0, Sx, reduceIte, Nat.reduceEqDiff, reduceCtorEq, Nat.reduceAdd, Nat.reduceSub, Nat.reduceLT]
    exact ⟨Keep.refl _, none, 0, 0, rfl, by rw [this]; rfl⟩
  · have f0 : ((l.length : Int) == 0) = false := by rw [beq_eq_false_iff_ne]; omega
    have f1 : decide (([32, 0] : List UInt8) = []) = false := by decide
    have f2 : (((0 + 1 + 1 : Nat) : Int) == 1) = false := by decide
    simp -implicitDefEqProofs (maxSteps := 1000000) (disch := first | omega | assumption) only [f0, t_eq, t_size, f2, Sx, reduceIte, Nat.reduceEqDiff, reduceCtorEq, Nat.reduceAdd, Nat.reduceSub, Nat.reduceLT, decide_true, decide_false, Bool.not_true, Bool.not_false, Int.toNat_one, Int.toNat_zero, Nat.zero_mul, l_g, endK]
    refine a_call makeset_spec ?_
    rintro e H1 ⟨rfl, hk1⟩
    simp -implicitDefEqProofs (maxSteps := 1000000) (disch := first | omega | assumption) only [endK, Sx, reduceIte, Nat.reduceEqDiff, reduceCtorEq, Nat.reduceAdd, Nat.reduceSub, Nat.reduceLT]
    refine a_new ?_
    intro r hr
    try simp -implicitDefEqProofs (maxSteps := 1000000) (disch := first | omega | assumption) only [Sx, reduceIte, Nat.reduceEqDiff, reduceCtorEq, Nat.reduceAdd, Nat.reduceSub, Nat.reduceLT]
    rw [tab0_rep]
    refine st_all set_same (by rw [tab_len, tab0_len]) tab_len tab_scalar ?_
    rw [set_set]
    have hk2 : Keep H (H1.set r (.cells tab.toArray 54 (0, 0))) := hk1.set_new hr
    simp -implicitDefEqProofs (maxSteps := 1000000) (disch := first | omega | assumption) only [Sx, reduceIte, Nat.reduceEqDiff, reduceCtorEq, Nat.reduceAdd, Nat.reduceSub, Nat.reduceLT]
    refine a_call (trimR_spec set_same (hb'.keep hk2) hi hl) ?_
    rintro e H2 ⟨rfl, v', l', rfl, hv, hi', hl', he⟩
    have hs : scalarV v' = true := by obtain ⟨_, _, rfl, _⟩ := hv; rfl
    simp -implicitDefEqProofs (maxSteps := 1000000) (disch := first | omega | assumption) only [endK, Sx, reduceIte, Nat.reduceEqDiff, reduceCtorEq, Nat.reduceAdd, Nat.reduceSub, Nat.reduceLT]
    refine a_call (trimL_spec set_same hv hi' hl') ?_
    rintro e H3 ⟨rfl, A3, n3, c3, rfl, hn⟩
    simp -implicitDefEqProofs (maxSteps := 1000000) (disch := first | omega | assumption) only [endK, Sx, reduceIte, Nat.reduceEqDiff, reduceCtorEq, Nat.reduceAdd, Nat.reduceSub, Nat.reduceLT]
    exact ⟨hk2, _, _, _, rfl, by rw [hn, he]⟩
end Go.Proofs.YtigignkgblaoaaaDoor.S12
