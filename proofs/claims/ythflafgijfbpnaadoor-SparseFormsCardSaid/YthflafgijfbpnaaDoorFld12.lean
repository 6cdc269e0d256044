/-
  What is written is what is read: plain.
-/
import Derived.Test.YthflafgijfbpnaaDoorLowA
import Derived.Test.YthflafgijfbpnaaDoorBytes
import Derived.Test.YthflafgijfbpnaaDoorLowB
import Derived.Test.YthflafgijfbpnaaDoorLowC
import Derived.Test.YthflafgijfbpnaaDoorLowE
import Derived.Test.YthflafgijfbpnaaDoorLowF
import Derived.Test.YthflafgijfbpnaaDoorStr
import Derived.Test.YthflafgijfbpnaaDoorLowG
import Derived.Test.YthflafgijfbpnaaDoorLowD
/-
  bytes.TrimLeft at a blank, bytes.Trim at blanks and zeros.
-/
set_option linter.unusedVariables false
set_option linter.unusedSimpArgs false
namespace Go.Proofs.YthflafgijfbpnaaDoor.S12
open Go Go.RowKit Go.Proofs.YthflafgijfbpnaaDoor.Sep Go.Proofs.YthflafgijfbpnaaDoor.Low Go.Proofs.YthflafgijfbpnaaDoor.Lib

theorem one_cut {n : Nat} (h : 0 < n) : (0 : Int) ≤ 1 ∧ (1 : Int) ≤ (n : Int) := by omega
set_option maxHeartbeats 1000000 in
theorem trimLeft_spec {H : Heap} {v : Value} {l : List Int} {x : Int} (hb : By H v l) (hl : l.length ≤ 1125899906842624) :
    ACalls Tryd.prog 78 [v, .int .u8 x].toArray H fun e H' => H' = H ∧ ∃ v', e = .returned v' ∧ By H v' (l.dropWhile (· == x)) := by
  obtain ⟨A, c, rfl, hc, hr⟩ := hb
  refine call78 (Nat.le_of_ble_eq_true rfl) ?_
  unfold L78 env0
  simp -implicitDefEqProofs (maxSteps := 1000000) (disch := first | omega | assumption) only [Sx, reduceIte, Nat.reduceEqDiff, reduceCtorEq, Nat.reduceAdd, Nat.reduceSub, Nat.reduceLT]
  refine c_loop (fun k env H' => H' = H ∧ ∃ A c l', k = l'.length ∧ env 0 = .slice A l'.length c ∧ env 1 = .int .u8 x ∧ l'.length ≤ c ∧ Row H A (by8 l') ∧ l'.length ≤ 1125899906842624 ∧ l'.dropWhile (· == x) = l.dropWhile (· == x)) l.length ⟨rfl, A, c, l, rfl, by simp -implicitDefEqProofs (maxSteps := 1000000) (disch := first | omega | assumption) only [Sx, reduceIte, Nat.reduceEqDiff, reduceCtorEq, Nat.reduceAdd, Nat.reduceSub, Nat.reduceLT], by simp -implicitDefEqProofs (maxSteps := 1000000) (disch := first | omega | assumption) only [Sx, reduceIte, Nat.reduceEqDiff, reduceCtorEq, Nat.reduceAdd, Nat.reduceSub, Nat.reduceLT], hc, hr, hl, rfl⟩ ?_
  rintro k env H1 ⟨rfl, A, c, l', rfl, h0, h1, hc, hr, hl', ht⟩
  unfold L78_0
  cases l' with
  | nil =>
    have f0 : decide ((0 : Int) < ((([] : List Int).length : Nat) : Int)) = false := by decide
    have f1 : (((([] : List Int).length : Nat) : Int) == 0) = true := by decide
    simp only [List.length_nil] at f0 f1
    simp -implicitDefEqProofs (maxSteps := 1000000) (disch := first | omega | assumption) only [h0, h1, f0, f1, l_g, Sx, reduceIte, Nat.reduceEqDiff, reduceCtorEq, Nat.reduceAdd, Nat.reduceSub, Nat.reduceLT]
    refine ⟨by trivial, _, rfl, ?_⟩
    rw [← ht]
    exact .nil
  | cons y r =>
    obtain ⟨n, hn⟩ : ∃ n, n = (y :: r).length := ⟨_, rfl⟩
    have hn1 : n = r.length + 1 := by simpa using hn
    rw [← hn] at h0 hc hl'
    have f0 : decide ((0 : Int) < (n : Int)) = true := decide_eq_true (by omega)
    obtain ⟨b, rfl, hy⟩ := by_at hr (i := 0) (by simp)
    rw [add_zero_a] at hy
    simp only [List.getElem_cons_zero] at hy
    have hin : (0 : Int) ≤ 0 ∧ (0 : Int) < (n : Int) := by omega
    by_cases hyx : y = x
    · have f1 : (y == x) = true := by rw [beq_iff_eq]; exact hyx
      have hcut := one_cut (n := n) (by omega)
      simp -implicitDefEqProofs (maxSteps := 1000000) (disch := first | omega | assumption) only [h0, h1, f0, f1, hy, Int.toNat_zero, Nat.zero_mul, ev_slc_lo, Int.toNat_one, l_g, Sx, reduceIte, Nat.reduceEqDiff, reduceCtorEq, Nat.reduceAdd, Nat.reduceSub, Nat.reduceLT]
      have hd := row_drop (k := 1) hr (by rw [← hn]; exact hc)
      refine ⟨r.length, by omega, by trivial, _, _, r, rfl, by rw [show n - 1 = r.length by omega], by trivial, ?_, hd, by omega, ?_⟩
      · show r.length ≤ c - 1; omega
      · rw [← ht, List.dropWhile_cons, f1]; simp
    · have f1 : (y == x) = false := by rw [beq_eq_false_iff_ne]; exact hyx
      have f2 : ((n : Int) == 0) = false := by rw [beq_eq_false_iff_ne]; omega
      simp -implicitDefEqProofs (maxSteps := 1000000) (disch := first | omega | assumption) only [h0, h1, f0, f1, f2, hy, Int.toNat_zero, Nat.zero_mul, l_g, Sx, reduceIte, Nat.reduceEqDiff, reduceCtorEq, Nat.reduceAdd, Nat.reduceSub, Nat.reduceLT]
      refine ⟨by trivial, _, rfl, ?_⟩
      rw [← ht, List.dropWhile_cons, if_neg (by rw [f1]; simp)]
      exact ⟨_, _, by rw [hn], by rw [← hn]; exact hc, hr⟩
theorem trimLeftSp_spec {H : Heap} {v : Value} {l : List Int} (hb : By H v l) (hl : l.length ≤ 1125899906842624) :
    ACalls Tryd.prog 66 [v, .string ⟨#[32]⟩].toArray H fun e H' => H' = H ∧ ∃ v', e = .returned v' ∧ By H v' (l.dropWhile (· == 32)) := by
  have hb' := hb
  obtain ⟨A, c, rfl, hc, hr⟩ := hb
  refine call66 (Nat.le_of_ble_eq_true rfl) ?_
  unfold L66 env0
  by_cases h0 : l.length = 0
  · have f0 : ((l.length : Int) == 0) = true := by rw [beq_iff_eq]; omega
    have : l = [] := List.length_eq_zero_iff.1 h0
    simp -implicitDefEqProofs (maxSteps := 1000000) (disch := first | omega | assumption) only [f0, Sx, reduceIte, Nat.reduceEqDiff, reduceCtorEq, Nat.reduceAdd, Nat.reduceSub, Nat.reduceLT]
    exact ⟨by trivial, _, rfl, by rw [this]; exact .nil⟩
  · have f0 : ((l.length : Int) == 0) = false := by rw [beq_eq_false_iff_ne]; omega
    have f1 : decide (([32] : List UInt8) = []) = false := by decide
    have f2 : (((([32] : List UInt8).length : Nat) : Int) == 1) = true := by decide
    have f3 : QI.ixs.ev [.string ⟨#[32]⟩, .int .i64 0] H = some (.int .u8 32) := rfl
    have f4 : decide ((32 : Int) < 128) = true := by decide
    have f2' : (((0 + 1 : Nat) : Int) == 1) = true := by decide
    simp -implicitDefEqProofs (maxSteps := 1000000) (disch := first | omega | assumption) only [f0, t_eq, t_size, f2', f3, f4, Sx, reduceIte, Nat.reduceEqDiff, reduceCtorEq, Nat.reduceAdd, Nat.reduceSub, Nat.reduceLT, decide_true, decide_false, Bool.not_true, Bool.not_false, Int.toNat_one, Int.toNat_zero, Nat.zero_mul, l_g, endK, gd_u]
    refine a_call (trimLeft_spec hb' hl) ?_
    rintro e H1 ⟨rfl, v', rfl, hv⟩
    have hs : scalarV v' = true := by obtain ⟨_, _, rfl, _⟩ := hv; rfl
    simp -implicitDefEqProofs (maxSteps := 1000000) (disch := first | omega | assumption) only [endK, Sx, reduceIte, Nat.reduceEqDiff, reduceCtorEq, Nat.reduceAdd, Nat.reduceSub, Nat.reduceLT]
    exact ⟨by trivial, v', rfl, hv⟩

/-! ### a set of bytes -/
def tab0 : List Value := List.replicate 256 (.bool false)
def tab : List Value := (tab0.set 32 (.bool true)).set 0 (.bool true)
theorem tab0_len : tab0.length = 256 := List.length_replicate
theorem tab0_at {i : Nat} (h : i < 256) : tab0[i]? = some (.bool false) := by
  unfold tab0; rw [List.getElem?_replicate, if_pos h]
theorem tab0_rep : (Array.replicate 256 (Value.bool false)) = tab0.toArray := by
  apply Array.ext'
  rw [Array.toList_replicate]
  rfl
theorem tab_len : tab.length = 256 := by unfold tab; rw [List.length_set, List.length_set, tab0_len]
theorem tab_at {x : Int} (h : 0 ≤ x ∧ x < 256) : tab[x.toNat]? = some (.bool (x == 32 || x == 0)) := by
  unfold tab
  rw [List.getElem?_set, List.getElem?_set, List.length_set, tab0_len]
  by_cases h0 : x = 0
  · subst h0; rfl
  · by_cases h1 : x = 32
    · subst h1; rfl
    · rw [if_neg (by omega), if_neg (by omega), tab0_at (by omega)]
      have e1 : (x == 32) = false := by rw [beq_eq_false_iff_ne]; exact h1
      have e2 : (x == 0) = false := by rw [beq_eq_false_iff_ne]; exact h0
      rw [e1, e2]; rfl
theorem tab_scalar : ∀ v ∈ tab, scalarV v = true := by
  intro v hv
  unfold tab at hv
  rcases List.mem_or_eq_of_mem_set hv with hv | rfl
  · rcases List.mem_or_eq_of_mem_set hv with hv | rfl
    · rw [List.eq_of_mem_replicate hv]; rfl
    · rfl
  · rfl
set_option maxHeartbeats 1000000 in
theorem makeset_spec {H : Heap} : ACalls Tryd.prog 79 [Value.string ⟨#[32, 0]⟩].toArray H fun e H' => e = .returned (.tuple #[.agg tab.toArray, .bool true]) ∧ Keep H H' := by
  refine call79 (Nat.le_of_ble_eq_true rfl) ?_
  unfold L79 env0
  simp -implicitDefEqProofs (maxSteps := 1000000) (disch := first | omega | assumption) only [Sx, reduceIte, Nat.reduceEqDiff, reduceCtorEq, Nat.reduceAdd, Nat.reduceSub, Nat.reduceLT]
  refine a_new ?_
  intro r hr
  try simp -implicitDefEqProofs (maxSteps := 1000000) (disch := first | omega | assumption) only [Sx, reduceIte, Nat.reduceEqDiff, reduceCtorEq, Nat.reduceAdd, Nat.reduceSub, Nat.reduceLT]
  rw [tab0_rep]
  refine c_loop (fun k env H' => ∃ i T, k + i = 2 ∧ env 0 = .string ⟨#[32, 0]⟩ ∧ env 2 = .pointer (some ⟨r, 0, none⟩) ∧ env 4 = .int .i64 i ∧ H' = H.set r (.cells (List.toArray T) 111 (0, 0)) ∧ ((i = 0 ∧ T = tab0) ∨ (i = 1 ∧ T = tab0.set 32 (.bool true)) ∨ (i = 2 ∧ T = tab))) 2 ⟨0, tab0, by omega, by simp -implicitDefEqProofs (maxSteps := 1000000) (disch := first | omega | assumption) only [Sx, reduceIte, Nat.reduceEqDiff, reduceCtorEq, Nat.reduceAdd, Nat.reduceSub, Nat.reduceLT], by simp -implicitDefEqProofs (maxSteps := 1000000) (disch := first | omega | assumption) only [Sx, reduceIte, Nat.reduceEqDiff, reduceCtorEq, Nat.reduceAdd, Nat.reduceSub, Nat.reduceLT], by simp -implicitDefEqProofs (maxSteps := 1000000) (disch := first | omega | assumption) only [Sx, reduceIte, Nat.reduceEqDiff, reduceCtorEq, Nat.reduceAdd, Nat.reduceSub, Nat.reduceLT]; rfl, rfl, .inl ⟨rfl, rfl⟩⟩ ?_
  rintro k env H1 ⟨i, T, hk, h0, h2, h4, rfl, hT⟩
  unfold L79_0
  have hsz : ((⟨#[32, 0]⟩ : ByteArray).size : Int) = 2 := rfl
  have hTl : T.length = 256 := by
    rcases hT with ⟨-, rfl⟩ | ⟨-, rfl⟩ | ⟨-, rfl⟩
    · exact tab0_len
    · rw [List.length_set, tab0_len]
    · exact tab_len
  rcases hT with ⟨rfl, rfl⟩ | ⟨rfl, rfl⟩ | ⟨rfl, rfl⟩
  · have f0 : decide (((0 : Nat) : Int) < 2) = true := by decide
    have f1 : QI.ixs.ev [.string ⟨#[32, 0]⟩, .int .i64 ((0 : Nat) : Int)] (H.set r (.cells tab0.toArray 111 (0, 0))) = some (.int .u8 32) := rfl
    have f2 : decide ((128 : Int) ≤ 32) = false := by decide
    have f3 : (0 : Int) ≤ 32 ∧ (32 : Int) < ((256 : Nat) : Int) := by omega
    have f4 : (32 : Int).toNat = 32 := rfl
    simp -implicitDefEqProofs (maxSteps := 1000000) (disch := first | omega | assumption) only [h0, h2, h4, hsz, f0, f1, f2, ev_iada, f4, Sx, reduceIte, Nat.reduceEqDiff, reduceCtorEq, Nat.reduceAdd, Nat.reduceSub, Nat.reduceLT]
    refine st_one set_same (by rw [List.size_toArray, hTl]; omega) rfl ?_
    simp -implicitDefEqProofs (maxSteps := 1000000) (disch := first | omega | assumption) only [h0, h2, h4, Sx, reduceIte, Nat.reduceEqDiff, reduceCtorEq, Nat.reduceAdd, Nat.reduceSub, Nat.reduceLT]
    refine ⟨1, by omega, 1, tab0.set 32 (.bool true), rfl, by trivial, by trivial, by rfl, ?_, .inr (.inl ⟨rfl, rfl⟩)⟩
    rw [set_set]
  · have f0 : decide (((1 : Nat) : Int) < 2) = true := by decide
    have f1 : QI.ixs.ev [.string ⟨#[32, 0]⟩, .int .i64 ((1 : Nat) : Int)] (H.set r (.cells (tab0.set 32 (.bool true)).toArray 111 (0, 0))) = some (.int .u8 0) := rfl
    have f2 : decide ((128 : Int) ≤ 0) = false := by decide
    have f3 : (0 : Int) ≤ 0 ∧ (0 : Int) < ((256 : Nat) : Int) := by omega
    have f4 : (0 : Int).toNat = 0 := rfl
    simp -implicitDefEqProofs (maxSteps := 1000000) (disch := first | omega | assumption) only [h0, h2, h4, hsz, f0, f1, f2, ev_iada, f4, Sx, reduceIte, Nat.reduceEqDiff, reduceCtorEq, Nat.reduceAdd, Nat.reduceSub, Nat.reduceLT]
    refine st_one set_same (by rw [List.size_toArray, hTl]; omega) rfl ?_
    simp -implicitDefEqProofs (maxSteps := 1000000) (disch := first | omega | assumption) only [h0, h2, h4, Sx, reduceIte, Nat.reduceEqDiff, reduceCtorEq, Nat.reduceAdd, Nat.reduceSub, Nat.reduceLT]
    refine ⟨0, by omega, 2, tab, rfl, by trivial, by trivial, by rfl, ?_, .inr (.inr ⟨rfl, rfl⟩)⟩
    rw [set_set]; rfl
  · have f0 : decide (((2 : Nat) : Int) < 2) = false := by decide
    have hld : (H.set r (.cells tab.toArray 111 (0, 0))).loadN ⟨r, 0, none⟩ 0 256 = some tab := by
      have := (row_of_block (cs := tab) (rest := []) (H := H.set r (.cells tab.toArray 111 (0, 0))) (f := (0, 0)) (by rw [set_same, List.append_nil])).loadN
      rwa [tab_len] at this
    simp -implicitDefEqProofs (maxSteps := 1000000) (disch := first | omega | assumption) only [h0, h2, h4, hsz, f0, ev_ldn, hld, Sx, reduceIte, Nat.reduceEqDiff, reduceCtorEq, Nat.reduceAdd, Nat.reduceSub, Nat.reduceLT]
    refine st_all set_same rfl tab_len tab_scalar ?_
    rw [set_set]
    try simp -implicitDefEqProofs (maxSteps := 1000000) (disch := first | omega | assumption) only [h0, h2, h4, Sx, reduceIte, Nat.reduceEqDiff, reduceCtorEq, Nat.reduceAdd, Nat.reduceSub, Nat.reduceLT]
    show match getAll _ _ _ with | some vs => _ | none => False
    rw [g_cn (by simp -implicitDefEqProofs (maxSteps := 1000000) (disch := first | omega | assumption) only [h2, Sx, reduceIte, Nat.reduceEqDiff, reduceCtorEq, Nat.reduceAdd, Nat.reduceSub, Nat.reduceLT]) hld]
    simp -implicitDefEqProofs (maxSteps := 1000000) (disch := first | omega | assumption) only [Sx, reduceIte, Nat.reduceEqDiff, reduceCtorEq, Nat.reduceAdd, Nat.reduceSub, Nat.reduceLT]
    exact ⟨by trivial, (Keep.refl H).set_new hr⟩
theorem contains_spec {H : Heap} {r : Nat} {x : Int} (hb : H r = some (.cells tab.toArray 111 (0, 0))) (hx : 0 ≤ x ∧ x < 256) :
    ACalls Tryd.prog 89 [Value.pointer (some ⟨r, 0, none⟩), .int .u8 x].toArray H fun e H' => e = .returned (.bool (x == 32 || x == 0)) ∧ H' = H := by
  refine call89 (Nat.le_of_ble_eq_true rfl) ?_
  unfold L89 env0
  have f3 : (0 : Int) ≤ x ∧ x < ((256 : Nat) : Int) := by omega
  have f4 := tab_at hx
  simp -implicitDefEqProofs (maxSteps := 1000000) (disch := first | omega | assumption) only [ev_iada, cell_of hb, f4, Sx, reduceIte, Nat.reduceEqDiff, reduceCtorEq, Nat.reduceAdd, Nat.reduceSub, Nat.reduceLT]
  exact ⟨by trivial, by trivial⟩
abbrev blank0 (x : Int) : Bool := x == 32 || x == 0
set_option maxHeartbeats 1000000 in
theorem trimR_spec {H : Heap} {r : Nat} {v : Value} {l : List Int} (hT : H r = some (.cells tab.toArray 111 (0, 0))) (hb : By H v l) (hi : isBy l) (hl : l.length ≤ 1125899906842624) :
    ACalls Tryd.prog 83 [v, .pointer (some ⟨r, 0, none⟩)].toArray H fun e H' => H' = H ∧ ∃ v' l', e = .returned v' ∧ By H v' l' ∧ isBy l' ∧ l'.length ≤ 1125899906842624 ∧ l'.all blank0 = l.all blank0 := by
  obtain ⟨A, c, rfl, hc, hr⟩ := hb
  refine call83 (Nat.le_of_ble_eq_true rfl) ?_
  unfold L83 env0
  simp -implicitDefEqProofs (maxSteps := 1000000) (disch := first | omega | assumption) only [Sx, reduceIte, Nat.reduceEqDiff, reduceCtorEq, Nat.reduceAdd, Nat.reduceSub, Nat.reduceLT]
  refine c_loop (fun k env H' => H' = H ∧ ∃ l', k = l'.length ∧ env 0 = .slice A l'.length c ∧ env 1 = .pointer (some ⟨r, 0, none⟩) ∧ l'.length ≤ c ∧ Row H A (by8 l') ∧ isBy l' ∧ l'.length ≤ 1125899906842624 ∧ l'.all blank0 = l.all blank0) l.length ⟨rfl, l, rfl, by simp -implicitDefEqProofs (maxSteps := 1000000) (disch := first | omega | assumption) only [Sx, reduceIte, Nat.reduceEqDiff, reduceCtorEq, Nat.reduceAdd, Nat.reduceSub, Nat.reduceLT], by simp -implicitDefEqProofs (maxSteps := 1000000) (disch := first | omega | assumption) only [Sx, reduceIte, Nat.reduceEqDiff, reduceCtorEq, Nat.reduceAdd, Nat.reduceSub, Nat.reduceLT], hc, hr, hi, hl, rfl⟩ ?_
  rintro k env H1 ⟨rfl, l', rfl, h0, h1, hc, hr, hi, hl', ht⟩
  unfold L83_0
  by_cases hn : l'.length = 0
  · have f0 : decide ((0 : Int) < (l'.length : Int)) = false := decide_eq_false (by omega)
    simp -implicitDefEqProofs (maxSteps := 1000000) (disch := first | omega | assumption) only [h0, h1, f0, Sx, reduceIte, Nat.reduceEqDiff, reduceCtorEq, Nat.reduceAdd, Nat.reduceSub, Nat.reduceLT]
    unfold L83_1
    simp -implicitDefEqProofs (maxSteps := 1000000) (disch := first | omega | assumption) only [h0, h1, Sx, reduceIte, Nat.reduceEqDiff, reduceCtorEq, Nat.reduceAdd, Nat.reduceSub, Nat.reduceLT]
    exact ⟨by trivial, _, l', rfl, ⟨_, _, rfl, hc, hr⟩, hi, hl', ht⟩
  · have f0 : decide ((0 : Int) < (l'.length : Int)) = true := decide_eq_true (by omega)
    have hlast : l'.length - 1 < l'.length := by omega
    obtain ⟨b, rfl, hy⟩ := by_at hr hlast
    have f1 : (0 : Int) ≤ (l'.length : Int) - 1 ∧ (l'.length : Int) - 1 < (l'.length : Int) := by omega
    have f2 : ((l'.length : Int) - 1).toNat = l'.length - 1 := by omega
    have hsplit : l' = l'.take (l'.length - 1) ++ [l'[l'.length - 1]] := by
      rw [← List.take_succ_eq_append_getElem hlast, List.take_of_length_le (by omega)]
    simp -implicitDefEqProofs (maxSteps := 1000000) (disch := first | omega | assumption) only [h0, h1, f0, f2, hy, Sx, reduceIte, Nat.reduceEqDiff, reduceCtorEq, Nat.reduceAdd, Nat.reduceSub, Nat.reduceLT]
    refine a_call (contains_spec hT (hi.at hlast)) ?_
    rintro e H2 ⟨rfl, rfl⟩
    cases hbl : blank0 l'[l'.length - 1] with
    | true =>
      rw [show (l'[l'.length - 1] == 32 || l'[l'.length - 1] == 0) = true from hbl]
      have f3 : (0 : Int) ≤ (l'.length : Int) - 1 ∧ (l'.length : Int) - 1 ≤ (c : Int) := by omega
      simp -implicitDefEqProofs (maxSteps := 1000000) (disch := first | omega | assumption) only [endK, h0, h1, Bool.not_true, ev_slc_hi, f2, Sx, reduceIte, Nat.reduceEqDiff, reduceCtorEq, Nat.reduceAdd, Nat.reduceSub, Nat.reduceLT]
      refine ⟨l'.length - 1, by omega, by trivial, l'.take (l'.length - 1), by rw [List.length_take]; omega, by rw [List.length_take, Nat.min_eq_left (by omega)], by trivial, by rw [List.length_take]; omega, row_take hr, hi.take _, by rw [List.length_take]; omega, ?_⟩
      rw [← ht]
      conv => rhs; rw [hsplit, List.all_append]
      simp [hbl]
    | false =>
      rw [show (l'[l'.length - 1] == 32 || l'[l'.length - 1] == 0) = false from hbl]
      simp -implicitDefEqProofs (maxSteps := 1000000) (disch := first | omega | assumption) only [endK, h0, h1, Bool.not_false, Sx, reduceIte, Nat.reduceEqDiff, reduceCtorEq, Nat.reduceAdd, Nat.reduceSub, Nat.reduceLT]
      unfold L83_1
      simp -implicitDefEqProofs (maxSteps := 1000000) (disch := first | omega | assumption) only [h0, h1, Sx, reduceIte, Nat.reduceEqDiff, reduceCtorEq, Nat.reduceAdd, Nat.reduceSub, Nat.reduceLT]
      exact ⟨by trivial, _, l', rfl, ⟨_, _, rfl, hc, hr⟩, hi, hl', ht⟩
set_option maxHeartbeats 1000000 in
theorem trimL_spec {H : Heap} {r : Nat} {v : Value} {l : List Int} (hT : H r = some (.cells tab.toArray 111 (0, 0))) (hb : By H v l) (hi : isBy l) (hl : l.length ≤ 1125899906842624) :
    ACalls Tryd.prog 80 [v, .pointer (some ⟨r, 0, none⟩)].toArray H fun e H' => H' = H ∧ ∃ A n c, e = .returned (.slice A n c) ∧ decide (0 < (n : Int)) = !l.all blank0 := by
  obtain ⟨A, c, rfl, hc, hr⟩ := hb
  refine call80 (Nat.le_of_ble_eq_true rfl) ?_
  unfold L80 env0
  simp -implicitDefEqProofs (maxSteps := 1000000) (disch := first | omega | assumption) only [Sx, reduceIte, Nat.reduceEqDiff, reduceCtorEq, Nat.reduceAdd, Nat.reduceSub, Nat.reduceLT]
  refine c_loop (fun k env H' => H' = H ∧ ∃ A c l', k = l'.length ∧ env 0 = .slice A l'.length c ∧ env 1 = .pointer (some ⟨r, 0, none⟩) ∧ l'.length ≤ c ∧ Row H A (by8 l') ∧ isBy l' ∧ l'.length ≤ 1125899906842624 ∧ l'.all blank0 = l.all blank0) l.length ⟨rfl, A, c, l, rfl, by simp -implicitDefEqProofs (maxSteps := 1000000) (disch := first | omega | assumption) only [Sx, reduceIte, Nat.reduceEqDiff, reduceCtorEq, Nat.reduceAdd, Nat.reduceSub, Nat.reduceLT], by simp -implicitDefEqProofs (maxSteps := 1000000) (disch := first | omega | assumption) only [Sx, reduceIte, Nat.reduceEqDiff, reduceCtorEq, Nat.reduceAdd, Nat.reduceSub, Nat.reduceLT], hc, hr, hi, hl, rfl⟩ ?_
  rintro k env H1 ⟨rfl, A, c, l', rfl, h0, h1, hc, hr, hi, hl', ht⟩
  unfold L80_0
  cases l' with
  | nil =>
    have f0 : decide ((0 : Int) < ((([] : List Int).length : Nat) : Int)) = false := by decide
    have f1 : (((([] : List Int).length : Nat) : Int) == 0) = true := by decide
    simp only [List.length_nil] at f0 f1
    simp -implicitDefEqProofs (maxSteps := 1000000) (disch := first | omega | assumption) only [h0, h1, f0, Sx, reduceIte, Nat.reduceEqDiff, reduceCtorEq, Nat.reduceAdd, Nat.reduceSub, Nat.reduceLT]
    unfold L80_1
    simp -implicitDefEqProofs (maxSteps := 1000000) (disch := first | omega | assumption) only [h0, h1, f1, Sx, reduceIte, Nat.reduceEqDiff, reduceCtorEq, Nat.reduceAdd, Nat.reduceSub, Nat.reduceLT]
    refine ⟨by trivial, none, 0, 0, rfl, ?_⟩
    rw [← ht]
    rfl
  | cons y q =>
    obtain ⟨n, hn⟩ : ∃ n, n = (y :: q).length := ⟨_, rfl⟩
    have hn1 : n = q.length + 1 := by simpa using hn
    rw [← hn] at h0 hc hl'
    have f0 : decide ((0 : Int) < (n : Int)) = true := decide_eq_true (by omega)
    obtain ⟨b, rfl, hy⟩ := by_at hr (i := 0) (by simp)
    rw [add_zero_a] at hy
    simp only [List.getElem_cons_zero] at hy
    have hin : (0 : Int) ≤ 0 ∧ (0 : Int) < (n : Int) := by omega
    simp -implicitDefEqProofs (maxSteps := 1000000) (disch := first | omega | assumption) only [h0, h1, f0, hy, Int.toNat_zero, Nat.zero_mul, Sx, reduceIte, Nat.reduceEqDiff, reduceCtorEq, Nat.reduceAdd, Nat.reduceSub, Nat.reduceLT]
    refine a_call (contains_spec hT (hi y List.mem_cons_self)) ?_
    rintro e H2 ⟨rfl, rfl⟩
    cases hbl : blank0 y with
    | true =>
      rw [show (y == 32 || y == 0) = true from hbl]
      have hcut := one_cut (n := n) (by omega)
      simp -implicitDefEqProofs (maxSteps := 1000000) (disch := first | omega | assumption) only [endK, h0, h1, Bool.not_true, ev_slc_lo, Int.toNat_one, Sx, reduceIte, Nat.reduceEqDiff, reduceCtorEq, Nat.reduceAdd, Nat.reduceSub, Nat.reduceLT]
      have hd := row_drop (k := 1) hr (by rw [← hn]; exact hc)
      refine ⟨q.length, by omega, by trivial, _, _, q, rfl, by rw [show n - 1 = q.length by omega], by trivial, ?_, hd, fun z hz => hi z (List.mem_cons_of_mem _ hz), by omega, ?_⟩
      · show q.length ≤ c - 1; omega
      · rw [← ht, List.all_cons, hbl, Bool.true_and]
    | false =>
      rw [show (y == 32 || y == 0) = false from hbl]
      have f2 : ((n : Int) == 0) = false := by rw [beq_eq_false_iff_ne]; omega
      simp -implicitDefEqProofs (maxSteps := 1000000) (disch := first | omega | assumption) only [endK, h0, h1, Bool.not_false, Sx, reduceIte, Nat.reduceEqDiff, reduceCtorEq, Nat.reduceAdd, Nat.reduceSub, Nat.reduceLT]
      unfold L80_1
      simp -implicitDefEqProofs (maxSteps := 1000000) (disch := first | omega | assumption) only [h0, h1, f2, Sx, reduceIte, Nat.reduceEqDiff, reduceCtorEq, Nat.reduceAdd, Nat.reduceSub, Nat.reduceLT]
      refine ⟨by trivial, _, _, _, rfl, ?_⟩
      rw [← ht, List.all_cons, hbl, Bool.false_and]
      exact f0
set_option maxHeartbeats 1000000 in
theorem trim_spec {H : Heap} {v : Value} {l : List Int} (hb : By H v l) (hi : isBy l) (hl : l.length ≤ 1125899906842624) :
    ACalls Tryd.prog 67 [v, .string ⟨#[32, 0]⟩].toArray H fun e H' => Keep H H' ∧ ∃ A n c, e = .returned (.slice A n c) ∧ decide (0 < (n : Int)) = !l.all blank0 := by
  have hb' := hb
  obtain ⟨A, c, rfl, hc, hr⟩ := hb
  refine call67 (Nat.le_of_ble_eq_true rfl) ?_
  unfold L67 env0
  by_cases h0 : l.length = 0
  · have f0 : ((l.length : Int) == 0) = true := by rw [beq_iff_eq]; omega
    have : l = [] := List.length_eq_zero_iff.1 h0
    simp -implicitDefEqProofs (maxSteps := 1000000) (disch := first | omega | assumption) only [f0, Sx, reduceIte, Nat.reduceEqDiff, reduceCtorEq, Nat.reduceAdd, Nat.reduceSub, Nat.reduceLT]
    exact ⟨Keep.refl _, none, 0, 0, rfl, by rw [this]; rfl⟩
  · have f0 : ((l.length : Int) == 0) = false := by rw [beq_eq_false_iff_ne]; omega
    have f1 : decide (([32, 0] : List UInt8) = []) = false := by decide
    have f2 : (((0 + 1 + 1 : Nat) : Int) == 1) = false := by decide
    simp -implicitDefEqProofs (maxSteps := 1000000) (disch := first | omega | assumption) only [f0, t_eq, t_size, f2, Sx, reduceIte, Nat.reduceEqDiff, reduceCtorEq, Nat.reduceAdd, Nat.reduceSub, Nat.reduceLT, decide_true, decide_false, Bool.not_true, Bool.not_false, Int.toNat_one, Int.toNat_zero, Nat.zero_mul, l_g, endK, gd_u]
    refine a_call makeset_spec ?_
    rintro e H1 ⟨rfl, hk1⟩
    simp -implicitDefEqProofs (maxSteps := 1000000) (disch := first | omega | assumption) only [endK, Sx, reduceIte, Nat.reduceEqDiff, reduceCtorEq, Nat.reduceAdd, Nat.reduceSub, Nat.reduceLT]
    refine a_new ?_
    intro r hr
    try simp -implicitDefEqProofs (maxSteps := 1000000) (disch := first | omega | assumption) only [Sx, reduceIte, Nat.reduceEqDiff, reduceCtorEq, Nat.reduceAdd, Nat.reduceSub, Nat.reduceLT]
    rw [tab0_rep]
    refine st_all set_same (by rw [tab_len, tab0_len]) tab_len tab_scalar ?_
    rw [set_set]
    have hk2 : Keep H (H1.set r (.cells tab.toArray 111 (0, 0))) := hk1.set_new hr
    simp -implicitDefEqProofs (maxSteps := 1000000) (disch := first | omega | assumption) only [Sx, reduceIte, Nat.reduceEqDiff, reduceCtorEq, Nat.reduceAdd, Nat.reduceSub, Nat.reduceLT]
    refine a_call (trimR_spec set_same (hb'.keep hk2) hi hl) ?_
    rintro e H2 ⟨rfl, v', l', rfl, hv, hi', hl', he⟩
    have hs : scalarV v' = true := by obtain ⟨_, _, rfl, _⟩ := hv; rfl
    simp -implicitDefEqProofs (maxSteps := 1000000) (disch := first | omega | assumption) only [endK, Sx, reduceIte, Nat.reduceEqDiff, reduceCtorEq, Nat.reduceAdd, Nat.reduceSub, Nat.reduceLT]
    refine a_call (trimL_spec set_same hv hi' hl') ?_
    rintro e H3 ⟨rfl, A3, n3, c3, rfl, hn⟩
    simp -implicitDefEqProofs (maxSteps := 1000000) (disch := first | omega | assumption) only [endK, Sx, reduceIte, Nat.reduceEqDiff, reduceCtorEq, Nat.reduceAdd, Nat.reduceSub, Nat.reduceLT]
    exact ⟨hk2, _, _, _, rfl, by rw [hn, he]⟩
end Go.Proofs.YthflafgijfbpnaaDoor.S12

/-
  Octal fields, plain.
-/
set_option linter.unusedVariables false
set_option linter.unusedSimpArgs false
namespace Go.Proofs.YthflafgijfbpnaaDoor.S12
open Go Go.Proofs.YthflafgijfbpnaaDoor.Lib

theorem while_split {α : Type} {p : α → Bool} : ∀ {t : List α} {i : Nat}, (∀ y ∈ t.take i, p y = true) → (∀ h : i < t.length, p t[i] = false) → t.takeWhile p = t.take i ∧ t.dropWhile p = t.drop i
  | [], i, _, _ => by simp
  | x :: t, 0, _, h => by
    have := h (by simp)
    simp only [List.getElem_cons_zero] at this
    simp [this]
  | x :: t, i + 1, hy, h => by
    have hx := hy x (by simp)
    have ih := while_split (t := t) (i := i) (fun y hy' => hy y (by simp [hy'])) (fun hi => by have := h (by simpa using hi); simpa using this)
    simp [hx, ih.1, ih.2]
theorem all_take_succ {α : Type} {p : α → Bool} {t : List α} {i : Nat} (hi : i < t.length) (h : ∀ y ∈ t.take i, p y = true) (hx : p t[i] = true) : ∀ y ∈ t.take (i + 1), p y = true := by
  intro y hy
  rw [List.take_succ_eq_append_getElem hi] at hy
  rcases List.mem_append.1 hy with hy | hy
  · exact h y hy
  · rw [List.mem_singleton.1 hy]; exact hx
theorem tw_mem {α : Type} {p : α → Bool} : ∀ {t : List α} {y : α}, y ∈ t.takeWhile p → p y = true
  | [], y, h => by simp at h
  | x :: t, y, h => by
    rw [List.takeWhile_cons] at h
    by_cases hx : p x = true
    · rw [if_pos hx] at h
      rcases List.mem_cons.1 h with rfl | h
      · exact hx
      · exact tw_mem h
    · rw [if_neg hx] at h; cases h
abbrev isOct (x : Int) : Bool := decide (48 ≤ x) && decide (x ≤ 55)
def octV : Int → List Int → Option Int
  | n, [] => some n
  | n, d :: ds => if (9223372036854775807 - (d - 48)) / 8 < n then none else octV (8 * n + (d - 48)) ds
abbrev blankZ (x : Int) : Bool := x == 32 || x == 0
def octT (t : List Int) : Int × Int := if (t.dropWhile isOct).all blankZ then match octV 0 (t.takeWhile isOct) with | none => (0, 121) | some n => (n, 0) else (0, 120)
/-- Octal -/
def octN (l : List Int) : Int × Int := octT (l.dropWhile (· == 32))
theorem octV_app : ∀ (a b : List Int) (s : Int), octV s (a ++ b) = match octV s a with | none => none | some n => octV n b
  | [], b, s => rfl
  | d :: a, b, s => by
    rw [List.cons_append, octV, octV]
    by_cases h : (9223372036854775807 - (d - 48)) / 8 < s
    · rw [if_pos h, if_pos h]
    · rw [if_neg h, if_neg h, octV_app a b]
theorem octV_ge : ∀ (a : List Int) (s n : Int), 0 ≤ s → s ≤ 9223372036854775807 → (∀ x ∈ a, isOct x = true) → octV s a = some n → 0 ≤ n ∧ n ≤ 9223372036854775807
  | [], s, n, h0, h1, _, h => by rw [octV, Option.some.injEq] at h; omega
  | d :: a, s, n, h0, h1, hd, h => by
    have hx := hd d List.mem_cons_self
    simp only [isOct, Bool.and_eq_true, decide_eq_true_eq] at hx
    rw [octV] at h
    by_cases hc : (9223372036854775807 - (d - 48)) / 8 < s
    · rw [if_pos hc] at h; cases h
    · rw [if_neg hc] at h
      exact octV_ge a _ n (by omega) (by omega) (fun x hx => hd x (List.mem_cons_of_mem _ hx)) h
end Go.Proofs.YthflafgijfbpnaaDoor.S12

/-
  Octal, of the code and of the document.
-/
set_option linter.unusedVariables false
set_option linter.unusedSimpArgs false
namespace Go.Proofs.YthflafgijfbpnaaDoor.S12
open Go Go.RowKit Go.Proofs.YthflafgijfbpnaaDoor.Sep Go.Proofs.YthflafgijfbpnaaDoor.Low Go.Proofs.YthflafgijfbpnaaDoor.Lib

set_option maxHeartbeats 2000000 in
theorem oct_tail {H0 H : Heap} {A : Option Addr} {c i : Nat} {t : List Int} {env : Env} {Q : Post} {QP : List PanicEntry → Heap → Prop} (hr : Row H A (by8 t)) (hc : t.length ≤ c) (hb : isBy t) (hl : t.length ≤ 1125899906842624) (hi : i ≤ t.length)
    (ht : t.takeWhile isOct = t.take i) (hd : t.dropWhile isOct = t.drop i) (h0 : env 0 = .slice A t.length c) (h4 : env 4 = .int .i64 i) (hk : Keep H0 H)
    (hq : ∀ env' H', env' 2 = .int .i64 (octT t).1 → env' 3 = .int .i64 (octT t).2 → Keep H0 H' → Q .ret env' H') : awpC Tryd.prog L51_30 Q QP env H := by
  unfold L51_30
  simp -implicitDefEqProofs (maxSteps := 1000000) (disch := first | omega | assumption) only [h0, h4, ev_slc_lo, Int.toNat_natCast, Sx, reduceIte, Nat.reduceEqDiff, reduceCtorEq, Nat.reduceAdd, Nat.reduceSub, Nat.reduceLT, decide_true, decide_false, Bool.not_true, Bool.not_false, Int.toNat_one, Int.toNat_zero, Nat.zero_mul, l_g, endK, gd_u]
  refine a_call (trim_spec (By.drop hr hc hi) (hb.drop i) (by rw [List.length_drop]; omega)) ?_
  rintro e H1 ⟨hk1, A1, n1, c1, rfl, hn⟩
  unfold octT at hq
  rw [hd] at hq
  cases hall : (t.drop i).all blank0 with
  | false =>
    rw [if_neg (by rw [show (t.drop i).all blankZ = (t.drop i).all blank0 from rfl, hall]; simp)] at hq
    have f0 : decide ((0 : Int) < (n1 : Int)) = true := by rw [hn, hall]; rfl
    simp -implicitDefEqProofs (maxSteps := 1000000) (disch := first | omega | assumption) only [h0, h4, f0, Sx, reduceIte, Nat.reduceEqDiff, reduceCtorEq, Nat.reduceAdd, Nat.reduceSub, Nat.reduceLT, decide_true, decide_false, Bool.not_true, Bool.not_false, Int.toNat_one, Int.toNat_zero, Nat.zero_mul, l_g, endK, gd_u]
    exact hq _ _ (by simp -implicitDefEqProofs (maxSteps := 1000000) (disch := first | omega | assumption) only [Sx, reduceIte, Nat.reduceEqDiff, reduceCtorEq, Nat.reduceAdd, Nat.reduceSub, Nat.reduceLT]) (by simp -implicitDefEqProofs (maxSteps := 1000000) (disch := first | omega | assumption) only [Sx, reduceIte, Nat.reduceEqDiff, reduceCtorEq, Nat.reduceAdd, Nat.reduceSub, Nat.reduceLT]) (hk.trans hk1)
  | true =>
    rw [if_pos (by rw [show (t.drop i).all blankZ = (t.drop i).all blank0 from rfl, hall]), ht] at hq
    have f0 : decide ((0 : Int) < (n1 : Int)) = false := by rw [hn, hall]; rfl
    have hlt : (t.take i).length = i := by rw [List.length_take]; omega
    have hoct : ∀ y ∈ t.take i, isOct y = true := by
      intro y hy
      rw [← ht] at hy
      exact tw_mem hy
    simp -implicitDefEqProofs (maxSteps := 1000000) (disch := first | omega | assumption) only [h0, h4, f0, ev_slc_hi, Int.toNat_natCast, Sx, reduceIte, Nat.reduceEqDiff, reduceCtorEq, Nat.reduceAdd, Nat.reduceSub, Nat.reduceLT, decide_true, decide_false, Bool.not_true, Bool.not_false, Int.toNat_one, Int.toNat_zero, Nat.zero_mul, l_g, endK, gd_u]
    refine c_loop (fun k env H' => H' = H1 ∧ ∃ (j : Nat) (n : Int), k + j = i ∧ env 38 = .slice A i c ∧ env 39 = .int .i64 i ∧ env 40 = .int .i64 j ∧ env 5 = .int .i64 n ∧ 0 ≤ n ∧ n ≤ 9223372036854775807 ∧ octV n ((t.take i).drop j) = octV 0 (t.take i)) i ⟨rfl, 0, 0, by omega, by simp -implicitDefEqProofs (maxSteps := 1000000) (disch := first | omega | assumption) only [Sx, reduceIte, Nat.reduceEqDiff, reduceCtorEq, Nat.reduceAdd, Nat.reduceSub, Nat.reduceLT], by simp -implicitDefEqProofs (maxSteps := 1000000) (disch := first | omega | assumption) only [Sx, reduceIte, Nat.reduceEqDiff, reduceCtorEq, Nat.reduceAdd, Nat.reduceSub, Nat.reduceLT], by simp -implicitDefEqProofs (maxSteps := 1000000) (disch := first | omega | assumption) only [Sx, reduceIte, Nat.reduceEqDiff, reduceCtorEq, Nat.reduceAdd, Nat.reduceSub, Nat.reduceLT]; rfl, by simp -implicitDefEqProofs (maxSteps := 1000000) (disch := first | omega | assumption) only [Sx, reduceIte, Nat.reduceEqDiff, reduceCtorEq, Nat.reduceAdd, Nat.reduceSub, Nat.reduceLT], by omega, by omega, rfl⟩ ?_
    rintro k env1 H2 ⟨rfl, j, n, hkj, g38, g39, g40, g5, hn0, hn1, hv⟩
    unfold L51_1
    by_cases hj : j < i
    · have f1 : decide ((j : Int) < (i : Int)) = true := decide_eq_true (by omega)
      have hjt : j < (t.take i).length := by omega
      obtain ⟨b, rfl, hx⟩ := by_at (row_take (k := i) (hk1.row hr)) hjt
      have ho := hoct _ (List.getElem_mem hjt)
      rw [List.drop_eq_getElem_cons hjt, octV] at hv
      generalize hxx : (t.take i)[j] = x at hx ho hv
      simp only [isOct, Bool.and_eq_true, decide_eq_true_eq] at ho
      by_cases hbig : (9223372036854775807 - (x - 48)) / 8 < n
      · rw [if_pos hbig] at hv
        rw [← hv] at hq
        have f2 : decide ((9223372036854775807 - (x - 48)) / 8 < n) = true := decide_eq_true hbig
        simp -implicitDefEqProofs (maxSteps := 1000000) (disch := first | omega | assumption) only [g38, g39, g40, g5, f1, f2, hx, w_u8, Sx, reduceIte, Nat.reduceEqDiff, reduceCtorEq, Nat.reduceAdd, Nat.reduceSub, Nat.reduceLT, decide_true, decide_false, Bool.not_true, Bool.not_false, Int.toNat_one, Int.toNat_zero, Nat.zero_mul, l_g, endK, gd_u]
        exact hq _ _ (by simp -implicitDefEqProofs (maxSteps := 1000000) (disch := first | omega | assumption) only [Sx, reduceIte, Nat.reduceEqDiff, reduceCtorEq, Nat.reduceAdd, Nat.reduceSub, Nat.reduceLT]) (by simp -implicitDefEqProofs (maxSteps := 1000000) (disch := first | omega | assumption) only [Sx, reduceIte, Nat.reduceEqDiff, reduceCtorEq, Nat.reduceAdd, Nat.reduceSub, Nat.reduceLT]) (hk.trans hk1)
      · rw [if_neg hbig] at hv
        have f2 : decide ((9223372036854775807 - (x - 48)) / 8 < n) = false := decide_eq_false hbig
        simp -implicitDefEqProofs (maxSteps := 1000000) (disch := first | omega | assumption) only [g38, g39, g40, g5, f1, f2, hx, w_u8, Sx, reduceIte, Nat.reduceEqDiff, reduceCtorEq, Nat.reduceAdd, Nat.reduceSub, Nat.reduceLT, decide_true, decide_false, Bool.not_true, Bool.not_false, Int.toNat_one, Int.toNat_zero, Nat.zero_mul, l_g, endK, gd_u]
        exact ⟨k - 1, by omega, by trivial, j + 1, _, by omega, by trivial, by trivial, by simp -implicitDefEqProofs (maxSteps := 1000000) (disch := first | omega | assumption) only [Int.natCast_add, Int.natCast_one, Sx, reduceIte, Nat.reduceEqDiff, reduceCtorEq, Nat.reduceAdd, Nat.reduceSub, Nat.reduceLT], rfl, by omega, by omega, hv⟩
    · have f1 : decide ((j : Int) < (i : Int)) = false := decide_eq_false (by omega)
      rw [List.drop_of_length_le (by omega), octV] at hv
      rw [← hv] at hq
      simp -implicitDefEqProofs (maxSteps := 1000000) (disch := first | omega | assumption) only [g38, g39, g40, g5, f1, Sx, reduceIte, Nat.reduceEqDiff, reduceCtorEq, Nat.reduceAdd, Nat.reduceSub, Nat.reduceLT, decide_true, decide_false, Bool.not_true, Bool.not_false, Int.toNat_one, Int.toNat_zero, Nat.zero_mul, l_g, endK, gd_u]
      exact hq _ _ (by simp -implicitDefEqProofs (maxSteps := 1000000) (disch := first | omega | assumption) only [g5, Sx, reduceIte, Nat.reduceEqDiff, reduceCtorEq, Nat.reduceAdd, Nat.reduceSub, Nat.reduceLT]) (by simp -implicitDefEqProofs (maxSteps := 1000000) (disch := first | omega | assumption) only [Sx, reduceIte, Nat.reduceEqDiff, reduceCtorEq, Nat.reduceAdd, Nat.reduceSub, Nat.reduceLT]) (hk.trans hk1)
set_option maxHeartbeats 2000000 in
theorem octal_spec {H : Heap} {v : Value} {l : List Int} (hb : By H v l) (hi : isBy l) (hl : l.length ≤ 1125899906842624) :
    ACalls Tryd.prog 51 [v].toArray H fun e H' => e = .returned (.tuple #[.int .i64 (octN l).1, .int .i64 (octN l).2]) ∧ Keep H H' := by
  refine call51 (Nat.le_of_ble_eq_true rfl) ?_
  unfold L51 env0
  have hs : scalarV v = true := by obtain ⟨_, _, rfl, _⟩ := hb; rfl
  simp -implicitDefEqProofs (maxSteps := 1000000) (disch := first | omega | assumption) only [Sx, reduceIte, Nat.reduceEqDiff, reduceCtorEq, Nat.reduceAdd, Nat.reduceSub, Nat.reduceLT]
  refine a_call (trimLeftSp_spec hb hl) ?_
  rintro e H1 ⟨rfl, v', rfl, A, c, rfl, hc, hr⟩
  obtain ⟨t, ht⟩ : ∃ t, t = l.dropWhile (· == 32) := ⟨_, rfl⟩
  rw [← ht] at hc hr
  have hti : isBy t := fun x hx => hi x (by rw [ht] at hx; exact (List.dropWhile_sublist _).subset hx)
  have htl : t.length ≤ 1125899906842624 := by
    have := (List.dropWhile_sublist (l := l) (fun x => x == 32)).length_le
    rw [← ht] at this
    omega
  have fin : ∀ (env' : Env) (H' : Heap), env' 2 = .int .i64 (octT t).1 → env' 3 = .int .i64 (octT t).2 → Keep H1 H' → retQ [.t 2, .t 3] (fun e H' => e = .returned (.tuple #[.int .i64 (octN l).1, .int .i64 (octN l).2]) ∧ Keep H1 H') .ret env' H' := by
    intro env' H' e2 e3 hk
    simp -implicitDefEqProofs (maxSteps := 1000000) (disch := first | omega | assumption) only [e2, e3, Sx, reduceIte, Nat.reduceEqDiff, reduceCtorEq, Nat.reduceAdd, Nat.reduceSub, Nat.reduceLT]
    exact ⟨by unfold octN; rw [← ht], hk⟩
  rw [← ht]
  simp -implicitDefEqProofs (maxSteps := 1000000) (disch := first | omega | assumption) only [Sx, reduceIte, Nat.reduceEqDiff, reduceCtorEq, Nat.reduceAdd, Nat.reduceSub, Nat.reduceLT, decide_true, decide_false, Bool.not_true, Bool.not_false, Int.toNat_one, Int.toNat_zero, Nat.zero_mul, l_g, endK, gd_u]
  refine c_loop (fun k env H' => H' = H1 ∧ ∃ i, k + i = t.length ∧ env 0 = .slice A t.length c ∧ env 4 = .int .i64 i ∧ ∀ y ∈ t.take i, isOct y = true) t.length ⟨rfl, 0, by omega, by simp -implicitDefEqProofs (maxSteps := 1000000) (disch := first | omega | assumption) only [Sx, reduceIte, Nat.reduceEqDiff, reduceCtorEq, Nat.reduceAdd, Nat.reduceSub, Nat.reduceLT], by simp -implicitDefEqProofs (maxSteps := 1000000) (disch := first | omega | assumption) only [Sx, reduceIte, Nat.reduceEqDiff, reduceCtorEq, Nat.reduceAdd, Nat.reduceSub, Nat.reduceLT]; rfl, by simp⟩ ?_
  rintro k env H2 ⟨rfl, i, hk, h0, h4, hy⟩
  unfold L51_0
  by_cases hit : i < t.length
  · have f0 : decide ((i : Int) < (t.length : Int)) = true := decide_eq_true (by omega)
    obtain ⟨b, rfl, hx⟩ := by_at hr hit
    have hstep := all_take_succ hit hy
    have hend := while_split (t := t) (i := i) hy
    generalize hxx : t[i] = x at hx hstep hend
    by_cases h1 : 48 ≤ x
    · have f1 : decide (48 ≤ x) = true := decide_eq_true h1
      by_cases h2 : x ≤ 55
      · have f2 : decide (x ≤ 55) = true := decide_eq_true h2
        simp -implicitDefEqProofs (maxSteps := 1000000) (disch := first | omega | assumption) only [h0, h4, f0, f1, f2, hx, Sx, reduceIte, Nat.reduceEqDiff, reduceCtorEq, Nat.reduceAdd, Nat.reduceSub, Nat.reduceLT, decide_true, decide_false, Bool.not_true, Bool.not_false, Int.toNat_one, Int.toNat_zero, Nat.zero_mul, l_g, endK, gd_u]
        exact ⟨k - 1, by omega, by trivial, i + 1, by omega, by trivial, by simp -implicitDefEqProofs (maxSteps := 1000000) (disch := first | omega | assumption) only [Int.natCast_add, Int.natCast_one, Sx, reduceIte, Nat.reduceEqDiff, reduceCtorEq, Nat.reduceAdd, Nat.reduceSub, Nat.reduceLT], hstep (by simp [isOct, h1, h2])⟩
      · have f2 : decide (x ≤ 55) = false := decide_eq_false h2
        obtain ⟨e1, e2⟩ := hend fun _ => by rw [hxx]; simp [isOct, h2]
        simp -implicitDefEqProofs (maxSteps := 1000000) (disch := first | omega | assumption) only [h0, h4, f0, f1, f2, hx, Sx, reduceIte, Nat.reduceEqDiff, reduceCtorEq, Nat.reduceAdd, Nat.reduceSub, Nat.reduceLT, decide_true, decide_false, Bool.not_true, Bool.not_false, Int.toNat_one, Int.toNat_zero, Nat.zero_mul, l_g, endK, gd_u]
        exact oct_tail hr hc hti htl (by omega) e1 e2 (by simp -implicitDefEqProofs (maxSteps := 1000000) (disch := first | omega | assumption) only [h0, Sx, reduceIte, Nat.reduceEqDiff, reduceCtorEq, Nat.reduceAdd, Nat.reduceSub, Nat.reduceLT]) (by simp -implicitDefEqProofs (maxSteps := 1000000) (disch := first | omega | assumption) only [h4, Sx, reduceIte, Nat.reduceEqDiff, reduceCtorEq, Nat.reduceAdd, Nat.reduceSub, Nat.reduceLT]) (Keep.refl _) fin
    · have f1 : decide (48 ≤ x) = false := decide_eq_false h1
      obtain ⟨e1, e2⟩ := hend fun _ => by rw [hxx]; simp [isOct, h1]
      simp -implicitDefEqProofs (maxSteps := 1000000) (disch := first | omega | assumption) only [h0, h4, f0, f1, hx, Sx, reduceIte, Nat.reduceEqDiff, reduceCtorEq, Nat.reduceAdd, Nat.reduceSub, Nat.reduceLT, decide_true, decide_false, Bool.not_true, Bool.not_false, Int.toNat_one, Int.toNat_zero, Nat.zero_mul, l_g, endK, gd_u]
      exact oct_tail hr hc hti htl (by omega) e1 e2 (by simp -implicitDefEqProofs (maxSteps := 1000000) (disch := first | omega | assumption) only [h0, Sx, reduceIte, Nat.reduceEqDiff, reduceCtorEq, Nat.reduceAdd, Nat.reduceSub, Nat.reduceLT]) (by simp -implicitDefEqProofs (maxSteps := 1000000) (disch := first | omega | assumption) only [h4, Sx, reduceIte, Nat.reduceEqDiff, reduceCtorEq, Nat.reduceAdd, Nat.reduceSub, Nat.reduceLT]) (Keep.refl _) fin
  · have f0 : decide ((i : Int) < (t.length : Int)) = false := decide_eq_false (by omega)
    obtain ⟨e1, e2⟩ := while_split (t := t) (i := i) hy fun h => absurd h hit
    simp -implicitDefEqProofs (maxSteps := 1000000) (disch := first | omega | assumption) only [h0, h4, f0, Sx, reduceIte, Nat.reduceEqDiff, reduceCtorEq, Nat.reduceAdd, Nat.reduceSub, Nat.reduceLT, decide_true, decide_false, Bool.not_true, Bool.not_false, Int.toNat_one, Int.toNat_zero, Nat.zero_mul, l_g, endK, gd_u]
    exact oct_tail hr hc hti htl (by omega) e1 e2 (by simp -implicitDefEqProofs (maxSteps := 1000000) (disch := first | omega | assumption) only [h0, Sx, reduceIte, Nat.reduceEqDiff, reduceCtorEq, Nat.reduceAdd, Nat.reduceSub, Nat.reduceLT]) (by simp -implicitDefEqProofs (maxSteps := 1000000) (disch := first | omega | assumption) only [h4, Sx, reduceIte, Nat.reduceEqDiff, reduceCtorEq, Nat.reduceAdd, Nat.reduceSub, Nat.reduceLT]) (Keep.refl _) fin

/-! ### the document's -/
set_option maxHeartbeats 2000000 in
theorem roct_74 {H : Heap} {env : Env} {Q : Post} {QP : List PanicEntry → Heap → Prop} {n : Int} {big : Bool} (h5 : env 5 = .int .i64 n) (h6 : env 6 = .bool big) (hq : ∀ env', env' 2 = .int .i64 (if big then 0 else n) → env' 3 = .int .i64 (if big then 121 else 0) → Q .ret env' H) : awpC Tryd.prog L53_74 Q QP env H := by
  unfold L53_74
  cases big with
  | true =>
    rw [if_pos rfl, if_pos rfl] at hq
    simp -implicitDefEqProofs (maxSteps := 1000000) (disch := first | omega | assumption) only [h5, h6, Sx, reduceIte, Nat.reduceEqDiff, reduceCtorEq, Nat.reduceAdd, Nat.reduceSub, Nat.reduceLT, decide_true, decide_false, Bool.not_true, Bool.not_false, Int.toNat_one, Int.toNat_zero, Nat.zero_mul, l_g, endK, gd_u]
    exact hq _ (by simp -implicitDefEqProofs (maxSteps := 1000000) (disch := first | omega | assumption) only [Sx, reduceIte, Nat.reduceEqDiff, reduceCtorEq, Nat.reduceAdd, Nat.reduceSub, Nat.reduceLT]) (by simp -implicitDefEqProofs (maxSteps := 1000000) (disch := first | omega | assumption) only [Sx, reduceIte, Nat.reduceEqDiff, reduceCtorEq, Nat.reduceAdd, Nat.reduceSub, Nat.reduceLT])
  | false =>
    rw [if_neg (by simp), if_neg (by simp)] at hq
    simp -implicitDefEqProofs (maxSteps := 1000000) (disch := first | omega | assumption) only [h5, h6, Sx, reduceIte, Nat.reduceEqDiff, reduceCtorEq, Nat.reduceAdd, Nat.reduceSub, Nat.reduceLT, decide_true, decide_false, Bool.not_true, Bool.not_false, Int.toNat_one, Int.toNat_zero, Nat.zero_mul, l_g, endK, gd_u]
    exact hq _ (by simp -implicitDefEqProofs (maxSteps := 1000000) (disch := first | omega | assumption) only [h5, Sx, reduceIte, Nat.reduceEqDiff, reduceCtorEq, Nat.reduceAdd, Nat.reduceSub, Nat.reduceLT]) (by simp -implicitDefEqProofs (maxSteps := 1000000) (disch := first | omega | assumption) only [Sx, reduceIte, Nat.reduceEqDiff, reduceCtorEq, Nat.reduceAdd, Nat.reduceSub, Nat.reduceLT])
set_option maxHeartbeats 2000000 in
theorem roct_b4 {H : Heap} {A : Option Addr} {c i : Nat} {l : List Int} {env : Env} {Q : Post} {QP : List PanicEntry → Heap → Prop} {n : Int} {big : Bool} (hr : Row H A (by8 l)) (hl : l.length ≤ 1125899906842624) (hi : i ≤ l.length)
    (h0 : env 0 = .slice A l.length c) (h4 : env 4 = .int .i64 i) (h5 : env 5 = .int .i64 n) (h6 : env 6 = .bool big)
    (hq : ∀ env', env' 2 = .int .i64 (if (l.drop i).all blankZ then if big then 0 else n else 0) → env' 3 = .int .i64 (if (l.drop i).all blankZ then if big then 121 else 0 else 120) → Q .ret env' H) : awpC Tryd.prog L53_b4 Q QP env H := by
  unfold L53_b4
  simp -implicitDefEqProofs (maxSteps := 1000000) (disch := first | omega | assumption) only [Sx, reduceIte, Nat.reduceEqDiff, reduceCtorEq, Nat.reduceAdd, Nat.reduceSub, Nat.reduceLT]
  refine c_loop (fun k env H' => H' = H ∧ ∃ j, k + j = l.length ∧ env 0 = .slice A l.length c ∧ env 4 = .int .i64 j ∧ env 5 = .int .i64 n ∧ env 6 = .bool big ∧ (l.drop i).all blankZ = (l.drop j).all blankZ) (l.length - i) ⟨rfl, i, by omega, by simp -implicitDefEqProofs (maxSteps := 1000000) (disch := first | omega | assumption) only [h0, Sx, reduceIte, Nat.reduceEqDiff, reduceCtorEq, Nat.reduceAdd, Nat.reduceSub, Nat.reduceLT], by simp -implicitDefEqProofs (maxSteps := 1000000) (disch := first | omega | assumption) only [h4, Sx, reduceIte, Nat.reduceEqDiff, reduceCtorEq, Nat.reduceAdd, Nat.reduceSub, Nat.reduceLT], by simp -implicitDefEqProofs (maxSteps := 1000000) (disch := first | omega | assumption) only [h5, Sx, reduceIte, Nat.reduceEqDiff, reduceCtorEq, Nat.reduceAdd, Nat.reduceSub, Nat.reduceLT], by simp -implicitDefEqProofs (maxSteps := 1000000) (disch := first | omega | assumption) only [h6, Sx, reduceIte, Nat.reduceEqDiff, reduceCtorEq, Nat.reduceAdd, Nat.reduceSub, Nat.reduceLT], rfl⟩ ?_
  rintro k env H1 ⟨rfl, j, hk, h0, h4, h5, h6, hall⟩
  rw [hall] at hq
  unfold L53_3
  by_cases hj : j < l.length
  · have f0 : decide ((j : Int) < (l.length : Int)) = true := decide_eq_true (by omega)
    obtain ⟨b, rfl, hx⟩ := by_at hr hj
    rw [List.drop_eq_getElem_cons hj, List.all_cons] at hq hall
    generalize hxx : l[j] = x at hx hq hall
    by_cases h1 : x = 32
    · have f1 : (x != 32) = false := by rw [bne_eq_false_iff_eq]; exact h1
      have e1 : blankZ x = true := by simp [blankZ, h1]
      rw [e1, Bool.true_and] at hall
      simp -implicitDefEqProofs (maxSteps := 1000000) (disch := first | omega | assumption) only [h0, h4, h5, h6, f0, f1, hx, Sx, reduceIte, Nat.reduceEqDiff, reduceCtorEq, Nat.reduceAdd, Nat.reduceSub, Nat.reduceLT, decide_true, decide_false, Bool.not_true, Bool.not_false, Int.toNat_one, Int.toNat_zero, Nat.zero_mul, l_g, endK, gd_u]
      exact ⟨k - 1, by omega, by trivial, j + 1, by omega, by trivial, by simp -implicitDefEqProofs (maxSteps := 1000000) (disch := first | omega | assumption) only [Int.natCast_add, Int.natCast_one, Sx, reduceIte, Nat.reduceEqDiff, reduceCtorEq, Nat.reduceAdd, Nat.reduceSub, Nat.reduceLT], by trivial, by trivial, hall⟩
    · have f1 : (x != 32) = true := by rw [bne_iff_ne]; exact h1
      by_cases h2 : x = 0
      · have f2 : (x != 0) = false := by rw [bne_eq_false_iff_eq]; exact h2
        have e1 : blankZ x = true := by simp [blankZ, h2]
        rw [e1, Bool.true_and] at hall
        simp -implicitDefEqProofs (maxSteps := 1000000) (disch := first | omega | assumption) only [h0, h4, h5, h6, f0, f1, f2, hx, Sx, reduceIte, Nat.reduceEqDiff, reduceCtorEq, Nat.reduceAdd, Nat.reduceSub, Nat.reduceLT, decide_true, decide_false, Bool.not_true, Bool.not_false, Int.toNat_one, Int.toNat_zero, Nat.zero_mul, l_g, endK, gd_u]
        exact ⟨k - 1, by omega, by trivial, j + 1, by omega, by trivial, by simp -implicitDefEqProofs (maxSteps := 1000000) (disch := first | omega | assumption) only [Int.natCast_add, Int.natCast_one, Sx, reduceIte, Nat.reduceEqDiff, reduceCtorEq, Nat.reduceAdd, Nat.reduceSub, Nat.reduceLT], by trivial, by trivial, hall⟩
      · have f2 : (x != 0) = true := by rw [bne_iff_ne]; exact h2
        have e1 : blankZ x = false := by simp [blankZ, h1, h2]
        rw [e1, Bool.false_and] at hq
        simp -implicitDefEqProofs (maxSteps := 1000000) (disch := first | omega | assumption) only [h0, h4, h5, h6, f0, f1, f2, hx, Sx, reduceIte, Nat.reduceEqDiff, reduceCtorEq, Nat.reduceAdd, Nat.reduceSub, Nat.reduceLT, decide_true, decide_false, Bool.not_true, Bool.not_false, Int.toNat_one, Int.toNat_zero, Nat.zero_mul, l_g, endK, gd_u]
        exact hq _ (by simp -implicitDefEqProofs (maxSteps := 1000000) (disch := first | omega | assumption) only [Sx, reduceIte, Nat.reduceEqDiff, reduceCtorEq, Nat.reduceAdd, Nat.reduceSub, Nat.reduceLT]) (by simp -implicitDefEqProofs (maxSteps := 1000000) (disch := first | omega | assumption) only [Sx, reduceIte, Nat.reduceEqDiff, reduceCtorEq, Nat.reduceAdd, Nat.reduceSub, Nat.reduceLT])
  · have f0 : decide ((j : Int) < (l.length : Int)) = false := decide_eq_false (by omega)
    rw [List.drop_of_length_le (by omega), List.all_nil] at hq
    simp -implicitDefEqProofs (maxSteps := 1000000) (disch := first | omega | assumption) only [h0, h4, h5, h6, f0, Sx, reduceIte, Nat.reduceEqDiff, reduceCtorEq, Nat.reduceAdd, Nat.reduceSub, Nat.reduceLT, decide_true, decide_false, Bool.not_true, Bool.not_false, Int.toNat_one, Int.toNat_zero, Nat.zero_mul, l_g, endK, gd_u]
    exact roct_74 (by simp -implicitDefEqProofs (maxSteps := 1000000) (disch := first | omega | assumption) only [h5, Sx, reduceIte, Nat.reduceEqDiff, reduceCtorEq, Nat.reduceAdd, Nat.reduceSub, Nat.reduceLT]) (by simp -implicitDefEqProofs (maxSteps := 1000000) (disch := first | omega | assumption) only [h6, Sx, reduceIte, Nat.reduceEqDiff, reduceCtorEq, Nat.reduceAdd, Nat.reduceSub, Nat.reduceLT]) hq
end Go.Proofs.YthflafgijfbpnaaDoor.S12

/-
  The document's Octal, whole; Number's two ways.
-/
set_option linter.unusedVariables false
set_option linter.unusedSimpArgs false
namespace Go.Proofs.YthflafgijfbpnaaDoor.S12
open Go Go.RowKit Go.Proofs.YthflafgijfbpnaaDoor.Sep Go.Proofs.YthflafgijfbpnaaDoor.Low Go.Proofs.YthflafgijfbpnaaDoor.Lib

set_option maxHeartbeats 2000000 in
theorem roct_5 {H : Heap} {A : Option Addr} {c i0 : Nat} {l : List Int} {env : Env} {Q : Post} {QP : List PanicEntry → Heap → Prop} (hr : Row H A (by8 l)) (hl : l.length ≤ 1125899906842624) (hi : i0 ≤ l.length)
    (h0 : env 0 = .slice A l.length c) (h4 : env 4 = .int .i64 i0)
    (hq : ∀ env', env' 2 = .int .i64 (octT (l.drop i0)).1 → env' 3 = .int .i64 (octT (l.drop i0)).2 → Q .ret env' H) : awpC Tryd.prog L53_5 Q QP env H := by
  unfold L53_5
  simp -implicitDefEqProofs (maxSteps := 1000000) (disch := first | omega | assumption) only [Sx, reduceIte, Nat.reduceEqDiff, reduceCtorEq, Nat.reduceAdd, Nat.reduceSub, Nat.reduceLT]
  -- what is said of digits behind the first ones that are digits
  have fin : ∀ (j : Nat) (n : Int) (big : Bool) (env' : Env), j ≤ (l.drop i0).length → (∀ y ∈ (l.drop i0).take j, isOct y = true) → (∀ h : j < (l.drop i0).length, isOct (l.drop i0)[j] = false) →
      ((big = false ∧ octV 0 ((l.drop i0).take j) = some n) ∨ (big = true ∧ octV 0 ((l.drop i0).take j) = none)) →
      env' 2 = .int .i64 (if (l.drop (i0 + j)).all blankZ then if big then 0 else n else 0) → env' 3 = .int .i64 (if (l.drop (i0 + j)).all blankZ then if big then 121 else 0 else 120) → Q .ret env' H := by
    intro j n big env' hj hy hend hv e2 e3
    obtain ⟨ht, hd⟩ := while_split hy hend
    unfold octT at hq
    rw [hd, ht, List.drop_drop] at hq
    cases hall : (l.drop (i0 + j)).all blankZ with
    | false =>
      rw [hall] at e2 e3
      rw [if_neg (by rw [hall]; simp)] at hq
      exact hq env' (by simpa using e2) (by simpa using e3)
    | true =>
      rw [hall] at e2 e3
      rw [if_pos hall] at hq
      rcases hv with ⟨rfl, hv⟩ | ⟨rfl, hv⟩
      · rw [hv] at hq; exact hq env' (by simpa using e2) (by simpa using e3)
      · rw [hv] at hq; exact hq env' (by simpa using e2) (by simpa using e3)
  have hdl : (l.drop i0).length = l.length - i0 := List.length_drop
  refine c_loop (fun k env H' => H' = H ∧ ∃ (j : Nat) (n : Int) (big : Bool), k + j = (l.drop i0).length ∧ env 0 = .slice A l.length c ∧ env 4 = .int .i64 (i0 + j : Nat) ∧ env 5 = .int .i64 n ∧ env 6 = .bool big ∧ 0 ≤ n ∧ n ≤ 9223372036854775807 ∧ (∀ y ∈ (l.drop i0).take j, isOct y = true) ∧
      ((big = false ∧ octV 0 ((l.drop i0).take j) = some n) ∨ (big = true ∧ octV 0 ((l.drop i0).take j) = none))) (l.drop i0).length ⟨rfl, 0, 0, false, by omega, by simp -implicitDefEqProofs (maxSteps := 1000000) (disch := first | omega | assumption) only [h0, Sx, reduceIte, Nat.reduceEqDiff, reduceCtorEq, Nat.reduceAdd, Nat.reduceSub, Nat.reduceLT], by simp -implicitDefEqProofs (maxSteps := 1000000) (disch := first | omega | assumption) only [h4, Sx, reduceIte, Nat.reduceEqDiff, reduceCtorEq, Nat.reduceAdd, Nat.reduceSub, Nat.reduceLT], by simp -implicitDefEqProofs (maxSteps := 1000000) (disch := first | omega | assumption) only [Sx, reduceIte, Nat.reduceEqDiff, reduceCtorEq, Nat.reduceAdd, Nat.reduceSub, Nat.reduceLT], by simp -implicitDefEqProofs (maxSteps := 1000000) (disch := first | omega | assumption) only [Sx, reduceIte, Nat.reduceEqDiff, reduceCtorEq, Nat.reduceAdd, Nat.reduceSub, Nat.reduceLT], by omega, by omega, by simp, .inl ⟨rfl, rfl⟩⟩ ?_
  rintro k env H1 ⟨rfl, j, n, big, hk, h0, h4, h5, h6, hn0, hn1, hy, hv⟩
  unfold L53_2
  have leave : ∀ env2 : Env, env2 0 = .slice A l.length c → env2 4 = .int .i64 (i0 + j : Nat) → env2 5 = .int .i64 n → env2 6 = .bool big → (∀ h : j < (l.drop i0).length, isOct (l.drop i0)[j] = false) → awpC Tryd.prog L53_b4 Q QP env2 H1 := by
    intro env2 g0 g4 g5 g6 hend
    exact roct_b4 hr hl (by omega) g0 g4 g5 g6 fun env' e2 e3 => fin j n big env' (by omega) hy hend hv e2 e3
  by_cases hj : i0 + j < l.length
  · have f0 : decide (((i0 + j : Nat) : Int) < (l.length : Int)) = true := decide_eq_true (by omega)
    obtain ⟨b, rfl, hx⟩ := by_at hr hj
    have hjd : j < (l.drop i0).length := by omega
    have hget : (l.drop i0)[j] = l[i0 + j] := List.getElem_drop
    have hstep := all_take_succ hjd hy
    rw [hget] at hstep
    have htk : (l.drop i0).take (j + 1) = (l.drop i0).take j ++ [l[i0 + j]] := by rw [List.take_succ_eq_append_getElem hjd, hget]
    generalize hxx : l[i0 + j] = x at hx hstep htk
    by_cases h1 : 48 ≤ x
    · have f1 : decide (48 ≤ x) = true := decide_eq_true h1
      by_cases h2 : x ≤ 55
      · have f2 : decide (x ≤ 55) = true := decide_eq_true h2
        have hy2 := hstep (by simp [isOct, h1, h2])
        by_cases hbig : (9223372036854775807 - (x - 48)) / 8 < n
        · have f3 : decide ((9223372036854775807 - (x - 48)) / 8 < n) = true := decide_eq_true hbig
          simp -implicitDefEqProofs (maxSteps := 1000000) (disch := first | omega | assumption) only [h0, h4, h5, h6, f0, f1, f2, f3, hx, w_u8, Sx, reduceIte, Nat.reduceEqDiff, reduceCtorEq, Nat.reduceAdd, Nat.reduceSub, Nat.reduceLT, decide_true, decide_false, Bool.not_true, Bool.not_false, Int.toNat_one, Int.toNat_zero, Nat.zero_mul, l_g, endK, gd_u]
          unfold L53_1
          simp -implicitDefEqProofs (maxSteps := 1000000) (disch := first | omega | assumption) only [h0, h4, h5, h6, Sx, reduceIte, Nat.reduceEqDiff, reduceCtorEq, Nat.reduceAdd, Nat.reduceSub, Nat.reduceLT, decide_true, decide_false, Bool.not_true, Bool.not_false, Int.toNat_one, Int.toNat_zero, Nat.zero_mul, l_g, endK, gd_u]
          refine ⟨k - 1, by omega, by trivial, j + 1, n, true, by omega, by trivial, by simp -implicitDefEqProofs (maxSteps := 1000000) (disch := first | omega | assumption) only [← Nat.add_assoc, Int.natCast_add, Int.natCast_one, Sx, reduceIte, Nat.reduceEqDiff, reduceCtorEq, Nat.reduceAdd, Nat.reduceSub, Nat.reduceLT], by trivial, by trivial, hn0, hn1, hy2, .inr ⟨rfl, ?_⟩⟩
          rw [htk, octV_app]
          rcases hv with ⟨-, hv⟩ | ⟨-, hv⟩
          · rw [hv]; show octV n [x] = none; rw [octV, if_pos hbig]
          · rw [hv]
        · have f3 : decide ((9223372036854775807 - (x - 48)) / 8 < n) = false := decide_eq_false hbig
          simp -implicitDefEqProofs (maxSteps := 1000000) (disch := first | omega | assumption) only [h0, h4, h5, h6, f0, f1, f2, f3, hx, w_u8, Sx, reduceIte, Nat.reduceEqDiff, reduceCtorEq, Nat.reduceAdd, Nat.reduceSub, Nat.reduceLT, decide_true, decide_false, Bool.not_true, Bool.not_false, Int.toNat_one, Int.toNat_zero, Nat.zero_mul, l_g, endK, gd_u]
          unfold L53_1
          simp -implicitDefEqProofs (maxSteps := 1000000) (disch := first | omega | assumption) only [h0, h4, h5, h6, Sx, reduceIte, Nat.reduceEqDiff, reduceCtorEq, Nat.reduceAdd, Nat.reduceSub, Nat.reduceLT, decide_true, decide_false, Bool.not_true, Bool.not_false, Int.toNat_one, Int.toNat_zero, Nat.zero_mul, l_g, endK, gd_u]
          refine ⟨k - 1, by omega, by trivial, j + 1, _, big, by omega, by trivial, by simp -implicitDefEqProofs (maxSteps := 1000000) (disch := first | omega | assumption) only [← Nat.add_assoc, Int.natCast_add, Int.natCast_one, Sx, reduceIte, Nat.reduceEqDiff, reduceCtorEq, Nat.reduceAdd, Nat.reduceSub, Nat.reduceLT], rfl, by trivial, by omega, by omega, hy2, ?_⟩
          rw [htk, octV_app]
          rcases hv with ⟨rfl, hv⟩ | ⟨rfl, hv⟩
          · refine .inl ⟨rfl, ?_⟩
            rw [hv]; show octV n [x] = some _; rw [octV, if_neg hbig, octV, Int.mul_comm]
          · exact .inr ⟨rfl, by rw [hv]⟩
      · have f2 : decide (x ≤ 55) = false := decide_eq_false h2
        simp -implicitDefEqProofs (maxSteps := 1000000) (disch := first | omega | assumption) only [h0, h4, h5, h6, f0, f1, f2, hx, Sx, reduceIte, Nat.reduceEqDiff, reduceCtorEq, Nat.reduceAdd, Nat.reduceSub, Nat.reduceLT, decide_true, decide_false, Bool.not_true, Bool.not_false, Int.toNat_one, Int.toNat_zero, Nat.zero_mul, l_g, endK, gd_u]
        exact leave _ (by simp -implicitDefEqProofs (maxSteps := 1000000) (disch := first | omega | assumption) only [h0, Sx, reduceIte, Nat.reduceEqDiff, reduceCtorEq, Nat.reduceAdd, Nat.reduceSub, Nat.reduceLT]) (by simp -implicitDefEqProofs (maxSteps := 1000000) (disch := first | omega | assumption) only [h4, Sx, reduceIte, Nat.reduceEqDiff, reduceCtorEq, Nat.reduceAdd, Nat.reduceSub, Nat.reduceLT]) (by simp -implicitDefEqProofs (maxSteps := 1000000) (disch := first | omega | assumption) only [h5, Sx, reduceIte, Nat.reduceEqDiff, reduceCtorEq, Nat.reduceAdd, Nat.reduceSub, Nat.reduceLT]) (by simp -implicitDefEqProofs (maxSteps := 1000000) (disch := first | omega | assumption) only [h6, Sx, reduceIte, Nat.reduceEqDiff, reduceCtorEq, Nat.reduceAdd, Nat.reduceSub, Nat.reduceLT]) fun _ => by rw [hget, hxx]; simp [isOct, h2]
    · have f1 : decide (48 ≤ x) = false := decide_eq_false h1
      simp -implicitDefEqProofs (maxSteps := 1000000) (disch := first | omega | assumption) only [h0, h4, h5, h6, f0, f1, hx, Sx, reduceIte, Nat.reduceEqDiff, reduceCtorEq, Nat.reduceAdd, Nat.reduceSub, Nat.reduceLT, decide_true, decide_false, Bool.not_true, Bool.not_false, Int.toNat_one, Int.toNat_zero, Nat.zero_mul, l_g, endK, gd_u]
      exact leave _ (by simp -implicitDefEqProofs (maxSteps := 1000000) (disch := first | omega | assumption) only [h0, Sx, reduceIte, Nat.reduceEqDiff, reduceCtorEq, Nat.reduceAdd, Nat.reduceSub, Nat.reduceLT]) (by simp -implicitDefEqProofs (maxSteps := 1000000) (disch := first | omega | assumption) only [h4, Sx, reduceIte, Nat.reduceEqDiff, reduceCtorEq, Nat.reduceAdd, Nat.reduceSub, Nat.reduceLT]) (by simp -implicitDefEqProofs (maxSteps := 1000000) (disch := first | omega | assumption) only [h5, Sx, reduceIte, Nat.reduceEqDiff, reduceCtorEq, Nat.reduceAdd, Nat.reduceSub, Nat.reduceLT]) (by simp -implicitDefEqProofs (maxSteps := 1000000) (disch := first | omega | assumption) only [h6, Sx, reduceIte, Nat.reduceEqDiff, reduceCtorEq, Nat.reduceAdd, Nat.reduceSub, Nat.reduceLT]) fun _ => by rw [hget, hxx]; simp [isOct, h1]
  · have f0 : decide (((i0 + j : Nat) : Int) < (l.length : Int)) = false := decide_eq_false (by omega)
    simp -implicitDefEqProofs (maxSteps := 1000000) (disch := first | omega | assumption) only [h0, h4, h5, h6, f0, Sx, reduceIte, Nat.reduceEqDiff, reduceCtorEq, Nat.reduceAdd, Nat.reduceSub, Nat.reduceLT, decide_true, decide_false, Bool.not_true, Bool.not_false, Int.toNat_one, Int.toNat_zero, Nat.zero_mul, l_g, endK, gd_u]
    exact leave _ (by simp -implicitDefEqProofs (maxSteps := 1000000) (disch := first | omega | assumption) only [h0, Sx, reduceIte, Nat.reduceEqDiff, reduceCtorEq, Nat.reduceAdd, Nat.reduceSub, Nat.reduceLT]) (by simp -implicitDefEqProofs (maxSteps := 1000000) (disch := first | omega | assumption) only [h4, Sx, reduceIte, Nat.reduceEqDiff, reduceCtorEq, Nat.reduceAdd, Nat.reduceSub, Nat.reduceLT]) (by simp -implicitDefEqProofs (maxSteps := 1000000) (disch := first | omega | assumption) only [h5, Sx, reduceIte, Nat.reduceEqDiff, reduceCtorEq, Nat.reduceAdd, Nat.reduceSub, Nat.reduceLT]) (by simp -implicitDefEqProofs (maxSteps := 1000000) (disch := first | omega | assumption) only [h6, Sx, reduceIte, Nat.reduceEqDiff, reduceCtorEq, Nat.reduceAdd, Nat.reduceSub, Nat.reduceLT]) fun h => absurd h (by omega)
set_option maxHeartbeats 1000000 in
theorem roctal_spec {H : Heap} {v : Value} {l : List Int} (hb : By H v l) (hl : l.length ≤ 1125899906842624) :
    ACalls Tryd.prog 53 [v].toArray H fun e H' => e = .returned (.tuple #[.int .i64 (octN l).1, .int .i64 (octN l).2]) ∧ H' = H := by
  obtain ⟨A, c, rfl, hc, hr⟩ := hb
  refine call53 (Nat.le_of_ble_eq_true rfl) ?_
  unfold L53 env0
  simp -implicitDefEqProofs (maxSteps := 1000000) (disch := first | omega | assumption) only [Sx, reduceIte, Nat.reduceEqDiff, reduceCtorEq, Nat.reduceAdd, Nat.reduceSub, Nat.reduceLT]
  refine c_loop (fun k env H' => H' = H ∧ ∃ i, k + i = l.length ∧ env 0 = .slice A l.length c ∧ env 4 = .int .i64 i ∧ ∀ y ∈ l.take i, (y == 32) = true) l.length ⟨rfl, 0, by omega, by simp -implicitDefEqProofs (maxSteps := 1000000) (disch := first | omega | assumption) only [Sx, reduceIte, Nat.reduceEqDiff, reduceCtorEq, Nat.reduceAdd, Nat.reduceSub, Nat.reduceLT], by simp -implicitDefEqProofs (maxSteps := 1000000) (disch := first | omega | assumption) only [Sx, reduceIte, Nat.reduceEqDiff, reduceCtorEq, Nat.reduceAdd, Nat.reduceSub, Nat.reduceLT]; rfl, by simp⟩ ?_
  rintro k env H2 ⟨rfl, i, hk, h0, h4, hy⟩
  unfold L53_0
  have leave : ∀ env2 : Env, env2 0 = .slice A l.length c → env2 4 = .int .i64 i → (∀ h : i < l.length, (l[i] == 32) = false) → awpC Tryd.prog L53_5 (retQ [.t 2, .t 3] fun e H' => e = .returned (.tuple #[.int .i64 (octN l).1, .int .i64 (octN l).2]) ∧ H' = H2) (fun ch H => False ∧ H = H2) env2 H2 := by
    intro env2 g0 g4 hend
    obtain ⟨-, hd⟩ := while_split (p := fun y : Int => y == 32) hy hend
    refine roct_5 hr hl (by omega) g0 g4 ?_
    intro env' e2 e3
    rw [← hd] at e2 e3
    simp -implicitDefEqProofs (maxSteps := 1000000) (disch := first | omega | assumption) only [e2, e3, Sx, reduceIte, Nat.reduceEqDiff, reduceCtorEq, Nat.reduceAdd, Nat.reduceSub, Nat.reduceLT]
    exact ⟨by trivial, by trivial⟩
  by_cases hi : i < l.length
  · have f0 : decide ((i : Int) < (l.length : Int)) = true := decide_eq_true (by omega)
    obtain ⟨b, rfl, hx⟩ := by_at hr hi
    have hstep := all_take_succ (p := fun y : Int => y == 32) hi hy
    generalize hxx : l[i] = x at hx hstep
    cases hx32 : (x == 32) with
    | true =>
      simp -implicitDefEqProofs (maxSteps := 1000000) (disch := first | omega | assumption) only [h0, h4, f0, hx, hx32, Sx, reduceIte, Nat.reduceEqDiff, reduceCtorEq, Nat.reduceAdd, Nat.reduceSub, Nat.reduceLT, decide_true, decide_false, Bool.not_true, Bool.not_false, Int.toNat_one, Int.toNat_zero, Nat.zero_mul, l_g, endK, gd_u]
      exact ⟨k - 1, by omega, by trivial, i + 1, by omega, by trivial, by simp -implicitDefEqProofs (maxSteps := 1000000) (disch := first | omega | assumption) only [Int.natCast_add, Int.natCast_one, Sx, reduceIte, Nat.reduceEqDiff, reduceCtorEq, Nat.reduceAdd, Nat.reduceSub, Nat.reduceLT], by simpa using hstep hx32⟩
    | false =>
      simp -implicitDefEqProofs (maxSteps := 1000000) (disch := first | omega | assumption) only [h0, h4, f0, hx, hx32, Sx, reduceIte, Nat.reduceEqDiff, reduceCtorEq, Nat.reduceAdd, Nat.reduceSub, Nat.reduceLT, decide_true, decide_false, Bool.not_true, Bool.not_false, Int.toNat_one, Int.toNat_zero, Nat.zero_mul, l_g, endK, gd_u]
      exact leave _ (by simp -implicitDefEqProofs (maxSteps := 1000000) (disch := first | omega | assumption) only [h0, Sx, reduceIte, Nat.reduceEqDiff, reduceCtorEq, Nat.reduceAdd, Nat.reduceSub, Nat.reduceLT]) (by simp -implicitDefEqProofs (maxSteps := 1000000) (disch := first | omega | assumption) only [h4, Sx, reduceIte, Nat.reduceEqDiff, reduceCtorEq, Nat.reduceAdd, Nat.reduceSub, Nat.reduceLT]) fun _ => by rw [hxx]; exact hx32
  · have f0 : decide ((i : Int) < (l.length : Int)) = false := decide_eq_false (by omega)
    simp -implicitDefEqProofs (maxSteps := 1000000) (disch := first | omega | assumption) only [h0, h4, f0, Sx, reduceIte, Nat.reduceEqDiff, reduceCtorEq, Nat.reduceAdd, Nat.reduceSub, Nat.reduceLT, decide_true, decide_false, Bool.not_true, Bool.not_false, Int.toNat_one, Int.toNat_zero, Nat.zero_mul, l_g, endK, gd_u]
    exact leave _ (by simp -implicitDefEqProofs (maxSteps := 1000000) (disch := first | omega | assumption) only [h0, Sx, reduceIte, Nat.reduceEqDiff, reduceCtorEq, Nat.reduceAdd, Nat.reduceSub, Nat.reduceLT]) (by simp -implicitDefEqProofs (maxSteps := 1000000) (disch := first | omega | assumption) only [h4, Sx, reduceIte, Nat.reduceEqDiff, reduceCtorEq, Nat.reduceAdd, Nat.reduceSub, Nat.reduceLT]) fun h => absurd h hi
end Go.Proofs.YthflafgijfbpnaaDoor.S12

/-
  Numbers to the base 256, plain.
-/
set_option linter.unusedVariables false
set_option linter.unusedSimpArgs false
namespace Go.Proofs.YthflafgijfbpnaaDoor.S12
open Go Go.Proofs.YthflafgijfbpnaaDoor.Lib

/-- the highest byte first -/
def bv (s : Int) : List Int → Int
  | [] => s
  | x :: l => bv (s * 256 + x) l
theorem bv_app : ∀ (a b : List Int) (s : Int), bv s (a ++ b) = bv (bv s a) b
  | [], b, s => rfl
  | x :: a, b, s => by rw [List.cons_append, bv, bv, bv_app a b]
def p256 : Nat → Int
  | 0 => 1
  | n + 1 => p256 n * 256
theorem p256_pos : ∀ n, 0 < p256 n
  | 0 => by decide
  | n + 1 => by have := p256_pos n; rw [p256]; omega
theorem bv_lin : ∀ (l : List Int) (s : Int), bv s l = s * p256 l.length + bv 0 l
  | [], s => by simp [bv, p256]
  | x :: l, s => by
    rw [bv, bv, bv_lin l (s * 256 + x), bv_lin l (0 * 256 + x), List.length_cons, p256, Int.add_mul, Int.mul_assoc, Int.mul_comm 256 (p256 _), Int.zero_mul, Int.zero_add, Int.add_assoc]
theorem bv_bnd : ∀ {l : List Int}, isBy l → 0 ≤ bv 0 l ∧ bv 0 l < p256 l.length
  | [], _ => by decide
  | x :: l, h => by
    have ih := bv_bnd (l := l) fun y hy => h y (List.mem_cons_of_mem _ hy)
    have hx := h x List.mem_cons_self
    rw [bv, bv_lin, Int.zero_mul, Int.zero_add, List.length_cons, p256]
    have hp := p256_pos l.length
    have h1 : 0 ≤ x * p256 l.length := Int.mul_nonneg hx.1 (by omega)
    have h2 : x * p256 l.length ≤ 255 * p256 l.length := Int.mul_le_mul_of_nonneg_right (by omega) (by omega)
    constructor
    · omega
    · have h3 : p256 l.length * 256 = 255 * p256 l.length + p256 l.length := by omega
      omega
theorem p256_add : ∀ (m n : Nat), p256 (m + n) = p256 m * p256 n
  | m, 0 => by simp [p256]
  | m, n + 1 => by rw [← Nat.add_assoc, p256, p256, p256_add m n, Int.mul_assoc]
/-- the bounds of what more bytes make of a number -/
theorem bv_lo {l : List Int} (h : isBy l) (s : Int) : s * p256 l.length ≤ bv s l := by rw [bv_lin]; have := bv_bnd h; omega
theorem bv_hi {l : List Int} (h : isBy l) (s : Int) : bv s l < (s + 1) * p256 l.length := by rw [bv_lin, Int.add_mul, Int.one_mul]; have := bv_bnd h; omega

abbrev lo64 : Int := -9223372036854775808
abbrev hi64 : Int := 9223372036854775807
abbrev fits64 (z : Int) : Prop := lo64 ≤ z ∧ z ≤ hi64
theorem p256_8 {n : Nat} (h : 8 ≤ n) : 18446744073709551616 ≤ p256 n := by
  obtain ⟨k, rfl⟩ : ∃ k, n = 8 + k := ⟨n - 8, by omega⟩
  rw [p256_add, show p256 8 = 18446744073709551616 from rfl]
  have := p256_pos k
  have h2 : 18446744073709551616 * 1 ≤ 18446744073709551616 * p256 k := Int.mul_le_mul_of_nonneg_left (by omega) (by decide)
  omega
/-- a byte that is none of the sign's, more than eight from the end -/
theorem far_big {s x : Int} {l : List Int} (hs : s = 0 ∨ s = -1) (hx : 0 ≤ x ∧ x < 256) (hne : x ≠ if s = 0 then 0 else 255) (h : isBy l) (hl : 8 ≤ l.length) : ¬ fits64 (bv s (x :: l)) := by
  rw [bv]
  have hp := p256_8 hl
  have h1 := bv_lo h (s * 256 + x)
  have h2 := bv_hi h (s * 256 + x)
  generalize bv (s * 256 + x) l = B at h1 h2
  rintro ⟨h3, h4⟩
  rcases hs with rfl | rfl
  · rw [if_pos rfl] at hne
    have h5 : 1 * p256 l.length ≤ (0 * 256 + x) * p256 l.length := Int.mul_le_mul_of_nonneg_right (by omega) (by omega)
    simp only [hi64] at h4
    omega
  · rw [if_neg (by decide)] at hne
    have h5 : (-1 * 256 + x + 1) * p256 l.length ≤ (-1) * p256 l.length := Int.mul_le_mul_of_nonneg_right (by omega) (by omega)
    simp only [lo64] at h3
    omega
/-- a byte that has not the sign's bit, eight from the end -/
theorem top_big {s x : Int} {l : List Int} (hs : s = 0 ∨ s = -1) (hx : 0 ≤ x ∧ x < 256) (hne : (s = 0 ∧ 128 ≤ x) ∨ (s = -1 ∧ x < 128)) (h : isBy l) (hl : l.length = 7) : ¬ fits64 (bv s (x :: l)) := by
  rw [bv]
  have h1 := bv_lo h (s * 256 + x)
  have h2 := bv_hi h (s * 256 + x)
  rw [hl, show p256 7 = 72057594037927936 from rfl] at h1 h2
  generalize bv (s * 256 + x) l = B at h1 h2
  rintro ⟨h3, h4⟩
  simp only [lo64, hi64] at h3 h4
  rcases hne with ⟨rfl, h⟩ | ⟨rfl, h⟩ <;> omega
/-- how great a number may be with so many bytes to come -/
def capB : Nat → Int
  | 0 => 9223372036854775808
  | 1 => 36028797018963968
  | 2 => 140737488355328
  | 3 => 549755813888
  | 4 => 2147483648
  | 5 => 8388608
  | 6 => 32768
  | _ => 128
theorem capB_step {r : Nat} (h : r < 7) : capB r = 256 * capB (r + 1) := by
  match r, h with
  | 0, _ | 1, _ | 2, _ | 3, _ | 4, _ | 5, _ | 6, _ => rfl
theorem capB_bnd (r : Nat) : 128 ≤ capB r ∧ capB r ≤ 9223372036854775808 := by
  unfold capB
  split <;> decide
/-- while bytes are taken in: r of them are to come -/
def Mid (s n : Int) (r : Nat) : Prop := (8 ≤ r → n = s) ∧ (r < 8 → -capB r ≤ n ∧ n < capB r)
theorem mid_first {s : Int} {r : Nat} (hs : s = 0 ∨ s = -1) : Mid s s r := ⟨fun _ => rfl, fun _ => by have := capB_bnd r; rcases hs with rfl | rfl <;> omega⟩
theorem mid_step {s n x : Int} {r : Nat} (hs : s = 0 ∨ s = -1) (hx : 0 ≤ x ∧ x < 256) (h : Mid s n (r + 1)) (h9 : 8 ≤ r → x = if s = 0 then 0 else 255) (h8 : r = 7 → ¬ ((s = 0 ∧ 128 ≤ x) ∨ (s = -1 ∧ x < 128))) : Mid s (n * 256 + x) r := by
  constructor
  · intro hr
    have e := h.1 (by omega)
    have e2 := h9 hr
    rcases hs with rfl | rfl
    · rw [if_pos rfl] at e2; omega
    · rw [if_neg (by decide)] at e2; omega
  · intro hr
    by_cases h7 : r = 7
    · have e := h.1 (by omega)
      have e2 := h8 h7
      subst h7
      simp only [capB]
      rcases hs with rfl | rfl <;> omega
    · have e := h.2 (by omega)
      rw [capB_step (by omega)]
      omega
theorem mid_fits {s n : Int} {r : Nat} (hs : s = 0 ∨ s = -1) (h : Mid s n r) : fits64 n := by
  have hc := capB_bnd r
  simp only [fits64, lo64, hi64]
  by_cases hr : 8 ≤ r
  · have := h.1 hr; rcases hs with rfl | rfl <;> omega
  · have := h.2 (by omega); omega
theorem fits_small {l : List Int} {s : Int} (hs : s = 0 ∨ s = -1) (h : isBy l) (hl : l.length ≤ 7) : fits64 (bv s l) := by
  have h1 := bv_lo h s
  have h2 := bv_hi h s
  have hp : p256 l.length ≤ 72057594037927936 := by
    match hm : l.length, hl with
    | 0, _ | 1, _ | 2, _ | 3, _ | 4, _ | 5, _ | 6, _ | 7, _ => decide
  have hp0 := p256_pos l.length
  simp only [fits64, lo64, hi64]
  rcases hs with rfl | rfl <;> omega

/-- the sign, and the bytes with it -/
def signB (l : List Int) : Int := if 64 ≤ l.headD 0 % 128 then -1 else 0
def bodyB : List Int → List Int
  | [] => []
  | x :: r => (if 64 ≤ x % 128 then x else x - 128) :: r
def binV (l : List Int) : Int := bv (signB l) (bodyB l)
/-- Binary -/
def binN (l : List Int) : Int × Int := if l.length < 2 ∨ l.headD 0 < 128 then (0, 120) else if fits64 (binV l) then (binV l, 0) else (0, 121)
theorem sign_cases (l : List Int) : signB l = 0 ∨ signB l = -1 := by unfold signB; split <;> simp
theorem bodyB_by {l : List Int} (h : isBy l) (h1 : 128 ≤ l.headD 0) : isBy (bodyB l) := by
  cases l with
  | nil => intro x hx; cases hx
  | cons x r =>
    intro y hy
    simp only [List.headD_cons] at h1
    have hx := h x List.mem_cons_self
    rw [bodyB] at hy
    rcases List.mem_cons.1 hy with rfl | hy
    · split <;> omega
    · exact h y (List.mem_cons_of_mem _ hy)
theorem bodyB_len (l : List Int) : (bodyB l).length = l.length := by cases l <;> rfl
/-- Number -/
def numN (oct : List Int → Int × Int) (l : List Int) : Int × Int := if 0 < l.length ∧ 128 ≤ l.headD 0 then binN l else oct l
end Go.Proofs.YthflafgijfbpnaaDoor.S12

/-
  Bits of bytes.
-/
set_option linter.unusedVariables false
set_option linter.unusedSimpArgs false
namespace Go.Proofs.YthflafgijfbpnaaDoor.S12
open Go Go.RowKit Go.Proofs.YthflafgijfbpnaaDoor.Sep Go.Proofs.YthflafgijfbpnaaDoor.Lib

theorem every_byte {p : Int → Bool} (h : ((List.range 256).all fun n => p (n : Nat)) = true) {x : Int} (hx : 0 ≤ x ∧ x < 256) : p x = true := by
  have := List.all_eq_true.1 h x.toNat (List.mem_range.2 (by omega))
  rwa [Int.toNat_of_nonneg hx.1] at this
theorem and128 {x : Int} (hx : 0 ≤ x ∧ x < 256) : Go.bits .and .u8 x 128 = if 128 ≤ x then 128 else 0 := by
  have := every_byte (p := fun x => decide (Go.bits .and .u8 x 128 = if 128 ≤ x then 128 else 0)) (by decide +kernel) hx
  simpa using this
theorem and64 {x : Int} (hx : 0 ≤ x ∧ x < 256) : Go.bits .and .u8 x 64 = if 64 ≤ x % 128 then 64 else 0 := by
  have := every_byte (p := fun x => decide (Go.bits .and .u8 x 64 = if 64 ≤ x % 128 then 64 else 0)) (by decide +kernel) hx
  simpa using this
theorem andn128 {x : Int} (hx : 0 ≤ x ∧ x < 256) : Go.bits .andNot .u8 x 128 = x % 128 := by
  have := every_byte (p := fun x => decide (Go.bits .andNot .u8 x 128 = x % 128)) (by decide +kernel) hx
  simpa using this
theorem or0 {x : Int} (hx : 0 ≤ x ∧ x < 256) : Go.bits .or .u8 x 0 = x := by
  have := every_byte (p := fun x => decide (Go.bits .or .u8 x 0 = x)) (by decide +kernel) hx
  simpa using this
theorem or128 {x : Int} (hx : 0 ≤ x ∧ x < 256) : Go.bits .or .u8 x 128 = x % 128 + 128 := by
  have := every_byte (p := fun x => decide (Go.bits .or .u8 x 128 = x % 128 + 128)) (by decide +kernel) hx
  simpa using this
theorem xor0 {x : Int} (hx : 0 ≤ x ∧ x < 256) : Go.bits .and .u8 (Go.bits .xor .u8 x 0) 128 = if 128 ≤ x then 128 else 0 := by
  have := every_byte (p := fun x => decide (Go.bits .and .u8 (Go.bits .xor .u8 x 0) 128 = if 128 ≤ x then 128 else 0)) (by decide +kernel) hx
  simpa using this
theorem xor255 {x : Int} (hx : 0 ≤ x ∧ x < 256) : Go.bits .and .u8 (Go.bits .xor .u8 x 255) 128 = if 128 ≤ x then 0 else 128 := by
  have := every_byte (p := fun x => decide (Go.bits .and .u8 (Go.bits .xor .u8 x 255) 128 = if 128 ≤ x then 0 else 128)) (by decide +kernel) hx
  simpa using this
theorem or_step {n x : Int} (hx : 0 ≤ x ∧ x < 256) (hf : fits64 (n * 256 + x)) : Go.bits .or .i64 (IntKind.i64.wrap (n * 2 ^ min (8 : Int).toNat 64)) x = n * 256 + x := by
  simp only [fits64, lo64, hi64] at hf
  have e8 : (2 : Int) ^ min (8 : Int).toNat 64 = 256 := by decide
  rw [e8, w_i64 (by omega)]
  have hb : ∀ a b : Int, Go.bits .or .i64 a b = IntKind.i64.wrap ((BitVec.ofInt 64 a ||| BitVec.ofInt 64 b).toNat : Nat) := fun a b => rfl
  rw [hb, BitVec.toNat_or, BitVec.toNat_ofInt, BitVec.toNat_ofInt]
  have h64 : ((2 ^ 64 : Nat) : Int) = 18446744073709551616 := by decide
  rw [h64]
  have hk : (n * 256 % 18446744073709551616).toNat = (n % 72057594037927936).toNat <<< 8 := by
    rw [Nat.shiftLeft_eq, show (2 ^ 8 : Nat) = 256 from rfl]
    omega
  have hxx : (x % 18446744073709551616).toNat = x.toNat := by omega
  rw [hk, hxx, ← Nat.shiftLeft_add_eq_or_of_lt (by omega : x.toNat < 2 ^ 8), Nat.shiftLeft_eq, show (2 ^ 8 : Nat) = 256 from rfl]
  unfold IntKind.wrap IntKind.bits IntKind.signed
  have e1 : (2 ^ 64 : Int) = 18446744073709551616 := by decide
  have e2 : (2 ^ (64 - 1) : Int) = 9223372036854775808 := by decide
  simp only [Bool.true_and, decide_eq_true_eq, e1, e2]
  split <;> omega
end Go.Proofs.YthflafgijfbpnaaDoor.S12

/-
  Binary of the code.
-/
set_option linter.unusedVariables false
set_option linter.unusedSimpArgs false
namespace Go.Proofs.YthflafgijfbpnaaDoor.S12
open Go Go.RowKit Go.Proofs.YthflafgijfbpnaaDoor.Sep Go.Proofs.YthflafgijfbpnaaDoor.Low Go.Proofs.YthflafgijfbpnaaDoor.Lib

theorem head_at {l : List Int} (h : 0 < l.length) : l.headD 0 = l[0] := by cases l with | nil => simp at h | cons x r => rfl
theorem body_at {l : List Int} (h : 0 < (bodyB l).length) : (bodyB l)[0] = if 64 ≤ l.headD 0 % 128 then l.headD 0 else l.headD 0 - 128 := by cases l with | nil => simp [bodyB] at h | cons x r => rfl
abbrev fillB (s : Int) : Int := if s = 0 then 0 else 255
set_option maxHeartbeats 2000000 in
theorem bin_in {H : Heap} {A : Option Addr} {c m i : Nat} {n s y : Int} {env : Env} {Q : Post} {QP : List PanicEntry → Heap → Prop} (hi : i < m) (hm : m ≤ 1125899906842624) (hs : s = 0 ∨ s = -1) (hy : 0 ≤ y ∧ y < 256) (hM : Mid s n (m - i))
    (h0 : env 0 = .slice A m c) (h4 : env 4 = .int .i64 n) (h5 : env 5 = .int .u8 (fillB s)) (h6 : env 6 = .int .i64 i) (h7 : env 7 = .int .u8 y)
    (hbig : (8 < m - i ∧ y ≠ fillB s) ∨ (m - i = 8 ∧ ((s = 0 ∧ 128 ≤ y) ∨ (s = -1 ∧ y < 128))) → ∀ env' : Env, env' 2 = .int .i64 0 → env' 3 = .int .i64 121 → Q .ret env' H)
    (hok : Mid s (n * 256 + y) (m - i - 1) → ∀ env' : Env, env' 0 = env 0 → env' 5 = env 5 → env' 4 = .int .i64 (n * 256 + y) → env' 23 = env 23 → env' 24 = env 24 → env' 25 = env 25 → Q .normal env' H) : awpC Tryd.prog L48_0 Q QP env H := by
  unfold L48_0
  have last : ∀ (hc9 : 8 ≤ m - i - 1 → y = fillB s) (hc8 : m - i - 1 = 7 → ¬ ((s = 0 ∧ 128 ≤ y) ∨ (s = -1 ∧ y < 128))), Mid s (n * 256 + y) (m - i - 1) := fun hc9 hc8 => mid_step hs hy (by rw [show m - i - 1 + 1 = m - i by omega]; exact hM) hc9 hc8
  have hor : ∀ h : Mid s (n * 256 + y) (m - i - 1), Go.bits .or .i64 (IntKind.i64.wrap (n * 2 ^ min (8 : Int).toNat 64)) y = n * 256 + y := fun h => or_step hy (mid_fits hs h)
  by_cases h9 : 8 < m - i
  · have f0 : decide ((8 : Int) < (m : Int) - (i : Int)) = true := decide_eq_true (by omega)
    have f1 : ((m : Int) - (i : Int) == 8) = false := by rw [beq_eq_false_iff_ne]; omega
    by_cases hf : y = fillB s
    · have f2 : (y != fillB s) = false := by rw [bne_eq_false_iff_eq]; exact hf
      have hl := last (fun _ => hf) (fun h => by omega)
      have ho := hor hl
      simp -implicitDefEqProofs (maxSteps := 1000000) (disch := first | omega | assumption) only [h0, h4, h5, h6, h7, f0, f1, f2, v_shl, ho, bits_i64, Sx, reduceIte, Nat.reduceEqDiff, reduceCtorEq, Nat.reduceAdd, Nat.reduceSub, Nat.reduceLT, decide_true, decide_false, Bool.not_true, Bool.not_false, Int.toNat_one, Int.toNat_zero, Nat.zero_mul, l_g, endK, gd_u]
      exact hok hl _ (by simp -implicitDefEqProofs (maxSteps := 1000000) (disch := first | omega | assumption) only [h0, Sx, reduceIte, Nat.reduceEqDiff, reduceCtorEq, Nat.reduceAdd, Nat.reduceSub, Nat.reduceLT]) (by simp -implicitDefEqProofs (maxSteps := 1000000) (disch := first | omega | assumption) only [h5, Sx, reduceIte, Nat.reduceEqDiff, reduceCtorEq, Nat.reduceAdd, Nat.reduceSub, Nat.reduceLT]) (by simp -implicitDefEqProofs (maxSteps := 1000000) (disch := first | omega | assumption) only [Sx, reduceIte, Nat.reduceEqDiff, reduceCtorEq, Nat.reduceAdd, Nat.reduceSub, Nat.reduceLT]) (by simp -implicitDefEqProofs (maxSteps := 1000000) (disch := first | omega | assumption) only [Sx, reduceIte, Nat.reduceEqDiff, reduceCtorEq, Nat.reduceAdd, Nat.reduceSub, Nat.reduceLT]) (by simp -implicitDefEqProofs (maxSteps := 1000000) (disch := first | omega | assumption) only [Sx, reduceIte, Nat.reduceEqDiff, reduceCtorEq, Nat.reduceAdd, Nat.reduceSub, Nat.reduceLT]) (by simp -implicitDefEqProofs (maxSteps := 1000000) (disch := first | omega | assumption) only [Sx, reduceIte, Nat.reduceEqDiff, reduceCtorEq, Nat.reduceAdd, Nat.reduceSub, Nat.reduceLT])
    · have f2 : (y != fillB s) = true := by rw [bne_iff_ne]; exact hf
      simp -implicitDefEqProofs (maxSteps := 1000000) (disch := first | omega | assumption) only [h0, h4, h5, h6, h7, f0, f1, f2, Sx, reduceIte, Nat.reduceEqDiff, reduceCtorEq, Nat.reduceAdd, Nat.reduceSub, Nat.reduceLT, decide_true, decide_false, Bool.not_true, Bool.not_false, Int.toNat_one, Int.toNat_zero, Nat.zero_mul, l_g, endK, gd_u]
      exact hbig (.inl ⟨h9, hf⟩) _ (by simp -implicitDefEqProofs (maxSteps := 1000000) (disch := first | omega | assumption) only [Sx, reduceIte, Nat.reduceEqDiff, reduceCtorEq, Nat.reduceAdd, Nat.reduceSub, Nat.reduceLT]) (by simp -implicitDefEqProofs (maxSteps := 1000000) (disch := first | omega | assumption) only [Sx, reduceIte, Nat.reduceEqDiff, reduceCtorEq, Nat.reduceAdd, Nat.reduceSub, Nat.reduceLT])
  · have f0 : decide ((8 : Int) < (m : Int) - (i : Int)) = false := decide_eq_false (by omega)
    by_cases h8 : m - i = 8
    · have f1 : ((m : Int) - (i : Int) == 8) = true := by rw [beq_iff_eq]; omega
      have hxor : Go.bits .and .u8 (Go.bits .xor .u8 y (fillB s)) 128 = if ((s = 0 ∧ 128 ≤ y) ∨ (s = -1 ∧ y < 128)) then 128 else 0 := by
        rcases hs with rfl | rfl
        · rw [show fillB 0 = 0 from rfl, xor0 hy]
          by_cases h : 128 ≤ y <;> simp [h]
        · rw [show fillB (-1) = 255 from rfl, xor255 hy]
          by_cases h : 128 ≤ y
          · rw [if_pos h, if_neg (by omega)]
          · rw [if_neg h, if_pos (by omega)]
      by_cases hb : (s = 0 ∧ 128 ≤ y) ∨ (s = -1 ∧ y < 128)
      · rw [if_pos hb] at hxor
        have f2 : ((128 : Int) != 0) = true := rfl
        simp -implicitDefEqProofs (maxSteps := 1000000) (disch := first | omega | assumption) only [h0, h4, h5, h6, h7, f0, f1, hxor, f2, Sx, reduceIte, Nat.reduceEqDiff, reduceCtorEq, Nat.reduceAdd, Nat.reduceSub, Nat.reduceLT, decide_true, decide_false, Bool.not_true, Bool.not_false, Int.toNat_one, Int.toNat_zero, Nat.zero_mul, l_g, endK, gd_u]
        exact hbig (.inr ⟨h8, hb⟩) _ (by simp -implicitDefEqProofs (maxSteps := 1000000) (disch := first | omega | assumption) only [Sx, reduceIte, Nat.reduceEqDiff, reduceCtorEq, Nat.reduceAdd, Nat.reduceSub, Nat.reduceLT]) (by simp -implicitDefEqProofs (maxSteps := 1000000) (disch := first | omega | assumption) only [Sx, reduceIte, Nat.reduceEqDiff, reduceCtorEq, Nat.reduceAdd, Nat.reduceSub, Nat.reduceLT])
      · rw [if_neg hb] at hxor
        have f2 : ((0 : Int) != 0) = false := rfl
        have hl := last (fun h => by omega) (fun _ => hb)
        have ho := hor hl
        simp -implicitDefEqProofs (maxSteps := 1000000) (disch := first | omega | assumption) only [h0, h4, h5, h6, h7, f0, f1, hxor, f2, v_shl, ho, bits_i64, Sx, reduceIte, Nat.reduceEqDiff, reduceCtorEq, Nat.reduceAdd, Nat.reduceSub, Nat.reduceLT, decide_true, decide_false, Bool.not_true, Bool.not_false, Int.toNat_one, Int.toNat_zero, Nat.zero_mul, l_g, endK, gd_u]
        exact hok hl _ (by simp -implicitDefEqProofs (maxSteps := 1000000) (disch := first | omega | assumption) only [h0, Sx, reduceIte, Nat.reduceEqDiff, reduceCtorEq, Nat.reduceAdd, Nat.reduceSub, Nat.reduceLT]) (by simp -implicitDefEqProofs (maxSteps := 1000000) (disch := first | omega | assumption) only [h5, Sx, reduceIte, Nat.reduceEqDiff, reduceCtorEq, Nat.reduceAdd, Nat.reduceSub, Nat.reduceLT]) (by simp -implicitDefEqProofs (maxSteps := 1000000) (disch := first | omega | assumption) only [Sx, reduceIte, Nat.reduceEqDiff, reduceCtorEq, Nat.reduceAdd, Nat.reduceSub, Nat.reduceLT]) (by simp -implicitDefEqProofs (maxSteps := 1000000) (disch := first | omega | assumption) only [Sx, reduceIte, Nat.reduceEqDiff, reduceCtorEq, Nat.reduceAdd, Nat.reduceSub, Nat.reduceLT]) (by simp -implicitDefEqProofs (maxSteps := 1000000) (disch := first | omega | assumption) only [Sx, reduceIte, Nat.reduceEqDiff, reduceCtorEq, Nat.reduceAdd, Nat.reduceSub, Nat.reduceLT]) (by simp -implicitDefEqProofs (maxSteps := 1000000) (disch := first | omega | assumption) only [Sx, reduceIte, Nat.reduceEqDiff, reduceCtorEq, Nat.reduceAdd, Nat.reduceSub, Nat.reduceLT])
    · have f1 : ((m : Int) - (i : Int) == 8) = false := by rw [beq_eq_false_iff_ne]; omega
      have hl := last (fun h => by omega) (fun h => by omega)
      have ho := hor hl
      simp -implicitDefEqProofs (maxSteps := 1000000) (disch := first | omega | assumption) only [h0, h4, h5, h6, h7, f0, f1, v_shl, ho, bits_i64, Sx, reduceIte, Nat.reduceEqDiff, reduceCtorEq, Nat.reduceAdd, Nat.reduceSub, Nat.reduceLT, decide_true, decide_false, Bool.not_true, Bool.not_false, Int.toNat_one, Int.toNat_zero, Nat.zero_mul, l_g, endK, gd_u]
      exact hok hl _ (by simp -implicitDefEqProofs (maxSteps := 1000000) (disch := first | omega | assumption) only [h0, Sx, reduceIte, Nat.reduceEqDiff, reduceCtorEq, Nat.reduceAdd, Nat.reduceSub, Nat.reduceLT]) (by simp -implicitDefEqProofs (maxSteps := 1000000) (disch := first | omega | assumption) only [h5, Sx, reduceIte, Nat.reduceEqDiff, reduceCtorEq, Nat.reduceAdd, Nat.reduceSub, Nat.reduceLT]) (by simp -implicitDefEqProofs (maxSteps := 1000000) (disch := first | omega | assumption) only [Sx, reduceIte, Nat.reduceEqDiff, reduceCtorEq, Nat.reduceAdd, Nat.reduceSub, Nat.reduceLT]) (by simp -implicitDefEqProofs (maxSteps := 1000000) (disch := first | omega | assumption) only [Sx, reduceIte, Nat.reduceEqDiff, reduceCtorEq, Nat.reduceAdd, Nat.reduceSub, Nat.reduceLT]) (by simp -implicitDefEqProofs (maxSteps := 1000000) (disch := first | omega | assumption) only [Sx, reduceIte, Nat.reduceEqDiff, reduceCtorEq, Nat.reduceAdd, Nat.reduceSub, Nat.reduceLT]) (by simp -implicitDefEqProofs (maxSteps := 1000000) (disch := first | omega | assumption) only [Sx, reduceIte, Nat.reduceEqDiff, reduceCtorEq, Nat.reduceAdd, Nat.reduceSub, Nat.reduceLT])

set_option maxHeartbeats 4000000 in
theorem bin_3 {H : Heap} {A : Option Addr} {c : Nat} {l : List Int} {env : Env} {Q : Post} {QP : List PanicEntry → Heap → Prop} (hr : Row H A (by8 l)) (hb : isBy l) (hl : l.length ≤ 1125899906842624) (h2 : 2 ≤ l.length) (h128 : 128 ≤ l.headD 0)
    (h0 : env 0 = .slice A l.length c) (h4 : env 4 = .int .i64 (signB l)) (h5 : env 5 = .int .u8 (fillB (signB l)))
    (hq : ∀ env', env' 2 = .int .i64 (binN l).1 → env' 3 = .int .i64 (binN l).2 → Q .ret env' H) : awpC Tryd.prog L48_3 Q QP env H := by
  unfold L48_3
  have hbb := bodyB_by hb h128
  have hbl := bodyB_len l
  have hs := sign_cases l
  have hbin : binN l = if fits64 (binV l) then (binV l, 0) else (0, 121) := by unfold binN; rw [if_neg (by omega)]
  simp -implicitDefEqProofs (maxSteps := 1000000) (disch := first | omega | assumption) only [h0, h4, h5, Sx, reduceIte, Nat.reduceEqDiff, reduceCtorEq, Nat.reduceAdd, Nat.reduceSub, Nat.reduceLT]
  refine c_loop (fun k env H' => H' = H ∧ ∃ (i : Nat) (n : Int), k + i = l.length ∧ env 0 = .slice A l.length c ∧ env 23 = .slice A l.length c ∧ env 24 = .int .i64 l.length ∧ env 25 = .int .i64 i ∧ env 4 = .int .i64 n ∧ env 5 = .int .u8 (fillB (signB l)) ∧ Mid (signB l) n (l.length - i) ∧ bv n ((bodyB l).drop i) = binV l) l.length
    ⟨rfl, 0, signB l, by omega, by simp -implicitDefEqProofs (maxSteps := 1000000) (disch := first | omega | assumption) only [h0, Sx, reduceIte, Nat.reduceEqDiff, reduceCtorEq, Nat.reduceAdd, Nat.reduceSub, Nat.reduceLT], by simp -implicitDefEqProofs (maxSteps := 1000000) (disch := first | omega | assumption) only [Sx, reduceIte, Nat.reduceEqDiff, reduceCtorEq, Nat.reduceAdd, Nat.reduceSub, Nat.reduceLT], by simp -implicitDefEqProofs (maxSteps := 1000000) (disch := first | omega | assumption) only [Sx, reduceIte, Nat.reduceEqDiff, reduceCtorEq, Nat.reduceAdd, Nat.reduceSub, Nat.reduceLT], by simp -implicitDefEqProofs (maxSteps := 1000000) (disch := first | omega | assumption) only [Sx, reduceIte, Nat.reduceEqDiff, reduceCtorEq, Nat.reduceAdd, Nat.reduceSub, Nat.reduceLT]; rfl, by simp -implicitDefEqProofs (maxSteps := 1000000) (disch := first | omega | assumption) only [h4, Sx, reduceIte, Nat.reduceEqDiff, reduceCtorEq, Nat.reduceAdd, Nat.reduceSub, Nat.reduceLT], by simp -implicitDefEqProofs (maxSteps := 1000000) (disch := first | omega | assumption) only [h5, Sx, reduceIte, Nat.reduceEqDiff, reduceCtorEq, Nat.reduceAdd, Nat.reduceSub, Nat.reduceLT], mid_first hs, rfl⟩ ?_
  rintro k env H1 ⟨rfl, i, n, hk, g0, g23, g24, g25, g4, g5, hM, hv⟩
  unfold L48_2
  by_cases hi : i < l.length
  · have f0 : decide ((i : Int) < (l.length : Int)) = true := decide_eq_true (by omega)
    obtain ⟨b, rfl, hx⟩ := by_at hr hi
    have hib : i < (bodyB l).length := by omega
    have hyb := hbb.at hib
    have hdrop := List.drop_eq_getElem_cons hib
    have hrest : isBy ((bodyB l).drop (i + 1)) := hbb.drop _
    have hrl : ((bodyB l).drop (i + 1)).length = l.length - i - 1 := by rw [List.length_drop, hbl]; omega
    rw [hdrop] at hv
    -- the round, from the byte on
    have round : ∀ env2 : Env, env2 0 = .slice (some b) l.length c → env2 23 = .slice (some b) l.length c → env2 24 = .int .i64 l.length → env2 25 = .int .i64 i → env2 4 = .int .i64 n → env2 5 = .int .u8 (fillB (signB l)) → env2 6 = .int .i64 i → env2 7 = .int .u8 ((bodyB l)[i]) →
        ∀ (Q2 : Post) (QP2 : List PanicEntry → Heap → Prop), (∀ env', env' 2 = .int .i64 (binN l).1 → env' 3 = .int .i64 (binN l).2 → Q2 .ret env' H1) →
        (∀ env', env' 0 = .slice (some b) l.length c → env' 23 = .slice (some b) l.length c → env' 24 = .int .i64 l.length → env' 25 = .int .i64 i → env' 4 = .int .i64 (n * 256 + (bodyB l)[i]) → env' 5 = .int .u8 (fillB (signB l)) → Mid (signB l) (n * 256 + (bodyB l)[i]) (l.length - i - 1) → Q2 .normal env' H1) →
        awpC Tryd.prog L48_0 Q2 QP2 env2 H1 := by
      intro env2 e0 e23 e24 e25 e4 e5 e6 e7 Q2 QP2 hq1 hq2
      refine bin_in hi hl hs hyb hM e0 e4 e5 e6 e7 ?_ ?_
      · intro hbad env' d2 d3
        have hnf : ¬ fits64 (binV l) := by
          rw [← hv]
          have hn : n = signB l := hM.1 (by omega)
          rw [hn]
          rcases hbad with ⟨h9, hne⟩ | ⟨h8, hne⟩
          · exact far_big hs hyb hne hrest (by omega)
          · exact top_big hs hyb hne hrest (by omega)
        refine hq1 env' ?_ ?_
        · rw [hbin, if_neg hnf]; exact d2
        · rw [hbin, if_neg hnf]; exact d3
      · intro hM2 env' d0 d5 d4 d23 d24 d25
        exact hq2 env' (d0.trans e0) (d23.trans e23) (d24.trans e24) (d25.trans e25) d4 (d5.trans e5) hM2
    have next : ∀ env', env' 0 = .slice (some b) l.length c → env' 23 = .slice (some b) l.length c → env' 24 = .int .i64 l.length → env' 25 = .int .i64 i → env' 4 = .int .i64 (n * 256 + (bodyB l)[i]) → env' 5 = .int .u8 (fillB (signB l)) → Mid (signB l) (n * 256 + (bodyB l)[i]) (l.length - i - 1) →
        ∀ (Q2 : Post) (QP2 : List PanicEntry → Heap → Prop), (∀ env3, (H1 = H1 ∧ ∃ (i : Nat) (n : Int), k - 1 + i = l.length ∧ env3 0 = .slice (some b) l.length c ∧ env3 23 = .slice (some b) l.length c ∧ env3 24 = .int .i64 l.length ∧ env3 25 = .int .i64 i ∧ env3 4 = .int .i64 n ∧ env3 5 = .int .u8 (fillB (signB l)) ∧ Mid (signB l) n (l.length - i) ∧ bv n ((bodyB l).drop i) = binV l) → Q2 .normal env3 H1) →
        awpC Tryd.prog L48_1 Q2 QP2 env' H1 := by
      intro env' e0 e23 e24 e25 e4 e5 hM2 Q2 QP2 hq2
      unfold L48_1
      simp -implicitDefEqProofs (maxSteps := 1000000) (disch := first | omega | assumption) only [e0, e23, e24, e25, e4, e5, Sx, reduceIte, Nat.reduceEqDiff, reduceCtorEq, Nat.reduceAdd, Nat.reduceSub, Nat.reduceLT]
      refine hq2 _ ⟨rfl, i + 1, n * 256 + (bodyB l)[i], by omega, by simp -implicitDefEqProofs (maxSteps := 1000000) (disch := first | omega | assumption) only [e0, Sx, reduceIte, Nat.reduceEqDiff, reduceCtorEq, Nat.reduceAdd, Nat.reduceSub, Nat.reduceLT], by simp -implicitDefEqProofs (maxSteps := 1000000) (disch := first | omega | assumption) only [e23, Sx, reduceIte, Nat.reduceEqDiff, reduceCtorEq, Nat.reduceAdd, Nat.reduceSub, Nat.reduceLT], by simp -implicitDefEqProofs (maxSteps := 1000000) (disch := first | omega | assumption) only [e24, Sx, reduceIte, Nat.reduceEqDiff, reduceCtorEq, Nat.reduceAdd, Nat.reduceSub, Nat.reduceLT], by simp -implicitDefEqProofs (maxSteps := 1000000) (disch := first | omega | assumption) only [Int.natCast_add, Int.natCast_one, Sx, reduceIte, Nat.reduceEqDiff, reduceCtorEq, Nat.reduceAdd, Nat.reduceSub, Nat.reduceLT], by simp -implicitDefEqProofs (maxSteps := 1000000) (disch := first | omega | assumption) only [e4, Sx, reduceIte, Nat.reduceEqDiff, reduceCtorEq, Nat.reduceAdd, Nat.reduceSub, Nat.reduceLT], by simp -implicitDefEqProofs (maxSteps := 1000000) (disch := first | omega | assumption) only [e5, Sx, reduceIte, Nat.reduceEqDiff, reduceCtorEq, Nat.reduceAdd, Nat.reduceSub, Nat.reduceLT], ?_, hv⟩
      rw [show l.length - (i + 1) = l.length - i - 1 by omega]
      exact hM2
    by_cases hi0 : i = 0
    · subst hi0
      have f1 : (((0 : Nat) : Int) == 0) = true := rfl
      have hhd := head_at hi
      rw [← hhd, add_zero_a] at hx
      have hx0 := hb.at hi
      rw [← hhd] at hx0
      have hfirst : Go.bits .or .u8 (Go.bits .andNot .u8 (l.headD 0) 128) (Go.bits .and .u8 (fillB (signB l)) 128) = (bodyB l)[0] := by
        rw [body_at hib, andn128 hx0]
        unfold signB
        by_cases h64 : 64 ≤ l.headD 0 % 128
        · rw [if_pos h64, if_pos h64, show Go.bits .and .u8 (fillB (-1)) 128 = 128 from by decide, or128 (by omega)]
          omega
        · rw [if_neg h64, if_neg h64, show Go.bits .and .u8 (fillB 0) 128 = 0 from by decide, or0 (by omega)]
          omega
      simp -implicitDefEqProofs (maxSteps := 1000000) (disch := first | omega | assumption) only [g0, g23, g24, g25, g4, g5, f0, f1, hx, v_andNot, hfirst, Sx, reduceIte, Nat.reduceEqDiff, reduceCtorEq, Nat.reduceAdd, Nat.reduceSub, Nat.reduceLT, decide_true, decide_false, Bool.not_true, Bool.not_false, Int.toNat_one, Int.toNat_zero, Nat.zero_mul, l_g, endK, gd_u]
      refine round _ (by simp -implicitDefEqProofs (maxSteps := 1000000) (disch := first | omega | assumption) only [g0, Sx, reduceIte, Nat.reduceEqDiff, reduceCtorEq, Nat.reduceAdd, Nat.reduceSub, Nat.reduceLT]) (by simp -implicitDefEqProofs (maxSteps := 1000000) (disch := first | omega | assumption) only [g23, Sx, reduceIte, Nat.reduceEqDiff, reduceCtorEq, Nat.reduceAdd, Nat.reduceSub, Nat.reduceLT]) (by simp -implicitDefEqProofs (maxSteps := 1000000) (disch := first | omega | assumption) only [g24, Sx, reduceIte, Nat.reduceEqDiff, reduceCtorEq, Nat.reduceAdd, Nat.reduceSub, Nat.reduceLT]) (by simp -implicitDefEqProofs (maxSteps := 1000000) (disch := first | omega | assumption) only [g25, Sx, reduceIte, Nat.reduceEqDiff, reduceCtorEq, Nat.reduceAdd, Nat.reduceSub, Nat.reduceLT]) (by simp -implicitDefEqProofs (maxSteps := 1000000) (disch := first | omega | assumption) only [g4, Sx, reduceIte, Nat.reduceEqDiff, reduceCtorEq, Nat.reduceAdd, Nat.reduceSub, Nat.reduceLT]) (by simp -implicitDefEqProofs (maxSteps := 1000000) (disch := first | omega | assumption) only [g5, Sx, reduceIte, Nat.reduceEqDiff, reduceCtorEq, Nat.reduceAdd, Nat.reduceSub, Nat.reduceLT]) (by simp -implicitDefEqProofs (maxSteps := 1000000) (disch := first | omega | assumption) only [Sx, reduceIte, Nat.reduceEqDiff, reduceCtorEq, Nat.reduceAdd, Nat.reduceSub, Nat.reduceLT]) (by simp -implicitDefEqProofs (maxSteps := 1000000) (disch := first | omega | assumption) only [Sx, reduceIte, Nat.reduceEqDiff, reduceCtorEq, Nat.reduceAdd, Nat.reduceSub, Nat.reduceLT]) _ _ ?_ ?_
      · intro env' d2 d3
        exact hq env' d2 d3
      · intro env' d0 d23 d24 d25 d4 d5 hM2
        refine next env' d0 d23 d24 d25 d4 d5 hM2 _ _ ?_
        intro env3 h3
        exact ⟨k - 1, by omega, h3⟩
    · have f1 : ((i : Int) == 0) = false := by rw [beq_eq_false_iff_ne]; omega
      have hget : (bodyB l)[i] = l[i] := by
        cases l with
        | nil => simp at hi
        | cons x r =>
          cases i with
          | zero => exact absurd rfl hi0
          | succ i => rfl
      rw [← hget] at hx
      simp -implicitDefEqProofs (maxSteps := 1000000) (disch := first | omega | assumption) only [g0, g23, g24, g25, g4, g5, f0, f1, hx, Sx, reduceIte, Nat.reduceEqDiff, reduceCtorEq, Nat.reduceAdd, Nat.reduceSub, Nat.reduceLT, decide_true, decide_false, Bool.not_true, Bool.not_false, Int.toNat_one, Int.toNat_zero, Nat.zero_mul, l_g, endK, gd_u]
      refine round _ (by simp -implicitDefEqProofs (maxSteps := 1000000) (disch := first | omega | assumption) only [g0, Sx, reduceIte, Nat.reduceEqDiff, reduceCtorEq, Nat.reduceAdd, Nat.reduceSub, Nat.reduceLT]) (by simp -implicitDefEqProofs (maxSteps := 1000000) (disch := first | omega | assumption) only [g23, Sx, reduceIte, Nat.reduceEqDiff, reduceCtorEq, Nat.reduceAdd, Nat.reduceSub, Nat.reduceLT]) (by simp -implicitDefEqProofs (maxSteps := 1000000) (disch := first | omega | assumption) only [g24, Sx, reduceIte, Nat.reduceEqDiff, reduceCtorEq, Nat.reduceAdd, Nat.reduceSub, Nat.reduceLT]) (by simp -implicitDefEqProofs (maxSteps := 1000000) (disch := first | omega | assumption) only [g25, Sx, reduceIte, Nat.reduceEqDiff, reduceCtorEq, Nat.reduceAdd, Nat.reduceSub, Nat.reduceLT]) (by simp -implicitDefEqProofs (maxSteps := 1000000) (disch := first | omega | assumption) only [g4, Sx, reduceIte, Nat.reduceEqDiff, reduceCtorEq, Nat.reduceAdd, Nat.reduceSub, Nat.reduceLT]) (by simp -implicitDefEqProofs (maxSteps := 1000000) (disch := first | omega | assumption) only [g5, Sx, reduceIte, Nat.reduceEqDiff, reduceCtorEq, Nat.reduceAdd, Nat.reduceSub, Nat.reduceLT]) (by simp -implicitDefEqProofs (maxSteps := 1000000) (disch := first | omega | assumption) only [Sx, reduceIte, Nat.reduceEqDiff, reduceCtorEq, Nat.reduceAdd, Nat.reduceSub, Nat.reduceLT]) (by simp -implicitDefEqProofs (maxSteps := 1000000) (disch := first | omega | assumption) only [Sx, reduceIte, Nat.reduceEqDiff, reduceCtorEq, Nat.reduceAdd, Nat.reduceSub, Nat.reduceLT]) _ _ ?_ ?_
      · intro env' d2 d3
        exact hq env' d2 d3
      · intro env' d0 d23 d24 d25 d4 d5 hM2
        refine next env' d0 d23 d24 d25 d4 d5 hM2 _ _ ?_
        intro env3 h3
        exact ⟨k - 1, by omega, h3⟩
  · have f0 : decide ((i : Int) < (l.length : Int)) = false := decide_eq_false (by omega)
    rw [List.drop_of_length_le (by omega), bv] at hv
    have hfit := mid_fits hs hM
    rw [hv] at hfit g4
    rw [hbin, if_pos hfit] at hq
    simp -implicitDefEqProofs (maxSteps := 1000000) (disch := first | omega | assumption) only [g0, g23, g24, g25, g4, g5, f0, Sx, reduceIte, Nat.reduceEqDiff, reduceCtorEq, Nat.reduceAdd, Nat.reduceSub, Nat.reduceLT]
    exact hq _ (by simp -implicitDefEqProofs (maxSteps := 1000000) (disch := first | omega | assumption) only [Sx, reduceIte, Nat.reduceEqDiff, reduceCtorEq, Nat.reduceAdd, Nat.reduceSub, Nat.reduceLT]) (by simp -implicitDefEqProofs (maxSteps := 1000000) (disch := first | omega | assumption) only [Sx, reduceIte, Nat.reduceEqDiff, reduceCtorEq, Nat.reduceAdd, Nat.reduceSub, Nat.reduceLT])
set_option maxHeartbeats 2000000 in
theorem binary_spec {H : Heap} {v : Value} {l : List Int} (hv : By H v l) (hb : isBy l) (hl : l.length ≤ 1125899906842624) :
    ACalls Tryd.prog 48 [v].toArray H fun e H' => e = .returned (.tuple #[.int .i64 (binN l).1, .int .i64 (binN l).2]) ∧ H' = H := by
  obtain ⟨A, c, rfl, hc, hr⟩ := hv
  refine call48 (Nat.le_of_ble_eq_true rfl) ?_
  unfold L48 env0
  by_cases h2 : l.length < 2
  · have f0 : decide ((l.length : Int) < 2) = true := decide_eq_true (by omega)
    have e : binN l = (0, 120) := by unfold binN; rw [if_pos (.inl h2)]
    rw [e]
    simp -implicitDefEqProofs (maxSteps := 1000000) (disch := first | omega | assumption) only [f0, Sx, reduceIte, Nat.reduceEqDiff, reduceCtorEq, Nat.reduceAdd, Nat.reduceSub, Nat.reduceLT, decide_true, decide_false, Bool.not_true, Bool.not_false, Int.toNat_one, Int.toNat_zero, Nat.zero_mul, l_g, endK, gd_u]
    exact ⟨by trivial, by trivial⟩
  · have f0 : decide ((l.length : Int) < 2) = false := decide_eq_false (by omega)
    obtain ⟨b, rfl, hx⟩ := by_at hr (i := 0) (by omega)
    rw [add_zero_a] at hx
    have hhd := head_at (l := l) (by omega)
    have hx0 := hb.at (i := 0) (by omega)
    rw [← hhd] at hx hx0
    have hin : (0 : Int) ≤ 0 ∧ (0 : Int) < (l.length : Int) := by omega
    have a1 := and128 hx0
    have a2 := and64 hx0
    by_cases h128 : 128 ≤ l.headD 0
    · rw [if_pos h128] at a1
      have f1 : ((128 : Int) == 0) = false := rfl
      by_cases h64 : 64 ≤ l.headD 0 % 128
      · rw [if_pos h64] at a2
        have f2 : ((64 : Int) != 0) = true := rfl
        have hs : signB l = -1 := by unfold signB; rw [if_pos h64]
        simp -implicitDefEqProofs (maxSteps := 1000000) (disch := first | omega | assumption) only [f0, hx, a1, f1, a2, f2, Sx, reduceIte, Nat.reduceEqDiff, reduceCtorEq, Nat.reduceAdd, Nat.reduceSub, Nat.reduceLT, decide_true, decide_false, Bool.not_true, Bool.not_false, Int.toNat_one, Int.toNat_zero, Nat.zero_mul, l_g, endK, gd_u]
        refine bin_3 (c := c) hr hb hl (by omega) h128 (by simp -implicitDefEqProofs (maxSteps := 1000000) (disch := first | omega | assumption) only [Sx, reduceIte, Nat.reduceEqDiff, reduceCtorEq, Nat.reduceAdd, Nat.reduceSub, Nat.reduceLT]) (by rw [hs]; simp -implicitDefEqProofs (maxSteps := 1000000) (disch := first | omega | assumption) only [Sx, reduceIte, Nat.reduceEqDiff, reduceCtorEq, Nat.reduceAdd, Nat.reduceSub, Nat.reduceLT]) (by rw [hs]; simp -implicitDefEqProofs (maxSteps := 1000000) (disch := first | omega | assumption) only [Sx, reduceIte, Nat.reduceEqDiff, reduceCtorEq, Nat.reduceAdd, Nat.reduceSub, Nat.reduceLT]; rfl) ?_
        intro env' d2 d3
        simp -implicitDefEqProofs (maxSteps := 1000000) (disch := first | omega | assumption) only [d2, d3, Sx, reduceIte, Nat.reduceEqDiff, reduceCtorEq, Nat.reduceAdd, Nat.reduceSub, Nat.reduceLT]
        exact ⟨by trivial, by trivial⟩
      · rw [if_neg h64] at a2
        have f2 : ((0 : Int) != 0) = false := rfl
        have hs : signB l = 0 := by unfold signB; rw [if_neg h64]
        simp -implicitDefEqProofs (maxSteps := 1000000) (disch := first | omega | assumption) only [f0, hx, a1, f1, a2, f2, Sx, reduceIte, Nat.reduceEqDiff, reduceCtorEq, Nat.reduceAdd, Nat.reduceSub, Nat.reduceLT, decide_true, decide_false, Bool.not_true, Bool.not_false, Int.toNat_one, Int.toNat_zero, Nat.zero_mul, l_g, endK, gd_u]
        refine bin_3 (c := c) hr hb hl (by omega) h128 (by simp -implicitDefEqProofs (maxSteps := 1000000) (disch := first | omega | assumption) only [Sx, reduceIte, Nat.reduceEqDiff, reduceCtorEq, Nat.reduceAdd, Nat.reduceSub, Nat.reduceLT]) (by rw [hs]; simp -implicitDefEqProofs (maxSteps := 1000000) (disch := first | omega | assumption) only [Sx, reduceIte, Nat.reduceEqDiff, reduceCtorEq, Nat.reduceAdd, Nat.reduceSub, Nat.reduceLT]) (by rw [hs]; simp -implicitDefEqProofs (maxSteps := 1000000) (disch := first | omega | assumption) only [Sx, reduceIte, Nat.reduceEqDiff, reduceCtorEq, Nat.reduceAdd, Nat.reduceSub, Nat.reduceLT]; rfl) ?_
        intro env' d2 d3
        simp -implicitDefEqProofs (maxSteps := 1000000) (disch := first | omega | assumption) only [d2, d3, Sx, reduceIte, Nat.reduceEqDiff, reduceCtorEq, Nat.reduceAdd, Nat.reduceSub, Nat.reduceLT]
        exact ⟨by trivial, by trivial⟩
    · rw [if_neg h128] at a1
      have f1 : ((0 : Int) == 0) = true := rfl
      have e : binN l = (0, 120) := by unfold binN; rw [if_pos (.inr (by omega))]
      rw [e]
      simp -implicitDefEqProofs (maxSteps := 1000000) (disch := first | omega | assumption) only [f0, hx, a1, f1, Sx, reduceIte, Nat.reduceEqDiff, reduceCtorEq, Nat.reduceAdd, Nat.reduceSub, Nat.reduceLT, decide_true, decide_false, Bool.not_true, Bool.not_false, Int.toNat_one, Int.toNat_zero, Nat.zero_mul, l_g, endK, gd_u]
      exact ⟨by trivial, by trivial⟩
end Go.Proofs.YthflafgijfbpnaaDoor.S12

/-
  Binary of the document.
-/
set_option linter.unusedVariables false
set_option linter.unusedSimpArgs false
namespace Go.Proofs.YthflafgijfbpnaaDoor.S12
open Go Go.RowKit Go.Proofs.YthflafgijfbpnaaDoor.Sep Go.Proofs.YthflafgijfbpnaaDoor.Low Go.Proofs.YthflafgijfbpnaaDoor.Lib

theorem mid_run {s : Int} (hs : s = 0 ∨ s = -1) : ∀ (l : List Int) (n : Int), isBy l → l.length ≤ 7 → Mid s n l.length → fits64 (bv n l)
  | [], n, _, _, hM => mid_fits hs hM
  | x :: l, n, hb, hl, hM => by
    rw [bv]
    have hll : l.length ≤ 6 := by simpa using hl
    exact mid_run hs l _ (fun y hy => hb y (List.mem_cons_of_mem _ hy)) (by omega) (mid_step hs (hb x List.mem_cons_self) hM (fun h => by omega) (fun h => by omega))
theorem bv_fill {s : Int} (hs : s = 0 ∨ s = -1) (l : List Int) : bv s (fillB s :: l) = bv s l := by
  rw [bv]
  rcases hs with rfl | rfl <;> rfl
theorem fill_by {s : Int} (hs : s = 0 ∨ s = -1) : 0 ≤ fillB s ∧ fillB s < 256 := by rcases hs with rfl | rfl <;> decide
abbrev Bs (H : Heap) (v : Value) (l : List Int) : Prop := Own H 5 1 v (by8 l)
/-- a byte is put behind -/
theorem app_b1 {P : Program} {H : Heap} {v : Value} {l m : List Int} {y : Value} {KV : Value → Heap → Prop} {KP : List PanicEntry → Heap → Prop} (hO : Bs H v l) (hl : l.length + m.length ≤ 211106232532992) (h1 : By H y m)
    (hk : ∀ v' H', Bs H' v' (l ++ m) → Oth H v H' → Moved H v v' → KV v' H') : awpE P (.app 5 1 1 #[.int .u8 0]) [v, y] KV KP H := by
  obtain ⟨A, c, rfl, hc, hr⟩ := h1
  refine a_app (len := l.length) (m := m.length) (new := by8 m) hO (by simp) rfl (hr.cells (by simp)) (by simp) rfl (by omega) (by8_scalar m) (by omega) ?_
  intro v' H' h2 h3 h4
  refine hk v' H' ?_ h3 h4
  show Own H' _ 1 _ _
  rw [by8, List.map_append]
  exact h2
theorem lits_b1 {P : Program} {H : Heap} {x : Int} {KV : Value → Heap → Prop} {KP : List PanicEntry → Heap → Prop}
    (hk : ∀ r H', Bs H' (.slice (some ⟨r, 0, none⟩) 1 1) [x] → Keep H H' → H r = none → KV (.slice (some ⟨r, 0, none⟩) 1 1) H') : awpE P (.lits 5 #[.int .u8 0] 1 [(0, 1)]) [.int .u8 x] KV KP H :=
  a_lits (sz := 1) (cells := #[.int .u8 x]) rfl rfl fun r H' h1 h2 h3 => hk r H' h1 h2 h3
theorem lits_b0 {P : Program} {H : Heap} {KV : Value → Heap → Prop} {KP : List PanicEntry → Heap → Prop}
    (hk : ∀ r H', Bs H' (.slice (some ⟨r, 0, none⟩) 0 0) [] → Keep H H' → H r = none → KV (.slice (some ⟨r, 0, none⟩) 0 0) H') : awpE P (.lits 5 #[] 0 []) [] KV KP H :=
  a_lits (sz := 1) (cells := #[]) rfl rfl fun r H' h1 h2 h3 => hk r H' h1 h2 h3

set_option maxHeartbeats 2000000 in
/-- eight bytes as a number -/
theorem rbin_num {H : Heap} {A : Option Addr} {c : Nat} {l : List Int} {s : Int} {env : Env} {Q : Post} {QP : List PanicEntry → Heap → Prop} (hr : Row H A (by8 l)) (hb : isBy l) (hl : l.length = 8) (hs : s = 0 ∨ s = -1) (hf : fits64 (bv s l))
    (h5 : env 5 = .slice A 8 c) (hq : ∀ env', env' 2 = .int .i64 (bv s l) → env' 3 = .int .i64 0 → Q .ret env' H) : awpC Tryd.prog L52_9 Q QP env H := by
  unfold L52_9
  simp -implicitDefEqProofs (maxSteps := 1000000) (disch := first | omega | assumption) only [Sx, reduceIte, Nat.reduceEqDiff, reduceCtorEq, Nat.reduceAdd, Nat.reduceSub, Nat.reduceLT]
  refine c_loop (fun k env H' => H' = H ∧ ∃ (j : Nat) (n : Int), k + j = 8 ∧ env 5 = .slice A 8 c ∧ env 10 = .int .i64 j ∧ env 9 = .int .u64 n ∧ n = bv 0 (l.take j)) 8 ⟨rfl, 0, 0, by omega, by simp -implicitDefEqProofs (maxSteps := 1000000) (disch := first | omega | assumption) only [h5, Sx, reduceIte, Nat.reduceEqDiff, reduceCtorEq, Nat.reduceAdd, Nat.reduceSub, Nat.reduceLT], by simp -implicitDefEqProofs (maxSteps := 1000000) (disch := first | omega | assumption) only [Sx, reduceIte, Nat.reduceEqDiff, reduceCtorEq, Nat.reduceAdd, Nat.reduceSub, Nat.reduceLT]; rfl, by simp -implicitDefEqProofs (maxSteps := 1000000) (disch := first | omega | assumption) only [Sx, reduceIte, Nat.reduceEqDiff, reduceCtorEq, Nat.reduceAdd, Nat.reduceSub, Nat.reduceLT], rfl⟩ ?_
  rintro k env H1 ⟨rfl, j, n, hk, h5, h10, h9, hn⟩
  unfold L52_5
  by_cases hj : j < 8
  · have f0 : decide ((j : Int) < 8) = true := decide_eq_true (by omega)
    have hjl : j < l.length := by omega
    obtain ⟨b, rfl, hx⟩ := by_at hr hjl
    have hx0 := hb.at hjl
    have htk : bv 0 (l.take (j + 1)) = n * 256 + l[j] := by rw [List.take_succ_eq_append_getElem hjl, bv_app, ← hn]; rfl
    have hbn := bv_bnd (hb.take (j + 1))
    rw [htk] at hbn
    have hp : p256 (l.take (j + 1)).length ≤ 18446744073709551616 := by
      have : (l.take (j + 1)).length = j + 1 := by rw [List.length_take]; omega
      rw [this]
      match j, hj with
      | 0, _ | 1, _ | 2, _ | 3, _ | 4, _ | 5, _ | 6, _ | 7, _ => decide
    have hn0 : 0 ≤ n := by rw [hn]; exact (bv_bnd (hb.take j)).1
    generalize hxx : l[j] = x at hx hx0 htk hbn
    simp -implicitDefEqProofs (maxSteps := 1000000) (disch := first | omega | assumption) only [h5, h10, h9, f0, hx, w_u64, Sx, reduceIte, Nat.reduceEqDiff, reduceCtorEq, Nat.reduceAdd, Nat.reduceSub, Nat.reduceLT, decide_true, decide_false, Bool.not_true, Bool.not_false, Int.toNat_one, Int.toNat_zero, Nat.zero_mul, l_g, endK, gd_u]
    exact ⟨k - 1, by omega, by trivial, j + 1, _, by omega, by trivial, by simp -implicitDefEqProofs (maxSteps := 1000000) (disch := first | omega | assumption) only [Int.natCast_add, Int.natCast_one, Sx, reduceIte, Nat.reduceEqDiff, reduceCtorEq, Nat.reduceAdd, Nat.reduceSub, Nat.reduceLT], rfl, htk.symm⟩
  · have f0 : decide ((j : Int) < 8) = false := decide_eq_false (by omega)
    rw [List.take_of_length_le (by omega)] at hn
    have hbn := bv_bnd hb
    rw [hl, show p256 8 = 18446744073709551616 from rfl, ← hn] at hbn
    have hlin := bv_lin l s
    rw [hl, show p256 8 = 18446744073709551616 from rfl, ← hn] at hlin
    have hwrap : IntKind.i64.wrap n = bv s l := by
      simp only [fits64, lo64, hi64] at hf
      unfold IntKind.wrap IntKind.bits IntKind.signed
      have e1 : (2 ^ 64 : Int) = 18446744073709551616 := by decide
      have e2 : (2 ^ (64 - 1) : Int) = 9223372036854775808 := by decide
      simp only [Bool.true_and, decide_eq_true_eq, e1, e2]
      split <;> omega
    simp -implicitDefEqProofs (maxSteps := 1000000) (disch := first | omega | assumption) only [h5, h10, h9, f0, ev_cvi, hwrap, Sx, reduceIte, Nat.reduceEqDiff, reduceCtorEq, Nat.reduceAdd, Nat.reduceSub, Nat.reduceLT, decide_true, decide_false, Bool.not_true, Bool.not_false, Int.toNat_one, Int.toNat_zero, Nat.zero_mul, l_g, endK, gd_u]
    exact hq _ (by simp -implicitDefEqProofs (maxSteps := 1000000) (disch := first | omega | assumption) only [Sx, reduceIte, Nat.reduceEqDiff, reduceCtorEq, Nat.reduceAdd, Nat.reduceSub, Nat.reduceLT]) (by simp -implicitDefEqProofs (maxSteps := 1000000) (disch := first | omega | assumption) only [Sx, reduceIte, Nat.reduceEqDiff, reduceCtorEq, Nat.reduceAdd, Nat.reduceSub, Nat.reduceLT])
set_option maxHeartbeats 2000000 in
theorem rbin_top {H : Heap} {A : Option Addr} {c : Nat} {l : List Int} {s V : Int} {env : Env} {Q : Post} {QP : List PanicEntry → Heap → Prop} (hr : Row H A (by8 l)) (hb : isBy l) (hl : l.length = 8) (hs : s = 0 ∨ s = -1) (hv : bv s l = V)
    (h5 : env 5 = .slice A 8 c) (h4 : env 4 = .bool (decide (s = -1)))
    (hq : ∀ env', env' 2 = .int .i64 (if fits64 V then V else 0) → env' 3 = .int .i64 (if fits64 V then 0 else 121) → Q .ret env' H) : awpC Tryd.prog L52_65 Q QP env H := by
  unfold L52_65
  obtain ⟨b, rfl, hx⟩ := by_at hr (i := 0) (by omega)
  rw [add_zero_a] at hx
  have hx0 := hb.at (i := 0) (by omega)
  have hsplit : l = l[0] :: l.drop 1 := by rw [← List.drop_eq_getElem_cons (by omega), List.drop_zero]
  have hrest : isBy (l.drop 1) := hb.drop 1
  have hrl : (l.drop 1).length = 7 := by rw [List.length_drop]; omega
  have hin : (0 : Int) ≤ 0 ∧ (0 : Int) < ((8 : Nat) : Int) := by omega
  generalize hxx : l[0] = x at hx hx0 hsplit
  by_cases hbad : (s = 0 ∧ 128 ≤ x) ∨ (s = -1 ∧ x < 128)
  · have hnf : ¬ fits64 V := by rw [← hv, hsplit]; exact top_big hs hx0 hbad hrest hrl
    rw [if_neg hnf, if_neg hnf] at hq
    have f0 : ((decide (128 ≤ x) == decide (s = -1)) != true) = true := by
      rcases hbad with ⟨rfl, h⟩ | ⟨rfl, h⟩
      · simp [h]
      · have : ¬ 128 ≤ x := by omega
        simp [this]
    simp -implicitDefEqProofs (maxSteps := 1000000) (disch := first | omega | assumption) only [h5, h4, hx, ev_eqb, f0, Sx, reduceIte, Nat.reduceEqDiff, reduceCtorEq, Nat.reduceAdd, Nat.reduceSub, Nat.reduceLT, decide_true, decide_false, Bool.not_true, Bool.not_false, Int.toNat_one, Int.toNat_zero, Nat.zero_mul, l_g, endK, gd_u]
    exact hq _ (by simp -implicitDefEqProofs (maxSteps := 1000000) (disch := first | omega | assumption) only [Sx, reduceIte, Nat.reduceEqDiff, reduceCtorEq, Nat.reduceAdd, Nat.reduceSub, Nat.reduceLT]) (by simp -implicitDefEqProofs (maxSteps := 1000000) (disch := first | omega | assumption) only [Sx, reduceIte, Nat.reduceEqDiff, reduceCtorEq, Nat.reduceAdd, Nat.reduceSub, Nat.reduceLT])
  · have hfit : fits64 V := by
      rw [← hv, hsplit, bv]
      refine mid_run hs _ _ hrest (by omega) ?_
      rw [hrl]
      exact mid_step hs hx0 (mid_first hs) (fun h => by omega) (fun _ => hbad)
    rw [if_pos hfit, if_pos hfit] at hq
    have f0 : ((decide (128 ≤ x) == decide (s = -1)) != true) = false := by
      rcases hs with rfl | rfl
      · have : ¬ 128 ≤ x := fun h => hbad (.inl ⟨rfl, h⟩)
        simp [this]
      · have : 128 ≤ x := Decidable.byContradiction fun h => hbad (.inr ⟨rfl, by omega⟩)
        simp [this]
    simp -implicitDefEqProofs (maxSteps := 1000000) (disch := first | omega | assumption) only [h5, h4, hx, ev_eqb, f0, Sx, reduceIte, Nat.reduceEqDiff, reduceCtorEq, Nat.reduceAdd, Nat.reduceSub, Nat.reduceLT, decide_true, decide_false, Bool.not_true, Bool.not_false, Int.toNat_one, Int.toNat_zero, Nat.zero_mul, l_g, endK, gd_u]
    refine rbin_num (c := c) hr hb hl hs (by rw [hv]; exact hfit) (by simp -implicitDefEqProofs (maxSteps := 1000000) (disch := first | omega | assumption) only [h5, Sx, reduceIte, Nat.reduceEqDiff, reduceCtorEq, Nat.reduceAdd, Nat.reduceSub, Nat.reduceLT]) ?_
    rw [hv]
    exact hq

set_option maxHeartbeats 2000000 in
/-- bytes of the sign are put ahead -/
theorem rbin_b4 {H0 H : Heap} {v : Value} {l : List Int} {s V : Int} {env : Env} {Q : Post} {QP : List PanicEntry → Heap → Prop} (hk0 : Keep H0 H) (hy : By H v l) (hb : isBy l) (hl : l.length ≤ 8) (hs : s = 0 ∨ s = -1) (hv : bv s l = V)
    (h5 : env 5 = v) (h4 : env 4 = .bool (decide (s = -1))) (h8 : env 8 = .int .u8 (fillB s))
    (hq : ∀ env' H', Keep H0 H' → env' 2 = .int .i64 (if fits64 V then V else 0) → env' 3 = .int .i64 (if fits64 V then 0 else 121) → Q .ret env' H') : awpC Tryd.prog L52_b4 Q QP env H := by
  unfold L52_b4
  simp -implicitDefEqProofs (maxSteps := 1000000) (disch := first | omega | assumption) only [Sx, reduceIte, Nat.reduceEqDiff, reduceCtorEq, Nat.reduceAdd, Nat.reduceSub, Nat.reduceLT]
  refine c_loop (fun k env H' => ∃ v l, k + l.length = 8 ∧ env 5 = v ∧ env 4 = .bool (decide (s = -1)) ∧ env 8 = .int .u8 (fillB s) ∧ By H' v l ∧ isBy l ∧ bv s l = V ∧ Keep H0 H') (8 - l.length) ⟨v, l, by omega, by simp -implicitDefEqProofs (maxSteps := 1000000) (disch := first | omega | assumption) only [h5, Sx, reduceIte, Nat.reduceEqDiff, reduceCtorEq, Nat.reduceAdd, Nat.reduceSub, Nat.reduceLT], by simp -implicitDefEqProofs (maxSteps := 1000000) (disch := first | omega | assumption) only [h4, Sx, reduceIte, Nat.reduceEqDiff, reduceCtorEq, Nat.reduceAdd, Nat.reduceSub, Nat.reduceLT], by simp -implicitDefEqProofs (maxSteps := 1000000) (disch := first | omega | assumption) only [h8, Sx, reduceIte, Nat.reduceEqDiff, reduceCtorEq, Nat.reduceAdd, Nat.reduceSub, Nat.reduceLT], hy, hb, hv, hk0⟩ ?_
  rintro k env H1 ⟨v, l, hk, h5, h4, h8, hy, hb, hv, hK⟩
  unfold L52_4
  obtain ⟨A, c, rfl, hc, hr⟩ := hy
  by_cases h8l : l.length < 8
  · have f0 : decide ((l.length : Int) < 8) = true := decide_eq_true (by omega)
    simp -implicitDefEqProofs (maxSteps := 1000000) (disch := first | omega | assumption) only [h5, h4, h8, f0, Sx, reduceIte, Nat.reduceEqDiff, reduceCtorEq, Nat.reduceAdd, Nat.reduceSub, Nat.reduceLT, decide_true, decide_false, Bool.not_true, Bool.not_false, Int.toNat_one, Int.toNat_zero, Nat.zero_mul, l_g, endK, gd_u]
    refine lits_b1 ?_
    intro r1 H2 hO1 hk1 hr1
    try simp -implicitDefEqProofs (maxSteps := 1000000) (disch := first | omega | assumption) only [h5, h4, h8, Sx, reduceIte, Nat.reduceEqDiff, reduceCtorEq, Nat.reduceAdd, Nat.reduceSub, Nat.reduceLT, decide_true, decide_false, Bool.not_true, Bool.not_false, Int.toNat_one, Int.toNat_zero, Nat.zero_mul, l_g, endK, gd_u]
    refine app_b1 hO1 (by simp; omega) ⟨A, c, rfl, hc, hk1.row hr⟩ ?_
    intro v3 H3 hO3 ho3 hm3
    have hk3 : Keep H1 H3 := ho3.keep hk1 (by rintro q ⟨⟩; exact hr1)
    try simp -implicitDefEqProofs (maxSteps := 1000000) (disch := first | omega | assumption) only [h5, h4, h8, Sx, reduceIte, Nat.reduceEqDiff, reduceCtorEq, Nat.reduceAdd, Nat.reduceSub, Nat.reduceLT, decide_true, decide_false, Bool.not_true, Bool.not_false, Int.toNat_one, Int.toNat_zero, Nat.zero_mul, l_g, endK, gd_u]
    refine ⟨k - 1, by omega, v3, [fillB s] ++ l, by simp; omega, by simp -implicitDefEqProofs (maxSteps := 1000000) (disch := first | omega | assumption) only [Sx, reduceIte, Nat.reduceEqDiff, reduceCtorEq, Nat.reduceAdd, Nat.reduceSub, Nat.reduceLT], by simp -implicitDefEqProofs (maxSteps := 1000000) (disch := first | omega | assumption) only [h4, Sx, reduceIte, Nat.reduceEqDiff, reduceCtorEq, Nat.reduceAdd, Nat.reduceSub, Nat.reduceLT], by simp -implicitDefEqProofs (maxSteps := 1000000) (disch := first | omega | assumption) only [h8, Sx, reduceIte, Nat.reduceEqDiff, reduceCtorEq, Nat.reduceAdd, Nat.reduceSub, Nat.reduceLT], own_by hO3, ?_, ?_, hK.trans hk3⟩
    · intro y hy
      rcases List.mem_cons.1 hy with rfl | hy
      · exact fill_by hs
      · exact hb y hy
    · rw [List.singleton_append, bv_fill hs, hv]
  · have f0 : decide ((l.length : Int) < 8) = false := decide_eq_false (by omega)
    have hl8 : l.length = 8 := by omega
    rw [hl8] at h5 f0
    simp -implicitDefEqProofs (maxSteps := 1000000) (disch := first | omega | assumption) only [h5, h4, h8, f0, Sx, reduceIte, Nat.reduceEqDiff, reduceCtorEq, Nat.reduceAdd, Nat.reduceSub, Nat.reduceLT, decide_true, decide_false, Bool.not_true, Bool.not_false, Int.toNat_one, Int.toNat_zero, Nat.zero_mul, l_g, endK, gd_u]
    exact rbin_top (c := c) hr hb hl8 hs hv (by simp -implicitDefEqProofs (maxSteps := 1000000) (disch := first | omega | assumption) only [h5, Sx, reduceIte, Nat.reduceEqDiff, reduceCtorEq, Nat.reduceAdd, Nat.reduceSub, Nat.reduceLT]) (by simp -implicitDefEqProofs (maxSteps := 1000000) (disch := first | omega | assumption) only [h4, Sx, reduceIte, Nat.reduceEqDiff, reduceCtorEq, Nat.reduceAdd, Nat.reduceSub, Nat.reduceLT]) fun env' e2 e3 => hq env' H1 hK e2 e3
set_option maxHeartbeats 2000000 in
/-- bytes of the sign are taken off -/
theorem rbin_6 {H0 H : Heap} {v : Value} {l : List Int} {s V : Int} {env : Env} {Q : Post} {QP : List PanicEntry → Heap → Prop} (hk0 : Keep H0 H) (hy : By H v l) (hb : isBy l) (hl : l.length ≤ 1125899906842624) (hs : s = 0 ∨ s = -1) (hv : bv s l = V)
    (h5 : env 5 = v) (h4 : env 4 = .bool (decide (s = -1))) (h8 : env 8 = .int .u8 (fillB s))
    (hq : ∀ env' H', Keep H0 H' → env' 2 = .int .i64 (if fits64 V then V else 0) → env' 3 = .int .i64 (if fits64 V then 0 else 121) → Q .ret env' H') : awpC Tryd.prog L52_6 Q QP env H := by
  unfold L52_6
  simp -implicitDefEqProofs (maxSteps := 1000000) (disch := first | omega | assumption) only [Sx, reduceIte, Nat.reduceEqDiff, reduceCtorEq, Nat.reduceAdd, Nat.reduceSub, Nat.reduceLT]
  refine c_loop (fun k env H' => H' = H ∧ ∃ v l, k = l.length ∧ env 5 = v ∧ env 4 = .bool (decide (s = -1)) ∧ env 8 = .int .u8 (fillB s) ∧ By H v l ∧ isBy l ∧ l.length ≤ 1125899906842624 ∧ bv s l = V) l.length ⟨rfl, v, l, rfl, by simp -implicitDefEqProofs (maxSteps := 1000000) (disch := first | omega | assumption) only [h5, Sx, reduceIte, Nat.reduceEqDiff, reduceCtorEq, Nat.reduceAdd, Nat.reduceSub, Nat.reduceLT], by simp -implicitDefEqProofs (maxSteps := 1000000) (disch := first | omega | assumption) only [h4, Sx, reduceIte, Nat.reduceEqDiff, reduceCtorEq, Nat.reduceAdd, Nat.reduceSub, Nat.reduceLT], by simp -implicitDefEqProofs (maxSteps := 1000000) (disch := first | omega | assumption) only [h8, Sx, reduceIte, Nat.reduceEqDiff, reduceCtorEq, Nat.reduceAdd, Nat.reduceSub, Nat.reduceLT], hy, hb, hl, hv⟩ ?_
  rintro k env H1 ⟨rfl, v, l, rfl, h5, h4, h8, hy, hb, hl, hv⟩
  unfold L52_3
  obtain ⟨A, c, rfl, hc, hr⟩ := hy
  by_cases h9 : 8 < l.length
  · have f0 : decide ((8 : Int) < (l.length : Int)) = true := decide_eq_true (by omega)
    obtain ⟨b, rfl, hx⟩ := by_at hr (i := 0) (by omega)
    rw [add_zero_a] at hx
    have hx0 := hb.at (i := 0) (by omega)
    have hsplit : l = l[0] :: l.drop 1 := by rw [← List.drop_eq_getElem_cons (by omega), List.drop_zero]
    have hrest : isBy (l.drop 1) := hb.drop 1
    have hrl : (l.drop 1).length = l.length - 1 := List.length_drop
    have hin : (0 : Int) ≤ 0 ∧ (0 : Int) < (l.length : Int) := by omega
    generalize hxx : l[0] = x at hx hx0 hsplit
    by_cases hxf : x = fillB s
    · have f1 : (x != fillB s) = false := by rw [bne_eq_false_iff_eq]; exact hxf
      have hcut : (0 : Int) ≤ 1 ∧ (1 : Int) ≤ (l.length : Int) := by omega
      simp -implicitDefEqProofs (maxSteps := 1000000) (disch := first | omega | assumption) only [h5, h4, h8, f0, hx, f1, ev_slc_lo, Sx, reduceIte, Nat.reduceEqDiff, reduceCtorEq, Nat.reduceAdd, Nat.reduceSub, Nat.reduceLT, decide_true, decide_false, Bool.not_true, Bool.not_false, Int.toNat_one, Int.toNat_zero, Nat.zero_mul, l_g, endK, gd_u]
      refine ⟨(l.drop 1).length, by omega, by trivial, _, l.drop 1, rfl, rfl, by trivial, by trivial, By.drop hr hc (by omega), hrest, by omega, ?_⟩
      rw [← hv]
      conv => rhs; rw [hsplit, hxf]
      exact (bv_fill hs _).symm
    · have f1 : (x != fillB s) = true := by rw [bne_iff_ne]; exact hxf
      have hnf : ¬ fits64 V := by rw [← hv, hsplit]; exact far_big hs hx0 hxf hrest (by omega)
      rw [if_neg hnf, if_neg hnf] at hq
      simp -implicitDefEqProofs (maxSteps := 1000000) (disch := first | omega | assumption) only [h5, h4, h8, f0, hx, f1, Sx, reduceIte, Nat.reduceEqDiff, reduceCtorEq, Nat.reduceAdd, Nat.reduceSub, Nat.reduceLT, decide_true, decide_false, Bool.not_true, Bool.not_false, Int.toNat_one, Int.toNat_zero, Nat.zero_mul, l_g, endK, gd_u]
      exact hq _ _ hk0 (by simp -implicitDefEqProofs (maxSteps := 1000000) (disch := first | omega | assumption) only [Sx, reduceIte, Nat.reduceEqDiff, reduceCtorEq, Nat.reduceAdd, Nat.reduceSub, Nat.reduceLT]) (by simp -implicitDefEqProofs (maxSteps := 1000000) (disch := first | omega | assumption) only [Sx, reduceIte, Nat.reduceEqDiff, reduceCtorEq, Nat.reduceAdd, Nat.reduceSub, Nat.reduceLT])
  · have f0 : decide ((8 : Int) < (l.length : Int)) = false := decide_eq_false (by omega)
    simp -implicitDefEqProofs (maxSteps := 1000000) (disch := first | omega | assumption) only [h5, h4, h8, f0, Sx, reduceIte, Nat.reduceEqDiff, reduceCtorEq, Nat.reduceAdd, Nat.reduceSub, Nat.reduceLT, decide_true, decide_false, Bool.not_true, Bool.not_false, Int.toNat_one, Int.toNat_zero, Nat.zero_mul, l_g, endK, gd_u]
    exact rbin_b4 hk0 ⟨A, c, rfl, hc, hr⟩ hb (by omega) hs hv (by simp -implicitDefEqProofs (maxSteps := 1000000) (disch := first | omega | assumption) only [h5, Sx, reduceIte, Nat.reduceEqDiff, reduceCtorEq, Nat.reduceAdd, Nat.reduceSub, Nat.reduceLT]) (by simp -implicitDefEqProofs (maxSteps := 1000000) (disch := first | omega | assumption) only [h4, Sx, reduceIte, Nat.reduceEqDiff, reduceCtorEq, Nat.reduceAdd, Nat.reduceSub, Nat.reduceLT]) (by simp -implicitDefEqProofs (maxSteps := 1000000) (disch := first | omega | assumption) only [h8, Sx, reduceIte, Nat.reduceEqDiff, reduceCtorEq, Nat.reduceAdd, Nat.reduceSub, Nat.reduceLT]) hq
set_option maxHeartbeats 4000000 in
theorem rbinary_spec {H : Heap} {v : Value} {l : List Int} (hv : By H v l) (hb : isBy l) (hl : l.length ≤ 211106232532992) :
    ACalls Tryd.prog 52 [v].toArray H fun e H' => e = .returned (.tuple #[.int .i64 (binN l).1, .int .i64 (binN l).2]) ∧ Keep H H' := by
  obtain ⟨A, c, rfl, hc, hr⟩ := hv
  refine call52 (Nat.le_of_ble_eq_true rfl) ?_
  unfold L52 env0
  by_cases h2 : l.length < 2
  · have f0 : decide ((l.length : Int) < 2) = true := decide_eq_true (by omega)
    have e : binN l = (0, 120) := by unfold binN; rw [if_pos (.inl h2)]
    rw [e]
    simp -implicitDefEqProofs (maxSteps := 1000000) (disch := first | omega | assumption) only [f0, Sx, reduceIte, Nat.reduceEqDiff, reduceCtorEq, Nat.reduceAdd, Nat.reduceSub, Nat.reduceLT, decide_true, decide_false, Bool.not_true, Bool.not_false, Int.toNat_one, Int.toNat_zero, Nat.zero_mul, l_g, endK, gd_u]
    exact ⟨by trivial, Keep.refl _⟩
  have f0 : decide ((l.length : Int) < 2) = false := decide_eq_false (by omega)
  obtain ⟨b, rfl, hx⟩ := by_at hr (i := 0) (by omega)
  rw [add_zero_a] at hx
  have hhd := head_at (l := l) (by omega)
  have hx0 := hb.at (i := 0) (by omega)
  rw [← hhd] at hx hx0
  have hin : (0 : Int) ≤ 0 ∧ (0 : Int) < (l.length : Int) := by omega
  by_cases h128 : l.headD 0 < 128
  · have f1 : decide (l.headD 0 < 128) = true := decide_eq_true h128
    have e : binN l = (0, 120) := by unfold binN; rw [if_pos (.inr h128)]
    rw [e]
    simp -implicitDefEqProofs (maxSteps := 1000000) (disch := first | omega | assumption) only [f0, hx, f1, Sx, reduceIte, Nat.reduceEqDiff, reduceCtorEq, Nat.reduceAdd, Nat.reduceSub, Nat.reduceLT, decide_true, decide_false, Bool.not_true, Bool.not_false, Int.toNat_one, Int.toNat_zero, Nat.zero_mul, l_g, endK, gd_u]
    exact ⟨by trivial, Keep.refl _⟩
  have f1 : decide (l.headD 0 < 128) = false := decide_eq_false h128
  have hbb := bodyB_by hb (by omega)
  have hbl := bodyB_len l
  have hs := sign_cases l
  have hbin : binN l = if fits64 (binV l) then (binV l, 0) else (0, 121) := by unfold binN; rw [if_neg (by omega)]
  have hbel : decide (64 ≤ l.headD 0 % 128) = decide (signB l = -1) := by
    unfold signB
    by_cases h : 64 ≤ l.headD 0 % 128
    · rw [if_pos h, decide_eq_true h]; rfl
    · rw [if_neg h, decide_eq_false h]; rfl
  simp -implicitDefEqProofs (maxSteps := 1000000) (disch := first | omega | assumption) only [f0, hx, f1, v_rem, hbel, Sx, reduceIte, Nat.reduceEqDiff, reduceCtorEq, Nat.reduceAdd, Nat.reduceSub, Nat.reduceLT, decide_true, decide_false, Bool.not_true, Bool.not_false, Int.toNat_one, Int.toNat_zero, Nat.zero_mul, l_g, endK, gd_u]
  refine c_loop (fun k env H' => ∃ (i : Nat) (v : Value), k + i = l.length ∧ env 0 = .slice (some b) l.length c ∧ env 4 = .bool (decide (signB l = -1)) ∧ env 5 = v ∧ env 6 = .int .i64 i ∧ Bs H' v ((bodyB l).take i) ∧ Keep H H' ∧ Fresh H v) l.length
    ⟨0, .slice none 0 0, by omega, by simp -implicitDefEqProofs (maxSteps := 1000000) (disch := first | omega | assumption) only [Sx, reduceIte, Nat.reduceEqDiff, reduceCtorEq, Nat.reduceAdd, Nat.reduceSub, Nat.reduceLT], by simp -implicitDefEqProofs (maxSteps := 1000000) (disch := first | omega | assumption) only [Sx, reduceIte, Nat.reduceEqDiff, reduceCtorEq, Nat.reduceAdd, Nat.reduceSub, Nat.reduceLT], by simp -implicitDefEqProofs (maxSteps := 1000000) (disch := first | omega | assumption) only [Sx, reduceIte, Nat.reduceEqDiff, reduceCtorEq, Nat.reduceAdd, Nat.reduceSub, Nat.reduceLT], by simp -implicitDefEqProofs (maxSteps := 1000000) (disch := first | omega | assumption) only [Sx, reduceIte, Nat.reduceEqDiff, reduceCtorEq, Nat.reduceAdd, Nat.reduceSub, Nat.reduceLT]; rfl, .nil, Keep.refl _, fun q hq => by cases hq⟩ ?_
  rintro k env H1 ⟨i, v, hk, h0, h4, h5, h6, hO, hK, hF⟩
  unfold L52_2
  have hsv := hO.scalar
  by_cases hi : i < l.length
  · have f2 : decide ((i : Int) < (l.length : Int)) = true := decide_eq_true (by omega)
    have hib : i < (bodyB l).length := by omega
    have hyb := hbb.at hib
    have htk : (bodyB l).take (i + 1) = (bodyB l).take i ++ [(bodyB l)[i]] := List.take_succ_eq_append_getElem hib
    have htl : ((bodyB l).take i).length = i := by rw [List.length_take]; omega
    have push : ∀ env2 : Env, env2 0 = .slice (some b) l.length c → env2 4 = .bool (decide (signB l = -1)) → env2 5 = v → env2 6 = .int .i64 i → env2 7 = .int .u8 ((bodyB l)[i]) →
        ∀ (Q2 : Post) (QP2 : List PanicEntry → Heap → Prop), (∀ env' H' v', env' 0 = .slice (some b) l.length c → env' 4 = .bool (decide (signB l = -1)) → env' 5 = v' → env' 6 = .int .i64 i → Bs H' v' ((bodyB l).take (i + 1)) → Keep H H' → Fresh H v' → Q2 .normal env' H') → awpC Tryd.prog L52_0 Q2 QP2 env2 H1 := by
      intro env2 e0 e4 e5 e6 e7 Q2 QP2 hq2
      unfold L52_0
      simp -implicitDefEqProofs (maxSteps := 1000000) (disch := first | omega | assumption) only [e0, e4, e5, e6, e7, Sx, reduceIte, Nat.reduceEqDiff, reduceCtorEq, Nat.reduceAdd, Nat.reduceSub, Nat.reduceLT]
      refine lits_b1 ?_
      intro r1 H2 hO1 hk1 hr1
      try simp -implicitDefEqProofs (maxSteps := 1000000) (disch := first | omega | assumption) only [e0, e4, e5, e6, e7, Sx, reduceIte, Nat.reduceEqDiff, reduceCtorEq, Nat.reduceAdd, Nat.reduceSub, Nat.reduceLT]
      refine app_b1 (hO.keep hk1) (by rw [htl]; simp; omega) (own_by hO1) ?_
      intro v3 H3 hO3 ho3 hm3
      try simp -implicitDefEqProofs (maxSteps := 1000000) (disch := first | omega | assumption) only [e0, e4, e5, e6, e7, Sx, reduceIte, Nat.reduceEqDiff, reduceCtorEq, Nat.reduceAdd, Nat.reduceSub, Nat.reduceLT]
      exact hq2 _ _ v3 (by simp -implicitDefEqProofs (maxSteps := 1000000) (disch := first | omega | assumption) only [e0, Sx, reduceIte, Nat.reduceEqDiff, reduceCtorEq, Nat.reduceAdd, Nat.reduceSub, Nat.reduceLT]) (by simp -implicitDefEqProofs (maxSteps := 1000000) (disch := first | omega | assumption) only [e4, Sx, reduceIte, Nat.reduceEqDiff, reduceCtorEq, Nat.reduceAdd, Nat.reduceSub, Nat.reduceLT]) (by simp -implicitDefEqProofs (maxSteps := 1000000) (disch := first | omega | assumption) only [Sx, reduceIte, Nat.reduceEqDiff, reduceCtorEq, Nat.reduceAdd, Nat.reduceSub, Nat.reduceLT]) (by simp -implicitDefEqProofs (maxSteps := 1000000) (disch := first | omega | assumption) only [e6, Sx, reduceIte, Nat.reduceEqDiff, reduceCtorEq, Nat.reduceAdd, Nat.reduceSub, Nat.reduceLT]) (by rw [htk]; exact hO3) (ho3.keep (hK.trans hk1) hF) (hm3.fresh (hK.trans hk1) hF)
    have next : ∀ (env' : Env) (H' : Heap) (v' : Value), env' 0 = .slice (some b) l.length c → env' 4 = .bool (decide (signB l = -1)) → env' 5 = v' → env' 6 = .int .i64 i → Bs H' v' ((bodyB l).take (i + 1)) → Keep H H' → Fresh H v' →
        ∀ (Q2 : Post) (QP2 : List PanicEntry → Heap → Prop), (∀ env3, (∃ (i : Nat) (v : Value), k - 1 + i = l.length ∧ env3 0 = .slice (some b) l.length c ∧ env3 4 = .bool (decide (signB l = -1)) ∧ env3 5 = v ∧ env3 6 = .int .i64 i ∧ Bs H' v ((bodyB l).take i) ∧ Keep H H' ∧ Fresh H v) → Q2 .normal env3 H') → awpC Tryd.prog L52_1 Q2 QP2 env' H' := by
      intro env' H' v' e0 e4 e5 e6 hO' hK' hF' Q2 QP2 hq2
      unfold L52_1
      simp -implicitDefEqProofs (maxSteps := 1000000) (disch := first | omega | assumption) only [e0, e4, e5, e6, Sx, reduceIte, Nat.reduceEqDiff, reduceCtorEq, Nat.reduceAdd, Nat.reduceSub, Nat.reduceLT]
      exact hq2 _ ⟨i + 1, v', by omega, by simp -implicitDefEqProofs (maxSteps := 1000000) (disch := first | omega | assumption) only [e0, Sx, reduceIte, Nat.reduceEqDiff, reduceCtorEq, Nat.reduceAdd, Nat.reduceSub, Nat.reduceLT], by simp -implicitDefEqProofs (maxSteps := 1000000) (disch := first | omega | assumption) only [e4, Sx, reduceIte, Nat.reduceEqDiff, reduceCtorEq, Nat.reduceAdd, Nat.reduceSub, Nat.reduceLT], by simp -implicitDefEqProofs (maxSteps := 1000000) (disch := first | omega | assumption) only [e5, Sx, reduceIte, Nat.reduceEqDiff, reduceCtorEq, Nat.reduceAdd, Nat.reduceSub, Nat.reduceLT], by simp -implicitDefEqProofs (maxSteps := 1000000) (disch := first | omega | assumption) only [Int.natCast_add, Int.natCast_one, Sx, reduceIte, Nat.reduceEqDiff, reduceCtorEq, Nat.reduceAdd, Nat.reduceSub, Nat.reduceLT], hO', hK', hF'⟩
    by_cases hi0 : i = 0
    · subst hi0
      have f3 : (((0 : Nat) : Int) == 0) = true := rfl
      have hx' := hK.cell hx
      have hx2 : H1.cell? (b.add 0) = some (.int .u8 (l.headD 0)) := by rw [add_zero_a]; exact hx'
      by_cases h64 : 64 ≤ l.headD 0 % 128
      · have hm1 : signB l = -1 := by unfold signB; rw [if_pos h64]
        have f4 : decide (signB l = -1) = true := decide_eq_true hm1
        have hfirst : (bodyB l)[0] = l.headD 0 := by rw [body_at hib, if_pos h64]
        have h4' := h4
        rw [f4] at h4'
        simp -implicitDefEqProofs (maxSteps := 1000000) (disch := first | omega | assumption) only [h0, h4', h5, h6, f2, f3, hx', Sx, reduceIte, Nat.reduceEqDiff, reduceCtorEq, Nat.reduceAdd, Nat.reduceSub, Nat.reduceLT, decide_true, decide_false, Bool.not_true, Bool.not_false, Int.toNat_one, Int.toNat_zero, Nat.zero_mul, l_g, endK, gd_u]
        refine push _ (by simp -implicitDefEqProofs (maxSteps := 1000000) (disch := first | omega | assumption) only [h0, Sx, reduceIte, Nat.reduceEqDiff, reduceCtorEq, Nat.reduceAdd, Nat.reduceSub, Nat.reduceLT]) (by simp -implicitDefEqProofs (maxSteps := 1000000) (disch := first | omega | assumption) only [h4, Sx, reduceIte, Nat.reduceEqDiff, reduceCtorEq, Nat.reduceAdd, Nat.reduceSub, Nat.reduceLT]) (by simp -implicitDefEqProofs (maxSteps := 1000000) (disch := first | omega | assumption) only [h5, Sx, reduceIte, Nat.reduceEqDiff, reduceCtorEq, Nat.reduceAdd, Nat.reduceSub, Nat.reduceLT]) (by simp -implicitDefEqProofs (maxSteps := 1000000) (disch := first | omega | assumption) only [h6, Sx, reduceIte, Nat.reduceEqDiff, reduceCtorEq, Nat.reduceAdd, Nat.reduceSub, Nat.reduceLT]) (by rw [hfirst]; simp -implicitDefEqProofs (maxSteps := 1000000) (disch := first | omega | assumption) only [Sx, reduceIte, Nat.reduceEqDiff, reduceCtorEq, Nat.reduceAdd, Nat.reduceSub, Nat.reduceLT]) _ _ ?_
        intro env' H' v' e0 e4 e5 e6 hO' hK' hF'
        refine next env' H' v' e0 e4 e5 e6 hO' hK' hF' _ _ ?_
        intro env3 h3
        exact ⟨k - 1, by omega, h3⟩
      · have hm1 : signB l = 0 := by unfold signB; rw [if_neg h64]
        have f4 : decide (signB l = -1) = false := decide_eq_false (by rw [hm1]; decide)
        have hfirst : (bodyB l)[0] = l.headD 0 - 128 := by rw [body_at hib, if_neg h64]
        have h4' := h4
        rw [f4] at h4'
        simp -implicitDefEqProofs (maxSteps := 1000000) (disch := first | omega | assumption) only [h0, h4', h5, h6, f2, f3, hx', w_u8, Sx, reduceIte, Nat.reduceEqDiff, reduceCtorEq, Nat.reduceAdd, Nat.reduceSub, Nat.reduceLT, decide_true, decide_false, Bool.not_true, Bool.not_false, Int.toNat_one, Int.toNat_zero, Nat.zero_mul, l_g, endK, gd_u]
        refine push _ (by simp -implicitDefEqProofs (maxSteps := 1000000) (disch := first | omega | assumption) only [h0, Sx, reduceIte, Nat.reduceEqDiff, reduceCtorEq, Nat.reduceAdd, Nat.reduceSub, Nat.reduceLT]) (by simp -implicitDefEqProofs (maxSteps := 1000000) (disch := first | omega | assumption) only [h4, Sx, reduceIte, Nat.reduceEqDiff, reduceCtorEq, Nat.reduceAdd, Nat.reduceSub, Nat.reduceLT]) (by simp -implicitDefEqProofs (maxSteps := 1000000) (disch := first | omega | assumption) only [h5, Sx, reduceIte, Nat.reduceEqDiff, reduceCtorEq, Nat.reduceAdd, Nat.reduceSub, Nat.reduceLT]) (by simp -implicitDefEqProofs (maxSteps := 1000000) (disch := first | omega | assumption) only [h6, Sx, reduceIte, Nat.reduceEqDiff, reduceCtorEq, Nat.reduceAdd, Nat.reduceSub, Nat.reduceLT]) (by rw [hfirst]; simp -implicitDefEqProofs (maxSteps := 1000000) (disch := first | omega | assumption) only [Sx, reduceIte, Nat.reduceEqDiff, reduceCtorEq, Nat.reduceAdd, Nat.reduceSub, Nat.reduceLT]) _ _ ?_
        intro env' H' v' e0 e4 e5 e6 hO' hK' hF'
        refine next env' H' v' e0 e4 e5 e6 hO' hK' hF' _ _ ?_
        intro env3 h3
        exact ⟨k - 1, by omega, h3⟩
    · have f3 : ((i : Int) == 0) = false := by rw [beq_eq_false_iff_ne]; omega
      obtain ⟨b2, e2, hxi⟩ := by_at (hK.row hr) hi
      cases e2
      have hget : (bodyB l)[i] = l[i] := by
        cases l with
        | nil => simp at hi
        | cons x r =>
          cases i with
          | zero => exact absurd rfl hi0
          | succ i => rfl
      rw [← hget] at hxi
      simp -implicitDefEqProofs (maxSteps := 1000000) (disch := first | omega | assumption) only [h0, h4, h5, h6, f2, f3, hxi, Sx, reduceIte, Nat.reduceEqDiff, reduceCtorEq, Nat.reduceAdd, Nat.reduceSub, Nat.reduceLT, decide_true, decide_false, Bool.not_true, Bool.not_false, Int.toNat_one, Int.toNat_zero, Nat.zero_mul, l_g, endK, gd_u]
      refine push _ (by simp -implicitDefEqProofs (maxSteps := 1000000) (disch := first | omega | assumption) only [h0, Sx, reduceIte, Nat.reduceEqDiff, reduceCtorEq, Nat.reduceAdd, Nat.reduceSub, Nat.reduceLT]) (by simp -implicitDefEqProofs (maxSteps := 1000000) (disch := first | omega | assumption) only [h4, Sx, reduceIte, Nat.reduceEqDiff, reduceCtorEq, Nat.reduceAdd, Nat.reduceSub, Nat.reduceLT]) (by simp -implicitDefEqProofs (maxSteps := 1000000) (disch := first | omega | assumption) only [h5, Sx, reduceIte, Nat.reduceEqDiff, reduceCtorEq, Nat.reduceAdd, Nat.reduceSub, Nat.reduceLT]) (by simp -implicitDefEqProofs (maxSteps := 1000000) (disch := first | omega | assumption) only [h6, Sx, reduceIte, Nat.reduceEqDiff, reduceCtorEq, Nat.reduceAdd, Nat.reduceSub, Nat.reduceLT]) (by simp -implicitDefEqProofs (maxSteps := 1000000) (disch := first | omega | assumption) only [Sx, reduceIte, Nat.reduceEqDiff, reduceCtorEq, Nat.reduceAdd, Nat.reduceSub, Nat.reduceLT]) _ _ ?_
      intro env' H' v' e0 e4 e5 e6 hO' hK' hF'
      refine next env' H' v' e0 e4 e5 e6 hO' hK' hF' _ _ ?_
      intro env3 h3
      exact ⟨k - 1, by omega, h3⟩
  · have f2 : decide ((i : Int) < (l.length : Int)) = false := decide_eq_false (by omega)
    rw [List.take_of_length_le (by omega)] at hO
    have fin : ∀ env' H', Keep H H' → env' 2 = .int .i64 (if fits64 (binV l) then binV l else 0) → env' 3 = .int .i64 (if fits64 (binV l) then 0 else 121) → retQ [.t 2, .t 3] (fun e H' => e = .returned (.tuple #[.int .i64 (binN l).1, .int .i64 (binN l).2]) ∧ Keep H H') .ret env' H' := by
      intro env' H' hk' e2 e3
      simp -implicitDefEqProofs (maxSteps := 1000000) (disch := first | omega | assumption) only [e2, e3, Sx, reduceIte, Nat.reduceEqDiff, reduceCtorEq, Nat.reduceAdd, Nat.reduceSub, Nat.reduceLT]
      refine ⟨?_, hk'⟩
      rw [hbin]
      by_cases hf : fits64 (binV l)
      · rw [if_pos hf, if_pos hf, if_pos hf]
      · rw [if_neg hf, if_neg hf, if_neg hf]
    have hfill : fillB (signB l) = if decide (signB l = -1) = true then 255 else 0 := by
      rcases hs with h | h <;> rw [h] <;> rfl
    cases hd : decide (signB l = -1) with
    | true =>
      have hfl : fillB (signB l) = 255 := by rw [hfill, hd]; rfl
      have h4' := h4
      rw [hd] at h4'
      simp -implicitDefEqProofs (maxSteps := 1000000) (disch := first | omega | assumption) only [h0, h4', h5, h6, f2, Sx, reduceIte, Nat.reduceEqDiff, reduceCtorEq, Nat.reduceAdd, Nat.reduceSub, Nat.reduceLT, decide_true, decide_false, Bool.not_true, Bool.not_false, Int.toNat_one, Int.toNat_zero, Nat.zero_mul, l_g, endK, gd_u]
      exact rbin_6 hK (own_by hO) hbb (by omega) hs rfl (by simp -implicitDefEqProofs (maxSteps := 1000000) (disch := first | omega | assumption) only [h5, Sx, reduceIte, Nat.reduceEqDiff, reduceCtorEq, Nat.reduceAdd, Nat.reduceSub, Nat.reduceLT]) (by simp -implicitDefEqProofs (maxSteps := 1000000) (disch := first | omega | assumption) only [h4, Sx, reduceIte, Nat.reduceEqDiff, reduceCtorEq, Nat.reduceAdd, Nat.reduceSub, Nat.reduceLT]) (by rw [hfl]; simp -implicitDefEqProofs (maxSteps := 1000000) (disch := first | omega | assumption) only [Sx, reduceIte, Nat.reduceEqDiff, reduceCtorEq, Nat.reduceAdd, Nat.reduceSub, Nat.reduceLT]) fin
    | false =>
      have hfl : fillB (signB l) = 0 := by rw [hfill, hd]; rfl
      have h4' := h4
      rw [hd] at h4'
      simp -implicitDefEqProofs (maxSteps := 1000000) (disch := first | omega | assumption) only [h0, h4', h5, h6, f2, Sx, reduceIte, Nat.reduceEqDiff, reduceCtorEq, Nat.reduceAdd, Nat.reduceSub, Nat.reduceLT, decide_true, decide_false, Bool.not_true, Bool.not_false, Int.toNat_one, Int.toNat_zero, Nat.zero_mul, l_g, endK, gd_u]
      exact rbin_6 hK (own_by hO) hbb (by omega) hs rfl (by simp -implicitDefEqProofs (maxSteps := 1000000) (disch := first | omega | assumption) only [h5, Sx, reduceIte, Nat.reduceEqDiff, reduceCtorEq, Nat.reduceAdd, Nat.reduceSub, Nat.reduceLT]) (by simp -implicitDefEqProofs (maxSteps := 1000000) (disch := first | omega | assumption) only [h4, Sx, reduceIte, Nat.reduceEqDiff, reduceCtorEq, Nat.reduceAdd, Nat.reduceSub, Nat.reduceLT]) (by rw [hfl]; simp -implicitDefEqProofs (maxSteps := 1000000) (disch := first | omega | assumption) only [Sx, reduceIte, Nat.reduceEqDiff, reduceCtorEq, Nat.reduceAdd, Nat.reduceSub, Nat.reduceLT]) fin
end Go.Proofs.YthflafgijfbpnaaDoor.S12

/-
  Octal digits, plain.
-/
set_option linter.unusedVariables false
set_option linter.unusedSimpArgs false
namespace Go.Proofs.YthflafgijfbpnaaDoor.S12
open Go Go.RowKit Go.Proofs.YthflafgijfbpnaaDoor.Sep Go.Proofs.YthflafgijfbpnaaDoor.Lib

def p8 : Nat → Int
  | 0 => 1
  | n + 1 => p8 n * 8
theorem p8_pos : ∀ n, 0 < p8 n
  | 0 => by decide
  | n + 1 => by have := p8_pos n; rw [p8]; omega
theorem p8_add : ∀ (m n : Nat), p8 (m + n) = p8 m * p8 n
  | m, 0 => by simp [p8]
  | m, n + 1 => by rw [← Nat.add_assoc, p8, p8, p8_add m n, Int.mul_assoc]
theorem p8_mono {m n : Nat} (h : m ≤ n) : p8 m ≤ p8 n := by
  obtain ⟨k, rfl⟩ : ∃ k, n = m + k := ⟨n - m, by omega⟩
  rw [p8_add]
  have h1 := p8_pos m
  have h2 := p8_pos k
  have h3 : p8 m * 1 ≤ p8 m * p8 k := Int.mul_le_mul_of_nonneg_left (by omega) (by omega)
  omega
theorem p8_small {j : Nat} (h : p8 j ≤ 18446744073709551615) : j ≤ 21 := by
  apply Decidable.byContradiction
  intro hn
  have := p8_mono (m := 22) (n := j) (by omega)
  have e : p8 22 = 73786976294838206464 := by decide
  omega
theorem p8_div (n : Int) (j : Nat) : n / p8 j / 8 = n / p8 (j + 1) := by
  rw [p8, Int.ediv_ediv_of_nonneg (by have := p8_pos j; omega)]
/-- so many octal digits -/
def od : Nat → Int → List Int
  | 0, _ => []
  | j + 1, n => (48 + n / p8 j % 8) :: od j n
theorem od_len : ∀ (j : Nat) (n : Int), (od j n).length = j
  | 0, _ => rfl
  | j + 1, n => by rw [od, List.length_cons, od_len j n]
theorem od_oct : ∀ (j : Nat) (n : Int), ∀ x ∈ od j n, 48 ≤ x ∧ x ≤ 55
  | 0, _, x, h => by cases h
  | j + 1, n, x, h => by
    rw [od] at h
    rcases List.mem_cons.1 h with rfl | h
    · omega
    · exact od_oct j n x h
theorem od_by (j : Nat) (n : Int) : isBy (od j n) := fun x hx => by have := od_oct j n x hx; omega
theorem od_pad (k : Nat) {n : Int} (h0 : 0 ≤ n) (h : n < p8 k) : ∀ m : Nat, od (k + m) n = List.replicate m 48 ++ od k n
  | 0 => rfl
  | m + 1 => by
    rw [← Nat.add_assoc, od, od_pad k h0 h m, List.replicate_succ, List.cons_append]
    congr 1
    have : n / p8 (k + m) = 0 := Int.ediv_eq_zero_of_lt h0 (by have := p8_mono (m := k) (n := k + m) (by omega); omega)
    rw [this]; rfl
/-- the fewest digits -/
def Few (k : Nat) (n : Int) : Prop := 1 ≤ k ∧ k ≤ 22 ∧ n < p8 k ∧ (k = 1 ∨ p8 (k - 1) ≤ n)
theorem few_le {k w : Nat} {n : Int} (h : Few k n) (hw : 1 ≤ w) : k ≤ w ↔ n < p8 w := by
  obtain ⟨h1, -, h2, h3⟩ := h
  constructor
  · intro hk
    have := p8_mono hk
    omega
  · intro hn
    apply Decidable.byContradiction
    intro hk
    rcases h3 with h3 | h3
    · omega
    · have := p8_mono (m := w) (n := k - 1) (by omega)
      omega
/-- PutOctal -/
def putO (n w : Int) : List Int × Int := if w < 2 ∨ 512 < w then ([], 1) else if n < 0 ∨ p8 (w.toNat - 1) ≤ n then ([], 122) else (od (w.toNat - 1) n ++ [0], 0)
theorem txt_nat {ds : List Int} (h : isBy ds) : (txt ds).map (fun b => (b.toNat : Int)) = ds := by
  rw [txt, List.map_map]
  conv => rhs; rw [← List.map_id ds]
  apply List.map_congr_left
  intro x hx
  have := h x hx
  simp only [Function.comp, UInt8.toNat_ofNat', id]
  omega
theorem and7 {u : Int} (h : 0 ≤ u ∧ u < 18446744073709551616) : Go.bits .and .u64 u 7 = u % 8 := by
  have hb : ∀ a b : Int, Go.bits .and .u64 a b = IntKind.u64.wrap ((BitVec.ofInt 64 a &&& BitVec.ofInt 64 b).toNat : Nat) := fun a b => rfl
  rw [hb, BitVec.toNat_and, BitVec.toNat_ofInt, BitVec.toNat_ofInt]
  have h64 : ((2 ^ 64 : Nat) : Int) = 18446744073709551616 := by decide
  rw [h64]
  have e7 : ((7 : Int) % 18446744073709551616).toNat = 2 ^ 3 - 1 := by decide
  rw [e7, Nat.and_two_pow_sub_one_eq_mod]
  have e8 : (2 : Nat) ^ 3 = 8 := rfl
  rw [e8, w_u64 (by omega)]
  omega
end Go.Proofs.YthflafgijfbpnaaDoor.S12

/-
  strconv.FormatInt to the base 8.
-/
set_option linter.unusedVariables false
set_option linter.unusedSimpArgs false
namespace Go.Proofs.YthflafgijfbpnaaDoor.S12
open Go Go.RowKit Go.Proofs.YthflafgijfbpnaaDoor.Sep Go.Proofs.YthflafgijfbpnaaDoor.Low Go.Proofs.YthflafgijfbpnaaDoor.Lib

/-- the one place of the library's table that is looked at -/
def Tz (H : Heap) : Prop := H.cell? ⟨2, 7, none⟩ = some (.int .u8 3)
theorem Tz.keep {H H' : Heap} (h : Tz H) (hk : Keep H H') : Tz H' := hk.cell h
theorem tz_spec {H : Heap} (hT : Tz H) : ACalls Tryd.prog 86 [Value.int .u64 8].toArray H fun e H' => e = .returned (.int .i64 3) ∧ H' = H := by
  refine call86 (Nat.le_of_ble_eq_true rfl) ?_
  unfold L86 env0
  have f0 : ((8 : Int) == 0) = false := rfl
  have f1 : IntKind.u64.wrap (0 - 8) = 18446744073709551608 := by decide
  have f2 : Go.bits .and .u64 8 18446744073709551608 = 8 := by decide
  have f3 : IntKind.u64.wrap (8 * 285870213051353865) = 2286961704410830920 := by decide
  have f4 : (2286961704410830920 : Int).fdiv (2 ^ min (58 : Int).toNat 64) = 7 := by decide
  have f5 : (QI.iada 64 1).ev [.pointer (some ⟨2, 0, none⟩), .int .u64 7] H = some (.pointer (some ⟨2, 7, none⟩)) := rfl
  have f6 : QI.ld.ev [.pointer (some ⟨2, 7, none⟩)] H = some (.int .u8 3) := hT
  simp -implicitDefEqProofs (maxSteps := 1000000) (disch := first | omega | assumption) only [f0, f1, f2, f3, v_shr, bits_u64, f4, e_global, f5, f6, Sx, reduceIte, Nat.reduceEqDiff, reduceCtorEq, Nat.reduceAdd, Nat.reduceSub, Nat.reduceLT, decide_true, decide_false, Bool.not_true, Bool.not_false, Int.toNat_one, Int.toNat_zero, Nat.zero_mul, l_g, endK, gd_u]
  exact ⟨by trivial, by trivial⟩
theorem tz0_spec {H : Heap} (hT : Tz H) : ACalls Tryd.prog 72 [Value.int .u64 8].toArray H fun e H' => e = .returned (.int .i64 3) ∧ H' = H := by
  refine call72 (Nat.le_of_ble_eq_true rfl) ?_
  unfold L72 env0
  simp -implicitDefEqProofs (maxSteps := 1000000) (disch := first | omega | assumption) only [Sx, reduceIte, Nat.reduceEqDiff, reduceCtorEq, Nat.reduceAdd, Nat.reduceSub, Nat.reduceLT, decide_true, decide_false, Bool.not_true, Bool.not_false, Int.toNat_one, Int.toNat_zero, Nat.zero_mul, l_g, endK, gd_u]
  refine a_call (tz_spec hT) ?_
  rintro e H1 ⟨rfl, rfl⟩
  simp -implicitDefEqProofs (maxSteps := 1000000) (disch := first | omega | assumption) only [Sx, reduceIte, Nat.reduceEqDiff, reduceCtorEq, Nat.reduceAdd, Nat.reduceSub, Nat.reduceLT, decide_true, decide_false, Bool.not_true, Bool.not_false, Int.toNat_one, Int.toNat_zero, Nat.zero_mul, l_g, endK, gd_u]
  exact ⟨by trivial, by trivial⟩
theorem pow2_spec {H : Heap} : ACalls Tryd.prog 71 [Value.int .i64 8].toArray H fun e H' => e = .returned (.bool true) ∧ H' = H := by
  refine call71 (Nat.le_of_ble_eq_true rfl) ?_
  unfold L71 env0
  have f0 : Go.bits .and .i64 8 (8 - 1) = 0 := by decide
  have f1 : ((0 : Int) == 0) = true := rfl
  simp -implicitDefEqProofs (maxSteps := 1000000) (disch := first | omega | assumption) only [f0, f1, Sx, reduceIte, Nat.reduceEqDiff, reduceCtorEq, Nat.reduceAdd, Nat.reduceSub, Nat.reduceLT, decide_true, decide_false, Bool.not_true, Bool.not_false, Int.toNat_one, Int.toNat_zero, Nat.zero_mul, l_g, endK, gd_u]
  exact ⟨by trivial, by trivial⟩
theorem dig_at {H : Heap} {d : Int} (h : 0 ≤ d ∧ d < 8) : QI.ixs.ev [.string ⟨#[48, 49, 50, 51, 52, 53, 54, 55, 56, 57, 97, 98, 99, 100, 101, 102, 103, 104, 105, 106, 107, 108, 109, 110, 111, 112, 113, 114, 115, 116, 117, 118, 119, 120, 121, 122]⟩, .int .u64 d] H = some (.int .u8 (48 + d)) := by
  have : d = 0 ∨ d = 1 ∨ d = 2 ∨ d = 3 ∨ d = 4 ∨ d = 5 ∨ d = 6 ∨ d = 7 := by omega
  rcases this with rfl | rfl | rfl | rfl | rfl | rfl | rfl | rfl <;> rfl
abbrev T65 : TypeId := 102
/-- while digits are written from behind -/
structure FB (H1 : Heap) (r : Nat) (u0 : Int) (neg : Bool) (j : Nat) (env : Env) (H : Heap) : Prop where
  h0 : env 0 = .slice none 0 0
  h3 : env 3 = .bool neg
  h4 : env 4 = .bool false
  h10 : env 10 = .slice none 0 0
  h12 : env 12 = .pointer (some ⟨r, 0, none⟩)
  h13 : env 13 = .int .i64 (65 - j : Nat)
  cells : ∃ cs : List Value, cs.length = 65 ∧ cs.drop (65 - j) = by8 (od j u0) ∧ H = H1.set r (.cells cs.toArray T65 (0, 0))
theorem digit_put {cs : List Value} {j : Nat} {u0 : Int} (hl : cs.length = 65) (hj : j ≤ 64) (hd : cs.drop (65 - j) = by8 (od j u0)) : (cs.set (64 - j) (.int .u8 (48 + u0 / p8 j % 8))).drop (65 - (j + 1)) = by8 (od (j + 1) u0) := by
  have e : 65 - (j + 1) = 64 - j := by omega
  rw [e, List.drop_eq_getElem_cons (by rw [List.length_set]; omega), List.getElem_set_self, List.drop_set_of_lt (by omega), show 64 - j + 1 = 65 - j by omega, hd]
  rfl
theorem ev_b2s_set {H1 : Heap} {r i : Nat} {cs : List Value} {ds : List Int} (hl : cs.length = 65) (hi : i ≤ 65) (hd : cs.drop i = by8 ds) : QI.b2s.ev [.slice (some (cutP ⟨r, 0, none⟩ 65 i 1)) (65 - i) (65 - i)] (H1.set r (.cells cs.toArray T65 (0, 0))) = some (.string ⟨(txt ds).toArray⟩) := by
  have hds : ds.length = 65 - i := by have := congrArg List.length hd; simpa [hl] using this.symm
  rw [← hds]
  by_cases h65 : 65 = i
  · have : ds = [] := List.length_eq_zero_iff.1 (by omega)
    subst this
    exact ev_b2s_by (l := []) (c := 0) fun k v hv => by simp at hv
  · refine ev_b2s_by fun k v hv => ⟨_, rfl, ?_⟩
    unfold cutP
    rw [if_neg h65, add_mk, add_mk, cell_of set_same, List.getElem?_toArray, ← hv, ← hd, List.getElem?_drop]
    congr 1
    omega
theorem few_of {u0 : Int} {j : Nat} (h0 : 0 ≤ u0) (h1 : u0 < 18446744073709551616) (hlt : u0 / p8 j < 8) (hf : j = 0 ∨ p8 j ≤ u0) : Few (j + 1) u0 ∧ j ≤ 21 := by
  have hj : j ≤ 21 := by
    rcases hf with h | h
    · omega
    · exact p8_small (by omega)
  refine ⟨⟨by omega, by omega, ?_, ?_⟩, hj⟩
  · rw [p8]
    have hp := p8_pos j
    exact Int.lt_of_not_ge fun hge => by
      have : 8 ≤ u0 / p8 j := (Int.le_ediv_iff_mul_le hp).2 (by rw [Int.mul_comm]; exact hge)
      omega
  · rcases hf with h | h
    · exact .inl (by omega)
    · exact .inr (by rw [Nat.add_sub_cancel]; exact h)
set_option maxHeartbeats 4000000 in
theorem fb_end {H1 H : Heap} {r : Nat} {u0 : Int} {neg : Bool} {k : Nat} {env : Env} {Q : Post} {QP : List PanicEntry → Heap → Prop} (hk : 1 ≤ k) (hk2 : k ≤ 22) (hF : FB H1 r u0 neg k env H)
    (hq : ∀ env' H', env' 10 = .slice none 0 0 → env' 11 = .string ⟨(txt ((if neg then [45] else []) ++ od k u0)).toArray⟩ → (∃ o, H' = H1.set r o) → Q .ret env' H') : awpC Tryd.prog L57_3 Q QP env H := by
  obtain ⟨h0, h3, h4, h10, h12, h13, cs, hl, hd, rfl⟩ := hF
  unfold L57_3
  cases neg with
  | false =>
    have hc : (0 : Int) ≤ ((65 - k : Nat) : Int) ∧ ((65 - k : Nat) : Int) ≤ ((65 : Nat) : Int) := by omega
    have hb := ev_b2s_set (H1 := H1) (r := r) hl (by omega : 65 - k ≤ 65) hd
    simp -implicitDefEqProofs (maxSteps := 1000000) (disch := first | omega | assumption) only [h0, h3, h4, h10, h12, h13, Sx, reduceIte, Nat.reduceEqDiff, reduceCtorEq, Nat.reduceAdd, Nat.reduceSub, Nat.reduceLT, decide_true, decide_false, Bool.not_true, Bool.not_false, Int.toNat_one, Int.toNat_zero, Nat.zero_mul, l_g, endK, gd_u]
    unfold L57_2
    simp -implicitDefEqProofs (maxSteps := 1000000) (disch := first | omega | assumption) only [h0, h3, h4, h10, h12, h13, ev_sla_lo, Int.toNat_natCast, hb, Sx, reduceIte, Nat.reduceEqDiff, reduceCtorEq, Nat.reduceAdd, Nat.reduceSub, Nat.reduceLT, decide_true, decide_false, Bool.not_true, Bool.not_false, Int.toNat_one, Int.toNat_zero, Nat.zero_mul, l_g, endK, gd_u]
    exact hq _ _ (by simp -implicitDefEqProofs (maxSteps := 1000000) (disch := first | omega | assumption) only [h10, Sx, reduceIte, Nat.reduceEqDiff, reduceCtorEq, Nat.reduceAdd, Nat.reduceSub, Nat.reduceLT]) (by simp -implicitDefEqProofs (maxSteps := 1000000) (disch := first | omega | assumption) only [Sx, reduceIte, Nat.reduceEqDiff, reduceCtorEq, Nat.reduceAdd, Nat.reduceSub, Nat.reduceLT]; rfl) ⟨_, rfl⟩
  | true =>
    have e1 : ((65 - k : Nat) : Int) - 1 = ((64 - k : Nat) : Int) := by omega
    have hc : (0 : Int) ≤ ((64 - k : Nat) : Int) ∧ ((64 - k : Nat) : Int) < ((65 : Nat) : Int) := by omega
    have hc2 : (0 : Int) ≤ ((64 - k : Nat) : Int) ∧ ((64 - k : Nat) : Int) ≤ ((65 : Nat) : Int) := by omega
    simp -implicitDefEqProofs (maxSteps := 1000000) (disch := first | omega | assumption) only [h0, h3, h4, h10, h12, h13, e1, ev_iada, Int.toNat_natCast, Sx, reduceIte, Nat.reduceEqDiff, reduceCtorEq, Nat.reduceAdd, Nat.reduceSub, Nat.reduceLT, decide_true, decide_false, Bool.not_true, Bool.not_false, Int.toNat_one, Int.toNat_zero, Nat.zero_mul, l_g, endK, gd_u]
    refine st_one set_same (by rw [List.size_toArray, hl]; omega) rfl ?_
    rw [set_set, List.setIfInBounds_toArray]
    have hd2 : (cs.set (64 - k) (.int .u8 45)).drop (64 - k) = by8 (45 :: od k u0) := by
      rw [List.drop_eq_getElem_cons (by rw [List.length_set]; omega), List.getElem_set_self, List.drop_set_of_lt (by omega), show 64 - k + 1 = 65 - k by omega, hd]
      rfl
    have hb := ev_b2s_set (H1 := H1) (r := r) (by rw [List.length_set]; exact hl) (by omega : 64 - k ≤ 65) hd2
    generalize cs.set (64 - k) (.int .u8 45) = cs2 at hb ⊢
    try simp -implicitDefEqProofs (maxSteps := 1000000) (disch := first | omega | assumption) only [h0, h3, h4, h10, h12, h13, Sx, reduceIte, Nat.reduceEqDiff, reduceCtorEq, Nat.reduceAdd, Nat.reduceSub, Nat.reduceLT, decide_true, decide_false, Bool.not_true, Bool.not_false, Int.toNat_one, Int.toNat_zero, Nat.zero_mul, l_g, endK, gd_u]
    unfold L57_2
    simp -implicitDefEqProofs (maxSteps := 1000000) (disch := first | omega | assumption) only [h0, h3, h4, h10, h12, h13, ev_sla_lo, Int.toNat_natCast, hb, Sx, reduceIte, Nat.reduceEqDiff, reduceCtorEq, Nat.reduceAdd, Nat.reduceSub, Nat.reduceLT, decide_true, decide_false, Bool.not_true, Bool.not_false, Int.toNat_one, Int.toNat_zero, Nat.zero_mul, l_g, endK, gd_u]
    exact hq _ _ (by simp -implicitDefEqProofs (maxSteps := 1000000) (disch := first | omega | assumption) only [h10, Sx, reduceIte, Nat.reduceEqDiff, reduceCtorEq, Nat.reduceAdd, Nat.reduceSub, Nat.reduceLT]) (by simp -implicitDefEqProofs (maxSteps := 1000000) (disch := first | omega | assumption) only [Sx, reduceIte, Nat.reduceEqDiff, reduceCtorEq, Nat.reduceAdd, Nat.reduceSub, Nat.reduceLT]; rfl) ⟨_, rfl⟩

set_option maxHeartbeats 4000000 in
theorem fb_4 {H1 H : Heap} {r : Nat} {u0 : Int} {neg : Bool} {env : Env} {Q : Post} {QP : List PanicEntry → Heap → Prop} (hT : Tz H) (hu : 0 ≤ u0 ∧ u0 < 18446744073709551616) (hF : FB H1 r u0 neg 0 env H) (h1 : env 1 = .int .u64 u0) (h2 : env 2 = .int .i64 8)
    (hq : ∀ k, Few k u0 → ∀ env' H', env' 10 = .slice none 0 0 → env' 11 = .string ⟨(txt ((if neg then [45] else []) ++ od k u0)).toArray⟩ → (∃ o, H' = H1.set r o) → Q .ret env' H') : awpC Tryd.prog L57_4 Q QP env H := by
  unfold L57_4
  obtain ⟨h0, h3, h4, h10, h12, h13, cs0, hl0, hd0, hH⟩ := hF
  have w8 : IntKind.u64.wrap 8 = 8 := by decide
  have w3 : IntKind.u64.wrap 3 = 3 := by decide
  have w7 : IntKind.u64.wrap (8 - 1) = 7 := by decide
  simp -implicitDefEqProofs (maxSteps := 1000000) (disch := first | omega | assumption) only [h0, h1, h2, h3, h4, h10, h12, h13, Sx, reduceIte, Nat.reduceEqDiff, reduceCtorEq, Nat.reduceAdd, Nat.reduceSub, Nat.reduceLT, decide_true, decide_false, Bool.not_true, Bool.not_false, Int.toNat_one, Int.toNat_zero, Nat.zero_mul, l_g, endK, gd_u]
  refine a_call pow2_spec ?_
  rintro e H2 ⟨rfl, rfl⟩
  simp -implicitDefEqProofs (maxSteps := 1000000) (disch := first | omega | assumption) only [h0, h1, h2, h3, h4, h10, h12, h13, w8, Sx, reduceIte, Nat.reduceEqDiff, reduceCtorEq, Nat.reduceAdd, Nat.reduceSub, Nat.reduceLT, decide_true, decide_false, Bool.not_true, Bool.not_false, Int.toNat_one, Int.toNat_zero, Nat.zero_mul, l_g, endK, gd_u]
  refine a_call (tz0_spec hT) ?_
  rintro e H2 ⟨rfl, rfl⟩
  simp -implicitDefEqProofs (maxSteps := 1000000) (disch := first | omega | assumption) only [h0, h1, h2, h3, h4, h10, h12, h13, w8, w3, w7, Sx, reduceIte, Nat.reduceEqDiff, reduceCtorEq, Nat.reduceAdd, Nat.reduceSub, Nat.reduceLT, decide_true, decide_false, Bool.not_true, Bool.not_false, Int.toNat_one, Int.toNat_zero, Nat.zero_mul, l_g, endK, gd_u]
  refine c_loop (fun k env H' => ∃ j, k + j = 21 ∧ FB H1 r u0 neg j env H' ∧ env 1 = .int .u64 (u0 / p8 j) ∧ env 14 = .int .u64 3 ∧ env 15 = .int .u64 8 ∧ env 16 = .int .u64 7 ∧ (j = 0 ∨ p8 j ≤ u0)) 21
    ⟨0, by omega, ⟨by simp -implicitDefEqProofs (maxSteps := 1000000) (disch := first | omega | assumption) only [h0, Sx, reduceIte, Nat.reduceEqDiff, reduceCtorEq, Nat.reduceAdd, Nat.reduceSub, Nat.reduceLT], by simp -implicitDefEqProofs (maxSteps := 1000000) (disch := first | omega | assumption) only [h3, Sx, reduceIte, Nat.reduceEqDiff, reduceCtorEq, Nat.reduceAdd, Nat.reduceSub, Nat.reduceLT], by simp -implicitDefEqProofs (maxSteps := 1000000) (disch := first | omega | assumption) only [h4, Sx, reduceIte, Nat.reduceEqDiff, reduceCtorEq, Nat.reduceAdd, Nat.reduceSub, Nat.reduceLT], by simp -implicitDefEqProofs (maxSteps := 1000000) (disch := first | omega | assumption) only [h10, Sx, reduceIte, Nat.reduceEqDiff, reduceCtorEq, Nat.reduceAdd, Nat.reduceSub, Nat.reduceLT], by simp -implicitDefEqProofs (maxSteps := 1000000) (disch := first | omega | assumption) only [h12, Sx, reduceIte, Nat.reduceEqDiff, reduceCtorEq, Nat.reduceAdd, Nat.reduceSub, Nat.reduceLT], by simp -implicitDefEqProofs (maxSteps := 1000000) (disch := first | omega | assumption) only [h13, Sx, reduceIte, Nat.reduceEqDiff, reduceCtorEq, Nat.reduceAdd, Nat.reduceSub, Nat.reduceLT], cs0, hl0, hd0, hH⟩, by rw [p8, Int.ediv_one]; simp -implicitDefEqProofs (maxSteps := 1000000) (disch := first | omega | assumption) only [h1, Sx, reduceIte, Nat.reduceEqDiff, reduceCtorEq, Nat.reduceAdd, Nat.reduceSub, Nat.reduceLT], by simp -implicitDefEqProofs (maxSteps := 1000000) (disch := first | omega | assumption) only [Sx, reduceIte, Nat.reduceEqDiff, reduceCtorEq, Nat.reduceAdd, Nat.reduceSub, Nat.reduceLT], by simp -implicitDefEqProofs (maxSteps := 1000000) (disch := first | omega | assumption) only [Sx, reduceIte, Nat.reduceEqDiff, reduceCtorEq, Nat.reduceAdd, Nat.reduceSub, Nat.reduceLT], by simp -implicitDefEqProofs (maxSteps := 1000000) (disch := first | omega | assumption) only [Sx, reduceIte, Nat.reduceEqDiff, reduceCtorEq, Nat.reduceAdd, Nat.reduceSub, Nat.reduceLT], .inl rfl⟩ ?_
  rintro k env2 H3 ⟨j, hk, ⟨g0, g3, g4, g10, g12, g13, cs, hl, hd, rfl⟩, g1, g14, g15, g16, hfew⟩
  unfold L57_0
  have hdiv0 : 0 ≤ u0 / p8 j := Int.ediv_nonneg hu.1 (by have := p8_pos j; omega)
  have hdiv1 : u0 / p8 j ≤ u0 := Int.ediv_le_self _ hu.1
  have e1 : ((65 - j : Nat) : Int) - 1 = ((64 - j : Nat) : Int) := by omega
  have hc : (0 : Int) ≤ ((64 - j : Nat) : Int) ∧ ((64 - j : Nat) : Int) < ((65 : Nat) : Int) := by omega
  have hput := digit_put hl (by omega : j ≤ 64) hd
  by_cases h8 : 8 ≤ u0 / p8 j
  · have f0 : decide ((8 : Int) ≤ u0 / p8 j) = true := decide_eq_true h8
    have a7 := and7 (u := u0 / p8 j) (by omega)
    have hdig := dig_at (H := H1.set r (.cells cs.toArray T65 (0, 0))) (d := u0 / p8 j % 8) (by omega)
    have hfd : (u0 / p8 j).fdiv (2 ^ min (3 : Int).toNat 64) = u0 / p8 (j + 1) := by
      rw [show (2 : Int) ^ min (3 : Int).toNat 64 = 8 by decide, Int.fdiv_eq_ediv_of_nonneg _ (by omega), p8_div]
    have hge : p8 (j + 1) ≤ u0 := by
      have h9 := (Int.le_ediv_iff_mul_le (p8_pos j)).1 h8
      rw [p8, Int.mul_comm]; exact h9
    have hj20 : j + 1 ≤ 21 := p8_small (by omega)
    simp -implicitDefEqProofs (maxSteps := 1000000) (disch := first | omega | assumption) only [g0, g1, g3, g4, g10, g12, g13, g14, g15, g16, f0, e1, a7, hdig, ev_iada, Int.toNat_natCast, Sx, reduceIte, Nat.reduceEqDiff, reduceCtorEq, Nat.reduceAdd, Nat.reduceSub, Nat.reduceLT, decide_true, decide_false, Bool.not_true, Bool.not_false, Int.toNat_one, Int.toNat_zero, Nat.zero_mul, l_g, endK, gd_u]
    refine st_one set_same (by rw [List.size_toArray, hl]; omega) rfl ?_
    rw [set_set, List.setIfInBounds_toArray]
    simp -implicitDefEqProofs (maxSteps := 1000000) (disch := first | omega | assumption) only [g0, g1, g3, g4, g10, g12, g13, g14, g15, g16, v_shr, bits_u64, hfd, Sx, reduceIte, Nat.reduceEqDiff, reduceCtorEq, Nat.reduceAdd, Nat.reduceSub, Nat.reduceLT, decide_true, decide_false, Bool.not_true, Bool.not_false, Int.toNat_one, Int.toNat_zero, Nat.zero_mul, l_g, endK, gd_u]
    refine ⟨k - 1, by omega, j + 1, by omega, ⟨by trivial, by trivial, by trivial, by trivial, by trivial, ?_, cs.set (64 - j) (.int .u8 (48 + u0 / p8 j % 8)), by rw [List.length_set]; exact hl, hput, rfl⟩, by trivial, by trivial, by trivial, by trivial, .inr hge⟩
    rw [show 65 - (j + 1) = 64 - j by omega]
    simp -implicitDefEqProofs (maxSteps := 1000000) (disch := first | omega | assumption) only [Sx, reduceIte, Nat.reduceEqDiff, reduceCtorEq, Nat.reduceAdd, Nat.reduceSub, Nat.reduceLT]
  · have f0 : decide ((8 : Int) ≤ u0 / p8 j) = false := decide_eq_false h8
    obtain ⟨hfw, hj21⟩ := few_of hu.1 hu.2 (by omega) hfew
    have hdig := dig_at (H := H1.set r (.cells cs.toArray T65 (0, 0))) (d := u0 / p8 j) (by omega)
    have hmod : u0 / p8 j % 8 = u0 / p8 j := Int.emod_eq_of_lt hdiv0 (by omega)
    rw [hmod] at hput
    simp -implicitDefEqProofs (maxSteps := 1000000) (disch := first | omega | assumption) only [g0, g1, g3, g4, g10, g12, g13, g14, g15, g16, f0, e1, hdig, ev_iada, Int.toNat_natCast, Sx, reduceIte, Nat.reduceEqDiff, reduceCtorEq, Nat.reduceAdd, Nat.reduceSub, Nat.reduceLT, decide_true, decide_false, Bool.not_true, Bool.not_false, Int.toNat_one, Int.toNat_zero, Nat.zero_mul, l_g, endK, gd_u]
    refine st_one set_same (by rw [List.size_toArray, hl]; omega) rfl ?_
    rw [set_set, List.setIfInBounds_toArray]
    try simp -implicitDefEqProofs (maxSteps := 1000000) (disch := first | omega | assumption) only [g0, g1, g3, g4, g10, g12, g13, g14, g15, g16, Sx, reduceIte, Nat.reduceEqDiff, reduceCtorEq, Nat.reduceAdd, Nat.reduceSub, Nat.reduceLT, decide_true, decide_false, Bool.not_true, Bool.not_false, Int.toNat_one, Int.toNat_zero, Nat.zero_mul, l_g, endK, gd_u]
    refine fb_end (k := j + 1) (by omega) (by omega) ⟨by simp -implicitDefEqProofs (maxSteps := 1000000) (disch := first | omega | assumption) only [g0, Sx, reduceIte, Nat.reduceEqDiff, reduceCtorEq, Nat.reduceAdd, Nat.reduceSub, Nat.reduceLT], by simp -implicitDefEqProofs (maxSteps := 1000000) (disch := first | omega | assumption) only [g3, Sx, reduceIte, Nat.reduceEqDiff, reduceCtorEq, Nat.reduceAdd, Nat.reduceSub, Nat.reduceLT], by simp -implicitDefEqProofs (maxSteps := 1000000) (disch := first | omega | assumption) only [g4, Sx, reduceIte, Nat.reduceEqDiff, reduceCtorEq, Nat.reduceAdd, Nat.reduceSub, Nat.reduceLT], by simp -implicitDefEqProofs (maxSteps := 1000000) (disch := first | omega | assumption) only [g10, Sx, reduceIte, Nat.reduceEqDiff, reduceCtorEq, Nat.reduceAdd, Nat.reduceSub, Nat.reduceLT], by simp -implicitDefEqProofs (maxSteps := 1000000) (disch := first | omega | assumption) only [g12, Sx, reduceIte, Nat.reduceEqDiff, reduceCtorEq, Nat.reduceAdd, Nat.reduceSub, Nat.reduceLT], by rw [show 65 - (j + 1) = 64 - j by omega]; simp -implicitDefEqProofs (maxSteps := 1000000) (disch := first | omega | assumption) only [Sx, reduceIte, Nat.reduceEqDiff, reduceCtorEq, Nat.reduceAdd, Nat.reduceSub, Nat.reduceLT], _, by rw [List.length_set]; exact hl, hput, rfl⟩ (hq _ hfw)
theorem rep65 : (Array.replicate 65 (Value.int .u8 0)) = (List.replicate 65 (Value.int .u8 0)).toArray := by
  apply Array.ext'
  rw [Array.toList_replicate]
set_option maxHeartbeats 4000000 in
theorem fbits_spec {H : Heap} {u0 u1 : Int} {neg : Bool} (hT : Tz H) (hu : 0 ≤ u0 ∧ u0 < 18446744073709551616) (hu1 : u1 = if neg then IntKind.u64.wrap (0 - u0) else u0) :
    ACalls Tryd.prog 57 [Value.slice none 0 0, .int .u64 u0, .int .i64 8, .bool neg, .bool false].toArray H fun e H' => ∃ k, Few k u1 ∧ e = .returned (.tuple #[.slice none 0 0, .string ⟨(txt ((if neg then [45] else []) ++ od k u1)).toArray⟩]) ∧ Keep H H' := by
  refine call57 (Nat.le_of_ble_eq_true rfl) ?_
  unfold L57 env0
  have f0 : decide ((8 : Int) < 2) = false := by decide
  have f1 : ((8 : Int) == 10) = false := by decide
  have f2 : decide ((36 : Int) < 8) = false := by decide
  have hu1b : 0 ≤ u1 ∧ u1 < 18446744073709551616 := by
    rw [hu1]
    cases neg with
    | false => exact hu
    | true =>
      simp only [if_true]
      unfold IntKind.wrap IntKind.bits IntKind.signed
      simp only [Bool.false_and, Bool.false_eq_true, if_false]
      have : (2 ^ 64 : Int) = 18446744073709551616 := by decide
      omega
  simp -implicitDefEqProofs (maxSteps := 1000000) (disch := first | omega | assumption) only [f0, f1, f2, Sx, reduceIte, Nat.reduceEqDiff, reduceCtorEq, Nat.reduceAdd, Nat.reduceSub, Nat.reduceLT, decide_true, decide_false, Bool.not_true, Bool.not_false, Int.toNat_one, Int.toNat_zero, Nat.zero_mul, l_g, endK, gd_u]
  unfold L57_5
  simp -implicitDefEqProofs (maxSteps := 1000000) (disch := first | omega | assumption) only [Sx, reduceIte, Nat.reduceEqDiff, reduceCtorEq, Nat.reduceAdd, Nat.reduceSub, Nat.reduceLT]
  refine a_new ?_
  intro r hr
  rw [rep65]
  have hkeep : ∀ o, Keep H (H.set r o) := fun o => (Keep.refl H).set_new hr
  have fin : ∀ k, Few k u1 → ∀ env' H', env' 10 = .slice none 0 0 → env' 11 = .string ⟨(txt ((if neg then [45] else []) ++ od k u1)).toArray⟩ → (∃ o, H' = H.set r o) → retQ [.t 10, .t 11] (fun e H' => ∃ k, Few k u1 ∧ e = .returned (.tuple #[.slice none 0 0, .string ⟨(txt ((if neg then [45] else []) ++ od k u1)).toArray⟩]) ∧ Keep H H') .ret env' H' := by
    rintro k hk env' H' e10 e11 ⟨o, rfl⟩
    simp -implicitDefEqProofs (maxSteps := 1000000) (disch := first | omega | assumption) only [e10, e11, Sx, reduceIte, Nat.reduceEqDiff, reduceCtorEq, Nat.reduceAdd, Nat.reduceSub, Nat.reduceLT]
    exact ⟨k, hk, rfl, hkeep o⟩
  cases neg with
  | false =>
    simp only [Bool.false_eq_true, if_false] at hu1
    subst hu1
    try simp -implicitDefEqProofs (maxSteps := 1000000) (disch := first | omega | assumption) only [Sx, reduceIte, Nat.reduceEqDiff, reduceCtorEq, Nat.reduceAdd, Nat.reduceSub, Nat.reduceLT, decide_true, decide_false, Bool.not_true, Bool.not_false, Int.toNat_one, Int.toNat_zero, Nat.zero_mul, l_g, endK, gd_u]
    refine fb_4 (H1 := H) (r := r) (hT.keep (hkeep _)) hu ⟨by simp -implicitDefEqProofs (maxSteps := 1000000) (disch := first | omega | assumption) only [Sx, reduceIte, Nat.reduceEqDiff, reduceCtorEq, Nat.reduceAdd, Nat.reduceSub, Nat.reduceLT], by simp -implicitDefEqProofs (maxSteps := 1000000) (disch := first | omega | assumption) only [Sx, reduceIte, Nat.reduceEqDiff, reduceCtorEq, Nat.reduceAdd, Nat.reduceSub, Nat.reduceLT], by simp -implicitDefEqProofs (maxSteps := 1000000) (disch := first | omega | assumption) only [Sx, reduceIte, Nat.reduceEqDiff, reduceCtorEq, Nat.reduceAdd, Nat.reduceSub, Nat.reduceLT], by simp -implicitDefEqProofs (maxSteps := 1000000) (disch := first | omega | assumption) only [Sx, reduceIte, Nat.reduceEqDiff, reduceCtorEq, Nat.reduceAdd, Nat.reduceSub, Nat.reduceLT], by simp -implicitDefEqProofs (maxSteps := 1000000) (disch := first | omega | assumption) only [Sx, reduceIte, Nat.reduceEqDiff, reduceCtorEq, Nat.reduceAdd, Nat.reduceSub, Nat.reduceLT], by simp -implicitDefEqProofs (maxSteps := 1000000) (disch := first | omega | assumption) only [Sx, reduceIte, Nat.reduceEqDiff, reduceCtorEq, Nat.reduceAdd, Nat.reduceSub, Nat.reduceLT]; rfl, List.replicate 65 (.int .u8 0), List.length_replicate, by rw [List.drop_of_length_le (by rw [List.length_replicate]; omega)]; rfl, rfl⟩ (by simp -implicitDefEqProofs (maxSteps := 1000000) (disch := first | omega | assumption) only [Sx, reduceIte, Nat.reduceEqDiff, reduceCtorEq, Nat.reduceAdd, Nat.reduceSub, Nat.reduceLT]) (by simp -implicitDefEqProofs (maxSteps := 1000000) (disch := first | omega | assumption) only [Sx, reduceIte, Nat.reduceEqDiff, reduceCtorEq, Nat.reduceAdd, Nat.reduceSub, Nat.reduceLT]) fin
  | true =>
    simp only [if_true] at hu1
    rw [show (0 : Int) - u0 = -u0 by omega] at hu1
    have hneg : unV .neg (.int .u64 u0) = some (.int .u64 u1) := by rw [u_neg, show (0 : Int) - u0 = -u0 by omega, hu1]
    try simp -implicitDefEqProofs (maxSteps := 1000000) (disch := first | omega | assumption) only [hneg, Sx, reduceIte, Nat.reduceEqDiff, reduceCtorEq, Nat.reduceAdd, Nat.reduceSub, Nat.reduceLT, decide_true, decide_false, Bool.not_true, Bool.not_false, Int.toNat_one, Int.toNat_zero, Nat.zero_mul, l_g, endK, gd_u]
    refine fb_4 (H1 := H) (r := r) (hT.keep (hkeep _)) hu1b ⟨by simp -implicitDefEqProofs (maxSteps := 1000000) (disch := first | omega | assumption) only [Sx, reduceIte, Nat.reduceEqDiff, reduceCtorEq, Nat.reduceAdd, Nat.reduceSub, Nat.reduceLT], by simp -implicitDefEqProofs (maxSteps := 1000000) (disch := first | omega | assumption) only [Sx, reduceIte, Nat.reduceEqDiff, reduceCtorEq, Nat.reduceAdd, Nat.reduceSub, Nat.reduceLT], by simp -implicitDefEqProofs (maxSteps := 1000000) (disch := first | omega | assumption) only [Sx, reduceIte, Nat.reduceEqDiff, reduceCtorEq, Nat.reduceAdd, Nat.reduceSub, Nat.reduceLT], by simp -implicitDefEqProofs (maxSteps := 1000000) (disch := first | omega | assumption) only [Sx, reduceIte, Nat.reduceEqDiff, reduceCtorEq, Nat.reduceAdd, Nat.reduceSub, Nat.reduceLT], by simp -implicitDefEqProofs (maxSteps := 1000000) (disch := first | omega | assumption) only [Sx, reduceIte, Nat.reduceEqDiff, reduceCtorEq, Nat.reduceAdd, Nat.reduceSub, Nat.reduceLT], by simp -implicitDefEqProofs (maxSteps := 1000000) (disch := first | omega | assumption) only [Sx, reduceIte, Nat.reduceEqDiff, reduceCtorEq, Nat.reduceAdd, Nat.reduceSub, Nat.reduceLT]; rfl, List.replicate 65 (.int .u8 0), List.length_replicate, by rw [List.drop_of_length_le (by rw [List.length_replicate]; omega)]; rfl, rfl⟩ (by simp -implicitDefEqProofs (maxSteps := 1000000) (disch := first | omega | assumption) only [Sx, reduceIte, Nat.reduceEqDiff, reduceCtorEq, Nat.reduceAdd, Nat.reduceSub, Nat.reduceLT]) (by simp -implicitDefEqProofs (maxSteps := 1000000) (disch := first | omega | assumption) only [Sx, reduceIte, Nat.reduceEqDiff, reduceCtorEq, Nat.reduceAdd, Nat.reduceSub, Nat.reduceLT]) fin
/-- FormatInt to the base 8 -/
theorem fmt8_spec {H : Heap} {n : Int} (hT : Tz H) (hn : -9223372036854775808 ≤ n ∧ n ≤ 9223372036854775807) :
    ACalls Tryd.prog 46 [Value.int .i64 n, .int .i64 8].toArray H fun e H' => ∃ s, e = .returned (.string ⟨(txt s).toArray⟩) ∧ s.length ≤ 23 ∧ (0 ≤ n → ∃ k, Few k n ∧ s = od k n) ∧ Keep H H' := by
  have inner : ACalls Tryd.prog 58 [Value.int .i64 n, .int .i64 8].toArray H fun e H' => ∃ s, e = .returned (.string ⟨(txt s).toArray⟩) ∧ s.length ≤ 23 ∧ (0 ≤ n → ∃ k, Few k n ∧ s = od k n) ∧ Keep H H' := by
    refine call58 (Nat.le_of_ble_eq_true rfl) ?_
    unfold L58 env0
    have f0 : ((8 : Int) == 10) = false := by decide
    have hu : 0 ≤ IntKind.u64.wrap n ∧ IntKind.u64.wrap n < 18446744073709551616 := by
      unfold IntKind.wrap IntKind.bits IntKind.signed
      simp only [Bool.false_and, Bool.false_eq_true, if_false]
      have : (2 ^ 64 : Int) = 18446744073709551616 := by decide
      omega
    by_cases h0 : n < 0
    · have f1 : decide (n < 0) = true := decide_eq_true h0
      simp -implicitDefEqProofs (maxSteps := 1000000) (disch := first | omega | assumption) only [f0, f1, Sx, reduceIte, Nat.reduceEqDiff, reduceCtorEq, Nat.reduceAdd, Nat.reduceSub, Nat.reduceLT, decide_true, decide_false, Bool.not_true, Bool.not_false, Int.toNat_one, Int.toNat_zero, Nat.zero_mul, l_g, endK, gd_u]
      refine a_call (fbits_spec (neg := true) hT hu rfl) ?_
      rintro e H1 ⟨k, hk, rfl, hk1⟩
      simp -implicitDefEqProofs (maxSteps := 1000000) (disch := first | omega | assumption) only [Sx, reduceIte, Nat.reduceEqDiff, reduceCtorEq, Nat.reduceAdd, Nat.reduceSub, Nat.reduceLT, decide_true, decide_false, Bool.not_true, Bool.not_false, Int.toNat_one, Int.toNat_zero, Nat.zero_mul, l_g, endK, gd_u]
      exact ⟨_, rfl, by have := hk.2.1; simp [od_len]; omega, fun h => absurd h (by omega), hk1⟩
    · have f1 : decide (n < 0) = false := decide_eq_false h0
      have hw : IntKind.u64.wrap n = n := w_u64 (by omega)
      rw [hw] at hu
      simp -implicitDefEqProofs (maxSteps := 1000000) (disch := first | omega | assumption) only [f0, f1, hw, Sx, reduceIte, Nat.reduceEqDiff, reduceCtorEq, Nat.reduceAdd, Nat.reduceSub, Nat.reduceLT, decide_true, decide_false, Bool.not_true, Bool.not_false, Int.toNat_one, Int.toNat_zero, Nat.zero_mul, l_g, endK, gd_u]
      refine a_call (fbits_spec (neg := false) hT hu rfl) ?_
      rintro e H1 ⟨k, hk, rfl, hk1⟩
      simp -implicitDefEqProofs (maxSteps := 1000000) (disch := first | omega | assumption) only [Sx, reduceIte, Nat.reduceEqDiff, reduceCtorEq, Nat.reduceAdd, Nat.reduceSub, Nat.reduceLT, decide_true, decide_false, Bool.not_true, Bool.not_false, Int.toNat_one, Int.toNat_zero, Nat.zero_mul, l_g, endK, gd_u]
      exact ⟨_, rfl, by have := hk.2.1; simp [od_len]; omega, fun h => ⟨k, hk, rfl⟩, hk1⟩
  refine call46 (Nat.le_of_ble_eq_true rfl) ?_
  unfold L46 env0
  simp -implicitDefEqProofs (maxSteps := 1000000) (disch := first | omega | assumption) only [Sx, reduceIte, Nat.reduceEqDiff, reduceCtorEq, Nat.reduceAdd, Nat.reduceSub, Nat.reduceLT]
  refine a_call inner ?_
  rintro e H1 ⟨s, rfl, h1, h2, hk1⟩
  simp -implicitDefEqProofs (maxSteps := 1000000) (disch := first | omega | assumption) only [Sx, reduceIte, Nat.reduceEqDiff, reduceCtorEq, Nat.reduceAdd, Nat.reduceSub, Nat.reduceLT, decide_true, decide_false, Bool.not_true, Bool.not_false, Int.toNat_one, Int.toNat_zero, Nat.zero_mul, l_g, endK, gd_u]
  exact ⟨s, rfl, h1, h2, hk1⟩
end Go.Proofs.YthflafgijfbpnaaDoor.S12

/-
  PutOctal, of both.
-/
set_option linter.unusedVariables false
set_option linter.unusedSimpArgs false
namespace Go.Proofs.YthflafgijfbpnaaDoor.S12
open Go Go.RowKit Go.Proofs.YthflafgijfbpnaaDoor.Sep Go.Proofs.YthflafgijfbpnaaDoor.Low Go.Proofs.YthflafgijfbpnaaDoor.Lib

theorem txt_len (l : List Int) : (txt l).length = l.length := by simp [txt]
/-- what a writer of bytes ends with -/
def Puts (H : Heap) (r : List Int × Int) (e : Ending) (H' : Heap) : Prop := ∃ v, e = .returned (.tuple #[v, .int .i64 r.2]) ∧ Bs H' v r.1 ∧ Keep H H' ∧ Fresh H v
theorem Puts.err {H H' : Heap} {r : List Int × Int} {n : Int} (hk : Keep H H') (h : r = ([], n)) : Puts H r (.returned (.tuple #[.slice none 0 0, .int .i64 n])) H' :=
  ⟨_, by rw [h], by rw [h]; exact .nil, hk, fun q hq => by cases hq⟩
theorem a_s2b {P : Program} {H : Heap} {ds : List Int} {KV : Value → Heap → Prop} {KP : List PanicEntry → Heap → Prop} (hb : isBy ds)
    (hk : ∀ r c H', Bs H' (.slice (some ⟨r, 0, none⟩) ds.length c) ds → Keep H H' → H r = none → KV (.slice (some ⟨r, 0, none⟩) ds.length c) H') : awpE P (.s2b 5) [.string ⟨(txt ds).toArray⟩] KV KP H := by
  refine (show ∀ r c, (⟨(txt ds).toArray⟩ : ByteArray).size ≤ c → H r = none → KV (.slice (some ⟨r, 0, none⟩) (⟨(txt ds).toArray⟩ : ByteArray).size c) (H.set r (.cells (((⟨(txt ds).toArray⟩ : ByteArray).data.map fun b => .int .u8 b.toNat) ++ Array.replicate (c - (⟨(txt ds).toArray⟩ : ByteArray).size) (.int .u8 0)) 5 (c, c + 1))) from ?_)
  intro r c hc hr
  rw [t_size, txt_len] at hc ⊢
  refine hk r c _ (.at (f := (c, c + 1)) (rest := List.replicate (c - ds.length) (.int .u8 0)) ?_ (.inr ?_) (by simp) (by simp) hc) ((Keep.refl H).set_new hr) hr
  · rw [set_same]
    congr 2
    apply Array.ext'
    simp only [Array.toList_append, Array.toList_map, Array.toList_replicate]
    congr 1
    rw [by8]
    conv => rhs; rw [← txt_nat hb]
    rw [List.map_map]
    rfl
  · simp; omega
theorem rep48 : ∀ m : Nat, Go.Lib.repeatL [48] m = List.replicate m 48
  | 0 => rfl
  | m + 1 => by rw [Go.Lib.repeatL, rep48 m, List.replicate_succ]; rfl
theorem repeat_spec {H : Heap} {m : Nat} (hm : m ≤ 1048576) : ACalls Tryd.prog 47 [Value.string ⟨#[48]⟩, .int .i64 m].toArray H fun e H' => e = .returned (.string ⟨(txt (List.replicate m 48)).toArray⟩) ∧ H' = H :=
  acalls_below fun w _ => (Tryd.strings_Repeat ⟨#[48]⟩ m w (by omega) (by show 1 * m ≤ _; omega)).mono fun e w' h => by
    refine ⟨?_, h.2⟩
    rw [h.1]
    have : Go.Lib.repeatL ((⟨#[48]⟩ : ByteArray)).data.toList m = txt (List.replicate m 48) := by
      rw [txt, List.map_replicate]
      exact rep48 m
    rw [this]
set_option maxHeartbeats 4000000 in
theorem putOctal_spec {H : Heap} {n w : Int} (hT : Tz H) (hn : -9223372036854775808 ≤ n ∧ n ≤ 9223372036854775807) (hw : -9223372036854775808 ≤ w ∧ w ≤ 9223372036854775807) :
    ACalls Tryd.prog 40 [Value.int .i64 n, .int .i64 w].toArray H fun e H' => Puts H (putO n w) e H' := by
  refine call40 (Nat.le_of_ble_eq_true rfl) ?_
  unfold L40 env0
  by_cases h1 : w < 2
  · have f0 : decide (w < 2) = true := decide_eq_true h1
    simp -implicitDefEqProofs (maxSteps := 1000000) (disch := first | omega | assumption) only [f0, Sx, reduceIte, Nat.reduceEqDiff, reduceCtorEq, Nat.reduceAdd, Nat.reduceSub, Nat.reduceLT, decide_true, decide_false, Bool.not_true, Bool.not_false, Int.toNat_one, Int.toNat_zero, Nat.zero_mul, l_g, endK, gd_u]
    exact .err (Keep.refl _) (by unfold putO; rw [if_pos (.inl h1)])
  have f0 : decide (w < 2) = false := decide_eq_false h1
  by_cases h2 : 512 < w
  · have f1 : decide (512 < w) = true := decide_eq_true h2
    simp -implicitDefEqProofs (maxSteps := 1000000) (disch := first | omega | assumption) only [f0, f1, Sx, reduceIte, Nat.reduceEqDiff, reduceCtorEq, Nat.reduceAdd, Nat.reduceSub, Nat.reduceLT, decide_true, decide_false, Bool.not_true, Bool.not_false, Int.toNat_one, Int.toNat_zero, Nat.zero_mul, l_g, endK, gd_u]
    exact .err (Keep.refl _) (by unfold putO; rw [if_pos (.inr h2)])
  have f1 : decide (512 < w) = false := decide_eq_false h2
  have hput : putO n w = if n < 0 ∨ p8 (w.toNat - 1) ≤ n then ([], 122) else (od (w.toNat - 1) n ++ [0], 0) := by unfold putO; rw [if_neg (by omega)]
  simp -implicitDefEqProofs (maxSteps := 1000000) (disch := first | omega | assumption) only [f0, f1, Sx, reduceIte, Nat.reduceEqDiff, reduceCtorEq, Nat.reduceAdd, Nat.reduceSub, Nat.reduceLT, decide_true, decide_false, Bool.not_true, Bool.not_false, Int.toNat_one, Int.toNat_zero, Nat.zero_mul, l_g, endK, gd_u]
  refine a_call (fmt8_spec hT hn) ?_
  rintro e H1 ⟨s, rfl, hs23, hs, hk1⟩
  by_cases h3 : n < 0
  · have f2 : decide (n < 0) = true := decide_eq_true h3
    simp -implicitDefEqProofs (maxSteps := 1000000) (disch := first | omega | assumption) only [f2, Sx, reduceIte, Nat.reduceEqDiff, reduceCtorEq, Nat.reduceAdd, Nat.reduceSub, Nat.reduceLT, decide_true, decide_false, Bool.not_true, Bool.not_false, Int.toNat_one, Int.toNat_zero, Nat.zero_mul, l_g, endK, gd_u]
    exact .err hk1 (by rw [hput, if_pos (.inl h3)])
  have f2 : decide (n < 0) = false := decide_eq_false h3
  obtain ⟨k, hfew, rfl⟩ := hs (by omega)
  have hsl := od_len k n
  have hle := few_le hfew (w := w.toNat - 1) (by omega)
  by_cases h4 : w.toNat - 1 < k
  · have f3 : decide (w - 1 < (k : Int)) = true := decide_eq_true (by omega)
    simp -implicitDefEqProofs (maxSteps := 1000000) (disch := first | omega | assumption) only [f2, f3, t_size, txt_len, hsl, Sx, reduceIte, Nat.reduceEqDiff, reduceCtorEq, Nat.reduceAdd, Nat.reduceSub, Nat.reduceLT, decide_true, decide_false, Bool.not_true, Bool.not_false, Int.toNat_one, Int.toNat_zero, Nat.zero_mul, l_g, endK, gd_u]
    have hbig : p8 (w.toNat - 1) ≤ n := by
      apply Decidable.byContradiction
      intro h
      have := hle.2 (by omega)
      omega
    exact .err hk1 (by rw [hput, if_pos (.inr hbig)])
  · have f3 : decide (w - 1 < (k : Int)) = false := decide_eq_false (by omega)
    have hlt := hle.1 (by omega)
    have hm : w - 1 - (k : Int) = ((w.toNat - 1 - k : Nat) : Int) := by omega
    simp -implicitDefEqProofs (maxSteps := 1000000) (disch := first | omega | assumption) only [f2, f3, t_size, txt_len, hsl, hm, Sx, reduceIte, Nat.reduceEqDiff, reduceCtorEq, Nat.reduceAdd, Nat.reduceSub, Nat.reduceLT, decide_true, decide_false, Bool.not_true, Bool.not_false, Int.toNat_one, Int.toNat_zero, Nat.zero_mul, l_g, endK, gd_u]
    refine a_call (repeat_spec (by omega)) ?_
    rintro e H2 ⟨rfl, rfl⟩
    have hpad := od_pad k (by omega : 0 ≤ n) hfew.2.2.1 (w.toNat - 1 - k)
    rw [show k + (w.toNat - 1 - k) = w.toNat - 1 by omega] at hpad
    have hcat : txt (List.replicate (w.toNat - 1 - k) 48) ++ txt (od k n) = txt (od (w.toNat - 1) n) := by rw [hpad, txt_append]
    have hcl : (txt (List.replicate (w.toNat - 1 - k) 48)).length + (txt (od k n)).length ≤ 9223372036854775807 := by rw [txt_len, txt_len, hsl, List.length_replicate]; omega
    simp -implicitDefEqProofs (maxSteps := 1000000) (disch := first | omega | assumption) only [v_cat, hcat, Sx, reduceIte, Nat.reduceEqDiff, reduceCtorEq, Nat.reduceAdd, Nat.reduceSub, Nat.reduceLT, decide_true, decide_false, Bool.not_true, Bool.not_false, Int.toNat_one, Int.toNat_zero, Nat.zero_mul, l_g, endK, gd_u]
    refine a_s2b (od_by _ _) ?_
    intro r3 c3 H3 hO3 hk3 hr3
    try simp -implicitDefEqProofs (maxSteps := 1000000) (disch := first | omega | assumption) only [Sx, reduceIte, Nat.reduceEqDiff, reduceCtorEq, Nat.reduceAdd, Nat.reduceSub, Nat.reduceLT, decide_true, decide_false, Bool.not_true, Bool.not_false, Int.toNat_one, Int.toNat_zero, Nat.zero_mul, l_g, endK, gd_u]
    refine lits_b1 ?_
    intro r4 H4 hO4 hk4 hr4
    try simp -implicitDefEqProofs (maxSteps := 1000000) (disch := first | omega | assumption) only [Sx, reduceIte, Nat.reduceEqDiff, reduceCtorEq, Nat.reduceAdd, Nat.reduceSub, Nat.reduceLT, decide_true, decide_false, Bool.not_true, Bool.not_false, Int.toNat_one, Int.toNat_zero, Nat.zero_mul, l_g, endK, gd_u]
    refine app_b1 (hO3.keep hk4) (by rw [od_len]; simp; omega) (own_by hO4) ?_
    intro v5 H5 hO5 ho5 hm5
    have hF3 : Fresh H2 (.slice (some ⟨r3, 0, none⟩) (od (w.toNat - 1) n).length c3) := fun q hq => by cases hq; exact hr3
    have hsv := hO5.scalar
    try simp -implicitDefEqProofs (maxSteps := 1000000) (disch := first | omega | assumption) only [Sx, reduceIte, Nat.reduceEqDiff, reduceCtorEq, Nat.reduceAdd, Nat.reduceSub, Nat.reduceLT, decide_true, decide_false, Bool.not_true, Bool.not_false, Int.toNat_one, Int.toNat_zero, Nat.zero_mul, l_g, endK, gd_u]
    refine ⟨v5, by rw [hput, if_neg (by omega)], by rw [hput, if_neg (by omega)]; exact hO5, hk1.trans (ho5.keep (hk3.trans hk4) hF3), fun q hq => hk1.none (hm5.fresh (hk3.trans hk4) hF3 q hq)⟩

theorem width_spec {H : Heap} {w : Int} : ACalls Tryd.prog 65 [Value.int .i64 w].toArray H fun e H' => e = .returned (.bool (decide (2 ≤ w ∧ w ≤ 512))) ∧ H' = H := by
  refine call65 (Nat.le_of_ble_eq_true rfl) ?_
  unfold L65 env0
  by_cases h1 : 2 ≤ w
  · have f0 : decide (2 ≤ w) = true := decide_eq_true h1
    have f1 : decide (2 ≤ w ∧ w ≤ 512) = decide (w ≤ 512) := by
      by_cases h2 : w ≤ 512
      · rw [decide_eq_true h2, decide_eq_true ⟨h1, h2⟩]
      · rw [decide_eq_false h2, decide_eq_false (fun h => h2 h.2)]
    rw [f1]
    simp -implicitDefEqProofs (maxSteps := 1000000) (disch := first | omega | assumption) only [f0, Sx, reduceIte, Nat.reduceEqDiff, reduceCtorEq, Nat.reduceAdd, Nat.reduceSub, Nat.reduceLT, decide_true, decide_false, Bool.not_true, Bool.not_false, Int.toNat_one, Int.toNat_zero, Nat.zero_mul, l_g, endK, gd_u]
    exact ⟨by trivial, by trivial⟩
  · have f0 : decide (2 ≤ w) = false := decide_eq_false h1
    have f1 : decide (2 ≤ w ∧ w ≤ 512) = false := decide_eq_false (fun h => h1 h.1)
    rw [f1]
    simp -implicitDefEqProofs (maxSteps := 1000000) (disch := first | omega | assumption) only [f0, Sx, reduceIte, Nat.reduceEqDiff, reduceCtorEq, Nat.reduceAdd, Nat.reduceSub, Nat.reduceLT, decide_true, decide_false, Bool.not_true, Bool.not_false, Int.toNat_one, Int.toNat_zero, Nat.zero_mul, l_g, endK, gd_u]
    exact ⟨by trivial, by trivial⟩
theorem zeros_by (n : Nat) : (List.replicate n (#[Value.int .u8 0] : Array Value).toList).flatten = by8 (List.replicate n 0) := by
  rw [by8, List.map_replicate]
  induction n with
  | zero => rfl
  | succ n ih => rw [List.replicate_succ, List.flatten_cons, ih, List.replicate_succ]; rfl
/-- a byte of a list of our own is stored -/
theorem a_put {P : Program} {H : Heap} {l : List Int} {r len c j : Nat} {x : Int} {KV : Value → Heap → Prop} {KP : List PanicEntry → Heap → Prop} (hO : Bs H (.slice (some ⟨r, 0, none⟩) len c) l) (hj : j < l.length)
    (hk : ∀ H', Bs H' (.slice (some ⟨r, 0, none⟩) len c) (l.set j x) → Oth H (.slice (some ⟨r, 0, none⟩) len c) H' → KV undef H') : awpE P (.st 1) [.pointer (some ⟨r, j, none⟩), .int .u8 x] KV KP H := by
  refine a_storeC hO (j := j) (by simpa using hj) rfl ?_
  intro H' h1 h2
  refine hk H' ?_ h2
  show Own H' _ 1 _ _
  rw [by8, List.map_set]
  exact h1
set_option maxHeartbeats 4000000 in
theorem rputOctal_spec {H : Heap} {n w : Int} (hn : -9223372036854775808 ≤ n ∧ n ≤ 9223372036854775807) (hw : -9223372036854775808 ≤ w ∧ w ≤ 9223372036854775807) :
    ACalls Tryd.prog 49 [Value.int .i64 n, .int .i64 w].toArray H fun e H' => Puts H (putO n w) e H' := by
  refine call49 (Nat.le_of_ble_eq_true rfl) ?_
  unfold L49 env0
  simp -implicitDefEqProofs (maxSteps := 1000000) (disch := first | omega | assumption) only [Sx, reduceIte, Nat.reduceEqDiff, reduceCtorEq, Nat.reduceAdd, Nat.reduceSub, Nat.reduceLT]
  refine a_call width_spec ?_
  rintro e H1 ⟨rfl, rfl⟩
  by_cases h1 : 2 ≤ w ∧ w ≤ 512
  case neg =>
    rw [decide_eq_false h1]
    simp -implicitDefEqProofs (maxSteps := 1000000) (disch := first | omega | assumption) only [Sx, reduceIte, Nat.reduceEqDiff, reduceCtorEq, Nat.reduceAdd, Nat.reduceSub, Nat.reduceLT, decide_true, decide_false, Bool.not_true, Bool.not_false, Int.toNat_one, Int.toNat_zero, Nat.zero_mul, l_g, endK, gd_u]
    exact .err (Keep.refl _) (by unfold putO; rw [if_pos (by omega)])
  rw [decide_eq_true h1]
  have hput : putO n w = if n < 0 ∨ p8 (w.toNat - 1) ≤ n then ([], 122) else (od (w.toNat - 1) n ++ [0], 0) := by unfold putO; rw [if_neg (by omega)]
  by_cases h3 : n < 0
  · have f2 : decide (n < 0) = true := decide_eq_true h3
    simp -implicitDefEqProofs (maxSteps := 1000000) (disch := first | omega | assumption) only [f2, Sx, reduceIte, Nat.reduceEqDiff, reduceCtorEq, Nat.reduceAdd, Nat.reduceSub, Nat.reduceLT, decide_true, decide_false, Bool.not_true, Bool.not_false, Int.toNat_one, Int.toNat_zero, Nat.zero_mul, l_g, endK, gd_u]
    exact .err (Keep.refl _) (by rw [hput, if_pos (.inl h3)])
  have f2 : decide (n < 0) = false := decide_eq_false h3
  obtain ⟨m, hm⟩ : ∃ m : Nat, w = (m : Int) + 1 := ⟨w.toNat - 1, by omega⟩
  have hwm : w.toNat - 1 = m := by omega
  rw [hwm] at hput
  have hwn : w = ((m + 1 : Nat) : Int) := by omega
  rw [hwn] at hput ⊢
  simp -implicitDefEqProofs (maxSteps := 1000000) (disch := first | omega | assumption) only [f2, Sx, reduceIte, Nat.reduceEqDiff, reduceCtorEq, Nat.reduceAdd, Nat.reduceSub, Nat.reduceLT, decide_true, decide_false, Bool.not_true, Bool.not_false, Int.toNat_one, Int.toNat_zero, Nat.zero_mul, l_g, endK, gd_u]
  refine a_mks (l := m + 1) (c := m + 1) (sz := 1) (by omega) (by omega) (by omega) rfl (by omega) ?_
  intro r H2 rest hbr hW hk2 hr2
  rw [zeros_by] at hW
  have hF : Fresh H1 (.slice (some ⟨r, 0, none⟩) (m + 1) (m + 1)) := fun q hq => by cases hq; exact hr2
  have e2 : ((m + 1 : Nat) : Int) - 2 = (m : Int) - 1 := by omega
  try simp -implicitDefEqProofs (maxSteps := 1000000) (disch := first | omega | assumption) only [e2, Sx, reduceIte, Nat.reduceEqDiff, reduceCtorEq, Nat.reduceAdd, Nat.reduceSub, Nat.reduceLT, decide_true, decide_false, Bool.not_true, Bool.not_false, Int.toNat_one, Int.toNat_zero, Nat.zero_mul, l_g, endK, gd_u]
  refine c_loop (fun k env H' => ∃ j, k + j = m ∧ env 0 = .int .i64 (n / p8 j) ∧ env 6 = .slice (some ⟨r, 0, none⟩) (m + 1) (m + 1) ∧ env 7 = .int .i64 ((m : Int) - 1 - j) ∧ Bs H' (.slice (some ⟨r, 0, none⟩) (m + 1) (m + 1)) (List.replicate (m - j) 0 ++ (od j n ++ [0])) ∧ Keep H1 H') m
    ⟨0, by omega, by rw [p8, Int.ediv_one]; simp -implicitDefEqProofs (maxSteps := 1000000) (disch := first | omega | assumption) only [Sx, reduceIte, Nat.reduceEqDiff, reduceCtorEq, Nat.reduceAdd, Nat.reduceSub, Nat.reduceLT], by simp -implicitDefEqProofs (maxSteps := 1000000) (disch := first | omega | assumption) only [Sx, reduceIte, Nat.reduceEqDiff, reduceCtorEq, Nat.reduceAdd, Nat.reduceSub, Nat.reduceLT], by simp -implicitDefEqProofs (maxSteps := 1000000) (disch := first | omega | assumption) only [Sx, reduceIte, Nat.reduceEqDiff, reduceCtorEq, Nat.reduceAdd, Nat.reduceSub, Nat.reduceLT]; simp, by rw [Nat.sub_zero, show ([0] : List Int) = List.replicate 1 0 from rfl, od, List.nil_append, List.replicate_append_replicate]; exact hW, hk2⟩ ?_
  rintro k env H3 ⟨j, hk, h0, h6, h7, hO, hK⟩
  unfold L49_0
  have hd0 : 0 ≤ n / p8 j := Int.ediv_nonneg (by omega) (by have := p8_pos j; omega)
  have hd1 : n / p8 j ≤ n := Int.ediv_le_self _ (by omega)
  have hd2 : 0 ≤ n / p8 (j + 1) := Int.ediv_nonneg (by omega) (by have := p8_pos (j + 1); omega)
  have hd3 : n / p8 (j + 1) ≤ n := Int.ediv_le_self _ (by omega)
  by_cases hj : j < m
  · have f3 : decide ((0 : Int) ≤ (m : Int) - 1 - j) = true := decide_eq_true (by omega)
    have hin : (0 : Int) ≤ (m : Int) - 1 - j ∧ (m : Int) - 1 - j < ((m + 1 : Nat) : Int) := by omega
    have e3 : ((m : Int) - 1 - j).toNat = m - 1 - j := by omega
    simp -implicitDefEqProofs (maxSteps := 1000000) (disch := first | omega | assumption) only [h0, h6, h7, f3, v_rem, w_u8, e3, Sx, reduceIte, Nat.reduceEqDiff, reduceCtorEq, Nat.reduceAdd, Nat.reduceSub, Nat.reduceLT, decide_true, decide_false, Bool.not_true, Bool.not_false, Int.toNat_one, Int.toNat_zero, Nat.zero_mul, l_g, endK, gd_u]
    refine a_put hO (j := m - 1 - j) (by simp; omega) ?_
    intro H4 hO4 ho4
    have e4 : (m : Int) - 1 - j - 1 = (m : Int) - 1 - ((j + 1 : Nat) : Int) := by omega
    simp -implicitDefEqProofs (maxSteps := 1000000) (disch := first | omega | assumption) only [h0, h6, h7, e4, p8_div, Sx, reduceIte, Nat.reduceEqDiff, reduceCtorEq, Nat.reduceAdd, Nat.reduceSub, Nat.reduceLT, decide_true, decide_false, Bool.not_true, Bool.not_false, Int.toNat_one, Int.toNat_zero, Nat.zero_mul, l_g, endK, gd_u]
    refine ⟨k - 1, by omega, j + 1, by omega, by trivial, by trivial, by trivial, ?_, ho4.keep hK hF⟩
    have e5 : (List.replicate (m - j) (0 : Int) ++ (od j n ++ [0])).set (m - 1 - j) (48 + n / p8 j % 8) = List.replicate (m - (j + 1)) 0 ++ (od (j + 1) n ++ [0]) := by
      rw [show m - j = (m - (j + 1)) + 1 by omega, List.replicate_succ', List.append_assoc, List.set_append_right _ _ (by simp; omega)]
      simp only [List.length_replicate, List.singleton_append]
      rw [show m - 1 - j - (m - (j + 1)) = 0 by omega, List.set_cons_zero]
      rfl
    rw [← e5]
    exact hO4
  · have : j = m := by omega
    subst this
    have f3 : decide ((0 : Int) ≤ (j : Int) - 1 - j) = false := decide_eq_false (by omega)
    rw [Nat.sub_self, List.replicate_zero, List.nil_append] at hO
    have hp := p8_pos j
    by_cases h4 : p8 j ≤ n
    · have f4 : decide (0 < n / p8 j) = true := decide_eq_true (by
        have : 1 ≤ n / p8 j := (Int.le_ediv_iff_mul_le hp).2 (by omega)
        omega)
      simp -implicitDefEqProofs (maxSteps := 1000000) (disch := first | omega | assumption) only [h0, h6, h7, f3, f4, Sx, reduceIte, Nat.reduceEqDiff, reduceCtorEq, Nat.reduceAdd, Nat.reduceSub, Nat.reduceLT, decide_true, decide_false, Bool.not_true, Bool.not_false, Int.toNat_one, Int.toNat_zero, Nat.zero_mul, l_g, endK, gd_u]
      exact .err hK (by rw [hput, if_pos (.inr h4)])
    · have f4 : decide (0 < n / p8 j) = false := decide_eq_false (by
        have : n / p8 j = 0 := Int.ediv_eq_zero_of_lt (by omega) (by omega)
        omega)
      simp -implicitDefEqProofs (maxSteps := 1000000) (disch := first | omega | assumption) only [h0, h6, h7, f3, f4, Sx, reduceIte, Nat.reduceEqDiff, reduceCtorEq, Nat.reduceAdd, Nat.reduceSub, Nat.reduceLT, decide_true, decide_false, Bool.not_true, Bool.not_false, Int.toNat_one, Int.toNat_zero, Nat.zero_mul, l_g, endK, gd_u]
      exact ⟨_, by rw [hput, if_neg (by omega)], by rw [hput, if_neg (by omega)]; exact hO, hK, hF⟩
end Go.Proofs.YthflafgijfbpnaaDoor.S12

/-
  PutBinary and PutNumber, of both.
-/
set_option linter.unusedVariables false
set_option linter.unusedSimpArgs false
namespace Go.Proofs.YthflafgijfbpnaaDoor.S12
open Go Go.RowKit Go.Proofs.YthflafgijfbpnaaDoor.Sep Go.Proofs.YthflafgijfbpnaaDoor.Low Go.Proofs.YthflafgijfbpnaaDoor.Lib

/-- so many bytes of a number, the highest first -/
def hd : Nat → Int → List Int
  | 0, _ => []
  | j + 1, n => (n / p256 j % 256) :: hd j n
theorem hd_len : ∀ (j : Nat) (n : Int), (hd j n).length = j
  | 0, _ => rfl
  | j + 1, n => by rw [hd, List.length_cons, hd_len j n]
theorem hd_by : ∀ (j : Nat) (n : Int), isBy (hd j n)
  | 0, _ => fun x h => by cases h
  | j + 1, n => fun x h => by
    rw [hd] at h
    rcases List.mem_cons.1 h with rfl | h
    · omega
    · exact hd_by j n x h
theorem hd_bv : ∀ (j : Nat) (n : Int), bv 0 (hd j n) = n % p256 j
  | 0, n => by rw [hd, bv, p256]; omega
  | j + 1, n => by
    have hp := p256_pos j
    rw [hd, bv, bv_lin, hd_len, hd_bv j n, Int.zero_mul, Int.zero_add, p256]
    have h1 := Int.emod_add_mul_ediv n (p256 j)
    have h2 := Int.emod_add_mul_ediv (n / p256 j) 256
    have h3 : n / p256 j / 256 = n / (p256 j * 256) := Int.ediv_ediv_of_nonneg (by omega)
    have h4 := Int.emod_add_mul_ediv n (p256 j * 256)
    rw [← h3] at h4
    generalize n / p256 j = q at h1 h2 h4 ⊢
    have h5 : p256 j * q = p256 j * (q % 256) + p256 j * 256 * (q / 256) := by
      conv => lhs; rw [← h2]
      rw [Int.mul_add, Int.mul_assoc]
    rw [Int.mul_comm (q % 256)]
    omega
theorem p256_div (n : Int) (j : Nat) : n / p256 j / 256 = n / p256 (j + 1) := by
  rw [p256, Int.ediv_ediv_of_nonneg (by have := p256_pos j; omega)]
def orB : List Int → List Int
  | [] => []
  | x :: r => (x % 128 + 128) :: r
/-- what fits so many bytes -/
def inR (n : Int) (m : Nat) : Prop := -64 ≤ n / p256 m ∧ n / p256 m < 64
instance (n : Int) (m : Nat) : Decidable (inR n m) := by unfold inR; infer_instance
/-- PutBinary -/
def putB (n w : Int) : List Int × Int := if w < 2 ∨ 512 < w then ([], 1) else if inR n (w.toNat - 1) then (orB (hd w.toNat n), 0) else ([], 122)
theorem binV_or (m : Nat) (n : Int) : ∃ q : Int, binV (orB (hd (m + 1) n)) = q * p256 m + n % p256 m ∧ -64 ≤ q ∧ q < 64 ∧ (q - n / p256 m) % 128 = 0 := by
  show ∃ q : Int, bv (if 64 ≤ (n / p256 m % 256 % 128 + 128) % 128 then -1 else 0) ((if 64 ≤ (n / p256 m % 256 % 128 + 128) % 128 then n / p256 m % 256 % 128 + 128 else n / p256 m % 256 % 128 + 128 - 128) :: hd m n) = q * p256 m + n % p256 m ∧ -64 ≤ q ∧ q < 64 ∧ (q - n / p256 m) % 128 = 0
  generalize n / p256 m = t
  have e1 : (t % 256 % 128 + 128) % 128 = t % 128 := by omega
  rw [e1]
  by_cases h : 64 ≤ t % 128
  · rw [if_pos h, if_pos h]
    refine ⟨t % 128 - 128, ?_, by omega, by omega, by omega⟩
    rw [bv, bv_lin, hd_len, hd_bv]
    congr 2
    omega
  · rw [if_neg h, if_neg h]
    refine ⟨t % 128, ?_, by omega, by omega, by omega⟩
    rw [bv, bv_lin, hd_len, hd_bv]
    congr 2
    omega
theorem binV_eq {m : Nat} {n : Int} : binV (orB (hd (m + 1) n)) = n ↔ inR n m := by
  obtain ⟨q, hq, h1, h2, h3⟩ := binV_or m n
  rw [hq]
  have hp := p256_pos m
  have hn := Int.emod_add_mul_ediv n (p256 m)
  unfold inR
  constructor
  · intro h
    have h4 : q * p256 m = n / p256 m * p256 m := by rw [Int.mul_comm (n / p256 m)]; omega
    have h5 : q = n / p256 m := Int.eq_of_mul_eq_mul_right (by omega) h4
    omega
  · rintro ⟨h4, h5⟩
    have h6 : q = n / p256 m := by omega
    rw [h6, Int.mul_comm]
    omega
/-- what the check behind it says -/
theorem chk_or {m : Nat} {n : Int} (hm : 1 ≤ m) (hn : fits64 n) : binN (orB (hd (m + 1) n)) = (n, 0) ↔ inR n m := by
  have e : binN (orB (hd (m + 1) n)) = if fits64 (binV (orB (hd (m + 1) n))) then (binV (orB (hd (m + 1) n)), 0) else (0, 121) := by
    unfold binN
    rw [if_neg]
    have h1 : (orB (hd (m + 1) n)).length = m + 1 := by rw [hd, orB, List.length_cons, hd_len]
    have h2 : 128 ≤ (orB (hd (m + 1) n)).headD 0 := by rw [hd, orB, List.headD_cons]; omega
    omega
  rw [e, ← binV_eq]
  constructor
  · intro h
    by_cases hf : fits64 (binV (orB (hd (m + 1) n)))
    · rw [if_pos hf] at h
      exact congrArg (·.1) h
    · rw [if_neg hf] at h
      exact absurd (congrArg (·.2) h) (by simp)
  · intro h
    rw [h, if_pos hn]
theorem binN_low {l : List Int} (h : l.headD 0 < 128) : (binN l).2 = 120 := by unfold binN; rw [if_pos (.inr h)]

/-- byte by byte -/
theorem hd_put {m j : Nat} {n : Int} (hj : j < m) : (List.replicate (m - j) (0 : Int) ++ hd j n).set (m - 1 - j) (n / p256 j % 256) = List.replicate (m - (j + 1)) 0 ++ hd (j + 1) n := by
  rw [show m - j = (m - (j + 1)) + 1 by omega, List.replicate_succ', List.append_assoc, List.set_append_right _ _ (by simp; omega)]
  simp only [List.length_replicate, List.singleton_append]
  rw [show m - 1 - j - (m - (j + 1)) = 0 by omega, List.set_cons_zero]
  rfl
theorem wu8 {z : Int} : IntKind.u8.wrap z = z % 256 := w_u8m
set_option maxHeartbeats 4000000 in
theorem putBinary_spec {H : Heap} {n w : Int} (hn : -9223372036854775808 ≤ n ∧ n ≤ 9223372036854775807) (hw : -9223372036854775808 ≤ w ∧ w ≤ 9223372036854775807) :
    ACalls Tryd.prog 41 [Value.int .i64 n, .int .i64 w].toArray H fun e H' => Puts H (putB n w) e H' := by
  refine call41 (Nat.le_of_ble_eq_true rfl) ?_
  unfold L41 env0
  by_cases h1 : w < 2
  · have f0 : decide (w < 2) = true := decide_eq_true h1
    simp -implicitDefEqProofs (maxSteps := 1000000) (disch := first | omega | assumption) only [f0, Sx, reduceIte, Nat.reduceEqDiff, reduceCtorEq, Nat.reduceAdd, Nat.reduceSub, Nat.reduceLT, decide_true, decide_false, Bool.not_true, Bool.not_false, Int.toNat_one, Int.toNat_zero, Nat.zero_mul, l_g, endK, gd_u]
    exact .err (Keep.refl _) (by unfold putB; rw [if_pos (.inl h1)])
  have f0 : decide (w < 2) = false := decide_eq_false h1
  by_cases h2 : 512 < w
  · have f1 : decide (512 < w) = true := decide_eq_true h2
    simp -implicitDefEqProofs (maxSteps := 1000000) (disch := first | omega | assumption) only [f0, f1, Sx, reduceIte, Nat.reduceEqDiff, reduceCtorEq, Nat.reduceAdd, Nat.reduceSub, Nat.reduceLT, decide_true, decide_false, Bool.not_true, Bool.not_false, Int.toNat_one, Int.toNat_zero, Nat.zero_mul, l_g, endK, gd_u]
    exact .err (Keep.refl _) (by unfold putB; rw [if_pos (.inr h2)])
  have f1 : decide (512 < w) = false := decide_eq_false h2
  have hput : putB n w = if inR n (w.toNat - 1) then (orB (hd w.toNat n), 0) else ([], 122) := by unfold putB; rw [if_neg (by omega)]
  obtain ⟨m, hm⟩ : ∃ m : Nat, w = (m : Int) + 1 := ⟨w.toNat - 1, by omega⟩
  have hwm : w.toNat = m + 1 := by omega
  rw [hwm, Nat.add_sub_cancel] at hput
  have hwn : w = ((m + 1 : Nat) : Int) := by omega
  rw [hwn] at f0 f1 hput ⊢
  simp -implicitDefEqProofs (maxSteps := 1000000) (disch := first | omega | assumption) only [f0, f1, Sx, reduceIte, Nat.reduceEqDiff, reduceCtorEq, Nat.reduceAdd, Nat.reduceSub, Nat.reduceLT, decide_true, decide_false, Bool.not_true, Bool.not_false, Int.toNat_one, Int.toNat_zero, Nat.zero_mul, l_g, endK, gd_u]
  refine a_mks (l := m + 1) (c := m + 1) (sz := 1) (by omega) (by omega) (by omega) rfl (by omega) ?_
  intro r H2 rest hbr hW hk2 hr2
  rw [zeros_by] at hW
  have hF : Fresh H (.slice (some ⟨r, 0, none⟩) (m + 1) (m + 1)) := fun q hq => by cases hq; exact hr2
  have e2 : ((m + 1 : Nat) : Int) - 1 = (m : Int) := by omega
  try simp -implicitDefEqProofs (maxSteps := 1000000) (disch := first | omega | assumption) only [e2, Sx, reduceIte, Nat.reduceEqDiff, reduceCtorEq, Nat.reduceAdd, Nat.reduceSub, Nat.reduceLT, decide_true, decide_false, Bool.not_true, Bool.not_false, Int.toNat_one, Int.toNat_zero, Nat.zero_mul, l_g, endK, gd_u]
  refine c_loop (fun k env H' => ∃ j, k + j = m + 1 ∧ env 0 = .int .i64 n ∧ env 7 = .int .i64 (n / p256 j) ∧ env 6 = .slice (some ⟨r, 0, none⟩) (m + 1) (m + 1) ∧ env 8 = .int .i64 ((m : Int) - j) ∧ Bs H' (.slice (some ⟨r, 0, none⟩) (m + 1) (m + 1)) (List.replicate (m + 1 - j) 0 ++ hd j n) ∧ Keep H H') (m + 1)
    ⟨0, by omega, by simp -implicitDefEqProofs (maxSteps := 1000000) (disch := first | omega | assumption) only [Sx, reduceIte, Nat.reduceEqDiff, reduceCtorEq, Nat.reduceAdd, Nat.reduceSub, Nat.reduceLT], by rw [p256, Int.ediv_one]; simp -implicitDefEqProofs (maxSteps := 1000000) (disch := first | omega | assumption) only [Sx, reduceIte, Nat.reduceEqDiff, reduceCtorEq, Nat.reduceAdd, Nat.reduceSub, Nat.reduceLT], by simp -implicitDefEqProofs (maxSteps := 1000000) (disch := first | omega | assumption) only [Sx, reduceIte, Nat.reduceEqDiff, reduceCtorEq, Nat.reduceAdd, Nat.reduceSub, Nat.reduceLT], by simp -implicitDefEqProofs (maxSteps := 1000000) (disch := first | omega | assumption) only [Sx, reduceIte, Nat.reduceEqDiff, reduceCtorEq, Nat.reduceAdd, Nat.reduceSub, Nat.reduceLT]; simp, by rw [Nat.sub_zero, hd, List.append_nil]; exact hW, hk2⟩ ?_
  rintro k env H3 ⟨j, hk, h0, h7, h6, h8, hO, hK⟩
  unfold L41_0
  by_cases hj : j < m + 1
  · have f3 : decide ((0 : Int) ≤ (m : Int) - j) = true := decide_eq_true (by omega)
    have hin : (0 : Int) ≤ (m : Int) - j ∧ (m : Int) - j < ((m + 1 : Nat) : Int) := by omega
    have e3 : ((m : Int) - j).toNat = m + 1 - 1 - j := by omega
    have e8 : (n / p256 j).fdiv (2 ^ min (8 : Int).toNat 64) = n / p256 (j + 1) := by
      rw [show (2 : Int) ^ min (8 : Int).toNat 64 = 256 by decide, Int.fdiv_eq_ediv_of_nonneg _ (by omega), p256_div]
    simp -implicitDefEqProofs (maxSteps := 1000000) (disch := first | omega | assumption) only [h0, h7, h6, h8, f3, wu8, e3, Sx, reduceIte, Nat.reduceEqDiff, reduceCtorEq, Nat.reduceAdd, Nat.reduceSub, Nat.reduceLT, decide_true, decide_false, Bool.not_true, Bool.not_false, Int.toNat_one, Int.toNat_zero, Nat.zero_mul, l_g, endK, gd_u]
    refine a_put hO (j := m + 1 - 1 - j) (by simp; omega) ?_
    intro H4 hO4 ho4
    rw [hd_put hj] at hO4
    have e4 : (m : Int) - j - 1 = (m : Int) - ((j + 1 : Nat) : Int) := by omega
    simp -implicitDefEqProofs (maxSteps := 1000000) (disch := first | omega | assumption) only [h0, h7, h6, h8, v_shr, bits_i64, e8, e4, Sx, reduceIte, Nat.reduceEqDiff, reduceCtorEq, Nat.reduceAdd, Nat.reduceSub, Nat.reduceLT, decide_true, decide_false, Bool.not_true, Bool.not_false, Int.toNat_one, Int.toNat_zero, Nat.zero_mul, l_g, endK, gd_u]
    exact ⟨k - 1, by omega, j + 1, by omega, by trivial, by trivial, by trivial, by trivial, hO4, ho4.keep hK hF⟩
  · have hjm : j = m + 1 := by omega
    subst hjm
    have f3 : decide ((0 : Int) ≤ (m : Int) - ((m + 1 : Nat) : Int)) = false := decide_eq_false (by omega)
    rw [Nat.sub_self, List.replicate_zero, List.nil_append] at hO
    obtain ⟨a3, c3, e3, hc3, hr3⟩ := own_by hO
    have hlen := hd_len (m + 1) n
    obtain ⟨b, eb, hx⟩ := by_at hr3 (i := 0) (by omega)
    rw [hlen] at e3
    cases e3
    cases eb
    rw [add_zero_a] at hx
    have hx0 := (hd_by (m + 1) n).at (i := 0) (by omega)
    have ho := or128 hx0
    have hin : (0 : Int) ≤ 0 ∧ (0 : Int) < ((m + 1 : Nat) : Int) := by omega
    simp -implicitDefEqProofs (maxSteps := 1000000) (disch := first | omega | assumption) only [h0, h7, h6, h8, f3, hx, ho, Sx, reduceIte, Nat.reduceEqDiff, reduceCtorEq, Nat.reduceAdd, Nat.reduceSub, Nat.reduceLT, decide_true, decide_false, Bool.not_true, Bool.not_false, Int.toNat_one, Int.toNat_zero, Nat.zero_mul, l_g, endK, gd_u]
    refine a_put hO (j := 0) (by omega) ?_
    intro H4 hO4 ho4
    have hset : (hd (m + 1) n).set 0 ((hd (m + 1) n)[0] % 128 + 128) = orB (hd (m + 1) n) := rfl
    rw [hset] at hO4
    have hkk := ho4.keep hK hF
    have hol : (orB (hd (m + 1) n)).length = m + 1 := by rw [hd, orB, List.length_cons, hd_len]
    have hoby : isBy (orB (hd (m + 1) n)) := by
      have h9 := hd_by (m + 1) n
      rw [hd] at h9 ⊢
      intro x hx'
      rw [orB] at hx'
      rcases List.mem_cons.1 hx' with rfl | hx'
      · omega
      · exact h9 x (List.mem_cons_of_mem _ hx')
    have hby4 := own_by hO4
    try simp -implicitDefEqProofs (maxSteps := 1000000) (disch := first | omega | assumption) only [h0, h7, h6, h8, Sx, reduceIte, Nat.reduceEqDiff, reduceCtorEq, Nat.reduceAdd, Nat.reduceSub, Nat.reduceLT, decide_true, decide_false, Bool.not_true, Bool.not_false, Int.toNat_one, Int.toNat_zero, Nat.zero_mul, l_g, endK, gd_u]
    refine a_call (binary_spec hby4 hoby (by omega)) ?_
    rintro e H5 ⟨rfl, rfl⟩
    have hchk := chk_or (m := m) (n := n) (by omega) hn
    by_cases hR : inR n m
    · have hb := hchk.2 hR
      rw [hb]
      have f4 : ((0 : Int) != 0) = false := rfl
      have f5 : (n != n) = false := by simp
      simp -implicitDefEqProofs (maxSteps := 1000000) (disch := first | omega | assumption) only [h0, h7, h6, h8, f4, f5, Sx, reduceIte, Nat.reduceEqDiff, reduceCtorEq, Nat.reduceAdd, Nat.reduceSub, Nat.reduceLT, decide_true, decide_false, Bool.not_true, Bool.not_false, Int.toNat_one, Int.toNat_zero, Nat.zero_mul, l_g, endK, gd_u]
      exact ⟨_, by rw [hput, if_pos hR], by rw [hput, if_pos hR]; exact hO4, hkk, hF⟩
    · have hb : ¬ ((binN (orB (hd (m + 1) n))).2 = 0 ∧ (binN (orB (hd (m + 1) n))).1 = n) := fun h => hR (hchk.1 (Prod.ext h.2 h.1))
      by_cases he : (binN (orB (hd (m + 1) n))).2 = 0
      · have f4 : ((binN (orB (hd (m + 1) n))).2 != 0) = false := by rw [bne_eq_false_iff_eq]; exact he
        have f5 : ((binN (orB (hd (m + 1) n))).1 != n) = true := by rw [bne_iff_ne]; exact fun h => hb ⟨he, h⟩
        simp -implicitDefEqProofs (maxSteps := 1000000) (disch := first | omega | assumption) only [h0, h7, h6, h8, f4, f5, Sx, reduceIte, Nat.reduceEqDiff, reduceCtorEq, Nat.reduceAdd, Nat.reduceSub, Nat.reduceLT, decide_true, decide_false, Bool.not_true, Bool.not_false, Int.toNat_one, Int.toNat_zero, Nat.zero_mul, l_g, endK, gd_u]
        exact .err hkk (by rw [hput, if_neg hR])
      · have f4 : ((binN (orB (hd (m + 1) n))).2 != 0) = true := by rw [bne_iff_ne]; exact he
        simp -implicitDefEqProofs (maxSteps := 1000000) (disch := first | omega | assumption) only [h0, h7, h6, h8, f4, Sx, reduceIte, Nat.reduceEqDiff, reduceCtorEq, Nat.reduceAdd, Nat.reduceSub, Nat.reduceLT, decide_true, decide_false, Bool.not_true, Bool.not_false, Int.toNat_one, Int.toNat_zero, Nat.zero_mul, l_g, endK, gd_u]
        exact .err hkk (by rw [hput, if_neg hR])
end Go.Proofs.YthflafgijfbpnaaDoor.S12

/-
  The document's PutBinary; PutNumber of both.
-/
set_option linter.unusedVariables false
set_option linter.unusedSimpArgs false
namespace Go.Proofs.YthflafgijfbpnaaDoor.S12
open Go Go.RowKit Go.Proofs.YthflafgijfbpnaaDoor.Sep Go.Proofs.YthflafgijfbpnaaDoor.Low Go.Proofs.YthflafgijfbpnaaDoor.Lib

/-- the check behind it -/
theorem rputb_end {H0 H : Heap} {r m : Nat} {n : Int} {L : List Int} {env : Env} {Q : Post} {QP : List PanicEntry → Heap → Prop} (hk : Keep H0 H) (hF : Fresh H0 (.slice (some ⟨r, 0, none⟩) (m + 1) (m + 1))) (hO : Bs H (.slice (some ⟨r, 0, none⟩) (m + 1) (m + 1)) L) (hb : isBy L) (hl : L.length = m + 1) (hm : m + 1 ≤ 512)
    (hchk : ((binN L).2 = 0 ∧ (binN L).1 = n) ↔ inR n m) (hL : inR n m → L = orB (hd (m + 1) n)) (h0 : env 0 = .int .i64 n) (h6 : env 6 = .slice (some ⟨r, 0, none⟩) (m + 1) (m + 1))
    (hq : ∀ env' H' v, env' 4 = v → env' 5 = .int .i64 (if inR n m then (orB (hd (m + 1) n), (0 : Int)) else ([], 122)).2 → Bs H' v (if inR n m then (orB (hd (m + 1) n), (0 : Int)) else ([], 122)).1 → Keep H0 H' → Fresh H0 v → Q .ret env' H') : awpC Tryd.prog L50_2 Q QP env H := by
  unfold L50_2
  simp -implicitDefEqProofs (maxSteps := 1000000) (disch := first | omega | assumption) only [h0, h6, Sx, reduceIte, Nat.reduceEqDiff, reduceCtorEq, Nat.reduceAdd, Nat.reduceSub, Nat.reduceLT, decide_true, decide_false, Bool.not_true, Bool.not_false, Int.toNat_one, Int.toNat_zero, Nat.zero_mul, l_g, endK, gd_u]
  refine a_call (rbinary_spec (own_by hO) hb (by omega)) ?_
  rintro e H5 ⟨rfl, hk5⟩
  have hO5 := Own.keep hO hk5
  have hF2 : Fresh H0 (.slice none 0 0) := fun q hq => by cases hq
  by_cases hR : inR n m
  · obtain ⟨c1, c2⟩ := hchk.2 hR
    rw [if_pos hR] at hq
    have f4 : ((binN L).2 != 0) = false := by rw [bne_eq_false_iff_eq]; exact c1
    have f5 : ((binN L).1 != n) = false := by rw [bne_eq_false_iff_eq]; exact c2
    simp -implicitDefEqProofs (maxSteps := 1000000) (disch := first | omega | assumption) only [h0, h6, f4, f5, Sx, reduceIte, Nat.reduceEqDiff, reduceCtorEq, Nat.reduceAdd, Nat.reduceSub, Nat.reduceLT, decide_true, decide_false, Bool.not_true, Bool.not_false, Int.toNat_one, Int.toNat_zero, Nat.zero_mul, l_g, endK, gd_u]
    exact hq _ _ (.slice (some ⟨r, 0, none⟩) (m + 1) (m + 1)) (by simp -implicitDefEqProofs (maxSteps := 1000000) (disch := first | omega | assumption) only [Sx, reduceIte, Nat.reduceEqDiff, reduceCtorEq, Nat.reduceAdd, Nat.reduceSub, Nat.reduceLT]) (by simp -implicitDefEqProofs (maxSteps := 1000000) (disch := first | omega | assumption) only [Sx, reduceIte, Nat.reduceEqDiff, reduceCtorEq, Nat.reduceAdd, Nat.reduceSub, Nat.reduceLT]) (by rw [← hL hR]; exact hO5) (hk.trans hk5) hF
  · rw [if_neg hR] at hq
    by_cases he : (binN L).2 = 0
    · have f4 : ((binN L).2 != 0) = false := by rw [bne_eq_false_iff_eq]; exact he
      have f5 : ((binN L).1 != n) = true := by rw [bne_iff_ne]; exact fun h => hR (hchk.1 ⟨he, h⟩)
      simp -implicitDefEqProofs (maxSteps := 1000000) (disch := first | omega | assumption) only [h0, h6, f4, f5, Sx, reduceIte, Nat.reduceEqDiff, reduceCtorEq, Nat.reduceAdd, Nat.reduceSub, Nat.reduceLT, decide_true, decide_false, Bool.not_true, Bool.not_false, Int.toNat_one, Int.toNat_zero, Nat.zero_mul, l_g, endK, gd_u]
      exact hq _ _ (.slice none 0 0) (by simp -implicitDefEqProofs (maxSteps := 1000000) (disch := first | omega | assumption) only [Sx, reduceIte, Nat.reduceEqDiff, reduceCtorEq, Nat.reduceAdd, Nat.reduceSub, Nat.reduceLT]) (by simp -implicitDefEqProofs (maxSteps := 1000000) (disch := first | omega | assumption) only [Sx, reduceIte, Nat.reduceEqDiff, reduceCtorEq, Nat.reduceAdd, Nat.reduceSub, Nat.reduceLT]) .nil (hk.trans hk5) hF2
    · have f4 : ((binN L).2 != 0) = true := by rw [bne_iff_ne]; exact he
      simp -implicitDefEqProofs (maxSteps := 1000000) (disch := first | omega | assumption) only [h0, h6, f4, Sx, reduceIte, Nat.reduceEqDiff, reduceCtorEq, Nat.reduceAdd, Nat.reduceSub, Nat.reduceLT, decide_true, decide_false, Bool.not_true, Bool.not_false, Int.toNat_one, Int.toNat_zero, Nat.zero_mul, l_g, endK, gd_u]
      exact hq _ _ (.slice none 0 0) (by simp -implicitDefEqProofs (maxSteps := 1000000) (disch := first | omega | assumption) only [Sx, reduceIte, Nat.reduceEqDiff, reduceCtorEq, Nat.reduceAdd, Nat.reduceSub, Nat.reduceLT]) (by simp -implicitDefEqProofs (maxSteps := 1000000) (disch := first | omega | assumption) only [Sx, reduceIte, Nat.reduceEqDiff, reduceCtorEq, Nat.reduceAdd, Nat.reduceSub, Nat.reduceLT]) .nil (hk.trans hk5) hF2
theorem wu64m {z : Int} : IntKind.u64.wrap z = z % 18446744073709551616 := by
  unfold IntKind.wrap IntKind.bits IntKind.signed
  simp only [Bool.false_and, Bool.false_eq_true, if_false]
  have : (2 ^ 64 : Int) = 18446744073709551616 := by decide
  omega
set_option maxHeartbeats 4000000 in
theorem rputBinary_spec {H : Heap} {n w : Int} (hn : -9223372036854775808 ≤ n ∧ n ≤ 9223372036854775807) (hw : -9223372036854775808 ≤ w ∧ w ≤ 9223372036854775807) :
    ACalls Tryd.prog 50 [Value.int .i64 n, .int .i64 w].toArray H fun e H' => Puts H (putB n w) e H' := by
  refine call50 (Nat.le_of_ble_eq_true rfl) ?_
  unfold L50 env0
  simp -implicitDefEqProofs (maxSteps := 1000000) (disch := first | omega | assumption) only [Sx, reduceIte, Nat.reduceEqDiff, reduceCtorEq, Nat.reduceAdd, Nat.reduceSub, Nat.reduceLT]
  refine a_call width_spec ?_
  rintro e H1 ⟨rfl, rfl⟩
  by_cases h1 : 2 ≤ w ∧ w ≤ 512
  case neg =>
    rw [decide_eq_false h1]
    simp -implicitDefEqProofs (maxSteps := 1000000) (disch := first | omega | assumption) only [Sx, reduceIte, Nat.reduceEqDiff, reduceCtorEq, Nat.reduceAdd, Nat.reduceSub, Nat.reduceLT, decide_true, decide_false, Bool.not_true, Bool.not_false, Int.toNat_one, Int.toNat_zero, Nat.zero_mul, l_g, endK, gd_u]
    exact .err (Keep.refl _) (by unfold putB; rw [if_pos (by omega)])
  rw [decide_eq_true h1]
  have hput : putB n w = if inR n (w.toNat - 1) then (orB (hd w.toNat n), 0) else ([], 122) := by unfold putB; rw [if_neg (by omega)]
  obtain ⟨m, hm⟩ : ∃ m : Nat, w = (m : Int) + 1 := ⟨w.toNat - 1, by omega⟩
  have hwm : w.toNat = m + 1 := by omega
  rw [hwm, Nat.add_sub_cancel] at hput
  have hwn : w = ((m + 1 : Nat) : Int) := by omega
  rw [hwn] at hput ⊢
  simp -implicitDefEqProofs (maxSteps := 1000000) (disch := first | omega | assumption) only [wu64m, Sx, reduceIte, Nat.reduceEqDiff, reduceCtorEq, Nat.reduceAdd, Nat.reduceSub, Nat.reduceLT, decide_true, decide_false, Bool.not_true, Bool.not_false, Int.toNat_one, Int.toNat_zero, Nat.zero_mul, l_g, endK, gd_u]
  refine a_mks (l := m + 1) (c := m + 1) (sz := 1) (by omega) (by omega) (by omega) rfl (by omega) ?_
  intro r H2 rest hbr hW hk2 hr2
  rw [zeros_by] at hW
  have hF : Fresh H1 (.slice (some ⟨r, 0, none⟩) (m + 1) (m + 1)) := fun q hq => by cases hq; exact hr2
  have e2 : ((m + 1 : Nat) : Int) - 1 = (m : Int) := by omega
  try simp -implicitDefEqProofs (maxSteps := 1000000) (disch := first | omega | assumption) only [e2, wu64m, Sx, reduceIte, Nat.reduceEqDiff, reduceCtorEq, Nat.reduceAdd, Nat.reduceSub, Nat.reduceLT, decide_true, decide_false, Bool.not_true, Bool.not_false, Int.toNat_one, Int.toNat_zero, Nat.zero_mul, l_g, endK, gd_u]
  refine c_loop (fun k env H' => ∃ j, k + j = m + 1 ∧ env 0 = .int .i64 n ∧ env 7 = .int .u64 (n / p256 j % 18446744073709551616) ∧ env 6 = .slice (some ⟨r, 0, none⟩) (m + 1) (m + 1) ∧ env 8 = .int .i64 ((m : Int) - j) ∧ Bs H' (.slice (some ⟨r, 0, none⟩) (m + 1) (m + 1)) (List.replicate (m + 1 - j) 0 ++ hd j n) ∧ Keep H1 H') (m + 1)
    ⟨0, by omega, by simp -implicitDefEqProofs (maxSteps := 1000000) (disch := first | omega | assumption) only [Sx, reduceIte, Nat.reduceEqDiff, reduceCtorEq, Nat.reduceAdd, Nat.reduceSub, Nat.reduceLT], by rw [p256, Int.ediv_one]; simp -implicitDefEqProofs (maxSteps := 1000000) (disch := first | omega | assumption) only [Sx, reduceIte, Nat.reduceEqDiff, reduceCtorEq, Nat.reduceAdd, Nat.reduceSub, Nat.reduceLT], by simp -implicitDefEqProofs (maxSteps := 1000000) (disch := first | omega | assumption) only [Sx, reduceIte, Nat.reduceEqDiff, reduceCtorEq, Nat.reduceAdd, Nat.reduceSub, Nat.reduceLT], by simp -implicitDefEqProofs (maxSteps := 1000000) (disch := first | omega | assumption) only [Sx, reduceIte, Nat.reduceEqDiff, reduceCtorEq, Nat.reduceAdd, Nat.reduceSub, Nat.reduceLT]; simp, by rw [Nat.sub_zero, hd, List.append_nil]; exact hW, hk2⟩ ?_
  rintro k env H3 ⟨j, hk, h0, h7, h6, h8, hO, hK⟩
  unfold L50_1
  by_cases hj : j < m + 1
  · have f3 : decide ((0 : Int) ≤ (m : Int) - j) = true := decide_eq_true (by omega)
    have hin : (0 : Int) ≤ (m : Int) - j ∧ (m : Int) - j < ((m + 1 : Nat) : Int) := by omega
    have e3 : ((m : Int) - j).toNat = m + 1 - 1 - j := by omega
    have hp := p256_pos j
    have hlo : -9223372036854775808 ≤ n / p256 j := by
      have h5 : (-9223372036854775808) * p256 j ≤ n := by
        have : 9223372036854775808 * 1 ≤ 9223372036854775808 * p256 j := Int.mul_le_mul_of_nonneg_left (by omega) (by decide)
        omega
      exact (Int.le_ediv_iff_mul_le hp).2 h5
    have hhi : n / p256 j ≤ 9223372036854775807 := by
      rcases Int.le_total 0 n with h | h
      · have := Int.ediv_le_self (p256 j) h; omega
      · skip
        have h6 : n / p256 j ≤ 0 := by
          have h7 := Int.ediv_mul_le n (show p256 j ≠ 0 by omega)
          apply Decidable.byContradiction
          intro hc
          have h8 : 1 * p256 j ≤ n / p256 j * p256 j := Int.mul_le_mul_of_nonneg_right (by omega) (by omega)
          omega
        omega
    have hdv := p256_div n j
    generalize hq0 : n / p256 j = q0 at h7 hlo hhi hdv
    have e1 : q0 % 18446744073709551616 % 256 = n / p256 j % 256 := by rw [hq0]; omega
    have e8 : (q0 % 18446744073709551616).fdiv (2 ^ min (8 : Int).toNat 64) = q0 % 18446744073709551616 / 256 := by
      rw [show (2 : Int) ^ min (8 : Int).toNat 64 = 256 by decide, Int.fdiv_eq_ediv_of_nonneg _ (by omega)]
    simp -implicitDefEqProofs (maxSteps := 1000000) (disch := first | omega | assumption) only [h0, h7, h6, h8, f3, wu8, e1, e3, Sx, reduceIte, Nat.reduceEqDiff, reduceCtorEq, Nat.reduceAdd, Nat.reduceSub, Nat.reduceLT, decide_true, decide_false, Bool.not_true, Bool.not_false, Int.toNat_one, Int.toNat_zero, Nat.zero_mul, l_g, endK, gd_u]
    refine a_put hO (j := m + 1 - 1 - j) (by simp; omega) ?_
    intro H4 hO4 ho4
    rw [hd_put hj] at hO4
    have e4 : (m : Int) - j - 1 = (m : Int) - ((j + 1 : Nat) : Int) := by omega
    by_cases hneg : n < 0
    · have f5 : decide (n < 0) = true := decide_eq_true hneg
      have hq1 : q0 ≤ -1 := by
        rw [← hq0]
        have h7 := Int.ediv_mul_le n (show p256 j ≠ 0 by omega)
        apply Decidable.byContradiction
        intro hc
        have h8 : 0 * p256 j ≤ n / p256 j * p256 j := Int.mul_le_mul_of_nonneg_right (by omega) (by omega)
        omega
      have e9 : (q0 % 18446744073709551616 / 256 + 18374686479671623680) % 18446744073709551616 = n / p256 (j + 1) % 18446744073709551616 := by rw [← hdv]; omega
      simp -implicitDefEqProofs (maxSteps := 1000000) (disch := first | omega | assumption) only [h0, h7, h6, h8, v_shr, bits_u64, e8, f5, wu64m, e9, Sx, reduceIte, Nat.reduceEqDiff, reduceCtorEq, Nat.reduceAdd, Nat.reduceSub, Nat.reduceLT, decide_true, decide_false, Bool.not_true, Bool.not_false, Int.toNat_one, Int.toNat_zero, Nat.zero_mul, l_g, endK, gd_u]
      unfold L50_0
      simp -implicitDefEqProofs (maxSteps := 1000000) (disch := first | omega | assumption) only [h0, h7, h6, h8, e4, Sx, reduceIte, Nat.reduceEqDiff, reduceCtorEq, Nat.reduceAdd, Nat.reduceSub, Nat.reduceLT, decide_true, decide_false, Bool.not_true, Bool.not_false, Int.toNat_one, Int.toNat_zero, Nat.zero_mul, l_g, endK, gd_u]
      exact ⟨k - 1, by omega, j + 1, by omega, by trivial, by trivial, by trivial, by trivial, hO4, ho4.keep hK hF⟩
    · have f5 : decide (n < 0) = false := decide_eq_false hneg
      have hq1 : 0 ≤ q0 := by rw [← hq0]; exact Int.ediv_nonneg (by omega) (by omega)
      have e9 : q0 % 18446744073709551616 / 256 = n / p256 (j + 1) % 18446744073709551616 := by rw [← hdv]; omega
      simp -implicitDefEqProofs (maxSteps := 1000000) (disch := first | omega | assumption) only [h0, h7, h6, h8, v_shr, bits_u64, e8, f5, e9, Sx, reduceIte, Nat.reduceEqDiff, reduceCtorEq, Nat.reduceAdd, Nat.reduceSub, Nat.reduceLT, decide_true, decide_false, Bool.not_true, Bool.not_false, Int.toNat_one, Int.toNat_zero, Nat.zero_mul, l_g, endK, gd_u]
      unfold L50_0
      simp -implicitDefEqProofs (maxSteps := 1000000) (disch := first | omega | assumption) only [h0, h7, h6, h8, e4, Sx, reduceIte, Nat.reduceEqDiff, reduceCtorEq, Nat.reduceAdd, Nat.reduceSub, Nat.reduceLT, decide_true, decide_false, Bool.not_true, Bool.not_false, Int.toNat_one, Int.toNat_zero, Nat.zero_mul, l_g, endK, gd_u]
      exact ⟨k - 1, by omega, j + 1, by omega, by trivial, by trivial, by trivial, by trivial, hO4, ho4.keep hK hF⟩
  · have hjm : j = m + 1 := by omega
    subst hjm
    have f3 : decide ((0 : Int) ≤ (m : Int) - ((m + 1 : Nat) : Int)) = false := decide_eq_false (by omega)
    rw [Nat.sub_self, List.replicate_zero, List.nil_append] at hO
    obtain ⟨a3, c3, e3, hc3, hr3⟩ := own_by hO
    have hlen := hd_len (m + 1) n
    obtain ⟨b, eb, hx⟩ := by_at hr3 (i := 0) (by omega)
    rw [hlen] at e3
    cases e3
    cases eb
    rw [add_zero_a] at hx
    have hdby := hd_by (m + 1) n
    have hx0 := hdby.at (i := 0) (by omega)
    have hx1 : (hd (m + 1) n)[0] = n / p256 m % 256 := rfl
    have hin : (0 : Int) ≤ 0 ∧ (0 : Int) < ((m + 1 : Nat) : Int) := by omega
    have hchk := chk_or (m := m) (n := n) (by omega) hn
    have hpair : ∀ L : List Int, ((binN L).2 = 0 ∧ (binN L).1 = n) ↔ binN L = (n, 0) := fun L => ⟨fun h => Prod.ext h.2 h.1, fun h => by rw [h]; exact ⟨rfl, rfl⟩⟩
    have fin : ∀ env' H' v, env' 4 = v → env' 5 = .int .i64 (if inR n m then (orB (hd (m + 1) n), (0 : Int)) else ([], 122)).2 → Bs H' v (if inR n m then (orB (hd (m + 1) n), (0 : Int)) else ([], 122)).1 → Keep H1 H' → Fresh H1 v → retQ [.t 4, .t 5] (fun e H' => Puts H1 (putB n ((m + 1 : Nat) : Int)) e H') .ret env' H' := by
      intro env' H' v e4 e5 hO' hK' hF'
      rw [← hput] at e5 hO'
      have hs := hO'.scalar
      simp -implicitDefEqProofs (maxSteps := 1000000) (disch := first | omega | assumption) only [e4, e5, Sx, reduceIte, Nat.reduceEqDiff, reduceCtorEq, Nat.reduceAdd, Nat.reduceSub, Nat.reduceLT]
      exact ⟨v, rfl, hO', hK', hF'⟩
    have same : 128 ≤ (hd (m + 1) n)[0] → orB (hd (m + 1) n) = hd (m + 1) n := by
      intro h
      rw [hx1] at h
      show (n / p256 m % 256 % 128 + 128) :: hd m n = (n / p256 m % 256) :: hd m n
      congr 1
      omega
    have hhead : (hd (m + 1) n).headD 0 = (hd (m + 1) n)[0] := rfl
    by_cases hneg : 0 ≤ n
    · have f5 : decide (0 ≤ n) = true := decide_eq_true hneg
      by_cases h64 : (hd (m + 1) n)[0] < 64
      · have f6 : decide ((hd (m + 1) n)[0] < 64) = true := decide_eq_true h64
        simp -implicitDefEqProofs (maxSteps := 1000000) (disch := first | omega | assumption) only [h0, h7, h6, h8, f3, f5, hx, f6, w_u8, Sx, reduceIte, Nat.reduceEqDiff, reduceCtorEq, Nat.reduceAdd, Nat.reduceSub, Nat.reduceLT, decide_true, decide_false, Bool.not_true, Bool.not_false, Int.toNat_one, Int.toNat_zero, Nat.zero_mul, l_g, endK, gd_u]
        refine a_put hO (j := 0) (by omega) ?_
        intro H4 hO4 ho4
        have hset : (hd (m + 1) n).set 0 ((hd (m + 1) n)[0] + 128) = orB (hd (m + 1) n) := by
          rw [hx1] at h64 ⊢
          show (n / p256 m % 256 + 128) :: hd m n = (n / p256 m % 256 % 128 + 128) :: hd m n
          congr 1
          omega
        rw [hset] at hO4
        have hoby : isBy (orB (hd (m + 1) n)) := by
          intro x hx'
          rcases List.mem_cons.1 (show x ∈ (n / p256 m % 256 % 128 + 128) :: hd m n from hx') with rfl | hx'
          · omega
          · exact hd_by m n x hx'
        try simp -implicitDefEqProofs (maxSteps := 1000000) (disch := first | omega | assumption) only [h0, h7, h6, h8, Sx, reduceIte, Nat.reduceEqDiff, reduceCtorEq, Nat.reduceAdd, Nat.reduceSub, Nat.reduceLT, decide_true, decide_false, Bool.not_true, Bool.not_false, Int.toNat_one, Int.toNat_zero, Nat.zero_mul, l_g, endK, gd_u]
        exact rputb_end (ho4.keep hK hF) hF hO4 hoby (by show (hd m n).length + 1 = m + 1; rw [hd_len]) (by omega) ((hpair _).trans hchk) (fun _ => rfl) (by simp -implicitDefEqProofs (maxSteps := 1000000) (disch := first | omega | assumption) only [h0, Sx, reduceIte, Nat.reduceEqDiff, reduceCtorEq, Nat.reduceAdd, Nat.reduceSub, Nat.reduceLT]) (by simp -implicitDefEqProofs (maxSteps := 1000000) (disch := first | omega | assumption) only [h6, Sx, reduceIte, Nat.reduceEqDiff, reduceCtorEq, Nat.reduceAdd, Nat.reduceSub, Nat.reduceLT]) fin
      · have f6 : decide ((hd (m + 1) n)[0] < 64) = false := decide_eq_false h64
        have hnR : ¬ inR n m := by
          rintro ⟨h9, h10⟩
          have : 0 ≤ n / p256 m := Int.ediv_nonneg hneg (by have := p256_pos m; omega)
          rw [hx1] at h64
          omega
        have hchk2 : ((binN (hd (m + 1) n)).2 = 0 ∧ (binN (hd (m + 1) n)).1 = n) ↔ inR n m := by
          constructor
          · intro h
            by_cases h128 : 128 ≤ (hd (m + 1) n)[0]
            · rw [← same h128] at h
              exact hchk.1 ((hpair _).1 h)
            · have := binN_low (l := hd (m + 1) n) (by rw [hhead]; omega)
              omega
          · intro h; exact absurd h hnR
        simp -implicitDefEqProofs (maxSteps := 1000000) (disch := first | omega | assumption) only [h0, h7, h6, h8, f3, f5, hx, f6, Sx, reduceIte, Nat.reduceEqDiff, reduceCtorEq, Nat.reduceAdd, Nat.reduceSub, Nat.reduceLT, decide_true, decide_false, Bool.not_true, Bool.not_false, Int.toNat_one, Int.toNat_zero, Nat.zero_mul, l_g, endK, gd_u]
        exact rputb_end hK hF hO hdby hlen (by omega) hchk2 (fun h => absurd h hnR) (by simp -implicitDefEqProofs (maxSteps := 1000000) (disch := first | omega | assumption) only [h0, Sx, reduceIte, Nat.reduceEqDiff, reduceCtorEq, Nat.reduceAdd, Nat.reduceSub, Nat.reduceLT]) (by simp -implicitDefEqProofs (maxSteps := 1000000) (disch := first | omega | assumption) only [h6, Sx, reduceIte, Nat.reduceEqDiff, reduceCtorEq, Nat.reduceAdd, Nat.reduceSub, Nat.reduceLT]) fin
    · have f5 : decide (0 ≤ n) = false := decide_eq_false hneg
      have hchk2 : ((binN (hd (m + 1) n)).2 = 0 ∧ (binN (hd (m + 1) n)).1 = n) ↔ inR n m := by
        by_cases h128 : 128 ≤ (hd (m + 1) n)[0]
        · rw [hpair, ← hchk, same h128]
        · constructor
          · intro h
            have := binN_low (l := hd (m + 1) n) (by rw [hhead]; omega)
            omega
          · rintro ⟨h9, h10⟩
            exfalso
            have hm1 : n / p256 m ≤ -1 := by
              have h7 := Int.ediv_mul_le n (show p256 m ≠ 0 by have := p256_pos m; omega)
              apply Decidable.byContradiction
              intro hc
              have h8 : 0 * p256 m ≤ n / p256 m * p256 m := Int.mul_le_mul_of_nonneg_right (by omega) (by have := p256_pos m; omega)
              omega
            rw [hx1] at h128
            omega
      have hLL : inR n m → hd (m + 1) n = orB (hd (m + 1) n) := by
        rintro ⟨h9, h10⟩
        have hm1 : n / p256 m ≤ -1 := by
          have h7 := Int.ediv_mul_le n (show p256 m ≠ 0 by have := p256_pos m; omega)
          apply Decidable.byContradiction
          intro hc
          have h8 : 0 * p256 m ≤ n / p256 m * p256 m := Int.mul_le_mul_of_nonneg_right (by omega) (by have := p256_pos m; omega)
          omega
        exact (same (by rw [hx1]; omega)).symm
      simp -implicitDefEqProofs (maxSteps := 1000000) (disch := first | omega | assumption) only [h0, h7, h6, h8, f3, f5, Sx, reduceIte, Nat.reduceEqDiff, reduceCtorEq, Nat.reduceAdd, Nat.reduceSub, Nat.reduceLT, decide_true, decide_false, Bool.not_true, Bool.not_false, Int.toNat_one, Int.toNat_zero, Nat.zero_mul, l_g, endK, gd_u]
      exact rputb_end hK hF hO hdby hlen (by omega) hchk2 hLL (by simp -implicitDefEqProofs (maxSteps := 1000000) (disch := first | omega | assumption) only [h0, Sx, reduceIte, Nat.reduceEqDiff, reduceCtorEq, Nat.reduceAdd, Nat.reduceSub, Nat.reduceLT]) (by simp -implicitDefEqProofs (maxSteps := 1000000) (disch := first | omega | assumption) only [h6, Sx, reduceIte, Nat.reduceEqDiff, reduceCtorEq, Nat.reduceAdd, Nat.reduceSub, Nat.reduceLT]) fin

/-- PutNumber -/
def putN (n w : Int) : List Int × Int := if (putO n w).2 = 0 then putO n w else putB n w
set_option maxHeartbeats 1000000 in
theorem putNumber_spec {H : Heap} {n w : Int} (hT : Tz H) (hn : -9223372036854775808 ≤ n ∧ n ≤ 9223372036854775807) (hw : -9223372036854775808 ≤ w ∧ w ≤ 9223372036854775807) :
    ACalls Tryd.prog 31 [Value.int .i64 n, .int .i64 w].toArray H fun e H' => Puts H (putN n w) e H' := by
  refine call31 (Nat.le_of_ble_eq_true rfl) ?_
  unfold L31 env0
  simp -implicitDefEqProofs (maxSteps := 1000000) (disch := first | omega | assumption) only [Sx, reduceIte, Nat.reduceEqDiff, reduceCtorEq, Nat.reduceAdd, Nat.reduceSub, Nat.reduceLT]
  refine a_call (putOctal_spec hT hn hw) ?_
  rintro e H1 ⟨v, rfl, hO, hk, hF⟩
  have hs := hO.scalar
  unfold putN
  by_cases h : (putO n w).2 = 0
  · have f0 : ((putO n w).2 == 0) = true := by rw [beq_iff_eq]; exact h
    simp -implicitDefEqProofs (maxSteps := 1000000) (disch := first | omega | assumption) only [f0, Sx, reduceIte, Nat.reduceEqDiff, reduceCtorEq, Nat.reduceAdd, Nat.reduceSub, Nat.reduceLT, decide_true, decide_false, Bool.not_true, Bool.not_false, Int.toNat_one, Int.toNat_zero, Nat.zero_mul, l_g, endK, gd_u]
    rw [if_pos h]
    exact ⟨v, rfl, hO, hk, hF⟩
  · have f0 : ((putO n w).2 == 0) = false := by rw [beq_eq_false_iff_ne]; exact h
    simp -implicitDefEqProofs (maxSteps := 1000000) (disch := first | omega | assumption) only [f0, Sx, reduceIte, Nat.reduceEqDiff, reduceCtorEq, Nat.reduceAdd, Nat.reduceSub, Nat.reduceLT, decide_true, decide_false, Bool.not_true, Bool.not_false, Int.toNat_one, Int.toNat_zero, Nat.zero_mul, l_g, endK, gd_u]
    refine a_call (putBinary_spec hn hw) ?_
    rintro e H2 ⟨v2, rfl, hO2, hk2, hF2⟩
    have hs2 := hO2.scalar
    simp -implicitDefEqProofs (maxSteps := 1000000) (disch := first | omega | assumption) only [Sx, reduceIte, Nat.reduceEqDiff, reduceCtorEq, Nat.reduceAdd, Nat.reduceSub, Nat.reduceLT, decide_true, decide_false, Bool.not_true, Bool.not_false, Int.toNat_one, Int.toNat_zero, Nat.zero_mul, l_g, endK, gd_u]
    rw [if_neg h]
    exact ⟨v2, rfl, hO2, hk.trans hk2, fun q hq => hk.none (hF2 q hq)⟩
set_option maxHeartbeats 1000000 in
theorem rputNumber_spec {H : Heap} {n w : Int} (hn : -9223372036854775808 ≤ n ∧ n ≤ 9223372036854775807) (hw : -9223372036854775808 ≤ w ∧ w ≤ 9223372036854775807) :
    ACalls Tryd.prog 42 [Value.int .i64 n, .int .i64 w].toArray H fun e H' => Puts H (putN n w) e H' := by
  refine call42 (Nat.le_of_ble_eq_true rfl) ?_
  unfold L42 env0
  simp -implicitDefEqProofs (maxSteps := 1000000) (disch := first | omega | assumption) only [Sx, reduceIte, Nat.reduceEqDiff, reduceCtorEq, Nat.reduceAdd, Nat.reduceSub, Nat.reduceLT]
  refine a_call (rputOctal_spec hn hw) ?_
  rintro e H1 ⟨v, rfl, hO, hk, hF⟩
  have hs := hO.scalar
  unfold putN
  by_cases h : (putO n w).2 = 0
  · have f0 : ((putO n w).2 == 0) = true := by rw [beq_iff_eq]; exact h
    simp -implicitDefEqProofs (maxSteps := 1000000) (disch := first | omega | assumption) only [f0, Sx, reduceIte, Nat.reduceEqDiff, reduceCtorEq, Nat.reduceAdd, Nat.reduceSub, Nat.reduceLT, decide_true, decide_false, Bool.not_true, Bool.not_false, Int.toNat_one, Int.toNat_zero, Nat.zero_mul, l_g, endK, gd_u]
    rw [if_pos h]
    exact ⟨v, rfl, hO, hk, hF⟩
  · have f0 : ((putO n w).2 == 0) = false := by rw [beq_eq_false_iff_ne]; exact h
    simp -implicitDefEqProofs (maxSteps := 1000000) (disch := first | omega | assumption) only [f0, Sx, reduceIte, Nat.reduceEqDiff, reduceCtorEq, Nat.reduceAdd, Nat.reduceSub, Nat.reduceLT, decide_true, decide_false, Bool.not_true, Bool.not_false, Int.toNat_one, Int.toNat_zero, Nat.zero_mul, l_g, endK, gd_u]
    refine a_call (rputBinary_spec hn hw) ?_
    rintro e H2 ⟨v2, rfl, hO2, hk2, hF2⟩
    have hs2 := hO2.scalar
    simp -implicitDefEqProofs (maxSteps := 1000000) (disch := first | omega | assumption) only [Sx, reduceIte, Nat.reduceEqDiff, reduceCtorEq, Nat.reduceAdd, Nat.reduceSub, Nat.reduceLT, decide_true, decide_false, Bool.not_true, Bool.not_false, Int.toNat_one, Int.toNat_zero, Nat.zero_mul, l_g, endK, gd_u]
    rw [if_neg h]
    exact ⟨v2, rfl, hO2, hk.trans hk2, fun q hq => hk.none (hF2 q hq)⟩
end Go.Proofs.YthflafgijfbpnaaDoor.S12

/-
  Number and Text, of both.
-/
set_option linter.unusedVariables false
set_option linter.unusedSimpArgs false
namespace Go.Proofs.YthflafgijfbpnaaDoor.S12
open Go Go.RowKit Go.Proofs.YthflafgijfbpnaaDoor.Sep Go.Proofs.YthflafgijfbpnaaDoor.Low Go.Proofs.YthflafgijfbpnaaDoor.Lib

abbrev numB (l : List Int) : Int × Int := numN octN l
set_option maxHeartbeats 1000000 in
theorem number_spec {H : Heap} {v : Value} {l : List Int} (hv : By H v l) (hb : isBy l) (hl : l.length ≤ 211106232532992) :
    ACalls Tryd.prog 43 [v].toArray H fun e H' => e = .returned (.tuple #[.int .i64 (numB l).1, .int .i64 (numB l).2]) ∧ Keep H H' := by
  have hv0 := hv
  obtain ⟨A, c, rfl, hc, hr⟩ := hv
  refine call43 (Nat.le_of_ble_eq_true rfl) ?_
  unfold L43 env0
  unfold numB numN
  by_cases h0 : 0 < l.length
  · have f0 : decide ((0 : Int) < (l.length : Int)) = true := decide_eq_true (by omega)
    obtain ⟨b, rfl, hx⟩ := by_at hr h0
    have hhd := head_at h0
    have hx0 := hb.at h0
    rw [← hhd] at hx hx0
    rw [add_zero_a] at hx
    have a1 := and128 hx0
    by_cases h1 : 128 ≤ l.headD 0
    · rw [if_pos h1] at a1
      have f1 : ((128 : Int) != 0) = true := rfl
      rw [if_pos ⟨h0, h1⟩]
      simp -implicitDefEqProofs (maxSteps := 1000000) (disch := first | omega | assumption) only [f0, hx, a1, f1, Sx, reduceIte, Nat.reduceEqDiff, reduceCtorEq, Nat.reduceAdd, Nat.reduceSub, Nat.reduceLT, decide_true, decide_false, Bool.not_true, Bool.not_false, Int.toNat_one, Int.toNat_zero, Nat.zero_mul, l_g, endK, gd_u]
      refine a_call (binary_spec hv0 hb (by omega)) ?_
      rintro e H1 ⟨rfl, rfl⟩
      simp -implicitDefEqProofs (maxSteps := 1000000) (disch := first | omega | assumption) only [Sx, reduceIte, Nat.reduceEqDiff, reduceCtorEq, Nat.reduceAdd, Nat.reduceSub, Nat.reduceLT, decide_true, decide_false, Bool.not_true, Bool.not_false, Int.toNat_one, Int.toNat_zero, Nat.zero_mul, l_g, endK, gd_u]
      exact ⟨by trivial, Keep.refl _⟩
    · rw [if_neg h1] at a1
      have f1 : ((0 : Int) != 0) = false := rfl
      rw [if_neg (fun h => h1 h.2)]
      simp -implicitDefEqProofs (maxSteps := 1000000) (disch := first | omega | assumption) only [f0, hx, a1, f1, Sx, reduceIte, Nat.reduceEqDiff, reduceCtorEq, Nat.reduceAdd, Nat.reduceSub, Nat.reduceLT, decide_true, decide_false, Bool.not_true, Bool.not_false, Int.toNat_one, Int.toNat_zero, Nat.zero_mul, l_g, endK, gd_u]
      refine a_call (octal_spec hv0 hb (by omega)) ?_
      rintro e H1 ⟨rfl, hk⟩
      simp -implicitDefEqProofs (maxSteps := 1000000) (disch := first | omega | assumption) only [Sx, reduceIte, Nat.reduceEqDiff, reduceCtorEq, Nat.reduceAdd, Nat.reduceSub, Nat.reduceLT, decide_true, decide_false, Bool.not_true, Bool.not_false, Int.toNat_one, Int.toNat_zero, Nat.zero_mul, l_g, endK, gd_u]
      exact ⟨by trivial, hk⟩
  · have f0 : decide ((0 : Int) < (l.length : Int)) = false := decide_eq_false (by omega)
    rw [if_neg (fun h => h0 h.1)]
    simp -implicitDefEqProofs (maxSteps := 1000000) (disch := first | omega | assumption) only [f0, Sx, reduceIte, Nat.reduceEqDiff, reduceCtorEq, Nat.reduceAdd, Nat.reduceSub, Nat.reduceLT, decide_true, decide_false, Bool.not_true, Bool.not_false, Int.toNat_one, Int.toNat_zero, Nat.zero_mul, l_g, endK, gd_u]
    refine a_call (octal_spec hv0 hb (by omega)) ?_
    rintro e H1 ⟨rfl, hk⟩
    simp -implicitDefEqProofs (maxSteps := 1000000) (disch := first | omega | assumption) only [Sx, reduceIte, Nat.reduceEqDiff, reduceCtorEq, Nat.reduceAdd, Nat.reduceSub, Nat.reduceLT, decide_true, decide_false, Bool.not_true, Bool.not_false, Int.toNat_one, Int.toNat_zero, Nat.zero_mul, l_g, endK, gd_u]
    exact ⟨by trivial, hk⟩
set_option maxHeartbeats 1000000 in
theorem rnumber_spec {H : Heap} {v : Value} {l : List Int} (hv : By H v l) (hb : isBy l) (hl : l.length ≤ 211106232532992) :
    ACalls Tryd.prog 44 [v].toArray H fun e H' => e = .returned (.tuple #[.int .i64 (numB l).1, .int .i64 (numB l).2]) ∧ Keep H H' := by
  have hv0 := hv
  obtain ⟨A, c, rfl, hc, hr⟩ := hv
  refine call44 (Nat.le_of_ble_eq_true rfl) ?_
  unfold L44 env0
  unfold numB numN
  by_cases h0 : 0 < l.length
  · have f0 : decide ((0 : Int) < (l.length : Int)) = true := decide_eq_true (by omega)
    obtain ⟨b, rfl, hx⟩ := by_at hr h0
    have hhd := head_at h0
    rw [← hhd] at hx
    rw [add_zero_a] at hx
    by_cases h1 : 128 ≤ l.headD 0
    · have f1 : decide (128 ≤ l.headD 0) = true := decide_eq_true h1
      rw [if_pos ⟨h0, h1⟩]
      simp -implicitDefEqProofs (maxSteps := 1000000) (disch := first | omega | assumption) only [f0, hx, f1, Sx, reduceIte, Nat.reduceEqDiff, reduceCtorEq, Nat.reduceAdd, Nat.reduceSub, Nat.reduceLT, decide_true, decide_false, Bool.not_true, Bool.not_false, Int.toNat_one, Int.toNat_zero, Nat.zero_mul, l_g, endK, gd_u]
      refine a_call (rbinary_spec hv0 hb hl) ?_
      rintro e H1 ⟨rfl, hk⟩
      simp -implicitDefEqProofs (maxSteps := 1000000) (disch := first | omega | assumption) only [Sx, reduceIte, Nat.reduceEqDiff, reduceCtorEq, Nat.reduceAdd, Nat.reduceSub, Nat.reduceLT, decide_true, decide_false, Bool.not_true, Bool.not_false, Int.toNat_one, Int.toNat_zero, Nat.zero_mul, l_g, endK, gd_u]
      exact ⟨by trivial, hk⟩
    · have f1 : decide (128 ≤ l.headD 0) = false := decide_eq_false h1
      rw [if_neg (fun h => h1 h.2)]
      simp -implicitDefEqProofs (maxSteps := 1000000) (disch := first | omega | assumption) only [f0, hx, f1, Sx, reduceIte, Nat.reduceEqDiff, reduceCtorEq, Nat.reduceAdd, Nat.reduceSub, Nat.reduceLT, decide_true, decide_false, Bool.not_true, Bool.not_false, Int.toNat_one, Int.toNat_zero, Nat.zero_mul, l_g, endK, gd_u]
      refine a_call (roctal_spec hv0 (by omega)) ?_
      rintro e H1 ⟨rfl, rfl⟩
      simp -implicitDefEqProofs (maxSteps := 1000000) (disch := first | omega | assumption) only [Sx, reduceIte, Nat.reduceEqDiff, reduceCtorEq, Nat.reduceAdd, Nat.reduceSub, Nat.reduceLT, decide_true, decide_false, Bool.not_true, Bool.not_false, Int.toNat_one, Int.toNat_zero, Nat.zero_mul, l_g, endK, gd_u]
      exact ⟨by trivial, Keep.refl _⟩
  · have f0 : decide ((0 : Int) < (l.length : Int)) = false := decide_eq_false (by omega)
    rw [if_neg (fun h => h0 h.1)]
    simp -implicitDefEqProofs (maxSteps := 1000000) (disch := first | omega | assumption) only [f0, Sx, reduceIte, Nat.reduceEqDiff, reduceCtorEq, Nat.reduceAdd, Nat.reduceSub, Nat.reduceLT, decide_true, decide_false, Bool.not_true, Bool.not_false, Int.toNat_one, Int.toNat_zero, Nat.zero_mul, l_g, endK, gd_u]
    refine a_call (roctal_spec hv0 (by omega)) ?_
    rintro e H1 ⟨rfl, rfl⟩
    simp -implicitDefEqProofs (maxSteps := 1000000) (disch := first | omega | assumption) only [Sx, reduceIte, Nat.reduceEqDiff, reduceCtorEq, Nat.reduceAdd, Nat.reduceSub, Nat.reduceLT, decide_true, decide_false, Bool.not_true, Bool.not_false, Int.toNat_one, Int.toNat_zero, Nat.zero_mul, l_g, endK, gd_u]
    exact ⟨by trivial, Keep.refl _⟩

/-! ### texts -/
abbrev textB (l : List Int) : List Int := l.takeWhile (· != 0)
theorem idx_by : ∀ {l : List Int}, isBy l → (Go.Lib.indexByte (txt l) 0 = -1 ∧ textB l = l) ∨ (∃ i : Nat, i < l.length ∧ Go.Lib.indexByte (txt l) 0 = i ∧ textB l = l.take i)
  | [], _ => .inl ⟨rfl, rfl⟩
  | x :: l, hb => by
    have hx := hb x List.mem_cons_self
    have ih := idx_by (l := l) fun y hy => hb y (List.mem_cons_of_mem _ hy)
    simp only [txt, List.map_cons] at ih ⊢
    unfold Go.Lib.indexByte
    by_cases h : x = 0
    · subst h
      exact .inr ⟨0, by simp, by simp, by simp [textB]⟩
    · have h' : ¬ (UInt8.ofNat x.toNat == 0) = true := by
        rw [beq_iff_eq]
        intro e
        have e2 := congrArg UInt8.toNat e
        simp only [UInt8.toNat_ofNat', UInt8.toNat_zero] at e2
        omega
      have hne : (x != 0) = true := by rw [bne_iff_ne]; exact h
      rw [if_neg h']
      rcases ih with ⟨h1, h2⟩ | ⟨i, hi, h1, h2⟩
      · rw [h1]
        refine .inl ⟨rfl, ?_⟩
        rw [textB, List.takeWhile_cons, if_pos hne]
        rw [show List.takeWhile (fun x => x != 0) l = l from h2]
      · rw [h1, if_neg (by simp)]
        refine .inr ⟨i + 1, by simp; omega, by simp, ?_⟩
        rw [textB, List.takeWhile_cons, if_pos hne, List.take_succ_cons]
        rw [show List.takeWhile (fun x => x != 0) l = l.take i from h2]
end Go.Proofs.YthflafgijfbpnaaDoor.S12

/-
  PutText of both; the statements' own same.
-/
set_option linter.unusedVariables false
set_option linter.unusedSimpArgs false
namespace Go.Proofs.YthflafgijfbpnaaDoor.S12
open Go Go.RowKit Go.Proofs.YthflafgijfbpnaaDoor.Sep Go.Proofs.YthflafgijfbpnaaDoor.Low Go.Proofs.YthflafgijfbpnaaDoor.Lib

/-- a text's bytes -/
def nats (s : List UInt8) : List Int := s.map fun b => (b.toNat : Int)
theorem nats_by (s : List UInt8) : isBy (nats s) := by
  intro x hx
  obtain ⟨b, _, rfl⟩ := List.mem_map.1 hx
  have := b.toNat_lt
  omega
theorem nats_len (s : List UInt8) : (nats s).length = s.length := by simp [nats]
theorem txt_nats (s : List UInt8) : txt (nats s) = s := by
  rw [txt, nats, List.map_map]
  conv => rhs; rw [← List.map_id s]
  apply List.map_congr_left
  intro b _
  simp
/-- PutText -/
def putT (s : List UInt8) (w : Int) : List Int × Int := if w < 1 ∨ 512 < w ∨ 0 ∈ s then ([], 1) else if w < s.length then ([], 122) else (nats s ++ List.replicate (w.toNat - s.length) 0, 0)
theorem own_some' {H : Heap} {T : TypeId} {a : Option Addr} {n c : Nat} {cs : List Value} (h : Own H T 1 (.slice a n c) cs) (hl : 0 < cs.length) : ∃ r, a = some ⟨r, 0, none⟩ := by
  cases h with
  | nil => simp at hl
  | @«at» r len cap _ rest f hb hf hl hr hc => exact ⟨r, rfl⟩
theorem own_some {H : Heap} {T : TypeId} {a : Option Addr} {n c : Nat} {l : List Int} (h : Own H T 1 (.slice a n c) (by8 l)) (hl : 0 < l.length) : ∃ r, a = some ⟨r, 0, none⟩ := own_some' h (by simpa using hl)
theorem ix_mem (l : List UInt8) (c : UInt8) : decide ((0 : Int) ≤ Go.Lib.indexByte l c) = decide (c ∈ l) := by
  rcases index_cases c l with ⟨h1, h2⟩ | ⟨p, r, rfl, h2, h3⟩
  · rw [h1, decide_eq_false h2]; rfl
  · rw [h3, decide_eq_true (p := c ∈ p ++ c :: r) (by simp), decide_eq_true (by omega)]
theorem str_cells {H : Heap} {s : List UInt8} : cellsV 1 s.length (.string ⟨s.toArray⟩) H = some (by8 (nats s)) := by
  simp only [cellsV]
  have : (⟨s.toArray⟩ : ByteArray).extract 0 s.length = ⟨s.toArray⟩ := by
    apply ByteArray.ext
    apply Array.ext'
    simp
  rw [this]
  simp only [by8, nats, List.map_map]
  congr 1
theorem cutA_zero {r c : Nat} : cutA (some (⟨r, 0, none⟩ : Addr)) c 0 1 = some ⟨r, 0, none⟩ := by
  unfold cutA
  split
  · rfl
  · simp [Addr.add]
theorem a_copy0 {P : Program} {H : Heap} {T : Nat} {cs new : List Value} {r len c k : Nat} {src : Value} {KV : Value → Heap → Prop} {KP : List PanicEntry → Heap → Prop} (hO : Own H T 1 (.slice (some ⟨r, 0, none⟩) len c) cs) (hk : k ≤ len) (hm : lenV src = some k) (hc : cellsV 1 k src H = some new) (hn : new.length = k) (hl : len = cs.length) (hs : ∀ v ∈ new, scalarV v = true)
    (hq : ∀ H', Own H' T 1 (.slice (some ⟨r, 0, none⟩) len c) (cs.take 0 ++ new ++ cs.drop (0 + k)) → Oth H (.slice (some ⟨r, 0, none⟩) len c) H' → KV (.int .i64 k) H') : awpE P (.copy 1) [.slice (some ⟨r, 0, none⟩) len c, src] KV KP H := by
  obtain ⟨H', h1, h2, h3⟩ := storeCs hO (j := 0) (new := new) (by omega) hs
  rw [hn] at h2
  have hmin : min k len = k := by omega
  simp only [awpE, hm, hmin, hc, h1]
  exact hq _ h2 h3
end Go.Proofs.YthflafgijfbpnaaDoor.S12

/-
  What is written is what is read: plain.
-/
set_option linter.unusedVariables false
set_option linter.unusedSimpArgs false
namespace Go.Proofs.YthflafgijfbpnaaDoor.S12
open Go Go.RowKit Go.Proofs.YthflafgijfbpnaaDoor.Sep Go.Proofs.YthflafgijfbpnaaDoor.Lib

theorem bq {z y : Int} (h : z = y) : (z == y) = true := beq_iff_eq.2 h
theorem bn {z y : Int} (h : z = y) : (z != y) = false := bne_eq_false_iff_eq.2 h
theorem nq {z y : Int} (h : z ≠ y) : (z == y) = false := beq_eq_false_iff_ne.2 h
theorem nn {z y : Int} (h : z ≠ y) : (z != y) = true := bne_iff_ne.2 h
/-! ### Octal -/
theorem od_next (j : Nat) (n : Int) : n % p8 (j + 1) = n / p8 j % 8 * p8 j + n % p8 j := by
  have h1 := Int.mul_ediv_add_emod n (p8 j)
  have h2 := Int.mul_ediv_add_emod (n / p8 j) 8
  have h3 := Int.mul_ediv_add_emod n (p8 (j + 1))
  have h4 := p8_div n j
  rw [p8] at h3 ⊢
  rw [p8] at h4
  rw [← h4] at h3
  generalize n / p8 j / 8 = u at h2 h3 h4
  generalize n / p8 j % 8 = d at h2 ⊢
  generalize n / p8 j = q at h1 h2 h4
  generalize n % (p8 j * 8) = x at h3 ⊢
  generalize n % p8 j = y at h1 ⊢
  generalize p8 j = p at h1 h3 ⊢
  subst h2
  have e1 : p * 8 * u = p * (8 * u) := by rw [Int.mul_assoc]
  have e2 : p * (8 * u + d) = p * (8 * u) + p * d := Int.mul_add ..
  have e3 : p * d = d * p := Int.mul_comm ..
  omega
theorem octV_od : ∀ (j : Nat) (n s : Int), 0 ≤ s → s * p8 j + n % p8 j ≤ 9223372036854775807 → octV s (od j n) = some (s * p8 j + n % p8 j)
  | 0, n, s, _, _ => by simp [od, octV, p8]
  | j + 1, n, s, h0, h => by
    have hp := p8_pos j
    have hd : 0 ≤ n / p8 j % 8 ∧ n / p8 j % 8 < 8 := by omega
    have e1 : s * p8 (j + 1) + n % p8 (j + 1) = (8 * s + n / p8 j % 8) * p8 j + n % p8 j := by
      rw [od_next, p8, Int.add_mul, Int.mul_comm (p8 j) 8, ← Int.mul_assoc, Int.mul_comm s 8, Int.add_assoc]
    rw [e1] at h ⊢
    have hm : 0 ≤ n % p8 j := Int.emod_nonneg _ (by omega)
    have hle : 8 * s + n / p8 j % 8 ≤ (8 * s + n / p8 j % 8) * p8 j := by
      have := Int.mul_le_mul_of_nonneg_left (show 1 ≤ p8 j by omega) (show 0 ≤ 8 * s + n / p8 j % 8 by omega)
      omega
    rw [od, octV, show 48 + n / p8 j % 8 - 48 = n / p8 j % 8 by omega, if_neg (by omega)]
    exact octV_od j n _ (by omega) h
theorem oct_od {j : Nat} {n : Int} {t : List Int} (h0 : 0 ≤ n) (h1 : n < p8 j) (h2 : n ≤ 9223372036854775807) (hj : 0 < j) (ht : t.all blankZ = true) : octN (od j n ++ t) = (n, 0) := by
  have hmod : n % p8 j = n := Int.emod_eq_of_lt h0 h1
  have hv := octV_od j n 0 (Int.le_refl _) (by rw [hmod]; omega)
  rw [hmod, Int.zero_mul, Int.zero_add] at hv
  have hdig : ∀ x ∈ od j n, isOct x = true := fun x hx => by have := od_oct j n x hx; simp [isOct]; omega
  have htk : (od j n ++ t).takeWhile isOct = od j n ∧ (od j n ++ t).dropWhile isOct = t := by
    have hno : t.takeWhile isOct = [] ∧ t.dropWhile isOct = t := by
      cases t with
      | nil => exact ⟨rfl, rfl⟩
      | cons y t =>
        have hy := List.all_eq_true.1 ht y List.mem_cons_self
        have : isOct y = false := by
          simp only [blankZ, Bool.or_eq_true, beq_iff_eq] at hy
          rcases hy with rfl | rfl <;> decide
        simp [List.takeWhile, List.dropWhile, this]
    rw [List.takeWhile_append_of_pos hdig, List.dropWhile_append_of_pos hdig, hno.1, hno.2, List.append_nil]
    exact ⟨rfl, rfl⟩
  unfold octN
  have hd : (od j n ++ t).dropWhile (· == 32) = od j n ++ t := by
    obtain ⟨k, rfl⟩ : ∃ k, j = k + 1 := ⟨j - 1, by omega⟩
    rw [od, List.cons_append, List.dropWhile_cons, if_neg]
    have := od_oct (k + 1) n (48 + n / p8 k % 8) (by rw [od]; exact List.mem_cons_self)
    simp; omega
  rw [hd]
  unfold octT
  rw [htk.1, htk.2, if_pos ht, hv]
theorem octN_err {l : List Int} (h : (octN l).2 ≠ 0) : (octN l).1 = 0 := by
  unfold octN octT at h ⊢
  split
  · rename_i h1
    rw [if_pos h1] at h
    split
    · rfl
    · rename_i h2; rw [h2] at h; exact absurd rfl h
  · rfl
theorem octN_ge (l : List Int) : 0 ≤ (octN l).1 ∧ (octN l).1 ≤ 9223372036854775807 := by
  unfold octN octT
  split
  · split
    · decide
    · rename_i n h
      exact octV_ge _ _ _ (Int.le_refl _) (by decide) (fun x hx => tw_mem hx) h
  · decide
theorem putO_err {n w : Int} (h : (putO n w).2 ≠ 0) : (putO n w).1 = [] := by
  unfold putO at h ⊢
  split
  · rfl
  · rename_i h1; rw [if_neg h1] at h
    split
    · rfl
    · rename_i h2; rw [if_neg h2] at h; exact absurd rfl h
theorem putO_wide {n w : Int} (h : (putO n w).2 ≠ 0) (hw : 2 ≤ w ∧ w ≤ 512) : (putO n w).2 = 122 := by
  unfold putO at h ⊢
  rw [if_neg (by omega)] at h ⊢
  split
  · rfl
  · rename_i h2; rw [if_neg h2] at h; exact absurd rfl h
theorem putO_ok {n w : Int} (h : (putO n w).2 = 0) : (2 ≤ w ∧ w ≤ 512) ∧ (0 ≤ n ∧ n < p8 (w.toNat - 1)) ∧ (putO n w).1 = od (w.toNat - 1) n ++ [0] := by
  unfold putO at h ⊢
  by_cases h1 : w < 2 ∨ 512 < w
  · rw [if_pos h1] at h; cases h
  · rw [if_neg h1] at h ⊢
    by_cases h2 : n < 0 ∨ p8 (w.toNat - 1) ≤ n
    · rw [if_pos h2] at h; cases h
    · rw [if_neg h2]
      exact ⟨by omega, by omega, rfl⟩
theorem putO_back {n w : Int} (h : (putO n w).2 = 0) (hn : n ≤ 9223372036854775807) : octN (putO n w).1 = (n, 0) := by
  obtain ⟨hw, hn2, e⟩ := putO_ok h
  rw [e]
  exact oct_od hn2.1 hn2.2 hn (by omega) (by decide)
theorem putO_length {n w : Int} (h : (putO n w).2 = 0) : ((putO n w).1.length : Int) = w := by
  obtain ⟨hw, hn2, e⟩ := putO_ok h
  rw [e, List.length_append, od_len]
  simp; omega
theorem putO_last {n w : Int} (h : (putO n w).2 = 0) : (putO n w).1[w.toNat - 1]? = some 0 := by
  obtain ⟨hw, hn2, e⟩ := putO_ok h
  rw [e, List.getElem?_append_right (by rw [od_len]; omega), od_len]
  simp
theorem putO_head {n w : Int} (h : (putO n w).2 = 0) : ∃ x, (putO n w).1[0]? = some x ∧ 48 ≤ x ∧ x < 128 := by
  obtain ⟨hw, hn2, e⟩ := putO_ok h
  obtain ⟨k, hk⟩ : ∃ k, w.toNat - 1 = k + 1 := ⟨w.toNat - 2, by omega⟩
  rw [e, hk, od, List.cons_append, List.getElem?_cons_zero]
  exact ⟨_, rfl, by omega⟩

/-! ### Binary -/
theorem hd_back : ∀ (l : List Int) (K : Int), isBy l → hd l.length (K * p256 l.length + bv 0 l) = l
  | [], _, _ => rfl
  | x :: l, K, h => by
    have hx := h x List.mem_cons_self
    have hl : isBy l := fun y hy => h y (List.mem_cons_of_mem _ hy)
    have hp := p256_pos l.length
    have hb := bv_bnd hl
    have e1 : K * p256 (x :: l).length + bv 0 (x :: l) = (K * 256 + x) * p256 l.length + bv 0 l := by
      have e0 : (K * 256 + x) * p256 l.length = K * (p256 l.length * 256) + x * p256 l.length := by rw [Int.add_mul, Int.mul_assoc, Int.mul_comm 256 (p256 _)]
      rw [bv, bv_lin, List.length_cons, p256, e0, Int.zero_mul, Int.zero_add]
      omega
    have e2 : ((K * 256 + x) * p256 l.length + bv 0 l) / p256 l.length = K * 256 + x := by
      rw [Int.add_comm, Int.add_mul_ediv_right _ _ (by omega), Int.ediv_eq_zero_of_lt hb.1 hb.2, Int.zero_add]
    rw [e1, List.length_cons, hd, e2, hd_back l _ hl]
    congr 1
    omega
theorem bin_form {l : List Int} {n : Int} (hb : isBy l) (h : binN l = (n, 0)) (hl : l.length ≤ 512) : putB n l.length = (l, 0) := by
  unfold binN at h
  by_cases h1 : l.length < 2 ∨ l.headD 0 < 128
  · rw [if_pos h1] at h; cases h
  rw [if_neg h1] at h
  by_cases h2 : fits64 (binV l)
  case neg => rw [if_neg h2] at h; cases h
  rw [if_pos h2] at h
  obtain ⟨rfl⟩ : binV l = n := congrArg Prod.fst h
  cases l with
  | nil => simp at h1
  | cons x r =>
    simp only [List.length_cons, List.headD_cons, not_or, Nat.not_lt, Int.not_lt] at h1
    have hx := hb x List.mem_cons_self
    have hr : isBy r := fun y hy => hb y (List.mem_cons_of_mem _ hy)
    have hp := p256_pos r.length
    have hbv := bv_bnd hr
    obtain ⟨q, hq, hq1, hq2⟩ : ∃ q : Int, binV (x :: r) = q * p256 r.length + bv 0 r ∧ (-64 ≤ q ∧ q < 64) ∧ q % 256 % 128 + 128 = x := by
      show ∃ q : Int, bv (if 64 ≤ x % 128 then -1 else 0) ((if 64 ≤ x % 128 then x else x - 128) :: r) = q * p256 r.length + bv 0 r ∧ (-64 ≤ q ∧ q < 64) ∧ q % 256 % 128 + 128 = x
      by_cases hs : 64 ≤ x % 128
      · rw [if_pos hs, if_pos hs, bv, bv_lin]
        exact ⟨_, rfl, by omega, by omega⟩
      · rw [if_neg hs, if_neg hs, bv, bv_lin]
        exact ⟨_, rfl, by omega, by omega⟩
    have hdiv : binV (x :: r) / p256 r.length = q := by
      rw [hq, Int.add_comm, Int.add_mul_ediv_right _ _ (by omega), Int.ediv_eq_zero_of_lt hbv.1 hbv.2, Int.zero_add]
    have hin : inR (binV (x :: r)) r.length := by unfold inR; rw [hdiv]; exact hq1
    unfold putB
    have e1 : (((x :: r).length : Nat) : Int).toNat = r.length + 1 := by simp
    rw [if_neg (by simp only [List.length_cons] at hl ⊢; omega), e1, Nat.add_sub_cancel, if_pos hin, hd, hdiv, orB, hq2, hq, hd_back r q hr]
theorem putB_ok {n w : Int} (h : (putB n w).2 = 0) : (2 ≤ w ∧ w ≤ 512) ∧ inR n (w.toNat - 1) ∧ (putB n w).1 = orB (hd w.toNat n) := by
  unfold putB at h ⊢
  by_cases h1 : w < 2 ∨ 512 < w
  · rw [if_pos h1] at h; cases h
  · rw [if_neg h1] at h ⊢
    by_cases h2 : inR n (w.toNat - 1)
    · rw [if_pos h2]; exact ⟨by omega, h2, rfl⟩
    · rw [if_neg h2] at h; cases h
theorem putB_back {n w : Int} (h : (putB n w).2 = 0) (hn : fits64 n) : binN (putB n w).1 = (n, 0) := by
  obtain ⟨hw, hi, e⟩ := putB_ok h
  obtain ⟨m, hm⟩ : ∃ m : Nat, w.toNat = m + 1 := ⟨w.toNat - 1, by omega⟩
  rw [e, hm]
  rw [hm, Nat.add_sub_cancel] at hi
  exact (chk_or (by omega) hn).2 hi
theorem putB_head {n w : Int} (h : (putB n w).2 = 0) : ∃ x r, (putB n w).1 = x :: r ∧ 128 ≤ x ∧ x < 256 := by
  obtain ⟨hw, hi, e⟩ := putB_ok h
  obtain ⟨m, hm⟩ : ∃ m : Nat, w.toNat = m + 1 := ⟨w.toNat - 1, by omega⟩
  rw [e, hm, hd, orB]
  exact ⟨_, _, rfl, by omega, by omega⟩
theorem putB_length {n w : Int} (h : (putB n w).2 = 0) : ((putB n w).1.length : Int) = w := by
  obtain ⟨hw, hi, e⟩ := putB_ok h
  obtain ⟨m, hm⟩ : ∃ m : Nat, w.toNat = m + 1 := ⟨w.toNat - 1, by omega⟩
  rw [e, hm, hd, orB, List.length_cons, hd_len]
  omega
theorem putN_fits {n w : Int} (hn : fits64 n) (hw : 9 ≤ w ∧ w ≤ 512) : (putN n w).2 = 0 := by
  unfold putN
  split
  · assumption
  · unfold putB
    rw [if_neg (by omega)]
    have : inR n (w.toNat - 1) := by
      obtain ⟨k, hk⟩ : ∃ k : Nat, w.toNat - 1 = 8 + k := ⟨w.toNat - 9, by omega⟩
      have h8 : p256 8 = 18446744073709551616 := by decide
      have hp := p256_pos k
      have hge : 18446744073709551616 ≤ p256 (8 + k) := by
        rw [p256_add, h8]
        have := Int.mul_le_mul_of_nonneg_left (show 1 ≤ p256 k by omega) (show (0 : Int) ≤ 18446744073709551616 by decide)
        omega
      unfold inR
      rw [hk]
      simp only [fits64, lo64, hi64] at hn
      generalize p256 (8 + k) = p at hge
      by_cases h0 : 0 ≤ n
      · rw [Int.ediv_eq_zero_of_lt h0 (by omega)]; decide
      · have h1 : n / p = -1 := by
          have e1 : n = (n + p) + -1 * p := by omega
          rw [e1, Int.add_mul_ediv_right _ _ (by omega), Int.ediv_eq_zero_of_lt (by omega) (by omega)]
          rfl
        rw [h1]; decide
    rw [if_pos this]
theorem putN_back {n w : Int} (h : (putN n w).2 = 0) (hn : fits64 n) : numB (putN n w).1 = (n, 0) := by
  unfold putN at h ⊢
  by_cases h1 : (putO n w).2 = 0
  · rw [if_pos h1]
    obtain ⟨x, hx, h2⟩ := putO_head h1
    have := putO_back h1 (by simp only [fits64, lo64, hi64] at hn; omega)
    unfold numB numN
    rw [if_neg, this]
    cases e : (putO n w).1 with
    | nil => rw [e] at hx; simp at hx
    | cons y r => rw [e] at hx; simp at hx; subst hx; simp; omega
  · rw [if_neg h1] at h ⊢
    obtain ⟨x, r, e, h2⟩ := putB_head h
    unfold numB numN
    rw [if_pos (by rw [e]; simp; omega)]
    exact putB_back h hn
theorem putN_length {n w : Int} (h : (putN n w).2 = 0) : ((putN n w).1.length : Int) = w := by
  unfold putN at h ⊢
  by_cases h1 : (putO n w).2 = 0
  · rw [if_pos h1]; exact putO_length h1
  · rw [if_neg h1] at h ⊢; exact putB_length h
theorem putN_12 {n : Int} (h : (putN n 12).2 = 0) : ∃ x, (putN n 12).1[0]? = some x ∧ (x < 128 ↔ 0 ≤ n ∧ n < 8589934592) := by
  have hp : p8 11 = 8589934592 := by decide
  have e11 : (12 : Int).toNat - 1 = 11 := rfl
  unfold putN at h ⊢
  by_cases h1 : (putO n 12).2 = 0
  · rw [if_pos h1]
    obtain ⟨x, hx, h2⟩ := putO_head h1
    obtain ⟨hw, hn2, e⟩ := putO_ok h1
    rw [e11, hp] at hn2
    exact ⟨x, hx, by omega⟩
  · rw [if_neg h1] at h ⊢
    obtain ⟨x, r, e, h2⟩ := putB_head h
    refine ⟨x, by rw [e]; rfl, ?_⟩
    have : ¬ (0 ≤ n ∧ n < 8589934592) := fun hn => h1 (by
      unfold putO
      rw [if_neg (by decide), e11, hp, if_neg (by omega)])
    omega

/-! ### Texts -/
theorem putT_ok {s : List UInt8} {w : Int} (h : (putT s w).2 = 0) : (1 ≤ w ∧ w ≤ 512) ∧ 0 ∉ s ∧ (s.length : Int) ≤ w ∧ (putT s w).1 = nats s ++ List.replicate (w.toNat - s.length) 0 := by
  unfold putT at h ⊢
  by_cases h1 : w < 1 ∨ 512 < w ∨ 0 ∈ s
  · rw [if_pos h1] at h; cases h
  · rw [if_neg h1] at h ⊢
    by_cases h2 : w < s.length
    · rw [if_pos h2] at h; cases h
    · rw [if_neg h2]
      exact ⟨by omega, fun h => h1 (.inr (.inr h)), by omega, rfl⟩
theorem putT_length {s : List UInt8} {w : Int} (h : (putT s w).2 = 0) : ((putT s w).1.length : Int) = w := by
  obtain ⟨hw, h0, hl, e⟩ := putT_ok h
  rw [e, List.length_append, nats_len, List.length_replicate]
  omega
end Go.Proofs.YthflafgijfbpnaaDoor.S12
