/-
  What is wrong with a component; Join, of the code and of the document; written.
-/
import Derived.Test.YtdlmomjcolbkgaaDoorComp
set_option linter.unusedVariables false
set_option linter.unusedSimpArgs false
namespace Go.Proofs.YtdlmomjcolbkgaaDoor.S09
open Go Go.RowKit Go.Proofs.YtdlmomjcolbkgaaDoor.Sep Go.Proofs.YtdlmomjcolbkgaaDoor.Low Go.Proofs.YtdlmomjcolbkgaaDoor.Lib

theorem u8_eq {x c : UInt8} : ((x.toNat : Int) == (c.toNat : Int)) = decide (x = c) := by
  by_cases h : x = c
  · subst h; simp
  · rw [decide_eq_false h, beq_eq_false_iff_ne]
    intro e
    exact h (UInt8.toNat_inj.1 (by omega))
set_option maxHeartbeats 1000000 in
theorem has_spec {H : Heap} {l : List UInt8} {c : UInt8} (hl : l.length ≤ 1099511627776) : ACalls Tryd.prog 28 [Value.string ⟨l.toArray⟩, .int .u8 c.toNat].toArray H fun e H' => e = .returned (.bool (decide (c ∈ l))) ∧ H' = H := by
  refine call28 (Nat.le_of_ble_eq_true rfl) ?_
  unfold L28 env0
  simp -implicitDefEqProofs (maxSteps := 1000000) (disch := first | omega | assumption) only [Sx, reduceIte, Nat.reduceEqDiff, reduceCtorEq, Nat.reduceAdd, Nat.reduceSub, Nat.reduceLT]
  refine c_loop (fun k env H' => H' = H ∧ ∃ i, k + i = l.length ∧ env 0 = .string ⟨l.toArray⟩ ∧ env 1 = .int .u8 c.toNat ∧ env 5 = .int .i64 i ∧ c ∉ l.take i) l.length ⟨rfl, 0, by omega, by simp -implicitDefEqProofs (maxSteps := 1000000) (disch := first | omega | assumption) only [Sx, reduceIte, Nat.reduceEqDiff, reduceCtorEq, Nat.reduceAdd, Nat.reduceSub, Nat.reduceLT], by simp -implicitDefEqProofs (maxSteps := 1000000) (disch := first | omega | assumption) only [Sx, reduceIte, Nat.reduceEqDiff, reduceCtorEq, Nat.reduceAdd, Nat.reduceSub, Nat.reduceLT], by simp -implicitDefEqProofs (maxSteps := 1000000) (disch := first | omega | assumption) only [Sx, reduceIte, Nat.reduceEqDiff, reduceCtorEq, Nat.reduceAdd, Nat.reduceSub, Nat.reduceLT]; rfl, by simp⟩ ?_
  rintro k env H1 ⟨rfl, i, hk, h0, h1, h5, hno⟩
  unfold L28_0
  by_cases hi : i < l.length
  · have f0 : decide ((i : Int) < (l.length : Int)) = true := decide_eq_true (by omega)
    obtain ⟨x, hx⟩ : ∃ x, l[i]? = some x := ⟨_, List.getElem?_eq_getElem hi⟩
    have hxe : x = l[i] := by rw [List.getElem?_eq_getElem hi] at hx; exact (Option.some.inj hx).symm
    by_cases he : x = c
    · have f1 : decide (x = c) = true := decide_eq_true he
      simp -implicitDefEqProofs (maxSteps := 1000000) (disch := first | omega | assumption) only [h0, h1, h5, f0, t_size, e_ixs, hx, u8_eq, f1, Sx, reduceIte, Nat.reduceEqDiff, reduceCtorEq, Nat.reduceAdd, Nat.reduceSub, Nat.reduceLT]
      exact ⟨by rw [decide_eq_true (by rw [← he, hxe]; exact List.getElem_mem hi)], by trivial⟩
    · have f1 : decide (x = c) = false := decide_eq_false he
      simp -implicitDefEqProofs (maxSteps := 1000000) (disch := first | omega | assumption) only [h0, h1, h5, f0, t_size, e_ixs, hx, u8_eq, f1, Sx, reduceIte, Nat.reduceEqDiff, reduceCtorEq, Nat.reduceAdd, Nat.reduceSub, Nat.reduceLT]
      refine ⟨k - 1, by omega, by trivial, i + 1, by omega, by trivial, by trivial, by simp -implicitDefEqProofs (maxSteps := 1000000) (disch := first | omega | assumption) only [Int.natCast_add, Int.natCast_one, Sx, reduceIte, Nat.reduceEqDiff, reduceCtorEq, Nat.reduceAdd, Nat.reduceSub, Nat.reduceLT], ?_⟩
      rw [List.take_succ_eq_append_getElem hi, List.mem_append, not_or]
      exact ⟨hno, fun h => he (by rw [hxe]; exact (List.mem_singleton.1 h).symm)⟩
  · have f0 : decide ((i : Int) < (l.length : Int)) = false := decide_eq_false (by omega)
    simp -implicitDefEqProofs (maxSteps := 1000000) (disch := first | omega | assumption) only [h0, h1, h5, f0, t_size, Sx, reduceIte, Nat.reduceEqDiff, reduceCtorEq, Nat.reduceAdd, Nat.reduceSub, Nat.reduceLT]
    rw [List.take_of_length_le (by omega)] at hno
    exact ⟨by rw [decide_eq_false hno], by trivial⟩

theorem wrong_spec {H : Heap} (p : List UInt8) : ACalls Tryd.prog 32 [Value.string ⟨p.toArray⟩].toArray H fun e H' => e = .returned (.int .i64 (wrongN p)) ∧ H' = H := by
  refine call32 (Nat.le_of_ble_eq_true rfl) ?_
  unfold L32 env0
  unfold wrongN
  by_cases h1 : p = []
  · have q1 : decide (p = []) = true := decide_eq_true h1
    simp -implicitDefEqProofs (maxSteps := 1000000) (disch := first | omega | assumption) only [q1, t_eq, l_g, Sx, reduceIte, Nat.reduceEqDiff, reduceCtorEq, Nat.reduceAdd, Nat.reduceSub, Nat.reduceLT]
    exact ⟨by rw [if_pos (.inl h1)], by trivial⟩
  have q1 : decide (p = []) = false := decide_eq_false h1
  by_cases h2 : p = [46]
  · have q2 : decide (p = [46]) = true := decide_eq_true h2
    simp -implicitDefEqProofs (maxSteps := 1000000) (disch := first | omega | assumption) only [q1, q2, t_eq, l_g, Sx, reduceIte, Nat.reduceEqDiff, reduceCtorEq, Nat.reduceAdd, Nat.reduceSub, Nat.reduceLT]
    exact ⟨by rw [if_pos (.inr h2)], by trivial⟩
  have q2 : decide (p = [46]) = false := decide_eq_false h2
  rw [if_neg (by rintro (h | h); exact h1 h; exact h2 h)]
  by_cases h3 : p = [46, 46]
  · have q3 : decide (p = [46, 46]) = true := decide_eq_true h3
    simp -implicitDefEqProofs (maxSteps := 1000000) (disch := first | omega | assumption) only [q1, q2, q3, t_eq, l_g, Sx, reduceIte, Nat.reduceEqDiff, reduceCtorEq, Nat.reduceAdd, Nat.reduceSub, Nat.reduceLT]
    exact ⟨by rw [if_pos h3], by trivial⟩
  have q3 : decide (p = [46, 46]) = false := decide_eq_false h3
  rw [if_neg h3]
  simp -implicitDefEqProofs (maxSteps := 1000000) (disch := first | omega | assumption) only [q1, q2, q3, t_eq, l_g, Sx, reduceIte, Nat.reduceEqDiff, reduceCtorEq, Nat.reduceAdd, Nat.reduceSub, Nat.reduceLT]
  refine a_call (ixb_spec p 0) ?_
  rintro e H1 ⟨rfl, rfl⟩
  by_cases h4 : 0 ∈ p
  · have q4 : decide ((0 : Int) ≤ Go.Lib.indexByte p 0) = true := by rw [ix_mem, decide_eq_true h4]
    simp -implicitDefEqProofs (maxSteps := 1000000) (disch := first | omega | assumption) only [endK, q4, Sx, reduceIte, Nat.reduceEqDiff, reduceCtorEq, Nat.reduceAdd, Nat.reduceSub, Nat.reduceLT]
    exact ⟨by rw [if_pos h4], by trivial⟩
  have q4 : decide ((0 : Int) ≤ Go.Lib.indexByte p 0) = false := by rw [ix_mem, decide_eq_false h4]
  rw [if_neg h4]
  simp -implicitDefEqProofs (maxSteps := 1000000) (disch := first | omega | assumption) only [endK, q4, Sx, reduceIte, Nat.reduceEqDiff, reduceCtorEq, Nat.reduceAdd, Nat.reduceSub, Nat.reduceLT]
  refine a_call (contains_spec p 47) ?_
  rintro e H2 ⟨rfl, rfl⟩
  by_cases h5 : 47 ∈ p
  · have q5 : decide ((0 : Int) ≤ Go.Lib.indexByte p 47) = true := by rw [ix_mem, decide_eq_true h5]
    simp -implicitDefEqProofs (maxSteps := 1000000) (disch := first | omega | assumption) only [endK, q5, Sx, reduceIte, Nat.reduceEqDiff, reduceCtorEq, Nat.reduceAdd, Nat.reduceSub, Nat.reduceLT]
    exact ⟨by rw [if_pos h5], by trivial⟩
  have q5 : decide ((0 : Int) ≤ Go.Lib.indexByte p 47) = false := by rw [ix_mem, decide_eq_false h5]
  rw [if_neg h5]
  by_cases h6 : 255 < p.length
  · have q6 : decide ((255 : Int) < (p.length : Int)) = true := decide_eq_true (by omega)
    simp -implicitDefEqProofs (maxSteps := 1000000) (disch := first | omega | assumption) only [endK, q5, q6, t_size, Sx, reduceIte, Nat.reduceEqDiff, reduceCtorEq, Nat.reduceAdd, Nat.reduceSub, Nat.reduceLT]
    exact ⟨by rw [if_pos h6], by trivial⟩
  · have q6 : decide ((255 : Int) < (p.length : Int)) = false := decide_eq_false (by omega)
    simp -implicitDefEqProofs (maxSteps := 1000000) (disch := first | omega | assumption) only [endK, q5, q6, t_size, Sx, reduceIte, Nat.reduceEqDiff, reduceCtorEq, Nat.reduceAdd, Nat.reduceSub, Nat.reduceLT]
    exact ⟨by rw [if_neg h6], by trivial⟩
theorem part_spec {H : Heap} {p : List UInt8} (hl : p.length ≤ 1099511627776) : ACalls Tryd.prog 43 [Value.string ⟨p.toArray⟩].toArray H fun e H' => e = .returned (.int .i64 (wrongN p)) ∧ H' = H := by
  refine call43 (Nat.le_of_ble_eq_true rfl) ?_
  unfold L43 env0
  unfold wrongN
  by_cases h1 : p = []
  · have q1 : decide (p = []) = true := decide_eq_true h1
    simp -implicitDefEqProofs (maxSteps := 1000000) (disch := first | omega | assumption) only [q1, t_eq, l_g, Sx, reduceIte, Nat.reduceEqDiff, reduceCtorEq, Nat.reduceAdd, Nat.reduceSub, Nat.reduceLT]
    exact ⟨by rw [if_pos (.inl h1)], by trivial⟩
  have q1 : decide (p = []) = false := decide_eq_false h1
  by_cases h2 : p = [46]
  · have q2 : decide (p = [46]) = true := decide_eq_true h2
    simp -implicitDefEqProofs (maxSteps := 1000000) (disch := first | omega | assumption) only [q1, q2, t_eq, l_g, Sx, reduceIte, Nat.reduceEqDiff, reduceCtorEq, Nat.reduceAdd, Nat.reduceSub, Nat.reduceLT]
    exact ⟨by rw [if_pos (.inr h2)], by trivial⟩
  have q2 : decide (p = [46]) = false := decide_eq_false h2
  rw [if_neg (by rintro (h | h); exact h1 h; exact h2 h)]
  by_cases h3 : p = [46, 46]
  · have q3 : decide (p = [46, 46]) = true := decide_eq_true h3
    simp -implicitDefEqProofs (maxSteps := 1000000) (disch := first | omega | assumption) only [q1, q2, q3, t_eq, l_g, Sx, reduceIte, Nat.reduceEqDiff, reduceCtorEq, Nat.reduceAdd, Nat.reduceSub, Nat.reduceLT]
    exact ⟨by rw [if_pos h3], by trivial⟩
  have q3 : decide (p = [46, 46]) = false := decide_eq_false h3
  rw [if_neg h3]
  simp -implicitDefEqProofs (maxSteps := 1000000) (disch := first | omega | assumption) only [q1, q2, q3, t_eq, l_g, Sx, reduceIte, Nat.reduceEqDiff, reduceCtorEq, Nat.reduceAdd, Nat.reduceSub, Nat.reduceLT]
  refine a_call (has_spec (c := 0) hl) ?_
  rintro e H1 ⟨rfl, rfl⟩
  by_cases h4 : 0 ∈ p
  · rw [decide_eq_true h4]
    simp -implicitDefEqProofs (maxSteps := 1000000) (disch := first | omega | assumption) only [endK, Sx, reduceIte, Nat.reduceEqDiff, reduceCtorEq, Nat.reduceAdd, Nat.reduceSub, Nat.reduceLT]
    exact ⟨by rw [if_pos h4], by trivial⟩
  rw [decide_eq_false h4, if_neg h4]
  simp -implicitDefEqProofs (maxSteps := 1000000) (disch := first | omega | assumption) only [endK, Sx, reduceIte, Nat.reduceEqDiff, reduceCtorEq, Nat.reduceAdd, Nat.reduceSub, Nat.reduceLT]
  refine a_call (has_spec (c := 47) hl) ?_
  rintro e H2 ⟨rfl, rfl⟩
  by_cases h5 : 47 ∈ p
  · rw [decide_eq_true h5]
    simp -implicitDefEqProofs (maxSteps := 1000000) (disch := first | omega | assumption) only [endK, Sx, reduceIte, Nat.reduceEqDiff, reduceCtorEq, Nat.reduceAdd, Nat.reduceSub, Nat.reduceLT]
    exact ⟨by rw [if_pos h5], by trivial⟩
  rw [decide_eq_false h5, if_neg h5]
  by_cases h6 : 255 < p.length
  · have q6 : decide ((255 : Int) < (p.length : Int)) = true := decide_eq_true (by omega)
    simp -implicitDefEqProofs (maxSteps := 1000000) (disch := first | omega | assumption) only [endK, q6, t_size, Sx, reduceIte, Nat.reduceEqDiff, reduceCtorEq, Nat.reduceAdd, Nat.reduceSub, Nat.reduceLT]
    exact ⟨by rw [if_pos h6], by trivial⟩
  · have q6 : decide ((255 : Int) < (p.length : Int)) = false := decide_eq_false (by omega)
    simp -implicitDefEqProofs (maxSteps := 1000000) (disch := first | omega | assumption) only [endK, q6, t_size, Sx, reduceIte, Nat.reduceEqDiff, reduceCtorEq, Nat.reduceAdd, Nat.reduceSub, Nat.reduceLT]
    exact ⟨by rw [if_neg h6], by trivial⟩

theorem wrongs_drop {ls : List (List UInt8)} {i : Nat} (hi : i < ls.length) : wrongs (ls.drop i) = if wrongN ls[i] = 0 then wrongs (ls.drop (i + 1)) else wrongN ls[i] := by
  rw [List.drop_eq_getElem_cons hi, wrongs]
theorem tot_le {ls : List (List UInt8)} {p : List UInt8} (h : p ∈ ls) : p.length < tot ls := by
  induction ls with
  | nil => cases h
  | cons q r ih =>
    simp only [tot, List.map_cons, List.sum_cons] at ih ⊢
    rcases List.mem_cons.1 h with rfl | h
    · omega
    · have := ih h; omega
theorem len_tot (ls : List (List UInt8)) : ls.length ≤ tot ls := by
  induction ls with
  | nil => simp [tot]
  | cons q r ih => simp only [tot, List.map_cons, List.sum_cons, List.length_cons] at ih ⊢; omega

set_option maxHeartbeats 4000000 in
theorem pjoin_spec {H : Heap} {a : Option Addr} {n c : Nat} {xs : List (List UInt8)} (hr : Row H a (strs xs)) (ha : ∀ b, a = some b → b.spot = none) (hn : n = xs.length) (hc : n ≤ c) (hl : tot xs ≤ 1099511627776) :
    ACalls Tryd.prog 17 [Value.slice a n c].toArray H fun e H' => e = .returned (.tuple #[.string ⟨(joinN xs).1.toArray⟩, .int .i64 (joinN xs).2]) ∧ H' = H := by
  subst hn
  refine call17 (Nat.le_of_ble_eq_true rfl) ?_
  unfold L17 env0
  have hlt := len_tot xs
  unfold joinN
  by_cases h0 : xs.length = 0
  · have q0 : ((xs.length : Int) == 0) = true := by rw [beq_iff_eq]; omega
    simp -implicitDefEqProofs (maxSteps := 1000000) (disch := first | omega | assumption) only [q0, Sx, reduceIte, Nat.reduceEqDiff, reduceCtorEq, Nat.reduceAdd, Nat.reduceSub, Nat.reduceLT]
    exact ⟨by rw [if_pos h0], by trivial⟩
  have q0 : ((xs.length : Int) == 0) = false := by rw [beq_eq_false_iff_ne]; omega
  rw [if_neg h0]
  simp -implicitDefEqProofs (maxSteps := 1000000) (disch := first | omega | assumption) only [q0, Sx, reduceIte, Nat.reduceEqDiff, reduceCtorEq, Nat.reduceAdd, Nat.reduceSub, Nat.reduceLT]
  refine c_loop (fun k env H' => H' = H ∧ ∃ i, k + i = xs.length ∧ env 0 = .slice a xs.length c ∧ env 11 = .slice a xs.length c ∧ env 12 = .int .i64 xs.length ∧ env 13 = .int .i64 i ∧ wrongs (xs.drop i) = wrongs xs) xs.length ⟨rfl, 0, by omega, by simp -implicitDefEqProofs (maxSteps := 1000000) (disch := first | omega | assumption) only [Sx, reduceIte, Nat.reduceEqDiff, reduceCtorEq, Nat.reduceAdd, Nat.reduceSub, Nat.reduceLT], by simp -implicitDefEqProofs (maxSteps := 1000000) (disch := first | omega | assumption) only [Sx, reduceIte, Nat.reduceEqDiff, reduceCtorEq, Nat.reduceAdd, Nat.reduceSub, Nat.reduceLT], by simp -implicitDefEqProofs (maxSteps := 1000000) (disch := first | omega | assumption) only [Sx, reduceIte, Nat.reduceEqDiff, reduceCtorEq, Nat.reduceAdd, Nat.reduceSub, Nat.reduceLT], by simp -implicitDefEqProofs (maxSteps := 1000000) (disch := first | omega | assumption) only [Sx, reduceIte, Nat.reduceEqDiff, reduceCtorEq, Nat.reduceAdd, Nat.reduceSub, Nat.reduceLT]; rfl, rfl⟩ ?_
  rintro k env H1 ⟨rfl, i, hk, g0, g11, g12, g13, hw⟩
  unfold L17_0
  by_cases hi : i < xs.length
  · have f0 : decide ((i : Int) < (xs.length : Int)) = true := decide_eq_true (by omega)
    obtain ⟨b, rfl, hb⟩ := str_at hr hi
    rw [wrongs_drop hi] at hw
    obtain ⟨p, hp⟩ : ∃ p, p = xs[i] := ⟨_, rfl⟩
    rw [← hp] at hb hw
    simp -implicitDefEqProofs (maxSteps := 1000000) (disch := first | omega | assumption) only [g0, g11, g12, g13, f0, hb, Sx, reduceIte, Nat.reduceEqDiff, reduceCtorEq, Nat.reduceAdd, Nat.reduceSub, Nat.reduceLT]
    refine a_call (wrong_spec p) ?_
    rintro e H2 ⟨rfl, rfl⟩
    by_cases hw0 : wrongN p = 0
    · have q1 : (wrongN p != 0) = false := by rw [bne_eq_false_iff_eq]; exact hw0
      rw [if_pos hw0] at hw
      simp -implicitDefEqProofs (maxSteps := 1000000) (disch := first | omega | assumption) only [endK, g0, g11, g12, g13, q1, Sx, reduceIte, Nat.reduceEqDiff, reduceCtorEq, Nat.reduceAdd, Nat.reduceSub, Nat.reduceLT]
      exact ⟨k - 1, by omega, by trivial, i + 1, by omega, by trivial, by trivial, by trivial, by simp -implicitDefEqProofs (maxSteps := 1000000) (disch := first | omega | assumption) only [Int.natCast_add, Int.natCast_one, Sx, reduceIte, Nat.reduceEqDiff, reduceCtorEq, Nat.reduceAdd, Nat.reduceSub, Nat.reduceLT], hw⟩
    · have q1 : (wrongN p != 0) = true := by rw [bne_iff_ne]; exact hw0
      rw [if_neg hw0] at hw
      simp -implicitDefEqProofs (maxSteps := 1000000) (disch := first | omega | assumption) only [endK, g0, g11, g12, g13, q1, Sx, reduceIte, Nat.reduceEqDiff, reduceCtorEq, Nat.reduceAdd, Nat.reduceSub, Nat.reduceLT]
      exact ⟨by rw [if_pos (by rw [← hw]; exact hw0), ← hw], by trivial⟩
  · have f0 : decide ((i : Int) < (xs.length : Int)) = false := decide_eq_false (by omega)
    rw [List.drop_of_length_le (by omega), wrongs] at hw
    rw [if_neg (by rw [← hw]; exact fun h => h rfl)]
    simp -implicitDefEqProofs (maxSteps := 1000000) (disch := first | omega | assumption) only [g0, g11, g12, g13, f0, Sx, reduceIte, Nat.reduceEqDiff, reduceCtorEq, Nat.reduceAdd, Nat.reduceSub, Nat.reduceLT]
    refine a_call (join_spec hr ha rfl hc (by omega)) ?_
    rintro e H2 ⟨rfl, rfl⟩
    by_cases h6 : 256 < xs.length
    · have q6 : decide ((256 : Int) < (xs.length : Int)) = true := decide_eq_true (by omega)
      simp -implicitDefEqProofs (maxSteps := 1000000) (disch := first | omega | assumption) only [endK, g0, q6, Sx, reduceIte, Nat.reduceEqDiff, reduceCtorEq, Nat.reduceAdd, Nat.reduceSub, Nat.reduceLT]
      exact ⟨by rw [if_pos h6], by trivial⟩
    have q6 : decide ((256 : Int) < (xs.length : Int)) = false := decide_eq_false (by omega)
    rw [if_neg h6]
    by_cases h7 : 4096 < (jn xs).length
    · have q7 : decide ((4096 : Int) < ((jn xs).length : Int)) = true := decide_eq_true (by omega)
      simp -implicitDefEqProofs (maxSteps := 1000000) (disch := first | omega | assumption) only [endK, g0, q6, q7, t_size, Sx, reduceIte, Nat.reduceEqDiff, reduceCtorEq, Nat.reduceAdd, Nat.reduceSub, Nat.reduceLT]
      exact ⟨by rw [if_pos h7], by trivial⟩
    · have q7 : decide ((4096 : Int) < ((jn xs).length : Int)) = false := decide_eq_false (by omega)
      simp -implicitDefEqProofs (maxSteps := 1000000) (disch := first | omega | assumption) only [endK, g0, q6, q7, t_size, Sx, reduceIte, Nat.reduceEqDiff, reduceCtorEq, Nat.reduceAdd, Nat.reduceSub, Nat.reduceLT]
      exact ⟨by rw [if_neg h7], by trivial⟩

theorem t_app {a b : List UInt8} : (⟨a.toArray⟩ : ByteArray) ++ ⟨b.toArray⟩ = ⟨(a ++ b).toArray⟩ := by
  apply ByteArray.ext
  apply Array.ext'
  simp
theorem v_app {a b : List UInt8} (h : a.length + b.length ≤ 9223372036854775807) : binV .add (.string ⟨a.toArray⟩) (.string ⟨b.toArray⟩) = some (.string ⟨(a ++ b).toArray⟩) := by
  simp only [binV, strV, t_size, t_app]
  rw [if_neg]
  simp only [IntKind.max, IntKind.bits, IntKind.signed]
  omega
theorem jn_take {ls : List (List UInt8)} {i : Nat} (h1 : 1 ≤ i) (hi : i < ls.length) : jn (ls.take (i + 1)) = jn (ls.take i) ++ [47] ++ ls[i] := by
  rw [List.take_succ_eq_append_getElem hi, jn_snoc (by intro e; have := congrArg List.length e; rw [List.length_take, List.length_nil] at this; omega)]
  simp
theorem jn_le {ls : List (List UInt8)} : (jn ls).length ≤ tot ls := by
  cases ls with
  | nil => simp [jn]
  | cons p r => have := jn_len (ls := p :: r) (by simp); omega

set_option maxHeartbeats 4000000 in
theorem rjoin_spec {H : Heap} {a : Option Addr} {n c : Nat} {xs : List (List UInt8)} (hr : Row H a (strs xs)) (hn : n = xs.length) (hl : tot xs ≤ 1099511627776) :
    ACalls Tryd.prog 30 [Value.slice a n c].toArray H fun e H' => e = .returned (.tuple #[.string ⟨(joinN xs).1.toArray⟩, .int .i64 (joinN xs).2]) ∧ H' = H := by
  subst hn
  refine call30 (Nat.le_of_ble_eq_true rfl) ?_
  unfold L30 env0
  have hlt := len_tot xs
  unfold joinN
  by_cases h0 : xs.length = 0
  · have q0 : ((xs.length : Int) == 0) = true := by rw [beq_iff_eq]; omega
    simp -implicitDefEqProofs (maxSteps := 1000000) (disch := first | omega | assumption) only [q0, Sx, reduceIte, Nat.reduceEqDiff, reduceCtorEq, Nat.reduceAdd, Nat.reduceSub, Nat.reduceLT]
    exact ⟨by rw [if_pos h0], by trivial⟩
  have q0 : ((xs.length : Int) == 0) = false := by rw [beq_eq_false_iff_ne]; omega
  rw [if_neg h0]
  simp -implicitDefEqProofs (maxSteps := 1000000) (disch := first | omega | assumption) only [q0, Sx, reduceIte, Nat.reduceEqDiff, reduceCtorEq, Nat.reduceAdd, Nat.reduceSub, Nat.reduceLT]
  refine c_loop (fun k env H' => H' = H ∧ ∃ i, k + i = xs.length ∧ env 0 = .slice a xs.length c ∧ env 4 = .int .i64 i ∧ wrongs (xs.drop i) = wrongs xs) xs.length ⟨rfl, 0, by omega, by simp -implicitDefEqProofs (maxSteps := 1000000) (disch := first | omega | assumption) only [Sx, reduceIte, Nat.reduceEqDiff, reduceCtorEq, Nat.reduceAdd, Nat.reduceSub, Nat.reduceLT], by simp -implicitDefEqProofs (maxSteps := 1000000) (disch := first | omega | assumption) only [Sx, reduceIte, Nat.reduceEqDiff, reduceCtorEq, Nat.reduceAdd, Nat.reduceSub, Nat.reduceLT]; rfl, rfl⟩ ?_
  rintro k env H1 ⟨rfl, i, hk, g0, g4, hw⟩
  unfold L30_0
  by_cases hi : i < xs.length
  · have f0 : decide ((i : Int) < (xs.length : Int)) = true := decide_eq_true (by omega)
    obtain ⟨b, rfl, hb⟩ := str_at hr hi
    rw [wrongs_drop hi] at hw
    obtain ⟨p, hp⟩ : ∃ p, p = xs[i] := ⟨_, rfl⟩
    rw [← hp] at hb hw
    have hpl := tot_le (ls := xs) (p := p) (hp ▸ List.getElem_mem _)
    simp -implicitDefEqProofs (maxSteps := 1000000) (disch := first | omega | assumption) only [g0, g4, f0, hb, Sx, reduceIte, Nat.reduceEqDiff, reduceCtorEq, Nat.reduceAdd, Nat.reduceSub, Nat.reduceLT]
    refine a_call (part_spec (p := p) (by omega)) ?_
    rintro e H2 ⟨rfl, rfl⟩
    by_cases hw0 : wrongN p = 0
    · have q1 : (wrongN p != 0) = false := by rw [bne_eq_false_iff_eq]; exact hw0
      rw [if_pos hw0] at hw
      simp -implicitDefEqProofs (maxSteps := 1000000) (disch := first | omega | assumption) only [endK, g0, g4, q1, Sx, reduceIte, Nat.reduceEqDiff, reduceCtorEq, Nat.reduceAdd, Nat.reduceSub, Nat.reduceLT]
      exact ⟨k - 1, by omega, by trivial, i + 1, by omega, by trivial, by simp -implicitDefEqProofs (maxSteps := 1000000) (disch := first | omega | assumption) only [Int.natCast_add, Int.natCast_one, Sx, reduceIte, Nat.reduceEqDiff, reduceCtorEq, Nat.reduceAdd, Nat.reduceSub, Nat.reduceLT], hw⟩
    · have q1 : (wrongN p != 0) = true := by rw [bne_iff_ne]; exact hw0
      rw [if_neg hw0] at hw
      simp -implicitDefEqProofs (maxSteps := 1000000) (disch := first | omega | assumption) only [endK, g0, g4, q1, Sx, reduceIte, Nat.reduceEqDiff, reduceCtorEq, Nat.reduceAdd, Nat.reduceSub, Nat.reduceLT]
      exact ⟨by rw [if_pos (by rw [← hw]; exact hw0), ← hw], by trivial⟩
  · have f0 : decide ((i : Int) < (xs.length : Int)) = false := decide_eq_false (by omega)
    rw [List.drop_of_length_le (by omega), wrongs] at hw
    rw [if_neg (by rw [← hw]; exact fun h => h rfl)]
    by_cases h6 : 256 < xs.length
    · have q6 : decide ((256 : Int) < (xs.length : Int)) = true := decide_eq_true (by omega)
      simp -implicitDefEqProofs (maxSteps := 1000000) (disch := first | omega | assumption) only [g0, g4, f0, q6, Sx, reduceIte, Nat.reduceEqDiff, reduceCtorEq, Nat.reduceAdd, Nat.reduceSub, Nat.reduceLT]
      exact ⟨by rw [if_pos h6], by trivial⟩
    have q6 : decide ((256 : Int) < (xs.length : Int)) = false := decide_eq_false (by omega)
    rw [if_neg h6]
    obtain ⟨b0, rfl, hb0⟩ := str_at hr (i := 0) (by omega)
    rw [add_zero_a] at hb0
    simp -implicitDefEqProofs (maxSteps := 1000000) (disch := first | omega | assumption) only [g0, g4, f0, q6, hb0, Int.toNat_zero, Sx, reduceIte, Nat.reduceEqDiff, reduceCtorEq, Nat.reduceAdd, Nat.reduceSub, Nat.reduceLT]
    have j1 : jn (xs.take 1) = xs[0] := by
      rw [List.take_succ_eq_append_getElem (by omega)]
      simp [jn]
    refine c_loop (fun k env H' => H' = H1 ∧ ∃ i, k + i = xs.length ∧ 1 ≤ i ∧ env 0 = .slice (some b0) xs.length c ∧ env 6 = .string ⟨(jn (xs.take i)).toArray⟩ ∧ env 7 = .int .i64 i) (xs.length - 1) ⟨rfl, 1, by omega, by omega, by simp -implicitDefEqProofs (maxSteps := 1000000) (disch := first | omega | assumption) only [g0, Sx, reduceIte, Nat.reduceEqDiff, reduceCtorEq, Nat.reduceAdd, Nat.reduceSub, Nat.reduceLT], by simp -implicitDefEqProofs (maxSteps := 1000000) (disch := first | omega | assumption) only [Sx, reduceIte, Nat.reduceEqDiff, reduceCtorEq, Nat.reduceAdd, Nat.reduceSub, Nat.reduceLT]; rw [j1], by simp -implicitDefEqProofs (maxSteps := 1000000) (disch := first | omega | assumption) only [Sx, reduceIte, Nat.reduceEqDiff, reduceCtorEq, Nat.reduceAdd, Nat.reduceSub, Nat.reduceLT]; rfl⟩ ?_
    rintro k2 env2 H2 ⟨rfl, j, hk2, hj1, g0, g6, g7⟩
    unfold L30_1
    by_cases hj : j < xs.length
    · have f1 : decide ((j : Int) < (xs.length : Int)) = true := decide_eq_true (by omega)
      obtain ⟨b, e, hb⟩ := str_at hr hj
      cases e
      have hjl : (jn (xs.take (j + 1))).length ≤ tot xs := Nat.le_trans jn_le (tot_sub (List.take_sublist _ _))
      rw [jn_take hj1 hj, List.length_append, List.length_append] at hjl
      have hone : ([47] : List UInt8).length = 1 := rfl
      have c1 : (jn (xs.take j)).length + ([47] : List UInt8).length ≤ 9223372036854775807 := by omega
      have c2 : (jn (xs.take j) ++ [47]).length + xs[j].length ≤ 9223372036854775807 := by rw [List.length_append]; omega
      simp -implicitDefEqProofs (maxSteps := 1000000) (disch := first | omega | assumption) only [g0, g6, g7, f1, hb, v_app, c1, c2, Sx, reduceIte, Nat.reduceEqDiff, reduceCtorEq, Nat.reduceAdd, Nat.reduceSub, Nat.reduceLT]
      exact ⟨k2 - 1, by omega, by trivial, j + 1, by omega, by omega, by trivial, by rw [jn_take hj1 hj], by simp -implicitDefEqProofs (maxSteps := 1000000) (disch := first | omega | assumption) only [Int.natCast_add, Int.natCast_one, Sx, reduceIte, Nat.reduceEqDiff, reduceCtorEq, Nat.reduceAdd, Nat.reduceSub, Nat.reduceLT]⟩
    · have f1 : decide ((j : Int) < (xs.length : Int)) = false := decide_eq_false (by omega)
      rw [List.take_of_length_le (by omega)] at g6
      by_cases h7 : 4096 < (jn xs).length
      · have q7 : decide ((4096 : Int) < ((jn xs).length : Int)) = true := decide_eq_true (by omega)
        simp -implicitDefEqProofs (maxSteps := 1000000) (disch := first | omega | assumption) only [g0, g6, g7, f1, q7, t_size, Sx, reduceIte, Nat.reduceEqDiff, reduceCtorEq, Nat.reduceAdd, Nat.reduceSub, Nat.reduceLT]
        exact ⟨by rw [if_pos h7], by trivial⟩
      · have q7 : decide ((4096 : Int) < ((jn xs).length : Int)) = false := decide_eq_false (by omega)
        simp -implicitDefEqProofs (maxSteps := 1000000) (disch := first | omega | assumption) only [g0, g6, g7, f1, q7, t_size, Sx, reduceIte, Nat.reduceEqDiff, reduceCtorEq, Nat.reduceAdd, Nat.reduceSub, Nat.reduceLT]
        exact ⟨by rw [if_neg h7], by trivial⟩

/-- a list of our own is written over, and the room behind it -/
theorem written_spec {H : Heap} {v : Value} {xs : List (List UInt8)} (hO : Ss H v xs) (hl : xs.length ≤ 1099511627) :
    ACalls Tryd.prog 15 [v].toArray H fun e H' => e = .returned (.tuple #[]) ∧ Oth H v H' := by
  refine call15 (Nat.le_of_ble_eq_true rfl) ?_
  unfold L15 env0
  obtain ⟨a, c, rfl, hc, hr⟩ := hO.len
  simp -implicitDefEqProofs (maxSteps := 1000000) (disch := first | omega | assumption) only [Sx, reduceIte, Nat.reduceEqDiff, reduceCtorEq, Nat.reduceAdd, Nat.reduceSub, Nat.reduceLT]
  refine c_loop (fun k env H' => ∃ i ys, k + i = xs.length ∧ ys.length = xs.length ∧ env 0 = .slice a xs.length c ∧ env 2 = .int .i64 i ∧ Ss H' (.slice a xs.length c) ys ∧ Oth H (.slice a xs.length c) H') xs.length ⟨0, xs, by omega, rfl, by simp -implicitDefEqProofs (maxSteps := 1000000) (disch := first | omega | assumption) only [Sx, reduceIte, Nat.reduceEqDiff, reduceCtorEq, Nat.reduceAdd, Nat.reduceSub, Nat.reduceLT], by simp -implicitDefEqProofs (maxSteps := 1000000) (disch := first | omega | assumption) only [Sx, reduceIte, Nat.reduceEqDiff, reduceCtorEq, Nat.reduceAdd, Nat.reduceSub, Nat.reduceLT]; rfl, hO, Only.refl _ _⟩ ?_
  rintro k env H1 ⟨i, ys, hk, hyl, h0, h2, hO1, ho1⟩
  unfold L15_0
  by_cases hi : i < xs.length
  · have f0 : decide ((i : Int) < (xs.length : Int)) = true := decide_eq_true (by omega)
    obtain ⟨r, n', c', e, -, -⟩ := storeC hO1 (j := i) (u := .string ⟨#[]⟩) (by simp; omega) rfl
    cases e
    simp -implicitDefEqProofs (maxSteps := 1000000) (disch := first | omega | assumption) only [h0, h2, f0, Sx, reduceIte, Nat.reduceEqDiff, reduceCtorEq, Nat.reduceAdd, Nat.reduceSub, Nat.reduceLT]
    refine a_storeC hO1 (j := i) (u := .string ⟨#[119, 114, 105, 116, 116, 101, 110]⟩) (by simp; omega) rfl ?_
    intro H2 hO2 ho2
    try simp -implicitDefEqProofs (maxSteps := 1000000) (disch := first | omega | assumption) only [h0, h2, Sx, reduceIte, Nat.reduceEqDiff, reduceCtorEq, Nat.reduceAdd, Nat.reduceSub, Nat.reduceLT]
    refine ⟨k - 1, by omega, i + 1, ys.set i [119, 114, 105, 116, 116, 101, 110], by omega, by simp [hyl], by simp -implicitDefEqProofs (maxSteps := 1000000) (disch := first | omega | assumption) only [Sx, reduceIte, Nat.reduceEqDiff, reduceCtorEq, Nat.reduceAdd, Nat.reduceSub, Nat.reduceLT], by simp -implicitDefEqProofs (maxSteps := 1000000) (disch := first | omega | assumption) only [Int.natCast_add, Int.natCast_one, Sx, reduceIte, Nat.reduceEqDiff, reduceCtorEq, Nat.reduceAdd, Nat.reduceSub, Nat.reduceLT], ?_, ho1.trans ho2 fun q hq => .inl hq⟩
    have : strs (ys.set i [119, 114, 105, 116, 116, 101, 110]) = (strs ys).set i (.string ⟨#[119, 114, 105, 116, 116, 101, 110]⟩) := by rw [strs, List.map_set]
    show Own H2 _ 1 _ _
    rw [this]
    exact hO2
  · have f0 : decide ((i : Int) < (xs.length : Int)) = false := decide_eq_false (by omega)
    simp -implicitDefEqProofs (maxSteps := 1000000) (disch := first | omega | assumption) only [h0, h2, f0, Sx, reduceIte, Nat.reduceEqDiff, reduceCtorEq, Nat.reduceAdd, Nat.reduceSub, Nat.reduceLT]
    refine c_loop (fun k env H' => ∃ i v' zs, k + i = 40 ∧ zs.length = xs.length + i ∧ env 0 = v' ∧ env 3 = .int .i64 i ∧ Ss H' v' zs ∧ Moved H (.slice a xs.length c) v' ∧ Oth H (.slice a xs.length c) H') 40 ⟨0, .slice a xs.length c, ys, by omega, by omega, by simp -implicitDefEqProofs (maxSteps := 1000000) (disch := first | omega | assumption) only [h0, Sx, reduceIte, Nat.reduceEqDiff, reduceCtorEq, Nat.reduceAdd, Nat.reduceSub, Nat.reduceLT], by simp -implicitDefEqProofs (maxSteps := 1000000) (disch := first | omega | assumption) only [Sx, reduceIte, Nat.reduceEqDiff, reduceCtorEq, Nat.reduceAdd, Nat.reduceSub, Nat.reduceLT]; rfl, hO1, .inl rfl, ho1⟩ ?_
    rintro k2 env2 H2 ⟨j, v', zs, hk2, hzl, h0, h3, hO2, hm2, ho2⟩
    unfold L15_1
    by_cases hj : j < 40
    · have f1 : decide ((j : Int) < 40) = true := decide_eq_true (by omega)
      have hs := hO2.scalar
      simp -implicitDefEqProofs (maxSteps := 1000000) (disch := first | omega | assumption) only [h0, h3, f1, Sx, reduceIte, Nat.reduceEqDiff, reduceCtorEq, Nat.reduceAdd, Nat.reduceSub, Nat.reduceLT]
      refine lits_str ?_
      intro r3 H3 hO3 hk3 hr3
      try simp -implicitDefEqProofs (maxSteps := 1000000) (disch := first | omega | assumption) only [h0, h3, Sx, reduceIte, Nat.reduceEqDiff, reduceCtorEq, Nat.reduceAdd, Nat.reduceSub, Nat.reduceLT]
      refine app_str (hO2.keep hk3) (by omega) hO3 ?_
      intro v4 H4 hO4 ho4 hm4
      try simp -implicitDefEqProofs (maxSteps := 1000000) (disch := first | omega | assumption) only [h0, h3, Sx, reduceIte, Nat.reduceEqDiff, reduceCtorEq, Nat.reduceAdd, Nat.reduceSub, Nat.reduceLT]
      have hfr : ∀ q, own v' = some q → own (.slice a xs.length c) = some q ∨ H q = none := by
        intro q hq
        rcases hm2 with e | ⟨r, e, hn⟩
        · exact .inl (e ▸ hq)
        · rw [e] at hq; cases hq; exact .inr hn
      have ho3 : Oth H (.slice a xs.length c) H3 := ho2.trans (Only.of_keep (S := fun _ => False) hk3) fun q hq => hq.elim
      refine ⟨k2 - 1, by omega, j + 1, v4, zs ++ [[103, 114, 111, 119, 110]], by omega, by simp; omega, by simp -implicitDefEqProofs (maxSteps := 1000000) (disch := first | omega | assumption) only [Sx, reduceIte, Nat.reduceEqDiff, reduceCtorEq, Nat.reduceAdd, Nat.reduceSub, Nat.reduceLT], by simp -implicitDefEqProofs (maxSteps := 1000000) (disch := first | omega | assumption) only [Int.natCast_add, Int.natCast_one, Sx, reduceIte, Nat.reduceEqDiff, reduceCtorEq, Nat.reduceAdd, Nat.reduceSub, Nat.reduceLT], hO4, ?_, ho3.trans ho4 fun q hq => hfr q hq⟩
      rcases hm4 with e | ⟨r, e, hn⟩
      · rcases hm2 with e2 | ⟨r2, e2, hn2⟩
        · exact .inl (e.trans e2)
        · exact .inr ⟨r2, e.trans e2, hn2⟩
      · exact .inr ⟨r, e, ho3.none hn⟩
    · have f1 : decide ((j : Int) < 40) = false := decide_eq_false (by omega)
      simp -implicitDefEqProofs (maxSteps := 1000000) (disch := first | omega | assumption) only [h0, h3, f1, Sx, reduceIte, Nat.reduceEqDiff, reduceCtorEq, Nat.reduceAdd, Nat.reduceSub, Nat.reduceLT]
      exact ⟨by trivial, ho2⟩
end Go.Proofs.YtdlmomjcolbkgaaDoor.S09
