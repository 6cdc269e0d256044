/-
  What is wrong with a component; Join, of the code and of the document; written.
-/
import Derived.Test.YtmgpfdfbcnlocaaDoorComp
set_option linter.unusedVariables false
set_option linter.unusedSimpArgs false
namespace Go.Proofs.YtmgpfdfbcnlocaaDoor.S09
open Go Go.RowKit Go.Proofs.YtmgpfdfbcnlocaaDoor.Sep Go.Proofs.YtmgpfdfbcnlocaaDoor.Low Go.Proofs.YtmgpfdfbcnlocaaDoor.Lib

theorem u8_eq {x c : UInt8} : ((x.toNat : Int) == (c.toNat : Int)) = decide (x = c) := by
  by_cases h : x = c
  · subst h; simp
  · rw [decide_eq_false h, beq_eq_false_iff_ne]
    intro e
    exact h (UInt8.toNat_inj.1 (by omega))
set_option maxHeartbeats 1000000 in
theorem has_spec {H : Heap} {l : List UInt8} {c : UInt8} (hl : l.length ≤ 1099511627776) : ACalls Tryd.prog 37 [Value.string ⟨l.toArray⟩, .int .u8 c.toNat].toArray H fun e H' => e = .returned (.bool (decide (c ∈ l))) ∧ H' = H := by
  refine call37 (Nat.le_of_ble_eq_true rfl) ?_
  unfold L37 env0
  simp -implicitDefEqProofs (maxSteps := 1000000) (disch := first | omega | assumption) only [Sx, reduceIte, Nat.reduceEqDiff, reduceCtorEq, Nat.reduceAdd, Nat.reduceSub, Nat.reduceLT]
  refine c_loop (fun k env H' => H' = H ∧ ∃ i, k + i = l.length ∧ env 0 = .string ⟨l.toArray⟩ ∧ env 1 = .int .u8 c.toNat ∧ env 5 = .int .i64 i ∧ c ∉ l.take i) l.length ⟨rfl, 0, by omega, by simp -implicitDefEqProofs (maxSteps := 1000000) (disch := first | omega | assumption) only [Sx, reduceIte, Nat.reduceEqDiff, reduceCtorEq, Nat.reduceAdd, Nat.reduceSub, Nat.reduceLT], by simp -implicitDefEqProofs (maxSteps := 1000000) (disch := first | omega | assumption) only [Sx, reduceIte, Nat.reduceEqDiff, reduceCtorEq, Nat.reduceAdd, Nat.reduceSub, Nat.reduceLT], by simp -implicitDefEqProofs (maxSteps := 1000000) (disch := first | omega | assumption) only [Sx, reduceIte, Nat.reduceEqDiff, reduceCtorEq, Nat.reduceAdd, Nat.reduceSub, Nat.reduceLT]; rfl, by simp⟩ ?_
  rintro k env H1 ⟨rfl, i, hk, h0, h1, h5, hno⟩
  unfold L37_0
  by_cases hi : i < l.length
  · have f0 : decide ((i : Int) < (l.length : Int)) = true := decide_eq_true (by omega)
    obtain ⟨x, hx⟩ : ∃ x, l[i]? = some x := ⟨_, List.getElem?_eq_getElem hi⟩
    have hxe : x = l[i] := by rw [List.getElem?_eq_getElem hi] at hx; exact (Option.some.inj hx).symm
    by_cases he : x = c
    · have f1 : decide (x = c) = true := decide_eq_true he
      simp -implicitDefEqProofs (maxSteps := 1000000) (disch := first | omega | assumption) only [h0, h1, h5, f0, t_size, e_ixs, hx, u8_eq, f1, Sx, reduceIte, Nat.reduceEqDiff, reduceCtorEq, Nat.reduceAdd, Nat.reduceSub, Nat.reduceLT]
      exact ⟨by rw [decide_eq_true (by rw [← he, hxe]; exact List.getElem_mem hi)], by trivial⟩
    · have f1 : decide (x = c) = false := decide_eq_false he
      simp -implicitDefEqProofs (maxSteps := 1000000) (disch := first | omega | assumption) only [h0, h1, h5, f0, t_size, e_ixs, hx, u8_eq, f1, Sx, reduceIte, Nat.reduceEqDiff, reduceCtorEq, Nat.reduceAdd, Nat.reduceSub, Nat.reduceLT]
      refine ⟨k - 1, by omega, by trivial, i + 1, by omega, by trivial, by trivial, by simp -implicitDefEqProofs (maxSteps := 1000000) (disch := first | omega | assumption) only [Int.natCast_add, Int.natCast_one, Sx, reduceIte, Nat.reduceEqDiff, reduceCtorEq, Nat.reduceAdd, Nat.reduceSub, Nat.reduceLT], ?_⟩
      rw [List.take_succ_eq_append_getElem hi, List.mem_append, not_or]
      exact ⟨hno, fun h => he (by rw [hxe]; exact (List.mem_singleton.1 h).symm)⟩
  · have f0 : decide ((i : Int) < (l.length : Int)) = false := decide_eq_false (by omega)
    simp -implicitDefEqProofs (maxSteps := 1000000) (disch := first | omega | assumption) only [h0, h1, h5, f0, t_size, Sx, reduceIte, Nat.reduceEqDiff, reduceCtorEq, Nat.reduceAdd, Nat.reduceSub, Nat.reduceLT]
    rw [List.take_of_length_le (by omega)] at hno
    exact ⟨by rw [decide_eq_false hno], by trivial⟩

theorem wrongs_drop {ls : List (List UInt8)} {i : Nat} (hi : i < ls.length) : wrongs (ls.drop i) = if wrongN ls[i] = 0 then wrongs (ls.drop (i + 1)) else wrongN ls[i] := by
  rw [List.drop_eq_getElem_cons hi, wrongs]
theorem tot_le {ls : List (List UInt8)} {p : List UInt8} (h : p ∈ ls) : p.length < tot ls := by
  induction ls with
  | nil => cases h
  | cons q r ih =>
    simp only [tot, List.map_cons, List.sum_cons] at ih ⊢
    rcases List.mem_cons.1 h with rfl | h
    · omega
    · have := ih h; omega
theorem len_tot (ls : List (List UInt8)) : ls.length ≤ tot ls := by
  induction ls with
  | nil => simp [tot]
  | cons q r ih => simp only [tot, List.map_cons, List.sum_cons, List.length_cons] at ih ⊢; omega

theorem t_app {a b : List UInt8} : (⟨a.toArray⟩ : ByteArray) ++ ⟨b.toArray⟩ = ⟨(a ++ b).toArray⟩ := by
  apply ByteArray.ext
  apply Array.ext'
  simp
theorem v_app {a b : List UInt8} (h : a.length + b.length ≤ 9223372036854775807) : binV .add (.string ⟨a.toArray⟩) (.string ⟨b.toArray⟩) = some (.string ⟨(a ++ b).toArray⟩) := by
  simp only [binV, strV, t_size, t_app]
  rw [if_neg]
  simp only [IntKind.max, IntKind.bits, IntKind.signed]
  omega
theorem jn_take {ls : List (List UInt8)} {i : Nat} (h1 : 1 ≤ i) (hi : i < ls.length) : jn (ls.take (i + 1)) = jn (ls.take i) ++ [47] ++ ls[i] := by
  rw [List.take_succ_eq_append_getElem hi, jn_snoc (by intro e; have := congrArg List.length e; rw [List.length_take, List.length_nil] at this; omega)]
  simp
theorem jn_le {ls : List (List UInt8)} : (jn ls).length ≤ tot ls := by
  cases ls with
  | nil => simp [jn]
  | cons p r => have := jn_len (ls := p :: r) (by simp); omega

end Go.Proofs.YtmgpfdfbcnlocaaDoor.S09
