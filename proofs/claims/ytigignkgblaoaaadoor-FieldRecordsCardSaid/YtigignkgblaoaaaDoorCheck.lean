/-
  Check, PutSum and Zero, of both.
-/
import Derived.Test.YtigignkgblaoaaaDoorLowJ
import Derived.Test.YtigignkgblaoaaaDoorSums
import Derived.Test.YtigignkgblaoaaaDoorText
set_option linter.unusedVariables false
set_option linter.unusedSimpArgs false
namespace Go.Proofs.YtigignkgblaoaaaDoor.S12
open Go Go.RowKit Go.Proofs.YtigignkgblaoaaaDoor.Sep Go.Proofs.YtigignkgblaoaaaDoor.Low Go.Proofs.YtigignkgblaoaaaDoor.Lib

/-- the sum's field -/
def fieldL (l : List Int) : List Int := (l.take 156).drop 148
def checkL (l : List Int) : Bool := (octN (fieldL l)).2 == 0 && ((octN (fieldL l)).1 == plainS l || (octN (fieldL l)).1 == signedS l)
theorem ev_fld8 {H : Heap} {r : Nat} {k k' : IntKind} : (QI.sla 512 1 true true).ev [.pointer (some ⟨r, 0, none⟩), .int k 148, .int k' 156] H = some (.slice (some ⟨r, 148, none⟩) 8 364) := by
  rw [ev_sla_lohi (m := 512) (by decide)]
  rfl
theorem fld_by {H : Heap} {T r : Nat} {l : List Int} (h : Arr H T 512 r l) : By H (.slice (some ⟨r, 148, none⟩) 8 364) (fieldL l) := by
  have hl := arr_len h
  have h1 := row_take (k := 156) (arr_row h)
  have h2 := row_drop (c := 512) (k := 148) h1 (by simp; omega)
  rw [cut_own (by omega)] at h2
  have hf : (fieldL l).length = 8 := by simp [fieldL, hl]
  exact ⟨some ⟨r, 148, none⟩, 364, by rw [hf], by omega, h2⟩
theorem fieldL_by {l : List Int} (h : isBy l) : isBy (fieldL l) := (h.take 156).drop 148
theorem fieldL_len (l : List Int) : (fieldL l).length ≤ 8 := by simp [fieldL]; omega
theorem check_spec {H : Heap} {l : List Int} (hb : isBy l) (hl : l.length = 512) :
    ACalls Tryd.prog 29 [Value.agg (by8 l).toArray].toArray H fun e H' => e = .returned (.bool (checkL l)) ∧ Keep H H' := by
  refine call29 (Nat.le_of_ble_eq_true rfl) ?_
  unfold L29 env0
  simp -implicitDefEqProofs (maxSteps := 1000000) (disch := first | omega | assumption) only [Sx, reduceIte, Nat.reduceEqDiff, reduceCtorEq, Nat.reduceAdd, Nat.reduceSub, Nat.reduceLT, decide_true, decide_false, Bool.not_true, Bool.not_false, Int.toNat_one, Int.toNat_zero, Nat.zero_mul, l_g, endK]
  refine a_boxb hl ?_
  intro r H1 hO hk hr
  simp -implicitDefEqProofs (maxSteps := 1000000) (disch := first | omega | assumption) only [ev_fld8, Sx, reduceIte, Nat.reduceEqDiff, reduceCtorEq, Nat.reduceAdd, Nat.reduceSub, Nat.reduceLT, decide_true, decide_false, Bool.not_true, Bool.not_false, Int.toNat_one, Int.toNat_zero, Nat.zero_mul, l_g, endK]
  refine a_call (octal_spec (fld_by hO) (fieldL_by hb) (by have := fieldL_len l; omega)) ?_
  rintro e H2 ⟨rfl, hk2⟩
  have e2 := ev_ldn_arr (Own.keep hO hk2)
  simp -implicitDefEqProofs (maxSteps := 1000000) (disch := first | omega | assumption) only [e2, Sx, reduceIte, Nat.reduceEqDiff, reduceCtorEq, Nat.reduceAdd, Nat.reduceSub, Nat.reduceLT, decide_true, decide_false, Bool.not_true, Bool.not_false, Int.toNat_one, Int.toNat_zero, Nat.zero_mul, l_g, endK]
  refine a_call (sums_spec hb hl) ?_
  rintro e H3 ⟨rfl, hk3⟩
  have hK := (hk.trans hk2).trans hk3
  unfold checkL
  cases c1 : (octN (fieldL l)).2 == 0 <;> cases c2 : (octN (fieldL l)).1 == plainS l <;> cases c3 : (octN (fieldL l)).1 == signedS l <;> (simp -implicitDefEqProofs (maxSteps := 1000000) (disch := first | omega | assumption) only [c1, c2, c3, Sx, reduceIte, Nat.reduceEqDiff, reduceCtorEq, Nat.reduceAdd, Nat.reduceSub, Nat.reduceLT, decide_true, decide_false, Bool.not_true, Bool.not_false, Int.toNat_one, Int.toNat_zero, Nat.zero_mul, l_g, endK]; exact ⟨rfl, hK⟩)
theorem rcheck_spec {H : Heap} {l : List Int} (hb : isBy l) (hl : l.length = 512) :
    ACalls Tryd.prog 30 [Value.agg (by8 l).toArray].toArray H fun e H' => e = .returned (.bool (checkL l)) ∧ Keep H H' := by
  refine call30 (Nat.le_of_ble_eq_true rfl) ?_
  unfold L30 env0
  simp -implicitDefEqProofs (maxSteps := 1000000) (disch := first | omega | assumption) only [Sx, reduceIte, Nat.reduceEqDiff, reduceCtorEq, Nat.reduceAdd, Nat.reduceSub, Nat.reduceLT, decide_true, decide_false, Bool.not_true, Bool.not_false, Int.toNat_one, Int.toNat_zero, Nat.zero_mul, l_g, endK]
  refine a_boxb hl ?_
  intro r H1 hO hk hr
  have e2 := ev_ldn_arr hO
  simp -implicitDefEqProofs (maxSteps := 1000000) (disch := first | omega | assumption) only [e2, Sx, reduceIte, Nat.reduceEqDiff, reduceCtorEq, Nat.reduceAdd, Nat.reduceSub, Nat.reduceLT, decide_true, decide_false, Bool.not_true, Bool.not_false, Int.toNat_one, Int.toNat_zero, Nat.zero_mul, l_g, endK]
  refine a_call (rsums_spec hb hl) ?_
  rintro e H3 ⟨rfl, hk3⟩
  simp -implicitDefEqProofs (maxSteps := 1000000) (disch := first | omega | assumption) only [ev_fld8, Sx, reduceIte, Nat.reduceEqDiff, reduceCtorEq, Nat.reduceAdd, Nat.reduceSub, Nat.reduceLT, decide_true, decide_false, Bool.not_true, Bool.not_false, Int.toNat_one, Int.toNat_zero, Nat.zero_mul, l_g, endK]
  refine a_call (roctal_spec (fld_by (Own.keep hO hk3)) (by have := fieldL_len l; omega)) ?_
  rintro e H4 ⟨rfl, rfl⟩
  have hK := hk.trans hk3
  unfold checkL
  cases c1 : (octN (fieldL l)).2 == 0 <;> cases c2 : (octN (fieldL l)).1 == plainS l <;> cases c3 : (octN (fieldL l)).1 == signedS l <;> (simp -implicitDefEqProofs (maxSteps := 1000000) (disch := first | omega | assumption) only [c1, c2, c3, Sx, reduceIte, Nat.reduceEqDiff, reduceCtorEq, Nat.reduceAdd, Nat.reduceSub, Nat.reduceLT, decide_true, decide_false, Bool.not_true, Bool.not_false, Int.toNat_one, Int.toNat_zero, Nat.zero_mul, l_g, endK]; exact ⟨rfl, hK⟩)
/-- the record with its sum -/
def putsumL (l : List Int) : List Int := l.take 148 ++ (od 6 (plainS l) ++ [0, 32]) ++ l.drop 156
theorem putsum_len {l : List Int} (hl : l.length = 512) : (putsumL l).length = 512 := by simp [putsumL, hl, od_len]
theorem putsum_by {l : List Int} (hb : isBy l) : isBy (putsumL l) := by
  intro x hx
  unfold putsumL at hx
  simp only [List.mem_append, List.mem_cons, List.not_mem_nil, or_false] at hx
  rcases hx with (hx | hx | rfl | rfl) | hx
  · exact hb x (List.mem_of_mem_take hx)
  · exact od_by _ _ x hx
  · omega
  · omega
  · exact hb x (List.mem_of_mem_drop hx)
theorem put7 {n : Int} (h0 : 0 ≤ n) (h : n ≤ 131072) : putO n 7 = (od 6 n ++ [0], 0) := by
  unfold putO
  have e : (7 : Int).toNat - 1 = 6 := rfl
  have e2 : p8 6 = 262144 := by decide
  rw [if_neg (by omega), e, e2, if_neg (by omega)]
theorem repN (n : Nat) : Array.replicate n (Value.int .u8 0) = (by8 (List.replicate n 0)).toArray := by simp [by8]
theorem a_putA {P : Program} {H : Heap} {T n : Nat} {l : List Int} {r j : Nat} {x : Int} {KV : Value → Heap → Prop} {KP : List PanicEntry → Heap → Prop} (hO : Arr H T n r l) (hj : j < l.length)
    (hk : ∀ H', Arr H' T n r (l.set j x) → Oth H (.slice (some ⟨r, 0, none⟩) n n) H' → KV undef H') : awpE P (.st 1) [.pointer (some ⟨r, j, none⟩), .int .u8 x] KV KP H := by
  refine a_storeC hO (j := j) (by simpa using hj) rfl ?_
  intro H' h1 h2
  refine hk H' ?_ h2
  have e : (by8 l).set j (.int .u8 x) = by8 (l.set j x) := by simp [by8, List.map_set]
  show Own H' T 1 _ (by8 _)
  rw [← e]
  exact h1
/-- a whole array is written -/
theorem a_stA {P : Program} {H : Heap} {T n : Nat} {l m : List Int} {r : Nat} {KV : Value → Heap → Prop} {KP : List PanicEntry → Heap → Prop} (hO : Arr H T n r l) (hm : m.length = n)
    (hk : ∀ H', Arr H' T n r m → Oth H (.slice (some ⟨r, 0, none⟩) n n) H' → KV undef H') : awpE P (.st n) [.pointer (some ⟨r, 0, none⟩), .agg (by8 m).toArray] KV KP H := by
  have hl := arr_len hO
  refine a_storeCs hO (j := 0) (by simp; omega) (by simpa using hm) (by8_scalar m) ?_
  intro H' h1 h2
  refine hk H' ?_ h2
  have e : (by8 l).take 0 ++ by8 m ++ (by8 l).drop (0 + (by8 m).length) = by8 m := by
    rw [List.drop_of_length_le (by simp; omega)]; simp
  rw [e] at h1
  exact h1
theorem g_arr {H : Heap} {env : Env} {T n r : Nat} {l : List Int} {i : Tmp} (h : Arr H T n r l) (h1 : env i = .pointer (some ⟨r, 0, none⟩)) : getAll env H [.c i (some n)] = some [.agg (by8 l).toArray] := by
  have h2 := (arr_row h).loadN
  rw [by8, List.length_map, arr_len h] at h2
  rw [g_cn h1 h2, g_nil]
  rfl
set_option maxHeartbeats 2000000 in
theorem putSum_spec {H : Heap} {l : List Int} (hT : Tz H) (hb : isBy l) (hl : l.length = 512) :
    ACalls Tryd.prog 31 [Value.agg (by8 l).toArray].toArray H fun e H' => e = .returned (.agg (by8 (putsumL l)).toArray) ∧ Keep H H' := by
  have hp := plainS_in hb hl
  refine call31 (Nat.le_of_ble_eq_true rfl) ?_
  unfold L31 env0
  simp -implicitDefEqProofs (maxSteps := 1000000) (disch := first | omega | assumption) only [Sx, reduceIte, Nat.reduceEqDiff, reduceCtorEq, Nat.reduceAdd, Nat.reduceSub, Nat.reduceLT, decide_true, decide_false, Bool.not_true, Bool.not_false, Int.toNat_one, Int.toNat_zero, Nat.zero_mul, l_g, endK]
  refine a_boxb hl ?_
  intro r H1 hO hk hr
  simp -implicitDefEqProofs (maxSteps := 1000000) (disch := first | omega | assumption) only [Sx, reduceIte, Nat.reduceEqDiff, reduceCtorEq, Nat.reduceAdd, Nat.reduceSub, Nat.reduceLT, decide_true, decide_false, Bool.not_true, Bool.not_false, Int.toNat_one, Int.toNat_zero, Nat.zero_mul, l_g, endK]
  refine a_new ?_
  intro r2 hr2
  rw [repN]
  have hO2 := arr_of (T := 33) (n := 512) (l := List.replicate 512 0) List.length_replicate (set_same (H := H1) (r := r2) (o := .cells (by8 (List.replicate 512 0)).toArray 33 (0, 0)))
  have hk2 := (Keep.refl H1).set_new (o := .cells (by8 (List.replicate 512 0)).toArray 33 (0, 0)) hr2
  generalize H1.set r2 _ = H2 at hO2 hk2 ⊢
  have hO1 := Own.keep hO hk2
  have e2 := ev_ldn_arr hO1
  simp -implicitDefEqProofs (maxSteps := 1000000) (disch := first | omega | assumption) only [e2, Sx, reduceIte, Nat.reduceEqDiff, reduceCtorEq, Nat.reduceAdd, Nat.reduceSub, Nat.reduceLT, decide_true, decide_false, Bool.not_true, Bool.not_false, Int.toNat_one, Int.toNat_zero, Nat.zero_mul, l_g, endK]
  refine a_call (sums_spec hb hl) ?_
  rintro e H3 ⟨rfl, hk3⟩
  have hk03 := (hk.trans hk2).trans hk3
  simp -implicitDefEqProofs (maxSteps := 1000000) (disch := first | omega | assumption) only [Sx, reduceIte, Nat.reduceEqDiff, reduceCtorEq, Nat.reduceAdd, Nat.reduceSub, Nat.reduceLT, decide_true, decide_false, Bool.not_true, Bool.not_false, Int.toNat_one, Int.toNat_zero, Nat.zero_mul, l_g, endK]
  refine a_call (putOctal_spec (hT.keep hk03) (by omega) (by omega)) ?_
  rintro e H4 ⟨v, rfl, hv, hk4, hf4⟩
  rw [put7 hp.1 hp.2] at hv ⊢
  obtain ⟨D, hD⟩ : ∃ D, D = od 6 (plainS l) ++ [0] := ⟨_, rfl⟩
  have hD7 : D.length = 7 := by rw [hD, List.length_append, od_len]; rfl
  rw [← hD] at hv ⊢
  have hsv := hv.scalar
  simp -implicitDefEqProofs (maxSteps := 1000000) (disch := first | omega | assumption) only [ev_fld8, Sx, reduceIte, Nat.reduceEqDiff, reduceCtorEq, Nat.reduceAdd, Nat.reduceSub, Nat.reduceLT, decide_true, decide_false, Bool.not_true, Bool.not_false, Int.toNat_one, Int.toNat_zero, Nat.zero_mul, l_g, endK]
  refine lits_b1 ?_
  intro r5 H5 hO5 hk5 hr5
  simp -implicitDefEqProofs (maxSteps := 1000000) (disch := first | omega | assumption) only [Sx, reduceIte, Nat.reduceEqDiff, reduceCtorEq, Nat.reduceAdd, Nat.reduceSub, Nat.reduceLT, decide_true, decide_false, Bool.not_true, Bool.not_false, Int.toNat_one, Int.toNat_zero, Nat.zero_mul, l_g, endK]
  refine app_b1 (hv.keep hk5) (by rw [hD7]; decide) (own_by hO5) ?_
  intro v6 H6 hO6 ho6 hm6
  obtain ⟨A6, c6, rfl, hc6, hr6⟩ := own_by hO6
  have hlen : (D ++ [32]).length = 8 := by rw [List.length_append, hD7]; rfl
  have hne : r2 ≠ r := by
    rintro rfl
    exact hO.known (r := r2) rfl hr2
  have hO1' : Arr H6 33 512 r l := (Own.keep hO1 ((hk3.trans hk4).trans hk5)).only ho6 fun q hq => by
    cases hq
    intro e
    exact hO1.known (r := r) rfl ((hk3.none (hf4 r e)))
  have hO2' : Arr H6 33 512 r2 (List.replicate 512 0) := (Own.keep hO2 ((hk3.trans hk4).trans hk5)).only ho6 fun q hq => by
    cases hq
    intro e
    exact hO2.known (r := r2) rfl ((hk3.none (hf4 r2 e)))
  have hk6 : Keep H H6 := ho6.keep ((hk03.trans hk4).trans hk5) fun q hq => hk03.none (hf4 q hq)
  rw [hlen]
  simp -implicitDefEqProofs (maxSteps := 1000000) (disch := first | omega | assumption) only [Sx, reduceIte, Nat.reduceEqDiff, reduceCtorEq, Nat.reduceAdd, Nat.reduceSub, Nat.reduceLT, decide_true, decide_false, Bool.not_true, Bool.not_false, Int.toNat_one, Int.toNat_zero, Nat.zero_mul, l_g, endK]
  have hcut : (some ⟨r, 148, none⟩ : Option Addr) = cutA (some ⟨r, 0, none⟩) 512 148 1 := by rw [cut_own (by omega)]
  rw [hcut]
  refine a_copy (n := 8) (m := 8) (new := by8 (D ++ [32])) hO1' rfl (Nat.le_refl _) (by have := hr6.cells (n := 8) (c := c6) (sz := 1) (by simpa using hlen); exact this) (by simpa using hlen) (by simp; omega) (by simp; omega) (by8_scalar _) ?_
  intro H7 hO7 ho7
  rw [← hcut]
  have hrow : (by8 l).take 148 ++ by8 (D ++ [32]) ++ (by8 l).drop (148 + 8) = by8 (putsumL l) := by
    rw [hD]
    simp [by8, putsumL]
  rw [hrow] at hO7
  have hO27 : Arr H7 33 512 r2 (List.replicate 512 0) := hO2'.only ho7 fun q hq => by
    cases hq
    intro e
    cases e
    exact hne rfl
  have e7 := ev_ldn_arr hO7
  simp -implicitDefEqProofs (maxSteps := 1000000) (disch := first | omega | assumption) only [e7, Sx, reduceIte, Nat.reduceEqDiff, reduceCtorEq, Nat.reduceAdd, Nat.reduceSub, Nat.reduceLT, decide_true, decide_false, Bool.not_true, Bool.not_false, Int.toNat_one, Int.toNat_zero, Nat.zero_mul, l_g, endK]
  refine a_stA hO27 (putsum_len hl) ?_
  intro H8 hO8 ho8
  have hk8 : Keep H H8 := ho8.keep (ho7.keep hk6 fun q hq => by cases hq; exact hr) fun q hq => by cases hq; exact hk.none hr2
  simp -implicitDefEqProofs (maxSteps := 1000000) (disch := first | omega | assumption) only [Sx, reduceIte, Nat.reduceEqDiff, reduceCtorEq, Nat.reduceAdd, Nat.reduceSub, Nat.reduceLT, decide_true, decide_false, Bool.not_true, Bool.not_false, Int.toNat_one, Int.toNat_zero, Nat.zero_mul, l_g, endK]
  rw [g_arr hO8 (by simp -implicitDefEqProofs (maxSteps := 1000000) (disch := first | omega | assumption) only [Sx, reduceIte, Nat.reduceEqDiff, reduceCtorEq, Nat.reduceAdd, Nat.reduceSub, Nat.reduceLT, decide_true, decide_false, Bool.not_true, Bool.not_false, Int.toNat_one, Int.toNat_zero, Nat.zero_mul, l_g, endK])]
  simp -implicitDefEqProofs (maxSteps := 1000000) (disch := first | omega | assumption) only [Sx, reduceIte, Nat.reduceEqDiff, reduceCtorEq, Nat.reduceAdd, Nat.reduceSub, Nat.reduceLT, decide_true, decide_false, Bool.not_true, Bool.not_false, Int.toNat_one, Int.toNat_zero, Nat.zero_mul, l_g, endK]
  exact ⟨by trivial, hk8⟩
end Go.Proofs.YtigignkgblaoaaaDoor.S12
