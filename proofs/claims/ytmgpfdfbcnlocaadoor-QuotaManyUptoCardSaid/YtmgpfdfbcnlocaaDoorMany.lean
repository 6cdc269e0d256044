/-
  QuotaMany.
-/
import Derived.Test.YtmgpfdfbcnlocaaDoorOrder
import Derived.Test.YtmgpfdfbcnlocaaDoorDoc
import Derived.Test.YtmgpfdfbcnlocaaDoorMLaw
set_option linter.unusedVariables false
set_option linter.unusedSimpArgs false
namespace Go.Proofs.YtmgpfdfbcnlocaaDoor.S18
open Go Go.RowKit Go.Proofs.YtmgpfdfbcnlocaaDoor.Sep Go.Proofs.YtmgpfdfbcnlocaaDoor.Low Go.Proofs.YtmgpfdfbcnlocaaDoor.Lib Go.Proofs.YtmgpfdfbcnlocaaDoor.S09

/-- the list of answers in memory -/
def Ob (H : Heap) (r : Nat) (C : List Int) : Prop := ∃ rest : List Value, H r = some (.cells (C.map (fun z => Value.int .i64 z) ++ rest).toArray 28 (0, 0))
theorem Ob.cell {H : Heap} {r i : Nat} {C : List Int} (h : Ob H r C) (hi : i < C.length) : H.cell? ⟨r, i, none⟩ = some (.int .i64 (C.getD i 0)) := by
  obtain ⟨rest, h⟩ := h
  rw [cell_of h]
  rw [List.getElem?_toArray, List.getElem?_append_left (by simpa using hi), List.getElem?_map, List.getElem?_eq_getElem hi, List.getD_eq_getElem?_getD, List.getElem?_eq_getElem hi]
  rfl
theorem getD_set {C : List Int} {i j : Nat} {z : Int} (hi : i < C.length) : (C.set i z).getD j 0 = if j = i then z else C.getD j 0 := by
  rw [List.getD_eq_getElem?_getD, List.getElem?_set, List.getD_eq_getElem?_getD]
  by_cases h : i = j
  · subst h; simp [hi]
  · rw [if_neg h, if_neg (Ne.symm h)]

/-- one entry is taken, the answer is kept -/
theorem many_one {H : Heap} {Q : Post} {QP : List PanicEntry → Heap → Prop} {env : Env} {rm ro k : Nat} {q : Qt} {b e : Int} {A : Option Addr} {c : Nat} {l : List En} {C : List Int} (hm : Pm H rm q b e) (ho : Ob H ro C) (hC : C.length = l.length) (hr : Row H A (ens l)) (hk : k < l.length)
    (ok : Okm q b e) (wx : Wn (at_ l k)) (nom : ro ≠ rm) (g1 : env 1 = .slice A l.length c) (g7 : env 7 = .pointer (some ⟨rm, 0, none⟩)) (g9 : env 9 = .slice (some ⟨ro, 0, none⟩) l.length l.length) (g11 : env 11 = .int .i64 (k : Nat))
    (hQ : ∀ env' H', env' 1 = env 1 → env' 2 = env 2 → env' 3 = env 3 → env' 7 = env 7 → env' 9 = env 9 → env' 10 = env 10 → (∀ j o, H j = some o → j ≠ rm → j ≠ ro → H' j = some o) → Pm H' rm q (takeV q b e (at_ l k)).2.1 (takeV q b e (at_ l k)).2.2 → Ob H' ro (C.set k (takeV q b e (at_ l k)).1) → Q .normal env' H') :
    awpC Tryd.prog L3_0 Q QP env H := by
  obtain ⟨ba, rfl, hld, -⟩ := en_at hr hk
  rw [← at_lt hk] at hld
  unfold L3_0
  simp -implicitDefEqProofs (maxSteps := 1000000) (disch := first | omega | assumption) only [g1, g7, g9, g11, ev_ldn, hld, Sx, reduceIte, Nat.reduceEqDiff, reduceCtorEq, Nat.reduceAdd, Nat.reduceSub, Nat.reduceLT, decide_true, decide_false, Bool.not_true, Bool.not_false, Int.toNat_one, Int.toNat_zero, Nat.zero_mul, l_g, endK, gd_u]
  refine a_call (take_spec hm ok wx) ?_
  rintro e' H1 ⟨rfl, hm1, a1⟩
  obtain ⟨rest, hob⟩ := ho
  have hob1 := a1.oth _ _ hob nom
  simp -implicitDefEqProofs (maxSteps := 1000000) (disch := first | omega | assumption) only [g1, g7, g9, g11, Sx, reduceIte, Nat.reduceEqDiff, reduceCtorEq, Nat.reduceAdd, Nat.reduceSub, Nat.reduceLT, decide_true, decide_false, Bool.not_true, Bool.not_false, Int.toNat_one, Int.toNat_zero, Nat.zero_mul, l_g, endK, gd_u]
  refine st_one (o := k) (v := .int .i64 (takeV q b e (at_ l k)).1) hob1 (by simp; omega) rfl ?_
  simp -implicitDefEqProofs (maxSteps := 1000000) (disch := first | omega | assumption) only [Sx, reduceIte, Nat.reduceEqDiff, reduceCtorEq, Nat.reduceAdd, Nat.reduceSub, Nat.reduceLT, decide_true, decide_false, Bool.not_true, Bool.not_false, Int.toNat_one, Int.toNat_zero, Nat.zero_mul, l_g, endK, gd_u]
  refine hQ _ _ (by (first | exact True.intro | rfl | assumption)) (by (first | exact True.intro | rfl | assumption)) (by (first | exact True.intro | rfl | assumption)) (by (first | exact True.intro | rfl | assumption)) (by (first | exact True.intro | rfl | assumption)) (by (first | exact True.intro | rfl | assumption)) (fun j o hj h1 h2 => by rw [set_other h2]; exact a1.oth _ _ hj h1) ?_ ⟨rest, ?_⟩
  · show (H1.set ro _) rm = _
    rw [set_other (Ne.symm nom)]; exact hm1
  · rw [set_same]
    congr 2
    rw [List.set_append_left _ _ (by simp; omega), List.map_set]

/-- what was answered, place by place -/
structure Ans (q : Qt) (l : List En) (t : Nat) (C : List Int) (i : Nat) : Prop where
  len : C.length = l.length
  ans : ∀ j, j < i → C.getD (plc l.length t j) 0 = code q (fun j => at_ l (plc l.length t j)) j
theorem Ans.step {q : Qt} {l : List En} {t i : Nat} {C : List Int} (h : Ans q l t C i) (hi : i < l.length) : Ans q l t (C.set (plc l.length t i) (code q (fun j => at_ l (plc l.length t j)) i)) (i + 1) := by
  obtain ⟨h1, h2⟩ := h
  refine ⟨by rw [List.length_set]; exact h1, fun j hj => ?_⟩
  rw [getD_set (by rw [h1]; exact plc_lt hi)]
  by_cases he : j = i
  · subst he; rw [if_pos rfl]
  · rw [if_neg fun hh => he (plc_inj (by omega) hi hh)]
    exact h2 j (by omega)
def gF (l : List En) (C : List Int) (i : Nat) : Int := if C.getD i 0 = 0 then needV (at_ l i) else 0
def gG (C : List Int) (i : Nat) : Int := if C.getD i 0 = 0 then 1 else 0
theorem Ans.good {q : Qt} {l : List En} {t : Nat} {C : List Int} (h : Ans q l t C l.length) {i : Nat} (hi : i < l.length) (hz : C.getD i 0 = 0) : Ok1 q (at_ l i) := by
  obtain ⟨j, hj, rfl⟩ := plc_sur (t := t) hi
  rw [h.ans j hj] at hz
  exact code_ok (xs := fun j => at_ l (plc l.length t j)) hz
theorem Ans.sums {q : Qt} {l : List En} {t : Nat} {C : List Int} (h : Ans q l t C l.length) : sm (gF l C) l.length = (run q (fun j => at_ l (plc l.length t j)) l.length).1 ∧ sm (gG C) l.length = (run q (fun j => at_ l (plc l.length t j)) l.length).2 := by
  obtain ⟨s1, s2⟩ := run_sums (q := q) (xs := fun j => at_ l (plc l.length t j)) l.length
  rw [s1, s2, ← sm_plc (gF l C) l.length t, ← sm_plc (gG C) l.length t]
  refine ⟨sm_congr fun j hj => ?_, sm_congr fun j hj => ?_⟩
  · show gF l C (plc l.length t j) = _
    unfold gF got
    rw [h.ans j hj]
  · show gG C (plc l.length t j) = _
    unfold gG gone
    rw [h.ans j hj]
theorem Ans.fnn {q : Qt} {l : List En} {t : Nat} {C : List Int} (h : Ans q l t C l.length) : (∀ j, j < l.length → 0 ≤ gF l C j) ∧ (∀ j, j < l.length → 0 ≤ gG C j) := by
  refine ⟨fun j hj => ?_, fun j hj => ?_⟩
  · unfold gF
    split
    · rename_i hz; exact (h.good hj hz).n
    · exact Int.le_refl _
  · unfold gG
    split <;> omega
/-- with room for all the good ones, just these were taken -/
theorem Ans.just {q : Qt} {l : List En} {t : Nat} {C : List Int} (h : Ans q l t C l.length) (hc : can q) (wq : Wq q) (hy : ∀ j, j < l.length → code q (at_ l) j ≠ 180 ∧ code q (at_ l) j ≠ 182) {i : Nat} (hi : i < l.length) : (C.getD i 0 == 0) = (code q (at_ l) i == 0) := by
  obtain ⟨j1, j2⟩ := S18.just (q := q) (xs := fun j => at_ l (plc l.length t j)) (ys := at_ l) (n := l.length) hc wq (fun f => sm_plc (fun j => f (at_ l j)) l.length t) hy
  obtain ⟨j, hj, rfl⟩ := plc_sur (t := t) hi
  rw [Bool.eq_iff_iff, beq_iff_eq, beq_iff_eq, h.ans j hj, j1 j hj, j2 _ hi]
end Go.Proofs.YtmgpfdfbcnlocaaDoor.S18
