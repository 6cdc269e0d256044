/-
  Coins in memory.
-/
import Derived.Test.YtfdcolicpfellaaSorts
import Derived.Test.YtfdcolicpfellaaLowT
import Derived.Test.YtfdcolicpfellaaPackLaw2
set_option linter.unusedVariables false
set_option linter.unusedSimpArgs false
namespace Go.Proofs.Ytfdcolicpfellaa.S05
open Go Go.RowKit Go.Proofs.Ytfdcolicpfellaa.Sep Go.Proofs.Ytfdcolicpfellaa.Low
open Go.Proofs.Ytfdcolicpfellaa.PackLaw (Tr wt cntL leaves)
open Go.Proofs.Ytfdcolicpfellaa.Lib (by64 by64_scalar)

/-- a coin and all that it is made of -/
inductive TrAt (H : Heap) (o : Nat → Int) : Tr → Nat → Prop where
  | leaf {s b : Nat} : H b = some (.cells #[.int .i64 (o s), .int .i64 (s : Nat), .pointer none, .pointer none] 99 (0, 0)) → TrAt H o (.leaf s) b
  | node {t u : Tr} {b bt bu : Nat} : H b = some (.cells #[.int .i64 (wt o (.node t u)), .int .i64 0, .pointer (some ⟨bt, 0, none⟩), .pointer (some ⟨bu, 0, none⟩)] 99 (0, 0)) → TrAt H o t bt → TrAt H o u bu → TrAt H o (.node t u) b
theorem TrAt.keep {H H' : Heap} {o : Nat → Int} {t : Tr} {b : Nat} (h : TrAt H o t b) (hk : Keep H H') : TrAt H' o t b := by
  induction h with
  | leaf h => exact .leaf (hk _ _ h)
  | node h _ _ ih1 ih2 => exact .node (hk _ _ h) ih1 ih2
theorem TrAt.only {S : Nat → Prop} {H H' : Heap} {o : Nat → Int} {t : Tr} {b : Nat} (h : TrAt H o t b) (ho : Only S H H') (hs : ∀ q cs, H q = some (.cells cs 99 (0, 0)) → ¬ S q) : TrAt H' o t b := by
  induction h with
  | leaf h => exact .leaf (ho.oth _ _ h (hs _ _ h))
  | node h _ _ ih1 ih2 => exact .node (ho.oth _ _ h (hs _ _ h)) ih1 ih2
theorem TrAt.oth {H H' : Heap} {o : Nat → Int} {t : Tr} {b T : Nat} {v : Value} {cs : List Value} (h : TrAt H o t b) (hO : Own H T 1 v cs) (hT : T ≠ 99) (ho : Oth H v H') : TrAt H' o t b :=
  h.only ho fun q cs hq e => hO.elem hq hT e
theorem TrAt.key {H : Heap} {o : Nat → Int} {t : Tr} {b : Nat} (h : TrAt H o t b) : ∃ s l r, H b = some (.cells #[.int .i64 (wt o t), s, l, r] 99 (0, 0)) := by
  cases h with
  | leaf h => exact ⟨_, _, _, h⟩
  | node h _ _ => exact ⟨_, _, _, h⟩

/-- numbers, one for each symbol -/
abbrev nums (M : Nat) (f : Nat → Nat) : List Int := (List.range M).map fun x => ((f x : Nat) : Int)
theorem nums_set {M s : Nat} {f : Nat → Nat} (hs : s < M) (v : Nat) : (nums M f).set s (v : Int) = nums M fun x => if x = s then v else f x := by
  apply List.ext_getElem (by simp)
  intro i h1 h2
  rw [List.getElem_set]
  simp only [List.getElem_map, List.getElem_range]
  by_cases e : s = i
  · subst e; simp
  · rw [if_neg e, if_neg (fun h => e h.symm)]
abbrev Ls (H : Heap) (v : Value) (M : Nat) (f : Nat → Nat) : Prop := Own H 3 1 v (by64 (nums M f))

set_option maxHeartbeats 2000000 in
theorem each_spec {o : Nat → Int} : ∀ (t : Tr) {H : Heap} {v : Value} {M b : Nat} {f : Nat → Nat}, TrAt H o t b → Ls H v M f → leaves (· < M) t → (∀ x, f x + PackLaw.cnt t x ≤ 1000000000) →
    ACalls Try.prog 56 [Value.pointer (some ⟨b, 0, none⟩), v].toArray H fun e H' => e = .returned (.tuple #[]) ∧ Ls H' v M (fun x => f x + PackLaw.cnt t x) ∧ Oth H v H'
  | .leaf s, H, v, M, b, f, .leaf hb, hO, hlv, hbd => by
    have hs : s < M := hlv
    refine call56 (Nat.le_of_ble_eq_true rfl) ?_
    unfold L56 env0
    obtain ⟨r, n, c, rfl, hln, -⟩ := Lib.storeC hO (j := s) (u := .int .i64 0) (by simpa using hs) rfl
    simp only [List.length_map, List.length_range, Nat.mul_one] at hln
    subst hln
    obtain ⟨a, n', c', e, hn, hc, hr⟩ := Own.view hO
    cases e
    obtain ⟨q, e, hq⟩ := hr.at (i := s) (by simpa using hs)
    cases e
    rw [add_mk, Nat.zero_add] at hq
    have hg : (by64 (nums n f))[s]'(by simpa using hs) = .int .i64 (f s : Nat) := by simp
    rw [hg] at hq
    have hfs := hbd s
    rw [PackLaw.cnt, if_pos rfl] at hfs
    have e1 : ((f s : Nat) : Int) + 1 = ((f s + 1 : Nat) : Int) := by omega
    simp -implicitDefEqProofs (maxSteps := 1000000) (disch := first | omega | assumption) only [cell_of hb, Option.isNone, bne_self_eq_false, Bool.bne_false, hq, e1, Sx, reduceIte, Nat.reduceEqDiff, reduceCtorEq, Nat.reduceAdd, Nat.reduceSub, Nat.reduceLT]
    refine Lib.a_storeC hO (j := s) (by simpa using hs) rfl ?_
    intro H' hO' ho'
    try simp -implicitDefEqProofs (maxSteps := 1000000) (disch := first | omega | assumption) only [Sx, reduceIte, Nat.reduceEqDiff, reduceCtorEq, Nat.reduceAdd, Nat.reduceSub, Nat.reduceLT]
    refine ⟨by trivial, ?_, ho'⟩
    have e2 : (by64 (nums n f)).set s (.int .i64 (f s + 1 : Nat)) = by64 (nums n fun x => f x + PackLaw.cnt (.leaf s) x) := by
      rw [by64, ← List.map_set, nums_set hs]
      congr 1
      apply List.map_congr_left
      intro x _
      simp only [PackLaw.cnt]
      by_cases e : x = s
      · subst e; simp
      · rw [if_neg e, if_neg (fun h => e h.symm)]; simp
    show Own H' _ 1 _ _
    rw [← e2]
    exact hO'
  | .node t u, H, v, M, b, f, .node (bt := bt) (bu := bu) hb ht hu, hO, hlv, hbd => by
    refine call56 (Nat.le_of_ble_eq_true rfl) ?_
    unfold L56 env0
    have hbd' : ∀ x, f x + PackLaw.cnt t x + PackLaw.cnt u x ≤ 1000000000 := fun x => by have := hbd x; rw [PackLaw.cnt] at this; omega
    have q0 : (false != false) = false := rfl
    simp -implicitDefEqProofs (maxSteps := 1000000) (disch := first | omega | assumption) only [cell_of hb, q0, Sx, reduceIte, Nat.reduceEqDiff, reduceCtorEq, Nat.reduceAdd, Nat.reduceSub, Nat.reduceLT]
    refine a_call (each_spec t ht hO hlv.1 (fun x => by have := hbd' x; omega)) ?_
    rintro e H1 ⟨rfl, hO1, ho1⟩
    have hb1 := ho1.oth _ _ hb (fun e => hO.elem hb (by decide) e)
    simp -implicitDefEqProofs (maxSteps := 1000000) (disch := first | omega | assumption) only [endK, cell_of hb1, Sx, reduceIte, Nat.reduceEqDiff, reduceCtorEq, Nat.reduceAdd, Nat.reduceSub, Nat.reduceLT]
    refine a_call (each_spec u (hu.oth hO (by decide) ho1) hO1 hlv.2 (fun x => hbd' x)) ?_
    rintro e H2 ⟨rfl, hO2, ho2⟩
    simp -implicitDefEqProofs (maxSteps := 1000000) (disch := first | omega | assumption) only [endK, Sx, reduceIte, Nat.reduceEqDiff, reduceCtorEq, Nat.reduceAdd, Nat.reduceSub, Nat.reduceLT]
    refine ⟨by trivial, ?_, ho1.trans ho2 fun q hq => .inl hq⟩
    have : (fun x => f x + PackLaw.cnt (.node t u) x) = fun x => f x + PackLaw.cnt t x + PackLaw.cnt u x := by
      funext x; rw [PackLaw.cnt]; omega
    rw [this]
    exact hO2

/-- slices.Clone at coins -/
theorem cclone_spec {H : Heap} {r c : Nat} {ds : List Nat} (hO : Cs H (.slice (some ⟨r, 0, none⟩) ds.length c) ds) (hn : ds.length ≤ 1000000) :
    ACalls Try.prog 55 [Value.slice (some ⟨r, 0, none⟩) ds.length c].toArray H fun e H' => ∃ v, e = .returned v ∧ Cs H' v ds ∧ Keep H H' ∧ Fresh H v := by
  refine call55 (Nat.le_of_ble_eq_true rfl) ?_
  unfold L55 env0
  obtain ⟨a, n', c', e, hl, hc, hr⟩ := Own.view hO
  cases e
  simp -implicitDefEqProofs (maxSteps := 1000000) (disch := first | omega | assumption) only [ev_eqs1, Option.isNone, bne_self_eq_false, Bool.bne_false, Sx, reduceIte, Nat.reduceEqDiff, reduceCtorEq, Nat.reduceAdd, Nat.reduceSub, Nat.reduceLT]
  refine a_lits (sz := 1) (cells := #[]) rfl rfl ?_
  intro r1 H1 hO1 hk hr1
  try simp -implicitDefEqProofs (maxSteps := 1000000) (disch := first | omega | assumption) only [Sx, reduceIte, Nat.reduceEqDiff, reduceCtorEq, Nat.reduceAdd, Nat.reduceSub, Nat.reduceLT]
  refine a_app (len := 0) (m := ds.length) (new := ps ds) hO1 rfl (by rfl) ((hk.row hr).cells (by simp)) (by simp) rfl (by omega) (ps_scalar _) (by omega) ?_
  intro v H2 hO2 ho hm
  try simp -implicitDefEqProofs (maxSteps := 1000000) (disch := first | omega | assumption) only [Sx, reduceIte, Nat.reduceEqDiff, reduceCtorEq, Nat.reduceAdd, Nat.reduceSub, Nat.reduceLT]
  refine ⟨v, rfl, by simpa using hO2, ho.keep hk ?_, hm.fresh hk ?_⟩
  · rintro q ⟨⟩; exact hr1
  · rintro q ⟨⟩; exact hr1
end Go.Proofs.Ytfdcolicpfellaa.S05
