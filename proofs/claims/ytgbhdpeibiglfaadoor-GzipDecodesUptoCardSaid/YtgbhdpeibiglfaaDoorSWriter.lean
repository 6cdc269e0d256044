/-
  bits.Writer, over memory in parts.
-/
import Derived.Test.YtgbhdpeibiglfaaDoorLowA
import Derived.Test.YtgbhdpeibiglfaaDoorSepList
import Derived.Test.YtgbhdpeibiglfaaDoorCodeLaw
set_option linter.unusedVariables false
set_option linter.unusedSimpArgs false
namespace Go.Proofs.YtgbhdpeibiglfaaDoor.S05
open Go Go.RowKit Go.Proofs.YtgbhdpeibiglfaaDoor.Sep Go.Proofs.YtgbhdpeibiglfaaDoor.Low Go.Proofs.YtgbhdpeibiglfaaDoor.Pack

abbrev by8 (l : List Int) : List Value := l.map (.int .u8)
theorem by8_scalar (l : List Int) : ∀ v ∈ by8 l, scalarV v = true := by
  intro v hv
  obtain ⟨x, _, rfl⟩ := List.mem_map.1 hv
  rfl

/-- what a call on it may turn -/
abbrev Chg (H : Heap) (p : Nat) (v : Value) (H' : Heap) (v' : Value) : Prop := Only (fun q => q = p ∨ own v = some q) H H' ∧ Moved H v v'
theorem Chg.trans {H H1 H2 : Heap} {p : Nat} {v v1 v2 : Value} (h : Chg H p v H1 v1) (k : Chg H1 p v1 H2 v2) : Chg H p v H2 v2 := by
  refine ⟨h.1.trans k.1 fun q hq => ?_, ?_⟩
  · rcases hq with hq | hq
    · exact .inl (.inl hq)
    · rcases h.2 with e | ⟨r, e, hr⟩
      · exact .inl (.inr (e ▸ hq))
      · rw [e] at hq; cases hq; exact .inr hr
  · rcases k.2 with e | ⟨r, e, hr⟩
    · rw [Moved, e]; exact h.2
    · exact .inr ⟨r, e, h.1.none hr⟩

/-- slices.Clone at bytes -/
theorem clone_spec {H : Heap} {a : Option Addr} {n c : Nat} {cs : List Value} (hr : Row H a cs) (hl : cs.length = n) (hs : ∀ v ∈ cs, scalarV v = true) (hn : n ≤ 211106232532992) :
    ACalls Tryd.prog 38 [Value.slice a n c].toArray H fun e H' => ∃ v, e = .returned v ∧ Own H' 5 1 v cs ∧ Keep H H' ∧ Fresh H v := by
  refine call38 (Nat.le_of_ble_eq_true rfl) ?_
  unfold L38 env0
  cases a with
  | none =>
    have : cs = [] := by
      cases cs with
      | nil => rfl
      | cons v cs => obtain ⟨b, e, _⟩ := hr 0 v (by simp); cases e
    subst this
    simp -implicitDefEqProofs (maxSteps := 1000000) (disch := first | omega | assumption) only [ev_eqs0, Option.isNone, bne_self_eq_false, Bool.bne_false, Sx, reduceIte, Nat.reduceEqDiff, reduceCtorEq, Nat.reduceAdd, Nat.reduceSub, Nat.reduceLT]
    exact ⟨_, rfl, .nil, Keep.refl H, fun r e => by cases e⟩
  | some a =>
    simp -implicitDefEqProofs (maxSteps := 1000000) (disch := first | omega | assumption) only [ev_eqs1, Option.isNone, bne_self_eq_false, Bool.bne_false, Sx, reduceIte, Nat.reduceEqDiff, reduceCtorEq, Nat.reduceAdd, Nat.reduceSub, Nat.reduceLT]
    refine a_lits (sz := 1) (cells := #[]) rfl rfl ?_
    intro r H1 hO hk hr1
    try simp -implicitDefEqProofs (maxSteps := 1000000) (disch := first | omega | assumption) only [Sx, reduceIte, Nat.reduceEqDiff, reduceCtorEq, Nat.reduceAdd, Nat.reduceSub, Nat.reduceLT]
    refine a_app (len := 0) (m := n) (new := cs) hO rfl (by rfl) ((hk.row hr).cells (by omega)) (by omega) rfl (by omega) hs (by omega) ?_
    intro v H2 hO2 ho hm
    try simp -implicitDefEqProofs (maxSteps := 1000000) (disch := first | omega | assumption) only [Sx, reduceIte, Nat.reduceEqDiff, reduceCtorEq, Nat.reduceAdd, Nat.reduceSub, Nat.reduceLT]
    refine ⟨v, rfl, hO2, ho.keep hk ?_, hm.fresh hk ?_⟩
    · rintro q ⟨⟩; exact hr1
    · rintro q ⟨⟩; exact hr1

end Go.Proofs.YtgbhdpeibiglfaaDoor.S05
