/-
  A code's words, and what it reads.
-/
import Derived.Test.YtgbhdpeibiglfaaDoorSNew2
import Derived.Test.YtgbhdpeibiglfaaDoorSCode
import Derived.Test.YtgbhdpeibiglfaaDoorSReader
set_option linter.unusedVariables false
set_option linter.unusedSimpArgs false
namespace Go.Proofs.YtgbhdpeibiglfaaDoor.S05
open Go Go.RowKit Go.Proofs.YtgbhdpeibiglfaaDoor.Sep Go.Proofs.YtgbhdpeibiglfaaDoor.Low Go.Proofs.YtgbhdpeibiglfaaDoor.CodeLaw Go.Proofs.YtgbhdpeibiglfaaDoor.Pack Go.Proofs.YtgbhdpeibiglfaaDoor.BitLaw
open Go.Proofs.YtgbhdpeibiglfaaDoor.Lib (by64 by64_scalar encs encs_len)

theorem CAt.only {S : Nat → Prop} {H H' : Heap} {p : Nat} {l : List Int} {wv ov : Value} {fs : List Int} {lo : Nat} (h : CAt H p l wv ov fs lo) (ho : Only S H H') (h0 : ¬ S p) (h1 : ∀ r, own wv = some r → ¬ S r) (h2 : ∀ r, own ov = some r → ¬ S r) : CAt H' p l wv ov fs lo :=
  ⟨ho.oth _ _ h.B h0, h.W.only ho h1, h.O.only ho h2, h.fl, h.ff, h.L⟩
theorem CAt.keep {H H' : Heap} {p : Nat} {l : List Int} {wv ov : Value} {fs : List Int} {lo : Nat} (h : CAt H p l wv ov fs lo) (hk : Keep H H') : CAt H' p l wv ov fs lo :=
  ⟨hk _ _ h.B, h.W.keep hk, h.O.keep hk, h.fl, h.ff, h.L⟩

theorem whole_spec {H : Heap} {p : Nat} {l : List Int} {wv ov : Value} {fs : List Int} {lo : Nat} (h : CAt H p l wv ov fs lo) :
    ACalls Tryd.prog 74 [Value.pointer (some ⟨p, 0, none⟩)].toArray H fun e H' => e = .returned (.bool (isWhole l)) ∧ H' = H := by
  refine call74 (Nat.le_of_ble_eq_true rfl) ?_
  unfold L74 env0
  have h1 := (cc_wh (wv := wv) (ov := ov) (cs := cnts l) (fs := fs) (wh := isWhole l) (lo := lo) (cnts_len _) h.fl).1
  simp -implicitDefEqProofs (maxSteps := 1000000) (disch := first | omega | assumption) only [cell_of h.B, h1, Sx, reduceIte, Nat.reduceEqDiff, reduceCtorEq, Nat.reduceAdd, Nat.reduceSub, Nat.reduceLT]
  exact ⟨by trivial, by trivial⟩

end Go.Proofs.YtgbhdpeibiglfaaDoor.S05
