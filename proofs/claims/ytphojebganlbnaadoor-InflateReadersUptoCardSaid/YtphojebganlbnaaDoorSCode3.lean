/-
  A code's words, and what it reads.
-/
import Derived.Test.YtphojebganlbnaaDoorSNew2
import Derived.Test.YtphojebganlbnaaDoorCodeLaw2
import Derived.Test.YtphojebganlbnaaDoorSReader
set_option linter.unusedVariables false
set_option linter.unusedSimpArgs false
namespace Go.Proofs.YtphojebganlbnaaDoor.S05
open Go Go.RowKit Go.Proofs.YtphojebganlbnaaDoor.Sep Go.Proofs.YtphojebganlbnaaDoor.Low Go.Proofs.YtphojebganlbnaaDoor.CodeLaw Go.Proofs.YtphojebganlbnaaDoor.Pack Go.Proofs.YtphojebganlbnaaDoor.BitLaw
open Go.Proofs.YtphojebganlbnaaDoor.Lib (by64 by64_scalar encs encs_len)

def getC (v : Value) (n : Nat) (H : Heap) : Option Value := match v with
  | .pointer (some x) => (H.loadN x 0 n).map fun l => .agg l.toArray
  | _ => none
theorem g_c2 {env : Env} {H : Heap} {i : Tmp} {n : Nat} {rs : List RV} : getAll env H (.c i (some n) :: rs) = (getC (env i) n H).bind fun v => (getAll env H rs).map (v :: ·) := by
  simp only [getAll, RV.get, getC]
  cases env i with
  | pointer p => cases p with
    | none => rfl
    | some x => dsimp only; cases H.loadN x 0 n <;> rfl
  | _ => rfl
theorem getC_p {H : Heap} {x : Addr} {n : Nat} : getC (.pointer (some x)) n H = (H.loadN x 0 n).map fun l => .agg l.toArray := rfl
theorem load_set {H : Heap} {r n : Nat} {T : TypeId} {f : Nat × Nat} {l : List Value} (hn : l.length = n) : (H.set r (.cells l.toArray T f)).loadN ⟨r, 0, none⟩ 0 n = some l := by
  subst hn
  exact Row.loadN (row_of_block (T := T) (f := f) (rest := []) (by rw [set_same]; simp))

theorem CAt.only {S : Nat → Prop} {H H' : Heap} {p : Nat} {l : List Int} {wv ov : Value} {fs : List Int} {lo : Nat} (h : CAt H p l wv ov fs lo) (ho : Only S H H') (h0 : ¬ S p) (h1 : ∀ r, own wv = some r → ¬ S r) (h2 : ∀ r, own ov = some r → ¬ S r) : CAt H' p l wv ov fs lo :=
  ⟨ho.oth _ _ h.B h0, h.W.only ho h1, h.O.only ho h2, h.fl, h.ff, h.L⟩
theorem CAt.keep {H H' : Heap} {p : Nat} {l : List Int} {wv ov : Value} {fs : List Int} {lo : Nat} (h : CAt H p l wv ov fs lo) (hk : Keep H H') : CAt H' p l wv ov fs lo :=
  ⟨hk _ _ h.B, h.W.keep hk, h.O.keep hk, h.fl, h.ff, h.L⟩

theorem whole_spec {H : Heap} {p : Nat} {l : List Int} {wv ov : Value} {fs : List Int} {lo : Nat} (h : CAt H p l wv ov fs lo) :
    ACalls Tryd.prog 56 [Value.pointer (some ⟨p, 0, none⟩)].toArray H fun e H' => e = .returned (.bool (isWhole l)) ∧ H' = H := by
  refine call56 (Nat.le_of_ble_eq_true rfl) ?_
  unfold L56 env0
  have h1 := (cc_wh (wv := wv) (ov := ov) (cs := cnts l) (fs := fs) (wh := isWhole l) (lo := lo) (cnts_len _) h.fl).1
  simp -implicitDefEqProofs (maxSteps := 1000000) (disch := first | omega | assumption) only [cell_of h.B, h1, Sx, reduceIte, Nat.reduceEqDiff, reduceCtorEq, Nat.reduceAdd, Nat.reduceSub, Nat.reduceLT]
  exact ⟨by trivial, by trivial⟩

/-- a symbol's word and error -/
def wordAns (l : List Int) (s : Int) : (Nat × Nat) × Int := if s < 0 ∨ (l.length : Int) ≤ s then ((0, 0), 1) else if len_ l s.toNat = 0 then ((0, 0), 52) else (wordAt l s.toNat, 0)
abbrev wordRet (l : List Int) (s : Int) : Ending := .returned (.tuple #[.agg (wd (wordAns l s).1).toArray, .int .i64 (wordAns l s).2])
theorem WL_get {l : List Int} (hok : LenOk l) {i : Nat} (hi : i < l.length) : (WL l 16 0)[i]'(by rw [WL_len]; exact hi) = wordAt l i := by
  have := len_le hok i
  simp only [WL, List.getElem_map, List.getElem_range]
  by_cases h : 0 < len_ l i
  · rw [if_pos (.inl ⟨h, by omega⟩)]
  · rw [if_neg (by omega)]
    have : len_ l i = 0 := by omega
    simp [wordAt, this, rev]

end Go.Proofs.YtphojebganlbnaaDoor.S05
