/-
  A code's words, and what it reads.
-/
import Derived.Test.YtfdcolicpfellaaSNew2
import Derived.Test.YtfdcolicpfellaaCodeLaw2
import Derived.Test.YtfdcolicpfellaaSReader
set_option linter.unusedVariables false
set_option linter.unusedSimpArgs false
namespace Go.Proofs.Ytfdcolicpfellaa.S05
open Go Go.RowKit Go.Proofs.Ytfdcolicpfellaa.Sep Go.Proofs.Ytfdcolicpfellaa.Low Go.Proofs.Ytfdcolicpfellaa.CodeLaw Go.Proofs.Ytfdcolicpfellaa.Pack Go.Proofs.Ytfdcolicpfellaa.BitLaw
open Go.Proofs.Ytfdcolicpfellaa.Lib (by64 by64_scalar encs encs_len)

def getC (v : Value) (n : Nat) (H : Heap) : Option Value := match v with
  | .pointer (some x) => (H.loadN x 0 n).map fun l => .agg l.toArray
  | _ => none
theorem g_c2 {env : Env} {H : Heap} {i : Tmp} {n : Nat} {rs : List RV} : getAll env H (.c i (some n) :: rs) = (getC (env i) n H).bind fun v => (getAll env H rs).map (v :: ·) := by
  simp only [getAll, RV.get, getC]
  cases env i with
  | pointer p => cases p with
    | none => rfl
    | some x => dsimp only; cases H.loadN x 0 n <;> rfl
  | _ => rfl
theorem getC_p {H : Heap} {x : Addr} {n : Nat} : getC (.pointer (some x)) n H = (H.loadN x 0 n).map fun l => .agg l.toArray := rfl
theorem load_set {H : Heap} {r n : Nat} {T : TypeId} {f : Nat × Nat} {l : List Value} (hn : l.length = n) : (H.set r (.cells l.toArray T f)).loadN ⟨r, 0, none⟩ 0 n = some l := by
  subst hn
  exact Row.loadN (row_of_block (T := T) (f := f) (rest := []) (by rw [set_same]; simp))

theorem CAt.only {S : Nat → Prop} {H H' : Heap} {p : Nat} {l : List Int} {wv ov : Value} {fs : List Int} {lo : Nat} (h : CAt H p l wv ov fs lo) (ho : Only S H H') (h0 : ¬ S p) (h1 : ∀ r, own wv = some r → ¬ S r) (h2 : ∀ r, own ov = some r → ¬ S r) : CAt H' p l wv ov fs lo :=
  ⟨ho.oth _ _ h.B h0, h.W.only ho h1, h.O.only ho h2, h.fl, h.ff, h.L⟩
theorem CAt.keep {H H' : Heap} {p : Nat} {l : List Int} {wv ov : Value} {fs : List Int} {lo : Nat} (h : CAt H p l wv ov fs lo) (hk : Keep H H') : CAt H' p l wv ov fs lo :=
  ⟨hk _ _ h.B, h.W.keep hk, h.O.keep hk, h.fl, h.ff, h.L⟩

theorem whole_spec {H : Heap} {p : Nat} {l : List Int} {wv ov : Value} {fs : List Int} {lo : Nat} (h : CAt H p l wv ov fs lo) :
    ACalls Try.prog 35 [Value.pointer (some ⟨p, 0, none⟩)].toArray H fun e H' => e = .returned (.bool (isWhole l)) ∧ H' = H := by
  refine call35 (Nat.le_of_ble_eq_true rfl) ?_
  unfold L35 env0
  have h1 := (cc_wh (wv := wv) (ov := ov) (cs := cnts l) (fs := fs) (wh := isWhole l) (lo := lo) (cnts_len _) h.fl).1
  simp -implicitDefEqProofs (maxSteps := 1000000) (disch := first | omega | assumption) only [cell_of h.B, h1, Sx, reduceIte, Nat.reduceEqDiff, reduceCtorEq, Nat.reduceAdd, Nat.reduceSub, Nat.reduceLT]
  exact ⟨by trivial, by trivial⟩

/-- a symbol's word and error -/
def wordAns (l : List Int) (s : Int) : (Nat × Nat) × Int := if s < 0 ∨ (l.length : Int) ≤ s then ((0, 0), 1) else if len_ l s.toNat = 0 then ((0, 0), 52) else (wordAt l s.toNat, 0)
abbrev wordRet (l : List Int) (s : Int) : Ending := .returned (.tuple #[.agg (wd (wordAns l s).1).toArray, .int .i64 (wordAns l s).2])
theorem WL_get {l : List Int} (hok : LenOk l) {i : Nat} (hi : i < l.length) : (WL l 16 0)[i]'(by rw [WL_len]; exact hi) = wordAt l i := by
  have := len_le hok i
  simp only [WL, List.getElem_map, List.getElem_range]
  by_cases h : 0 < len_ l i
  · rw [if_pos (.inl ⟨h, by omega⟩)]
  · rw [if_neg (by omega)]
    have : len_ l i = 0 := by omega
    simp [wordAt, this, rev]

theorem word_spec {H : Heap} {p : Nat} {l : List Int} {wv ov : Value} {fs : List Int} {lo : Nat} (h : CAt H p l wv ov fs lo) (hc : isCode l = true) (s : Int) (hs0 : -9223372036854775808 ≤ s) (hs1 : s ≤ 9223372036854775807) :
    ACalls Try.prog 36 [Value.pointer (some ⟨p, 0, none⟩), .int .i64 s].toArray H fun e H' => e = wordRet l s ∧ Keep H H' := by
  refine call36 (Nat.le_of_ble_eq_true rfl) ?_
  unfold L36 env0
  obtain ⟨⟨hl1, hl2⟩, hok, _, _⟩ := isCode_ok hc
  obtain ⟨A, n, c, rfl, hln, hcap, hrow⟩ := h.W.view
  have hn : n = l.length := by rw [encs_len wd_len, WL_len] at hln; omega
  subst hn
  have hw0 := (cc_hd (wv := .slice A l.length c) (ov := ov) (cs := cnts l) (fs := fs) (wh := isWhole l) (lo := lo)).1
  simp -implicitDefEqProofs (maxSteps := 1000000) (disch := first | omega | assumption) only [Sx, reduceIte, Nat.reduceEqDiff, reduceCtorEq, Nat.reduceAdd, Nat.reduceSub, Nat.reduceLT]
  refine a_new fun r hr => ?_
  have hk1 : Keep H (H.set r (.cells #[.int .u32 0, .int .i64 0] 62 (0, 0))) := (Keep.refl H).set_new hr
  generalize hH1 : H.set r (.cells #[.int .u32 0, .int .i64 0] 62 (0, 0)) = H1 at hk1
  have hb1 : H1 r = some (.cells [.int .u32 0, .int .i64 0].toArray 62 (0, 0)) := by rw [← hH1, set_same]
  have hB1 := hk1 _ _ h.B
  have hz := load_set (H := H1) (r := r) (n := 2) (T := 62) (f := (0, 0)) (l := [.int .u32 0, .int .i64 0]) rfl
  by_cases h1 : s < 0
  · have f1 : decide (s < 0) = true := decide_eq_true h1
    simp -implicitDefEqProofs (maxSteps := 1000000) (disch := first | omega | assumption) only [f1, l_g, Sx, reduceIte, Nat.reduceEqDiff, reduceCtorEq, Nat.reduceAdd, Nat.reduceSub, Nat.reduceLT]
    refine st_all (ci := [.int .u32 0, .int .i64 0]) hb1 rfl rfl (by simp [scalarV]) ?_
    simp -implicitDefEqProofs (maxSteps := 1000000) (disch := first | omega | assumption) only [g_c2, getC_p, hz, Option.bind_some, Sx, reduceIte, Nat.reduceEqDiff, reduceCtorEq, Nat.reduceAdd, Nat.reduceSub, Nat.reduceLT]
    unfold wordRet wordAns
    rw [if_pos (.inl h1)]
    exact ⟨rfl, hk1.set_fresh hr⟩
  have f1 : decide (s < 0) = false := decide_eq_false h1
  obtain ⟨i, rfl⟩ : ∃ i : Nat, s = i := ⟨s.toNat, by omega⟩
  by_cases h2 : l.length ≤ i
  · have f2 : decide ((l.length : Int) ≤ (i : Int)) = true := decide_eq_true (by omega)
    simp -implicitDefEqProofs (maxSteps := 1000000) (disch := first | omega | assumption) only [f1, f2, l_g, cell_of hB1, hw0, Sx, reduceIte, Nat.reduceEqDiff, reduceCtorEq, Nat.reduceAdd, Nat.reduceSub, Nat.reduceLT]
    refine st_all (ci := [.int .u32 0, .int .i64 0]) hb1 rfl rfl (by simp [scalarV]) ?_
    simp -implicitDefEqProofs (maxSteps := 1000000) (disch := first | omega | assumption) only [g_c2, getC_p, hz, Option.bind_some, Sx, reduceIte, Nat.reduceEqDiff, reduceCtorEq, Nat.reduceAdd, Nat.reduceSub, Nat.reduceLT]
    unfold wordRet wordAns
    rw [if_pos (.inr (by omega))]
    exact ⟨rfl, hk1.set_fresh hr⟩
  have f2 : decide ((l.length : Int) ≤ (i : Int)) = false := decide_eq_false (by omega)
  obtain ⟨b, rfl, hld, hcl⟩ := Lib.elemR wd_len (by omega) (hk1.row hrow) (i := i) (by rw [WL_len]; omega)
  rw [WL_get hok (by omega)] at hld hcl
  have hN := hcl 1 (.int .i64 (len_ l i)) rfl
  have e1 : (i : Int).toNat * 2 = i * 2 := by omega
  by_cases h3 : len_ l i = 0
  · have f3 : (((len_ l i : Nat) : Int) == 0) = true := by rw [beq_iff_eq]; omega
    simp -implicitDefEqProofs (maxSteps := 1000000) (disch := first | omega | assumption) only [f1, f2, f3, e1, hN, l_g, cell_of hB1, hw0, Sx, reduceIte, Nat.reduceEqDiff, reduceCtorEq, Nat.reduceAdd, Nat.reduceSub, Nat.reduceLT]
    refine st_all (ci := [.int .u32 0, .int .i64 0]) hb1 rfl rfl (by simp [scalarV]) ?_
    simp -implicitDefEqProofs (maxSteps := 1000000) (disch := first | omega | assumption) only [g_c2, getC_p, hz, Option.bind_some, Sx, reduceIte, Nat.reduceEqDiff, reduceCtorEq, Nat.reduceAdd, Nat.reduceSub, Nat.reduceLT]
    unfold wordRet wordAns
    rw [if_neg (by omega), Int.toNat_natCast, if_pos h3]
    exact ⟨rfl, hk1.set_fresh hr⟩
  · have f3 : (((len_ l i : Nat) : Int) == 0) = false := by rw [beq_eq_false_iff_ne]; omega
    simp -implicitDefEqProofs (maxSteps := 1000000) (disch := first | omega | assumption) only [f1, f2, f3, e1, hN, hld, ev_ldn, l_g, cell_of hB1, hw0, Sx, reduceIte, Nat.reduceEqDiff, reduceCtorEq, Nat.reduceAdd, Nat.reduceSub, Nat.reduceLT]
    refine st_all (ci := wd (wordAt l i)) hb1 rfl rfl (wd_scalar _) ?_
    have hz2 := load_set (H := H1) (r := r) (n := 2) (T := 62) (f := (0, 0)) (l := wd (wordAt l i)) rfl
    simp -implicitDefEqProofs (maxSteps := 1000000) (disch := first | omega | assumption) only [g_c2, getC_p, hz2, Option.bind_some, Sx, reduceIte, Nat.reduceEqDiff, reduceCtorEq, Nat.reduceAdd, Nat.reduceSub, Nat.reduceLT]
    unfold wordRet wordAns
    rw [if_neg (by omega), Int.toNat_natCast, if_neg h3]
    exact ⟨rfl, hk1.set_fresh hr⟩
end Go.Proofs.Ytfdcolicpfellaa.S05
