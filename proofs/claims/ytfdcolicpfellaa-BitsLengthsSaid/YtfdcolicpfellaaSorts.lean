import Derived.Test.YtfdcolicpfellaaLowS
import Derived.Test.YtfdcolicpfellaaBase
/-
  Sorting a list of our own of coins: swaps, rotations.
-/
set_option linter.unusedVariables false
set_option linter.unusedSimpArgs false
namespace Go.Proofs.Ytfdcolicpfellaa.S05
open Go Go.RowKit Go.Proofs.Ytfdcolicpfellaa.Sep Go.Proofs.Ytfdcolicpfellaa.Low

/-- a list of coins, as it lies in memory -/
abbrev ps (ds : List Nat) : List Value := ds.map fun b => .pointer (some ⟨b, 0, none⟩)
theorem ps_scalar (ds : List Nat) : ∀ v ∈ ps ds, scalarV v = true := by
  intro v hv
  obtain ⟨x, _, rfl⟩ := List.mem_map.1 hv
  rfl
/-- how often a coin is -/
def KeyB (H : Heap) (key : Nat → Int) (b : Nat) : Prop := ∃ s l r, H b = some (.cells #[.int .i64 (key b), s, l, r] 99 (0, 0))
abbrev Cs (H : Heap) (v : Value) (ds : List Nat) : Prop := Own H 97 1 v (ps ds)
theorem Cs.view {H : Heap} {v : Value} {ds : List Nat} (h : Cs H v ds) (hd : ds ≠ []) : ∃ r c, v = .slice (some ⟨r, 0, none⟩) ds.length c ∧ ds.length ≤ c := by
  cases ds with
  | nil => exact absurd rfl hd
  | cons d ds =>
    obtain ⟨r, len, c, rfl, hl, -⟩ := Lib.storeC h (j := 0) (u := .int .i64 0) (by simp) rfl
    obtain ⟨a, n, c', e, hn, hc, -⟩ := Own.view h
    cases e
    simp only [List.length_map, List.length_cons] at hl hn ⊢
    exact ⟨r, c, by rw [show len = ds.length + 1 by omega], by omega⟩
theorem Cs.cell {H : Heap} {r n c : Nat} {ds : List Nat} (h : Cs H (.slice (some ⟨r, 0, none⟩) n c) ds) {i x : Nat} (hx : ds[i]? = some x) : H.cell? ⟨r, i, none⟩ = some (.pointer (some ⟨x, 0, none⟩)) := by
  obtain ⟨a, n', c', e, hn, hc, hr⟩ := Own.view h
  cases e
  have hi := (List.getElem?_eq_some_iff.1 hx).1
  obtain ⟨b, e, hb⟩ := hr.at (i := i) (by simpa using hi)
  cases e
  rw [add_mk, Nat.zero_add] at hb
  rw [hb, List.getElem_map, (List.getElem?_eq_some_iff.1 hx).2]
theorem KeyB.oth {H H' : Heap} {v : Value} {ds : List Nat} {key : Nat → Int} {b : Nat} (h : KeyB H key b) (hO : Cs H v ds) (ho : Oth H v H') : KeyB H' key b := by
  obtain ⟨s, l, r, hb⟩ := h
  exact ⟨s, l, r, ho.oth _ _ hb (fun e => hO.elem hb (by decide) e)⟩
theorem KeyB.keep {H H' : Heap} {key : Nat → Int} {b : Nat} (h : KeyB H key b) (hk : Keep H H') : KeyB H' key b := by
  obtain ⟨s, l, r, hb⟩ := h
  exact ⟨s, l, r, hk _ _ hb⟩
theorem set_mid {α : Type} (U : List α) (x y : α) (W : List α) : (U ++ x :: W).set U.length y = U ++ y :: W := by simp
theorem get_mid {α : Type} (U : List α) (x : α) (W : List α) : (U ++ x :: W)[U.length]? = some x := by simp

/-- a coin is put at a place -/
theorem st_coin {P : Program} {H : Heap} {r n c i x y : Nat} {U W : List Nat} {KV : Value → Heap → Prop} {KP : List PanicEntry → Heap → Prop} (hO : Cs H (.slice (some ⟨r, 0, none⟩) n c) (U ++ x :: W)) (hi : i = U.length)
    (hk : ∀ H1, Cs H1 (.slice (some ⟨r, 0, none⟩) n c) (U ++ y :: W) → Oth H (.slice (some ⟨r, 0, none⟩) n c) H1 → KV undef H1) : awpE P (.st 1) [.pointer (some ⟨r, i, none⟩), .pointer (some ⟨y, 0, none⟩)] KV KP H := by
  subst hi
  refine Lib.a_storeC hO (by simp) rfl ?_
  intro H1 h1 ho
  refine hk H1 ?_ ho
  have : (ps (U ++ x :: W)).set U.length (.pointer (some ⟨y, 0, none⟩)) = ps (U ++ y :: W) := by
    rw [ps, ps, ← set_mid U x y, List.map_set]
  show Own H1 _ 1 _ (ps (U ++ y :: W))
  rw [← this]
  exact h1

set_option maxHeartbeats 2000000 in
/-- swapRange: two runs of one length change places -/
theorem swapRange_spec {H : Heap} {v f : Value} {A X B Y Z : List Nat} (hO : Cs H v (A ++ X ++ B ++ Y ++ Z)) (hl : X.length = Y.length) (hsm : (A ++ X ++ B ++ Y ++ Z).length ≤ 1000000) {a b n : Nat} (ha : a = A.length) (hb : b = A.length + X.length + B.length) (hn : n = X.length) :
    ACalls Try.prog 63 [v, .int .i64 a, .int .i64 b, .int .i64 n, f].toArray H fun e H' => e = .returned (.tuple #[]) ∧ Cs H' v (A ++ Y ++ B ++ X ++ Z) ∧ Oth H v H' := by
  subst ha hb hn
  refine call63 (Nat.le_of_ble_eq_true rfl) ?_
  unfold L63 env0
  simp only [List.length_append] at hsm
  simp -implicitDefEqProofs (maxSteps := 1000000) (disch := first | omega | assumption) only [Sx, reduceIte, Nat.reduceEqDiff, reduceCtorEq, Nat.reduceAdd, Nat.reduceSub, Nat.reduceLT]
  refine c_loop (fun k env H' => ∃ i, k + i = X.length ∧ env 0 = v ∧ env 1 = .int .i64 (A.length : Nat) ∧ env 2 = .int .i64 (A.length + X.length + B.length : Nat) ∧ env 3 = .int .i64 (X.length : Nat) ∧ env 10 = .int .i64 i ∧ Cs H' v (A ++ (Y.take i ++ X.drop i) ++ B ++ (X.take i ++ Y.drop i) ++ Z) ∧ Oth H v H') X.length ⟨0, by omega, by simp -implicitDefEqProofs (maxSteps := 1000000) (disch := first | omega | assumption) only [Sx, reduceIte, Nat.reduceEqDiff, reduceCtorEq, Nat.reduceAdd, Nat.reduceSub, Nat.reduceLT], by simp -implicitDefEqProofs (maxSteps := 1000000) (disch := first | omega | assumption) only [Sx, reduceIte, Nat.reduceEqDiff, reduceCtorEq, Nat.reduceAdd, Nat.reduceSub, Nat.reduceLT], by simp -implicitDefEqProofs (maxSteps := 1000000) (disch := first | omega | assumption) only [Sx, reduceIte, Nat.reduceEqDiff, reduceCtorEq, Nat.reduceAdd, Nat.reduceSub, Nat.reduceLT], by simp -implicitDefEqProofs (maxSteps := 1000000) (disch := first | omega | assumption) only [Sx, reduceIte, Nat.reduceEqDiff, reduceCtorEq, Nat.reduceAdd, Nat.reduceSub, Nat.reduceLT], by simp -implicitDefEqProofs (maxSteps := 1000000) (disch := first | omega | assumption) only [Sx, reduceIte, Nat.reduceEqDiff, reduceCtorEq, Nat.reduceAdd, Nat.reduceSub, Nat.reduceLT]; rfl, by simpa using hO, Only.refl _ _⟩ ?_
  rintro k env H1 ⟨i, hk, h0, h1, h2, h3, h10, hO1, ho1⟩
  unfold L63_0
  by_cases hi : i < X.length
  · have f0 : decide ((i : Int) < (X.length : Int)) = true := decide_eq_true (by omega)
    have hiY : i < Y.length := by omega
    obtain ⟨x, hx⟩ : ∃ x, x = X[i] := ⟨_, rfl⟩
    obtain ⟨y, hy⟩ : ∃ y, y = Y[i] := ⟨_, rfl⟩
    have e1 : A ++ (Y.take i ++ X.drop i) ++ B ++ (X.take i ++ Y.drop i) ++ Z = (A ++ Y.take i) ++ x :: ((X.drop (i + 1) ++ B ++ X.take i) ++ y :: (Y.drop (i + 1) ++ Z)) := by
      rw [List.drop_eq_getElem_cons hi, List.drop_eq_getElem_cons hiY, ← hx, ← hy]
      simp
    have e2 : A ++ (Y.take (i + 1) ++ X.drop (i + 1)) ++ B ++ (X.take (i + 1) ++ Y.drop (i + 1)) ++ Z = (A ++ Y.take i) ++ y :: ((X.drop (i + 1) ++ B ++ X.take i) ++ x :: (Y.drop (i + 1) ++ Z)) := by
      rw [List.take_succ_eq_append_getElem hi, List.take_succ_eq_append_getElem hiY, ← hx, ← hy]
      simp
    rw [e1] at hO1
    have hlu : (A ++ Y.take i).length = A.length + i := by simp; omega
    have hlv : (X.drop (i + 1) ++ B ++ X.take i).length = X.length - 1 + B.length := by simp; omega
    obtain ⟨r, c, rfl, hc⟩ := hO1.view (by simp)
    have hlen : ((A ++ Y.take i) ++ x :: ((X.drop (i + 1) ++ B ++ X.take i) ++ y :: (Y.drop (i + 1) ++ Z))).length = A.length + X.length + B.length + Y.length + Z.length := by
      simp only [List.length_append, List.length_cons, List.length_take, List.length_drop]; omega
    rw [hlen] at hO1 ho1 hc
    have hcx := hO1.cell (get_mid (A ++ Y.take i) x _)
    have hcy := hO1.cell (i := A.length + X.length + B.length + i) (x := y) (by
      have := get_mid ((A ++ Y.take i) ++ x :: (X.drop (i + 1) ++ B ++ X.take i)) y (Y.drop (i + 1) ++ Z)
      rw [List.length_append, List.length_cons, hlu, hlv] at this
      rw [show A.length + X.length + B.length + i = A.length + i + (X.length - 1 + B.length + 1) by omega, ← this]
      simp)
    rw [hlu] at hcx
    have g1 : ((A.length : Int) + (i : Int)) = ((A.length + i : Nat) : Int) := by omega
    have g2 : (((A.length + X.length + B.length : Nat) : Int) + (i : Int)) = ((A.length + X.length + B.length + i : Nat) : Int) := by omega
    have hsz : A.length + X.length + B.length + i < A.length + X.length + B.length + Y.length + Z.length := by omega
    rw [hlen] at h0
    simp -implicitDefEqProofs (maxSteps := 1000000) (disch := first | omega | assumption) only [h0, h1, h2, h3, h10, f0, g1, g2, hcx, hcy, Sx, reduceIte, Nat.reduceEqDiff, reduceCtorEq, Nat.reduceAdd, Nat.reduceSub, Nat.reduceLT]
    refine st_coin hO1 hlu.symm ?_
    intro H2 hO2 ho2
    try simp -implicitDefEqProofs (maxSteps := 1000000) (disch := first | omega | assumption) only [h0, h1, h2, h3, h10, g1, g2, Sx, reduceIte, Nat.reduceEqDiff, reduceCtorEq, Nat.reduceAdd, Nat.reduceSub, Nat.reduceLT]
    have e3 : (A ++ Y.take i) ++ y :: ((X.drop (i + 1) ++ B ++ X.take i) ++ y :: (Y.drop (i + 1) ++ Z)) = ((A ++ Y.take i) ++ y :: (X.drop (i + 1) ++ B ++ X.take i)) ++ y :: (Y.drop (i + 1) ++ Z) := by simp
    rw [e3] at hO2
    refine st_coin hO2 (y := x) (by rw [List.length_append, List.length_cons, hlu, hlv]; omega) ?_
    intro H3 hO3 ho3
    try simp -implicitDefEqProofs (maxSteps := 1000000) (disch := first | omega | assumption) only [h0, h1, h2, h3, h10, g1, g2, Sx, reduceIte, Nat.reduceEqDiff, reduceCtorEq, Nat.reduceAdd, Nat.reduceSub, Nat.reduceLT]
    refine ⟨k - 1, by omega, i + 1, by omega, ?_, by trivial, by trivial, by trivial, by simp, ?_, (ho1.trans ho2 fun q hq => .inl hq).trans ho3 fun q hq => .inl hq⟩
    · rw [hlen]
    · rw [e2, hlen]
      simpa using hO3
  · have f0 : decide ((i : Int) < (X.length : Int)) = false := decide_eq_false (by omega)
    have : i = X.length := by omega
    subst this
    rw [List.drop_of_length_le (Nat.le_refl _), List.drop_of_length_le (by omega), List.take_of_length_le (Nat.le_refl _), List.take_of_length_le (by omega), List.append_nil, List.append_nil] at hO1
    simp -implicitDefEqProofs (maxSteps := 1000000) (disch := first | omega | assumption) only [h0, h1, h2, h3, h10, f0, Sx, reduceIte, Nat.reduceEqDiff, reduceCtorEq, Nat.reduceAdd, Nat.reduceSub, Nat.reduceLT]
    exact ⟨by trivial, hO1, ho1⟩
end Go.Proofs.Ytfdcolicpfellaa.S05

/-
  Sorting: rotations.
-/
set_option linter.unusedVariables false
set_option linter.unusedSimpArgs false
namespace Go.Proofs.Ytfdcolicpfellaa.S05
open Go Go.RowKit Go.Proofs.Ytfdcolicpfellaa.Sep Go.Proofs.Ytfdcolicpfellaa.Low

set_option maxHeartbeats 4000000 in
/-- rotate: two neighbouring runs change places -/
theorem rotate_spec {H : Heap} {v f : Value} {A X0 Y0 Z : List Nat} (hO : Cs H v (A ++ X0 ++ Y0 ++ Z)) (hX0 : 0 < X0.length) (hY0 : 0 < Y0.length) (hsm : (A ++ X0 ++ Y0 ++ Z).length ≤ 1000000) {a m b : Nat} (ha : a = A.length) (hm : m = A.length + X0.length) (hb : b = A.length + X0.length + Y0.length) :
    ACalls Try.prog 62 [v, .int .i64 a, .int .i64 m, .int .i64 b, f].toArray H fun e H' => e = .returned (.tuple #[]) ∧ Cs H' v (A ++ Y0 ++ X0 ++ Z) ∧ Oth H v H' := by
  subst ha hb
  refine call62 (Nat.le_of_ble_eq_true rfl) ?_
  unfold L62 env0
  simp only [List.length_append] at hsm
  have g1 : ((m : Int) - (A.length : Int)) = (X0.length : Int) := by omega
  have g2 : (((A.length + X0.length + Y0.length : Nat) : Int) - (m : Int)) = (Y0.length : Int) := by omega
  simp -implicitDefEqProofs (maxSteps := 1000000) (disch := first | omega | assumption) only [g1, g2, Sx, reduceIte, Nat.reduceEqDiff, reduceCtorEq, Nat.reduceAdd, Nat.reduceSub, Nat.reduceLT]
  refine c_loop (fun k env H' => ∃ Pq X Y S, k = X.length + Y.length ∧ 0 < X.length ∧ 0 < Y.length ∧ A.length + Pq.length + X.length = m ∧ Pq ++ (Y ++ X) ++ S = Y0 ++ X0 ∧ env 0 = v ∧ env 2 = .int .i64 m ∧ env 4 = f ∧ env 10 = .int .i64 (X.length : Nat) ∧ env 11 = .int .i64 (Y.length : Nat) ∧ Cs H' v (A ++ Pq ++ X ++ Y ++ S ++ Z) ∧ Oth H v H') (X0.length + Y0.length) ⟨[], X0, Y0, [], rfl, hX0, hY0, by simp; omega, by simp, by simp -implicitDefEqProofs (maxSteps := 1000000) (disch := first | omega | assumption) only [Sx, reduceIte, Nat.reduceEqDiff, reduceCtorEq, Nat.reduceAdd, Nat.reduceSub, Nat.reduceLT], by simp -implicitDefEqProofs (maxSteps := 1000000) (disch := first | omega | assumption) only [Sx, reduceIte, Nat.reduceEqDiff, reduceCtorEq, Nat.reduceAdd, Nat.reduceSub, Nat.reduceLT], by simp -implicitDefEqProofs (maxSteps := 1000000) (disch := first | omega | assumption) only [Sx, reduceIte, Nat.reduceEqDiff, reduceCtorEq, Nat.reduceAdd, Nat.reduceSub, Nat.reduceLT], by simp -implicitDefEqProofs (maxSteps := 1000000) (disch := first | omega | assumption) only [Sx, reduceIte, Nat.reduceEqDiff, reduceCtorEq, Nat.reduceAdd, Nat.reduceSub, Nat.reduceLT], by simp -implicitDefEqProofs (maxSteps := 1000000) (disch := first | omega | assumption) only [Sx, reduceIte, Nat.reduceEqDiff, reduceCtorEq, Nat.reduceAdd, Nat.reduceSub, Nat.reduceLT], by simpa using hO, Only.refl _ _⟩ ?_
  rintro k env H1 ⟨Pq, X, Y, S, hk, hX, hY, hmm, hT, h0, h2, h4, h10, h11, hO1, ho1⟩
  have hTl := congrArg List.length hT
  simp only [List.length_append] at hTl
  have htgt : A ++ Pq ++ Y ++ X ++ S ++ Z = A ++ Y0 ++ X0 ++ Z := by
    have : A ++ Pq ++ Y ++ X ++ S ++ Z = A ++ (Pq ++ (Y ++ X) ++ S) ++ Z := by simp
    rw [this, hT]; simp
  have g3 : ((m : Int) - (X.length : Int)) = ((A.length + Pq.length : Nat) : Int) := by omega
  unfold L62_0
  by_cases he : X.length = Y.length
  · have f0 : ((X.length : Int) != (Y.length : Int)) = false := by rw [bne_eq_false_iff_eq]; omega
    simp -implicitDefEqProofs (maxSteps := 1000000) (disch := first | omega | assumption) only [h0, h2, h4, h10, h11, f0, g3, Sx, reduceIte, Nat.reduceEqDiff, reduceCtorEq, Nat.reduceAdd, Nat.reduceSub, Nat.reduceLT]
    refine a_call (swapRange_spec (A := A ++ Pq) (X := X) (B := []) (Y := Y) (Z := S ++ Z) (n := X.length) (by simpa using hO1) he (by simp only [List.length_append, List.length_nil]; omega) (by simp) (by simp; omega) rfl) ?_
    rintro e H2 ⟨rfl, hO2, ho2⟩
    simp -implicitDefEqProofs (maxSteps := 1000000) (disch := first | omega | assumption) only [endK, Sx, reduceIte, Nat.reduceEqDiff, reduceCtorEq, Nat.reduceAdd, Nat.reduceSub, Nat.reduceLT]
    refine ⟨by trivial, ?_, ho1.trans ho2 fun q hq => .inl hq⟩
    rw [← htgt]
    simpa using hO2
  have f0 : ((X.length : Int) != (Y.length : Int)) = true := by rw [bne_iff_ne]; omega
  by_cases hgt : Y.length < X.length
  · have f1 : decide ((Y.length : Int) < (X.length : Int)) = true := decide_eq_true (by omega)
    have hsp : X = X.take Y.length ++ X.drop Y.length := (List.take_append_drop _ _).symm
    have hl1 : (X.take Y.length).length = Y.length := by rw [List.length_take]; omega
    have hl2 : (X.drop Y.length).length = X.length - Y.length := List.length_drop
    generalize hX1 : X.take Y.length = X1 at hsp hl1
    generalize hX2 : X.drop Y.length = X2 at hsp hl2
    clear hX1 hX2
    simp -implicitDefEqProofs (maxSteps := 1000000) (disch := first | omega | assumption) only [h0, h2, h4, h10, h11, f0, f1, g3, Sx, reduceIte, Nat.reduceEqDiff, reduceCtorEq, Nat.reduceAdd, Nat.reduceSub, Nat.reduceLT]
    refine a_call (swapRange_spec (A := A ++ Pq) (X := X1) (B := X2) (Y := Y) (Z := S ++ Z) (n := Y.length) (by rw [hsp] at hO1; simpa using hO1) hl1 (by simp only [List.length_append]; omega) (by simp) (by simp; omega) hl1.symm) ?_
    rintro e H2 ⟨rfl, hO2, ho2⟩
    have g4 : ((X.length : Int) - (Y.length : Int)) = (X2.length : Int) := by omega
    simp -implicitDefEqProofs (maxSteps := 1000000) (disch := first | omega | assumption) only [endK, h0, h2, h4, h10, h11, g4, Sx, reduceIte, Nat.reduceEqDiff, reduceCtorEq, Nat.reduceAdd, Nat.reduceSub, Nat.reduceLT]
    refine ⟨X2.length + X1.length, by omega, Pq ++ Y, X2, X1, S, rfl, by omega, by omega, by simp; omega, ?_, by trivial, by trivial, by trivial, by trivial, by rw [hl1], by simpa using hO2, ho1.trans ho2 fun q hq => .inl hq⟩
    rw [← hT, hsp]; simp
  · have f1 : decide ((Y.length : Int) < (X.length : Int)) = false := decide_eq_false (by omega)
    have hsp : Y = Y.take (Y.length - X.length) ++ Y.drop (Y.length - X.length) := (List.take_append_drop _ _).symm
    have hl1 : (Y.take (Y.length - X.length)).length = Y.length - X.length := by rw [List.length_take]; omega
    have hl2 : (Y.drop (Y.length - X.length)).length = X.length := by rw [List.length_drop]; omega
    generalize hX1 : Y.take (Y.length - X.length) = Y1 at hsp hl1
    generalize hX2 : Y.drop (Y.length - X.length) = Y2 at hsp hl2
    clear hX1 hX2
    have g5 : ((m : Int) + (Y.length : Int) - (X.length : Int)) = ((A.length + Pq.length + X.length + Y1.length : Nat) : Int) := by omega
    simp -implicitDefEqProofs (maxSteps := 1000000) (disch := first | omega | assumption) only [h0, h2, h4, h10, h11, f0, f1, g3, g5, Sx, reduceIte, Nat.reduceEqDiff, reduceCtorEq, Nat.reduceAdd, Nat.reduceSub, Nat.reduceLT]
    refine a_call (swapRange_spec (A := A ++ Pq) (X := X) (B := Y1) (Y := Y2) (Z := S ++ Z) (n := X.length) (by rw [hsp] at hO1; simpa using hO1) hl2.symm (by simp only [List.length_append]; omega) (by simp) (by simp) rfl) ?_
    rintro e H2 ⟨rfl, hO2, ho2⟩
    have g4 : ((Y.length : Int) - (X.length : Int)) = (Y1.length : Int) := by omega
    simp -implicitDefEqProofs (maxSteps := 1000000) (disch := first | omega | assumption) only [endK, h0, h2, h4, h10, h11, g4, Sx, reduceIte, Nat.reduceEqDiff, reduceCtorEq, Nat.reduceAdd, Nat.reduceSub, Nat.reduceLT]
    refine ⟨Y2.length + Y1.length, by omega, Pq, Y2, Y1, X ++ S, rfl, by omega, by omega, by omega, ?_, by trivial, by trivial, by trivial, by rw [hl2], by trivial, by simpa using hO2, ho1.trans ho2 fun q hq => .inl hq⟩
    rw [← hT, hsp]; simp
end Go.Proofs.Ytfdcolicpfellaa.S05

/-
  Sorting: comparing; runs by insertion.
-/
set_option linter.unusedVariables false
set_option linter.unusedSimpArgs false
namespace Go.Proofs.Ytfdcolicpfellaa.S05
open Go Go.RowKit Go.Proofs.Ytfdcolicpfellaa.Sep Go.Proofs.Ytfdcolicpfellaa.Low

theorem a_callv {P : Program} {H : Heap} {f : Nat} {xs : List Value} {S : Ending → Heap → Prop} {KV : Value → Heap → Prop} {KP : List PanicEntry → Heap → Prop} (hc : callable P f = true) (h : ACalls P f xs.toArray H S) (hk : ∀ e H', S e H' → endK KV KP e H') : awpE P .callv (.func (.func f) #[] #[] :: xs) KV KP H :=
  ⟨hc, S, by simpa using h, hk⟩
abbrev cmpF : Value := .func (.func 52) #[] #[]
theorem cmp_callable : callable Try.prog 52 = true := by kernel_rfl

theorem isNaN_spec {H : Heap} {x : Int} : ACalls Try.prog 58 [Value.int .i64 x].toArray H fun e H' => e = .returned (.bool false) ∧ H' = H := by
  refine call58 (Nat.le_of_ble_eq_true rfl) ?_
  unfold L58 env0
  have f0 : (x != x) = false := by simp
  simp -implicitDefEqProofs (maxSteps := 1000000) (disch := first | omega | assumption) only [f0, Sx, reduceIte, Nat.reduceEqDiff, reduceCtorEq, Nat.reduceAdd, Nat.reduceSub, Nat.reduceLT]
  exact ⟨by trivial, by trivial⟩
theorem compare_spec {H : Heap} {x y : Int} : ACalls Try.prog 53 [Value.int .i64 x, .int .i64 y].toArray H fun e H' => (∃ c, e = .returned (.int .i64 c) ∧ (c < 0 ↔ x < y)) ∧ H' = H := by
  refine call53 (Nat.le_of_ble_eq_true rfl) ?_
  unfold L53 env0
  simp -implicitDefEqProofs (maxSteps := 1000000) (disch := first | omega | assumption) only [Sx, reduceIte, Nat.reduceEqDiff, reduceCtorEq, Nat.reduceAdd, Nat.reduceSub, Nat.reduceLT]
  refine a_call isNaN_spec ?_
  rintro e H1 ⟨rfl, rfl⟩
  simp -implicitDefEqProofs (maxSteps := 1000000) (disch := first | omega | assumption) only [endK, Sx, reduceIte, Nat.reduceEqDiff, reduceCtorEq, Nat.reduceAdd, Nat.reduceSub, Nat.reduceLT]
  refine a_call isNaN_spec ?_
  rintro e H2 ⟨rfl, rfl⟩
  by_cases h1 : x < y
  · have f1 : decide (x < y) = true := decide_eq_true h1
    simp -implicitDefEqProofs (maxSteps := 1000000) (disch := first | omega | assumption) only [endK, f1, Sx, reduceIte, Nat.reduceEqDiff, reduceCtorEq, Nat.reduceAdd, Nat.reduceSub, Nat.reduceLT]
    exact ⟨⟨_, rfl, by omega⟩, by trivial⟩
  · have f1 : decide (x < y) = false := decide_eq_false h1
    by_cases h2 : y < x
    · have f2 : decide (y < x) = true := decide_eq_true h2
      simp -implicitDefEqProofs (maxSteps := 1000000) (disch := first | omega | assumption) only [endK, f1, f2, Sx, reduceIte, Nat.reduceEqDiff, reduceCtorEq, Nat.reduceAdd, Nat.reduceSub, Nat.reduceLT]
      exact ⟨⟨_, rfl, by omega⟩, by trivial⟩
    · have f2 : decide (y < x) = false := decide_eq_false h2
      simp -implicitDefEqProofs (maxSteps := 1000000) (disch := first | omega | assumption) only [endK, f1, f2, Sx, reduceIte, Nat.reduceEqDiff, reduceCtorEq, Nat.reduceAdd, Nat.reduceSub, Nat.reduceLT]
      exact ⟨⟨_, rfl, by omega⟩, by trivial⟩
theorem cmp_spec {H : Heap} {key : Nat → Int} {x y : Nat} (hx : KeyB H key x) (hy : KeyB H key y) :
    ACalls Try.prog 52 [Value.pointer (some ⟨x, 0, none⟩), .pointer (some ⟨y, 0, none⟩)].toArray H fun e H' => (∃ c, e = .returned (.int .i64 c) ∧ (c < 0 ↔ key x < key y)) ∧ H' = H := by
  refine call52 (Nat.le_of_ble_eq_true rfl) ?_
  unfold L52 env0
  obtain ⟨s, l, r, hbx⟩ := hx
  obtain ⟨s', l', r', hby⟩ := hy
  simp -implicitDefEqProofs (maxSteps := 1000000) (disch := first | omega | assumption) only [cell_of hbx, cell_of hby, Sx, reduceIte, Nat.reduceEqDiff, reduceCtorEq, Nat.reduceAdd, Nat.reduceSub, Nat.reduceLT]
  refine a_call compare_spec ?_
  rintro e H1 ⟨⟨c, rfl, hc⟩, rfl⟩
  simp -implicitDefEqProofs (maxSteps := 1000000) (disch := first | omega | assumption) only [endK, Sx, reduceIte, Nat.reduceEqDiff, reduceCtorEq, Nat.reduceAdd, Nat.reduceSub, Nat.reduceLT]
  exact ⟨⟨c, rfl, hc⟩, by trivial⟩

/-- the order: rarer first; of equals the one that stood first -/
def lt (key : Nat → Int) (rk : Nat → Nat) (x y : Nat) : Prop := key x < key y ∨ (key x = key y ∧ rk x < rk y)
theorem lt.trans {key : Nat → Int} {rk : Nat → Nat} {x y z : Nat} (h : lt key rk x y) (k : lt key rk y z) : lt key rk x z := by
  unfold lt at *; omega
/-- sorted by the order -/
abbrev Srt (key : Nat → Int) (rk : Nat → Nat) (X : List Nat) : Prop := X.Pairwise (lt key rk)
abbrev Asc (rk : Nat → Nat) (X : List Nat) : Prop := X.Pairwise fun x y => rk x < rk y

set_option maxHeartbeats 4000000 in
theorem insert_spec {H : Heap} {v : Value} {key : Nat → Int} {rk : Nat → Nat} {A X Z : List Nat} (hO : Cs H v (A ++ X ++ Z)) (hK : ∀ b ∈ X, KeyB H key b) (hR : Asc rk X) (hsm : (A ++ X ++ Z).length ≤ 1000000) {a b : Nat} (ha : a = A.length) (hb : b = A.length + X.length) :
    ACalls Try.prog 60 [v, .int .i64 a, .int .i64 b, cmpF].toArray H fun e H' => e = .returned (.tuple #[]) ∧ (∃ X', X'.Perm X ∧ Srt key rk X' ∧ Cs H' v (A ++ X' ++ Z)) ∧ Oth H v H' := by
  subst ha hb
  refine call60 (Nat.le_of_ble_eq_true rfl) ?_
  unfold L60 env0
  simp only [List.length_append] at hsm
  simp -implicitDefEqProofs (maxSteps := 1000000) (disch := first | omega | assumption) only [Sx, reduceIte, Nat.reduceEqDiff, reduceCtorEq, Nat.reduceAdd, Nat.reduceSub, Nat.reduceLT]
  refine c_loop (fun k env H' => ∃ i S, k + i = X.length + 1 ∧ 1 ≤ i ∧ S.Perm (X.take i) ∧ Srt key rk S ∧ env 0 = v ∧ env 1 = .int .i64 (A.length : Nat) ∧ env 2 = .int .i64 (A.length + X.length : Nat) ∧ env 3 = cmpF ∧ env 8 = .int .i64 (A.length + i : Nat) ∧ Cs H' v (A ++ S ++ X.drop i ++ Z) ∧ Oth H v H') X.length ⟨1, X.take 1, by omega, Nat.le_refl _, .refl _, ?_, by simp -implicitDefEqProofs (maxSteps := 1000000) (disch := first | omega | assumption) only [Sx, reduceIte, Nat.reduceEqDiff, reduceCtorEq, Nat.reduceAdd, Nat.reduceSub, Nat.reduceLT], by simp -implicitDefEqProofs (maxSteps := 1000000) (disch := first | omega | assumption) only [Sx, reduceIte, Nat.reduceEqDiff, reduceCtorEq, Nat.reduceAdd, Nat.reduceSub, Nat.reduceLT], by simp -implicitDefEqProofs (maxSteps := 1000000) (disch := first | omega | assumption) only [Sx, reduceIte, Nat.reduceEqDiff, reduceCtorEq, Nat.reduceAdd, Nat.reduceSub, Nat.reduceLT], by simp -implicitDefEqProofs (maxSteps := 1000000) (disch := first | omega | assumption) only [Sx, reduceIte, Nat.reduceEqDiff, reduceCtorEq, Nat.reduceAdd, Nat.reduceSub, Nat.reduceLT], by simp -implicitDefEqProofs (maxSteps := 1000000) (disch := first | omega | assumption) only [Sx, reduceIte, Nat.reduceEqDiff, reduceCtorEq, Nat.reduceAdd, Nat.reduceSub, Nat.reduceLT]; rfl, by rw [List.append_assoc A, List.take_append_drop]; exact hO, Only.refl _ _⟩ ?_
  · cases X with
    | nil => simp
    | cons x X => simp
  rintro k env H1 ⟨i, S, hk, hi1, hP, hS, h0, h1, h2, h3, h8, hO1, ho1⟩
  have hSl0 : S.length = min i X.length := by
    have := hP.length_eq
    rwa [List.length_take] at this
  unfold L60_1
  by_cases hi : i < X.length
  case neg =>
    have f0 : decide (((A.length + i : Nat) : Int) < ((A.length + X.length : Nat) : Int)) = false := decide_eq_false (by omega)
    rw [List.take_of_length_le (by omega)] at hP
    rw [List.drop_of_length_le (by omega), List.append_nil] at hO1
    simp -implicitDefEqProofs (maxSteps := 1000000) (disch := first | omega | assumption) only [h0, h1, h2, h3, h8, f0, Sx, reduceIte, Nat.reduceEqDiff, reduceCtorEq, Nat.reduceAdd, Nat.reduceSub, Nat.reduceLT]
    exact ⟨by trivial, ⟨S, hP, hS, hO1⟩, ho1⟩
  have hSl : S.length = i := by omega
  have f0 : decide (((A.length + i : Nat) : Int) < ((A.length + X.length : Nat) : Int)) = true := decide_eq_true (by omega)
  obtain ⟨y, hy⟩ : ∃ y, y = X[i] := ⟨_, rfl⟩
  have hyX : y ∈ X := by rw [hy]; exact List.getElem_mem hi
  rw [List.drop_eq_getElem_cons hi, ← hy] at hO1
  have hlate : ∀ x ∈ S, x ∈ X ∧ rk x < rk y := by
    intro x hx
    have hx2 := hP.mem_iff.1 hx
    obtain ⟨j, hj, e⟩ := List.getElem_of_mem hx2
    rw [List.length_take] at hj
    rw [List.getElem_take] at e
    refine ⟨List.mem_of_mem_take hx2, ?_⟩
    rw [← e, hy]
    exact List.pairwise_iff_getElem.1 hR j i (by omega) hi (by omega)
  simp -implicitDefEqProofs (maxSteps := 1000000) (disch := first | omega | assumption) only [h0, h1, h2, h3, h8, f0, Sx, reduceIte, Nat.reduceEqDiff, reduceCtorEq, Nat.reduceAdd, Nat.reduceSub, Nat.reduceLT]
  refine c_loop (fun k' env H' => ∃ S1 S2, k' = S1.length ∧ S = S1 ++ S2 ∧ (∀ x ∈ S2, lt key rk y x) ∧ env 0 = v ∧ env 1 = .int .i64 (A.length : Nat) ∧ env 2 = .int .i64 (A.length + X.length : Nat) ∧ env 3 = cmpF ∧ env 8 = .int .i64 (A.length + i : Nat) ∧ env 9 = .int .i64 (A.length + S1.length : Nat) ∧ Cs H' v (A ++ S1 ++ y :: (S2 ++ X.drop (i + 1) ++ Z)) ∧ Oth H v H') i ⟨S, [], hSl.symm, by simp, (fun x hx => by cases hx), by simp -implicitDefEqProofs (maxSteps := 1000000) (disch := first | omega | assumption) only [h0, Sx, reduceIte, Nat.reduceEqDiff, reduceCtorEq, Nat.reduceAdd, Nat.reduceSub, Nat.reduceLT], by simp -implicitDefEqProofs (maxSteps := 1000000) (disch := first | omega | assumption) only [h1, Sx, reduceIte, Nat.reduceEqDiff, reduceCtorEq, Nat.reduceAdd, Nat.reduceSub, Nat.reduceLT], by simp -implicitDefEqProofs (maxSteps := 1000000) (disch := first | omega | assumption) only [h2, Sx, reduceIte, Nat.reduceEqDiff, reduceCtorEq, Nat.reduceAdd, Nat.reduceSub, Nat.reduceLT], by simp -implicitDefEqProofs (maxSteps := 1000000) (disch := first | omega | assumption) only [h3, Sx, reduceIte, Nat.reduceEqDiff, reduceCtorEq, Nat.reduceAdd, Nat.reduceSub, Nat.reduceLT], by simp -implicitDefEqProofs (maxSteps := 1000000) (disch := first | omega | assumption) only [h8, Sx, reduceIte, Nat.reduceEqDiff, reduceCtorEq, Nat.reduceAdd, Nat.reduceSub, Nat.reduceLT], by simp -implicitDefEqProofs (maxSteps := 1000000) (disch := first | omega | assumption) only [Sx, reduceIte, Nat.reduceEqDiff, reduceCtorEq, Nat.reduceAdd, Nat.reduceSub, Nat.reduceLT]; rw [hSl], by simpa using hO1, ho1⟩ ?_
  clear h0 h1 h2 h3 h8 hO1 ho1
  rintro k' env H2 ⟨S1, S2, hk', hsp, hgt, h0, h1, h2, h3, h8, h9, hO2, ho2⟩
  have hl12 : S1.length + S2.length = i := by rw [← hSl, hsp, List.length_append]
  have done : (∀ x ∈ S1, lt key rk x y) → (S1 ++ y :: S2).Perm (X.take (i + 1)) ∧ Srt key rk (S1 ++ y :: S2) := by
    intro hlo
    constructor
    · rw [List.take_succ_eq_append_getElem hi, ← hy]
      refine (List.perm_middle (l₁ := S1) (l₂ := S2) (a := y)).trans ?_
      rw [← hsp]
      exact (List.Perm.cons y hP).trans (List.perm_append_singleton y _).symm
    · rw [hsp] at hS
      have h5 := List.pairwise_append.1 hS
      refine List.pairwise_append.2 ⟨h5.1, List.pairwise_cons.2 ⟨hgt, h5.2.1⟩, fun x hx z hz => ?_⟩
      rcases List.mem_cons.1 hz with rfl | hz
      · exact hlo x hx
      · exact h5.2.2 x hx z hz
  have g8 : ((A.length + i : Nat) : Int) + 1 = ((A.length + (i + 1) : Nat) : Int) := by omega
  unfold L60_0
  rcases List.eq_nil_or_concat S1 with rfl | ⟨T, x, rfl⟩
  · have f1 : decide ((A.length : Int) < (A.length : Int)) = false := decide_eq_false (by omega)
    rw [List.length_nil, Nat.add_zero] at h9
    simp -implicitDefEqProofs (maxSteps := 1000000) (disch := first | omega | assumption) only [h0, h1, h2, h3, h8, h9, f1, l_g, g8, Sx, reduceIte, Nat.reduceEqDiff, reduceCtorEq, Nat.reduceAdd, Nat.reduceSub, Nat.reduceLT]
    obtain ⟨d1, d2⟩ := done (fun x hx => by cases hx)
    exact ⟨k - 1, by omega, i + 1, [] ++ y :: S2, by omega, by omega, d1, d2, by trivial, by trivial, by trivial, by trivial, rfl, by simpa using hO2, ho2⟩
  · rw [List.concat_eq_append, List.length_append, List.length_singleton] at h9 hk'
    rw [List.concat_eq_append] at hO2 hsp hl12 done
    have hlt1 : T.length + 1 + S2.length = i := by simpa using hl12
    have f1 : decide ((A.length : Int) < ((A.length + (T.length + 1) : Nat) : Int)) = true := decide_eq_true (by omega)
    have hxS : x ∈ S := by rw [hsp]; simp
    obtain ⟨hxX, hxr⟩ := hlate x hxS
    have e1 : A ++ (T ++ [x]) ++ y :: (S2 ++ X.drop (i + 1) ++ Z) = (A ++ T) ++ x :: y :: (S2 ++ X.drop (i + 1) ++ Z) := by simp
    have e1' : A ++ (T ++ [x]) ++ y :: (S2 ++ X.drop (i + 1) ++ Z) = (A ++ T ++ [x]) ++ y :: (S2 ++ X.drop (i + 1) ++ Z) := by simp
    obtain ⟨r, c, rfl, hc⟩ := hO2.view (by simp)
    have hlen : (A ++ (T ++ [x]) ++ y :: (S2 ++ X.drop (i + 1) ++ Z)).length = A.length + X.length + Z.length := by
      simp only [List.length_append, List.length_cons, List.length_nil, List.length_drop]; omega
    rw [hlen] at hO hO2 ho2 hc h0
    have hcx := (e1 ▸ hO2).cell (get_mid (A ++ T) x _)
    have hcy := (e1' ▸ hO2).cell (get_mid (A ++ T ++ [x]) y _)
    simp only [List.length_append, List.length_singleton] at hcx hcy
    have g1 : ((A.length + (T.length + 1) : Nat) : Int) - 1 = ((A.length + T.length : Nat) : Int) := by omega
    have hsz : A.length + T.length + 1 < A.length + X.length + Z.length := by omega
    have hasc : A.length + (T.length + 1) = A.length + T.length + 1 := by omega
    rw [hasc] at h9 f1 g1
    simp -implicitDefEqProofs (maxSteps := 1000000) (disch := first | omega | assumption) only [h0, h1, h2, h3, h8, h9, f1, g1, hcx, hcy, l_g, Sx, reduceIte, Nat.reduceEqDiff, reduceCtorEq, Nat.reduceAdd, Nat.reduceSub, Nat.reduceLT]
    refine a_callv cmp_callable (cmp_spec (key := key) (x := y) (y := x) ((hK y hyX).oth hO ho2) ((hK x hxX).oth hO ho2)) ?_
    rintro e H3 ⟨⟨cc, rfl, hcc⟩, rfl⟩
    by_cases hlt : key y < key x
    · have f2 : decide (cc < 0) = true := decide_eq_true (hcc.2 hlt)
      simp -implicitDefEqProofs (maxSteps := 1000000) (disch := first | omega | assumption) only [endK, h0, h1, h2, h3, h8, h9, f2, g1, hcx, hcy, l_g, Sx, reduceIte, Nat.reduceEqDiff, reduceCtorEq, Nat.reduceAdd, Nat.reduceSub, Nat.reduceLT]
      refine st_coin (U := A ++ T ++ [x]) (x := y) (y := x) (e1' ▸ hO2) (by simp; omega) ?_
      intro H4 hO4 ho4
      have e2 : (A ++ T ++ [x]) ++ x :: (S2 ++ X.drop (i + 1) ++ Z) = (A ++ T) ++ x :: x :: (S2 ++ X.drop (i + 1) ++ Z) := by simp
      rw [e2] at hO4
      try simp -implicitDefEqProofs (maxSteps := 1000000) (disch := first | omega | assumption) only [h0, h1, h2, h3, h8, h9, g1, Sx, reduceIte, Nat.reduceEqDiff, reduceCtorEq, Nat.reduceAdd, Nat.reduceSub, Nat.reduceLT]
      refine st_coin (U := A ++ T) (x := x) (y := y) hO4 (by simp) ?_
      intro H5 hO5 ho5
      try simp -implicitDefEqProofs (maxSteps := 1000000) (disch := first | omega | assumption) only [h0, h1, h2, h3, h8, h9, g1, Sx, reduceIte, Nat.reduceEqDiff, reduceCtorEq, Nat.reduceAdd, Nat.reduceSub, Nat.reduceLT]
      refine ⟨T.length, by omega, T, x :: S2, rfl, by rw [hsp]; simp, ?_, by rw [hlen], by trivial, by trivial, by trivial, by trivial, by trivial, ?_, (ho2.trans ho4 fun q hq => .inl hq).trans ho5 fun q hq => .inl hq⟩
      · intro z hz
        rcases List.mem_cons.1 hz with rfl | hz
        · exact .inl hlt
        · exact hgt z hz
      · rw [hlen]
        simpa using hO5
    · have f2 : decide (cc < 0) = false := decide_eq_false (fun h => hlt (hcc.1 h))
      have hxy : lt key rk x y := by unfold lt; omega
      simp -implicitDefEqProofs (maxSteps := 1000000) (disch := first | omega | assumption) only [endK, h0, h1, h2, h3, h8, h9, f2, g8, l_g, Sx, reduceIte, Nat.reduceEqDiff, reduceCtorEq, Nat.reduceAdd, Nat.reduceSub, Nat.reduceLT]
      obtain ⟨d1, d2⟩ := done (fun z hz => by
        rcases List.mem_append.1 hz with hz | hz
        · have h5 := (List.pairwise_append.1 (hsp ▸ hS)).1
          exact ((List.pairwise_append.1 h5).2.2 z hz x List.mem_cons_self).trans hxy
        · rw [List.mem_singleton] at hz
          subst hz
          exact hxy)
      exact ⟨k - 1, by omega, i + 1, (T ++ [x]) ++ y :: S2, by omega, by omega, d1, d2, by rw [hlen], by trivial, by trivial, by trivial, rfl, by rw [hlen]; simpa using hO2, by rw [hlen]; exact ho2⟩
end Go.Proofs.Ytfdcolicpfellaa.S05

/-
  Sorting: two runs are merged, one of them a single coin.
-/
set_option linter.unusedVariables false
set_option linter.unusedSimpArgs false
namespace Go.Proofs.Ytfdcolicpfellaa.S05
open Go Go.RowKit Go.Proofs.Ytfdcolicpfellaa.Sep Go.Proofs.Ytfdcolicpfellaa.Low

theorem getL {A L R Z : List Nat} {t : Nat} (h : t < L.length) : (A ++ L ++ R ++ Z)[A.length + t]? = some L[t] := by
  rw [List.append_assoc, List.append_assoc, List.getElem?_append_right (Nat.le_add_right _ _), Nat.add_sub_cancel_left, List.getElem?_append_left h, List.getElem?_eq_getElem h]
theorem getR {A L R Z : List Nat} {t : Nat} (h : t < R.length) : (A ++ L ++ R ++ Z)[A.length + L.length + t]? = some R[t] := by
  rw [List.append_assoc (A ++ L), List.getElem?_append_right (by rw [List.length_append]; exact Nat.le_add_right _ _), List.length_append, Nat.add_sub_cancel_left, List.getElem?_append_left h, List.getElem?_eq_getElem h]
/-- the middle of two numbers -/
theorem half (x : Nat) (h : x ≤ 1000000000) : IntKind.i64.wrap ((x : Int).fdiv (2 ^ min (Int.toNat 1) 64)) = ((x / 2 : Nat) : Int) := by
  show IntKind.i64.wrap ((x : Int).fdiv (2 ^ 1)) = _
  rw [Int.fdiv_eq_ediv_of_nonneg _ (by omega)]
  have : (x : Int) / 2 ^ 1 = ((x / 2 : Nat) : Int) := by simp
  rw [this]
  exact w_i64 (by omega)

set_option maxHeartbeats 4000000 in
theorem sym_one {H : Heap} {v : Value} {key : Nat → Int} {rk : Nat → Nat} {A R Z : List Nat} {x : Nat} (hO : Cs H v (A ++ [x] ++ R ++ Z)) (hx : KeyB H key x) (hK : ∀ b ∈ R, KeyB H key b) (hR : Srt key rk R) (hlr : ∀ y ∈ R, rk x < rk y) (hsm : (A ++ [x] ++ R ++ Z).length ≤ 1000000) {a m b : Nat} (ha : a = A.length) (hm : m = A.length + 1) (hb : b = A.length + 1 + R.length) :
    ACalls Try.prog 61 [v, .int .i64 a, .int .i64 m, .int .i64 b, cmpF].toArray H fun e H' => e = .returned (.tuple #[]) ∧ (∃ M, M.Perm ([x] ++ R) ∧ Srt key rk M ∧ Cs H' v (A ++ M ++ Z)) ∧ Oth H v H' := by
  subst ha hm hb
  refine call61 (Nat.le_of_ble_eq_true rfl) ?_
  unfold L61 env0
  simp only [List.length_append, List.length_singleton] at hsm
  obtain ⟨r, cp, rfl, hcap⟩ := hO.view (by simp)
  have hlen : (A ++ [x] ++ R ++ Z).length = A.length + 1 + R.length + Z.length := by simp; omega
  rw [hlen] at hO hcap ⊢
  obtain ⟨n, hn⟩ : ∃ n, n = A.length + 1 + R.length + Z.length := ⟨_, rfl⟩
  rw [← hn] at hO hcap ⊢
  have hcx := hO.cell (getL (A := A) (L := [x]) (R := R) (Z := Z) (t := 0) (by simp))
  rw [Nat.add_zero, List.getElem_cons_zero] at hcx
  have f0 : (((A.length + 1 : Nat) : Int) - (A.length : Int) == 1) = true := by rw [beq_iff_eq]; omega
  simp -implicitDefEqProofs (maxSteps := 1000000) (disch := first | omega | assumption) only [f0, Sx, reduceIte, Nat.reduceEqDiff, reduceCtorEq, Nat.reduceAdd, Nat.reduceSub, Nat.reduceLT]
  refine c_loop (fun k env H' => ∃ i j, k = j - i ∧ A.length + 1 ≤ i ∧ i ≤ j ∧ j ≤ A.length + 1 + R.length ∧ (∀ t (h : t < R.length), A.length + 1 + t < i → lt key rk R[t] x) ∧ (∀ t (h : t < R.length), j ≤ A.length + 1 + t → lt key rk x R[t]) ∧ env 0 = .slice (some ⟨r, 0, none⟩) n cp ∧ env 1 = .int .i64 (A.length : Nat) ∧ env 4 = cmpF ∧ env 10 = .int .i64 i ∧ env 11 = .int .i64 j ∧ H' = H) R.length ⟨A.length + 1, A.length + 1 + R.length, by omega, by omega, by omega, by omega, (fun t h h2 => by omega), (fun t h h2 => by omega), by simp -implicitDefEqProofs (maxSteps := 1000000) (disch := first | omega | assumption) only [Sx, reduceIte, Nat.reduceEqDiff, reduceCtorEq, Nat.reduceAdd, Nat.reduceSub, Nat.reduceLT], by simp -implicitDefEqProofs (maxSteps := 1000000) (disch := first | omega | assumption) only [Sx, reduceIte, Nat.reduceEqDiff, reduceCtorEq, Nat.reduceAdd, Nat.reduceSub, Nat.reduceLT], by simp -implicitDefEqProofs (maxSteps := 1000000) (disch := first | omega | assumption) only [Sx, reduceIte, Nat.reduceEqDiff, reduceCtorEq, Nat.reduceAdd, Nat.reduceSub, Nat.reduceLT], by simp -implicitDefEqProofs (maxSteps := 1000000) (disch := first | omega | assumption) only [Sx, reduceIte, Nat.reduceEqDiff, reduceCtorEq, Nat.reduceAdd, Nat.reduceSub, Nat.reduceLT], by simp -implicitDefEqProofs (maxSteps := 1000000) (disch := first | omega | assumption) only [Sx, reduceIte, Nat.reduceEqDiff, reduceCtorEq, Nat.reduceAdd, Nat.reduceSub, Nat.reduceLT], rfl⟩ ?_
  rintro k env H1 ⟨i, j, hk, hi, hij, hj, hlo, hhi, h0, h1, h4, h10, h11, rfl⟩
  unfold L61_0
  by_cases hlt : i < j
  · have f1 : decide ((i : Int) < (j : Int)) = true := decide_eq_true (by omega)
    have e1 : ((i : Int) + (j : Int)) = ((i + j : Nat) : Int) := by omega
    have e2 : IntKind.u64.wrap ((i + j : Nat) : Int) = ((i + j : Nat) : Int) := w_u64 (by omega)
    have e3 := half (i + j) (by omega)
    obtain ⟨t, ht⟩ : ∃ t, (i + j) / 2 = A.length + 1 + t := ⟨(i + j) / 2 - (A.length + 1), by omega⟩
    have htR : t < R.length := by omega
    have hcy := hO.cell (getR (A := A) (L := [x]) (R := R) (Z := Z) htR)
    rw [List.length_singleton, ← ht] at hcy
    have hb1 : (i + j) / 2 < n := by omega
    obtain ⟨y, hy⟩ : ∃ y, y = R[t] := ⟨_, rfl⟩
    have hyR : y ∈ R := by rw [hy]; exact List.getElem_mem htR
    rw [← hy] at hcy
    have hih : i ≤ (i + j) / 2 := by omega
    have hhj : (i + j) / 2 < j := by omega
    generalize (i + j) / 2 = h at e3 hcy ht hb1 hih hhj
    simp -implicitDefEqProofs (maxSteps := 1000000) (disch := first | omega | assumption) only [h0, h1, h4, h10, h11, f1, e1, e2, e3, hcx, hcy, Sx, reduceIte, Nat.reduceEqDiff, reduceCtorEq, Nat.reduceAdd, Nat.reduceSub, Nat.reduceLT]
    refine a_callv cmp_callable (cmp_spec (key := key) (x := y) (y := x) (hK y hyR) hx) ?_
    rintro e H2 ⟨⟨cc, rfl, hcc⟩, rfl⟩
    have hrk := hlr y hyR
    by_cases hcmp : key y < key x
    · have f2 : decide (cc < 0) = true := decide_eq_true (hcc.2 hcmp)
      simp -implicitDefEqProofs (maxSteps := 1000000) (disch := first | omega | assumption) only [endK, h0, h1, h4, h10, h11, f2, e1, e2, e3, Sx, reduceIte, Nat.reduceEqDiff, reduceCtorEq, Nat.reduceAdd, Nat.reduceSub, Nat.reduceLT]
      refine ⟨j - (h + 1), by omega, h + 1, j, rfl, by omega, by omega, hj, fun t2 h2 h3 => ?_, hhi, by trivial, by trivial, by trivial, by simp, by trivial, by trivial⟩
      by_cases ht2 : t2 = t
      · subst ht2; rw [← hy]; exact .inl hcmp
      · have := List.pairwise_iff_getElem.1 hR t2 t h2 htR (by omega)
        exact this.trans (by rw [← hy]; exact .inl hcmp)
    · have f2 : decide (cc < 0) = false := decide_eq_false (fun h => hcmp (hcc.1 h))
      have hxy : lt key rk x y := by unfold lt; omega
      simp -implicitDefEqProofs (maxSteps := 1000000) (disch := first | omega | assumption) only [endK, h0, h1, h4, h10, h11, f2, e1, e2, e3, Sx, reduceIte, Nat.reduceEqDiff, reduceCtorEq, Nat.reduceAdd, Nat.reduceSub, Nat.reduceLT]
      refine ⟨h - i, by omega, i, h, rfl, by omega, by omega, by omega, hlo, fun t2 h2 h3 => ?_, by trivial, by trivial, by trivial, by trivial, by trivial, by trivial⟩
      by_cases ht2 : t2 = t
      · subst ht2; rw [← hy]; exact hxy
      · have := List.pairwise_iff_getElem.1 hR t t2 htR h2 (by omega)
        rw [← hy] at this
        exact hxy.trans this
  · have f1 : decide ((i : Int) < (j : Int)) = false := decide_eq_false (by omega)
    have hij2 : j = i := by omega
    subst hij2
    obtain ⟨p, hp⟩ : ∃ p, j = A.length + 1 + p := ⟨j - (A.length + 1), by omega⟩
    simp -implicitDefEqProofs (maxSteps := 1000000) (disch := first | omega | assumption) only [h0, h1, h4, h10, h11, f1, Sx, reduceIte, Nat.reduceEqDiff, reduceCtorEq, Nat.reduceAdd, Nat.reduceSub, Nat.reduceLT]
    have e4 : ((j : Int) - 1) = ((A.length + p : Nat) : Int) := by omega
    refine c_loop (fun k env H' => ∃ t, k + t = p ∧ env 0 = .slice (some ⟨r, 0, none⟩) n cp ∧ env 10 = .int .i64 j ∧ env 13 = .int .i64 (A.length + t : Nat) ∧ Cs H' (.slice (some ⟨r, 0, none⟩) n cp) (A ++ (R.take t ++ x :: R.drop t) ++ Z) ∧ Oth H1 (.slice (some ⟨r, 0, none⟩) n cp) H') p ⟨0, by omega, by simp -implicitDefEqProofs (maxSteps := 1000000) (disch := first | omega | assumption) only [h0, Sx, reduceIte, Nat.reduceEqDiff, reduceCtorEq, Nat.reduceAdd, Nat.reduceSub, Nat.reduceLT], by simp -implicitDefEqProofs (maxSteps := 1000000) (disch := first | omega | assumption) only [h10, Sx, reduceIte, Nat.reduceEqDiff, reduceCtorEq, Nat.reduceAdd, Nat.reduceSub, Nat.reduceLT], by simp -implicitDefEqProofs (maxSteps := 1000000) (disch := first | omega | assumption) only [Sx, reduceIte, Nat.reduceEqDiff, reduceCtorEq, Nat.reduceAdd, Nat.reduceSub, Nat.reduceLT], by simpa using hO, Only.refl _ _⟩ ?_
    clear h0 h1 h4 h10 h11
    rintro k2 env H2 ⟨t, hkt, h0, h10, h13, hO2, ho2⟩
    unfold L61_1
    by_cases htp : t < p
    · have f2 : decide (((A.length + t : Nat) : Int) < ((A.length + p : Nat) : Int)) = true := decide_eq_true (by omega)
      have htR : t < R.length := by omega
      obtain ⟨y, hy⟩ : ∃ y, y = R[t] := ⟨_, rfl⟩
      have hlt' : (R.take t).length = t := by rw [List.length_take]; omega
      have e5 : A ++ (R.take t ++ x :: R.drop t) ++ Z = (A ++ R.take t) ++ x :: y :: (R.drop (t + 1) ++ Z) := by
        rw [List.drop_eq_getElem_cons htR, ← hy]; simp
      have e6 : (A ++ R.take t) ++ x :: y :: (R.drop (t + 1) ++ Z) = (A ++ R.take t ++ [x]) ++ y :: (R.drop (t + 1) ++ Z) := by simp
      rw [e5] at hO2
      have c1 := hO2.cell (get_mid (A ++ R.take t) x _)
      have c2 := (e6 ▸ hO2).cell (get_mid (A ++ R.take t ++ [x]) y _)
      simp only [List.length_append, List.length_singleton, hlt'] at c1 c2
      have e7 : ((A.length + t : Nat) : Int) + 1 = ((A.length + t + 1 : Nat) : Int) := by omega
      simp -implicitDefEqProofs (maxSteps := 1000000) (disch := first | omega | assumption) only [h0, h10, h13, e4, e7, f2, c1, c2, Sx, reduceIte, Nat.reduceEqDiff, reduceCtorEq, Nat.reduceAdd, Nat.reduceSub, Nat.reduceLT]
      refine st_coin (U := A ++ R.take t) (x := x) (y := y) hO2 (by simp [hlt']) ?_
      intro H3 hO3 ho3
      have e8 : (A ++ R.take t) ++ y :: y :: (R.drop (t + 1) ++ Z) = (A ++ R.take t ++ [y]) ++ y :: (R.drop (t + 1) ++ Z) := by simp
      rw [e8] at hO3
      try simp -implicitDefEqProofs (maxSteps := 1000000) (disch := first | omega | assumption) only [h0, h10, h13, e4, e7, Sx, reduceIte, Nat.reduceEqDiff, reduceCtorEq, Nat.reduceAdd, Nat.reduceSub, Nat.reduceLT]
      refine st_coin (U := A ++ R.take t ++ [y]) (x := y) (y := x) hO3 (by simp [hlt']; omega) ?_
      intro H4 hO4 ho4
      try simp -implicitDefEqProofs (maxSteps := 1000000) (disch := first | omega | assumption) only [h0, h10, h13, e4, e7, Sx, reduceIte, Nat.reduceEqDiff, reduceCtorEq, Nat.reduceAdd, Nat.reduceSub, Nat.reduceLT]
      refine ⟨k2 - 1, by omega, t + 1, by omega, by trivial, by trivial, by rw [Nat.add_assoc], ?_, (ho2.trans ho3 fun q hq => .inl hq).trans ho4 fun q hq => .inl hq⟩
      rw [List.take_succ_eq_append_getElem htR, ← hy]
      simpa using hO4
    · have f2 : decide (((A.length + t : Nat) : Int) < ((A.length + p : Nat) : Int)) = false := decide_eq_false (by omega)
      have htp2 : t = p := by omega
      subst htp2
      simp -implicitDefEqProofs (maxSteps := 1000000) (disch := first | omega | assumption) only [h0, h10, h13, e4, f2, Sx, reduceIte, Nat.reduceEqDiff, reduceCtorEq, Nat.reduceAdd, Nat.reduceSub, Nat.reduceLT]
      refine ⟨by trivial, ⟨R.take t ++ x :: R.drop t, ?_, ?_, hO2⟩, ho2⟩
      · have := List.perm_middle (l₁ := R.take t) (l₂ := R.drop t) (a := x)
        rw [List.take_append_drop] at this
        exact this
      · have hs := hR
        rw [← List.take_append_drop t R] at hs
        have hs2 := List.pairwise_append.1 hs
        refine List.pairwise_append.2 ⟨hs2.1, List.pairwise_cons.2 ⟨fun z hz => ?_, hs2.2.1⟩, fun z hz u hu => ?_⟩
        · obtain ⟨q, hq, e⟩ := List.getElem_of_mem hz
          rw [List.length_drop] at hq
          rw [← e, List.getElem_drop]
          exact hhi (t + q) (by omega) (by omega)
        · rcases List.mem_cons.1 hu with rfl | hu
          · obtain ⟨q, hq, e⟩ := List.getElem_of_mem hz
            rw [List.length_take] at hq
            rw [← e, List.getElem_take]
            exact hlo q (by omega) (by omega)
          · exact hs2.2.2 z hz u hu
end Go.Proofs.Ytfdcolicpfellaa.S05

/-
  Sorting: two runs are merged, the second a single coin.
-/
set_option linter.unusedVariables false
set_option linter.unusedSimpArgs false
namespace Go.Proofs.Ytfdcolicpfellaa.S05
open Go Go.RowKit Go.Proofs.Ytfdcolicpfellaa.Sep Go.Proofs.Ytfdcolicpfellaa.Low

set_option maxHeartbeats 4000000 in
theorem sym_last {H : Heap} {v : Value} {key : Nat → Int} {rk : Nat → Nat} {A L Z : List Nat} {y : Nat} (hO : Cs H v (A ++ L ++ [y] ++ Z)) (hy : KeyB H key y) (hK : ∀ b ∈ L, KeyB H key b) (hL : Srt key rk L) (hl1 : L.length ≠ 1) (hlr : ∀ x ∈ L, rk x < rk y) (hsm : (A ++ L ++ [y] ++ Z).length ≤ 1000000) {a m b : Nat} (ha : a = A.length) (hm : m = A.length + L.length) (hb : b = A.length + L.length + 1) :
    ACalls Try.prog 61 [v, .int .i64 a, .int .i64 m, .int .i64 b, cmpF].toArray H fun e H' => e = .returned (.tuple #[]) ∧ (∃ M, M.Perm (L ++ [y]) ∧ Srt key rk M ∧ Cs H' v (A ++ M ++ Z)) ∧ Oth H v H' := by
  subst ha hm hb
  refine call61 (Nat.le_of_ble_eq_true rfl) ?_
  unfold L61 env0
  simp only [List.length_append, List.length_singleton] at hsm
  obtain ⟨r, cp, rfl, hcap⟩ := hO.view (by simp)
  have hlen : (A ++ L ++ [y] ++ Z).length = A.length + L.length + 1 + Z.length := by simp; omega
  rw [hlen] at hO hcap ⊢
  obtain ⟨n, hn⟩ : ∃ n, n = A.length + L.length + 1 + Z.length := ⟨_, rfl⟩
  rw [← hn] at hO hcap ⊢
  have hcy := hO.cell (getR (A := A) (L := L) (R := [y]) (Z := Z) (t := 0) (by simp))
  rw [Nat.add_zero, List.getElem_cons_zero] at hcy
  have f0 : (((A.length + L.length : Nat) : Int) - (A.length : Int) == 1) = false := by rw [beq_eq_false_iff_ne]; omega
  have f00 : (((A.length + L.length + 1 : Nat) : Int) - ((A.length + L.length : Nat) : Int) == 1) = true := by rw [beq_iff_eq]; omega
  simp -implicitDefEqProofs (maxSteps := 1000000) (disch := first | omega | assumption) only [f0, f00, Sx, reduceIte, Nat.reduceEqDiff, reduceCtorEq, Nat.reduceAdd, Nat.reduceSub, Nat.reduceLT]
  refine c_loop (fun k env H' => ∃ i j, k = j - i ∧ A.length ≤ i ∧ i ≤ j ∧ j ≤ A.length + L.length ∧ (∀ t (h : t < L.length), A.length + t < i → lt key rk L[t] y) ∧ (∀ t (h : t < L.length), j ≤ A.length + t → lt key rk y L[t]) ∧ env 0 = .slice (some ⟨r, 0, none⟩) n cp ∧ env 2 = .int .i64 (A.length + L.length : Nat) ∧ env 4 = cmpF ∧ env 14 = .int .i64 i ∧ env 15 = .int .i64 j ∧ H' = H) L.length ⟨A.length, A.length + L.length, by omega, by omega, by omega, by omega, (fun t h h2 => by omega), (fun t h h2 => by omega), by simp -implicitDefEqProofs (maxSteps := 1000000) (disch := first | omega | assumption) only [Sx, reduceIte, Nat.reduceEqDiff, reduceCtorEq, Nat.reduceAdd, Nat.reduceSub, Nat.reduceLT], by simp -implicitDefEqProofs (maxSteps := 1000000) (disch := first | omega | assumption) only [Sx, reduceIte, Nat.reduceEqDiff, reduceCtorEq, Nat.reduceAdd, Nat.reduceSub, Nat.reduceLT], by simp -implicitDefEqProofs (maxSteps := 1000000) (disch := first | omega | assumption) only [Sx, reduceIte, Nat.reduceEqDiff, reduceCtorEq, Nat.reduceAdd, Nat.reduceSub, Nat.reduceLT], by simp -implicitDefEqProofs (maxSteps := 1000000) (disch := first | omega | assumption) only [Sx, reduceIte, Nat.reduceEqDiff, reduceCtorEq, Nat.reduceAdd, Nat.reduceSub, Nat.reduceLT], by simp -implicitDefEqProofs (maxSteps := 1000000) (disch := first | omega | assumption) only [Sx, reduceIte, Nat.reduceEqDiff, reduceCtorEq, Nat.reduceAdd, Nat.reduceSub, Nat.reduceLT], rfl⟩ ?_
  rintro k env H1 ⟨i, j, hk, hi, hij, hj, hlo, hhi, h0, h2, h4, h14, h15, rfl⟩
  unfold L61_2
  by_cases hlt : i < j
  · have f1 : decide ((i : Int) < (j : Int)) = true := decide_eq_true (by omega)
    have e1 : ((i : Int) + (j : Int)) = ((i + j : Nat) : Int) := by omega
    have e2 : IntKind.u64.wrap ((i + j : Nat) : Int) = ((i + j : Nat) : Int) := w_u64 (by omega)
    have e3 := half (i + j) (by omega)
    obtain ⟨t, ht⟩ : ∃ t, (i + j) / 2 = A.length + t := ⟨(i + j) / 2 - A.length, by omega⟩
    have htL : t < L.length := by omega
    have hcx := hO.cell (getL (A := A) (L := L) (R := [y]) (Z := Z) htL)
    rw [← ht] at hcx
    have hb1 : (i + j) / 2 < n := by omega
    have hb2 : A.length + L.length < n := by omega
    obtain ⟨x, hx⟩ : ∃ x, x = L[t] := ⟨_, rfl⟩
    have hxL : x ∈ L := by rw [hx]; exact List.getElem_mem htL
    rw [← hx] at hcx
    have hih : i ≤ (i + j) / 2 := by omega
    have hhj : (i + j) / 2 < j := by omega
    generalize (i + j) / 2 = h at e3 hcx ht hb1 hih hhj
    simp -implicitDefEqProofs (maxSteps := 1000000) (disch := first | omega | assumption) only [h0, h2, h4, h14, h15, f1, e1, e2, e3, hcx, hcy, Sx, reduceIte, Nat.reduceEqDiff, reduceCtorEq, Nat.reduceAdd, Nat.reduceSub, Nat.reduceLT]
    refine a_callv cmp_callable (cmp_spec (key := key) (x := y) (y := x) hy (hK x hxL)) ?_
    rintro e H2 ⟨⟨cc, rfl, hcc⟩, rfl⟩
    have hrk := hlr x hxL
    by_cases hcmp : key y < key x
    · have f2 : decide (cc < 0) = true := decide_eq_true (hcc.2 hcmp)
      have hyx : lt key rk y x := .inl hcmp
      simp -implicitDefEqProofs (maxSteps := 1000000) (disch := first | omega | assumption) only [endK, h0, h2, h4, h14, h15, f2, Bool.not_true, e1, e2, e3, Sx, reduceIte, Nat.reduceEqDiff, reduceCtorEq, Nat.reduceAdd, Nat.reduceSub, Nat.reduceLT]
      refine ⟨h - i, by omega, i, h, rfl, by omega, by omega, by omega, hlo, fun t2 h2 h3 => ?_, by trivial, by trivial, by trivial, by trivial, by trivial, by trivial⟩
      by_cases ht2 : t2 = t
      · subst ht2; rw [← hx]; exact hyx
      · have := List.pairwise_iff_getElem.1 hL t t2 htL h2 (by omega)
        rw [← hx] at this
        exact hyx.trans this
    · have f2 : decide (cc < 0) = false := decide_eq_false (fun h => hcmp (hcc.1 h))
      have hxy : lt key rk x y := by unfold lt; omega
      simp -implicitDefEqProofs (maxSteps := 1000000) (disch := first | omega | assumption) only [endK, h0, h2, h4, h14, h15, f2, Bool.not_false, e1, e2, e3, Sx, reduceIte, Nat.reduceEqDiff, reduceCtorEq, Nat.reduceAdd, Nat.reduceSub, Nat.reduceLT]
      refine ⟨j - (h + 1), by omega, h + 1, j, rfl, by omega, by omega, hj, fun t2 h2 h3 => ?_, hhi, by trivial, by trivial, by trivial, by simp, by trivial, by trivial⟩
      by_cases ht2 : t2 = t
      · subst ht2; rw [← hx]; exact hxy
      · have := List.pairwise_iff_getElem.1 hL t2 t h2 htL (by omega)
        exact this.trans (by rw [← hx]; exact hxy)
  · have f1 : decide ((i : Int) < (j : Int)) = false := decide_eq_false (by omega)
    have hij2 : j = i := by omega
    subst hij2
    obtain ⟨p, hp⟩ : ∃ p, j = A.length + p := ⟨j - A.length, by omega⟩
    simp -implicitDefEqProofs (maxSteps := 1000000) (disch := first | omega | assumption) only [h0, h2, h4, h14, h15, f1, Sx, reduceIte, Nat.reduceEqDiff, reduceCtorEq, Nat.reduceAdd, Nat.reduceSub, Nat.reduceLT]
    refine c_loop (fun k env H' => ∃ t, k + p = t ∧ t ≤ L.length ∧ env 0 = .slice (some ⟨r, 0, none⟩) n cp ∧ env 14 = .int .i64 (A.length + p : Nat) ∧ env 17 = .int .i64 (A.length + t : Nat) ∧ Cs H' (.slice (some ⟨r, 0, none⟩) n cp) (A ++ (L.take t ++ y :: L.drop t) ++ Z) ∧ Oth H1 (.slice (some ⟨r, 0, none⟩) n cp) H') (L.length - p) ⟨L.length, by omega, by omega, by simp -implicitDefEqProofs (maxSteps := 1000000) (disch := first | omega | assumption) only [h0, Sx, reduceIte, Nat.reduceEqDiff, reduceCtorEq, Nat.reduceAdd, Nat.reduceSub, Nat.reduceLT], by simp -implicitDefEqProofs (maxSteps := 1000000) (disch := first | omega | assumption) only [h14, Sx, reduceIte, Nat.reduceEqDiff, reduceCtorEq, Nat.reduceAdd, Nat.reduceSub, Nat.reduceLT]; rw [hp], by simp -implicitDefEqProofs (maxSteps := 1000000) (disch := first | omega | assumption) only [Sx, reduceIte, Nat.reduceEqDiff, reduceCtorEq, Nat.reduceAdd, Nat.reduceSub, Nat.reduceLT], by simpa using hO, Only.refl _ _⟩ ?_
    clear h0 h2 h4 h14 h15
    rintro k2 env H2 ⟨t, hkt, htl, h0, h14, h17, hO2, ho2⟩
    unfold L61_3
    by_cases htp : p < t
    · have f2 : decide (((A.length + p : Nat) : Int) < ((A.length + t : Nat) : Int)) = true := decide_eq_true (by omega)
      obtain ⟨q, rfl⟩ : ∃ q, t = q + 1 := ⟨t - 1, by omega⟩
      have htL : q < L.length := by omega
      obtain ⟨x, hx⟩ : ∃ x, x = L[q] := ⟨_, rfl⟩
      have hlt' : (L.take q).length = q := by rw [List.length_take]; omega
      have e5 : A ++ (L.take (q + 1) ++ y :: L.drop (q + 1)) ++ Z = (A ++ L.take q) ++ x :: y :: (L.drop (q + 1) ++ Z) := by
        rw [List.take_succ_eq_append_getElem htL, ← hx]; simp
      have e6 : (A ++ L.take q) ++ x :: y :: (L.drop (q + 1) ++ Z) = (A ++ L.take q ++ [x]) ++ y :: (L.drop (q + 1) ++ Z) := by simp
      rw [e5] at hO2
      have c1 := hO2.cell (get_mid (A ++ L.take q) x _)
      have c2 := (e6 ▸ hO2).cell (get_mid (A ++ L.take q ++ [x]) y _)
      simp only [List.length_append, List.length_singleton, hlt'] at c1 c2
      have hasc : A.length + (q + 1) = A.length + q + 1 := by omega
      rw [hasc] at h17 f2
      have e7 : ((A.length + q + 1 : Nat) : Int) - 1 = ((A.length + q : Nat) : Int) := by omega
      simp -implicitDefEqProofs (maxSteps := 1000000) (disch := first | omega | assumption) only [h0, h14, h17, e7, f2, c1, c2, Sx, reduceIte, Nat.reduceEqDiff, reduceCtorEq, Nat.reduceAdd, Nat.reduceSub, Nat.reduceLT]
      refine st_coin (U := A ++ L.take q ++ [x]) (x := y) (y := x) (e6 ▸ hO2) (by simp [hlt']; omega) ?_
      intro H3 hO3 ho3
      have e8 : (A ++ L.take q ++ [x]) ++ x :: (L.drop (q + 1) ++ Z) = (A ++ L.take q) ++ x :: x :: (L.drop (q + 1) ++ Z) := by simp
      rw [e8] at hO3
      try simp -implicitDefEqProofs (maxSteps := 1000000) (disch := first | omega | assumption) only [h0, h14, h17, e7, Sx, reduceIte, Nat.reduceEqDiff, reduceCtorEq, Nat.reduceAdd, Nat.reduceSub, Nat.reduceLT]
      refine st_coin (U := A ++ L.take q) (x := x) (y := y) hO3 (by simp [hlt']) ?_
      intro H4 hO4 ho4
      try simp -implicitDefEqProofs (maxSteps := 1000000) (disch := first | omega | assumption) only [h0, h14, h17, e7, Sx, reduceIte, Nat.reduceEqDiff, reduceCtorEq, Nat.reduceAdd, Nat.reduceSub, Nat.reduceLT]
      refine ⟨k2 - 1, by omega, q, by omega, by omega, by trivial, by trivial, by trivial, ?_, (ho2.trans ho3 fun q hq => .inl hq).trans ho4 fun q hq => .inl hq⟩
      rw [List.drop_eq_getElem_cons htL, ← hx]
      simpa using hO4
    · have f2 : decide (((A.length + p : Nat) : Int) < ((A.length + t : Nat) : Int)) = false := decide_eq_false (by omega)
      have htp2 : t = p := by omega
      subst htp2
      simp -implicitDefEqProofs (maxSteps := 1000000) (disch := first | omega | assumption) only [h0, h14, h17, f2, Sx, reduceIte, Nat.reduceEqDiff, reduceCtorEq, Nat.reduceAdd, Nat.reduceSub, Nat.reduceLT]
      refine ⟨by trivial, ⟨L.take t ++ y :: L.drop t, ?_, ?_, hO2⟩, ho2⟩
      · have := List.perm_middle (l₁ := L.take t) (l₂ := L.drop t) (a := y)
        rw [List.take_append_drop] at this
        exact this.trans (List.perm_append_singleton y L).symm
      · have hs := hL
        rw [← List.take_append_drop t L] at hs
        have hs2 := List.pairwise_append.1 hs
        refine List.pairwise_append.2 ⟨hs2.1, List.pairwise_cons.2 ⟨fun z hz => ?_, hs2.2.1⟩, fun z hz u hu => ?_⟩
        · obtain ⟨q, hq, e⟩ := List.getElem_of_mem hz
          rw [List.length_drop] at hq
          rw [← e, List.getElem_drop]
          exact hhi (t + q) (by omega) (by omega)
        · rcases List.mem_cons.1 hu with rfl | hu
          · obtain ⟨q, hq, e⟩ := List.getElem_of_mem hz
            rw [List.length_take] at hq
            rw [← e, List.getElem_take]
            exact hlo q (by omega) (by omega)
          · exact hs2.2.2 z hz u hu
end Go.Proofs.Ytfdcolicpfellaa.S05

/-
  Sorting: two runs are merged.
-/
set_option linter.unusedVariables false
set_option linter.unusedSimpArgs false
namespace Go.Proofs.Ytfdcolicpfellaa.S05
open Go Go.RowKit Go.Proofs.Ytfdcolicpfellaa.Sep Go.Proofs.Ytfdcolicpfellaa.Low

/-- two sorted runs side by side, the first one's coins the elder -/
structure Two2 (key : Nat → Int) (rk : Nat → Nat) (H : Heap) (v : Value) (A L R Z : List Nat) : Prop where
  O : Cs H v (A ++ L ++ R ++ Z)
  K : ∀ b ∈ L ++ R, KeyB H key b
  sL : Srt key rk L
  sR : Srt key rk R
  lr : ∀ x ∈ L, ∀ y ∈ R, rk x < rk y
  sm : (A ++ L ++ R ++ Z).length ≤ 1000000
/-- what a merge leaves -/
def Merged (key : Nat → Int) (rk : Nat → Nat) (H : Heap) (v : Value) (A L R Z : List Nat) (H' : Heap) : Prop := (∃ M, M.Perm (L ++ R) ∧ Srt key rk M ∧ Cs H' v (A ++ M ++ Z)) ∧ Oth H v H'
def SymOk (N : Nat) : Prop := ∀ (H : Heap) (v : Value) (key : Nat → Int) (rk : Nat → Nat) (A L R Z : List Nat), L.length + R.length ≤ N → 0 < L.length → 0 < R.length → Two2 key rk H v A L R Z → ∀ (a m b : Nat), a = A.length → m = A.length + L.length → b = A.length + L.length + R.length →
  ACalls Try.prog 61 [v, .int .i64 a, .int .i64 m, .int .i64 b, cmpF].toArray H fun e H' => e = .returned (.tuple #[]) ∧ Merged key rk H v A L R Z H'

/-- the second half -/
theorem sym_tail2 {N : Nat} (ih : SymOk N) {H : Heap} {v : Value} {key : Nat → Int} {rk : Nat → Nat} {A L R Z : List Nat} {env : Env} {Q : Post} {QP : List PanicEntry → Heap → Prop} (hN : L.length + R.length ≤ N) (hT : Two2 key rk H v A L R Z)
    (h0 : env 0 = v) (h3 : env 3 = .int .i64 (A.length + L.length + R.length : Nat)) (h4 : env 4 = cmpF) (h18 : env 18 = .int .i64 (A.length : Nat)) (h24 : env 24 = .int .i64 (A.length + L.length : Nat))
    (hk : ∀ env' H', Merged key rk H v A L R Z H' → Q .normal env' H') :
    awpC Try.prog L61_5 Q QP env H := by
  have hsm := hT.sm
  simp only [List.length_append] at hsm
  unfold L61_5
  by_cases hL : 0 < L.length
  · have f1 : decide (((A.length : Nat) : Int) < ((A.length + L.length : Nat) : Int)) = true := decide_eq_true (by omega)
    by_cases hR : 0 < R.length
    · have f2 : decide (((A.length + L.length : Nat) : Int) < ((A.length + L.length + R.length : Nat) : Int)) = true := decide_eq_true (by omega)
      simp -implicitDefEqProofs (maxSteps := 1000000) (disch := first | omega | assumption) only [h0, h3, h4, h18, h24, f1, f2, l_g, Sx, reduceIte, Nat.reduceEqDiff, reduceCtorEq, Nat.reduceAdd, Nat.reduceSub, Nat.reduceLT]
      refine a_call (ih H v key rk A L R Z hN hL hR hT _ _ _ rfl rfl rfl) ?_
      rintro e H' ⟨rfl, hM⟩
      simp -implicitDefEqProofs (maxSteps := 1000000) (disch := first | omega | assumption) only [endK, Sx, reduceIte, Nat.reduceEqDiff, reduceCtorEq, Nat.reduceAdd, Nat.reduceSub, Nat.reduceLT]
      exact hk _ _ hM
    · have f2 : decide (((A.length + L.length : Nat) : Int) < ((A.length + L.length + R.length : Nat) : Int)) = false := decide_eq_false (by omega)
      simp -implicitDefEqProofs (maxSteps := 1000000) (disch := first | omega | assumption) only [h0, h3, h4, h18, h24, f1, f2, l_g, Sx, reduceIte, Nat.reduceEqDiff, reduceCtorEq, Nat.reduceAdd, Nat.reduceSub, Nat.reduceLT]
      have hR0 : R = [] := List.length_eq_zero_iff.1 (by omega)
      refine hk _ _ ⟨⟨L, by rw [hR0, List.append_nil], hT.sL, ?_⟩, Only.refl _ _⟩
      have := hT.O
      rwa [hR0, List.append_nil] at this
  · have f1 : decide (((A.length : Nat) : Int) < ((A.length + L.length : Nat) : Int)) = false := decide_eq_false (by omega)
    simp -implicitDefEqProofs (maxSteps := 1000000) (disch := first | omega | assumption) only [h0, h3, h4, h18, h24, f1, l_g, Sx, reduceIte, Nat.reduceEqDiff, reduceCtorEq, Nat.reduceAdd, Nat.reduceSub, Nat.reduceLT]
    have hL0 : L = [] := List.length_eq_zero_iff.1 (by omega)
    refine hk _ _ ⟨⟨R, by rw [hL0, List.nil_append], hT.sR, ?_⟩, Only.refl _ _⟩
    have := hT.O
    rwa [hL0, List.append_nil] at this

/-- the first half, then the second -/
theorem sym_tail1 {N : Nat} (ih : SymOk N) {H : Heap} {v : Value} {key : Nat → Int} {rk : Nat → Nat} {A L1 R1 L2 R2 Z : List Nat} {env : Env} {Q : Post} {QP : List PanicEntry → Heap → Prop} (hN1 : L1.length + R1.length ≤ N) (hN2 : L2.length + R2.length ≤ N)
    (hT1 : Two2 key rk H v A L1 R1 (L2 ++ R2 ++ Z)) (hT2 : ∀ b ∈ L2 ++ R2, KeyB H key b) (hL2 : Srt key rk L2) (hR2 : Srt key rk R2) (hlr2 : ∀ x ∈ L2, ∀ y ∈ R2, rk x < rk y)
    (h0 : env 0 = v) (h1 : env 1 = .int .i64 (A.length : Nat)) (h3 : env 3 = .int .i64 (A.length + L1.length + R1.length + L2.length + R2.length : Nat)) (h4 : env 4 = cmpF) (h18 : env 18 = .int .i64 (A.length + L1.length + R1.length : Nat)) (h20 : env 20 = .int .i64 (A.length + L1.length : Nat)) (h24 : env 24 = .int .i64 (A.length + L1.length + R1.length + L2.length : Nat))
    (hk : ∀ env' H' M1 M2, M1.Perm (L1 ++ R1) → M2.Perm (L2 ++ R2) → Srt key rk M1 → Srt key rk M2 → Cs H' v (A ++ M1 ++ M2 ++ Z) → Oth H v H' → Q .normal env' H') :
    awpC Try.prog L61_6 Q QP env H := by
  have hsm := hT1.sm
  simp only [List.length_append] at hsm
  have second : ∀ {env' : Env} {H' : Heap} {M1 : List Nat}, M1.Perm (L1 ++ R1) → Srt key rk M1 → Cs H' v (A ++ M1 ++ (L2 ++ R2 ++ Z)) → Oth H v H' → env' 0 = v → env' 3 = .int .i64 (A.length + L1.length + R1.length + L2.length + R2.length : Nat) → env' 4 = cmpF → env' 18 = .int .i64 (A.length + L1.length + R1.length : Nat) → env' 24 = .int .i64 (A.length + L1.length + R1.length + L2.length : Nat) → awpC Try.prog L61_5 Q QP env' H' := by
    intro env' H' M1 hp hs hO ho e0 e3 e4 e18 e24
    have hl := hp.length_eq
    rw [List.length_append] at hl
    have hA : (A ++ M1).length = A.length + L1.length + R1.length := by rw [List.length_append, hl]; omega
    refine sym_tail2 ih (A := A ++ M1) (L := L2) (R := R2) (Z := Z) hN2 ⟨by simpa using hO, fun b hb => (hT2 b hb).oth hT1.O ho, hL2, hR2, hlr2, by simp only [List.length_append]; omega⟩ e0 (by rw [hA]; exact e3) e4 (by rw [hA]; exact e18) (by rw [hA]; exact e24) ?_
    rintro env'' H'' ⟨⟨M2, p2, s2, O2⟩, o2⟩
    exact hk _ _ M1 M2 hp p2 hs s2 O2 (ho.trans o2 fun q hq => .inl hq)
  unfold L61_6
  by_cases hL : 0 < L1.length
  · have f1 : decide (((A.length : Nat) : Int) < ((A.length + L1.length : Nat) : Int)) = true := decide_eq_true (by omega)
    by_cases hR : 0 < R1.length
    · have f2 : decide (((A.length + L1.length : Nat) : Int) < ((A.length + L1.length + R1.length : Nat) : Int)) = true := decide_eq_true (by omega)
      simp -implicitDefEqProofs (maxSteps := 1000000) (disch := first | omega | assumption) only [h0, h1, h4, h18, h20, f1, f2, l_g, Sx, reduceIte, Nat.reduceEqDiff, reduceCtorEq, Nat.reduceAdd, Nat.reduceSub, Nat.reduceLT]
      refine a_call (ih H v key rk A L1 R1 (L2 ++ R2 ++ Z) hN1 hL hR hT1 _ _ _ rfl rfl rfl) ?_
      rintro e H' ⟨rfl, ⟨M1, p1, s1, O1⟩, o1⟩
      simp -implicitDefEqProofs (maxSteps := 1000000) (disch := first | omega | assumption) only [endK, Sx, reduceIte, Nat.reduceEqDiff, reduceCtorEq, Nat.reduceAdd, Nat.reduceSub, Nat.reduceLT]
      exact second p1 s1 O1 o1 (by simp -implicitDefEqProofs (maxSteps := 1000000) (disch := first | omega | assumption) only [h0, Sx, reduceIte, Nat.reduceEqDiff, reduceCtorEq, Nat.reduceAdd, Nat.reduceSub, Nat.reduceLT]) (by simp -implicitDefEqProofs (maxSteps := 1000000) (disch := first | omega | assumption) only [h3, Sx, reduceIte, Nat.reduceEqDiff, reduceCtorEq, Nat.reduceAdd, Nat.reduceSub, Nat.reduceLT]) (by simp -implicitDefEqProofs (maxSteps := 1000000) (disch := first | omega | assumption) only [h4, Sx, reduceIte, Nat.reduceEqDiff, reduceCtorEq, Nat.reduceAdd, Nat.reduceSub, Nat.reduceLT]) (by simp -implicitDefEqProofs (maxSteps := 1000000) (disch := first | omega | assumption) only [h18, Sx, reduceIte, Nat.reduceEqDiff, reduceCtorEq, Nat.reduceAdd, Nat.reduceSub, Nat.reduceLT]) (by simp -implicitDefEqProofs (maxSteps := 1000000) (disch := first | omega | assumption) only [h24, Sx, reduceIte, Nat.reduceEqDiff, reduceCtorEq, Nat.reduceAdd, Nat.reduceSub, Nat.reduceLT])
    · have f2 : decide (((A.length + L1.length : Nat) : Int) < ((A.length + L1.length + R1.length : Nat) : Int)) = false := decide_eq_false (by omega)
      have hR0 : R1 = [] := List.length_eq_zero_iff.1 (by omega)
      simp -implicitDefEqProofs (maxSteps := 1000000) (disch := first | omega | assumption) only [h0, h1, h4, h18, h20, f1, f2, l_g, Sx, reduceIte, Nat.reduceEqDiff, reduceCtorEq, Nat.reduceAdd, Nat.reduceSub, Nat.reduceLT]
      refine second (M1 := L1) (by rw [hR0, List.append_nil]) hT1.sL ?_ (Only.refl _ _) (by simp -implicitDefEqProofs (maxSteps := 1000000) (disch := first | omega | assumption) only [h0, Sx, reduceIte, Nat.reduceEqDiff, reduceCtorEq, Nat.reduceAdd, Nat.reduceSub, Nat.reduceLT]) (by simp -implicitDefEqProofs (maxSteps := 1000000) (disch := first | omega | assumption) only [h3, Sx, reduceIte, Nat.reduceEqDiff, reduceCtorEq, Nat.reduceAdd, Nat.reduceSub, Nat.reduceLT]) (by simp -implicitDefEqProofs (maxSteps := 1000000) (disch := first | omega | assumption) only [h4, Sx, reduceIte, Nat.reduceEqDiff, reduceCtorEq, Nat.reduceAdd, Nat.reduceSub, Nat.reduceLT]) (by simp -implicitDefEqProofs (maxSteps := 1000000) (disch := first | omega | assumption) only [h18, Sx, reduceIte, Nat.reduceEqDiff, reduceCtorEq, Nat.reduceAdd, Nat.reduceSub, Nat.reduceLT]) (by simp -implicitDefEqProofs (maxSteps := 1000000) (disch := first | omega | assumption) only [h24, Sx, reduceIte, Nat.reduceEqDiff, reduceCtorEq, Nat.reduceAdd, Nat.reduceSub, Nat.reduceLT])
      have := hT1.O
      rwa [hR0, List.append_nil] at this
  · have f1 : decide (((A.length : Nat) : Int) < ((A.length + L1.length : Nat) : Int)) = false := decide_eq_false (by omega)
    have hL0 : L1 = [] := List.length_eq_zero_iff.1 (by omega)
    simp -implicitDefEqProofs (maxSteps := 1000000) (disch := first | omega | assumption) only [h0, h1, h4, h18, h20, f1, l_g, Sx, reduceIte, Nat.reduceEqDiff, reduceCtorEq, Nat.reduceAdd, Nat.reduceSub, Nat.reduceLT]
    refine second (M1 := R1) (by rw [hL0, List.nil_append]) hT1.sR ?_ (Only.refl _ _) (by simp -implicitDefEqProofs (maxSteps := 1000000) (disch := first | omega | assumption) only [h0, Sx, reduceIte, Nat.reduceEqDiff, reduceCtorEq, Nat.reduceAdd, Nat.reduceSub, Nat.reduceLT]) (by simp -implicitDefEqProofs (maxSteps := 1000000) (disch := first | omega | assumption) only [h3, Sx, reduceIte, Nat.reduceEqDiff, reduceCtorEq, Nat.reduceAdd, Nat.reduceSub, Nat.reduceLT]) (by simp -implicitDefEqProofs (maxSteps := 1000000) (disch := first | omega | assumption) only [h4, Sx, reduceIte, Nat.reduceEqDiff, reduceCtorEq, Nat.reduceAdd, Nat.reduceSub, Nat.reduceLT]) (by simp -implicitDefEqProofs (maxSteps := 1000000) (disch := first | omega | assumption) only [h18, Sx, reduceIte, Nat.reduceEqDiff, reduceCtorEq, Nat.reduceAdd, Nat.reduceSub, Nat.reduceLT]) (by simp -implicitDefEqProofs (maxSteps := 1000000) (disch := first | omega | assumption) only [h24, Sx, reduceIte, Nat.reduceEqDiff, reduceCtorEq, Nat.reduceAdd, Nat.reduceSub, Nat.reduceLT])
    have := hT1.O
    rwa [hL0, List.append_nil] at this
end Go.Proofs.Ytfdcolicpfellaa.S05

/-
  Sorting: two runs are merged, whole.
-/
set_option linter.unusedVariables false
set_option linter.unusedSimpArgs false
namespace Go.Proofs.Ytfdcolicpfellaa.S05
open Go Go.RowKit Go.Proofs.Ytfdcolicpfellaa.Sep Go.Proofs.Ytfdcolicpfellaa.Low

theorem le_lt {key : Nat → Int} {rk : Nat → Nat} {x y z : Nat} (h : x = y ∨ lt key rk x y) (k : lt key rk y z) : lt key rk x z := by
  rcases h with rfl | h
  · exact k
  · exact h.trans k
theorem lt_le {key : Nat → Int} {rk : Nat → Nat} {x y z : Nat} (h : lt key rk x y) (k : y = z ∨ lt key rk y z) : lt key rk x z := by
  rcases k with rfl | k
  · exact h
  · exact h.trans k
set_option maxHeartbeats 8000000 in
theorem sym_rest {N : Nat} (ih : SymOk N) {H : Heap} {v : Value} {key : Nat → Int} {rk : Nat → Nat} {A L R Z : List Nat} {mid s0 r0 : Nat} {env : Env} {Q : Post} {QP : List PanicEntry → Heap → Prop} (hT : Two2 key rk H v A L R Z) (hL : 2 ≤ L.length) (hR : 2 ≤ R.length) (hN : L.length + R.length ≤ N + 1)
    (hmid : mid = (A.length + (A.length + L.length + R.length)) / 2)
    (hs : (mid < A.length + L.length ∧ s0 = mid + (A.length + L.length) - (A.length + L.length + R.length) ∧ r0 = mid) ∨ (A.length + L.length ≤ mid ∧ s0 = A.length ∧ r0 = A.length + L.length))
    (h0 : env 0 = v) (h1 : env 1 = .int .i64 (A.length : Nat)) (h2 : env 2 = .int .i64 (A.length + L.length : Nat)) (h3 : env 3 = .int .i64 (A.length + L.length + R.length : Nat)) (h4 : env 4 = cmpF) (h18 : env 18 = .int .i64 mid) (h19 : env 19 = .int .i64 (mid + (A.length + L.length) : Nat)) (h20 : env 20 = .int .i64 s0) (h21 : env 21 = .int .i64 r0)
    (hk : ∀ env' H', Merged key rk H v A L R Z H' → Q .normal env' H') :
    awpC Try.prog L61_7 Q QP env H := by
  have hsm := hT.sm
  simp only [List.length_append] at hsm
  have hO := hT.O
  obtain ⟨r, cp, rfl, hcap⟩ := hO.view (by intro e; have := congrArg List.length e; simp only [List.length_append, List.length_nil] at this; omega)
  have hlen : (A ++ L ++ R ++ Z).length = A.length + L.length + R.length + Z.length := by simp; omega
  rw [hlen] at hO hcap h0 hT hk
  obtain ⟨n, hn⟩ : ∃ n, n = A.length + L.length + R.length + Z.length := ⟨_, rfl⟩
  rw [← hn] at hO hcap h0 hT hk
  obtain ⟨m, hm⟩ : ∃ m, m = A.length + L.length := ⟨_, rfl⟩
  obtain ⟨b, hb⟩ : ∃ b, b = A.length + L.length + R.length := ⟨_, rfl⟩
  rw [← hb] at h3 hmid hs
  rw [← hm] at h2 h19 hs
  have e1 : ((mid + m : Nat) : Int) - 1 = ((mid + m - 1 : Nat) : Int) := by omega
  unfold L61_7
  simp -implicitDefEqProofs (maxSteps := 1000000) (disch := first | omega | assumption) only [h0, h1, h2, h3, h4, h18, h19, h20, h21, e1, Sx, reduceIte, Nat.reduceEqDiff, reduceCtorEq, Nat.reduceAdd, Nat.reduceSub, Nat.reduceLT]
  refine c_loop (fun k env H' => ∃ s t, k = t - s ∧ s0 ≤ s ∧ s ≤ t ∧ t ≤ r0 ∧ (s = s0 ∨ ∀ u q (hu : u < L.length) (hq : q < R.length), s = A.length + u + 1 → mid = A.length + u + 1 + q → lt key rk L[u] R[q]) ∧ (t = r0 ∨ ∀ u q (hu : u < L.length) (hq : q < R.length), t = A.length + u → mid = A.length + u + q + 1 → lt key rk R[q] L[u]) ∧ env 0 = .slice (some ⟨r, 0, none⟩) n cp ∧ env 1 = .int .i64 (A.length : Nat) ∧ env 2 = .int .i64 m ∧ env 3 = .int .i64 b ∧ env 4 = cmpF ∧ env 18 = .int .i64 mid ∧ env 19 = .int .i64 (mid + m : Nat) ∧ env 20 = .int .i64 s ∧ env 21 = .int .i64 t ∧ env 22 = .int .i64 (mid + m - 1 : Nat) ∧ H' = H) (r0 - s0) ⟨s0, r0, by omega, by omega, by omega, by omega, .inl rfl, .inl rfl, by simp -implicitDefEqProofs (maxSteps := 1000000) (disch := first | omega | assumption) only [h0, Sx, reduceIte, Nat.reduceEqDiff, reduceCtorEq, Nat.reduceAdd, Nat.reduceSub, Nat.reduceLT], by simp -implicitDefEqProofs (maxSteps := 1000000) (disch := first | omega | assumption) only [h1, Sx, reduceIte, Nat.reduceEqDiff, reduceCtorEq, Nat.reduceAdd, Nat.reduceSub, Nat.reduceLT], by simp -implicitDefEqProofs (maxSteps := 1000000) (disch := first | omega | assumption) only [h2, Sx, reduceIte, Nat.reduceEqDiff, reduceCtorEq, Nat.reduceAdd, Nat.reduceSub, Nat.reduceLT], by simp -implicitDefEqProofs (maxSteps := 1000000) (disch := first | omega | assumption) only [h3, Sx, reduceIte, Nat.reduceEqDiff, reduceCtorEq, Nat.reduceAdd, Nat.reduceSub, Nat.reduceLT], by simp -implicitDefEqProofs (maxSteps := 1000000) (disch := first | omega | assumption) only [h4, Sx, reduceIte, Nat.reduceEqDiff, reduceCtorEq, Nat.reduceAdd, Nat.reduceSub, Nat.reduceLT], by simp -implicitDefEqProofs (maxSteps := 1000000) (disch := first | omega | assumption) only [h18, Sx, reduceIte, Nat.reduceEqDiff, reduceCtorEq, Nat.reduceAdd, Nat.reduceSub, Nat.reduceLT], by simp -implicitDefEqProofs (maxSteps := 1000000) (disch := first | omega | assumption) only [h19, Sx, reduceIte, Nat.reduceEqDiff, reduceCtorEq, Nat.reduceAdd, Nat.reduceSub, Nat.reduceLT], by simp -implicitDefEqProofs (maxSteps := 1000000) (disch := first | omega | assumption) only [h20, Sx, reduceIte, Nat.reduceEqDiff, reduceCtorEq, Nat.reduceAdd, Nat.reduceSub, Nat.reduceLT], by simp -implicitDefEqProofs (maxSteps := 1000000) (disch := first | omega | assumption) only [h21, Sx, reduceIte, Nat.reduceEqDiff, reduceCtorEq, Nat.reduceAdd, Nat.reduceSub, Nat.reduceLT], by simp -implicitDefEqProofs (maxSteps := 1000000) (disch := first | omega | assumption) only [Sx, reduceIte, Nat.reduceEqDiff, reduceCtorEq, Nat.reduceAdd, Nat.reduceSub, Nat.reduceLT], rfl⟩ ?_
  clear h0 h1 h2 h3 h4 h18 h19 h20 h21
  rintro k env H1 ⟨s, t, hkk, hs0, hst, htr, hB1, hB2, h0, h1, h2, h3, h4, h18, h19, h20, h21, h22, rfl⟩
  unfold L61_4
  by_cases hlt : s < t
  · have f1 : decide ((s : Int) < (t : Int)) = true := decide_eq_true (by omega)
    have e2 : ((s : Int) + (t : Int)) = ((s + t : Nat) : Int) := by omega
    have e3 : IntKind.u64.wrap ((s + t : Nat) : Int) = ((s + t : Nat) : Int) := w_u64 (by omega)
    have e4 := half (s + t) (by omega)
    obtain ⟨c, hc⟩ : ∃ c, c = (s + t) / 2 := ⟨_, rfl⟩
    rw [← hc] at e4
    have hsc : s ≤ c := by omega
    have hct : c < t := by omega
    obtain ⟨u, hu⟩ : ∃ u, c = A.length + u := ⟨c - A.length, by omega⟩
    have huL : u < L.length := by omega
    obtain ⟨q, hq⟩ : ∃ q, mid = A.length + u + q + 1 := ⟨mid - (A.length + u + 1), by omega⟩
    have hqR : q < R.length := by omega
    have e5 : ((mid + m - 1 : Nat) : Int) - (c : Int) = ((A.length + L.length + q : Nat) : Int) := by omega
    have hcx := hO.cell (getL (A := A) (L := L) (R := R) (Z := Z) huL)
    have hcy := hO.cell (getR (A := A) (L := L) (R := R) (Z := Z) hqR)
    rw [← hu] at hcx
    obtain ⟨x, hx⟩ : ∃ x, x = L[u] := ⟨_, rfl⟩
    obtain ⟨y, hy⟩ : ∃ y, y = R[q] := ⟨_, rfl⟩
    have hxL : x ∈ L := by rw [hx]; exact List.getElem_mem huL
    have hyR : y ∈ R := by rw [hy]; exact List.getElem_mem hqR
    rw [← hx] at hcx
    rw [← hy] at hcy
    have hb1 : c < n := by omega
    have hb2 : A.length + L.length + q < n := by omega
    clear hc
    simp -implicitDefEqProofs (maxSteps := 1000000) (disch := first | omega | assumption) only [h0, h1, h2, h3, h4, h18, h19, h20, h21, h22, f1, e2, e3, e4, e5, hcx, hcy, Sx, reduceIte, Nat.reduceEqDiff, reduceCtorEq, Nat.reduceAdd, Nat.reduceSub, Nat.reduceLT]
    refine a_callv cmp_callable (cmp_spec (key := key) (x := y) (y := x) (hT.K y (List.mem_append_right _ hyR)) (hT.K x (List.mem_append_left _ hxL))) ?_
    rintro e H2 ⟨⟨cc, rfl, hcc⟩, rfl⟩
    have hrk := hT.lr x hxL y hyR
    by_cases hcmp : key y < key x
    · have f2 : decide (cc < 0) = true := decide_eq_true (hcc.2 hcmp)
      have hyx : lt key rk y x := .inl hcmp
      simp -implicitDefEqProofs (maxSteps := 1000000) (disch := first | omega | assumption) only [endK, h0, h1, h2, h3, h4, h18, h19, h20, h21, h22, f2, Bool.not_true, e2, e3, e4, e5, Sx, reduceIte, Nat.reduceEqDiff, reduceCtorEq, Nat.reduceAdd, Nat.reduceSub, Nat.reduceLT]
      refine ⟨c - s, by omega, s, c, rfl, hs0, by omega, by omega, hB1, .inr fun u2 q2 hu2 hq2 h5 h6 => ?_, by trivial, by trivial, by trivial, by trivial, by trivial, by trivial, by trivial, by trivial, by trivial, by trivial, by trivial⟩
      have eu : u2 = u := by omega
      have eq : q2 = q := by omega
      subst eu eq
      rw [← hx, ← hy]; exact hyx
    · have f2 : decide (cc < 0) = false := decide_eq_false (fun h => hcmp (hcc.1 h))
      have hxy : lt key rk x y := by unfold lt; omega
      simp -implicitDefEqProofs (maxSteps := 1000000) (disch := first | omega | assumption) only [endK, h0, h1, h2, h3, h4, h18, h19, h20, h21, h22, f2, Bool.not_false, e2, e3, e4, e5, Sx, reduceIte, Nat.reduceEqDiff, reduceCtorEq, Nat.reduceAdd, Nat.reduceSub, Nat.reduceLT]
      refine ⟨t - (c + 1), by omega, c + 1, t, rfl, by omega, by omega, htr, .inr fun u2 q2 hu2 hq2 h5 h6 => ?_, hB2, by trivial, by trivial, by trivial, by trivial, by trivial, by trivial, by trivial, by simp, by trivial, by trivial, by trivial⟩
      have eu : u2 = u := by omega
      have eq : q2 = q := by omega
      subst eu eq
      rw [← hx, ← hy]; exact hxy
  have f1 : decide ((s : Int) < (t : Int)) = false := decide_eq_false (by omega)
  have hst2 : t = s := by omega
  subst hst2
  obtain ⟨u, hu⟩ : ∃ u, t = A.length + u := ⟨t - A.length, by omega⟩
  obtain ⟨w, hw⟩ : ∃ w, mid = t + w := ⟨mid - t, by omega⟩
  have huL : u ≤ L.length := by omega
  have hwR : w ≤ R.length := by omega
  have hL1 : (L.take u).length = u := by rw [List.length_take]; omega
  have hL2 : (L.drop u).length = L.length - u := List.length_drop
  have hR1 : (R.take w).length = w := by rw [List.length_take]; omega
  have hR2 : (R.drop w).length = R.length - w := List.length_drop
  have hLs := List.take_append_drop u L
  have hRs := List.take_append_drop w R
  have sL := hT.sL
  have sR := hT.sR
  have hlow : ∀ x ∈ L.take u, ∀ y ∈ R.drop w, lt key rk x y := by
    intro x hx y hy
    obtain ⟨i, hi, e⟩ := List.getElem_of_mem hx
    obtain ⟨j, hj, e'⟩ := List.getElem_of_mem hy
    rw [hL1] at hi
    rw [hR2] at hj
    rw [List.getElem_take] at e
    rw [List.getElem_drop] at e'
    have hb : lt key rk (L[u - 1]'(by omega)) (R[w]'(by omega)) := by
      rcases hB1 with h | h
      · omega
      · exact h (u - 1) w (by omega) (by omega) (by omega) (by omega)
    have h5 : L[i]'(by omega) = L[u - 1]'(by omega) ∨ lt key rk (L[i]'(by omega)) (L[u - 1]'(by omega)) := by
      by_cases h : i = u - 1
      · subst h; exact .inl rfl
      · exact .inr (List.pairwise_iff_getElem.1 sL i (u - 1) (by omega) (by omega) (by omega))
    have h6 : R[w]'(by omega) = R[w + j]'(by omega) ∨ lt key rk (R[w]'(by omega)) (R[w + j]'(by omega)) := by
      by_cases h : j = 0
      · subst h; exact .inl rfl
      · exact .inr (List.pairwise_iff_getElem.1 sR w (w + j) (by omega) (by omega) (by omega))
    rw [← e, ← e']
    exact lt_le (le_lt h5 hb) h6
  have hhigh : ∀ y ∈ R.take w, ∀ x ∈ L.drop u, lt key rk y x := by
    intro y hy x hx
    obtain ⟨i, hi, e⟩ := List.getElem_of_mem hx
    obtain ⟨j, hj, e'⟩ := List.getElem_of_mem hy
    rw [hL2] at hi
    rw [hR1] at hj
    rw [List.getElem_drop] at e
    rw [List.getElem_take] at e'
    have hb : lt key rk (R[w - 1]'(by omega)) (L[u]'(by omega)) := by
      rcases hB2 with h | h
      · omega
      · exact h u (w - 1) (by omega) (by omega) (by omega) (by omega)
    have h5 : R[j]'(by omega) = R[w - 1]'(by omega) ∨ lt key rk (R[j]'(by omega)) (R[w - 1]'(by omega)) := by
      by_cases h : j = w - 1
      · subst h; exact .inl rfl
      · exact .inr (List.pairwise_iff_getElem.1 sR j (w - 1) (by omega) (by omega) (by omega))
    have h6 : L[u]'(by omega) = L[u + i]'(by omega) ∨ lt key rk (L[u]'(by omega)) (L[u + i]'(by omega)) := by
      by_cases h : i = 0
      · subst h; exact .inl rfl
      · exact .inr (List.pairwise_iff_getElem.1 sL u (u + i) (by omega) (by omega) (by omega))
    rw [← e, ← e']
    exact lt_le (le_lt h5 hb) h6
  generalize hXL1 : L.take u = L1 at hL1 hLs hlow
  generalize hXL2 : L.drop u = L2 at hL2 hLs hhigh
  generalize hXR1 : R.take w = R1 at hR1 hRs hhigh
  generalize hXR2 : R.drop w = R2 at hR2 hRs hlow
  clear hXL1 hXL2 hXR1 hXR2 hB1 hB2
  subst hLs hRs
  simp only [List.length_append] at huL hwR hm hb hsm hlen hL2 hR2 hL hR hN
  have sL' := List.pairwise_append.1 sL
  have sR' := List.pairwise_append.1 sR
  have memK := hT.K
  have hlr := hT.lr
  have fin : ∀ {env' : Env} {H' : Heap}, Cs H' (.slice (some ⟨r, 0, none⟩) n cp) (A ++ L1 ++ R1 ++ L2 ++ R2 ++ Z) → Oth H1 (.slice (some ⟨r, 0, none⟩) n cp) H' → env' 0 = .slice (some ⟨r, 0, none⟩) n cp → env' 1 = .int .i64 (A.length : Nat) → env' 3 = .int .i64 b → env' 4 = cmpF → env' 18 = .int .i64 mid → env' 20 = .int .i64 t → env' 24 = .int .i64 (m + w : Nat) → awpC Try.prog L61_6 Q QP env' H' := by
    intro env' H' hO' ho' g0 g1 g3 g4 g18 g20 g24
    refine sym_tail1 ih (A := A) (L1 := L1) (R1 := R1) (L2 := L2) (R2 := R2) (Z := Z) (by omega) (by omega) ⟨by simpa using hO', fun z hz => (memK z (by simp at hz ⊢; rcases hz with h | h <;> simp [h])).oth hT.O ho', sL'.1, sR'.1, fun x hx y hy => hlr x (by simp [hx]) y (by simp [hy]), by simp only [List.length_append]; omega⟩ (fun z hz => (memK z (by simp at hz ⊢; rcases hz with h | h <;> simp [h])).oth hT.O ho') sL'.2.1 sR'.2.1 (fun x hx y hy => hlr x (by simp [hx]) y (by simp [hy])) g0 g1 (by rw [g3]; congr 2; omega) g4 (by rw [g18]; congr 2; omega) (by rw [g20]; congr 2; omega) (by rw [g24]; congr 2; omega) ?_
    intro env'' H'' M1 M2 p1 p2 s1 s2 O' o'
    refine hk _ _ ⟨⟨M1 ++ M2, ?_, ?_, by simpa using O'⟩, ho'.trans o' fun q hq => .inl hq⟩
    · refine (p1.append p2).trans ?_
      have : (L1 ++ R1 ++ (L2 ++ R2)).Perm (L1 ++ L2 ++ (R1 ++ R2)) := by
        rw [List.append_assoc, List.append_assoc L1 L2]
        refine List.Perm.append_left L1 ?_
        rw [← List.append_assoc, ← List.append_assoc]
        exact List.Perm.append_right R2 List.perm_append_comm
      exact this
    · refine List.pairwise_append.2 ⟨s1, s2, fun x hx y hy => ?_⟩
      rcases List.mem_append.1 (p1.mem_iff.1 hx) with hx | hx
      · rcases List.mem_append.1 (p2.mem_iff.1 hy) with hy | hy
        · exact sL'.2.2 x hx y hy
        · exact hlow x hx y hy
      · rcases List.mem_append.1 (p2.mem_iff.1 hy) with hy | hy
        · exact hhigh x hx y hy
        · exact sR'.2.2 x hx y hy
  have e6 : ((mid + m : Nat) : Int) - (t : Int) = ((m + w : Nat) : Int) := by omega
  by_cases hl2 : 0 < L2.length
  · have g1 : decide ((t : Int) < (m : Int)) = true := decide_eq_true (by omega)
    by_cases hr1 : 0 < R1.length
    · have g2 : decide ((m : Int) < ((m + w : Nat) : Int)) = true := decide_eq_true (by omega)
      simp -implicitDefEqProofs (maxSteps := 1000000) (disch := first | omega | assumption) only [h0, h1, h2, h3, h4, h18, h19, h20, h21, h22, f1, e6, g1, g2, l_g, Sx, reduceIte, Nat.reduceEqDiff, reduceCtorEq, Nat.reduceAdd, Nat.reduceSub, Nat.reduceLT]
      refine a_call (rotate_spec (A := A ++ L1) (X0 := L2) (Y0 := R1) (Z := R2 ++ Z) (by simpa using hO) hl2 hr1 (by simp only [List.length_append]; omega) (by simp; omega) (by simp; omega) (by simp; omega)) ?_
      rintro e H2 ⟨rfl, hO2, ho2⟩
      simp -implicitDefEqProofs (maxSteps := 1000000) (disch := first | omega | assumption) only [endK, Sx, reduceIte, Nat.reduceEqDiff, reduceCtorEq, Nat.reduceAdd, Nat.reduceSub, Nat.reduceLT]
      exact fin (by simpa using hO2) ho2 (by simp -implicitDefEqProofs (maxSteps := 1000000) (disch := first | omega | assumption) only [h0, Sx, reduceIte, Nat.reduceEqDiff, reduceCtorEq, Nat.reduceAdd, Nat.reduceSub, Nat.reduceLT]) (by simp -implicitDefEqProofs (maxSteps := 1000000) (disch := first | omega | assumption) only [h1, Sx, reduceIte, Nat.reduceEqDiff, reduceCtorEq, Nat.reduceAdd, Nat.reduceSub, Nat.reduceLT]) (by simp -implicitDefEqProofs (maxSteps := 1000000) (disch := first | omega | assumption) only [h3, Sx, reduceIte, Nat.reduceEqDiff, reduceCtorEq, Nat.reduceAdd, Nat.reduceSub, Nat.reduceLT]) (by simp -implicitDefEqProofs (maxSteps := 1000000) (disch := first | omega | assumption) only [h4, Sx, reduceIte, Nat.reduceEqDiff, reduceCtorEq, Nat.reduceAdd, Nat.reduceSub, Nat.reduceLT]) (by simp -implicitDefEqProofs (maxSteps := 1000000) (disch := first | omega | assumption) only [h18, Sx, reduceIte, Nat.reduceEqDiff, reduceCtorEq, Nat.reduceAdd, Nat.reduceSub, Nat.reduceLT]) (by simp -implicitDefEqProofs (maxSteps := 1000000) (disch := first | omega | assumption) only [h20, Sx, reduceIte, Nat.reduceEqDiff, reduceCtorEq, Nat.reduceAdd, Nat.reduceSub, Nat.reduceLT]) (by simp -implicitDefEqProofs (maxSteps := 1000000) (disch := first | omega | assumption) only [Sx, reduceIte, Nat.reduceEqDiff, reduceCtorEq, Nat.reduceAdd, Nat.reduceSub, Nat.reduceLT])
    · have g2 : decide ((m : Int) < ((m + w : Nat) : Int)) = false := decide_eq_false (by omega)
      have hn1 : R1 = [] := List.length_eq_zero_iff.1 (by omega)
      simp -implicitDefEqProofs (maxSteps := 1000000) (disch := first | omega | assumption) only [h0, h1, h2, h3, h4, h18, h19, h20, h21, h22, f1, e6, g1, g2, l_g, Sx, reduceIte, Nat.reduceEqDiff, reduceCtorEq, Nat.reduceAdd, Nat.reduceSub, Nat.reduceLT]
      exact fin (by rw [hn1] at hO ⊢; simpa using hO) (Only.refl _ _) (by simp -implicitDefEqProofs (maxSteps := 1000000) (disch := first | omega | assumption) only [h0, Sx, reduceIte, Nat.reduceEqDiff, reduceCtorEq, Nat.reduceAdd, Nat.reduceSub, Nat.reduceLT]) (by simp -implicitDefEqProofs (maxSteps := 1000000) (disch := first | omega | assumption) only [h1, Sx, reduceIte, Nat.reduceEqDiff, reduceCtorEq, Nat.reduceAdd, Nat.reduceSub, Nat.reduceLT]) (by simp -implicitDefEqProofs (maxSteps := 1000000) (disch := first | omega | assumption) only [h3, Sx, reduceIte, Nat.reduceEqDiff, reduceCtorEq, Nat.reduceAdd, Nat.reduceSub, Nat.reduceLT]) (by simp -implicitDefEqProofs (maxSteps := 1000000) (disch := first | omega | assumption) only [h4, Sx, reduceIte, Nat.reduceEqDiff, reduceCtorEq, Nat.reduceAdd, Nat.reduceSub, Nat.reduceLT]) (by simp -implicitDefEqProofs (maxSteps := 1000000) (disch := first | omega | assumption) only [h18, Sx, reduceIte, Nat.reduceEqDiff, reduceCtorEq, Nat.reduceAdd, Nat.reduceSub, Nat.reduceLT]) (by simp -implicitDefEqProofs (maxSteps := 1000000) (disch := first | omega | assumption) only [h20, Sx, reduceIte, Nat.reduceEqDiff, reduceCtorEq, Nat.reduceAdd, Nat.reduceSub, Nat.reduceLT]) (by simp -implicitDefEqProofs (maxSteps := 1000000) (disch := first | omega | assumption) only [Sx, reduceIte, Nat.reduceEqDiff, reduceCtorEq, Nat.reduceAdd, Nat.reduceSub, Nat.reduceLT])
  · have g1 : decide ((t : Int) < (m : Int)) = false := decide_eq_false (by omega)
    have hn2 : L2 = [] := List.length_eq_zero_iff.1 (by omega)
    simp -implicitDefEqProofs (maxSteps := 1000000) (disch := first | omega | assumption) only [h0, h1, h2, h3, h4, h18, h19, h20, h21, h22, f1, e6, g1, l_g, Sx, reduceIte, Nat.reduceEqDiff, reduceCtorEq, Nat.reduceAdd, Nat.reduceSub, Nat.reduceLT]
    exact fin (by rw [hn2] at hO ⊢; simpa using hO) (Only.refl _ _) (by simp -implicitDefEqProofs (maxSteps := 1000000) (disch := first | omega | assumption) only [h0, Sx, reduceIte, Nat.reduceEqDiff, reduceCtorEq, Nat.reduceAdd, Nat.reduceSub, Nat.reduceLT]) (by simp -implicitDefEqProofs (maxSteps := 1000000) (disch := first | omega | assumption) only [h1, Sx, reduceIte, Nat.reduceEqDiff, reduceCtorEq, Nat.reduceAdd, Nat.reduceSub, Nat.reduceLT]) (by simp -implicitDefEqProofs (maxSteps := 1000000) (disch := first | omega | assumption) only [h3, Sx, reduceIte, Nat.reduceEqDiff, reduceCtorEq, Nat.reduceAdd, Nat.reduceSub, Nat.reduceLT]) (by simp -implicitDefEqProofs (maxSteps := 1000000) (disch := first | omega | assumption) only [h4, Sx, reduceIte, Nat.reduceEqDiff, reduceCtorEq, Nat.reduceAdd, Nat.reduceSub, Nat.reduceLT]) (by simp -implicitDefEqProofs (maxSteps := 1000000) (disch := first | omega | assumption) only [h18, Sx, reduceIte, Nat.reduceEqDiff, reduceCtorEq, Nat.reduceAdd, Nat.reduceSub, Nat.reduceLT]) (by simp -implicitDefEqProofs (maxSteps := 1000000) (disch := first | omega | assumption) only [h20, Sx, reduceIte, Nat.reduceEqDiff, reduceCtorEq, Nat.reduceAdd, Nat.reduceSub, Nat.reduceLT]) (by simp -implicitDefEqProofs (maxSteps := 1000000) (disch := first | omega | assumption) only [Sx, reduceIte, Nat.reduceEqDiff, reduceCtorEq, Nat.reduceAdd, Nat.reduceSub, Nat.reduceLT])

set_option maxHeartbeats 4000000 in
theorem sym_spec : ∀ N : Nat, SymOk N
  | 0 => fun H v key rk A L R Z hN hL hR => by omega
  | N + 1 => by
    intro H v key rk A L R Z hN hL hR hT a m b ha hm hb
    have hsm := hT.sm
    by_cases hl1 : L.length = 1
    · obtain ⟨x, rfl⟩ := List.length_eq_one_iff.1 hl1
      refine (sym_one hT.O (hT.K x (by simp)) (fun b hb => hT.K b (by simp [hb])) hT.sR (fun y hy => hT.lr x (by simp) y hy) hsm ha (by simpa using hm) (by simpa using hb)).mono ?_
      rintro e H' ⟨he, hM, ho⟩
      exact ⟨he, hM, ho⟩
    by_cases hr1 : R.length = 1
    · obtain ⟨y, rfl⟩ := List.length_eq_one_iff.1 hr1
      refine (sym_last hT.O (hT.K y (by simp)) (fun b hb => hT.K b (by simp [hb])) hT.sL hl1 (fun x hx => hT.lr x hx y (by simp)) hsm ha hm (by simpa using hb)).mono ?_
      rintro e H' ⟨he, hM, ho⟩
      exact ⟨he, hM, ho⟩
    subst ha hm hb
    simp only [List.length_append] at hsm
    refine call61 (Nat.le_of_ble_eq_true rfl) ?_
    unfold L61 env0
    have f0 : (((A.length + L.length : Nat) : Int) - (A.length : Int) == 1) = false := by rw [beq_eq_false_iff_ne]; omega
    have f00 : (((A.length + L.length + R.length : Nat) : Int) - ((A.length + L.length : Nat) : Int) == 1) = false := by rw [beq_eq_false_iff_ne]; omega
    obtain ⟨mid, hmid⟩ : ∃ mid, mid = (A.length + (A.length + L.length + R.length)) / 2 := ⟨_, rfl⟩
    have e1 : ((A.length : Int) + ((A.length + L.length + R.length : Nat) : Int)) = ((A.length + (A.length + L.length + R.length) : Nat) : Int) := by omega
    have e2 : IntKind.u64.wrap ((A.length + (A.length + L.length + R.length) : Nat) : Int) = ((A.length + (A.length + L.length + R.length) : Nat) : Int) := w_u64 (by omega)
    have e3 := half (A.length + (A.length + L.length + R.length)) (by omega)
    rw [← hmid] at e3
    have e4 : ((mid : Int) + ((A.length + L.length : Nat) : Int)) = ((mid + (A.length + L.length) : Nat) : Int) := by omega
    by_cases hmm : mid < A.length + L.length
    · have f1 : decide ((mid : Int) < ((A.length + L.length : Nat) : Int)) = true := decide_eq_true (by omega)
      have e5 : ((mid + (A.length + L.length) : Nat) : Int) - ((A.length + L.length + R.length : Nat) : Int) = ((mid + (A.length + L.length) - (A.length + L.length + R.length) : Nat) : Int) := by omega
      simp -implicitDefEqProofs (maxSteps := 1000000) (disch := first | omega | assumption) only [f0, f00, e1, e2, e3, e4, e5, f1, Sx, reduceIte, Nat.reduceEqDiff, reduceCtorEq, Nat.reduceAdd, Nat.reduceSub, Nat.reduceLT]
      refine sym_rest (sym_spec N) hT (by omega) (by omega) hN hmid (.inl ⟨hmm, rfl, rfl⟩) (by simp -implicitDefEqProofs (maxSteps := 1000000) (disch := first | omega | assumption) only [Sx, reduceIte, Nat.reduceEqDiff, reduceCtorEq, Nat.reduceAdd, Nat.reduceSub, Nat.reduceLT]) (by simp -implicitDefEqProofs (maxSteps := 1000000) (disch := first | omega | assumption) only [Sx, reduceIte, Nat.reduceEqDiff, reduceCtorEq, Nat.reduceAdd, Nat.reduceSub, Nat.reduceLT]) (by simp -implicitDefEqProofs (maxSteps := 1000000) (disch := first | omega | assumption) only [Sx, reduceIte, Nat.reduceEqDiff, reduceCtorEq, Nat.reduceAdd, Nat.reduceSub, Nat.reduceLT]) (by simp -implicitDefEqProofs (maxSteps := 1000000) (disch := first | omega | assumption) only [Sx, reduceIte, Nat.reduceEqDiff, reduceCtorEq, Nat.reduceAdd, Nat.reduceSub, Nat.reduceLT]) (by simp -implicitDefEqProofs (maxSteps := 1000000) (disch := first | omega | assumption) only [Sx, reduceIte, Nat.reduceEqDiff, reduceCtorEq, Nat.reduceAdd, Nat.reduceSub, Nat.reduceLT]) (by simp -implicitDefEqProofs (maxSteps := 1000000) (disch := first | omega | assumption) only [Sx, reduceIte, Nat.reduceEqDiff, reduceCtorEq, Nat.reduceAdd, Nat.reduceSub, Nat.reduceLT]) (by simp -implicitDefEqProofs (maxSteps := 1000000) (disch := first | omega | assumption) only [Sx, reduceIte, Nat.reduceEqDiff, reduceCtorEq, Nat.reduceAdd, Nat.reduceSub, Nat.reduceLT]) (by simp -implicitDefEqProofs (maxSteps := 1000000) (disch := first | omega | assumption) only [Sx, reduceIte, Nat.reduceEqDiff, reduceCtorEq, Nat.reduceAdd, Nat.reduceSub, Nat.reduceLT]) (by simp -implicitDefEqProofs (maxSteps := 1000000) (disch := first | omega | assumption) only [Sx, reduceIte, Nat.reduceEqDiff, reduceCtorEq, Nat.reduceAdd, Nat.reduceSub, Nat.reduceLT]) ?_
      intro env' H' hM
      simp -implicitDefEqProofs (maxSteps := 1000000) (disch := first | omega | assumption) only [Sx, reduceIte, Nat.reduceEqDiff, reduceCtorEq, Nat.reduceAdd, Nat.reduceSub, Nat.reduceLT]
      exact ⟨by trivial, hM⟩
    · have f1 : decide ((mid : Int) < ((A.length + L.length : Nat) : Int)) = false := decide_eq_false (by omega)
      simp -implicitDefEqProofs (maxSteps := 1000000) (disch := first | omega | assumption) only [f0, f00, e1, e2, e3, e4, f1, Sx, reduceIte, Nat.reduceEqDiff, reduceCtorEq, Nat.reduceAdd, Nat.reduceSub, Nat.reduceLT]
      refine sym_rest (sym_spec N) hT (by omega) (by omega) hN hmid (.inr ⟨by omega, rfl, rfl⟩) (by simp -implicitDefEqProofs (maxSteps := 1000000) (disch := first | omega | assumption) only [Sx, reduceIte, Nat.reduceEqDiff, reduceCtorEq, Nat.reduceAdd, Nat.reduceSub, Nat.reduceLT]) (by simp -implicitDefEqProofs (maxSteps := 1000000) (disch := first | omega | assumption) only [Sx, reduceIte, Nat.reduceEqDiff, reduceCtorEq, Nat.reduceAdd, Nat.reduceSub, Nat.reduceLT]) (by simp -implicitDefEqProofs (maxSteps := 1000000) (disch := first | omega | assumption) only [Sx, reduceIte, Nat.reduceEqDiff, reduceCtorEq, Nat.reduceAdd, Nat.reduceSub, Nat.reduceLT]) (by simp -implicitDefEqProofs (maxSteps := 1000000) (disch := first | omega | assumption) only [Sx, reduceIte, Nat.reduceEqDiff, reduceCtorEq, Nat.reduceAdd, Nat.reduceSub, Nat.reduceLT]) (by simp -implicitDefEqProofs (maxSteps := 1000000) (disch := first | omega | assumption) only [Sx, reduceIte, Nat.reduceEqDiff, reduceCtorEq, Nat.reduceAdd, Nat.reduceSub, Nat.reduceLT]) (by simp -implicitDefEqProofs (maxSteps := 1000000) (disch := first | omega | assumption) only [Sx, reduceIte, Nat.reduceEqDiff, reduceCtorEq, Nat.reduceAdd, Nat.reduceSub, Nat.reduceLT]) (by simp -implicitDefEqProofs (maxSteps := 1000000) (disch := first | omega | assumption) only [Sx, reduceIte, Nat.reduceEqDiff, reduceCtorEq, Nat.reduceAdd, Nat.reduceSub, Nat.reduceLT]) (by simp -implicitDefEqProofs (maxSteps := 1000000) (disch := first | omega | assumption) only [Sx, reduceIte, Nat.reduceEqDiff, reduceCtorEq, Nat.reduceAdd, Nat.reduceSub, Nat.reduceLT]) (by simp -implicitDefEqProofs (maxSteps := 1000000) (disch := first | omega | assumption) only [Sx, reduceIte, Nat.reduceEqDiff, reduceCtorEq, Nat.reduceAdd, Nat.reduceSub, Nat.reduceLT]) ?_
      intro env' H' hM
      simp -implicitDefEqProofs (maxSteps := 1000000) (disch := first | omega | assumption) only [Sx, reduceIte, Nat.reduceEqDiff, reduceCtorEq, Nat.reduceAdd, Nat.reduceSub, Nat.reduceLT]
      exact ⟨by trivial, hM⟩
end Go.Proofs.Ytfdcolicpfellaa.S05

/-
  slices.SortStableFunc at coins.
-/
set_option linter.unusedVariables false
set_option linter.unusedSimpArgs false
namespace Go.Proofs.Ytfdcolicpfellaa.S05
open Go Go.RowKit Go.Proofs.Ytfdcolicpfellaa.Sep Go.Proofs.Ytfdcolicpfellaa.Low

section
variable {key : Nat → Int} {rk : Nat → Nat}
/-- sorted runs of one length, the last may be shorter; beside them what lay there at the start -/
inductive Blk (key : Nat → Int) (rk : Nat → Nat) (bs : Nat) : List Nat → List Nat → Prop where
  | last {D D0 : List Nat} : D.length ≤ bs → D.Perm D0 → Srt key rk D → Blk key rk bs D D0
  | cons {B B0 D D0 : List Nat} : B.length = bs → B.Perm B0 → Srt key rk B → Blk key rk bs D D0 → Blk key rk bs (B ++ D) (B0 ++ D0)
/-- full runs -/
inductive Full (key : Nat → Int) (rk : Nat → Nat) (bs : Nat) : List Nat → List Nat → Prop where
  | nil : Full key rk bs [] []
  | snoc {P P0 B B0 : List Nat} : Full key rk bs P P0 → B.length = bs → B.Perm B0 → Srt key rk B → Full key rk bs (P ++ B) (P0 ++ B0)
theorem Full.blk {bs : Nat} {P P0 : List Nat} (h : Full key rk bs P P0) : ∀ {D D0 : List Nat}, Blk key rk bs D D0 → Blk key rk bs (P ++ D) (P0 ++ D0) := by
  induction h with
  | nil => intro D D0 h; exact h
  | snoc _ hl hp hs ih =>
    intro D D0 h
    rw [List.append_assoc, List.append_assoc]
    exact ih (.cons hl hp hs h)
theorem Full.perm {bs : Nat} {P P0 : List Nat} (h : Full key rk bs P P0) : P.Perm P0 := by
  induction h with
  | nil => exact .refl _
  | snoc _ _ hp _ ih => exact ih.append hp
theorem Blk.perm {bs : Nat} {D D0 : List Nat} (h : Blk key rk bs D D0) : D.Perm D0 := by
  induction h with
  | last _ hp _ => exact hp
  | cons _ hp _ _ ih => exact hp.append ih
theorem Blk.small {bs : Nat} (hb : 0 < bs) {D D0 : List Nat} (h : Blk key rk bs D D0) (hl : D.length ≤ bs) : D.Perm D0 ∧ Srt key rk D := by
  cases h with
  | last _ hp hs => exact ⟨hp, hs⟩
  | cons h1 hp hs hD =>
    rename_i B B0 D D0
    rw [List.length_append] at hl
    have hD0 : D = [] := List.length_eq_zero_iff.1 (by omega)
    subst hD0
    have := hD.perm.length_eq
    have hD00 : D0 = [] := List.length_eq_zero_iff.1 (by simpa using this.symm)
    subst hD00
    rw [List.append_nil, List.append_nil]
    exact ⟨hp, hs⟩
theorem Blk.mid {bs : Nat} (hb : 0 < bs) {D D0 : List Nat} (h : Blk key rk bs D D0) (hl : bs < D.length) : ∃ B B0 E E0, D = B ++ E ∧ D0 = B0 ++ E0 ∧ B.length = bs ∧ B.Perm B0 ∧ Srt key rk B ∧ Blk key rk bs E E0 := by
  cases h with
  | last h _ _ => omega
  | cons h1 hp hs hD => exact ⟨_, _, _, _, rfl, rfl, h1, hp, hs, hD⟩
theorem Blk.two {bs : Nat} (hb : 0 < bs) {D D0 : List Nat} (h : Blk key rk bs D D0) (hl : 2 * bs ≤ D.length) : ∃ B B0 C C0 E E0, D = B ++ (C ++ E) ∧ D0 = B0 ++ (C0 ++ E0) ∧ B.length = bs ∧ C.length = bs ∧ B.Perm B0 ∧ C.Perm C0 ∧ Srt key rk B ∧ Srt key rk C ∧ Blk key rk bs E E0 := by
  obtain ⟨B, B0, X, X0, rfl, rfl, h1, p1, s1, hX⟩ := h.mid hb (by omega)
  rw [List.length_append] at hl
  by_cases h2 : bs < X.length
  · obtain ⟨C, C0, E, E0, rfl, rfl, h3, p3, s3, hE⟩ := hX.mid hb h2
    exact ⟨B, B0, C, C0, E, E0, rfl, rfl, h1, h3, p1, p3, s1, s3, hE⟩
  · obtain ⟨p3, s3⟩ := hX.small hb (by omega)
    exact ⟨B, B0, X, X0, [], [], by simp, by simp, h1, by omega, p1, p3, s1, s3, .last (Nat.zero_le _) (.refl _) .nil⟩
theorem Asc.cross {X Y : List Nat} (h : Asc rk (X ++ Y)) {X' Y' : List Nat} (p : X'.Perm X) (q : Y'.Perm Y) : ∀ x ∈ X', ∀ y ∈ Y', rk x < rk y := fun x hx y hy => (List.pairwise_append.1 h).2.2 x (p.mem_iff.1 hx) y (q.mem_iff.1 hy)
end

/-- the whole sort's promise -/
def Sorted2 (key : Nat → Int) (rk : Nat → Nat) (H : Heap) (v : Value) (D0 : List Nat) (H' : Heap) : Prop := (∃ D, D.Perm D0 ∧ Srt key rk D ∧ Cs H' v D) ∧ Oth H v H'

set_option maxHeartbeats 8000000 in
theorem stable_spec {H : Heap} {v : Value} {key : Nat → Int} {rk : Nat → Nat} {D0 : List Nat} (hO : Cs H v D0) (hK : ∀ b ∈ D0, KeyB H key b) (hA : Asc rk D0) (hsm : D0.length ≤ 1000000) {n : Nat} (hn : n = D0.length) :
    ACalls Try.prog 59 [v, .int .i64 n, cmpF].toArray H fun e H' => e = .returned (.tuple #[]) ∧ Sorted2 key rk H v D0 H' := by
  refine call59 (Nat.le_of_ble_eq_true rfl) ?_
  unfold L59 env0
  simp -implicitDefEqProofs (maxSteps := 1000000) (disch := first | omega | assumption) only [Sx, reduceIte, Nat.reduceEqDiff, reduceCtorEq, Nat.reduceAdd, Nat.reduceSub, Nat.reduceLT]
  refine c_loop (fun k env H' => ∃ P P0 X, k = X.length ∧ D0 = P0 ++ X ∧ P.length = P0.length ∧ Full key rk 20 P P0 ∧ env 0 = v ∧ env 1 = .int .i64 n ∧ env 2 = cmpF ∧ env 6 = .int .i64 20 ∧ env 7 = .int .i64 (P.length : Nat) ∧ env 8 = .int .i64 (P.length + 20 : Nat) ∧ Cs H' v (P ++ X) ∧ Oth H v H') D0.length ⟨[], [], D0, rfl, rfl, rfl, .nil, by simp -implicitDefEqProofs (maxSteps := 1000000) (disch := first | omega | assumption) only [Sx, reduceIte, Nat.reduceEqDiff, reduceCtorEq, Nat.reduceAdd, Nat.reduceSub, Nat.reduceLT], by simp -implicitDefEqProofs (maxSteps := 1000000) (disch := first | omega | assumption) only [Sx, reduceIte, Nat.reduceEqDiff, reduceCtorEq, Nat.reduceAdd, Nat.reduceSub, Nat.reduceLT], by simp -implicitDefEqProofs (maxSteps := 1000000) (disch := first | omega | assumption) only [Sx, reduceIte, Nat.reduceEqDiff, reduceCtorEq, Nat.reduceAdd, Nat.reduceSub, Nat.reduceLT], by simp -implicitDefEqProofs (maxSteps := 1000000) (disch := first | omega | assumption) only [Sx, reduceIte, Nat.reduceEqDiff, reduceCtorEq, Nat.reduceAdd, Nat.reduceSub, Nat.reduceLT], by simp -implicitDefEqProofs (maxSteps := 1000000) (disch := first | omega | assumption) only [Sx, reduceIte, Nat.reduceEqDiff, reduceCtorEq, Nat.reduceAdd, Nat.reduceSub, Nat.reduceLT]; rfl, by simp -implicitDefEqProofs (maxSteps := 1000000) (disch := first | omega | assumption) only [Sx, reduceIte, Nat.reduceEqDiff, reduceCtorEq, Nat.reduceAdd, Nat.reduceSub, Nat.reduceLT]; rfl, hO, Only.refl _ _⟩ ?_
  rintro k env H1 ⟨P, P0, X, hk, hD, hPl, hF, h0, h1, h2, h6, h7, h8, hO1, ho1⟩
  have hDl : D0.length = P.length + X.length := by rw [hD, List.length_append, hPl]
  have hAX : Asc rk X := by rw [hD] at hA; exact (List.pairwise_append.1 hA).2.1
  have hKX : ∀ b ∈ X, KeyB H1 key b := fun b hb => (hK b (by rw [hD]; simp [hb])).oth hO ho1
  unfold L59_0
  by_cases hle : P.length + 20 ≤ n
  · have f0 : decide (((P.length + 20 : Nat) : Int) ≤ (n : Int)) = true := decide_eq_true (by omega)
    have hsp := List.take_append_drop 20 X
    have hl1 : (X.take 20).length = 20 := by rw [List.length_take]; omega
    generalize X.take 20 = X1 at hsp hl1
    generalize X.drop 20 = X2 at hsp
    subst hsp
    rw [List.length_append] at hDl hk
    have hAX' := List.pairwise_append.1 hAX
    simp -implicitDefEqProofs (maxSteps := 1000000) (disch := first | omega | assumption) only [h0, h1, h2, h6, h7, h8, f0, Sx, reduceIte, Nat.reduceEqDiff, reduceCtorEq, Nat.reduceAdd, Nat.reduceSub, Nat.reduceLT]
    refine a_call (insert_spec (key := key) (rk := rk) (A := P) (X := X1) (Z := X2) (by simpa using hO1) (fun b hb => hKX b (by simp [hb])) hAX'.1 (by simp only [List.length_append]; omega) rfl (by omega)) ?_
    rintro e H2 ⟨rfl, ⟨X1', p1, s1, O1⟩, o1⟩
    have g1 : ((P.length + 20 : Nat) : Int) + 20 = (((P ++ X1').length + 20 : Nat) : Int) := by rw [List.length_append, p1.length_eq, hl1]; omega
    have g2 : P.length + 20 = (P ++ X1').length := by rw [List.length_append, p1.length_eq, hl1]
    simp -implicitDefEqProofs (maxSteps := 1000000) (disch := first | omega | assumption) only [endK, h0, h1, h2, h6, h7, h8, Sx, reduceIte, Nat.reduceEqDiff, reduceCtorEq, Nat.reduceAdd, Nat.reduceSub, Nat.reduceLT]
    exact ⟨X2.length, by omega, P ++ X1', P0 ++ X1, X2, rfl, by rw [hD]; simp, by rw [List.length_append, List.length_append, hPl, p1.length_eq], .snoc hF (by rw [p1.length_eq, hl1]) p1 s1, by trivial, by trivial, by trivial, by trivial, by rw [g2], by rw [g1], O1, ho1.trans o1 fun q hq => .inl hq⟩
  have f0 : decide (((P.length + 20 : Nat) : Int) ≤ (n : Int)) = false := decide_eq_false (by omega)
  simp -implicitDefEqProofs (maxSteps := 1000000) (disch := first | omega | assumption) only [h0, h1, h2, h6, h7, h8, f0, Sx, reduceIte, Nat.reduceEqDiff, reduceCtorEq, Nat.reduceAdd, Nat.reduceSub, Nat.reduceLT]
  refine a_call (insert_spec (key := key) (rk := rk) (A := P) (X := X) (Z := []) (by simpa using hO1) hKX hAX (by simp only [List.length_append, List.length_nil]; omega) rfl (by omega)) ?_
  rintro e H2 ⟨rfl, ⟨X', p1, s1, O1⟩, o1⟩
  rw [List.append_nil] at O1
  have hB20 : Blk key rk 20 (P ++ X') D0 := by
    rw [hD]
    exact hF.blk (.last (by rw [p1.length_eq]; omega) p1 s1)
  simp -implicitDefEqProofs (maxSteps := 1000000) (disch := first | omega | assumption) only [endK, h0, h1, h2, h6, h7, h8, Sx, reduceIte, Nat.reduceEqDiff, reduceCtorEq, Nat.reduceAdd, Nat.reduceSub, Nat.reduceLT]
  refine c_loop (fun k env H' => ∃ bs D, k = n - bs ∧ 20 ≤ bs ∧ bs ≤ 2000000 ∧ Blk key rk bs D D0 ∧ env 0 = v ∧ env 1 = .int .i64 n ∧ env 2 = cmpF ∧ env 6 = .int .i64 bs ∧ Cs H' v D ∧ Oth H v H') (n - 20) ⟨20, P ++ X', rfl, Nat.le_refl _, by omega, hB20, by simp -implicitDefEqProofs (maxSteps := 1000000) (disch := first | omega | assumption) only [h0, Sx, reduceIte, Nat.reduceEqDiff, reduceCtorEq, Nat.reduceAdd, Nat.reduceSub, Nat.reduceLT], by simp -implicitDefEqProofs (maxSteps := 1000000) (disch := first | omega | assumption) only [h1, Sx, reduceIte, Nat.reduceEqDiff, reduceCtorEq, Nat.reduceAdd, Nat.reduceSub, Nat.reduceLT], by simp -implicitDefEqProofs (maxSteps := 1000000) (disch := first | omega | assumption) only [h2, Sx, reduceIte, Nat.reduceEqDiff, reduceCtorEq, Nat.reduceAdd, Nat.reduceSub, Nat.reduceLT], by simp -implicitDefEqProofs (maxSteps := 1000000) (disch := first | omega | assumption) only [h6, Sx, reduceIte, Nat.reduceEqDiff, reduceCtorEq, Nat.reduceAdd, Nat.reduceSub, Nat.reduceLT]; rfl, O1, ho1.trans o1 fun q hq => .inl hq⟩ ?_
  clear h0 h1 h2 h6 h7 h8 hO1 ho1 hF hD hDl hAX hKX hPl hk hle f0 p1 s1 O1 o1 hB20
  rintro k3 env H3 ⟨bs, D, hk3, hbs, hbs2, hB, h0, h1, h2, h6, hO3, ho3⟩
  have hDl := hB.perm.length_eq
  unfold L59_3
  by_cases hlt : bs < n
  case neg =>
    have f0 : decide ((bs : Int) < (n : Int)) = false := decide_eq_false (by omega)
    obtain ⟨p, s⟩ := hB.small (by omega) (by omega)
    simp -implicitDefEqProofs (maxSteps := 1000000) (disch := first | omega | assumption) only [h0, h1, h2, h6, f0, Sx, reduceIte, Nat.reduceEqDiff, reduceCtorEq, Nat.reduceAdd, Nat.reduceSub, Nat.reduceLT]
    exact ⟨by trivial, ⟨D, p, s, hO3⟩, ho3⟩
  have f0 : decide ((bs : Int) < (n : Int)) = true := decide_eq_true (by omega)
  have g0 : (2 : Int) * (bs : Int) = ((2 * bs : Nat) : Int) := by omega
  simp -implicitDefEqProofs (maxSteps := 1000000) (disch := first | omega | assumption) only [h0, h1, h2, h6, f0, g0, Sx, reduceIte, Nat.reduceEqDiff, reduceCtorEq, Nat.reduceAdd, Nat.reduceSub, Nat.reduceLT]
  refine c_loop (fun k env H' => ∃ P P0 X X0, k = X.length ∧ D0 = P0 ++ X0 ∧ P.length = P0.length ∧ Full key rk (2 * bs) P P0 ∧ Blk key rk bs X X0 ∧ env 0 = v ∧ env 1 = .int .i64 n ∧ env 2 = cmpF ∧ env 6 = .int .i64 bs ∧ env 7 = .int .i64 (P.length : Nat) ∧ env 8 = .int .i64 (P.length + 2 * bs : Nat) ∧ Cs H' v (P ++ X) ∧ Oth H v H') D.length ⟨[], [], D, D0, rfl, rfl, rfl, .nil, hB, by simp -implicitDefEqProofs (maxSteps := 1000000) (disch := first | omega | assumption) only [h0, Sx, reduceIte, Nat.reduceEqDiff, reduceCtorEq, Nat.reduceAdd, Nat.reduceSub, Nat.reduceLT], by simp -implicitDefEqProofs (maxSteps := 1000000) (disch := first | omega | assumption) only [h1, Sx, reduceIte, Nat.reduceEqDiff, reduceCtorEq, Nat.reduceAdd, Nat.reduceSub, Nat.reduceLT], by simp -implicitDefEqProofs (maxSteps := 1000000) (disch := first | omega | assumption) only [h2, Sx, reduceIte, Nat.reduceEqDiff, reduceCtorEq, Nat.reduceAdd, Nat.reduceSub, Nat.reduceLT], by simp -implicitDefEqProofs (maxSteps := 1000000) (disch := first | omega | assumption) only [h6, Sx, reduceIte, Nat.reduceEqDiff, reduceCtorEq, Nat.reduceAdd, Nat.reduceSub, Nat.reduceLT], by simp -implicitDefEqProofs (maxSteps := 1000000) (disch := first | omega | assumption) only [Sx, reduceIte, Nat.reduceEqDiff, reduceCtorEq, Nat.reduceAdd, Nat.reduceSub, Nat.reduceLT]; rfl, by simp -implicitDefEqProofs (maxSteps := 1000000) (disch := first | omega | assumption) only [Sx, reduceIte, Nat.reduceEqDiff, reduceCtorEq, Nat.reduceAdd, Nat.reduceSub, Nat.reduceLT], hO3, ho3⟩ ?_
  clear h0 h1 h2 h6 hO3 ho3
  rintro k4 env H4 ⟨P, P0, X, X0, hk4, hD, hPl, hF, hBX, h0, h1, h2, h6, h7, h8, hO4, ho4⟩
  have hXl := hBX.perm.length_eq
  have hD0l : D0.length = P.length + X.length := by rw [hD, List.length_append, hPl, hXl]
  have hAX : Asc rk X0 := by rw [hD] at hA; exact (List.pairwise_append.1 hA).2.1
  have hKX : ∀ b ∈ X, KeyB H4 key b := fun b hb => (hK b (by rw [hD]; simp [hBX.perm.mem_iff.1 hb])).oth hO ho4
  unfold L59_1
  by_cases hle : P.length + 2 * bs ≤ n
  · have f1 : decide (((P.length + 2 * bs : Nat) : Int) ≤ (n : Int)) = true := decide_eq_true (by omega)
    obtain ⟨B, B0, C, C0, E, E0, rfl, rfl, lB, lC, pB, pC, sB, sC, hE⟩ := hBX.two (by omega) (by omega)
    simp only [List.length_append] at hk4 hXl hD0l
    have g1 : ((P.length : Nat) : Int) + (bs : Int) = ((P.length + B.length : Nat) : Int) := by omega
    have hlr : ∀ x ∈ B, ∀ y ∈ C, rk x < rk y := by
      rw [← List.append_assoc] at hAX
      exact Asc.cross (List.pairwise_append.1 hAX).1 pB pC
    simp -implicitDefEqProofs (maxSteps := 1000000) (disch := first | omega | assumption) only [h0, h1, h2, h6, h7, h8, f1, g0, g1, Sx, reduceIte, Nat.reduceEqDiff, reduceCtorEq, Nat.reduceAdd, Nat.reduceSub, Nat.reduceLT]
    refine a_call (sym_spec (B.length + C.length) H4 v key rk P B C E (Nat.le_refl _) (by omega) (by omega) ⟨by simpa using hO4, fun b hb => hKX b (by simp at hb ⊢; rcases hb with h | h <;> simp [h]), sB, sC, hlr, by simp only [List.length_append]; omega⟩ _ _ _ rfl rfl (by omega)) ?_
    rintro e H5 ⟨rfl, ⟨M, pM, sM, OM⟩, oM⟩
    have lM : M.length = 2 * bs := by rw [pM.length_eq, List.length_append]; omega
    have g2 : ((P.length + 2 * bs : Nat) : Int) + ((2 * bs : Nat) : Int) = (((P ++ M).length + 2 * bs : Nat) : Int) := by rw [List.length_append, lM]; omega
    have g3 : P.length + 2 * bs = (P ++ M).length := by rw [List.length_append, lM]
    simp -implicitDefEqProofs (maxSteps := 1000000) (disch := first | omega | assumption) only [endK, h0, h1, h2, h6, h7, h8, g0, Sx, reduceIte, Nat.reduceEqDiff, reduceCtorEq, Nat.reduceAdd, Nat.reduceSub, Nat.reduceLT]
    exact ⟨E.length, by omega, P ++ M, P0 ++ (B0 ++ C0), E, E0, rfl, by rw [hD]; simp, by rw [List.length_append, List.length_append, hPl, pM.length_eq, List.length_append, List.length_append, pB.length_eq, pC.length_eq], .snoc hF lM (pM.trans (pB.append pC)) sM, hE, by trivial, by trivial, by trivial, by trivial, by rw [g3], by rw [g2], OM, ho4.trans oM fun q hq => .inl hq⟩
  have f1 : decide (((P.length + 2 * bs : Nat) : Int) ≤ (n : Int)) = false := decide_eq_false (by omega)
  have g1 : ((P.length : Nat) : Int) + (bs : Int) = ((P.length + bs : Nat) : Int) := by omega
  have g4 : (bs : Int) * 2 = ((2 * bs : Nat) : Int) := by omega
  by_cases hm : P.length + bs < n
  · have f2 : decide (((P.length + bs : Nat) : Int) < (n : Int)) = true := decide_eq_true (by omega)
    obtain ⟨B, B0, E, E0, rfl, rfl, lB, pB, sB, hE⟩ := hBX.mid (by omega) (by omega)
    simp only [List.length_append] at hk4 hXl hD0l
    obtain ⟨pE, sE⟩ := hE.small (by omega) (by omega)
    simp -implicitDefEqProofs (maxSteps := 1000000) (disch := first | omega | assumption) only [h0, h1, h2, h6, h7, h8, f1, f2, g1, Sx, reduceIte, Nat.reduceEqDiff, reduceCtorEq, Nat.reduceAdd, Nat.reduceSub, Nat.reduceLT]
    refine a_call (sym_spec (B.length + E.length) H4 v key rk P B E [] (Nat.le_refl _) (by omega) (by omega) ⟨by simpa using hO4, hKX, sB, sE, Asc.cross hAX pB pE, by simp only [List.length_append, List.length_nil]; omega⟩ _ _ _ rfl (by omega) (by omega)) ?_
    rintro e H5 ⟨rfl, ⟨M, pM, sM, OM⟩, oM⟩
    rw [List.append_nil] at OM
    unfold L59_2
    simp -implicitDefEqProofs (maxSteps := 1000000) (disch := first | omega | assumption) only [endK, h0, h1, h2, h6, h7, h8, g4, Sx, reduceIte, Nat.reduceEqDiff, reduceCtorEq, Nat.reduceAdd, Nat.reduceSub, Nat.reduceLT]
    refine ⟨n - 2 * bs, by omega, 2 * bs, P ++ M, rfl, by omega, by omega, ?_, by trivial, by trivial, by trivial, by trivial, OM, ho4.trans oM fun q hq => .inl hq⟩
    rw [hD]
    exact hF.blk (.last (by rw [pM.length_eq, List.length_append]; omega) (pM.trans (pB.append pE)) sM)
  · have f2 : decide (((P.length + bs : Nat) : Int) < (n : Int)) = false := decide_eq_false (by omega)
    obtain ⟨pX, sX⟩ := hBX.small (by omega) (by omega)
    simp -implicitDefEqProofs (maxSteps := 1000000) (disch := first | omega | assumption) only [h0, h1, h2, h6, h7, h8, f1, f2, g1, Sx, reduceIte, Nat.reduceEqDiff, reduceCtorEq, Nat.reduceAdd, Nat.reduceSub, Nat.reduceLT]
    unfold L59_2
    simp -implicitDefEqProofs (maxSteps := 1000000) (disch := first | omega | assumption) only [h0, h1, h2, h6, h7, h8, g4, Sx, reduceIte, Nat.reduceEqDiff, reduceCtorEq, Nat.reduceAdd, Nat.reduceSub, Nat.reduceLT]
    refine ⟨n - 2 * bs, by omega, 2 * bs, P ++ X, rfl, by omega, by omega, ?_, by trivial, by trivial, by trivial, by trivial, hO4, ho4⟩
    rw [hD]
    exact hF.blk (.last (by omega) pX sX)

theorem sortStable_spec {H : Heap} {r c : Nat} {key : Nat → Int} {rk : Nat → Nat} {D0 : List Nat} (hO : Cs H (.slice (some ⟨r, 0, none⟩) D0.length c) D0) (hK : ∀ b ∈ D0, KeyB H key b) (hA : Asc rk D0) (hsm : D0.length ≤ 1000000) :
    ACalls Try.prog 54 [Value.slice (some ⟨r, 0, none⟩) D0.length c, cmpF].toArray H fun e H' => e = .returned (.tuple #[]) ∧ Sorted2 key rk H (.slice (some ⟨r, 0, none⟩) D0.length c) D0 H' := by
  refine call54 (Nat.le_of_ble_eq_true rfl) ?_
  unfold L54 env0
  simp -implicitDefEqProofs (maxSteps := 1000000) (disch := first | omega | assumption) only [Sx, reduceIte, Nat.reduceEqDiff, reduceCtorEq, Nat.reduceAdd, Nat.reduceSub, Nat.reduceLT]
  refine a_call (stable_spec (key := key) (rk := rk) hO hK hA hsm rfl) ?_
  rintro e H' ⟨rfl, hM⟩
  simp -implicitDefEqProofs (maxSteps := 1000000) (disch := first | omega | assumption) only [endK, Sx, reduceIte, Nat.reduceEqDiff, reduceCtorEq, Nat.reduceAdd, Nat.reduceSub, Nat.reduceLT]
  exact ⟨by trivial, hM⟩
end Go.Proofs.Ytfdcolicpfellaa.S05
