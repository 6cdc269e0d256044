/-
  A reader of a stream in pieces, the program's.
-/
import Derived.Test.YtphojebganlbnaaDoorBoB
set_option linter.unusedVariables false
set_option linter.unusedSimpArgs false
namespace Go.Proofs.YtphojebganlbnaaDoor.S06
open Go Go.RowKit Go.Proofs.YtphojebganlbnaaDoor.Sep Go.Proofs.YtphojebganlbnaaDoor.Low Go.Proofs.YtphojebganlbnaaDoor.S05 Go.Proofs.YtphojebganlbnaaDoor.CodeLaw Go.Proofs.YtphojebganlbnaaDoor.Pack Go.Proofs.YtphojebganlbnaaDoor.BitLaw
open Go.Proofs.YtphojebganlbnaaDoor.Lib hiding by8 by8_scalar

/-- what a reader's stage says -/
def StIs (R : Res Unit) (x y : List Int) (size : Nat) (done : Bool) (why : Int) : Prop := match R with
  | .ok _ t _ => why = 0 ∧ done = true ∧ size = (t + 7) / 8 ∧ y = x
  | .bad e _ => (e = 4 ∧ why = 0 ∧ done = false ∧ y = x) ∨ (e ≠ 4 ∧ e ≠ 0 ∧ why = e ∧ done = false)
def errOf (R : Res Unit) : Int := match R with
  | .ok _ _ _ => 0
  | .bad e _ => if e = 4 then 0 else e
/-- a reader that was fed -/
structure RSt (H : Heap) (r mo : Nat) (x : List Int) (v : Value) (y : List Int) (size : Nat) (done : Bool) (why : Int) : Prop where
  blk : H r = some (.cells #[.int .i64 (mo : Nat), .int .i64 ((infl x mo).out.length : Nat), .int .i64 (size : Nat), v, .bool done, .int .i64 why] 63 (0, 0))
  lst : Bo H v y
  byt : isBy x
  le : mo ≤ 4194304
  st : StIs (infl x mo) x y size done why
  ol : (infl x mo).out.length ≤ mo
def RS (H : Heap) (r mo : Nat) (x : List Int) (v : Value) : Prop := ∃ y size done why, RSt H r mo x v y size done why
theorem RS.only {S : Nat → Prop} {H H' : Heap} {r mo : Nat} {x : List Int} {v : Value} (h : RS H r mo x v) (ho : Only S H H') (h1 : ¬ S r) (h2 : ∀ s, own v = some s → ¬ S s) : RS H' r mo x v := by
  obtain ⟨y, size, done, why, a, b, c, d, e, ol⟩ := h
  exact ⟨y, size, done, why, ho.oth _ _ a h1, b.only ho h2, c, d, e, ol⟩
theorem RS.keep {H H' : Heap} {r mo : Nat} {x : List Int} {v : Value} (h : RS H r mo x v) (hk : Keep H H') : RS H' r mo x v := by
  obtain ⟨y, size, done, why, a, b, c, d, e, ol⟩ := h
  exact ⟨y, size, done, why, hk _ _ a, b.keep hk, c, d, e, ol⟩
theorem RS.ne {H : Heap} {r mo : Nat} {x : List Int} {v : Value} (h : RS H r mo x v) : own v ≠ some r := by
  obtain ⟨y, size, done, why, a, b, c, d, e, ol⟩ := h
  exact b.elem a (by decide)
theorem RS.known {H : Heap} {r mo : Nat} {x : List Int} {v : Value} (h : RS H r mo x v) : H r ≠ none ∧ ∀ s, own v = some s → H s ≠ none := by
  obtain ⟨y, size, done, why, a, b, c, d, e, ol⟩ := h
  exact ⟨by rw [a]; simp, fun s hs => b.known hs⟩
theorem RS.ol {H : Heap} {r mo : Nat} {x : List Int} {v : Value} (h : RS H r mo x v) : (infl x mo).out.length ≤ mo := by
  obtain ⟨y, size, done, why, a, b, c, d, e, ol⟩ := h
  exact ol
theorem infl_nil (mo : Nat) : infl [] mo = .bad 4 [] := by
  obtain ⟨f, hf⟩ := fu_succ
  unfold infl
  rw [hf, blocks, bind_bad (m := tk 1) (e := 4) (o' := []) rfl]
set_option maxHeartbeats 1000000 in
theorem fits_spec {H : Heap} {most : Int} : ACalls Tryd.prog 23 [Value.int .i64 most].toArray H fun e H' => e = .returned (.bool (decide (0 ≤ most) && decide (most ≤ 4194304))) ∧ H' = H := by
  refine call23 (Nat.le_of_ble_eq_true rfl) ?_
  unfold L23 env0
  by_cases h1 : 0 ≤ most
  · have f1 : decide (0 ≤ most) = true := decide_eq_true h1
    simp -implicitDefEqProofs (maxSteps := 1000000) (disch := first | omega | assumption) only [f1, Sx, reduceIte, Nat.reduceEqDiff, reduceCtorEq, Nat.reduceAdd, Nat.reduceSub, Nat.reduceLT, Zx, endK]
    exact ⟨by rw [Bool.true_and], by (first | exact True.intro | rfl | assumption)⟩
  · have f1 : decide (0 ≤ most) = false := decide_eq_false h1
    simp -implicitDefEqProofs (maxSteps := 1000000) (disch := first | omega | assumption) only [f1, Sx, reduceIte, Nat.reduceEqDiff, reduceCtorEq, Nat.reduceAdd, Nat.reduceSub, Nat.reduceLT, Zx, endK]
    exact ⟨by rw [Bool.false_and], by (first | exact True.intro | rfl | assumption)⟩
set_option maxHeartbeats 1000000 in
theorem newReader_bad {H : Heap} {most : Int} (h : most < 0 ∨ 4194304 < most) : ACalls Tryd.prog 19 [Value.int .i64 most].toArray H fun e H' => e = .returned (.tuple #[.pointer none, .int .i64 1]) ∧ H' = H := by
  refine call19 (Nat.le_of_ble_eq_true rfl) ?_
  unfold L19 env0
  have f1 : (decide (0 ≤ most) && decide (most ≤ 4194304)) = false := by
    by_cases h1 : 0 ≤ most
    · rw [decide_eq_false (by omega : ¬ most ≤ 4194304), Bool.and_false]
    · rw [decide_eq_false h1, Bool.false_and]
  simp -implicitDefEqProofs (maxSteps := 1000000) (disch := first | omega | assumption) only [Sx, reduceIte, Nat.reduceEqDiff, reduceCtorEq, Nat.reduceAdd, Nat.reduceSub, Nat.reduceLT, Zx, endK]
  refine a_call fits_spec ?_
  rintro e H1 ⟨rfl, rfl⟩
  rw [f1]
  simp -implicitDefEqProofs (maxSteps := 1000000) (disch := first | omega | assumption) only [Sx, reduceIte, Nat.reduceEqDiff, reduceCtorEq, Nat.reduceAdd, Nat.reduceSub, Nat.reduceLT, Zx, endK]
  exact ⟨by (first | exact True.intro | rfl | assumption), by (first | exact True.intro | rfl | assumption)⟩
set_option maxHeartbeats 1000000 in
theorem inewReader_spec {H : Heap} {mo : Nat} (h : mo ≤ 4194304) : ACalls Tryd.prog 19 [Value.int .i64 (mo : Nat)].toArray H fun e H' => ∃ r, e = .returned (.tuple #[.pointer (some ⟨r, 0, none⟩), .int .i64 0]) ∧ RS H' r mo [] (.slice none 0 0) ∧ Keep H H' ∧ H r = none := by
  refine call19 (Nat.le_of_ble_eq_true rfl) ?_
  unfold L19 env0
  have f1 : (decide (0 ≤ (mo : Int)) && decide ((mo : Int) ≤ 4194304)) = true := by
    rw [decide_eq_true (by omega), decide_eq_true (by omega)]; rfl
  simp -implicitDefEqProofs (maxSteps := 1000000) (disch := first | omega | assumption) only [Sx, reduceIte, Nat.reduceEqDiff, reduceCtorEq, Nat.reduceAdd, Nat.reduceSub, Nat.reduceLT, Zx, endK]
  refine a_call fits_spec ?_
  rintro e H1 ⟨rfl, rfl⟩
  rw [f1]
  simp -implicitDefEqProofs (maxSteps := 1000000) (disch := first | omega | assumption) only [Sx, reduceIte, Nat.reduceEqDiff, reduceCtorEq, Nat.reduceAdd, Nat.reduceSub, Nat.reduceLT, Zx, endK]
  refine a_box fun r hr => ?_
  try simp -implicitDefEqProofs (maxSteps := 1000000) (disch := first | omega | assumption) only [Value.cells, Sx, reduceIte, Nat.reduceEqDiff, reduceCtorEq, Nat.reduceAdd, Nat.reduceSub, Nat.reduceLT, Zx, endK]
  refine ⟨r, by (first | exact True.intro | rfl | assumption), ⟨[], 0, false, 0, ?_, .nil, (fun x hx => by cases hx), h, ?_, by rw [infl_nil]; exact Nat.zero_le _⟩, (Keep.refl _).set_new hr, hr⟩
  · rw [set_same, infl_nil]; rfl
  · rw [infl_nil]; exact .inl ⟨rfl, rfl, rfl, rfl⟩
set_option maxHeartbeats 1000000 in
theorem done_spec {H : Heap} {r mo : Nat} {x : List Int} {v : Value} (h : RS H r mo x v) : ACalls Tryd.prog 20 [Value.pointer (some ⟨r, 0, none⟩)].toArray H fun e H' => e = .returned (.bool (match infl x mo with | .ok _ _ _ => true | .bad _ _ => false)) ∧ H' = H := by
  obtain ⟨y, size, done, why, a, b, c, d, e, ol⟩ := h
  refine call20 (Nat.le_of_ble_eq_true rfl) ?_
  unfold L20 env0
  simp -implicitDefEqProofs (maxSteps := 1000000) (disch := first | omega | assumption) only [cell_of a, ev_nilc, Sx, reduceIte, Nat.reduceEqDiff, reduceCtorEq, Nat.reduceAdd, Nat.reduceSub, Nat.reduceLT, Zx, endK]
  unfold StIs at e
  cases hR : infl x mo with
  | ok u t o => rw [hR] at e; exact ⟨by rw [e.2.1], by (first | exact True.intro | rfl | assumption)⟩
  | bad er o =>
    rw [hR] at e
    rcases e with e | e
    · exact ⟨by rw [e.2.2.1], by (first | exact True.intro | rfl | assumption)⟩
    · exact ⟨by rw [e.2.2.2], by (first | exact True.intro | rfl | assumption)⟩
set_option maxHeartbeats 1000000 in
theorem isize_spec {H : Heap} {r mo : Nat} {x : List Int} {v : Value} (h : RS H r mo x v) : ACalls Tryd.prog 22 [Value.pointer (some ⟨r, 0, none⟩)].toArray H fun e H' => (∃ z : Int, e = .returned (.int .i64 z) ∧ match infl x mo with | .ok _ t _ => z = (((t + 7) / 8 : Nat) : Int) | .bad e _ => e = 4 → z = (x.length : Nat)) ∧ H' = H := by
  obtain ⟨y, size, done, why, a, b, c, d, e, ol⟩ := h
  refine call22 (Nat.le_of_ble_eq_true rfl) ?_
  unfold L22 env0
  unfold StIs at e
  obtain ⟨yA, yc, rfl, -, -⟩ := Bo.row b
  cases hR : infl x mo with
  | ok u t o =>
    rw [hR] at e
    obtain ⟨rfl, rfl, rfl, rfl⟩ := e
    simp -implicitDefEqProofs (maxSteps := 1000000) (disch := first | omega | assumption) only [cell_of a, ev_nilc, Sx, reduceIte, Nat.reduceEqDiff, reduceCtorEq, Nat.reduceAdd, Nat.reduceSub, Nat.reduceLT, Zx, endK]
    exact ⟨⟨_, by (first | exact True.intro | rfl | assumption), rfl⟩, by (first | exact True.intro | rfl | assumption)⟩
  | bad er o =>
    rw [hR] at e
    rcases e with ⟨rfl, rfl, rfl, rfl⟩ | ⟨h4, h0, rfl, rfl⟩
    · simp -implicitDefEqProofs (maxSteps := 1000000) (disch := first | omega | assumption) only [cell_of a, ev_nilc, Sx, reduceIte, Nat.reduceEqDiff, reduceCtorEq, Nat.reduceAdd, Nat.reduceSub, Nat.reduceLT, Zx, endK]
      exact ⟨⟨_, by (first | exact True.intro | rfl | assumption), fun _ => rfl⟩, by (first | exact True.intro | rfl | assumption)⟩
    · simp -implicitDefEqProofs (maxSteps := 1000000) (disch := first | omega | assumption) only [cell_of a, ev_nilc, Sx, reduceIte, Nat.reduceEqDiff, reduceCtorEq, Nat.reduceAdd, Nat.reduceSub, Nat.reduceLT, Zx, endK]
      exact ⟨⟨_, by (first | exact True.intro | rfl | assumption), fun h => absurd h h4⟩, by (first | exact True.intro | rfl | assumption)⟩
/-- what stands behind a stream -/
def restV (x : List Int) (R : Res Unit) : List Int := match R with
  | .ok _ t _ => x.drop ((t + 7) / 8)
  | .bad _ _ => []
set_option maxHeartbeats 1000000 in
theorem rest_spec {H : Heap} {r mo : Nat} {x : List Int} {v : Value} (h : RS H r mo x v) (hx : x.length ≤ 211106232532992) : ACalls Tryd.prog 21 [Value.pointer (some ⟨r, 0, none⟩)].toArray H fun e H' => ∃ w, e = .returned w ∧ Bo H' w (restV x (infl x mo)) ∧ Keep H H' ∧ Fresh H w := by
  obtain ⟨y, size, done, why, a, b, c, d, e, ol⟩ := h
  refine call21 (Nat.le_of_ble_eq_true rfl) ?_
  unfold L21 env0
  unfold StIs at e
  obtain ⟨yA, yc, rfl, hyc, hrow⟩ := Bo.row b
  cases hR : infl x mo with
  | ok u t o =>
    rw [hR] at e
    obtain ⟨rfl, rfl, rfl, rfl⟩ := e
    obtain ⟨i1, i2, -, -, -⟩ := infl_ok hR
    obtain ⟨n, hn⟩ : ∃ n, n = (t + 7) / 8 := ⟨_, rfl⟩
    have ha : H r = some (.cells #[.int .i64 (mo : Nat), .int .i64 ((infl y mo).out.length : Nat), .int .i64 (n : Nat), .slice yA y.length yc, .bool true, .int .i64 0] 63 (0, 0)) := by rw [hn]; exact a
    rw [← hn] at i1 i2
    have hin : (0 : Int) ≤ (n : Int) ∧ (n : Int) ≤ (y.length : Nat) := by omega
    simp -implicitDefEqProofs (maxSteps := 1000000) (disch := first | omega | assumption) only [cell_of ha, ev_nilc, ev_slc_lo, Sx, reduceIte, Nat.reduceEqDiff, reduceCtorEq, Nat.reduceAdd, Nat.reduceSub, Nat.reduceLT, Zx, endK]
    refine a_call (clone_spec (row_drop (k := n) hrow hyc) (by simp) (by8_scalar _) (by omega)) ?_
    rintro e H1 ⟨w, rfl, hO, hk, hf⟩
    have hsw := hO.scalar
    simp -implicitDefEqProofs (maxSteps := 1000000) (disch := first | omega | assumption) only [Sx, reduceIte, Nat.reduceEqDiff, reduceCtorEq, Nat.reduceAdd, Nat.reduceSub, Nat.reduceLT, Zx, endK]
    exact ⟨w, by (first | exact True.intro | rfl | assumption), by show Bo H1 w (y.drop ((t + 7) / 8)); rw [← hn]; exact hO, hk, hf⟩
  | bad er o =>
    rw [hR] at e
    have hd : done = false := by rcases e with e | e; exact e.2.2.1; exact e.2.2.2
    subst hd
    simp -implicitDefEqProofs (maxSteps := 1000000) (disch := first | omega | assumption) only [cell_of a, ev_nilc, Sx, reduceIte, Nat.reduceEqDiff, reduceCtorEq, Nat.reduceAdd, Nat.reduceSub, Nat.reduceLT, Zx, endK]
    exact ⟨_, by (first | exact True.intro | rfl | assumption), .nil, Keep.refl _, fun q hq => by cases hq⟩
end Go.Proofs.YtphojebganlbnaaDoor.S06
