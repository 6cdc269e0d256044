/-
  The document's Decode; what the statements hand over and write over.
-/
import Derived.Test.YtgbhdpeibiglfaaDoorRDoc
import Derived.Test.YtgbhdpeibiglfaaDoorBoB
set_option linter.unusedVariables false
set_option linter.unusedSimpArgs false
namespace Go.Proofs.YtgbhdpeibiglfaaDoor.S06
open Go Go.RowKit Go.Proofs.YtgbhdpeibiglfaaDoor.Sep Go.Proofs.YtgbhdpeibiglfaaDoor.Low Go.Proofs.YtgbhdpeibiglfaaDoor.S05 Go.Proofs.YtgbhdpeibiglfaaDoor.CodeLaw Go.Proofs.YtgbhdpeibiglfaaDoor.Pack Go.Proofs.YtgbhdpeibiglfaaDoor.BitLaw
open Go.Proofs.YtgbhdpeibiglfaaDoor.Lib hiding by8 by8_scalar

set_option maxHeartbeats 2000000 in
theorem ddecode_spec {H : Heap} {A : Option Addr} {c n : Nat} {bs : List Int} {most : Int} (hr : Row H A (by8 bs)) (hn : n = bs.length) (hb : isBy bs) (hbl : bs.length ≤ 137438953472) :
    ACalls Tryd.prog 18 [Value.slice A n c, .int .i64 most].toArray H fun e H' => ∃ v, e = .returned (.tuple #[v, .int .i64 ((decV bs most).2.1 : Nat), .int .i64 (decV bs most).2.2]) ∧ Own H' 5 1 v (by8 (decV bs most).1) ∧ Keep H H' ∧ Fresh H v ∧ isBy (decV bs most).1 ∧ (decV bs most).1.length ≤ 4194304 := by
  subst hn
  refine call18 (Nat.le_of_ble_eq_true rfl) ?_
  unfold L18 env0
  by_cases hbad : most < 0 ∨ 4194304 < most
  · have hD := decV_out (bs := bs) hbad
    rw [hD]
    by_cases h1 : most < 0
    · have f1 : decide (most < 0) = true := decide_eq_true h1
      simp -implicitDefEqProofs (maxSteps := 1000000) (disch := first | omega | assumption) only [f1, Sx, reduceIte, Nat.reduceEqDiff, reduceCtorEq, Nat.reduceAdd, Nat.reduceSub, Nat.reduceLT, Zx, endK]
      exact ⟨_, by (first | exact True.intro | rfl | assumption), .nil, Keep.refl _, (fun q hq => by cases hq), (fun x hx => by cases hx), Nat.zero_le _⟩
    · have f1 : decide (most < 0) = false := decide_eq_false h1
      have f2 : decide (4194304 < most) = true := decide_eq_true (by omega)
      simp -implicitDefEqProofs (maxSteps := 1000000) (disch := first | omega | assumption) only [f1, f2, Sx, reduceIte, Nat.reduceEqDiff, reduceCtorEq, Nat.reduceAdd, Nat.reduceSub, Nat.reduceLT, Zx, endK]
      exact ⟨_, by (first | exact True.intro | rfl | assumption), .nil, Keep.refl _, (fun q hq => by cases hq), (fun x hx => by cases hx), Nat.zero_le _⟩
  have f1 : decide (most < 0) = false := decide_eq_false (by omega)
  have f2 : decide (4194304 < most) = false := decide_eq_false (by omega)
  obtain ⟨mo, hmod⟩ : ∃ mo, mo = most.toNat := ⟨_, rfl⟩
  have hmt : most = (mo : Nat) := by omega
  have hmo : mo ≤ 4194304 := by omega
  clear hmod
  subst hmt
  simp -implicitDefEqProofs (maxSteps := 1000000) (disch := first | omega | assumption) only [f1, f2, Sx, reduceIte, Nat.reduceEqDiff, reduceCtorEq, Nat.reduceAdd, Nat.reduceSub, Nat.reduceLT, Zx, endK]
  refine a_call (dread_spec hr rfl hb hbl hmo) ?_
  rintro e H1 ⟨v, t, er, rfl, hO, k1, hf, hlm, hbm, hR⟩
  have hsv := hO.scalar
  simp -implicitDefEqProofs (maxSteps := 1000000) (disch := first | omega | assumption) only [Sx, reduceIte, Nat.reduceEqDiff, reduceCtorEq, Nat.reduceAdd, Nat.reduceSub, Nat.reduceLT, Zx, endK]
  refine a_new fun r7 hr7 => ?_
  obtain ⟨H2, hH2⟩ : ∃ H2, H2 = H1.set r7 (.cells #[v, .int .i64 (t : Nat), .int .i64 er] 54 (0, 0)) := ⟨_, rfl⟩
  have k2 : Keep H1 H2 := by rw [hH2]; exact (Keep.refl _).set_new hr7
  have b7 : H2 r7 = some (.cells #[v, .int .i64 (t : Nat), .int .i64 er] 54 (0, 0)) := by rw [hH2]; exact set_same
  try simp -implicitDefEqProofs (maxSteps := 1000000) (disch := first | omega | assumption) only [Sx, reduceIte, Nat.reduceEqDiff, reduceCtorEq, Nat.reduceAdd, Nat.reduceSub, Nat.reduceLT, Zx, endK]
  refine st_all (old := [.slice none 0 0, .int .i64 0, .int .i64 0]) (ci := [v, .int .i64 (t : Nat), .int .i64 er]) set_same rfl rfl (by intro x hx; simp only [List.mem_cons, List.not_mem_nil, or_false] at hx; rcases hx with rfl | rfl | rfl; exact hsv; rfl; rfl) ?_
  rw [set_set, ← hH2]
  clear hH2
  cases hI : infl bs mo with
  | ok u t' o =>
    rw [hI] at hR hO hlm hbm
    obtain ⟨rfl, rfl⟩ := hR
    have hD := decV_ok (bs := bs) (most := (mo : Nat)) (by omega) (by rw [Int.toNat_natCast]; exact hI)
    rw [hD]
    have n00 : ((0 : Int) != 0) = false := rfl
    obtain ⟨i1, i2, -, -, -⟩ := infl_ok hI
    have e7 : IntKind.i64.wrap ((t : Int) + 7) = ((t + 7 : Nat) : Int) := w_i64 (by omega)
    have e8 : IntKind.i64.wrap (((t + 7 : Nat) : Int) / 8) = (((t + 7) / 8 : Nat) : Int) := by rw [w_i64 (by omega)]; omega
    try simp -implicitDefEqProofs (maxSteps := 1000000) (disch := first | omega | assumption) only [cell_of b7, n00, e7, e8, Sx, reduceIte, Nat.reduceEqDiff, reduceCtorEq, Nat.reduceAdd, Nat.reduceSub, Nat.reduceLT, Zx, endK]
    exact ⟨v, by (first | exact True.intro | rfl | assumption), hO.keep k2, k1.trans k2, hf, hbm, Nat.le_trans hlm hmo⟩
  | bad er' o =>
    rw [hI] at hR hO
    obtain ⟨rfl, hne⟩ := hR
    have hD := decV_bad (bs := bs) (most := (mo : Nat)) (by omega) (by rw [Int.toNat_natCast]; exact hI)
    rw [hD]
    have n00 : (er != 0) = true := bne_iff_ne.2 hne
    try simp -implicitDefEqProofs (maxSteps := 1000000) (disch := first | omega | assumption) only [cell_of b7, n00, Sx, reduceIte, Nat.reduceEqDiff, reduceCtorEq, Nat.reduceAdd, Nat.reduceSub, Nat.reduceLT, Zx, endK]
    exact ⟨_, by (first | exact True.intro | rfl | assumption), .nil, k1.trans k2, (fun q hq => by cases hq), (fun x hx => by cases hx), Nat.zero_le _⟩
abbrev mk5 : List Int := [1, 2, 3, 4, 5]
theorem own_shape {H : Heap} {T : TypeId} {v : Value} {cs : List Value} (h : Own H T 1 v cs) (hl : 0 < cs.length) : ∃ r c, v = .slice (some ⟨r, 0, none⟩) cs.length c := by
  cases h with
  | nil => cases hl
  | «at» hb hf hl' hr hc => exact ⟨_, _, by rw [hl', Nat.mul_one]⟩
theorem Bo.shape {H : Heap} {v : Value} {l : List Int} (h : Bo H v l) (hl : 0 < l.length) : ∃ r c, v = .slice (some ⟨r, 0, none⟩) l.length c := by
  obtain ⟨r, c, e⟩ := own_shape h (by rw [List.length_map]; exact hl)
  exact ⟨r, c, by rw [e, List.length_map]⟩
end Go.Proofs.YtgbhdpeibiglfaaDoor.S06
