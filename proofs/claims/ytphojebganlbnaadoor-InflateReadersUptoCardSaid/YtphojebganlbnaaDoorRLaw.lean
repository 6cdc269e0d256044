/-
  The document's Decode; what the statements hand over and write over.
-/
import Derived.Test.YtphojebganlbnaaDoorRDoc
import Derived.Test.YtphojebganlbnaaDoorBoB
set_option linter.unusedVariables false
set_option linter.unusedSimpArgs false
namespace Go.Proofs.YtphojebganlbnaaDoor.S06
open Go Go.RowKit Go.Proofs.YtphojebganlbnaaDoor.Sep Go.Proofs.YtphojebganlbnaaDoor.Low Go.Proofs.YtphojebganlbnaaDoor.S05 Go.Proofs.YtphojebganlbnaaDoor.CodeLaw Go.Proofs.YtphojebganlbnaaDoor.Pack Go.Proofs.YtphojebganlbnaaDoor.BitLaw
open Go.Proofs.YtphojebganlbnaaDoor.Lib hiding by8 by8_scalar

set_option maxHeartbeats 2000000 in
theorem ddecode_spec {H : Heap} {A : Option Addr} {c n : Nat} {bs : List Int} {most : Int} (hr : Row H A (by8 bs)) (hn : n = bs.length) (hb : isBy bs) (hbl : bs.length ≤ 137438953472) :
    ACalls Tryd.prog 11 [Value.slice A n c, .int .i64 most].toArray H fun e H' => ∃ v, e = .returned (.tuple #[v, .int .i64 ((decV bs most).2.1 : Nat), .int .i64 (decV bs most).2.2]) ∧ Own H' 5 1 v (by8 (decV bs most).1) ∧ Keep H H' ∧ Fresh H v := by
  subst hn
  refine call11 (Nat.le_of_ble_eq_true rfl) ?_
  unfold L11 env0
  by_cases hbad : most < 0 ∨ 4194304 < most
  · have hD := decV_out (bs := bs) hbad
    rw [hD]
    by_cases h1 : most < 0
    · have f1 : decide (most < 0) = true := decide_eq_true h1
      simp -implicitDefEqProofs (maxSteps := 1000000) (disch := first | omega | assumption) only [f1, Sx, reduceIte, Nat.reduceEqDiff, reduceCtorEq, Nat.reduceAdd, Nat.reduceSub, Nat.reduceLT, Zx, endK]
      exact ⟨_, by (first | exact True.intro | rfl | assumption), .nil, Keep.refl _, fun q hq => by cases hq⟩
    · have f1 : decide (most < 0) = false := decide_eq_false h1
      have f2 : decide (4194304 < most) = true := decide_eq_true (by omega)
      simp -implicitDefEqProofs (maxSteps := 1000000) (disch := first | omega | assumption) only [f1, f2, Sx, reduceIte, Nat.reduceEqDiff, reduceCtorEq, Nat.reduceAdd, Nat.reduceSub, Nat.reduceLT, Zx, endK]
      exact ⟨_, by (first | exact True.intro | rfl | assumption), .nil, Keep.refl _, fun q hq => by cases hq⟩
  have f1 : decide (most < 0) = false := decide_eq_false (by omega)
  have f2 : decide (4194304 < most) = false := decide_eq_false (by omega)
  obtain ⟨mo, hmod⟩ : ∃ mo, mo = most.toNat := ⟨_, rfl⟩
  have hmt : most = (mo : Nat) := by omega
  have hmo : mo ≤ 4194304 := by omega
  clear hmod
  subst hmt
  simp -implicitDefEqProofs (maxSteps := 1000000) (disch := first | omega | assumption) only [f1, f2, Sx, reduceIte, Nat.reduceEqDiff, reduceCtorEq, Nat.reduceAdd, Nat.reduceSub, Nat.reduceLT, Zx, endK]
  refine a_call (dread_spec hr rfl hb hbl hmo) ?_
  rintro e H1 ⟨v, t, er, rfl, hO, k1, hf, -, -, hR⟩
  have hsv := hO.scalar
  simp -implicitDefEqProofs (maxSteps := 1000000) (disch := first | omega | assumption) only [Sx, reduceIte, Nat.reduceEqDiff, reduceCtorEq, Nat.reduceAdd, Nat.reduceSub, Nat.reduceLT, Zx, endK]
  refine a_new fun r7 hr7 => ?_
  obtain ⟨H2, hH2⟩ : ∃ H2, H2 = H1.set r7 (.cells #[v, .int .i64 (t : Nat), .int .i64 er] 56 (0, 0)) := ⟨_, rfl⟩
  have k2 : Keep H1 H2 := by rw [hH2]; exact (Keep.refl _).set_new hr7
  have b7 : H2 r7 = some (.cells #[v, .int .i64 (t : Nat), .int .i64 er] 56 (0, 0)) := by rw [hH2]; exact set_same
  try simp -implicitDefEqProofs (maxSteps := 1000000) (disch := first | omega | assumption) only [Sx, reduceIte, Nat.reduceEqDiff, reduceCtorEq, Nat.reduceAdd, Nat.reduceSub, Nat.reduceLT, Zx, endK]
  refine st_all (old := [.slice none 0 0, .int .i64 0, .int .i64 0]) (ci := [v, .int .i64 (t : Nat), .int .i64 er]) set_same rfl rfl (by intro x hx; simp only [List.mem_cons, List.not_mem_nil, or_false] at hx; rcases hx with rfl | rfl | rfl; exact hsv; rfl; rfl) ?_
  rw [set_set, ← hH2]
  clear hH2
  cases hI : infl bs mo with
  | ok u t' o =>
    rw [hI] at hR hO
    obtain ⟨rfl, rfl⟩ := hR
    have hD := decV_ok (bs := bs) (most := (mo : Nat)) (by omega) (by rw [Int.toNat_natCast]; exact hI)
    rw [hD]
    have n00 : ((0 : Int) != 0) = false := rfl
    obtain ⟨i1, i2, -, -, -⟩ := infl_ok hI
    have e7 : IntKind.i64.wrap ((t : Int) + 7) = ((t + 7 : Nat) : Int) := w_i64 (by omega)
    have e8 : IntKind.i64.wrap (((t + 7 : Nat) : Int) / 8) = (((t + 7) / 8 : Nat) : Int) := by rw [w_i64 (by omega)]; omega
    try simp -implicitDefEqProofs (maxSteps := 1000000) (disch := first | omega | assumption) only [cell_of b7, n00, e7, e8, Sx, reduceIte, Nat.reduceEqDiff, reduceCtorEq, Nat.reduceAdd, Nat.reduceSub, Nat.reduceLT, Zx, endK]
    exact ⟨v, by (first | exact True.intro | rfl | assumption), hO.keep k2, k1.trans k2, hf⟩
  | bad er' o =>
    rw [hI] at hR hO
    obtain ⟨rfl, hne⟩ := hR
    have hD := decV_bad (bs := bs) (most := (mo : Nat)) (by omega) (by rw [Int.toNat_natCast]; exact hI)
    rw [hD]
    have n00 : (er != 0) = true := bne_iff_ne.2 hne
    try simp -implicitDefEqProofs (maxSteps := 1000000) (disch := first | omega | assumption) only [cell_of b7, n00, Sx, reduceIte, Nat.reduceEqDiff, reduceCtorEq, Nat.reduceAdd, Nat.reduceSub, Nat.reduceLT, Zx, endK]
    exact ⟨_, by (first | exact True.intro | rfl | assumption), .nil, k1.trans k2, fun q hq => by cases hq⟩
abbrev mk5 : List Int := [1, 2, 3, 4, 5]
set_option maxHeartbeats 1000000 in
theorem hand_spec {H : Heap} {A : Option Addr} {n c : Nat} {b : List Int} (hr : Row H A (by8 b)) (hn : n = b.length) (hl : b.length ≤ 137438953472) :
    ACalls Tryd.prog 9 [Value.slice A n c].toArray H fun e H' => ∃ v, e = .returned v ∧ Bo H' v (b ++ mk5) ∧ Keep H H' ∧ Fresh H v := by
  subst hn
  refine call9 (Nat.le_of_ble_eq_true rfl) ?_
  unfold L9 env0
  simp -implicitDefEqProofs (maxSteps := 1000000) (disch := first | omega | assumption) only [Sx, reduceIte, Nat.reduceEqDiff, reduceCtorEq, Nat.reduceAdd, Nat.reduceSub, Nat.reduceLT, Zx, endK]
  refine a_lits (sz := 1) (cells := #[]) rfl rfl ?_
  intro r2 H2 hO2 k2 hr2
  try simp -implicitDefEqProofs (maxSteps := 1000000) (disch := first | omega | assumption) only [Sx, reduceIte, Nat.reduceEqDiff, reduceCtorEq, Nat.reduceAdd, Nat.reduceSub, Nat.reduceLT, Zx, endK]
  refine app_b (l := []) (x := b) hO2 rfl rfl (k2.row hr) (by simp; omega) ?_
  intro v3 H3 hO3 ho3 hm3
  obtain ⟨k3, f3⟩ := grown2 k2 (v := .slice (some ⟨r2, 0, none⟩) 0 0) (by rintro q ⟨⟩; exact hr2) ho3 hm3
  rw [List.nil_append] at hO3
  have hs3 := hO3.scalar
  try simp -implicitDefEqProofs (maxSteps := 1000000) (disch := first | omega | assumption) only [Sx, reduceIte, Nat.reduceEqDiff, reduceCtorEq, Nat.reduceAdd, Nat.reduceSub, Nat.reduceLT, Zx, endK]
  refine a_lits (sz := 1) (cells := #[.int .u8 1, .int .u8 2, .int .u8 3, .int .u8 4, .int .u8 5]) rfl rfl ?_
  intro r4 H4 hO4 k4 hr4
  have hO4b : Bo H4 (.slice (some ⟨r4, 0, none⟩) 5 5) mk5 := hO4
  obtain ⟨A4, c4, e4, -, w4⟩ := Bo.row hO4b
  cases e4
  try simp -implicitDefEqProofs (maxSteps := 1000000) (disch := first | omega | assumption) only [Sx, reduceIte, Nat.reduceEqDiff, reduceCtorEq, Nat.reduceAdd, Nat.reduceSub, Nat.reduceLT, Zx, endK]
  refine app_b (hO3.keep k4) rfl rfl w4 (by show b.length + 5 ≤ _; omega) ?_
  intro v5 H5 hO5 ho5 hm5
  obtain ⟨k5, f5⟩ := grown2 (k3.trans k4) f3 ho5 hm5
  have hs5 := hO5.scalar
  try simp -implicitDefEqProofs (maxSteps := 1000000) (disch := first | omega | assumption) only [Sx, reduceIte, Nat.reduceEqDiff, reduceCtorEq, Nat.reduceAdd, Nat.reduceSub, Nat.reduceLT, Zx, endK]
  exact ⟨v5, by (first | exact True.intro | rfl | assumption), hO5, k5, f5⟩
theorem own_shape {H : Heap} {T : TypeId} {v : Value} {cs : List Value} (h : Own H T 1 v cs) (hl : 0 < cs.length) : ∃ r c, v = .slice (some ⟨r, 0, none⟩) cs.length c := by
  cases h with
  | nil => cases hl
  | «at» hb hf hl' hr hc => exact ⟨_, _, by rw [hl', Nat.mul_one]⟩
theorem Bo.shape {H : Heap} {v : Value} {l : List Int} (h : Bo H v l) (hl : 0 < l.length) : ∃ r c, v = .slice (some ⟨r, 0, none⟩) l.length c := by
  obtain ⟨r, c, e⟩ := own_shape h (by rw [List.length_map]; exact hl)
  exact ⟨r, c, by rw [e, List.length_map]⟩
set_option maxHeartbeats 2000000 in
theorem left_spec {H : Heap} {v : Value} {b : List Int} {B : Option Addr} {nb cb : Nat} (hO : Bo H v (b ++ mk5)) (hr : Row H B (by8 b)) (hn : nb = b.length) (hl : b.length ≤ 137438953472) :
    ACalls Tryd.prog 12 [v, Value.slice B nb cb].toArray H fun e H' => e = .returned (.bool true) ∧ Oth H v H' := by
  subst hn
  refine call12 (Nat.le_of_ble_eq_true rfl) ?_
  unfold L12 env0
  have hlen : (b ++ mk5).length = b.length + 5 := by rw [List.length_append]; rfl
  obtain ⟨r, c, rfl⟩ := hO.shape (by omega)
  obtain ⟨_, _, ee, hc, w⟩ := Bo.row hO
  cases ee
  have b1 := ev_b2s_by (c := c) w
  have b2 := ev_b2s_by (c := cb) hr
  have vc : binV .add (.string ⟨(txt b).toArray⟩) (.string ⟨#[1, 2, 3, 4, 5]⟩) = some (.string ⟨(txt (b ++ mk5)).toArray⟩) := by
    rw [txt_append]
    exact v_cat (b := txt mk5) (by simp [txt]; omega)
  have q : (txt (b ++ mk5) == txt (b ++ mk5)) = true := by simp
  simp -implicitDefEqProofs (maxSteps := 1000000) (disch := first | omega | assumption) only [b1, b2, vc, t_list, q, Sx, reduceIte, Nat.reduceEqDiff, reduceCtorEq, Nat.reduceAdd, Nat.reduceSub, Nat.reduceLT, Zx, endK]
  refine c_loop (fun k env H' => ∃ i x, k + i = b.length + 5 ∧ env 0 = .slice (some ⟨r, 0, none⟩) (b ++ mk5).length c ∧ env 5 = .bool true ∧ env 6 = .int .i64 (i : Nat) ∧ Bo H' (.slice (some ⟨r, 0, none⟩) (b ++ mk5).length c) x ∧ x.length = b.length + 5 ∧ Oth H (.slice (some ⟨r, 0, none⟩) (b ++ mk5).length c) H') (b.length + 5)
    ⟨0, b ++ mk5, by omega, by (first | exact True.intro | rfl | assumption), by (first | exact True.intro | rfl | assumption), by (first | exact True.intro | rfl | assumption), hO, hlen, Only.refl _ _⟩ ?_
  rintro k env H1 ⟨i, x, hk, g0, g5, g6, hO1, hx, ho1⟩
  unfold L12_0
  by_cases hi : i < b.length + 5
  · have f0 : decide ((i : Int) < ((b ++ mk5).length : Int)) = true := decide_eq_true (by omega)
    have hin : (0 : Int) ≤ (i : Int) ∧ (i : Int) < ((b ++ mk5).length : Nat) := by omega
    simp -implicitDefEqProofs (maxSteps := 1000000) (disch := first | omega | assumption) only [g0, g5, g6, f0, Sx, reduceIte, Nat.reduceEqDiff, reduceCtorEq, Nat.reduceAdd, Nat.reduceSub, Nat.reduceLT, Zx, endK]
    refine a_storeC hO1 (by rw [List.length_map]; omega) rfl ?_
    intro H2 hO2 ho2
    have hO2' : Bo H2 (.slice (some ⟨r, 0, none⟩) (b ++ mk5).length c) (x.set i 238) := by
      show Own H2 _ 1 _ (by8 _)
      rw [by8, List.map_set]
      exact hO2
    try simp -implicitDefEqProofs (maxSteps := 1000000) (disch := first | omega | assumption) only [g0, g5, g6, Sx, reduceIte, Nat.reduceEqDiff, reduceCtorEq, Nat.reduceAdd, Nat.reduceSub, Nat.reduceLT, Zx, endK]
    exact ⟨k - 1, by omega, i + 1, _, by omega, by (first | exact True.intro | rfl | assumption), by (first | exact True.intro | rfl | assumption), by simp, hO2', by rw [List.length_set]; exact hx, ho1.trans ho2 fun r hr => .inl hr⟩
  have f0 : decide ((i : Int) < ((b ++ mk5).length : Int)) = false := decide_eq_false (by omega)
  simp -implicitDefEqProofs (maxSteps := 1000000) (disch := first | omega | assumption) only [g0, g5, g6, f0, Sx, reduceIte, Nat.reduceEqDiff, reduceCtorEq, Nat.reduceAdd, Nat.reduceSub, Nat.reduceLT, Zx, endK]
  exact ⟨by (first | exact True.intro | rfl | assumption), ho1⟩
set_option maxHeartbeats 2000000 in
theorem wiped_spec {H : Heap} {v : Value} {x : List Int} {B : Option Addr} {nb cb : Nat} (hO : Bo H v x) (hr : Row H B (by8 x)) (hn : nb = x.length) (hl : x.length ≤ 137438953472) :
    ACalls Tryd.prog 13 [v, Value.slice B nb cb].toArray H fun e H' => e = .returned (.bool true) ∧ Oth H v H' := by
  subst hn
  refine call13 (Nat.le_of_ble_eq_true rfl) ?_
  unfold L13 env0
  obtain ⟨A, c, rfl, hc, w⟩ := Bo.row hO
  have b1 := ev_b2s_by (c := c) w
  have b2 := ev_b2s_by (c := cb) hr
  have q : (txt x == txt x) = true := by simp
  simp -implicitDefEqProofs (maxSteps := 1000000) (disch := first | omega | assumption) only [b1, b2, t_list, q, Sx, reduceIte, Nat.reduceEqDiff, reduceCtorEq, Nat.reduceAdd, Nat.reduceSub, Nat.reduceLT, Zx, endK]
  refine c_loop (fun k env H' => ∃ i y, k + i = x.length ∧ env 0 = .slice A x.length c ∧ env 5 = .bool true ∧ env 6 = .int .i64 (i : Nat) ∧ Bo H' (.slice A x.length c) y ∧ y.length = x.length ∧ Oth H (.slice A x.length c) H') x.length
    ⟨0, x, by omega, by (first | exact True.intro | rfl | assumption), by (first | exact True.intro | rfl | assumption), by (first | exact True.intro | rfl | assumption), hO, rfl, Only.refl _ _⟩ ?_
  rintro k env H1 ⟨i, y, hk, g0, g5, g6, hO1, hy, ho1⟩
  unfold L13_0
  by_cases hi : i < x.length
  · have f0 : decide ((i : Int) < (x.length : Int)) = true := decide_eq_true (by omega)
    have hin : (0 : Int) ≤ (i : Int) ∧ (i : Int) < (x.length : Nat) := by omega
    obtain ⟨r, c', ee⟩ := hO1.shape (by omega)
    simp only [Value.slice.injEq] at ee
    obtain ⟨rfl, -, rfl⟩ := ee
    simp -implicitDefEqProofs (maxSteps := 1000000) (disch := first | omega | assumption) only [g0, g5, g6, f0, Sx, reduceIte, Nat.reduceEqDiff, reduceCtorEq, Nat.reduceAdd, Nat.reduceSub, Nat.reduceLT, Zx, endK]
    refine a_storeC hO1 (by rw [List.length_map]; omega) rfl ?_
    intro H2 hO2 ho2
    have hO2' : Bo H2 (.slice (some ⟨r, 0, none⟩) x.length c) (y.set i 238) := by
      show Own H2 _ 1 _ (by8 _)
      rw [by8, List.map_set]
      exact hO2
    try simp -implicitDefEqProofs (maxSteps := 1000000) (disch := first | omega | assumption) only [g0, g5, g6, Sx, reduceIte, Nat.reduceEqDiff, reduceCtorEq, Nat.reduceAdd, Nat.reduceSub, Nat.reduceLT, Zx, endK]
    exact ⟨k - 1, by omega, i + 1, _, by omega, by (first | exact True.intro | rfl | assumption), by (first | exact True.intro | rfl | assumption), by simp, hO2', by rw [List.length_set]; exact hy, ho1.trans ho2 fun r hr => .inl hr⟩
  have f0 : decide ((i : Int) < (x.length : Int)) = false := decide_eq_false (by omega)
  simp -implicitDefEqProofs (maxSteps := 1000000) (disch := first | omega | assumption) only [g0, g5, g6, f0, Sx, reduceIte, Nat.reduceEqDiff, reduceCtorEq, Nat.reduceAdd, Nat.reduceSub, Nat.reduceLT, Zx, endK]
  refine a_lits (sz := 1) (cells := #[.int .u8 221, .int .u8 221]) rfl rfl ?_
  intro r4 H4 hO4 k4 hr4
  have hO4b : Bo H4 (.slice (some ⟨r4, 0, none⟩) 2 2) [221, 221] := hO4
  obtain ⟨A4, c4, e4, -, w4⟩ := Bo.row hO4b
  cases e4
  try simp -implicitDefEqProofs (maxSteps := 1000000) (disch := first | omega | assumption) only [g0, Sx, reduceIte, Nat.reduceEqDiff, reduceCtorEq, Nat.reduceAdd, Nat.reduceSub, Nat.reduceLT, Zx, endK]
  refine app_b (hO1.keep k4) rfl rfl w4 (by rw [hy]; show x.length + 2 ≤ _; omega) ?_
  intro v5 H5 hO5 ho5 hm5
  try simp -implicitDefEqProofs (maxSteps := 1000000) (disch := first | omega | assumption) only [g5, Sx, reduceIte, Nat.reduceEqDiff, reduceCtorEq, Nat.reduceAdd, Nat.reduceSub, Nat.reduceLT, Zx, endK]
  exact ⟨by (first | exact True.intro | rfl | assumption), (ho1.trans (Only.of_keep (S := fun _ => False) k4) fun r hr => hr.elim).trans ho5 fun r hr => .inl hr⟩
end Go.Proofs.YtphojebganlbnaaDoor.S06
