/-
  GzipDecodes: every One, Decode and Is of any bytes is the document's.
-/
import Derived.Test.YtgbhdpeibiglfaaDoorGzA
import Derived.Test.YtgbhdpeibiglfaaDoorLowX
import Derived.Test.YtgbhdpeibiglfaaDoorSepOpn
set_option linter.unusedVariables false
set_option linter.unusedSimpArgs false
namespace Go.Proofs.YtgbhdpeibiglfaaDoor.S08
open Go Go.RowKit Go.Proofs.YtgbhdpeibiglfaaDoor.Sep Go.Proofs.YtgbhdpeibiglfaaDoor.Low Go.Proofs.YtgbhdpeibiglfaaDoor.S05 Go.Proofs.YtgbhdpeibiglfaaDoor.S06
open Go.Proofs.YtgbhdpeibiglfaaDoor.Lib hiding by8 by8_scalar

set_option maxHeartbeats 1000000 in
theorem hand_spec {H : Heap} {A : Option Addr} {n c : Nat} {b : List Int} (hr : Row H A (by8 b)) (hn : n = b.length) (hl : b.length ≤ 137438953472) :
    ACalls Tryd.prog 4 [Value.slice A n c].toArray H fun e H' => ∃ v, e = .returned v ∧ Bo H' v (b ++ mk5) ∧ Keep H H' ∧ Fresh H v := by
  subst hn
  refine call4 (Nat.le_of_ble_eq_true rfl) ?_
  unfold L4 env0
  simp -implicitDefEqProofs (maxSteps := 1000000) (disch := first | omega | assumption) only [Sx, reduceCtorEq]
  refine a_lits (sz := 1) (cells := #[]) rfl rfl ?_
  intro r2 H2 hO2 k2 hr2
  try simp -implicitDefEqProofs (maxSteps := 1000000) (disch := first | omega | assumption) only [Sx, Nat.reduceEqDiff, reduceCtorEq]
  refine app_b (l := []) (x := b) hO2 rfl rfl (k2.row hr) (by simp; omega) ?_
  intro v3 H3 hO3 ho3 hm3
  obtain ⟨k3, f3⟩ := grown2 k2 (v := .slice (some ⟨r2, 0, none⟩) 0 0) (by rintro q ⟨⟩; exact hr2) ho3 hm3
  rw [List.nil_append] at hO3
  have hs3 := hO3.scalar
  try simp -implicitDefEqProofs (maxSteps := 1000000) (disch := first | omega | assumption) only [Sx, Nat.reduceEqDiff]
  refine a_lits (sz := 1) (cells := #[.int .u8 1, .int .u8 2, .int .u8 3, .int .u8 4, .int .u8 5]) rfl rfl ?_
  intro r4 H4 hO4 k4 hr4
  have hO4b : Bo H4 (.slice (some ⟨r4, 0, none⟩) 5 5) mk5 := hO4
  obtain ⟨A4, c4, e4, -, w4⟩ := Bo.row hO4b
  cases e4
  try simp -implicitDefEqProofs (maxSteps := 1000000) (disch := first | omega | assumption) only [Sx, Nat.reduceEqDiff]
  refine app_b (hO3.keep k4) rfl rfl w4 (by show b.length + 5 ≤ _; omega) ?_
  intro v5 H5 hO5 ho5 hm5
  obtain ⟨k5, f5⟩ := grown2 (k3.trans k4) f3 ho5 hm5
  have hs5 := hO5.scalar
  try simp -implicitDefEqProofs (maxSteps := 1000000) (disch := first | omega | assumption) only [Sx, Nat.reduceEqDiff]
  exact ⟨v5, by (first | exact True.intro | rfl | assumption), hO5, k5, f5⟩
set_option maxHeartbeats 2000000 in
theorem left_spec {H : Heap} {v : Value} {b : List Int} {B : Option Addr} {nb cb : Nat} (hO : Bo H v (b ++ mk5)) (hr : Row H B (by8 b)) (hn : nb = b.length) (hl : b.length ≤ 137438953472) :
    ACalls Tryd.prog 8 [v, Value.slice B nb cb].toArray H fun e H' => e = .returned (.bool true) ∧ Oth H v H' := by
  subst hn
  refine call8 (Nat.le_of_ble_eq_true rfl) ?_
  unfold L8 env0
  have hlen : (b ++ mk5).length = b.length + 5 := by rw [List.length_append]; rfl
  obtain ⟨r, c, rfl⟩ := hO.shape (by omega)
  obtain ⟨_, _, ee, hc, w⟩ := Bo.row hO
  cases ee
  have b1 := ev_b2s_by (c := c) w
  have b2 := ev_b2s_by (c := cb) hr
  have vc : binV .add (.string ⟨(txt b).toArray⟩) (.string ⟨#[1, 2, 3, 4, 5]⟩) = some (.string ⟨(txt (b ++ mk5)).toArray⟩) := by
    rw [txt_append]
    exact v_cat (b := txt mk5) (by simp [txt]; omega)
  have q : (txt (b ++ mk5) == txt (b ++ mk5)) = true := by simp
  simp -implicitDefEqProofs (maxSteps := 1000000) (disch := first | omega | assumption) only [b1, b2, vc, t_list, q, Sx, Nat.reduceEqDiff, reduceCtorEq]
  refine c_loop (fun k env H' => ∃ i x, k + i = b.length + 5 ∧ env 0 = .slice (some ⟨r, 0, none⟩) (b ++ mk5).length c ∧ env 5 = .bool true ∧ env 6 = .int .i64 (i : Nat) ∧ Bo H' (.slice (some ⟨r, 0, none⟩) (b ++ mk5).length c) x ∧ x.length = b.length + 5 ∧ Oth H (.slice (some ⟨r, 0, none⟩) (b ++ mk5).length c) H') (b.length + 5)
    ⟨0, b ++ mk5, by omega, by (first | exact True.intro | rfl | assumption), by (first | exact True.intro | rfl | assumption), by (first | exact True.intro | rfl | assumption), hO, hlen, Only.refl _ _⟩ ?_
  rintro k env H1 ⟨i, x, hk, g0, g5, g6, hO1, hx, ho1⟩
  unfold L8_0
  by_cases hi : i < b.length + 5
  · have f0 : decide ((i : Int) < ((b ++ mk5).length : Int)) = true := decide_eq_true (by omega)
    have hin : (0 : Int) ≤ (i : Int) ∧ (i : Int) < ((b ++ mk5).length : Nat) := by omega
    simp -implicitDefEqProofs (maxSteps := 1000000) (disch := first | omega | assumption) only [g0, g6, f0, Sx, Nat.reduceEqDiff, reduceCtorEq]
    refine a_storeC hO1 (by rw [List.length_map]; omega) rfl ?_
    intro H2 hO2 ho2
    have hO2' : Bo H2 (.slice (some ⟨r, 0, none⟩) (b ++ mk5).length c) (x.set i 238) := by
      show Own H2 _ 1 _ (by8 _)
      rw [by8, List.map_set]
      exact hO2
    try simp -implicitDefEqProofs (maxSteps := 1000000) (disch := first | omega | assumption) only [g0, g5, g6, Sx, Nat.reduceEqDiff, reduceCtorEq]
    exact ⟨k - 1, by omega, i + 1, _, by omega, by (first | exact True.intro | rfl | assumption), by (first | exact True.intro | rfl | assumption), by simp, hO2', by rw [List.length_set]; exact hx, ho1.trans ho2 fun r hr => .inl hr⟩
  have f0 : decide ((i : Int) < ((b ++ mk5).length : Int)) = false := decide_eq_false (by omega)
  simp -implicitDefEqProofs (maxSteps := 1000000) (disch := first | omega | assumption) only [g0, g5, g6, f0, Sx, Nat.reduceEqDiff, reduceCtorEq]
  exact ⟨by (first | exact True.intro | rfl | assumption), ho1⟩
set_option maxHeartbeats 2000000 in
theorem wiped_spec {H : Heap} {v : Value} {x : List Int} {B : Option Addr} {nb cb : Nat} (hO : Bo H v x) (hr : Row H B (by8 x)) (hn : nb = x.length) (hl : x.length ≤ 137438953472) :
    ACalls Tryd.prog 12 [v, Value.slice B nb cb].toArray H fun e H' => e = .returned (.bool true) ∧ Oth H v H' := by
  subst hn
  refine call12 (Nat.le_of_ble_eq_true rfl) ?_
  unfold L12 env0
  obtain ⟨A, c, rfl, hc, w⟩ := Bo.row hO
  have b1 := ev_b2s_by (c := c) w
  have b2 := ev_b2s_by (c := cb) hr
  have q : (txt x == txt x) = true := by simp
  simp -implicitDefEqProofs (maxSteps := 1000000) (disch := first | omega | assumption) only [b1, b2, t_list, q, Sx, Nat.reduceEqDiff, reduceCtorEq]
  refine c_loop (fun k env H' => ∃ i y, k + i = x.length ∧ env 0 = .slice A x.length c ∧ env 5 = .bool true ∧ env 6 = .int .i64 (i : Nat) ∧ Bo H' (.slice A x.length c) y ∧ y.length = x.length ∧ Oth H (.slice A x.length c) H') x.length
    ⟨0, x, by omega, by (first | exact True.intro | rfl | assumption), by (first | exact True.intro | rfl | assumption), by (first | exact True.intro | rfl | assumption), hO, rfl, Only.refl _ _⟩ ?_
  rintro k env H1 ⟨i, y, hk, g0, g5, g6, hO1, hy, ho1⟩
  unfold L12_0
  by_cases hi : i < x.length
  · have f0 : decide ((i : Int) < (x.length : Int)) = true := decide_eq_true (by omega)
    have hin : (0 : Int) ≤ (i : Int) ∧ (i : Int) < (x.length : Nat) := by omega
    obtain ⟨r, c', ee⟩ := hO1.shape (by omega)
    simp only [Value.slice.injEq] at ee
    obtain ⟨rfl, -, rfl⟩ := ee
    simp -implicitDefEqProofs (maxSteps := 1000000) (disch := first | omega | assumption) only [g0, g6, f0, Sx, Nat.reduceEqDiff, reduceCtorEq]
    refine a_storeC hO1 (by rw [List.length_map]; omega) rfl ?_
    intro H2 hO2 ho2
    have hO2' : Bo H2 (.slice (some ⟨r, 0, none⟩) x.length c) (y.set i 238) := by
      show Own H2 _ 1 _ (by8 _)
      rw [by8, List.map_set]
      exact hO2
    try simp -implicitDefEqProofs (maxSteps := 1000000) (disch := first | omega | assumption) only [g0, g5, g6, Sx, Nat.reduceEqDiff, reduceCtorEq]
    exact ⟨k - 1, by omega, i + 1, _, by omega, by (first | exact True.intro | rfl | assumption), by (first | exact True.intro | rfl | assumption), by simp, hO2', by rw [List.length_set]; exact hy, ho1.trans ho2 fun r hr => .inl hr⟩
  have f0 : decide ((i : Int) < (x.length : Int)) = false := decide_eq_false (by omega)
  simp -implicitDefEqProofs (maxSteps := 1000000) (disch := first | omega | assumption) only [g0, g6, f0, Sx, Nat.reduceEqDiff, reduceCtorEq]
  refine a_lits (sz := 1) (cells := #[.int .u8 221, .int .u8 221]) rfl rfl ?_
  intro r4 H4 hO4 k4 hr4
  have hO4b : Bo H4 (.slice (some ⟨r4, 0, none⟩) 2 2) [221, 221] := hO4
  obtain ⟨A4, c4, e4, -, w4⟩ := Bo.row hO4b
  cases e4
  try simp -implicitDefEqProofs (maxSteps := 1000000) (disch := first | omega | assumption) only [Sx, Nat.reduceEqDiff]
  refine app_b (hO1.keep k4) rfl rfl w4 (by rw [hy]; show x.length + 2 ≤ _; omega) ?_
  intro v5 H5 hO5 ho5 hm5
  try simp -implicitDefEqProofs (maxSteps := 1000000) (disch := first | omega | assumption) only [g5, Sx, Nat.reduceEqDiff]
  exact ⟨by (first | exact True.intro | rfl | assumption), (ho1.trans (Only.of_keep (S := fun _ => False) k4) fun r hr => hr.elim).trans ho5 fun r hr => .inl hr⟩
def isV (b : List Int) : Bool := decide (2 ≤ b.length) && (b.getD 0 0 == 31 && b.getD 1 0 == 139)
set_option maxHeartbeats 1000000 in
theorem gis_spec {H : Heap} {A : Option Addr} {n c : Nat} {b : List Int} (hr : Row H A (by8 b)) (hn : n = b.length) :
    ACalls Tryd.prog 7 [Value.slice A n c].toArray H fun e H' => e = .returned (.bool (isV b)) ∧ H' = H := by
  subst hn
  refine call7 (Nat.le_of_ble_eq_true rfl) ?_
  unfold L7 env0
  by_cases h2 : 2 ≤ b.length
  · have f0 : decide ((2 : Int) ≤ (b.length : Int)) = true := decide_eq_true (by omega)
    have i0 : (0 : Int) ≤ 0 ∧ (0 : Int) < (b.length : Nat) := by omega
    have i1 : (0 : Int) ≤ 1 ∧ (1 : Int) < (b.length : Nat) := by omega
    obtain ⟨a, rfl, c0⟩ := by_at hr (i := 0) (by omega)
    obtain ⟨_, ee, c1⟩ := by_at hr (i := 1) (by omega)
    cases ee
    rw [add_zero_a] at c0
    have hv : isV b = (b[0] == 31 && b[1] == 139) := by unfold isV; rw [decide_eq_true h2, gd (i := 0) (by omega), gd (i := 1) (by omega)]; rfl
    rw [hv]
    obtain ⟨x, hx⟩ : ∃ x, x = b[0] := ⟨_, rfl⟩
    obtain ⟨y, hy⟩ : ∃ y, y = b[1] := ⟨_, rfl⟩
    rw [← hx] at c0 ⊢
    rw [← hy] at c1 ⊢
    by_cases e0 : x = 31
    · have f1 : (x == 31) = true := beq_iff_eq.2 e0
      simp -implicitDefEqProofs (maxSteps := 1000000) (disch := first | omega | assumption) only [f0, c0, c1, f1, Sx, Nat.reduceEqDiff, reduceCtorEq, Zx]
      exact ⟨by rfl, by (first | exact True.intro | rfl | assumption)⟩
    · have f1 : (x == 31) = false := beq_eq_false_iff_ne.2 e0
      simp -implicitDefEqProofs (maxSteps := 1000000) (disch := first | omega | assumption) only [f0, c0, f1, Sx, Nat.reduceEqDiff, reduceCtorEq, Zx]
      exact ⟨by rfl, by (first | exact True.intro | rfl | assumption)⟩
  · have f0 : decide ((2 : Int) ≤ (b.length : Int)) = false := decide_eq_false (by omega)
    have hv : isV b = false := by unfold isV; rw [decide_eq_false h2]; rfl
    simp -implicitDefEqProofs (maxSteps := 1000000) (disch := first | omega | assumption) only [f0, Sx, Nat.reduceEqDiff, reduceCtorEq]
    exact ⟨by rw [hv], by (first | exact True.intro | rfl | assumption)⟩
set_option maxHeartbeats 1000000 in
theorem dis_spec {H : Heap} {A : Option Addr} {n c : Nat} {b : List Int} (hr : Row H A (by8 b)) (hn : n = b.length) :
    ACalls Tryd.prog 9 [Value.slice A n c].toArray H fun e H' => e = .returned (.bool (isV b)) ∧ H' = H := by
  subst hn
  refine call9 (Nat.le_of_ble_eq_true rfl) ?_
  unfold L9 env0
  by_cases h2 : 2 ≤ b.length
  · have f0 : decide ((2 : Int) ≤ (b.length : Int)) = true := decide_eq_true (by omega)
    have i0 : (0 : Int) ≤ 0 ∧ (0 : Int) < (b.length : Nat) := by omega
    have i1 : (0 : Int) ≤ 1 ∧ (1 : Int) < (b.length : Nat) := by omega
    obtain ⟨a, rfl, c0⟩ := by_at hr (i := 0) (by omega)
    obtain ⟨_, ee, c1⟩ := by_at hr (i := 1) (by omega)
    cases ee
    rw [add_zero_a] at c0
    have hv : isV b = (b[0] == 31 && b[1] == 139) := by unfold isV; rw [decide_eq_true h2, gd (i := 0) (by omega), gd (i := 1) (by omega)]; rfl
    rw [hv]
    obtain ⟨x, hx⟩ : ∃ x, x = b[0] := ⟨_, rfl⟩
    obtain ⟨y, hy⟩ : ∃ y, y = b[1] := ⟨_, rfl⟩
    rw [← hx] at c0 ⊢
    rw [← hy] at c1 ⊢
    by_cases e0 : x = 31
    · have f1 : (x == 31) = true := beq_iff_eq.2 e0
      simp -implicitDefEqProofs (maxSteps := 1000000) (disch := first | omega | assumption) only [f0, c0, c1, f1, Sx, Nat.reduceEqDiff, reduceCtorEq, Zx]
      exact ⟨by rfl, by (first | exact True.intro | rfl | assumption)⟩
    · have f1 : (x == 31) = false := beq_eq_false_iff_ne.2 e0
      simp -implicitDefEqProofs (maxSteps := 1000000) (disch := first | omega | assumption) only [f0, c0, f1, Sx, Nat.reduceEqDiff, reduceCtorEq, Zx]
      exact ⟨by rfl, by (first | exact True.intro | rfl | assumption)⟩
  · have f0 : decide ((2 : Int) ≤ (b.length : Int)) = false := decide_eq_false (by omega)
    have hv : isV b = false := by unfold isV; rw [decide_eq_false h2]; rfl
    simp -implicitDefEqProofs (maxSteps := 1000000) (disch := first | omega | assumption) only [f0, Sx, Nat.reduceEqDiff, reduceCtorEq]
    exact ⟨by rw [hv], by (first | exact True.intro | rfl | assumption)⟩
theorem nz_spec {H : Heap} {x : Int} : ACalls Tryd.prog 16 [Value.int .u8 x].toArray H fun e H' => e = .returned (.bool (x != 0)) ∧ H' = H := by
  refine call16 (Nat.le_of_ble_eq_true rfl) ?_
  unfold L16 env0
  simp -implicitDefEqProofs (maxSteps := 1000000) (disch := first | omega | assumption) only [Sx, Nat.reduceEqDiff, reduceCtorEq]
  exact ⟨by (first | exact True.intro | rfl | assumption), by (first | exact True.intro | rfl | assumption)⟩
set_option maxHeartbeats 1000000 in
theorem ixf_spec {H : Heap} {A : Option Addr} {n c : Nat} {b : List Int} (hr : Row H A (by8 b)) (hn : n = b.length) (hl : b.length ≤ 137438953472) (hby : isBy b) :
    ACalls Tryd.prog 27 [Value.slice A n c, .func (.func 16) #[] #[]].toArray H fun e H' => ∃ z : Int, e = .returned (.int .i64 z) ∧ decide (0 ≤ z) = !zerosB b ∧ H' = H := by
  subst hn
  refine call27 (Nat.le_of_ble_eq_true rfl) ?_
  unfold L27 env0
  have hcal : callable Tryd.prog 16 = true := by kernel_rfl
  simp -implicitDefEqProofs (maxSteps := 1000000) (disch := first | omega | assumption) only [Sx, Nat.reduceEqDiff, reduceCtorEq]
  refine c_loop (fun k env H' => ∃ i, k + i = b.length ∧ zerosB b = zerosB (b.drop i) ∧ env 0 = .slice A b.length c ∧ env 1 = .func (.func 16) #[] #[] ∧ env 7 = .int .i64 (b.length : Nat) ∧ env 8 = .int .i64 (i : Nat) ∧ H' = H) b.length ⟨0, by omega, rfl, by (first | exact True.intro | rfl | assumption), by (first | exact True.intro | rfl | assumption), by (first | exact True.intro | rfl | assumption), by (first | exact True.intro | rfl | assumption), rfl⟩ ?_
  rintro k env H1 ⟨i, hk, hz, g0, g1, g7, g8, rfl⟩
  unfold L27_0
  by_cases hi : i < b.length
  · have f0 : decide ((i : Int) < (b.length : Int)) = true := decide_eq_true (by omega)
    have hin : (0 : Int) ≤ (i : Int) ∧ (i : Int) < (b.length : Nat) := by omega
    obtain ⟨a, rfl, hcell⟩ := by_at hr hi
    have hd : zerosB (b.drop i) = (b[i] == 0 && zerosB (b.drop (i + 1))) := by rw [List.drop_eq_getElem_cons hi]; rfl
    rw [hd] at hz
    obtain ⟨x, hx⟩ : ∃ x, x = b[i] := ⟨_, rfl⟩
    rw [← hx] at hcell hz
    simp -implicitDefEqProofs (maxSteps := 1000000) (disch := first | omega | assumption) only [g0, g1, g7, g8, f0, hcell, Sx, Nat.reduceEqDiff, reduceCtorEq]
    refine a_callv hcal nz_spec ?_
    rintro e H2 ⟨rfl, rfl⟩
    by_cases h0 : x = 0
    · have f1 : (x != 0) = false := by rw [h0]; rfl
      simp -implicitDefEqProofs (maxSteps := 1000000) (disch := first | omega | assumption) only [g0, g1, g7, g8, f1, Sx, Nat.reduceEqDiff, reduceCtorEq, endK]
      exact ⟨k - 1, by omega, i + 1, by omega, by rw [hz, h0]; rfl, by (first | exact True.intro | rfl | assumption), by (first | exact True.intro | rfl | assumption), by (first | exact True.intro | rfl | assumption), by simp, by (first | exact True.intro | rfl | assumption)⟩
    · have f1 : (x != 0) = true := bne_iff_ne.2 h0
      have f2 : (x == 0) = false := beq_eq_false_iff_ne.2 h0
      simp -implicitDefEqProofs (maxSteps := 1000000) (disch := first | omega | assumption) only [f1, Sx, Nat.reduceEqDiff, endK]
      exact ⟨(i : Nat), by (first | exact True.intro | rfl | assumption), by rw [hz, f2, decide_eq_true (by omega)]; rfl, by (first | exact True.intro | rfl | assumption)⟩
  · have f0 : decide ((i : Int) < (b.length : Int)) = false := decide_eq_false (by omega)
    rw [List.drop_of_length_le (by omega)] at hz
    simp -implicitDefEqProofs (maxSteps := 1000000) (disch := first | omega | assumption) only [g7, g8, f0, Sx, Nat.reduceEqDiff]
    exact ⟨-1, by (first | exact True.intro | rfl | assumption), by rw [hz]; rfl, by (first | exact True.intro | rfl | assumption)⟩
theorem ctf_spec {H : Heap} {A : Option Addr} {n c : Nat} {b : List Int} (hr : Row H A (by8 b)) (hn : n = b.length) (hl : b.length ≤ 137438953472) (hby : isBy b) :
    ACalls Tryd.prog 15 [Value.slice A n c, .func (.func 16) #[] #[]].toArray H fun e H' => e = .returned (.bool (!zerosB b)) ∧ H' = H := by
  refine call15 (Nat.le_of_ble_eq_true rfl) ?_
  unfold L15 env0
  simp -implicitDefEqProofs (maxSteps := 1000000) (disch := first | omega | assumption) only [Sx, Nat.reduceEqDiff, reduceCtorEq]
  refine a_call (ixf_spec hr hn hl hby) ?_
  rintro e H1 ⟨z, rfl, hz, rfl⟩
  simp -implicitDefEqProofs (maxSteps := 1000000) (disch := first | omega | assumption) only [hz, Sx, Nat.reduceEqDiff, endK]
  exact ⟨by (first | exact True.intro | rfl | assumption), by (first | exact True.intro | rfl | assumption)⟩
end Go.Proofs.YtgbhdpeibiglfaaDoor.S08

set_option linter.unusedVariables false
set_option linter.unusedSimpArgs false
namespace Go.Proofs.YtgbhdpeibiglfaaDoor.S08
open Go Go.RowKit Go.Proofs.YtgbhdpeibiglfaaDoor.Sep Go.Proofs.YtgbhdpeibiglfaaDoor.Low Go.Proofs.YtgbhdpeibiglfaaDoor.S05 Go.Proofs.YtgbhdpeibiglfaaDoor.S06
open Go.Proofs.YtgbhdpeibiglfaaDoor.Lib hiding by8 by8_scalar

theorem mone_k {b : List Int} {most : Int} {x : List Int × Mem × Nat} (h : mone b most = .ok x) : 8 ≤ x.2.2 ∧ x.2.2 ≤ b.length ∧ (0 ≤ most ∧ most ≤ 4194304) := by
  unfold mone at h
  split at h
  · cases h
  rename_i hb
  cases hM : mhead b with
  | error e => rw [hM] at h; cases h
  | ok y =>
    rw [hM] at h
    have h : (mbody b most y.2).bind (fun z => Except.ok (z.1, y.1, z.2)) = Except.ok x := h
    unfold mbody at h
    split at h
    · cases h
    unfold mtail at h
    split at h
    · cases h
    split at h
    · cases h
    split at h
    · cases h
    cases h
    refine ⟨?_, ?_, by omega, by omega⟩
    · show 8 ≤ _ + 8; omega
    · show _ + 8 ≤ b.length; omega
abbrev enM (z : Mem × Value) : List Value := memV z.1 z.2
theorem enM_len (z : Mem × Value) : (enM z).length = 8 := rfl
/-- what came so far: plain bytes, members -/
structure DL (H0 H : Heap) (v w : Value) (pl : List Int) (zs : List (Mem × Value)) : Prop where
  k : Keep H0 H
  ov : Bo H v pl
  ow : Own H 26 8 w (encs enM zs)
  ex : ∀ z ∈ zs, Bo H z.2 z.1.extra
  pw : zs.Pairwise fun a b => ∀ s, own a.2 = some s → own b.2 ≠ some s
  vx : ∀ z ∈ zs, ∀ s, own v = some s → own z.2 ≠ some s
  fv : Fresh H0 v
  fw : Fresh H0 w
  fx : ∀ z ∈ zs, Fresh H0 z.2
theorem DL.more {H0 H H' : Heap} {v w : Value} {pl : List Int} {zs : List (Mem × Value)} (d : DL H0 H v w pl zs) (hk : Keep H H') : DL H0 H' v w pl zs := ⟨d.k.trans hk, d.ov.keep hk, d.ow.keep hk, fun z hz => (d.ex z hz).keep hk, d.pw, d.vx, d.fv, d.fw, d.fx⟩
theorem DL.pushV {H0 H H' : Heap} {v v' w : Value} {pl pl' : List Int} {zs : List (Mem × Value)} (d : DL H0 H v w pl zs) (hO : Bo H' v' pl') (ho : Oth H v H') (hm : Moved H v v') : DL H0 H' v' w pl' zs := by
  refine ⟨ho.keep d.k (fun q hq => d.fv q hq), hO, d.ow.only ho (fun s hs e => apart d.ow d.ov (by decide) hs e), fun z hz => (d.ex z hz).only ho (fun s hs e => d.vx z hz s e hs), d.pw, fun z hz s hs => ?_, hm.fresh d.k d.fv, d.fw, d.fx⟩
  rcases hm with e | ⟨q, e, hq⟩
  · rw [e] at hs; exact d.vx z hz s hs
  · rw [e] at hs
    cases hs
    exact fun h => (d.ex z hz).known h hq
theorem DL.newV {H0 H H' : Heap} {v v' w : Value} {pl pl' : List Int} {zs : List (Mem × Value)} (d : DL H0 H v w pl zs) (hk : Keep H H') (hO : Bo H' v' pl') (hf : Fresh H v') : DL H0 H' v' w pl' zs :=
  ⟨d.k.trans hk, hO, d.ow.keep hk, fun z hz => (d.ex z hz).keep hk, d.pw, fun z hz s hs e => (d.ex z hz).known e (hf s hs), fun s hs => d.k.none (hf s hs), d.fw, d.fx⟩
theorem DL.pushW {H0 H H' : Heap} {v w w' : Value} {pl : List Int} {zs : List (Mem × Value)} {m : Mem} {ext : Value} (d : DL H0 H v w pl zs) (hO : Own H' 26 8 w' (encs enM zs ++ memV m ext)) (ho : Oth H w H') (hm : Moved H w w') (hE : Bo H ext m.extra) (hfE : Fresh H0 ext) (hne : ∀ z ∈ zs, ∀ s, own z.2 = some s → own ext ≠ some s) (hnv : ∀ s, own v = some s → own ext ≠ some s) : DL H0 H' v w' pl (zs ++ [(m, ext)]) := by
  have hW : ∀ {u : Value} {l : List Int}, Bo H u l → Bo H' u l := fun h => h.only ho fun s hs e => apart h d.ow (by decide) hs e
  refine ⟨ho.keep d.k (fun q hq => d.fw q hq), hW d.ov, by rw [encs_append, encs_one]; exact hO, fun z hz => ?_, ?_, fun z hz => ?_, d.fv, hm.fresh d.k d.fw, fun z hz => ?_⟩
  · rcases List.mem_append.1 hz with h | h
    · exact hW (d.ex z h)
    · rw [List.mem_singleton.1 h]; exact hW hE
  · refine List.pairwise_append.2 ⟨d.pw, List.pairwise_singleton _ _, fun a ha b hb => ?_⟩
    rw [List.mem_singleton.1 hb]
    exact hne a ha
  · rcases List.mem_append.1 hz with h | h
    · exact d.vx z h
    · rw [List.mem_singleton.1 h]; exact hnv
  · rcases List.mem_append.1 hz with h | h
    · exact d.fx z h
    · rw [List.mem_singleton.1 h]; exact hfE
abbrev z8 : Array Value := #[.string ⟨#[]⟩, .string ⟨#[]⟩, .slice none 0 0, .int .u32 0, .int .u8 0, .int .u8 0, .bool false, .bool false]
theorem lits_mem {P : Program} {H : Heap} {mv : List Value} {KV : Value → Heap → Prop} {KP : List PanicEntry → Heap → Prop} (hx : mv.length = 8)
    (hk : ∀ r H', Own H' 26 8 (.slice (some ⟨r, 0, none⟩) 1 1) mv → Keep H H' → H r = none → KV (.slice (some ⟨r, 0, none⟩) 1 1) H') : awpE P (.lits 26 z8 1 [(0, 8)]) [.agg mv.toArray] KV KP H := by
  refine a_lits (sz := 8) (cells := mv.toArray) (by
    simp only [List.length_cons, List.length_nil, if_true, List.zip_cons_cons, List.zip_nil_right]
    rw [z8, fill_a, if_pos (by exact ⟨hx, by rw [hx]; decide⟩), fill_nil]
    rw [List.take_zero, List.nil_append, List.drop_of_length_le (by rw [hx]; decide), List.append_nil]) (by rw [List.size_toArray, hx]) ?_
  intro r H' h1 h2 h3
  exact hk r H' h1 h2 h3
theorem push_mem {P : Program} {H : Heap} {w : Value} {zs : List (Mem × Value)} {m : Mem} {ext : Value} {r : Nat} {KV : Value → Heap → Prop} {KP : List PanicEntry → Heap → Prop} (hO : Own H 26 8 w (encs enM zs)) (hl : zs.length ≤ 1048576) (h1 : Own H 26 8 (.slice (some ⟨r, 0, none⟩) 1 1) (memV m ext)) (hs : scalarV ext = true)
    (hk : ∀ w' H', Own H' 26 8 w' (encs enM zs ++ memV m ext) → Oth H w H' → Moved H w w' → KV w' H') : awpE P (.app 26 8 64 z8) [w, .slice (some ⟨r, 0, none⟩) 1 1] KV KP H := by
  obtain ⟨_, _, _, e, _, _, hrow⟩ := h1.view
  cases e
  exact a_app (len := zs.length) (m := 1) (new := memV m ext) hO (encs_len enM_len zs) rfl (hrow.cells (by rfl)) (by rfl) rfl (by omega) (memV_scalar hs) (by omega) hk
set_option maxHeartbeats 1000000 in
theorem gone_spec {H : Heap} {q o c n : Nat} {b : List Int} {most : Int} (hT : TabO H) (hr : Row H (some ⟨q, o, none⟩) (by8 b)) (hn : n = b.length) (hc : b.length ≤ c) (hq : H q ≠ none) (hb : isBy b) (hbl : b.length ≤ 137438953472) :
    ACalls Tryd.prog 5 [Value.slice (some ⟨q, o, none⟩) n c, .int .i64 most].toArray H fun e H' => OneP H b most e H' := by
  subst hn
  refine call5 (Nat.le_of_ble_eq_true rfl) ?_
  unfold L5 env0
  simp -implicitDefEqProofs (maxSteps := 1000000) (disch := first | omega | assumption) only [Sx]
  refine a_new fun r5 hr5 => ?_
  obtain ⟨H1, hH1⟩ : ∃ H1, H1 = H.set r5 (.cells (memV m0 (.slice none 0 0)).toArray 26 (0, 0)) := ⟨_, rfl⟩
  have k1 : Keep H H1 := by rw [hH1]; exact (Keep.refl _).set_new hr5
  have b1 : H1 r5 = some (.cells (memV m0 (.slice none 0 0)).toArray 26 (0, 0)) := by rw [hH1]; exact set_same
  have hH1' : H.set r5 (.cells #[.string ⟨#[]⟩, .string ⟨#[]⟩, .slice none 0 0, .int .u32 0, .int .u8 0, .int .u8 0, .bool false, .bool false] 26 (0, 0)) = H1 := hH1.symm
  rw [hH1']
  clear hH1 hH1'
  try simp -implicitDefEqProofs (maxSteps := 1000000) (disch := first | omega | assumption) only [Sx, Nat.reduceEqDiff, reduceCtorEq]
  refine a_call (one_spec (most := most) (hT.keep k1) (k1.row hr) rfl hc (fun h => hq (k1.none h)) hb hbl) ?_
  rintro e H2 ⟨k2, hO⟩
  have b2 := k2 _ _ b1
  cases hG : mone b most with
  | error er =>
    rw [hG] at hO
    obtain ⟨rfl, hne⟩ := hO
    obtain ⟨mv, hmv⟩ : ∃ mv, mv = memV m0 (.slice none 0 0) := ⟨_, rfl⟩
    have b2m := b2
    have hsc := memV_scalar (m := m0) (ext := .slice none 0 0) rfl
    rw [← hmv] at b2m hsc
    have hmz : mz = .agg mv.toArray := by rw [hmv]
    simp -implicitDefEqProofs (maxSteps := 1000000) (disch := first | omega | assumption) only [hmz, Sx, Nat.reduceEqDiff, endK]
    refine st_same b2m (by rw [hmv]; rfl) hsc ?_
    try simp -implicitDefEqProofs (maxSteps := 1000000) (disch := first | omega | assumption) only [Sx, Nat.reduceEqDiff]
    refine d1_err (k1.trans k2) b2 hG hne ?_ ?_ ?_ ?_
    · simp -implicitDefEqProofs (maxSteps := 1000000) (disch := first | omega | assumption) only [Sx, Nat.reduceEqDiff]
    · simp -implicitDefEqProofs (maxSteps := 1000000) (disch := first | omega | assumption) only [Sx, Nat.reduceEqDiff]
    · simp -implicitDefEqProofs (maxSteps := 1000000) (disch := first | omega | assumption) only [Sx, Nat.reduceEqDiff]
    · simp -implicitDefEqProofs (maxSteps := 1000000) (disch := first | omega | assumption) only [Sx, Nat.reduceEqDiff]
  | ok x =>
    rw [hG] at hO
    obtain ⟨v, ext, rfl, hV, hE, fV, fE, hne, hl⟩ := hO
    have hsE := hE.scalar
    have hsV := hV.scalar
    obtain ⟨me, hme⟩ : ∃ me, me = memV x.2.1 ext := ⟨_, rfl⟩
    rw [← hme]
    simp -implicitDefEqProofs (maxSteps := 1000000) (disch := first | omega | assumption) only [Sx, Nat.reduceEqDiff, endK]
    refine st_all (old := memV m0 (.slice none 0 0)) (ci := me) b2 (by rw [hme]; rfl) (by rw [hme]; rfl) (by rw [hme]; exact memV_scalar hsE) ?_
    rw [hme]
    obtain ⟨H6, hH6⟩ : ∃ H6, H6 = H2.set r5 (.cells (memV x.2.1 ext).toArray 26 (0, 0)) := ⟨_, rfl⟩
    have ho6 : Only (· = r5) H2 H6 := by rw [hH6]; exact (Only.refl _ _).set (.inl rfl)
    have b6 : H6 r5 = some (.cells (memV x.2.1 ext).toArray 26 (0, 0)) := by rw [hH6]; exact set_same
    rw [← hH6]
    clear hH6
    have fin : ∀ env : Env, env 4 = v → env 5 = .pointer (some ⟨r5, 0, none⟩) → env 6 = .int .i64 (x.2.2 : Nat) → env 7 = .int .i64 0 → bindL (getAll env H6 [RV.t 4, RV.c 5 (some 8), RV.t 6, RV.t 7]) fun vs => OneP H b most (.returned (oneOr vs)) H6 := by
      intro env h4 h5 h6 h7
      rw [g_t, g_cn h5 (mem_load b6), g_t, g_t, g_nil, h4, h6, h7]
      refine ⟨ho6.keep (k1.trans k2) fun y hy => hy ▸ hr5, ?_⟩
      rw [hG]
      exact ⟨v, ext, rfl, hV.only ho6 (fun y hy e => hV.elem b2 (by decide) (e ▸ hy)), hE.only ho6 (fun y hy e => hE.elem b2 (by decide) (e ▸ hy)), (fun y hy => k1.none (fV y hy)), (fun y hy => k1.none (fE y hy)), hne, hl⟩
    try simp -implicitDefEqProofs (maxSteps := 1000000) (disch := first | omega | assumption) only [Sx, Nat.reduceEqDiff]
    refine fin _ ?_ ?_ ?_ ?_
    · simp -implicitDefEqProofs (maxSteps := 1000000) (disch := first | omega | assumption) only [Sx, Nat.reduceEqDiff]
    · simp -implicitDefEqProofs (maxSteps := 1000000) (disch := first | omega | assumption) only [Sx, Nat.reduceEqDiff]
    · simp -implicitDefEqProofs (maxSteps := 1000000) (disch := first | omega | assumption) only [Sx, Nat.reduceEqDiff]
    · simp -implicitDefEqProofs (maxSteps := 1000000) (disch := first | omega | assumption) only [Sx, Nat.reduceEqDiff]
end Go.Proofs.YtgbhdpeibiglfaaDoor.S08

set_option linter.unusedVariables false
set_option linter.unusedSimpArgs false
namespace Go.Proofs.YtgbhdpeibiglfaaDoor.S08
open Go Go.RowKit Go.Proofs.YtgbhdpeibiglfaaDoor.Sep Go.Proofs.YtgbhdpeibiglfaaDoor.Low Go.Proofs.YtgbhdpeibiglfaaDoor.S05 Go.Proofs.YtgbhdpeibiglfaaDoor.S06
open Go.Proofs.YtgbhdpeibiglfaaDoor.Lib hiding by8 by8_scalar

def comb (pl : List Int) (ms : List Mem) (r : Ex (List Int × List Mem)) : Ex (List Int × List Mem) := match r with
  | .error e => .error e
  | .ok x => .ok (pl ++ x.1, ms ++ x.2)
theorem comb_stop {pl : List Int} {ms : List Mem} {f : Nat} {b : List Int} {most : Int} (hz : zerosB b = true) : comb pl ms (mdec (f + 1) false b most) = .ok (pl, ms) := by
  rw [mdec, if_pos ⟨rfl, hz⟩]
  show Except.ok (pl ++ [], ms ++ []) = _
  rw [List.append_nil, List.append_nil]
theorem comb_bad {pl : List Int} {ms : List Mem} {f : Nat} {first : Bool} {b : List Int} {most er : Int} (hc : first = true ∨ zerosB b = false) (h : mone b most = .error er) : comb pl ms (mdec (f + 1) first b most) = .error (if er = 130 ∧ first = false then 5 else er) := by
  rw [mdec, if_neg (by rintro ⟨h1, h2⟩; rcases hc with h | h; rw [h] at h1; cases h1; rw [h] at h2; cases h2), h]
  rfl
theorem comb_ok {pl : List Int} {ms : List Mem} {f : Nat} {first : Bool} {b : List Int} {most : Int} {x : List Int × Mem × Nat} (hc : first = true ∨ zerosB b = false) (h : mone b most = .ok x) : comb pl ms (mdec (f + 1) first b most) = comb (pl ++ x.1) (ms ++ [x.2.1]) (mdec f false (b.drop x.2.2) (most - x.1.length)) := by
  rw [mdec, if_neg (by rintro ⟨h1, h2⟩; rcases hc with h | h; rw [h] at h1; cases h1; rw [h] at h2; cases h2), h]
  obtain ⟨x1, x2, x3⟩ := x
  simp only
  cases mdec f false (b.drop x3) (most - x1.length) with
  | error e => rfl
  | ok y => show Except.ok (pl ++ (x1 ++ y.1), ms ++ (x2 :: y.2)) = Except.ok ((pl ++ x1) ++ y.1, (ms ++ [x2]) ++ y.2); simp
/-- what Decode tells -/
def DecP (H0 : Heap) (G : Ex (List Int × List Mem)) (e : Ending) (H' : Heap) : Prop := Keep H0 H' ∧ match G with
  | .ok x => ∃ v w zs, e = .returned (.tuple #[v, w, .int .i64 0]) ∧ DL H0 H' v w x.1 zs ∧ zs.map Prod.fst = x.2
  | .error er => e = .returned (.tuple #[.slice none 0 0, .slice none 0 0, .int .i64 er]) ∧ er ≠ 0
/-- a slice of a block, from a place on -/
theorem drop_at {q o c k : Nat} {b : List Int} {H : Heap} (hr : Row H (some ⟨q, o, none⟩) (by8 b)) (hc : b.length ≤ c) (hk : k ≤ b.length) : ∃ o', cutA (some ⟨q, o, none⟩) c k 1 = some ⟨q, o', none⟩ ∧ Row H (some ⟨q, o', none⟩) (by8 (b.drop k)) := by
  obtain ⟨o', ho⟩ := cut_at (q := q) (o := o) (c := c) (t := k)
  have := row_drop (k := k) hr hc
  rw [ho] at this
  exact ⟨o', ho, this⟩
theorem DL.nw {H0 H : Heap} {v w : Value} {pl : List Int} {zs : List (Mem × Value)} (d : DL H0 H v w pl zs) : ∃ A c, w = .slice A zs.length c := by
  obtain ⟨A, n, c, e, hn, -, -⟩ := d.ow.view
  rw [encs_len enM_len] at hn
  exact ⟨A, c, by rw [e, show n = zs.length by omega]⟩
set_option maxHeartbeats 8000000 in
set_option maxRecDepth 4000 in
theorem gstep {H0 H : Heap} {q o c k : Nat} {b : List Int} {most : Int} {v w : Value} {pl : List Int} {zs : List (Mem × Value)} {G : Ex (List Int × List Mem)} {env : Env} {Q : Post} {QP : List PanicEntry → Heap → Prop} (hT : TabO H0) (hr : Row H0 (some ⟨q, o, none⟩) (by8 b)) (hc : b.length ≤ c) (hq : H0 q ≠ none) (hb : isBy b) (hbl : b.length ≤ 1048576) (d : DL H0 H v w pl zs) (hzl : zs.length ≤ 1048576) (hpl : pl.length ≤ 4194304 * zs.length)
    (hcn : zs.isEmpty = true ∨ zerosB b = false) (hG : G = comb pl (zs.map Prod.fst) (mdec (k + 1) zs.isEmpty b most))
    (g0 : env 0 = .slice (some ⟨q, o, none⟩) b.length c) (g1 : env 1 = .int .i64 most) (g7 : env 7 = v) (g8 : env 8 = w)
    (hbad : ∀ env' H' er, G = .error er → er ≠ 0 → Keep H0 H' → env' 4 = .slice none 0 0 → env' 5 = .slice none 0 0 → env' 6 = .int .i64 er → Q .ret env' H')
    (hok : ∀ env' H' o' c' b' most' v' w' pl' zs', env' 0 = .slice (some ⟨q, o', none⟩) b'.length c' → env' 1 = .int .i64 most' → env' 7 = v' → env' 8 = w' → Row H0 (some ⟨q, o', none⟩) (by8 b') → b'.length ≤ c' → isBy b' → b'.length + 1 ≤ b.length → DL H0 H' v' w' pl' zs' → G = comb pl' (zs'.map Prod.fst) (mdec k zs'.isEmpty b' most') → zs'.length = zs.length + 1 → pl'.length ≤ 4194304 * zs'.length → zs'.isEmpty = false → Q .normal env' H') :
    awpC Tryd.prog L6_21 Q QP env H := by
  unfold L6_21
  obtain ⟨Aw, cw, rfl⟩ := d.nw
  have hsv := d.ov.scalar
  have hsw := d.ow.scalar
  simp -implicitDefEqProofs (maxSteps := 1000000) (disch := first | omega | assumption) only [g0, g1, Sx, Nat.reduceEqDiff]
  refine a_call (one_spec (most := most) (hT.keep d.k) (d.k.row hr) rfl hc (fun h => hq (d.k.none h)) hb (by omega)) ?_
  rintro e H1 ⟨k1, hO⟩
  have d1 := d.more k1
  cases hM : mone b most with
  | error er =>
    rw [hM] at hO
    rw [comb_bad hcn hM] at hG
    obtain ⟨rfl, hne⟩ := hO
    obtain ⟨mv, hmv⟩ : ∃ mv, mv = memV m0 (.slice none 0 0) := ⟨_, rfl⟩
    have hsc := memV_scalar (m := m0) (ext := .slice none 0 0) rfl
    have hmz : mz = .agg mv.toArray := by rw [hmv]
    rw [← hmv] at hsc
    simp -implicitDefEqProofs (maxSteps := 1000000) (disch := first | omega | assumption) only [hmz, Sx, Nat.reduceEqDiff, endK]
    refine a_new fun r hr' => ?_
    try simp -implicitDefEqProofs (maxSteps := 1000000) (disch := first | omega | assumption) only [Sx, Nat.reduceEqDiff]
    refine st_all (old := memV m0 (.slice none 0 0)) (ci := mv) set_same (by rw [hmv]) (by rw [hmv]; rfl) hsc ?_
    rw [ml_set]
    have k2 : Keep H1 (H1.set r (.cells mv.toArray 26 (0, 0))) := (Keep.refl _).set_new hr'
    obtain ⟨H2, hH2⟩ : ∃ H2, H2 = H1.set r (.cells mv.toArray 26 (0, 0)) := ⟨_, rfl⟩
    rw [← hH2] at k2 ⊢
    clear hH2
    have kk := d1.k.trans k2
    unfold L6_0
    by_cases h130 : er = 130
    · have f1 : (er == 130) = true := beq_iff_eq.2 h130
      have f3 : (er != 0) = true := bne_iff_ne.2 hne
      have f5 : ((5 : Int) != 0) = true := rfl
      by_cases hz : zs.length = 0
      · have hie : zs.isEmpty = true := by rw [List.eq_nil_of_length_eq_zero hz]; rfl
        have hG : G = .error er := by rw [hG, if_neg (by rintro ⟨-, h⟩; rw [hie] at h; cases h)]
        have f2 : decide ((0 : Int) < (zs.length : Int)) = false := decide_eq_false (by omega)
        try simp -implicitDefEqProofs (maxSteps := 1000000) (disch := first | omega | assumption) only [g8, f1, f2, f3, Sx, Nat.reduceEqDiff]
        exact hbad _ _ er hG hne kk (by simp -implicitDefEqProofs (maxSteps := 1000000) (disch := first | omega | assumption) only [Sx, Nat.reduceEqDiff]) (by simp -implicitDefEqProofs (maxSteps := 1000000) (disch := first | omega | assumption) only [Sx, Nat.reduceEqDiff]) (by simp -implicitDefEqProofs (maxSteps := 1000000) (disch := first | omega | assumption) only [Sx, Nat.reduceEqDiff])
      · have hie : zs.isEmpty = false := by cases zs; exact absurd rfl hz; rfl
        have hG : G = .error 5 := by rw [hG, if_pos ⟨h130, hie⟩]
        have f2 : decide ((0 : Int) < (zs.length : Int)) = true := decide_eq_true (by omega)
        try simp -implicitDefEqProofs (maxSteps := 1000000) (disch := first | omega | assumption) only [g8, f1, f2, f5, Sx, Nat.reduceEqDiff]
        exact hbad _ _ 5 hG (by decide) kk (by simp -implicitDefEqProofs (maxSteps := 1000000) (disch := first | omega | assumption) only [Sx, Nat.reduceEqDiff]) (by simp -implicitDefEqProofs (maxSteps := 1000000) (disch := first | omega | assumption) only [Sx, Nat.reduceEqDiff]) (by simp -implicitDefEqProofs (maxSteps := 1000000) (disch := first | omega | assumption) only [Sx, Nat.reduceEqDiff])
    · have f1 : (er == 130) = false := beq_eq_false_iff_ne.2 h130
      have hG : G = .error er := by rw [hG, if_neg (fun h => h130 h.1)]
      have f3 : (er != 0) = true := bne_iff_ne.2 hne
      try simp -implicitDefEqProofs (maxSteps := 1000000) (disch := first | omega | assumption) only [f1, f3, Sx, Nat.reduceEqDiff]
      exact hbad _ _ er hG hne kk (by simp -implicitDefEqProofs (maxSteps := 1000000) (disch := first | omega | assumption) only [Sx, Nat.reduceEqDiff]) (by simp -implicitDefEqProofs (maxSteps := 1000000) (disch := first | omega | assumption) only [Sx, Nat.reduceEqDiff]) (by simp -implicitDefEqProofs (maxSteps := 1000000) (disch := first | omega | assumption) only [Sx, Nat.reduceEqDiff])
  | ok x =>
    rw [hM] at hO
    rw [comb_ok hcn hM] at hG
    obtain ⟨vx, ext, rfl, hX, hE, fX, fE, hne, hxl⟩ := hO
    obtain ⟨hk8, hkb, hm1, hm2⟩ := mone_k hM
    obtain ⟨x, m, kx⟩ := x
    simp only at hG hX hE hxl hk8 hkb ⊢
    have hsX := hX.scalar
    have hsE := hE.scalar
    obtain ⟨me, hme⟩ : ∃ me, me = memV m ext := ⟨_, rfl⟩
    rw [← hme]
    simp -implicitDefEqProofs (maxSteps := 1000000) (disch := first | omega | assumption) only [Sx, Nat.reduceEqDiff, endK]
    refine a_new fun r hr' => ?_
    try simp -implicitDefEqProofs (maxSteps := 1000000) (disch := first | omega | assumption) only [Sx, Nat.reduceEqDiff]
    refine st_all (old := memV m0 (.slice none 0 0)) (ci := me) set_same (by rw [hme]; rfl) (by rw [hme]; rfl) (by rw [hme]; exact memV_scalar hsE) ?_
    rw [ml_set]
    obtain ⟨H2, hH2⟩ : ∃ H2, H2 = H1.set r (.cells me.toArray 26 (0, 0)) := ⟨_, rfl⟩
    have k2 : Keep H1 H2 := by rw [hH2]; exact (Keep.refl _).set_new hr'
    have b2 : H2 r = some (.cells (memV m ext).toArray 26 (0, 0)) := by rw [hH2, hme]; exact set_same
    rw [← hH2]
    clear hH2
    have d2 := d1.more k2
    have hX2 := hX.keep k2
    have hE2 := hE.keep k2
    have f1 : ((0 : Int) == 130) = false := rfl
    have f3 : ((0 : Int) != 0) = false := rfl
    obtain ⟨Ax, cx, rfl, hcx, wx⟩ := Bo.row hX2
    unfold L6_0
    try simp -implicitDefEqProofs (maxSteps := 1000000) (disch := first | omega | assumption) only [g7, f1, f3, Sx, Nat.reduceEqDiff]
    refine app_b d2.ov rfl rfl wx (by omega) ?_
    intro v3 H3 hO3 ho3 hm3
    have d3 := d2.pushV hO3 ho3 hm3
    have fEH : Fresh H0 ext := fun s hs => d.k.none (fE s hs)
    have nEv : ∀ s, own v = some s → own ext ≠ some s := fun s hs e => d.ov.known hs (fE s e)
    have hE3 : Bo H3 ext m.extra := hE2.only ho3 fun s hs e => nEv s e hs
    have nEv3 : ∀ s, own v3 = some s → own ext ≠ some s := by
      intro s hs
      rcases hm3 with e2 | ⟨y, e2, hy⟩
      · rw [e2] at hs; exact nEv s hs
      · rw [e2] at hs
        cases hs
        exact fun h => hE2.known h hy
    have nEz : ∀ z ∈ zs, ∀ s, own z.2 = some s → own ext ≠ some s := fun z hz s hs e => (d.ex z hz).known hs (fE s e)
    have b3 := ho3.oth _ _ b2 (fun e => d2.ov.elem b2 (by decide) e)
    have hld3 := mem_load b3
    rw [← hme] at hld3
    have hs3 := hO3.scalar
    try simp -implicitDefEqProofs (maxSteps := 1000000) (disch := first | omega | assumption) only [g8, ev_ldn, hld3, Sx, Nat.reduceEqDiff]
    refine lits_mem (by rw [hme]; rfl) ?_
    intro r4 H4 hO4 k4 hr4
    rw [hme] at hO4
    have d4 := d3.more k4
    try simp -implicitDefEqProofs (maxSteps := 1000000) (disch := first | omega | assumption) only [Sx, Nat.reduceEqDiff]
    refine push_mem d4.ow hzl hO4 hsE ?_
    intro w5 H5 hO5 ho5 hm5
    have d5 := d4.pushW hO5 ho5 hm5 (hE3.keep k4) fEH nEz nEv3
    have hs5 := hO5.scalar
    have e1 : IntKind.i64.wrap (most - (x.length : Int)) = most - (x.length : Int) := w_i64 (by omega)
    have hin : (0 : Int) ≤ (kx : Int) ∧ (kx : Int) ≤ (b.length : Nat) := by omega
    obtain ⟨o', hcu, hr'⟩ := drop_at hr hc hkb
    try simp -implicitDefEqProofs (maxSteps := 1000000) (disch := first | omega | assumption) only [g0, g1, e1, ev_slc_lo, hcu, Sx, Nat.reduceEqDiff, reduceCtorEq]
    refine hok _ _ o' (c - kx) (b.drop kx) (most - x.length) v3 w5 (pl ++ x) (zs ++ [(m, ext)]) ?_ ?_ ?_ ?_ hr' (by rw [List.length_drop]; omega) (hb.drop kx) (by rw [List.length_drop]; omega) d5 ?_ (by rw [List.length_append]; rfl) (by rw [List.length_append, List.length_append]; show _ ≤ 4194304 * (zs.length + 1); omega) (by cases zs <;> rfl)
    · simp -implicitDefEqProofs (maxSteps := 1000000) (disch := first | omega | assumption) only [List.length_drop, Sx, reduceCtorEq]
    · simp -implicitDefEqProofs (maxSteps := 1000000) (disch := first | omega | assumption) only [Sx, Nat.reduceEqDiff, reduceCtorEq]
    · simp -implicitDefEqProofs (maxSteps := 1000000) (disch := first | omega | assumption) only [Sx, Nat.reduceEqDiff, reduceCtorEq]
    · simp -implicitDefEqProofs (maxSteps := 1000000) (disch := first | omega | assumption) only [Sx, Nat.reduceEqDiff, reduceCtorEq]
    · rw [hG, List.map_append]
      have : (zs ++ [(m, ext)]).isEmpty = false := by cases zs <;> rfl
      rw [this]
      rfl
theorem comb_nil (r : Ex (List Int × List Mem)) : comb [] [] r = r := by cases r <;> rfl
theorem DL.start {H : Heap} : DL H H (.slice none 0 0) (.slice none 0 0) [] [] := ⟨Keep.refl _, .nil, .nil, (fun z hz => by cases hz), .nil, (fun z hz => by cases hz), (fun s hs => by cases hs), (fun s hs => by cases hs), fun z hz => by cases hz⟩
set_option maxHeartbeats 4000000 in
theorem gdec_spec {H : Heap} {q o c n : Nat} {b : List Int} {most : Int} (hT : TabO H) (hr : Row H (some ⟨q, o, none⟩) (by8 b)) (hn : n = b.length) (hc : b.length ≤ c) (hq : H q ≠ none) (hb : isBy b) (hbl : b.length ≤ 1048576) :
    ACalls Tryd.prog 6 [Value.slice (some ⟨q, o, none⟩) n c, .int .i64 most].toArray H fun e H' => DecP H (mdec (b.length + 1) true b most) e H' := by
  subst hn
  refine call6 (Nat.le_of_ble_eq_true rfl) ?_
  unfold L6 env0
  obtain ⟨G, hG⟩ : ∃ G, G = mdec (b.length + 1) true b most := ⟨_, rfl⟩
  rw [← hG]
  simp -implicitDefEqProofs (maxSteps := 1000000) (disch := first | omega | assumption) only [Sx]
  refine c_loop (fun k env H' => ∃ (o' c' : Nat) (b' : List Int) (most' : Int) (v w : Value) (pl : List Int) (zs : List (Mem × Value)), env 0 = .slice (some ⟨q, o', none⟩) b'.length c' ∧ env 1 = .int .i64 most' ∧ env 7 = v ∧ env 8 = w ∧ Row H (some ⟨q, o', none⟩) (by8 b') ∧ b'.length ≤ c' ∧ isBy b' ∧ b'.length < k ∧ DL H H' v w pl zs ∧ G = comb pl (zs.map Prod.fst) (mdec k zs.isEmpty b' most') ∧ zs.length + b'.length ≤ b.length ∧ pl.length ≤ 4194304 * zs.length) (b.length + 1)
    ⟨o, c, b, most, _, _, [], [], by (first | exact True.intro | rfl | assumption), by (first | exact True.intro | rfl | assumption), by (first | exact True.intro | rfl | assumption), by (first | exact True.intro | rfl | assumption), hr, hc, hb, Nat.lt_succ_self _, DL.start, by rw [List.map_nil, comb_nil]; exact hG, by simp, by simp⟩ ?_
  clear hG hr hc hb
  rintro k env H1 ⟨o', c', b', most', v, w, pl, zs, g0, g1, g7, g8, hr, hc, hb, hlk, d, hG, hzb, hpl⟩
  obtain ⟨k, rfl⟩ : ∃ k', k = k' + 1 := ⟨k - 1, by omega⟩
  unfold L6_1
  obtain ⟨Aw, cw, rfl⟩ := d.nw
  by_cases hz : zs.length = 0
  · have hie : zs.isEmpty = true := by rw [List.eq_nil_of_length_eq_zero hz]; rfl
    have f1 : ((zs.length : Int) == 0) = true := by rw [beq_iff_eq]; omega
    simp -implicitDefEqProofs (maxSteps := 1000000) (disch := first | omega | assumption) only [g8, f1, Sx, Nat.reduceEqDiff]
    refine gstep (k := k) (most := most') hT hr hc hq hb (by omega) d (by omega) hpl (.inl hie) hG ?_ ?_ ?_ ?_ ?_ ?_
    · simp -implicitDefEqProofs (maxSteps := 1000000) (disch := first | omega | assumption) only [g0, Sx, reduceCtorEq]
    · simp -implicitDefEqProofs (maxSteps := 1000000) (disch := first | omega | assumption) only [g1, Sx, Nat.reduceEqDiff]
    · simp -implicitDefEqProofs (maxSteps := 1000000) (disch := first | omega | assumption) only [g7, Sx, Nat.reduceEqDiff]
    · simp -implicitDefEqProofs (maxSteps := 1000000) (disch := first | omega | assumption) only [g8, Sx, Nat.reduceEqDiff]
    · intro env' H' er hG' hne kk e4 e5 e6
      simp -implicitDefEqProofs (maxSteps := 1000000) (disch := first | omega | assumption) only [e4, e5, e6, Sx]
      refine ⟨kk, ?_⟩
      rw [hG']
      exact ⟨rfl, hne⟩
    · intro env' H' o2 c2 b2 most2 v2 w2 pl2 zs2 e0 e1 e7 e8 hr2 hc2 hb2 hl2 d2 hG2 hz2 hp2 hi2
      simp -implicitDefEqProofs (maxSteps := 1000000) (disch := first | omega | assumption) only [Sx]
      exact ⟨k, Nat.lt_succ_self k, o2, c2, b2, most2, v2, w2, pl2, zs2, e0, e1, e7, e8, hr2, hc2, hb2, by omega, d2, hG2, by omega, hp2⟩
  have hie : zs.isEmpty = false := by cases zs; exact absurd rfl hz; rfl
  have f1 : ((zs.length : Int) == 0) = false := by rw [beq_eq_false_iff_ne]; omega
  simp -implicitDefEqProofs (maxSteps := 1000000) (disch := first | omega | assumption) only [g0, g8, f1, Sx, Nat.reduceEqDiff, reduceCtorEq]
  refine a_call (ctf_spec (d.k.row hr) rfl (by omega) hb) ?_
  rintro e H2 ⟨rfl, rfl⟩
  cases hzz : zerosB b' with
  | true =>
    rw [hie, comb_stop hzz] at hG
    have hsv := d.ov.scalar
    simp -implicitDefEqProofs (maxSteps := 1000000) (disch := first | omega | assumption) only [g7, g8, Sx, Nat.reduceEqDiff, Zx, endK]
    refine ⟨d.k, ?_⟩
    rw [hG]
    exact ⟨v, _, zs, by (first | exact True.intro | rfl | assumption), d, rfl⟩
  | false =>
    simp -implicitDefEqProofs (maxSteps := 1000000) (disch := first | omega | assumption) only [Sx, Nat.reduceEqDiff, Zx, endK]
    refine gstep (k := k) (most := most') hT hr hc hq hb (by omega) d (by omega) hpl (.inr hzz) hG ?_ ?_ ?_ ?_ ?_ ?_
    · simp -implicitDefEqProofs (maxSteps := 1000000) (disch := first | omega | assumption) only [g0, Sx, reduceCtorEq]
    · simp -implicitDefEqProofs (maxSteps := 1000000) (disch := first | omega | assumption) only [g1, Sx, Nat.reduceEqDiff]
    · simp -implicitDefEqProofs (maxSteps := 1000000) (disch := first | omega | assumption) only [g7, Sx, Nat.reduceEqDiff]
    · simp -implicitDefEqProofs (maxSteps := 1000000) (disch := first | omega | assumption) only [g8, Sx, Nat.reduceEqDiff]
    · intro env' H' er hG' hne kk e4 e5 e6
      simp -implicitDefEqProofs (maxSteps := 1000000) (disch := first | omega | assumption) only [e4, e5, e6, Sx]
      refine ⟨kk, ?_⟩
      rw [hG']
      exact ⟨rfl, hne⟩
    · intro env' H' o2 c2 b2 most2 v2 w2 pl2 zs2 e0 e1 e7 e8 hr2 hc2 hb2 hl2 d2 hG2 hz2 hp2 hi2
      simp -implicitDefEqProofs (maxSteps := 1000000) (disch := first | omega | assumption) only [Sx]
      exact ⟨k, Nat.lt_succ_self k, o2, c2, b2, most2, v2, w2, pl2, zs2, e0, e1, e7, e8, hr2, hc2, hb2, by omega, d2, hG2, by omega, hp2⟩
end Go.Proofs.YtgbhdpeibiglfaaDoor.S08

set_option linter.unusedVariables false
set_option linter.unusedSimpArgs false
namespace Go.Proofs.YtgbhdpeibiglfaaDoor.S08
open Go Go.RowKit Go.Proofs.YtgbhdpeibiglfaaDoor.Sep Go.Proofs.YtgbhdpeibiglfaaDoor.Low Go.Proofs.YtgbhdpeibiglfaaDoor.S05 Go.Proofs.YtgbhdpeibiglfaaDoor.S06
open Go.Proofs.YtgbhdpeibiglfaaDoor.Lib hiding by8 by8_scalar

set_option maxHeartbeats 8000000 in
set_option maxRecDepth 4000 in
theorem dstep {H0 H : Heap} {A : Option Addr} {c k : Nat} {b : List Int} {most : Int} {v w : Value} {pl : List Int} {zs : List (Mem × Value)} {G : Ex (List Int × List Mem)} {env : Env} {Q : Post} {QP : List PanicEntry → Heap → Prop} (hr : Row H0 A (by8 b)) (hc : b.length ≤ c) (hb : isBy b) (hbl : b.length ≤ 1048576) (d : DL H0 H v w pl zs) (hzl : zs.length ≤ 1048576) (hpl : pl.length ≤ 4194304 * zs.length) (hm0 : 0 ≤ most ∧ most ≤ 4194304)
    (hcn : zerosB b = false) (hG : G = comb pl (zs.map Prod.fst) (mdec (k + 1) false b (most - pl.length)))
    (g0 : env 0 = .slice A b.length c) (g1 : env 1 = .int .i64 most) (g7 : env 7 = v) (g11 : env 11 = w)
    (hbad : ∀ env' H' er, G = .error er → er ≠ 0 → Keep H0 H' → env' 4 = .slice none 0 0 → env' 5 = .slice none 0 0 → env' 6 = .int .i64 er → Q .ret env' H')
    (hok : ∀ env' H' A' c' b' v' w' pl' zs', env' 0 = .slice A' b'.length c' → env' 1 = .int .i64 most → env' 7 = v' → env' 11 = w' → Row H0 A' (by8 b') → b'.length ≤ c' → isBy b' → b'.length + 1 ≤ b.length → DL H0 H' v' w' pl' zs' → G = comb pl' (zs'.map Prod.fst) (mdec k false b' (most - pl'.length)) → zs'.length = zs.length + 1 → pl'.length ≤ 4194304 * zs'.length → Q .normal env' H') :
    awpC Tryd.prog L11_36 Q QP env H := by
  unfold L11_36
  obtain ⟨Aw, cw, rfl⟩ := d.nw
  obtain ⟨Av, cv, rfl, hcv, wv⟩ := Bo.row d.ov
  have e0 : IntKind.i64.wrap (most - (pl.length : Int)) = most - (pl.length : Int) := w_i64 (by omega)
  simp -implicitDefEqProofs (maxSteps := 1000000) (disch := first | omega | assumption) only [g0, g1, g7, e0, Sx, Nat.reduceEqDiff]
  refine a_call (done1_spec (most := most - pl.length) (d.k.row hr) rfl hc hb (by omega)) ?_
  rintro e H1 ⟨k1, hO⟩
  have d1 := d.more k1
  cases hM : mone b (most - pl.length) with
  | error er =>
    rw [hM] at hO
    rw [comb_bad (.inr hcn) hM] at hG
    obtain ⟨rfl, hne⟩ := hO
    obtain ⟨mv, hmv⟩ : ∃ mv, mv = memV m0 (.slice none 0 0) := ⟨_, rfl⟩
    have hsc := memV_scalar (m := m0) (ext := .slice none 0 0) rfl
    have hmz : mz = .agg mv.toArray := by rw [hmv]
    rw [← hmv] at hsc
    simp -implicitDefEqProofs (maxSteps := 1000000) (disch := first | omega | assumption) only [hmz, Sx, Nat.reduceEqDiff, endK]
    refine a_new fun r hr' => ?_
    try simp -implicitDefEqProofs (maxSteps := 1000000) (disch := first | omega | assumption) only [Sx, Nat.reduceEqDiff]
    refine st_all (old := memV m0 (.slice none 0 0)) (ci := mv) set_same (by rw [hmv]) (by rw [hmv]; rfl) hsc ?_
    rw [ml_set]
    have k2 : Keep H1 (H1.set r (.cells mv.toArray 26 (0, 0))) := (Keep.refl _).set_new hr'
    obtain ⟨H2, hH2⟩ : ∃ H2, H2 = H1.set r (.cells mv.toArray 26 (0, 0)) := ⟨_, rfl⟩
    rw [← hH2] at k2 ⊢
    clear hH2
    have kk := d1.k.trans k2
    have f3 : (er != 0) = true := bne_iff_ne.2 hne
    have f5 : ((5 : Int) != 0) = true := rfl
    unfold L11_0
    by_cases h130 : er = 130
    · have f1 : (er == 130) = true := beq_iff_eq.2 h130
      have hG : G = .error 5 := by rw [hG, if_pos ⟨h130, rfl⟩]
      try simp -implicitDefEqProofs (maxSteps := 1000000) (disch := first | omega | assumption) only [f1, f5, Sx, Nat.reduceEqDiff]
      exact hbad _ _ 5 hG (by decide) kk (by simp -implicitDefEqProofs (maxSteps := 1000000) (disch := first | omega | assumption) only [Sx, Nat.reduceEqDiff]) (by simp -implicitDefEqProofs (maxSteps := 1000000) (disch := first | omega | assumption) only [Sx, Nat.reduceEqDiff]) (by simp -implicitDefEqProofs (maxSteps := 1000000) (disch := first | omega | assumption) only [Sx, Nat.reduceEqDiff])
    · have f1 : (er == 130) = false := beq_eq_false_iff_ne.2 h130
      have hG : G = .error er := by rw [hG, if_neg (fun h => h130 h.1)]
      try simp -implicitDefEqProofs (maxSteps := 1000000) (disch := first | omega | assumption) only [f1, f3, Sx, Nat.reduceEqDiff]
      exact hbad _ _ er hG hne kk (by simp -implicitDefEqProofs (maxSteps := 1000000) (disch := first | omega | assumption) only [Sx, Nat.reduceEqDiff]) (by simp -implicitDefEqProofs (maxSteps := 1000000) (disch := first | omega | assumption) only [Sx, Nat.reduceEqDiff]) (by simp -implicitDefEqProofs (maxSteps := 1000000) (disch := first | omega | assumption) only [Sx, Nat.reduceEqDiff])
  | ok x =>
    rw [hM] at hO
    rw [comb_ok (.inr hcn) hM] at hG
    obtain ⟨vx, ext, rfl, hX, hE, fX, fE, hne, hxl⟩ := hO
    obtain ⟨hk8, hkb, hm1, hm2⟩ := mone_k hM
    obtain ⟨x, m, kx⟩ := x
    simp only at hG hX hE hxl hk8 hkb ⊢
    have hsX := hX.scalar
    have hsE := hE.scalar
    obtain ⟨me, hme⟩ : ∃ me, me = memV m ext := ⟨_, rfl⟩
    rw [← hme]
    simp -implicitDefEqProofs (maxSteps := 1000000) (disch := first | omega | assumption) only [Sx, Nat.reduceEqDiff, endK]
    refine a_new fun r hr' => ?_
    try simp -implicitDefEqProofs (maxSteps := 1000000) (disch := first | omega | assumption) only [Sx, Nat.reduceEqDiff]
    refine st_all (old := memV m0 (.slice none 0 0)) (ci := me) set_same (by rw [hme]; rfl) (by rw [hme]; rfl) (by rw [hme]; exact memV_scalar hsE) ?_
    rw [ml_set]
    obtain ⟨H2, hH2⟩ : ∃ H2, H2 = H1.set r (.cells me.toArray 26 (0, 0)) := ⟨_, rfl⟩
    have k2 : Keep H1 H2 := by rw [hH2]; exact (Keep.refl _).set_new hr'
    have b2 : H2 r = some (.cells (memV m ext).toArray 26 (0, 0)) := by rw [hH2, hme]; exact set_same
    rw [← hH2]
    clear hH2
    have d2 := d1.more k2
    have hX2 := hX.keep k2
    have hE2 := hE.keep k2
    have f1 : ((0 : Int) == 130) = false := rfl
    have f3 : ((0 : Int) != 0) = false := rfl
    unfold L11_0
    try simp -implicitDefEqProofs (maxSteps := 1000000) (disch := first | omega | assumption) only [f1, f3, Sx, Nat.reduceEqDiff]
    refine a_lits (sz := 1) (cells := #[]) rfl rfl ?_
    intro r3 H3 hO3 k3 hr3
    have wv3 := (k1.trans (k2.trans k3)).row wv
    try simp -implicitDefEqProofs (maxSteps := 1000000) (disch := first | omega | assumption) only [g7, Sx, Nat.reduceEqDiff]
    refine app_b (l := []) (x := pl) hO3 rfl rfl wv3 (by show 0 + pl.length ≤ _; omega) ?_
    intro v4 H4 hO4 ho4 hm4
    obtain ⟨k4, f4⟩ := grown2 k3 (v := .slice (some ⟨r3, 0, none⟩) 0 0) (by rintro q ⟨⟩; exact hr3) ho4 hm4
    rw [List.nil_append] at hO4
    have hs4 := hO4.scalar
    obtain ⟨Ax, cx, rfl, hcx, wx⟩ := Bo.row (hX2.keep k4)
    try simp -implicitDefEqProofs (maxSteps := 1000000) (disch := first | omega | assumption) only [Sx, Nat.reduceEqDiff]
    refine app_b hO4 rfl rfl wx (by omega) ?_
    intro v5 H5 hO5 ho5 hm5
    obtain ⟨k5, f5⟩ := grown2 k4 f4 ho5 hm5
    have d5 := d2.newV k5 hO5 f5
    have hE5 := hE2.keep k5
    have fEH : Fresh H0 ext := fun s hs => d.k.none (fE s hs)
    have nEv : ∀ s, own v5 = some s → own ext ≠ some s := fun s hs e => hE2.known e (f5 s hs)
    have nEz : ∀ z ∈ zs, ∀ s, own z.2 = some s → own ext ≠ some s := fun z hz s hs e => (d.ex z hz).known hs (fE s e)
    have hld5 := mem_load (k5 _ _ b2)
    rw [← hme] at hld5
    have hs5 := hO5.scalar
    try simp -implicitDefEqProofs (maxSteps := 1000000) (disch := first | omega | assumption) only [g11, ev_ldn, hld5, Sx, Nat.reduceEqDiff]
    refine lits_mem (by rw [hme]; rfl) ?_
    intro r6 H6 hO6 k6 hr6
    rw [hme] at hO6
    have d6 := d5.more k6
    try simp -implicitDefEqProofs (maxSteps := 1000000) (disch := first | omega | assumption) only [Sx, Nat.reduceEqDiff]
    refine push_mem d6.ow hzl hO6 hsE ?_
    intro w7 H7 hO7 ho7 hm7
    have d7 := d6.pushW hO7 ho7 hm7 (hE5.keep k6) fEH nEz nEv
    have hs7 := hO7.scalar
    have hin : (0 : Int) ≤ (kx : Int) ∧ (kx : Int) ≤ (b.length : Nat) := by omega
    try simp -implicitDefEqProofs (maxSteps := 1000000) (disch := first | omega | assumption) only [g0, ev_slc_lo, Sx, Nat.reduceEqDiff, reduceCtorEq]
    refine hok _ _ (cutA A c kx 1) (c - kx) (b.drop kx) v5 w7 (pl ++ x) (zs ++ [(m, ext)]) ?_ ?_ ?_ ?_ (row_drop hr hc) (by rw [List.length_drop]; omega) (hb.drop kx) (by rw [List.length_drop]; omega) d7 ?_ (by rw [List.length_append]; rfl) (by rw [List.length_append, List.length_append]; show _ ≤ 4194304 * (zs.length + 1); omega)
    · simp -implicitDefEqProofs (maxSteps := 1000000) (disch := first | omega | assumption) only [List.length_drop, Sx, reduceCtorEq]
    · simp -implicitDefEqProofs (maxSteps := 1000000) (disch := first | omega | assumption) only [g1, Sx, Nat.reduceEqDiff, reduceCtorEq]
    · simp -implicitDefEqProofs (maxSteps := 1000000) (disch := first | omega | assumption) only [Sx, Nat.reduceEqDiff, reduceCtorEq]
    · simp -implicitDefEqProofs (maxSteps := 1000000) (disch := first | omega | assumption) only [Sx, Nat.reduceEqDiff, reduceCtorEq]
    · rw [hG, List.map_append, List.length_append]
      have : most - (pl.length : Int) - (x.length : Int) = most - ((pl.length + x.length : Nat) : Int) := by omega
      rw [this]
      rfl
set_option maxHeartbeats 8000000 in
set_option maxRecDepth 4000 in
theorem ddec_spec {H : Heap} {A : Option Addr} {c n : Nat} {b : List Int} {most : Int} (hr : Row H A (by8 b)) (hn : n = b.length) (hc : b.length ≤ c) (hb : isBy b) (hbl : b.length ≤ 1048576) :
    ACalls Tryd.prog 11 [Value.slice A n c, .int .i64 most].toArray H fun e H' => DecP H (mdec (b.length + 1) true b most) e H' := by
  subst hn
  refine call11 (Nat.le_of_ble_eq_true rfl) ?_
  unfold L11 env0
  obtain ⟨G, hG⟩ : ∃ G, G = mdec (b.length + 1) true b most := ⟨_, rfl⟩
  rw [← hG]
  rw [← comb_nil (mdec (b.length + 1) true b most)] at hG
  simp -implicitDefEqProofs (maxSteps := 1000000) (disch := first | omega | assumption) only [Sx, Nat.reduceEqDiff, reduceCtorEq]
  refine a_call (done1_spec (most := most) hr rfl hc hb (by omega)) ?_
  rintro e H1 ⟨k1, hO⟩
  cases hM : mone b most with
  | error er =>
    rw [hM] at hO
    rw [comb_bad (.inl rfl) hM] at hG
    obtain ⟨rfl, hne⟩ := hO
    obtain ⟨mv, hmv⟩ : ∃ mv, mv = memV m0 (.slice none 0 0) := ⟨_, rfl⟩
    have hsc := memV_scalar (m := m0) (ext := .slice none 0 0) rfl
    have hmz : mz = .agg mv.toArray := by rw [hmv]
    rw [← hmv] at hsc
    simp -implicitDefEqProofs (maxSteps := 1000000) (disch := first | omega | assumption) only [hmz, Sx, Nat.reduceEqDiff, endK]
    refine a_new fun r hr' => ?_
    try simp -implicitDefEqProofs (maxSteps := 1000000) (disch := first | omega | assumption) only [Sx, Nat.reduceEqDiff]
    refine st_all (old := memV m0 (.slice none 0 0)) (ci := mv) set_same (by rw [hmv]) (by rw [hmv]; rfl) hsc ?_
    rw [ml_set]
    have k2 : Keep H1 (H1.set r (.cells mv.toArray 26 (0, 0))) := (Keep.refl _).set_new hr'
    have f3 : (er != 0) = true := bne_iff_ne.2 hne
    have hG : G = .error er := by rw [hG, if_neg (by rintro ⟨-, h⟩; cases h)]
    try simp -implicitDefEqProofs (maxSteps := 1000000) (disch := first | omega | assumption) only [f3, Sx, Nat.reduceEqDiff]
    refine ⟨k1.trans k2, ?_⟩
    rw [hG]
    exact ⟨by (first | exact True.intro | rfl | assumption), hne⟩
  | ok x =>
    rw [hM] at hO
    rw [comb_ok (.inl rfl) hM] at hG
    obtain ⟨vx, ext, rfl, hX, hE, fX, fE, hne, hxl⟩ := hO
    obtain ⟨hk8, hkb, hm1, hm2⟩ := mone_k hM
    obtain ⟨x, m, kx⟩ := x
    simp only at hG hX hE hxl hk8 hkb ⊢
    have hsX := hX.scalar
    have hsE := hE.scalar
    obtain ⟨me, hme⟩ : ∃ me, me = memV m ext := ⟨_, rfl⟩
    rw [← hme]
    simp -implicitDefEqProofs (maxSteps := 1000000) (disch := first | omega | assumption) only [Sx, Nat.reduceEqDiff, endK]
    refine a_new fun r hr' => ?_
    try simp -implicitDefEqProofs (maxSteps := 1000000) (disch := first | omega | assumption) only [Sx, Nat.reduceEqDiff]
    refine st_all (old := memV m0 (.slice none 0 0)) (ci := me) set_same (by rw [hme]; rfl) (by rw [hme]; rfl) (by rw [hme]; exact memV_scalar hsE) ?_
    rw [ml_set]
    obtain ⟨H2, hH2⟩ : ∃ H2, H2 = H1.set r (.cells me.toArray 26 (0, 0)) := ⟨_, rfl⟩
    have k2 : Keep H1 H2 := by rw [hH2]; exact (Keep.refl _).set_new hr'
    have b2 : H2 r = some (.cells (memV m ext).toArray 26 (0, 0)) := by rw [hH2, hme]; exact set_same
    rw [← hH2]
    clear hH2
    have hld := mem_load b2
    rw [← hme] at hld
    have f3 : ((0 : Int) != 0) = false := rfl
    try simp -implicitDefEqProofs (maxSteps := 1000000) (disch := first | omega | assumption) only [f3, ev_ldn, hld, Sx, Nat.reduceEqDiff]
    refine lits_mem (by rw [hme]; rfl) ?_
    intro r3 H3 hO3 k3 hr3
    rw [hme] at hO3
    have k13 := k1.trans (k2.trans k3)
    have d3 : DL H H3 vx (.slice (some ⟨r3, 0, none⟩) 1 1) x [(m, ext)] := ⟨k13, hX.keep (k2.trans k3), by rw [encs_one]; exact hO3, fun z hz => by rw [List.mem_singleton.1 hz]; exact hE.keep (k2.trans k3), List.pairwise_singleton _ _, fun z hz s hs => by rw [List.mem_singleton.1 hz]; exact hne s hs, fX, (fun s hs => by cases hs; exact k1.none (k2.none hr3)), fun z hz => by rw [List.mem_singleton.1 hz]; exact fE⟩
    have hin : (0 : Int) ≤ (kx : Int) ∧ (kx : Int) ≤ (b.length : Nat) := by omega
    have hdl : (b.drop kx).length = b.length - kx := List.length_drop
    try simp -implicitDefEqProofs (maxSteps := 1000000) (disch := first | omega | assumption) only [ev_slc_lo, Sx, Nat.reduceEqDiff, reduceCtorEq]
    refine c_loop (fun k env H' => ∃ (A' : Option Addr) (c' : Nat) (b' : List Int) (v w : Value) (pl : List Int) (zs : List (Mem × Value)), env 0 = .slice A' b'.length c' ∧ env 1 = .int .i64 most ∧ env 7 = v ∧ env 11 = w ∧ Row H A' (by8 b') ∧ b'.length ≤ c' ∧ isBy b' ∧ b'.length < k ∧ DL H H' v w pl zs ∧ G = comb pl (zs.map Prod.fst) (mdec k false b' (most - pl.length)) ∧ zs.length + b'.length ≤ b.length ∧ pl.length ≤ 4194304 * zs.length) b.length
      ⟨cutA A c kx 1, c - kx, b.drop kx, vx, _, x, [(m, ext)], by simp -implicitDefEqProofs (maxSteps := 1000000) (disch := first | omega | assumption) only [List.length_drop, Sx, reduceCtorEq], by simp -implicitDefEqProofs (maxSteps := 1000000) (disch := first | omega | assumption) only [Sx, Nat.reduceEqDiff, reduceCtorEq], by simp -implicitDefEqProofs (maxSteps := 1000000) (disch := first | omega | assumption) only [Sx, Nat.reduceEqDiff, reduceCtorEq], by simp -implicitDefEqProofs (maxSteps := 1000000) (disch := first | omega | assumption) only [Sx, Nat.reduceEqDiff, reduceCtorEq], row_drop hr hc, by omega, hb.drop kx, by omega, d3, hG, by show 1 + _ ≤ _; omega, by show x.length ≤ 4194304 * 1; omega⟩ ?_
    clear hG d3 hX hE hne hdl hin hO3
    rintro k env H4 ⟨A', c', b', v, w, pl, zs, g0, g1, g7, g11, hr4, hc4, hb4, hlk, d, hG, hzb, hpl⟩
    obtain ⟨k, rfl⟩ : ∃ k', k = k' + 1 := ⟨k - 1, by omega⟩
    unfold L11_1
    simp -implicitDefEqProofs (maxSteps := 1000000) (disch := first | omega | assumption) only [g0, Sx]
    refine a_call (dzeros_spec (d.k.row hr4) rfl (by omega)) ?_
    rintro e H5 ⟨rfl, rfl⟩
    cases hzz : zerosB b' with
    | true =>
      rw [comb_stop hzz] at hG
      have hsv := d.ov.scalar
      have hsw := d.ow.scalar
      simp -implicitDefEqProofs (maxSteps := 1000000) (disch := first | omega | assumption) only [g7, g11, Sx, Nat.reduceEqDiff, Zx, endK]
      refine ⟨d.k, ?_⟩
      rw [hG]
      exact ⟨v, w, zs, by (first | exact True.intro | rfl | assumption), d, rfl⟩
    | false =>
      simp -implicitDefEqProofs (maxSteps := 1000000) (disch := first | omega | assumption) only [Sx, Nat.reduceEqDiff, Zx, endK]
      refine dstep (k := k) (most := most) hr4 hc4 hb4 (by omega) d (by omega) hpl ⟨hm1, hm2⟩ hzz hG ?_ ?_ ?_ ?_ ?_ ?_
      · simp -implicitDefEqProofs (maxSteps := 1000000) (disch := first | omega | assumption) only [g0, Sx, reduceCtorEq]
      · simp -implicitDefEqProofs (maxSteps := 1000000) (disch := first | omega | assumption) only [g1, Sx, Nat.reduceEqDiff]
      · simp -implicitDefEqProofs (maxSteps := 1000000) (disch := first | omega | assumption) only [g7, Sx, Nat.reduceEqDiff]
      · simp -implicitDefEqProofs (maxSteps := 1000000) (disch := first | omega | assumption) only [g11, Sx, Nat.reduceEqDiff]
      · intro env' H' er hG' hne kk e4 e5 e6
        simp -implicitDefEqProofs (maxSteps := 1000000) (disch := first | omega | assumption) only [e4, e5, e6, Sx]
        refine ⟨kk, ?_⟩
        rw [hG']
        exact ⟨rfl, hne⟩
      · intro env' H' A2 c2 b2 v2 w2 pl2 zs2 e0 e1 e7 e11 hr2 hc2 hb2 hl2 d2 hG2 hz2 hp2
        simp -implicitDefEqProofs (maxSteps := 1000000) (disch := first | omega | assumption) only [Sx]
        exact ⟨k, Nat.lt_succ_self k, A2, c2, b2, v2, w2, pl2, zs2, e0, e1, e7, e11, hr2, hc2, hb2, by omega, d2, hG2, by omega, hp2⟩
end Go.Proofs.YtgbhdpeibiglfaaDoor.S08

set_option linter.unusedVariables false
set_option linter.unusedSimpArgs false
namespace Go.Proofs.YtgbhdpeibiglfaaDoor.S08
open Go Go.RowKit Go.Proofs.YtgbhdpeibiglfaaDoor.Sep Go.Proofs.YtgbhdpeibiglfaaDoor.Low Go.Proofs.YtgbhdpeibiglfaaDoor.S05 Go.Proofs.YtgbhdpeibiglfaaDoor.S06
open Go.Proofs.YtgbhdpeibiglfaaDoor.Lib hiding by8 by8_scalar

set_option maxHeartbeats 2000000 in
theorem same_spec {H : Heap} {m : Mem} {ext : Value} {B : Option Addr} {nb cb : Nat} (hE : Bo H ext m.extra) (hr : Row H B (by8 m.extra)) (hn : nb = m.extra.length) (hl : m.extra.length ≤ 137438953472) :
    ACalls Tryd.prog 13 [Value.agg (memV m ext).toArray, .agg (memV m (.slice B nb cb)).toArray].toArray H fun e H' => e = .returned (.bool true) ∧ Oth H ext H' := by
  refine call13 (Nat.le_of_ble_eq_true rfl) ?_
  unfold L13 env0
  simp -implicitDefEqProofs (maxSteps := 1000000) (disch := first | omega | assumption) only [Sx, reduceIte, Nat.reduceEqDiff, reduceCtorEq, Nat.reduceAdd, Nat.reduceSub, Nat.reduceLT, Zx, endK]
  refine a_box fun r2 hr2 => ?_
  obtain ⟨H1, hH1⟩ : ∃ H1, H1 = H.set r2 (.cells (memV m ext).toArray 26 (0, 0)) := ⟨_, rfl⟩
  have k1 : Keep H H1 := by rw [hH1]; exact (Keep.refl _).set_new hr2
  have b2 : H1 r2 = some (.cells (memV m ext).toArray 26 (0, 0)) := by rw [hH1]; exact set_same
  have hH1' : H.set r2 (.cells (Value.agg (memV m ext).toArray).cells 26 (0, 0)) = H1 := hH1.symm
  rw [hH1']
  clear hH1 hH1'
  try simp -implicitDefEqProofs (maxSteps := 1000000) (disch := first | omega | assumption) only [Sx, reduceIte, Nat.reduceEqDiff, reduceCtorEq, Nat.reduceAdd, Nat.reduceSub, Nat.reduceLT, Zx, endK]
  refine a_box fun r3 hr3 => ?_
  obtain ⟨H2, hH2⟩ : ∃ H2, H2 = H1.set r3 (.cells (memV m (.slice B nb cb)).toArray 26 (0, 0)) := ⟨_, rfl⟩
  have k2 : Keep H1 H2 := by rw [hH2]; exact (Keep.refl _).set_new hr3
  have b3 : H2 r3 = some (.cells (memV m (.slice B nb cb)).toArray 26 (0, 0)) := by rw [hH2]; exact set_same
  have hH2' : H1.set r3 (.cells (Value.agg (memV m (.slice B nb cb)).toArray).cells 26 (0, 0)) = H2 := hH2.symm
  rw [hH2']
  clear hH2 hH2'
  have b22 := k2 _ _ b2
  have qn : (txt m.name == txt m.name) = true := by simp
  have qc : (txt m.comment == txt m.comment) = true := by simp
  have qt : ((m.time : Int) != (m.time : Int)) = false := by simp
  have qf : (m.flags != m.flags) = false := by simp
  have qs : (m.system != m.system) = false := by simp
  have qx : (m.text == m.text) = true := by simp
  have qu : (m.sum == m.sum) = true := by simp
  have btt : (true != true) = false := rfl
  have bnt : (!true) = false := rfl
  try simp -implicitDefEqProofs (maxSteps := 1000000) (disch := first | omega | assumption) only [cell_of b22, cell_of b3, t_list, qn, qc, qt, qf, qs, qx, qu, btt, bnt, Sx, reduceIte, Nat.reduceEqDiff, reduceCtorEq, Nat.reduceAdd, Nat.reduceSub, Nat.reduceLT, Zx, endK]
  refine a_call (wiped_spec (hE.keep (k1.trans k2)) ((k1.trans k2).row hr) hn hl) ?_
  rintro e H3 ⟨rfl, ho⟩
  simp -implicitDefEqProofs (maxSteps := 1000000) (disch := first | omega | assumption) only [Sx, reduceIte, Nat.reduceEqDiff, reduceCtorEq, Nat.reduceAdd, Nat.reduceSub, Nat.reduceLT, Zx, endK]
  exact ⟨by (first | exact True.intro | rfl | assumption), (Only.of_keep (k1.trans k2)).trans ho fun s hs => .inl hs⟩
def outOne (r : Ex (List Int × Mem × Nat)) : List Int × Mem × Nat × Int := match r with
  | .ok x => (x.1, x.2.1, x.2.2, 0)
  | .error e => ([], m0, 0, e)
theorem OneP.all {H0 H' : Heap} {b : List Int} {most : Int} {e : Ending} (h : OneP H0 b most e H') : Keep H0 H' ∧ ∃ v ext, e = .returned (.tuple #[v, .agg (memV (outOne (mone b most)).2.1 ext).toArray, .int .i64 ((outOne (mone b most)).2.2.1 : Nat), .int .i64 (outOne (mone b most)).2.2.2]) ∧ Bo H' v (outOne (mone b most)).1 ∧ Bo H' ext (outOne (mone b most)).2.1.extra ∧ Fresh H0 v ∧ Fresh H0 ext ∧ (∀ s, own v = some s → own ext ≠ some s) ∧ (outOne (mone b most)).1.length ≤ 4194304 := by
  obtain ⟨hk, h⟩ := h
  refine ⟨hk, ?_⟩
  cases hG : mone b most with
  | ok x =>
    rw [hG] at h
    exact h
  | error er =>
    rw [hG] at h
    exact ⟨.slice none 0 0, .slice none 0 0, h.1, .nil, .nil, (fun s hs => by cases hs), (fun s hs => by cases hs), (fun s hs => by cases hs), Nat.zero_le _⟩
/-- what Decode told, as it stands on the heap -/
structure MS (H : Heap) (v w : Value) (pl : List Int) (zs : List (Mem × Value)) : Prop where
  ov : Bo H v pl
  ow : Own H 26 8 w (encs enM zs)
  ex : ∀ z ∈ zs, Bo H z.2 z.1.extra
  pw : zs.Pairwise fun a b => ∀ s, own a.2 = some s → own b.2 ≠ some s
  vx : ∀ z ∈ zs, ∀ s, own v = some s → own z.2 ≠ some s
theorem MS.only {S : Nat → Prop} {H H' : Heap} {v w : Value} {pl : List Int} {zs : List (Mem × Value)} (s : MS H v w pl zs) (ho : Only S H H') (hv : ∀ x, own v = some x → ¬ S x) (hw : ∀ x, own w = some x → ¬ S x) (hx : ∀ z ∈ zs, ∀ x, own z.2 = some x → ¬ S x) : MS H' v w pl zs :=
  ⟨s.ov.only ho hv, s.ow.only ho hw, fun z hz => (s.ex z hz).only ho (hx z hz), s.pw, s.vx⟩
theorem MS.keep {H H' : Heap} {v w : Value} {pl : List Int} {zs : List (Mem × Value)} (s : MS H v w pl zs) (hk : Keep H H') : MS H' v w pl zs := ⟨s.ov.keep hk, s.ow.keep hk, fun z hz => (s.ex z hz).keep hk, s.pw, s.vx⟩
/-- blocks of before -/
theorem MS.old {H0 H H' : Heap} {u v w : Value} {l : List Int} {pl : List Int} {zs : List (Mem × Value)} (s : MS H v w pl zs) (hu : Bo H0 u l) (fv : Fresh H0 v) (fw : Fresh H0 w) (fx : ∀ z ∈ zs, Fresh H0 z.2) (ho : Oth H u H') : MS H' v w pl zs :=
  s.only ho (fun x hx e => hu.known e (fv x hx)) (fun x hx e => hu.known e (fw x hx)) (fun z hz x hx e => hu.known e (fx z hz x hx))
def outDec (r : Ex (List Int × List Mem)) : List Int × List Mem × Int := match r with
  | .ok x => (x.1, x.2, 0)
  | .error e => ([], [], e)
theorem DecP.all {H0 H' : Heap} {G : Ex (List Int × List Mem)} {e : Ending} (h : DecP H0 G e H') : Keep H0 H' ∧ ∃ v w zs, e = .returned (.tuple #[v, w, .int .i64 (outDec G).2.2]) ∧ MS H' v w (outDec G).1 zs ∧ zs.map Prod.fst = (outDec G).2.1 ∧ Fresh H0 v ∧ Fresh H0 w ∧ ∀ z ∈ zs, Fresh H0 z.2 := by
  obtain ⟨hk, h⟩ := h
  refine ⟨hk, ?_⟩
  cases G with
  | ok x =>
    obtain ⟨v, w, zs, he, d, hz⟩ := h
    exact ⟨v, w, zs, he, ⟨d.ov, d.ow, d.ex, d.pw, d.vx⟩, hz, d.fv, d.fw, d.fx⟩
  | error er => exact ⟨.slice none 0 0, .slice none 0 0, [], h.1, ⟨.nil, .nil, (fun z hz => by cases hz), .nil, (fun z hz => by cases hz)⟩, rfl, (fun s hs => by cases hs), (fun s hs => by cases hs), fun z hz => by cases hz⟩
theorem mone_len {b : List Int} {most : Int} {x : List Int × Mem × Nat} (h : mone b most = .ok x) : (x.1.length : Int) ≤ most := by
  have hk := mone_k h
  unfold mone at h
  split at h
  · cases h
  rename_i hb
  cases hM : mhead b with
  | error e => rw [hM] at h; cases h
  | ok y =>
    rw [hM] at h
    have h : (mbody b most y.2).bind (fun z => Except.ok (z.1, y.1, z.2)) = Except.ok x := h
    unfold mbody at h
    split at h
    · cases h
    have hx : x.1 = (decV (b.drop y.2) most).1 := by
      unfold mtail at h
      split at h
      · cases h
      split at h
      · cases h
      split at h
      · cases h
      cases h
      rfl
    rw [hx]
    unfold decV
    rw [if_neg hb]
    cases hI : infl (b.drop y.2) most.toNat with
    | ok u t o =>
      obtain ⟨-, -, i3, -, -⟩ := infl_ok hI
      show (o.length : Int) ≤ most
      omega
    | bad e o => show ((0 : Nat) : Int) ≤ most; omega
theorem mdec_len : ∀ {f : Nat} {first : Bool} {b : List Int} {most : Int} {y : List Int × List Mem}, mdec f first b most = .ok y → (y.1.length : Int) ≤ max most 0 ∧ (first = true → most ≤ 4194304)
  | 0, _, _, _, _, h => by cases h
  | f + 1, first, b, most, y, h => by
    rw [mdec] at h
    split at h
    · rename_i hc
      cases h
      refine ⟨by show ((0 : Nat) : Int) ≤ _; omega, fun e => ?_⟩
      rw [hc.1] at e
      cases e
    · cases hM : mone b most with
      | error e => rw [hM] at h; cases h
      | ok x =>
        rw [hM] at h
        obtain ⟨x1, x2, x3⟩ := x
        simp only at h
        have h1 := mone_len hM
        have h2 := mone_k hM
        simp only at h1
        cases hD : mdec f false (b.drop x3) (most - x1.length) with
        | error e => rw [hD] at h; cases h
        | ok z =>
          rw [hD] at h
          obtain ⟨h3, -⟩ := mdec_len hD
          cases h
          refine ⟨?_, fun _ => h2.2.2.2⟩
          show ((x1 ++ z.1).length : Int) ≤ _
          rw [List.length_append]
          omega
end Go.Proofs.YtgbhdpeibiglfaaDoor.S08

set_option linter.unusedVariables false
set_option linter.unusedSimpArgs false
namespace Go.Proofs.YtgbhdpeibiglfaaDoor.S08
open Go Go.RowKit Go.Proofs.YtgbhdpeibiglfaaDoor.Sep Go.Proofs.YtgbhdpeibiglfaaDoor.Low Go.Proofs.YtgbhdpeibiglfaaDoor.S05 Go.Proofs.YtgbhdpeibiglfaaDoor.S06
open Go.Proofs.YtgbhdpeibiglfaaDoor.Lib hiding by8 by8_scalar

theorem mhead_extra {b : List Int} {x : Mem × Nat} (h : mhead b = .ok x) : x.1.extra.length ≤ b.length := by
  unfold mhead at h
  cases h1 : mten b with
  | error e => rw [h1] at h; cases h
  | ok u =>
    rw [h1] at h
    cases h2 : mextra b with
    | error e => rw [h2] at h; cases h
    | ok y =>
      rw [h2] at h
      have hy : y.1.length ≤ b.length := by
        unfold mextra at h2
        split at h2
        · cases h2; exact Nat.zero_le _
        split at h2
        · cases h2
        split at h2
        · cases h2
        cases h2
        show ((b.drop 12).take _).length ≤ _
        rw [List.length_take, List.length_drop]
        omega
      cases h3 : mtextIf b 8 y.2 with
      | error e =>
        have h : ((mtextIf b 8 y.2).bind fun n => (mtextIf b 16 n.2).bind fun c => (msum b c.2).bind fun z => Except.ok ((⟨n.1, c.1, y.1, Go.Proofs.YtgbhdpeibiglfaaDoor.S08.le ((b.drop 4).take 4), b.getD 8 0, b.getD 9 0, fl b % 2 == 1, fl b / 2 % 2 == 1⟩ : Mem), z)) = Except.ok x := h
        rw [h3] at h; cases h
      | ok n =>
        have h : ((mtextIf b 8 y.2).bind fun n => (mtextIf b 16 n.2).bind fun c => (msum b c.2).bind fun z => Except.ok ((⟨n.1, c.1, y.1, Go.Proofs.YtgbhdpeibiglfaaDoor.S08.le ((b.drop 4).take 4), b.getD 8 0, b.getD 9 0, fl b % 2 == 1, fl b / 2 % 2 == 1⟩ : Mem), z)) = Except.ok x := h
        rw [h3] at h
        have h : ((mtextIf b 16 n.2).bind fun c => (msum b c.2).bind fun z => Except.ok ((⟨n.1, c.1, y.1, Go.Proofs.YtgbhdpeibiglfaaDoor.S08.le ((b.drop 4).take 4), b.getD 8 0, b.getD 9 0, fl b % 2 == 1, fl b / 2 % 2 == 1⟩ : Mem), z)) = Except.ok x := h
        cases h4 : mtextIf b 16 n.2 with
        | error e => rw [h4] at h; cases h
        | ok cc =>
          rw [h4] at h
          have h : ((msum b cc.2).bind fun z => Except.ok ((⟨n.1, cc.1, y.1, Go.Proofs.YtgbhdpeibiglfaaDoor.S08.le ((b.drop 4).take 4), b.getD 8 0, b.getD 9 0, fl b % 2 == 1, fl b / 2 % 2 == 1⟩ : Mem), z)) = Except.ok x := h
          cases h5 : msum b cc.2 with
          | error e => rw [h5] at h; cases h
          | ok z =>
            rw [h5] at h
            cases h
            exact hy
theorem mone_extra {b : List Int} {most : Int} {x : List Int × Mem × Nat} (h : mone b most = .ok x) : x.2.1.extra.length ≤ b.length := by
  unfold mone at h
  split at h
  · cases h
  cases hM : mhead b with
  | error e => rw [hM] at h; cases h
  | ok y =>
    rw [hM] at h
    have h : (mbody b most y.2).bind (fun z => Except.ok (z.1, y.1, z.2)) = Except.ok x := h
    cases hB : mbody b most y.2 with
    | error e => rw [hB] at h; cases h
    | ok z =>
      rw [hB] at h
      cases h
      show y.1.extra.length ≤ _
      exact mhead_extra hM
theorem mdec_extra : ∀ {f : Nat} {first : Bool} {b : List Int} {most : Int} {y : List Int × List Mem}, mdec f first b most = .ok y → ∀ m ∈ y.2, m.extra.length ≤ b.length
  | 0, _, _, _, _, h => by cases h
  | f + 1, first, b, most, y, h => by
    rw [mdec] at h
    split at h
    · cases h
      intro m hm
      cases hm
    · cases hM : mone b most with
      | error e => rw [hM] at h; cases h
      | ok x =>
        rw [hM] at h
        obtain ⟨x1, x2, x3⟩ := x
        simp only at h
        have h1 := mone_extra hM
        cases hD : mdec f false (b.drop x3) (most - x1.length) with
        | error e => rw [hD] at h; cases h
        | ok z =>
          rw [hD] at h
          have h3 := mdec_extra hD
          cases h
          intro m hm
          rcases List.mem_cons.1 hm with rfl | hm
          · exact h1
          · have := h3 m hm
            rw [List.length_drop] at this
            omega
theorem nw8 {H : Heap} {w : Value} {zs : List (Mem × Value)} (h : Own H 26 8 w (encs enM zs)) : ∃ A c, w = .slice A zs.length c ∧ Row H A (encs enM zs) := by
  obtain ⟨A, n, c, e, hn, -, hr⟩ := h.view
  rw [encs_len enM_len] at hn
  exact ⟨A, c, by rw [e, show n = zs.length by omega], hr⟩
theorem mdec_cnt : ∀ {f : Nat} {first : Bool} {b : List Int} {most : Int} {y : List Int × List Mem}, mdec f first b most = .ok y → y.2.length ≤ b.length
  | 0, _, _, _, _, h => by cases h
  | f + 1, first, b, most, y, h => by
    rw [mdec] at h
    split at h
    · cases h
      exact Nat.zero_le _
    · cases hM : mone b most with
      | error e => rw [hM] at h; cases h
      | ok x =>
        rw [hM] at h
        obtain ⟨x1, x2, x3⟩ := x
        simp only at h
        obtain ⟨h1, h2, -⟩ := mone_k hM
        simp only at h1 h2
        cases hD : mdec f false (b.drop x3) (most - x1.length) with
        | error e => rw [hD] at h; cases h
        | ok z =>
          rw [hD] at h
          have h3 := mdec_cnt hD
          cases h
          rw [List.length_drop] at h3
          show (x2 :: z.2).length ≤ _
          rw [List.length_cons]
          omega
/-- the members one by one -/
structure G3 (H0 H3 H9 H : Heap) (w z w2 : Value) (pl : List Int) (zs zs2 : List (Mem × Value)) : Prop where
  k : Keep H0 H
  fz0 : ∀ x ∈ zs, Fresh H0 x.2
  ow : Own H 26 8 w (encs enM zs)
  ex : ∀ x ∈ zs, Bo H x.2 x.1.extra
  pw : zs.Pairwise fun a b => ∀ s, own a.2 = some s → own b.2 ≠ some s
  m2 : MS H z w2 pl zs2
  old : ∀ x ∈ zs, Bo H9 x.2 x.1.extra
  fz1 : Fresh H9 z
  fw2 : Fresh H9 w2
  fz2 : ∀ x ∈ zs2, Fresh H9 x.2
  same : zs.map Prod.fst = zs2.map Prod.fst
  len : ∀ x ∈ zs, x.1.extra.length ≤ 1048576
  cnt : zs.length ≤ 1048576
theorem nwi {H : Heap} {A A' : Option Addr} {n c : Nat} {zs : List (Mem × Value)} (h : Own H 26 8 (.slice A n c) (encs enM zs)) : Row H A (encs enM zs) := by
  obtain ⟨_, _, e, hr⟩ := nw8 h
  cases e
  exact hr
set_option maxHeartbeats 4000000 in
theorem gz3 {H0 H3 H9 H : Heap} {z : Value} {pl : List Int} {zs zs2 : List (Mem × Value)} {Aw Aw2 : Option Addr} {cw cw2 : Nat} {env : Env} {QP : List PanicEntry → Heap → Prop} (G : G3 H0 H3 H9 H (.slice Aw zs.length cw) z (.slice Aw2 zs2.length cw2) pl zs zs2) (h11 : env 11 = .slice Aw zs.length cw) (h19 : env 19 = .slice Aw2 zs2.length cw2) :
    awpC Tryd.prog L3_21 (retQ [RV.t 4] fun e H' => e = .returned (.bool true) ∧ Keep H0 H') QP env H := by
  unfold L3_21
  have hll : zs.length = zs2.length := by
    have := congrArg List.length G.same
    rwa [List.length_map, List.length_map] at this
  have hcnt := G.cnt
  have hpw := List.pairwise_iff_getElem.1 G.pw
  have bnt : (!true) = false := rfl
  simp -implicitDefEqProofs (maxSteps := 1000000) (disch := first | omega | assumption) only [Sx]
  refine c_loop (fun k env H' => ∃ i, k + i = zs.length ∧ env 11 = .slice Aw zs.length cw ∧ env 19 = .slice Aw2 zs2.length cw2 ∧ env 21 = .int .i64 (i : Nat) ∧ Own H' 26 8 (.slice Aw zs.length cw) (encs enM zs) ∧ (∀ j (hj : j < zs.length), i ≤ j → Bo H' zs[j].2 zs[j].1.extra) ∧ MS H' z (.slice Aw2 zs2.length cw2) pl zs2 ∧ Keep H0 H') zs.length
    ⟨0, by omega, by simp -implicitDefEqProofs (maxSteps := 1000000) (disch := first | omega | assumption) only [h11, Sx, Nat.reduceEqDiff], by simp -implicitDefEqProofs (maxSteps := 1000000) (disch := first | omega | assumption) only [h19, Sx, Nat.reduceEqDiff], by (first | exact True.intro | rfl | assumption), G.ow, fun j hj _ => G.ex _ (List.getElem_mem hj), G.m2, G.k⟩ ?_
  rintro k env H14 ⟨i, hk, g11, g19, g21, hW, hE, hM2, kk14⟩
  unfold L3_0
  by_cases hi : i < zs.length
  · have f0 : decide ((i : Int) < (zs.length : Int)) = true := decide_eq_true (by omega)
    have hin1 : (0 : Int) ≤ (i : Int) ∧ (i : Int) < (zs.length : Nat) := by omega
    have hin2 : (0 : Int) ≤ (i : Int) ∧ (i : Int) < (zs2.length : Nat) := by omega
    have hi2 : i < zs2.length := by omega
    have hrow := nwi (A' := none) hW
    have hrow2 := nwi (A' := none) hM2.ow
    obtain ⟨ba, rfl, hld1, -⟩ := elemR enM_len (by decide) hrow hi
    obtain ⟨ba2, rfl, hld2, -⟩ := elemR enM_len (by decide) hrow2 hi2
    have hEi := hE i hi (Nat.le_refl _)
    have hE2i := hM2.ex _ (List.getElem_mem hi2)
    have hml := G.len _ (List.getElem_mem hi)
    have hfst : zs2[i].1 = zs[i].1 := by
      have h1 : (zs.map Prod.fst)[i]? = (zs2.map Prod.fst)[i]? := by rw [G.same]
      rw [List.getElem?_map, List.getElem?_map, List.getElem?_eq_getElem hi, List.getElem?_eq_getElem hi2] at h1
      exact (Option.some.inj h1).symm
    have hmb := G.old _ (List.getElem_mem hi)
    have hpi := fun j hj hij => hpw i j hi hj hij
    obtain ⟨m1, hm1⟩ : ∃ m1, m1 = zs[i].1 := ⟨_, rfl⟩
    obtain ⟨e1, he1⟩ : ∃ e1, e1 = zs[i].2 := ⟨_, rfl⟩
    have hen1 : enM zs[i] = memV m1 e1 := by rw [hm1, he1]
    rw [← hm1] at hEi hml hfst hmb
    rw [← he1] at hEi hmb
    rw [hfst] at hE2i
    obtain ⟨A2, c2, e2, -, w2'⟩ := Bo.row hE2i
    have hen2 : enM zs2[i] = memV m1 (.slice A2 m1.extra.length c2) := by show memV zs2[i].1 zs2[i].2 = _; rw [hfst, e2]
    obtain ⟨n1, hn1⟩ : ∃ n1, n1 = enM zs[i] := ⟨_, rfl⟩
    obtain ⟨n2, hn2⟩ : ∃ n2, n2 = enM zs2[i] := ⟨_, rfl⟩
    rw [← hn1] at hld1
    rw [← hn2] at hld2
    simp -implicitDefEqProofs (maxSteps := 1000000) (disch := first | omega | assumption) only [g11, g19, g21, f0, ev_ldn, hld1, hld2, Sx, Nat.reduceEqDiff]
    rw [hn1, hn2, hen1, hen2]
    refine a_call (same_spec hEi w2' rfl (by omega)) ?_
    rintro e H15 ⟨rfl, ho⟩
    simp -implicitDefEqProofs (maxSteps := 1000000) (disch := first | omega | assumption) only [bnt, g11, g19, g21, Sx, Nat.reduceEqDiff, endK]
    refine ⟨k - 1, by omega, i + 1, by omega, by (first | exact True.intro | rfl | assumption), by (first | exact True.intro | rfl | assumption), by simp, hW.only ho (fun s hs e => apart hW hEi (by decide) hs e), fun j hj hij => ?_, hM2.old hmb G.fz1 G.fw2 G.fz2 ho, ?_⟩
    · refine (hE j hj (by omega)).only ho fun s hs e => ?_
      rw [he1] at e
      exact hpi j hj (by omega) s e hs
    · exact ho.keep kk14 fun s hs => G.fz0 _ (List.getElem_mem hi) s (by rw [← he1]; exact hs)
  · have f0 : decide ((i : Int) < (zs.length : Int)) = false := decide_eq_false (by omega)
    simp -implicitDefEqProofs (maxSteps := 1000000) (disch := first | omega | assumption) only [g11, g21, f0, Sx, Nat.reduceEqDiff]
    exact ⟨by (first | exact True.intro | rfl | assumption), kk14⟩
/-- what stands before the answers are held against each other -/
structure G2 (H0 H3 H9 H : Heap) (p mx my q w z w2 : Value) (r7 r15 : Nat) (px : List Int) (m : Mem) (pl : List Int) (zs zs2 : List (Mem × Value)) : Prop where
  k : Keep H0 H
  p3 : Bo H3 p px
  x3 : Bo H3 mx m.extra
  p9 : Bo H9 p px
  x9 : Bo H9 mx m.extra
  pp : Bo H p px
  xx : Bo H mx m.extra
  zz : Bo H my m.extra
  npx : ∀ s, own p = some s → own mx ≠ some s
  npy : ∀ s, own p = some s → own my ≠ some s
  m1 : MS H q w pl zs
  m9 : MS H9 q w pl zs
  m2 : MS H z w2 pl zs2
  fq : Fresh H3 q
  fw : Fresh H3 w
  fz : ∀ x ∈ zs, Fresh H3 x.2
  fz1 : Fresh H9 z
  fw2 : Fresh H9 w2
  fz2 : ∀ x ∈ zs2, Fresh H9 x.2
  b7 : H r7 = some (.cells (memV m mx).toArray 26 (0, 0))
  b15 : H r15 = some (.cells (memV m my).toArray 26 (0, 0))
  f0p : Fresh H0 p
  f0x : Fresh H0 mx
  f0q : Fresh H0 q
  f0z : ∀ x ∈ zs, Fresh H0 x.2
  same : zs.map Prod.fst = zs2.map Prod.fst
  len : ∀ x ∈ zs, x.1.extra.length ≤ 1048576
  cnt : zs.length ≤ 1048576
  lp : px.length ≤ 4194304
  lx : m.extra.length ≤ 1048576
  ll : pl.length ≤ 4194304
set_option maxHeartbeats 8000000 in
set_option maxRecDepth 4000 in
theorem gz2 {H0 H3 H9 H : Heap} {p mx my q w z w2 : Value} {r7 r15 : Nat} {px : List Int} {m : Mem} {pl : List Int} {zs zs2 : List (Mem × Value)} {kk : Nat} {er er2 : Int} {Ay : Option Addr} {cy : Nat} {env : Env} {QP : List PanicEntry → Heap → Prop} (G : G2 H0 H3 H9 H p mx my q w z w2 r7 r15 px m pl zs zs2) (wy : Row H Ay (by8 px))
    (h6 : env 6 = p) (h7 : env 7 = .pointer (some ⟨r7, 0, none⟩)) (h8 : env 8 = .int .i64 (kk : Nat)) (h9 : env 9 = .int .i64 er) (h10 : env 10 = q) (h11 : env 11 = w) (h12 : env 12 = .int .i64 er2) (h14 : env 14 = .slice Ay px.length cy) (h15 : env 15 = .pointer (some ⟨r15, 0, none⟩)) (h16 : env 16 = .int .i64 (kk : Nat)) (h17 : env 17 = .int .i64 er) (h18 : env 18 = z) (h19 : env 19 = w2) (h20 : env 20 = .int .i64 er2) :
    awpC Tryd.prog L3_75 (retQ [RV.t 4] fun e H' => e = .returned (.bool true) ∧ Keep H0 H') QP env H := by
  unfold L3_75
  have qe : (er != er) = false := by simp
  have qk : ((kk : Int) != (kk : Int)) = false := by simp
  have qe2 : (er2 != er2) = false := by simp
  have bnt : (!true) = false := rfl
  have hlp := G.lp
  have hlx := G.lx
  have hll0 := G.ll
  have hcnt := G.cnt
  simp -implicitDefEqProofs (maxSteps := 1000000) (disch := first | omega | assumption) only [h6, h8, h9, h14, h16, h17, qe, qk, Sx, Nat.reduceEqDiff]
  refine a_call (wiped_spec G.pp wy rfl (by omega)) ?_
  rintro e H11 ⟨rfl, ho11⟩
  have hX11 : Bo H11 mx m.extra := G.xx.only ho11 fun s hs e => G.npx s e hs
  have hM11 := G.m1.old G.p3 G.fq G.fw G.fz ho11
  have hZ11 : Bo H11 my m.extra := G.zz.only ho11 fun s hs e => G.npy s e hs
  have hM211 := G.m2.old G.p9 G.fz1 G.fw2 G.fz2 ho11
  have b711 := ho11.oth _ _ G.b7 fun e => G.pp.elem G.b7 (by decide) e
  have b1511 := ho11.oth _ _ G.b15 fun e => G.pp.elem G.b15 (by decide) e
  have kk11 : Keep H0 H11 := ho11.keep G.k G.f0p
  have hl7 := mem_load b711
  have hl15 := mem_load b1511
  obtain ⟨me, hme⟩ : ∃ me, me = memV m mx := ⟨_, rfl⟩
  obtain ⟨me2, hme2⟩ : ∃ me2, me2 = memV m my := ⟨_, rfl⟩
  rw [← hme] at hl7
  rw [← hme2] at hl15
  obtain ⟨Az, cz, ez, -, wz⟩ := Bo.row hZ11
  simp -implicitDefEqProofs (maxSteps := 1000000) (disch := first | omega | assumption) only [bnt, h7, h15, ev_ldn, hl7, hl15, Sx, Nat.reduceEqDiff, endK]
  rw [hme, hme2, ez]
  refine a_call (same_spec hX11 wz rfl (by omega)) ?_
  rintro e H12 ⟨rfl, ho12⟩
  have hM12 := hM11.old G.x3 G.fq G.fw G.fz ho12
  have hM212 := hM211.old G.x9 G.fz1 G.fw2 G.fz2 ho12
  have kk12 : Keep H0 H12 := ho12.keep kk11 G.f0x
  obtain ⟨Aq, cq, eq, -, wq⟩ := Bo.row hM212.ov
  simp -implicitDefEqProofs (maxSteps := 1000000) (disch := first | omega | assumption) only [bnt, h10, h12, h18, h20, qe2, Sx, Nat.reduceEqDiff, endK]
  rw [eq]
  refine a_call (wiped_spec hM12.ov wq rfl (by omega)) ?_
  rintro e H13 ⟨rfl, ho13⟩
  have hM213 := hM212.old G.m9.ov G.fz1 G.fw2 G.fz2 ho13
  have kk13 : Keep H0 H13 := ho13.keep kk12 G.f0q
  have hW13 : Own H13 26 8 w (encs enM zs) := hM12.ow.only ho13 fun s hs e => apart hM12.ow hM12.ov (by decide) hs e
  have hE13 : ∀ x ∈ zs, Bo H13 x.2 x.1.extra := fun x hx => (hM12.ex x hx).only ho13 fun s hs e => hM12.vx x hx s e hs
  obtain ⟨Aw, cw, ew, -⟩ := nw8 hW13
  obtain ⟨Aw2, cw2, ew2, -⟩ := nw8 hM213.ow
  have hll : zs.length = zs2.length := by
    have := congrArg List.length G.same
    rwa [List.length_map, List.length_map] at this
  have ql : ((zs.length : Int) != (zs2.length : Int)) = false := by rw [bne_eq_false_iff_eq]; omega
  rw [ew] at h11 hW13
  rw [ew2] at h19 hM213
  simp -implicitDefEqProofs (maxSteps := 1000000) (disch := first | omega | assumption) only [bnt, h11, h19, ql, Sx, Nat.reduceEqDiff, endK]
  refine gz3 (H3 := H3) ⟨kk13, G.f0z, hW13, hE13, G.m1.pw, hM213, G.m9.ex, G.fz1, by rw [← ew2]; exact G.fw2, G.fz2, G.same, G.len, G.cnt⟩ ?_ ?_
  · simp -implicitDefEqProofs (maxSteps := 1000000) (disch := first | omega | assumption) only [h11, Sx, Nat.reduceEqDiff]
  · simp -implicitDefEqProofs (maxSteps := 1000000) (disch := first | omega | assumption) only [h19, Sx, Nat.reduceEqDiff]
/-- what stands before the document is asked -/
structure G1 (H0 H3 H6 : Heap) (p mx q w : Value) (r7 : Nat) (px : List Int) (m : Mem) (pl : List Int) (zs : List (Mem × Value)) : Prop where
  k6 : Keep H0 H6
  p3 : Bo H3 p px
  x3 : Bo H3 mx m.extra
  p6 : Bo H6 p px
  x6 : Bo H6 mx m.extra
  npx : ∀ s, own p = some s → own mx ≠ some s
  m6 : MS H6 q w pl zs
  fq : Fresh H3 q
  fw : Fresh H3 w
  fz : ∀ x ∈ zs, Fresh H3 x.2
  b7 : H6 r7 = some (.cells (memV m mx).toArray 26 (0, 0))
  f0p : Fresh H0 p
  f0x : Fresh H0 mx
  f0q : Fresh H0 q
  f0z : ∀ x ∈ zs, Fresh H0 x.2
  len : ∀ x ∈ zs, x.1.extra.length ≤ 1048576
  cnt : zs.length ≤ 1048576
  lp : px.length ≤ 4194304
  lx : m.extra.length ≤ 1048576
  ll : pl.length ≤ 4194304
set_option maxHeartbeats 16000000 in
set_option maxRecDepth 4000 in
theorem gz1 {H H3 H7 : Heap} {A : Option Addr} {c : Nat} {b : List Int} {most : Int} {p mx q w : Value} {r7 : Nat} {px : List Int} {m : Mem} {pl : List Int} {ms : List Mem} {zs : List (Mem × Value)} {kk : Nat} {er er2 : Int} {env : Env} {QP : List PanicEntry → Heap → Prop} (hA : Row H A (by8 b)) (hc : b.length ≤ c) (hb : isBy b) (hl : b.length ≤ 1048576) (G : G1 H H3 H7 p mx q w r7 px m pl zs)
    (hO1 : (outOne (mone b most)).1 = px) (hO2 : (outOne (mone b most)).2.1 = m) (hO3 : (outOne (mone b most)).2.2.1 = kk) (hO4 : (outOne (mone b most)).2.2.2 = er) (hD1 : (outDec (mdec (b.length + 1) true b most)).1 = pl) (hD2 : (outDec (mdec (b.length + 1) true b most)).2.1 = ms) (hD3 : (outDec (mdec (b.length + 1) true b most)).2.2 = er2) (hzs : zs.map Prod.fst = ms)
    (g0 : env 0 = .slice A b.length c) (g1 : env 1 = .int .i64 most) (g6 : env 6 = p) (g7 : env 7 = .pointer (some ⟨r7, 0, none⟩)) (g8 : env 8 = .int .i64 (kk : Nat)) (g9 : env 9 = .int .i64 er) (g10 : env 10 = q) (g11 : env 11 = w) (g12 : env 12 = .int .i64 er2) :
    awpC Tryd.prog L3_61 (retQ [RV.t 4] fun e H' => e = .returned (.bool true) ∧ Keep H H') QP env H7 := by
  unfold L3_61
  obtain ⟨C75, hC75⟩ : ∃ C75, C75 = L3_75 := ⟨_, rfl⟩
  rw [← hC75]
  have k6 := G.k6
  simp -implicitDefEqProofs (maxSteps := 1000000) (disch := first | omega | assumption) only [g0, g1, Sx, Nat.reduceEqDiff]
  refine a_call (done1_spec (most := most) (k6.row hA) rfl hc hb (by omega)) ?_
  rintro e H8 hOO
  obtain ⟨k8, y, my, rfl, hY, hZ, fY, fZ, -, -⟩ := hOO.all
  clear hOO
  rw [hO1] at hY
  rw [hO2] at hZ
  rw [hO2, hO3, hO4]
  have hsy := hY.scalar
  have hsz := hZ.scalar
  obtain ⟨me2, hme2⟩ : ∃ me2, me2 = memV m my := ⟨_, rfl⟩
  rw [← hme2]
  simp -implicitDefEqProofs (maxSteps := 1000000) (disch := first | omega | assumption) only [Sx, Nat.reduceEqDiff, endK]
  refine a_new fun r15 hr15 => ?_
  try simp -implicitDefEqProofs (maxSteps := 1000000) (disch := first | omega | assumption) only [Sx, Nat.reduceEqDiff]
  refine st_all (old := memV m0 (.slice none 0 0)) (ci := me2) set_same (by rw [hme2]; rfl) (by rw [hme2]; rfl) (by rw [hme2]; exact memV_scalar hsz) ?_
  rw [ml_set]
  obtain ⟨H9, hH9⟩ : ∃ H9, H9 = H8.set r15 (.cells me2.toArray 26 (0, 0)) := ⟨_, rfl⟩
  have k9 : Keep H8 H9 := by rw [hH9]; exact (Keep.refl _).set_new hr15
  have b15 : H9 r15 = some (.cells (memV m my).toArray 26 (0, 0)) := by rw [hH9, hme2]; exact set_same
  rw [← hH9]
  clear hH9
  have k79 := k8.trans k9
  try simp -implicitDefEqProofs (maxSteps := 1000000) (disch := first | omega | assumption) only [g0, g1, Sx, Nat.reduceEqDiff, reduceCtorEq]
  refine e_gen (fun env => env 6 = p ∧ env 7 = .pointer (some ⟨r7, 0, none⟩) ∧ env 8 = .int .i64 (kk : Nat) ∧ env 9 = .int .i64 er ∧ env 10 = q ∧ env 11 = w ∧ env 12 = .int .i64 er2 ∧ env 14 = y ∧ env 15 = .pointer (some ⟨r15, 0, none⟩) ∧ env 16 = .int .i64 (kk : Nat) ∧ env 17 = .int .i64 er) ⟨by simp -implicitDefEqProofs (maxSteps := 1000000) (disch := first | omega | assumption) only [g6, Sx, Nat.reduceEqDiff], by simp -implicitDefEqProofs (maxSteps := 1000000) (disch := first | omega | assumption) only [g7, Sx, Nat.reduceEqDiff], by simp -implicitDefEqProofs (maxSteps := 1000000) (disch := first | omega | assumption) only [g8, Sx, Nat.reduceEqDiff], by simp -implicitDefEqProofs (maxSteps := 1000000) (disch := first | omega | assumption) only [g9, Sx, Nat.reduceEqDiff], by simp -implicitDefEqProofs (maxSteps := 1000000) (disch := first | omega | assumption) only [g10, Sx, Nat.reduceEqDiff], by simp -implicitDefEqProofs (maxSteps := 1000000) (disch := first | omega | assumption) only [g11, Sx, Nat.reduceEqDiff], by simp -implicitDefEqProofs (maxSteps := 1000000) (disch := first | omega | assumption) only [g12, Sx, Nat.reduceEqDiff], by simp -implicitDefEqProofs (maxSteps := 1000000) (disch := first | omega | assumption) only [Sx, Nat.reduceEqDiff], by simp -implicitDefEqProofs (maxSteps := 1000000) (disch := first | omega | assumption) only [Sx, Nat.reduceEqDiff], by simp -implicitDefEqProofs (maxSteps := 1000000) (disch := first | omega | assumption) only [Sx, Nat.reduceEqDiff], by simp -implicitDefEqProofs (maxSteps := 1000000) (disch := first | omega | assumption) only [Sx, Nat.reduceEqDiff]⟩ ?_
  clear g6 g7 g8 g9 g10 g11 g12
  rintro env ⟨g6, g7, g8, g9, g10, g11, g12, g14, g15, g16, g17⟩
  refine a_call (ddec_spec (most := most) ((k6.trans k79).row hA) rfl hc hb hl) ?_
  rintro e H10 hDD
  obtain ⟨k10, z, w2, zs2, rfl, hM2, hzs2, fz1, fw2, fz2⟩ := hDD.all
  clear hDD
  rw [hD1] at hM2
  rw [hD2] at hzs2
  rw [hD3]
  have hsz1 := hM2.ov.scalar
  have hsw2 := hM2.ow.scalar
  have k710 := k79.trans k10
  have kk10 := k6.trans k710
  obtain ⟨Ay, cy, rfl, -, wy⟩ := Bo.row (hY.keep (k9.trans k10))
  simp -implicitDefEqProofs (maxSteps := 1000000) (disch := first | omega | assumption) only [Sx, Nat.reduceEqDiff, endK]
  rw [hC75]
  refine gz2 (H3 := H3) (H9 := H9) (p := p) (mx := mx) (my := my) (q := q) (w := w) (z := z) (w2 := w2) (r7 := r7) (r15 := r15) (px := px) (m := m) (pl := pl) (zs := zs) (zs2 := zs2) (kk := kk) (er := er) (er2 := er2) (Ay := Ay) (cy := cy) ⟨kk10, G.p3, G.x3, G.p6.keep k79, G.x6.keep k79, G.p6.keep k710, G.x6.keep k710, hZ.keep (k9.trans k10), G.npx, (fun s hs e => G.p6.known hs (fZ s e)), G.m6.keep k710, G.m6.keep k79, hM2, G.fq, G.fw, G.fz, fz1, fw2, fz2, k710 _ _ G.b7, k10 _ _ b15, G.f0p, G.f0x, G.f0q, G.f0z, hzs.trans hzs2.symm, G.len, G.cnt, G.lp, G.lx, G.ll⟩ wy ?_ ?_ ?_ ?_ ?_ ?_ ?_ ?_ ?_ ?_ ?_ ?_ ?_ ?_
  · simp -implicitDefEqProofs (maxSteps := 1000000) (disch := first | omega | assumption) only [g6, Sx, Nat.reduceEqDiff]
  · simp -implicitDefEqProofs (maxSteps := 1000000) (disch := first | omega | assumption) only [g7, Sx, Nat.reduceEqDiff]
  · simp -implicitDefEqProofs (maxSteps := 1000000) (disch := first | omega | assumption) only [g8, Sx, Nat.reduceEqDiff]
  · simp -implicitDefEqProofs (maxSteps := 1000000) (disch := first | omega | assumption) only [g9, Sx, Nat.reduceEqDiff]
  · simp -implicitDefEqProofs (maxSteps := 1000000) (disch := first | omega | assumption) only [g10, Sx, Nat.reduceEqDiff]
  · simp -implicitDefEqProofs (maxSteps := 1000000) (disch := first | omega | assumption) only [g11, Sx, Nat.reduceEqDiff]
  · simp -implicitDefEqProofs (maxSteps := 1000000) (disch := first | omega | assumption) only [g12, Sx, Nat.reduceEqDiff]
  · simp -implicitDefEqProofs (maxSteps := 1000000) (disch := first | omega | assumption) only [g14, Sx, Nat.reduceEqDiff]
  · simp -implicitDefEqProofs (maxSteps := 1000000) (disch := first | omega | assumption) only [g15, Sx, Nat.reduceEqDiff]
  · simp -implicitDefEqProofs (maxSteps := 1000000) (disch := first | omega | assumption) only [g16, Sx, Nat.reduceEqDiff]
  · simp -implicitDefEqProofs (maxSteps := 1000000) (disch := first | omega | assumption) only [g17, Sx, Nat.reduceEqDiff]
  · simp -implicitDefEqProofs (maxSteps := 1000000) (disch := first | omega | assumption) only [Sx, Nat.reduceEqDiff]
  · simp -implicitDefEqProofs (maxSteps := 1000000) (disch := first | omega | assumption) only [Sx, Nat.reduceEqDiff]
  · simp -implicitDefEqProofs (maxSteps := 1000000) (disch := first | omega | assumption) only [Sx, Nat.reduceEqDiff]
set_option maxHeartbeats 16000000 in
set_option maxRecDepth 4000 in
theorem gzipDecodes_walk {H : Heap} {A : Option Addr} {c : Nat} {b : List Int} {most : Int} (hT : TabO H) (hA : Row H A (by8 b)) (hc : b.length ≤ c) (hb : isBy b) (hl : b.length ≤ 1048576) :
    ACalls Tryd.prog 3 [Value.slice A b.length c, .int .i64 most].toArray H fun e H' => e = .returned (.bool true) ∧ Keep H H' := by
  refine call3 (Nat.le_of_ble_eq_true rfl) ?_
  unfold L3 env0
  simp -implicitDefEqProofs (maxSteps := 1000000) (disch := first | omega | assumption) only [Sx, Nat.reduceEqDiff, reduceCtorEq]
  refine a_call (hand_spec hA rfl (by omega)) ?_
  rintro e H1 ⟨vi, rfl, hI, k1, fi⟩
  have hlen : (b ++ mk5).length = b.length + 5 := by rw [List.length_append]; rfl
  obtain ⟨ri, ci, rfl⟩ := hI.shape (by omega)
  obtain ⟨_, _, ee, hci, wi⟩ := Bo.row hI
  cases ee
  have wb : Row H1 (some ⟨ri, 0, none⟩) (by8 b) := by
    have := row_take (k := b.length) wi
    rwa [List.take_left] at this
  have hq : H1 ri ≠ none := hI.known rfl
  have hin : (0 : Int) ≤ (b.length : Int) ∧ (b.length : Int) ≤ (ci : Nat) := by omega
  simp -implicitDefEqProofs (maxSteps := 1000000) (disch := first | omega | assumption) only [ev_slc_hi, Sx, Nat.reduceEqDiff, reduceCtorEq, endK]
  refine a_call (gone_spec (most := most) (hT.keep k1) wb rfl (by omega) hq hb (by omega)) ?_
  rintro e H2 hO
  obtain ⟨k2, p, mx, rfl, hP, hX, fP, fX, npx, hpl⟩ := hO.all
  clear hO
  have hxe : (outOne (mone b most)).2.1.extra.length ≤ b.length := by
    cases h : mone b most with
    | ok x => exact mone_extra h
    | error e => exact Nat.zero_le _
  obtain ⟨O, hO⟩ : ∃ O, O = outOne (mone b most) := ⟨_, rfl⟩
  rw [← hO] at hP hX hpl hxe ⊢
  obtain ⟨px, m, kk, er⟩ := O
  simp only at hP hX hpl hxe ⊢
  have hsp := hP.scalar
  have hsx := hX.scalar
  obtain ⟨me, hme⟩ : ∃ me, me = memV m mx := ⟨_, rfl⟩
  rw [← hme]
  simp -implicitDefEqProofs (maxSteps := 1000000) (disch := first | omega | assumption) only [Sx, Nat.reduceEqDiff, endK]
  refine a_new fun r7 hr7 => ?_
  try simp -implicitDefEqProofs (maxSteps := 1000000) (disch := first | omega | assumption) only [Sx, Nat.reduceEqDiff]
  refine st_all (old := memV m0 (.slice none 0 0)) (ci := me) set_same (by rw [hme]; rfl) (by rw [hme]; rfl) (by rw [hme]; exact memV_scalar hsx) ?_
  rw [ml_set]
  obtain ⟨H3, hH3⟩ : ∃ H3, H3 = H2.set r7 (.cells me.toArray 26 (0, 0)) := ⟨_, rfl⟩
  have k3 : Keep H2 H3 := by rw [hH3]; exact (Keep.refl _).set_new hr7
  have b7 : H3 r7 = some (.cells (memV m mx).toArray 26 (0, 0)) := by rw [hH3, hme]; exact set_same
  rw [← hH3]
  clear hH3
  have k23 := k2.trans k3
  try simp -implicitDefEqProofs (maxSteps := 1000000) (disch := first | omega | assumption) only [ev_slc_hi, Sx, Nat.reduceEqDiff, reduceCtorEq]
  refine a_call (gdec_spec (most := most) (hT.keep (k1.trans k23)) (k23.row wb) rfl (by omega) (fun h => hq (k23.none h)) hb hl) ?_
  rintro e H4 hD
  obtain ⟨k4, q, w, zs, rfl, hM, hzs, fq, fw, fz⟩ := hD.all
  clear hD
  have hDl : (outDec (mdec (b.length + 1) true b most)).1.length ≤ 4194304 ∧ ∀ m ∈ (outDec (mdec (b.length + 1) true b most)).2.1, m.extra.length ≤ b.length := by
    cases h : mdec (b.length + 1) true b most with
    | ok y =>
      obtain ⟨h1, h2⟩ := mdec_len h
      have := h2 rfl
      exact ⟨by show y.1.length ≤ _; omega, mdec_extra h⟩
    | error e => exact ⟨Nat.zero_le _, fun m hm => by cases hm⟩
  have hDc : (outDec (mdec (b.length + 1) true b most)).2.1.length ≤ b.length := by
    cases h : mdec (b.length + 1) true b most with
    | ok y => exact mdec_cnt h
    | error e => exact Nat.zero_le _
  obtain ⟨D, hD⟩ : ∃ D, D = outDec (mdec (b.length + 1) true b most) := ⟨_, rfl⟩
  rw [← hD] at hM hzs hDl hDc ⊢
  obtain ⟨pl, ms, er2⟩ := D
  simp only at hM hzs hDl hDc ⊢
  obtain ⟨hDl, hDe⟩ := hDl
  have hsq := hM.ov.scalar
  have hsw := hM.ow.scalar
  have k24 := k23.trans k4
  simp -implicitDefEqProofs (maxSteps := 1000000) (disch := first | omega | assumption) only [ev_slc_hi, Sx, Nat.reduceEqDiff, reduceCtorEq, endK]
  refine a_call (gis_spec (k24.row wb) rfl) ?_
  rintro e H5 ⟨rfl, rfl⟩
  simp -implicitDefEqProofs (maxSteps := 1000000) (disch := first | omega | assumption) only [Sx, Nat.reduceEqDiff, reduceCtorEq, endK]
  refine a_call (left_spec (hI.keep k24) ((k1.trans k24).row hA) rfl (by omega)) ?_
  rintro e H6 ⟨rfl, ho6⟩
  have k6 : Keep H H6 := ho6.keep (k1.trans k24) fun s hs => fi s hs
  have hP6 : Bo H6 p px := (hP.keep (k3.trans k4)).only ho6 fun s hs e => hI.known e (fP s hs)
  have hX6 : Bo H6 mx m.extra := (hX.keep (k3.trans k4)).only ho6 fun s hs e => hI.known e (fX s hs)
  have hM6 := hM.old (hI.keep k23) fq fw fz ho6
  have b76 := ho6.oth _ _ (k4 _ _ b7) fun e => (hI.keep k24).elem (k4 _ _ b7) (by decide) e
  simp -implicitDefEqProofs (maxSteps := 1000000) (disch := first | omega | assumption) only [Sx, Nat.reduceEqDiff, reduceCtorEq, Zx, endK]
  refine a_call (dis_spec (k6.row hA) rfl) ?_
  rintro e H7 ⟨rfl, rfl⟩
  have qi : (isV b == isV b) = true := by simp
  have btt : (true != true) = false := rfl
  have hDc : ms.length ≤ b.length := hDc
  have hzl : zs.length ≤ 1048576 := by rw [← List.length_map (f := Prod.fst), hzs]; omega
  simp -implicitDefEqProofs (maxSteps := 1000000) (disch := first | omega | assumption) only [qi, btt, Sx, Nat.reduceEqDiff, endK]
  refine gz1 (H3 := H3) hA hc hb hl ⟨k6, hP.keep k3, hX.keep k3, hP6, hX6, npx, hM6, fq, fw, fz, b76, (fun s hs => k1.none (fP s hs)), (fun s hs => k1.none (fX s hs)), (fun s hs => k1.none (k23.none (fq s hs))), (fun x hx s hs => k1.none (k23.none (fz x hx s hs))), (fun x hx => by have := hDe x.1 (by rw [← hzs]; exact List.mem_map.2 ⟨x, hx, rfl⟩); omega), hzl, hpl, by omega, hDl⟩ (by rw [← hO]) (by rw [← hO]) (by rw [← hO]) (by rw [← hO]) (by rw [← hD]) (by rw [← hD]) (by rw [← hD]) hzs ?_ ?_ ?_ ?_ ?_ ?_ ?_ ?_ ?_
  · simp -implicitDefEqProofs (maxSteps := 1000000) (disch := first | omega | assumption) only [Sx, reduceCtorEq]
  · simp -implicitDefEqProofs (maxSteps := 1000000) (disch := first | omega | assumption) only [Sx, Nat.reduceEqDiff]
  · simp -implicitDefEqProofs (maxSteps := 1000000) (disch := first | omega | assumption) only [Sx, Nat.reduceEqDiff]
  · simp -implicitDefEqProofs (maxSteps := 1000000) (disch := first | omega | assumption) only [Sx, Nat.reduceEqDiff]
  · simp -implicitDefEqProofs (maxSteps := 1000000) (disch := first | omega | assumption) only [Sx, Nat.reduceEqDiff]
  · simp -implicitDefEqProofs (maxSteps := 1000000) (disch := first | omega | assumption) only [Sx, Nat.reduceEqDiff]
  · simp -implicitDefEqProofs (maxSteps := 1000000) (disch := first | omega | assumption) only [Sx, Nat.reduceEqDiff]
  · simp -implicitDefEqProofs (maxSteps := 1000000) (disch := first | omega | assumption) only [Sx, Nat.reduceEqDiff]
  · simp -implicitDefEqProofs (maxSteps := 1000000) (disch := first | omega | assumption) only [Sx, Nat.reduceEqDiff]
theorem gzipDecodes_row {H : Heap} (hT : TabO H) (A : Option Addr) (c : Nat) (b : List Int) (cl : List (List Value)) (he : Els (Ty.int .u8) H A b cl) (hc : b.length ≤ c) (wb : (∀ y ∈ b, (Lit.int .u8 y).wf = true) ∧ b.length ≤ maxLen) (most : Int) (wm : (Lit.int .i64 most).wf = true) (hb : (b.map fun _ => 1).sum + 1 + 1 ≤ 1048576) :
    ACalls Tryd.prog 3 [Value.slice A b.length c, .int .i64 most].toArray H fun e H' => e = .returned (.bool true) ∧ Keep H H' := by
  have e1 : ∀ l : List Int, (l.map fun _ => 1).sum = l.length := fun l => by
    induction l with
    | nil => rfl
    | cons x l ih => rw [List.map_cons, List.sum_cons, ih, List.length_cons]; omega
  rw [e1] at hb
  exact gzipDecodes_walk hT he.ints hc (fun y hy => wf_u8 (wb.1 y hy)) (by omega)
end Go.Proofs.YtgbhdpeibiglfaaDoor.S08
