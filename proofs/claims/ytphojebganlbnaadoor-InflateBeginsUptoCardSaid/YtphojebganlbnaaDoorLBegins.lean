/-
  InflateBegins: what is told of a beginning is a beginning of what is told of all.
-/
import Derived.Test.YtphojebganlbnaaDoorFedP
import Derived.Test.YtphojebganlbnaaDoorInfLoc
set_option linter.unusedVariables false
set_option linter.unusedSimpArgs false
namespace Go.Proofs.YtphojebganlbnaaDoor.S06
open Go Go.RowKit Go.Proofs.YtphojebganlbnaaDoor.Sep Go.Proofs.YtphojebganlbnaaDoor.Low Go.Proofs.YtphojebganlbnaaDoor.S05 Go.Proofs.YtphojebganlbnaaDoor.CodeLaw Go.Proofs.YtphojebganlbnaaDoor.Pack Go.Proofs.YtphojebganlbnaaDoor.BitLaw
open Go.Proofs.YtphojebganlbnaaDoor.Lib hiding by8 by8_scalar

/-- a copy of bytes in memory of its own -/
theorem copy_b {P : Program} {H0 H : Heap} {r : Nat} {A : Option Addr} {n c : Nat} {x : List Int} {KV : Value → Heap → Prop} {KP : List PanicEntry → Heap → Prop} (hO : Own H 5 1 (.slice (some ⟨r, 0, none⟩) 0 0) []) (hr : H0 r = none) (hk : Keep H0 H) (hn : n = x.length) (hrow : Row H A (by8 x)) (hl : x.length ≤ 211106232532992)
    (hK : ∀ A' c' H', (∀ H1, Keep H1 H → H1 r = none → Fresh H1 (.slice A' x.length c')) → Bo H' (.slice A' x.length c') x → Row H' A' (by8 x) → Keep H0 H' → Oth H (.slice (some ⟨r, 0, none⟩) 0 0) H' → Fresh H0 (.slice A' x.length c') → x.length ≤ c' → KV (.slice A' x.length c') H') : awpE P (.app 5 1 1 #[.int .u8 0]) [.slice (some ⟨r, 0, none⟩) 0 0, .slice A n c] KV KP H := by
  refine app_b (l := []) (x := x) hO rfl hn hrow (by simp; omega) ?_
  intro v H' h1 ho hm
  rw [List.nil_append] at h1
  obtain ⟨k, f⟩ := grown2 hk (v := .slice (some ⟨r, 0, none⟩) 0 0) (by rintro q ⟨⟩; exact hr) ho hm
  obtain ⟨A', c', rfl, hc', hr'⟩ := Bo.row h1
  refine hK A' c' H' (fun H1 hk1 hn1 => ?_) h1 hr' k ho f hc'
  exact (hm.fresh hk1 (by rintro q ⟨⟩; exact hn1))
set_option maxHeartbeats 16000000 in
set_option maxRecDepth 4000 in
theorem begins_tail {H : Heap} {A C : Option Addr} {c cc cut : Nat} {b z : List Int} {env : Env} {Q : Post} {QP : List PanicEntry → Heap → Prop} (hT : TabO H) (hA : Row H A (by8 b)) (hC : Row H C (by8 z)) (hc : b.length ≤ c) (hb : isBy b) (hz : isBy z) (hl : b.length + z.length ≤ 140737488351232) (hcut : cut ≤ b.length)
    (g0 : env 0 = .slice A b.length c) (g1 : env 1 = .int .i64 (cut : Nat)) (g2 : env 2 = .slice C z.length cc) (g6 : env 6 = .bool false)
    (hQ : ∀ env' H', Keep H H' → env' 6 = .bool true → Q .ret env' H') : awpC Tryd.prog L6_0 Q QP env H := by
  have hcl : (b.take cut).length = cut := by rw [List.length_take]; omega
  have hin0 : (0 : Int) ≤ (cut : Int) ∧ (cut : Int) ≤ (c : Nat) := by omega
  have hmo : (4194304 : Nat) ≤ 4194304 := Nat.le_refl _
  have f1 := fed_spec (H := H) (mo := 4194304) (c := c) (cc := 0) (b := b.take cut) (cuts := []) (A := A) (C := none) hT (row_take hA) (fun i v hv => by simp at hv) (fun x hx => hb x (List.mem_of_mem_take hx)) (by omega) (by omega) (by simp) hmo
  rw [hcl] at f1
  have bff : (false != false) = false := rfl
  unfold L6_0
  simp -implicitDefEqProofs (maxSteps := 1000000) (disch := first | omega | assumption) only [g0, g1, ev_slc_hi, Sx, reduceIte, Nat.reduceEqDiff, reduceCtorEq, Nat.reduceAdd, Nat.reduceSub, Nat.reduceLT, decide_true, decide_false, Bool.not_true, Bool.not_false, Int.toNat_one, Int.toNat_zero, Nat.zero_mul, l_g, endK, gd_u]
  refine a_call f1 ?_
  rintro e H2 ⟨r1, v1, o1, rfl, hF1⟩
  have hs1 := hF1.out.scalar
  have k2 := hF1.k
  simp -implicitDefEqProofs (maxSteps := 1000000) (disch := first | omega | assumption) only [g0, Sx, reduceIte, Nat.reduceEqDiff, reduceCtorEq, Nat.reduceAdd, Nat.reduceSub, Nat.reduceLT, decide_true, decide_false, Bool.not_true, Bool.not_false, Int.toNat_one, Int.toNat_zero, Nat.zero_mul, l_g, endK, gd_u]
  refine a_call (fed_spec (mo := 4194304) (cuts := []) (C := none) (cc := 0) (hT.keep k2) (k2.row hA) (fun i v hv => by simp at hv) hb (by omega) hc (by simp) hmo) ?_
  rintro e H3 ⟨r2, v2, o2, rfl, hF2⟩
  have hs2 := hF2.out.scalar
  have k3 := k2.trans hF2.k
  have hout1 := hF1.out.keep hF2.k
  have hout2 := hF2.out
  obtain ⟨P, hP⟩ : ∃ P, P = (infl (b.take cut) 4194304).out := ⟨_, rfl⟩
  obtain ⟨R, hR⟩ : ∃ R, R = infl b 4194304 := ⟨_, rfl⟩
  have hpre : P <+: R.out := by
    rw [hP, hR]
    have := infl_pre (bs := b.take cut) (ex := b.drop cut) (mo := 4194304)
    rwa [List.take_append_drop] at this
  rw [← hP] at hout1
  rw [← hR] at hout2
  obtain ⟨A1, c1, rfl, -, w1⟩ := Bo.row hout1
  obtain ⟨A2, c2, rfl, hc2, w2⟩ := Bo.row hout2
  have hpl := hpre.length_le
  have htk : R.out.take P.length = P := by
    obtain ⟨t, ht⟩ := hpre
    rw [← ht, List.take_left]
  have w2' : Row H3 A2 (by8 P) := by rw [← htk]; exact row_take w2
  have b1 := ev_b2s_by (c := c1) w1
  have b2 := ev_b2s_by (c := c2) w2'
  have q1 : decide ((R.out.length : Int) < (P.length : Int)) = false := decide_eq_false (by omega)
  have hin1 : (0 : Int) ≤ (P.length : Int) ∧ (P.length : Int) ≤ (c2 : Nat) := by omega
  have sE : (txt P == txt P) = true := by simp
  simp -implicitDefEqProofs (maxSteps := 1000000) (disch := first | omega | assumption) only [g0, g1, g2, Option.isNone_some, bff, q1, ev_slc_hi, b1, b2, t_list, sE, Sx, reduceIte, Nat.reduceEqDiff, reduceCtorEq, Nat.reduceAdd, Nat.reduceSub, Nat.reduceLT, decide_true, decide_false, Bool.not_true, Bool.not_false, Int.toNat_one, Int.toNat_zero, Nat.zero_mul, l_g, endK, gd_u]
  refine a_lits (sz := 1) (cells := #[]) rfl rfl ?_
  intro r4 H4 hO4 k4 hr4
  have k4' := k3.trans k4
  try simp -implicitDefEqProofs (maxSteps := 1000000) (disch := first | omega | assumption) only [g0, Sx, reduceIte, Nat.reduceEqDiff, reduceCtorEq, Nat.reduceAdd, Nat.reduceSub, Nat.reduceLT, decide_true, decide_false, Bool.not_true, Bool.not_false, Int.toNat_one, Int.toNat_zero, Nat.zero_mul, l_g, endK, gd_u]
  refine copy_b (H0 := H) hO4 (k3.none hr4) k4' rfl (k4'.row hA) (by omega) ?_
  intro A5 c5 H5 hd5 hO5 w5 k5 ho5 f5 hc5
  try simp -implicitDefEqProofs (maxSteps := 1000000) (disch := first | omega | assumption) only [Sx, reduceIte, Nat.reduceEqDiff, reduceCtorEq, Nat.reduceAdd, Nat.reduceSub, Nat.reduceLT, decide_true, decide_false, Bool.not_true, Bool.not_false, Int.toNat_one, Int.toNat_zero, Nat.zero_mul, l_g, endK, gd_u]
  refine a_call (decode_spec (most := 4194304) (hT.keep k5) w5 rfl hb (by omega)) ?_
  rintro e H6 ⟨v6, he, hO6, -, hl6, k6, -⟩
  have hs6 := hO6.scalar
  have k6' := k5.trans k6
  have hnb : ¬ ((4194304 : Int) < 0 ∨ 4194304 < (4194304 : Int)) := by omega
  have htn : (4194304 : Int).toNat = 4194304 := rfl
  cases hQ2 : R with
  | bad er o =>
    have hQ3 : infl b 4194304 = .bad er o := hR ▸ hQ2
    rw [decV_bad hnb (by rw [htn]; exact hQ3)] at he hO6
    simp only at he
    subst he
    have hne : er ≠ 0 := by
      rintro rfl
      exact infl_nz (bs := b) (mo := 4194304) (o := o) (by omega) hQ3
    have e0 : (er != 0) = true := bne_iff_ne.2 hne
    simp -implicitDefEqProofs (maxSteps := 1000000) (disch := first | omega | assumption) only [g0, g1, g2, e0, Sx, reduceIte, Nat.reduceEqDiff, reduceCtorEq, Nat.reduceAdd, Nat.reduceSub, Nat.reduceLT, decide_true, decide_false, Bool.not_true, Bool.not_false, Int.toNat_one, Int.toNat_zero, Nat.zero_mul, l_g, endK, gd_u]
    exact hQ _ _ k6' (by simp -implicitDefEqProofs (maxSteps := 1000000) (disch := first | omega | assumption) only [Sx, reduceIte, Nat.reduceEqDiff, reduceCtorEq, Nat.reduceAdd, Nat.reduceSub, Nat.reduceLT, decide_true, decide_false, Bool.not_true, Bool.not_false, Int.toNat_one, Int.toNat_zero, Nat.zero_mul, l_g, endK, gd_u])
  | ok u t o =>
    have hQ3 : infl b 4194304 = .ok u t o := hR ▸ hQ2
    rw [decV_ok hnb (by rw [htn]; exact hQ3)] at he hO6
    simp only at he hO6
    subst he
    obtain ⟨i1, i2, -, -, -⟩ := infl_ok hQ3
    obtain ⟨N, hN⟩ : ∃ N, N = (t + 7) / 8 := ⟨_, rfl⟩
    rw [← hN] at i1 i2 ⊢
    obtain ⟨A6, c6, rfl, -, w6⟩ := Bo.row hO6
    have n00 : ((0 : Int) != 0) = false := rfl
    have hinN : (0 : Int) ≤ (N : Int) ∧ (N : Int) ≤ (c : Nat) := by omega
    have hNl : (b.take N).length = N := by rw [List.length_take]; omega
    simp -implicitDefEqProofs (maxSteps := 1000000) (disch := first | omega | assumption) only [g0, g1, g2, n00, Sx, reduceIte, Nat.reduceEqDiff, reduceCtorEq, Nat.reduceAdd, Nat.reduceSub, Nat.reduceLT, decide_true, decide_false, Bool.not_true, Bool.not_false, Int.toNat_one, Int.toNat_zero, Nat.zero_mul, l_g, endK, gd_u]
    refine a_lits (sz := 1) (cells := #[]) rfl rfl ?_
    intro r7 H7 hO7 k7 hr7
    have k7' := k6'.trans k7
    try simp -implicitDefEqProofs (maxSteps := 1000000) (disch := first | omega | assumption) only [g0, ev_slc_hi, Sx, reduceIte, Nat.reduceEqDiff, reduceCtorEq, Nat.reduceAdd, Nat.reduceSub, Nat.reduceLT, decide_true, decide_false, Bool.not_true, Bool.not_false, Int.toNat_one, Int.toNat_zero, Nat.zero_mul, l_g, endK, gd_u]
    refine copy_b (H0 := H) hO7 (k6'.none hr7) k7' hNl.symm (row_take (k7'.row hA)) (by omega) ?_
    intro A8 c8 H8 hd8' hO8 w8 k8 ho8 f8 hc8
    have hd8 : ∀ s, own (.slice A8 (b.take N).length c8) = some s → ¬ H6 s ≠ none := fun s hs h => h (hd8' H6 k7 hr7 s hs)
    try simp -implicitDefEqProofs (maxSteps := 1000000) (disch := first | omega | assumption) only [g2, Sx, reduceIte, Nat.reduceEqDiff, reduceCtorEq, Nat.reduceAdd, Nat.reduceSub, Nat.reduceLT, decide_true, decide_false, Bool.not_true, Bool.not_false, Int.toNat_one, Int.toNat_zero, Nat.zero_mul, l_g, endK, gd_u]
    refine app_b hO8 rfl rfl (k8.row hC) (by omega) ?_
    intro v9 H9 hO9 ho9 hm9
    obtain ⟨k9, f9⟩ := grown2 k8 f8 ho9 hm9
    obtain ⟨A9, c9, rfl, -, w9⟩ := Bo.row hO9
    have hO7b : Bo H8 (.slice A6 o.length c6) o := (Own.keep hO6 k7).only ho8 fun s hs e => by cases e; exact Own.known hO6 hs hr7
    have hO6b : Bo H9 (.slice A6 o.length c6) o := hO7b.only ho9 fun s hs e => hd8 s e (Own.known hO6 hs)
    try simp -implicitDefEqProofs (maxSteps := 1000000) (disch := first | omega | assumption) only [Sx, reduceIte, Nat.reduceEqDiff, reduceCtorEq, Nat.reduceAdd, Nat.reduceSub, Nat.reduceLT, decide_true, decide_false, Bool.not_true, Bool.not_false, Int.toNat_one, Int.toNat_zero, Nat.zero_mul, l_g, endK, gd_u]
    have hbz : isBy (b.take N ++ z) := isBy_app (fun x hx => hb x (List.mem_of_mem_take hx)) hz
    refine a_call (decode_spec (most := 4194304) (hT.keep k9) w9 rfl hbz (by rw [List.length_append]; omega)) ?_
    rintro e H10 ⟨v10, he, hO10, -, -, k10, -⟩
    have hs10 := hO10.scalar
    have k10' := k9.trans k10
    have hR2 : infl (b.take N ++ z) 4194304 = .ok u t o := ok_more (infl_cut hQ3 (by omega) i2)
    rw [decV_ok hnb (by rw [htn]; exact hR2)] at he hO10
    simp only [← hN] at he hO10
    subst he
    obtain ⟨A10, c10, rfl, -, w10⟩ := Bo.row hO10
    obtain ⟨_, _, ee, _, w6'⟩ := Bo.row (hO6b.keep k10)
    cases ee
    have b6 := ev_b2s_by (c := c6) w6'
    have b10 := ev_b2s_by (c := c10) w10
    have sO : (txt o == txt o) = true := by simp
    have nN : ((N : Int) != (N : Int)) = false := by simp
    simp -implicitDefEqProofs (maxSteps := 1000000) (disch := first | omega | assumption) only [g0, g1, g2, n00, nN, b6, b10, t_list, sO, Sx, reduceIte, Nat.reduceEqDiff, reduceCtorEq, Nat.reduceAdd, Nat.reduceSub, Nat.reduceLT, decide_true, decide_false, Bool.not_true, Bool.not_false, Int.toNat_one, Int.toNat_zero, Nat.zero_mul, l_g, endK, gd_u]
    by_cases hcn : N ≤ cut
    · have q2 : decide ((N : Int) ≤ (cut : Int)) = true := decide_eq_true (by omega)
      simp -implicitDefEqProofs (maxSteps := 1000000) (disch := first | omega | assumption) only [q2, Sx, reduceIte, Nat.reduceEqDiff, reduceCtorEq, Nat.reduceAdd, Nat.reduceSub, Nat.reduceLT, decide_true, decide_false, Bool.not_true, Bool.not_false, Int.toNat_one, Int.toNat_zero, Nat.zero_mul, l_g, endK, gd_u]
      exact hQ _ _ k10' (by simp -implicitDefEqProofs (maxSteps := 1000000) (disch := first | omega | assumption) only [Sx, reduceIte, Nat.reduceEqDiff, reduceCtorEq, Nat.reduceAdd, Nat.reduceSub, Nat.reduceLT, decide_true, decide_false, Bool.not_true, Bool.not_false, Int.toNat_one, Int.toNat_zero, Nat.zero_mul, l_g, endK, gd_u])
    have q2 : decide ((N : Int) ≤ (cut : Int)) = false := decide_eq_false (by omega)
    simp -implicitDefEqProofs (maxSteps := 1000000) (disch := first | omega | assumption) only [g0, g1, q2, Sx, reduceIte, Nat.reduceEqDiff, reduceCtorEq, Nat.reduceAdd, Nat.reduceSub, Nat.reduceLT, decide_true, decide_false, Bool.not_true, Bool.not_false, Int.toNat_one, Int.toNat_zero, Nat.zero_mul, l_g, endK, gd_u]
    refine a_lits (sz := 1) (cells := #[]) rfl rfl ?_
    intro r11 H11 hO11 k11 hr11
    have k11' := k10'.trans k11
    try simp -implicitDefEqProofs (maxSteps := 1000000) (disch := first | omega | assumption) only [g0, g1, ev_slc_hi, Sx, reduceIte, Nat.reduceEqDiff, reduceCtorEq, Nat.reduceAdd, Nat.reduceSub, Nat.reduceLT, decide_true, decide_false, Bool.not_true, Bool.not_false, Int.toNat_one, Int.toNat_zero, Nat.zero_mul, l_g, endK, gd_u]
    refine copy_b (H0 := H) hO11 (k10'.none hr11) k11' hcl.symm (row_take (k11'.row hA)) (by omega) ?_
    intro A12 c12 H12 hd12 hO12 w12 k12 ho12 f12 hc12
    try simp -implicitDefEqProofs (maxSteps := 1000000) (disch := first | omega | assumption) only [Sx, reduceIte, Nat.reduceEqDiff, reduceCtorEq, Nat.reduceAdd, Nat.reduceSub, Nat.reduceLT, decide_true, decide_false, Bool.not_true, Bool.not_false, Int.toNat_one, Int.toNat_zero, Nat.zero_mul, l_g, endK, gd_u]
    refine a_call (decode_spec (most := 4194304) (hT.keep k12) w12 rfl (fun x hx => hb x (List.mem_of_mem_take hx)) (by omega)) ?_
    rintro e H13 ⟨v13, he, hO13, -, -, k13, -⟩
    have hs13 := hO13.scalar
    obtain ⟨o', ho'⟩ := infl_short hQ3 (by omega) hcut
    rw [decV_bad hnb (by rw [htn]; exact ho')] at he hO13
    simp only at he
    subst he
    have q4 : ((4 : Int) == 4) = true := rfl
    simp -implicitDefEqProofs (maxSteps := 1000000) (disch := first | omega | assumption) only [q4, Sx, reduceIte, Nat.reduceEqDiff, reduceCtorEq, Nat.reduceAdd, Nat.reduceSub, Nat.reduceLT, decide_true, decide_false, Bool.not_true, Bool.not_false, Int.toNat_one, Int.toNat_zero, Nat.zero_mul, l_g, endK, gd_u]
    exact hQ _ _ (k12.trans k13) (by simp -implicitDefEqProofs (maxSteps := 1000000) (disch := first | omega | assumption) only [Sx, reduceIte, Nat.reduceEqDiff, reduceCtorEq, Nat.reduceAdd, Nat.reduceSub, Nat.reduceLT, decide_true, decide_false, Bool.not_true, Bool.not_false, Int.toNat_one, Int.toNat_zero, Nat.zero_mul, l_g, endK, gd_u])
set_option maxHeartbeats 4000000 in
theorem inflateBegins_walk {H : Heap} {A C : Option Addr} {c cc : Nat} {b z : List Int} {cut : Int} (hT : TabO H) (hA : Row H A (by8 b)) (hC : Row H C (by8 z)) (hc : b.length ≤ c) (hcc : z.length ≤ cc) (hb : isBy b) (hz : isBy z) (hl : b.length + z.length ≤ 140737488351232) (hcut : -9223372036854775808 ≤ cut ∧ cut ≤ 9223372036854775807) :
    ACalls Tryd.prog 6 [Value.slice A b.length c, .int .i64 cut, .slice C z.length cc].toArray H fun e H' => e = .returned (.bool true) ∧ Keep H H' := by
  refine call6 (Nat.le_of_ble_eq_true rfl) ?_
  unfold L6 env0
  simp -implicitDefEqProofs (maxSteps := 1000000) (disch := first | omega | assumption) only [Sx, reduceIte, Nat.reduceEqDiff, reduceCtorEq, Nat.reduceAdd, Nat.reduceSub, Nat.reduceLT, decide_true, decide_false, Bool.not_true, Bool.not_false, Int.toNat_one, Int.toNat_zero, Nat.zero_mul, l_g, endK, gd_u]
  refine a_call (xs := []) (lives_spec hT) ?_
  rintro e H1 ⟨rfl, k1⟩
  by_cases h1 : cut < 0
  · have f1 : decide (cut < 0) = true := decide_eq_true h1
    simp -implicitDefEqProofs (maxSteps := 1000000) (disch := first | omega | assumption) only [f1, Sx, reduceIte, Nat.reduceEqDiff, reduceCtorEq, Nat.reduceAdd, Nat.reduceSub, Nat.reduceLT, decide_true, decide_false, Bool.not_true, Bool.not_false, Int.toNat_one, Int.toNat_zero, Nat.zero_mul, l_g, endK, gd_u]
    refine begins_tail (cut := b.length) (z := z) (C := C) (cc := cc) (hT.keep k1) (k1.row hA) (k1.row hC) hc hb hz hl (Nat.le_refl _) (by simp -implicitDefEqProofs (maxSteps := 1000000) (disch := first | omega | assumption) only [Sx, reduceIte, Nat.reduceEqDiff, reduceCtorEq, Nat.reduceAdd, Nat.reduceSub, Nat.reduceLT, decide_true, decide_false, Bool.not_true, Bool.not_false, Int.toNat_one, Int.toNat_zero, Nat.zero_mul, l_g, endK, gd_u]) (by simp -implicitDefEqProofs (maxSteps := 1000000) (disch := first | omega | assumption) only [Sx, reduceIte, Nat.reduceEqDiff, reduceCtorEq, Nat.reduceAdd, Nat.reduceSub, Nat.reduceLT, decide_true, decide_false, Bool.not_true, Bool.not_false, Int.toNat_one, Int.toNat_zero, Nat.zero_mul, l_g, endK, gd_u]) (by simp -implicitDefEqProofs (maxSteps := 1000000) (disch := first | omega | assumption) only [Sx, reduceIte, Nat.reduceEqDiff, reduceCtorEq, Nat.reduceAdd, Nat.reduceSub, Nat.reduceLT, decide_true, decide_false, Bool.not_true, Bool.not_false, Int.toNat_one, Int.toNat_zero, Nat.zero_mul, l_g, endK, gd_u]) (by simp -implicitDefEqProofs (maxSteps := 1000000) (disch := first | omega | assumption) only [Sx, reduceIte, Nat.reduceEqDiff, reduceCtorEq, Nat.reduceAdd, Nat.reduceSub, Nat.reduceLT, decide_true, decide_false, Bool.not_true, Bool.not_false, Int.toNat_one, Int.toNat_zero, Nat.zero_mul, l_g, endK, gd_u]) ?_
    intro env' H' hk h6
    simp -implicitDefEqProofs (maxSteps := 1000000) (disch := first | omega | assumption) only [h6, Sx, reduceIte, Nat.reduceEqDiff, reduceCtorEq, Nat.reduceAdd, Nat.reduceSub, Nat.reduceLT, decide_true, decide_false, Bool.not_true, Bool.not_false, Int.toNat_one, Int.toNat_zero, Nat.zero_mul, l_g, endK, gd_u]
    exact ⟨by (first | exact True.intro | rfl | assumption), k1.trans hk⟩
  have f1 : decide (cut < 0) = false := decide_eq_false h1
  by_cases h2 : (b.length : Int) < cut
  · have f2 : decide ((b.length : Int) < cut) = true := decide_eq_true h2
    simp -implicitDefEqProofs (maxSteps := 1000000) (disch := first | omega | assumption) only [f1, f2, Sx, reduceIte, Nat.reduceEqDiff, reduceCtorEq, Nat.reduceAdd, Nat.reduceSub, Nat.reduceLT, decide_true, decide_false, Bool.not_true, Bool.not_false, Int.toNat_one, Int.toNat_zero, Nat.zero_mul, l_g, endK, gd_u]
    refine begins_tail (cut := b.length) (z := z) (C := C) (cc := cc) (hT.keep k1) (k1.row hA) (k1.row hC) hc hb hz hl (Nat.le_refl _) (by simp -implicitDefEqProofs (maxSteps := 1000000) (disch := first | omega | assumption) only [Sx, reduceIte, Nat.reduceEqDiff, reduceCtorEq, Nat.reduceAdd, Nat.reduceSub, Nat.reduceLT, decide_true, decide_false, Bool.not_true, Bool.not_false, Int.toNat_one, Int.toNat_zero, Nat.zero_mul, l_g, endK, gd_u]) (by simp -implicitDefEqProofs (maxSteps := 1000000) (disch := first | omega | assumption) only [Sx, reduceIte, Nat.reduceEqDiff, reduceCtorEq, Nat.reduceAdd, Nat.reduceSub, Nat.reduceLT, decide_true, decide_false, Bool.not_true, Bool.not_false, Int.toNat_one, Int.toNat_zero, Nat.zero_mul, l_g, endK, gd_u]) (by simp -implicitDefEqProofs (maxSteps := 1000000) (disch := first | omega | assumption) only [Sx, reduceIte, Nat.reduceEqDiff, reduceCtorEq, Nat.reduceAdd, Nat.reduceSub, Nat.reduceLT, decide_true, decide_false, Bool.not_true, Bool.not_false, Int.toNat_one, Int.toNat_zero, Nat.zero_mul, l_g, endK, gd_u]) (by simp -implicitDefEqProofs (maxSteps := 1000000) (disch := first | omega | assumption) only [Sx, reduceIte, Nat.reduceEqDiff, reduceCtorEq, Nat.reduceAdd, Nat.reduceSub, Nat.reduceLT, decide_true, decide_false, Bool.not_true, Bool.not_false, Int.toNat_one, Int.toNat_zero, Nat.zero_mul, l_g, endK, gd_u]) ?_
    intro env' H' hk h6
    simp -implicitDefEqProofs (maxSteps := 1000000) (disch := first | omega | assumption) only [h6, Sx, reduceIte, Nat.reduceEqDiff, reduceCtorEq, Nat.reduceAdd, Nat.reduceSub, Nat.reduceLT, decide_true, decide_false, Bool.not_true, Bool.not_false, Int.toNat_one, Int.toNat_zero, Nat.zero_mul, l_g, endK, gd_u]
    exact ⟨by (first | exact True.intro | rfl | assumption), k1.trans hk⟩
  have f2 : decide ((b.length : Int) < cut) = false := decide_eq_false h2
  obtain ⟨n, hn⟩ : ∃ n : Nat, cut = n := ⟨cut.toNat, by omega⟩
  subst hn
  simp -implicitDefEqProofs (maxSteps := 1000000) (disch := first | omega | assumption) only [f1, f2, Sx, reduceIte, Nat.reduceEqDiff, reduceCtorEq, Nat.reduceAdd, Nat.reduceSub, Nat.reduceLT, decide_true, decide_false, Bool.not_true, Bool.not_false, Int.toNat_one, Int.toNat_zero, Nat.zero_mul, l_g, endK, gd_u]
  refine begins_tail (cut := n) (z := z) (C := C) (cc := cc) (hT.keep k1) (k1.row hA) (k1.row hC) hc hb hz hl (by omega) (by simp -implicitDefEqProofs (maxSteps := 1000000) (disch := first | omega | assumption) only [Sx, reduceIte, Nat.reduceEqDiff, reduceCtorEq, Nat.reduceAdd, Nat.reduceSub, Nat.reduceLT, decide_true, decide_false, Bool.not_true, Bool.not_false, Int.toNat_one, Int.toNat_zero, Nat.zero_mul, l_g, endK, gd_u]) (by simp -implicitDefEqProofs (maxSteps := 1000000) (disch := first | omega | assumption) only [Sx, reduceIte, Nat.reduceEqDiff, reduceCtorEq, Nat.reduceAdd, Nat.reduceSub, Nat.reduceLT, decide_true, decide_false, Bool.not_true, Bool.not_false, Int.toNat_one, Int.toNat_zero, Nat.zero_mul, l_g, endK, gd_u]) (by simp -implicitDefEqProofs (maxSteps := 1000000) (disch := first | omega | assumption) only [Sx, reduceIte, Nat.reduceEqDiff, reduceCtorEq, Nat.reduceAdd, Nat.reduceSub, Nat.reduceLT, decide_true, decide_false, Bool.not_true, Bool.not_false, Int.toNat_one, Int.toNat_zero, Nat.zero_mul, l_g, endK, gd_u]) (by simp -implicitDefEqProofs (maxSteps := 1000000) (disch := first | omega | assumption) only [Sx, reduceIte, Nat.reduceEqDiff, reduceCtorEq, Nat.reduceAdd, Nat.reduceSub, Nat.reduceLT, decide_true, decide_false, Bool.not_true, Bool.not_false, Int.toNat_one, Int.toNat_zero, Nat.zero_mul, l_g, endK, gd_u]) ?_
  intro env' H' hk h6
  simp -implicitDefEqProofs (maxSteps := 1000000) (disch := first | omega | assumption) only [h6, Sx, reduceIte, Nat.reduceEqDiff, reduceCtorEq, Nat.reduceAdd, Nat.reduceSub, Nat.reduceLT, decide_true, decide_false, Bool.not_true, Bool.not_false, Int.toNat_one, Int.toNat_zero, Nat.zero_mul, l_g, endK, gd_u]
  exact ⟨by (first | exact True.intro | rfl | assumption), k1.trans hk⟩
theorem sum_ones1 : ∀ l : List Int, (l.map fun _ => 1).sum = l.length
  | [] => rfl
  | x :: l => by rw [List.map_cons, List.sum_cons, sum_ones1 l, List.length_cons]; omega
theorem inflateBegins_row {H : Heap} (hT : TabO H) (A : Option Addr) (c : Nat) (b : List Int) (cl : List (List Value)) (he : Els (Ty.int .u8) H A b cl) (hc : b.length ≤ c) (wb : (∀ y ∈ b, (Lit.int .u8 y).wf = true) ∧ b.length ≤ maxLen) (cut : Int) (wm : (Lit.int .i64 cut).wf = true)
    (C : Option Addr) (cc : Nat) (z : List Int) (cl2 : List (List Value)) (he2 : Els (Ty.int .u8) H C z cl2) (hcc : z.length ≤ cc) (wc : (∀ y ∈ z, (Lit.int .u8 y).wf = true) ∧ z.length ≤ maxLen) (hb : (b.map fun _ => 1).sum + 1 + (1 + ((z.map fun _ => 1).sum + 1)) ≤ 1048576) :
    ACalls Tryd.prog 6 [Value.slice A b.length c, .int .i64 cut, .slice C z.length cc].toArray H fun e H' => e = .returned (.bool true) ∧ Keep H H' := by
  rw [sum_ones1, sum_ones1] at hb
  exact inflateBegins_walk hT he.ints he2.ints hc hcc (fun y hy => wf_u8 (wb.1 y hy)) (fun y hy => wf_u8 (wc.1 y hy)) (by omega) (wf_i64 wm)
end Go.Proofs.YtphojebganlbnaaDoor.S06
