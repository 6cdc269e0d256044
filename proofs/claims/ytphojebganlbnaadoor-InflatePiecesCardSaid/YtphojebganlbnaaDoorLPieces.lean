/-
  InflatePieces: what is told in all hangs on the bytes alone, not on their pieces.
-/
import Derived.Test.YtphojebganlbnaaDoorFedP
set_option linter.unusedVariables false
set_option linter.unusedSimpArgs false
namespace Go.Proofs.YtphojebganlbnaaDoor.S06
open Go Go.RowKit Go.Proofs.YtphojebganlbnaaDoor.Sep Go.Proofs.YtphojebganlbnaaDoor.Low Go.Proofs.YtphojebganlbnaaDoor.S05 Go.Proofs.YtphojebganlbnaaDoor.CodeLaw Go.Proofs.YtphojebganlbnaaDoor.Pack Go.Proofs.YtphojebganlbnaaDoor.BitLaw
open Go.Proofs.YtphojebganlbnaaDoor.Lib hiding by8 by8_scalar

def isOk (R : Res Unit) : Bool := match R with
  | .ok _ _ _ => true
  | .bad _ _ => false
theorem idone_spec {H : Heap} {r mo : Nat} {x : List Int} {v : Value} (h : RS H r mo x v) : ACalls Tryd.prog 20 [Value.pointer (some ⟨r, 0, none⟩)].toArray H fun e H' => e = .returned (.bool (isOk (infl x mo))) ∧ H' = H := done_spec h
theorem a_call0 {P : Program} {H : Heap} {f : Nat} {xs : List Value} {S : Ending → Heap → Prop} {KV : Value → Heap → Prop} {KP : List PanicEntry → Heap → Prop} (h : ACalls P f xs.toArray H S) (hk : ∀ e H', S e H' → endK KV KP e H') : awpE P (.call f) xs KV KP H := a_call h hk
set_option maxHeartbeats 16000000 in
set_option maxRecDepth 4000 in
theorem inflatePieces_walk {H : Heap} {A C : Option Addr} {c cc : Nat} {b cuts : List Int} {most : Int} (hT : TabO H) (hA : Row H A (by8 b)) (hC : Row H C (by64 cuts)) (hc : b.length ≤ c) (hcc : cuts.length ≤ cc) (hb : isBy b) (hl : b.length ≤ 140737488351232) (hcl : cuts.length ≤ 140737488351232) (hm : -9223372036854775808 ≤ most ∧ most ≤ 9223372036854775807) :
    ACalls Tryd.prog 8 [Value.slice A b.length c, .int .i64 most, .slice C cuts.length cc].toArray H fun e H' => e = .returned (.bool true) ∧ Keep H H' := by
  refine call8 (Nat.le_of_ble_eq_true rfl) ?_
  unfold L8 env0
  simp -implicitDefEqProofs (maxSteps := 1000000) (disch := first | omega | assumption) only [Sx, reduceIte, Nat.reduceEqDiff, reduceCtorEq, Nat.reduceAdd, Nat.reduceSub, Nat.reduceLT, decide_true, decide_false, Bool.not_true, Bool.not_false, Int.toNat_one, Int.toNat_zero, Nat.zero_mul, l_g, endK, gd_u]
  refine a_call (xs := []) (lives_spec hT) ?_
  rintro e H1 ⟨rfl, k1⟩
  have q11 : ((1 : Int) == 1) = true := rfl
  have btf : (true != false) = true := rfl
  have bff : (false != false) = false := rfl
  by_cases hbad : most < 0 ∨ 4194304 < most
  · by_cases h1 : most < 0
    · have f1 : decide (most < 0) = true := decide_eq_true h1
      simp -implicitDefEqProofs (maxSteps := 1000000) (disch := first | omega | assumption) only [f1, Sx, reduceIte, Nat.reduceEqDiff, reduceCtorEq, Nat.reduceAdd, Nat.reduceSub, Nat.reduceLT, decide_true, decide_false, Bool.not_true, Bool.not_false, Int.toNat_one, Int.toNat_zero, Nat.zero_mul, l_g, endK, gd_u]
      refine a_call (newReader_bad hbad) ?_
      rintro e H2 ⟨rfl, rfl⟩
      simp -implicitDefEqProofs (maxSteps := 1000000) (disch := first | omega | assumption) only [q11, btf, Option.isNone_none, Sx, reduceIte, Nat.reduceEqDiff, reduceCtorEq, Nat.reduceAdd, Nat.reduceSub, Nat.reduceLT, decide_true, decide_false, Bool.not_true, Bool.not_false, Int.toNat_one, Int.toNat_zero, Nat.zero_mul, l_g, endK, gd_u]
      exact ⟨by (first | exact True.intro | rfl | assumption), k1⟩
    · have f1 : decide (most < 0) = false := decide_eq_false h1
      have f2 : decide (4194304 < most) = true := decide_eq_true (by omega)
      simp -implicitDefEqProofs (maxSteps := 1000000) (disch := first | omega | assumption) only [f1, f2, Sx, reduceIte, Nat.reduceEqDiff, reduceCtorEq, Nat.reduceAdd, Nat.reduceSub, Nat.reduceLT, decide_true, decide_false, Bool.not_true, Bool.not_false, Int.toNat_one, Int.toNat_zero, Nat.zero_mul, l_g, endK, gd_u]
      refine a_call (newReader_bad hbad) ?_
      rintro e H2 ⟨rfl, rfl⟩
      simp -implicitDefEqProofs (maxSteps := 1000000) (disch := first | omega | assumption) only [q11, btf, Option.isNone_none, Sx, reduceIte, Nat.reduceEqDiff, reduceCtorEq, Nat.reduceAdd, Nat.reduceSub, Nat.reduceLT, decide_true, decide_false, Bool.not_true, Bool.not_false, Int.toNat_one, Int.toNat_zero, Nat.zero_mul, l_g, endK, gd_u]
      exact ⟨by (first | exact True.intro | rfl | assumption), k1⟩
  have f1 : decide (most < 0) = false := decide_eq_false (by omega)
  have f2 : decide (4194304 < most) = false := decide_eq_false (by omega)
  obtain ⟨mo, hmod⟩ : ∃ mo, mo = most.toNat := ⟨_, rfl⟩
  have hmt : most = (mo : Nat) := by omega
  have hmo : mo ≤ 4194304 := by omega
  subst hmt
  obtain ⟨R, hR⟩ : ∃ R, R = infl b mo := ⟨_, rfl⟩
  simp -implicitDefEqProofs (maxSteps := 1000000) (disch := first | omega | assumption) only [f1, f2, Sx, reduceIte, Nat.reduceEqDiff, reduceCtorEq, Nat.reduceAdd, Nat.reduceSub, Nat.reduceLT, decide_true, decide_false, Bool.not_true, Bool.not_false, Int.toNat_one, Int.toNat_zero, Nat.zero_mul, l_g, endK, gd_u]
  refine a_call (fed_spec (hT.keep k1) (k1.row hA) (k1.row hC) hb (by omega) hc (by omega) hmo) ?_
  rintro e H2 ⟨r1, v1, o1, rfl, hF1⟩
  have hs1 := hF1.out.scalar
  have k2 := k1.trans hF1.k
  simp -implicitDefEqProofs (maxSteps := 1000000) (disch := first | omega | assumption) only [Sx, reduceIte, Nat.reduceEqDiff, reduceCtorEq, Nat.reduceAdd, Nat.reduceSub, Nat.reduceLT, decide_true, decide_false, Bool.not_true, Bool.not_false, Int.toNat_one, Int.toNat_zero, Nat.zero_mul, l_g, endK, gd_u]
  refine e_gen (fun env => env 0 = .slice A b.length c ∧ env 1 = .int .i64 (mo : Nat) ∧ env 9 = o1 ∧ env 10 = .int .i64 (errOf (infl b mo)) ∧ env 11 = .pointer (some ⟨r1, 0, none⟩)) ⟨by simp -implicitDefEqProofs (maxSteps := 1000000) (disch := first | omega | assumption) only [Sx, reduceIte, Nat.reduceEqDiff, reduceCtorEq, Nat.reduceAdd, Nat.reduceSub, Nat.reduceLT], by simp -implicitDefEqProofs (maxSteps := 1000000) (disch := first | omega | assumption) only [Sx, reduceIte, Nat.reduceEqDiff, reduceCtorEq, Nat.reduceAdd, Nat.reduceSub, Nat.reduceLT], by simp -implicitDefEqProofs (maxSteps := 1000000) (disch := first | omega | assumption) only [Sx, reduceIte, Nat.reduceEqDiff, reduceCtorEq, Nat.reduceAdd, Nat.reduceSub, Nat.reduceLT], by simp -implicitDefEqProofs (maxSteps := 1000000) (disch := first | omega | assumption) only [Sx, reduceIte, Nat.reduceEqDiff, reduceCtorEq, Nat.reduceAdd, Nat.reduceSub, Nat.reduceLT], by simp -implicitDefEqProofs (maxSteps := 1000000) (disch := first | omega | assumption) only [Sx, reduceIte, Nat.reduceEqDiff, reduceCtorEq, Nat.reduceAdd, Nat.reduceSub, Nat.reduceLT]⟩ ?_
  rintro env ⟨g0, g1, g9, g10, g11⟩
  refine a_call (fed_spec (cuts := []) (C := none) (cc := 0) (hT.keep k2) (k2.row hA) (fun i v hv => by simp at hv) hb (by omega) hc (by simp) hmo) ?_
  rintro e H3 ⟨r2, v2, o2, rfl, hF2⟩
  have hs2 := hF2.out.scalar
  have k3 := k2.trans hF2.k
  have hrs1 := hF1.rs.keep hF2.k
  have hout1 := hF1.out.keep hF2.k
  have hrs2 := hF2.rs
  have hout2 := hF2.out
  rw [← hR] at hout1 hout2 g10
  obtain ⟨A1, c1, rfl, -, w1⟩ := Bo.row hout1
  obtain ⟨A2, c2, rfl, -, w2⟩ := Bo.row hout2
  have b1 := ev_b2s_by (c := c1) w1
  have b2 := ev_b2s_by (c := c2) w2
  have nE : (errOf R != errOf R) = false := by simp
  have sE : (txt R.out == txt R.out) = true := by simp
  rw [← hR]
  simp -implicitDefEqProofs (maxSteps := 1000000) (disch := first | omega | assumption) only [g0, g1, g9, g10, g11, Option.isNone_some, bff, nE, b1, b2, t_list, sE, Sx, reduceIte, Nat.reduceEqDiff, reduceCtorEq, Nat.reduceAdd, Nat.reduceSub, Nat.reduceLT, decide_true, decide_false, Bool.not_true, Bool.not_false, Int.toNat_one, Int.toNat_zero, Nat.zero_mul, l_g, endK, gd_u]
  refine a_call (idone_spec hrs1) ?_
  rintro e H4 ⟨rfl, rfl⟩
  rw [← hR]
  simp -implicitDefEqProofs (maxSteps := 1000000) (disch := first | omega | assumption) only [g0, g1, g9, g10, g11, Sx, reduceIte, Nat.reduceEqDiff, reduceCtorEq, Nat.reduceAdd, Nat.reduceSub, Nat.reduceLT, decide_true, decide_false, Bool.not_true, Bool.not_false, Int.toNat_one, Int.toNat_zero, Nat.zero_mul, l_g, endK, gd_u]
  refine a_call (idone_spec hrs2) ?_
  rintro e H4 ⟨rfl, rfl⟩
  rw [← hR]
  have nD : (isOk R != isOk R) = false := by simp
  have nD2 : ((isOk R == isOk R) != true) = false := by simp
  simp -implicitDefEqProofs (maxSteps := 1000000) (disch := first | omega | assumption) only [g0, g1, g9, g10, g11, nD, nD2, Sx, reduceIte, Nat.reduceEqDiff, reduceCtorEq, Nat.reduceAdd, Nat.reduceSub, Nat.reduceLT, decide_true, decide_false, Bool.not_true, Bool.not_false, Int.toNat_one, Int.toNat_zero, Nat.zero_mul, l_g, endK, gd_u]
  refine a_call (rest_spec hrs1 (by omega)) ?_
  rintro e H5 ⟨w5, rfl, hO5, k5, f5⟩
  rw [← hR] at hO5
  obtain ⟨A5, c5, rfl, -, z5⟩ := Bo.row hO5
  have b5 := ev_b2s_by (c := c5) z5
  simp -implicitDefEqProofs (maxSteps := 1000000) (disch := first | omega | assumption) only [g0, g1, g9, g10, g11, b5, l_qk, l_e, Sx, reduceIte, Nat.reduceEqDiff, reduceCtorEq, Nat.reduceAdd, Nat.reduceSub, Nat.reduceLT, decide_true, decide_false, Bool.not_true, Bool.not_false, Int.toNat_one, Int.toNat_zero, Nat.zero_mul, l_g, endK, gd_u]
  refine a_call (rest_spec (hrs2.keep k5) (by omega)) ?_
  rintro e H6 ⟨w6, rfl, hO6, k6, f6⟩
  rw [← hR] at hO6
  obtain ⟨A6, c6, rfl, -, z6⟩ := Bo.row hO6
  have b6 := ev_b2s_by (c := c6) z6
  have b5' := ev_b2s_by (c := c5) (k6.row z5)
  have k36 := k5.trans k6
  have k6' := k3.trans k36
  have sF : (txt (restV b R) == txt (restV b R)) = true := by simp
  simp -implicitDefEqProofs (maxSteps := 1000000) (disch := first | omega | assumption) only [endK]
  refine ⟨fun z hz _ => by simp only [List.mem_cons, List.not_mem_nil, or_false] at hz; subst hz; exact b5', ?_⟩
  simp -implicitDefEqProofs (maxSteps := 1000000) (disch := first | omega | assumption) only [b6, t_list, sF, l_qk, Sx, reduceIte, Nat.reduceEqDiff, reduceCtorEq, Nat.reduceAdd, Nat.reduceSub, Nat.reduceLT, decide_true, decide_false, Bool.not_true, Bool.not_false, Int.toNat_one, Int.toNat_zero, Nat.zero_mul, l_g, endK, gd_u]
  refine a_lits (sz := 1) (cells := #[]) rfl rfl ?_
  intro r7 H7 hO7 k7 hr7
  have k7' := k6'.trans k7
  try simp -implicitDefEqProofs (maxSteps := 1000000) (disch := first | omega | assumption) only [g0, Sx, reduceIte, Nat.reduceEqDiff, reduceCtorEq, Nat.reduceAdd, Nat.reduceSub, Nat.reduceLT, decide_true, decide_false, Bool.not_true, Bool.not_false, Int.toNat_one, Int.toNat_zero, Nat.zero_mul, l_g, endK, gd_u]
  refine app_b (l := []) (x := b) hO7 rfl rfl (k7'.row hA) (by simp; omega) ?_
  intro v8 H8 hO8 ho8 hm8
  obtain ⟨k8, f8⟩ := grown2 k7' (v := .slice (some ⟨r7, 0, none⟩) 0 0) (by rintro q ⟨⟩; exact k6'.none hr7) ho8 hm8
  rw [List.nil_append] at hO8
  obtain ⟨A8, c8, rfl, -, w8⟩ := Bo.row hO8
  have k37 := k36.trans k7
  have hrs1 : RS H8 r1 mo b v1 := (hrs1.keep k37).only ho8 (fun e => by cases e; exact (hrs1.keep k36).known.1 hr7) (fun s hs e => by cases e; exact (hrs1.keep k36).known.2 _ hs hr7)
  have hrs2 : RS H8 r2 mo b v2 := (hrs2.keep k37).only ho8 (fun e => by cases e; exact (hrs2.keep k36).known.1 hr7) (fun s hs e => by cases e; exact (hrs2.keep k36).known.2 _ hs hr7)
  have hout1 : Bo H8 (.slice A1 R.out.length c1) R.out := (hout1.keep k37).only ho8 fun s hs e => by cases e; exact (hout1.keep k36).known hs hr7
  try simp -implicitDefEqProofs (maxSteps := 1000000) (disch := first | omega | assumption) only [g0, g1, Sx, reduceIte, Nat.reduceEqDiff, reduceCtorEq, Nat.reduceAdd, Nat.reduceSub, Nat.reduceLT, decide_true, decide_false, Bool.not_true, Bool.not_false, Int.toNat_one, Int.toNat_zero, Nat.zero_mul, l_g, endK, gd_u]
  refine a_call (decode_spec (most := (mo : Nat)) (hT.keep k8) w8 rfl hb (by omega)) ?_
  rintro e H9 ⟨v9, rfl, hO9, -, -, k9, -⟩
  have hs9 := hO9.scalar
  have k9' := k8.trans k9
  have hrs1 := hrs1.keep k9
  have hrs2 := hrs2.keep k9
  obtain ⟨_, _, ee, _, w1⟩ := Bo.row (hout1.keep k9)
  cases ee
  have b1 := ev_b2s_by (c := c1) w1
  have hnb : ¬ ((mo : Int) < 0 ∨ 4194304 < (mo : Int)) := by omega
  have htn : ((mo : Int)).toNat = mo := by omega
  have q00 : ((0 : Int) == 0) = true := rfl
  cases hQ : R with
  | ok u t o =>
    rw [hR] at hQ
    have hD : decV b (mo : Int) = (o, (t + 7) / 8, 0) := decV_ok hnb (by rw [htn]; exact hQ)
    have hRo : R = .ok u t o := by rw [hR]; exact hQ
    have hRR : R.out = o := by rw [hRo]; rfl
    have he : errOf R = 0 := by rw [hRo]; rfl
    have hk : isOk R = true := by rw [hRo]; rfl
    obtain ⟨i1, i2, -, -, -⟩ := infl_ok hQ
    rw [hD] at hO9 ⊢
    simp only at hO9 ⊢
    obtain ⟨A9, c9, rfl, -, w9⟩ := Bo.row hO9
    have b9 := ev_b2s_by (c := c9) w9
    rw [hRR] at b1 g9
    rw [he] at g10
    have sO : (txt o == txt o) = true := by simp
    obtain ⟨N, hN⟩ : ∃ N, N = (t + 7) / 8 := ⟨_, rfl⟩
    rw [← hN] at i1 i2 ⊢
    have sN : ((N : Int) == (N : Int)) = true := by simp
    simp -implicitDefEqProofs (maxSteps := 1000000) (disch := first | omega | assumption) only [g0, g1, g9, g10, g11, q00, b1, b9, t_list, sO, Sx, reduceIte, Nat.reduceEqDiff, reduceCtorEq, Nat.reduceAdd, Nat.reduceSub, Nat.reduceLT, decide_true, decide_false, Bool.not_true, Bool.not_false, Int.toNat_one, Int.toNat_zero, Nat.zero_mul, l_g, endK, gd_u]
    refine a_call (idone_spec hrs1) ?_
    rintro e H10 ⟨rfl, rfl⟩
    rw [← hR, hk]
    simp -implicitDefEqProofs (maxSteps := 1000000) (disch := first | omega | assumption) only [g0, g1, g9, g10, g11, Sx, reduceIte, Nat.reduceEqDiff, reduceCtorEq, Nat.reduceAdd, Nat.reduceSub, Nat.reduceLT, decide_true, decide_false, Bool.not_true, Bool.not_false, Int.toNat_one, Int.toNat_zero, Nat.zero_mul, l_g, endK, gd_u]
    refine a_call (isize_spec hrs1) ?_
    rintro e H10 ⟨⟨z, rfl, hz⟩, rfl⟩
    rw [hQ] at hz
    simp only [← hN] at hz
    subst hz
    simp -implicitDefEqProofs (maxSteps := 1000000) (disch := first | omega | assumption) only [g0, g1, g9, g10, g11, sN, Sx, reduceIte, Nat.reduceEqDiff, reduceCtorEq, Nat.reduceAdd, Nat.reduceSub, Nat.reduceLT, decide_true, decide_false, Bool.not_true, Bool.not_false, Int.toNat_one, Int.toNat_zero, Nat.zero_mul, l_g, endK, gd_u]
    refine a_call (isize_spec hrs2) ?_
    rintro e H10 ⟨⟨z, rfl, hz⟩, rfl⟩
    rw [hQ] at hz
    simp only [← hN] at hz
    subst hz
    simp -implicitDefEqProofs (maxSteps := 1000000) (disch := first | omega | assumption) only [g0, g1, g9, g10, g11, sN, Sx, reduceIte, Nat.reduceEqDiff, reduceCtorEq, Nat.reduceAdd, Nat.reduceSub, Nat.reduceLT, decide_true, decide_false, Bool.not_true, Bool.not_false, Int.toNat_one, Int.toNat_zero, Nat.zero_mul, l_g, endK, gd_u]
    refine a_call (rest_spec hrs1 (by omega)) ?_
    rintro e H11 ⟨w11, rfl, hO11, k11, f11⟩
    have hRs : restV b (infl b mo) = b.drop N := by rw [hQ]; show b.drop ((t + 7) / 8) = _; rw [hN]
    rw [hRs] at hO11
    obtain ⟨A11, c11, rfl, -, w11⟩ := Bo.row hO11
    have hlen : (b.drop N).length = b.length - N := List.length_drop
    rw [hlen]
    have sL : (((b.length - N : Nat) : Int) == (b.length : Int) - (N : Int)) = true := by rw [beq_iff_eq]; omega
    simp -implicitDefEqProofs (maxSteps := 1000000) (disch := first | omega | assumption) only [g0, g1, g9, g10, g11, sL, Sx, reduceIte, Nat.reduceEqDiff, reduceCtorEq, Nat.reduceAdd, Nat.reduceSub, Nat.reduceLT, decide_true, decide_false, Bool.not_true, Bool.not_false, Int.toNat_one, Int.toNat_zero, Nat.zero_mul, l_g, endK, gd_u]
    exact ⟨by (first | exact True.intro | rfl | assumption), k9'.trans k11⟩
  | bad er o =>
    rw [hR] at hQ
    have hD : decV b (mo : Int) = ([], 0, er) := decV_bad hnb (by rw [htn]; exact hQ)
    have hRo : R = .bad er o := by rw [hR]; exact hQ
    have hk : isOk R = false := by rw [hRo]; rfl
    have hne : er ≠ 0 := by
      rintro rfl
      exact infl_nz (bs := b) (mo := mo) (o := o) (by omega) hQ
    have e0 : (er == 0) = false := beq_eq_false_iff_ne.2 hne
    rw [hD]
    by_cases h4 : er = 4
    · have he : errOf R = 0 := by rw [hRo]; show (if er = 4 then 0 else er) = 0; rw [if_pos h4]
      rw [he] at g10
      have e4 : (er == 4) = true := beq_iff_eq.2 h4
      simp -implicitDefEqProofs (maxSteps := 1000000) (disch := first | omega | assumption) only [g0, g1, g9, g10, g11, q00, e0, e4, Sx, reduceIte, Nat.reduceEqDiff, reduceCtorEq, Nat.reduceAdd, Nat.reduceSub, Nat.reduceLT, decide_true, decide_false, Bool.not_true, Bool.not_false, Int.toNat_one, Int.toNat_zero, Nat.zero_mul, l_g, endK, gd_u]
      refine a_call (idone_spec hrs1) ?_
      rintro e H10 ⟨rfl, rfl⟩
      rw [← hR, hk]
      simp -implicitDefEqProofs (maxSteps := 1000000) (disch := first | omega | assumption) only [g0, g1, g9, g10, g11, Sx, reduceIte, Nat.reduceEqDiff, reduceCtorEq, Nat.reduceAdd, Nat.reduceSub, Nat.reduceLT, decide_true, decide_false, Bool.not_true, Bool.not_false, Int.toNat_one, Int.toNat_zero, Nat.zero_mul, l_g, endK, gd_u]
      refine a_call (isize_spec hrs1) ?_
      rintro e H10 ⟨⟨z, rfl, hz⟩, rfl⟩
      rw [hQ] at hz
      have hz := hz h4
      subst hz
      have sB : ((b.length : Int) == (b.length : Int)) = true := by simp
      simp -implicitDefEqProofs (maxSteps := 1000000) (disch := first | omega | assumption) only [g0, g1, g9, g10, g11, sB, Sx, reduceIte, Nat.reduceEqDiff, reduceCtorEq, Nat.reduceAdd, Nat.reduceSub, Nat.reduceLT, decide_true, decide_false, Bool.not_true, Bool.not_false, Int.toNat_one, Int.toNat_zero, Nat.zero_mul, l_g, endK, gd_u]
      exact ⟨by (first | exact True.intro | rfl | assumption), k9'⟩
    · have he : errOf R = er := by rw [hRo]; show (if er = 4 then 0 else er) = er; rw [if_neg h4]
      rw [he] at g10
      have e4 : (er == 4) = false := beq_eq_false_iff_ne.2 h4
      have ee : (er == er) = true := by simp
      simp -implicitDefEqProofs (maxSteps := 1000000) (disch := first | omega | assumption) only [g0, g1, g9, g10, g11, e0, e4, ee, Sx, reduceIte, Nat.reduceEqDiff, reduceCtorEq, Nat.reduceAdd, Nat.reduceSub, Nat.reduceLT, decide_true, decide_false, Bool.not_true, Bool.not_false, Int.toNat_one, Int.toNat_zero, Nat.zero_mul, l_g, endK, gd_u]
      refine a_call (idone_spec hrs1) ?_
      rintro e H10 ⟨rfl, rfl⟩
      rw [← hR, hk]
      simp -implicitDefEqProofs (maxSteps := 1000000) (disch := first | omega | assumption) only [g0, g1, g9, g10, g11, Sx, reduceIte, Nat.reduceEqDiff, reduceCtorEq, Nat.reduceAdd, Nat.reduceSub, Nat.reduceLT, decide_true, decide_false, Bool.not_true, Bool.not_false, Int.toNat_one, Int.toNat_zero, Nat.zero_mul, l_g, endK, gd_u]
      exact ⟨by (first | exact True.intro | rfl | assumption), k9'⟩
theorem inflatePieces_row {H : Heap} (hT : TabO H) (A : Option Addr) (c : Nat) (b : List Int) (cl : List (List Value)) (he : Els (Ty.int .u8) H A b cl) (hc : b.length ≤ c) (wb : (∀ y ∈ b, (Lit.int .u8 y).wf = true) ∧ b.length ≤ maxLen) (hb : b.length * 1 ≤ 140737488351232) (most : Int) (wm : (Lit.int .i64 most).wf = true)
    (C : Option Addr) (cc : Nat) (cuts : List Int) (cl2 : List (List Value)) (he2 : Els (Ty.int .i64) H C cuts cl2) (hcc : cuts.length ≤ cc) (wc : (∀ y ∈ cuts, (Lit.int .i64 y).wf = true) ∧ cuts.length ≤ maxLen) (hcl : cuts.length * 8 ≤ 140737488351232) :
    ACalls Tryd.prog 8 [Value.slice A b.length c, .int .i64 most, .slice C cuts.length cc].toArray H fun e H' => e = .returned (.bool true) ∧ Keep H H' :=
  inflatePieces_walk hT he.ints he2.ints hc hcc (fun y hy => wf_u8 (wb.1 y hy)) (by omega) (by omega) (wf_i64 wm)
end Go.Proofs.YtphojebganlbnaaDoor.S06
