/-
  Bytes that are fed to a reader in pieces.
-/
import Derived.Test.YtphojebganlbnaaDoorFeedP
set_option linter.unusedVariables false
set_option linter.unusedSimpArgs false
namespace Go.Proofs.YtphojebganlbnaaDoor.S06
open Go Go.RowKit Go.Proofs.YtphojebganlbnaaDoor.Sep Go.Proofs.YtphojebganlbnaaDoor.Low Go.Proofs.YtphojebganlbnaaDoor.S05 Go.Proofs.YtphojebganlbnaaDoor.CodeLaw Go.Proofs.YtphojebganlbnaaDoor.Pack Go.Proofs.YtphojebganlbnaaDoor.BitLaw
open Go.Proofs.YtphojebganlbnaaDoor.Lib hiding by8 by8_scalar

/-- a reader and what it told, so far -/
structure Fd1 (H0 H : Heap) (r mo : Nat) (x : List Int) (v ov : Value) : Prop where
  rs : RS H r mo x v
  out : Bo H ov (infl x mo).out
  k : Keep H0 H
  nr : H0 r = none
  fv : Fresh H0 v
  fo : Fresh H0 ov
  ne : ∀ s, own ov = some s → own v ≠ some s
theorem drop_pre {a b : List Int} (h : a <+: b) : a ++ b.drop a.length = b := by
  obtain ⟨t, rfl⟩ := h
  rw [List.drop_left]
set_option maxHeartbeats 8000000 in
theorem fed_step {H0 H : Heap} {r mo to from_ c : Nat} {b : List Int} {v ov : Value} {A : Option Addr} {env : Env} {i : Nat} {cv : Value} {Q : Post} {QP : List PanicEntry → Heap → Prop} (hT : TabO H0) (h : Fd1 H0 H r mo (b.take from_) v ov) (hA : Row H0 A (by8 b)) (hb : isBy b) (hl : b.length ≤ 211106232532992) (hc : b.length ≤ c) (h1 : from_ ≤ to) (h2 : to ≤ b.length) (hmo : mo ≤ 4194304)
    (g0 : env 0 = .slice A b.length c) (g2 : env 2 = cv) (g9 : env 9 = .pointer (some ⟨r, 0, none⟩)) (g11 : env 11 = ov) (g12 : env 12 = .int .i64 (errOf (infl (b.take from_) mo))) (g13 : env 13 = .int .i64 (from_ : Nat)) (g14 : env 14 = .int .i64 (i : Nat)) (g15 : env 15 = .int .i64 (to : Nat))
    (hQ : ∀ env' H' v' ov', Fd1 H0 H' r mo (b.take to) v' ov' → env' 0 = .slice A b.length c → env' 2 = cv → env' 9 = .pointer (some ⟨r, 0, none⟩) → env' 11 = ov' → env' 12 = .int .i64 (errOf (infl (b.take to) mo)) → env' 13 = .int .i64 (to : Nat) → env' 14 = .int .i64 (i : Nat) → Q .normal env' H') :
    awpC Tryd.prog L15_1 Q QP env H := by
  have f0 : decide ((to : Int) < (from_ : Int)) = false := decide_eq_false (by omega)
  have f1 : decide ((b.length : Int) < (to : Int)) = false := decide_eq_false (by omega)
  obtain ⟨x, hx⟩ : ∃ x, x = b.take from_ := ⟨_, rfl⟩
  obtain ⟨z, hz⟩ : ∃ z, z = (b.drop from_).take (to - from_) := ⟨_, rfl⟩
  have hxz : b.take to = x ++ z := by
    rw [hx, hz, ← List.take_add]
    congr 1
    omega
  rw [← hx] at h g12
  rw [hxz] at hQ
  have hxl : x.length = from_ := by rw [hx, List.length_take]; omega
  have hzl : z.length = to - from_ := by rw [hz, List.length_take, List.length_drop]; omega
  have hzb : isBy z := fun y hy => hb y (by rw [hz] at hy; exact List.mem_of_mem_drop (List.mem_of_mem_take hy))
  obtain ⟨hrs, hout, hk, hnr, hfv, hfo, hne⟩ := h
  have hle := hrs.ol
  have hrow : Row H (cutA A c from_ 1) (by8 z) := by rw [hz]; exact row_take (row_drop (hk.row hA) hc)
  have hin : (0 : Int) ≤ (from_ : Int) ∧ (from_ : Int) ≤ (to : Int) ∧ (to : Int) ≤ (c : Nat) := by omega
  have hso := hout.scalar
  unfold L15_1
  simp -implicitDefEqProofs (maxSteps := 1000000) (disch := first | omega | assumption) only [g0, g9, g11, g12, g13, g15, f0, f1, Sx, reduceIte, Nat.reduceEqDiff, reduceCtorEq, Nat.reduceAdd, Nat.reduceSub, Nat.reduceLT, decide_true, decide_false, Bool.not_true, Bool.not_false, Int.toNat_one, Int.toNat_zero, Nat.zero_mul, l_g, endK, gd_u]
  refine a_lits (sz := 1) (cells := #[]) rfl rfl ?_
  intro r1 H1 hO1 k1 hr1
  have k1' := hk.trans k1
  try simp -implicitDefEqProofs (maxSteps := 1000000) (disch := first | omega | assumption) only [g0, g13, g15, ev_slc_lohi, Sx, reduceIte, Nat.reduceEqDiff, reduceCtorEq, Nat.reduceAdd, Nat.reduceSub, Nat.reduceLT, decide_true, decide_false, Bool.not_true, Bool.not_false, Int.toNat_one, Int.toNat_zero, Nat.zero_mul, l_g, endK, gd_u]
  refine app_b (l := []) (x := z) hO1 rfl hzl.symm (k1.row hrow) (by simp; omega) ?_
  intro v2 H2 hO2 ho2 hm2
  rw [List.nil_append] at hO2
  obtain ⟨k2, f2⟩ := grown2 k1' (v := .slice (some ⟨r1, 0, none⟩) 0 0) (by rintro q ⟨⟩; exact hk.none hr1) ho2 hm2
  have hrs2 : RS H2 r mo x v := (hrs.keep k1).only ho2 (fun e => by cases e; exact hrs.known.1 hr1) (fun s hs e => by cases e; exact hrs.known.2 _ hs hr1)
  have hout2 : Bo H2 ov (infl x mo).out := (hout.keep k1).only ho2 fun s hs e => by cases e; exact hout.known hs hr1
  obtain ⟨A2, c2, rfl, -, w2⟩ := Bo.row hO2
  try simp -implicitDefEqProofs (maxSteps := 1000000) (disch := first | omega | assumption) only [g9, Sx, reduceIte, Nat.reduceEqDiff, reduceCtorEq, Nat.reduceAdd, Nat.reduceSub, Nat.reduceLT, decide_true, decide_false, Bool.not_true, Bool.not_false, Int.toNat_one, Int.toNat_zero, Nat.zero_mul, l_g, endK, gd_u]
  refine a_call (feed_spec (fun H' ho => hT.keep (ho.keep k2 fun s hs => by rcases hs with rfl | hs; exact hnr; exact hfv s hs)) hrs2 w2 rfl hzb (by omega)) ?_
  rintro e H3 ⟨pv, v3, rfl, hP, hFp, hrs3, ho3, hm3, hne3⟩
  have hsp := hP.scalar
  have k3 : Keep H0 H3 := ho3.keep k2 fun s hs => by rcases hs with rfl | hs; exact hnr; exact hfv s hs
  have hfv3 : Fresh H0 v3 := hm3.fresh k2 hfv
  have hout3 : Bo H3 ov (infl x mo).out := hout2.only ho3 fun s hs e => by
    rcases e with rfl | e
    · obtain ⟨_, _, _, _, a, _⟩ := hrs2
      exact hout2.elem a (by decide) hs
    · exact hne s hs e
  have hne3' : ∀ s, own ov = some s → own v3 ≠ some s := fun s hs e => by
    rcases hm3 with e2 | ⟨q, e2, hq⟩
    · exact hne s hs (e2 ▸ e)
    · rw [e2] at e
      cases e
      exact hout2.known hs hq
  have hpre := infl_pre (bs := x) (ex := z) (mo := mo)
  obtain ⟨A3, c3, rfl, -, w3⟩ := Bo.row hP
  have hout3s := hout3.scalar
  simp -implicitDefEqProofs (maxSteps := 1000000) (disch := first | omega | assumption) only [g0, g9, g11, Sx, reduceIte, Nat.reduceEqDiff, reduceCtorEq, Nat.reduceAdd, Nat.reduceSub, Nat.reduceLT, decide_true, decide_false, Bool.not_true, Bool.not_false, Int.toNat_one, Int.toNat_zero, Nat.zero_mul, l_g, endK, gd_u]
  refine app_b hout3 rfl rfl w3 (by rw [List.length_drop]; have := hrs3.ol; omega) ?_
  intro ov4 H4 hO4 ho4 hm4
  have hs4 := hO4.scalar
  rw [drop_pre hpre] at hO4
  obtain ⟨k4, f4⟩ := grown2 k3 hfo ho4 hm4
  have hrs4 : RS H4 r mo (x ++ z) v3 := hrs3.only ho4 (fun e => by
      obtain ⟨_, _, _, _, a, _⟩ := hrs3
      exact hout3.elem a (by decide) e) (fun s hs e => hne3' s e hs)
  have hne4 : ∀ s, own ov4 = some s → own v3 ≠ some s := fun s hs e => by
    rcases hm4 with e2 | ⟨q, e2, hq⟩
    · exact hne3' s (e2 ▸ hs) e
    · rw [e2] at hs
      cases hs
      exact hrs3.known.2 _ e hq
  have hfin : Fd1 H0 H4 r mo (x ++ z) v3 ov4 := ⟨hrs4, hO4, k4, hnr, hfv3, f4, hne4⟩
  unfold L15_0
  by_cases he : errOf (infl x mo) = 0
  · have q0 : (errOf (infl x mo) == 0) = true := beq_iff_eq.2 he
    simp -implicitDefEqProofs (maxSteps := 1000000) (disch := first | omega | assumption) only [g0, g9, g12, g14, g15, q0, Sx, reduceIte, Nat.reduceEqDiff, reduceCtorEq, Nat.reduceAdd, Nat.reduceSub, Nat.reduceLT, decide_true, decide_false, Bool.not_true, Bool.not_false, Int.toNat_one, Int.toNat_zero, Nat.zero_mul, l_g, endK, gd_u]
    exact hQ _ _ v3 ov4 hfin (by simp -implicitDefEqProofs (maxSteps := 1000000) (disch := first | omega | assumption) only [g0, Sx, reduceIte, Nat.reduceEqDiff, reduceCtorEq, Nat.reduceAdd, Nat.reduceSub, Nat.reduceLT, decide_true, decide_false, Bool.not_true, Bool.not_false, Int.toNat_one, Int.toNat_zero, Nat.zero_mul, l_g, endK, gd_u]) (by simp -implicitDefEqProofs (maxSteps := 1000000) (disch := first | omega | assumption) only [g2, Sx, reduceIte, Nat.reduceEqDiff, reduceCtorEq, Nat.reduceAdd, Nat.reduceSub, Nat.reduceLT, decide_true, decide_false, Bool.not_true, Bool.not_false, Int.toNat_one, Int.toNat_zero, Nat.zero_mul, l_g, endK, gd_u]) (by simp -implicitDefEqProofs (maxSteps := 1000000) (disch := first | omega | assumption) only [g9, Sx, reduceIte, Nat.reduceEqDiff, reduceCtorEq, Nat.reduceAdd, Nat.reduceSub, Nat.reduceLT, decide_true, decide_false, Bool.not_true, Bool.not_false, Int.toNat_one, Int.toNat_zero, Nat.zero_mul, l_g, endK, gd_u]) (by simp -implicitDefEqProofs (maxSteps := 1000000) (disch := first | omega | assumption) only [Sx, reduceIte, Nat.reduceEqDiff, reduceCtorEq, Nat.reduceAdd, Nat.reduceSub, Nat.reduceLT, decide_true, decide_false, Bool.not_true, Bool.not_false, Int.toNat_one, Int.toNat_zero, Nat.zero_mul, l_g, endK, gd_u]) (by simp -implicitDefEqProofs (maxSteps := 1000000) (disch := first | omega | assumption) only [Sx, reduceIte, Nat.reduceEqDiff, reduceCtorEq, Nat.reduceAdd, Nat.reduceSub, Nat.reduceLT, decide_true, decide_false, Bool.not_true, Bool.not_false, Int.toNat_one, Int.toNat_zero, Nat.zero_mul, l_g, endK, gd_u]) (by simp -implicitDefEqProofs (maxSteps := 1000000) (disch := first | omega | assumption) only [Sx, reduceIte, Nat.reduceEqDiff, reduceCtorEq, Nat.reduceAdd, Nat.reduceSub, Nat.reduceLT, decide_true, decide_false, Bool.not_true, Bool.not_false, Int.toNat_one, Int.toNat_zero, Nat.zero_mul, l_g, endK, gd_u]) (by simp -implicitDefEqProofs (maxSteps := 1000000) (disch := first | omega | assumption) only [g14, Sx, reduceIte, Nat.reduceEqDiff, reduceCtorEq, Nat.reduceAdd, Nat.reduceSub, Nat.reduceLT, decide_true, decide_false, Bool.not_true, Bool.not_false, Int.toNat_one, Int.toNat_zero, Nat.zero_mul, l_g, endK, gd_u])
  · have q0 : (errOf (infl x mo) == 0) = false := beq_eq_false_iff_ne.2 he
    have hsame : errOf (infl (x ++ z) mo) = errOf (infl x mo) := by
      cases hR : infl x mo with
      | ok u t o => rw [hR] at he; exact absurd rfl he
      | bad e o =>
        have he4 : e ≠ 4 := by
          rintro rfl
          rw [hR] at he
          exact he rfl
        rw [err_more hR he4]
    simp -implicitDefEqProofs (maxSteps := 1000000) (disch := first | omega | assumption) only [g0, g9, g12, g14, g15, q0, Sx, reduceIte, Nat.reduceEqDiff, reduceCtorEq, Nat.reduceAdd, Nat.reduceSub, Nat.reduceLT, decide_true, decide_false, Bool.not_true, Bool.not_false, Int.toNat_one, Int.toNat_zero, Nat.zero_mul, l_g, endK, gd_u]
    exact hQ _ _ v3 ov4 hfin (by simp -implicitDefEqProofs (maxSteps := 1000000) (disch := first | omega | assumption) only [g0, Sx, reduceIte, Nat.reduceEqDiff, reduceCtorEq, Nat.reduceAdd, Nat.reduceSub, Nat.reduceLT, decide_true, decide_false, Bool.not_true, Bool.not_false, Int.toNat_one, Int.toNat_zero, Nat.zero_mul, l_g, endK, gd_u]) (by simp -implicitDefEqProofs (maxSteps := 1000000) (disch := first | omega | assumption) only [g2, Sx, reduceIte, Nat.reduceEqDiff, reduceCtorEq, Nat.reduceAdd, Nat.reduceSub, Nat.reduceLT, decide_true, decide_false, Bool.not_true, Bool.not_false, Int.toNat_one, Int.toNat_zero, Nat.zero_mul, l_g, endK, gd_u]) (by simp -implicitDefEqProofs (maxSteps := 1000000) (disch := first | omega | assumption) only [g9, Sx, reduceIte, Nat.reduceEqDiff, reduceCtorEq, Nat.reduceAdd, Nat.reduceSub, Nat.reduceLT, decide_true, decide_false, Bool.not_true, Bool.not_false, Int.toNat_one, Int.toNat_zero, Nat.zero_mul, l_g, endK, gd_u]) (by simp -implicitDefEqProofs (maxSteps := 1000000) (disch := first | omega | assumption) only [Sx, reduceIte, Nat.reduceEqDiff, reduceCtorEq, Nat.reduceAdd, Nat.reduceSub, Nat.reduceLT, decide_true, decide_false, Bool.not_true, Bool.not_false, Int.toNat_one, Int.toNat_zero, Nat.zero_mul, l_g, endK, gd_u]) (by rw [hsame]; simp -implicitDefEqProofs (maxSteps := 1000000) (disch := first | omega | assumption) only [g12, Sx, reduceIte, Nat.reduceEqDiff, reduceCtorEq, Nat.reduceAdd, Nat.reduceSub, Nat.reduceLT, decide_true, decide_false, Bool.not_true, Bool.not_false, Int.toNat_one, Int.toNat_zero, Nat.zero_mul, l_g, endK, gd_u]) (by simp -implicitDefEqProofs (maxSteps := 1000000) (disch := first | omega | assumption) only [Sx, reduceIte, Nat.reduceEqDiff, reduceCtorEq, Nat.reduceAdd, Nat.reduceSub, Nat.reduceLT, decide_true, decide_false, Bool.not_true, Bool.not_false, Int.toNat_one, Int.toNat_zero, Nat.zero_mul, l_g, endK, gd_u]) (by simp -implicitDefEqProofs (maxSteps := 1000000) (disch := first | omega | assumption) only [g14, Sx, reduceIte, Nat.reduceEqDiff, reduceCtorEq, Nat.reduceAdd, Nat.reduceSub, Nat.reduceLT, decide_true, decide_false, Bool.not_true, Bool.not_false, Int.toNat_one, Int.toNat_zero, Nat.zero_mul, l_g, endK, gd_u])

theorem errNil (mo : Nat) : errOf (infl [] mo) = 0 := by rw [infl_nil]; rfl
set_option maxHeartbeats 8000000 in
theorem fed_spec {H : Heap} {mo c cc : Nat} {b cuts : List Int} {A C : Option Addr} (hT : TabO H) (hA : Row H A (by8 b)) (hC : Row H C (by64 cuts)) (hb : isBy b) (hl : b.length ≤ 211106232532992) (hc : b.length ≤ c) (hcl : cuts.length ≤ 1125899906842624) (hmo : mo ≤ 4194304) :
    ACalls Tryd.prog 15 [Value.slice A b.length c, .int .i64 (mo : Nat), .slice C cuts.length cc].toArray H fun e H' => ∃ r v ov, e = .returned (.tuple #[ov, .int .i64 (errOf (infl b mo)), .pointer (some ⟨r, 0, none⟩)]) ∧ Fd1 H H' r mo b v ov := by
  refine call15 (Nat.le_of_ble_eq_true rfl) ?_
  unfold L15 env0
  simp -implicitDefEqProofs (maxSteps := 1000000) (disch := first | omega | assumption) only [Sx, reduceIte, Nat.reduceEqDiff, reduceCtorEq, Nat.reduceAdd, Nat.reduceSub, Nat.reduceLT, decide_true, decide_false, Bool.not_true, Bool.not_false, Int.toNat_one, Int.toNat_zero, Nat.zero_mul, l_g, endK, gd_u]
  refine a_call (inewReader_spec hmo) ?_
  rintro e H1 ⟨r, rfl, hrs, k1, hr⟩
  have n00 : ((0 : Int) != 0) = false := rfl
  have bff : (false != false) = false := rfl
  simp -implicitDefEqProofs (maxSteps := 1000000) (disch := first | omega | assumption) only [n00, Option.isNone_some, bff, Sx, reduceIte, Nat.reduceEqDiff, reduceCtorEq, Nat.reduceAdd, Nat.reduceSub, Nat.reduceLT, decide_true, decide_false, Bool.not_true, Bool.not_false, Int.toNat_one, Int.toNat_zero, Nat.zero_mul, l_g, endK, gd_u]
  have hF0 : Fd1 H H1 r mo (b.take 0) (.slice none 0 0) (.slice none 0 0) := ⟨hrs, by rw [List.take_zero, infl_nil]; exact .nil, k1, hr, (fun s hs => by cases hs), (fun s hs => by cases hs), (fun s hs => by cases hs)⟩
  refine c_loop (fun k env H' => ∃ (i from_ : Nat) (v ov : Value), k + i = cuts.length + 1 ∧ from_ ≤ b.length ∧ (i = cuts.length + 1 → from_ = b.length) ∧ env 0 = .slice A b.length c ∧ env 2 = .slice C cuts.length cc ∧ env 9 = .pointer (some ⟨r, 0, none⟩) ∧ env 11 = ov ∧ env 12 = .int .i64 (errOf (infl (b.take from_) mo)) ∧ env 13 = .int .i64 (from_ : Nat) ∧ env 14 = .int .i64 (i : Nat) ∧ Fd1 H H' r mo (b.take from_) v ov) (cuts.length + 1)
    ⟨0, 0, _, _, by omega, by omega, by omega, by simp -implicitDefEqProofs (maxSteps := 1000000) (disch := first | omega | assumption) only [Sx, reduceIte, Nat.reduceEqDiff, reduceCtorEq, Nat.reduceAdd, Nat.reduceSub, Nat.reduceLT, decide_true, decide_false, Bool.not_true, Bool.not_false, Int.toNat_one, Int.toNat_zero, Nat.zero_mul, l_g, endK, gd_u], by simp -implicitDefEqProofs (maxSteps := 1000000) (disch := first | omega | assumption) only [Sx, reduceIte, Nat.reduceEqDiff, reduceCtorEq, Nat.reduceAdd, Nat.reduceSub, Nat.reduceLT, decide_true, decide_false, Bool.not_true, Bool.not_false, Int.toNat_one, Int.toNat_zero, Nat.zero_mul, l_g, endK, gd_u], by simp -implicitDefEqProofs (maxSteps := 1000000) (disch := first | omega | assumption) only [Sx, reduceIte, Nat.reduceEqDiff, reduceCtorEq, Nat.reduceAdd, Nat.reduceSub, Nat.reduceLT, decide_true, decide_false, Bool.not_true, Bool.not_false, Int.toNat_one, Int.toNat_zero, Nat.zero_mul, l_g, endK, gd_u], by simp -implicitDefEqProofs (maxSteps := 1000000) (disch := first | omega | assumption) only [Sx, reduceIte, Nat.reduceEqDiff, reduceCtorEq, Nat.reduceAdd, Nat.reduceSub, Nat.reduceLT, decide_true, decide_false, Bool.not_true, Bool.not_false, Int.toNat_one, Int.toNat_zero, Nat.zero_mul, l_g, endK, gd_u], by rw [List.take_zero, errNil]; simp -implicitDefEqProofs (maxSteps := 1000000) (disch := first | omega | assumption) only [Sx, reduceIte, Nat.reduceEqDiff, reduceCtorEq, Nat.reduceAdd, Nat.reduceSub, Nat.reduceLT, decide_true, decide_false, Bool.not_true, Bool.not_false, Int.toNat_one, Int.toNat_zero, Nat.zero_mul, l_g, endK, gd_u], by simp -implicitDefEqProofs (maxSteps := 1000000) (disch := first | omega | assumption) only [Sx, reduceIte, Nat.reduceEqDiff, reduceCtorEq, Nat.reduceAdd, Nat.reduceSub, Nat.reduceLT, decide_true, decide_false, Bool.not_true, Bool.not_false, Int.toNat_one, Int.toNat_zero, Nat.zero_mul, l_g, endK, gd_u]; rfl, by simp -implicitDefEqProofs (maxSteps := 1000000) (disch := first | omega | assumption) only [Sx, reduceIte, Nat.reduceEqDiff, reduceCtorEq, Nat.reduceAdd, Nat.reduceSub, Nat.reduceLT, decide_true, decide_false, Bool.not_true, Bool.not_false, Int.toNat_one, Int.toNat_zero, Nat.zero_mul, l_g, endK, gd_u]; rfl, hF0⟩ ?_
  rintro k env H2 ⟨i, from_, v, ov, hk, hfl, hend, g0, g2, g9, g11, g12, g13, g14, hF⟩
  unfold L15_3
  by_cases hi : i ≤ cuts.length
  · have f0 : decide ((i : Int) ≤ (cuts.length : Int)) = true := decide_eq_true (by omega)
    by_cases hi2 : i < cuts.length
    · have f1 : decide ((i : Int) < (cuts.length : Int)) = true := decide_eq_true (by omega)
      obtain ⟨ca, rfl, hcell⟩ := int_at (hF.k.row hC) hi2
      obtain ⟨z, hz⟩ : ∃ z, z = cuts[i] := ⟨_, rfl⟩
      rw [← hz] at hcell
      have hin : (0 : Int) ≤ (i : Int) ∧ (i : Int) < (cuts.length : Nat) := by omega
      by_cases hbad : z < (from_ : Nat) ∨ (b.length : Int) < z
      · unfold L15_1
        by_cases hz1 : z < (from_ : Nat)
        · have f2 : decide (z < (from_ : Int)) = true := decide_eq_true hz1
          unfold L15_2
          simp -implicitDefEqProofs (maxSteps := 1000000) (disch := first | omega | assumption) only [g0, g2, g9, g11, g12, g13, g14, f0, f1, hcell, f2, Sx, reduceIte, Nat.reduceEqDiff, reduceCtorEq, Nat.reduceAdd, Nat.reduceSub, Nat.reduceLT, decide_true, decide_false, Bool.not_true, Bool.not_false, Int.toNat_one, Int.toNat_zero, Nat.zero_mul, l_g, endK, gd_u]
          exact ⟨k - 1, by omega, i + 1, from_, v, ov, by omega, hfl, by omega, by (first | exact True.intro | rfl | assumption), by (first | exact True.intro | rfl | assumption), by (first | exact True.intro | rfl | assumption), by (first | exact True.intro | rfl | assumption), by (first | exact True.intro | rfl | assumption), by (first | exact True.intro | rfl | assumption), by (first | exact True.intro | rfl | assumption), hF⟩
        · have f2 : decide (z < (from_ : Int)) = false := decide_eq_false hz1
          have f3 : decide ((b.length : Int) < z) = true := decide_eq_true (by omega)
          unfold L15_2
          simp -implicitDefEqProofs (maxSteps := 1000000) (disch := first | omega | assumption) only [g0, g2, g9, g11, g12, g13, g14, f0, f1, hcell, f2, f3, Sx, reduceIte, Nat.reduceEqDiff, reduceCtorEq, Nat.reduceAdd, Nat.reduceSub, Nat.reduceLT, decide_true, decide_false, Bool.not_true, Bool.not_false, Int.toNat_one, Int.toNat_zero, Nat.zero_mul, l_g, endK, gd_u]
          exact ⟨k - 1, by omega, i + 1, from_, v, ov, by omega, hfl, by omega, by (first | exact True.intro | rfl | assumption), by (first | exact True.intro | rfl | assumption), by (first | exact True.intro | rfl | assumption), by (first | exact True.intro | rfl | assumption), by (first | exact True.intro | rfl | assumption), by (first | exact True.intro | rfl | assumption), by (first | exact True.intro | rfl | assumption), hF⟩
      obtain ⟨to, hto⟩ : ∃ to : Nat, z = to := ⟨z.toNat, by omega⟩
      rw [hto] at hcell hbad
      simp -implicitDefEqProofs (maxSteps := 1000000) (disch := first | omega | assumption) only [g0, g2, g9, g11, g12, g13, g14, f0, f1, hcell, Sx, reduceIte, Nat.reduceEqDiff, reduceCtorEq, Nat.reduceAdd, Nat.reduceSub, Nat.reduceLT, decide_true, decide_false, Bool.not_true, Bool.not_false, Int.toNat_one, Int.toNat_zero, Nat.zero_mul, l_g, endK, gd_u]
      refine fed_step (to := to) (cv := .slice (some ca) cuts.length cc) (i := i) hT hF hA hb hl hc (by omega) (by omega) hmo (by simp -implicitDefEqProofs (maxSteps := 1000000) (disch := first | omega | assumption) only [g0, Sx, reduceIte, Nat.reduceEqDiff, reduceCtorEq, Nat.reduceAdd, Nat.reduceSub, Nat.reduceLT, decide_true, decide_false, Bool.not_true, Bool.not_false, Int.toNat_one, Int.toNat_zero, Nat.zero_mul, l_g, endK, gd_u]) (by simp -implicitDefEqProofs (maxSteps := 1000000) (disch := first | omega | assumption) only [g2, Sx, reduceIte, Nat.reduceEqDiff, reduceCtorEq, Nat.reduceAdd, Nat.reduceSub, Nat.reduceLT, decide_true, decide_false, Bool.not_true, Bool.not_false, Int.toNat_one, Int.toNat_zero, Nat.zero_mul, l_g, endK, gd_u]) (by simp -implicitDefEqProofs (maxSteps := 1000000) (disch := first | omega | assumption) only [g9, Sx, reduceIte, Nat.reduceEqDiff, reduceCtorEq, Nat.reduceAdd, Nat.reduceSub, Nat.reduceLT, decide_true, decide_false, Bool.not_true, Bool.not_false, Int.toNat_one, Int.toNat_zero, Nat.zero_mul, l_g, endK, gd_u]) (by simp -implicitDefEqProofs (maxSteps := 1000000) (disch := first | omega | assumption) only [g11, Sx, reduceIte, Nat.reduceEqDiff, reduceCtorEq, Nat.reduceAdd, Nat.reduceSub, Nat.reduceLT, decide_true, decide_false, Bool.not_true, Bool.not_false, Int.toNat_one, Int.toNat_zero, Nat.zero_mul, l_g, endK, gd_u]) (by simp -implicitDefEqProofs (maxSteps := 1000000) (disch := first | omega | assumption) only [g12, Sx, reduceIte, Nat.reduceEqDiff, reduceCtorEq, Nat.reduceAdd, Nat.reduceSub, Nat.reduceLT, decide_true, decide_false, Bool.not_true, Bool.not_false, Int.toNat_one, Int.toNat_zero, Nat.zero_mul, l_g, endK, gd_u]) (by simp -implicitDefEqProofs (maxSteps := 1000000) (disch := first | omega | assumption) only [g13, Sx, reduceIte, Nat.reduceEqDiff, reduceCtorEq, Nat.reduceAdd, Nat.reduceSub, Nat.reduceLT, decide_true, decide_false, Bool.not_true, Bool.not_false, Int.toNat_one, Int.toNat_zero, Nat.zero_mul, l_g, endK, gd_u]) (by simp -implicitDefEqProofs (maxSteps := 1000000) (disch := first | omega | assumption) only [g14, Sx, reduceIte, Nat.reduceEqDiff, reduceCtorEq, Nat.reduceAdd, Nat.reduceSub, Nat.reduceLT, decide_true, decide_false, Bool.not_true, Bool.not_false, Int.toNat_one, Int.toNat_zero, Nat.zero_mul, l_g, endK, gd_u]) (by simp -implicitDefEqProofs (maxSteps := 1000000) (disch := first | omega | assumption) only [Sx, reduceIte, Nat.reduceEqDiff, reduceCtorEq, Nat.reduceAdd, Nat.reduceSub, Nat.reduceLT, decide_true, decide_false, Bool.not_true, Bool.not_false, Int.toNat_one, Int.toNat_zero, Nat.zero_mul, l_g, endK, gd_u]) ?_
      intro env' H' v' ov' hF' q0 q2 q9 q11 q12 q13 q14
      unfold L15_2
      simp -implicitDefEqProofs (maxSteps := 1000000) (disch := first | omega | assumption) only [q14, Sx, reduceIte, Nat.reduceEqDiff, reduceCtorEq, Nat.reduceAdd, Nat.reduceSub, Nat.reduceLT, decide_true, decide_false, Bool.not_true, Bool.not_false, Int.toNat_one, Int.toNat_zero, Nat.zero_mul, l_g, endK, gd_u]
      exact ⟨k - 1, by omega, i + 1, to, v', ov', by omega, by omega, by omega, by simp -implicitDefEqProofs (maxSteps := 1000000) (disch := first | omega | assumption) only [q0, Sx, reduceIte, Nat.reduceEqDiff, reduceCtorEq, Nat.reduceAdd, Nat.reduceSub, Nat.reduceLT, decide_true, decide_false, Bool.not_true, Bool.not_false, Int.toNat_one, Int.toNat_zero, Nat.zero_mul, l_g, endK, gd_u], by simp -implicitDefEqProofs (maxSteps := 1000000) (disch := first | omega | assumption) only [q2, Sx, reduceIte, Nat.reduceEqDiff, reduceCtorEq, Nat.reduceAdd, Nat.reduceSub, Nat.reduceLT, decide_true, decide_false, Bool.not_true, Bool.not_false, Int.toNat_one, Int.toNat_zero, Nat.zero_mul, l_g, endK, gd_u], by simp -implicitDefEqProofs (maxSteps := 1000000) (disch := first | omega | assumption) only [q9, Sx, reduceIte, Nat.reduceEqDiff, reduceCtorEq, Nat.reduceAdd, Nat.reduceSub, Nat.reduceLT, decide_true, decide_false, Bool.not_true, Bool.not_false, Int.toNat_one, Int.toNat_zero, Nat.zero_mul, l_g, endK, gd_u], by simp -implicitDefEqProofs (maxSteps := 1000000) (disch := first | omega | assumption) only [q11, Sx, reduceIte, Nat.reduceEqDiff, reduceCtorEq, Nat.reduceAdd, Nat.reduceSub, Nat.reduceLT, decide_true, decide_false, Bool.not_true, Bool.not_false, Int.toNat_one, Int.toNat_zero, Nat.zero_mul, l_g, endK, gd_u], by simp -implicitDefEqProofs (maxSteps := 1000000) (disch := first | omega | assumption) only [q12, Sx, reduceIte, Nat.reduceEqDiff, reduceCtorEq, Nat.reduceAdd, Nat.reduceSub, Nat.reduceLT, decide_true, decide_false, Bool.not_true, Bool.not_false, Int.toNat_one, Int.toNat_zero, Nat.zero_mul, l_g, endK, gd_u], by simp -implicitDefEqProofs (maxSteps := 1000000) (disch := first | omega | assumption) only [q13, Sx, reduceIte, Nat.reduceEqDiff, reduceCtorEq, Nat.reduceAdd, Nat.reduceSub, Nat.reduceLT, decide_true, decide_false, Bool.not_true, Bool.not_false, Int.toNat_one, Int.toNat_zero, Nat.zero_mul, l_g, endK, gd_u], by (first | exact True.intro | rfl | assumption), hF'⟩
    · have f1 : decide ((i : Int) < (cuts.length : Int)) = false := decide_eq_false (by omega)
      simp -implicitDefEqProofs (maxSteps := 1000000) (disch := first | omega | assumption) only [g0, g2, g9, g11, g12, g13, g14, f0, f1, Sx, reduceIte, Nat.reduceEqDiff, reduceCtorEq, Nat.reduceAdd, Nat.reduceSub, Nat.reduceLT, decide_true, decide_false, Bool.not_true, Bool.not_false, Int.toNat_one, Int.toNat_zero, Nat.zero_mul, l_g, endK, gd_u]
      refine fed_step (to := b.length) (cv := .slice C cuts.length cc) (i := i) hT hF hA hb hl hc (by omega) (by omega) hmo (by simp -implicitDefEqProofs (maxSteps := 1000000) (disch := first | omega | assumption) only [g0, Sx, reduceIte, Nat.reduceEqDiff, reduceCtorEq, Nat.reduceAdd, Nat.reduceSub, Nat.reduceLT, decide_true, decide_false, Bool.not_true, Bool.not_false, Int.toNat_one, Int.toNat_zero, Nat.zero_mul, l_g, endK, gd_u]) (by simp -implicitDefEqProofs (maxSteps := 1000000) (disch := first | omega | assumption) only [g2, Sx, reduceIte, Nat.reduceEqDiff, reduceCtorEq, Nat.reduceAdd, Nat.reduceSub, Nat.reduceLT, decide_true, decide_false, Bool.not_true, Bool.not_false, Int.toNat_one, Int.toNat_zero, Nat.zero_mul, l_g, endK, gd_u]) (by simp -implicitDefEqProofs (maxSteps := 1000000) (disch := first | omega | assumption) only [g9, Sx, reduceIte, Nat.reduceEqDiff, reduceCtorEq, Nat.reduceAdd, Nat.reduceSub, Nat.reduceLT, decide_true, decide_false, Bool.not_true, Bool.not_false, Int.toNat_one, Int.toNat_zero, Nat.zero_mul, l_g, endK, gd_u]) (by simp -implicitDefEqProofs (maxSteps := 1000000) (disch := first | omega | assumption) only [g11, Sx, reduceIte, Nat.reduceEqDiff, reduceCtorEq, Nat.reduceAdd, Nat.reduceSub, Nat.reduceLT, decide_true, decide_false, Bool.not_true, Bool.not_false, Int.toNat_one, Int.toNat_zero, Nat.zero_mul, l_g, endK, gd_u]) (by simp -implicitDefEqProofs (maxSteps := 1000000) (disch := first | omega | assumption) only [g12, Sx, reduceIte, Nat.reduceEqDiff, reduceCtorEq, Nat.reduceAdd, Nat.reduceSub, Nat.reduceLT, decide_true, decide_false, Bool.not_true, Bool.not_false, Int.toNat_one, Int.toNat_zero, Nat.zero_mul, l_g, endK, gd_u]) (by simp -implicitDefEqProofs (maxSteps := 1000000) (disch := first | omega | assumption) only [g13, Sx, reduceIte, Nat.reduceEqDiff, reduceCtorEq, Nat.reduceAdd, Nat.reduceSub, Nat.reduceLT, decide_true, decide_false, Bool.not_true, Bool.not_false, Int.toNat_one, Int.toNat_zero, Nat.zero_mul, l_g, endK, gd_u]) (by simp -implicitDefEqProofs (maxSteps := 1000000) (disch := first | omega | assumption) only [g14, Sx, reduceIte, Nat.reduceEqDiff, reduceCtorEq, Nat.reduceAdd, Nat.reduceSub, Nat.reduceLT, decide_true, decide_false, Bool.not_true, Bool.not_false, Int.toNat_one, Int.toNat_zero, Nat.zero_mul, l_g, endK, gd_u]) (by simp -implicitDefEqProofs (maxSteps := 1000000) (disch := first | omega | assumption) only [Sx, reduceIte, Nat.reduceEqDiff, reduceCtorEq, Nat.reduceAdd, Nat.reduceSub, Nat.reduceLT, decide_true, decide_false, Bool.not_true, Bool.not_false, Int.toNat_one, Int.toNat_zero, Nat.zero_mul, l_g, endK, gd_u]) ?_
      intro env' H' v' ov' hF' q0 q2 q9 q11 q12 q13 q14
      unfold L15_2
      simp -implicitDefEqProofs (maxSteps := 1000000) (disch := first | omega | assumption) only [q14, Sx, reduceIte, Nat.reduceEqDiff, reduceCtorEq, Nat.reduceAdd, Nat.reduceSub, Nat.reduceLT, decide_true, decide_false, Bool.not_true, Bool.not_false, Int.toNat_one, Int.toNat_zero, Nat.zero_mul, l_g, endK, gd_u]
      exact ⟨k - 1, by omega, i + 1, b.length, v', ov', by omega, by omega, fun _ => rfl, by simp -implicitDefEqProofs (maxSteps := 1000000) (disch := first | omega | assumption) only [q0, Sx, reduceIte, Nat.reduceEqDiff, reduceCtorEq, Nat.reduceAdd, Nat.reduceSub, Nat.reduceLT, decide_true, decide_false, Bool.not_true, Bool.not_false, Int.toNat_one, Int.toNat_zero, Nat.zero_mul, l_g, endK, gd_u], by simp -implicitDefEqProofs (maxSteps := 1000000) (disch := first | omega | assumption) only [q2, Sx, reduceIte, Nat.reduceEqDiff, reduceCtorEq, Nat.reduceAdd, Nat.reduceSub, Nat.reduceLT, decide_true, decide_false, Bool.not_true, Bool.not_false, Int.toNat_one, Int.toNat_zero, Nat.zero_mul, l_g, endK, gd_u], by simp -implicitDefEqProofs (maxSteps := 1000000) (disch := first | omega | assumption) only [q9, Sx, reduceIte, Nat.reduceEqDiff, reduceCtorEq, Nat.reduceAdd, Nat.reduceSub, Nat.reduceLT, decide_true, decide_false, Bool.not_true, Bool.not_false, Int.toNat_one, Int.toNat_zero, Nat.zero_mul, l_g, endK, gd_u], by simp -implicitDefEqProofs (maxSteps := 1000000) (disch := first | omega | assumption) only [q11, Sx, reduceIte, Nat.reduceEqDiff, reduceCtorEq, Nat.reduceAdd, Nat.reduceSub, Nat.reduceLT, decide_true, decide_false, Bool.not_true, Bool.not_false, Int.toNat_one, Int.toNat_zero, Nat.zero_mul, l_g, endK, gd_u], by simp -implicitDefEqProofs (maxSteps := 1000000) (disch := first | omega | assumption) only [q12, Sx, reduceIte, Nat.reduceEqDiff, reduceCtorEq, Nat.reduceAdd, Nat.reduceSub, Nat.reduceLT, decide_true, decide_false, Bool.not_true, Bool.not_false, Int.toNat_one, Int.toNat_zero, Nat.zero_mul, l_g, endK, gd_u], by simp -implicitDefEqProofs (maxSteps := 1000000) (disch := first | omega | assumption) only [q13, Sx, reduceIte, Nat.reduceEqDiff, reduceCtorEq, Nat.reduceAdd, Nat.reduceSub, Nat.reduceLT, decide_true, decide_false, Bool.not_true, Bool.not_false, Int.toNat_one, Int.toNat_zero, Nat.zero_mul, l_g, endK, gd_u], by (first | exact True.intro | rfl | assumption), hF'⟩
  · have f0 : decide ((i : Int) ≤ (cuts.length : Int)) = false := decide_eq_false (by omega)
    have hfe : from_ = b.length := hend (by omega)
    rw [hfe, List.take_of_length_le (Nat.le_refl _)] at hF g12
    have hso := hF.out.scalar
    unfold L15_4
    simp -implicitDefEqProofs (maxSteps := 1000000) (disch := first | omega | assumption) only [g0, g2, g9, g11, g12, g13, g14, f0, Sx, reduceIte, Nat.reduceEqDiff, reduceCtorEq, Nat.reduceAdd, Nat.reduceSub, Nat.reduceLT, decide_true, decide_false, Bool.not_true, Bool.not_false, Int.toNat_one, Int.toNat_zero, Nat.zero_mul, l_g, endK, gd_u]
    exact ⟨r, v, ov, by (first | exact True.intro | rfl | assumption), hF⟩
end Go.Proofs.YtphojebganlbnaaDoor.S06
