/-
  SparseForms: what is put is read, and put again, in both ways.
-/
import Derived.Test.YthflafgijfbpnaaDoorOlds
import Derived.Test.YthflafgijfbpnaaDoorTxtLaw
import Derived.Test.YthflafgijfbpnaaDoorSame
set_option linter.unusedVariables false
set_option linter.unusedSimpArgs false
namespace Go.Proofs.YthflafgijfbpnaaDoor.S15
open Go Go.RowKit Go.Proofs.YthflafgijfbpnaaDoor.Sep Go.Proofs.YthflafgijfbpnaaDoor.Low Go.Proofs.YthflafgijfbpnaaDoor.Lib Go.Proofs.YthflafgijfbpnaaDoor.S12

def recF (L : List Rg) : List Int := (fillR Z512 0 L 21).set 504 (flagV (L.drop 21))
theorem more_at : ∀ (i : Nat) (L : List Rg), (i < (moreV L).length ↔ 21 * i < L.length) ∧ (21 * i < L.length → (moreV L)[i]? = some (recF (L.drop (21 * i))))
  | 0, L => by
    by_cases h : L.length = 0
    · rw [more_nil h]
      exact ⟨by rw [List.length_nil]; omega, fun h2 => by omega⟩
    · rw [more_cons h]
      exact ⟨by rw [List.length_cons]; omega, fun _ => by simp [recF]⟩
  | i + 1, L => by
    by_cases h : L.length = 0
    · rw [more_nil h]
      exact ⟨by rw [List.length_nil]; omega, fun h2 => by omega⟩
    · rw [more_cons h]
      obtain ⟨h1, h2⟩ := more_at i (L.drop 21)
      rw [List.length_drop] at h1 h2
      refine ⟨by rw [List.length_cons]; omega, fun h3 => ?_⟩
      rw [List.getElem?_cons_succ, h2 (by omega), List.drop_drop]
      congr 3
      omega
theorem flag_ne (L : List Rg) : (flagV L != 0) = decide (0 < L.length) := by
  unfold flagV
  split
  · rw [decide_eq_true (by assumption)]; rfl
  · rw [decide_eq_false (by assumption)]; rfl
theorem isBy_app {a b : List Int} (h : isBy a) (k : isBy b) : isBy (a ++ b) := fun x hx => by
  rcases List.mem_append.1 hx with hx | hx
  · exact h x hx
  · exact k x hx
theorem ten_by : isBy [10] := by intro x hx; rw [List.mem_singleton] at hx; omega
theorem txtV_by (l : List Rg) : isBy (txtV l) := by
  unfold txtV txtL
  refine isBy_app (isBy_app (isBy_app (decI_by _) ten_by) ?_) (z_by _)
  intro x hx
  obtain ⟨s, hs, hx⟩ := List.mem_flatten.1 hx
  obtain ⟨r, -, rfl⟩ := List.mem_map.1 hs
  exact isBy_app (isBy_app (decI_by _) ten_by) (isBy_app (decI_by _) ten_by) x hx
theorem txtV_le {l : List Rg} (hv : validV l 9223372036854775807 = true) : (txtV l).length ≤ 3000000 := by
  obtain ⟨-, hl, -⟩ := valid_true hv
  have h := txtL_len hl (chain_mem (Int.le_refl _) (valid_true hv).2.2) l.length (Nat.le_refl _)
  have := padN_lt (txtL l l.length).length
  unfold txtV
  rw [List.length_append, List.length_replicate]
  omega
theorem ro_back {l : List Rg} {size : Int} (hv : validV l size = true) (hs : size ≤ 9223372036854775807) : roV (putOldV Z512 l size).1 = (l.take 4, size, decide (0 < (l.drop 4).length), 0) := by
  obtain ⟨-, -, h1, h2, h3⟩ := old_back hv hs
  unfold roV
  rw [h1, h2, if_neg (by simp), if_neg (by simp)]
  have e : (putOldV Z512 l size).1.getD 482 0 = flagV (l.drop 4) := by rw [List.getD_eq_getElem?_getD, h3]; rfl
  rw [e, flag_ne]
theorem rm_back {l : List Rg} (hg : Goods l) : rmV (recF l) = (l.take 21, decide (21 < l.length), 0) := by
  obtain ⟨-, -, h1, h2⟩ := more_back hg
  unfold rmV
  have e : (recF l).getD 504 0 = flagV (l.drop 21) := by rw [List.getD_eq_getElem?_getD]; unfold recF; rw [h2]; rfl
  rw [e, flag_ne]
  unfold recF
  rw [h1, if_neg (by simp), List.length_drop]
  congr 2
  by_cases h : 21 < l.length
  · rw [decide_eq_true h, decide_eq_true (by omega)]
  · rw [decide_eq_false h, decide_eq_false (by omega)]
theorem copy_rg {P : Program} {H0 H : Heap} {r : Nat} {A : Option Addr} {n c : Nat} {l : List Rg} {KV : Value → Heap → Prop} {KP : List PanicEntry → Heap → Prop} (hO : Own H 51 2 (.slice (some ⟨r, 0, none⟩) 0 0) []) (hr : H0 r = none) (hk : Keep H0 H) (hn : n = l.length) (hrow : Row H A (rgs l)) (hl : l.length ≤ 8796093021952)
    (hK : ∀ A' c' H', Og H' (.slice A' l.length c') l → l.length ≤ c' → Row H' A' (rgs l) → Keep H0 H' → KV (.slice A' l.length c') H') : awpE P (.app 51 2 16 #[.int .i64 0, .int .i64 0]) [.slice (some ⟨r, 0, none⟩) 0 0, .slice A n c] KV KP H := by
  subst hn
  refine a_app (len := 0) (m := l.length) (new := rgs l) hO rfl rfl (hrow.cells (encs_len rg_len l)) (encs_len rg_len l) rfl (by omega) (encs_scalar rg_scalar l) (by omega) ?_
  intro v H' h1 ho hm
  obtain ⟨k, -⟩ := grown (H0 := H0) hk (v := .slice (some ⟨r, 0, none⟩) 0 0) (by rintro q ⟨⟩; exact hr) ho hm
  obtain ⟨a, m, c2, rfl, hm2, hc2, hr2⟩ := Own.view h1
  rw [List.nil_append, encs_len rg_len] at hm2
  have : m = l.length := by omega
  subst this
  exact hK a c2 H' h1 hc2 hr2 k
theorem app_rgs {P : Program} {H : Heap} {v : Value} {L l : List Rg} {A : Option Addr} {n c : Nat} {KV : Value → Heap → Prop} {KP : List PanicEntry → Heap → Prop} (hO : Og H v L) (hn : n = l.length) (hrow : Row H A (rgs l)) (hl : L.length + l.length ≤ 8796093021952)
    (hK : ∀ v' H', Og H' v' (L ++ l) → Oth H v H' → Moved H v v' → KV v' H') : awpE P (.app 51 2 16 #[.int .i64 0, .int .i64 0]) [v, .slice A n c] KV KP H := by
  subst hn
  refine a_app (len := L.length) (m := l.length) (new := rgs l) hO (encs_len rg_len L) rfl (hrow.cells (encs_len rg_len l)) (encs_len rg_len l) rfl (by omega) (encs_scalar rg_scalar l) (by omega) ?_
  intro v' H' h1 h2 h3
  refine hK v' H' ?_ h2 h3
  show Own H' _ 2 _ _
  rw [rgs, encs_append]
  exact h1
set_option maxHeartbeats 16000000 in
set_option maxRecDepth 4000 in
theorem forms_old {H : Heap} {A : Option Addr} {ca : Nat} {l : List Rg} {size : Int} {env : Env} {Q : Post} {QP : List PanicEntry → Heap → Prop} (hT : Tz H) (hA : Row H A (rgs l)) (hca : l.length ≤ ca) (hl : l.length ≤ 8796093021952) (hs : -9223372036854775808 ≤ size ∧ size ≤ 9223372036854775807)
    (g0 : env 0 = .slice A l.length ca) (g1 : env 1 = .int .i64 size) (g6 : env 6 = .bool false)
    (hQ : ∀ env' H', Keep H H' → env' 6 = .bool true → Q .ret env' H') : awpC Tryd.prog L5_1 Q QP env H := by
  have eb := ev_bz (H := H)
  unfold L5_1
  simp -implicitDefEqProofs (maxSteps := 1000000) (disch := first | omega | assumption) only [eb, Sx, reduceIte, Nat.reduceEqDiff, reduceCtorEq, Nat.reduceAdd, Nat.reduceSub, Nat.reduceLT, decide_true, decide_false, Bool.not_true, Bool.not_false, Int.toNat_one, Int.toNat_zero, Nat.zero_mul, l_g, endK, gd_u]
  refine a_lits (sz := 2) (cells := #[]) rfl rfl ?_
  intro r1 H1 hO1 k1 hr1
  try simp -implicitDefEqProofs (maxSteps := 1000000) (disch := first | omega | assumption) only [g0, Sx, reduceIte, Nat.reduceEqDiff, reduceCtorEq, Nat.reduceAdd, Nat.reduceSub, Nat.reduceLT, decide_true, decide_false, Bool.not_true, Bool.not_false, Int.toNat_one, Int.toNat_zero, Nat.zero_mul, l_g, endK, gd_u]
  refine copy_rg (H0 := H) hO1 hr1 k1 rfl (k1.row hA) hl ?_
  intro A2 c2 H2 hO2 hc2 w2 k2
  try simp -implicitDefEqProofs (maxSteps := 1000000) (disch := first | omega | assumption) only [g1, Sx, reduceIte, Nat.reduceEqDiff, reduceCtorEq, Nat.reduceAdd, Nat.reduceSub, Nat.reduceLT, decide_true, decide_false, Bool.not_true, Bool.not_false, Int.toNat_one, Int.toNat_zero, Nat.zero_mul, l_g, endK, gd_u]
  refine a_call (pputOld_spec (c := c2) (hT.keep k2) z512_len w2 hc2 hs) ?_
  obtain ⟨R, hR⟩ : ∃ R, R = putOldV Z512 l size := ⟨_, rfl⟩
  have hR1 : R.1.length = 512 := by rw [hR]; exact po_len z512_len hs.2
  obtain ⟨hR2, hR3⟩ := po_more (r := Z512) (l := l) hs.2
  rw [← hR] at hR2 hR3 ⊢
  rintro e H3 ⟨vm, rfl, hOm, hFm, k3⟩
  have hsm := hOm.scalar
  have k3' := k2.trans k3
  simp -implicitDefEqProofs (maxSteps := 1000000) (disch := first | omega | assumption) only [Sx, reduceIte, Nat.reduceEqDiff, reduceCtorEq, Nat.reduceAdd, Nat.reduceSub, Nat.reduceLT, decide_true, decide_false, Bool.not_true, Bool.not_false, Int.toNat_one, Int.toNat_zero, Nat.zero_mul, l_g, endK, gd_u]
  refine a_newr ?_
  intro r17 H4 hO4 k4 hr4
  simp -implicitDefEqProofs (maxSteps := 1000000) (disch := first | omega | assumption) only [Sx, reduceIte, Nat.reduceEqDiff, reduceCtorEq, Nat.reduceAdd, Nat.reduceSub, Nat.reduceLT, decide_true, decide_false, Bool.not_true, Bool.not_false, Int.toNat_one, Int.toNat_zero, Nat.zero_mul, l_g, endK, gd_u]
  refine a_str hO4 hR1 ?_
  intro H5 hO5 ho5
  have k5 : Keep H H5 := ho5.keep (k3'.trans k4) fun q hq => by cases hq; exact k3'.none hr4
  have hOm5 : Om H5 vm R.2.1 := (hOm.keep k4).only ho5 fun q hq e => by cases e; exact hOm.known hq hr4
  by_cases hv : validV l size = true
  rotate_left
  · have hE : R.2.2 = 1 := by rw [hR]; unfold putOldV; rw [if_neg hv]
    have q1 : ((1 : Int) != 0) = true := rfl
    have eb := ev_bz (H := H5)
    simp -implicitDefEqProofs (maxSteps := 1000000) (disch := first | omega | assumption) only [hE, q1, eb, Sx, reduceIte, Nat.reduceEqDiff, reduceCtorEq, Nat.reduceAdd, Nat.reduceSub, Nat.reduceLT, decide_true, decide_false, Bool.not_true, Bool.not_false, Int.toNat_one, Int.toNat_zero, Nat.zero_mul, l_g, endK, gd_u]
    refine a_call (pputOld_spec (r := Z512) (A := none) (c := 0) (l := []) (size := 0) (hT.keep k5) z512_len (fun i v hv => by simp at hv) (Nat.le_refl _) (by omega)) ?_
    have hX1 : (putOldV Z512 [] 0).1.length = 512 := po_len z512_len (by omega)
    have h494 := zero_494
    have hE0 : (putOldV Z512 [] 0).2.2 = 0 := by unfold putOldV; rw [if_pos (by rfl)]
    obtain ⟨W, hW⟩ : ∃ W, W = putOldV Z512 [] 0 := ⟨_, rfl⟩
    rw [← hW] at hX1 h494 hE0 ⊢
    rintro e H6 ⟨v1, rfl, hO6, hF6, k6⟩
    have hs6 := hO6.scalar
    have k6' := k5.trans k6
    simp -implicitDefEqProofs (maxSteps := 1000000) (disch := first | omega | assumption) only [Sx, reduceIte, Nat.reduceEqDiff, reduceCtorEq, Nat.reduceAdd, Nat.reduceSub, Nat.reduceLT, decide_true, decide_false, Bool.not_true, Bool.not_false, Int.toNat_one, Int.toNat_zero, Nat.zero_mul, l_g, endK, gd_u]
    refine a_newr ?_
    intro r20 H7 hO7 k7 hr7
    simp -implicitDefEqProofs (maxSteps := 1000000) (disch := first | omega | assumption) only [Sx, reduceIte, Nat.reduceEqDiff, reduceCtorEq, Nat.reduceAdd, Nat.reduceSub, Nat.reduceLT, decide_true, decide_false, Bool.not_true, Bool.not_false, Int.toNat_one, Int.toNat_zero, Nat.zero_mul, l_g, endK, gd_u]
    refine a_str hO7 hX1 ?_
    intro H8 hO8 ho8
    have c494 := cell_at hO8 (i := 494) (by omega)
    rw [h494] at c494
    have t494 : (494 : Int).toNat = 494 := rfl
    have q0 : ((0 : Int) == 0) = true := rfl
    simp -implicitDefEqProofs (maxSteps := 1000000) (disch := first | omega | assumption) only [hE0, c494, t494, q0, Sx, reduceIte, Nat.reduceEqDiff, reduceCtorEq, Nat.reduceAdd, Nat.reduceSub, Nat.reduceLT, decide_true, decide_false, Bool.not_true, Bool.not_false, Int.toNat_one, Int.toNat_zero, Nat.zero_mul, l_g, endK, gd_u]
    exact hQ _ _ (ho8.keep (k6'.trans k7) fun q hq => by cases hq; exact k6'.none hr7) (by simp -implicitDefEqProofs (maxSteps := 1000000) (disch := first | omega | assumption) only [Sx, reduceIte, Nat.reduceEqDiff, reduceCtorEq, Nat.reduceAdd, Nat.reduceSub, Nat.reduceLT, decide_true, decide_false, Bool.not_true, Bool.not_false, Int.toNat_one, Int.toNat_zero, Nat.zero_mul, l_g, endK, gd_u])
  have hg := goods_of hv hs.2
  have hE : R.2.2 = 0 := by rw [hR]; unfold putOldV; rw [if_pos hv]
  have hM : R.2.1 = moreV (l.drop 4) := by rw [hR]; unfold putOldV; rw [if_pos hv]
  obtain ⟨-, hX2, -, -, -⟩ := old_back hv hs.2
  have hro := ro_back hv hs.2
  rw [← hR] at hX2 hro
  obtain ⟨v1, v2, -⟩ := valid_true hv
  have n00 : ((0 : Int) != 0) = false := rfl
  have e17 := ev_ldnr hO5
  simp -implicitDefEqProofs (maxSteps := 1000000) (disch := first | omega | assumption) only [hE, n00, e17, Sx, reduceIte, Nat.reduceEqDiff, reduceCtorEq, Nat.reduceAdd, Nat.reduceSub, Nat.reduceLT, decide_true, decide_false, Bool.not_true, Bool.not_false, Int.toNat_one, Int.toNat_zero, Nat.zero_mul, l_g, endK, gd_u]
  refine a_call (readOld_spec hR1 hX2) ?_
  rw [hro]
  rintro e H6 ⟨va, he, hOa, hFa, k6⟩
  simp only at he hOa
  subst he
  have hsa := hOa.scalar
  have k6' := k5.trans k6
  obtain ⟨M, hMd⟩ : ∃ M, M = R.2.1 := ⟨_, rfl⟩
  rw [← hMd] at hOm5 hR2 hR3 hM
  obtain ⟨ma, mn, mc, rfl, hml, hmc, hmr⟩ := Own.view (hOm5.keep k6)
  rw [ms_len hR2] at hml
  have hmn : mn = M.length := by omega
  subst hmn
  have qs : (size != size) = false := by simp
  obtain ⟨hma, -⟩ := more_at 0 (l.drop 4)
  rw [← hM] at hma
  have qd : decide (0 < (l.drop 4).length) = decide ((0 : Int) < (M.length : Int)) := by
    by_cases h : 0 < (l.drop 4).length
    · rw [decide_eq_true h, decide_eq_true (by omega)]
    · rw [decide_eq_false h, decide_eq_false (by omega)]
  rw [qd]
  have nB : (decide ((0 : Int) < (M.length : Int)) != decide ((0 : Int) < (M.length : Int))) = false := by simp
  have nB2 : ((decide ((0 : Int) < (M.length : Int)) == decide ((0 : Int) < (M.length : Int))) != true) = false := by simp
  simp -implicitDefEqProofs (maxSteps := 1000000) (disch := first | omega | assumption) only [g0, g1, n00, qs, nB, nB2, Sx, reduceIte, Nat.reduceEqDiff, reduceCtorEq, Nat.reduceAdd, Nat.reduceSub, Nat.reduceLT, decide_true, decide_false, Bool.not_true, Bool.not_false, Int.toNat_one, Int.toNat_zero, Nat.zero_mul, l_g, endK, gd_u]
  refine c_loop (fun k env H' => ∃ (i : Nat) (v : Value), k + i = M.length ∧ env 0 = .slice A l.length ca ∧ env 6 = .bool false ∧ env 18 = .slice ma M.length mc ∧ env 23 = v ∧ env 27 = .int .i64 (i : Nat) ∧ Og H' v (l.take (4 + 21 * i)) ∧ Keep H H' ∧ Fresh H5 v ∧ Keep H5 H') M.length
    ⟨0, va, by omega, by simp -implicitDefEqProofs (maxSteps := 1000000) (disch := first | omega | assumption) only [g0, Sx, reduceIte, Nat.reduceEqDiff, reduceCtorEq, Nat.reduceAdd, Nat.reduceSub, Nat.reduceLT, decide_true, decide_false, Bool.not_true, Bool.not_false, Int.toNat_one, Int.toNat_zero, Nat.zero_mul, l_g, endK, gd_u], by simp -implicitDefEqProofs (maxSteps := 1000000) (disch := first | omega | assumption) only [g6, Sx, reduceIte, Nat.reduceEqDiff, reduceCtorEq, Nat.reduceAdd, Nat.reduceSub, Nat.reduceLT, decide_true, decide_false, Bool.not_true, Bool.not_false, Int.toNat_one, Int.toNat_zero, Nat.zero_mul, l_g, endK, gd_u], by simp -implicitDefEqProofs (maxSteps := 1000000) (disch := first | omega | assumption) only [Sx, reduceIte, Nat.reduceEqDiff, reduceCtorEq, Nat.reduceAdd, Nat.reduceSub, Nat.reduceLT, decide_true, decide_false, Bool.not_true, Bool.not_false, Int.toNat_one, Int.toNat_zero, Nat.zero_mul, l_g, endK, gd_u], by simp -implicitDefEqProofs (maxSteps := 1000000) (disch := first | omega | assumption) only [Sx, reduceIte, Nat.reduceEqDiff, reduceCtorEq, Nat.reduceAdd, Nat.reduceSub, Nat.reduceLT, decide_true, decide_false, Bool.not_true, Bool.not_false, Int.toNat_one, Int.toNat_zero, Nat.zero_mul, l_g, endK, gd_u], by simp -implicitDefEqProofs (maxSteps := 1000000) (disch := first | omega | assumption) only [Sx, reduceIte, Nat.reduceEqDiff, reduceCtorEq, Nat.reduceAdd, Nat.reduceSub, Nat.reduceLT, decide_true, decide_false, Bool.not_true, Bool.not_false, Int.toNat_one, Int.toNat_zero, Nat.zero_mul, l_g, endK, gd_u]; rfl, hOa, k6', hFa, k6⟩ ?_
  clear g0 g1 g6
  rintro k env H7 ⟨i, v, hk, g0, g6, g18, g23, g27, hOv, kH, hFv, k5H⟩
  have hsv := hOv.scalar
  unfold L5_0
  by_cases hi : i < M.length
  · have f0 : decide ((i : Int) < (M.length : Int)) = true := decide_eq_true (by omega)
    obtain ⟨hm1, hm2⟩ := more_at i (l.drop 4)
    rw [← hM] at hm1 hm2
    have h21 := hm1.1 hi
    have hMi := hm2 h21
    rw [List.drop_drop] at hMi
    obtain ⟨L, hL⟩ : ∃ L, L = l.drop (4 + 21 * i) := ⟨_, rfl⟩
    rw [← hL, List.getElem?_eq_getElem hi] at hMi
    injection hMi with hMi
    have hgL : Goods L := by rw [hL]; exact hg.drop _
    obtain ⟨r1, r2, -, -⟩ := more_back hgL
    obtain ⟨_, _, ee, hOm7⟩ : ∃ A' c', (Value.slice ma M.length mc) = .slice A' M.length c' ∧ Row H7 A' (ms M) := by
      obtain ⟨a, n, c, e, hn, hc, hr⟩ := Own.view (hOm5.keep k5H)
      exact ⟨ma, mc, rfl, by cases e; exact hr⟩
    cases ee
    obtain ⟨b1, rfl, l1⟩ := ms_at hOm7 hR2 hi
    rw [hMi] at l1
    have hin : (0 : Int) ≤ (i : Int) ∧ (i : Int) < (M.length : Nat) := by omega
    simp -implicitDefEqProofs (maxSteps := 1000000) (disch := first | omega | assumption) only [g0, g6, g18, g23, g27, f0, ev_ldn, l1, Sx, reduceIte, Nat.reduceEqDiff, reduceCtorEq, Nat.reduceAdd, Nat.reduceSub, Nat.reduceLT, decide_true, decide_false, Bool.not_true, Bool.not_false, Int.toNat_one, Int.toNat_zero, Nat.zero_mul, l_g, endK, gd_u]
    refine a_call (readMore_spec (r := recF L) r1 r2) ?_
    rw [rm_back hgL]
    rintro e H8 ⟨vk, he, hOk, hFk, k8⟩
    simp only at he hOk
    subst he
    obtain ⟨ka, kn, kc, rfl, hkl, hkc, hkr⟩ := Own.view hOk
    rw [encs_len rg_len] at hkl
    have hkn : kn = (L.take 21).length := by omega
    have hLl : L.length = l.length - (4 + 21 * i) := by rw [hL, List.length_drop]
    obtain ⟨hn1, -⟩ := more_at (i + 1) (l.drop 4)
    rw [← hM, List.length_drop] at hn1
    rw [List.length_drop] at h21
    have qd : decide (21 < L.length) = decide ((i : Int) < (M.length : Int) - 1) := by
      by_cases h : 21 < L.length
      · rw [decide_eq_true h, decide_eq_true (by have := hn1.2 (by omega); omega)]
      · rw [decide_eq_false h, decide_eq_false (by
          intro h2
          have := hn1.1 (by omega)
          omega)]
    rw [qd]
    have nB : (decide ((i : Int) < (M.length : Int) - 1) != decide ((i : Int) < (M.length : Int) - 1)) = false := by simp
    have nB2 : ((decide ((i : Int) < (M.length : Int) - 1) == decide ((i : Int) < (M.length : Int) - 1)) != true) = false := by simp
    simp -implicitDefEqProofs (maxSteps := 1000000) (disch := first | omega | assumption) only [g0, g6, g18, g23, g27, n00, nB, nB2, Sx, reduceIte, Nat.reduceEqDiff, reduceCtorEq, Nat.reduceAdd, Nat.reduceSub, Nat.reduceLT, decide_true, decide_false, Bool.not_true, Bool.not_false, Int.toNat_one, Int.toNat_zero, Nat.zero_mul, l_g, endK, gd_u]
    refine app_rgs (L := l.take (4 + 21 * i)) (l := L.take 21) (hOv.keep k8) hkn hkr (by rw [List.length_take, List.length_take]; omega) ?_
    intro v9 H9 hO9 ho9 hm9
    have hs9 := hO9.scalar
    have kk : Keep H H9 ∧ Fresh H v9 := grown (kH.trans k8) (fun q hq => k5.none (hFv q hq)) ho9 hm9
    have kk5 : Keep H5 H9 ∧ Fresh H5 v9 := grown (k5H.trans k8) hFv ho9 hm9
    have hcat : l.take (4 + 21 * i) ++ L.take 21 = l.take (4 + 21 * (i + 1)) := by
      rw [hL, ← List.take_add]
      congr 1
    rw [hcat] at hO9
    try simp -implicitDefEqProofs (maxSteps := 1000000) (disch := first | omega | assumption) only [g0, g6, g18, g27, Sx, reduceIte, Nat.reduceEqDiff, reduceCtorEq, Nat.reduceAdd, Nat.reduceSub, Nat.reduceLT, decide_true, decide_false, Bool.not_true, Bool.not_false, Int.toNat_one, Int.toNat_zero, Nat.zero_mul, l_g, endK, gd_u]
    exact ⟨k - 1, by omega, i + 1, v9, by omega, by (first | exact True.intro | rfl | assumption), by (first | exact True.intro | rfl | assumption), by (first | exact True.intro | rfl | assumption), by (first | exact True.intro | rfl | assumption), by (first | exact True.intro | rfl | assumption), hO9, kk.1, kk5.2, kk5.1⟩
  have f0 : decide ((i : Int) < (M.length : Int)) = false := decide_eq_false (by omega)
  obtain ⟨hm1, -⟩ := more_at i (l.drop 4)
  rw [← hM, List.length_drop] at hm1
  have htk : l.take (4 + 21 * i) = l := List.take_of_length_le (by
    by_cases h : l.length ≤ 4 + 21 * i
    · exact h
    · have := hm1.2 (by omega)
      omega)
  rw [htk] at hOv
  obtain ⟨va', vn, vc, rfl, hvl, hvc, hvr⟩ := Own.view hOv
  rw [encs_len rg_len] at hvl
  have hvn : vn = l.length := by omega
  have dl : decide (l = l) = true := by simp
  simp -implicitDefEqProofs (maxSteps := 1000000) (disch := first | omega | assumption) only [g0, g6, g18, g23, g27, f0, Sx, reduceIte, Nat.reduceEqDiff, reduceCtorEq, Nat.reduceAdd, Nat.reduceSub, Nat.reduceLT, decide_true, decide_false, Bool.not_true, Bool.not_false, Int.toNat_one, Int.toNat_zero, Nat.zero_mul, l_g, endK, gd_u]
  refine a_call (ranges_spec hvr (kH.row hA) hvn rfl (by omega)) ?_
  rintro e H8 ⟨rfl, rfl⟩
  rw [dl]
  simp -implicitDefEqProofs (maxSteps := 1000000) (disch := first | omega | assumption) only [Sx, reduceIte, Nat.reduceEqDiff, reduceCtorEq, Nat.reduceAdd, Nat.reduceSub, Nat.reduceLT, decide_true, decide_false, Bool.not_true, Bool.not_false, Int.toNat_one, Int.toNat_zero, Nat.zero_mul, l_g, endK, gd_u]
  exact hQ _ _ kH (by simp -implicitDefEqProofs (maxSteps := 1000000) (disch := first | omega | assumption) only [Sx, reduceIte, Nat.reduceEqDiff, reduceCtorEq, Nat.reduceAdd, Nat.reduceSub, Nat.reduceLT, decide_true, decide_false, Bool.not_true, Bool.not_false, Int.toNat_one, Int.toNat_zero, Nat.zero_mul, l_g, endK, gd_u])
theorem copy_by {P : Program} {H0 H : Heap} {r : Nat} {A : Option Addr} {n c : Nat} {l : List Int} {KV : Value → Heap → Prop} {KP : List PanicEntry → Heap → Prop} (hO : Own H 5 1 (.slice (some ⟨r, 0, none⟩) 0 0) []) (hr : H0 r = none) (hk : Keep H0 H) (hn : n = l.length) (hrow : Row H A (by8 l)) (hl : l.length ≤ 211106232532992)
    (hK : ∀ v H', Own H' 5 1 v (by8 l) → Keep H0 H' → Fresh H0 v → KV v H') : awpE P (.app 5 1 1 #[.int .u8 0]) [.slice (some ⟨r, 0, none⟩) 0 0, .slice A n c] KV KP H := by
  subst hn
  refine a_app (len := 0) (m := l.length) (new := by8 l) hO rfl rfl (hrow.cells (by simp)) (by simp) rfl (by omega) (by8_scalar l) (by omega) ?_
  intro v H' h1 ho hm
  obtain ⟨k, f⟩ := grown (H0 := H0) hk (v := .slice (some ⟨r, 0, none⟩) 0 0) (by rintro q ⟨⟩; exact hr) ho hm
  exact hK v H' h1 k f
theorem by_view {H : Heap} {v : Value} {l : List Int} (h : Own H 5 1 v (by8 l)) : ∃ A c, v = .slice A l.length c ∧ l.length ≤ c ∧ Row H A (by8 l) := by
  obtain ⟨a, n, c, e, hn, hc, hr⟩ := Own.view h
  rw [List.length_map, Nat.mul_one] at hn
  exact ⟨a, c, by rw [e, hn], by omega, hr⟩
set_option maxHeartbeats 16000000 in
set_option maxRecDepth 4000 in
theorem forms_read {H : Heap} {A B : Option Addr} {ca cb : Nat} {l : List Rg} {b : List Int} {size : Int} {env : Env} {Q : Post} {QP : List PanicEntry → Heap → Prop} (hT : Tz H) (hT2 : Tab H) (hA : Row H A (rgs l)) (hca : l.length ≤ ca) (hl : l.length ≤ 8796093021952) (hB : Row H B (by8 b)) (hcb : b.length ≤ cb) (hb : isBy b) (hbl : b.length ≤ 140737488351232) (hs : -9223372036854775808 ≤ size ∧ size ≤ 9223372036854775807)
    (g0 : env 0 = .slice A l.length ca) (g1 : env 1 = .int .i64 size) (g2 : env 2 = .slice B b.length cb) (g6 : env 6 = .bool false)
    (hQ : ∀ env' H', Keep H H' → env' 6 = .bool true → Q .ret env' H') : awpC Tryd.prog L5_2 Q QP env H := by
  unfold L5_2
  simp -implicitDefEqProofs (maxSteps := 1000000) (disch := first | omega | assumption) only [Sx, reduceIte, Nat.reduceEqDiff, reduceCtorEq, Nat.reduceAdd, Nat.reduceSub, Nat.reduceLT, decide_true, decide_false, Bool.not_true, Bool.not_false, Int.toNat_one, Int.toNat_zero, Nat.zero_mul, l_g, endK, gd_u]
  refine a_lits (sz := 1) (cells := #[]) rfl rfl ?_
  intro r1 H1 hO1 k1 hr1
  try simp -implicitDefEqProofs (maxSteps := 1000000) (disch := first | omega | assumption) only [g2, Sx, reduceIte, Nat.reduceEqDiff, reduceCtorEq, Nat.reduceAdd, Nat.reduceSub, Nat.reduceLT, decide_true, decide_false, Bool.not_true, Bool.not_false, Int.toNat_one, Int.toNat_zero, Nat.zero_mul, l_g, endK, gd_u]
  refine copy_by (H0 := H) hO1 hr1 k1 rfl (k1.row hB) (by omega) ?_
  intro v2 H2 hO2 k2 f2
  obtain ⟨A2, c2, rfl, -, w2⟩ := by_view hO2
  try simp -implicitDefEqProofs (maxSteps := 1000000) (disch := first | omega | assumption) only [Sx, reduceIte, Nat.reduceEqDiff, reduceCtorEq, Nat.reduceAdd, Nat.reduceSub, Nat.reduceLT, decide_true, decide_false, Bool.not_true, Bool.not_false, Int.toNat_one, Int.toNat_zero, Nat.zero_mul, l_g, endK, gd_u]
  refine a_call (read_spec w2 hb rfl (by omega)) ?_
  obtain ⟨V, hV⟩ : ∃ V, V = readV b := ⟨_, rfl⟩
  rw [← hV]
  rintro e H3 ⟨vm, rfl, hOm, k3, hFm⟩
  have hsm := hOm.scalar
  have k3' := k2.trans k3
  by_cases hE : V.2.2 = 0
  rotate_left
  · have q0 : (V.2.2 == 0) = false := beq_eq_false_iff_ne.2 hE
    simp -implicitDefEqProofs (maxSteps := 1000000) (disch := first | omega | assumption) only [g0, g1, q0, Sx, reduceIte, Nat.reduceEqDiff, reduceCtorEq, Nat.reduceAdd, Nat.reduceSub, Nat.reduceLT, decide_true, decide_false, Bool.not_true, Bool.not_false, Int.toNat_one, Int.toNat_zero, Nat.zero_mul, l_g, endK, gd_u]
    refine forms_old (l := l) (A := A) (ca := ca) (size := size) (hT.keep k3') (k3'.row hA) hca hl hs (by simp -implicitDefEqProofs (maxSteps := 1000000) (disch := first | omega | assumption) only [g0, Sx, reduceIte, Nat.reduceEqDiff, reduceCtorEq, Nat.reduceAdd, Nat.reduceSub, Nat.reduceLT, decide_true, decide_false, Bool.not_true, Bool.not_false, Int.toNat_one, Int.toNat_zero, Nat.zero_mul, l_g, endK, gd_u]) (by simp -implicitDefEqProofs (maxSteps := 1000000) (disch := first | omega | assumption) only [g1, Sx, reduceIte, Nat.reduceEqDiff, reduceCtorEq, Nat.reduceAdd, Nat.reduceSub, Nat.reduceLT, decide_true, decide_false, Bool.not_true, Bool.not_false, Int.toNat_one, Int.toNat_zero, Nat.zero_mul, l_g, endK, gd_u]) (by simp -implicitDefEqProofs (maxSteps := 1000000) (disch := first | omega | assumption) only [g6, Sx, reduceIte, Nat.reduceEqDiff, reduceCtorEq, Nat.reduceAdd, Nat.reduceSub, Nat.reduceLT, decide_true, decide_false, Bool.not_true, Bool.not_false, Int.toNat_one, Int.toNat_zero, Nat.zero_mul, l_g, endK, gd_u]) ?_
    intro env' H' hk h6
    exact hQ _ _ (k3'.trans hk) h6
  have q0 : (V.2.2 == 0) = true := beq_iff_eq.2 hE
  obtain ⟨i1, i2, i3⟩ := read_inv (b := b) (by rw [← hV]; exact hE)
  rw [← hV] at i1 i2 i3
  obtain ⟨ma, mn, mc, rfl, hml, hmc, hmr⟩ := Own.view hOm
  rw [encs_len rg_len] at hml
  have hmn : mn = V.1.length := by omega
  subst hmn
  simp -implicitDefEqProofs (maxSteps := 1000000) (disch := first | omega | assumption) only [g0, g1, q0, Sx, reduceIte, Nat.reduceEqDiff, reduceCtorEq, Nat.reduceAdd, Nat.reduceSub, Nat.reduceLT, decide_true, decide_false, Bool.not_true, Bool.not_false, Int.toNat_one, Int.toNat_zero, Nat.zero_mul, l_g, endK, gd_u]
  refine a_call (put_spec (hT2.keep k3') hmr rfl) ?_
  rw [i1]
  rintro e H4 ⟨vy, he, hOy, k4, hFy⟩
  simp only [if_true] at he hOy
  subst he
  have hsy := hOy.scalar
  have k4' := k3'.trans k4
  obtain ⟨ya, yc, rfl, -, wy⟩ := by_view hOy
  have n00 : ((0 : Int) != 0) = false := rfl
  have q1 : decide ((b.length : Int) < (V.2.1 : Int)) = false := decide_eq_false (by omega)
  have hin : (0 : Int) ≤ (V.2.1 : Int) ∧ (V.2.1 : Int) ≤ (cb : Nat) := by omega
  have htl : V.2.1 = (b.take V.2.1).length := by rw [List.length_take]; omega
  simp -implicitDefEqProofs (maxSteps := 1000000) (disch := first | omega | assumption) only [g0, g1, g2, n00, q1, ev_slc_hi, Sx, reduceIte, Nat.reduceEqDiff, reduceCtorEq, Nat.reduceAdd, Nat.reduceSub, Nat.reduceLT, decide_true, decide_false, Bool.not_true, Bool.not_false, Int.toNat_one, Int.toNat_zero, Nat.zero_mul, l_g, endK, gd_u]
  refine a_call (same_spec wy (row_take (k := V.2.1) (k4'.row hB)) rfl htl (by have := txtV_le i1; omega)) ?_
  rintro e H5 ⟨rfl, rfl⟩
  have d1 : decide (txtV V.1 = b.take V.2.1) = true := decide_eq_true i3
  rw [d1]
  simp -implicitDefEqProofs (maxSteps := 1000000) (disch := first | omega | assumption) only [Sx, reduceIte, Nat.reduceEqDiff, reduceCtorEq, Nat.reduceAdd, Nat.reduceSub, Nat.reduceLT, decide_true, decide_false, Bool.not_true, Bool.not_false, Int.toNat_one, Int.toNat_zero, Nat.zero_mul, l_g, endK, gd_u]
  refine forms_old (l := l) (A := A) (ca := ca) (size := size) (hT.keep k4') (k4'.row hA) hca hl hs (by simp -implicitDefEqProofs (maxSteps := 1000000) (disch := first | omega | assumption) only [g0, Sx, reduceIte, Nat.reduceEqDiff, reduceCtorEq, Nat.reduceAdd, Nat.reduceSub, Nat.reduceLT, decide_true, decide_false, Bool.not_true, Bool.not_false, Int.toNat_one, Int.toNat_zero, Nat.zero_mul, l_g, endK, gd_u]) (by simp -implicitDefEqProofs (maxSteps := 1000000) (disch := first | omega | assumption) only [g1, Sx, reduceIte, Nat.reduceEqDiff, reduceCtorEq, Nat.reduceAdd, Nat.reduceSub, Nat.reduceLT, decide_true, decide_false, Bool.not_true, Bool.not_false, Int.toNat_one, Int.toNat_zero, Nat.zero_mul, l_g, endK, gd_u]) (by simp -implicitDefEqProofs (maxSteps := 1000000) (disch := first | omega | assumption) only [g6, Sx, reduceIte, Nat.reduceEqDiff, reduceCtorEq, Nat.reduceAdd, Nat.reduceSub, Nat.reduceLT, decide_true, decide_false, Bool.not_true, Bool.not_false, Int.toNat_one, Int.toNat_zero, Nat.zero_mul, l_g, endK, gd_u]) ?_
  intro env' H' hk h6
  exact hQ _ _ (k4'.trans hk) h6
set_option maxHeartbeats 16000000 in
set_option maxRecDepth 4000 in
theorem sparseForms_walk {H : Heap} {A B : Option Addr} {ca cb : Nat} {l : List Rg} {b : List Int} {size : Int} (hT : Tz H) (hT2 : Tab H) (hA : Row H A (rgs l)) (hca : l.length ≤ ca) (hl : l.length ≤ 8796093021952) (hB : Row H B (by8 b)) (hcb : b.length ≤ cb) (hb : isBy b) (hbl : b.length ≤ 140737488351232) (hs : -9223372036854775808 ≤ size ∧ size ≤ 9223372036854775807) :
    ACalls Tryd.prog 5 [Value.slice A l.length ca, .int .i64 size, .slice B b.length cb].toArray H fun e H' => e = .returned (.bool true) ∧ Keep H H' := by
  refine call5 (Nat.le_of_ble_eq_true rfl) ?_
  unfold L5 env0
  simp -implicitDefEqProofs (maxSteps := 1000000) (disch := first | omega | assumption) only [Sx, reduceIte, Nat.reduceEqDiff, reduceCtorEq, Nat.reduceAdd, Nat.reduceSub, Nat.reduceLT, decide_true, decide_false, Bool.not_true, Bool.not_false, Int.toNat_one, Int.toNat_zero, Nat.zero_mul, l_g, endK, gd_u]
  refine a_lits (sz := 2) (cells := #[]) rfl rfl ?_
  intro r1 H1 hO1 k1 hr1
  try simp -implicitDefEqProofs (maxSteps := 1000000) (disch := first | omega | assumption) only [Sx, reduceIte, Nat.reduceEqDiff, reduceCtorEq, Nat.reduceAdd, Nat.reduceSub, Nat.reduceLT, decide_true, decide_false, Bool.not_true, Bool.not_false, Int.toNat_one, Int.toNat_zero, Nat.zero_mul, l_g, endK, gd_u]
  refine copy_rg (H0 := H) hO1 hr1 k1 rfl (k1.row hA) hl ?_
  intro A2 c2 H2 hO2 hc2 w2 k2
  try simp -implicitDefEqProofs (maxSteps := 1000000) (disch := first | omega | assumption) only [Sx, reduceIte, Nat.reduceEqDiff, reduceCtorEq, Nat.reduceAdd, Nat.reduceSub, Nat.reduceLT, decide_true, decide_false, Bool.not_true, Bool.not_false, Int.toNat_one, Int.toNat_zero, Nat.zero_mul, l_g, endK, gd_u]
  refine a_call (put_spec (hT2.keep k2) w2 rfl) ?_
  rintro e H3 ⟨vx, rfl, hOx, k3, hFx⟩
  have hsx := hOx.scalar
  have k3' := k2.trans k3
  cases hv : validV l 9223372036854775807 with
  | false =>
    have q0 : ((1 : Int) == 0) = false := rfl
    simp -implicitDefEqProofs (maxSteps := 1000000) (disch := first | omega | assumption) only [q0, Sx, reduceIte, Nat.reduceEqDiff, reduceCtorEq, Nat.reduceAdd, Nat.reduceSub, Nat.reduceLT, decide_true, decide_false, Bool.not_true, Bool.not_false, Int.toNat_one, Int.toNat_zero, Nat.zero_mul, l_g, endK, gd_u]
    refine forms_read (l := l) (A := A) (ca := ca) (B := B) (cb := cb) (b := b) (size := size) (hT.keep k3') (hT2.keep k3') (k3'.row hA) hca hl (k3'.row hB) hcb hb hbl hs (by simp -implicitDefEqProofs (maxSteps := 1000000) (disch := first | omega | assumption) only [Sx, reduceIte, Nat.reduceEqDiff, reduceCtorEq, Nat.reduceAdd, Nat.reduceSub, Nat.reduceLT, decide_true, decide_false, Bool.not_true, Bool.not_false, Int.toNat_one, Int.toNat_zero, Nat.zero_mul, l_g, endK, gd_u]) (by simp -implicitDefEqProofs (maxSteps := 1000000) (disch := first | omega | assumption) only [Sx, reduceIte, Nat.reduceEqDiff, reduceCtorEq, Nat.reduceAdd, Nat.reduceSub, Nat.reduceLT, decide_true, decide_false, Bool.not_true, Bool.not_false, Int.toNat_one, Int.toNat_zero, Nat.zero_mul, l_g, endK, gd_u]) (by simp -implicitDefEqProofs (maxSteps := 1000000) (disch := first | omega | assumption) only [Sx, reduceIte, Nat.reduceEqDiff, reduceCtorEq, Nat.reduceAdd, Nat.reduceSub, Nat.reduceLT, decide_true, decide_false, Bool.not_true, Bool.not_false, Int.toNat_one, Int.toNat_zero, Nat.zero_mul, l_g, endK, gd_u]) (by simp -implicitDefEqProofs (maxSteps := 1000000) (disch := first | omega | assumption) only [Sx, reduceIte, Nat.reduceEqDiff, reduceCtorEq, Nat.reduceAdd, Nat.reduceSub, Nat.reduceLT, decide_true, decide_false, Bool.not_true, Bool.not_false, Int.toNat_one, Int.toNat_zero, Nat.zero_mul, l_g, endK, gd_u]) ?_
    intro env' H' hk h6
    simp -implicitDefEqProofs (maxSteps := 1000000) (disch := first | omega | assumption) only [h6, Sx, reduceIte, Nat.reduceEqDiff, reduceCtorEq, Nat.reduceAdd, Nat.reduceSub, Nat.reduceLT, decide_true, decide_false, Bool.not_true, Bool.not_false, Int.toNat_one, Int.toNat_zero, Nat.zero_mul, l_g, endK, gd_u]
    exact ⟨by (first | exact True.intro | rfl | assumption), k3'.trans hk⟩
  | true =>
    rw [hv] at hOx
    simp only [if_true] at hOx
    have hxl := txtV_le hv
    obtain ⟨xa, xc, rfl, -, wx⟩ := by_view hOx
    have q0 : ((0 : Int) == 0) = true := rfl
    simp -implicitDefEqProofs (maxSteps := 1000000) (disch := first | omega | assumption) only [q0, Sx, reduceIte, Nat.reduceEqDiff, reduceCtorEq, Nat.reduceAdd, Nat.reduceSub, Nat.reduceLT, decide_true, decide_false, Bool.not_true, Bool.not_false, Int.toNat_one, Int.toNat_zero, Nat.zero_mul, l_g, endK, gd_u]
    refine a_lits (sz := 1) (cells := #[]) rfl rfl ?_
    intro r4 H4 hO4 k4 hr4
    have k4' := k3'.trans k4
    try simp -implicitDefEqProofs (maxSteps := 1000000) (disch := first | omega | assumption) only [Sx, reduceIte, Nat.reduceEqDiff, reduceCtorEq, Nat.reduceAdd, Nat.reduceSub, Nat.reduceLT, decide_true, decide_false, Bool.not_true, Bool.not_false, Int.toNat_one, Int.toNat_zero, Nat.zero_mul, l_g, endK, gd_u]
    refine copy_by (H0 := H) hO4 (k3'.none hr4) k4' rfl (k4.row wx) (by omega) ?_
    intro v5 H5 hO5 k5 f5
    have hs5 := hO5.scalar
    try simp -implicitDefEqProofs (maxSteps := 1000000) (disch := first | omega | assumption) only [Sx, reduceIte, Nat.reduceEqDiff, reduceCtorEq, Nat.reduceAdd, Nat.reduceSub, Nat.reduceLT, decide_true, decide_false, Bool.not_true, Bool.not_false, Int.toNat_one, Int.toNat_zero, Nat.zero_mul, l_g, endK, gd_u]
    refine lits_byte ?_
    intro r6 H6 hO6 k6 hr6
    try simp -implicitDefEqProofs (maxSteps := 1000000) (disch := first | omega | assumption) only [Sx, reduceIte, Nat.reduceEqDiff, reduceCtorEq, Nat.reduceAdd, Nat.reduceSub, Nat.reduceLT, decide_true, decide_false, Bool.not_true, Bool.not_false, Int.toNat_one, Int.toNat_zero, Nat.zero_mul, l_g, endK, gd_u]
    refine app_by (x := [7]) (hO5.keep k6) (own_by hO6) (by simp; omega) ?_
    intro v7 H7 hO7 ho7 hm7
    obtain ⟨k7, f7⟩ := grown (k5.trans k6) f5 ho7 hm7
    obtain ⟨A7, c7, rfl, -, w7⟩ := by_view hO7
    have hby : isBy (txtV l ++ [7]) := isBy_app (txtV_by l) (by intro x hx; rw [List.mem_singleton] at hx; omega)
    try simp -implicitDefEqProofs (maxSteps := 1000000) (disch := first | omega | assumption) only [Sx, reduceIte, Nat.reduceEqDiff, reduceCtorEq, Nat.reduceAdd, Nat.reduceSub, Nat.reduceLT, decide_true, decide_false, Bool.not_true, Bool.not_false, Int.toNat_one, Int.toNat_zero, Nat.zero_mul, l_g, endK, gd_u]
    refine a_call (read_spec w7 hby rfl (by rw [List.length_append]; simp; omega)) ?_
    rw [read_put hv]
    rintro e H8 ⟨vm, he, hOm, k8, hFm⟩
    simp only at he hOm
    subst he
    have hsm := hOm.scalar
    have k8' := k7.trans k8
    obtain ⟨ma, mn, mc, rfl, hml, hmc, hmr⟩ := Own.view hOm
    rw [encs_len rg_len] at hml
    have hmn : mn = l.length := by omega
    subst hmn
    have n00 : ((0 : Int) != 0) = false := rfl
    have nL : (((txtV l).length : Int) != ((txtV l).length : Int)) = false := by simp
    have dl : decide (l = l) = true := by simp
    simp -implicitDefEqProofs (maxSteps := 1000000) (disch := first | omega | assumption) only [n00, nL, Sx, reduceIte, Nat.reduceEqDiff, reduceCtorEq, Nat.reduceAdd, Nat.reduceSub, Nat.reduceLT, decide_true, decide_false, Bool.not_true, Bool.not_false, Int.toNat_one, Int.toNat_zero, Nat.zero_mul, l_g, endK, gd_u]
    refine a_call (ranges_spec hmr (k8'.row hA) rfl rfl (by omega)) ?_
    rintro e H9 ⟨rfl, rfl⟩
    rw [dl]
    simp -implicitDefEqProofs (maxSteps := 1000000) (disch := first | omega | assumption) only [Sx, reduceIte, Nat.reduceEqDiff, reduceCtorEq, Nat.reduceAdd, Nat.reduceSub, Nat.reduceLT, decide_true, decide_false, Bool.not_true, Bool.not_false, Int.toNat_one, Int.toNat_zero, Nat.zero_mul, l_g, endK, gd_u]
    refine forms_read (l := l) (A := A) (ca := ca) (B := B) (cb := cb) (b := b) (size := size) (hT.keep k8') (hT2.keep k8') (k8'.row hA) hca hl (k8'.row hB) hcb hb hbl hs (by simp -implicitDefEqProofs (maxSteps := 1000000) (disch := first | omega | assumption) only [Sx, reduceIte, Nat.reduceEqDiff, reduceCtorEq, Nat.reduceAdd, Nat.reduceSub, Nat.reduceLT, decide_true, decide_false, Bool.not_true, Bool.not_false, Int.toNat_one, Int.toNat_zero, Nat.zero_mul, l_g, endK, gd_u]) (by simp -implicitDefEqProofs (maxSteps := 1000000) (disch := first | omega | assumption) only [Sx, reduceIte, Nat.reduceEqDiff, reduceCtorEq, Nat.reduceAdd, Nat.reduceSub, Nat.reduceLT, decide_true, decide_false, Bool.not_true, Bool.not_false, Int.toNat_one, Int.toNat_zero, Nat.zero_mul, l_g, endK, gd_u]) (by simp -implicitDefEqProofs (maxSteps := 1000000) (disch := first | omega | assumption) only [Sx, reduceIte, Nat.reduceEqDiff, reduceCtorEq, Nat.reduceAdd, Nat.reduceSub, Nat.reduceLT, decide_true, decide_false, Bool.not_true, Bool.not_false, Int.toNat_one, Int.toNat_zero, Nat.zero_mul, l_g, endK, gd_u]) (by simp -implicitDefEqProofs (maxSteps := 1000000) (disch := first | omega | assumption) only [Sx, reduceIte, Nat.reduceEqDiff, reduceCtorEq, Nat.reduceAdd, Nat.reduceSub, Nat.reduceLT, decide_true, decide_false, Bool.not_true, Bool.not_false, Int.toNat_one, Int.toNat_zero, Nat.zero_mul, l_g, endK, gd_u]) ?_
    intro env' H' hk h6
    simp -implicitDefEqProofs (maxSteps := 1000000) (disch := first | omega | assumption) only [h6, Sx, reduceIte, Nat.reduceEqDiff, reduceCtorEq, Nat.reduceAdd, Nat.reduceSub, Nat.reduceLT, decide_true, decide_false, Bool.not_true, Bool.not_false, Int.toNat_one, Int.toNat_zero, Nat.zero_mul, l_g, endK, gd_u]
    exact ⟨by (first | exact True.intro | rfl | assumption), k8'.trans hk⟩
theorem sparseForms_row {H : Heap} (hT : Tz H) (hT2 : Tab H) (A : Option Addr) (ca : Nat) (l : List Rg) (cl : List (List Value)) (he : Els rgTy H A l cl) (hca : l.length ≤ ca) (wl : (∀ y ∈ l, True) ∧ l.length ≤ maxLen) (hl : l.length * 16 ≤ 140737488351232) (size : Int) (ws : (Lit.int .i64 size).wf = true)
    (B : Option Addr) (cb : Nat) (b : List Int) (cl' : List (List Value)) (he' : Els (Ty.int .u8) H B b cl') (hcb : b.length ≤ cb) (wb : (∀ y ∈ b, (Lit.int .u8 y).wf = true) ∧ b.length ≤ maxLen) (hb : b.length * 1 ≤ 140737488351232) :
    ACalls Tryd.prog 5 [Value.slice A l.length ca, .int .i64 size, .slice B b.length cb].toArray H fun e H' => e = .returned (.bool true) ∧ Keep H H' :=
  sparseForms_walk hT hT2 (Els.flat he) hca (by omega) he'.ints hcb (fun y hy => wf_u8 (wb.1 y hy)) (by omega) (wf_i64 ws)
end Go.Proofs.YthflafgijfbpnaaDoor.S15
