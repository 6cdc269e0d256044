/-
  Lengths, whole.
-/
import Derived.Test.YtfdcolicpfellaaSLen3
set_option linter.unusedVariables false
set_option linter.unusedSimpArgs false
namespace Go.Proofs.Ytfdcolicpfellaa.S05
open Go Go.RowKit Go.Proofs.Ytfdcolicpfellaa.Sep Go.Proofs.Ytfdcolicpfellaa.Low
open Go.Proofs.Ytfdcolicpfellaa.PackLaw (Tr wt cnt cntL leaves merge Up lev pairs)
open Go.Proofs.Ytfdcolicpfellaa.Lib (by64 by64_scalar)

abbrev oft (os : List Int) : Nat → Int := fun s => os.getD s 0
/-- what lengths are given -/
inductive Pick (os : List Int) (L : Nat) : (Nat → Nat) → Prop where
  | zero : (F (oft os) os.length) = [] → Pick os L fun _ => 0
  | one {s : Nat} : F (oft os) os.length = [s] → Pick os L fun x => if x = s then 1 else 0
  | many {S : List Tr} : 2 ≤ S.length → S.length ≤ 2 ^ L → Sg (oft os) os.length S → S.Perm ((F (oft os) os.length).map Tr.leaf) → Pick os L (cntL ((lev (oft os) S (L - 1)).take (2 * S.length - 2)))
def okArgs (os : List Int) (L : Int) : Prop := (1 ≤ os.length ∧ os.length ≤ 320) ∧ (1 ≤ L ∧ L ≤ 15) ∧ ∀ x ∈ os, 0 ≤ x ∧ x ≤ 1099511627776
def LenRes (H : Heap) (os : List Int) (L : Int) (e : Ending) (H' : Heap) : Prop := Keep H H' ∧
  ((¬ okArgs os L ∧ e = .returned (.tuple #[.slice none 0 0, .int .i64 1])) ∨
   (okArgs os L ∧ 2 ^ L.toNat < (F (oft os) os.length).length ∧ e = .returned (.tuple #[.slice none 0 0, .int .i64 2])) ∨
   (okArgs os L ∧ (F (oft os) os.length).length ≤ 2 ^ L.toNat ∧ ∃ v f, e = .returned (.tuple #[v, .int .i64 0]) ∧ Ls H' v os.length f ∧ Fresh H v ∧ Pick os L.toNat f))
theorem F_mem {o : Nat → Int} {M s : Nat} (h : s ∈ F o M) : s < M ∧ 0 < o s := by
  unfold F at h
  rw [List.mem_filter, List.mem_range, decide_eq_true_eq] at h
  exact h
theorem sg_of {os : List Int} {L : Int} (hok : okArgs os L) {S : List Tr} (hup : Up (wt (oft os)) S) (hp : S.Perm ((F (oft os) os.length).map Tr.leaf)) : Sg (oft os) os.length S := by
  refine ⟨hup, fun t ht => ?_, ?_⟩
  · obtain ⟨s, hs, rfl⟩ := List.mem_map.1 (hp.mem_iff.1 ht)
    obtain ⟨h1, h2⟩ := F_mem hs
    refine ⟨s, rfl, h1, h2, ?_⟩
    show os.getD s 0 ≤ _
    rw [List.getD_eq_getElem?_getD, List.getElem?_eq_getElem h1]
    exact (hok.2.2 _ (List.getElem_mem h1)).2
  · rw [hp.length_eq, List.length_map]
    have := F_len (oft os) os.length
    have := hok.1.2
    omega

set_option maxHeartbeats 8000000 in
theorem lengths_spec {H : Heap} {a : Option Addr} {n c : Nat} {os : List Int} {most : Int} (hr : Row H a (by64 os)) (hn : n = os.length) :
    ACalls Try.prog 41 [Value.slice a n c, .int .i64 most].toArray H fun e H' => LenRes H os most e H' := by
  subst hn
  refine call41 (Nat.le_of_ble_eq_true rfl) ?_
  unfold L41 env0
  by_cases h1 : os.length < 1
  · have f1 : decide ((os.length : Int) < 1) = true := decide_eq_true (by omega)
    simp -implicitDefEqProofs (maxSteps := 1000000) (disch := first | omega | assumption) only [f1, l_g, Sx, reduceIte, Nat.reduceEqDiff, reduceCtorEq, Nat.reduceAdd, Nat.reduceSub, Nat.reduceLT]
    exact ⟨Keep.refl _, .inl ⟨fun h => by have := h.1; omega, rfl⟩⟩
  have f1 : decide ((os.length : Int) < 1) = false := decide_eq_false (by omega)
  by_cases h2 : 320 < os.length
  · have f2 : decide ((320 : Int) < (os.length : Int)) = true := decide_eq_true (by omega)
    simp -implicitDefEqProofs (maxSteps := 1000000) (disch := first | omega | assumption) only [f1, f2, l_g, Sx, reduceIte, Nat.reduceEqDiff, reduceCtorEq, Nat.reduceAdd, Nat.reduceSub, Nat.reduceLT]
    exact ⟨Keep.refl _, .inl ⟨fun h => by have := h.1; omega, rfl⟩⟩
  have f2 : decide ((320 : Int) < (os.length : Int)) = false := decide_eq_false (by omega)
  by_cases h3 : most < 1
  · have f3 : decide (most < 1) = true := decide_eq_true (by omega)
    simp -implicitDefEqProofs (maxSteps := 1000000) (disch := first | omega | assumption) only [f1, f2, f3, l_g, Sx, reduceIte, Nat.reduceEqDiff, reduceCtorEq, Nat.reduceAdd, Nat.reduceSub, Nat.reduceLT]
    exact ⟨Keep.refl _, .inl ⟨fun h => by have := h.2.1; omega, rfl⟩⟩
  have f3 : decide (most < 1) = false := decide_eq_false (by omega)
  by_cases h4 : 15 < most
  · have f4 : decide (15 < most) = true := decide_eq_true (by omega)
    simp -implicitDefEqProofs (maxSteps := 1000000) (disch := first | omega | assumption) only [f1, f2, f3, f4, l_g, Sx, reduceIte, Nat.reduceEqDiff, reduceCtorEq, Nat.reduceAdd, Nat.reduceSub, Nat.reduceLT]
    exact ⟨Keep.refl _, .inl ⟨fun h => by have := h.2.1; omega, rfl⟩⟩
  have f4 : decide (15 < most) = false := decide_eq_false (by omega)
  simp -implicitDefEqProofs (maxSteps := 1000000) (disch := first | omega | assumption) only [f1, f2, f3, f4, l_g, Sx, reduceIte, Nat.reduceEqDiff, reduceCtorEq, Nat.reduceAdd, Nat.reduceSub, Nat.reduceLT]
  refine c_loop (fun k env H' => ∃ i, k + i = os.length ∧ CM H a c os most i env H') os.length ⟨0, by omega, ⟨by simp -implicitDefEqProofs (maxSteps := 1000000) (disch := first | omega | assumption) only [Sx, reduceIte, Nat.reduceEqDiff, reduceCtorEq, Nat.reduceAdd, Nat.reduceSub, Nat.reduceLT], by simp -implicitDefEqProofs (maxSteps := 1000000) (disch := first | omega | assumption) only [Sx, reduceIte, Nat.reduceEqDiff, reduceCtorEq, Nat.reduceAdd, Nat.reduceSub, Nat.reduceLT], by simp -implicitDefEqProofs (maxSteps := 1000000) (disch := first | omega | assumption) only [Sx, reduceIte, Nat.reduceEqDiff, reduceCtorEq, Nat.reduceAdd, Nat.reduceSub, Nat.reduceLT], by simp -implicitDefEqProofs (maxSteps := 1000000) (disch := first | omega | assumption) only [Sx, reduceIte, Nat.reduceEqDiff, reduceCtorEq, Nat.reduceAdd, Nat.reduceSub, Nat.reduceLT], by simp -implicitDefEqProofs (maxSteps := 1000000) (disch := first | omega | assumption) only [Sx, reduceIte, Nat.reduceEqDiff, reduceCtorEq, Nat.reduceAdd, Nat.reduceSub, Nat.reduceLT]; rfl, fun j hj => by omega, Keep.refl _, .slice none 0 0, [], fun _ => .leaf 0, by simp -implicitDefEqProofs (maxSteps := 1000000) (disch := first | omega | assumption) only [Sx, reduceIte, Nat.reduceEqDiff, reduceCtorEq, Nat.reduceAdd, Nat.reduceSub, Nat.reduceLT], ⟨.nil, (fun b hb => by cases hb), List.nodup_nil⟩, by simp [F], (fun q hq => by cases hq)⟩⟩ ?_
  rintro k env H1 ⟨i, hki, hCM⟩
  by_cases hi : i < os.length
  · by_cases hx : 0 ≤ os[i] ∧ os[i] ≤ 1099511627776
    · refine coin_round hr hi (by omega) hx hCM ?_
      intro env' H' hCM'
      exact ⟨k - 1, by omega, i + 1, by omega, hCM'⟩
    · obtain ⟨h0, h1, h32, h33, h34, hok, hK, v, ds, tr, h6, hC, hmap, hF⟩ := hCM
      have f0 : decide ((i : Int) < (os.length : Int)) = true := decide_eq_true (by omega)
      obtain ⟨b, rfl, hb⟩ := int_at (hK.row hr) hi
      have hbad : ¬ okArgs os most := fun h => hx (h.2.2 _ (List.getElem_mem hi))
      unfold L41_1
      by_cases h5 : os[i] < 0
      · have f5 : decide (os[i] < 0) = true := decide_eq_true h5
        simp -implicitDefEqProofs (maxSteps := 1000000) (disch := first | omega | assumption) only [h0, h1, h6, h32, h33, h34, f0, f5, hb, l_g, Sx, reduceIte, Nat.reduceEqDiff, reduceCtorEq, Nat.reduceAdd, Nat.reduceSub, Nat.reduceLT]
        exact ⟨hK, .inl ⟨hbad, rfl⟩⟩
      · have f5 : decide (os[i] < 0) = false := decide_eq_false h5
        have f6 : decide (1099511627776 < os[i]) = true := decide_eq_true (by omega)
        simp -implicitDefEqProofs (maxSteps := 1000000) (disch := first | omega | assumption) only [h0, h1, h6, h32, h33, h34, f0, f5, f6, hb, l_g, Sx, reduceIte, Nat.reduceEqDiff, reduceCtorEq, Nat.reduceAdd, Nat.reduceSub, Nat.reduceLT]
        exact ⟨hK, .inl ⟨hbad, rfl⟩⟩
  have f0 : decide ((i : Int) < (os.length : Int)) = false := decide_eq_false (by omega)
  have : i = os.length := by omega
  subst this
  obtain ⟨h0, h1, h32, h33, h34, hok, hK, v, ds, tr, h6, hC, hmap, hF⟩ := hCM
  have hargs : okArgs os most := by
    refine ⟨by omega, by omega, fun x hx => ?_⟩
    obtain ⟨j, hj, rfl⟩ := List.getElem_of_mem hx
    have := hok j hj
    rwa [List.getD_eq_getElem?_getD, List.getElem?_eq_getElem hj] at this
  obtain ⟨L, hL⟩ : ∃ L : Nat, most = L := ⟨most.toNat, by omega⟩
  subst hL
  have hLt : (L : Int).toNat = L := by omega
  obtain ⟨da, dn, dc, rfl, hdn, hdc, hdrow⟩ := Own.view hC.O
  have hdl : dn = ds.length := by simpa using hdn.symm
  subst hdl
  have hFl : ds.length = (F (oft os) os.length).length := by
    have := congrArg List.length hmap
    rwa [List.length_map, List.length_map] at this
  have hF320 : ds.length ≤ 320 := by
    have := F_len (oft os) os.length
    omega
  unfold L41_1
  simp -implicitDefEqProofs (maxSteps := 1000000) (disch := first | omega | assumption) only [h0, h1, h6, h32, h33, h34, f0, Sx, reduceIte, Nat.reduceEqDiff, reduceCtorEq, Nat.reduceAdd, Nat.reduceSub, Nat.reduceLT]
  refine a_mks (l := os.length) (c := os.length) (sz := 1) (by omega) (by omega) (by omega) rfl (by omega) ?_
  intro r H2 rest hbr hW hk1 hr1
  have hL15 : 2 ^ L ≤ 2 ^ 15 := Nat.pow_le_pow_right (by omega) (by omega)
  have e64 : IntKind.i64.wrap (1 * 2 ^ min L 64) = ((2 ^ L : Nat) : Int) := by
    rw [show min L 64 = L by omega, Int.one_mul]
    have : ((2 : Int) ^ L) = ((2 ^ L : Nat) : Int) := by simp
    rw [this]
    generalize 2 ^ L = z at hL15 ⊢
    exact w_i64 (by omega)
  have hW0 : Ls H2 (.slice (some ⟨r, 0, none⟩) os.length os.length) os.length fun _ => 0 := by
    have : by64 (nums os.length fun _ => 0) = List.replicate os.length (.int .i64 0) := by
      unfold nums by64
      rw [List.map_map]
      apply List.ext_getElem (by simp)
      intro j hj hj'
      simp
    show Own H2 _ 1 _ _
    rw [this]
    simpa using hW
  have hK2 : Keep H H2 := hK.trans hk1
  have hF2 : Fresh H (.slice (some ⟨r, 0, none⟩) os.length os.length) := fun q hq => by
    cases hq
    exact hK.none hr1
  have hC2 := hC.keep hk1
  have hd2 := hk1.row hdrow
  by_cases h5 : 2 ^ L < ds.length
  · have f5 : decide (((2 ^ L : Nat) : Int) < (ds.length : Int)) = true := decide_eq_true (by omega)
    simp -implicitDefEqProofs (maxSteps := 1000000) (disch := first | omega | assumption) only [h0, h1, h6, e64, f5, l_g, Sx, reduceIte, Nat.reduceEqDiff, reduceCtorEq, Nat.reduceAdd, Nat.reduceSub, Nat.reduceLT]
    exact ⟨hK2, .inr (.inl ⟨hargs, by rw [hLt, ← hFl]; exact h5, rfl⟩)⟩
  have f5 : decide (((2 ^ L : Nat) : Int) < (ds.length : Int)) = false := decide_eq_false (by omega)
  by_cases h6' : ds.length = 0
  · have f6 : ((ds.length : Int) == 0) = true := by rw [beq_iff_eq]; omega
    simp -implicitDefEqProofs (maxSteps := 1000000) (disch := first | omega | assumption) only [h0, h1, h6, e64, f5, f6, l_g, Sx, reduceIte, Nat.reduceEqDiff, reduceCtorEq, Nat.reduceAdd, Nat.reduceSub, Nat.reduceLT]
    exact ⟨hK2, .inr (.inr ⟨hargs, by rw [hLt]; omega, _, _, rfl, hW0, hF2, .zero (List.length_eq_zero_iff.1 (by omega))⟩)⟩
  have f6 : ((ds.length : Int) == 0) = false := by rw [beq_eq_false_iff_ne]; omega
  by_cases h7 : ds.length = 1
  · have f7 : ((ds.length : Int) == 1) = true := by rw [beq_iff_eq]; omega
    obtain ⟨d, hde⟩ := List.length_eq_one_iff.1 h7
    obtain ⟨s, hs⟩ := List.length_eq_one_iff.1 (hFl.symm.trans h7)
    have htd : tr d = .leaf s := by
      have : ds.map tr = [s].map Tr.leaf := by rw [hmap]; show (F (oft os) os.length).map Tr.leaf = _; rw [hs]
      rw [hde] at this
      simpa using this
    have hTd := hC2.T d (by rw [hde]; exact List.mem_cons_self)
    rw [htd] at hTd
    cases hTd with
    | leaf hbd =>
    have hsM : s < os.length := (F_mem (o := oft os) (M := os.length) (s := s) (by rw [hs]; exact List.mem_cons_self)).1
    have hd3 : Row H2 da (ps [d]) := by rw [← hde]; exact hd2
    obtain ⟨da', rfl, hda⟩ := hd3.at (i := 0) (by simp)
    rw [show (ps [d])[0] = .pointer (some ⟨d, 0, none⟩) from rfl, add_zero_a] at hda
    simp -implicitDefEqProofs (maxSteps := 1000000) (disch := first | omega | assumption) only [h0, h1, h6, e64, f5, f6, f7, hda, cell_of hbd, Int.toNat_zero, l_g, Sx, reduceIte, Nat.reduceEqDiff, reduceCtorEq, Nat.reduceAdd, Nat.reduceSub, Nat.reduceLT]
    refine Lib.a_storeC hW0 (j := s) (by simpa using hsM) rfl ?_
    intro H3 hO3 ho3
    try simp -implicitDefEqProofs (maxSteps := 1000000) (disch := first | omega | assumption) only [h6, Sx, reduceIte, Nat.reduceEqDiff, reduceCtorEq, Nat.reduceAdd, Nat.reduceSub, Nat.reduceLT]
    refine ⟨ho3.keep hK2 fun q hq => hF2 q hq, .inr (.inr ⟨hargs, by rw [hLt]; omega, _, fun x => if x = s then 1 else 0, rfl, ?_, hF2, .one hs⟩)⟩
    have e := nums_set (f := fun _ => 0) hsM 1
    show Own H3 _ 1 _ _
    unfold by64
    rw [← e, List.map_set]
    exact hO3
  have f7 : ((ds.length : Int) == 1) = false := by rw [beq_eq_false_iff_ne]; omega
  simp -implicitDefEqProofs (maxSteps := 1000000) (disch := first | omega | assumption) only [h0, h1, h6, e64, f5, f6, f7, l_g, Sx, reduceIte, Nat.reduceEqDiff, reduceCtorEq, Nat.reduceAdd, Nat.reduceSub, Nat.reduceLT]
  obtain ⟨rk, hrk⟩ := asc_ex ds hC.nd
  refine a_call (csort_spec hC2 (by rintro rfl; simp at h6') (by omega) rk hrk) ?_
  rintro e H3 ⟨rfl, ⟨D, hDp, hDs, hD⟩, ho3⟩
  simp -implicitDefEqProofs (maxSteps := 1000000) (disch := first | omega | assumption) only [endK, h0, h1, h6, Sx, reduceIte, Nat.reduceEqDiff, reduceCtorEq, Nat.reduceAdd, Nat.reduceSub, Nat.reduceLT]
  have hS0 : D.map tr = D.map tr := rfl
  have hperm : (D.map tr).Perm ((F (oft os) os.length).map Tr.leaf) := by
    have := hDp.map tr
    rw [hmap] at this
    exact this
  have hSg : Sg (oft os) os.length (D.map tr) := sg_of hargs (by
    rw [Up, List.pairwise_map]
    exact srt_up hDs) hperm
  have hDl : D.length = ds.length := hDp.length_eq
  have hSl : (D.map tr).length = ds.length := by rw [List.length_map, hDl]
  have hK3 : Keep H H3 := ho3.keep hK2 fun q hq => hF q hq
  have hW3 : Ls H3 (.slice (some ⟨r, 0, none⟩) os.length os.length) os.length fun _ => 0 := Lib.oth_own ho3 hW0 fun q hq => Lib.apart hC2.O hW0 (by decide) hq
  have hup := hSg.up
  refine c_loop (fun k env H' => ∃ j, k + j = L - 1 ∧ j ≤ L - 1 ∧ LV H L (.slice da ds.length dc) (.slice (some ⟨r, 0, none⟩) os.length os.length) (oft os) os.length (D.map tr) j env H') (L - 1) ⟨0, by omega, by omega, ⟨by simp -implicitDefEqProofs (maxSteps := 1000000) (disch := first | omega | assumption) only [h6, Sx, reduceIte, Nat.reduceEqDiff, reduceCtorEq, Nat.reduceAdd, Nat.reduceSub, Nat.reduceLT], by simp -implicitDefEqProofs (maxSteps := 1000000) (disch := first | omega | assumption) only [Sx, reduceIte, Nat.reduceEqDiff, reduceCtorEq, Nat.reduceAdd, Nat.reduceSub, Nat.reduceLT], by simp -implicitDefEqProofs (maxSteps := 1000000) (disch := first | omega | assumption) only [Sx, reduceIte, Nat.reduceEqDiff, reduceCtorEq, Nat.reduceAdd, Nat.reduceSub, Nat.reduceLT], by simp -implicitDefEqProofs (maxSteps := 1000000) (disch := first | omega | assumption) only [Sx, reduceIte, Nat.reduceEqDiff, reduceCtorEq, Nat.reduceAdd, Nat.reduceSub, Nat.reduceLT], by simp -implicitDefEqProofs (maxSteps := 1000000) (disch := first | omega | assumption) only [Sx, reduceIte, Nat.reduceEqDiff, reduceCtorEq, Nat.reduceAdd, Nat.reduceSub, Nat.reduceLT]; rfl, hK3, hW3, .slice da ds.length dc, D, D, tr, by simp -implicitDefEqProofs (maxSteps := 1000000) (disch := first | omega | assumption) only [Sx, reduceIte, Nat.reduceEqDiff, reduceCtorEq, Nat.reduceAdd, Nat.reduceSub, Nat.reduceLT], hD, hD, rfl, rfl⟩⟩ ?_
  rintro k env2 H4 ⟨j, hkj, hjl, hLV⟩
  by_cases hj : j + 1 < L
  · refine lev_round hSg (by rintro e; rw [e] at hSl; simp at hSl; omega) (by omega) hj hLV ?_
    intro env' H' hLV'
    exact ⟨k - 1, by omega, j + 1, by omega, by omega, hLV'⟩
  · have : j = L - 1 := by omega
    subst this
    obtain ⟨h6, h9, h10, h87, h88, hK, hL, pv, P, D', tr', h11, hD, hP, hDm, hPm⟩ := hLV
    have f8 : decide (((L - 1 : Nat) : Int) < (L : Int) - 1) = false := decide_eq_false (by omega)
    unfold L41_3
    simp -implicitDefEqProofs (maxSteps := 1000000) (disch := first | omega | assumption) only [h6, h9, h10, h11, h87, h88, f8, Sx, reduceIte, Nat.reduceEqDiff, reduceCtorEq, Nat.reduceAdd, Nat.reduceSub, Nat.reduceLT]
    have hpm := PackLaw.lev_enough (o := oft os) (S := D.map tr) (L := L) (by rw [hSl]; omega) (L - 1) (by omega)
    rw [show L - (L - 1) = 1 by omega] at hpm
    have hPl : P.length = (lev (oft os) (D.map tr) (L - 1)).length := by rw [← hPm, List.length_map]
    refine pick_spec (H0 := H) (S := D.map tr) (n := ds.length) (j := L - 1) (P := P) (D := D') (tr := tr') hSg (by omega) (by omega) hSl.symm (by omega) (by simp -implicitDefEqProofs (maxSteps := 1000000) (disch := first | omega | assumption) only [h6, Sx, reduceIte, Nat.reduceEqDiff, reduceCtorEq, Nat.reduceAdd, Nat.reduceSub, Nat.reduceLT]) (by simp -implicitDefEqProofs (maxSteps := 1000000) (disch := first | omega | assumption) only [h9, Sx, reduceIte, Nat.reduceEqDiff, reduceCtorEq, Nat.reduceAdd, Nat.reduceSub, Nat.reduceLT]) (by simp -implicitDefEqProofs (maxSteps := 1000000) (disch := first | omega | assumption) only [h11, Sx, reduceIte, Nat.reduceEqDiff, reduceCtorEq, Nat.reduceAdd, Nat.reduceSub, Nat.reduceLT]) hD hP (by rw [← hSl, ← hDm, List.length_map]) hPm hK hL hF2 ?_
    intro env' H' h4 h5 hL' hK'
    simp -implicitDefEqProofs (maxSteps := 1000000) (disch := first | omega | assumption) only [h4, h5, Sx, reduceIte, Nat.reduceEqDiff, reduceCtorEq, Nat.reduceAdd, Nat.reduceSub, Nat.reduceLT]
    refine ⟨hK', .inr (.inr ⟨hargs, by rw [hLt]; omega, _, _, rfl, hL', hF2, ?_⟩)⟩
    rw [hLt, ← hSl]
    exact .many (by omega) (by omega) hSg hperm
end Go.Proofs.Ytfdcolicpfellaa.S05
