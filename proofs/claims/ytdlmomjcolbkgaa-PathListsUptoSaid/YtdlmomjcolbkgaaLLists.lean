/-
  PathLists: any lists, any number.
-/
import Derived.Test.YtdlmomjcolbkgaaRPlace
set_option linter.unusedVariables false
set_option linter.unusedSimpArgs false
namespace Go.Proofs.Ytdlmomjcolbkgaa.S09
open Go Go.RowKit Go.Proofs.Ytdlmomjcolbkgaa.Sep Go.Proofs.Ytdlmomjcolbkgaa.Low Go.Proofs.Ytdlmomjcolbkgaa.Lib

abbrev behind : List UInt8 := [98, 101, 104, 105, 110, 100]
set_option maxHeartbeats 8000000 in
theorem lists_131 {H H12 H20 : Heap} {A B : Option Addr} {c d : Nat} {xs ys : List (List UInt8)} {ax ay au al am : Option Addr} {cx cy cu cl cm nu : Nat} {us : List (List UInt8)} {env : Env} {Q : Post} {QP : List PanicEntry → Heap → Prop} (hra : Row H A (strs xs)) (hrb : Row H B (strs ys)) (hl : tot xs + tot ys ≤ 1048576)
    (hk6 : Keep H H12) (hk616 : Keep H12 H20) (rx : Row H12 ax (strs (xs ++ [behind]))) (rp : Row H12 ax (strs xs)) (ry : Row H12 ay (strs ys)) (hcx : (xs ++ [behind]).length ≤ cx)
    (hOu' : Ss H20 (.slice au nu cu) us) (hul : us.length ≤ 1048576) (hFu : Fresh H12 (.slice au nu cu)) (hOl' : Ss H20 (.slice al (placeN xs ys).1.length cl) (placeN xs ys).1) (hFl : Fresh H12 (.slice al (placeN xs ys).1.length cl)) (hne : ∀ r, own (.slice au nu cu) = some r → own (.slice al (placeN xs ys).1.length cl) ≠ some r) (rm : Row H20 am (strs (placeN xs ys).1))
    (g0 : env 0 = .slice A xs.length c) (g1 : env 1 = .slice B ys.length d) (g7 : env 7 = .slice ax (xs ++ [behind]).length cx) (g8 : env 8 = .slice ay ys.length cy) (g9 : env 9 = .slice ax xs.length cx) (g14 : env 14 = .slice au nu cu) (g18 : env 18 = .slice al (placeN xs ys).1.length cl) (g20 : env 20 = .slice am (placeN xs ys).1.length cm)
    (hq : ∀ env' H', env' 6 = .bool true → Keep H H' → Q .ret env' H') : awpC Try.prog L4_131 Q QP env H20 := by
  have hl1 := len_tot xs
  have hl2 := len_tot ys
  have hxl : (xs ++ [behind]).length = xs.length + 1 := by simp
  have hp1 : (placeN xs ys).1.length ≤ xs.length + ys.length := by
    unfold placeN
    split
    · simp
    · simp
  unfold L4_131
  simp -implicitDefEqProofs (maxSteps := 1000000) (disch := first | omega | assumption) only [g0, g1, g7, g8, g9, g14, g18, g20, Sx, reduceIte, Nat.reduceEqDiff, reduceCtorEq, Nat.reduceAdd, Nat.reduceSub, Nat.reduceLT]
  -- w
  refine lits_nostr ?_
  intro r21 H21 hO21 hk21 hr21
  try simp -implicitDefEqProofs (maxSteps := 1000000) (disch := first | omega | assumption) only [g0, g1, g7, g8, g9, g14, g18, g20, Sx, reduceIte, Nat.reduceEqDiff, reduceCtorEq, Nat.reduceAdd, Nat.reduceSub, Nat.reduceLT]
  refine a_app (len := 0) (m := (placeN xs ys).1.length) (new := strs (placeN xs ys).1) hO21 rfl (by rfl) ((hk21.row rm).cells (by simp)) (by simp) rfl (by omega) (strs_scalar _) (by omega) ?_
  intro vw H22 hOw ho22 hm22
  have hOw : Ss H22 vw (placeN xs ys).1 := hOw
  have hk22 : Keep H20 H22 := ho22.keep hk21 (by rintro q ⟨⟩; exact hr21)
  have hFw : Fresh H20 vw := hm22.fresh hk21 (by rintro q ⟨⟩; exact hr21)
  clear hO21 hk21 hr21 ho22 hm22
  have hOu2 := Own.keep hOu' hk22
  have hOl2 := Own.keep hOl' hk22
  have hsw := hOw.scalar
  try simp -implicitDefEqProofs (maxSteps := 1000000) (disch := first | omega | assumption) only [g0, g1, g7, g8, g9, g14, g18, g20, Sx, reduceIte, Nat.reduceEqDiff, reduceCtorEq, Nat.reduceAdd, Nat.reduceSub, Nat.reduceLT]
  refine e_gen (fun env => env 0 = .slice A xs.length c ∧ env 1 = .slice B ys.length d ∧ env 7 = .slice ax (xs ++ [behind]).length cx ∧ env 8 = .slice ay ys.length cy ∧ env 9 = .slice ax xs.length cx ∧ env 18 = .slice al (placeN xs ys).1.length cl ∧ env 22 = vw) ⟨by simp -implicitDefEqProofs (maxSteps := 1000000) (disch := first | omega | assumption) only [g0, Sx, reduceIte, Nat.reduceEqDiff, reduceCtorEq, Nat.reduceAdd, Nat.reduceSub, Nat.reduceLT], by simp -implicitDefEqProofs (maxSteps := 1000000) (disch := first | omega | assumption) only [g1, Sx, reduceIte, Nat.reduceEqDiff, reduceCtorEq, Nat.reduceAdd, Nat.reduceSub, Nat.reduceLT], by simp -implicitDefEqProofs (maxSteps := 1000000) (disch := first | omega | assumption) only [g7, Sx, reduceIte, Nat.reduceEqDiff, reduceCtorEq, Nat.reduceAdd, Nat.reduceSub, Nat.reduceLT], by simp -implicitDefEqProofs (maxSteps := 1000000) (disch := first | omega | assumption) only [g8, Sx, reduceIte, Nat.reduceEqDiff, reduceCtorEq, Nat.reduceAdd, Nat.reduceSub, Nat.reduceLT], by simp -implicitDefEqProofs (maxSteps := 1000000) (disch := first | omega | assumption) only [g9, Sx, reduceIte, Nat.reduceEqDiff, reduceCtorEq, Nat.reduceAdd, Nat.reduceSub, Nat.reduceLT], by simp -implicitDefEqProofs (maxSteps := 1000000) (disch := first | omega | assumption) only [g18, Sx, reduceIte, Nat.reduceEqDiff, reduceCtorEq, Nat.reduceAdd, Nat.reduceSub, Nat.reduceLT], by simp -implicitDefEqProofs (maxSteps := 1000000) (disch := first | omega | assumption) only [Sx, reduceIte, Nat.reduceEqDiff, reduceCtorEq, Nat.reduceAdd, Nat.reduceSub, Nat.reduceLT]⟩ ?_
  clear g0 g1 g7 g8 g9 g14 g18 g20
  rintro env ⟨g0, g1, g7, g8, g9, g18, g22⟩
  refine a_call (written_spec hOu2 (by omega)) ?_
  rintro e H23 ⟨rfl, ho23⟩
  have hk622 : Keep H12 H22 := hk616.trans hk22
  have hk623 : Keep H12 H23 := ho23.keep hk622 fun q hq => hFu q hq
  have hOl3 := oth_own ho23 hOl2 fun r hr hr2 => hne r hr hr2
  have hOw3 : Ss H23 vw (placeN xs ys).1 := oth_own ho23 hOw fun r hr hr2 => hOu'.known hr (hFw r hr2)
  simp -implicitDefEqProofs (maxSteps := 1000000) (disch := first | omega | assumption) only [g0, g1, g7, g8, g9, g18, g22, endK, Sx, reduceIte, Nat.reduceEqDiff, reduceCtorEq, Nat.reduceAdd, Nat.reduceSub, Nat.reduceLT]
  refine a_call (written_spec hOl3 (by omega)) ?_
  rintro e H24 ⟨rfl, ho24⟩
  have hk624 : Keep H12 H24 := ho24.keep hk623 fun q hq => hFl q hq
  have hOw4 : Ss H24 vw (placeN xs ys).1 := oth_own ho24 hOw3 fun r hr hr2 => hOl'.known hr (hFw r hr2)
  simp -implicitDefEqProofs (maxSteps := 1000000) (disch := first | omega | assumption) only [g0, g1, g7, g8, g9, g18, g22, endK, Sx, reduceIte, Nat.reduceEqDiff, reduceCtorEq, Nat.reduceAdd, Nat.reduceSub, Nat.reduceLT]
  refine a_call (place_spec (hk624.row rp) (hk624.row ry) rfl rfl (by omega)) ?_
  rintro e H25 ⟨vg, rfl, hOg, hk25, hFg⟩
  obtain ⟨ag, cg, rfl, hcg, rg⟩ := Ss.len hOg
  simp -implicitDefEqProofs (maxSteps := 1000000) (disch := first | omega | assumption) only [g0, g1, g7, g8, g9, g18, g22, endK, Sx, reduceIte, Nat.reduceEqDiff, reduceCtorEq, Nat.reduceAdd, Nat.reduceSub, Nat.reduceLT]
  refine a_lits (sz := 1) (cells := #[.string ⟨#[97]⟩, .string ⟨#[98]⟩]) rfl rfl ?_
  intro r26 H26 hO26 hk26 hr26
  obtain ⟨_, _, _, e, _, _, h26⟩ := Own.view hO26
  cases e
  have h26' : Row H26 (some ⟨r26, 0, none⟩) (strs [[97], [98]]) := h26
  try simp -implicitDefEqProofs (maxSteps := 1000000) (disch := first | omega | assumption) only [g0, g1, g7, g8, g9, g18, g22, Sx, reduceIte, Nat.reduceEqDiff, reduceCtorEq, Nat.reduceAdd, Nat.reduceSub, Nat.reduceLT]
  refine a_call (pjoin_spec (n := 2) (c := 2) h26' (fun b hb => by cases hb; rfl) rfl (by omega) (by decide)) ?_
  rintro e H27 ⟨rfl, rfl⟩
  obtain ⟨j, hj, hj1, hj2⟩ : ∃ j, j = joinN [[97], [98]] ∧ decide (j.1 = [97, 47, 98]) = true ∧ (j.2 == 0) = true := ⟨_, rfl, by decide, by decide⟩
  rw [← hj]
  clear hj
  have hk627 := (hk624.trans hk25).trans hk26
  have rx27 := hk627.row rx
  obtain ⟨bx, hbx, hbc⟩ := str_at rx27 (i := xs.length) (by omega)
  subst hbx
  have hbx2 : (xs ++ [behind])[xs.length]'(by omega) = behind := by simp
  rw [hbx2] at hbc
  have hOw7 := (hOw4.keep hk25).keep hk26
  obtain ⟨aw, cw, rfl, hcw, rw7⟩ := Ss.len hOw7
  have q8 : ((0 : Int) == 0) = true := rfl
  simp -implicitDefEqProofs (maxSteps := 1000000) (disch := first | omega | assumption) only [g0, g1, g7, g8, g9, g18, g22, endK, Sx, reduceIte, Nat.reduceEqDiff, reduceCtorEq, Nat.reduceAdd, Nat.reduceSub, Nat.reduceLT]
  refine a_call (same_spec (hk627.row rp) ((hk6.trans hk627).row hra) rfl rfl (by omega)) ?_
  rintro e H28 ⟨rfl, rfl⟩
  have hb0 : (0 : Int) ≤ (xs.length : Int) ∧ (xs.length : Int) < ((xs.length + 1 : Nat) : Int) := by omega
  rw [hxl] at g7
  simp -implicitDefEqProofs (maxSteps := 1000000) (disch := first | omega | assumption) only [g0, g1, g7, g8, g9, g18, g22, endK, decide_true, hbc, hb0, t_eq, l_g, Sx, reduceIte, Nat.reduceEqDiff, reduceCtorEq, Nat.reduceAdd, Nat.reduceSub, Nat.reduceLT]
  refine a_call (same_spec (hk627.row ry) ((hk6.trans hk627).row hrb) rfl rfl (by omega)) ?_
  rintro e H29 ⟨rfl, rfl⟩
  simp -implicitDefEqProofs (maxSteps := 1000000) (disch := first | omega | assumption) only [g0, g1, g7, g8, g9, g18, g22, endK, decide_true, l_g, Sx, reduceIte, Nat.reduceEqDiff, reduceCtorEq, Nat.reduceAdd, Nat.reduceSub, Nat.reduceLT]
  refine a_call (same_spec (hk26.row rg) rw7 rfl rfl (by omega)) ?_
  rintro e H30 ⟨rfl, rfl⟩
  simp -implicitDefEqProofs (maxSteps := 1000000) (disch := first | omega | assumption) only [g0, g1, g7, g8, g9, g18, g22, endK, decide_true, t_eq, hj1, hj2, l_g, Sx, reduceIte, Nat.reduceEqDiff, reduceCtorEq, Nat.reduceAdd, Nat.reduceSub, Nat.reduceLT]
  exact hq _ _ (by simp -implicitDefEqProofs (maxSteps := 1000000) (disch := first | omega | assumption) only [Sx, reduceIte, Nat.reduceEqDiff, reduceCtorEq, Nat.reduceAdd, Nat.reduceSub, Nat.reduceLT]) (hk6.trans hk627)
set_option maxHeartbeats 8000000 in
theorem lists_76 {H H12 : Heap} {A B : Option Addr} {c d : Nat} {xs ys : List (List UInt8)} {z : Int} {ax ay : Option Addr} {cx cy : Nat} {env : Env} {Q : Post} {QP : List PanicEntry → Heap → Prop} (hra : Row H A (strs xs)) (hrb : Row H B (strs ys)) (hca : xs.length ≤ c) (hl : tot xs + tot ys ≤ 1048576)
    (hk6 : Keep H H12) (rx : Row H12 ax (strs (xs ++ [behind]))) (rp : Row H12 ax (strs xs)) (ry : Row H12 ay (strs ys)) (hcx : (xs ++ [behind]).length ≤ cx)
    (g0 : env 0 = .slice A xs.length c) (g1 : env 1 = .slice B ys.length d) (g2 : env 2 = .int .i64 z) (g7 : env 7 = .slice ax (xs ++ [behind]).length cx) (g8 : env 8 = .slice ay ys.length cy) (g9 : env 9 = .slice ax xs.length cx)
    (hq : ∀ env' H', env' 6 = .bool true → Keep H H' → Q .ret env' H') : awpC Try.prog L4_76 Q QP env H12 := by
  have hl1 := len_tot xs
  have hl2 := len_tot ys
  have hxl : (xs ++ [behind]).length = xs.length + 1 := by simp
  unfold L4_76
  simp -implicitDefEqProofs (maxSteps := 1000000) (disch := first | omega | assumption) only [g0, g1, g2, g7, g8, g9, Sx, reduceIte, Nat.reduceEqDiff, reduceCtorEq, Nat.reduceAdd, Nat.reduceSub, Nat.reduceLT]
  -- Strip and Place
  refine a_call (strip_spec rp rfl (by omega) (by omega)) ?_
  rintro e H13 ⟨vu, rfl, hOu, hk13, hFu⟩
  have hsu := hOu.scalar
  simp -implicitDefEqProofs (maxSteps := 1000000) (disch := first | omega | assumption) only [g0, g1, g2, g7, g8, g9, endK, Sx, reduceIte, Nat.reduceEqDiff, reduceCtorEq, Nat.reduceAdd, Nat.reduceSub, Nat.reduceLT]
  refine a_call (rstrip_spec ((hk6.trans hk13).row hra) rfl hca (by omega)) ?_
  rintro e H14 ⟨rfl, Av, Cv, rfl, hrv⟩
  simp -implicitDefEqProofs (maxSteps := 1000000) (disch := first | omega | assumption) only [g0, g1, g2, g7, g8, g9, endK, Sx, reduceIte, Nat.reduceEqDiff, reduceCtorEq, Nat.reduceAdd, Nat.reduceSub, Nat.reduceLT]
  refine a_call (place_spec (hk13.row rp) (hk13.row ry) rfl rfl (by omega)) ?_
  rintro e H15 ⟨vl, rfl, hOl, hk15, hFl⟩
  have hsl := hOl.scalar
  simp -implicitDefEqProofs (maxSteps := 1000000) (disch := first | omega | assumption) only [g0, g1, g2, g7, g8, g9, endK, Sx, reduceIte, Nat.reduceEqDiff, reduceCtorEq, Nat.reduceAdd, Nat.reduceSub, Nat.reduceLT]
  refine a_call (rplace_spec (((hk6.trans hk13).trans hk15).row hra) (((hk6.trans hk13).trans hk15).row hrb) rfl rfl (by omega)) ?_
  rintro e H16 ⟨vm, rfl, hOm, hk16, hFm⟩
  have hsm := hOm.scalar
  have hk1316 := hk15.trans hk16
  have hk616 := hk13.trans hk1316
  have hOu' := Own.keep hOu hk1316
  have hOl' := Own.keep hOl hk16
  obtain ⟨au, cu, rfl, hcu, ru⟩ := Ss.len hOu'
  obtain ⟨al, cl, rfl, hcl, rl⟩ := Ss.len hOl'
  obtain ⟨am, cm, rfl, hcm, rm⟩ := Ss.len hOm
  have hu1 : (stripN xs z).1.length ≤ xs.length := by
    unfold stripN
    split
    · simp
    · simp
  have hp1 : (placeN xs ys).1.length ≤ xs.length + ys.length := by
    unfold placeN
    split
    · simp
    · simp
  have q4 : (((stripN xs z).2 == (stripN xs z).2) != true) = false := by simp
  have q5 : ((placeN xs ys).2 != (placeN xs ys).2) = false := by simp
  simp -implicitDefEqProofs (maxSteps := 1000000) (disch := first | omega | assumption) only [g0, g1, g2, g7, g8, g9, endK, ev_eqb, q4, l_g, Sx, reduceIte, Nat.reduceEqDiff, reduceCtorEq, Nat.reduceAdd, Nat.reduceSub, Nat.reduceLT]
  refine a_call (same_spec ru (hk1316.row hrv) rfl rfl (by omega)) ?_
  rintro e H17 ⟨rfl, rfl⟩
  simp -implicitDefEqProofs (maxSteps := 1000000) (disch := first | omega | assumption) only [g0, g1, g2, g7, g8, g9, endK, decide_true, Bool.not_true, q5, l_g, Sx, reduceIte, Nat.reduceEqDiff, reduceCtorEq, Nat.reduceAdd, Nat.reduceSub, Nat.reduceLT]
  refine a_call (same_spec rl rm rfl rfl (by omega)) ?_
  rintro e H18 ⟨rfl, rfl⟩
  simp -implicitDefEqProofs (maxSteps := 1000000) (disch := first | omega | assumption) only [g0, g1, g2, g7, g8, g9, endK, decide_true, Bool.not_true, l_g, Sx, reduceIte, Nat.reduceEqDiff, reduceCtorEq, Nat.reduceAdd, Nat.reduceSub, Nat.reduceLT]
  refine a_call (same_spec (hk616.row rp) ((hk6.trans hk616).row hra) rfl rfl (by omega)) ?_
  rintro e H19 ⟨rfl, rfl⟩
  simp -implicitDefEqProofs (maxSteps := 1000000) (disch := first | omega | assumption) only [g0, g1, g2, g7, g8, g9, endK, decide_true, Bool.not_true, l_g, Sx, reduceIte, Nat.reduceEqDiff, reduceCtorEq, Nat.reduceAdd, Nat.reduceSub, Nat.reduceLT]
  refine a_call (same_spec (hk616.row ry) ((hk6.trans hk616).row hrb) rfl rfl (by omega)) ?_
  rintro e H20 ⟨rfl, rfl⟩
  simp -implicitDefEqProofs (maxSteps := 1000000) (disch := first | omega | assumption) only [g0, g1, g2, g7, g8, g9, endK, decide_true, Bool.not_true, l_g, Sx, reduceIte, Nat.reduceEqDiff, reduceCtorEq, Nat.reduceAdd, Nat.reduceSub, Nat.reduceLT]
  refine lists_131 (c := c) (d := d) (cy := cy) hra hrb hl hk6 hk616 rx rp ry hcx hOu' (by omega) hFu hOl' (fun q hq => hk13.none (hFl q hq)) (fun r hr hr2 => hOu.known hr (hFl r hr2)) (cm := cm) rm ?_ ?_ ?_ ?_ ?_ ?_ ?_ ?_ hq
  · simp -implicitDefEqProofs (maxSteps := 1000000) (disch := first | omega | assumption) only [g0, Sx, reduceIte, Nat.reduceEqDiff, reduceCtorEq, Nat.reduceAdd, Nat.reduceSub, Nat.reduceLT]
  · simp -implicitDefEqProofs (maxSteps := 1000000) (disch := first | omega | assumption) only [g1, Sx, reduceIte, Nat.reduceEqDiff, reduceCtorEq, Nat.reduceAdd, Nat.reduceSub, Nat.reduceLT]
  · simp -implicitDefEqProofs (maxSteps := 1000000) (disch := first | omega | assumption) only [g7, Sx, reduceIte, Nat.reduceEqDiff, reduceCtorEq, Nat.reduceAdd, Nat.reduceSub, Nat.reduceLT]
  · simp -implicitDefEqProofs (maxSteps := 1000000) (disch := first | omega | assumption) only [g8, Sx, reduceIte, Nat.reduceEqDiff, reduceCtorEq, Nat.reduceAdd, Nat.reduceSub, Nat.reduceLT]
  · simp -implicitDefEqProofs (maxSteps := 1000000) (disch := first | omega | assumption) only [g9, Sx, reduceIte, Nat.reduceEqDiff, reduceCtorEq, Nat.reduceAdd, Nat.reduceSub, Nat.reduceLT]
  · simp -implicitDefEqProofs (maxSteps := 1000000) (disch := first | omega | assumption) only [Sx, reduceIte, Nat.reduceEqDiff, reduceCtorEq, Nat.reduceAdd, Nat.reduceSub, Nat.reduceLT]
  · simp -implicitDefEqProofs (maxSteps := 1000000) (disch := first | omega | assumption) only [Sx, reduceIte, Nat.reduceEqDiff, reduceCtorEq, Nat.reduceAdd, Nat.reduceSub, Nat.reduceLT]
  · simp -implicitDefEqProofs (maxSteps := 1000000) (disch := first | omega | assumption) only [Sx, reduceIte, Nat.reduceEqDiff, reduceCtorEq, Nat.reduceAdd, Nat.reduceSub, Nat.reduceLT]
set_option maxHeartbeats 16000000 in
theorem pathLists_walk {H : Heap} {A B : Option Addr} {c d : Nat} {xs ys : List (List UInt8)} {z : Int} (hra : Row H A (strs xs)) (hrb : Row H B (strs ys)) (hca : xs.length ≤ c) (hcb : ys.length ≤ d) (hl : tot xs + tot ys ≤ 1048576) :
    ACalls Try.prog 4 [Value.slice A xs.length c, .slice B ys.length d, .int .i64 z].toArray H fun e H' => e = .returned (.bool true) ∧ Keep H H' := by
  have hl1 := len_tot xs
  have hl2 := len_tot ys
  refine call4 (Nat.le_of_ble_eq_true rfl) ?_
  unfold L4 env0
  simp -implicitDefEqProofs (maxSteps := 1000000) (disch := first | omega | assumption) only [Sx, reduceIte, Nat.reduceEqDiff, reduceCtorEq, Nat.reduceAdd, Nat.reduceSub, Nat.reduceLT]
  -- x and y
  refine lits_nostr ?_
  intro r1 H1 hO1 hk1 hr1
  try simp -implicitDefEqProofs (maxSteps := 1000000) (disch := first | omega | assumption) only [Sx, reduceIte, Nat.reduceEqDiff, reduceCtorEq, Nat.reduceAdd, Nat.reduceSub, Nat.reduceLT]
  refine a_app (len := 0) (m := xs.length) (new := strs xs) hO1 rfl (by rfl) ((hk1.row hra).cells (by simp)) (by simp) rfl (by omega) (strs_scalar _) (by omega) ?_
  intro v2 H2 hO2 ho2 hm2
  have hk2 : Keep H H2 := ho2.keep hk1 (by rintro q ⟨⟩; exact hr1)
  have hf2 : Fresh H v2 := hm2.fresh hk1 (by rintro q ⟨⟩; exact hr1)
  try simp -implicitDefEqProofs (maxSteps := 1000000) (disch := first | omega | assumption) only [Sx, reduceIte, Nat.reduceEqDiff, reduceCtorEq, Nat.reduceAdd, Nat.reduceSub, Nat.reduceLT]
  refine lits_str (x := behind) ?_
  intro r3 H3 hO3 hk3 hr3
  try simp -implicitDefEqProofs (maxSteps := 1000000) (disch := first | omega | assumption) only [Sx, reduceIte, Nat.reduceEqDiff, reduceCtorEq, Nat.reduceAdd, Nat.reduceSub, Nat.reduceLT]
  have hO2' : Ss H2 v2 xs := hO2
  refine app_str (x := behind) (Own.keep hO2' hk3) (by omega) hO3 ?_
  intro v4 H4 hO4 ho4 hm4
  have hk4 : Keep H H4 := ho4.keep (hk2.trans hk3) hf2
  have hf4 : Fresh H v4 := hm4.fresh (hk2.trans hk3) hf2
  try simp -implicitDefEqProofs (maxSteps := 1000000) (disch := first | omega | assumption) only [Sx, reduceIte, Nat.reduceEqDiff, reduceCtorEq, Nat.reduceAdd, Nat.reduceSub, Nat.reduceLT]
  refine lits_nostr ?_
  intro r5 H5 hO5 hk5 hr5
  try simp -implicitDefEqProofs (maxSteps := 1000000) (disch := first | omega | assumption) only [Sx, reduceIte, Nat.reduceEqDiff, reduceCtorEq, Nat.reduceAdd, Nat.reduceSub, Nat.reduceLT]
  refine a_app (len := 0) (m := ys.length) (new := strs ys) hO5 rfl (by rfl) (((hk4.trans hk5).row hrb).cells (by simp)) (by simp) rfl (by omega) (strs_scalar _) (by omega) ?_
  intro vy H6 hOy ho6 hm6
  have hk46 : Keep H4 H6 := ho6.keep hk5 (by rintro q ⟨⟩; exact hr5)
  have hk6 : Keep H H6 := hk4.trans hk46
  have hOx : Ss H6 v4 (xs ++ [behind]) := Own.keep hO4 hk46
  have hOy : Ss H6 vy ys := hOy
  clear hO2'
  clear hO1 hk1 hr1 hO2 ho2 hm2 hk2 hf2 hO3 hk3 hr3 hO4 ho4 hm4 hk4 hO5 hk5 hr5 ho6 hm6 hk46
  obtain ⟨ax, cx, rfl, hcx, rx⟩ := hOx.len
  obtain ⟨ay, cy, rfl, hcy, ry⟩ := hOy.len
  have hxl : (xs ++ [behind]).length = xs.length + 1 := by simp
  have rp : Row H6 ax (strs xs) := by
    have := rx.take xs.length
    rw [strs, ← List.map_take, List.take_left' rfl] at this
    exact this
  have hcut : (0 : Int) ≤ (xs.length : Int) ∧ (xs.length : Int) ≤ (cx : Int) := by omega
  have hsp := own_spot hOx rfl
  have ra6 := hk6.row hra
  have rb6 := hk6.row hrb
  simp -implicitDefEqProofs (maxSteps := 1000000) (disch := first | omega | assumption) only [ev_slc_hi, hcut, Sx, reduceIte, Nat.reduceEqDiff, reduceCtorEq, Nat.reduceAdd, Nat.reduceSub, Nat.reduceLT]
  refine e_gen (fun env => env 0 = .slice A xs.length c ∧ env 1 = .slice B ys.length d ∧ env 2 = .int .i64 z ∧ env 7 = .slice ax (xs ++ [behind]).length cx ∧ env 8 = .slice ay ys.length cy ∧ env 9 = .slice ax xs.length cx) ⟨by simp -implicitDefEqProofs (maxSteps := 1000000) (disch := first | omega | assumption) only [Sx, reduceIte, Nat.reduceEqDiff, reduceCtorEq, Nat.reduceAdd, Nat.reduceSub, Nat.reduceLT], by simp -implicitDefEqProofs (maxSteps := 1000000) (disch := first | omega | assumption) only [Sx, reduceIte, Nat.reduceEqDiff, reduceCtorEq, Nat.reduceAdd, Nat.reduceSub, Nat.reduceLT], by simp -implicitDefEqProofs (maxSteps := 1000000) (disch := first | omega | assumption) only [Sx, reduceIte, Nat.reduceEqDiff, reduceCtorEq, Nat.reduceAdd, Nat.reduceSub, Nat.reduceLT], by simp -implicitDefEqProofs (maxSteps := 1000000) (disch := first | omega | assumption) only [Sx, reduceIte, Nat.reduceEqDiff, reduceCtorEq, Nat.reduceAdd, Nat.reduceSub, Nat.reduceLT], by simp -implicitDefEqProofs (maxSteps := 1000000) (disch := first | omega | assumption) only [Sx, reduceIte, Nat.reduceEqDiff, reduceCtorEq, Nat.reduceAdd, Nat.reduceSub, Nat.reduceLT], by simp -implicitDefEqProofs (maxSteps := 1000000) (disch := first | omega | assumption) only [Sx, reduceIte, Nat.reduceEqDiff, reduceCtorEq, Nat.reduceAdd, Nat.reduceSub, Nat.reduceLT]⟩ ?_
  rintro env ⟨g0, g1, g2, g7, g8, g9⟩
  refine a_call (pjoin_spec rp hsp rfl (by omega) (by omega)) ?_
  rintro e H7 ⟨rfl, rfl⟩
  simp -implicitDefEqProofs (maxSteps := 1000000) (disch := first | omega | assumption) only [g0, g1, g2, g7, g8, g9, endK, Sx, reduceIte, Nat.reduceEqDiff, reduceCtorEq, Nat.reduceAdd, Nat.reduceSub, Nat.reduceLT]
  refine a_call (rjoin_spec ra6 rfl (by omega)) ?_
  rintro e H8 ⟨rfl, rfl⟩
  have q1 : ((joinN xs).2 != (joinN xs).2) = false := by simp
  simp -implicitDefEqProofs (maxSteps := 1000000) (disch := first | omega | assumption) only [g0, g1, g2, g7, g8, g9, endK, t_eq, decide_true, Bool.not_true, q1, l_g, Sx, reduceIte, Nat.reduceEqDiff, reduceCtorEq, Nat.reduceAdd, Nat.reduceSub, Nat.reduceLT]
  refine a_call (pcompare_spec rp ry rfl rfl (by omega) (by omega)) ?_
  rintro e H9 ⟨rfl, rfl⟩
  simp -implicitDefEqProofs (maxSteps := 1000000) (disch := first | omega | assumption) only [g0, g1, g2, g7, g8, g9, endK, l_g, Sx, reduceIte, Nat.reduceEqDiff, reduceCtorEq, Nat.reduceAdd, Nat.reduceSub, Nat.reduceLT]
  refine a_call (rcompare_spec ra6 rb6 rfl rfl (by omega) (by omega)) ?_
  rintro e H10 ⟨rfl, rfl⟩
  have q2 : (cmpL xs ys != cmpL xs ys) = false := by simp
  simp -implicitDefEqProofs (maxSteps := 1000000) (disch := first | omega | assumption) only [g0, g1, g2, g7, g8, g9, endK, q2, l_g, Sx, reduceIte, Nat.reduceEqDiff, reduceCtorEq, Nat.reduceAdd, Nat.reduceSub, Nat.reduceLT]
  refine a_call (under_spec rp ry rfl rfl (by omega) (by omega)) ?_
  rintro e H11 ⟨rfl, rfl⟩
  simp -implicitDefEqProofs (maxSteps := 1000000) (disch := first | omega | assumption) only [g0, g1, g2, g7, g8, g9, endK, l_g, Sx, reduceIte, Nat.reduceEqDiff, reduceCtorEq, Nat.reduceAdd, Nat.reduceSub, Nat.reduceLT]
  refine a_call (runder_spec ra6 rb6 rfl rfl (by omega)) ?_
  rintro e H12 ⟨rfl, rfl⟩
  have q3 : ((underN xs ys == underN xs ys) != true) = false := by simp
  simp -implicitDefEqProofs (maxSteps := 1000000) (disch := first | omega | assumption) only [g0, g1, g2, g7, g8, g9, endK, ev_eqb, q3, l_g, Sx, reduceIte, Nat.reduceEqDiff, reduceCtorEq, Nat.reduceAdd, Nat.reduceSub, Nat.reduceLT]
  refine lists_76 (c := c) (d := d) (cy := cy) hra hrb hca hl hk6 rx rp ry hcx (z := z) ?_ ?_ ?_ ?_ ?_ ?_ ?_
  · simp -implicitDefEqProofs (maxSteps := 1000000) (disch := first | omega | assumption) only [g0, Sx, reduceIte, Nat.reduceEqDiff, reduceCtorEq, Nat.reduceAdd, Nat.reduceSub, Nat.reduceLT]
  · simp -implicitDefEqProofs (maxSteps := 1000000) (disch := first | omega | assumption) only [g1, Sx, reduceIte, Nat.reduceEqDiff, reduceCtorEq, Nat.reduceAdd, Nat.reduceSub, Nat.reduceLT]
  · simp -implicitDefEqProofs (maxSteps := 1000000) (disch := first | omega | assumption) only [g2, Sx, reduceIte, Nat.reduceEqDiff, reduceCtorEq, Nat.reduceAdd, Nat.reduceSub, Nat.reduceLT]
  · simp -implicitDefEqProofs (maxSteps := 1000000) (disch := first | omega | assumption) only [g7, Sx, reduceIte, Nat.reduceEqDiff, reduceCtorEq, Nat.reduceAdd, Nat.reduceSub, Nat.reduceLT]
  · simp -implicitDefEqProofs (maxSteps := 1000000) (disch := first | omega | assumption) only [g8, Sx, reduceIte, Nat.reduceEqDiff, reduceCtorEq, Nat.reduceAdd, Nat.reduceSub, Nat.reduceLT]
  · simp -implicitDefEqProofs (maxSteps := 1000000) (disch := first | omega | assumption) only [g9, Sx, reduceIte, Nat.reduceEqDiff, reduceCtorEq, Nat.reduceAdd, Nat.reduceSub, Nat.reduceLT]
  · intro env' H' h6 hk'
    simp -implicitDefEqProofs (maxSteps := 1000000) (disch := first | omega | assumption) only [h6, Sx, reduceIte, Nat.reduceEqDiff, reduceCtorEq, Nat.reduceAdd, Nat.reduceSub, Nat.reduceLT]
    exact ⟨by trivial, hk'⟩
theorem tot_of (xs : List ByteArray) : tot (xs.map fun s => s.data.toList) = (xs.map fun s => s.size + 1).sum := by
  induction xs with
  | nil => rfl
  | cons x l ih => simp only [tot, List.map_cons, List.sum_cons] at ih ⊢; rw [ih]; rfl
theorem strs_of (xs : List ByteArray) : xs.map Value.string = strs (xs.map fun s => s.data.toList) := by
  rw [strs, List.map_map]
  apply List.map_congr_left
  intro s _
  simp
theorem pathLists_row {H : Heap} (A : Option Addr) (c : Nat) (xs : List ByteArray) (cl : List (List Value)) (he : Els Ty.string H A xs cl) (hc : xs.length ≤ c) (wf : (∀ x ∈ xs, x.size ≤ maxLen) ∧ xs.length ≤ maxLen)
    (B : Option Addr) (d : Nat) (ys : List ByteArray) (dl : List (List Value)) (hf : Els Ty.string H B ys dl) (hd : ys.length ≤ d) (wg : (∀ x ∈ ys, x.size ≤ maxLen) ∧ ys.length ≤ maxLen) (z : Int) (wz : (Lit.int .i64 z).wf = true)
    (hb : (xs.map fun s => s.size + 1).sum + 1 + ((ys.map fun s => s.size + 1).sum + 1 + 1) ≤ 1048576) :
    ACalls Try.prog 4 [Value.slice A xs.length c, .slice B ys.length d, .int .i64 z].toArray H fun e H' => e = .returned (.bool true) ∧ Keep H H' := by
  have hr := he.strings
  rw [strs_of] at hr
  have hs := hf.strings
  rw [strs_of] at hs
  have h1 := tot_of xs
  have h2 := tot_of ys
  have := pathLists_walk (c := c) (d := d) (z := z) hr hs (by rw [List.length_map]; exact hc) (by rw [List.length_map]; exact hd) (by omega)
  rw [List.length_map, List.length_map] at this
  exact this
end Go.Proofs.Ytdlmomjcolbkgaa.S09
