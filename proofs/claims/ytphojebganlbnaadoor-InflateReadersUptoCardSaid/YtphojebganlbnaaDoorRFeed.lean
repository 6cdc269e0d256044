/-
  A reader of a stream in pieces, the program's: what it took.
-/
import Derived.Test.YtphojebganlbnaaDoorFeedP
set_option linter.unusedVariables false
set_option linter.unusedSimpArgs false
namespace Go.Proofs.YtphojebganlbnaaDoor.S06
open Go Go.RowKit Go.Proofs.YtphojebganlbnaaDoor.Sep Go.Proofs.YtphojebganlbnaaDoor.Low Go.Proofs.YtphojebganlbnaaDoor.S05 Go.Proofs.YtphojebganlbnaaDoor.CodeLaw Go.Proofs.YtphojebganlbnaaDoor.Pack Go.Proofs.YtphojebganlbnaaDoor.BitLaw
open Go.Proofs.YtphojebganlbnaaDoor.Lib hiding by8 by8_scalar

/-- a reader that took the bytes x -/
def RT (H : Heap) (r mo : Nat) (x : List Int) (v : Value) : Prop := ∃ size done why, RSt H r mo x v x size done why
theorem RT.rs {H : Heap} {r mo : Nat} {x : List Int} {v : Value} (h : RT H r mo x v) : RS H r mo x v := by
  obtain ⟨a, b, c, d⟩ := h
  exact ⟨x, a, b, c, d⟩
theorem RT.only {S : Nat → Prop} {H H' : Heap} {r mo : Nat} {x : List Int} {v : Value} (h : RT H r mo x v) (ho : Only S H H') (h1 : ¬ S r) (h2 : ∀ s, own v = some s → ¬ S s) : RT H' r mo x v := by
  obtain ⟨size, done, why, a, b, c, d, e, ol⟩ := h
  exact ⟨size, done, why, ho.oth _ _ a h1, b.only ho h2, c, d, e, ol⟩
theorem RT.keep {H H' : Heap} {r mo : Nat} {x : List Int} {v : Value} (h : RT H r mo x v) (hk : Keep H H') : RT H' r mo x v := by
  obtain ⟨size, done, why, a, b, c, d, e, ol⟩ := h
  exact ⟨size, done, why, hk _ _ a, b.keep hk, c, d, e, ol⟩
theorem RT.new {H : Heap} {r mo : Nat} {v : Value} (h : RS H r mo [] v) : RT H r mo [] v := by
  obtain ⟨y, size, done, why, a, b, c, d, e, ol⟩ := h
  have hy : y = [] := by
    unfold StIs at e
    rw [infl_nil] at e
    rcases e with e | e
    · exact e.2.2.2
    · exact absurd rfl e.1
  subst hy
  exact ⟨size, done, why, a, b, c, d, e, ol⟩
def szV (x : List Int) (R : Res Unit) : Nat := match R with
  | .ok _ t _ => (t + 7) / 8
  | .bad _ _ => x.length
set_option maxHeartbeats 1000000 in
theorem sizeT_spec {H : Heap} {r mo : Nat} {x : List Int} {v : Value} (h : RT H r mo x v) : ACalls Tryd.prog 22 [Value.pointer (some ⟨r, 0, none⟩)].toArray H fun e H' => e = .returned (.int .i64 (szV x (infl x mo) : Nat)) ∧ H' = H := by
  obtain ⟨size, done, why, a, b, c, d, e, ol⟩ := h
  refine call22 (Nat.le_of_ble_eq_true rfl) ?_
  unfold L22 env0
  unfold StIs at e
  obtain ⟨yA, yc, rfl, -, -⟩ := Bo.row b
  cases hR : infl x mo with
  | ok u t o =>
    rw [hR] at e
    obtain ⟨rfl, rfl, rfl, -⟩ := e
    simp -implicitDefEqProofs (maxSteps := 1000000) (disch := first | omega | assumption) only [cell_of a, ev_nilc, Sx, reduceIte, Nat.reduceEqDiff, reduceCtorEq, Nat.reduceAdd, Nat.reduceSub, Nat.reduceLT, Zx, endK]
    exact ⟨by (first | exact True.intro | rfl | assumption), by (first | exact True.intro | rfl | assumption)⟩
  | bad er o =>
    rw [hR] at e
    have hd : done = false := by rcases e with e | e; exact e.2.2.1; exact e.2.2.2
    subst hd
    simp -implicitDefEqProofs (maxSteps := 1000000) (disch := first | omega | assumption) only [cell_of a, ev_nilc, Sx, reduceIte, Nat.reduceEqDiff, reduceCtorEq, Nat.reduceAdd, Nat.reduceSub, Nat.reduceLT, Zx, endK]
    exact ⟨by (first | exact True.intro | rfl | assumption), by (first | exact True.intro | rfl | assumption)⟩
set_option maxHeartbeats 1000000 in
theorem feedT_dead {H : Heap} {r mo n c : Nat} {x : List Int} {v : Value} {A : Option Addr} (h : RT H r mo x v) (hdead : errOf (infl x mo) ≠ 0) :
    ACalls Tryd.prog 26 [Value.pointer (some ⟨r, 0, none⟩), .slice A n c].toArray H fun e H' => e = .returned (.tuple #[.slice none 0 0, .int .i64 (errOf (infl x mo))]) ∧ H' = H := by
  obtain ⟨size, done, why, a, b, hx, hmo, hst, hol⟩ := h
  refine call26 (Nat.le_of_ble_eq_true rfl) ?_
  unfold L26 env0
  have hwhy : why = errOf (infl x mo) := by
    unfold StIs at hst
    unfold errOf at hdead ⊢
    cases hR : infl x mo with
    | ok u t o => rw [hR] at hdead; exact absurd rfl hdead
    | bad e o =>
      rw [hR] at hst hdead
      rcases hst with h | h
      · simp only [if_pos h.1] at hdead
        exact absurd rfl hdead
      · simp only [if_neg h.1]
        exact h.2.2.1
  rw [← hwhy] at hdead ⊢
  have f0 : (why != 0) = true := bne_iff_ne.2 hdead
  simp -implicitDefEqProofs (maxSteps := 1000000) (disch := first | omega | assumption) only [cell_of a, ev_nilc, f0, Sx, reduceIte, Nat.reduceEqDiff, reduceCtorEq, Nat.reduceAdd, Nat.reduceSub, Nat.reduceLT, Zx, endK]
  exact ⟨by (first | exact True.intro | rfl | assumption), by (first | exact True.intro | rfl | assumption)⟩
set_option maxHeartbeats 8000000 in
set_option maxRecDepth 4000 in
theorem feedT_spec {H : Heap} {r mo n c : Nat} {x z : List Int} {v : Value} {A : Option Addr} (hTab : ∀ H', Only (fun s => s = r ∨ own v = some s) H H' → TabO H') (h : RT H r mo x v) (hlive : errOf (infl x mo) = 0) (hr : Row H A (by8 z)) (hn : n = z.length) (hz : isBy z) (hl : x.length + z.length ≤ 211106232532992) :
    ACalls Tryd.prog 26 [Value.pointer (some ⟨r, 0, none⟩), .slice A n c].toArray H fun e H' => ∃ pv v', e = .returned (.tuple #[pv, .int .i64 (errOf (infl (x ++ z) mo))]) ∧ Bo H' pv ((infl (x ++ z) mo).out.drop (infl x mo).out.length) ∧ Fresh H pv ∧ RT H' r mo (x ++ z) v' ∧ Only (fun s => s = r ∨ own v = some s) H H' ∧ Moved H v v' ∧ (∀ s, own pv = some s → own v' ≠ some s) := by
  subst hn
  obtain ⟨size, done, why, a, b, hx, hmo, hst, hol⟩ := h
  refine call26 (Nat.le_of_ble_eq_true rfl) ?_
  unfold L26 env0
  have hxz := isBy_app hx hz
  obtain ⟨T0, hT0⟩ : ∃ T0, T0 = (infl x mo).out.length := ⟨_, rfl⟩
  rw [← hT0] at a
  have n00 : ((0 : Int) != 0) = false := rfl
  have hwhy : why = 0 := by
    unfold StIs at hst
    unfold errOf at hlive
    cases hR : infl x mo with
    | ok u t o => rw [hR] at hst; exact hst.1
    | bad e o =>
      rw [hR] at hst hlive
      rcases hst with h | h
      · exact h.2.1
      · simp only [if_neg h.1] at hlive
        exact absurd hlive h.2.1
  subst hwhy
  obtain ⟨y, hyd⟩ : ∃ y, y = x := ⟨_, rfl⟩
  subst hyd
  have hsv := b.scalar
  simp -implicitDefEqProofs (maxSteps := 1000000) (disch := first | omega | assumption) only [cell_of a, ev_nilc, n00, Sx, reduceIte, Nat.reduceEqDiff, reduceCtorEq, Nat.reduceAdd, Nat.reduceSub, Nat.reduceLT, Zx, endK]
  refine app_b b rfl rfl hr (by omega) ?_
  intro v1 H1 hO1 ho1 hm1
  have hs1 := hO1.scalar
  have a1 : H1 r = some (.cells (rc mo T0 size v done 0).toArray 63 (0, 0)) := ho1.oth _ _ a fun e => b.elem a (by decide) e
  try simp -implicitDefEqProofs (maxSteps := 1000000) (disch := first | omega | assumption) only [ev_nilc, Sx, reduceIte, Nat.reduceEqDiff, reduceCtorEq, Nat.reduceAdd, Nat.reduceSub, Nat.reduceLT, Zx, endK]
  refine st_one (o := 3) a1 (by simp) hs1 ?_
  obtain ⟨H2, hH2⟩ : ∃ H2, H2 = H1.set r (.cells (rc mo T0 size v1 done 0).toArray 63 (0, 0)) := ⟨_, rfl⟩
  have a2 : H2 r = some (.cells (rc mo T0 size v1 done 0).toArray 63 (0, 0)) := by rw [hH2]; exact set_same
  have ho2 : Only (fun s => s = r ∨ own v = some s) H H2 := by rw [hH2]; exact (ho1.mono fun s hs => .inl (.inr hs)).set (.inl (.inl rfl))
  have hO2 : Bo H2 v1 (y ++ z) := by
    rw [hH2]
    exact hO1.only ((Only.refl (· = r) _).set (.inl rfl)) fun s hs e => hO1.elem a1 (by decide) (e ▸ hs)
  try simp -implicitDefEqProofs (maxSteps := 1000000) (disch := first | omega | assumption) only [rc, Sx, reduceIte, Nat.reduceEqDiff, reduceCtorEq, Nat.reduceAdd, Nat.reduceSub, Nat.reduceLT, Zx, endK]
  rw [show H1.set r (.cells #[.int .i64 (mo : Nat), .int .i64 (T0 : Nat), .int .i64 (size : Nat), v1, .bool done, .int .i64 0] 63 (0, 0)) = H2 from hH2.symm]
  clear hH2
  cases hdone : done with
  | true =>
    subst hdone
    obtain ⟨u, t, o, hR, hsz⟩ : ∃ u t o, infl y mo = .ok u t o ∧ size = (t + 7) / 8 := by
      unfold StIs at hst
      cases hR : infl y mo with
      | ok u t o => rw [hR] at hst; exact ⟨u, t, o, rfl, hst.2.2.1⟩
      | bad e o =>
        rw [hR] at hst
        rcases hst with h | h
        · cases h.2.2.1
        · cases h.2.2.2
    have hR2 := ok_more (z := z) hR
    simp -implicitDefEqProofs (maxSteps := 1000000) (disch := first | omega | assumption) only [cell_of a2, ev_nilc, Sx, reduceIte, Nat.reduceEqDiff, reduceCtorEq, Nat.reduceAdd, Nat.reduceSub, Nat.reduceLT, Zx, endK]
    refine ⟨.slice none 0 0, v1, by rw [hR2]; rfl, ?_, (fun q hq => by cases hq), ⟨size, true, 0, ?_, hO2, hxz, hmo, ?_, by rw [hR2]; rw [hR] at hol; exact hol⟩, ho2, hm1, fun s hs => by cases hs⟩
    · rw [hR2, hR]
      show Bo H2 _ (o.drop o.length)
      rw [List.drop_length]
      exact .nil
    · rw [a2, hR2, hT0, hR]
    · rw [hR2]
      exact ⟨rfl, rfl, hsz, rfl⟩
  | false =>
    subst hdone
    obtain ⟨o, hR⟩ : ∃ o, infl y mo = .bad 4 o := by
      unfold StIs at hst
      cases hR : infl y mo with
      | ok u t o => rw [hR] at hst; cases hst.2.1
      | bad e o =>
        rw [hR] at hst
        rcases hst with h | h
        · exact ⟨o, by rw [h.1]⟩
        · exact absurd h.2.2.1.symm h.2.1
    obtain ⟨A1, c1, rfl, hc1, w1⟩ := Bo.row hO2
    simp -implicitDefEqProofs (maxSteps := 1000000) (disch := first | omega | assumption) only [cell_of a2, ev_nilc, Sx, reduceIte, Nat.reduceEqDiff, reduceCtorEq, Nat.reduceAdd, Nat.reduceSub, Nat.reduceLT, Zx, endK]
    refine a_call (read_spec (hTab _ ho2) w1 rfl hxz (by rw [List.length_append]; omega) hmo) ?_
    rintro e H3 ⟨pv, zz, er, rfl, hP, hPb, hPl, k3, f3, hRR⟩
    obtain ⟨PL, hPLd⟩ : ∃ PL, PL = (infl (y ++ z) mo).out := ⟨_, rfl⟩
    rw [← hPLd] at hP hPb hPl
    have hpre := infl_pre (bs := y) (ex := z) (mo := mo)
    have hT0L : T0 ≤ PL.length := by rw [hT0, hPLd]; exact hpre.length_le
    obtain ⟨A3, c3, rfl, hc3, w3⟩ := Bo.row hP
    have a3 : H3 r = some (.cells (rc mo T0 size (.slice A1 (y ++ z).length c1) false 0).toArray 63 (0, 0)) := k3 _ _ a2
    have hin : (0 : Int) ≤ (T0 : Int) ∧ (T0 : Int) ≤ (PL.length : Nat) := by omega
    simp -implicitDefEqProofs (maxSteps := 1000000) (disch := first | omega | assumption) only [cell_of a3, ev_nilc, ev_slc_lo, Sx, reduceIte, Nat.reduceEqDiff, reduceCtorEq, Nat.reduceAdd, Nat.reduceSub, Nat.reduceLT, Zx, endK]
    refine a_call (clone_spec (row_drop (k := T0) w3 hc3) (by simp) (by8_scalar _) (by omega)) ?_
    rintro e H4 ⟨w, rfl, hW, k4, f4⟩
    have hsw := hW.scalar
    have a4 : H4 r = some (.cells (rc mo T0 size (.slice A1 (y ++ z).length c1) false 0).toArray 63 (0, 0)) := k4 _ _ a3
    have k24 := k3.trans k4
    simp -implicitDefEqProofs (maxSteps := 1000000) (disch := first | omega | assumption) only [ev_nilc, Sx, reduceIte, Nat.reduceEqDiff, reduceCtorEq, Nat.reduceAdd, Nat.reduceSub, Nat.reduceLT, Zx, endK]
    refine st_one (o := 1) a4 (by simp) rfl ?_
    have fin : ∀ (H5 : Heap) (told size' : Nat) (done' : Bool) (why' : Int), H5 = H4.set r (.cells (rc mo PL.length size' (.slice A1 (y ++ z).length c1) done' why').toArray 63 (0, 0)) → StIs (infl (y ++ z) mo) (y ++ z) (y ++ z) size' done' why' →
        Bo H5 w (PL.drop T0) ∧ Fresh H w ∧ RT H5 r mo (y ++ z) (.slice A1 (y ++ z).length c1) ∧ Only (fun s => s = r ∨ own v = some s) H H5 ∧ (∀ s, own w = some s → own (.slice A1 (y ++ z).length c1) ≠ some s) := by
      rintro H5 told size' done' why' rfl hS
      have hor : Only (· = r) H4 (H4.set r (.cells (rc mo PL.length size' (.slice A1 (y ++ z).length c1) done' why').toArray 63 (0, 0))) := (Only.refl _ _).set (.inl rfl)
      have hO4 : Bo H4 (.slice A1 (y ++ z).length c1) (y ++ z) := hO2.keep k24
      refine ⟨?_, fun s hs => ho2.none (k3.none (f4 s hs)), ⟨size', done', why', by rw [set_same, hPLd], hO4.only hor (fun s hs e => hO4.elem a4 (by decide) (e ▸ hs)), hxz, hmo, hS, by rw [← hPLd]; exact hPl⟩, ?_, fun s hs e => hO4.known e (by have := f4 s hs; exact absurd (hO2.keep k3 |>.known e) (by rw [this]; simp))⟩
      · exact (show Bo H4 w (PL.drop T0) from hW).only hor fun s hs e => hW.elem a4 (by decide) (e ▸ hs)
      · exact (ho2.trans (Only.of_keep (S := fun _ => False) k24) fun s hs => hs.elim).trans hor fun s hs => .inl (.inl hs)
    cases hQ : infl (y ++ z) mo with
    | ok u t o2 =>
      rw [hQ] at hRR
      obtain ⟨rfl, rfl⟩ := hRR
      have q0 : ((0 : Int) == 0) = true := rfl
      try simp -implicitDefEqProofs (maxSteps := 1000000) (disch := first | omega | assumption) only [ev_nilc, q0, Sx, reduceIte, Nat.reduceEqDiff, reduceCtorEq, Nat.reduceAdd, Nat.reduceSub, Nat.reduceLT, Zx, endK]
      refine st_one (o := 4) set_same (by simp) rfl ?_
      rw [set_set]
      try simp -implicitDefEqProofs (maxSteps := 1000000) (disch := first | omega | assumption) only [ev_nilc, Sx, reduceIte, Nat.reduceEqDiff, reduceCtorEq, Nat.reduceAdd, Nat.reduceSub, Nat.reduceLT, Zx, endK]
      refine st_one (o := 2) set_same (by simp) rfl ?_
      rw [set_set]
      unfold L26_0
      try simp -implicitDefEqProofs (maxSteps := 1000000) (disch := first | omega | assumption) only [Sx, reduceIte, Nat.reduceEqDiff, reduceCtorEq, Nat.reduceAdd, Nat.reduceSub, Nat.reduceLT, Zx, endK]
      obtain ⟨g1, g2, g3, g4, g5⟩ := fin _ PL.length ((t + 7) / 8) true 0 rfl (by rw [hQ]; exact ⟨rfl, rfl, rfl, rfl⟩)
      rw [hQ] at hPLd
      exact ⟨w, _, by (first | exact True.intro | rfl | assumption), by rw [← hT0, ← hPLd]; exact g1, g2, g3, g4, hm1, g5⟩
    | bad e2 o2 =>
      rw [hQ] at hRR
      simp only at hRR
      subst hRR
      have hne : er ≠ 0 := by
        rintro rfl
        exact infl_nz (bs := y ++ z) (mo := mo) (o := o2) (by rw [List.length_append]; omega) hQ
      have q0 : (er == 0) = false := beq_eq_false_iff_ne.2 hne
      by_cases h4 : er = 4
      · have q4 : (er == 4) = true := beq_iff_eq.2 h4
        try simp -implicitDefEqProofs (maxSteps := 1000000) (disch := first | omega | assumption) only [ev_nilc, q0, q4, Sx, reduceIte, Nat.reduceEqDiff, reduceCtorEq, Nat.reduceAdd, Nat.reduceSub, Nat.reduceLT, Zx, endK]
        obtain ⟨g1, g2, g3, g4, g5⟩ := fin _ PL.length size false 0 rfl (by rw [hQ]; exact .inl ⟨h4, rfl, rfl, rfl⟩)
        rw [hQ] at hPLd
        refine ⟨w, _, ?_, by rw [← hT0, ← hPLd]; exact g1, g2, g3, g4, hm1, g5⟩
        show _ = Ending.returned (.tuple #[_, .int .i64 (if er = 4 then 0 else er)])
        rw [if_pos h4]
      · have q4 : (er == 4) = false := beq_eq_false_iff_ne.2 h4
        try simp -implicitDefEqProofs (maxSteps := 1000000) (disch := first | omega | assumption) only [ev_nilc, q0, q4, Sx, reduceIte, Nat.reduceEqDiff, reduceCtorEq, Nat.reduceAdd, Nat.reduceSub, Nat.reduceLT, Zx, endK]
        refine st_one (o := 5) set_same (by simp) rfl ?_
        rw [set_set]
        unfold L26_0
        try simp -implicitDefEqProofs (maxSteps := 1000000) (disch := first | omega | assumption) only [Sx, reduceIte, Nat.reduceEqDiff, reduceCtorEq, Nat.reduceAdd, Nat.reduceSub, Nat.reduceLT, Zx, endK]
        obtain ⟨g1, g2, g3, g4, g5⟩ := fin _ PL.length size false er rfl (by rw [hQ]; exact .inr ⟨h4, hne, rfl, rfl⟩)
        rw [hQ] at hPLd
        refine ⟨w, _, ?_, by rw [← hT0, ← hPLd]; exact g1, g2, g3, g4, hm1, g5⟩
        show _ = Ending.returned (.tuple #[_, .int .i64 (if er = 4 then 0 else er)])
        rw [if_neg h4]
end Go.Proofs.YtphojebganlbnaaDoor.S06
