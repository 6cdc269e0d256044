/-
  NewCode, whole.
-/
import Derived.Test.YtgbhdpeibiglfaaDoorSNew
set_option linter.unusedVariables false
set_option linter.unusedSimpArgs false
namespace Go.Proofs.YtgbhdpeibiglfaaDoor.S05
open Go Go.RowKit Go.Proofs.YtgbhdpeibiglfaaDoor.Sep Go.Proofs.YtgbhdpeibiglfaaDoor.Low Go.Proofs.YtgbhdpeibiglfaaDoor.CodeLaw
open Go.Proofs.YtgbhdpeibiglfaaDoor.Lib (by64 by64_scalar encs encs_len)

theorem fst_le {l : List Int} (hc : isCode l = true) {n : Nat} (h1 : 1 ≤ n) (h2 : n ≤ 15) : fst l n + cnt l n ≤ 32768 := by
  have hkr : kraft l ≤ 32768 := by
    unfold isCode at hc
    simp only [Bool.and_eq_true, decide_eq_true_eq] at hc
    exact hc.2.2
  have := fits l hkr h1 h2
  have h3 : 2 ^ n ≤ 2 ^ 15 := Nat.pow_le_pow_right (by omega) h2
  omega
set_option maxHeartbeats 4000000 in
/-- a length is gone through -/
theorem len_round {H0 H : Heap} {a : Option Addr} {c p n word lo : Nat} {l fs : List Int} {wv ov : Value} {env : Env} {Q : Post} {QP : List PanicEntry → Heap → Prop} (hr : Row H0 a (by64 l)) (hl : l.length ≤ 320) (hc : isCode l = true) (hn1 : 1 ≤ n) (hn : n ≤ 15)
    (hfs : fs.length = 16) (hw : 2 * word = fst l n) (hS : NS H0 a c l p wv ov fs n 0 word lo env H)
    (hk : ∀ env' H' ov' lo' word', NS H0 a c l p wv ov' (fs.set n (fst l n : Nat)) (n + 1) 0 word' lo' env' H' → 2 * word' = fst l (n + 1) → Q .normal env' H') :
    awpC Tryd.prog L73_4 Q QP env H := by
  obtain ⟨h0, h4, h8, h9, hB, hW, hO, hK, hFp, hFw, hFo, hne, hL⟩ := hS
  have f0 : decide ((n : Int) ≤ 15) = true := decide_eq_true (by omega)
  have hfl := fst_le hc hn1 hn
  have e1 : (word : Int) * 2 = ((fst l n : Nat) : Int) := by omega
  have hnp : own wv ≠ some p := hW.elem hB (by decide)
  have hop : own ov ≠ some p := hO.elem hB (by decide)
  unfold L73_4
  simp -implicitDefEqProofs (maxSteps := 1000000) (disch := first | omega | assumption) only [h4, h8, h9, f0, e1, Sx, Nat.reduceEqDiff]
  refine st_one hB (by rw [cc_size (cnts_len _) hfs]; omega) (by rfl) ?_
  rw [cc_set_fst (cnts_len _) hfs (by omega)]
  try simp -implicitDefEqProofs (maxSteps := 1000000) (disch := first | omega | assumption) only [h0, Sx, Nat.reduceEqDiff, reduceCtorEq]
  refine c_loop (fun k env H' => ∃ i ov lo, k + i = l.length ∧ env 78 = .slice a l.length c ∧ env 79 = .int .i64 l.length ∧ env 80 = .int .i64 i ∧ NS H0 a c l p wv ov (fs.set n (fst l n : Nat)) n i (fst l n + rank l i n) lo env H') l.length ⟨0, ov, lo, by omega, by simp -implicitDefEqProofs (maxSteps := 1000000) (disch := first | omega | assumption) only [Sx, Nat.reduceEqDiff], by simp -implicitDefEqProofs (maxSteps := 1000000) (disch := first | omega | assumption) only [Sx, Nat.reduceEqDiff], by simp -implicitDefEqProofs (maxSteps := 1000000) (disch := first | omega | assumption) only [Sx, Nat.reduceEqDiff]; rfl, ⟨by simp -implicitDefEqProofs (maxSteps := 1000000) (disch := first | omega | assumption) only [h0, Sx, reduceCtorEq], by simp -implicitDefEqProofs (maxSteps := 1000000) (disch := first | omega | assumption) only [h4, Sx, Nat.reduceEqDiff], by simp -implicitDefEqProofs (maxSteps := 1000000) (disch := first | omega | assumption) only [Sx, Nat.reduceEqDiff]; rfl, by simp -implicitDefEqProofs (maxSteps := 1000000) (disch := first | omega | assumption) only [h9, Sx, Nat.reduceEqDiff], set_same, ?_, ?_, hK.set_fresh hFp, hFp, hFw, hFo, hne, hL⟩⟩ ?_
  · exact hW.only (S := (· = p)) ((Only.refl _ _).set (.inl rfl)) fun q hq e => hnp (e ▸ hq)
  · exact hO.only (S := (· = p)) ((Only.refl _ _).set (.inl rfl)) fun q hq e => hop (e ▸ hq)
  rintro k env H1 ⟨i, ov, lo, hki, h78, h79, h80, hS⟩
  by_cases hi : i < l.length
  · refine sym_round hr hl hi hc hn1 hn (by simpa using hfs) rfl hS h78 h79 h80 ?_
    intro env' H' ov' lo' g78 g79 g80 hS'
    exact ⟨k - 1, by omega, i + 1, ov', lo', by omega, g78, g79, g80, hS'⟩
  · have : i = l.length := by omega
    subst this
    obtain ⟨h0, h4, h8, h9, hB, hW, hO, hK, hFp, hFw, hFo, hne, hL⟩ := hS
    have f0 : decide ((l.length : Int) < (l.length : Int)) = false := decide_eq_false (by omega)
    unfold L73_2
    simp -implicitDefEqProofs (maxSteps := 1000000) (disch := first | omega | assumption) only [h79, h80, f0, Sx, Nat.reduceEqDiff]
    unfold L73_3
    simp -implicitDefEqProofs (maxSteps := 1000000) (disch := first | omega | assumption) only [h9, Sx, Nat.reduceEqDiff]
    refine hk _ _ ov lo (fst l n + cnt l n) ⟨by simp -implicitDefEqProofs (maxSteps := 1000000) (disch := first | omega | assumption) only [h0, Sx, reduceCtorEq], by simp -implicitDefEqProofs (maxSteps := 1000000) (disch := first | omega | assumption) only [h4, Sx, Nat.reduceEqDiff], ?_, by simp -implicitDefEqProofs (maxSteps := 1000000) (disch := first | omega | assumption) only [Int.natCast_add, Int.natCast_one, Sx, Nat.reduceEqDiff], hB, ?_, ?_, hK, hFp, hFw, hFo, hne, hL.next⟩ (fst_succ l hn1).symm
    · simp -implicitDefEqProofs (maxSteps := 1000000) (disch := first | omega | assumption) only [h8, Sx, Nat.reduceEqDiff]
      rw [rank_all]
    · rw [← WL_next]; exact hW
    · rw [← OL_next l hn1]; exact hO
/-- a Code in memory -/
structure CAt (H : Heap) (p : Nat) (l : List Int) (wv ov : Value) (fs : List Int) (lo : Nat) : Prop where
  B : CB H p wv ov (cnts l) fs (isWhole l) lo
  W : Own H 122 2 wv (encs wd (WL l 16 0))
  O : Own H 3 1 ov (by64 ((OL l 16 0).map fun j : Nat => (j : Int)))
  fl : fs.length = 16
  ff : ∀ m, 1 ≤ m → m ≤ 15 → fs.getD m 0 = ((fst l m : Nat) : Int)
  L : Lo l 16 0 lo
theorem fs_set {fs : List Int} {l : List Int} {n : Nat} (hl : fs.length = 16) (hn : n ≤ 15) (h : ∀ m, 1 ≤ m → m < n → fs.getD m 0 = ((fst l m : Nat) : Int)) : ∀ m, 1 ≤ m → m < n + 1 → (fs.set n ((fst l n : Nat) : Int)).getD m 0 = ((fst l m : Nat) : Int) := by
  intro m h1 h2
  rw [List.getD_eq_getElem?_getD, List.getElem?_set]
  by_cases e : n = m
  · subst e
    rw [if_pos rfl, if_pos (by omega)]
    rfl
  · rw [if_neg e, ← List.getD_eq_getElem?_getD]
    exact h m h1 (by omega)
theorem isCode_bad {l : List Int} (h : okLens l = false) : isCode l = false := by unfold isCode; rw [h]; rfl
def NewOk (H : Heap) (l : List Int) (e : Ending) (H' : Heap) : Prop := Keep H H' ∧ (isCode l = true → ∃ p wv ov fs lo, e = .returned (.tuple #[.pointer (some ⟨p, 0, none⟩), .int .i64 0]) ∧ CAt H' p l wv ov fs lo ∧ H p = none ∧ Fresh H wv ∧ Fresh H ov ∧ own wv ≠ some p ∧ own ov ≠ some p ∧ ∀ r, own wv = some r → own ov ≠ some r) ∧ (isCode l = false → e = .returned (.tuple #[.pointer none, .int .i64 51]))
theorem NewOk.bad {H H' : Heap} {l : List Int} (h : isCode l = false) (hk : Keep H H') : NewOk H l (.returned (.tuple #[.pointer none, .int .i64 51])) H' := ⟨hk, (fun h2 => by rw [h] at h2; cases h2), (fun _ => rfl)⟩
set_option maxHeartbeats 8000000 in
theorem newcode_spec {H : Heap} {a : Option Addr} {n c : Nat} {l : List Int} (hr : Row H a (by64 l)) (hn : n = l.length) :
    ACalls Tryd.prog 73 [Value.slice a n c].toArray H fun e H' => NewOk H l e H' := by
  subst hn
  refine call73 (Nat.le_of_ble_eq_true rfl) ?_
  unfold L73 env0
  by_cases h1 : l.length < 1
  · have f1 : decide ((l.length : Int) < 1) = true := decide_eq_true (by omega)
    simp -implicitDefEqProofs (maxSteps := 1000000) (disch := first | omega | assumption) only [f1, l_g, Sx, Nat.reduceEqDiff, reduceCtorEq]
    exact .bad (isCode_bad (okLens_len (by omega))) (Keep.refl _)
  have f1 : decide ((l.length : Int) < 1) = false := decide_eq_false (by omega)
  by_cases h2 : 320 < l.length
  · have f2 : decide ((320 : Int) < (l.length : Int)) = true := decide_eq_true (by omega)
    simp -implicitDefEqProofs (maxSteps := 1000000) (disch := first | omega | assumption) only [f1, f2, l_g, Sx, Nat.reduceEqDiff, reduceCtorEq]
    exact .bad (isCode_bad (okLens_len (by omega))) (Keep.refl _)
  have f2 : decide ((320 : Int) < (l.length : Int)) = false := decide_eq_false (by omega)
  simp -implicitDefEqProofs (maxSteps := 1000000) (disch := first | omega | assumption) only [f1, f2, l_g, Sx, Nat.reduceEqDiff, reduceCtorEq]
  refine a_mks (l := l.length) (c := l.length) (sz := 2) (by omega) (by omega) (by omega) rfl (by omega) ?_
  intro r H1 rest hbr hW hk1 hr1
  try simp -implicitDefEqProofs (maxSteps := 1000000) (disch := first | omega | assumption) only [Sx, Nat.reduceEqDiff, Nat.reduceAdd, Nat.reduceLT]
  refine a_box ?_
  intro p hp
  have hp0 : H p = none := hk1.none hp
  have hrp : own (.slice (some ⟨r, 0, none⟩) l.length l.length) ≠ some p := by
    intro e
    simp only [own, Option.some.injEq] at e
    subst e
    rw [hbr] at hp
    cases hp
  have hW0 : Own H1 122 2 (.slice (some ⟨r, 0, none⟩) l.length l.length) (encs wd (WL l 1 0)) := by
    rw [WL_start]
    simpa [encs, wd] using hW
  have hB0 : CB (H1.set p (.cells (codeCells (.slice (some ⟨r, 0, none⟩) l.length l.length) (.slice none 0 0) (cnts []) fz false 0).toArray 119 (0, 0))) p (.slice (some ⟨r, 0, none⟩) l.length l.length) (.slice none 0 0) (cnts []) fz false 0 := set_same
  try simp -implicitDefEqProofs (maxSteps := 1000000) (disch := first | omega | assumption) only [Sx, Nat.reduceEqDiff, reduceCtorEq]
  refine c_loop (fun k env H' => ∃ i, k + i = l.length ∧ env 0 = .slice a l.length c ∧ env 4 = .pointer (some ⟨p, 0, none⟩) ∧ env 5 = .int .i64 (kraft (l.take i) : Nat) ∧ env 25 = .slice a l.length c ∧ env 26 = .int .i64 l.length ∧ env 27 = .int .i64 i ∧ CB H' p (.slice (some ⟨r, 0, none⟩) l.length l.length) (.slice none 0 0) (cnts (l.take i)) fz false 0 ∧ (∀ x ∈ l.take i, 0 ≤ x ∧ x ≤ 15) ∧ Only (· = p) H1 H') l.length ⟨0, by omega, by simp -implicitDefEqProofs (maxSteps := 1000000) (disch := first | omega | assumption) only [Sx, reduceCtorEq], by simp -implicitDefEqProofs (maxSteps := 1000000) (disch := first | omega | assumption) only [Sx, Nat.reduceEqDiff], by simp -implicitDefEqProofs (maxSteps := 1000000) (disch := first | omega | assumption) only [Sx, Nat.reduceEqDiff]; rfl, by simp -implicitDefEqProofs (maxSteps := 1000000) (disch := first | omega | assumption) only [Sx, Nat.reduceEqDiff], by simp -implicitDefEqProofs (maxSteps := 1000000) (disch := first | omega | assumption) only [Sx, Nat.reduceEqDiff], by simp -implicitDefEqProofs (maxSteps := 1000000) (disch := first | omega | assumption) only [Sx, Nat.reduceEqDiff]; rfl, hB0, fun x hx => by simp at hx, (Only.refl _ _).set (.inl rfl)⟩ ?_
  rintro k env H2 ⟨i, hki, h0, h4, h5, h25, h26, h27, hB, hall, ho⟩
  have hK : Keep H H2 := ho.keep hk1 fun q hq => by subst hq; exact hp0
  by_cases hi : i < l.length
  · by_cases hx : 0 ≤ l[i] ∧ l[i] ≤ 15
    · refine count_round hr (by omega) hi hx hK hp0 hB h0 h4 h5 h25 h26 h27 ?_
      intro env' H' g0 g4 g5 g25 g26 g27 ho' hB'
      refine ⟨k - 1, by omega, i + 1, by omega, g0, g4, g5, g25, g26, g27, hB', fun x hx2 => ?_, ho.trans ho' fun q hq => .inl hq⟩
      rw [List.take_succ_eq_append_getElem hi] at hx2
      rcases List.mem_append.1 hx2 with hx2 | hx2
      · exact hall x hx2
      · rw [List.mem_singleton] at hx2
        subst hx2
        exact hx
    · have f0 : decide ((i : Int) < (l.length : Int)) = true := decide_eq_true (by omega)
      obtain ⟨b, rfl, hb⟩ := int_at (hK.row hr) hi
      have hbad : isCode l = false := isCode_bad (okLens_bad (List.getElem_mem hi) (by omega))
      unfold L73_1
      by_cases h3 : l[i] < 0
      · have f3 : decide (l[i] < 0) = true := decide_eq_true h3
        simp -implicitDefEqProofs (maxSteps := 1000000) (disch := first | omega | assumption) only [h25, h26, h27, f0, f3, hb, l_g, Sx, Nat.reduceEqDiff]
        exact .bad hbad hK
      · have f3 : decide (l[i] < 0) = false := decide_eq_false h3
        have f5 : decide (15 < l[i]) = true := decide_eq_true (by omega)
        simp -implicitDefEqProofs (maxSteps := 1000000) (disch := first | omega | assumption) only [h25, h26, h27, f0, f3, f5, hb, l_g, Sx, Nat.reduceEqDiff]
        exact .bad hbad hK
  have f0 : decide ((i : Int) < (l.length : Int)) = false := decide_eq_false (by omega)
  have hie : i = l.length := by omega
  subst hie
  rw [List.take_length] at hall hB h5
  have hok := okLens_mk ⟨by omega, by omega⟩ hall
  have hkl := kraft_le l
  unfold L73_1
  by_cases h6 : kraft l = 0
  · have f6 : (((kraft l : Nat) : Int) == 0) = true := by rw [beq_iff_eq]; omega
    simp -implicitDefEqProofs (maxSteps := 1000000) (disch := first | omega | assumption) only [h5, h26, h27, f0, f6, l_g, Sx, Nat.reduceEqDiff]
    refine .bad ?_ hK
    unfold isCode
    rw [hok, h6]
    rfl
  have f6 : (((kraft l : Nat) : Int) == 0) = false := by rw [beq_eq_false_iff_ne]; omega
  by_cases h7 : 32768 < kraft l
  · have f7 : decide ((32768 : Int) < ((kraft l : Nat) : Int)) = true := decide_eq_true (by omega)
    simp -implicitDefEqProofs (maxSteps := 1000000) (disch := first | omega | assumption) only [h5, h26, h27, f0, f6, f7, l_g, Sx, Nat.reduceEqDiff]
    refine .bad ?_ hK
    unfold isCode
    rw [hok, decide_eq_false (by omega)]
    rfl
  have f7 : decide ((32768 : Int) < ((kraft l : Nat) : Int)) = false := decide_eq_false (by omega)
  have hc : isCode l = true := by unfold isCode; rw [hok, decide_eq_true (by omega)]; rfl
  have e8 : (((kraft l : Nat) : Int) == 32768) = isWhole l := by
    unfold isWhole
    rw [hok, Bool.true_and]
    by_cases h : kraft l = 32768
    · rw [decide_eq_true h, beq_iff_eq]; omega
    · rw [decide_eq_false h, beq_eq_false_iff_ne]; omega
  simp -implicitDefEqProofs (maxSteps := 1000000) (disch := first | omega | assumption) only [h4, h5, h26, h27, f0, f6, f7, e8, l_g, Sx, Nat.reduceEqDiff]
  refine st_one hB (by rw [cc_size (cnts_len _) (by simp)]; omega) (by rfl) ?_
  rw [cc_set_wh (cnts_len _) (by simp)]
  try simp -implicitDefEqProofs (maxSteps := 1000000) (disch := first | omega | assumption) only [Sx]
  refine c_loop (fun k env H' => ∃ n ov fs lo word, k + n = 16 ∧ 1 ≤ n ∧ fs.length = 16 ∧ (∀ m, 1 ≤ m → m < n → fs.getD m 0 = ((fst l m : Nat) : Int)) ∧ 2 * word = fst l n ∧ NS H a c l p (.slice (some ⟨r, 0, none⟩) l.length l.length) ov fs n 0 word lo env H') 15 ⟨1, .slice none 0 0, fz, 0, 0, rfl, Nat.le_refl _, by simp, fun m h1 h2 => by omega, rfl, ⟨by simp -implicitDefEqProofs (maxSteps := 1000000) (disch := first | omega | assumption) only [h0, Sx, reduceCtorEq], by simp -implicitDefEqProofs (maxSteps := 1000000) (disch := first | omega | assumption) only [h4, Sx, Nat.reduceEqDiff], by simp -implicitDefEqProofs (maxSteps := 1000000) (disch := first | omega | assumption) only [Sx, Nat.reduceEqDiff]; rfl, by simp -implicitDefEqProofs (maxSteps := 1000000) (disch := first | omega | assumption) only [Sx, Nat.reduceEqDiff]; rfl, set_same, ?_, ?_, hK.set_fresh hp0, hp0, ?_, ?_, ?_, ⟨fun m h1 h2 => by omega, fun _ => rfl, by omega, .inl rfl⟩⟩⟩ ?_
  · exact (hW0.only ho fun q hq e => hrp (e ▸ hq)).only (S := (· = p)) ((Only.refl _ _).set (.inl rfl)) fun q hq e => hrp (e ▸ hq)
  · rw [OL_start]; exact .nil
  · intro q hq; cases hq; exact hr1
  · intro q hq; cases hq
  · intro q hq e; cases e
  rintro k env H3 ⟨n, ov, fs, lo, word, hkn, hn1, hfl, hff, hw, hS⟩
  by_cases hn : n ≤ 15
  · refine len_round hr (by omega) hc hn1 hn hfl hw hS ?_
    intro env' H' ov' lo' word' hS' hw'
    exact ⟨k - 1, by omega, n + 1, ov', _, lo', word', by omega, by omega, by simpa using hfl, fs_set hfl hn hff, hw', hS'⟩
  · have : n = 16 := by omega
    subst this
    obtain ⟨h0, h4, h8, h9, hB, hW, hO, hK, hFp, hFw, hFo, hne, hL⟩ := hS
    unfold L73_4
    have f0 : decide (((16 : Nat) : Int) ≤ 15) = false := rfl
    simp -implicitDefEqProofs (maxSteps := 1000000) (disch := first | omega | assumption) only [h9, f0, Sx, Nat.reduceEqDiff]
    unfold L73_5
    simp -implicitDefEqProofs (maxSteps := 1000000) (disch := first | omega | assumption) only [h4, Sx, Nat.reduceEqDiff]
    exact ⟨hK, fun _ => ⟨p, _, ov, fs, lo, rfl, ⟨hB, hW, hO, hfl, fun m h1 h2 => hff m h1 (by omega), hL⟩, hFp, hFw, hFo, hW.elem hB (by decide), hO.elem hB (by decide), hne⟩, fun h => by rw [h] at hc; cases hc⟩
end Go.Proofs.YtgbhdpeibiglfaaDoor.S05
