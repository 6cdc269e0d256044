/-
  The document's words, one word, and what it reads.
-/
import Derived.Test.YtgbhdpeibiglfaaDoorSWords
set_option linter.unusedVariables false
set_option linter.unusedSimpArgs false
namespace Go.Proofs.YtgbhdpeibiglfaaDoor.S05
open Go Go.RowKit Go.Proofs.YtgbhdpeibiglfaaDoor.Sep Go.Proofs.YtgbhdpeibiglfaaDoor.Low Go.Proofs.YtgbhdpeibiglfaaDoor.CodeLaw Go.Proofs.YtgbhdpeibiglfaaDoor.Pack Go.Proofs.YtgbhdpeibiglfaaDoor.BitLaw
open Go.Proofs.YtgbhdpeibiglfaaDoor.Lib (by64 by64_scalar encs encs_len)

theorem WBm_start (l : List Int) (j : Nat) : WBm l 1 0 j = [] := by unfold WBm; rw [if_neg (by omega)]
theorem WBm_next {l : List Int} {n j : Nat} (hj : j < l.length) : WBm l n l.length j = WBm l (n + 1) 0 j := by
  unfold WBm
  have : ((0 < len_ l j ∧ len_ l j < n) ∨ (0 < len_ l j ∧ len_ l j = n ∧ j < l.length)) ↔ ((0 < len_ l j ∧ len_ l j < n + 1) ∨ (0 < len_ l j ∧ len_ l j = n + 1 ∧ j < 0)) := by
    constructor
    · rintro (⟨h1, h2⟩ | ⟨h1, h2, h3⟩)
      · exact .inl ⟨h1, by omega⟩
      · exact .inl ⟨h1, by omega⟩
    · rintro (⟨h1, h2⟩ | ⟨h1, h2, h3⟩)
      · rcases Nat.lt_or_ge (len_ l j) n with h | h
        · exact .inl ⟨h1, h⟩
        · exact .inr ⟨h1, by omega, hj⟩
      · omega
  simp only [this]
theorem WBm_end {l : List Int} (hc : isCode l = true) (j : Nat) : WBm l 16 0 j = wb l j := by
  have := len_le (isCode_ok hc).2.1 j
  unfold WBm
  by_cases h : 0 < len_ l j
  · rw [if_pos (.inl ⟨h, by omega⟩)]
  · rw [if_neg (by omega)]
    unfold wb
    rw [show len_ l j = 0 by omega]
    rfl

set_option maxHeartbeats 2000000 in
theorem rwords_spec {H : Heap} {a : Option Addr} {n c : Nat} {l : List Int} (hr : Row H a (by64 l)) (hn : n = l.length) (hc : isCode l = true) :
    ACalls Tryd.prog 90 [Value.slice a n c].toArray H fun e H' => ∃ v, e = .returned v ∧ WsAt H' v l (wb l) ∧ Keep H H' ∧ Fresh H v := by
  subst hn
  have hl := (isCode_ok hc).1
  refine call90 (Nat.le_of_ble_eq_true rfl) ?_
  unfold L90 env0
  simp -implicitDefEqProofs (maxSteps := 1000000) (disch := first | omega | assumption) only [Sx, Nat.reduceEqDiff, reduceCtorEq]
  refine a_mks (l := l.length) (c := l.length) (sz := 1) (by omega) (by omega) (by omega) rfl (by omega) ?_
  intro r H1 rest hbr hW hk1 hr1
  try simp -implicitDefEqProofs (maxSteps := 1000000) (disch := first | omega | assumption) only [Sx, Nat.reduceEqDiff]
  have hW0 : WsAt H1 (.slice (some ⟨r, 0, none⟩) l.length l.length) l (WBm l 1 0) := by
    refine ⟨_, hW, by simp, fun j hj => ⟨.slice none 0 0, ?_, by rw [WBm_start]; exact .nil⟩⟩
    have : (List.replicate l.length #[Value.slice none 0 0].toList).flatten = List.replicate l.length (Value.slice none 0 0) := by simp
    rw [this, List.getElem?_replicate, if_pos hj]
  refine c_loop (fun k env H' => ∃ n was, k + n = 16 ∧ 1 ≤ n ∧ RS H a c l n 0 was env H' (.slice (some ⟨r, 0, none⟩) l.length l.length)) 15 ⟨1, 0, rfl, Nat.le_refl _, ⟨by simp -implicitDefEqProofs (maxSteps := 1000000) (disch := first | omega | assumption) only [Sx, reduceCtorEq], by simp -implicitDefEqProofs (maxSteps := 1000000) (disch := first | omega | assumption) only [Sx, Nat.reduceEqDiff], by simp -implicitDefEqProofs (maxSteps := 1000000) (disch := first | omega | assumption) only [Sx, Nat.reduceEqDiff]; rfl, by simp -implicitDefEqProofs (maxSteps := 1000000) (disch := first | omega | assumption) only [Sx, Nat.reduceEqDiff]; rfl, by simp -implicitDefEqProofs (maxSteps := 1000000) (disch := first | omega | assumption) only [Sx, Nat.reduceEqDiff]; rfl, hW0, hk1, fun q hq => by cases hq; exact hr1, ⟨fun m h1 h2 => by omega, fun _ => rfl, by omega, .inl rfl⟩⟩⟩ ?_
  rintro k env H2 ⟨n, was, hkn, hn1, hS⟩
  unfold L90_4
  by_cases hn : n ≤ 15
  · have f0 : decide ((n : Int) ≤ 15) = true := decide_eq_true (by omega)
    have hS' := hS
    obtain ⟨h0, h3, h4, h5, h6, hW, hK, hF, hL⟩ := hS'
    simp -implicitDefEqProofs (maxSteps := 1000000) (disch := first | omega | assumption) only [h6, f0, Sx, Nat.reduceEqDiff]
    refine c_loop (fun k env H' => ∃ i was, k + i = l.length ∧ env 7 = .int .i64 i ∧ RS H a c l n i was env H' (.slice (some ⟨r, 0, none⟩) l.length l.length)) l.length ⟨0, was, by omega, by simp -implicitDefEqProofs (maxSteps := 1000000) (disch := first | omega | assumption) only [Sx, Nat.reduceEqDiff]; rfl, ⟨by simp -implicitDefEqProofs (maxSteps := 1000000) (disch := first | omega | assumption) only [h0, Sx, reduceCtorEq], by simp -implicitDefEqProofs (maxSteps := 1000000) (disch := first | omega | assumption) only [h3, Sx, Nat.reduceEqDiff], by simp -implicitDefEqProofs (maxSteps := 1000000) (disch := first | omega | assumption) only [h4, Sx, Nat.reduceEqDiff], by simp -implicitDefEqProofs (maxSteps := 1000000) (disch := first | omega | assumption) only [h5, Sx, Nat.reduceEqDiff], by simp -implicitDefEqProofs (maxSteps := 1000000) (disch := first | omega | assumption) only [h6, Sx, Nat.reduceEqDiff], hW, hK, hF, hL⟩⟩ ?_
    clear h0 h3 h4 h5 h6 hW hK hF hL hS was
    rintro k' env H3 ⟨i, was, hki, h7, hS⟩
    by_cases hi : i < l.length
    · refine rsym_round hr hc hi hn1 hn hS h7 ?_
      intro env' H' was' hS' h7'
      exact ⟨k' - 1, by omega, i + 1, was', by omega, h7', hS'⟩
    · have : i = l.length := by omega
      subst this
      have g0 : decide ((l.length : Int) < (l.length : Int)) = false := decide_eq_false (by omega)
      obtain ⟨h0, h3, h4, h5, h6, hW, hK, hF, hL⟩ := hS
      unfold L90_2
      simp -implicitDefEqProofs (maxSteps := 1000000) (disch := first | omega | assumption) only [h0, h7, g0, Sx, Nat.reduceEqDiff, reduceCtorEq]
      unfold L90_3
      simp -implicitDefEqProofs (maxSteps := 1000000) (disch := first | omega | assumption) only [h6, Sx, Nat.reduceEqDiff]
      exact ⟨k - 1, by omega, n + 1, was, by omega, by omega, ⟨by simp -implicitDefEqProofs (maxSteps := 1000000) (disch := first | omega | assumption) only [h0, Sx, reduceCtorEq], by simp -implicitDefEqProofs (maxSteps := 1000000) (disch := first | omega | assumption) only [h3, Sx, Nat.reduceEqDiff], by simp -implicitDefEqProofs (maxSteps := 1000000) (disch := first | omega | assumption) only [h4, Sx, Nat.reduceEqDiff]; rw [codeOf_next hL], by simp -implicitDefEqProofs (maxSteps := 1000000) (disch := first | omega | assumption) only [h5, Sx, Nat.reduceEqDiff], by simp -implicitDefEqProofs (maxSteps := 1000000) (disch := first | omega | assumption) only [Int.natCast_add, Int.natCast_one, Sx, Nat.reduceEqDiff], hW.congr fun j hj => WBm_next hj, hK, hF, hL.next⟩⟩
  · have : n = 16 := by omega
    subst this
    have f0 : decide (((16 : Nat) : Int) ≤ 15) = false := rfl
    obtain ⟨h0, h3, h4, h5, h6, hW, hK, hF, hL⟩ := hS
    simp -implicitDefEqProofs (maxSteps := 1000000) (disch := first | omega | assumption) only [h6, f0, Sx, Nat.reduceEqDiff]
    unfold L90_5
    simp -implicitDefEqProofs (maxSteps := 1000000) (disch := first | omega | assumption) only [h3, Sx, Nat.reduceEqDiff]
    exact ⟨_, rfl, hW.congr fun j hj => WBm_end hc j, hK, hF⟩

set_option maxHeartbeats 4000000 in
theorem rread_spec {H : Heap} {a b : Option Addr} {n c m d : Nat} {l : List Int} {rest : List Bool} (hr : Row H a (by64 l)) (hn : n = l.length) (hc : isCode l = true) (hb : Row H b (byb rest)) (hm : m = rest.length) (hl2 : rest.length ≤ 1099511627776) :
    ACalls Tryd.prog 78 [Value.slice a n c, .slice b m d].toArray H fun e H' => ∃ (s k : Nat) (f : Int), e = .returned (.tuple #[.int .i64 s, .int .i64 k, .int .i64 f]) ∧ RdIs l rest s k f ∧ Keep H H' := by
  subst hn hm
  have hl := (isCode_ok hc).1
  have hok := (isCode_ok hc).2.1
  refine call78 (Nat.le_of_ble_eq_true rfl) ?_
  unfold L78 env0
  simp -implicitDefEqProofs (maxSteps := 1000000) (disch := first | omega | assumption) only [Sx, Nat.reduceEqDiff, reduceCtorEq]
  refine a_call (rwords_spec hr rfl hc) ?_
  rintro e H1 ⟨v, rfl, ⟨vs, hV, hvl, hve⟩, hk1, hF⟩
  obtain ⟨A, m, cp, rfl, hml, hcap, hrow⟩ := hV.view
  have hm2 : m = l.length := by omega
  subst hm2
  have hb1 := hk1.row hb
  simp -implicitDefEqProofs (maxSteps := 1000000) (disch := first | omega | assumption) only [endK, Sx, Nat.reduceEqDiff]
  refine c_loop (fun k env H' => ∃ i short, k + i = l.length ∧ env 1 = .slice b rest.length d ∧ env 7 = .slice A l.length cp ∧ env 8 = .bool short ∧ env 9 = .int .i64 i ∧ (∀ j, j < i → 0 < len_ l j → ¬ wb l j <+: rest) ∧ (short = true → ∃ j, 0 < len_ l j ∧ rest <+: wb l j) ∧ (short = false → ∀ j, j < i → 0 < len_ l j → ¬ rest <+: wb l j) ∧ H' = H1) l.length ⟨0, false, by omega, by simp -implicitDefEqProofs (maxSteps := 1000000) (disch := first | omega | assumption) only [Sx, Nat.reduceEqDiff], by simp -implicitDefEqProofs (maxSteps := 1000000) (disch := first | omega | assumption) only [Sx, Nat.reduceEqDiff], by simp -implicitDefEqProofs (maxSteps := 1000000) (disch := first | omega | assumption) only [Sx, Nat.reduceEqDiff], by simp -implicitDefEqProofs (maxSteps := 1000000) (disch := first | omega | assumption) only [Sx, Nat.reduceEqDiff]; rfl, (fun j hj => by omega), (fun h => by cases h), (fun _ j hj => by omega), rfl⟩ ?_
  rintro k env H2 ⟨i, short, hki, h1, h7, h8, h9, hno, hs1, hs2, rfl⟩
  unfold L78_0
  by_cases hi : i < l.length
  · have f0 : decide ((i : Int) < (l.length : Int)) = true := decide_eq_true (by omega)
    obtain ⟨u, hu, hOu⟩ := hve i hi
    obtain ⟨b2, rfl, hb2⟩ := hrow.at (i := i) (by omega)
    have hu2 := (List.getElem?_eq_some_iff.1 hu).2
    rw [hu2] at hb2
    obtain ⟨A3, m3, cp3, rfl, hml3, hcap3, hrow3⟩ := hOu.view
    have hm3 : m3 = len_ l i := by rw [List.length_map, wb_len] at hml3; omega
    subst hm3
    have hlen := len_le hok i
    by_cases hz : len_ l i = 0
    · have f1 : (((len_ l i : Nat) : Int) == 0) = true := by rw [beq_iff_eq]; omega
      simp -implicitDefEqProofs (maxSteps := 1000000) (disch := first | omega | assumption) only [h1, h7, h8, h9, f0, f1, hb2, Sx, Nat.reduceEqDiff, reduceCtorEq]
      refine ⟨k - 1, by omega, i + 1, short, by omega, by trivial, by trivial, by trivial, by simp, fun j hj hp => ?_, hs1, fun hs j hj hp => ?_, by trivial⟩
      · by_cases hji : j = i
        · subst hji; omega
        · exact hno j (by omega) hp
      · by_cases hji : j = i
        · subst hji; omega
        · exact hs2 hs j (by omega) hp
    · have f1 : (((len_ l i : Nat) : Int) == 0) = false := by rw [beq_eq_false_iff_ne]; omega
      simp -implicitDefEqProofs (maxSteps := 1000000) (disch := first | omega | assumption) only [h1, h7, h9, f0, f1, hb2, Sx, Nat.reduceEqDiff]
      refine a_call (starts_spec hb1 hrow3 rfl (by rw [wb_len]) hl2) ?_
      rintro e H3 ⟨rfl, rfl⟩
      cases hp : (wb l i).isPrefixOf rest with
      | true =>
        simp -implicitDefEqProofs (maxSteps := 1000000) (disch := first | omega | assumption) only [endK, h7, h9, hb2, Sx, Nat.reduceEqDiff]
        refine ⟨i, len_ l i, 0, rfl, .hit (by omega) (List.isPrefixOf_iff_prefix.1 hp), hk1⟩
      | false =>
        have hnp : ¬ wb l i <+: rest := fun h => by rw [List.isPrefixOf_iff_prefix.2 h] at hp; cases hp
        have hno' : ∀ j, j < i + 1 → 0 < len_ l j → ¬ wb l j <+: rest := fun j hj hp => by
          by_cases hji : j = i
          · subst hji; exact hnp
          · exact hno j (by omega) hp
        cases short with
        | true =>
          simp -implicitDefEqProofs (maxSteps := 1000000) (disch := first | omega | assumption) only [endK, h1, h7, h8, h9, l_g, Sx, Nat.reduceEqDiff]
          exact ⟨k - 1, by omega, i + 1, true, by omega, by trivial, by trivial, by trivial, by simp, hno', hs1, (fun h => by cases h), by trivial⟩
        | false =>
          simp -implicitDefEqProofs (maxSteps := 1000000) (disch := first | omega | assumption) only [endK, h1, h7, h8, h9, hb2, l_g, Sx, Nat.reduceEqDiff]
          refine a_call (starts_spec hrow3 hb1 (by rw [wb_len]) rfl (by rw [wb_len]; omega)) ?_
          rintro e H4 ⟨rfl, rfl⟩
          simp -implicitDefEqProofs (maxSteps := 1000000) (disch := first | omega | assumption) only [endK, h1, h7, h8, h9, Sx, Nat.reduceEqDiff]
          refine ⟨k - 1, by omega, i + 1, rest.isPrefixOf (wb l i), by omega, by trivial, by trivial, by trivial, by simp, hno', fun h => ⟨i, by omega, List.isPrefixOf_iff_prefix.1 h⟩, fun h j hj hp => ?_, by trivial⟩
          by_cases hji : j = i
          · subst hji
            intro h5
            rw [List.isPrefixOf_iff_prefix.2 h5] at h
            cases h
          · exact hs2 rfl j (by omega) hp
  · have f0 : decide ((i : Int) < (l.length : Int)) = false := decide_eq_false (by omega)
    have hno' : ∀ j, 0 < len_ l j → ¬ wb l j <+: rest := fun j hp => hno j (by have := len_lt hp; omega) hp
    cases short with
    | true =>
      simp -implicitDefEqProofs (maxSteps := 1000000) (disch := first | omega | assumption) only [h7, h9, f0, Sx, Nat.reduceEqDiff]
      unfold L78_1
      simp -implicitDefEqProofs (maxSteps := 1000000) (disch := first | omega | assumption) only [h8, Sx, Nat.reduceEqDiff]
      obtain ⟨j, hj1, hj2⟩ := hs1 rfl
      exact ⟨0, 0, 50, rfl, .more hno' hj1 hj2, hk1⟩
    | false =>
      simp -implicitDefEqProofs (maxSteps := 1000000) (disch := first | omega | assumption) only [h7, h9, f0, Sx, Nat.reduceEqDiff]
      unfold L78_1
      simp -implicitDefEqProofs (maxSteps := 1000000) (disch := first | omega | assumption) only [h8, Sx, Nat.reduceEqDiff]
      exact ⟨0, 0, 52, rfl, .none hno' fun j hp => hs2 rfl j (by have := len_lt hp; omega) hp, hk1⟩
end Go.Proofs.YtgbhdpeibiglfaaDoor.S05
