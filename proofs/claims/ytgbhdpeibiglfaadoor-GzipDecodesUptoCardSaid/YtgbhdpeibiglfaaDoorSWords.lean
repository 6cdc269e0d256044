/-
  The document's words.
-/
import Derived.Test.YtgbhdpeibiglfaaDoorSRef
import Derived.Test.YtgbhdpeibiglfaaDoorSCode4
set_option linter.unusedVariables false
set_option linter.unusedSimpArgs false
namespace Go.Proofs.YtgbhdpeibiglfaaDoor.S05
open Go Go.RowKit Go.Proofs.YtgbhdpeibiglfaaDoor.Sep Go.Proofs.YtgbhdpeibiglfaaDoor.Low Go.Proofs.YtgbhdpeibiglfaaDoor.CodeLaw Go.Proofs.YtgbhdpeibiglfaaDoor.Pack Go.Proofs.YtgbhdpeibiglfaaDoor.BitLaw
open Go.Proofs.YtgbhdpeibiglfaaDoor.Lib (by64 by64_scalar encs encs_len)

theorem msb_get : ∀ n w j, j < n → (msb n w)[j]? = some (w / 2 ^ (n - 1 - j) % 2 == 1)
  | 0, w, j, h => by omega
  | n + 1, w, 0, h => by rw [msb]; simp
  | n + 1, w, j + 1, h => by rw [msb, List.getElem?_cons_succ, msb_get n w j (by omega), show n + 1 - 1 - (j + 1) = n - 1 - j by omega]
/-- the words that are made when length n is at symbol i -/
def WBm (l : List Int) (n i j : Nat) : List Bool := if (0 < len_ l j ∧ len_ l j < n) ∨ (0 < len_ l j ∧ len_ l j = n ∧ j < i) then wb l j else []
/-- the words in memory -/
def WsAt (H : Heap) (v : Value) (l : List Int) (f : Nat → List Bool) : Prop := ∃ vs, Own H 22 1 v vs ∧ vs.length = l.length ∧ ∀ j, j < l.length → ∃ u, vs[j]? = some u ∧ Own H 5 1 u (byb (f j))
theorem WsAt.keep {H H' : Heap} {v : Value} {l : List Int} {f : Nat → List Bool} (h : WsAt H v l f) (hk : Keep H H') : WsAt H' v l f := by
  obtain ⟨vs, h1, h2, h3⟩ := h
  exact ⟨vs, h1.keep hk, h2, fun j hj => by obtain ⟨u, h4, h5⟩ := h3 j hj; exact ⟨u, h4, h5.keep hk⟩⟩
theorem WsAt.congr {H : Heap} {v : Value} {l : List Int} {f g : Nat → List Bool} (h : WsAt H v l f) (hk : ∀ j, j < l.length → f j = g j) : WsAt H v l g := by
  obtain ⟨vs, h1, h2, h3⟩ := h
  exact ⟨vs, h1, h2, fun j hj => by obtain ⟨u, h4, h5⟩ := h3 j hj; exact ⟨u, h4, by rw [← hk j hj]; exact h5⟩⟩
/-- the code's number -/
def codeOf (l : List Int) (n i was : Nat) : Nat := if was = 0 then 0 else fst l was + (if was = n then rank l i n else cnt l was)
theorem code_shift {l : List Int} {n i was : Nat} (hn : 1 ≤ n) (h : Lo l n i was) : codeOf l n i was * 2 ^ (n - was) = fst l n + rank l i n := by
  unfold codeOf
  by_cases h0 : was = 0
  · subst h0
    rw [if_pos rfl, h.now (by omega), fst_none l n fun k h1 h2 => h.gap k (by omega) h2, Nat.zero_mul]
  · rw [if_neg h0]
    by_cases h1 : was = n
    · subst h1
      rw [if_pos rfl, Nat.sub_self, Nat.pow_zero, Nat.mul_one]
    · rw [if_neg h1, h.now (by have := h.le; omega)]
      have hle := h.le
      have := fst_gap l (n := was) (by omega) (n - was - 1) fun k hk => h.gap _ (by omega) (by omega)
      rw [show was + (n - was - 1) + 1 = n by omega, show n - was - 1 + 1 = n - was by omega] at this
      rw [this, Nat.add_zero]
theorem codeOf_put {l : List Int} {n i : Nat} (hn : 1 ≤ n) : codeOf l n i n = fst l n + rank l i n := by
  unfold codeOf
  rw [if_neg (by omega), if_pos rfl]
theorem codeOf_skip {l : List Int} {n i was : Nat} (hi : i < l.length) (hx : l[i] ≠ (n : Int)) : codeOf l n (i + 1) was = codeOf l n i was := by
  unfold codeOf
  rw [rank_succ hi, if_neg hx, Nat.add_zero]
theorem codeOf_next {l : List Int} {n was : Nat} (h : Lo l n l.length was) : codeOf l (n + 1) 0 was = codeOf l n l.length was := by
  unfold codeOf
  have := h.le
  by_cases h0 : was = 0
  · rw [if_pos h0, if_pos h0]
  · rw [if_neg h0, if_neg h0, if_neg (by omega)]
    by_cases h1 : was = n
    · rw [if_pos h1, rank_all, h1]
    · rw [if_neg h1]
theorem codeOf_le {l : List Int} (hc : isCode l = true) {n i was : Nat} (hn : n ≤ 15) (hi : i ≤ l.length) (h : Lo l n i was) : codeOf l n i was ≤ 32768 := by
  unfold codeOf
  have := h.le
  split
  · omega
  · have := fst_le hc (n := was) (by omega) (by omega)
    split
    · rename_i h1
      subst h1
      have : rank l i was ≤ cnt l was := by
        unfold rank cnt
        exact List.Sublist.countP_le (List.take_sublist _ _)
      omega
    · omega

structure RS (H0 : Heap) (a : Option Addr) (c : Nat) (l : List Int) (n i was : Nat) (env : Env) (H : Heap) (v : Value) : Prop where
  h0 : env 0 = .slice a l.length c
  h3 : env 3 = v
  h4 : env 4 = .int .i64 (codeOf l n i was : Nat)
  h5 : env 5 = .int .i64 was
  h6 : env 6 = .int .i64 n
  W : WsAt H v l (WBm l n i)
  K : Keep H0 H
  F : Fresh H0 v
  L : Lo l n i was

set_option maxHeartbeats 4000000 in
theorem rsym_round {H0 H : Heap} {a : Option Addr} {c n i was : Nat} {l : List Int} {v : Value} {env : Env} {Q : Post} {QP : List PanicEntry → Heap → Prop} (hr : Row H0 a (by64 l)) (hc : isCode l = true) (hi : i < l.length) (hn1 : 1 ≤ n) (hn : n ≤ 15)
    (hS : RS H0 a c l n i was env H v) (h7 : env 7 = .int .i64 i) (hk : ∀ env' H' was', RS H0 a c l n (i + 1) was' env' H' v → env' 7 = .int .i64 ((i + 1 : Nat) : Int) → Q .normal env' H') :
    awpC Tryd.prog L90_2 Q QP env H := by
  obtain ⟨h0, h3, h4, h5, h6, hW, hK, hF, hL⟩ := hS
  have hl := (isCode_ok hc).1
  have f0 : decide ((i : Int) < (l.length : Int)) = true := decide_eq_true (by omega)
  obtain ⟨b, rfl, hb⟩ := int_at (hK.row hr) hi
  have hcl := codeOf_le hc hn (by omega) hL
  have hle := hL.le
  have hwbm : len_ l i ≠ n → ∀ j, j < l.length → WBm l n i j = WBm l n (i + 1) j := by
    intro hne j hj
    unfold WBm
    have : ((0 < len_ l j ∧ len_ l j < n) ∨ (0 < len_ l j ∧ len_ l j = n ∧ j < i)) ↔ ((0 < len_ l j ∧ len_ l j < n) ∨ (0 < len_ l j ∧ len_ l j = n ∧ j < i + 1)) := by
      constructor
      · rintro (h | ⟨h1, h2, h3⟩)
        · exact .inl h
        · exact .inr ⟨h1, h2, by omega⟩
      · rintro (h | ⟨h1, h2, h3⟩)
        · exact .inl h
        · refine .inr ⟨h1, h2, ?_⟩
          rcases Nat.lt_or_ge j i with h | h
          · exact h
          · rw [show j = i by omega] at h2; exact absurd h2 hne
    simp only [this]
  unfold L90_2
  by_cases hx : l[i] = (n : Int)
  · have hlen : len_ l i = n := (len_get hn1).2 ⟨hi, hx⟩
    have f1 : ((n : Int) != (n : Int)) = false := by simp
    rw [hx] at hb
    have e1 : ((n : Int) - (was : Int)) = ((n - was : Nat) : Int) := by omega
    have e2 : IntKind.u64.wrap ((n - was : Nat) : Int) = ((n - was : Nat) : Int) := w_u64 (by omega)
    have e3 : IntKind.i64.wrap (((codeOf l n i was : Nat) : Int) * 2 ^ min (n - was) 64) = ((wordOf l i : Nat) : Int) := by
      have := code_shift hn1 hL
      have hw := (word_in hc (i := i) (by omega)).2.2.2
      rw [hlen] at hw
      rw [← hw] at this
      have h2 := shlw (x := codeOf l n i was) (k := n - was) (by omega) (by omega)
      rw [h2, this]
    have hw := word_in hc (i := i) (by omega)
    rw [hlen] at hw
    have hp15 : 2 ^ n ≤ 2 ^ 15 := Nat.pow_le_pow_right (by omega) hn
    have e4 : ((n : Int) - 1) = ((n - 1 : Nat) : Int) := by omega
    obtain ⟨w, hwe⟩ : ∃ w, w = wordOf l i := ⟨_, rfl⟩
    rw [← hwe] at hw e3
    simp -implicitDefEqProofs (maxSteps := 1000000) (disch := first | omega | assumption) only [h0, h4, h5, h6, h7, f0, f1, hb, e1, e2, e3, Sx, Nat.reduceEqDiff, reduceCtorEq]
    refine a_lits (sz := 1) (cells := #[]) rfl rfl ?_
    intro r1 H1 hO1 hk1 hr1
    try simp -implicitDefEqProofs (maxSteps := 1000000) (disch := first | omega | assumption) only [h6, e4, Sx, Nat.reduceEqDiff]
    refine c_loop (fun k env H' => ∃ j u, k + j = n ∧ env 0 = .slice (some b) l.length c ∧ env 3 = v ∧ env 4 = .int .i64 w ∧ env 5 = .int .i64 n ∧ env 6 = .int .i64 n ∧ env 7 = .int .i64 i ∧ env 8 = u ∧ env 9 = .int .i64 ((n : Int) - 1 - j) ∧ Own H' 5 1 u (byb ((msb n w).take j)) ∧ Keep H H' ∧ Fresh H u) n ⟨0, .slice (some ⟨r1, 0, none⟩) 0 0, by omega, by simp -implicitDefEqProofs (maxSteps := 1000000) (disch := first | omega | assumption) only [h0, Sx, reduceCtorEq], by simp -implicitDefEqProofs (maxSteps := 1000000) (disch := first | omega | assumption) only [h3, Sx, Nat.reduceEqDiff], by simp -implicitDefEqProofs (maxSteps := 1000000) (disch := first | omega | assumption) only [h4, Sx, Nat.reduceEqDiff], by simp -implicitDefEqProofs (maxSteps := 1000000) (disch := first | omega | assumption) only [h5, Sx, Nat.reduceEqDiff], by simp -implicitDefEqProofs (maxSteps := 1000000) (disch := first | omega | assumption) only [h6, Sx, Nat.reduceEqDiff], by simp -implicitDefEqProofs (maxSteps := 1000000) (disch := first | omega | assumption) only [h7, Sx, Nat.reduceEqDiff], by simp -implicitDefEqProofs (maxSteps := 1000000) (disch := first | omega | assumption) only [Sx, Nat.reduceEqDiff], by simp -implicitDefEqProofs (maxSteps := 1000000) (disch := first | omega | assumption) only [Sx, Nat.reduceEqDiff]; simp; omega, by simpa using hO1, hk1, fun q hq => by cases hq; exact hr1⟩ ?_
    clear h0 h3 h4 h5 h6 h7
    rintro k env H2 ⟨j, u, hkj, h0, h3, h4, h5, h6, h7, h8, h9, hO, hK2, hF2⟩
    unfold L90_0
    by_cases hj : j < n
    · have e5 : (n : Int) - 1 - (j : Int) = ((n - 1 - j : Nat) : Int) := by omega
      rw [e5] at h9
      have g0 : decide ((0 : Int) ≤ ((n - 1 - j : Nat) : Int)) = true := decide_eq_true (by omega)
      have e6 : IntKind.u64.wrap ((n - 1 - j : Nat) : Int) = ((n - 1 - j : Nat) : Int) := w_u64 (by omega)
      have e7 : min (n - 1 - j) 64 = n - 1 - j := by omega
      have e8 : ((w : Nat) : Int).fdiv (2 ^ (n - 1 - j)) = ((w / 2 ^ (n - 1 - j) : Nat) : Int) := by
        rw [Int.fdiv_eq_ediv_of_nonneg _ (by exact_mod_cast Nat.zero_le (2 ^ (n - 1 - j)))]
        simp
      have hget := msb_get n w j hj
      have hd : w / 2 ^ (n - 1 - j) ≤ w := Nat.div_le_self _ _
      generalize w / 2 ^ (n - 1 - j) = R at e8 hget hd
      have e9 : (R : Int) % 2 = b2i (R % 2 == 1) := by
        rcases (show R % 2 = 0 ∨ R % 2 = 1 by omega) with h | h <;> rw [h] <;> simp [b2i] <;> omega
      have e10 : IntKind.u8.wrap (b2i (R % 2 == 1)) = b2i (R % 2 == 1) := w_u8 (by have := b2i_range (R % 2 == 1); omega)
      have e11 : ((n - 1 - j : Nat) : Int) - 1 = (n : Int) - 1 - ((j + 1 : Nat) : Int) := by omega
      have hsv := hO.scalar
      simp -implicitDefEqProofs (maxSteps := 1000000) (disch := first | omega | assumption) only [h4, h8, h9, g0, e6, e7, e8, e9, e10, Sx, Nat.reduceEqDiff]
      refine a_lits (sz := 1) (cells := #[.int .u8 (b2i (R % 2 == 1))]) rfl rfl ?_
      intro r2 H3 hO3 hk3 hr3
      obtain ⟨_, _, _, e, _, _, hrow3⟩ := hO3.view
      cases e
      try simp -implicitDefEqProofs (maxSteps := 1000000) (disch := first | omega | assumption) only [Sx, Nat.reduceEqDiff]
      have hml : ((msb n w).take j).length = j := by rw [List.length_take, msb_len]; omega
      refine a_app (len := j) (m := 1) (new := [.int .u8 (b2i (R % 2 == 1))]) (hO.keep hk3) (by rw [List.length_map, hml]; omega) (by rfl) (hrow3.cells (by simp)) (by simp) rfl (by omega) (by simp [scalarV]) (by omega) ?_
      intro v5 H5 hO5 ho5 hm5
      try simp -implicitDefEqProofs (maxSteps := 1000000) (disch := first | omega | assumption) only [h0, h3, h4, h5, h6, h7, h8, h9, e11, Sx, Nat.reduceEqDiff, reduceCtorEq]
      refine ⟨k - 1, by omega, j + 1, v5, by omega, by trivial, by trivial, by trivial, by trivial, by trivial, by trivial, by trivial, by trivial, ?_, ho5.keep (hK2.trans hk3) hF2, hm5.fresh (hK2.trans hk3) hF2⟩
      have hmn : j < (msb n w).length := by rw [msb_len]; omega
      rw [List.getElem?_eq_getElem hmn] at hget
      rw [List.take_succ_eq_append_getElem hmn, Option.some.inj hget, byb, List.map_append]
      exact hO5
    · have : j = n := by omega
      subst this
      have g0 : decide ((0 : Int) ≤ (j : Int) - 1 - (j : Int)) = false := decide_eq_false (by omega)
      rw [List.take_of_length_le (by rw [msb_len]; omega)] at hO
      obtain ⟨vs, hV, hvl, hve⟩ := hW.keep hK2
      obtain ⟨r, len, cp, rfl, hlnl, -⟩ := Lib.storeC hV (j := i) (u := .int .u8 0) (by omega) rfl
      have hlen2 : len = l.length := by omega
      subst hlen2
      have hsv := hO.scalar
      simp -implicitDefEqProofs (maxSteps := 1000000) (disch := first | omega | assumption) only [h3, h7, h8, h9, g0, Sx, Nat.reduceEqDiff]
      refine Lib.a_storeC hV (j := i) (u := u) (by omega) hsv ?_
      intro H4 hV4 ho4
      have hov := fun {U : Value} {cs : List Value} (hU : Own H2 5 1 U cs) => hU.only ho4 fun r hr e => Lib.apart hU hV (by decide) hr e
      have hw5 := (codeOf_put (l := l) (i := i) hn1)
      have hrs := rank_succ (n := j) hi
      rw [if_pos hx] at hrs
      unfold L90_1
      try simp -implicitDefEqProofs (maxSteps := 1000000) (disch := first | omega | assumption) only [h4, h7, Sx, Nat.reduceEqDiff]
      refine hk _ _ j ⟨by simp -implicitDefEqProofs (maxSteps := 1000000) (disch := first | omega | assumption) only [h0, Sx, reduceCtorEq], by simp -implicitDefEqProofs (maxSteps := 1000000) (disch := first | omega | assumption) only [h3, Sx, Nat.reduceEqDiff], ?_, by simp -implicitDefEqProofs (maxSteps := 1000000) (disch := first | omega | assumption) only [h5, Sx, Nat.reduceEqDiff], by simp -implicitDefEqProofs (maxSteps := 1000000) (disch := first | omega | assumption) only [h6, Sx, Nat.reduceEqDiff], ⟨_, hV4, by simpa using hvl, fun q hq => ?_⟩, ho4.keep (hK.trans hK2) (fun q hq => hF q hq), hF, hL.put hi hx⟩ (by simp -implicitDefEqProofs (maxSteps := 1000000) (disch := first | omega | assumption) only [Int.natCast_add, Int.natCast_one, Sx, Nat.reduceEqDiff])
      · simp -implicitDefEqProofs (maxSteps := 1000000) (disch := first | omega | assumption) only [Sx, Nat.reduceEqDiff]
        rw [codeOf_put hn1, hrs, ← Nat.add_assoc, ← hw.2.2.2, Int.natCast_add]
        rfl
      · rw [List.getElem?_set]
        by_cases hq2 : i = q
        · subst hq2
          refine ⟨u, by rw [if_pos rfl, if_pos (by omega)], ?_⟩
          have : WBm l j (i + 1) i = msb j w := by
            unfold WBm
            rw [if_pos (.inr ⟨by omega, hlen, by omega⟩)]
            unfold wb
            rw [hlen, hwe]
          rw [this]
          exact hov hO
        · rw [if_neg hq2]
          obtain ⟨u', h10, h11⟩ := hve q hq
          refine ⟨u', h10, ?_⟩
          have : WBm l j (i + 1) q = WBm l j i q := by
            unfold WBm
            have : ((0 < len_ l q ∧ len_ l q < j) ∨ (0 < len_ l q ∧ len_ l q = j ∧ q < i + 1)) ↔ ((0 < len_ l q ∧ len_ l q < j) ∨ (0 < len_ l q ∧ len_ l q = j ∧ q < i)) := by
              constructor
              · rintro (h | ⟨h1, h2, h3⟩)
                · exact .inl h
                · exact .inr ⟨h1, h2, by omega⟩
              · rintro (h | ⟨h1, h2, h3⟩)
                · exact .inl h
                · exact .inr ⟨h1, h2, by omega⟩
            simp only [this]
          rw [this]
          exact hov h11
  · have hne : len_ l i ≠ n := fun e => by obtain ⟨_, h⟩ := (len_get hn1).1 e; exact hx h
    have f1 : (l[i] != (n : Int)) = true := by rw [bne_iff_ne]; exact hx
    simp -implicitDefEqProofs (maxSteps := 1000000) (disch := first | omega | assumption) only [h0, h6, h7, f0, f1, hb, Sx, Nat.reduceEqDiff, reduceCtorEq]
    unfold L90_1
    simp -implicitDefEqProofs (maxSteps := 1000000) (disch := first | omega | assumption) only [h7, Sx, Nat.reduceEqDiff]
    refine hk _ _ was ⟨by simp -implicitDefEqProofs (maxSteps := 1000000) (disch := first | omega | assumption) only [h0, Sx, reduceCtorEq], by simp -implicitDefEqProofs (maxSteps := 1000000) (disch := first | omega | assumption) only [h3, Sx, Nat.reduceEqDiff], by simp -implicitDefEqProofs (maxSteps := 1000000) (disch := first | omega | assumption) only [h4, Sx, Nat.reduceEqDiff]; rw [codeOf_skip hi hx], by simp -implicitDefEqProofs (maxSteps := 1000000) (disch := first | omega | assumption) only [h5, Sx, Nat.reduceEqDiff], by simp -implicitDefEqProofs (maxSteps := 1000000) (disch := first | omega | assumption) only [h6, Sx, Nat.reduceEqDiff], hW.congr (hwbm hne), hK, hF, hL.skip hi hx⟩ (by simp -implicitDefEqProofs (maxSteps := 1000000) (disch := first | omega | assumption) only [Int.natCast_add, Int.natCast_one, Sx, Nat.reduceEqDiff])
end Go.Proofs.YtgbhdpeibiglfaaDoor.S05
