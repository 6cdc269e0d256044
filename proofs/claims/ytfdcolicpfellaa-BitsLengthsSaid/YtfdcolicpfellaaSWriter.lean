/-
  bits.Writer, over memory in parts.
-/
import Derived.Test.YtfdcolicpfellaaLowA
import Derived.Test.YtfdcolicpfellaaSepList
import Derived.Test.YtfdcolicpfellaaPack
set_option linter.unusedVariables false
set_option linter.unusedSimpArgs false
namespace Go.Proofs.Ytfdcolicpfellaa.S05
open Go Go.RowKit Go.Proofs.Ytfdcolicpfellaa.Sep Go.Proofs.Ytfdcolicpfellaa.Low Go.Proofs.Ytfdcolicpfellaa.Pack

abbrev by8 (l : List Int) : List Value := l.map (.int .u8)
theorem by8_scalar (l : List Int) : ∀ v ∈ by8 l, scalarV v = true := by
  intro v hv
  obtain ⟨x, _, rfl⟩ := List.mem_map.1 hv
  rfl

/-- a Writer at block p -/
structure WAt (H : Heap) (p : Nat) (L : List Bool) (v : Value) : Prop where
  blk : H p = some (.cells #[v, .int .i64 (L.length : Int)] 26 (0, 0))
  row : Own H 5 1 v (by8 (pack L))
theorem WAt.ne {H : Heap} {p : Nat} {L : List Bool} {v : Value} (h : WAt H p L v) : own v ≠ some p := h.row.elem h.blk (by decide)
/-- what a call on it may turn -/
abbrev Chg (H : Heap) (p : Nat) (v : Value) (H' : Heap) (v' : Value) : Prop := Only (fun q => q = p ∨ own v = some q) H H' ∧ Moved H v v'
theorem Chg.trans {H H1 H2 : Heap} {p : Nat} {v v1 v2 : Value} (h : Chg H p v H1 v1) (k : Chg H1 p v1 H2 v2) : Chg H p v H2 v2 := by
  refine ⟨h.1.trans k.1 fun q hq => ?_, ?_⟩
  · rcases hq with hq | hq
    · exact .inl (.inl hq)
    · rcases h.2 with e | ⟨r, e, hr⟩
      · exact .inl (.inr (e ▸ hq))
      · rw [e] at hq; cases hq; exact .inr hr
  · rcases k.2 with e | ⟨r, e, hr⟩
    · rw [Moved, e]; exact h.2
    · exact .inr ⟨r, e, h.1.none hr⟩

theorem walign_spec {H : Heap} {p : Nat} {L : List Bool} {v : Value} (h : WAt H p L v) (hL : L.length ≤ 562949953421312) :
    ACalls Try.prog 12 [Value.pointer (some ⟨p, 0, none⟩)].toArray H fun e H' => e = .returned (.tuple #[]) ∧ WAt H' p (fill L) v ∧ Only (· = p) H H' := by
  refine call12 (Nat.le_of_ble_eq_true rfl) ?_
  unfold L12 env0
  obtain ⟨a, n, c, rfl, hl, hc, hr⟩ := h.row.view
  have hn : n = (L.length + 7) / 8 := by rw [Nat.mul_one] at hl; rw [← hl]; simp [pack_len]
  simp -implicitDefEqProofs (maxSteps := 1000000) (disch := first | omega | assumption) only [cell_of h.blk, Sx, reduceIte, Nat.reduceEqDiff, reduceCtorEq, Nat.reduceAdd, Nat.reduceSub, Nat.reduceLT]
  refine st_one h.blk (by simp) (by rfl) ?_
  simp only [Sx, reduceIte, Nat.reduceEqDiff, reduceCtorEq, Nat.reduceAdd, Nat.reduceSub, Nat.reduceLT]
  have ho : Only (· = p) H (H.set p (.cells #[.slice a n c, .int .i64 (8 * n)] 26 (0, 0))) := (Only.refl _ _).set (.inl rfl)
  refine ⟨by trivial, ⟨?_, ?_⟩, ho⟩
  · rw [set_same, fill_length, hn]; simp
  · rw [pack_fill]
    exact h.row.only ho fun r hr e => h.ne (e ▸ hr)

theorem WAt.only {S : Nat → Prop} {H H' : Heap} {p : Nat} {L : List Bool} {v : Value} (h : WAt H p L v) (ho : Only S H H') (h1 : ¬ S p) (h2 : ∀ r, own v = some r → ¬ S r) : WAt H' p L v :=
  ⟨ho.oth _ _ h.blk h1, h.row.only ho h2⟩

/-- slices.Clone at bytes -/
theorem clone_spec {H : Heap} {a : Option Addr} {n c : Nat} {cs : List Value} (hr : Row H a cs) (hl : cs.length = n) (hs : ∀ v ∈ cs, scalarV v = true) (hn : n ≤ 70368744177664) :
    ACalls Try.prog 44 [Value.slice a n c].toArray H fun e H' => ∃ v, e = .returned v ∧ Own H' 5 1 v cs ∧ Keep H H' ∧ Fresh H v := by
  refine call44 (Nat.le_of_ble_eq_true rfl) ?_
  unfold L44 env0
  cases a with
  | none =>
    have : cs = [] := by
      cases cs with
      | nil => rfl
      | cons v cs => obtain ⟨b, e, _⟩ := hr 0 v (by simp); cases e
    subst this
    simp -implicitDefEqProofs (maxSteps := 1000000) (disch := first | omega | assumption) only [ev_eqs0, Option.isNone, bne_self_eq_false, Bool.bne_false, Sx, reduceIte, Nat.reduceEqDiff, reduceCtorEq, Nat.reduceAdd, Nat.reduceSub, Nat.reduceLT]
    exact ⟨_, rfl, .nil, Keep.refl H, fun r e => by cases e⟩
  | some a =>
    simp -implicitDefEqProofs (maxSteps := 1000000) (disch := first | omega | assumption) only [ev_eqs1, Option.isNone, bne_self_eq_false, Bool.bne_false, Sx, reduceIte, Nat.reduceEqDiff, reduceCtorEq, Nat.reduceAdd, Nat.reduceSub, Nat.reduceLT]
    refine a_lits (sz := 1) (cells := #[]) rfl rfl ?_
    intro r H1 hO hk hr1
    try simp -implicitDefEqProofs (maxSteps := 1000000) (disch := first | omega | assumption) only [Sx, reduceIte, Nat.reduceEqDiff, reduceCtorEq, Nat.reduceAdd, Nat.reduceSub, Nat.reduceLT]
    refine a_app (len := 0) (m := n) (new := cs) hO rfl (by rfl) ((hk.row hr).cells (by omega)) (by omega) rfl (by omega) hs (by omega) ?_
    intro v H2 hO2 ho hm
    try simp -implicitDefEqProofs (maxSteps := 1000000) (disch := first | omega | assumption) only [Sx, reduceIte, Nat.reduceEqDiff, reduceCtorEq, Nat.reduceAdd, Nat.reduceSub, Nat.reduceLT]
    refine ⟨v, rfl, hO2, ho.keep hk ?_, hm.fresh hk ?_⟩
    · rintro q ⟨⟩; exact hr1
    · rintro q ⟨⟩; exact hr1

theorem wdone_spec {H : Heap} {p : Nat} {L : List Bool} {v : Value} (h : WAt H p L v) (hL : L.length ≤ 562949953421312) :
    ACalls Try.prog 19 [Value.pointer (some ⟨p, 0, none⟩)].toArray H fun e H' => ∃ v, e = .returned v ∧ Own H' 5 1 v (by8 (pack L)) ∧ Keep H H' ∧ Fresh H v := by
  refine call19 (Nat.le_of_ble_eq_true rfl) ?_
  unfold L19 env0
  obtain ⟨a, n, c, rfl, hl, hc, hr⟩ := h.row.view
  have hn : n = (L.length + 7) / 8 := by rw [Nat.mul_one] at hl; rw [← hl]; simp [pack_len]
  simp -implicitDefEqProofs (maxSteps := 1000000) (disch := first | omega | assumption) only [cell_of h.blk, Sx, reduceIte, Nat.reduceEqDiff, reduceCtorEq, Nat.reduceAdd, Nat.reduceSub, Nat.reduceLT]
  refine a_call (clone_spec hr (by omega) (by8_scalar _) (by omega)) ?_
  rintro e H' ⟨v, rfl, hO, hk, hf⟩
  simp -implicitDefEqProofs (maxSteps := 1000000) (disch := first | omega | assumption) only [endK, Sx, reduceIte, Nat.reduceEqDiff, reduceCtorEq, Nat.reduceAdd, Nat.reduceSub, Nat.reduceLT]
  exact ⟨v, rfl, hO, hk, hf⟩

theorem wlen_spec {H : Heap} {p : Nat} {L : List Bool} {v : Value} (h : WAt H p L v) :
    ACalls Try.prog 21 [Value.pointer (some ⟨p, 0, none⟩)].toArray H fun e H' => e = .returned (.int .i64 L.length) ∧ H' = H := by
  refine call21 (Nat.le_of_ble_eq_true rfl) ?_
  unfold L21 env0
  simp -implicitDefEqProofs (maxSteps := 1000000) (disch := first | omega | assumption) only [cell_of h.blk, Sx, reduceIte, Nat.reduceEqDiff, reduceCtorEq, Nat.reduceAdd, Nat.reduceSub, Nat.reduceLT]
  exact ⟨by trivial, by trivial⟩

theorem wadd_spec {H : Heap} {p : Nat} {L : List Bool} {v : Value} {a : Option Addr} {n c : Nat} {xs : List Int} (h : WAt H p L v) (hL : L.length ≤ 562949953421312) (hr : Row H a (by8 xs)) (hx : ∀ x ∈ xs, 0 ≤ x ∧ x < 256) (hl : xs.length = n) (hn : n ≤ 1099511627776) :
    ACalls Try.prog 15 [Value.pointer (some ⟨p, 0, none⟩), Value.slice a n c].toArray H fun e H' => e = .returned (.tuple #[]) ∧ ∃ v', WAt H' p (fill L ++ unpack xs) v' ∧ Chg H p v H' v' := by
  refine call15 (Nat.le_of_ble_eq_true rfl) ?_
  unfold L15 env0
  simp -implicitDefEqProofs (maxSteps := 1000000) (disch := first | omega | assumption) only [cell_of h.blk, Sx, reduceIte, Nat.reduceEqDiff, reduceCtorEq, Nat.reduceAdd, Nat.reduceSub, Nat.reduceLT]
  refine a_app (len := (pack L).length) (m := n) (new := by8 xs) h.row (by simp) (by rfl) (hr.cells (by simp; omega)) (by simp; omega) rfl (by omega) (by8_scalar _) (by rw [pack_len]; omega) ?_
  intro v1 H1 hO ho hm
  have hb1 := ho.oth _ _ h.blk h.ne
  have e : by8 (pack L) ++ by8 xs = by8 (pack (fill L ++ unpack xs)) := by
    rw [pack_append _ _ _ (Nat.le_refl _) (by rw [fill_length]; omega), pack_fill, pack_unpack xs hx]
    simp
  rw [e] at hO
  have hne1 : own v1 ≠ some p := hO.elem hb1 (by decide)
  obtain ⟨a1, n1, c1, rfl, hl1, hc1, hr1⟩ := hO.view
  simp only [List.length_map, pack_len, List.length_append, fill_length, unpack_length] at hl1
  try simp -implicitDefEqProofs (maxSteps := 1000000) (disch := first | omega | assumption) only [Sx, reduceIte, Nat.reduceEqDiff, reduceCtorEq, Nat.reduceAdd, Nat.reduceSub, Nat.reduceLT]
  refine st_one hb1 (by simp) (by rfl) ?_
  try simp -implicitDefEqProofs (maxSteps := 1000000) (disch := first | omega | assumption) only [Sx, reduceIte, Nat.reduceEqDiff, reduceCtorEq, Nat.reduceAdd, Nat.reduceSub, Nat.reduceLT]
  refine st_one set_same (by simp) (by rfl) ?_
  rw [set_set]
  have ho2 : Only (· = p) H1 (H1.set p (.cells #[.slice a1 n1 c1, .int .i64 (8 * n1)] 26 (0, 0))) := (Only.refl _ _).set (.inl rfl)
  refine ⟨by trivial, _, ⟨?_, hO.only ho2 fun r hr e => hne1 (e ▸ hr)⟩, ?_, hm⟩
  · have e8 : (8 * (n1 : Int)) = ((8 * ((L.length + 7) / 8) + 8 * xs.length : Nat) : Int) := by omega
    rw [set_same, List.length_append, fill_length, unpack_length, e8]
    simp
  · exact (ho.mono fun q hq => .inl (.inr hq)).trans ho2 fun q hq => .inl (.inl hq)

theorem pow_le32 {n : Nat} (h : n ≤ 32) : (2 : Int) ^ n ≤ 4294967296 := by
  have h4 : (2 : Nat) ^ n ≤ 4294967296 := Nat.pow_le_pow_right (n := 2) (by omega) h
  have h5 : ((2 ^ n : Nat) : Int) ≤ (4294967296 : Nat) := Int.ofNat_le.2 h4
  rw [Int.natCast_pow] at h5
  exact h5

/-- the loop's tail: a bit into the last byte -/
theorem wput_tail {H : Heap} {p : Nat} {M : List Bool} {v : Value} {xs : List Int} {x : Int} {i n j : Nat} {env : Env} {Q : Post} {QP : List PanicEntry → Heap → Prop}
    (hb : H p = some (.cells #[v, .int .i64 (M.length : Int)] 26 (0, 0))) (hO : Own H 5 1 v (by8 xs)) (hxs : xs = if M.length % 8 = 0 then pack M ++ [0] else pack M) (hj : xs.length = j + 1) (hM : M.length ≤ 562949953421344) (hi : i < 32) (hx0 : 0 ≤ x) (hx1 : x < 4294967296)
    (h0 : env 0 = .pointer (some ⟨p, 0, none⟩)) (h1 : env 1 = .int .u32 x) (h7 : env 7 = .int .i64 i)
    (hk : ∀ env' H', (∀ t, t < 40 → env' t = env t) → WAt H' p (M ++ [x / 2 ^ i % 2 == 1]) v → Only (fun q => q = p ∨ own v = some q) H H' → Q .normal env' H') :
    awpC Try.prog L10_0 Q QP env H := by
  have hne : own v ≠ some p := hO.elem hb (by decide)
  obtain ⟨r, c, rfl, cells, hbr, hjs, hO2⟩ := hO.store (i := j) (u := .int .u8 (Go.bits .or .u8 (xs.getD j 0) (Go.bits .and .u32 (x / 2 ^ i) 1 % 256 * 2 ^ (M.length % 8) % 256))) (by simp; omega) rfl
  have hnr : r ≠ p := fun e => hne (by rw [e]; rfl)
  have hrow := (hO.view)
  obtain ⟨a', n', c', e', hl', hc', hr'⟩ := hO.view
  cases e'
  obtain ⟨_, e2, hcell⟩ := hr'.at (i := j) (by simp; omega)
  cases e2
  rw [add_mk, Nat.zero_add] at hcell
  have hget : (by8 xs)[j]'(by simp; omega) = .int .u8 (xs.getD j 0) := by
    simp [List.getD_eq_getElem?_getD, List.getElem?_eq_getElem (show j < xs.length by omega)]
  rw [hget] at hcell
  have hlen : (by8 xs).length = j + 1 := by simp [hj]
  have ej : ((j + 1 : Nat) : Int) - 1 = j := by omega
  have em : min i 32 = i := by omega
  have hjb : j ≤ 562949953421344 := by
    have := congrArg List.length hxs
    split at this <;> simp [pack_len] at this <;> omega
  have ef : x.fdiv (2 ^ i) = x / 2 ^ i := Int.fdiv_eq_ediv_of_nonneg _ (by exact_mod_cast Nat.zero_le (2 ^ i))
  have em8 : ((M.length : Int) % 8).toNat = M.length % 8 := by omega
  have em9 : min (M.length % 8) 8 = M.length % 8 := by omega
  unfold L10_0
  simp -implicitDefEqProofs (maxSteps := 1000000) (disch := first | omega | assumption) only [h0, h1, h7, cell_of hb, hlen, ej, hcell, em, ef, em8, em9, w_u8m, Sx, reduceIte, Nat.reduceEqDiff, reduceCtorEq, Nat.reduceAdd, Nat.reduceSub, Nat.reduceLT]
  refine st_one hbr hjs (by rfl) ?_
  have hb2 : (H.set r (.cells (cells.setIfInBounds j (.int .u8 (Go.bits .or .u8 (xs.getD j 0) (Go.bits .and .u32 (x / 2 ^ i) 1 % 256 * 2 ^ (M.length % 8) % 256)))) 5 (0, 0))) p = _ := (set_other (Ne.symm hnr)).trans hb
  simp -implicitDefEqProofs (maxSteps := 1000000) (disch := first | omega | assumption) only [h0, cell_of hb2, Sx, reduceIte, Nat.reduceEqDiff, reduceCtorEq, Nat.reduceAdd, Nat.reduceSub, Nat.reduceLT]
  refine st_one hb2 (by simp) (by rfl) ?_
  try simp -implicitDefEqProofs (maxSteps := 1000000) (disch := first | omega | assumption) only [Sx, reduceIte, Nat.reduceEqDiff, reduceCtorEq, Nat.reduceAdd, Nat.reduceSub, Nat.reduceLT]
  refine hk _ _ (fun t ht => ?_) ⟨?_, ?_⟩ ?_
  · simp only [p_get]
    repeat rw [if_neg (by omega)]
  · rw [set_same, List.length_append]; simp
  · have hr2 := round_row M xs j x i hx0 hx1 hxs hj
    have : (by8 xs).set j (.int .u8 (Go.bits .or .u8 (xs.getD j 0) (Go.bits .and .u32 (x / 2 ^ i) 1 % 256 * 2 ^ (M.length % 8) % 256))) = by8 (pack (M ++ [x / 2 ^ i % 2 == 1])) := by
      rw [← hr2]; simp [List.map_set]
    rw [← this]
    exact hO2.only (S := (· = p)) ((Only.refl _ _).set (.inl rfl)) fun q hq e => hne (e ▸ hq)
  · exact ((Only.refl _ _).set (.inl (.inr rfl))).set (.inl (.inl rfl))

theorem wput_spec {H : Heap} {p : Nat} {L : List Bool} {v : Value} {x : Int} {n : Nat} (h : WAt H p L v) (hL : L.length ≤ 562949953421312) (hn : n ≤ 32) (hx0 : 0 ≤ x) (hx1 : x < 2 ^ n) :
    ACalls Try.prog 10 [Value.pointer (some ⟨p, 0, none⟩), .int .u32 x, .int .i64 n].toArray H fun e H' => e = .returned (.int .i64 0) ∧ ∃ v', WAt H' p (L ++ low n x) v' ∧ Chg H p v H' v' := by
  have hp := pow_le32 hn
  refine call10 (Nat.le_of_ble_eq_true rfl) ?_
  unfold L10 env0
  have f1 : decide ((n : Int) < 0) = false := decide_eq_false (by omega)
  have f2 : decide (32 < (n : Int)) = false := decide_eq_false (by omega)
  have f3 : decide (IntKind.u64.wrap (1 * 2 ^ min n 64) ≤ x) = false := decide_eq_false (by
    rw [Nat.min_eq_left (by omega), Int.one_mul, w_u64 (by omega)]
    omega)
  simp -implicitDefEqProofs (maxSteps := 1000000) (disch := first | omega | assumption) only [l_g, w_u64, f1, f2, f3, Sx, reduceIte, Nat.reduceEqDiff, reduceCtorEq, Nat.reduceAdd, Nat.reduceSub, Nat.reduceLT]
  refine c_loop (fun k env H' => ∃ i v', k + i = n ∧ env 0 = .pointer (some ⟨p, 0, none⟩) ∧ env 1 = .int .u32 x ∧ env 21 = .int .i64 n ∧ env 22 = .int .i64 i ∧ WAt H' p (L ++ low i x) v' ∧ Chg H p v H' v') n ⟨0, v, rfl, rfl, rfl, rfl, rfl, by simpa [low] using h, Only.refl _ _, .inl rfl⟩ ?_
  rintro k env H' ⟨i, v', hk, h0, h1, h21, h22, hW, hC⟩
  unfold L10_2
  have hlt32 : (low i x).length = i := low_length i x
  obtain ⟨M, hM⟩ : ∃ M, M = L ++ low i x := ⟨_, rfl⟩
  have hML : M.length = L.length + i := by rw [hM, List.length_append, hlt32]
  rw [← hM] at hW
  have hx32 : x < 4294967296 := by omega
  simp -implicitDefEqProofs (maxSteps := 1000000) (disch := first | omega | assumption) only [h0, h1, h21, h22, Sx, reduceIte, Nat.reduceEqDiff, reduceCtorEq, Nat.reduceAdd, Nat.reduceSub, Nat.reduceLT]
  refine d_dec (fun hlt => ?_) (fun hge => ?_)
  · by_cases h8 : M.length % 8 = 0
    · have e8 : ((M.length : Int) % 8 == 0) = true := by rw [beq_iff_eq]; omega
      simp -implicitDefEqProofs (maxSteps := 1000000) (disch := first | omega | assumption) only [h0, h1, h21, h22, cell_of hW.blk, e8, Sx, reduceIte, Nat.reduceEqDiff, reduceCtorEq, Nat.reduceAdd, Nat.reduceSub, Nat.reduceLT]
      refine a_lits (sz := 1) (cells := #[.int .u8 0]) rfl rfl ?_
      intro r1 H1 hO1 hk1 hr1
      have hb1 := hk1 _ _ hW.blk
      obtain ⟨_, _, _, e1, _, _, hrow1⟩ := hO1.view
      cases e1
      have hO0 := hW.row.keep hk1
      try simp -implicitDefEqProofs (maxSteps := 1000000) (disch := first | omega | assumption) only [h0, Sx, reduceIte, Nat.reduceEqDiff, reduceCtorEq, Nat.reduceAdd, Nat.reduceSub, Nat.reduceLT]
      refine a_app (len := (pack M).length) (m := 1) (new := [.int .u8 0]) hO0 (by simp) (by rfl) (hrow1.cells (by simp)) (by simp) rfl (by omega) (by simp [scalarV]) (by rw [pack_len]; omega) ?_
      intro v2 H2 hO2 ho2 hm2
      have hne1 : own v' ≠ some p := hO0.elem hb1 (by decide)
      have hb2 := ho2.oth _ _ hb1 hne1
      have hO2' : Own H2 5 1 v2 (by8 (pack M ++ [0])) := by simpa using hO2
      have hne2 : own v2 ≠ some p := hO2.elem hb2 (by decide)
      try simp -implicitDefEqProofs (maxSteps := 1000000) (disch := first | omega | assumption) only [h0, Sx, reduceIte, Nat.reduceEqDiff, reduceCtorEq, Nat.reduceAdd, Nat.reduceSub, Nat.reduceLT]
      refine st_one hb2 (by simp) (hO2.scalar) ?_
      try simp -implicitDefEqProofs (maxSteps := 1000000) (disch := first | omega | assumption) only [h0, Sx, reduceIte, Nat.reduceEqDiff, reduceCtorEq, Nat.reduceAdd, Nat.reduceSub, Nat.reduceLT]
      have ho3 : Only (· = p) H2 (H2.set p (.cells #[v2, .int .i64 M.length] 26 (0, 0))) := (Only.refl _ _).set (.inl rfl)
      refine wput_tail (M := M) (xs := pack M ++ [0]) (j := (pack M).length) (i := i) (n := n) (x := x) set_same (hO2'.only ho3 fun q hq e => hne2 (e ▸ hq)) (by rw [if_pos h8]) (by simp) (by omega) (by omega) hx0 hx32 (by simp -implicitDefEqProofs (maxSteps := 1000000) (disch := first | omega | assumption) only [h0, Sx, reduceIte, Nat.reduceEqDiff, reduceCtorEq, Nat.reduceAdd, Nat.reduceSub, Nat.reduceLT]) (by simp -implicitDefEqProofs (maxSteps := 1000000) (disch := first | omega | assumption) only [h1, Sx, reduceIte, Nat.reduceEqDiff, reduceCtorEq, Nat.reduceAdd, Nat.reduceSub, Nat.reduceLT]) (by simp -implicitDefEqProofs (maxSteps := 1000000) (disch := first | omega | assumption) only [h22, Sx, reduceIte, Nat.reduceEqDiff, reduceCtorEq, Nat.reduceAdd, Nat.reduceSub, Nat.reduceLT]) ?_
      intro env' H4 henv hW4 hO4
      have g0 : env' 0 = .pointer (some ⟨p, 0, none⟩) := (henv 0 (by omega)).trans (by simp -implicitDefEqProofs (maxSteps := 1000000) (disch := first | omega | assumption) only [h0, Sx, reduceIte, Nat.reduceEqDiff, reduceCtorEq, Nat.reduceAdd, Nat.reduceSub, Nat.reduceLT])
      have g1 : env' 1 = .int .u32 x := (henv 1 (by omega)).trans (by simp -implicitDefEqProofs (maxSteps := 1000000) (disch := first | omega | assumption) only [h1, Sx, reduceIte, Nat.reduceEqDiff, reduceCtorEq, Nat.reduceAdd, Nat.reduceSub, Nat.reduceLT])
      have g21 : env' 21 = .int .i64 n := (henv 21 (by omega)).trans (by simp -implicitDefEqProofs (maxSteps := 1000000) (disch := first | omega | assumption) only [h21, Sx, reduceIte, Nat.reduceEqDiff, reduceCtorEq, Nat.reduceAdd, Nat.reduceSub, Nat.reduceLT])
      have g22 : env' 22 = .int .i64 i := (henv 22 (by omega)).trans (by simp -implicitDefEqProofs (maxSteps := 1000000) (disch := first | omega | assumption) only [h22, Sx, reduceIte, Nat.reduceEqDiff, reduceCtorEq, Nat.reduceAdd, Nat.reduceSub, Nat.reduceLT])
      rw [b_normal, t_normal]
      unfold L10_1
      simp -implicitDefEqProofs (maxSteps := 1000000) (disch := first | omega | assumption) only [g0, g1, g21, g22, Sx, reduceIte, Nat.reduceEqDiff, reduceCtorEq, Nat.reduceAdd, Nat.reduceSub, Nat.reduceLT]
      refine ⟨k - 1, by omega, i + 1, v2, by omega, by trivial, by trivial, by trivial, by simp, ?_, ?_⟩
      · rw [low_snoc, ← List.append_assoc, ← hM]
        exact hW4
      · refine hC.trans (v1 := v') ⟨?_, ?_⟩
        · have t1 : Only (fun q => q = p ∨ own v' = some q) H' H2 := ((Only.of_keep hk1).trans ho2 fun q hq => .inl (.inr hq))
          have t2 : Only (fun q => q = p ∨ own v' = some q) H' _ := t1.trans ho3 fun q hq => .inl (.inl hq)
          refine t2.trans hO4 fun q hq => ?_
          rcases hq with hq | hq
          · exact .inl (.inl hq)
          · rcases hm2 with e | ⟨r, e, hr⟩
            · exact .inl (.inr (e ▸ hq))
            · rw [e] at hq; cases hq; exact .inr (hk1.none hr)
        · rcases hm2 with e | ⟨r, e, hr⟩
          · exact .inl e
          · exact .inr ⟨r, e, hk1.none hr⟩
    · have e8 : ((M.length : Int) % 8 == 0) = false := by rw [beq_eq_false_iff_ne]; omega
      simp -implicitDefEqProofs (maxSteps := 1000000) (disch := first | omega | assumption) only [h0, h1, h21, h22, cell_of hW.blk, e8, Sx, reduceIte, Nat.reduceEqDiff, reduceCtorEq, Nat.reduceAdd, Nat.reduceSub, Nat.reduceLT]
      have hpl := pack_len M
      refine wput_tail (M := M) (xs := pack M) (j := (pack M).length - 1) (i := i) (n := n) (x := x) hW.blk hW.row (by rw [if_neg h8]) (by omega) (by omega) (by omega) hx0 hx32 (by simp -implicitDefEqProofs (maxSteps := 1000000) (disch := first | omega | assumption) only [h0, Sx, reduceIte, Nat.reduceEqDiff, reduceCtorEq, Nat.reduceAdd, Nat.reduceSub, Nat.reduceLT]) (by simp -implicitDefEqProofs (maxSteps := 1000000) (disch := first | omega | assumption) only [h1, Sx, reduceIte, Nat.reduceEqDiff, reduceCtorEq, Nat.reduceAdd, Nat.reduceSub, Nat.reduceLT]) (by simp -implicitDefEqProofs (maxSteps := 1000000) (disch := first | omega | assumption) only [h22, Sx, reduceIte, Nat.reduceEqDiff, reduceCtorEq, Nat.reduceAdd, Nat.reduceSub, Nat.reduceLT]) ?_
      intro env' H4 henv hW4 hO4
      have g0 : env' 0 = .pointer (some ⟨p, 0, none⟩) := (henv 0 (by omega)).trans (by simp -implicitDefEqProofs (maxSteps := 1000000) (disch := first | omega | assumption) only [h0, Sx, reduceIte, Nat.reduceEqDiff, reduceCtorEq, Nat.reduceAdd, Nat.reduceSub, Nat.reduceLT])
      have g1 : env' 1 = .int .u32 x := (henv 1 (by omega)).trans (by simp -implicitDefEqProofs (maxSteps := 1000000) (disch := first | omega | assumption) only [h1, Sx, reduceIte, Nat.reduceEqDiff, reduceCtorEq, Nat.reduceAdd, Nat.reduceSub, Nat.reduceLT])
      have g21 : env' 21 = .int .i64 n := (henv 21 (by omega)).trans (by simp -implicitDefEqProofs (maxSteps := 1000000) (disch := first | omega | assumption) only [h21, Sx, reduceIte, Nat.reduceEqDiff, reduceCtorEq, Nat.reduceAdd, Nat.reduceSub, Nat.reduceLT])
      have g22 : env' 22 = .int .i64 i := (henv 22 (by omega)).trans (by simp -implicitDefEqProofs (maxSteps := 1000000) (disch := first | omega | assumption) only [h22, Sx, reduceIte, Nat.reduceEqDiff, reduceCtorEq, Nat.reduceAdd, Nat.reduceSub, Nat.reduceLT])
      rw [b_normal, t_normal]
      unfold L10_1
      simp -implicitDefEqProofs (maxSteps := 1000000) (disch := first | omega | assumption) only [g0, g1, g21, g22, Sx, reduceIte, Nat.reduceEqDiff, reduceCtorEq, Nat.reduceAdd, Nat.reduceSub, Nat.reduceLT]
      refine ⟨k - 1, by omega, i + 1, v', by omega, by trivial, by trivial, by trivial, by simp, ?_, ?_⟩
      · rw [low_snoc, ← List.append_assoc, ← hM]
        exact hW4
      · exact hC.trans ⟨hO4, .inl rfl⟩
  · have : i = n := by omega
    subst this
    try simp -implicitDefEqProofs (maxSteps := 1000000) (disch := first | omega | assumption) only [Sx, reduceIte, Nat.reduceEqDiff, reduceCtorEq, Nat.reduceAdd, Nat.reduceSub, Nat.reduceLT]
    rw [hM] at hW
    exact ⟨by trivial, v', hW, hC⟩
end Go.Proofs.Ytfdcolicpfellaa.S05
