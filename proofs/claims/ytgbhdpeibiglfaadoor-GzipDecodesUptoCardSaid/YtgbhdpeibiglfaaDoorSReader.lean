/-
  bits.Reader, over memory in parts.
-/
import Derived.Test.YtgbhdpeibiglfaaDoorLowB
import Derived.Test.YtgbhdpeibiglfaaDoorSWriter
import Derived.Test.YtgbhdpeibiglfaaDoorCodeLaw
set_option linter.unusedVariables false
set_option linter.unusedSimpArgs false
namespace Go.Proofs.YtgbhdpeibiglfaaDoor.S05
open Go Go.RowKit Go.Proofs.YtgbhdpeibiglfaaDoor.Sep Go.Proofs.YtgbhdpeibiglfaaDoor.Low Go.Proofs.YtgbhdpeibiglfaaDoor.Pack Go.Proofs.YtgbhdpeibiglfaaDoor.BitLaw

/-- a Reader at block p, of bytes bs, at_ bits of which were taken -/
structure RAt (H : Heap) (p : Nat) (a : Option Addr) (c : Nat) (bs : List Int) (at_ : Nat) : Prop where
  blk : H p = some (.cells #[.slice a bs.length c, .int .i64 (at_ : Int)] 90 (0, 0))
  row : Row H a (by8 bs)
  cap : bs.length ≤ c
  byte : ∀ x ∈ bs, 0 ≤ x ∧ x < 256
  small : bs.length ≤ 211106232532992
  le : at_ ≤ 8 * bs.length
  ne : ∀ b, a = some b → b.block ≠ p
theorem Row.only {S : Nat → Prop} {H H' : Heap} {a : Option Addr} {cs : List Value} (h : Row H a cs) (ho : Only S H H') (hne : ∀ b, a = some b → ¬ S b.block) : Row H' a cs := fun i v hv => by
  obtain ⟨b, rfl, hb⟩ := h i v hv
  refine ⟨b, rfl, ?_⟩
  have hk := Heap.cell_known hb
  unfold Heap.cell? at hb ⊢
  cases e : H (b.add i).block with
  | none => rw [e] at hb; cases hb
  | some o =>
    rw [e] at hb
    rw [ho.oth _ _ e (by rw [block_add]; exact hne b rfl)]
    exact hb
theorem RAt.only {S : Nat → Prop} {H H' : Heap} {p : Nat} {a : Option Addr} {c : Nat} {bs : List Int} {at_ : Nat} (h : RAt H p a c bs at_) (ho : Only S H H') (h1 : ¬ S p) (h2 : ∀ b, a = some b → ¬ S b.block) : RAt H' p a c bs at_ :=
  ⟨ho.oth _ _ h.blk h1, Row.only h.row ho h2, h.cap, h.byte, h.small, h.le, h.ne⟩
/-- gone on -/
theorem RAt.set {H : Heap} {p : Nat} {a : Option Addr} {c : Nat} {bs : List Int} {at_ to : Nat} (h : RAt H p a c bs at_) (hle : to ≤ 8 * bs.length) : RAt (H.set p (.cells #[.slice a bs.length c, .int .i64 (to : Int)] 90 (0, 0))) p a c bs to :=
  ⟨set_same, Row.only (S := (· = p)) h.row ((Only.refl _ _).set (.inl rfl)) h.ne, h.cap, h.byte, h.small, hle, h.ne⟩

theorem left_spec {H : Heap} {p : Nat} {a : Option Addr} {c : Nat} {bs : List Int} {at_ : Nat} (h : RAt H p a c bs at_) :
    ACalls Tryd.prog 82 [Value.pointer (some ⟨p, 0, none⟩)].toArray H fun e H' => e = .returned (.int .i64 ((8 * bs.length - at_ : Nat) : Int)) ∧ H' = H := by
  have := h.le
  have := h.small
  have e1 : (8 * (bs.length : Int) - at_) = ((8 * bs.length - at_ : Nat) : Int) := by omega
  refine call82 (Nat.le_of_ble_eq_true rfl) ?_
  unfold L82 env0
  simp -implicitDefEqProofs (maxSteps := 1000000) (disch := first | omega | assumption) only [cell_of h.blk, e1, Sx, Nat.reduceEqDiff, reduceCtorEq]
  exact ⟨by trivial, by trivial⟩
theorem bleft_spec {H : Heap} {p : Nat} {a : Option Addr} {c : Nat} {bs : List Int} {at_ : Nat} (h : RAt H p a c bs at_) :
    ACalls Tryd.prog 57 [Value.pointer (some ⟨p, 0, none⟩)].toArray H fun e H' => e = .returned (.int .i64 ((8 * bs.length - at_ : Nat) : Int)) ∧ H' = H := by
  have := h.le
  have := h.small
  have e1 : (8 * (bs.length : Int) - at_) = ((8 * bs.length - at_ : Nat) : Int) := by omega
  refine call57 (Nat.le_of_ble_eq_true rfl) ?_
  unfold L57 env0
  simp -implicitDefEqProofs (maxSteps := 1000000) (disch := first | omega | assumption) only [cell_of h.blk, e1, Sx, Nat.reduceEqDiff, reduceCtorEq]
  exact ⟨by trivial, by trivial⟩

theorem bit_spec {H : Heap} {p : Nat} {a : Option Addr} {c : Nat} {bs : List Int} {at_ i : Nat} (h : RAt H p a c bs at_) (hi : at_ + i < 8 * bs.length) :
    ∃ b, (unpack bs)[at_ + i]? = some b ∧ ACalls Tryd.prog 83 [Value.pointer (some ⟨p, 0, none⟩), .int .i64 i].toArray H fun e H' => e = .returned (.int .u32 (b2i b)) ∧ H' = H := by
  refine ⟨_, unpack_get bs _ hi, ?_⟩
  have hsm := h.small
  have hq : (at_ + i) / 8 < bs.length := by omega
  obtain ⟨q, rfl, hc⟩ := h.row.at (i := (at_ + i) / 8) (by simpa using hq)
  have hm := h.byte _ (List.getElem_mem hq)
  obtain ⟨x, hx⟩ : ∃ x, x = bs[(at_ + i) / 8] := ⟨_, rfl⟩
  have hg : bs.getD ((at_ + i) / 8) 0 = x := by simp [List.getD_eq_getElem?_getD, hq, hx]
  simp only [List.getElem_map] at hc
  rw [← hx] at hm hc
  rw [hg]
  have h0 : 0 ≤ x / 2 ^ ((at_ + i) % 8) := Int.ediv_nonneg hm.1 (by have := pow_pos ((at_ + i) % 8); omega)
  have h1 : x / 2 ^ ((at_ + i) % 8) ≤ x := Int.ediv_le_self _ hm.1
  have e1 : ((i : Int) + at_) = ((at_ + i : Nat) : Int) := by omega
  have e2 : (((at_ + i : Nat) : Int) / 8) = (((at_ + i) / 8 : Nat) : Int) := by omega
  have e3 : (((at_ + i : Nat) : Int) % 8) = (((at_ + i) % 8 : Nat) : Int) := by omega
  have e4 : min ((at_ + i) % 8) 8 = (at_ + i) % 8 := by omega
  have e5 : x.fdiv (2 ^ ((at_ + i) % 8)) = x / 2 ^ ((at_ + i) % 8) := Int.fdiv_eq_ediv_of_nonneg _ (by have := pow_pos ((at_ + i) % 8); omega)
  have e6 : IntKind.u32.wrap (x / 2 ^ ((at_ + i) % 8)) = x / 2 ^ ((at_ + i) % 8) := w_u32 ⟨h0, by omega⟩
  have e7 := bit_of _ h0 (by omega)
  refine call83 (Nat.le_of_ble_eq_true rfl) ?_
  unfold L83 env0
  simp -implicitDefEqProofs (maxSteps := 1000000) (disch := first | omega | assumption) only [cell_of h.blk, e1, e2, e3, e4, e5, e6, e7, hc, Sx, Nat.reduceEqDiff, reduceCtorEq]
  exact ⟨by trivial, by trivial⟩

theorem ralign_spec {H : Heap} {p : Nat} {a : Option Addr} {c : Nat} {bs : List Int} {at_ : Nat} (h : RAt H p a c bs at_) :
    ACalls Tryd.prog 65 [Value.pointer (some ⟨p, 0, none⟩)].toArray H fun e H' => e = .returned (.tuple #[]) ∧ RAt H' p a c bs ((at_ + 7) / 8 * 8) ∧ Only (· = p) H H' := by
  have := h.le
  have := h.small
  have e1 : ((at_ : Int) + 7) / 8 * 8 = (((at_ + 7) / 8 * 8 : Nat) : Int) := by omega
  refine call65 (Nat.le_of_ble_eq_true rfl) ?_
  unfold L65 env0
  simp -implicitDefEqProofs (maxSteps := 1000000) (disch := first | omega | assumption) only [cell_of h.blk, e1, Sx, Nat.reduceEqDiff, reduceCtorEq]
  refine st_one h.blk (by simp) (by rfl) ?_
  try simp -implicitDefEqProofs (maxSteps := 1000000) (disch := first | omega | assumption) only [Sx]
  exact ⟨by trivial, h.set (by omega), (Only.refl _ _).set (.inl rfl)⟩

theorem take_short {H : Heap} {p : Nat} {a : Option Addr} {c : Nat} {bs : List Int} {at_ n : Nat} (h : RAt H p a c bs at_) (hn : n ≤ 32) (hs : 8 * bs.length < at_ + n) :
    ACalls Tryd.prog 64 [Value.pointer (some ⟨p, 0, none⟩), .int .i64 n].toArray H fun e H' => e = .returned (.tuple #[.int .u32 0, .int .i64 50]) ∧ H' = H := by
  refine call64 (Nat.le_of_ble_eq_true rfl) ?_
  unfold L64 env0
  have f1 : decide ((n : Int) < 0) = false := decide_eq_false (by omega)
  have f2 : decide (32 < (n : Int)) = false := decide_eq_false (by omega)
  have f3 : decide (((8 * bs.length - at_ : Nat) : Int) < (n : Int)) = true := decide_eq_true (by have := h.le; omega)
  simp -implicitDefEqProofs (maxSteps := 1000000) (disch := first | omega | assumption) only [l_g, f1, f2, Sx, Nat.reduceEqDiff, reduceCtorEq]
  refine a_call (left_spec h) ?_
  rintro e H1 ⟨rfl, rfl⟩
  simp -implicitDefEqProofs (maxSteps := 1000000) (disch := first | omega | assumption) only [endK, f3, Sx, Nat.reduceEqDiff]
  exact ⟨by trivial, by trivial⟩
theorem take_spec {H : Heap} {p : Nat} {a : Option Addr} {c : Nat} {bs : List Int} {at_ n : Nat} (h : RAt H p a c bs at_) (hn : n ≤ 32) (hs : at_ + n ≤ 8 * bs.length) :
    ACalls Tryd.prog 64 [Value.pointer (some ⟨p, 0, none⟩), .int .i64 n].toArray H fun e H' => e = .returned (.tuple #[.int .u32 (numOf (((unpack bs).drop at_).take n)), .int .i64 0]) ∧ RAt H' p a c bs (at_ + n) ∧ Only (· = p) H H' := by
  have hsm := h.small
  refine call64 (Nat.le_of_ble_eq_true rfl) ?_
  unfold L64 env0
  have f1 : decide ((n : Int) < 0) = false := decide_eq_false (by omega)
  have f2 : decide (32 < (n : Int)) = false := decide_eq_false (by omega)
  have f3 : decide (((8 * bs.length - at_ : Nat) : Int) < (n : Int)) = false := decide_eq_false (by omega)
  simp -implicitDefEqProofs (maxSteps := 1000000) (disch := first | omega | assumption) only [l_g, f1, f2, Sx, Nat.reduceEqDiff, reduceCtorEq]
  refine a_call (left_spec h) ?_
  rintro e H1 ⟨rfl, rfl⟩
  simp -implicitDefEqProofs (maxSteps := 1000000) (disch := first | omega | assumption) only [endK, f3, Sx, Nat.reduceEqDiff]
  refine c_loop (fun k env H' => H' = H1 ∧ ∃ i, k + i = n ∧ env 0 = .pointer (some ⟨p, 0, none⟩) ∧ env 1 = .int .i64 n ∧ env 20 = .int .i64 n ∧ env 21 = .int .i64 i ∧ env 6 = .int .u32 (numOf (((unpack bs).drop at_).take i))) n ⟨rfl, 0, rfl, rfl, rfl, rfl, rfl, rfl⟩ ?_
  rintro k env H' ⟨rfl, i, hk, h0, h1, h20, h21, h6⟩
  unfold L64_0
  simp -implicitDefEqProofs (maxSteps := 1000000) (disch := first | omega | assumption) only [h20, h21, Sx]
  refine d_dec (fun hlt => ?_) (fun hge => ?_)
  · obtain ⟨b, hb, hcall⟩ := bit_spec h (i := i) (by omega)
    try simp -implicitDefEqProofs (maxSteps := 1000000) (disch := first | omega | assumption) only [h0, h21, h6, Sx, Nat.reduceEqDiff, reduceCtorEq]
    refine a_call hcall ?_
    rintro e H2 ⟨rfl, rfl⟩
    have hr := numOf_range (((unpack bs).drop at_).take i)
    rw [take_len _ _ _ (by rw [unpack_length]; omega)] at hr
    have hs2 : IntKind.u32.wrap (b2i b * 2 ^ min i 32) = b2i b * 2 ^ i := by
      rw [Nat.min_eq_left (by omega)]
      have hp := pow_le31 (m := i) (by omega)
      have hp0 := pow_pos i
      cases b
      · simp [b2i, w_u32]
      · simp only [b2i, if_true]; rw [w_u32 (by omega)]
    have hor := or_add32 _ _ i (by omega) hr.1 hr.2 b rfl
    have hn2 := numOf_snoc (((unpack bs).drop at_).take i) b
    rw [take_len _ _ _ (by rw [unpack_length]; omega), ← take_succ _ _ _ _ hb] at hn2
    simp -implicitDefEqProofs (maxSteps := 1000000) (disch := first | omega | assumption) only [endK, h0, h1, h20, h21, h6, hs2, hor, ← hn2, Sx, Nat.reduceEqDiff, reduceCtorEq]
    exact ⟨k - 1, by omega, by trivial, i + 1, by omega, by trivial, by trivial, by trivial, by simp, by trivial⟩
  · have : i = n := by omega
    subst this
    try simp -implicitDefEqProofs (maxSteps := 1000000) (disch := first | omega | assumption) only [h0, h1, cell_of h.blk, Sx, Nat.reduceEqDiff, reduceCtorEq]
    refine st_one h.blk (by simp) (by rfl) ?_
    try simp -implicitDefEqProofs (maxSteps := 1000000) (disch := first | omega | assumption) only [h6, Sx, Nat.reduceEqDiff]
    refine ⟨by trivial, ?_, (Only.refl _ _).set (.inl rfl)⟩
    have := h.set (to := at_ + i) hs
    simpa using this

theorem bytes_spec {H : Heap} {p : Nat} {a : Option Addr} {c : Nat} {bs : List Int} {at_ n : Nat} (h : RAt H p a c bs at_) (hn : n ≤ bs.length - (at_ + 7) / 8) :
    ACalls Tryd.prog 67 [Value.pointer (some ⟨p, 0, none⟩), .int .i64 n].toArray H fun e H' => ∃ v, e = .returned (.tuple #[v, .int .i64 0]) ∧ RAt H' p a c bs ((at_ + 7) / 8 * 8 + 8 * n) ∧ Own H' 5 1 v (by8 ((bs.drop ((at_ + 7) / 8)).take n)) ∧ Only (· = p) H H' ∧ Fresh H v := by
  have hle := h.le
  have hsm := h.small
  have hcap := h.cap
  have e1 : ((at_ : Int) + 7) / 8 * 8 = (((at_ + 7) / 8 * 8 : Nat) : Int) := by omega
  refine call67 (Nat.le_of_ble_eq_true rfl) ?_
  unfold L67 env0
  simp -implicitDefEqProofs (maxSteps := 1000000) (disch := first | omega | assumption) only [cell_of h.blk, e1, Sx, Nat.reduceEqDiff, reduceCtorEq]
  refine st_one h.blk (by simp) (by rfl) ?_
  have hR := h.set (to := (at_ + 7) / 8 * 8) (by omega)
  have f1 : decide ((n : Int) < 0) = false := decide_eq_false (by omega)
  simp -implicitDefEqProofs (maxSteps := 1000000) (disch := first | omega | assumption) only [f1, Sx, Nat.reduceEqDiff, reduceCtorEq]
  refine a_call (left_spec hR) ?_
  rintro e H1 ⟨rfl, rfl⟩
  have f2 : decide (((8 * bs.length - (at_ + 7) / 8 * 8 : Nat) : Int) / 8 < (n : Int)) = false := decide_eq_false (by omega)
  have e2 : (((at_ + 7) / 8 * 8 : Nat) : Int) / 8 = (((at_ + 7) / 8 : Nat) : Int) := by omega
  have e3 : (((at_ + 7) / 8 * 8 : Nat) : Int) + 8 * (n : Int) = (((at_ + 7) / 8 * 8 + 8 * n : Nat) : Int) := by omega
  have e4 : (((at_ + 7) / 8 : Nat) : Int) + (n : Int) = (((at_ + 7) / 8 + n : Nat) : Int) := by omega
  simp -implicitDefEqProofs (maxSteps := 1000000) (disch := first | omega | assumption) only [endK, f2, e2, e3, Sx, Nat.reduceEqDiff, reduceCtorEq]
  refine st_one set_same (by simp) (by rfl) ?_
  rw [set_set]
  have hR2 := h.set (to := (at_ + 7) / 8 * 8 + 8 * n) (by omega)
  simp -implicitDefEqProofs (maxSteps := 1000000) (disch := first | omega | assumption) only [e4, ev_slc_lohi, Sx, Nat.reduceEqDiff, reduceCtorEq]
  have e5 : (at_ + 7) / 8 + n - (at_ + 7) / 8 = n := by omega
  rw [e5]
  have hrow := (hR2.row.cut (c := c) (l := (at_ + 7) / 8) (sz := 1) (by simp; omega)).take n
  rw [Nat.mul_one] at hrow
  refine a_call (clone_spec hrow (by simp; omega) (fun v hv => by8_scalar _ v (List.mem_of_mem_drop (List.mem_of_mem_take hv))) (by omega)) ?_
  rintro e H1 ⟨v, rfl, hO, hk, hf⟩
  simp -implicitDefEqProofs (maxSteps := 1000000) (disch := first | omega | assumption) only [endK, Sx, Nat.reduceEqDiff]
  have ho : Only (· = p) H (H.set p (.cells #[.slice a bs.length c, .int .i64 (((at_ + 7) / 8 * 8 + 8 * n : Nat) : Int)] 90 (0, 0))) := (Only.refl _ _).set (.inl rfl)
  refine ⟨v, rfl, hR2.only (S := fun _ => False) (Only.of_keep hk) id (fun _ _ => id), by simpa [List.map_drop, List.map_take] using hO, ho.trans (Only.of_keep hk) (fun q hq => .inl hq), fun r hr => ho.none (hf r hr)⟩
end Go.Proofs.YtgbhdpeibiglfaaDoor.S05
