/-
  What the readers' printed functions come to: Take, Align, Left of both, over bits.
-/
import Derived.Test.YtfdcolicpfellaaReadsM3
import Derived.Test.YtfdcolicpfellaaPack
set_option linter.unusedVariables false
namespace Go.Proofs.Ytfdcolicpfellaa.ReadPure
open Go.RowKit Go.Proofs.Ytfdcolicpfellaa.PBitsReads Go.Proofs.YtfdcolicpfellaaW.PrintWords Go.Proofs.YtfdcolicpfellaaW.PrintLast Go.Proofs.YtfdcolicpfellaaW.PrintMore Go.Proofs.Ytfdcolicpfellaa.Pack

theorem w64 {x : Int} (h0 : -9223372036854775808 ≤ x) (h1 : x ≤ 9223372036854775807) : wrap64 x = x := by
  unfold wrap64; omega
theorem rdN (l : List Int) (i : Nat) (h : i < l.length) : rd l (i : Int) = l[i] := by
  simp [rd, List.getD_eq_getElem?_getD, h]
theorem pow_le31 {m : Nat} (hm : m < 32) : (2 : Int) ^ m ≤ 2147483648 := by
  have h4 : (2 : Nat) ^ m ≤ 2147483648 := Nat.pow_le_pow_right (n := 2) (j := 31) (by omega) (by omega)
  have h5 : ((2 ^ m : Nat) : Int) ≤ (2147483648 : Nat) := Int.ofNat_le.2 h4
  rw [Int.natCast_pow] at h5
  exact h5
theorem pow_pos (m : Nat) : (1 : Int) ≤ 2 ^ m := by exact_mod_cast Nat.one_le_two_pow

theorem low_get : ∀ (n : Nat) (v : Int) (i : Nat), i < n → (low n v)[i]? = some (v / 2 ^ i % 2 == 1) := by
  intro n
  induction n with
  | zero => intro v i h; omega
  | succ n ih =>
    intro v i h
    rcases Nat.lt_or_ge i n with h1 | h1
    · rw [low_snoc, List.getElem?_append_left (by rw [low_length]; exact h1), ih v i h1]
    · have : i = n := by omega
      subst this
      rw [low_snoc, List.getElem?_append_right (by rw [low_length]; omega), low_length]
      simp
theorem unpack_get : ∀ (xs : List Int) (i : Nat), i < 8 * xs.length → (unpack xs)[i]? = some (xs.getD (i / 8) 0 / 2 ^ (i % 8) % 2 == 1) := by
  intro xs
  induction xs with
  | nil => intro i h; simp at h
  | cons x xs ih =>
    intro i h
    rw [show unpack (x :: xs) = low 8 x ++ unpack xs from rfl]
    rcases Nat.lt_or_ge i 8 with h1 | h1
    · rw [List.getElem?_append_left (by rw [low_length]; exact h1), low_get 8 x i h1, show i / 8 = 0 by omega, show i % 8 = i by omega]
      simp
    · rw [List.getElem?_append_right (by rw [low_length]; exact h1), low_length, ih (i - 8) (by simp at h; omega), show i / 8 = (i - 8) / 8 + 1 by omega, show i % 8 = (i - 8) % 8 by omega]
      simp

theorem or_add32 (x y : Int) (m : Nat) (hm : m < 32) (h0 : 0 ≤ x) (h1 : x < 2 ^ m) (b : Bool) (hy : y = b2i b * 2 ^ m) : Go.bits .or .u32 x y = x + y := by
  have hp := pow_le31 hm
  have hb := b2i_range b
  have hy0 : 0 ≤ y ∧ y < 4294967296 := by
    subst hy
    cases b
    · simp [b2i]
    · have := pow_pos m
      simp only [b2i, if_true, Int.one_mul]; omega
  rw [u32_or x y h0 (by omega) hy0.1 hy0.2]
  obtain ⟨a, rfl⟩ := Int.eq_ofNat_of_zero_le h0
  have ha : a < 2 ^ m := by exact_mod_cast h1
  subst hy
  cases b
  · simp [b2i]
  · have e : (b2i true * 2 ^ m : Int) = ((2 ^ m : Nat) : Int) := by simp [b2i]
    rw [e]
    simp only [Int.toNat_natCast]
    have h3 := Nat.two_pow_add_eq_or_of_lt ha 1
    rw [Nat.mul_one] at h3
    rw [Nat.or_comm, ← h3]
    push_cast
    omega

/-! ### the code's reader -/
theorem bit_f (bs : List Int) (hbs : ∀ x ∈ bs, 0 ≤ x ∧ x < 256) (hl : bs.length ≤ 17592186044416) (at_ i : Nat) (h : at_ + i < 8 * bs.length) : ∃ b, (unpack bs)[at_ + i]? = some b ∧ bits_Reader_bit.f bs at_ i = some (b2i b, (at_ : Int)) := by
  refine ⟨_, unpack_get bs _ h, ?_⟩
  unfold bits_Reader_bit.f
  have hq : (at_ + i) / 8 < bs.length := by omega
  have hr : (at_ + i) % 8 < 8 := Nat.mod_lt _ (by omega)
  have e1 : wrap64 ((i : Int) + at_) = ((at_ + i : Nat) : Int) := by rw [w64 (by omega) (by omega)]; omega
  have e2 : wrap64 (Int.tdiv ((at_ + i : Nat) : Int) 8) = (((at_ + i) / 8 : Nat) : Int) := by rw [Int.tdiv_eq_ediv_of_nonneg (by omega), w64 (by omega) (by omega)]; omega
  have e3 : Int.tmod ((at_ + i : Nat) : Int) 8 = (((at_ + i) % 8 : Nat) : Int) := by rw [Int.tmod_eq_emod_of_nonneg (by omega)]; omega
  rw [e1, e2, e3, if_pos (by omega), if_pos (by omega), if_pos (by omega), rdN bs _ hq]
  have hm := hbs _ (List.getElem_mem hq)
  obtain ⟨x, hx⟩ : ∃ x, x = bs[(at_ + i) / 8] := ⟨_, rfl⟩
  have hg : bs.getD ((at_ + i) / 8) 0 = x := by simp [List.getD_eq_getElem?_getD, hq, hx]
  rw [← hx] at hm ⊢
  rw [hg]
  have hsh : shr .u8 x (((at_ + i) % 8 : Nat) : Int) = x / 2 ^ ((at_ + i) % 8) := by
    unfold shr
    rw [show min ((((at_ + i) % 8 : Nat) : Int)).toNat IntKind.u8.bits = (at_ + i) % 8 by simp [IntKind.bits]; omega]
  rw [hsh]
  have h0 : 0 ≤ x / 2 ^ ((at_ + i) % 8) := Int.ediv_nonneg hm.1 (by have := pow_pos ((at_ + i) % 8); omega)
  have h1 : x / 2 ^ ((at_ + i) % 8) ≤ x := Int.ediv_le_self _ hm.1
  rw [show x / 2 ^ ((at_ + i) % 8) % 4294967296 = x / 2 ^ ((at_ + i) % 8) by omega, bit_of _ h0 (by omega)]

def takeV (L : List Bool) (at_ : Nat) (n : Int) : Int × Int × Int :=
  if n < 0 ∨ 32 < n then (0, 1, (at_ : Int)) else if (L.length : Int) - at_ < n then (0, 50, (at_ : Int)) else (numOf ((L.drop at_).take n.toNat), 0, at_ + n)

theorem take_succ (L : List Bool) (at_ i : Nat) (b : Bool) (h : L[at_ + i]? = some b) : (L.drop at_).take (i + 1) = (L.drop at_).take i ++ [b] := by
  rw [List.take_add_one, List.getElem?_drop, h]; rfl
theorem take_len (L : List Bool) (at_ i : Nat) (h : at_ + i ≤ L.length) : ((L.drop at_).take i).length = i := by simp; omega

theorem take_l (bs : List Int) (hbs : ∀ x ∈ bs, 0 ≤ x ∧ x < 256) (hl : bs.length ≤ 17592186044416) (at_ n : Nat) (hn : n ≤ 32) (h : at_ + n ≤ 8 * bs.length) : ∀ (d i : Nat), n = i + d →
    Ev (fun k => bits_Reader_Take.l0 k n (numOf (((unpack bs).drop at_).take i)) n i bs at_) (numOf (((unpack bs).drop at_).take n), 0, (at_ : Int) + n) := by
  intro d
  induction d with
  | zero =>
    intro i hd
    have : i = n := by omega
    subst this
    refine Ev.step (f := fun _ => some (numOf (((unpack bs).drop at_).take i), 0, (at_ : Int) + i)) (fun k => ?_) (Ev.now _)
    simp only [bits_Reader_Take.l0]
    rw [if_neg (by omega), w64 (by omega) (by omega)]
  | succ d ih =>
    intro i hd
    obtain ⟨b, hb, hf⟩ := bit_f bs hbs hl at_ i (by omega)
    refine Ev.step (fun k => ?_) (ih (i + 1) (by omega))
    simp only [bits_Reader_Take.l0]
    rw [if_pos (by omega), hf, Option.bind_some, if_pos (by omega), w64 (by omega) (by omega), take_succ _ _ _ _ hb, numOf_snoc, take_len _ _ _ (by rw [unpack_length]; omega)]
    have hr := numOf_range (((unpack bs).drop at_).take i)
    rw [take_len _ _ _ (by rw [unpack_length]; omega)] at hr
    have hs : shl .u32 (b2i b) (i : Int) = b2i b * 2 ^ i := by
      unfold shl
      rw [show min ((i : Int)).toNat IntKind.u32.bits = i by simp [IntKind.bits]; omega, IntKind.wrap_u32]
      have hp := pow_le31 (m := i) (by omega)
      have hp0 := pow_pos i
      cases b
      · simp [b2i]
      · simp only [b2i, if_true]; omega
    rw [hs, or_add32 _ _ i (by omega) hr.1 hr.2 b rfl]
    rfl
theorem take_f (bs : List Int) (hbs : ∀ x ∈ bs, 0 ≤ x ∧ x < 256) (hl : bs.length ≤ 17592186044416) (at_ : Nat) (h : at_ ≤ 8 * bs.length) (n : Int) (hn0 : -9223372036854775808 ≤ n) (hn1 : n ≤ 9223372036854775807) :
    Ev (fun k => bits_Reader_Take.f k bs at_ n) (takeV (unpack bs) at_ n) := by
  have hL := unpack_length bs
  have go : n < 0 ∨ 32 < n → Ev (fun k => bits_Reader_Take.j0 k n true bs at_) (0, 1, (at_ : Int)) := fun _ => by
    refine Ev.step (f := fun _ => some (0, 1, (at_ : Int))) (fun k => ?_) (Ev.now _)
    simp only [bits_Reader_Take.j0]
    rfl
  unfold takeV bits_Reader_Take.f
  by_cases h1 : n < 0
  · simp only [if_pos h1, if_pos (show n < 0 ∨ 32 < n from .inl h1)]
    exact go (.inl h1)
  · simp only [if_neg h1]
    by_cases h2 : 32 < n
    · rw [if_pos (.inr h2)]
      simp only [show decide (n > 32) = true from decide_eq_true h2]
      exact go (.inr h2)
    · rw [if_neg (by omega)]
      simp only [show decide (n > 32) = false from decide_eq_false h2]
      obtain ⟨m, rfl⟩ := Int.eq_ofNat_of_zero_le (show 0 ≤ n by omega)
      have el : bits_Reader_left.f bs (at_ : Int) = some (((8 * bs.length - at_ : Nat) : Int), (at_ : Int)) := by
        unfold bits_Reader_left.f
        rw [w64 (x := 8 * (bs.length : Int)) (by omega) (by omega), w64 (by omega) (by omega)]
        simp; omega
      by_cases h3 : ((unpack bs).length : Int) - at_ < m
      · rw [if_pos h3]
        refine Ev.step (f := fun _ => some (0, 50, (at_ : Int))) (fun k => ?_) (Ev.now _)
        simp only [bits_Reader_Take.j0]
        rw [if_neg (by simp), el, Option.bind_some, if_pos (by simp only []; omega)]
      · rw [if_neg h3]
        refine Ev.step (fun k => ?_) (take_l bs hbs hl at_ m (by omega) (by omega) m 0 (by omega))
        simp only [bits_Reader_Take.j0]
        rw [if_neg (by simp), el, Option.bind_some, if_neg (by simp only []; omega)]
        rfl
theorem align_f (bs : List Int) (at_ : Nat) (h : at_ ≤ 140737488355328) : bits_Reader_Align.f bs at_ = some (((at_ + 7) / 8 * 8 : Nat) : Int) := by
  unfold bits_Reader_Align.f
  rw [w64 (x := (at_ : Int) + 7) (by omega) (by omega), Int.tdiv_eq_ediv_of_nonneg (by omega), w64 (x := ((at_ : Int) + 7) / 8) (by omega) (by omega), w64 (by omega) (by omega)]
  simp
theorem left_f (bs : List Int) (hl : bs.length ≤ 17592186044416) (at_ : Nat) (h : at_ ≤ 8 * bs.length) : bits_Reader_Left.f bs at_ = some (((8 * bs.length - at_ : Nat) : Int), (at_ : Int)) := by
  unfold bits_Reader_Left.f
  rw [w64 (x := 8 * (bs.length : Int)) (by omega) (by omega), w64 (by omega) (by omega)]
  simp; omega

/-! ### the document's reader -/
theorem rtake_l (L : List Bool) (hL : L.length ≤ 140737488355328) (at_ n : Nat) (hn : n ≤ 32) (h : at_ + n ≤ L.length) : ∀ (d i : Nat), n = i + d →
    Ev (fun k => satchelref05_Reader_Take.l0 k n (numOf ((L.drop at_).take i)) (2 ^ i % 4294967296) i (L.map b2i) (at_ + i : Nat)) (numOf ((L.drop at_).take n), 0, (at_ : Int) + n) := by
  intro d
  induction d with
  | zero =>
    intro i hd
    have : i = n := by omega
    subst this
    refine Ev.step (f := fun _ => some (numOf ((L.drop at_).take i), 0, (at_ : Int) + i)) (fun k => ?_) (Ev.now _)
    simp only [satchelref05_Reader_Take.l0]
    rw [if_neg (by omega)]
    simp
  | succ d ih =>
    intro i hd
    have hlt : at_ + i < L.length := by omega
    have hb : L[at_ + i]? = some L[at_ + i] := List.getElem?_eq_getElem hlt
    obtain ⟨b, hbb⟩ : ∃ b, b = L[at_ + i] := ⟨_, rfl⟩
    rw [← hbb] at hb
    have hg : rd (L.map b2i) ((at_ + i : Nat) : Int) = b2i b := by rw [rdN _ _ (by simpa using hlt)]; simp [hbb]
    have hr := numOf_range ((L.drop at_).take i)
    rw [take_len _ _ _ (by omega)] at hr
    have hp := pow_le31 (m := i) (by omega)
    have hp0 := pow_pos i
    have hw : (2 : Int) ^ i % 4294967296 * 2 % 4294967296 = 2 ^ (i + 1) % 4294967296 := by rw [Int.pow_succ]; omega
    have ih' := ih (i + 1) (by omega)
    rw [take_succ _ _ _ _ hb, numOf_snoc, take_len _ _ _ (by omega)] at ih'
    refine Ev.step (fun k => ?_) ih'
    simp only [satchelref05_Reader_Take.l0]
    rw [if_pos (by omega), if_pos (by omega), if_pos (by simp; omega), hg, w64 (x := (i : Int) + 1) (by omega) (by omega), w64 (x := ((at_ + i : Nat) : Int) + 1) (by omega) (by omega), hw]
    cases b
    · rw [if_neg (by simp [b2i])]
      simp [b2i, Int.add_assoc]
    · rw [if_pos (by simp [b2i])]
      rw [show (numOf ((L.drop at_).take i) + 2 ^ i % 4294967296) % 4294967296 = numOf ((L.drop at_).take i) + b2i true * 2 ^ i by simp only [b2i, if_true]; omega]
      simp [Int.add_assoc]
theorem rtake_f (L : List Bool) (hL : L.length ≤ 140737488355328) (at_ : Nat) (h : at_ ≤ L.length) (n : Int) (hn0 : -9223372036854775808 ≤ n) (hn1 : n ≤ 9223372036854775807) :
    Ev (fun k => satchelref05_Reader_Take.f k (L.map b2i) at_ n) (takeV L at_ n) := by
  have go : n < 0 ∨ 32 < n → Ev (fun k => satchelref05_Reader_Take.j0 k n true (L.map b2i) at_) (0, 1, (at_ : Int)) := fun _ => by
    refine Ev.step (f := fun _ => some (0, 1, (at_ : Int))) (fun k => ?_) (Ev.now _)
    simp only [satchelref05_Reader_Take.j0]
    rfl
  unfold takeV satchelref05_Reader_Take.f
  by_cases h1 : n < 0
  · simp only [if_pos h1, if_pos (show n < 0 ∨ 32 < n from .inl h1)]
    exact go (.inl h1)
  · simp only [if_neg h1]
    by_cases h2 : 32 < n
    · rw [if_pos (.inr h2)]
      simp only [show decide (n > 32) = true from decide_eq_true h2]
      exact go (.inr h2)
    · rw [if_neg (by omega)]
      simp only [show decide (n > 32) = false from decide_eq_false h2]
      obtain ⟨m, rfl⟩ := Int.eq_ofNat_of_zero_le (show 0 ≤ n by omega)
      have el : wrap64 (((L.map b2i).length : Int) - (at_ : Int)) = (L.length : Int) - at_ := by rw [List.length_map, w64 (by omega) (by omega)]
      by_cases h3 : (L.length : Int) - at_ < m
      · rw [if_pos h3]
        refine Ev.step (f := fun _ => some (0, 50, (at_ : Int))) (fun k => ?_) (Ev.now _)
        simp only [satchelref05_Reader_Take.j0]
        rw [if_neg (by simp), el, if_pos (by omega)]
      · rw [if_neg h3]
        refine Ev.step (fun k => ?_) (rtake_l L hL at_ m (by omega) (by omega) m 0 (by omega))
        simp only [satchelref05_Reader_Take.j0]
        rw [if_neg (by simp), el, if_neg (by omega)]
        rfl
theorem ralign_l (M : List Int) : ∀ (d at_ : Nat), (at_ + 7) / 8 * 8 = at_ + d → at_ ≤ 140737488355328 → Ev (fun k => satchelref05_Reader_Align.l0 k M at_) (((at_ + 7) / 8 * 8 : Nat) : Int) := by
  intro d
  induction d with
  | zero =>
    intro at_ hd h
    refine Ev.step (f := fun _ => some (at_ : Int)) (fun k => ?_) ⟨0, by simp [hd]⟩
    simp only [satchelref05_Reader_Align.l0]
    rw [Int.tmod_eq_emod_of_nonneg (by omega), if_pos (by omega)]
  | succ d ih =>
    intro at_ hd h
    have h2 := ih (at_ + 1) (by omega) (by omega)
    rw [show (at_ + 1 + 7) / 8 * 8 = (at_ + 7) / 8 * 8 by omega] at h2
    refine Ev.step (fun k => ?_) h2
    simp only [satchelref05_Reader_Align.l0]
    rw [Int.tmod_eq_emod_of_nonneg (by omega), if_neg (by omega), w64 (by omega) (by omega)]
    rfl
theorem ralign_f (M : List Int) (at_ : Nat) (h : at_ ≤ 1407374883553) : Ev (fun k => satchelref05_Reader_Align.f k M at_) (((at_ + 7) / 8 * 8 : Nat) : Int) := ralign_l M ((at_ + 7) / 8 * 8 - at_) at_ (by omega) (by omega)
theorem rleft_f (L : List Bool) (hL : L.length ≤ 140737488355328) (at_ : Nat) (h : at_ ≤ L.length) : satchelref05_Reader_Left.f (L.map b2i) at_ = some (((L.length - at_ : Nat) : Int), (at_ : Int)) := by
  unfold satchelref05_Reader_Left.f
  rw [List.length_map, w64 (by omega) (by omega)]
  simp; omega
end Go.Proofs.Ytfdcolicpfellaa.ReadPure
