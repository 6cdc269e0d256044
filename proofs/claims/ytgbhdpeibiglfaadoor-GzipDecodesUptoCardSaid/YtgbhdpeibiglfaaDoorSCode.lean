/-
  Codes, plain: words as bits, what a code reads.
-/
import Derived.Test.YtgbhdpeibiglfaaDoorLowD
import Derived.Test.YtgbhdpeibiglfaaDoorBase
import Derived.Test.YtgbhdpeibiglfaaDoorCodeLaw
set_option linter.unusedVariables false
set_option linter.unusedSimpArgs false
namespace Go.Proofs.YtgbhdpeibiglfaaDoor.S05
open Go Go.RowKit Go.Proofs.YtgbhdpeibiglfaaDoor.Sep Go.Proofs.YtgbhdpeibiglfaaDoor.Low Go.Proofs.YtgbhdpeibiglfaaDoor.CodeLaw
open Go.Proofs.YtgbhdpeibiglfaaDoor.Lib (by64 by64_scalar)
open Go.Proofs.YtgbhdpeibiglfaaDoor.Pack

def LenOk (l : List Int) : Prop := ∀ x ∈ l, 0 ≤ x ∧ x ≤ 15
theorem pow15 (n : Nat) : (2 : Nat) ^ (15 - n) ≤ 32768 := by
  have : (2 : Nat) ^ (15 - n) ≤ 2 ^ 15 := Nat.pow_le_pow_right (by omega) (by omega)
  exact this
theorem shl15 {n : Nat} (h : n ≤ 15) : IntKind.i64.wrap (1 * 2 ^ min (15 - n) 64) = ((2 ^ (15 - n) : Nat) : Int) := by
  have h1 := pow15 n
  rw [Nat.min_eq_left (by omega), Int.one_mul]
  have e : (2 : Int) ^ (15 - n) = ((2 ^ (15 - n) : Nat) : Int) := by simp
  rw [e]
  generalize 2 ^ (15 - n) = p at h1
  exact w_i64 (by omega)
theorem kraft_take {l : List Int} {i : Nat} (hi : i < l.length) : kraft (l.take (i + 1)) = kraft (l.take i) + (if 0 < l[i] then 2 ^ (15 - l[i].toNat) else 0) := by
  unfold kraft
  rw [List.take_succ_eq_append_getElem hi, List.map_append, List.sum_append]
  simp
theorem kraft_le : ∀ l : List Int, kraft l ≤ l.length * 32768
  | [] => by simp [kraft]
  | x :: l => by
    have := kraft_le l
    have h := pow15 x.toNat
    unfold kraft at this ⊢
    rw [List.map_cons, List.sum_cons, List.length_cons]
    split <;> omega
theorem int_at {H : Heap} {a : Option Addr} {l : List Int} (hr : Row H a (by64 l)) {i : Nat} (hi : i < l.length) : ∃ b, a = some b ∧ H.cell? (b.add i) = some (.int .i64 l[i]) := by
  obtain ⟨b, e, h⟩ := hr.at (i := i) (by simpa using hi)
  exact ⟨b, e, by rw [h]; simp⟩

theorem sum_spec {H : Heap} {a : Option Addr} {n c : Nat} {l : List Int} (hr : Row H a (by64 l)) (hn : n = l.length) (hl : l.length ≤ 320) (hx : LenOk l) :
    ACalls Tryd.prog 92 [Value.slice a n c].toArray H fun e H' => e = .returned (.int .i64 (kraft l : Nat)) ∧ H' = H := by
  subst hn
  refine call92 (Nat.le_of_ble_eq_true rfl) ?_
  unfold L92 env0
  simp -implicitDefEqProofs (maxSteps := 1000000) (disch := first | omega | assumption) only [Sx, reduceCtorEq]
  refine c_loop (fun k env H' => ∃ i, k + i = l.length ∧ env 0 = .slice a l.length c ∧ env 3 = .int .i64 (kraft (l.take i) : Nat) ∧ env 4 = .int .i64 i ∧ H' = H) l.length ⟨0, by omega, rfl, rfl, rfl, rfl⟩ ?_
  rintro k env H1 ⟨i, hk, h0, h3, h4, rfl⟩
  unfold L92_1
  by_cases hi : i < l.length
  · have f0 : decide ((i : Int) < (l.length : Int)) = true := decide_eq_true (by omega)
    obtain ⟨b, rfl, hb⟩ := int_at hr hi
    have hxi := hx _ (List.getElem_mem hi)
    have hkt := kraft_take hi
    have hle := kraft_le (l.take i)
    rw [List.length_take] at hle
    obtain ⟨x, hxe⟩ : ∃ x : Nat, l[i] = (x : Int) := ⟨l[i].toNat, by omega⟩
    rw [hxe] at hb hxi hkt
    rw [Int.toNat_natCast] at hkt
    have hp := pow15 x
    by_cases hpos : 0 < (x : Int)
    · have f1 : decide ((0 : Int) < (x : Int)) = true := decide_eq_true hpos
      have e1 : (15 : Int) - (x : Int) = ((15 - x : Nat) : Int) := by omega
      have e2 : IntKind.u64.wrap ((15 - x : Nat) : Int) = ((15 - x : Nat) : Int) := w_u64 (by omega)
      have e3 := shl15 (n := x) (by omega)
      rw [if_pos hpos] at hkt
      simp -implicitDefEqProofs (maxSteps := 1000000) (disch := first | omega | assumption) only [h0, h3, h4, f0, f1, hb, e1, e2, e3, Sx, Nat.reduceEqDiff, reduceCtorEq]
      unfold L92_0
      simp -implicitDefEqProofs (maxSteps := 1000000) (disch := first | omega | assumption) only [h0, h4, Sx, Nat.reduceEqDiff, reduceCtorEq]
      exact ⟨k - 1, by omega, i + 1, by omega, by trivial, by rw [hkt]; simp, by simp, by trivial⟩
    · have f1 : decide ((0 : Int) < (x : Int)) = false := decide_eq_false hpos
      rw [if_neg hpos, Nat.add_zero] at hkt
      simp -implicitDefEqProofs (maxSteps := 1000000) (disch := first | omega | assumption) only [h0, h4, f0, f1, hb, Sx, Nat.reduceEqDiff, reduceCtorEq]
      unfold L92_0
      simp -implicitDefEqProofs (maxSteps := 1000000) (disch := first | omega | assumption) only [h0, h3, h4, Sx, Nat.reduceEqDiff, reduceCtorEq]
      exact ⟨k - 1, by omega, i + 1, by omega, by trivial, by rw [hkt]; simp, by simp, by trivial⟩
  · have f0 : decide ((i : Int) < (l.length : Int)) = false := decide_eq_false (by omega)
    rw [List.take_of_length_le (by omega)] at h3
    simp -implicitDefEqProofs (maxSteps := 1000000) (disch := first | omega | assumption) only [h0, h3, h4, f0, Sx, Nat.reduceEqDiff, reduceCtorEq]
    exact ⟨by trivial, by trivial⟩

def okLens (l : List Int) : Bool := decide (1 ≤ l.length ∧ l.length ≤ 320) && l.all fun x => decide (0 ≤ x ∧ x ≤ 15)
def isCode (l : List Int) : Bool := okLens l && decide (0 < kraft l ∧ kraft l ≤ 32768)
def isWhole (l : List Int) : Bool := okLens l && decide (kraft l = 32768)
theorem okLens_true {l : List Int} (h : okLens l = true) : (1 ≤ l.length ∧ l.length ≤ 320) ∧ LenOk l := by
  unfold okLens at h
  simp only [Bool.and_eq_true, decide_eq_true_eq, List.all_eq_true] at h
  exact ⟨h.1, fun x hx => h.2 x hx⟩
theorem okLens_bad {l : List Int} {x : Int} (hx : x ∈ l) (h : x < 0 ∨ 15 < x) : okLens l = false := by
  cases e : okLens l with
  | false => rfl
  | true => have := (okLens_true e).2 x hx; omega
theorem okLens_len {l : List Int} (h : ¬ (1 ≤ l.length ∧ l.length ≤ 320)) : okLens l = false := by
  cases e : okLens l with
  | false => rfl
  | true => exact absurd (okLens_true e).1 h
theorem okLens_mk {l : List Int} (h1 : 1 ≤ l.length ∧ l.length ≤ 320) (h2 : LenOk l) : okLens l = true := by
  unfold okLens
  simp only [Bool.and_eq_true, decide_eq_true_eq, List.all_eq_true]
  exact ⟨h1, fun x hx => h2 x hx⟩

theorem rcode_spec {H : Heap} {a : Option Addr} {n c : Nat} {l : List Int} (hr : Row H a (by64 l)) (hn : n = l.length) :
    ACalls Tryd.prog 81 [Value.slice a n c].toArray H fun e H' => e = .returned (.tuple #[.bool (isCode l), .bool (isWhole l)]) ∧ H' = H := by
  subst hn
  refine call81 (Nat.le_of_ble_eq_true rfl) ?_
  unfold L81 env0
  have bad : okLens l = false → isCode l = false ∧ isWhole l = false := fun h => by unfold isCode isWhole; rw [h]; exact ⟨rfl, rfl⟩
  by_cases h1 : l.length < 1
  · have f1 : decide ((l.length : Int) < 1) = true := decide_eq_true (by omega)
    obtain ⟨b1, b2⟩ := bad (okLens_len (by omega))
    rw [b1, b2]
    simp -implicitDefEqProofs (maxSteps := 1000000) (disch := first | omega | assumption) only [f1, l_g, Sx, Nat.reduceEqDiff, reduceCtorEq]
    exact ⟨by trivial, by trivial⟩
  · have f1 : decide ((l.length : Int) < 1) = false := decide_eq_false (by omega)
    by_cases h2 : 320 < l.length
    · have f2 : decide ((320 : Int) < (l.length : Int)) = true := decide_eq_true (by omega)
      obtain ⟨b1, b2⟩ := bad (okLens_len (by omega))
      rw [b1, b2]
      simp -implicitDefEqProofs (maxSteps := 1000000) (disch := first | omega | assumption) only [f1, f2, l_g, Sx, Nat.reduceEqDiff, reduceCtorEq]
      exact ⟨by trivial, by trivial⟩
    · have f2 : decide ((320 : Int) < (l.length : Int)) = false := decide_eq_false (by omega)
      simp -implicitDefEqProofs (maxSteps := 1000000) (disch := first | omega | assumption) only [f1, f2, l_g, Sx, Nat.reduceEqDiff, reduceCtorEq]
      refine c_loop (fun k env H' => ∃ i, k + i = l.length ∧ env 0 = .slice a l.length c ∧ env 4 = .int .i64 i ∧ (∀ x ∈ l.take i, 0 ≤ x ∧ x ≤ 15) ∧ H' = H) l.length ⟨0, by omega, rfl, rfl, (fun x hx => by simp at hx), rfl⟩ ?_
      rintro k env H1 ⟨i, hk, h0, h4, hall, rfl⟩
      unfold L81_0
      by_cases hi : i < l.length
      · have f0 : decide ((i : Int) < (l.length : Int)) = true := decide_eq_true (by omega)
        obtain ⟨b, rfl, hb⟩ := int_at hr hi
        by_cases h3 : l[i] < 0
        · have f3 : decide (l[i] < 0) = true := decide_eq_true h3
          obtain ⟨b1, b2⟩ := bad (okLens_bad (List.getElem_mem hi) (.inl h3))
          rw [b1, b2]
          simp -implicitDefEqProofs (maxSteps := 1000000) (disch := first | omega | assumption) only [h0, h4, f0, f3, hb, l_g, Sx, Nat.reduceEqDiff, reduceCtorEq]
          exact ⟨by trivial, by trivial⟩
        · have f3 : decide (l[i] < 0) = false := decide_eq_false h3
          by_cases h5 : 15 < l[i]
          · have f5 : decide (15 < l[i]) = true := decide_eq_true h5
            obtain ⟨b1, b2⟩ := bad (okLens_bad (List.getElem_mem hi) (.inr h5))
            rw [b1, b2]
            simp -implicitDefEqProofs (maxSteps := 1000000) (disch := first | omega | assumption) only [h0, h4, f0, f3, f5, hb, l_g, Sx, Nat.reduceEqDiff, reduceCtorEq]
            exact ⟨by trivial, by trivial⟩
          · have f5 : decide (15 < l[i]) = false := decide_eq_false h5
            simp -implicitDefEqProofs (maxSteps := 1000000) (disch := first | omega | assumption) only [h0, h4, f0, f3, f5, hb, l_g, Sx, Nat.reduceEqDiff, reduceCtorEq]
            refine ⟨k - 1, by omega, i + 1, by omega, by trivial, by simp, fun x hx => ?_, by trivial⟩
            rw [List.take_succ_eq_append_getElem hi] at hx
            rcases List.mem_append.1 hx with hx | hx
            · exact hall x hx
            · rw [List.mem_singleton] at hx
              subst hx
              omega
      · have f0 : decide ((i : Int) < (l.length : Int)) = false := decide_eq_false (by omega)
        rw [List.take_of_length_le (by omega)] at hall
        have hok := okLens_mk ⟨by omega, by omega⟩ hall
        simp -implicitDefEqProofs (maxSteps := 1000000) (disch := first | omega | assumption) only [h0, h4, f0, Sx, Nat.reduceEqDiff, reduceCtorEq]
        refine a_call (sum_spec hr rfl (by omega) hall) ?_
        rintro e H2 ⟨rfl, rfl⟩
        unfold isCode isWhole
        rw [hok]
        have e1 : ((kraft l : Nat) : Int) = 32768 ↔ kraft l = 32768 := by omega
        have e2 : (((kraft l : Nat) : Int) == 32768) = decide (kraft l = 32768) := by
          by_cases h : kraft l = 32768
          · rw [decide_eq_true h, beq_iff_eq]; omega
          · rw [decide_eq_false h, beq_eq_false_iff_ne]; omega
        by_cases h6 : 0 < kraft l
        · have f6 : decide ((0 : Int) < (kraft l : Nat)) = true := decide_eq_true (by omega)
          by_cases h7 : kraft l ≤ 32768
          · have f7 : decide (((kraft l : Nat) : Int) ≤ 32768) = true := decide_eq_true (by omega)
            simp -implicitDefEqProofs (maxSteps := 1000000) (disch := first | omega | assumption) only [endK, f6, f7, e2, l_g, Sx, Nat.reduceEqDiff]
            exact ⟨by simp [h6, h7], by trivial⟩
          · have f7 : decide (((kraft l : Nat) : Int) ≤ 32768) = false := decide_eq_false (by omega)
            simp -implicitDefEqProofs (maxSteps := 1000000) (disch := first | omega | assumption) only [endK, f6, f7, e2, l_g, Sx, Nat.reduceEqDiff]
            exact ⟨by simp [h6, h7], by trivial⟩
        · have f6 : decide ((0 : Int) < (kraft l : Nat)) = false := decide_eq_false (by omega)
          simp -implicitDefEqProofs (maxSteps := 1000000) (disch := first | omega | assumption) only [endK, f6, e2, l_g, Sx, Nat.reduceEqDiff]
          exact ⟨by simp [h6], by trivial⟩

theorem and1_i64 {a : Nat} (h : a < 1099511627776) : Go.bits .and .i64 (a : Int) 1 = ((a % 2 : Nat) : Int) := by
  unfold Go.bits
  simp only [BitVec.ofInt_natCast]
  have e2 : (BitVec.ofNat 64 a &&& BitVec.ofNat 64 1).toNat = a % 2 := by
    rw [BitVec.toNat_and, BitVec.toNat_ofNat, BitVec.toNat_ofNat, Nat.mod_eq_of_lt (by omega : a < 2 ^ 64)]
    exact Nat.and_one_is_mod a
  show IntKind.i64.wrap ((BitVec.ofNat 64 a &&& BitVec.ofNat 64 1).toNat : Int) = _
  rw [e2]
  exact w_i64 (by omega)
/-- a word's bits, the highest first -/
def msb : Nat → Nat → List Bool
  | 0, _ => []
  | n + 1, w => (w / 2 ^ n % 2 == 1) :: msb n w
theorem msb_len : ∀ n w, (msb n w).length = n
  | 0, _ => rfl
  | n + 1, w => by rw [msb, List.length_cons, msb_len n w]
theorem msb_val : ∀ n w, CodeLaw.val (msb n w) = w % 2 ^ n
  | 0, w => by simp [msb, CodeLaw.val, Nat.mod_one]
  | n + 1, w => by
    rw [msb, CodeLaw.val, msb_len, msb_val n w, Nat.pow_succ, Nat.mod_mul]
    have : w / 2 ^ n % 2 = 0 ∨ w / 2 ^ n % 2 = 1 := by omega
    rcases this with h | h <;> simp [h] <;> omega

theorem or_high (R j : Nat) (b : Bool) (h : R * 2 ^ (j + 1) + 2 ^ j < 4294967296) : Go.bits .or .u32 ((R * 2 ^ (j + 1) : Nat) : Int) (((if b then 1 else 0) * 2 ^ j : Nat) : Int) = ((R * 2 ^ (j + 1) + (if b then 1 else 0) * 2 ^ j : Nat) : Int) := by
  have hb : (if b then 1 else 0) * 2 ^ j < 2 ^ (j + 1) := by
    have := Nat.two_pow_pos j
    rw [Nat.pow_succ]
    cases b <;> simp <;> omega
  have hb2 : (if b then 1 else 0) * 2 ^ j ≤ 2 ^ j := by cases b <;> simp
  rw [u32_or _ _ (by omega) (by omega) (by omega) (by omega)]
  simp only [Int.toNat_natCast]
  have h3 := Nat.two_pow_add_eq_or_of_lt hb R
  rw [Nat.mul_comm R, ← h3]
def rev (n w : Nat) : Nat := match n with
  | 0 => 0
  | n + 1 => w / 2 ^ n % 2 + 2 * rev n w
theorem rev_lt : ∀ n w, rev n w < 2 ^ n
  | 0, w => by simp [rev]
  | n + 1, w => by have := rev_lt n w; rw [rev, Nat.pow_succ]; omega
theorem turned_spec {H : Heap} {w n : Nat} (hw : w < 65536) (hn : n ≤ 15) :
    ACalls Tryd.prog 87 [Value.int .i64 w, .int .i64 n].toArray H fun e H' => e = .returned (.int .u32 (rev n w : Nat)) ∧ H' = H := by
  refine call87 (Nat.le_of_ble_eq_true rfl) ?_
  unfold L87 env0
  simp -implicitDefEqProofs (maxSteps := 1000000) (disch := first | omega | assumption) only [Sx, Nat.reduceEqDiff, reduceCtorEq]
  refine c_loop (fun k env H' => ∃ i, k + i = n ∧ env 0 = .int .i64 w ∧ env 1 = .int .i64 n ∧ env 5 = .int .u32 (rev i w * 2 ^ (n - i) : Nat) ∧ env 7 = .int .i64 n ∧ env 8 = .int .i64 i ∧ H' = H) n ⟨0, by omega, rfl, rfl, by simp [rev]; simp -implicitDefEqProofs (maxSteps := 1000000) (disch := first | omega | assumption) only [Sx, Nat.reduceEqDiff], rfl, rfl, rfl⟩ ?_
  rintro k env H1 ⟨i, hk, h0, h1, h5, h7, h8, rfl⟩
  unfold L87_0
  by_cases hi : i < n
  · have f0 : decide ((i : Int) < (n : Int)) = true := decide_eq_true (by omega)
    have e1 : min i 64 = i := by omega
    have e2 : (w : Int).fdiv (2 ^ i) = ((w / 2 ^ i : Nat) : Int) := by
      rw [Int.fdiv_eq_ediv_of_nonneg _ (by exact_mod_cast Nat.zero_le (2 ^ i))]
      simp
    have hd : w / 2 ^ i ≤ w := Nat.div_le_self _ _
    have e3 := and1_i64 (a := w / 2 ^ i) (by omega)
    have e4 : IntKind.u32.wrap ((w / 2 ^ i % 2 : Nat) : Int) = ((w / 2 ^ i % 2 : Nat) : Int) := w_u32 (by omega)
    have e5 : (n : Int) - 1 - (i : Int) = ((n - 1 - i : Nat) : Int) := by omega
    have hp : 2 ^ (n - 1 - i) ≤ 32768 := Nat.le_trans (Nat.pow_le_pow_right (by omega) (show n - 1 - i ≤ 15 by omega)) (by decide)
    obtain ⟨b, hb⟩ : ∃ b : Bool, w / 2 ^ i % 2 = (if b then 1 else 0) := ⟨w / 2 ^ i % 2 == 1, by
      have : w / 2 ^ i % 2 = 0 ∨ w / 2 ^ i % 2 = 1 := by omega
      rcases this with h | h <;> simp [h]⟩
    have e6 : IntKind.u32.wrap (((w / 2 ^ i % 2 : Nat) : Int) * 2 ^ min (n - 1 - i) 32) = ((w / 2 ^ i % 2 * 2 ^ (n - 1 - i) : Nat) : Int) := by
      rw [Nat.min_eq_left (by omega)]
      have e : ((w / 2 ^ i % 2 : Nat) : Int) * 2 ^ (n - 1 - i) = ((w / 2 ^ i % 2 * 2 ^ (n - 1 - i) : Nat) : Int) := by simp
      rw [e]
      have hq : w / 2 ^ i % 2 * 2 ^ (n - 1 - i) ≤ 32768 := by rw [hb]; cases b <;> simp; exact hp
      generalize w / 2 ^ i % 2 * 2 ^ (n - 1 - i) = q at hq
      exact w_u32 (by omega)
    have hr := rev_lt i w
    have hj : n - i = n - 1 - i + 1 := by omega
    have hT : rev i w * 2 ^ (n - 1 - i + 1) + 2 ^ (n - 1 - i) < 4294967296 := by
      have h1 : rev i w * 2 ^ (n - 1 - i + 1) ≤ 2 ^ i * 2 ^ (n - 1 - i + 1) := Nat.mul_le_mul_right _ (by omega)
      rw [← Nat.pow_add, show i + (n - 1 - i + 1) = n by omega] at h1
      have h2 : 2 ^ n ≤ 2 ^ 15 := Nat.pow_le_pow_right (by omega) hn
      omega
    have e7 := or_high (rev i w) (n - 1 - i) b hT
    rw [← hb] at e7
    rw [hj] at h5
    simp -implicitDefEqProofs (maxSteps := 1000000) (disch := first | omega | assumption) only [h0, h1, h5, h7, h8, f0, e1, e2, e3, e4, e5, e6, e7, Sx, Nat.reduceEqDiff, reduceCtorEq]
    refine ⟨k - 1, by omega, i + 1, by omega, by trivial, by trivial, ?_, by trivial, by simp, by trivial⟩
    rw [show n - (i + 1) = n - 1 - i by omega, rev, Nat.add_mul, Nat.pow_succ, ← Nat.mul_assoc]
    congr 2
    generalize 2 ^ (n - 1 - i) = p
    rw [Nat.mul_assoc 2 (rev i w) p]
    generalize rev i w * p = q
    omega
  · have f0 : decide ((i : Int) < (n : Int)) = false := decide_eq_false (by omega)
    have : i = n := by omega
    subst this
    rw [Nat.sub_self, Nat.pow_zero, Nat.mul_one] at h5
    simp -implicitDefEqProofs (maxSteps := 1000000) (disch := first | omega | assumption) only [h5, h7, h8, f0, Sx, Nat.reduceEqDiff]
    exact ⟨by trivial, by trivial⟩
end Go.Proofs.YtgbhdpeibiglfaaDoor.S05

set_option linter.unusedVariables false
set_option linter.unusedSimpArgs false
namespace Go.Proofs.YtgbhdpeibiglfaaDoor.S05
open Go Go.RowKit Go.Proofs.YtgbhdpeibiglfaaDoor.Sep Go.Proofs.YtgbhdpeibiglfaaDoor.Low Go.Proofs.YtgbhdpeibiglfaaDoor.CodeLaw
open Go.Proofs.YtgbhdpeibiglfaaDoor.Lib (by64 by64_scalar encs encs_len)

def codeCells (wv ov : Value) (cs fs : List Int) (wh : Bool) (lo : Int) : List Value := wv :: ov :: (by64 cs ++ (by64 fs ++ [.bool wh, .int .i64 lo]))
theorem cc_cnt {wv ov : Value} {cs fs : List Int} {wh : Bool} {lo : Int} {n : Nat} (hc : cs.length = 16) (hn : n < 16) : (codeCells wv ov cs fs wh lo).toArray[2 + n]? = some (.int .i64 (cs.getD n 0)) := by
  unfold codeCells
  rw [List.getElem?_toArray, show 2 + n = n + 1 + 1 by omega, List.getElem?_cons_succ, List.getElem?_cons_succ, List.getElem?_append_left (by simp; omega)]
  simp [show n < cs.length by omega]
theorem cc_fst {wv ov : Value} {cs fs : List Int} {wh : Bool} {lo : Int} {n : Nat} (hc : cs.length = 16) (hf : fs.length = 16) (hn : n < 16) : (codeCells wv ov cs fs wh lo).toArray[18 + n]? = some (.int .i64 (fs.getD n 0)) := by
  unfold codeCells
  rw [List.getElem?_toArray, show 18 + n = (16 + n) + 1 + 1 by omega, List.getElem?_cons_succ, List.getElem?_cons_succ, List.getElem?_append_right (by simp; omega), List.length_map, hc, show 16 + n - 16 = n by omega, List.getElem?_append_left (by simp; omega)]
  simp [show n < fs.length by omega]
theorem cc_wh {wv ov : Value} {cs fs : List Int} {wh : Bool} {lo : Int} (hc : cs.length = 16) (hf : fs.length = 16) : (codeCells wv ov cs fs wh lo).toArray[34]? = some (.bool wh) ∧ (codeCells wv ov cs fs wh lo).toArray[35]? = some (.int .i64 lo) := by
  unfold codeCells
  constructor
  · rw [List.getElem?_toArray, show 34 = 32 + 1 + 1 by omega, List.getElem?_cons_succ, List.getElem?_cons_succ, List.getElem?_append_right (by simp; omega), List.getElem?_append_right (by simp; omega)]
    simp [hc, hf]
  · rw [List.getElem?_toArray, show 35 = 33 + 1 + 1 by omega, List.getElem?_cons_succ, List.getElem?_cons_succ, List.getElem?_append_right (by simp; omega), List.getElem?_append_right (by simp; omega)]
    simp [hc, hf]
theorem cc_size {wv ov : Value} {cs fs : List Int} {wh : Bool} {lo : Int} (hc : cs.length = 16) (hf : fs.length = 16) : (codeCells wv ov cs fs wh lo).toArray.size = 36 := by simp [codeCells, hc, hf]
theorem cc_set_cnt {wv ov : Value} {cs fs : List Int} {wh : Bool} {lo v : Int} {n : Nat} (hc : cs.length = 16) (hn : n < 16) : (codeCells wv ov cs fs wh lo).toArray.setIfInBounds (2 + n) (.int .i64 v) = (codeCells wv ov (cs.set n v) fs wh lo).toArray := by
  unfold codeCells
  rw [List.setIfInBounds_toArray, show 2 + n = n + 1 + 1 by omega, List.set_cons_succ, List.set_cons_succ, List.set_append_left _ _ (by simp; omega)]
  simp [by64, List.map_set]
theorem cc_set_fst {wv ov : Value} {cs fs : List Int} {wh : Bool} {lo v : Int} {n : Nat} (hc : cs.length = 16) (hf : fs.length = 16) (hn : n < 16) : (codeCells wv ov cs fs wh lo).toArray.setIfInBounds (18 + n) (.int .i64 v) = (codeCells wv ov cs (fs.set n v) wh lo).toArray := by
  unfold codeCells
  rw [List.setIfInBounds_toArray, show 18 + n = (16 + n) + 1 + 1 by omega, List.set_cons_succ, List.set_cons_succ, List.set_append_right _ _ (by simp; omega), List.length_map, hc, show 16 + n - 16 = n by omega, List.set_append_left _ _ (by simp; omega)]
  simp [by64, List.map_set]
theorem cc_set_wh {wv ov : Value} {cs fs : List Int} {wh b : Bool} {lo : Int} (hc : cs.length = 16) (hf : fs.length = 16) : (codeCells wv ov cs fs wh lo).toArray.setIfInBounds 34 (.bool b) = (codeCells wv ov cs fs b lo).toArray := by
  unfold codeCells
  rw [List.setIfInBounds_toArray, show 34 = 32 + 1 + 1 by omega, List.set_cons_succ, List.set_cons_succ, List.set_append_right _ _ (by simp; omega), List.set_append_right _ _ (by simp; omega)]
  simp [hc, hf]
theorem cc_set_lo {wv ov : Value} {cs fs : List Int} {wh : Bool} {lo v : Int} (hc : cs.length = 16) (hf : fs.length = 16) : (codeCells wv ov cs fs wh lo).toArray.setIfInBounds 35 (.int .i64 v) = (codeCells wv ov cs fs wh v).toArray := by
  unfold codeCells
  rw [List.setIfInBounds_toArray, show 35 = 33 + 1 + 1 by omega, List.set_cons_succ, List.set_cons_succ, List.set_append_right _ _ (by simp; omega), List.set_append_right _ _ (by simp; omega)]
  simp [hc, hf]
theorem cc_hd {wv ov : Value} {cs fs : List Int} {wh : Bool} {lo : Int} : (codeCells wv ov cs fs wh lo).toArray[0]? = some wv ∧ (codeCells wv ov cs fs wh lo).toArray[1]? = some ov := ⟨rfl, rfl⟩
theorem cc_set_ov {wv ov v : Value} {cs fs : List Int} {wh : Bool} {lo : Int} : (codeCells wv ov cs fs wh lo).toArray.setIfInBounds 1 v = (codeCells wv v cs fs wh lo).toArray := by
  unfold codeCells
  rw [List.setIfInBounds_toArray]
  rfl
end Go.Proofs.YtgbhdpeibiglfaaDoor.S05

set_option linter.unusedVariables false
namespace Go.Proofs.YtgbhdpeibiglfaaDoor.S05
open Go Go.Proofs.YtgbhdpeibiglfaaDoor.CodeLaw

theorem cnt_take {l : List Int} {i n : Nat} (hi : i < l.length) : cnt (l.take (i + 1)) n = cnt (l.take i) n + (if l[i] = (n : Int) then 1 else 0) := by
  unfold cnt
  rw [List.take_succ_eq_append_getElem hi, List.countP_append, List.countP_singleton]
  simp
/-- the length of the j-th word -/
def len_ (l : List Int) (j : Nat) : Nat := (l.getD j 0).toNat
def wordAt (l : List Int) (j : Nat) : Nat × Nat := (rev (len_ l j) (wordOf l j), len_ l j)
/-- the words that are made when length n is at symbol i -/
def WL (l : List Int) (n i : Nat) : List (Nat × Nat) := (List.range l.length).map fun j => if (0 < len_ l j ∧ len_ l j < n) ∨ (0 < len_ l j ∧ len_ l j = n ∧ j < i) then wordAt l j else (0, 0)
theorem WL_len (l : List Int) (n i : Nat) : (WL l n i).length = l.length := by simp [WL]
theorem WL_start (l : List Int) : WL l 1 0 = List.replicate l.length (0, 0) := by
  apply List.ext_getElem (by simp [WL])
  intro j h1 h2
  simp [WL]
  intro h
  omega
theorem WL_skip {l : List Int} {n i : Nat} (h : len_ l i ≠ n) : WL l n (i + 1) = WL l n i := by
  unfold WL
  apply List.map_congr_left
  intro j hj
  have : ((0 < len_ l j ∧ len_ l j < n) ∨ (0 < len_ l j ∧ len_ l j = n ∧ j < i + 1)) ↔ ((0 < len_ l j ∧ len_ l j < n) ∨ (0 < len_ l j ∧ len_ l j = n ∧ j < i)) := by
    constructor
    · rintro (h1 | ⟨h0, h1, h2⟩)
      · exact .inl h1
      · refine .inr ⟨h0, h1, ?_⟩
        rcases Nat.lt_or_ge j i with h3 | h3
        · exact h3
        · rw [show j = i by omega] at h1; exact absurd h1 h
    · rintro (h1 | ⟨h0, h1, h2⟩)
      · exact .inl h1
      · exact .inr ⟨h0, h1, by omega⟩
  simp only [this]
theorem WL_put {l : List Int} {n i : Nat} (hn : 1 ≤ n) (hi : i < l.length) (h : len_ l i = n) : WL l n (i + 1) = (WL l n i).set i (wordAt l i) := by
  apply List.ext_getElem (by simp [WL])
  intro j h1 h2
  rw [List.getElem_set]
  simp only [WL, List.getElem_map, List.getElem_range]
  by_cases hj : i = j
  · subst hj
    rw [if_pos rfl, if_pos (.inr ⟨by omega, h, by omega⟩)]
  · rw [if_neg hj]
    have : ((0 < len_ l j ∧ len_ l j < n) ∨ (0 < len_ l j ∧ len_ l j = n ∧ j < i + 1)) ↔ ((0 < len_ l j ∧ len_ l j < n) ∨ (0 < len_ l j ∧ len_ l j = n ∧ j < i)) := by
      constructor
      · rintro (h1 | ⟨h0, h1, h2⟩)
        · exact .inl h1
        · exact .inr ⟨h0, h1, by omega⟩
      · rintro (h1 | ⟨h0, h1, h2⟩)
        · exact .inl h1
        · exact .inr ⟨h0, h1, by omega⟩
    simp only [this]
theorem WL_next (l : List Int) (n : Nat) : WL l n l.length = WL l (n + 1) 0 := by
  unfold WL
  apply List.map_congr_left
  intro j hj
  have hj := List.mem_range.1 hj
  have : ((0 < len_ l j ∧ len_ l j < n) ∨ (0 < len_ l j ∧ len_ l j = n ∧ j < l.length)) ↔ ((0 < len_ l j ∧ len_ l j < n + 1) ∨ (0 < len_ l j ∧ len_ l j = n + 1 ∧ j < 0)) := by
    constructor
    · rintro (h1 | ⟨h0, h1, h2⟩)
      · exact .inl ⟨h1.1, by omega⟩
      · exact .inl ⟨h0, by omega⟩
    · rintro (h1 | ⟨h0, h1, h2⟩)
      · rcases Nat.lt_or_ge (len_ l j) n with h3 | h3
        · exact .inl ⟨h1.1, h3⟩
        · exact .inr ⟨h1.1, by omega, hj⟩
      · omega
  simp only [this]
/-- the first i symbols of length n, in their order -/
def idx (l : List Int) (n i : Nat) : List Nat := (List.range i).filter fun j => len_ l j == n
def OL (l : List Int) (n i : Nat) : List Nat := ((List.range n).map fun m => if m = 0 then [] else idx l m l.length).flatten ++ idx l n i
theorem OL_skip {l : List Int} {n i : Nat} (h : len_ l i ≠ n) : OL l n (i + 1) = OL l n i := by
  unfold OL idx
  rw [List.range_succ, List.filter_append]
  simp [h]
theorem OL_put {l : List Int} {n i : Nat} (h : len_ l i = n) : OL l n (i + 1) = OL l n i ++ [i] := by
  unfold OL idx
  rw [List.range_succ, List.filter_append]
  simp [h]
theorem OL_next (l : List Int) {n : Nat} (hn : 1 ≤ n) : OL l n l.length = OL l (n + 1) 0 := by
  unfold OL
  rw [List.range_succ, List.map_append, List.flatten_append]
  simp [idx, show n ≠ 0 by omega]
theorem idx_le (l : List Int) (n i : Nat) : (idx l n i).length ≤ i := by
  unfold idx
  have := List.length_filter_le (fun j => len_ l j == n) (List.range i)
  rwa [List.length_range] at this
theorem OL_le0 (l : List Int) {N : Nat} (hl : l.length ≤ N) : ∀ n, ((List.range n).map fun m => if m = 0 then [] else idx l m l.length).flatten.length ≤ n * N
  | 0 => by simp
  | n + 1 => by
    have := OL_le0 l hl n
    rw [List.range_succ, List.map_append, List.flatten_append, List.length_append, Nat.add_mul]
    have h2 := idx_le l n l.length
    simp only [List.map_cons, List.map_nil, List.flatten_cons, List.flatten_nil, List.append_nil]
    split
    · simp only [List.length_nil]; omega
    · omega
theorem OL_le {l : List Int} {n i : Nat} (hl : l.length ≤ 320) (hn : n ≤ 15) (hi : i ≤ l.length) : (OL l n i).length ≤ 320 + 15 * 320 := by
  unfold OL
  have h1 := OL_le0 l hl n
  have h2 := idx_le l n i
  have h3 : n * 320 ≤ 15 * 320 := Nat.mul_le_mul_right _ hn
  rw [List.length_append]
  omega
theorem OL_start (l : List Int) : OL l 1 0 = [] := by simp [OL, idx, List.range_succ]
end Go.Proofs.YtgbhdpeibiglfaaDoor.S05

set_option linter.unusedVariables false
namespace Go.Proofs.YtgbhdpeibiglfaaDoor.S05
open Go Go.Proofs.YtgbhdpeibiglfaaDoor.CodeLaw Go.Proofs.YtgbhdpeibiglfaaDoor.Pack Go.Proofs.YtgbhdpeibiglfaaDoor.BitLaw

theorem msb_of_val : ∀ r : List Bool, msb r.length (val r) = r
  | [] => rfl
  | b :: r => by
    have hlt := val_lt r
    have ih := msb_of_val r
    rw [List.length_cons, msb, val]
    have e1 : ((if b = true then 2 ^ r.length else 0) + val r) / 2 ^ r.length % 2 = if b then 1 else 0 := by
      cases b with
      | true =>
        simp only [if_true]
        rw [Nat.add_comm, Nat.add_div_right _ (Nat.two_pow_pos _), Nat.div_eq_of_lt hlt]
      | false => simp [Nat.div_eq_of_lt hlt]
    rw [e1]
    have e2 : ∀ w, msb r.length ((if b = true then 2 ^ r.length else 0) + w) = msb r.length w := by
      intro w
      cases b with
      | false => simp
      | true =>
        simp only [if_true]
        have key : ∀ n k w, n ≤ k → msb n (2 ^ k + w) = msb n w := by
          intro n
          induction n with
          | zero => intros; rfl
          | succ n ih =>
            intro k w h
            rw [msb, msb, ih k w (by omega)]
            congr 2
            obtain ⟨d, rfl⟩ : ∃ d, k = n + d + 1 := ⟨k - n - 1, by omega⟩
            rw [show n + d + 1 = n + (d + 1) by omega, Nat.pow_add, Nat.add_comm, Nat.add_mul_div_left _ _ (Nat.two_pow_pos _), Nat.pow_succ]
            omega
        exact key _ _ _ (Nat.le_refl _)
    rw [e2, ih]
    cases b <;> rfl
theorem msb_take : ∀ n k w, k ≤ n → (msb n w).take k = msb k (w / 2 ^ (n - k))
  | _, 0, w, _ => by simp [msb]
  | n + 1, k + 1, w, h => by
    rw [msb, List.take_succ_cons, msb_take n k w (by omega), msb, Nat.div_div_eq_div_mul, ← Nat.pow_add, show n + 1 - (k + 1) + k = n by omega, show n + 1 - (k + 1) = n - k by omega]
/-- a symbol's word, as bits -/
def wb (l : List Int) (i : Nat) : List Bool := msb (len_ l i) (wordOf l i)
theorem wb_len (l : List Int) (i : Nat) : (wb l i).length = len_ l i := msb_len _ _
theorem len_lt {l : List Int} {i : Nat} (h : 0 < len_ l i) : i < l.length := by
  rcases Nat.lt_or_ge i l.length with h1 | h1
  · exact h1
  · unfold len_ at h; rw [List.getD_eq_getElem?_getD, List.getElem?_eq_none h1] at h; simp at h
theorem len_get {l : List Int} {i n : Nat} (hn : 1 ≤ n) : len_ l i = n ↔ ∃ h : i < l.length, l[i] = (n : Int) := by
  constructor
  · intro h
    have hi := len_lt (l := l) (i := i) (by omega)
    refine ⟨hi, ?_⟩
    unfold len_ at h
    rw [List.getD_eq_getElem?_getD, List.getElem?_eq_getElem hi] at h
    simp only [Option.getD_some] at h
    omega
  · rintro ⟨hi, h⟩
    unfold len_
    rw [List.getD_eq_getElem?_getD, List.getElem?_eq_getElem hi]
    simp [h]
theorem len_le {l : List Int} (hok : LenOk l) (i : Nat) : len_ l i ≤ 15 := by
  rcases Nat.lt_or_ge i l.length with h1 | h1
  · unfold len_
    rw [List.getD_eq_getElem?_getD, List.getElem?_eq_getElem h1]
    have := hok _ (List.getElem_mem h1)
    simp only [Option.getD_some]
    omega
  · unfold len_; rw [List.getD_eq_getElem?_getD, List.getElem?_eq_none h1]; simp
theorem isCode_ok {l : List Int} (h : isCode l = true) : (1 ≤ l.length ∧ l.length ≤ 320) ∧ LenOk l ∧ 0 < kraft l ∧ kraft l ≤ 32768 := by
  unfold isCode at h
  simp only [Bool.and_eq_true, decide_eq_true_eq] at h
  have := okLens_true h.1
  exact ⟨this.1, this.2, h.2⟩
theorem word_in {l : List Int} (hc : isCode l = true) {i : Nat} (h : 0 < len_ l i) : wordOf l i < 2 ^ len_ l i ∧ fst l (len_ l i) ≤ wordOf l i ∧ wordOf l i < fst l (len_ l i) + cnt l (len_ l i) ∧ wordOf l i = fst l (len_ l i) + rank l i (len_ l i) := by
  obtain ⟨_, hok, _, hk⟩ := isCode_ok hc
  obtain ⟨hi, hx⟩ := (len_get (l := l) (i := i) (n := len_ l i) h).1 rfl
  have := wordOf_lt hk hi hx h (len_le hok i)
  exact ⟨this.1, this.2.1, this.2.2, rfl⟩

theorem idx_len (l : List Int) {n : Nat} (hn : 1 ≤ n) : ∀ i, i ≤ l.length → (idx l n i).length = rank l i n
  | 0, _ => rfl
  | i + 1, h => by
    have ih := idx_len l hn i (by omega)
    rw [rank, cnt_take (by omega)]
    unfold rank at ih
    unfold idx at ih ⊢
    rw [List.range_succ, List.filter_append, List.length_append, ih]
    congr 1
    by_cases hx : l[i] = (n : Int)
    · rw [if_pos hx]
      have := (len_get (l := l) (i := i) hn).2 ⟨by omega, hx⟩
      simp [this]
    · rw [if_neg hx]
      have : len_ l i ≠ n := fun e => by obtain ⟨_, h⟩ := (len_get (l := l) (i := i) hn).1 e; exact hx h
      simp [this]
theorem idx_pre (l : List Int) (n : Nat) : ∀ d i, ∃ t, idx l n (i + d) = idx l n i ++ t
  | 0, i => ⟨[], by simp⟩
  | d + 1, i => by
    obtain ⟨t, ht⟩ := idx_pre l n d i
    unfold idx at ht ⊢
    rw [← Nat.add_assoc, List.range_succ, List.filter_append, ht, List.append_assoc]
    exact ⟨_, rfl⟩
/-- the symbol at a rank -/
theorem idx_at {l : List Int} {n i : Nat} (hn : 1 ≤ n) (h : len_ l i = n) : (idx l n l.length)[rank l i n]? = some i := by
  have hi := len_lt (l := l) (i := i) (by omega)
  obtain ⟨t, ht⟩ := idx_pre l n (l.length - (i + 1)) (i + 1)
  rw [show i + 1 + (l.length - (i + 1)) = l.length by omega] at ht
  rw [ht]
  have e : idx l n (i + 1) = idx l n i ++ [i] := by unfold idx; rw [List.range_succ, List.filter_append]; simp [h]
  rw [e, ← idx_len l hn i (by omega), List.append_assoc, List.getElem?_append_right (Nat.le_refl _)]
  simp
theorem idx_get {l : List Int} {n j : Nat} (hn : 1 ≤ n) (hj : j < cnt l n) : ∃ i, len_ l i = n ∧ rank l i n = j ∧ (idx l n l.length)[j]? = some i := by
  have hl : (idx l n l.length).length = cnt l n := by rw [idx_len l hn _ (Nat.le_refl _), rank_all']
  obtain ⟨i, hi⟩ : ∃ i, (idx l n l.length)[j]? = some i := ⟨_, List.getElem?_eq_getElem (by omega)⟩
  have hm := List.mem_of_getElem? hi
  unfold idx at hm
  rw [List.mem_filter] at hm
  have hlen : len_ l i = n := by simpa using hm.2
  refine ⟨i, hlen, ?_, hi⟩
  have h2 := idx_at hn hlen
  have hnd : (idx l n l.length).Nodup := List.Nodup.sublist List.filter_sublist List.nodup_range
  have hr : rank l i n < (idx l n l.length).length := by
    obtain ⟨hi', hx⟩ := (len_get (l := l) (i := i) hn).1 hlen
    rw [hl]; exact rank_lt hi' hx
  have hj' : j < (idx l n l.length).length := by omega
  rw [List.getElem?_eq_getElem hr] at h2
  rw [List.getElem?_eq_getElem hj'] at hi
  have e : (idx l n l.length)[rank l i n] = (idx l n l.length)[j] := by rw [Option.some.inj h2, Option.some.inj hi]
  rcases Nat.lt_trichotomy (rank l i n) j with h | h | h
  · exact absurd e (List.pairwise_iff_getElem.1 hnd _ _ hr hj' h)
  · exact h
  · exact absurd e.symm (List.pairwise_iff_getElem.1 hnd _ _ hj' hr h)
where rank_all' : rank l l.length n = cnt l n := by unfold rank; rw [List.take_length]
/-- how many words are shorter -/
def past (l : List Int) : Nat → Nat
  | 0 => 0
  | 1 => 0
  | n + 2 => past l (n + 1) + cnt l (n + 1)
theorem past_succ (l : List Int) {n : Nat} (h : 1 ≤ n) : past l (n + 1) = past l n + cnt l n := by
  obtain ⟨m, rfl⟩ : ∃ m, n = m + 1 := ⟨n - 1, by omega⟩
  rfl
theorem ol_past (l : List Int) : ∀ n, 1 ≤ n → (((List.range n).map fun m => if m = 0 then [] else idx l m l.length).flatten).length = past l n
  | 0, h => by omega
  | 1, _ => rfl
  | n + 2, _ => by
    rw [List.range_succ, List.map_append, List.flatten_append, List.length_append, ol_past l (n + 1) (by omega), past]
    congr 1
    rw [List.map_cons, List.map_nil, List.flatten_cons, List.flatten_nil, List.append_nil, if_neg (by omega), idx_len l (by omega) _ (Nat.le_refl _)]
    unfold rank
    rw [List.take_length]
theorem ol_pre (l : List Int) : ∀ d n, ∃ t, ((List.range (n + d)).map fun m => if m = 0 then [] else idx l m l.length).flatten = ((List.range n).map fun m => if m = 0 then [] else idx l m l.length).flatten ++ t
  | 0, n => ⟨[], by simp⟩
  | d + 1, n => by
    obtain ⟨t, ht⟩ := ol_pre l d n
    rw [← Nat.add_assoc, List.range_succ, List.map_append, List.flatten_append, ht, List.append_assoc]
    exact ⟨_, rfl⟩
/-- the order's symbol at a word -/
theorem ol_at {l : List Int} {n i : Nat} (hn : 1 ≤ n) (hn2 : n ≤ 15) (h : len_ l i = n) : (OL l 16 0)[past l n + rank l i n]? = some i := by
  unfold OL
  obtain ⟨t, ht⟩ := ol_pre l (16 - (n + 1)) (n + 1)
  rw [show n + 1 + (16 - (n + 1)) = 16 by omega, List.range_succ (n := n), List.map_append, List.flatten_append] at ht
  rw [ht, List.append_assoc, List.append_assoc, List.getElem?_append_right (by rw [ol_past l n hn]; omega), ol_past l n hn, Nat.add_sub_cancel_left]
  have := idx_at hn h
  rw [List.map_cons, List.map_nil, List.flatten_cons, List.flatten_nil, List.append_nil, if_neg (by omega)]
  rw [List.getElem?_append_left (List.getElem?_eq_some_iff.1 this).1]
  exact this

/-- what a code reads of some bits: the symbol, how many bits, the error -/
inductive RdIs (l : List Int) (rest : List Bool) : Nat → Nat → Int → Prop where
  | hit {i : Nat} : 0 < len_ l i → wb l i <+: rest → RdIs l rest i (len_ l i) 0
  | more {i : Nat} : (∀ j, 0 < len_ l j → ¬ wb l j <+: rest) → 0 < len_ l i → rest <+: wb l i → RdIs l rest 0 0 50
  | none : (∀ j, 0 < len_ l j → ¬ wb l j <+: rest) → (∀ j, 0 < len_ l j → ¬ rest <+: wb l j) → RdIs l rest 0 0 52
theorem wb_pre {l : List Int} (hc : isCode l = true) {rest : List Bool} {i : Nat} (h : 0 < len_ l i) : wb l i <+: rest ↔ len_ l i ≤ rest.length ∧ val (rest.take (len_ l i)) = wordOf l i := by
  have hw := word_in hc h
  constructor
  · rintro ⟨t, rfl⟩
    rw [List.take_append, wb_len, Nat.sub_self, List.take_zero, List.append_nil, List.take_of_length_le (by rw [wb_len]; exact Nat.le_refl _)]
    refine ⟨by rw [List.length_append, wb_len]; omega, ?_⟩
    unfold wb
    rw [msb_val, Nat.mod_eq_of_lt hw.1]
  · rintro ⟨h1, h2⟩
    refine ⟨rest.drop (len_ l i), ?_⟩
    have := msb_of_val (rest.take (len_ l i))
    rw [List.length_take, Nat.min_eq_left h1, h2] at this
    unfold wb
    rw [this, List.take_append_drop]
theorem wb_hit {l : List Int} (hc : isCode l = true) {rest : List Bool} {i : Nat} (h : 0 < len_ l i) (hp : wb l i <+: rest) : hit l rest (len_ l i) := by
  have h1 := (wb_pre hc h).1 hp
  have h2 := word_in hc h
  exact ⟨h1.1, by omega, by omega⟩
theorem hit_wb {l : List Int} (hc : isCode l = true) {rest : List Bool} {n : Nat} (hn : 1 ≤ n) (hh : hit l rest n) : ∃ i, len_ l i = n ∧ rank l i n = val (rest.take n) - fst l n ∧ wb l i <+: rest := by
  obtain ⟨i, h1, h2, _⟩ := idx_get (l := l) (j := val (rest.take n) - fst l n) hn (by have := hh.2.1; have := hh.2.2; omega)
  refine ⟨i, h1, h2, (wb_pre hc (by omega)).2 ?_⟩
  have := word_in hc (i := i) (by omega)
  rw [h1] at this ⊢
  refine ⟨hh.1, ?_⟩
  have h3 := hh.2.1
  omega
theorem wb_one {l : List Int} (hc : isCode l = true) {rest : List Bool} {i j : Nat} (hi : 0 < len_ l i) (hj : 0 < len_ l j) (h : wb l i <+: rest) (k : wb l j <+: rest) : i = j := by
  have h1 := wb_hit hc hi h
  have h2 := wb_hit hc hj k
  rcases Nat.lt_trichotomy (len_ l i) (len_ l j) with h3 | h3 | h3
  · exact (hit_one (by omega) h1 h2 h3).elim
  · have a := (wb_pre hc hi).1 h
    have b := (wb_pre hc hj).1 k
    have c := word_in hc hi
    have d := word_in hc hj
    rw [h3] at a c
    have e1 : rank l i (len_ l j) = rank l j (len_ l j) := by omega
    have e2 := idx_at (l := l) (i := i) (by omega) h3
    have e3 := idx_at (l := l) (i := j) (n := len_ l j) (by omega) rfl
    rw [e1, e3] at e2
    exact (Option.some.inj e2).symm
  · exact (hit_one (by omega) h2 h1 h3).elim
theorem RdIs.one {l : List Int} (hc : isCode l = true) {rest : List Bool} {i j n m : Nat} {e f : Int} (h : RdIs l rest i n e) (k : RdIs l rest j m f) : i = j ∧ n = m ∧ e = f := by
  cases h with
  | hit h1 h2 => cases k with
    | hit k1 k2 => have := wb_one hc h1 k1 h2 k2; subst this; exact ⟨rfl, rfl, rfl⟩
    | more k1 k2 k3 => exact (k1 _ h1 h2).elim
    | none k1 k2 => exact (k1 _ h1 h2).elim
  | more h1 h2 h3 => cases k with
    | hit k1 k2 => exact (h1 _ k1 k2).elim
    | more k1 k2 k3 => exact ⟨rfl, rfl, rfl⟩
    | none k1 k2 => exact (k2 _ h2 h3).elim
  | none h1 h2 => cases k with
    | hit k1 k2 => exact (h1 _ k1 k2).elim
    | more k1 k2 k3 => exact (h2 _ k2 k3).elim
    | none k1 k2 => exact ⟨rfl, rfl, rfl⟩
/-- bits begin a longer word -/
theorem pre_wb {l : List Int} (hc : isCode l = true) {rest : List Bool} {i : Nat} (h : 0 < len_ l i) : rest <+: wb l i ↔ rest.length ≤ len_ l i ∧ wordOf l i / 2 ^ (len_ l i - rest.length) = val rest := by
  have hw := word_in hc h
  constructor
  · rintro ⟨t, ht⟩
    have hl := congrArg List.length ht
    rw [List.length_append, wb_len] at hl
    refine ⟨by omega, ?_⟩
    have e := congrArg (List.take rest.length) ht
    rw [List.take_append, Nat.sub_self, List.take_zero, List.append_nil, List.take_of_length_le (Nat.le_refl _)] at e
    unfold wb at e
    rw [msb_take _ _ _ (by omega)] at e
    have := congrArg val e
    rw [msb_val, Nat.mod_eq_of_lt] at this
    · exact this.symm
    · rw [Nat.div_lt_iff_lt_mul (Nat.two_pow_pos _), ← Nat.pow_add, show rest.length + (len_ l i - rest.length) = len_ l i by omega]
      exact hw.1
  · rintro ⟨h1, h2⟩
    refine ⟨(wb l i).drop rest.length, ?_⟩
    have e : (wb l i).take rest.length = rest := by
      unfold wb
      rw [msb_take _ _ _ h1, h2, msb_of_val]
    conv => lhs; lhs; rw [← e]
    rw [List.take_append_drop]
end Go.Proofs.YtgbhdpeibiglfaaDoor.S05
