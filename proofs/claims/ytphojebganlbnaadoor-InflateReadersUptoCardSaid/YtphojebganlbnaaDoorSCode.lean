/-
  Codes: the document's sum and Code.
-/
import Derived.Test.YtphojebganlbnaaDoorLowD
import Derived.Test.YtphojebganlbnaaDoorBase
import Derived.Test.YtphojebganlbnaaDoorCodeLaw
set_option linter.unusedVariables false
set_option linter.unusedSimpArgs false
namespace Go.Proofs.YtphojebganlbnaaDoor.S05
open Go Go.RowKit Go.Proofs.YtphojebganlbnaaDoor.Sep Go.Proofs.YtphojebganlbnaaDoor.Low Go.Proofs.YtphojebganlbnaaDoor.CodeLaw
open Go.Proofs.YtphojebganlbnaaDoor.Lib (by64 by64_scalar)
open Go.Proofs.YtphojebganlbnaaDoor.Pack

def LenOk (l : List Int) : Prop := ∀ x ∈ l, 0 ≤ x ∧ x ≤ 15
theorem pow15 (n : Nat) : (2 : Nat) ^ (15 - n) ≤ 32768 := by
  have : (2 : Nat) ^ (15 - n) ≤ 2 ^ 15 := Nat.pow_le_pow_right (by omega) (by omega)
  exact this
theorem shl15 {n : Nat} (h : n ≤ 15) : IntKind.i64.wrap (1 * 2 ^ min (15 - n) 64) = ((2 ^ (15 - n) : Nat) : Int) := by
  have h1 := pow15 n
  rw [Nat.min_eq_left (by omega), Int.one_mul]
  have e : (2 : Int) ^ (15 - n) = ((2 ^ (15 - n) : Nat) : Int) := by simp
  rw [e]
  generalize 2 ^ (15 - n) = p at h1
  exact w_i64 (by omega)
theorem kraft_take {l : List Int} {i : Nat} (hi : i < l.length) : kraft (l.take (i + 1)) = kraft (l.take i) + (if 0 < l[i] then 2 ^ (15 - l[i].toNat) else 0) := by
  unfold kraft
  rw [List.take_succ_eq_append_getElem hi, List.map_append, List.sum_append]
  simp
theorem kraft_le : ∀ l : List Int, kraft l ≤ l.length * 32768
  | [] => by simp [kraft]
  | x :: l => by
    have := kraft_le l
    have h := pow15 x.toNat
    unfold kraft at this ⊢
    rw [List.map_cons, List.sum_cons, List.length_cons]
    split <;> omega
theorem int_at {H : Heap} {a : Option Addr} {l : List Int} (hr : Row H a (by64 l)) {i : Nat} (hi : i < l.length) : ∃ b, a = some b ∧ H.cell? (b.add i) = some (.int .i64 l[i]) := by
  obtain ⟨b, e, h⟩ := hr.at (i := i) (by simpa using hi)
  exact ⟨b, e, by rw [h]; simp⟩

theorem sum_spec {H : Heap} {a : Option Addr} {n c : Nat} {l : List Int} (hr : Row H a (by64 l)) (hn : n = l.length) (hl : l.length ≤ 320) (hx : LenOk l) :
    ACalls Tryd.prog 83 [Value.slice a n c].toArray H fun e H' => e = .returned (.int .i64 (kraft l : Nat)) ∧ H' = H := by
  subst hn
  refine call83 (Nat.le_of_ble_eq_true rfl) ?_
  unfold L83 env0
  simp -implicitDefEqProofs (maxSteps := 1000000) (disch := first | omega | assumption) only [Sx, reduceIte, Nat.reduceEqDiff, reduceCtorEq, Nat.reduceAdd, Nat.reduceSub, Nat.reduceLT]
  refine c_loop (fun k env H' => ∃ i, k + i = l.length ∧ env 0 = .slice a l.length c ∧ env 3 = .int .i64 (kraft (l.take i) : Nat) ∧ env 4 = .int .i64 i ∧ H' = H) l.length ⟨0, by omega, rfl, rfl, rfl, rfl⟩ ?_
  rintro k env H1 ⟨i, hk, h0, h3, h4, rfl⟩
  unfold L83_1
  by_cases hi : i < l.length
  · have f0 : decide ((i : Int) < (l.length : Int)) = true := decide_eq_true (by omega)
    obtain ⟨b, rfl, hb⟩ := int_at hr hi
    have hxi := hx _ (List.getElem_mem hi)
    have hkt := kraft_take hi
    have hle := kraft_le (l.take i)
    rw [List.length_take] at hle
    obtain ⟨x, hxe⟩ : ∃ x : Nat, l[i] = (x : Int) := ⟨l[i].toNat, by omega⟩
    rw [hxe] at hb hxi hkt
    rw [Int.toNat_natCast] at hkt
    have hp := pow15 x
    by_cases hpos : 0 < (x : Int)
    · have f1 : decide ((0 : Int) < (x : Int)) = true := decide_eq_true hpos
      have e1 : (15 : Int) - (x : Int) = ((15 - x : Nat) : Int) := by omega
      have e2 : IntKind.u64.wrap ((15 - x : Nat) : Int) = ((15 - x : Nat) : Int) := w_u64 (by omega)
      have e3 := shl15 (n := x) (by omega)
      rw [if_pos hpos] at hkt
      simp -implicitDefEqProofs (maxSteps := 1000000) (disch := first | omega | assumption) only [h0, h3, h4, f0, f1, hb, e1, e2, e3, Sx, reduceIte, Nat.reduceEqDiff, reduceCtorEq, Nat.reduceAdd, Nat.reduceSub, Nat.reduceLT]
      unfold L83_0
      simp -implicitDefEqProofs (maxSteps := 1000000) (disch := first | omega | assumption) only [h0, h4, Sx, reduceIte, Nat.reduceEqDiff, reduceCtorEq, Nat.reduceAdd, Nat.reduceSub, Nat.reduceLT]
      exact ⟨k - 1, by omega, i + 1, by omega, by trivial, by rw [hkt]; simp, by simp, by trivial⟩
    · have f1 : decide ((0 : Int) < (x : Int)) = false := decide_eq_false hpos
      rw [if_neg hpos, Nat.add_zero] at hkt
      simp -implicitDefEqProofs (maxSteps := 1000000) (disch := first | omega | assumption) only [h0, h3, h4, f0, f1, hb, Sx, reduceIte, Nat.reduceEqDiff, reduceCtorEq, Nat.reduceAdd, Nat.reduceSub, Nat.reduceLT]
      unfold L83_0
      simp -implicitDefEqProofs (maxSteps := 1000000) (disch := first | omega | assumption) only [h0, h3, h4, Sx, reduceIte, Nat.reduceEqDiff, reduceCtorEq, Nat.reduceAdd, Nat.reduceSub, Nat.reduceLT]
      exact ⟨k - 1, by omega, i + 1, by omega, by trivial, by rw [hkt]; simp, by simp, by trivial⟩
  · have f0 : decide ((i : Int) < (l.length : Int)) = false := decide_eq_false (by omega)
    rw [List.take_of_length_le (by omega)] at h3
    simp -implicitDefEqProofs (maxSteps := 1000000) (disch := first | omega | assumption) only [h0, h3, h4, f0, Sx, reduceIte, Nat.reduceEqDiff, reduceCtorEq, Nat.reduceAdd, Nat.reduceSub, Nat.reduceLT]
    exact ⟨by trivial, by trivial⟩

def okLens (l : List Int) : Bool := decide (1 ≤ l.length ∧ l.length ≤ 320) && l.all fun x => decide (0 ≤ x ∧ x ≤ 15)
def isCode (l : List Int) : Bool := okLens l && decide (0 < kraft l ∧ kraft l ≤ 32768)
def isWhole (l : List Int) : Bool := okLens l && decide (kraft l = 32768)
theorem okLens_true {l : List Int} (h : okLens l = true) : (1 ≤ l.length ∧ l.length ≤ 320) ∧ LenOk l := by
  unfold okLens at h
  simp only [Bool.and_eq_true, decide_eq_true_eq, List.all_eq_true] at h
  exact ⟨h.1, fun x hx => h.2 x hx⟩
theorem okLens_bad {l : List Int} {x : Int} (hx : x ∈ l) (h : x < 0 ∨ 15 < x) : okLens l = false := by
  cases e : okLens l with
  | false => rfl
  | true => have := (okLens_true e).2 x hx; omega
theorem okLens_len {l : List Int} (h : ¬ (1 ≤ l.length ∧ l.length ≤ 320)) : okLens l = false := by
  cases e : okLens l with
  | false => rfl
  | true => exact absurd (okLens_true e).1 h
theorem okLens_mk {l : List Int} (h1 : 1 ≤ l.length ∧ l.length ≤ 320) (h2 : LenOk l) : okLens l = true := by
  unfold okLens
  simp only [Bool.and_eq_true, decide_eq_true_eq, List.all_eq_true]
  exact ⟨h1, fun x hx => h2 x hx⟩

theorem rcode_spec {H : Heap} {a : Option Addr} {n c : Nat} {l : List Int} (hr : Row H a (by64 l)) (hn : n = l.length) :
    ACalls Tryd.prog 76 [Value.slice a n c].toArray H fun e H' => e = .returned (.tuple #[.bool (isCode l), .bool (isWhole l)]) ∧ H' = H := by
  subst hn
  refine call76 (Nat.le_of_ble_eq_true rfl) ?_
  unfold L76 env0
  have bad : okLens l = false → isCode l = false ∧ isWhole l = false := fun h => by unfold isCode isWhole; rw [h]; exact ⟨rfl, rfl⟩
  by_cases h1 : l.length < 1
  · have f1 : decide ((l.length : Int) < 1) = true := decide_eq_true (by omega)
    obtain ⟨b1, b2⟩ := bad (okLens_len (by omega))
    rw [b1, b2]
    simp -implicitDefEqProofs (maxSteps := 1000000) (disch := first | omega | assumption) only [f1, l_g, Sx, reduceIte, Nat.reduceEqDiff, reduceCtorEq, Nat.reduceAdd, Nat.reduceSub, Nat.reduceLT]
    exact ⟨by trivial, by trivial⟩
  · have f1 : decide ((l.length : Int) < 1) = false := decide_eq_false (by omega)
    by_cases h2 : 320 < l.length
    · have f2 : decide ((320 : Int) < (l.length : Int)) = true := decide_eq_true (by omega)
      obtain ⟨b1, b2⟩ := bad (okLens_len (by omega))
      rw [b1, b2]
      simp -implicitDefEqProofs (maxSteps := 1000000) (disch := first | omega | assumption) only [f1, f2, l_g, Sx, reduceIte, Nat.reduceEqDiff, reduceCtorEq, Nat.reduceAdd, Nat.reduceSub, Nat.reduceLT]
      exact ⟨by trivial, by trivial⟩
    · have f2 : decide ((320 : Int) < (l.length : Int)) = false := decide_eq_false (by omega)
      simp -implicitDefEqProofs (maxSteps := 1000000) (disch := first | omega | assumption) only [f1, f2, l_g, Sx, reduceIte, Nat.reduceEqDiff, reduceCtorEq, Nat.reduceAdd, Nat.reduceSub, Nat.reduceLT]
      refine c_loop (fun k env H' => ∃ i, k + i = l.length ∧ env 0 = .slice a l.length c ∧ env 4 = .int .i64 i ∧ (∀ x ∈ l.take i, 0 ≤ x ∧ x ≤ 15) ∧ H' = H) l.length ⟨0, by omega, rfl, rfl, (fun x hx => by simp at hx), rfl⟩ ?_
      rintro k env H1 ⟨i, hk, h0, h4, hall, rfl⟩
      unfold L76_0
      by_cases hi : i < l.length
      · have f0 : decide ((i : Int) < (l.length : Int)) = true := decide_eq_true (by omega)
        obtain ⟨b, rfl, hb⟩ := int_at hr hi
        by_cases h3 : l[i] < 0
        · have f3 : decide (l[i] < 0) = true := decide_eq_true h3
          obtain ⟨b1, b2⟩ := bad (okLens_bad (List.getElem_mem hi) (.inl h3))
          rw [b1, b2]
          simp -implicitDefEqProofs (maxSteps := 1000000) (disch := first | omega | assumption) only [h0, h4, f0, f3, hb, l_g, Sx, reduceIte, Nat.reduceEqDiff, reduceCtorEq, Nat.reduceAdd, Nat.reduceSub, Nat.reduceLT]
          exact ⟨by trivial, by trivial⟩
        · have f3 : decide (l[i] < 0) = false := decide_eq_false h3
          by_cases h5 : 15 < l[i]
          · have f5 : decide (15 < l[i]) = true := decide_eq_true h5
            obtain ⟨b1, b2⟩ := bad (okLens_bad (List.getElem_mem hi) (.inr h5))
            rw [b1, b2]
            simp -implicitDefEqProofs (maxSteps := 1000000) (disch := first | omega | assumption) only [h0, h4, f0, f3, f5, hb, l_g, Sx, reduceIte, Nat.reduceEqDiff, reduceCtorEq, Nat.reduceAdd, Nat.reduceSub, Nat.reduceLT]
            exact ⟨by trivial, by trivial⟩
          · have f5 : decide (15 < l[i]) = false := decide_eq_false h5
            simp -implicitDefEqProofs (maxSteps := 1000000) (disch := first | omega | assumption) only [h0, h4, f0, f3, f5, hb, l_g, Sx, reduceIte, Nat.reduceEqDiff, reduceCtorEq, Nat.reduceAdd, Nat.reduceSub, Nat.reduceLT]
            refine ⟨k - 1, by omega, i + 1, by omega, by trivial, by simp, fun x hx => ?_, by trivial⟩
            rw [List.take_succ_eq_append_getElem hi] at hx
            rcases List.mem_append.1 hx with hx | hx
            · exact hall x hx
            · rw [List.mem_singleton] at hx
              subst hx
              omega
      · have f0 : decide ((i : Int) < (l.length : Int)) = false := decide_eq_false (by omega)
        rw [List.take_of_length_le (by omega)] at hall
        have hok := okLens_mk ⟨by omega, by omega⟩ hall
        simp -implicitDefEqProofs (maxSteps := 1000000) (disch := first | omega | assumption) only [h0, h4, f0, Sx, reduceIte, Nat.reduceEqDiff, reduceCtorEq, Nat.reduceAdd, Nat.reduceSub, Nat.reduceLT]
        refine a_call (sum_spec hr rfl (by omega) hall) ?_
        rintro e H2 ⟨rfl, rfl⟩
        unfold isCode isWhole
        rw [hok]
        have e1 : ((kraft l : Nat) : Int) = 32768 ↔ kraft l = 32768 := by omega
        have e2 : (((kraft l : Nat) : Int) == 32768) = decide (kraft l = 32768) := by
          by_cases h : kraft l = 32768
          · rw [decide_eq_true h, beq_iff_eq]; omega
          · rw [decide_eq_false h, beq_eq_false_iff_ne]; omega
        by_cases h6 : 0 < kraft l
        · have f6 : decide ((0 : Int) < (kraft l : Nat)) = true := decide_eq_true (by omega)
          by_cases h7 : kraft l ≤ 32768
          · have f7 : decide (((kraft l : Nat) : Int) ≤ 32768) = true := decide_eq_true (by omega)
            simp -implicitDefEqProofs (maxSteps := 1000000) (disch := first | omega | assumption) only [endK, f6, f7, e2, l_g, Sx, reduceIte, Nat.reduceEqDiff, reduceCtorEq, Nat.reduceAdd, Nat.reduceSub, Nat.reduceLT]
            exact ⟨by simp [h6, h7], by trivial⟩
          · have f7 : decide (((kraft l : Nat) : Int) ≤ 32768) = false := decide_eq_false (by omega)
            simp -implicitDefEqProofs (maxSteps := 1000000) (disch := first | omega | assumption) only [endK, f6, f7, e2, l_g, Sx, reduceIte, Nat.reduceEqDiff, reduceCtorEq, Nat.reduceAdd, Nat.reduceSub, Nat.reduceLT]
            exact ⟨by simp [h6, h7], by trivial⟩
        · have f6 : decide ((0 : Int) < (kraft l : Nat)) = false := decide_eq_false (by omega)
          simp -implicitDefEqProofs (maxSteps := 1000000) (disch := first | omega | assumption) only [endK, f6, e2, l_g, Sx, reduceIte, Nat.reduceEqDiff, reduceCtorEq, Nat.reduceAdd, Nat.reduceSub, Nat.reduceLT]
          exact ⟨by simp [h6], by trivial⟩

theorem and1_i64 {a : Nat} (h : a < 1099511627776) : Go.bits .and .i64 (a : Int) 1 = ((a % 2 : Nat) : Int) := by
  unfold Go.bits
  simp only [BitVec.ofInt_natCast]
  have e2 : (BitVec.ofNat 64 a &&& BitVec.ofNat 64 1).toNat = a % 2 := by
    rw [BitVec.toNat_and, BitVec.toNat_ofNat, BitVec.toNat_ofNat, Nat.mod_eq_of_lt (by omega : a < 2 ^ 64)]
    exact Nat.and_one_is_mod a
  show IntKind.i64.wrap ((BitVec.ofNat 64 a &&& BitVec.ofNat 64 1).toNat : Int) = _
  rw [e2]
  exact w_i64 (by omega)
/-- a word's bits, the highest first -/
def msb : Nat → Nat → List Bool
  | 0, _ => []
  | n + 1, w => (w / 2 ^ n % 2 == 1) :: msb n w
theorem msb_len : ∀ n w, (msb n w).length = n
  | 0, _ => rfl
  | n + 1, w => by rw [msb, List.length_cons, msb_len n w]
theorem msb_val : ∀ n w, CodeLaw.val (msb n w) = w % 2 ^ n
  | 0, w => by simp [msb, CodeLaw.val, Nat.mod_one]
  | n + 1, w => by
    rw [msb, CodeLaw.val, msb_len, msb_val n w, Nat.pow_succ, Nat.mod_mul]
    have : w / 2 ^ n % 2 = 0 ∨ w / 2 ^ n % 2 = 1 := by omega
    rcases this with h | h <;> simp [h] <;> omega

theorem or_high (R j : Nat) (b : Bool) (h : R * 2 ^ (j + 1) + 2 ^ j < 4294967296) : Go.bits .or .u32 ((R * 2 ^ (j + 1) : Nat) : Int) (((if b then 1 else 0) * 2 ^ j : Nat) : Int) = ((R * 2 ^ (j + 1) + (if b then 1 else 0) * 2 ^ j : Nat) : Int) := by
  have hb : (if b then 1 else 0) * 2 ^ j < 2 ^ (j + 1) := by
    have := Nat.two_pow_pos j
    rw [Nat.pow_succ]
    cases b <;> simp <;> omega
  have hb2 : (if b then 1 else 0) * 2 ^ j ≤ 2 ^ j := by cases b <;> simp
  rw [u32_or _ _ (by omega) (by omega) (by omega) (by omega)]
  simp only [Int.toNat_natCast]
  have h3 := Nat.two_pow_add_eq_or_of_lt hb R
  rw [Nat.mul_comm R, ← h3]
def rev (n w : Nat) : Nat := match n with
  | 0 => 0
  | n + 1 => w / 2 ^ n % 2 + 2 * rev n w
theorem rev_lt : ∀ n w, rev n w < 2 ^ n
  | 0, w => by simp [rev]
  | n + 1, w => by have := rev_lt n w; rw [rev, Nat.pow_succ]; omega
theorem turned_spec {H : Heap} {w n : Nat} (hw : w < 65536) (hn : n ≤ 15) :
    ACalls Tryd.prog 70 [Value.int .i64 w, .int .i64 n].toArray H fun e H' => e = .returned (.int .u32 (rev n w : Nat)) ∧ H' = H := by
  refine call70 (Nat.le_of_ble_eq_true rfl) ?_
  unfold L70 env0
  simp -implicitDefEqProofs (maxSteps := 1000000) (disch := first | omega | assumption) only [Sx, reduceIte, Nat.reduceEqDiff, reduceCtorEq, Nat.reduceAdd, Nat.reduceSub, Nat.reduceLT]
  refine c_loop (fun k env H' => ∃ i, k + i = n ∧ env 0 = .int .i64 w ∧ env 1 = .int .i64 n ∧ env 5 = .int .u32 (rev i w * 2 ^ (n - i) : Nat) ∧ env 7 = .int .i64 n ∧ env 8 = .int .i64 i ∧ H' = H) n ⟨0, by omega, rfl, rfl, by simp [rev]; simp -implicitDefEqProofs (maxSteps := 1000000) (disch := first | omega | assumption) only [Sx, reduceIte, Nat.reduceEqDiff, reduceCtorEq, Nat.reduceAdd, Nat.reduceSub, Nat.reduceLT], rfl, rfl, rfl⟩ ?_
  rintro k env H1 ⟨i, hk, h0, h1, h5, h7, h8, rfl⟩
  unfold L70_0
  by_cases hi : i < n
  · have f0 : decide ((i : Int) < (n : Int)) = true := decide_eq_true (by omega)
    have e1 : min i 64 = i := by omega
    have e2 : (w : Int).fdiv (2 ^ i) = ((w / 2 ^ i : Nat) : Int) := by
      rw [Int.fdiv_eq_ediv_of_nonneg _ (by exact_mod_cast Nat.zero_le (2 ^ i))]
      simp
    have hd : w / 2 ^ i ≤ w := Nat.div_le_self _ _
    have e3 := and1_i64 (a := w / 2 ^ i) (by omega)
    have e4 : IntKind.u32.wrap ((w / 2 ^ i % 2 : Nat) : Int) = ((w / 2 ^ i % 2 : Nat) : Int) := w_u32 (by omega)
    have e5 : (n : Int) - 1 - (i : Int) = ((n - 1 - i : Nat) : Int) := by omega
    have hp : 2 ^ (n - 1 - i) ≤ 32768 := Nat.le_trans (Nat.pow_le_pow_right (by omega) (show n - 1 - i ≤ 15 by omega)) (by decide)
    obtain ⟨b, hb⟩ : ∃ b : Bool, w / 2 ^ i % 2 = (if b then 1 else 0) := ⟨w / 2 ^ i % 2 == 1, by
      have : w / 2 ^ i % 2 = 0 ∨ w / 2 ^ i % 2 = 1 := by omega
      rcases this with h | h <;> simp [h]⟩
    have e6 : IntKind.u32.wrap (((w / 2 ^ i % 2 : Nat) : Int) * 2 ^ min (n - 1 - i) 32) = ((w / 2 ^ i % 2 * 2 ^ (n - 1 - i) : Nat) : Int) := by
      rw [Nat.min_eq_left (by omega)]
      have e : ((w / 2 ^ i % 2 : Nat) : Int) * 2 ^ (n - 1 - i) = ((w / 2 ^ i % 2 * 2 ^ (n - 1 - i) : Nat) : Int) := by simp
      rw [e]
      have hq : w / 2 ^ i % 2 * 2 ^ (n - 1 - i) ≤ 32768 := by rw [hb]; cases b <;> simp; exact hp
      generalize w / 2 ^ i % 2 * 2 ^ (n - 1 - i) = q at hq
      exact w_u32 (by omega)
    have hr := rev_lt i w
    have hj : n - i = n - 1 - i + 1 := by omega
    have hT : rev i w * 2 ^ (n - 1 - i + 1) + 2 ^ (n - 1 - i) < 4294967296 := by
      have h1 : rev i w * 2 ^ (n - 1 - i + 1) ≤ 2 ^ i * 2 ^ (n - 1 - i + 1) := Nat.mul_le_mul_right _ (by omega)
      rw [← Nat.pow_add, show i + (n - 1 - i + 1) = n by omega] at h1
      have h2 : 2 ^ n ≤ 2 ^ 15 := Nat.pow_le_pow_right (by omega) hn
      omega
    have e7 := or_high (rev i w) (n - 1 - i) b hT
    rw [← hb] at e7
    rw [hj] at h5
    simp -implicitDefEqProofs (maxSteps := 1000000) (disch := first | omega | assumption) only [h0, h1, h5, h7, h8, f0, e1, e2, e3, e4, e5, e6, e7, Sx, reduceIte, Nat.reduceEqDiff, reduceCtorEq, Nat.reduceAdd, Nat.reduceSub, Nat.reduceLT]
    refine ⟨k - 1, by omega, i + 1, by omega, by trivial, by trivial, ?_, by trivial, by simp, by trivial⟩
    rw [show n - (i + 1) = n - 1 - i by omega, rev, Nat.add_mul, Nat.pow_succ, ← Nat.mul_assoc]
    congr 2
    generalize 2 ^ (n - 1 - i) = p
    rw [Nat.mul_assoc 2 (rev i w) p]
    generalize rev i w * p = q
    omega
  · have f0 : decide ((i : Int) < (n : Int)) = false := decide_eq_false (by omega)
    have : i = n := by omega
    subst this
    rw [Nat.sub_self, Nat.pow_zero, Nat.mul_one] at h5
    simp -implicitDefEqProofs (maxSteps := 1000000) (disch := first | omega | assumption) only [h5, h7, h8, f0, Sx, reduceIte, Nat.reduceEqDiff, reduceCtorEq, Nat.reduceAdd, Nat.reduceSub, Nat.reduceLT]
    exact ⟨by trivial, by trivial⟩
end Go.Proofs.YtphojebganlbnaaDoor.S05
