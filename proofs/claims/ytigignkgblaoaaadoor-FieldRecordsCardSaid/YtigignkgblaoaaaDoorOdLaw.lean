/-
  Octal digits, plain.
-/
import Derived.Test.YtigignkgblaoaaaDoorBinLaw
set_option linter.unusedVariables false
set_option linter.unusedSimpArgs false
namespace Go.Proofs.YtigignkgblaoaaaDoor.S12
open Go Go.RowKit Go.Proofs.YtigignkgblaoaaaDoor.Sep Go.Proofs.YtigignkgblaoaaaDoor.Lib

def p8 : Nat → Int
  | 0 => 1
  | n + 1 => p8 n * 8
theorem p8_pos : ∀ n, 0 < p8 n
  | 0 => by decide
  | n + 1 => by have := p8_pos n; rw [p8]; omega
theorem p8_add : ∀ (m n : Nat), p8 (m + n) = p8 m * p8 n
  | m, 0 => by simp [p8]
  | m, n + 1 => by rw [← Nat.add_assoc, p8, p8, p8_add m n, Int.mul_assoc]
theorem p8_mono {m n : Nat} (h : m ≤ n) : p8 m ≤ p8 n := by
  obtain ⟨k, rfl⟩ : ∃ k, n = m + k := ⟨n - m, by omega⟩
  rw [p8_add]
  have h1 := p8_pos m
  have h2 := p8_pos k
  have h3 : p8 m * 1 ≤ p8 m * p8 k := Int.mul_le_mul_of_nonneg_left (by omega) (by omega)
  omega
theorem p8_small {j : Nat} (h : p8 j ≤ 18446744073709551615) : j ≤ 21 := by
  apply Decidable.byContradiction
  intro hn
  have := p8_mono (m := 22) (n := j) (by omega)
  have e : p8 22 = 73786976294838206464 := by decide
  omega
theorem p8_div (n : Int) (j : Nat) : n / p8 j / 8 = n / p8 (j + 1) := by
  rw [p8, Int.ediv_ediv_of_nonneg (by have := p8_pos j; omega)]
/-- so many octal digits -/
def od : Nat → Int → List Int
  | 0, _ => []
  | j + 1, n => (48 + n / p8 j % 8) :: od j n
theorem od_len : ∀ (j : Nat) (n : Int), (od j n).length = j
  | 0, _ => rfl
  | j + 1, n => by rw [od, List.length_cons, od_len j n]
theorem od_oct : ∀ (j : Nat) (n : Int), ∀ x ∈ od j n, 48 ≤ x ∧ x ≤ 55
  | 0, _, x, h => by cases h
  | j + 1, n, x, h => by
    rw [od] at h
    rcases List.mem_cons.1 h with rfl | h
    · omega
    · exact od_oct j n x h
theorem od_by (j : Nat) (n : Int) : isBy (od j n) := fun x hx => by have := od_oct j n x hx; omega
theorem od_pad (k : Nat) {n : Int} (h0 : 0 ≤ n) (h : n < p8 k) : ∀ m : Nat, od (k + m) n = List.replicate m 48 ++ od k n
  | 0 => rfl
  | m + 1 => by
    rw [← Nat.add_assoc, od, od_pad k h0 h m, List.replicate_succ, List.cons_append]
    congr 1
    have : n / p8 (k + m) = 0 := Int.ediv_eq_zero_of_lt h0 (by have := p8_mono (m := k) (n := k + m) (by omega); omega)
    rw [this]; rfl
/-- the fewest digits -/
def Few (k : Nat) (n : Int) : Prop := 1 ≤ k ∧ k ≤ 22 ∧ n < p8 k ∧ (k = 1 ∨ p8 (k - 1) ≤ n)
theorem few_le {k w : Nat} {n : Int} (h : Few k n) (hw : 1 ≤ w) : k ≤ w ↔ n < p8 w := by
  obtain ⟨h1, -, h2, h3⟩ := h
  constructor
  · intro hk
    have := p8_mono hk
    omega
  · intro hn
    apply Decidable.byContradiction
    intro hk
    rcases h3 with h3 | h3
    · omega
    · have := p8_mono (m := w) (n := k - 1) (by omega)
      omega
/-- PutOctal -/
def putO (n w : Int) : List Int × Int := if w < 2 ∨ 512 < w then ([], 1) else if n < 0 ∨ p8 (w.toNat - 1) ≤ n then ([], 122) else (od (w.toNat - 1) n ++ [0], 0)
theorem txt_nat {ds : List Int} (h : isBy ds) : (txt ds).map (fun b => (b.toNat : Int)) = ds := by
  rw [txt, List.map_map]
  conv => rhs; rw [← List.map_id ds]
  apply List.map_congr_left
  intro x hx
  have := h x hx
  simp only [Function.comp, UInt8.toNat_ofNat', id]
  omega
theorem and7 {u : Int} (h : 0 ≤ u ∧ u < 18446744073709551616) : Go.bits .and .u64 u 7 = u % 8 := by
  have hb : ∀ a b : Int, Go.bits .and .u64 a b = IntKind.u64.wrap ((BitVec.ofInt 64 a &&& BitVec.ofInt 64 b).toNat : Nat) := fun a b => rfl
  rw [hb, BitVec.toNat_and, BitVec.toNat_ofInt, BitVec.toNat_ofInt]
  have h64 : ((2 ^ 64 : Nat) : Int) = 18446744073709551616 := by decide
  rw [h64]
  have e7 : ((7 : Int) % 18446744073709551616).toNat = 2 ^ 3 - 1 := by decide
  rw [e7, Nat.and_two_pow_sub_one_eq_mod]
  have e8 : (2 : Nat) ^ 3 = 8 := rfl
  rw [e8, w_u64 (by omega)]
  omega
end Go.Proofs.YtigignkgblaoaaaDoor.S12
