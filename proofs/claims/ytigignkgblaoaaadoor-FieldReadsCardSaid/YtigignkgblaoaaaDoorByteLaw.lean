/-
  Bits of bytes.
-/
import Derived.Test.YtigignkgblaoaaaDoorBinLaw
set_option linter.unusedVariables false
set_option linter.unusedSimpArgs false
namespace Go.Proofs.YtigignkgblaoaaaDoor.S12
open Go Go.RowKit Go.Proofs.YtigignkgblaoaaaDoor.Sep Go.Proofs.YtigignkgblaoaaaDoor.Lib

theorem every_byte {p : Int → Bool} (h : ((List.range 256).all fun n => p (n : Nat)) = true) {x : Int} (hx : 0 ≤ x ∧ x < 256) : p x = true := by
  have := List.all_eq_true.1 h x.toNat (List.mem_range.2 (by omega))
  rwa [Int.toNat_of_nonneg hx.1] at this
theorem and128 {x : Int} (hx : 0 ≤ x ∧ x < 256) : Go.bits .and .u8 x 128 = if 128 ≤ x then 128 else 0 := by
  have := every_byte (p := fun x => decide (Go.bits .and .u8 x 128 = if 128 ≤ x then 128 else 0)) (by decide +kernel) hx
  simpa using this
theorem and64 {x : Int} (hx : 0 ≤ x ∧ x < 256) : Go.bits .and .u8 x 64 = if 64 ≤ x % 128 then 64 else 0 := by
  have := every_byte (p := fun x => decide (Go.bits .and .u8 x 64 = if 64 ≤ x % 128 then 64 else 0)) (by decide +kernel) hx
  simpa using this
theorem andn128 {x : Int} (hx : 0 ≤ x ∧ x < 256) : Go.bits .andNot .u8 x 128 = x % 128 := by
  have := every_byte (p := fun x => decide (Go.bits .andNot .u8 x 128 = x % 128)) (by decide +kernel) hx
  simpa using this
theorem or0 {x : Int} (hx : 0 ≤ x ∧ x < 256) : Go.bits .or .u8 x 0 = x := by
  have := every_byte (p := fun x => decide (Go.bits .or .u8 x 0 = x)) (by decide +kernel) hx
  simpa using this
theorem or128 {x : Int} (hx : 0 ≤ x ∧ x < 256) : Go.bits .or .u8 x 128 = x % 128 + 128 := by
  have := every_byte (p := fun x => decide (Go.bits .or .u8 x 128 = x % 128 + 128)) (by decide +kernel) hx
  simpa using this
theorem xor0 {x : Int} (hx : 0 ≤ x ∧ x < 256) : Go.bits .and .u8 (Go.bits .xor .u8 x 0) 128 = if 128 ≤ x then 128 else 0 := by
  have := every_byte (p := fun x => decide (Go.bits .and .u8 (Go.bits .xor .u8 x 0) 128 = if 128 ≤ x then 128 else 0)) (by decide +kernel) hx
  simpa using this
theorem xor255 {x : Int} (hx : 0 ≤ x ∧ x < 256) : Go.bits .and .u8 (Go.bits .xor .u8 x 255) 128 = if 128 ≤ x then 0 else 128 := by
  have := every_byte (p := fun x => decide (Go.bits .and .u8 (Go.bits .xor .u8 x 255) 128 = if 128 ≤ x then 0 else 128)) (by decide +kernel) hx
  simpa using this
theorem or_step {n x : Int} (hx : 0 ≤ x ∧ x < 256) (hf : fits64 (n * 256 + x)) : Go.bits .or .i64 (IntKind.i64.wrap (n * 2 ^ min (8 : Int).toNat 64)) x = n * 256 + x := by
  simp only [fits64, lo64, hi64] at hf
  have e8 : (2 : Int) ^ min (8 : Int).toNat 64 = 256 := by decide
  rw [e8, w_i64 (by omega)]
  have hb : ∀ a b : Int, Go.bits .or .i64 a b = IntKind.i64.wrap ((BitVec.ofInt 64 a ||| BitVec.ofInt 64 b).toNat : Nat) := fun a b => rfl
  rw [hb, BitVec.toNat_or, BitVec.toNat_ofInt, BitVec.toNat_ofInt]
  have h64 : ((2 ^ 64 : Nat) : Int) = 18446744073709551616 := by decide
  rw [h64]
  have hk : (n * 256 % 18446744073709551616).toNat = (n % 72057594037927936).toNat <<< 8 := by
    rw [Nat.shiftLeft_eq, show (2 ^ 8 : Nat) = 256 from rfl]
    omega
  have hxx : (x % 18446744073709551616).toNat = x.toNat := by omega
  rw [hk, hxx, ← Nat.shiftLeft_add_eq_or_of_lt (by omega : x.toNat < 2 ^ 8), Nat.shiftLeft_eq, show (2 ^ 8 : Nat) = 256 from rfl]
  unfold IntKind.wrap IntKind.bits IntKind.signed
  have e1 : (2 ^ 64 : Int) = 18446744073709551616 := by decide
  have e2 : (2 ^ (64 - 1) : Int) = 9223372036854775808 := by decide
  simp only [Bool.true_and, decide_eq_true_eq, e1, e2]
  split <;> omega
end Go.Proofs.YtigignkgblaoaaaDoor.S12
