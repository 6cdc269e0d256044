/-
  Numbers to the base 256, plain.
-/
import Derived.Test.YtigignkgblaoaaaDoorBytes
set_option linter.unusedVariables false
set_option linter.unusedSimpArgs false
namespace Go.Proofs.YtigignkgblaoaaaDoor.S12
open Go Go.Proofs.YtigignkgblaoaaaDoor.Lib

/-- the highest byte first -/
def bv (s : Int) : List Int → Int
  | [] => s
  | x :: l => bv (s * 256 + x) l
theorem bv_app : ∀ (a b : List Int) (s : Int), bv s (a ++ b) = bv (bv s a) b
  | [], b, s => rfl
  | x :: a, b, s => by rw [List.cons_append, bv, bv, bv_app a b]
def p256 : Nat → Int
  | 0 => 1
  | n + 1 => p256 n * 256
theorem p256_pos : ∀ n, 0 < p256 n
  | 0 => by decide
  | n + 1 => by have := p256_pos n; rw [p256]; omega
theorem bv_lin : ∀ (l : List Int) (s : Int), bv s l = s * p256 l.length + bv 0 l
  | [], s => by simp [bv, p256]
  | x :: l, s => by
    rw [bv, bv, bv_lin l (s * 256 + x), bv_lin l (0 * 256 + x), List.length_cons, p256, Int.add_mul, Int.mul_assoc, Int.mul_comm 256 (p256 _), Int.zero_mul, Int.zero_add, Int.add_assoc]
theorem bv_bnd : ∀ {l : List Int}, isBy l → 0 ≤ bv 0 l ∧ bv 0 l < p256 l.length
  | [], _ => by decide
  | x :: l, h => by
    have ih := bv_bnd (l := l) fun y hy => h y (List.mem_cons_of_mem _ hy)
    have hx := h x List.mem_cons_self
    rw [bv, bv_lin, Int.zero_mul, Int.zero_add, List.length_cons, p256]
    have hp := p256_pos l.length
    have h1 : 0 ≤ x * p256 l.length := Int.mul_nonneg hx.1 (by omega)
    have h2 : x * p256 l.length ≤ 255 * p256 l.length := Int.mul_le_mul_of_nonneg_right (by omega) (by omega)
    constructor
    · omega
    · have h3 : p256 l.length * 256 = 255 * p256 l.length + p256 l.length := by omega
      omega
theorem p256_add : ∀ (m n : Nat), p256 (m + n) = p256 m * p256 n
  | m, 0 => by simp [p256]
  | m, n + 1 => by rw [← Nat.add_assoc, p256, p256, p256_add m n, Int.mul_assoc]
/-- the bounds of what more bytes make of a number -/
theorem bv_lo {l : List Int} (h : isBy l) (s : Int) : s * p256 l.length ≤ bv s l := by rw [bv_lin]; have := bv_bnd h; omega
theorem bv_hi {l : List Int} (h : isBy l) (s : Int) : bv s l < (s + 1) * p256 l.length := by rw [bv_lin, Int.add_mul, Int.one_mul]; have := bv_bnd h; omega

abbrev lo64 : Int := -9223372036854775808
abbrev hi64 : Int := 9223372036854775807
abbrev fits64 (z : Int) : Prop := lo64 ≤ z ∧ z ≤ hi64
theorem p256_8 {n : Nat} (h : 8 ≤ n) : 18446744073709551616 ≤ p256 n := by
  obtain ⟨k, rfl⟩ : ∃ k, n = 8 + k := ⟨n - 8, by omega⟩
  rw [p256_add, show p256 8 = 18446744073709551616 from rfl]
  have := p256_pos k
  have h2 : 18446744073709551616 * 1 ≤ 18446744073709551616 * p256 k := Int.mul_le_mul_of_nonneg_left (by omega) (by decide)
  omega
/-- a byte that is none of the sign's, more than eight from the end -/
theorem far_big {s x : Int} {l : List Int} (hs : s = 0 ∨ s = -1) (hx : 0 ≤ x ∧ x < 256) (hne : x ≠ if s = 0 then 0 else 255) (h : isBy l) (hl : 8 ≤ l.length) : ¬ fits64 (bv s (x :: l)) := by
  rw [bv]
  have hp := p256_8 hl
  have h1 := bv_lo h (s * 256 + x)
  have h2 := bv_hi h (s * 256 + x)
  generalize bv (s * 256 + x) l = B at h1 h2
  rintro ⟨h3, h4⟩
  rcases hs with rfl | rfl
  · rw [if_pos rfl] at hne
    have h5 : 1 * p256 l.length ≤ (0 * 256 + x) * p256 l.length := Int.mul_le_mul_of_nonneg_right (by omega) (by omega)
    simp only [hi64] at h4
    omega
  · rw [if_neg (by decide)] at hne
    have h5 : (-1 * 256 + x + 1) * p256 l.length ≤ (-1) * p256 l.length := Int.mul_le_mul_of_nonneg_right (by omega) (by omega)
    simp only [lo64] at h3
    omega
/-- a byte that has not the sign's bit, eight from the end -/
theorem top_big {s x : Int} {l : List Int} (hs : s = 0 ∨ s = -1) (hx : 0 ≤ x ∧ x < 256) (hne : (s = 0 ∧ 128 ≤ x) ∨ (s = -1 ∧ x < 128)) (h : isBy l) (hl : l.length = 7) : ¬ fits64 (bv s (x :: l)) := by
  rw [bv]
  have h1 := bv_lo h (s * 256 + x)
  have h2 := bv_hi h (s * 256 + x)
  rw [hl, show p256 7 = 72057594037927936 from rfl] at h1 h2
  generalize bv (s * 256 + x) l = B at h1 h2
  rintro ⟨h3, h4⟩
  simp only [lo64, hi64] at h3 h4
  rcases hne with ⟨rfl, h⟩ | ⟨rfl, h⟩ <;> omega
/-- how great a number may be with so many bytes to come -/
def capB : Nat → Int
  | 0 => 9223372036854775808
  | 1 => 36028797018963968
  | 2 => 140737488355328
  | 3 => 549755813888
  | 4 => 2147483648
  | 5 => 8388608
  | 6 => 32768
  | _ => 128
theorem capB_step {r : Nat} (h : r < 7) : capB r = 256 * capB (r + 1) := by
  match r, h with
  | 0, _ | 1, _ | 2, _ | 3, _ | 4, _ | 5, _ | 6, _ => rfl
theorem capB_bnd (r : Nat) : 128 ≤ capB r ∧ capB r ≤ 9223372036854775808 := by
  unfold capB
  split <;> decide
/-- while bytes are taken in: r of them are to come -/
def Mid (s n : Int) (r : Nat) : Prop := (8 ≤ r → n = s) ∧ (r < 8 → -capB r ≤ n ∧ n < capB r)
theorem mid_first {s : Int} {r : Nat} (hs : s = 0 ∨ s = -1) : Mid s s r := ⟨fun _ => rfl, fun _ => by have := capB_bnd r; rcases hs with rfl | rfl <;> omega⟩
theorem mid_step {s n x : Int} {r : Nat} (hs : s = 0 ∨ s = -1) (hx : 0 ≤ x ∧ x < 256) (h : Mid s n (r + 1)) (h9 : 8 ≤ r → x = if s = 0 then 0 else 255) (h8 : r = 7 → ¬ ((s = 0 ∧ 128 ≤ x) ∨ (s = -1 ∧ x < 128))) : Mid s (n * 256 + x) r := by
  constructor
  · intro hr
    have e := h.1 (by omega)
    have e2 := h9 hr
    rcases hs with rfl | rfl
    · rw [if_pos rfl] at e2; omega
    · rw [if_neg (by decide)] at e2; omega
  · intro hr
    by_cases h7 : r = 7
    · have e := h.1 (by omega)
      have e2 := h8 h7
      subst h7
      simp only [capB]
      rcases hs with rfl | rfl <;> omega
    · have e := h.2 (by omega)
      rw [capB_step (by omega)]
      omega
theorem mid_fits {s n : Int} {r : Nat} (hs : s = 0 ∨ s = -1) (h : Mid s n r) : fits64 n := by
  have hc := capB_bnd r
  simp only [fits64, lo64, hi64]
  by_cases hr : 8 ≤ r
  · have := h.1 hr; rcases hs with rfl | rfl <;> omega
  · have := h.2 (by omega); omega
theorem fits_small {l : List Int} {s : Int} (hs : s = 0 ∨ s = -1) (h : isBy l) (hl : l.length ≤ 7) : fits64 (bv s l) := by
  have h1 := bv_lo h s
  have h2 := bv_hi h s
  have hp : p256 l.length ≤ 72057594037927936 := by
    match hm : l.length, hl with
    | 0, _ | 1, _ | 2, _ | 3, _ | 4, _ | 5, _ | 6, _ | 7, _ => decide
  have hp0 := p256_pos l.length
  simp only [fits64, lo64, hi64]
  rcases hs with rfl | rfl <;> omega

/-- the sign, and the bytes with it -/
def signB (l : List Int) : Int := if 64 ≤ l.headD 0 % 128 then -1 else 0
def bodyB : List Int → List Int
  | [] => []
  | x :: r => (if 64 ≤ x % 128 then x else x - 128) :: r
def binV (l : List Int) : Int := bv (signB l) (bodyB l)
/-- Binary -/
def binN (l : List Int) : Int × Int := if l.length < 2 ∨ l.headD 0 < 128 then (0, 120) else if fits64 (binV l) then (binV l, 0) else (0, 121)
theorem sign_cases (l : List Int) : signB l = 0 ∨ signB l = -1 := by unfold signB; split <;> simp
theorem bodyB_by {l : List Int} (h : isBy l) (h1 : 128 ≤ l.headD 0) : isBy (bodyB l) := by
  cases l with
  | nil => intro x hx; cases hx
  | cons x r =>
    intro y hy
    simp only [List.headD_cons] at h1
    have hx := h x List.mem_cons_self
    rw [bodyB] at hy
    rcases List.mem_cons.1 hy with rfl | hy
    · split <;> omega
    · exact h y (List.mem_cons_of_mem _ hy)
theorem bodyB_len (l : List Int) : (bodyB l).length = l.length := by cases l <;> rfl
/-- Number -/
def numN (oct : List Int → Int × Int) (l : List Int) : Int × Int := if 0 < l.length ∧ 128 ≤ l.headD 0 then binN l else oct l
end Go.Proofs.YtigignkgblaoaaaDoor.S12
