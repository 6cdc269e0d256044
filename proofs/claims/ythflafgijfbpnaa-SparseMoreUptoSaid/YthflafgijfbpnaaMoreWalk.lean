/-
  SparseMore: the law's walk, where the bytes are at most 2^20.
-/
import Derived.Test.YthflafgijfbpnaaMore
set_option linter.unusedVariables false
namespace Go.Proofs.Ythflafgijfbpnaa.PSparseMoreFind
open Go.RowKit Go.Proofs.Ythflafgijfbpnaa.PSparseMore Go.Proofs.YthflafgijfbpnaaW.PrintWords Go.Proofs.YthflafgijfbpnaaW.PrintLast Go.Proofs.YthflafgijfbpnaaW.PrintMore
theorem sum_ones (l : List Int) : (l.map fun _ => 1).sum = l.length := by
  induction l with
  | nil => rfl
  | cons a l ih => simp [ih]; omega
theorem walk (w : World) (A : Option Addr) (c : Nat) (l : List Int) (hr : Kd.C (Kd.int .u8) w A l.length l) (hc : l.length ≤ c) (_ : (∀ x ∈ l, (Lit.int .u8 x).wf = true) ∧ l.length ≤ maxLen) (a : Int) (_ : (Lit.int .i64 a).wf = true) (b : Int) (_ : (Lit.int .i64 b).wf = true)
    (hb : (l.map fun _ => 1).sum + 1 ≤ 1048576) : Calls Try.prog 3 #[.slice A l.length c, .int .i64 a, .int .i64 b] w fun e w' => e = .returned (.bool true) ∧ Below w.heap.size w w' := by
  rw [sum_ones] at hb
  obtain ⟨k, h⟩ := more l (by omega) a b
  exact satchellaw15_SparseMore.calls k A c l a b true w hr hc h
end Go.Proofs.Ythflafgijfbpnaa.PSparseMoreFind
