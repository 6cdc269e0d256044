/-
  Components: what is wrong with one; joined.
-/
import Derived.Test.YtmgpfdfbcnlocaaDoorLowC
import Derived.Test.YtmgpfdfbcnlocaaDoorNameLaw
set_option linter.unusedVariables false
set_option linter.unusedSimpArgs false
namespace Go.Proofs.YtmgpfdfbcnlocaaDoor.S09
open Go Go.RowKit Go.Proofs.YtmgpfdfbcnlocaaDoor.Sep Go.Proofs.YtmgpfdfbcnlocaaDoor.Low Go.Proofs.YtmgpfdfbcnlocaaDoor.Lib

theorem ixb_spec {H : Heap} (l : List UInt8) (c : UInt8) : ACalls Tryd.prog 33 [Value.string ⟨l.toArray⟩, .int .u8 c.toNat].toArray H fun e H' => e = .returned (.int .i64 (Go.Lib.indexByte l c)) ∧ H' = H :=
  acalls_of fun w _ => (Tryd.strings_IndexByte ⟨l.toArray⟩ c.toNat w).mono fun e w' h => by simpa using h
theorem ix_mem (l : List UInt8) (c : UInt8) : decide ((0 : Int) ≤ Go.Lib.indexByte l c) = decide (c ∈ l) := by
  rcases index_cases c l with ⟨h1, h2⟩ | ⟨p, r, rfl, h2, h3⟩
  · rw [h1, decide_eq_false h2]; rfl
  · rw [h3, decide_eq_true (p := c ∈ p ++ c :: r) (by simp), decide_eq_true (by omega)]
end Go.Proofs.YtmgpfdfbcnlocaaDoor.S09
