/-
  SparseRound: the law, over what the row opens.
-/
import Derived.Test.YthflafgijfbpnaaSepOpn
import Derived.Test.YthflafgijfbpnaaLRound2
set_option linter.unusedVariables false
namespace Go.Proofs.Ythflafgijfbpnaa.S15
open Go Go.RowKit Go.Proofs.Ythflafgijfbpnaa.Sep Go.Proofs.Ythflafgijfbpnaa.Low Go.Proofs.Ythflafgijfbpnaa.Lib
theorem sparseRound_row {H : Heap} (A : Option Addr) (c : Nat) (bs : List Int) (cl : List (List Value)) (he : Els (Ty.int .u8) H A bs cl) (hc : bs.length ≤ c) (wf : (∀ y ∈ bs, (Lit.int .u8 y).wf = true) ∧ bs.length ≤ maxLen) (least : Int) (wf1 : (Lit.int .i64 least).wf = true) (hb : (bs.map fun _ => 1).sum + 1 + 1 ≤ 1048576) :
    ACalls Try.prog 5 [Value.slice A bs.length c, .int .i64 least].toArray H fun e H' => e = .returned (.bool true) ∧ Keep H H' :=
  sparseRound_walk A c bs cl he hc wf least wf1 (by rw [sum_ones] at hb; omega) (wf_i64 wf1)
end Go.Proofs.Ythflafgijfbpnaa.S15
