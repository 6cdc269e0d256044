/-
  QuotaMany, as the row hands it in.
-/
import Derived.Test.YtmgpfdfbcnlocaaDoorMany3
import Derived.Test.YtmgpfdfbcnlocaaDoorOpnEn
set_option linter.unusedVariables false
set_option linter.unusedSimpArgs false
namespace Go.Proofs.YtmgpfdfbcnlocaaDoor.S18
open Go Go.RowKit Go.Proofs.YtmgpfdfbcnlocaaDoor.Sep Go.Proofs.YtmgpfdfbcnlocaaDoor.Low Go.Proofs.YtmgpfdfbcnlocaaDoor.Lib Go.Proofs.YtmgpfdfbcnlocaaDoor.S09

theorem many_row {H : Heap} (q : Qt) (cs : Array Value) (hK : qtTy.K H q cs.toList) (wq : Wq q) (A : Option Addr) (c : Nat) (l : List En) (cl : List (List Value)) (he : Els enTy H A l cl) (hc : l.length ≤ c) (wl : (∀ x ∈ l, Wm x) ∧ l.length ≤ maxLen) (t : Int) (wt : (Lit.int .u16 t).wf = true) (hb : (l.map fun x => x.n.length + 8).sum ≤ 1048576) :
    ACalls Tryd.prog 3 [Value.agg cs, .slice A l.length c, .int .u16 t].toArray H fun e' H' => e' = .returned (.bool true) ∧ Keep H H' := by
  rw [cs_qt hK]
  refine many_walk wq (els_ens he) hc (wn_all wl.1 hb) (by have := bulk_len l; omega) ?_
  simpa [Lit.wf, IntKind.min, IntKind.max, IntKind.signed, IntKind.bits] using wt
end Go.Proofs.YtmgpfdfbcnlocaaDoor.S18
