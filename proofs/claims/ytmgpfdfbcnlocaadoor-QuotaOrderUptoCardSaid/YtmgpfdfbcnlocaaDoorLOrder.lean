/-
  QuotaOrder, as the row hands it in.
-/
import Derived.Test.YtmgpfdfbcnlocaaDoorOrder
import Derived.Test.YtmgpfdfbcnlocaaDoorOpnEn
set_option linter.unusedVariables false
set_option linter.unusedSimpArgs false
namespace Go.Proofs.YtmgpfdfbcnlocaaDoor.S18
open Go Go.RowKit Go.Proofs.YtmgpfdfbcnlocaaDoor.Sep Go.Proofs.YtmgpfdfbcnlocaaDoor.Low Go.Proofs.YtmgpfdfbcnlocaaDoor.Lib Go.Proofs.YtmgpfdfbcnlocaaDoor.S09

theorem order_row {H : Heap} (q : Qt) (cs : Array Value) (hK : qtTy.K H q cs.toList) (wq : Wq q) (A : Option Addr) (c : Nat) (l : List En) (cl : List (List Value)) (he : Els enTy H A l cl) (hc : l.length ≤ c) (wl : (∀ x ∈ l, Wm x) ∧ l.length ≤ maxLen) (t : Int) (wt : (Lit.int .i64 t).wf = true) (hb : (l.map fun x => x.n.length + 8).sum ≤ 1048576) :
    ACalls Tryd.prog 5 [Value.agg cs, .slice A l.length c, .int .i64 t].toArray H fun e' H' => e' = .returned (.bool true) ∧ Keep H H' := by
  rw [cs_qt hK]
  exact order_walk wq (els_ens he) hc (wn_all wl.1 hb) (by have := bulk_len l; omega) (wf_i64 wt)
end Go.Proofs.YtmgpfdfbcnlocaaDoor.S18
