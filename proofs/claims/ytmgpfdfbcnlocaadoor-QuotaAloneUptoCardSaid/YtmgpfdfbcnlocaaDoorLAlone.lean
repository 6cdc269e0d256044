/-
  QuotaAlone, as the row hands it in.
-/
import Derived.Test.YtmgpfdfbcnlocaaDoorAlone
import Derived.Test.YtmgpfdfbcnlocaaDoorOpnEn
set_option linter.unusedVariables false
set_option linter.unusedSimpArgs false
namespace Go.Proofs.YtmgpfdfbcnlocaaDoor.S18
open Go Go.RowKit Go.Proofs.YtmgpfdfbcnlocaaDoor.Sep Go.Proofs.YtmgpfdfbcnlocaaDoor.Low Go.Proofs.YtmgpfdfbcnlocaaDoor.Lib Go.Proofs.YtmgpfdfbcnlocaaDoor.S09

theorem alone_row {H : Heap} (q : Qt) (cs : Array Value) (hK : qtTy.K H q cs.toList) (wq : Wq q) (A : Option Addr) (c : Nat) (l : List En) (cl : List (List Value)) (he : Els enTy H A l cl) (hc : l.length ≤ c) (wl : (∀ x ∈ l, Wm x) ∧ l.length ≤ maxLen) (y : En) (cy : Array Value) (hKy : enTy.K H y cy.toList) (wy : Wm y) (hb : (l.map fun x => x.n.length + 8).sum + (y.n.length + 8) ≤ 1048576) :
    ACalls Tryd.prog 4 [Value.agg cs, .slice A l.length c, .agg cy].toArray H fun e' H' => e' = .returned (.bool true) ∧ Keep H H' := by
  rw [cs_qt hK, cs_en hKy]
  exact alone_walk wq (els_ens he) hc (wn_all wl.1 (by omega)) (by have := bulk_len l; omega) ⟨by omega, wy.k, wy.s⟩
end Go.Proofs.YtmgpfdfbcnlocaaDoor.S18
