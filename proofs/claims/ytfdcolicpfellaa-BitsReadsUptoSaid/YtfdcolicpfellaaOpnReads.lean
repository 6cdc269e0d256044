/-
  The law of BitsReads over what was opened.
-/
import Derived.Test.YtfdcolicpfellaaOpnOp
import Derived.Test.YtfdcolicpfellaaLawReads
set_option linter.unusedVariables false
set_option linter.unusedSimpArgs false
namespace Go.Proofs.Ytfdcolicpfellaa.Mach
open Go.RowKit Go.Proofs.YtfdcolicpfellaaW.PrintWords Go.Proofs.Ytfdcolicpfellaa.Opns
theorem bitsReads_walk (w : World) (A0 : Option Addr) (c0 : Nat) (bs : List Int) (hr0 : Kd.C (Kd.int .u8) w A0 bs.length bs) (hc0 : bs.length ≤ c0) (hwf0 : (∀ x ∈ bs, (Lit.int .u8 x).wf = true) ∧ bs.length ≤ maxLen)
    (A : Option Addr) (c : Nat) (l : List OpS) (hr : Kd.C kOp w A l.length l) (hc : l.length ≤ c) (hwf : (∀ x ∈ l, wfOp x) ∧ l.length ≤ maxLen) (hb : ((bs.map fun _ => 1).sum + 1) + ((l.map fun x => x.b.length + 5).sum + 1) ≤ 1048576) :
    Calls Try.prog 4 #[.slice A0 bs.length c0, .slice A l.length c] w fun e w' => e = .returned (.bool true) ∧ Below w.heap.size w w' := by
  have h1 : (bs.map fun _ => 1).sum = bs.length := sum_ones bs
  have h2 : l.length ≤ (l.map fun x => x.b.length + 5).sum := by
    clear hr hc hwf hb
    induction l with
    | nil => simp
    | cons a l ih => simp only [List.length_cons, List.map_cons, List.sum_cons]; omega
  exact bitsReads w A0 c0 bs A c l hr0 hc0 (fun x hx => wf_u8 (hwf0.1 x hx)) (by omega) hr hc (fun x hx => (hwf.1 x hx).2.2.1) (by omega)
end Go.Proofs.Ytfdcolicpfellaa.Mach
