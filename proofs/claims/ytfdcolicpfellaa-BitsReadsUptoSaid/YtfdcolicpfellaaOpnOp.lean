/-
  How an Op (a call, as the statements hand it in) is opened; the law of BitsWrites over what was opened.
-/
import Derived.Test.YtfdcolicpfellaaOpn
import Derived.Test.YtfdcolicpfellaaLawWrites
set_option linter.unusedVariables false
set_option linter.unusedSimpArgs false
namespace Go.Proofs.Ytfdcolicpfellaa.Mach
open Go.RowKit Go.Proofs.YtfdcolicpfellaaW.PrintWords Go.Proofs.Ytfdcolicpfellaa.Opns

theorem cells3 : Try.prog.cellsOf 3 = 1 := by kernel_rfl
theorem cells30 : Try.prog.cellsOf 30 = 1 := by kernel_rfl
theorem cells24 : Try.prog.cellsOf 24 = 1 := by kernel_rfl
theorem cells32 : Try.prog.cellsOf 32 = 4 := by kernel_rfl
set_option maxRecDepth 100000
theorem wf_u8 {x : Int} (h : (Lit.int .u8 x).wf = true) : 0 ≤ x ∧ x < 256 := by
  have : 0 ≤ x ∧ x ≤ 255 := by simpa [Lit.wf, IntKind.min, IntKind.max, IntKind.signed, IntKind.bits] using h
  omega
theorem wf_u32 {x : Int} (h : (Lit.int .u32 x).wf = true) : 0 ≤ x ∧ x < 4294967296 := by
  have : 0 ≤ x ∧ x ≤ 4294967295 := by simpa [Lit.wf, IntKind.min, IntKind.max, IntKind.signed, IntKind.bits] using h
  omega
theorem wf_i64 {x : Int} (h : (Lit.int .i64 x).wf = true) : -9223372036854775808 ≤ x ∧ x ≤ 9223372036854775807 := by
  simpa [Lit.wf, IntKind.min, IntKind.max, IntKind.signed, IntKind.bits] using h
theorem sum_ones (l : List Int) : (l.map fun _ => 1).sum = l.length := by
  induction l with
  | nil => rfl
  | cons a l ih => simp [ih]; omega

def wfOp (x : OpS) : Prop := (0 ≤ x.v ∧ x.v < 4294967296) ∧ (∀ y ∈ x.b, 0 ≤ y ∧ y < 256) ∧ (-9223372036854775808 ≤ x.n ∧ x.n ≤ 9223372036854775807) ∧ (-9223372036854775808 ≤ x.kind ∧ x.kind ≤ 9223372036854775807)
theorem opnOp : Opn Try.prog 32 kOp wfOp (fun x => x.b.length + 5) := ⟨fun {H enc w base spare held fuel cs x} h => by
  obtain ⟨xs, n, _, rfl, hl, hlen, hf⟩ := DataW.trod_struct Try.underlying32 h
  rw [cells32] at hl
  match xs, hlen, cs, hl with
  | [y0, y1, y2, y3], _, [c0, c1, c2, c3], _ =>
    have e0 : DataW.trod enc Try.prog w base spare held n 3 [c0] = some y0 := by simpa [cells3] using hf 0 _ rfl
    have e1 : DataW.trod enc Try.prog w base spare held n 3 [c1] = some y1 := by simpa [cells3] using hf 1 _ rfl
    have e2 : DataW.trod enc Try.prog w base spare held n 30 [c2] = some y2 := by simpa [cells30] using hf 2 _ rfl
    have e3 : DataW.trod enc Try.prog w base spare held n 24 [c3] = some y3 := by simpa [cells24] using hf 3 _ rfl
    obtain ⟨a0, k0, w0, b0⟩ := (Opn.int Try.underlying3).op e0
    obtain ⟨a1, k1, w1, b1⟩ := (Opn.int Try.underlying3).op e1
    obtain ⟨a2, k2, w2, b2⟩ := (Opn.int Try.underlying30).op e2
    obtain ⟨a3, k3, w3, b3⟩ := (Opn.slice Try.underlying24 (by kernel_rfl) (Opn.int Try.underlying5)).op e3
    refine ⟨⟨a0, a1, a2, a3⟩, ⟨[c0], [c1, c2, c3], rfl, k0, [c1], [c2, c3], rfl, k1, [c2], [c3], rfl, k2, k3⟩, ⟨wf_u32 w2, fun y hy => wf_u8 (w3.1 y hy), wf_i64 w1, wf_i64 w0⟩, ?_⟩
    rw [sum_ones] at b3
    simp only [Rows.uptoBulk, List.map_cons, List.map_nil, Rows.uptoBulkAll]
    omega⟩

theorem bitsWrites_walk (w : World) (A : Option Addr) (c : Nat) (l : List OpS) (hr : Kd.C kOp w A l.length l) (hc : l.length ≤ c) (hwf : (∀ x ∈ l, wfOp x) ∧ l.length ≤ maxLen) (hb : (l.map fun x => x.b.length + 5).sum + 1 ≤ 1048576) :
    Calls Try.prog 3 #[.slice A l.length c] w fun e w' => e = .returned (.bool true) ∧ Below w.heap.size w w' :=
  bitsWrites w A c l hr hc (fun x hx => ⟨(hwf.1 x hx).1, (hwf.1 x hx).2.1⟩) (by omega)
end Go.Proofs.Ytfdcolicpfellaa.Mach
