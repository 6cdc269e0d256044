/-
  How an Op (a call, as the statements hand it in) is opened.
-/
import Derived.Test.YtfdcolicpfellaaSepOpn
import Derived.Test.YtfdcolicpfellaaLBack
set_option linter.unusedVariables false
set_option linter.unusedSimpArgs false
namespace Go.Proofs.Ytfdcolicpfellaa.S05
open Go Go.RowKit Go.Proofs.Ytfdcolicpfellaa.Sep Go.Proofs.Ytfdcolicpfellaa.BitLaw

theorem cells3 : Try.prog.cellsOf 3 = 1 := by kernel_rfl
theorem cells30 : Try.prog.cellsOf 30 = 1 := by kernel_rfl
theorem cells24 : Try.prog.cellsOf 24 = 1 := by kernel_rfl
theorem cells32 : Try.prog.cellsOf 32 = 4 := by kernel_rfl
set_option maxRecDepth 100000
theorem opnOp : Opn Try.prog 32 opTy wfOp bk := ⟨fun {H enc w base spare held fuel cs x} h => by
  obtain ⟨xs, n, _, rfl, hl, hlen, hf⟩ := DataW.trod_struct Try.underlying32 h
  rw [cells32] at hl
  match xs, hlen, cs, hl with
  | [y0, y1, y2, y3], _, [c0, c1, c2, c3], _ =>
    have e0 : DataW.trod enc Try.prog w base spare held n 3 [c0] = some y0 := by simpa [cells3] using hf 0 _ rfl
    have e1 : DataW.trod enc Try.prog w base spare held n 3 [c1] = some y1 := by simpa [cells3] using hf 1 _ rfl
    have e2 : DataW.trod enc Try.prog w base spare held n 30 [c2] = some y2 := by simpa [cells30] using hf 2 _ rfl
    have e3 : DataW.trod enc Try.prog w base spare held n 24 [c3] = some y3 := by simpa [cells24] using hf 3 _ rfl
    obtain ⟨a0, k0, w0, b0⟩ := (Opn.int Try.underlying3).op e0
    obtain ⟨a1, k1, w1, b1⟩ := (Opn.int Try.underlying3).op e1
    obtain ⟨a2, k2, w2, b2⟩ := (Opn.int Try.underlying30).op e2
    obtain ⟨a3, ⟨B, cp, cl, k3, k4, k5⟩, w3, b3⟩ := (Opn.slice Try.underlying24 (by kernel_rfl) (by decide) (Opn.int Try.underlying5)).op e3
    obtain ⟨rfl⟩ : c0 = .int .i64 a0 := by simpa [Ty.int] using k0
    obtain ⟨rfl⟩ : c1 = .int .i64 a1 := by simpa [Ty.int] using k1
    obtain ⟨rfl⟩ : c2 = .int .u32 a2 := by simpa [Ty.int] using k2
    obtain ⟨rfl⟩ : c3 = .slice B a3.length cp := by simpa using k3
    refine ⟨⟨a0, a1, a2, a3⟩, ⟨B, cp, cl, rfl, k4, k5⟩, ⟨wf_u32 w2, fun y hy => wf_u8 (w3.1 y hy), wf_i64 w1, wf_i64 w0⟩, ?_⟩
    rw [sum_ones] at b3
    simp only [Rows.uptoBulk, List.map_cons, List.map_nil, Rows.uptoBulkAll, bk]
    omega⟩
end Go.Proofs.Ytfdcolicpfellaa.S05
