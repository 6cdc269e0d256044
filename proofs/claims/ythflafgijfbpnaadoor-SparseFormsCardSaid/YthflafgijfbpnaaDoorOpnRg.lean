/-
  How a range is opened.
-/
import Derived.Test.YthflafgijfbpnaaDoorSepOpn
import Derived.Test.YthflafgijfbpnaaDoorRg
set_option linter.unusedVariables false
set_option linter.unusedSimpArgs false
namespace Go.Proofs.YthflafgijfbpnaaDoor.S15
open Go Go.RowKit Go.Proofs.YthflafgijfbpnaaDoor.Sep Go.Proofs.YthflafgijfbpnaaDoor.Lib

theorem cellsI64 : Tryd.prog.cellsOf 2 = 1 := by kernel_rfl
theorem cellsRange : Tryd.prog.cellsOf 51 = 2 := by kernel_rfl
set_option maxRecDepth 100000
theorem opnRg : Opn Tryd.prog 51 rgTy (fun _ => True) (fun _ => 3) := ⟨fun {H enc w base spare held fuel cs x} h => by
  obtain ⟨xs, n, _, rfl, hl, hlen, hf⟩ := DataW.trod_struct Tryd.underlying51 h
  rw [cellsRange] at hl
  match xs, hlen, cs, hl with
  | [y0, y1], _, [c0, c1], _ =>
    have e0 : DataW.trod enc Tryd.prog w base spare held n 2 [c0] = some y0 := by simpa [cellsI64] using hf 0 _ rfl
    have e1 : DataW.trod enc Tryd.prog w base spare held n 2 [c1] = some y1 := by simpa [cellsI64] using hf 1 _ rfl
    obtain ⟨a0, k0, w0, b0⟩ := (Opn.int Tryd.underlying2).op e0
    obtain ⟨a1, k1, w1, b1⟩ := (Opn.int Tryd.underlying2).op e1
    obtain ⟨rfl⟩ : c0 = .int .i64 a0 := by simpa [Ty.int] using k0
    obtain ⟨rfl⟩ : c1 = .int .i64 a1 := by simpa [Ty.int] using k1
    refine ⟨⟨a0, a1⟩, rfl, trivial, ?_⟩
    simp only [Rows.uptoBulk, List.map_cons, List.map_nil, Rows.uptoBulkAll]
    omega⟩
end Go.Proofs.YthflafgijfbpnaaDoor.S15
