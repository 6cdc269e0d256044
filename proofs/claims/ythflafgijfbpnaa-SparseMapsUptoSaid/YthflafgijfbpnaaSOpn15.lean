/-
  How a File (as the statements hand it in) is opened.
-/
import Derived.Test.YthflafgijfbpnaaSepOpn
import Derived.Test.YthflafgijfbpnaaLMaps
set_option linter.unusedVariables false
set_option linter.unusedSimpArgs false
namespace Go.Proofs.Ythflafgijfbpnaa.S15
open Go Go.RowKit Go.Proofs.Ythflafgijfbpnaa.Sep Go.Proofs.Ythflafgijfbpnaa.Lib

theorem cells2 : Try.prog.cellsOf 2 = 1 := by kernel_rfl
theorem cells3 : Try.prog.cellsOf 3 = 1 := by kernel_rfl
theorem cells22 : Try.prog.cellsOf 22 = 1 := by kernel_rfl
theorem cells23 : Try.prog.cellsOf 23 = 1 := by kernel_rfl
theorem cells26 : Try.prog.cellsOf 26 = 2 := by kernel_rfl
theorem cells29 : Try.prog.cellsOf 29 = 4 := by kernel_rfl
set_option maxRecDepth 100000
theorem opnRg : Opn Try.prog 26 rgTy (fun _ => True) (fun _ => 3) := ⟨fun {H enc w base spare held fuel cs x} h => by
  obtain ⟨xs, n, _, rfl, hl, hlen, hf⟩ := DataW.trod_struct Try.underlying26 h
  rw [cells26] at hl
  match xs, hlen, cs, hl with
  | [y0, y1], _, [c0, c1], _ =>
    have e0 : DataW.trod enc Try.prog w base spare held n 2 [c0] = some y0 := by simpa [cells2] using hf 0 _ rfl
    have e1 : DataW.trod enc Try.prog w base spare held n 2 [c1] = some y1 := by simpa [cells2] using hf 1 _ rfl
    obtain ⟨a0, k0, w0, b0⟩ := (Opn.int Try.underlying2).op e0
    obtain ⟨a1, k1, w1, b1⟩ := (Opn.int Try.underlying2).op e1
    obtain ⟨rfl⟩ : c0 = .int .i64 a0 := by simpa [Ty.int] using k0
    obtain ⟨rfl⟩ : c1 = .int .i64 a1 := by simpa [Ty.int] using k1
    refine ⟨⟨a0, a1⟩, rfl, trivial, ?_⟩
    simp only [Rows.uptoBulk, List.map_cons, List.map_nil, Rows.uptoBulkAll]
    omega⟩
theorem sum_threes {α : Type} (l : List α) : (l.map fun _ => 3).sum = 3 * l.length := by
  induction l with
  | nil => rfl
  | cons a l ih => simp [ih]; omega
theorem opnFile : Opn Try.prog 29 fileTy wfFile bkFile := ⟨fun {H enc w base spare held fuel cs x} h => by
  obtain ⟨xs, n, _, rfl, hl, hlen, hf⟩ := DataW.trod_struct Try.underlying29 h
  rw [cells29] at hl
  match xs, hlen, cs, hl with
  | [y0, y1, y2, y3], _, [c0, c1, c2, c3], _ =>
    have e0 : DataW.trod enc Try.prog w base spare held n 22 [c0] = some y0 := by simpa [cells22] using hf 0 _ rfl
    have e1 : DataW.trod enc Try.prog w base spare held n 23 [c1] = some y1 := by simpa [cells23] using hf 1 _ rfl
    have e2 : DataW.trod enc Try.prog w base spare held n 2 [c2] = some y2 := by simpa [cells2] using hf 2 _ rfl
    have e3 : DataW.trod enc Try.prog w base spare held n 3 [c3] = some y3 := by simpa [cells3] using hf 3 _ rfl
    obtain ⟨a0, ⟨B, cb, cl, k0, k01, k02⟩, w0, b0⟩ := (Opn.slice Try.underlying22 (by kernel_rfl) (by decide) (Opn.int Try.underlying5)).op e0
    obtain ⟨a1, ⟨A, ca, cl1, k1, k11, k12⟩, w1, b1⟩ := (Opn.slice Try.underlying23 (by kernel_rfl) (by decide) opnRg).op e1
    obtain ⟨a2, k2, w2, b2⟩ := (Opn.int Try.underlying2).op e2
    obtain ⟨a3, k3, w3, b3⟩ := (Opn.int Try.underlying3).op e3
    obtain ⟨rfl⟩ : c0 = .slice B a0.length cb := by simpa using k0
    obtain ⟨rfl⟩ : c1 = .slice A a1.length ca := by simpa using k1
    obtain ⟨rfl⟩ : c2 = .int .i64 a2 := by simpa [Ty.int] using k2
    obtain ⟨rfl⟩ : c3 = .int .i64 a3 := by simpa [Ty.int] using k3
    refine ⟨⟨a0, a1, a2, a3⟩, ⟨B, cb, A, ca, rfl, k01, k11, k02.ints, Els.flat k12⟩, ⟨fun y hy => wf_u8 (w0.1 y hy), wf_i64 w2, wf_i64 w3⟩, ?_⟩
    rw [sum_ones] at b0
    rw [sum_threes] at b1
    simp only [Rows.uptoBulk, List.map_cons, List.map_nil, Rows.uptoBulkAll, bkFile]
    omega⟩
end Go.Proofs.Ythflafgijfbpnaa.S15
