/-
  How a quota and an entry are opened.
-/
import Derived.Test.YtmgpfdfbcnlocaaDoorSepOpn
import Derived.Test.YtmgpfdfbcnlocaaDoorQLaw
set_option linter.unusedVariables false
set_option linter.unusedSimpArgs false
namespace Go.Proofs.YtmgpfdfbcnlocaaDoor.S18
open Go Go.RowKit Go.Proofs.YtmgpfdfbcnlocaaDoor.Sep Go.Proofs.YtmgpfdfbcnlocaaDoor.Lib

theorem wf_i64 {x : Int} (h : (Lit.int .i64 x).wf = true) : i64 x := by
  simpa [i64, Lit.wf, IntKind.min, IntKind.max, IntKind.signed, IntKind.bits] using h
def qtTy : Ty Qt := Ty.flat 3 qt fun _ => rfl
theorem cellsI64 : Tryd.prog.cellsOf 2 = 1 := by kernel_rfl
theorem cellsInt : Tryd.prog.cellsOf 3 = 1 := by kernel_rfl
theorem cellsU32 : Tryd.prog.cellsOf 34 = 1 := by kernel_rfl
theorem cellsI32 : Tryd.prog.cellsOf 21 = 1 := by kernel_rfl
theorem cellsU8 : Tryd.prog.cellsOf 5 = 1 := by kernel_rfl
theorem cellsStr : Tryd.prog.cellsOf 9 = 1 := by kernel_rfl
theorem cellsQt : Tryd.prog.cellsOf 23 = 3 := by kernel_rfl
theorem cellsMeta : Tryd.prog.cellsOf 36 = 5 := by kernel_rfl
theorem cellsEn : Tryd.prog.cellsOf 38 = 12 := by kernel_rfl
set_option maxRecDepth 100000
theorem opnQt : Opn Tryd.prog 23 qtTy Wq (fun _ => 3) := ⟨fun {H enc w base spare held fuel cs x} h => by
  obtain ⟨xs, n, _, rfl, hl, hlen, hf⟩ := DataW.trod_struct Tryd.underlying23 h
  rw [cellsQt] at hl
  match xs, hlen, cs, hl with
  | [y0, y1, y2], _, [c0, c1, c2], _ =>
    have e0 : DataW.trod enc Tryd.prog w base spare held n 2 [c0] = some y0 := by simpa [cellsI64] using hf 0 _ rfl
    have e1 : DataW.trod enc Tryd.prog w base spare held n 3 [c1] = some y1 := by simpa [cellsInt] using hf 1 _ rfl
    have e2 : DataW.trod enc Tryd.prog w base spare held n 3 [c2] = some y2 := by simpa [cellsInt] using hf 2 _ rfl
    obtain ⟨a0, k0, w0, b0⟩ := (Opn.int Tryd.underlying2).op e0
    obtain ⟨a1, k1, w1, b1⟩ := (Opn.int Tryd.underlying3).op e1
    obtain ⟨a2, k2, w2, b2⟩ := (Opn.int Tryd.underlying3).op e2
    obtain ⟨rfl⟩ : c0 = .int .i64 a0 := by simpa [Ty.int] using k0
    obtain ⟨rfl⟩ : c1 = .int .i64 a1 := by simpa [Ty.int] using k1
    obtain ⟨rfl⟩ : c2 = .int .i64 a2 := by simpa [Ty.int] using k2
    refine ⟨⟨a0, a1, a2⟩, rfl, ⟨wf_i64 w0, wf_i64 w1, wf_i64 w2⟩, ?_⟩
    simp only [Rows.uptoBulk, List.map_cons, List.map_nil, Rows.uptoBulkAll]
    omega⟩
structure Wm (x : En) : Prop where
  k : i64 x.k
  s : i64 x.s
theorem opnEn : Opn Tryd.prog 38 enTy Wm (fun x => x.n.length + 8) := ⟨fun {H enc w base spare held fuel cs x} h => by
  obtain ⟨xs, n, _, rfl, hl, hlen, hf⟩ := DataW.trod_struct Tryd.underlying38 h
  rw [cellsEn] at hl
  match xs, hlen, cs, hl with
  | [y0, y1, y2, y3, y4, y5, y6, y7], _, [c0, c1, m0, m1, m2, m3, m4, c3, c4, c5, c6, c7], _ =>
    have e0 : DataW.trod enc Tryd.prog w base spare held n 9 [c0] = some y0 := by simpa [cellsStr] using hf 0 _ rfl
    have e1 : DataW.trod enc Tryd.prog w base spare held n 3 [c1] = some y1 := by simpa [cellsInt] using hf 1 _ rfl
    have e2 : DataW.trod enc Tryd.prog w base spare held n 36 [m0, m1, m2, m3, m4] = some y2 := by simpa [cellsMeta] using hf 2 _ rfl
    have e3 : DataW.trod enc Tryd.prog w base spare held n 9 [c3] = some y3 := by simpa [cellsStr] using hf 3 _ rfl
    have e4 : DataW.trod enc Tryd.prog w base spare held n 9 [c4] = some y4 := by simpa [cellsStr] using hf 4 _ rfl
    have e5 : DataW.trod enc Tryd.prog w base spare held n 9 [c5] = some y5 := by simpa [cellsStr] using hf 5 _ rfl
    have e6 : DataW.trod enc Tryd.prog w base spare held n 2 [c6] = some y6 := by simpa [cellsI64] using hf 6 _ rfl
    have e7 : DataW.trod enc Tryd.prog w base spare held n 5 [c7] = some y7 := by simpa [cellsU8] using hf 7 _ rfl
    obtain ⟨a0, k0, w0, b0⟩ := (Opn.string Tryd.underlying9).op e0
    obtain ⟨a1, k1, w1, b1⟩ := (Opn.int Tryd.underlying3).op e1
    obtain ⟨a3, k3, w3, b3⟩ := (Opn.string Tryd.underlying9).op e3
    obtain ⟨a4, k4, w4, b4⟩ := (Opn.string Tryd.underlying9).op e4
    obtain ⟨a5, k5, w5, b5⟩ := (Opn.string Tryd.underlying9).op e5
    obtain ⟨a6, k6, w6, b6⟩ := (Opn.int Tryd.underlying2).op e6
    obtain ⟨a7, k7, w7, b7⟩ := (Opn.int Tryd.underlying5).op e7
    obtain ⟨rfl⟩ : c0 = .string a0 := by simpa [Ty.string] using k0
    obtain ⟨rfl⟩ : c1 = .int .i64 a1 := by simpa [Ty.int] using k1
    obtain ⟨rfl⟩ : c3 = .string a3 := by simpa [Ty.string] using k3
    obtain ⟨rfl⟩ : c4 = .string a4 := by simpa [Ty.string] using k4
    obtain ⟨rfl⟩ : c5 = .string a5 := by simpa [Ty.string] using k5
    obtain ⟨rfl⟩ : c6 = .int .i64 a6 := by simpa [Ty.int] using k6
    obtain ⟨rfl⟩ : c7 = .int .u8 a7 := by simpa [Ty.int] using k7
    obtain ⟨zs, nn, _, rfl, hl2, hlen2, hf2⟩ := DataW.trod_struct Tryd.underlying36 e2
    match zs, hlen2, hf2 with
    | [z0, z1, z2, z3, z4], _, hf2 =>
      have d0 : DataW.trod enc Tryd.prog w base spare held nn 34 [m0] = some z0 := by simpa [cellsU32] using hf2 0 _ rfl
      have d1 : DataW.trod enc Tryd.prog w base spare held nn 34 [m1] = some z1 := by simpa [cellsU32] using hf2 1 _ rfl
      have d2 : DataW.trod enc Tryd.prog w base spare held nn 34 [m2] = some z2 := by simpa [cellsU32] using hf2 2 _ rfl
      have d3 : DataW.trod enc Tryd.prog w base spare held nn 2 [m3] = some z3 := by simpa [cellsI64] using hf2 3 _ rfl
      have d4 : DataW.trod enc Tryd.prog w base spare held nn 21 [m4] = some z4 := by simpa [cellsI32] using hf2 4 _ rfl
      obtain ⟨g0, q0, -, -⟩ := (Opn.int Tryd.underlying34).op d0
      obtain ⟨g1, q1, -, -⟩ := (Opn.int Tryd.underlying34).op d1
      obtain ⟨g2, q2, -, -⟩ := (Opn.int Tryd.underlying34).op d2
      obtain ⟨g3, q3, -, -⟩ := (Opn.int Tryd.underlying2).op d3
      obtain ⟨g4, q4, -, -⟩ := (Opn.int Tryd.underlying21).op d4
      obtain ⟨rfl⟩ : m0 = .int .u32 g0 := by simpa [Ty.int] using q0
      obtain ⟨rfl⟩ : m1 = .int .u32 g1 := by simpa [Ty.int] using q1
      obtain ⟨rfl⟩ : m2 = .int .u32 g2 := by simpa [Ty.int] using q2
      obtain ⟨rfl⟩ : m3 = .int .i64 g3 := by simpa [Ty.int] using q3
      obtain ⟨rfl⟩ : m4 = .int .i32 g4 := by simpa [Ty.int] using q4
      refine ⟨⟨a0.data.toList, a1, g0, g1, g2, g3, g4, a3.data.toList, a4.data.toList, a5.data.toList, a6, a7⟩, rfl, ⟨wf_i64 w1, wf_i64 w6⟩, ?_⟩
      simp only [Rows.uptoBulk, List.map_cons, List.map_nil, Rows.uptoBulkAll]
      have b0' : a0.data.toList.length + 1 ≤ Rows.uptoBulk y0.1 := b0
      have c2 := bulk_one (DataW.agg (H := H) [z0.1, z1.1, z2.1, z3.1, z4.1])
      have c3 := bulk_one y3.1
      have c4 := bulk_one y4.1
      have c5 := bulk_one y5.1
      simp only [Rows.uptoBulk, Rows.uptoBulkAll] at c2
      omega⟩
theorem els_ens {H : Heap} {A : Option Addr} {l : List En} {cl : List (List Value)} (he : Els enTy H A l cl) : Row H A (ens l) := Go.Proofs.YtmgpfdfbcnlocaaDoor.Lib.Els.flat he
theorem cs_qt {H : Heap} {q : Qt} {cs : Array Value} (h : qtTy.K H q cs.toList) : cs = (qt q).toArray := by
  have : cs.toList = qt q := h
  rw [← this]
theorem cs_en {H : Heap} {x : En} {cs : Array Value} (h : enTy.K H x cs.toList) : cs = (en x).toArray := by
  have : cs.toList = en x := h
  rw [← this]
theorem bulk_mem : ∀ {l : List En} {x : En}, x ∈ l → x.n.length + 8 ≤ (l.map fun x => x.n.length + 8).sum
  | [], x, h => by cases h
  | y :: l, x, h => by
    simp only [List.map_cons, List.sum_cons]
    rcases List.mem_cons.1 h with rfl | h
    · omega
    · have := bulk_mem h
      omega
theorem bulk_len : ∀ (l : List En), l.length * 8 ≤ (l.map fun x => x.n.length + 8).sum
  | [] => Nat.le_refl _
  | y :: l => by
    have := bulk_len l
    simp only [List.map_cons, List.sum_cons, List.length_cons]
    omega
theorem wn_all {l : List En} (w : ∀ x ∈ l, Wm x) (hb : (l.map fun x => x.n.length + 8).sum ≤ 1048576) : ∀ x ∈ l, Wn x := fun x hx => ⟨by have := bulk_mem hx; omega, (w x hx).k, (w x hx).s⟩
end Go.Proofs.YtmgpfdfbcnlocaaDoor.S18
