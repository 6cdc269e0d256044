/-
  How a record is opened; the walk of FieldRecords as its row calls it.
-/
import Derived.Test.YtigignkgblaoaaaDoorSepOpn
import Derived.Test.YtigignkgblaoaaaDoorLRecs
set_option linter.unusedVariables false
set_option linter.unusedSimpArgs false
namespace Go.Proofs.YtigignkgblaoaaaDoor.S12
open Go Go.RowKit Go.Proofs.YtigignkgblaoaaaDoor.Sep Go.Proofs.YtigignkgblaoaaaDoor.Low Go.Proofs.YtigignkgblaoaaaDoor.Lib

def recTy : Ty (List Int) := ⟨512, fun _ x cs => cs = by8 x ∧ x.length = 512, fun h => by rw [h.1]; simpa using h.2, fun _ h => h⟩
theorem cellsRec : Tryd.prog.cellsOf 33 = 512 := by kernel_rfl
theorem cellsByte : Tryd.prog.cellsOf 5 = 1 := by kernel_rfl
theorem opnRec : Opn Tryd.prog 33 recTy isBy (fun _ => 1) := ⟨fun {H enc w base spare held fuel cs x} h => by
  obtain ⟨xs, m, _, ex, hl, hlen, hel⟩ := DataW.trod_array Tryd.underlying33 h
  rw [cellsRec] at hl
  rw [cellsByte] at hel
  have each : ∀ i, i < 512 → ∃ z : Int, cs[i]? = some (.int .u8 z) ∧ 0 ≤ z ∧ z < 256 := by
    intro i hi
    have h1 := hel i hi
    rw [List.getElem?_eq_getElem (by omega)] at h1
    obtain ⟨z, e1, e2, hw⟩ := DataW.trod_int Tryd.underlying5 h1
    refine ⟨z, ?_, wf_u8 hw⟩
    have : ((cs.drop (i * 1)).take 1)[0]? = some (.int .u8 z) := by rw [e1]; rfl
    simpa using this
  have hby : ∀ (ys : List Value), (∀ i, i < ys.length → ∃ z : Int, ys[i]? = some (.int .u8 z) ∧ 0 ≤ z ∧ z < 256) → ∃ l : List Int, ys = by8 l ∧ isBy l := by
    intro ys
    induction ys with
    | nil => exact fun _ => ⟨[], rfl, fun x hx => by cases hx⟩
    | cons y ys ih =>
      intro hy
      obtain ⟨z, hz, hz2⟩ := hy 0 (by simp)
      obtain ⟨l, rfl, hl2⟩ := ih fun i hi => hy (i + 1) (by simpa using hi)
      simp only [List.getElem?_cons_zero, Option.some.injEq] at hz
      subst hz
      exact ⟨z :: l, rfl, fun x hx => by rcases List.mem_cons.1 hx with rfl | hx; exact hz2; exact hl2 x hx⟩
  obtain ⟨l, rfl, hl2⟩ := hby cs fun i hi => each i (by omega)
  exact ⟨l, ⟨rfl, by simpa using hl⟩, hl2, bulk_one _⟩⟩
theorem fieldRecords_row {H : Heap} (hT : Tz H) (l : List Int) (cs : Array Value) (hK : recTy.K H l cs.toList) (hb : isBy l) :
    ACalls Tryd.prog 5 [Value.agg cs].toArray H fun e H' => e = .returned (.bool true) ∧ Keep H H' := by
  obtain ⟨h1, h2⟩ := hK
  have : cs = (by8 l).toArray := by rw [← h1]
  subst this
  exact fieldRecords_walk hT hb h2
end Go.Proofs.YtigignkgblaoaaaDoor.S12
