/-
  ExtractClasses walked.
-/
import Derived.Test.YthdmpeghlkhncaaDoorCls2
set_option linter.unusedVariables false
set_option linter.unusedSimpArgs false
namespace Go.Proofs.YthdmpeghlkhncaaDoor.C20
open Go Go.RowKit Go.Proofs.YthdmpeghlkhncaaDoor.Sep Go.Proofs.YthdmpeghlkhncaaDoor.Low

theorem class_bel {bm : Nat} {es : Array MapEntry} {clock : Nat} {rd : MapEntry → Int × List Int} (want : Int) (w : World) (hw : want ≠ 0) (hT : Tab w tab bm es clock rd) :
    Calls Tryd.prog 4 #[.int .i64 want] w fun e w' => ∃ r, e = .returned (.int .i64 r) ∧ IsClass tab want r ∧ Bel w w' := by
  refine (class_any tab bm es clock rd want w hw hT).mono ?_
  rintro e w' ⟨⟨r, rfl, hr⟩, w1, seen, hal, rfl⟩
  exact ⟨r, rfl, hr, Bel.iter hal⟩
theorem ref_bel (want : Int) (w : World) (hw : want ≠ 0) : Calls Tryd.prog 5 #[.int .i64 want] w fun e w' => ∃ r, e = .returned (.int .i64 r) ∧ IsClass tab want r ∧ Bel w w' := by
  refine (rclass_spec (H := heapOf w) want hw w (sees_heapOf w)).mono ?_
  rintro e w' ⟨H', ⟨⟨r, rfl, hr⟩, rfl⟩, hs, hx⟩
  refine ⟨r, rfl, hr, hx.os, hx.output, hx.size, fun k hlt => ?_⟩
  have : w.heap[k]? = some w.heap[k] := Array.getElem?_eq_getElem hlt
  rw [this]
  exact hs k _ this
theorem ref_zero (w : World) : Calls Tryd.prog 5 #[.int .i64 0] w fun e w' => e = .returned (.int .i64 0) ∧ Bel w w' := by
  refine (rclass_zero (H := heapOf w) w (sees_heapOf w)).mono ?_
  rintro e w' ⟨H', ⟨rfl, rfl⟩, hs, hx⟩
  refine ⟨rfl, hx.os, hx.output, hx.size, fun k hlt => ?_⟩
  have : w.heap[k]? = some w.heap[k] := Array.getElem?_eq_getElem hlt
  rw [this]
  exact hs k _ this
theorem is111 {r : Int} (h : IsClass tab 111 r) : r = 202 := h.one (.inl ⟨(202, [103, 110, 111, 112, 114, 104, 106, 191]), by simp [tab], by simp, rfl⟩)

set_option maxHeartbeats 4000000 in
theorem law_any {bm : Nat} {es : Array MapEntry} {clock : Nat} {rd : MapEntry → Int × List Int} (want : Int) (w : World) (hw : want ≠ 0) (hT : Tab w tab bm es clock rd) :
    Calls Tryd.prog 3 #[.int .i64 want] w fun e w' => e = .returned (.bool true) ∧ Bel w w' := by
  have c1 := class_bel want w hw hT
  go_enter Tryd.func3, Tryd.ntmps3
  go_wp2_with (fail)
  refine c1.mono ?_
  clear c1
  rintro e w1 ⟨r, rfl, hr, hb1⟩
  go_wp2_with (fail)
  refine (ref_bel want w1 hw).mono ?_
  rintro e w2 ⟨r2, rfl, hr2, hb2⟩
  obtain rfl := hr.one hr2
  clear hr2
  go_wp2_with (fail)
  refine (class_zero w2).mono ?_
  rintro e w3 ⟨rfl, rfl⟩
  have hT2 := hT.below (hb1.trans hb2)
  have c4 := class_bel 111 w3 (by decide) hT2
  go_wp2_with (fail)
  refine c4.mono ?_
  clear c4
  rintro e w4 ⟨r4, rfl, hr4, hb4⟩
  obtain rfl := is111 hr4
  clear hr4
  go_wp2_with (fail)
  go_ret
  exact ⟨rfl, (hb1.trans hb2).trans hb4⟩
set_option maxHeartbeats 4000000 in
theorem law_zero {bm : Nat} {es : Array MapEntry} {clock : Nat} {rd : MapEntry → Int × List Int} (w : World) (hT : Tab w tab bm es clock rd) :
    Calls Tryd.prog 3 #[.int .i64 0] w fun e w' => e = .returned (.bool true) ∧ Bel w w' := by
  go_enter Tryd.func3, Tryd.ntmps3
  go_wp2_with (fail)
  refine (class_zero w).mono ?_
  rintro e w1 ⟨rfl, rfl⟩
  go_wp2_with (fail)
  refine (ref_zero w1).mono ?_
  rintro e w2 ⟨rfl, hb2⟩
  go_wp2_with (fail)
  refine (class_zero w2).mono ?_
  rintro e w3 ⟨rfl, rfl⟩
  have hT2 := hT.below hb2
  have c4 := class_bel 111 w3 (by decide) hT2
  go_wp2_with (fail)
  refine c4.mono ?_
  clear c4
  rintro e w4 ⟨r4, rfl, hr4, hb4⟩
  obtain rfl := is111 hr4
  clear hr4
  go_wp2_with (fail)
  go_ret
  exact ⟨rfl, hb2.trans hb4⟩
theorem law {bm : Nat} {es : Array MapEntry} {clock : Nat} {rd : MapEntry → Int × List Int} (want : Int) (w : World) (hT : Tab w tab bm es clock rd) :
    Calls Tryd.prog 3 #[.int .i64 want] w fun e w' => e = .returned (.bool true) ∧ Bel w w' := by
  by_cases h : want = 0
  · subst h; exact law_zero w hT
  · exact law_any want w h hT
end Go.Proofs.YthdmpeghlkhncaaDoor.C20
