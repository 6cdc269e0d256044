/-
  sync.Mutex, one goroutine: Lock of a free one, Unlock as a deferred call.
-/
import Derived.Test.YtmgpfdfbcnlocaaDoorSepDfr
import Derived.Test.YtmgpfdfbcnlocaaDoorLocks
import Derived.Test.YtmgpfdfbcnlocaaDoorBase
import Derived.Conc.MuLone
set_option linter.unusedVariables false
set_option linter.unusedSimpArgs false
namespace Go.Proofs.YtmgpfdfbcnlocaaDoor.Lib
open Go Go.RowKit Go.Proofs.YtmgpfdfbcnlocaaDoor.Sep

theorem lock_spec {H : Heap} {r T : Nat} {cs : List Value} (hb : H r = some (.cells (.int .i32 0 :: cs).toArray T (0, 0))) :
    ACalls Tryd.prog 20 [Value.pointer (some ⟨r, 0, none⟩)].toArray H fun e H' => e = .returned (.tuple #[]) ∧ H' = H.set r (.cells (.int .i32 1 :: cs).toArray T (0, 0)) := by
  intro w hw
  have hset := setCell_of (o := 0) (v := .int .i32 1) hb
  refine (Go.MuLone.lock_free Tryd.muLib ⟨r, 0, none⟩ w (hw.cell (by rw [cell_of hb]; rfl)) (by rw [hw.frozen (by simp only [hb]; simp), frozen_of hb])).mono ?_
  rintro e w' ⟨rfl, rfl⟩
  refine ⟨H.setCell ⟨r, 0, none⟩ (.int .i32 1), ⟨rfl, by rw [hset]; simp⟩, sees_setCell hw _ _, ext_setCell _ _ (by simp only [hb]; simp)⟩
theorem unlock_adef {H : Heap} {r T : Nat} {cs : List Value} {u : FrameMode} (hb : H r = some (.cells (.int .i32 1 :: cs).toArray T (0, 0))) :
    ADef Tryd.prog ⟨.fn (.func 21) #[], [Value.pointer (some ⟨r, 0, none⟩)].toArray⟩ u H fun e u' H' => u' = u ∧ e = .returned (.tuple #[]) ∧ H' = H.set r (.cells (.int .i32 0 :: cs).toArray T (0, 0)) := by
  intro w hw
  have hset := setCell_of (o := 0) (v := .int .i32 0) hb
  refine ⟨.func 21, #[], 21, #[.pointer (some ⟨r, 0, none⟩)], rfl, ?_, ?_⟩
  · show (callFunc 21 #[.pointer (some ⟨r, 0, none⟩)]).run Tryd.prog w = _
    exact callFunc_enter (by kernel_rfl) _ _
  · refine (Go.MuLone.unlock_deferred Tryd.muLib ⟨r, 0, none⟩ u w (hw.cell (by rw [cell_of hb]; rfl)) (by rw [hw.frozen (by simp only [hb]; simp), frozen_of hb])).mono ?_
    rintro e u' w' ⟨rfl, rfl, rfl⟩
    exact ⟨H.setCell ⟨r, 0, none⟩ (.int .i32 0), ⟨rfl, rfl, by rw [hset]; simp⟩, sees_setCell hw _ _, ext_setCell _ _ (by simp only [hb]; simp)⟩
end Go.Proofs.YtmgpfdfbcnlocaaDoor.Lib
