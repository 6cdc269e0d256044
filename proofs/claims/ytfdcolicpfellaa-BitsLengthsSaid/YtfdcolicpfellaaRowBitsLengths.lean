/-
  BitsLengths: the law's row: its arguments opened, the walk of the law, closed.
-/
import Derived.Test.YtfdcolicpfellaaRows
import Derived.Test.YtfdcolicpfellaaSepOpn
import Derived.Test.YtfdcolicpfellaaLLen2
import Derived.WalkKit
import Derived.ProofKit
import Derived.OpenShut
import Derived.ShutString
import Derived.ChangeOld
import Derived.Below
import Derived.SizedLaws
import Derived.Deep.CondSized
set_option linter.unusedVariables false
set_option linter.unusedSimpArgs false
namespace Go.Proofs.Ytfdcolicpfellaa.bitsLengthsRow
open Go.ChangeShapes Go.WideShapes Go.ChangeAt Go.RowKit Go.Proofs.Ytfdcolicpfellaa.Sep
open Go.ChangeMaps (open_string shut_string)
theorem own : ownKnob Try.prog.godebug = none := by kernel_rfl
theorem laidOut : laidOutB Try.prog = true := by kernel_rfl
set_option maxHeartbeats 2000000 in
set_option maxRecDepth 100000 in
theorem lifted (os : Os) (started : os.Started) (H : Type) (enc : TypeId × Value → H) :
    ReturnsInHanded {} Try.checked os 9 .any (Rows.bitsLengthsSpec.pre6 enc Try.prog Try.f9 Rows.bitsLengthsRow.domain false) (Rows.bitsLengthsSpec.post enc Try.prog Try.f9 false true false false) := by
  refine returnsInHanded_of_change_sized (C := Try.checked) own started (by kernel_rfl) Try.func9
    (ChangeSpec.witness6 (enc := enc) (C := Try.checked) false ⟨#[], #[.slice none 0 0, .int .i64 0], []⟩ 8 (by kernel_rfl) (by kernel_rfl) (by kernel_rfl) (by kernel_rfl)) ?_
  intro W base args ds gs before hval0 hW hcnd hsz0 _
  have hsz : (DataW.weightsEach Try.prog (Try.f9.params.toList ++ Rows.bitsLengthsSpec.plain.varTypes Try.prog) (ds ++ gs)).all (· ≤ reachBytes) = true := hsz0
  have hval : ∀ (j : Nat) t v, Try.f9.params[j]? = some t → args[j]? = some v → Value.okWide Try.prog W .any base t v := hval0
  have hW' := hW
  obtain ⟨p, q, hA0, hV, rfl, hfz, hnd⟩ := hW
  have hA : DataW.TrodAll enc Try.prog W 0 (fun _ => true) true Try.f9.params.toList args.toList ds p := hA0
  rw [Try.params9] at hA hval hsz
  obtain ⟨v0, vs0, d0, ds0, p0, q0, hargs, rfl, rfl, h0, r0⟩ := trodAll_cons hA
  obtain ⟨v1, vs1, d1, ds1, p1, q1, rfl, rfl, rfl, h1, r1⟩ := trodAll_cons r0
  obtain ⟨rfl, rfl, rfl⟩ := trodAll_nil r1
  obtain rfl : args = #[v0, v1] := by cases args; simp_all
  obtain ⟨rfl, rfl⟩ := trodVars_none hV
  have k0 := h0
  have lt0 : ∀ x ∈ p0, x.block < W.heap.size := by obtain ⟨m, hm⟩ := k0; exact DataW.trod_lt m _ _ _ hm
  obtain ⟨a0, len0, cap0, rfl⟩ := okWide_slice Try.underlying76 (hval 0 76 v0 rfl rfl)
  obtain ⟨m0, hf0⟩ := h0
  obtain ⟨l0, ⟨A0, c0, cl0, hcs0, hc0, hr0⟩, wf0, bk0⟩ := (Opn.op (Opn.slice Try.underlying76 (by kernel_rfl) (by decide) (Opn.int Try.underlying2))) hf0
  replace bk0 := show _ ≤ Rows.uptoBulk d0 from bk0
  have e0 : Value.slice a0 len0 cap0 = .slice A0 l0.length c0 := by simpa [Value.cells] using hcs0
  obtain ⟨rfl, rfl, rfl⟩ : a0 = A0 ∧ len0 = l0.length ∧ cap0 = c0 := by simpa using e0
  have y0 : l0.length * 8 ≤ 140737488351232 := by
    rcases DataW.trod_slice Try.underlying76 hf0 with ⟨hcs_, _⟩ | ⟨_, len_, _, el_, re_, _, _, hcs_, hx_, _, _, _, hl_, _⟩
    · have : l0.length = 0 := by have := hcs_; simp [Value.cells] at this; simpa using this.2.1
      omega
    · have h1 : l0.length = len_ := by have := hcs_; simp [Value.cells] at this; exact this.2.1
      have h2 : d0 = .slice (el_.map (·.1)) (re_.map (·.1)) := congrArg (·.1) hx_
      have h3 := sized_slice hsz (j := 0) (t := 76) (e := 2) rfl (congrArg some h2) Try.underlying76
      rw [show Try.prog.bytesOf 2 = 8 from by kernel_rfl] at h3
      simp only [List.length_map, reachBytes] at h3
      omega
  have k1 := h1
  have lt1 : ∀ x ∈ p1, x.block < W.heap.size := by obtain ⟨m, hm⟩ := k1; exact DataW.trod_lt m _ _ _ hm
  obtain ⟨a1, rfl, rfl, rfl, wf1⟩ := open_int Try.underlying3 (hval 1 3 v1 rfl rfl) h1
  clear hA0 hval0
  refine (walk_of (S05.lengths_walk (H := heapOf W) a0 cap0 l0 cl0 hr0 hc0 wf0 y0 a1 wf1)).mono fun e W' ⟨he, bel⟩ => ?_
  subst he
  exact ⟨_, rfl, _, _, _, [], _, [], hW', trodAll_mk1 (shut_bool Try.underlying4 _), (trodAll_cons_mk (Below.trod laidOut (by kernel_rfl) (of_decide_eq_true (by kernel_rfl)) k0 bel lt0) (trodAll_cons_mk (shut_int Try.underlying3 wf1) trodAll_mk0)), rfl, bel.frame _, fun h => by cases h⟩
theorem over : Rows.bitsLengthsRow.holds Try.pinned (OpenSpec.ofChange Rows.bitsLengthsSpec) :=
  OpenClaim.holds_of_wide 9 Try.f9 rfl rfl rfl rfl rfl rfl rfl ⟨rfl, rfl, rfl, rfl, rfl⟩ rfl rfl rfl rfl rfl (by kernel_rfl) Try.func9 (by kernel_rfl)
    (of_decide_eq_true (by kernel_rfl)) (by unfold Func.isWrapper; first | (rw [if_pos (by decide +kernel)]; kernel_rfl) | (rw [if_neg (by decide +kernel)]; exact ⟨rfl, rfl⟩))
    (fun os started H enc _ => lifted os started H enc)
theorem proved : Rows.BitsLengthsSaid := over
end Go.Proofs.Ytfdcolicpfellaa.bitsLengthsRow
namespace Go.Proofs.Ytfdcolicpfellaa
/-- The row, under a short name, for the claim. -/
theorem bitsLengths_proved : Rows.BitsLengthsSaid := bitsLengthsRow.proved
end Go.Proofs.Ytfdcolicpfellaa
