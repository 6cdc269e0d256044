/-
  InflateDecodes: every Decode of any bytes is the document's.
-/
import Derived.Test.YtphojebganlbnaaDoorRLaw
import Derived.Test.YtphojebganlbnaaDoorLowM
import Derived.Test.YtphojebganlbnaaDoorSepOpn
set_option linter.unusedVariables false
set_option linter.unusedSimpArgs false
namespace Go.Proofs.YtphojebganlbnaaDoor.S06
open Go Go.RowKit Go.Proofs.YtphojebganlbnaaDoor.Sep Go.Proofs.YtphojebganlbnaaDoor.Low Go.Proofs.YtphojebganlbnaaDoor.S05 Go.Proofs.YtphojebganlbnaaDoor.CodeLaw Go.Proofs.YtphojebganlbnaaDoor.Pack Go.Proofs.YtphojebganlbnaaDoor.BitLaw
open Go.Proofs.YtphojebganlbnaaDoor.Lib hiding by8 by8_scalar

set_option maxHeartbeats 4000000 in
theorem inflateDecodes_walk {H : Heap} {A : Option Addr} {c : Nat} {b : List Int} {most : Int} (hT : TabO H) (hA : Row H A (by8 b)) (hc : b.length ≤ c) (hb : isBy b) (hl : b.length ≤ 137438953472) :
    ACalls Tryd.prog 3 [Value.slice A b.length c, .int .i64 most].toArray H fun e H' => e = .returned (.bool true) ∧ Keep H H' := by
  refine call3 (Nat.le_of_ble_eq_true rfl) ?_
  unfold L3 env0
  simp -implicitDefEqProofs (maxSteps := 1000000) (disch := first | omega | assumption) only [Sx, reduceIte, Nat.reduceEqDiff, reduceCtorEq, Nat.reduceAdd, Nat.reduceSub, Nat.reduceLT, Zx, endK]
  refine a_call (hand_spec hA rfl hl) ?_
  rintro e H1 ⟨vi, rfl, hI, k1, fi⟩
  have hlen : (b ++ mk5).length = b.length + 5 := by rw [List.length_append]; rfl
  obtain ⟨Ai, ci, rfl, hci, wi⟩ := Bo.row hI
  have wb : Row H1 Ai (by8 b) := by
    have := row_take (k := b.length) wi
    rwa [List.take_left] at this
  have hin : (0 : Int) ≤ (b.length : Int) ∧ (b.length : Int) ≤ (ci : Nat) := by omega
  simp -implicitDefEqProofs (maxSteps := 1000000) (disch := first | omega | assumption) only [ev_slc_hi, Sx, reduceIte, Nat.reduceEqDiff, reduceCtorEq, Nat.reduceAdd, Nat.reduceSub, Nat.reduceLT, Zx, endK]
  refine a_call (decode_spec (hT.keep k1) wb rfl hb (by omega)) ?_
  obtain ⟨D, hD⟩ : ∃ D, D = decV b most := ⟨_, rfl⟩
  rw [← hD]
  rintro e H2 ⟨vp, rfl, hP, hpb, hpl, k2, fp⟩
  have k2' := k1.trans k2
  have hsp := hP.scalar
  simp -implicitDefEqProofs (maxSteps := 1000000) (disch := first | omega | assumption) only [ev_slc_hi, Sx, reduceIte, Nat.reduceEqDiff, reduceCtorEq, Nat.reduceAdd, Nat.reduceSub, Nat.reduceLT, Zx, endK]
  refine a_call (decode_spec (most := most) (hT.keep k2') (k2.row wb) rfl hb (by omega)) ?_
  rw [← hD]
  rintro e H3 ⟨vq, rfl, hQ, -, -, k3, fq⟩
  have k3' := k2'.trans k3
  have hsq := hQ.scalar
  simp -implicitDefEqProofs (maxSteps := 1000000) (disch := first | omega | assumption) only [Sx, reduceIte, Nat.reduceEqDiff, reduceCtorEq, Nat.reduceAdd, Nat.reduceSub, Nat.reduceLT, Zx, endK]
  refine a_call (ddecode_spec (most := most) (k3'.row hA) rfl hb hl) ?_
  rw [← hD]
  rintro e H4 ⟨vw, rfl, hW, k4, fw⟩
  have k4' := k3'.trans k4
  have hsw := hW.scalar
  have k24 := k2.trans (k3.trans k4)
  have k34 := k3.trans k4
  simp -implicitDefEqProofs (maxSteps := 1000000) (disch := first | omega | assumption) only [Sx, reduceIte, Nat.reduceEqDiff, reduceCtorEq, Nat.reduceAdd, Nat.reduceSub, Nat.reduceLT, Zx, endK]
  refine a_call (left_spec (hI.keep k24) (k4'.row hA) rfl hl) ?_
  rintro e H5 ⟨rfl, ho5⟩
  have k5 : Keep H H5 := ho5.keep k4' fun r hr => fi r hr
  have nI : ∀ {v : Value} {l : List Int}, Bo H4 v l → Fresh H1 v → Bo H5 v l := fun hO hf => hO.only ho5 fun r hr e => hI.known e (hf r hr)
  have hP5 := nI (hP.keep k34) fp
  have hQ5 := nI (hQ.keep k4) (fun r hr => k2.none (fq r hr))
  have hW5 := nI hW (fun r hr => k2.none (k3.none (fw r hr)))
  obtain ⟨Aw, cw, rfl, hcw, ww⟩ := Bo.row hW5
  have qN : ((D.2.1 : Int) == (D.2.1 : Int)) = true := by simp
  have qE : (D.2.2 == D.2.2) = true := by simp
  simp -implicitDefEqProofs (maxSteps := 1000000) (disch := first | omega | assumption) only [qN, qE, Sx, reduceIte, Nat.reduceEqDiff, reduceCtorEq, Nat.reduceAdd, Nat.reduceSub, Nat.reduceLT, Zx, endK]
  refine a_call (wiped_spec hP5 ww rfl (by omega)) ?_
  rintro e H6 ⟨rfl, ho6⟩
  have k6 : Keep H H6 := ho6.keep k5 fun r hr => k1.none (fp r hr)
  have hQ6 : Bo H6 vq D.1 := hQ5.only ho6 fun r hr e => hP.known e (fq r hr)
  have hW6 : Bo H6 (.slice Aw D.1.length cw) D.1 := hW5.only ho6 fun r hr e => (hP.keep k3).known e (fw r hr)
  obtain ⟨Aq, cq, rfl, -, wq⟩ := Bo.row hQ6
  obtain ⟨_, _, ee, -, ww6⟩ := Bo.row hW6
  cases ee
  have b1 := ev_b2s_by (c := cq) wq
  have b2 := ev_b2s_by (c := cw) ww6
  have qS : (txt D.1 == txt D.1) = true := by simp
  simp -implicitDefEqProofs (maxSteps := 1000000) (disch := first | omega | assumption) only [b1, b2, t_list, qS, Sx, reduceIte, Nat.reduceEqDiff, reduceCtorEq, Nat.reduceAdd, Nat.reduceSub, Nat.reduceLT, Zx, endK]
  exact ⟨by (first | exact True.intro | rfl | assumption), k6⟩
theorem inflateDecodes_row {H : Heap} (hT : TabO H) (A : Option Addr) (c : Nat) (b : List Int) (cl : List (List Value)) (he : Els (Ty.int .u8) H A b cl) (hc : b.length ≤ c) (wb : (∀ y ∈ b, (Lit.int .u8 y).wf = true) ∧ b.length ≤ maxLen) (most : Int) (wm : (Lit.int .i64 most).wf = true) (hb : (b.map fun _ => 1).sum + 1 + 1 ≤ 1048576) :
    ACalls Tryd.prog 3 [Value.slice A b.length c, .int .i64 most].toArray H fun e H' => e = .returned (.bool true) ∧ Keep H H' := by
  have e1 : ∀ l : List Int, (l.map fun _ => 1).sum = l.length := fun l => by
    induction l with
    | nil => rfl
    | cons x l ih => rw [List.map_cons, List.sum_cons, ih, List.length_cons]; omega
  rw [e1] at hb
  exact inflateDecodes_walk hT he.ints hc (fun y hy => wf_u8 (wb.1 y hy)) (by omega)
end Go.Proofs.YtphojebganlbnaaDoor.S06
