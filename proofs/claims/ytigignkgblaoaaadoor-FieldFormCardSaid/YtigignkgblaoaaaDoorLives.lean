/-
  What must come: the document's examples.
-/
import Derived.Test.YtigignkgblaoaaaDoorLowL
import Derived.Test.YtigignkgblaoaaaDoorZero
import Derived.Test.YtigignkgblaoaaaDoorRPutBin
set_option linter.unusedVariables false
set_option linter.unusedSimpArgs false
namespace Go.Proofs.YtigignkgblaoaaaDoor.S12
open Go Go.RowKit Go.Proofs.YtigignkgblaoaaaDoor.Sep Go.Proofs.YtigignkgblaoaaaDoor.Low Go.Proofs.YtigignkgblaoaaaDoor.Lib

theorem a_lits0 {P : Program} {H : Heap} {T len : Nat} {zero : Array Value} {places : List (Nat × Nat)} {xs : List Value} {cells : List Value} {KV : Value → Heap → Prop} {KP : List PanicEntry → Heap → Prop} (hf : (if places.length = xs.length then fillV zero (places.zip xs) else none) = some cells.toArray)
    (hk : ∀ r H', H' r = some (.cells cells.toArray T (0, 0)) → Keep H H' → H r = none → KV (.slice (some ⟨r, 0, none⟩) len len) H') : awpE P (.lits T zero len places) xs KV KP H := by
  have : match (if places.length = xs.length then fillV zero (places.zip xs) else none) with
    | some cs => ∀ r, H r = none → KV (.slice (some ⟨r, 0, none⟩) len len) (H.set r (.cells cs T (0, 0)))
    | none => False := by
    rw [hf]
    intro r hr
    exact hk r _ set_same ((Keep.refl H).set_new hr) hr
  exact this
theorem a_mrk {P : Program} {H0 H : Heap} {T r n c : Nat} {cells : List Value} {KV : Value → Heap → Prop} {KP : List PanicEntry → Heap → Prop} (hb : H r = some (.cells cells.toArray T (0, 0))) (hk0 : Keep H0 H) (hr : H0 r = none)
    (hk : ∀ H', Row H' (some ⟨r, 0, none⟩) cells → Keep H0 H' → KV (.slice (some ⟨r, 0, none⟩) n c) H') : awpE P .mrk [.slice (some ⟨r, 0, none⟩) n c] KV KP H := by
  simp only [awpE, hb]
  exact hk _ (row_of_block (rest := []) (by rw [List.append_nil]; exact set_same)) (hk0.set_fresh hr)
theorem lv1 : octN [48, 48, 48, 48, 54, 52, 52, 0] = (420, 0) := by decide +kernel
theorem lv2 : binN [192, 0] = (-16384, 0) := by decide +kernel
theorem lv3 : octN [56] = (0, 120) := by decide +kernel
theorem lv4 : putB (-1) 3 = ([255, 255, 255], 0) := by decide +kernel
theorem lv5 : plainS (List.replicate 512 0) = 256 := by decide +kernel
theorem lv6 : signedS (List.replicate 512 0) = 256 := by decide +kernel
theorem by_small {l : List Int} (h : l.all (fun x => decide (0 ≤ x ∧ x < 256)) = true) : isBy l := fun x hx => by simpa using List.all_eq_true.1 h x hx
theorem zeros_isBy (n : Nat) : isBy (List.replicate n 0) := fun x hx => by rw [List.eq_of_mem_replicate hx]; omega
set_option maxHeartbeats 4000000 in
theorem lives_spec {H : Heap} : ACalls Tryd.prog 35 #[] H fun e H' => e = .returned (.bool true) ∧ Keep H H' := by
  refine call35 (args := []) (Nat.le_of_ble_eq_true rfl) ?_
  unfold L35 env0
  simp -implicitDefEqProofs (maxSteps := 1000000) (disch := first | omega | assumption) only [Sx, reduceIte, Nat.reduceEqDiff, reduceCtorEq, Nat.reduceAdd, Nat.reduceSub, Nat.reduceLT, decide_true, decide_false, Bool.not_true, Bool.not_false, Int.toNat_one, Int.toNat_zero, Nat.zero_mul, l_g, endK]
  unfold L35_12
  simp -implicitDefEqProofs (maxSteps := 1000000) (disch := first | omega | assumption) only [Sx, reduceIte, Nat.reduceEqDiff, reduceCtorEq, Nat.reduceAdd, Nat.reduceSub, Nat.reduceLT, decide_true, decide_false, Bool.not_true, Bool.not_false, Int.toNat_one, Int.toNat_zero, Nat.zero_mul, l_g, endK]
  refine a_lits0 (cells := by8 [48, 48, 48, 48, 54, 52, 52, 0]) rfl ?_
  intro r1 H1 hb1 hk1 hr1
  simp -implicitDefEqProofs (maxSteps := 1000000) (disch := first | omega | assumption) only [Sx, reduceIte, Nat.reduceEqDiff, reduceCtorEq, Nat.reduceAdd, Nat.reduceSub, Nat.reduceLT, decide_true, decide_false, Bool.not_true, Bool.not_false, Int.toNat_one, Int.toNat_zero, Nat.zero_mul, l_g, endK]
  refine a_mrk hb1 hk1 hr1 ?_
  intro H2 hw2 hk2
  simp -implicitDefEqProofs (maxSteps := 1000000) (disch := first | omega | assumption) only [Sx, reduceIte, Nat.reduceEqDiff, reduceCtorEq, Nat.reduceAdd, Nat.reduceSub, Nat.reduceLT, decide_true, decide_false, Bool.not_true, Bool.not_false, Int.toNat_one, Int.toNat_zero, Nat.zero_mul, l_g, endK]
  refine a_call (octal_spec (l := [48, 48, 48, 48, 54, 52, 52, 0]) ⟨_, 8, rfl, by decide, hw2⟩ (by_small (by decide)) (by decide)) ?_
  rintro e H3 ⟨rfl, hk3⟩
  rw [lv1]
  have k3 := hk2.trans hk3
  simp -implicitDefEqProofs (maxSteps := 1000000) (disch := first | omega | assumption) only [Sx, reduceIte, Nat.reduceEqDiff, reduceCtorEq, Nat.reduceAdd, Nat.reduceSub, Nat.reduceLT, decide_true, decide_false, Bool.not_true, Bool.not_false, Int.toNat_one, Int.toNat_zero, Nat.zero_mul, l_g, endK]
  unfold L35_18
  simp -implicitDefEqProofs (maxSteps := 1000000) (disch := first | omega | assumption) only [Sx, reduceIte, Nat.reduceEqDiff, reduceCtorEq, Nat.reduceAdd, Nat.reduceSub, Nat.reduceLT, decide_true, decide_false, Bool.not_true, Bool.not_false, Int.toNat_one, Int.toNat_zero, Nat.zero_mul, l_g, endK]
  refine a_lits (sz := 1) (cells := #[.int .u8 192, .int .u8 0]) rfl rfl ?_
  intro r4 H4 hO4 hk4 hr4
  have hO4 : Bs H4 (.slice (some ⟨r4, 0, none⟩) 2 2) [192, 0] := hO4
  simp -implicitDefEqProofs (maxSteps := 1000000) (disch := first | omega | assumption) only [Sx, reduceIte, Nat.reduceEqDiff, reduceCtorEq, Nat.reduceAdd, Nat.reduceSub, Nat.reduceLT, decide_true, decide_false, Bool.not_true, Bool.not_false, Int.toNat_one, Int.toNat_zero, Nat.zero_mul, l_g, endK]
  refine a_call (binary_spec (own_by hO4) (by_small (by decide)) (by decide)) ?_
  rintro e H5 ⟨rfl, rfl⟩
  have k5 := k3.trans hk4
  rw [lv2]
  simp -implicitDefEqProofs (maxSteps := 1000000) (disch := first | omega | assumption) only [Sx, reduceIte, Nat.reduceEqDiff, reduceCtorEq, Nat.reduceAdd, Nat.reduceSub, Nat.reduceLT, decide_true, decide_false, Bool.not_true, Bool.not_false, Int.toNat_one, Int.toNat_zero, Nat.zero_mul, l_g, endK]
  unfold L35_23
  simp -implicitDefEqProofs (maxSteps := 1000000) (disch := first | omega | assumption) only [Sx, reduceIte, Nat.reduceEqDiff, reduceCtorEq, Nat.reduceAdd, Nat.reduceSub, Nat.reduceLT, decide_true, decide_false, Bool.not_true, Bool.not_false, Int.toNat_one, Int.toNat_zero, Nat.zero_mul, l_g, endK]
  refine a_lits0 (cells := by8 [56]) rfl ?_
  intro r6 H6 hb6 hk6 hr6
  simp -implicitDefEqProofs (maxSteps := 1000000) (disch := first | omega | assumption) only [Sx, reduceIte, Nat.reduceEqDiff, reduceCtorEq, Nat.reduceAdd, Nat.reduceSub, Nat.reduceLT, decide_true, decide_false, Bool.not_true, Bool.not_false, Int.toNat_one, Int.toNat_zero, Nat.zero_mul, l_g, endK]
  refine a_mrk hb6 (k5.trans hk6) (k5.none hr6) ?_
  intro H7 hw7 k7
  simp -implicitDefEqProofs (maxSteps := 1000000) (disch := first | omega | assumption) only [Sx, reduceIte, Nat.reduceEqDiff, reduceCtorEq, Nat.reduceAdd, Nat.reduceSub, Nat.reduceLT, decide_true, decide_false, Bool.not_true, Bool.not_false, Int.toNat_one, Int.toNat_zero, Nat.zero_mul, l_g, endK]
  refine a_call (octal_spec (l := [56]) ⟨_, 1, rfl, by decide, hw7⟩ (by_small (by decide)) (by decide)) ?_
  rintro e H8 ⟨rfl, hk8⟩
  rw [lv3]
  have k8 := k7.trans hk8
  simp -implicitDefEqProofs (maxSteps := 1000000) (disch := first | omega | assumption) only [Sx, reduceIte, Nat.reduceEqDiff, reduceCtorEq, Nat.reduceAdd, Nat.reduceSub, Nat.reduceLT, decide_true, decide_false, Bool.not_true, Bool.not_false, Int.toNat_one, Int.toNat_zero, Nat.zero_mul, l_g, endK]
  unfold L35_29
  simp -implicitDefEqProofs (maxSteps := 1000000) (disch := first | omega | assumption) only [Sx, reduceIte, Nat.reduceEqDiff, reduceCtorEq, Nat.reduceAdd, Nat.reduceSub, Nat.reduceLT, decide_true, decide_false, Bool.not_true, Bool.not_false, Int.toNat_one, Int.toNat_zero, Nat.zero_mul, l_g, endK]
  refine a_call (putBinary_spec (by decide) (by decide)) ?_
  rintro e H9 ⟨v, rfl, hO9, hk9, hf9⟩
  rw [lv4] at hO9 ⊢
  have hs9 := hO9.scalar
  have k9 := k8.trans hk9
  simp -implicitDefEqProofs (maxSteps := 1000000) (disch := first | omega | assumption) only [Sx, reduceIte, Nat.reduceEqDiff, reduceCtorEq, Nat.reduceAdd, Nat.reduceSub, Nat.reduceLT, decide_true, decide_false, Bool.not_true, Bool.not_false, Int.toNat_one, Int.toNat_zero, Nat.zero_mul, l_g, endK]
  unfold L35_33
  have e9 := ev_bld (H := H9) (n := 512)
  simp -implicitDefEqProofs (maxSteps := 1000000) (disch := first | omega | assumption) only [e9, Sx, reduceIte, Nat.reduceEqDiff, reduceCtorEq, Nat.reduceAdd, Nat.reduceSub, Nat.reduceLT, decide_true, decide_false, Bool.not_true, Bool.not_false, Int.toNat_one, Int.toNat_zero, Nat.zero_mul, l_g, endK]
  refine a_call (sums_spec (zeros_isBy 512) List.length_replicate) ?_
  rintro e H10 ⟨rfl, hk10⟩
  rw [lv5, lv6]
  obtain ⟨A, c, rfl, hc, hr⟩ := own_by (hO9.keep hk10)
  have hb : QI.b2s.ev [.slice A 3 c] H10 = some (.string ⟨(txt [255, 255, 255]).toArray⟩) := ev_b2s_by (l := [255, 255, 255]) (c := c) hr
  have ht : txt ([255, 255, 255] : List Int) = [255, 255, 255] := by decide
  have q1 : ((420 : Int) == 420) = true := rfl
  have q2 : ((0 : Int) == 0) = true := rfl
  have q3 : ((-16384 : Int) == -16384) = true := rfl
  have q4 : ((120 : Int) == 120) = true := rfl
  have q5 : ((256 : Int) == 256) = true := rfl
  have q6 : decide (([255, 255, 255] : List UInt8) = [255, 255, 255]) = true := by decide
  rw [ht] at hb
  simp -implicitDefEqProofs (maxSteps := 1000000) (disch := first | omega | assumption) only [hb, t_eq, q1, q2, q3, q4, q5, q6, Sx, reduceIte, Nat.reduceEqDiff, reduceCtorEq, Nat.reduceAdd, Nat.reduceSub, Nat.reduceLT, decide_true, decide_false, Bool.not_true, Bool.not_false, Int.toNat_one, Int.toNat_zero, Nat.zero_mul, l_g, endK]
  exact ⟨by trivial, k9.trans hk10⟩
end Go.Proofs.YtigignkgblaoaaaDoor.S12
