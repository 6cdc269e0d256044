/-
  FieldSum: any record, any place, any turn.
-/
import Derived.Test.YtigignkgblaoaaaDoorLowK
import Derived.Test.YtigignkgblaoaaaDoorLives
import Derived.Test.YtigignkgblaoaaaDoorSumLaw
import Derived.Test.YtigignkgblaoaaaDoorSepOpn
set_option linter.unusedVariables false
set_option linter.unusedSimpArgs false
namespace Go.Proofs.YtigignkgblaoaaaDoor.S12
open Go Go.RowKit Go.Proofs.YtigignkgblaoaaaDoor.Sep Go.Proofs.YtigignkgblaoaaaDoor.Low Go.Proofs.YtigignkgblaoaaaDoor.Lib

def recTy : Ty (List Int) := ⟨512, fun _ x cs => cs = by8 x ∧ x.length = 512, fun h => by rw [h.1]; simpa using h.2, fun _ h => h⟩
theorem cellsRec : Tryd.prog.cellsOf 33 = 512 := by kernel_rfl
theorem cellsByte : Tryd.prog.cellsOf 5 = 1 := by kernel_rfl
theorem opnRec : Opn Tryd.prog 33 recTy isBy (fun _ => 1) := ⟨fun {H enc w base spare held fuel cs x} h => by
  obtain ⟨xs, m, _, ex, hl, hlen, hel⟩ := DataW.trod_array Tryd.underlying33 h
  rw [cellsRec] at hl
  rw [cellsByte] at hel
  have each : ∀ i, i < 512 → ∃ z : Int, cs[i]? = some (.int .u8 z) ∧ 0 ≤ z ∧ z < 256 := by
    intro i hi
    have h1 := hel i hi
    rw [List.getElem?_eq_getElem (by omega)] at h1
    obtain ⟨z, e1, e2, hw⟩ := DataW.trod_int Tryd.underlying5 h1
    refine ⟨z, ?_, wf_u8 hw⟩
    have : ((cs.drop (i * 1)).take 1)[0]? = some (.int .u8 z) := by rw [e1]; rfl
    simpa using this
  have hby : ∀ (ys : List Value), (∀ i, i < ys.length → ∃ z : Int, ys[i]? = some (.int .u8 z) ∧ 0 ≤ z ∧ z < 256) → ∃ l : List Int, ys = by8 l ∧ isBy l := by
    intro ys
    induction ys with
    | nil => exact fun _ => ⟨[], rfl, fun x hx => by cases hx⟩
    | cons y ys ih =>
      intro hy
      obtain ⟨z, hz, hz2⟩ := hy 0 (by simp)
      obtain ⟨l, rfl, hl2⟩ := ih fun i hi => hy (i + 1) (by simpa using hi)
      simp only [List.getElem?_cons_zero, Option.some.injEq] at hz
      subst hz
      exact ⟨z :: l, rfl, fun x hx => by rcases List.mem_cons.1 hx with rfl | hx; exact hz2; exact hl2 x hx⟩
  obtain ⟨l, rfl, hl2⟩ := hby cs fun i hi => each i (by omega)
  exact ⟨l, ⟨rfl, by simpa using hl⟩, hl2, bulk_one _⟩⟩
theorem xor_same {x t : Int} (hx : 0 ≤ x ∧ x < 256) (ht : 0 ≤ t ∧ t < 256) : (0 ≤ Go.bits .xor .u8 x t ∧ Go.bits .xor .u8 x t < 256) ∧ (x = Go.bits .xor .u8 x t ↔ t = 0) := by
  obtain ⟨a, rfl⟩ : ∃ a : Nat, x = a := ⟨x.toNat, by omega⟩
  obtain ⟨b, rfl⟩ : ∃ b : Nat, t = b := ⟨t.toNat, by omega⟩
  have e : Go.bits .xor .u8 (a : Int) (b : Int) = ((a ^^^ b : Nat) : Int) := u8_xor_nat a b (by omega) (by omega)
  have h8 : a ^^^ b < 2 ^ 8 := Nat.xor_lt_two_pow (by omega) (by omega)
  rw [e]
  refine ⟨by omega, ?_⟩
  constructor
  · intro h
    have h1 : a = a ^^^ b := by omega
    have h2 : a ^^^ a = a ^^^ (a ^^^ b) := by rw [← h1]
    rw [Nat.xor_self, ← Nat.xor_assoc, Nat.xor_self, Nat.zero_xor] at h2
    omega
  · intro h
    have : b = 0 := by omega
    subst this
    rw [Nat.xor_zero]
set_option maxHeartbeats 4000000 in
theorem fieldSum_walk {H : Heap} {l : List Int} {p t : Int} (hT : Tz H) (hb : isBy l) (hl : l.length = 512) (hp : 0 ≤ p ∧ p < 65536) (ht : 0 ≤ t ∧ t < 256) :
    ACalls Tryd.prog 8 [Value.agg (by8 l).toArray, .int .u16 p, .int .u8 t].toArray H fun e H' => e = .returned (.bool true) ∧ Keep H H' := by
  refine call8 (Nat.le_of_ble_eq_true rfl) ?_
  unfold L8 env0
  obtain ⟨i, hi, hpi⟩ : ∃ i : Nat, i < 512 ∧ p % 512 = i := ⟨(p % 512).toNat, by omega, by omega⟩
  simp -implicitDefEqProofs (maxSteps := 1000000) (disch := first | omega | assumption) only [Sx, reduceIte, Nat.reduceEqDiff, reduceCtorEq, Nat.reduceAdd, Nat.reduceSub, Nat.reduceLT, decide_true, decide_false, Bool.not_true, Bool.not_false, Int.toNat_one, Int.toNat_zero, Nat.zero_mul, l_g, endK]
  refine a_boxb hl ?_
  intro r H1 hO hk hr
  simp -implicitDefEqProofs (maxSteps := 1000000) (disch := first | omega | assumption) only [Sx, reduceIte, Nat.reduceEqDiff, reduceCtorEq, Nat.reduceAdd, Nat.reduceSub, Nat.reduceLT, decide_true, decide_false, Bool.not_true, Bool.not_false, Int.toNat_one, Int.toNat_zero, Nat.zero_mul, l_g, endK]
  refine a_call (xs := []) lives_spec ?_
  rintro e H2 ⟨rfl, hk2⟩
  have e2 := ev_ldn_arr (Own.keep hO hk2)
  have k2 := hk.trans hk2
  simp -implicitDefEqProofs (maxSteps := 1000000) (disch := first | omega | assumption) only [e2, Sx, reduceIte, Nat.reduceEqDiff, reduceCtorEq, Nat.reduceAdd, Nat.reduceSub, Nat.reduceLT, decide_true, decide_false, Bool.not_true, Bool.not_false, Int.toNat_one, Int.toNat_zero, Nat.zero_mul, l_g, endK]
  refine a_call (putSum_spec (hT.keep k2) hb hl) ?_
  rintro e H3 ⟨rfl, hk3⟩
  have k3 := k2.trans hk3
  simp -implicitDefEqProofs (maxSteps := 1000000) (disch := first | omega | assumption) only [Sx, reduceIte, Nat.reduceEqDiff, reduceCtorEq, Nat.reduceAdd, Nat.reduceSub, Nat.reduceLT, decide_true, decide_false, Bool.not_true, Bool.not_false, Int.toNat_one, Int.toNat_zero, Nat.zero_mul, l_g, endK]
  refine a_new ?_
  intro r2 hr2
  rw [repN]
  have hO2 := arr_of (T := 33) (n := 512) (l := List.replicate 512 0) List.length_replicate (set_same (H := H3) (r := r2) (o := .cells (by8 (List.replicate 512 0)).toArray 33 (0, 0)))
  have hk4 := (Keep.refl H3).set_new (o := .cells (by8 (List.replicate 512 0)).toArray 33 (0, 0)) hr2
  generalize H3.set r2 _ = H4 at hO2 hk4 ⊢
  have k4 := k3.trans hk4
  have hr2H := k3.none hr2
  have keep : ∀ {Ha Hb : Heap}, Keep H Ha → Oth Ha (.slice (some ⟨r2, 0, none⟩) 512 512) Hb → Keep H Hb := fun hK ho => ho.keep hK fun q hq => by cases hq; exact hr2H
  obtain ⟨x, hx⟩ : ∃ x, x = putsumL l := ⟨_, rfl⟩
  have hxl := putsum_len hl
  have hxb := putsum_by hb
  have hck := check_putsum hb hl
  rw [← hx] at hxl hxb hck ⊢
  simp -implicitDefEqProofs (maxSteps := 1000000) (disch := first | omega | assumption) only [Sx, reduceIte, Nat.reduceEqDiff, reduceCtorEq, Nat.reduceAdd, Nat.reduceSub, Nat.reduceLT, decide_true, decide_false, Bool.not_true, Bool.not_false, Int.toNat_one, Int.toNat_zero, Nat.zero_mul, l_g, endK]
  refine a_stA hO2 hxl ?_
  intro H5 hO5 ho5
  have k5 := keep k4 ho5
  have e5 := ev_ldn_arr hO5
  simp -implicitDefEqProofs (maxSteps := 1000000) (disch := first | omega | assumption) only [e5, Sx, reduceIte, Nat.reduceEqDiff, reduceCtorEq, Nat.reduceAdd, Nat.reduceSub, Nat.reduceLT, decide_true, decide_false, Bool.not_true, Bool.not_false, Int.toNat_one, Int.toNat_zero, Nat.zero_mul, l_g, endK]
  refine a_call (check_spec hxb hxl) ?_
  rintro e H6 ⟨rfl, hk6⟩
  rw [hck]
  have hO6 := Own.keep hO5 hk6
  have e6 := ev_ldn_arr hO6
  have k6 := k5.trans hk6
  simp -implicitDefEqProofs (maxSteps := 1000000) (disch := first | omega | assumption) only [e6, hpi, Sx, reduceIte, Nat.reduceEqDiff, reduceCtorEq, Nat.reduceAdd, Nat.reduceSub, Nat.reduceLT, decide_true, decide_false, Bool.not_true, Bool.not_false, Int.toNat_one, Int.toNat_zero, Nat.zero_mul, l_g, endK]
  refine a_call (sums_spec hxb hxl) ?_
  rintro e H7 ⟨rfl, hk7⟩
  have hO7 : Arr H7 33 512 r2 x := Own.keep hO6 hk7
  have k7 := k6.trans hk7
  have e7 := cell_arr hO7 (i := i) (by omega)
  have hin : (0 : Int) ≤ (i : Int) ∧ (i : Int) < ((512 : Nat) : Int) := by omega
  simp -implicitDefEqProofs (maxSteps := 1000000) (disch := first | omega | assumption) only [e7, Sx, reduceIte, Nat.reduceEqDiff, reduceCtorEq, Nat.reduceAdd, Nat.reduceSub, Nat.reduceLT, decide_true, decide_false, Bool.not_true, Bool.not_false, Int.toNat_one, Int.toNat_zero, Nat.zero_mul, l_g, endK]
  refine a_putA hO7 (j := i) (by omega) ?_
  intro H8 hO8 ho8
  have k8 := keep k7 ho8
  have e8 := ev_ldn_arr hO8
  have hxi := hxb.at (i := i) (by omega)
  obtain ⟨hy, hy2⟩ := xor_same hxi ht
  have hturn := sum_turn hxl hi (Go.bits .xor .u8 (x[i]'(by omega)) t)
  generalize Go.bits .xor .u8 (x[i]'(by omega)) t = y at hy hy2 hturn hO8 e8 ⊢
  have hsb : isBy (x.set i y) := fun z hz => by
    rcases List.mem_or_eq_of_mem_set hz with hz | rfl
    · exact hxb z hz
    · exact hy
  simp -implicitDefEqProofs (maxSteps := 1000000) (disch := first | omega | assumption) only [e8, Sx, reduceIte, Nat.reduceEqDiff, reduceCtorEq, Nat.reduceAdd, Nat.reduceSub, Nat.reduceLT, decide_true, decide_false, Bool.not_true, Bool.not_false, Int.toNat_one, Int.toNat_zero, Nat.zero_mul, l_g, endK]
  refine a_call (sums_spec hsb (by rw [List.length_set]; exact hxl)) ?_
  rintro e H9 ⟨rfl, hk9⟩
  have k9 := k8.trans hk9
  have f1 : decide ((148 : Int) ≤ (i : Int)) = decide (148 ≤ i) := by by_cases h : 148 ≤ i <;> simp [h] <;> omega
  have f2 : decide ((i : Int) < 156) = decide (i < 156) := by by_cases h : i < 156 <;> simp [h] <;> omega
  by_cases c0 : t = 0
  · rw [decide_eq_true (hy2.2 c0), Bool.true_or] at hturn
    have f0 : (t == 0) = true := beq_iff_eq.2 c0
    simp -implicitDefEqProofs (maxSteps := 1000000) (disch := first | omega | assumption) only [hturn, f0, Sx, reduceIte, Nat.reduceEqDiff, reduceCtorEq, Nat.reduceAdd, Nat.reduceSub, Nat.reduceLT, decide_true, decide_false, Bool.not_true, Bool.not_false, Int.toNat_one, Int.toNat_zero, Nat.zero_mul, l_g, endK]
    exact ⟨rfl, k9⟩
  · rw [decide_eq_false (fun h => c0 (hy2.1 h)), Bool.false_or] at hturn
    have f0 : (t == 0) = false := beq_eq_false_iff_ne.2 c0
    by_cases c1 : 148 ≤ i <;> by_cases c2 : i < 156 <;> (first | rw [decide_eq_true c1] at hturn f1 | rw [decide_eq_false c1] at hturn f1) <;> (first | rw [decide_eq_true c2] at hturn f2 | rw [decide_eq_false c2] at hturn f2) <;> (simp -implicitDefEqProofs (maxSteps := 1000000) (disch := first | omega | assumption) only [hturn, f0, f1, f2, Bool.and_self, Bool.and_true, Bool.and_false, Bool.false_and, Bool.true_and, Sx, reduceIte, Nat.reduceEqDiff, reduceCtorEq, Nat.reduceAdd, Nat.reduceSub, Nat.reduceLT, decide_true, decide_false, Bool.not_true, Bool.not_false, Int.toNat_one, Int.toNat_zero, Nat.zero_mul, l_g, endK]; exact ⟨rfl, k9⟩)
theorem wf_u16 {x : Int} (h : (Lit.int .u16 x).wf = true) : 0 ≤ x ∧ x < 65536 := by
  have h2 : IntKind.u16.min = 0 := by decide
  have h3 : IntKind.u16.max = 65535 := by decide
  simp only [Lit.wf, Bool.and_eq_true, decide_eq_true_eq, h2, h3] at h
  omega
theorem fieldSum_row {H : Heap} (hT : Tz H) (l : List Int) (cs : Array Value) (hK : recTy.K H l cs.toList) (hb : isBy l) (p : Int) (wp : (Lit.int .u16 p).wf = true) (t : Int) (wt : (Lit.int .u8 t).wf = true) :
    ACalls Tryd.prog 8 [Value.agg cs, .int .u16 p, .int .u8 t].toArray H fun e H' => e = .returned (.bool true) ∧ Keep H H' := by
  obtain ⟨h1, h2⟩ := hK
  have : cs = (by8 l).toArray := by rw [← h1]
  subst this
  exact fieldSum_walk hT hb h2 (wf_u16 wp) (wf_u8 wt)
end Go.Proofs.YtigignkgblaoaaaDoor.S12
