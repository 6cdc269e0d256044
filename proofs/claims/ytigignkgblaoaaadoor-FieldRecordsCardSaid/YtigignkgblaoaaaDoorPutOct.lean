/-
  PutOctal, of both.
-/
import Derived.Test.YtigignkgblaoaaaDoorLowF
import Derived.Test.YtigignkgblaoaaaDoorFmt
import Derived.Test.YtigignkgblaoaaaDoorRBinary
import Derived.Test.YtigignkgblaoaaaDoorStr
set_option linter.unusedVariables false
set_option linter.unusedSimpArgs false
namespace Go.Proofs.YtigignkgblaoaaaDoor.S12
open Go Go.RowKit Go.Proofs.YtigignkgblaoaaaDoor.Sep Go.Proofs.YtigignkgblaoaaaDoor.Low Go.Proofs.YtigignkgblaoaaaDoor.Lib

theorem txt_len (l : List Int) : (txt l).length = l.length := by simp [txt]
/-- what a writer of bytes ends with -/
def Puts (H : Heap) (r : List Int × Int) (e : Ending) (H' : Heap) : Prop := ∃ v, e = .returned (.tuple #[v, .int .i64 r.2]) ∧ Bs H' v r.1 ∧ Keep H H' ∧ Fresh H v
theorem Puts.err {H H' : Heap} {r : List Int × Int} {n : Int} (hk : Keep H H') (h : r = ([], n)) : Puts H r (.returned (.tuple #[.slice none 0 0, .int .i64 n])) H' :=
  ⟨_, by rw [h], by rw [h]; exact .nil, hk, fun q hq => by cases hq⟩
theorem a_s2b {P : Program} {H : Heap} {ds : List Int} {KV : Value → Heap → Prop} {KP : List PanicEntry → Heap → Prop} (hb : isBy ds)
    (hk : ∀ r c H', Bs H' (.slice (some ⟨r, 0, none⟩) ds.length c) ds → Keep H H' → H r = none → KV (.slice (some ⟨r, 0, none⟩) ds.length c) H') : awpE P (.s2b 5) [.string ⟨(txt ds).toArray⟩] KV KP H := by
  refine (show ∀ r c, (⟨(txt ds).toArray⟩ : ByteArray).size ≤ c → H r = none → KV (.slice (some ⟨r, 0, none⟩) (⟨(txt ds).toArray⟩ : ByteArray).size c) (H.set r (.cells (((⟨(txt ds).toArray⟩ : ByteArray).data.map fun b => .int .u8 b.toNat) ++ Array.replicate (c - (⟨(txt ds).toArray⟩ : ByteArray).size) (.int .u8 0)) 5 (c, c + 1))) from ?_)
  intro r c hc hr
  rw [t_size, txt_len] at hc ⊢
  refine hk r c _ (.at (f := (c, c + 1)) (rest := List.replicate (c - ds.length) (.int .u8 0)) ?_ (.inr ?_) (by simp) (by simp) hc) ((Keep.refl H).set_new hr) hr
  · rw [set_same]
    congr 2
    apply Array.ext'
    simp only [Array.toList_append, Array.toList_map, Array.toList_replicate]
    congr 1
    rw [by8]
    conv => rhs; rw [← txt_nat hb]
    rw [List.map_map]
    rfl
  · simp; omega
theorem rep48 : ∀ m : Nat, Go.Lib.repeatL [48] m = List.replicate m 48
  | 0 => rfl
  | m + 1 => by rw [Go.Lib.repeatL, rep48 m, List.replicate_succ]; rfl
theorem repeat_spec {H : Heap} {m : Nat} (hm : m ≤ 1048576) : ACalls Tryd.prog 40 [Value.string ⟨#[48]⟩, .int .i64 m].toArray H fun e H' => e = .returned (.string ⟨(txt (List.replicate m 48)).toArray⟩) ∧ H' = H :=
  acalls_below fun w _ => (Tryd.strings_Repeat ⟨#[48]⟩ m w (by omega) (by show 1 * m ≤ _; omega)).mono fun e w' h => by
    refine ⟨?_, h.2⟩
    rw [h.1]
    have : Go.Lib.repeatL ((⟨#[48]⟩ : ByteArray)).data.toList m = txt (List.replicate m 48) := by
      rw [txt, List.map_replicate]
      exact rep48 m
    rw [this]
set_option maxHeartbeats 4000000 in
theorem putOctal_spec {H : Heap} {n w : Int} (hT : Tz H) (hn : -9223372036854775808 ≤ n ∧ n ≤ 9223372036854775807) (hw : -9223372036854775808 ≤ w ∧ w ≤ 9223372036854775807) :
    ACalls Tryd.prog 18 [Value.int .i64 n, .int .i64 w].toArray H fun e H' => Puts H (putO n w) e H' := by
  refine call18 (Nat.le_of_ble_eq_true rfl) ?_
  unfold L18 env0
  by_cases h1 : w < 2
  · have f0 : decide (w < 2) = true := decide_eq_true h1
    simp -implicitDefEqProofs (maxSteps := 1000000) (disch := first | omega | assumption) only [f0, Sx, reduceIte, Nat.reduceEqDiff, reduceCtorEq, Nat.reduceAdd, Nat.reduceSub, Nat.reduceLT, decide_true, decide_false, Bool.not_true, Bool.not_false, Int.toNat_one, Int.toNat_zero, Nat.zero_mul, l_g, endK]
    exact .err (Keep.refl _) (by unfold putO; rw [if_pos (.inl h1)])
  have f0 : decide (w < 2) = false := decide_eq_false h1
  by_cases h2 : 512 < w
  · have f1 : decide (512 < w) = true := decide_eq_true h2
    simp -implicitDefEqProofs (maxSteps := 1000000) (disch := first | omega | assumption) only [f0, f1, Sx, reduceIte, Nat.reduceEqDiff, reduceCtorEq, Nat.reduceAdd, Nat.reduceSub, Nat.reduceLT, decide_true, decide_false, Bool.not_true, Bool.not_false, Int.toNat_one, Int.toNat_zero, Nat.zero_mul, l_g, endK]
    exact .err (Keep.refl _) (by unfold putO; rw [if_pos (.inr h2)])
  have f1 : decide (512 < w) = false := decide_eq_false h2
  have hput : putO n w = if n < 0 ∨ p8 (w.toNat - 1) ≤ n then ([], 122) else (od (w.toNat - 1) n ++ [0], 0) := by unfold putO; rw [if_neg (by omega)]
  simp -implicitDefEqProofs (maxSteps := 1000000) (disch := first | omega | assumption) only [f0, f1, Sx, reduceIte, Nat.reduceEqDiff, reduceCtorEq, Nat.reduceAdd, Nat.reduceSub, Nat.reduceLT, decide_true, decide_false, Bool.not_true, Bool.not_false, Int.toNat_one, Int.toNat_zero, Nat.zero_mul, l_g, endK]
  refine a_call (fmt8_spec hT hn) ?_
  rintro e H1 ⟨s, rfl, hs23, hs, hk1⟩
  by_cases h3 : n < 0
  · have f2 : decide (n < 0) = true := decide_eq_true h3
    simp -implicitDefEqProofs (maxSteps := 1000000) (disch := first | omega | assumption) only [f2, Sx, reduceIte, Nat.reduceEqDiff, reduceCtorEq, Nat.reduceAdd, Nat.reduceSub, Nat.reduceLT, decide_true, decide_false, Bool.not_true, Bool.not_false, Int.toNat_one, Int.toNat_zero, Nat.zero_mul, l_g, endK]
    exact .err hk1 (by rw [hput, if_pos (.inl h3)])
  have f2 : decide (n < 0) = false := decide_eq_false h3
  obtain ⟨k, hfew, rfl⟩ := hs (by omega)
  have hsl := od_len k n
  have hle := few_le hfew (w := w.toNat - 1) (by omega)
  by_cases h4 : w.toNat - 1 < k
  · have f3 : decide (w - 1 < (k : Int)) = true := decide_eq_true (by omega)
    simp -implicitDefEqProofs (maxSteps := 1000000) (disch := first | omega | assumption) only [f2, f3, t_size, txt_len, hsl, Sx, reduceIte, Nat.reduceEqDiff, reduceCtorEq, Nat.reduceAdd, Nat.reduceSub, Nat.reduceLT, decide_true, decide_false, Bool.not_true, Bool.not_false, Int.toNat_one, Int.toNat_zero, Nat.zero_mul, l_g, endK]
    have hbig : p8 (w.toNat - 1) ≤ n := by
      apply Decidable.byContradiction
      intro h
      have := hle.2 (by omega)
      omega
    exact .err hk1 (by rw [hput, if_pos (.inr hbig)])
  · have f3 : decide (w - 1 < (k : Int)) = false := decide_eq_false (by omega)
    have hlt := hle.1 (by omega)
    have hm : w - 1 - (k : Int) = ((w.toNat - 1 - k : Nat) : Int) := by omega
    simp -implicitDefEqProofs (maxSteps := 1000000) (disch := first | omega | assumption) only [f2, f3, t_size, txt_len, hsl, hm, Sx, reduceIte, Nat.reduceEqDiff, reduceCtorEq, Nat.reduceAdd, Nat.reduceSub, Nat.reduceLT, decide_true, decide_false, Bool.not_true, Bool.not_false, Int.toNat_one, Int.toNat_zero, Nat.zero_mul, l_g, endK]
    refine a_call (repeat_spec (by omega)) ?_
    rintro e H2 ⟨rfl, rfl⟩
    have hpad := od_pad k (by omega : 0 ≤ n) hfew.2.2.1 (w.toNat - 1 - k)
    rw [show k + (w.toNat - 1 - k) = w.toNat - 1 by omega] at hpad
    have hcat : txt (List.replicate (w.toNat - 1 - k) 48) ++ txt (od k n) = txt (od (w.toNat - 1) n) := by rw [hpad, txt_append]
    have hcl : (txt (List.replicate (w.toNat - 1 - k) 48)).length + (txt (od k n)).length ≤ 9223372036854775807 := by rw [txt_len, txt_len, hsl, List.length_replicate]; omega
    simp -implicitDefEqProofs (maxSteps := 1000000) (disch := first | omega | assumption) only [v_cat, hcat, Sx, reduceIte, Nat.reduceEqDiff, reduceCtorEq, Nat.reduceAdd, Nat.reduceSub, Nat.reduceLT, decide_true, decide_false, Bool.not_true, Bool.not_false, Int.toNat_one, Int.toNat_zero, Nat.zero_mul, l_g, endK]
    refine a_s2b (od_by _ _) ?_
    intro r3 c3 H3 hO3 hk3 hr3
    try simp -implicitDefEqProofs (maxSteps := 1000000) (disch := first | omega | assumption) only [Sx, reduceIte, Nat.reduceEqDiff, reduceCtorEq, Nat.reduceAdd, Nat.reduceSub, Nat.reduceLT, decide_true, decide_false, Bool.not_true, Bool.not_false, Int.toNat_one, Int.toNat_zero, Nat.zero_mul, l_g, endK]
    refine lits_b1 ?_
    intro r4 H4 hO4 hk4 hr4
    try simp -implicitDefEqProofs (maxSteps := 1000000) (disch := first | omega | assumption) only [Sx, reduceIte, Nat.reduceEqDiff, reduceCtorEq, Nat.reduceAdd, Nat.reduceSub, Nat.reduceLT, decide_true, decide_false, Bool.not_true, Bool.not_false, Int.toNat_one, Int.toNat_zero, Nat.zero_mul, l_g, endK]
    refine app_b1 (hO3.keep hk4) (by rw [od_len]; simp; omega) (own_by hO4) ?_
    intro v5 H5 hO5 ho5 hm5
    have hF3 : Fresh H2 (.slice (some ⟨r3, 0, none⟩) (od (w.toNat - 1) n).length c3) := fun q hq => by cases hq; exact hr3
    have hsv := hO5.scalar
    try simp -implicitDefEqProofs (maxSteps := 1000000) (disch := first | omega | assumption) only [Sx, reduceIte, Nat.reduceEqDiff, reduceCtorEq, Nat.reduceAdd, Nat.reduceSub, Nat.reduceLT, decide_true, decide_false, Bool.not_true, Bool.not_false, Int.toNat_one, Int.toNat_zero, Nat.zero_mul, l_g, endK]
    refine ⟨v5, by rw [hput, if_neg (by omega)], by rw [hput, if_neg (by omega)]; exact hO5, hk1.trans (ho5.keep (hk3.trans hk4) hF3), fun q hq => hk1.none (hm5.fresh (hk3.trans hk4) hF3 q hq)⟩

theorem width_spec {H : Heap} {w : Int} : ACalls Tryd.prog 41 [Value.int .i64 w].toArray H fun e H' => e = .returned (.bool (decide (2 ≤ w ∧ w ≤ 512))) ∧ H' = H := by
  refine call41 (Nat.le_of_ble_eq_true rfl) ?_
  unfold L41 env0
  by_cases h1 : 2 ≤ w
  · have f0 : decide (2 ≤ w) = true := decide_eq_true h1
    have f1 : decide (2 ≤ w ∧ w ≤ 512) = decide (w ≤ 512) := by
      by_cases h2 : w ≤ 512
      · rw [decide_eq_true h2, decide_eq_true ⟨h1, h2⟩]
      · rw [decide_eq_false h2, decide_eq_false (fun h => h2 h.2)]
    rw [f1]
    simp -implicitDefEqProofs (maxSteps := 1000000) (disch := first | omega | assumption) only [f0, Sx, reduceIte, Nat.reduceEqDiff, reduceCtorEq, Nat.reduceAdd, Nat.reduceSub, Nat.reduceLT, decide_true, decide_false, Bool.not_true, Bool.not_false, Int.toNat_one, Int.toNat_zero, Nat.zero_mul, l_g, endK]
    exact ⟨by trivial, by trivial⟩
  · have f0 : decide (2 ≤ w) = false := decide_eq_false h1
    have f1 : decide (2 ≤ w ∧ w ≤ 512) = false := decide_eq_false (fun h => h1 h.1)
    rw [f1]
    simp -implicitDefEqProofs (maxSteps := 1000000) (disch := first | omega | assumption) only [f0, Sx, reduceIte, Nat.reduceEqDiff, reduceCtorEq, Nat.reduceAdd, Nat.reduceSub, Nat.reduceLT, decide_true, decide_false, Bool.not_true, Bool.not_false, Int.toNat_one, Int.toNat_zero, Nat.zero_mul, l_g, endK]
    exact ⟨by trivial, by trivial⟩
theorem zeros_by (n : Nat) : (List.replicate n (#[Value.int .u8 0] : Array Value).toList).flatten = by8 (List.replicate n 0) := by
  rw [by8, List.map_replicate]
  induction n with
  | zero => rfl
  | succ n ih => rw [List.replicate_succ, List.flatten_cons, ih, List.replicate_succ]; rfl
/-- a byte of a list of our own is stored -/
theorem a_put {P : Program} {H : Heap} {l : List Int} {r len c j : Nat} {x : Int} {KV : Value → Heap → Prop} {KP : List PanicEntry → Heap → Prop} (hO : Bs H (.slice (some ⟨r, 0, none⟩) len c) l) (hj : j < l.length)
    (hk : ∀ H', Bs H' (.slice (some ⟨r, 0, none⟩) len c) (l.set j x) → Oth H (.slice (some ⟨r, 0, none⟩) len c) H' → KV undef H') : awpE P (.st 1) [.pointer (some ⟨r, j, none⟩), .int .u8 x] KV KP H := by
  refine a_storeC hO (j := j) (by simpa using hj) rfl ?_
  intro H' h1 h2
  refine hk H' ?_ h2
  show Own H' _ 1 _ _
  rw [by8, List.map_set]
  exact h1
set_option maxHeartbeats 4000000 in
theorem rputOctal_spec {H : Heap} {n w : Int} (hn : -9223372036854775808 ≤ n ∧ n ≤ 9223372036854775807) (hw : -9223372036854775808 ≤ w ∧ w ≤ 9223372036854775807) :
    ACalls Tryd.prog 19 [Value.int .i64 n, .int .i64 w].toArray H fun e H' => Puts H (putO n w) e H' := by
  refine call19 (Nat.le_of_ble_eq_true rfl) ?_
  unfold L19 env0
  simp -implicitDefEqProofs (maxSteps := 1000000) (disch := first | omega | assumption) only [Sx, reduceIte, Nat.reduceEqDiff, reduceCtorEq, Nat.reduceAdd, Nat.reduceSub, Nat.reduceLT]
  refine a_call width_spec ?_
  rintro e H1 ⟨rfl, rfl⟩
  by_cases h1 : 2 ≤ w ∧ w ≤ 512
  case neg =>
    rw [decide_eq_false h1]
    simp -implicitDefEqProofs (maxSteps := 1000000) (disch := first | omega | assumption) only [Sx, reduceIte, Nat.reduceEqDiff, reduceCtorEq, Nat.reduceAdd, Nat.reduceSub, Nat.reduceLT, decide_true, decide_false, Bool.not_true, Bool.not_false, Int.toNat_one, Int.toNat_zero, Nat.zero_mul, l_g, endK]
    exact .err (Keep.refl _) (by unfold putO; rw [if_pos (by omega)])
  rw [decide_eq_true h1]
  have hput : putO n w = if n < 0 ∨ p8 (w.toNat - 1) ≤ n then ([], 122) else (od (w.toNat - 1) n ++ [0], 0) := by unfold putO; rw [if_neg (by omega)]
  by_cases h3 : n < 0
  · have f2 : decide (n < 0) = true := decide_eq_true h3
    simp -implicitDefEqProofs (maxSteps := 1000000) (disch := first | omega | assumption) only [f2, Sx, reduceIte, Nat.reduceEqDiff, reduceCtorEq, Nat.reduceAdd, Nat.reduceSub, Nat.reduceLT, decide_true, decide_false, Bool.not_true, Bool.not_false, Int.toNat_one, Int.toNat_zero, Nat.zero_mul, l_g, endK]
    exact .err (Keep.refl _) (by rw [hput, if_pos (.inl h3)])
  have f2 : decide (n < 0) = false := decide_eq_false h3
  obtain ⟨m, hm⟩ : ∃ m : Nat, w = (m : Int) + 1 := ⟨w.toNat - 1, by omega⟩
  have hwm : w.toNat - 1 = m := by omega
  rw [hwm] at hput
  have hwn : w = ((m + 1 : Nat) : Int) := by omega
  rw [hwn] at hput ⊢
  simp -implicitDefEqProofs (maxSteps := 1000000) (disch := first | omega | assumption) only [f2, Sx, reduceIte, Nat.reduceEqDiff, reduceCtorEq, Nat.reduceAdd, Nat.reduceSub, Nat.reduceLT, decide_true, decide_false, Bool.not_true, Bool.not_false, Int.toNat_one, Int.toNat_zero, Nat.zero_mul, l_g, endK]
  refine a_mks (l := m + 1) (c := m + 1) (sz := 1) (by omega) (by omega) (by omega) rfl (by omega) ?_
  intro r H2 rest hbr hW hk2 hr2
  rw [zeros_by] at hW
  have hF : Fresh H1 (.slice (some ⟨r, 0, none⟩) (m + 1) (m + 1)) := fun q hq => by cases hq; exact hr2
  have e2 : ((m + 1 : Nat) : Int) - 2 = (m : Int) - 1 := by omega
  try simp -implicitDefEqProofs (maxSteps := 1000000) (disch := first | omega | assumption) only [e2, Sx, reduceIte, Nat.reduceEqDiff, reduceCtorEq, Nat.reduceAdd, Nat.reduceSub, Nat.reduceLT, decide_true, decide_false, Bool.not_true, Bool.not_false, Int.toNat_one, Int.toNat_zero, Nat.zero_mul, l_g, endK]
  refine c_loop (fun k env H' => ∃ j, k + j = m ∧ env 0 = .int .i64 (n / p8 j) ∧ env 6 = .slice (some ⟨r, 0, none⟩) (m + 1) (m + 1) ∧ env 7 = .int .i64 ((m : Int) - 1 - j) ∧ Bs H' (.slice (some ⟨r, 0, none⟩) (m + 1) (m + 1)) (List.replicate (m - j) 0 ++ (od j n ++ [0])) ∧ Keep H1 H') m
    ⟨0, by omega, by rw [p8, Int.ediv_one]; simp -implicitDefEqProofs (maxSteps := 1000000) (disch := first | omega | assumption) only [Sx, reduceIte, Nat.reduceEqDiff, reduceCtorEq, Nat.reduceAdd, Nat.reduceSub, Nat.reduceLT], by simp -implicitDefEqProofs (maxSteps := 1000000) (disch := first | omega | assumption) only [Sx, reduceIte, Nat.reduceEqDiff, reduceCtorEq, Nat.reduceAdd, Nat.reduceSub, Nat.reduceLT], by simp -implicitDefEqProofs (maxSteps := 1000000) (disch := first | omega | assumption) only [Sx, reduceIte, Nat.reduceEqDiff, reduceCtorEq, Nat.reduceAdd, Nat.reduceSub, Nat.reduceLT]; simp, by rw [Nat.sub_zero, show ([0] : List Int) = List.replicate 1 0 from rfl, od, List.nil_append, List.replicate_append_replicate]; exact hW, hk2⟩ ?_
  rintro k env H3 ⟨j, hk, h0, h6, h7, hO, hK⟩
  unfold L19_0
  have hd0 : 0 ≤ n / p8 j := Int.ediv_nonneg (by omega) (by have := p8_pos j; omega)
  have hd1 : n / p8 j ≤ n := Int.ediv_le_self _ (by omega)
  have hd2 : 0 ≤ n / p8 (j + 1) := Int.ediv_nonneg (by omega) (by have := p8_pos (j + 1); omega)
  have hd3 : n / p8 (j + 1) ≤ n := Int.ediv_le_self _ (by omega)
  by_cases hj : j < m
  · have f3 : decide ((0 : Int) ≤ (m : Int) - 1 - j) = true := decide_eq_true (by omega)
    have hin : (0 : Int) ≤ (m : Int) - 1 - j ∧ (m : Int) - 1 - j < ((m + 1 : Nat) : Int) := by omega
    have e3 : ((m : Int) - 1 - j).toNat = m - 1 - j := by omega
    simp -implicitDefEqProofs (maxSteps := 1000000) (disch := first | omega | assumption) only [h0, h6, h7, f3, v_rem, w_u8, e3, Sx, reduceIte, Nat.reduceEqDiff, reduceCtorEq, Nat.reduceAdd, Nat.reduceSub, Nat.reduceLT, decide_true, decide_false, Bool.not_true, Bool.not_false, Int.toNat_one, Int.toNat_zero, Nat.zero_mul, l_g, endK]
    refine a_put hO (j := m - 1 - j) (by simp; omega) ?_
    intro H4 hO4 ho4
    have e4 : (m : Int) - 1 - j - 1 = (m : Int) - 1 - ((j + 1 : Nat) : Int) := by omega
    simp -implicitDefEqProofs (maxSteps := 1000000) (disch := first | omega | assumption) only [h0, h6, h7, e4, p8_div, Sx, reduceIte, Nat.reduceEqDiff, reduceCtorEq, Nat.reduceAdd, Nat.reduceSub, Nat.reduceLT, decide_true, decide_false, Bool.not_true, Bool.not_false, Int.toNat_one, Int.toNat_zero, Nat.zero_mul, l_g, endK]
    refine ⟨k - 1, by omega, j + 1, by omega, by trivial, by trivial, by trivial, ?_, ho4.keep hK hF⟩
    have e5 : (List.replicate (m - j) (0 : Int) ++ (od j n ++ [0])).set (m - 1 - j) (48 + n / p8 j % 8) = List.replicate (m - (j + 1)) 0 ++ (od (j + 1) n ++ [0]) := by
      rw [show m - j = (m - (j + 1)) + 1 by omega, List.replicate_succ', List.append_assoc, List.set_append_right _ _ (by simp; omega)]
      simp only [List.length_replicate, List.singleton_append]
      rw [show m - 1 - j - (m - (j + 1)) = 0 by omega, List.set_cons_zero]
      rfl
    rw [← e5]
    exact hO4
  · have : j = m := by omega
    subst this
    have f3 : decide ((0 : Int) ≤ (j : Int) - 1 - j) = false := decide_eq_false (by omega)
    rw [Nat.sub_self, List.replicate_zero, List.nil_append] at hO
    have hp := p8_pos j
    by_cases h4 : p8 j ≤ n
    · have f4 : decide (0 < n / p8 j) = true := decide_eq_true (by
        have : 1 ≤ n / p8 j := (Int.le_ediv_iff_mul_le hp).2 (by omega)
        omega)
      simp -implicitDefEqProofs (maxSteps := 1000000) (disch := first | omega | assumption) only [h0, h6, h7, f3, f4, Sx, reduceIte, Nat.reduceEqDiff, reduceCtorEq, Nat.reduceAdd, Nat.reduceSub, Nat.reduceLT, decide_true, decide_false, Bool.not_true, Bool.not_false, Int.toNat_one, Int.toNat_zero, Nat.zero_mul, l_g, endK]
      exact .err hK (by rw [hput, if_pos (.inr h4)])
    · have f4 : decide (0 < n / p8 j) = false := decide_eq_false (by
        have : n / p8 j = 0 := Int.ediv_eq_zero_of_lt (by omega) (by omega)
        omega)
      simp -implicitDefEqProofs (maxSteps := 1000000) (disch := first | omega | assumption) only [h0, h6, h7, f3, f4, Sx, reduceIte, Nat.reduceEqDiff, reduceCtorEq, Nat.reduceAdd, Nat.reduceSub, Nat.reduceLT, decide_true, decide_false, Bool.not_true, Bool.not_false, Int.toNat_one, Int.toNat_zero, Nat.zero_mul, l_g, endK]
      exact ⟨_, by rw [hput, if_neg (by omega)], by rw [hput, if_neg (by omega)]; exact hO, hK, hF⟩
end Go.Proofs.YtigignkgblaoaaaDoor.S12
