/-
  Records: local arrays as lists, and the two sums.
-/
import Derived.Test.YtigignkgblaoaaaDoorLowI
import Derived.Test.YtigignkgblaoaaaDoorPutTxt
set_option linter.unusedVariables false
set_option linter.unusedSimpArgs false
namespace Go.Proofs.YtigignkgblaoaaaDoor.S12
open Go Go.RowKit Go.Proofs.YtigignkgblaoaaaDoor.Sep Go.Proofs.YtigignkgblaoaaaDoor.Low Go.Proofs.YtigignkgblaoaaaDoor.Lib

/-- a local array of n bytes -/
abbrev Arr (H : Heap) (T : TypeId) (n r : Nat) (l : List Int) : Prop := Own H T 1 (.slice (some ⟨r, 0, none⟩) n n) (by8 l)
theorem arr_of {H : Heap} {T : TypeId} {n r : Nat} {l : List Int} (hn : l.length = n) (h : H r = some (.cells (by8 l).toArray T (0, 0))) : Arr H T n r l :=
  Own.at (rest := []) (f := (0, 0)) (by rw [List.append_nil]; exact h) (.inl rfl) (by simpa using hn) (by simp) (Nat.le_refl _)
theorem arr_row {H : Heap} {T : TypeId} {n r : Nat} {l : List Int} (h : Arr H T n r l) : Row H (some ⟨r, 0, none⟩) (by8 l) := by
  obtain ⟨a, m, c, e, -, -, hr⟩ := Own.view h
  cases e
  exact hr
theorem arr_len {H : Heap} {T : TypeId} {n r : Nat} {l : List Int} (h : Arr H T n r l) : l.length = n := by
  obtain ⟨a, m, c, e, h2, -, hr⟩ := Own.view h
  cases e
  simpa using h2
theorem a_boxb {P : Program} {H : Heap} {T : TypeId} {n : Nat} {l : List Int} {KV : Value → Heap → Prop} {KP : List PanicEntry → Heap → Prop} (hn : l.length = n)
    (hk : ∀ r H', Arr H' T n r l → Keep H H' → H r = none → KV (.pointer (some ⟨r, 0, none⟩)) H') : awpE P (.box T) [.agg (by8 l).toArray] KV KP H :=
  a_box fun r hr => hk r _ (arr_of hn set_same) ((Keep.refl H).set_new hr) hr
theorem ev_ldn_arr {H : Heap} {T n r : Nat} {l : List Int} (h : Arr H T n r l) : (QI.ldn n).ev [.pointer (some ⟨r, 0, none⟩)] H = some (.agg (by8 l).toArray) := by
  have h1 := (arr_row h).loadN
  rw [by8, List.length_map, arr_len h] at h1
  rw [ev_ldn, h1]
  rfl
theorem ev_ixa_by {H : Heap} {l : List Int} {n i : Nat} (hn : l.length = n) (hi : i < n) : (QI.ixa n 1 false).ev [.agg (by8 l).toArray, .int .i64 (i : Int)] H = some (.int .u8 (l[i]'(by omega))) := by
  have h1 : (0 : Int) ≤ (i : Int) ∧ (i : Int) < (n : Int) := by omega
  simp only [QI.ev, h1, and_self, if_true, Bool.false_eq_true, if_false, Int.toNat_natCast, Nat.mul_one, List.getElem?_toArray]
  rw [List.getElem?_eq_getElem (by simp; omega)]
  simp
theorem cell_arr {H : Heap} {T n r : Nat} {l : List Int} (h : Arr H T n r l) {i : Nat} (hi : i < l.length) : H.cell? ⟨r, i, none⟩ = some (.int .u8 l[i]) := by
  obtain ⟨b, e, h2⟩ := by_at (arr_row h) hi
  cases e
  rwa [add_mk, Nat.zero_add] at h2

/-- a byte as a signed one -/
def s8 (x : Int) : Int := if x < 128 then x else x - 256
theorem w_s8 {x : Int} (h : 0 ≤ x ∧ x < 256) : IntKind.i8.wrap x = s8 x := by
  unfold IntKind.wrap IntKind.bits IntKind.signed s8
  have e1 : (2 ^ 8 : Int) = 256 := by decide
  have e2 : (2 ^ (8 - 1) : Int) = 128 := by decide
  simp only [Bool.true_and, decide_eq_true_eq, e1, e2]
  split <;> split <;> omega
theorem s8_in {x : Int} (h : 0 ≤ x ∧ x < 256) : -128 ≤ s8 x ∧ s8 x < 128 := by
  unfold s8; split <;> omega
/-- the sum's own field taken for blanks -/
def maskL (r : List Int) : List Int := r.take 148 ++ (List.replicate 8 32 ++ r.drop 156)
theorem mask_len {r : List Int} (h : r.length = 512) : (maskL r).length = 512 := by simp [maskL, h]
theorem mask_at {r : List Int} (h : r.length = 512) {i : Nat} (hi : i < 512) : (maskL r)[i]? = some (if 148 ≤ i ∧ i < 156 then 32 else r[i]'(by omega)) := by
  unfold maskL
  by_cases h1 : i < 148
  · rw [List.getElem?_append_left (by simp; omega), List.getElem?_take, if_pos h1, if_neg (by omega), List.getElem?_eq_getElem (by omega)]
  · rw [List.getElem?_append_right (by simp; omega)]
    have : min 148 r.length = 148 := by omega
    simp only [List.length_take, this]
    by_cases h2 : i < 156
    · rw [List.getElem?_append_left (by simp; omega), List.getElem?_replicate, if_pos (by omega), if_pos (by omega)]
    · rw [List.getElem?_append_right (by simp; omega), if_neg (by omega)]
      simp only [List.length_replicate, List.getElem?_drop]
      rw [show 156 + (i - 148 - 8) = i from by omega, List.getElem?_eq_getElem (by omega)]
theorem mask_by {r : List Int} (h : isBy r) : isBy (maskL r) := by
  intro x hx
  unfold maskL at hx
  simp only [List.mem_append, List.mem_replicate] at hx
  rcases hx with hx | ⟨-, rfl⟩ | hx
  · exact h x (List.mem_of_mem_take hx)
  · omega
  · exact h x (List.mem_of_mem_drop hx)
def plainS (r : List Int) : Int := (maskL r).sum
def signedS (r : List Int) : Int := ((maskL r).map s8).sum
theorem sum_in {f : Int → Int} {a b : Int} : ∀ {l : List Int}, (∀ x ∈ l, a ≤ f x ∧ f x ≤ b) → a * l.length ≤ (l.map f).sum ∧ (l.map f).sum ≤ b * l.length
  | [], _ => by simp
  | x :: l, h => by
    have h1 := h x List.mem_cons_self
    have h2 := sum_in (l := l) fun y hy => h y (List.mem_cons_of_mem _ hy)
    simp only [List.map_cons, List.sum_cons, List.length_cons, Int.natCast_add, Int.mul_add, Int.natCast_one, Int.mul_one]
    omega
theorem sum_succ {f : Int → Int} {l : List Int} {i : Nat} {x : Int} (h : l[i]? = some x) : ((l.take (i + 1)).map f).sum = ((l.take i).map f).sum + f x := by
  rw [List.take_add_one, h]
  simp
theorem plain_in {r : List Int} (h : isBy r) (i : Nat) (hi : i ≤ 512) : 0 ≤ (((maskL r).take i).map id).sum ∧ (((maskL r).take i).map id).sum ≤ 131072 := by
  have := sum_in (f := id) (a := 0) (b := 255) (l := (maskL r).take i) fun x hx => by have := mask_by h x (List.mem_of_mem_take hx); simp only [id]; omega
  have h2 : (((maskL r).take i).length : Int) ≤ 512 := by simp only [List.length_take]; omega
  omega
theorem signed_in {r : List Int} (h : isBy r) (i : Nat) (hi : i ≤ 512) : -131072 ≤ (((maskL r).take i).map s8).sum ∧ (((maskL r).take i).map s8).sum ≤ 131072 := by
  have := sum_in (f := s8) (a := -128) (b := 127) (l := (maskL r).take i) fun x hx => by have := s8_in (mask_by h x (List.mem_of_mem_take hx)); omega
  have h2 : (((maskL r).take i).length : Int) ≤ 512 := by simp only [List.length_take]; omega
  omega
theorem plain_all {r : List Int} (h : r.length = 512) : (((maskL r).take 512).map id).sum = plainS r := by
  rw [List.take_of_length_le (by rw [mask_len h]; omega)]; simp [plainS]
theorem signed_all {r : List Int} (h : r.length = 512) : (((maskL r).take 512).map s8).sum = signedS r := by
  rw [List.take_of_length_le (by rw [mask_len h]; omega)]; rfl
theorem plainS_in {r : List Int} (h : isBy r) (hl : r.length = 512) : 0 ≤ plainS r ∧ plainS r ≤ 131072 := by rw [← plain_all hl]; exact plain_in h 512 (by omega)
theorem signedS_in {r : List Int} (h : isBy r) (hl : r.length = 512) : -131072 ≤ signedS r ∧ signedS r ≤ 131072 := by rw [← signed_all hl]; exact signed_in h 512 (by omega)
/-- one more byte is added up -/
theorem sums_add {x p s p' s' : Int} (hx : 0 ≤ x ∧ x < 256) (hp : 0 ≤ p ∧ p ≤ 131072) (hs : -131072 ≤ s ∧ s ≤ 131072) (e1 : p' = p + x) (e2 : s' = s + s8 x) {H : Heap} {env : Env} {Q : Post} {QP : List PanicEntry → Heap → Prop}
    (h4 : env 4 = .int .i64 p) (h5 : env 5 = .int .i64 s) (h7 : env 7 = .int .u8 x) (hq : ∀ env', env' 4 = .int .i64 p' → env' 5 = .int .i64 s' → env' 8 = env 8 → env' 9 = env 9 → Q .normal env' H) : awpC Tryd.prog L27_0 Q QP env H := by
  unfold L27_0
  have h8 := s8_in hx
  have hw := w_s8 hx
  subst e1 e2
  simp -implicitDefEqProofs (maxSteps := 1000000) (disch := first | omega | assumption) only [h4, h5, h7, hw, Sx, reduceIte, Nat.reduceEqDiff, reduceCtorEq, Nat.reduceAdd, Nat.reduceSub, Nat.reduceLT, decide_true, decide_false, Bool.not_true, Bool.not_false, Int.toNat_one, Int.toNat_zero, Nat.zero_mul, l_g, endK]
  refine hq _ ?_ ?_ ?_ ?_ <;> simp -implicitDefEqProofs (maxSteps := 1000000) (disch := first | omega | assumption) only [Sx, reduceIte, Nat.reduceEqDiff, reduceCtorEq, Nat.reduceAdd, Nat.reduceSub, Nat.reduceLT, decide_true, decide_false, Bool.not_true, Bool.not_false, Int.toNat_one, Int.toNat_zero, Nat.zero_mul, l_g, endK]
theorem rsums_add {x p s p' s' : Int} (hx : 0 ≤ x ∧ x < 256) (hp : 0 ≤ p ∧ p ≤ 131072) (hs : -131072 ≤ s ∧ s ≤ 131072) (e1 : p' = p + x) (e2 : s' = s + s8 x) {H : Heap} {env : Env} {Q : Post} {QP : List PanicEntry → Heap → Prop}
    (h4 : env 4 = .int .i64 p) (h5 : env 5 = .int .i64 s) (h7 : env 7 = .int .u8 x) (hq : ∀ env', env' 4 = .int .i64 p' → env' 5 = .int .i64 s' → env' 6 = env 6 → env' 1 = env 1 → Q .normal env' H) : awpC Tryd.prog L28_0 Q QP env H := by
  unfold L28_0
  have h8 := s8_in hx
  have hw := w_s8 hx
  subst e1 e2
  simp -implicitDefEqProofs (maxSteps := 1000000) (disch := first | omega | assumption) only [h4, h5, h7, hw, Sx, reduceIte, Nat.reduceEqDiff, reduceCtorEq, Nat.reduceAdd, Nat.reduceSub, Nat.reduceLT, decide_true, decide_false, Bool.not_true, Bool.not_false, Int.toNat_one, Int.toNat_zero, Nat.zero_mul, l_g, endK]
  refine hq _ ?_ ?_ ?_ ?_ <;> simp -implicitDefEqProofs (maxSteps := 1000000) (disch := first | omega | assumption) only [Sx, reduceIte, Nat.reduceEqDiff, reduceCtorEq, Nat.reduceAdd, Nat.reduceSub, Nat.reduceLT, decide_true, decide_false, Bool.not_true, Bool.not_false, Int.toNat_one, Int.toNat_zero, Nat.zero_mul, l_g, endK]
theorem sums_spec {H : Heap} {l : List Int} (hb : isBy l) (hl : l.length = 512) :
    ACalls Tryd.prog 27 [Value.agg (by8 l).toArray].toArray H fun e H' => e = .returned (.tuple #[.int .i64 (plainS l), .int .i64 (signedS l)]) ∧ Keep H H' := by
  refine call27 (Nat.le_of_ble_eq_true rfl) ?_
  unfold L27 env0
  simp -implicitDefEqProofs (maxSteps := 1000000) (disch := first | omega | assumption) only [Sx, reduceIte, Nat.reduceEqDiff, reduceCtorEq, Nat.reduceAdd, Nat.reduceSub, Nat.reduceLT, decide_true, decide_false, Bool.not_true, Bool.not_false, Int.toNat_one, Int.toNat_zero, Nat.zero_mul, l_g, endK]
  refine a_boxb hl ?_
  intro r H1 hO hk hr
  have e0 := ev_ldn_arr hO
  simp -implicitDefEqProofs (maxSteps := 1000000) (disch := first | omega | assumption) only [e0, Sx, reduceIte, Nat.reduceEqDiff, reduceCtorEq, Nat.reduceAdd, Nat.reduceSub, Nat.reduceLT, decide_true, decide_false, Bool.not_true, Bool.not_false, Int.toNat_one, Int.toNat_zero, Nat.zero_mul, l_g, endK]
  refine c_loop (fun k env H' => ∃ i, i + k = 512 ∧ H' = H1 ∧ env 4 = .int .i64 (((maskL l).take i).map id).sum ∧ env 5 = .int .i64 (((maskL l).take i).map s8).sum ∧ env 8 = .agg (by8 l).toArray ∧ env 9 = .int .i64 (i : Nat)) 512
    ⟨0, rfl, rfl, by simp -implicitDefEqProofs (maxSteps := 1000000) (disch := first | omega | assumption) only [Sx, reduceIte, Nat.reduceEqDiff, reduceCtorEq, Nat.reduceAdd, Nat.reduceSub, Nat.reduceLT]; rfl, by simp -implicitDefEqProofs (maxSteps := 1000000) (disch := first | omega | assumption) only [Sx, reduceIte, Nat.reduceEqDiff, reduceCtorEq, Nat.reduceAdd, Nat.reduceSub, Nat.reduceLT]; rfl, by simp -implicitDefEqProofs (maxSteps := 1000000) (disch := first | omega | assumption) only [Sx, reduceIte, Nat.reduceEqDiff, reduceCtorEq, Nat.reduceAdd, Nat.reduceSub, Nat.reduceLT], by simp -implicitDefEqProofs (maxSteps := 1000000) (disch := first | omega | assumption) only [Sx, reduceIte, Nat.reduceEqDiff, reduceCtorEq, Nat.reduceAdd, Nat.reduceSub, Nat.reduceLT]; rfl⟩ ?_
  rintro k env H2 ⟨i, hk2, rfl, h4, h5, h8, h9⟩
  unfold L27_2
  by_cases hi : i < 512
  · have f0 : decide ((i : Int) < 512) = true := decide_eq_true (by omega)
    have hm := mask_at hl hi
    have hx := mask_by hb _ (List.mem_of_getElem? hm)
    have e1 := ev_ixa_by (H := H2) hl hi
    have g1 := sum_succ (f := id) hm
    have g2 := sum_succ (f := s8) hm
    have p1 := plain_in hb i (by omega)
    have p2 := signed_in hb i (by omega)
    have f1 : decide ((148 : Int) ≤ (i : Int)) = decide (148 ≤ i) := by by_cases h : 148 ≤ i <;> simp [h] <;> omega
    have f2 : decide ((i : Int) < 156) = decide (i < 156) := by by_cases h : i < 156 <;> simp [h] <;> omega
    by_cases c1 : 148 ≤ i
    · by_cases c2 : i < 156
      · rw [if_pos ⟨c1, c2⟩] at hx g1 g2
        have d1 : decide (148 ≤ i) = true := decide_eq_true c1
        have d2 : decide (i < 156) = true := decide_eq_true c2
        simp -implicitDefEqProofs (maxSteps := 1000000) (disch := first | omega | assumption) only [h4, h5, h8, h9, f0, f1, f2, d1, d2, e1, Sx, reduceIte, Nat.reduceEqDiff, reduceCtorEq, Nat.reduceAdd, Nat.reduceSub, Nat.reduceLT, decide_true, decide_false, Bool.not_true, Bool.not_false, Int.toNat_one, Int.toNat_zero, Nat.zero_mul, l_g, endK]
        refine sums_add hx p1 p2 g1 g2 (by simp -implicitDefEqProofs (maxSteps := 1000000) (disch := first | omega | assumption) only [h4, Sx, reduceIte, Nat.reduceEqDiff, reduceCtorEq, Nat.reduceAdd, Nat.reduceSub, Nat.reduceLT]) (by simp -implicitDefEqProofs (maxSteps := 1000000) (disch := first | omega | assumption) only [h5, Sx, reduceIte, Nat.reduceEqDiff, reduceCtorEq, Nat.reduceAdd, Nat.reduceSub, Nat.reduceLT]) (by simp -implicitDefEqProofs (maxSteps := 1000000) (disch := first | omega | assumption) only [Sx, reduceIte, Nat.reduceEqDiff, reduceCtorEq, Nat.reduceAdd, Nat.reduceSub, Nat.reduceLT]) ?_
        intro env' e4 e5 e8 e9
        simp -implicitDefEqProofs (maxSteps := 1000000) (disch := first | omega | assumption) only [h8, h9, Sx, reduceIte, Nat.reduceEqDiff, reduceCtorEq, Nat.reduceAdd, Nat.reduceSub, Nat.reduceLT] at e8 e9
        unfold L27_1
        simp -implicitDefEqProofs (maxSteps := 1000000) (disch := first | omega | assumption) only [e4, e5, e8, e9, Sx, reduceIte, Nat.reduceEqDiff, reduceCtorEq, Nat.reduceAdd, Nat.reduceSub, Nat.reduceLT, decide_true, decide_false, Bool.not_true, Bool.not_false, Int.toNat_one, Int.toNat_zero, Nat.zero_mul, l_g, endK]
        refine ⟨k - 1, by omega, i + 1, by omega, ?_, ?_, ?_, ?_, ?_⟩ <;> first | exact True.intro | rfl
      · rw [if_neg (fun h => c2 h.2)] at hx g1 g2
        have d1 : decide (148 ≤ i) = true := decide_eq_true c1
        have d2 : decide (i < 156) = false := decide_eq_false c2
        simp -implicitDefEqProofs (maxSteps := 1000000) (disch := first | omega | assumption) only [h4, h5, h8, h9, f0, f1, f2, d1, d2, e1, Sx, reduceIte, Nat.reduceEqDiff, reduceCtorEq, Nat.reduceAdd, Nat.reduceSub, Nat.reduceLT, decide_true, decide_false, Bool.not_true, Bool.not_false, Int.toNat_one, Int.toNat_zero, Nat.zero_mul, l_g, endK]
        refine sums_add hx p1 p2 g1 g2 (by simp -implicitDefEqProofs (maxSteps := 1000000) (disch := first | omega | assumption) only [h4, Sx, reduceIte, Nat.reduceEqDiff, reduceCtorEq, Nat.reduceAdd, Nat.reduceSub, Nat.reduceLT]) (by simp -implicitDefEqProofs (maxSteps := 1000000) (disch := first | omega | assumption) only [h5, Sx, reduceIte, Nat.reduceEqDiff, reduceCtorEq, Nat.reduceAdd, Nat.reduceSub, Nat.reduceLT]) (by simp -implicitDefEqProofs (maxSteps := 1000000) (disch := first | omega | assumption) only [Sx, reduceIte, Nat.reduceEqDiff, reduceCtorEq, Nat.reduceAdd, Nat.reduceSub, Nat.reduceLT]) ?_
        intro env' e4 e5 e8 e9
        simp -implicitDefEqProofs (maxSteps := 1000000) (disch := first | omega | assumption) only [h8, h9, Sx, reduceIte, Nat.reduceEqDiff, reduceCtorEq, Nat.reduceAdd, Nat.reduceSub, Nat.reduceLT] at e8 e9
        unfold L27_1
        simp -implicitDefEqProofs (maxSteps := 1000000) (disch := first | omega | assumption) only [e4, e5, e8, e9, Sx, reduceIte, Nat.reduceEqDiff, reduceCtorEq, Nat.reduceAdd, Nat.reduceSub, Nat.reduceLT, decide_true, decide_false, Bool.not_true, Bool.not_false, Int.toNat_one, Int.toNat_zero, Nat.zero_mul, l_g, endK]
        refine ⟨k - 1, by omega, i + 1, by omega, ?_, ?_, ?_, ?_, ?_⟩ <;> first | exact True.intro | rfl
    · rw [if_neg (fun h => c1 h.1)] at hx g1 g2
      have d1 : decide (148 ≤ i) = false := decide_eq_false c1
      simp -implicitDefEqProofs (maxSteps := 1000000) (disch := first | omega | assumption) only [h4, h5, h8, h9, f0, f1, d1, e1, Sx, reduceIte, Nat.reduceEqDiff, reduceCtorEq, Nat.reduceAdd, Nat.reduceSub, Nat.reduceLT, decide_true, decide_false, Bool.not_true, Bool.not_false, Int.toNat_one, Int.toNat_zero, Nat.zero_mul, l_g, endK]
      refine sums_add hx p1 p2 g1 g2 (by simp -implicitDefEqProofs (maxSteps := 1000000) (disch := first | omega | assumption) only [h4, Sx, reduceIte, Nat.reduceEqDiff, reduceCtorEq, Nat.reduceAdd, Nat.reduceSub, Nat.reduceLT]) (by simp -implicitDefEqProofs (maxSteps := 1000000) (disch := first | omega | assumption) only [h5, Sx, reduceIte, Nat.reduceEqDiff, reduceCtorEq, Nat.reduceAdd, Nat.reduceSub, Nat.reduceLT]) (by simp -implicitDefEqProofs (maxSteps := 1000000) (disch := first | omega | assumption) only [Sx, reduceIte, Nat.reduceEqDiff, reduceCtorEq, Nat.reduceAdd, Nat.reduceSub, Nat.reduceLT]) ?_
      intro env' e4 e5 e8 e9
      simp -implicitDefEqProofs (maxSteps := 1000000) (disch := first | omega | assumption) only [h8, h9, Sx, reduceIte, Nat.reduceEqDiff, reduceCtorEq, Nat.reduceAdd, Nat.reduceSub, Nat.reduceLT] at e8 e9
      unfold L27_1
      simp -implicitDefEqProofs (maxSteps := 1000000) (disch := first | omega | assumption) only [e4, e5, e8, e9, Sx, reduceIte, Nat.reduceEqDiff, reduceCtorEq, Nat.reduceAdd, Nat.reduceSub, Nat.reduceLT, decide_true, decide_false, Bool.not_true, Bool.not_false, Int.toNat_one, Int.toNat_zero, Nat.zero_mul, l_g, endK]
      refine ⟨k - 1, by omega, i + 1, by omega, ?_, ?_, ?_, ?_, ?_⟩ <;> first | exact True.intro | rfl
  · have f0 : decide ((i : Int) < 512) = false := decide_eq_false (by omega)
    obtain rfl : i = 512 := by omega
    rw [plain_all hl] at h4
    rw [signed_all hl] at h5
    simp -implicitDefEqProofs (maxSteps := 1000000) (disch := first | omega | assumption) only [h4, h5, h8, h9, f0, Sx, reduceIte, Nat.reduceEqDiff, reduceCtorEq, Nat.reduceAdd, Nat.reduceSub, Nat.reduceLT, decide_true, decide_false, Bool.not_true, Bool.not_false, Int.toNat_one, Int.toNat_zero, Nat.zero_mul, l_g, endK]
    exact ⟨by trivial, hk⟩
theorem rsums_spec {H : Heap} {l : List Int} (hb : isBy l) (hl : l.length = 512) :
    ACalls Tryd.prog 28 [Value.agg (by8 l).toArray].toArray H fun e H' => e = .returned (.tuple #[.int .i64 (plainS l), .int .i64 (signedS l)]) ∧ Keep H H' := by
  refine call28 (Nat.le_of_ble_eq_true rfl) ?_
  unfold L28 env0
  simp -implicitDefEqProofs (maxSteps := 1000000) (disch := first | omega | assumption) only [Sx, reduceIte, Nat.reduceEqDiff, reduceCtorEq, Nat.reduceAdd, Nat.reduceSub, Nat.reduceLT, decide_true, decide_false, Bool.not_true, Bool.not_false, Int.toNat_one, Int.toNat_zero, Nat.zero_mul, l_g, endK]
  refine a_boxb hl ?_
  intro r H1 hO hk hr
  simp -implicitDefEqProofs (maxSteps := 1000000) (disch := first | omega | assumption) only [Sx, reduceIte, Nat.reduceEqDiff, reduceCtorEq, Nat.reduceAdd, Nat.reduceSub, Nat.reduceLT, decide_true, decide_false, Bool.not_true, Bool.not_false, Int.toNat_one, Int.toNat_zero, Nat.zero_mul, l_g, endK]
  refine c_loop (fun k env H' => ∃ i, i + k = 512 ∧ H' = H1 ∧ env 4 = .int .i64 (((maskL l).take i).map id).sum ∧ env 5 = .int .i64 (((maskL l).take i).map s8).sum ∧ env 1 = .pointer (some ⟨r, 0, none⟩) ∧ env 6 = .int .i64 (i : Nat)) 512
    ⟨0, rfl, rfl, by simp -implicitDefEqProofs (maxSteps := 1000000) (disch := first | omega | assumption) only [Sx, reduceIte, Nat.reduceEqDiff, reduceCtorEq, Nat.reduceAdd, Nat.reduceSub, Nat.reduceLT]; rfl, by simp -implicitDefEqProofs (maxSteps := 1000000) (disch := first | omega | assumption) only [Sx, reduceIte, Nat.reduceEqDiff, reduceCtorEq, Nat.reduceAdd, Nat.reduceSub, Nat.reduceLT]; rfl, by simp -implicitDefEqProofs (maxSteps := 1000000) (disch := first | omega | assumption) only [Sx, reduceIte, Nat.reduceEqDiff, reduceCtorEq, Nat.reduceAdd, Nat.reduceSub, Nat.reduceLT], by simp -implicitDefEqProofs (maxSteps := 1000000) (disch := first | omega | assumption) only [Sx, reduceIte, Nat.reduceEqDiff, reduceCtorEq, Nat.reduceAdd, Nat.reduceSub, Nat.reduceLT]; rfl⟩ ?_
  rintro k env H2 ⟨i, hk2, rfl, h4, h5, h1, h6⟩
  unfold L28_2
  by_cases hi : i < 512
  · have f0 : decide ((i : Int) < 512) = true := decide_eq_true (by omega)
    have hin : (0 : Int) ≤ (i : Int) ∧ (i : Int) < ((512 : Nat) : Int) := by omega
    have hm := mask_at hl hi
    have hx := mask_by hb _ (List.mem_of_getElem? hm)
    have e1 := cell_arr hO (i := i) (by omega)
    have g1 := sum_succ (f := id) hm
    have g2 := sum_succ (f := s8) hm
    have p1 := plain_in hb i (by omega)
    have p2 := signed_in hb i (by omega)
    have f1 : decide ((148 : Int) ≤ (i : Int)) = decide (148 ≤ i) := by by_cases h : 148 ≤ i <;> simp [h] <;> omega
    have f2 : decide ((i : Int) < 156) = decide (i < 156) := by by_cases h : i < 156 <;> simp [h] <;> omega
    by_cases c1 : 148 ≤ i
    · by_cases c2 : i < 156
      · rw [if_pos ⟨c1, c2⟩] at hx g1 g2
        have d1 : decide (148 ≤ i) = true := decide_eq_true c1
        have d2 : decide (i < 156) = true := decide_eq_true c2
        simp -implicitDefEqProofs (maxSteps := 1000000) (disch := first | omega | assumption) only [h4, h5, h1, h6, f0, f1, f2, d1, d2, e1, Sx, reduceIte, Nat.reduceEqDiff, reduceCtorEq, Nat.reduceAdd, Nat.reduceSub, Nat.reduceLT, decide_true, decide_false, Bool.not_true, Bool.not_false, Int.toNat_one, Int.toNat_zero, Nat.zero_mul, l_g, endK]
        refine rsums_add hx p1 p2 g1 g2 (by simp -implicitDefEqProofs (maxSteps := 1000000) (disch := first | omega | assumption) only [h4, Sx, reduceIte, Nat.reduceEqDiff, reduceCtorEq, Nat.reduceAdd, Nat.reduceSub, Nat.reduceLT]) (by simp -implicitDefEqProofs (maxSteps := 1000000) (disch := first | omega | assumption) only [h5, Sx, reduceIte, Nat.reduceEqDiff, reduceCtorEq, Nat.reduceAdd, Nat.reduceSub, Nat.reduceLT]) (by simp -implicitDefEqProofs (maxSteps := 1000000) (disch := first | omega | assumption) only [Sx, reduceIte, Nat.reduceEqDiff, reduceCtorEq, Nat.reduceAdd, Nat.reduceSub, Nat.reduceLT]) ?_
        intro env' e4 e5 e6 e1'
        simp -implicitDefEqProofs (maxSteps := 1000000) (disch := first | omega | assumption) only [h1, h6, Sx, reduceIte, Nat.reduceEqDiff, reduceCtorEq, Nat.reduceAdd, Nat.reduceSub, Nat.reduceLT] at e6 e1'
        unfold L28_1
        simp -implicitDefEqProofs (maxSteps := 1000000) (disch := first | omega | assumption) only [e4, e5, e6, e1', Sx, reduceIte, Nat.reduceEqDiff, reduceCtorEq, Nat.reduceAdd, Nat.reduceSub, Nat.reduceLT, decide_true, decide_false, Bool.not_true, Bool.not_false, Int.toNat_one, Int.toNat_zero, Nat.zero_mul, l_g, endK]
        refine ⟨k - 1, by omega, i + 1, by omega, ?_, ?_, ?_, ?_, ?_⟩ <;> first | exact True.intro | rfl
      · rw [if_neg (fun h => c2 h.2)] at hx g1 g2
        have d1 : decide (148 ≤ i) = true := decide_eq_true c1
        have d2 : decide (i < 156) = false := decide_eq_false c2
        simp -implicitDefEqProofs (maxSteps := 1000000) (disch := first | omega | assumption) only [h4, h5, h1, h6, f0, f1, f2, d1, d2, e1, Sx, reduceIte, Nat.reduceEqDiff, reduceCtorEq, Nat.reduceAdd, Nat.reduceSub, Nat.reduceLT, decide_true, decide_false, Bool.not_true, Bool.not_false, Int.toNat_one, Int.toNat_zero, Nat.zero_mul, l_g, endK]
        refine rsums_add hx p1 p2 g1 g2 (by simp -implicitDefEqProofs (maxSteps := 1000000) (disch := first | omega | assumption) only [h4, Sx, reduceIte, Nat.reduceEqDiff, reduceCtorEq, Nat.reduceAdd, Nat.reduceSub, Nat.reduceLT]) (by simp -implicitDefEqProofs (maxSteps := 1000000) (disch := first | omega | assumption) only [h5, Sx, reduceIte, Nat.reduceEqDiff, reduceCtorEq, Nat.reduceAdd, Nat.reduceSub, Nat.reduceLT]) (by simp -implicitDefEqProofs (maxSteps := 1000000) (disch := first | omega | assumption) only [Sx, reduceIte, Nat.reduceEqDiff, reduceCtorEq, Nat.reduceAdd, Nat.reduceSub, Nat.reduceLT]) ?_
        intro env' e4 e5 e6 e1'
        simp -implicitDefEqProofs (maxSteps := 1000000) (disch := first | omega | assumption) only [h1, h6, Sx, reduceIte, Nat.reduceEqDiff, reduceCtorEq, Nat.reduceAdd, Nat.reduceSub, Nat.reduceLT] at e6 e1'
        unfold L28_1
        simp -implicitDefEqProofs (maxSteps := 1000000) (disch := first | omega | assumption) only [e4, e5, e6, e1', Sx, reduceIte, Nat.reduceEqDiff, reduceCtorEq, Nat.reduceAdd, Nat.reduceSub, Nat.reduceLT, decide_true, decide_false, Bool.not_true, Bool.not_false, Int.toNat_one, Int.toNat_zero, Nat.zero_mul, l_g, endK]
        refine ⟨k - 1, by omega, i + 1, by omega, ?_, ?_, ?_, ?_, ?_⟩ <;> first | exact True.intro | rfl
    · rw [if_neg (fun h => c1 h.1)] at hx g1 g2
      have d1 : decide (148 ≤ i) = false := decide_eq_false c1
      simp -implicitDefEqProofs (maxSteps := 1000000) (disch := first | omega | assumption) only [h4, h5, h1, h6, f0, f1, d1, e1, Sx, reduceIte, Nat.reduceEqDiff, reduceCtorEq, Nat.reduceAdd, Nat.reduceSub, Nat.reduceLT, decide_true, decide_false, Bool.not_true, Bool.not_false, Int.toNat_one, Int.toNat_zero, Nat.zero_mul, l_g, endK]
      refine rsums_add hx p1 p2 g1 g2 (by simp -implicitDefEqProofs (maxSteps := 1000000) (disch := first | omega | assumption) only [h4, Sx, reduceIte, Nat.reduceEqDiff, reduceCtorEq, Nat.reduceAdd, Nat.reduceSub, Nat.reduceLT]) (by simp -implicitDefEqProofs (maxSteps := 1000000) (disch := first | omega | assumption) only [h5, Sx, reduceIte, Nat.reduceEqDiff, reduceCtorEq, Nat.reduceAdd, Nat.reduceSub, Nat.reduceLT]) (by simp -implicitDefEqProofs (maxSteps := 1000000) (disch := first | omega | assumption) only [Sx, reduceIte, Nat.reduceEqDiff, reduceCtorEq, Nat.reduceAdd, Nat.reduceSub, Nat.reduceLT]) ?_
      intro env' e4 e5 e6 e1'
      simp -implicitDefEqProofs (maxSteps := 1000000) (disch := first | omega | assumption) only [h1, h6, Sx, reduceIte, Nat.reduceEqDiff, reduceCtorEq, Nat.reduceAdd, Nat.reduceSub, Nat.reduceLT] at e6 e1'
      unfold L28_1
      simp -implicitDefEqProofs (maxSteps := 1000000) (disch := first | omega | assumption) only [e4, e5, e6, e1', Sx, reduceIte, Nat.reduceEqDiff, reduceCtorEq, Nat.reduceAdd, Nat.reduceSub, Nat.reduceLT, decide_true, decide_false, Bool.not_true, Bool.not_false, Int.toNat_one, Int.toNat_zero, Nat.zero_mul, l_g, endK]
      refine ⟨k - 1, by omega, i + 1, by omega, ?_, ?_, ?_, ?_, ?_⟩ <;> first | exact True.intro | rfl
  · have f0 : decide ((i : Int) < 512) = false := decide_eq_false (by omega)
    obtain rfl : i = 512 := by omega
    rw [plain_all hl] at h4
    rw [signed_all hl] at h5
    simp -implicitDefEqProofs (maxSteps := 1000000) (disch := first | omega | assumption) only [h4, h5, h1, h6, f0, Sx, reduceIte, Nat.reduceEqDiff, reduceCtorEq, Nat.reduceAdd, Nat.reduceSub, Nat.reduceLT, decide_true, decide_false, Bool.not_true, Bool.not_false, Int.toNat_one, Int.toNat_zero, Nat.zero_mul, l_g, endK]
    exact ⟨by trivial, hk⟩
end Go.Proofs.YtigignkgblaoaaaDoor.S12
