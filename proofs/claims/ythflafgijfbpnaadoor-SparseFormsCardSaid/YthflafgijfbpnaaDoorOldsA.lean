/-
  SparseForms, the plain law of records: what is put is read.
-/
import Derived.Test.YthflafgijfbpnaaDoorLowO
import Derived.Test.YthflafgijfbpnaaDoorFld12
import Derived.Test.YthflafgijfbpnaaDoorRg
import Derived.Test.YthflafgijfbpnaaDoorChainLaw
/-
  Records: bytes put over bytes; the elder form of maps, one number and one row of numbers.
-/
set_option linter.unusedVariables false
set_option linter.unusedSimpArgs false
namespace Go.Proofs.YthflafgijfbpnaaDoor.S15
open Go Go.RowKit Go.Proofs.YthflafgijfbpnaaDoor.Sep Go.Proofs.YthflafgijfbpnaaDoor.Low Go.Proofs.YthflafgijfbpnaaDoor.Lib Go.Proofs.YthflafgijfbpnaaDoor.S12

abbrev T512 : TypeId := 36
/-- a record in a block of its own -/
abbrev Re (H : Heap) (r : Nat) (l : List Int) : Prop := Own H T512 1 (.slice (some ⟨r, 0, none⟩) 512 512) (by8 l)
theorem re_of {H : Heap} {r : Nat} {l : List Int} (hn : l.length = 512) (h : H r = some (.cells (by8 l).toArray T512 (0, 0))) : Re H r l :=
  Own.at (rest := []) (f := (0, 0)) (by rw [List.append_nil]; exact h) (.inl rfl) (by simpa using hn) (by simp) (Nat.le_refl _)
theorem re_row {H : Heap} {r : Nat} {l : List Int} (h : Re H r l) : Row H (some ⟨r, 0, none⟩) (by8 l) := by
  obtain ⟨a, m, c, e, -, -, hr⟩ := Own.view h
  cases e
  exact hr
theorem re_len {H : Heap} {r : Nat} {l : List Int} (h : Re H r l) : l.length = 512 := by
  obtain ⟨a, m, c, e, h2, -, hr⟩ := Own.view h
  cases e
  simpa using h2
theorem a_boxr {P : Program} {H : Heap} {l : List Int} {KV : Value → Heap → Prop} {KP : List PanicEntry → Heap → Prop} (hn : l.length = 512)
    (hk : ∀ r H', Re H' r l → Keep H H' → H r = none → KV (.pointer (some ⟨r, 0, none⟩)) H') : awpE P (.box T512) [.agg (by8 l).toArray] KV KP H :=
  a_box fun r hr => hk r _ (re_of hn set_same) ((Keep.refl H).set_new hr) hr
abbrev Z512 : List Int := List.replicate 512 0
theorem z512_len : Z512.length = 512 := List.length_replicate
theorem repZ (n : Nat) : Array.replicate n (Value.int .u8 0) = (by8 (List.replicate n 0)).toArray := by simp [by8]
theorem a_newr {P : Program} {H : Heap} {KV : Value → Heap → Prop} {KP : List PanicEntry → Heap → Prop}
    (hk : ∀ r H', Re H' r Z512 → Keep H H' → H r = none → KV (.pointer (some ⟨r, 0, none⟩)) H') : awpE P (.new (Array.replicate 512 (.int .u8 0)) T512) [] KV KP H := by
  refine a_new fun r hr => ?_
  rw [repZ]
  exact hk r _ (re_of z512_len set_same) ((Keep.refl H).set_new hr) hr
theorem ev_ldnr {H : Heap} {r : Nat} {l : List Int} (h : Re H r l) : (QI.ldn 512).ev [.pointer (some ⟨r, 0, none⟩)] H = some (.agg (by8 l).toArray) := by
  have h1 := (re_row h).loadN
  rw [by8, List.length_map, re_len h] at h1
  rw [ev_ldn, h1]
  rfl
theorem g_re {H : Heap} {env : Env} {r : Nat} {l : List Int} {i : Tmp} {rs : List RV} (h : Re H r l) (h1 : env i = .pointer (some ⟨r, 0, none⟩)) : getAll env H (.c i (some 512) :: rs) = (getAll env H rs).map (.agg (by8 l).toArray :: ·) := by
  have h2 := (re_row h).loadN
  rw [by8, List.length_map, re_len h] at h2
  exact g_cn h1 h2
theorem cell_re {H : Heap} {r : Nat} {l : List Int} (h : Re H r l) {i : Nat} (hi : i < l.length) : H.cell? ⟨r, i, none⟩ = some (.int .u8 l[i]) := by
  obtain ⟨b, e, h2⟩ := by_at (re_row h) hi
  cases e
  rwa [add_mk, Nat.zero_add] at h2
theorem a_putr {P : Program} {H : Heap} {l : List Int} {r j : Nat} {x : Int} {KV : Value → Heap → Prop} {KP : List PanicEntry → Heap → Prop} (hO : Re H r l) (hj : j < l.length)
    (hk : ∀ H', Re H' r (l.set j x) → Oth H (.slice (some ⟨r, 0, none⟩) 512 512) H' → KV undef H') : awpE P (.st 1) [.pointer (some ⟨r, j, none⟩), .int .u8 x] KV KP H := by
  refine a_storeC hO (j := j) (by simpa using hj) rfl ?_
  intro H' h1 h2
  refine hk H' ?_ h2
  have e : (by8 l).set j (.int .u8 x) = by8 (l.set j x) := by simp [by8, List.map_set]
  show Own H' T512 1 _ (by8 _)
  rw [← e]
  exact h1
theorem a_str {P : Program} {H : Heap} {l m : List Int} {r : Nat} {KV : Value → Heap → Prop} {KP : List PanicEntry → Heap → Prop} (hO : Re H r l) (hm : m.length = 512)
    (hk : ∀ H', Re H' r m → Oth H (.slice (some ⟨r, 0, none⟩) 512 512) H' → KV undef H') : awpE P (.st 512) [.pointer (some ⟨r, 0, none⟩), .agg (by8 m).toArray] KV KP H := by
  have hl := re_len hO
  refine a_storeCs hO (j := 0) (by simp; omega) (by simpa using hm) (by8_scalar m) ?_
  intro H' h1 h2
  refine hk H' ?_ h2
  have e : (by8 l).take 0 ++ by8 m ++ (by8 l).drop (0 + (by8 m).length) = by8 m := by
    rw [List.drop_of_length_le (by simp; omega)]; simp
  rw [e] at h1
  exact h1

/-- bytes over bytes -/
def ow (l : List Int) (at_ : Nat) (b : List Int) : List Int := l.take at_ ++ b ++ l.drop (at_ + b.length)
theorem ow_len {l b : List Int} {a : Nat} (h : a + b.length ≤ l.length) : (ow l a b).length = l.length := by simp [ow]; omega
theorem ow_nil {l : List Int} {a : Nat} : ow l a [] = l := by simp [ow]
/-- one byte more -/
theorem ow_step {l b : List Int} {a : Nat} {x : Int} (h : a + b.length < l.length) : (ow l a b).set (a + b.length) x = ow l a (b ++ [x]) := by
  unfold ow
  have e : (l.take a ++ b).length = a + b.length := by simp; omega
  rw [List.set_append_right _ _ (by omega), e, Nat.sub_self, List.drop_eq_getElem_cons h, List.set_cons_zero, List.length_append, List.length_cons, List.length_nil, Nat.zero_add, ← Nat.add_assoc]
  simp
theorem ow_take {l b : List Int} {a i : Nat} (h : a + b.length ≤ l.length) (hi : i < b.length) : (ow l a (b.take i)).set (a + i) b[i] = ow l a (b.take (i + 1)) := by
  have e : (b.take i).length = i := by simp; omega
  have := ow_step (l := l) (b := b.take i) (a := a) (x := b[i]) (by omega)
  rw [e] at this
  rw [this, List.take_add_one, List.getElem?_eq_getElem hi]
  rfl

/-! ### A number of twelve bytes -/
def num (n : Int) : List Int := (putN n 12).1
theorem orB_len : ∀ l, (orB l).length = l.length
  | [] => rfl
  | x :: r => rfl
theorem p8_11 : p8 11 = 8589934592 := by decide
theorem p256_11 : p256 11 = 309485009821345068724781056 := by decide
theorem num_ok {n : Int} (h : 0 ≤ n ∧ n ≤ 9223372036854775807) : putN n 12 = (num n, 0) ∧ (num n).length = 12 := by
  have e1 : (12 : Int).toNat - 1 = 11 := rfl
  have e2 : (12 : Int).toNat = 12 := rfl
  unfold num putN putO putB
  rw [if_neg (by omega : ¬ ((12 : Int) < 2 ∨ 512 < (12 : Int))), e1, e2, p8_11]
  by_cases h1 : n < 0 ∨ 8589934592 ≤ n
  · rw [if_pos h1, if_neg (by decide)]
    have h2 : n / p256 11 = 0 := by rw [p256_11]; omega
    have h3 : inR n 11 := by unfold inR; rw [h2]; omega
    rw [if_pos h3]
    exact ⟨rfl, by show (orB (hd 12 n)).length = 12; rw [orB_len, hd_len]⟩
  · rw [if_neg h1, if_pos rfl]
    exact ⟨rfl, by show (od 11 n ++ [0]).length = 12; rw [List.length_append, od_len]; rfl⟩

set_option maxHeartbeats 4000000 in
theorem rputn_spec {H : Heap} {l : List Int} {a : Nat} {n : Int} (hl : l.length = 512) (ha : a + 12 ≤ 512) (hn : 0 ≤ n ∧ n ≤ 9223372036854775807) :
    ACalls Tryd.prog 34 [Value.agg (by8 l).toArray, .int .i64 (a : Nat), .int .i64 n].toArray H fun e H' => e = .returned (.tuple #[.agg (by8 (ow l a (num n))).toArray, .bool true]) ∧ Keep H H' := by
  obtain ⟨n1, n2⟩ := num_ok hn
  refine call34 (Nat.le_of_ble_eq_true rfl) ?_
  unfold L34 env0
  simp -implicitDefEqProofs (maxSteps := 1000000) (disch := first | omega | assumption) only [Sx, reduceIte, Nat.reduceEqDiff, reduceCtorEq, Nat.reduceAdd, Nat.reduceSub, Nat.reduceLT, decide_true, decide_false, Bool.not_true, Bool.not_false, Int.toNat_one, Int.toNat_zero, Nat.zero_mul, l_g, endK, gd_u]
  refine a_boxr hl ?_
  intro r H1 hO1 hk1 hr
  simp -implicitDefEqProofs (maxSteps := 1000000) (disch := first | omega | assumption) only [Sx, reduceIte, Nat.reduceEqDiff, reduceCtorEq, Nat.reduceAdd, Nat.reduceSub, Nat.reduceLT, decide_true, decide_false, Bool.not_true, Bool.not_false, Int.toNat_one, Int.toNat_zero, Nat.zero_mul, l_g, endK, gd_u]
  refine a_newr ?_
  intro r2 H2 hO2 hk2 hr2
  have hk2' := hk1.trans hk2
  have hO1' := Own.keep hO1 hk2
  have hne : r2 ≠ r := by
    rintro rfl
    exact hO1.known (r := r2) rfl hr2
  simp -implicitDefEqProofs (maxSteps := 1000000) (disch := first | omega | assumption) only [Sx, reduceIte, Nat.reduceEqDiff, reduceCtorEq, Nat.reduceAdd, Nat.reduceSub, Nat.reduceLT, decide_true, decide_false, Bool.not_true, Bool.not_false, Int.toNat_one, Int.toNat_zero, Nat.zero_mul, l_g, endK, gd_u]
  refine a_call (rputNumber_spec (by omega) (by omega)) ?_
  rintro e H3 ⟨v, rfl, hv, hk3, hf3⟩
  rw [n1] at hv ⊢
  have hsv := hv.scalar
  obtain ⟨A, c, rfl, hcc, hrw⟩ := own_by hv
  have hcc2 : (num n).length ≤ c := hcc
  rw [n2] at hcc2
  rw [n2] at ⊢
  have hbv : Bs H3 (.slice A 12 c) (num n) := by rw [n2] at hv; exact hv
  have hnr : own (.slice A 12 c) ≠ some r := fun e => hO1'.known (r := r) rfl (hf3 r (by rw [n2]; exact e))
  have keep : ∀ {Ha Hb : Heap}, Keep H Ha → Oth Ha (.slice (some ⟨r, 0, none⟩) 512 512) Hb → Keep H Hb := fun hK ho => ho.keep hK fun q hq => by cases hq; exact hr
  have keep2 : ∀ {Ha Hb : Heap}, Keep H Ha → Oth Ha (.slice (some ⟨r2, 0, none⟩) 512 512) Hb → Keep H Hb := fun hK ho => ho.keep hK fun q hq => by cases hq; exact hk1.none hr2
  have two : ∀ {Ha Hb : Heap}, Re Ha r2 Z512 → Oth Ha (.slice (some ⟨r, 0, none⟩) 512 512) Hb → Re Hb r2 Z512 := fun hA ho => hA.only ho fun q hq e => by
    cases hq; cases e; exact hne rfl
  have n00 : ((0 : Int) != 0) = false := rfl
  simp -implicitDefEqProofs (maxSteps := 1000000) (disch := first | omega | assumption) only [n00, Sx, reduceIte, Nat.reduceEqDiff, reduceCtorEq, Nat.reduceAdd, Nat.reduceSub, Nat.reduceLT, decide_true, decide_false, Bool.not_true, Bool.not_false, Int.toNat_one, Int.toNat_zero, Nat.zero_mul, l_g, endK, gd_u]
  refine c_loop (fun k env H' => ∃ i, k + i = 12 ∧ env 1 = .int .i64 (a : Nat) ∧ env 3 = .pointer (some ⟨r, 0, none⟩) ∧ env 6 = .pointer (some ⟨r2, 0, none⟩) ∧ env 8 = .slice A 12 c ∧ env 10 = .int .i64 (i : Nat) ∧ Re H' r (ow l a ((num n).take i)) ∧ Re H' r2 Z512 ∧ Bs H' (.slice A 12 c) (num n) ∧ Keep H H') 12
    ⟨0, rfl, by (first | exact True.intro | rfl | assumption), by (first | exact True.intro | rfl | assumption), by (first | exact True.intro | rfl | assumption), by (first | exact True.intro | rfl | assumption), by (first | exact True.intro | rfl | assumption), by rw [List.take_zero, ow_nil]; exact Own.keep hO1' hk3, Own.keep hO2 hk3, hbv, hk2'.trans hk3⟩ ?_
  rintro k env H4 ⟨i, hk, g1, g3, g6, g8, g10, hA, hB, hR, hK⟩
  unfold L34_0
  by_cases hi : i < 12
  · have f0 : decide ((i : Int) < 12) = true := decide_eq_true (by omega)
    obtain ⟨A', c', ee, -, hrr⟩ := own_by hR
    obtain ⟨rfl, -, rfl⟩ : A = A' ∧ 12 = (num n).length ∧ c = c' := by simpa using ee
    obtain ⟨ba, rfl, hcell⟩ := by_at hrr (i := i) (by omega)
    have hin : (0 : Int) ≤ (a : Int) + (i : Int) ∧ (a : Int) + (i : Int) < ((512 : Nat) : Int) := by omega
    have htn : ((a : Int) + (i : Int)).toNat = a + i := by omega
    simp -implicitDefEqProofs (maxSteps := 1000000) (disch := first | omega | assumption) only [g1, g3, g6, g8, g10, f0, hcell, hin, htn, Sx, reduceIte, Nat.reduceEqDiff, reduceCtorEq, Nat.reduceAdd, Nat.reduceSub, Nat.reduceLT, decide_true, decide_false, Bool.not_true, Bool.not_false, Int.toNat_one, Int.toNat_zero, Nat.zero_mul, l_g, endK, gd_u]
    refine a_putr hA (j := a + i) (by rw [ow_len (by simp; omega)]; omega) ?_
    intro H5 hA5 ho5
    rw [ow_take (by omega) (by omega)] at hA5
    simp -implicitDefEqProofs (maxSteps := 1000000) (disch := first | omega | assumption) only [g1, g3, g6, g8, g10, Sx, reduceIte, Nat.reduceEqDiff, reduceCtorEq, Nat.reduceAdd, Nat.reduceSub, Nat.reduceLT, decide_true, decide_false, Bool.not_true, Bool.not_false, Int.toNat_one, Int.toNat_zero, Nat.zero_mul, l_g, endK, gd_u]
    exact ⟨k - 1, by omega, i + 1, by omega, by (first | exact True.intro | rfl | assumption), by (first | exact True.intro | rfl | assumption), by (first | exact True.intro | rfl | assumption), by (first | exact True.intro | rfl | assumption), by (first | exact True.intro | rfl | assumption), hA5, two hB ho5, hR.only ho5 (fun q hq e => hnr (hq.trans e.symm)), keep hK ho5⟩
  have f0 : decide ((i : Int) < 12) = false := decide_eq_false (by omega)
  obtain rfl : i = 12 := by omega
  rw [List.take_of_length_le (by omega)] at hA
  have e1 := ev_ldnr hA
  simp -implicitDefEqProofs (maxSteps := 1000000) (disch := first | omega | assumption) only [g1, g3, g6, g8, g10, f0, e1, Sx, reduceIte, Nat.reduceEqDiff, reduceCtorEq, Nat.reduceAdd, Nat.reduceSub, Nat.reduceLT, decide_true, decide_false, Bool.not_true, Bool.not_false, Int.toNat_one, Int.toNat_zero, Nat.zero_mul, l_g, endK, gd_u]
  refine a_str hB (by rw [ow_len (by omega)]; exact hl) ?_
  intro H5 hB5 ho5
  simp -implicitDefEqProofs (maxSteps := 1000000) (disch := first | omega | assumption) only [Sx, reduceIte, Nat.reduceEqDiff, reduceCtorEq, Nat.reduceAdd, Nat.reduceSub, Nat.reduceLT, decide_true, decide_false, Bool.not_true, Bool.not_false, Int.toNat_one, Int.toNat_zero, Nat.zero_mul, l_g, endK, gd_u]
  rw [g_re hB5 (by simp -implicitDefEqProofs (maxSteps := 1000000) (disch := first | omega | assumption) only [g6, Sx, reduceIte, Nat.reduceEqDiff, reduceCtorEq, Nat.reduceAdd, Nat.reduceSub, Nat.reduceLT, decide_true, decide_false, Bool.not_true, Bool.not_false, Int.toNat_one, Int.toNat_zero, Nat.zero_mul, l_g, endK, gd_u])]
  simp -implicitDefEqProofs (maxSteps := 1000000) (disch := first | omega | assumption) only [Sx, reduceIte, Nat.reduceEqDiff, reduceCtorEq, Nat.reduceAdd, Nat.reduceSub, Nat.reduceLT, decide_true, decide_false, Bool.not_true, Bool.not_false, Int.toNat_one, Int.toNat_zero, Nat.zero_mul, l_g, endK, gd_u]
  exact ⟨by (first | exact True.intro | rfl | assumption), keep2 hK ho5⟩
end Go.Proofs.YthflafgijfbpnaaDoor.S15

/-
  The elder form of maps: rows of numbers, the document's.
-/
set_option linter.unusedVariables false
set_option linter.unusedSimpArgs false
namespace Go.Proofs.YthflafgijfbpnaaDoor.S15
open Go Go.RowKit Go.Proofs.YthflafgijfbpnaaDoor.Sep Go.Proofs.YthflafgijfbpnaaDoor.Low Go.Proofs.YthflafgijfbpnaaDoor.Lib Go.Proofs.YthflafgijfbpnaaDoor.S12

abbrev Z24 : List Int := List.replicate 24 0
theorem z24_len : Z24.length = 24 := List.length_replicate
theorem z24_at {i : Nat} (h : i < Z24.length) : Z24[i] = 0 := List.getElem_replicate h
/-- a place of two numbers -/
def stepR (r : List Int) (a : Nat) (l : List Rg) (i : Nat) : List Int :=
  if h : i < l.length then ow (ow (ow r (a + 24 * i) Z24) (a + 24 * i) (num l[i].f)) (a + 24 * i + 12) (num (l[i].t - l[i].f)) else ow r (a + 24 * i) Z24
def fillR (r : List Int) (a : Nat) (l : List Rg) : Nat → List Int
  | 0 => r
  | k + 1 => stepR (fillR r a l k) a l k
/-- ranges that can be written -/
def Goods (l : List Rg) : Prop := ∀ x ∈ l, 0 ≤ x.f ∧ x.f ≤ x.t ∧ x.t ≤ 9223372036854775807
theorem Goods.at {l : List Rg} (h : Goods l) {i : Nat} (hi : i < l.length) : (0 ≤ l[i].f ∧ l[i].f ≤ 9223372036854775807) ∧ (0 ≤ l[i].t - l[i].f ∧ l[i].t - l[i].f ≤ 9223372036854775807) ∧ l[i].t ≤ 9223372036854775807 := by
  have := h _ (List.getElem_mem hi)
  omega
theorem stepR_len {r : List Int} {a i : Nat} {l : List Rg} (hr : r.length = 512) (hg : Goods l) (ha : a + 24 * i + 24 ≤ 512) : (stepR r a l i).length = 512 := by
  unfold stepR
  split
  · rename_i h
    obtain ⟨h1, h2, -⟩ := hg.at h
    have n1 := (num_ok h1).2
    have n2 := (num_ok h2).2
    have e1 : (ow r (a + 24 * i) Z24).length = 512 := by rw [ow_len (by rw [z24_len]; omega)]; exact hr
    have e2 : (ow (ow r (a + 24 * i) Z24) (a + 24 * i) (num l[i].f)).length = 512 := by rw [ow_len (by rw [n1, e1]; omega)]; exact e1
    rw [ow_len (by rw [n2, e2]; omega)]; exact e2
  · rw [ow_len (by rw [z24_len]; omega)]; exact hr
theorem fillR_len {r : List Int} {a : Nat} {l : List Rg} (hr : r.length = 512) (hg : Goods l) : ∀ {k : Nat}, a + 24 * k ≤ 512 → (fillR r a l k).length = 512
  | 0, _ => hr
  | k + 1, h => stepR_len (fillR_len hr hg (by omega)) hg (by omega)
theorem num_by {n : Int} (h : 0 ≤ n ∧ n ≤ 9223372036854775807) : isBy (num n) := by
  unfold num putN putO putB
  have e1 : (12 : Int).toNat - 1 = 11 := rfl
  have e2 : (12 : Int).toNat = 12 := rfl
  rw [if_neg (by omega : ¬ ((12 : Int) < 2 ∨ 512 < (12 : Int))), e1, e2, p8_11]
  by_cases h1 : n < 0 ∨ 8589934592 ≤ n
  · rw [if_pos h1, if_neg (by decide)]
    have h2 : n / p256 11 = 0 := by rw [p256_11]; omega
    have h3 : inR n 11 := by unfold inR; rw [h2]; omega
    rw [if_pos h3]
    show isBy (orB (hd 12 n))
    have hb := hd_by 12 n
    cases hq : hd 12 n with
    | nil => intro x hx; cases hx
    | cons x r =>
      rw [hq] at hb
      intro y hy
      rcases List.mem_cons.1 hy with rfl | hy
      · omega
      · exact hb y (.tail _ hy)
  · rw [if_neg h1, if_pos rfl]
    show isBy (od 11 n ++ [0])
    intro x hx
    rcases List.mem_append.1 hx with hx | hx
    · exact od_by _ _ x hx
    · simp at hx; omega

set_option maxHeartbeats 4000000 in
theorem some_spec {H : Heap} {r : List Int} {a p : Nat} {A : Option Addr} {c : Nat} {l : List Rg} (hl : r.length = 512) (ha : a + 24 * p ≤ 512) (hr : Row H A (rgs l)) (hg : Goods l) (hll : l.length ≤ 140737488355328) :
    ACalls Tryd.prog 33 [Value.agg (by8 r).toArray, .int .i64 (a : Nat), .int .i64 (p : Nat), .slice A l.length c].toArray H fun e H' => e = .returned (.tuple #[.agg (by8 (fillR r a l p)).toArray, .bool true]) ∧ Keep H H' := by
  refine call33 (Nat.le_of_ble_eq_true rfl) ?_
  unfold L33 env0
  simp -implicitDefEqProofs (maxSteps := 1000000) (disch := first | omega | assumption) only [Sx, reduceIte, Nat.reduceEqDiff, reduceCtorEq, Nat.reduceAdd, Nat.reduceSub, Nat.reduceLT, decide_true, decide_false, Bool.not_true, Bool.not_false, Int.toNat_one, Int.toNat_zero, Nat.zero_mul, l_g, endK, gd_u]
  refine a_boxr hl ?_
  intro r4 H1 hO1 hk1 hr4
  simp -implicitDefEqProofs (maxSteps := 1000000) (disch := first | omega | assumption) only [Sx, reduceIte, Nat.reduceEqDiff, reduceCtorEq, Nat.reduceAdd, Nat.reduceSub, Nat.reduceLT, decide_true, decide_false, Bool.not_true, Bool.not_false, Int.toNat_one, Int.toNat_zero, Nat.zero_mul, l_g, endK, gd_u]
  refine a_newr ?_
  intro r8 H2 hO2 hk2 hr8
  have hk2' := hk1.trans hk2
  have hO1' := Own.keep hO1 hk2
  have hne : r8 ≠ r4 := by
    rintro rfl
    exact hO1.known (r := r8) rfl hr8
  have keep : ∀ {Ha Hb : Heap}, Keep H Ha → Oth Ha (.slice (some ⟨r4, 0, none⟩) 512 512) Hb → Keep H Hb := fun hK ho => ho.keep hK fun q hq => by cases hq; exact hr4
  have keep8 : ∀ {Ha Hb : Heap}, Keep H Ha → Oth Ha (.slice (some ⟨r8, 0, none⟩) 512 512) Hb → Keep H Hb := fun hK ho => ho.keep hK fun q hq => by cases hq; exact hk1.none hr8
  have two : ∀ {Ha Hb : Heap}, Re Ha r8 Z512 → Oth Ha (.slice (some ⟨r4, 0, none⟩) 512 512) Hb → Re Hb r8 Z512 := fun hA ho => hA.only ho fun q hq e => by
    cases hq; cases e; exact hne rfl
  simp -implicitDefEqProofs (maxSteps := 1000000) (disch := first | omega | assumption) only [Sx, reduceIte, Nat.reduceEqDiff, reduceCtorEq, Nat.reduceAdd, Nat.reduceSub, Nat.reduceLT, decide_true, decide_false, Bool.not_true, Bool.not_false, Int.toNat_one, Int.toNat_zero, Nat.zero_mul, l_g, endK, gd_u]
  refine c_loop (fun k env H' => ∃ i, k + i = p ∧ env 1 = .int .i64 (a : Nat) ∧ env 2 = .int .i64 (p : Nat) ∧ env 3 = .slice A l.length c ∧ env 4 = .pointer (some ⟨r4, 0, none⟩) ∧ env 8 = .pointer (some ⟨r8, 0, none⟩) ∧ env 10 = .bool true ∧ env 11 = .int .i64 (i : Nat) ∧ Re H' r4 (fillR r a l i) ∧ Re H' r8 Z512 ∧ Keep H H') p
    ⟨0, by omega, by (first | exact True.intro | rfl | assumption), by (first | exact True.intro | rfl | assumption), by (first | exact True.intro | rfl | assumption), by (first | exact True.intro | rfl | assumption), by (first | exact True.intro | rfl | assumption), by (first | exact True.intro | rfl | assumption), by (first | exact True.intro | rfl | assumption), hO1', hO2, hk2'⟩ ?_
  rintro k env H3 ⟨i, hk, g1, g2, g3, g4, g8, g10, g11, hA, hB, hK⟩
  unfold L33_2
  by_cases hi : i < p
  · have f0 : decide ((i : Int) < (p : Int)) = true := decide_eq_true (by omega)
    have hF := fillR_len (k := i) hl hg (a := a) (l := l) (by omega)
    obtain ⟨F, hFe⟩ : ∃ F, F = fillR r a l i := ⟨_, rfl⟩
    rw [← hFe] at hA hF
    obtain ⟨t, ht⟩ : ∃ t, t = a + 24 * i := ⟨_, rfl⟩
    have htn : (a : Int) + 24 * (i : Int) = (t : Nat) := by omega
    simp -implicitDefEqProofs (maxSteps := 1000000) (disch := first | omega | assumption) only [g1, g2, g3, g4, g8, g10, g11, f0, htn, Sx, reduceIte, Nat.reduceEqDiff, reduceCtorEq, Nat.reduceAdd, Nat.reduceSub, Nat.reduceLT, decide_true, decide_false, Bool.not_true, Bool.not_false, Int.toNat_one, Int.toNat_zero, Nat.zero_mul, l_g, endK, gd_u]
    refine c_loop (fun k' env H' => ∃ j, k' + j = 24 ∧ env 1 = .int .i64 (a : Nat) ∧ env 2 = .int .i64 (p : Nat) ∧ env 3 = .slice A l.length c ∧ env 4 = .pointer (some ⟨r4, 0, none⟩) ∧ env 8 = .pointer (some ⟨r8, 0, none⟩) ∧ env 10 = .bool true ∧ env 11 = .int .i64 (i : Nat) ∧ env 12 = .int .i64 (t : Nat) ∧ env 13 = .int .i64 (j : Nat) ∧ Re H' r4 (ow F t (Z24.take j)) ∧ Re H' r8 Z512 ∧ Keep H H') 24
      ⟨0, by omega, by (first | exact True.intro | rfl | assumption), by (first | exact True.intro | rfl | assumption), by (first | exact True.intro | rfl | assumption), by (first | exact True.intro | rfl | assumption), by (first | exact True.intro | rfl | assumption), by (first | exact True.intro | rfl | assumption), by (first | exact True.intro | rfl | assumption), by (first | exact True.intro | rfl | assumption), by (first | exact True.intro | rfl | assumption), by rw [List.take_zero, ow_nil]; exact hA, hB, hK⟩ ?_
    rintro k' env H4 ⟨j, hj, g1, g2, g3, g4, g8, g10, g11, g12, g13, hA, hB, hK⟩
    unfold L33_0
    by_cases hjj : j < 24
    · have f1 : decide ((j : Int) < 24) = true := decide_eq_true (by omega)
      have hin : (0 : Int) ≤ (t : Int) + (j : Int) ∧ (t : Int) + (j : Int) < ((512 : Nat) : Int) := by omega
      have htj : ((t : Int) + (j : Int)).toNat = t + j := by omega
      simp -implicitDefEqProofs (maxSteps := 1000000) (disch := first | omega | assumption) only [g1, g2, g3, g4, g8, g10, g11, g12, g13, f1, hin, htj, Sx, reduceIte, Nat.reduceEqDiff, reduceCtorEq, Nat.reduceAdd, Nat.reduceSub, Nat.reduceLT, decide_true, decide_false, Bool.not_true, Bool.not_false, Int.toNat_one, Int.toNat_zero, Nat.zero_mul, l_g, endK, gd_u]
      refine a_putr hA (j := t + j) (by rw [ow_len (by rw [List.length_take, z24_len]; omega)]; omega) ?_
      intro H5 hA5 ho5
      have hjz : j < Z24.length := by rw [z24_len]; exact hjj
      have hst := ow_take (l := F) (b := Z24) (a := t) (i := j) (by rw [z24_len]; omega) hjz
      rw [z24_at hjz] at hst
      rw [hst] at hA5
      simp -implicitDefEqProofs (maxSteps := 1000000) (disch := first | omega | assumption) only [g1, g2, g3, g4, g8, g10, g11, g12, g13, Sx, reduceIte, Nat.reduceEqDiff, reduceCtorEq, Nat.reduceAdd, Nat.reduceSub, Nat.reduceLT, decide_true, decide_false, Bool.not_true, Bool.not_false, Int.toNat_one, Int.toNat_zero, Nat.zero_mul, l_g, endK, gd_u]
      exact ⟨k' - 1, by omega, j + 1, by omega, by (first | exact True.intro | rfl | assumption), by (first | exact True.intro | rfl | assumption), by (first | exact True.intro | rfl | assumption), by (first | exact True.intro | rfl | assumption), by (first | exact True.intro | rfl | assumption), by (first | exact True.intro | rfl | assumption), by (first | exact True.intro | rfl | assumption), by (first | exact True.intro | rfl | assumption), by (first | exact True.intro | rfl | assumption), hA5, two hB ho5, keep hK ho5⟩
    have f1 : decide ((j : Int) < 24) = false := decide_eq_false (by omega)
    obtain rfl : j = 24 := by omega
    rw [List.take_of_length_le (by rw [z24_len]; omega)] at hA
    have hz : (ow F t Z24).length = 512 := by rw [ow_len (by rw [z24_len]; omega)]; exact hF
    by_cases hil : i < l.length
    · have f2 : decide ((l.length : Int) ≤ (i : Int)) = false := decide_eq_false (by omega)
      obtain ⟨p1, p2, p3⟩ := hg.at hil
      obtain ⟨b0, rfl, hld, hc1, hc2⟩ := rg_at (hK.row hr) hil
      have e1 := ev_ldnr hA
      simp -implicitDefEqProofs (maxSteps := 1000000) (disch := first | omega | assumption) only [g1, g2, g3, g4, g8, g10, g11, g12, g13, f1, f2, e1, hc1, Sx, reduceIte, Nat.reduceEqDiff, reduceCtorEq, Nat.reduceAdd, Nat.reduceSub, Nat.reduceLT, decide_true, decide_false, Bool.not_true, Bool.not_false, Int.toNat_one, Int.toNat_zero, Nat.zero_mul, l_g, endK, gd_u]
      refine a_call (rputn_spec hz (by omega) p1) ?_
      rintro e H5 ⟨rfl, hk5⟩
      simp -implicitDefEqProofs (maxSteps := 1000000) (disch := first | omega | assumption) only [g1, g2, g3, g4, g8, g10, g11, g12, g13, Sx, reduceIte, Nat.reduceEqDiff, reduceCtorEq, Nat.reduceAdd, Nat.reduceSub, Nat.reduceLT, decide_true, decide_false, Bool.not_true, Bool.not_false, Int.toNat_one, Int.toNat_zero, Nat.zero_mul, l_g, endK, gd_u]
      have hz1 : (ow (ow F t Z24) t (num l[i].f)).length = 512 := by rw [ow_len (by rw [(num_ok p1).2]; omega)]; exact hz
      refine a_str (Own.keep hA hk5) hz1 ?_
      intro H6 hA6 ho6
      have hK6 := keep (hK.trans hk5) ho6
      obtain ⟨b0', ee, hld, hc1, hc2⟩ := rg_at (hK6.row hr) hil
      cases ee
      have e2 := ev_ldnr hA6
      have t12 : ((t : Int) + 12) = ((t + 12 : Nat) : Int) := by omega
      simp -implicitDefEqProofs (maxSteps := 1000000) (disch := first | omega | assumption) only [g1, g2, g3, g4, g8, g10, g11, g12, g13, e2, hc1, hc2, t12, Sx, reduceIte, Nat.reduceEqDiff, reduceCtorEq, Nat.reduceAdd, Nat.reduceSub, Nat.reduceLT, decide_true, decide_false, Bool.not_true, Bool.not_false, Int.toNat_one, Int.toNat_zero, Nat.zero_mul, l_g, endK, gd_u]
      refine a_call (rputn_spec hz1 (by omega) p2) ?_
      rintro e H7 ⟨rfl, hk7⟩
      simp -implicitDefEqProofs (maxSteps := 1000000) (disch := first | omega | assumption) only [g1, g2, g3, g4, g8, g10, g11, g12, g13, Sx, reduceIte, Nat.reduceEqDiff, reduceCtorEq, Nat.reduceAdd, Nat.reduceSub, Nat.reduceLT, decide_true, decide_false, Bool.not_true, Bool.not_false, Int.toNat_one, Int.toNat_zero, Nat.zero_mul, l_g, endK, gd_u]
      refine a_str (Own.keep hA6 hk7) (by rw [ow_len (by rw [(num_ok p2).2]; omega)]; exact hz1) ?_
      intro H8 hA8 ho8
      unfold L33_1
      simp -implicitDefEqProofs (maxSteps := 1000000) (disch := first | omega | assumption) only [g1, g2, g3, g4, g8, g10, g11, g12, g13, Sx, reduceIte, Nat.reduceEqDiff, reduceCtorEq, Nat.reduceAdd, Nat.reduceSub, Nat.reduceLT, decide_true, decide_false, Bool.not_true, Bool.not_false, Int.toNat_one, Int.toNat_zero, Nat.zero_mul, l_g, endK, gd_u]
      refine ⟨k - 1, by omega, i + 1, by omega, by (first | exact True.intro | rfl | assumption), by (first | exact True.intro | rfl | assumption), by (first | exact True.intro | rfl | assumption), by (first | exact True.intro | rfl | assumption), by (first | exact True.intro | rfl | assumption), by (first | exact True.intro | rfl | assumption), by (first | exact True.intro | rfl | assumption), ?_, two (Own.keep (two (Own.keep hB hk5) ho6) hk7) ho8, keep (hK6.trans hk7) ho8⟩
      show Re H8 r4 (stepR (fillR r a l i) a l i)
      unfold stepR
      rw [dif_pos hil, ← hFe, ← ht]
      exact hA8
    · have f2 : decide ((l.length : Int) ≤ (i : Int)) = true := decide_eq_true (by omega)
      unfold L33_1
      simp -implicitDefEqProofs (maxSteps := 1000000) (disch := first | omega | assumption) only [g1, g2, g3, g4, g8, g10, g11, g12, g13, f1, f2, Sx, reduceIte, Nat.reduceEqDiff, reduceCtorEq, Nat.reduceAdd, Nat.reduceSub, Nat.reduceLT, decide_true, decide_false, Bool.not_true, Bool.not_false, Int.toNat_one, Int.toNat_zero, Nat.zero_mul, l_g, endK, gd_u]
      refine ⟨k - 1, by omega, i + 1, by omega, by (first | exact True.intro | rfl | assumption), by (first | exact True.intro | rfl | assumption), by (first | exact True.intro | rfl | assumption), by (first | exact True.intro | rfl | assumption), by (first | exact True.intro | rfl | assumption), by (first | exact True.intro | rfl | assumption), by (first | exact True.intro | rfl | assumption), ?_, hB, hK⟩
      show Re H4 r4 (stepR (fillR r a l i) a l i)
      unfold stepR
      rw [dif_neg hil, ← hFe, ← ht]
      exact hA
  have f0 : decide ((i : Int) < (p : Int)) = false := decide_eq_false (by omega)
  obtain rfl : i = p := by omega
  have hF := fillR_len (k := i) hl hg (a := a) (l := l) (by omega)
  have e1 := ev_ldnr hA
  unfold L33_3
  simp -implicitDefEqProofs (maxSteps := 1000000) (disch := first | omega | assumption) only [g1, g2, g3, g4, g8, g10, g11, f0, e1, Sx, reduceIte, Nat.reduceEqDiff, reduceCtorEq, Nat.reduceAdd, Nat.reduceSub, Nat.reduceLT, decide_true, decide_false, Bool.not_true, Bool.not_false, Int.toNat_one, Int.toNat_zero, Nat.zero_mul, l_g, endK, gd_u]
  refine a_str hB hF ?_
  intro H5 hB5 ho5
  simp -implicitDefEqProofs (maxSteps := 1000000) (disch := first | omega | assumption) only [g10, Sx, reduceIte, Nat.reduceEqDiff, reduceCtorEq, Nat.reduceAdd, Nat.reduceSub, Nat.reduceLT, decide_true, decide_false, Bool.not_true, Bool.not_false, Int.toNat_one, Int.toNat_zero, Nat.zero_mul, l_g, endK, gd_u]
  rw [g_re hB5 (by simp -implicitDefEqProofs (maxSteps := 1000000) (disch := first | omega | assumption) only [g8, Sx, reduceIte, Nat.reduceEqDiff, reduceCtorEq, Nat.reduceAdd, Nat.reduceSub, Nat.reduceLT, decide_true, decide_false, Bool.not_true, Bool.not_false, Int.toNat_one, Int.toNat_zero, Nat.zero_mul, l_g, endK, gd_u])]
  simp -implicitDefEqProofs (maxSteps := 1000000) (disch := first | omega | assumption) only [g10, Sx, reduceIte, Nat.reduceEqDiff, reduceCtorEq, Nat.reduceAdd, Nat.reduceSub, Nat.reduceLT, decide_true, decide_false, Bool.not_true, Bool.not_false, Int.toNat_one, Int.toNat_zero, Nat.zero_mul, l_g, endK, gd_u]
  exact ⟨by (first | exact True.intro | rfl | assumption), keep8 hK ho5⟩
end Go.Proofs.YthflafgijfbpnaaDoor.S15

/-
  The elder form of maps: rows of numbers, the program's.
-/
set_option linter.unusedVariables false
set_option linter.unusedSimpArgs false
namespace Go.Proofs.YthflafgijfbpnaaDoor.S15
open Go Go.RowKit Go.Proofs.YthflafgijfbpnaaDoor.Sep Go.Proofs.YthflafgijfbpnaaDoor.Low Go.Proofs.YthflafgijfbpnaaDoor.Lib Go.Proofs.YthflafgijfbpnaaDoor.S12

abbrev sl (r : Nat) : Value := .slice (some ⟨r, 0, none⟩) 512 512
theorem tz_oth {H H' : Heap} {r : Nat} (h : Tz H) (ho : Oth H (sl r) H') (hne : r ≠ 2) : Tz H' := by
  unfold Tz at h ⊢
  unfold Heap.cell? at h ⊢
  cases e : H 2 with
  | none => simp [e] at h
  | some o =>
    have := ho.oth _ _ e (by intro h2; cases h2; exact hne rfl)
    simp only [e] at h
    simp only [this]
    exact h
theorem zc24 : (Builtin.zeroCells #[Value.int .u8 0] 24).toList = by8 Z24 := by kernel_rfl
theorem ow_by8 {l b : List Int} {t n : Nat} (hb : b.length = n) : (by8 l).take t ++ by8 b ++ (by8 l).drop (t + n) = by8 (ow l t b) := by
  subst hb
  simp [by8, ow]
theorem a_clrR {P : Program} {H : Heap} {l : List Int} {r t cc : Nat} {KV : Value → Heap → Prop} {KP : List PanicEntry → Heap → Prop} (hO : Re H r l) (ht : t + 24 ≤ 512)
    (hk : ∀ H', Re H' r (ow l t Z24) → Oth H (sl r) H' → KV (.tuple #[]) H') : awpE P (.clr 1 #[.int .u8 0]) [.slice (some ⟨r, t, none⟩) 24 cc] KV KP H := by
  have hl := re_len hO
  obtain ⟨H', h1, h2, h3⟩ := storeCs hO (j := t) (new := by8 Z24) (by rw [List.length_map, List.length_map, z24_len]; omega) (by8_scalar _)
  simp only [awpE]
  rw [if_neg (by omega), zc24, h1]
  refine hk H' ?_ h3
  rw [show (by8 Z24).length = 24 from by rw [List.length_map, z24_len], ow_by8 z24_len] at h2
  exact h2
theorem a_copyR {P : Program} {H : Heap} {l b : List Int} {r t dn dc : Nat} {src : Value} {KV : Value → Heap → Prop} {KP : List PanicEntry → Heap → Prop} (hO : Re H r l) (hs : By H src b) (hb : b.length = 12) (hd : 12 ≤ dn) (ht : t + 12 ≤ 512)
    (hk : ∀ H', Re H' r (ow l t b) → Oth H (sl r) H' → KV (.int .i64 (12 : Nat)) H') : awpE P (.copy 1) [.slice (some ⟨r, t, none⟩) dn dc, src] KV KP H := by
  have hl := re_len hO
  obtain ⟨A, c, rfl, hc, hr⟩ := hs
  obtain ⟨H', h1, h2, h3⟩ := storeCs hO (j := t) (new := by8 b) (by rw [List.length_map, List.length_map]; omega) (by8_scalar _)
  have e1 : lenV (Value.slice A b.length c) = some 12 := by rw [hb]; rfl
  have e2 : min 12 dn = 12 := by omega
  have e3 := hr.cells (n := 12) (c := c) (sz := 1) (by rw [List.length_map]; omega)
  simp only [awpE, e1, e2]
  rw [hb, e3]
  simp only [h1]
  refine hk H' ?_ h3
  rw [show (by8 b).length = 12 from by rw [List.length_map, hb], ow_by8 hb] at h2
  exact h2

set_option maxHeartbeats 4000000 in
theorem pput_spec {H : Heap} {r : List Int} {rp a p : Nat} {A : Option Addr} {c : Nat} {l : List Rg} (hT : Tz H) (hpg : rp ≠ 2) (hO : Re H rp r) (ha : a + 24 * p ≤ 512) (hr : Row H A (rgs l)) (hro : ∀ H', Oth H (sl rp) H' → Row H' A (rgs l)) (hg : Goods l) (hll : l.length ≤ 140737488355328) (hcl : l.length ≤ c) :
    ACalls Tryd.prog 30 [Value.pointer (some ⟨rp, 0, none⟩), .int .i64 (a : Nat), .int .i64 (p : Nat), .slice A l.length c].toArray H fun e H' => e = .returned (.tuple #[.slice (cutA A c (min p l.length) 2) (l.length - min p l.length) (c - min p l.length), .int .i64 0]) ∧ Re H' rp (fillR r a l p) ∧ Oth H (sl rp) H' := by
  have hl := re_len hO
  refine call30 (Nat.le_of_ble_eq_true rfl) ?_
  unfold L30 env0
  have n00 : ((0 : Int) != 0) = false := rfl
  have okeep : ∀ {Ha Hb : Heap}, Oth H (sl rp) Ha → Keep Ha Hb → Oth H (sl rp) Hb := fun ho hk => ho.trans (Only.of_keep (S := fun _ => False) hk) fun q hq => hq.elim
  have ooth : ∀ {Ha Hb : Heap}, Oth H (sl rp) Ha → Oth Ha (sl rp) Hb → Oth H (sl rp) Hb := fun ho hk => ho.trans hk fun q hq => .inl hq
  simp -implicitDefEqProofs (maxSteps := 1000000) (disch := first | omega | assumption) only [Sx, reduceIte, Nat.reduceEqDiff, reduceCtorEq, Nat.reduceAdd, Nat.reduceSub, Nat.reduceLT, decide_true, decide_false, Bool.not_true, Bool.not_false, Int.toNat_one, Int.toNat_zero, Nat.zero_mul, l_g, endK, gd_u]
  refine c_loop (fun k env H' => ∃ i, k + i = p ∧ env 0 = .pointer (some ⟨rp, 0, none⟩) ∧ env 1 = .int .i64 (a : Nat) ∧ env 2 = .int .i64 (p : Nat) ∧ env 3 = .slice A l.length c ∧ env 16 = .int .i64 (p : Nat) ∧ env 17 = .int .i64 (i : Nat) ∧ Re H' rp (fillR r a l i) ∧ Oth H (sl rp) H') p
    ⟨0, by omega, by (first | exact True.intro | rfl | assumption), by (first | exact True.intro | rfl | assumption), by (first | exact True.intro | rfl | assumption), by (first | exact True.intro | rfl | assumption), by (first | exact True.intro | rfl | assumption), by (first | exact True.intro | rfl | assumption), hO, Only.refl _ _⟩ ?_
  rintro k env H3 ⟨i, hk, g0, g1, g2, g3, g16, g17, hA, hX⟩
  by_cases hi : i < p
  · have f0 : decide ((i : Int) < (p : Int)) = true := decide_eq_true (by omega)
    have hF := fillR_len (k := i) hl hg (a := a) (l := l) (by omega)
    obtain ⟨F, hFe⟩ : ∃ F, F = fillR r a l i := ⟨_, rfl⟩
    rw [← hFe] at hA hF
    obtain ⟨t, ht⟩ : ∃ t, t = a + 24 * i := ⟨_, rfl⟩
    have htn : (a : Int) + 24 * (i : Int) = (t : Nat) := by omega
    have htn2 : (a : Int) + 24 * ((i : Int) + 1) = ((t + 24 : Nat) : Int) := by omega
    have hcut : cutP ⟨rp, 0, none⟩ 512 t 1 = ⟨rp, t, none⟩ := by unfold cutP; rw [if_neg (by omega), Nat.mul_one, add_mk, Nat.zero_add]
    have hcutA : cutA (some ⟨rp, t, none⟩) (512 - t) (Int.toNat 12) 1 = some ⟨rp, t + 12, none⟩ := by rw [show Int.toNat 12 = 12 from rfl]; unfold cutA; rw [if_neg (by omega), Nat.mul_one]; simp [add_mk]
    have hz : (ow F t Z24).length = 512 := by rw [ow_len (by rw [z24_len]; omega)]; exact hF
    have hin : (0 : Int) ≤ ((t : Nat) : Int) ∧ ((t : Nat) : Int) ≤ ((t + 24 : Nat) : Int) ∧ ((t + 24 : Nat) : Int) ≤ ((512 : Nat) : Int) := by omega
    unfold L30_0
    simp -implicitDefEqProofs (maxSteps := 1000000) (disch := first | omega | assumption) only [g0, g1, g2, g3, g16, g17, f0, htn, htn2, ev_sla_lohi, hcut, Nat.add_sub_cancel_left, ev_nilc, Sx, reduceIte, Nat.reduceEqDiff, reduceCtorEq, Nat.reduceAdd, Nat.reduceSub, Nat.reduceLT, decide_true, decide_false, Bool.not_true, Bool.not_false, Int.toNat_one, Int.toNat_zero, Nat.zero_mul, l_g, endK, gd_u]
    refine a_clrR hA (by omega) ?_
    intro H4 hA4 ho4
    have hX4 := ooth hX ho4
    by_cases hil : i < l.length
    · have f2 : decide ((l.length : Int) ≤ (i : Int)) = false := decide_eq_false (by omega)
      obtain ⟨p1, p2, p3⟩ := hg.at hil
      obtain ⟨b0, rfl, hld, hc1, hc2⟩ := rg_at (hro _ hX4) hil
      simp -implicitDefEqProofs (maxSteps := 1000000) (disch := first | omega | assumption) only [g0, g1, g2, g3, g16, g17, f2, hc1, Sx, reduceIte, Nat.reduceEqDiff, reduceCtorEq, Nat.reduceAdd, Nat.reduceSub, Nat.reduceLT, decide_true, decide_false, Bool.not_true, Bool.not_false, Int.toNat_one, Int.toNat_zero, Nat.zero_mul, l_g, endK, gd_u]
      refine a_call (putNumber_spec (tz_oth hT hX4 hpg) (by omega) (by omega)) ?_
      rintro e H5 ⟨v1, rfl, hv1, hk5, hf5⟩
      rw [(num_ok p1).1] at hv1 ⊢
      have hs1 := hv1.scalar
      have hX5 := okeep hX4 hk5
      obtain ⟨b0', ee, hld, hc1, hc2⟩ := rg_at (hro _ hX5) hil
      cases ee
      simp -implicitDefEqProofs (maxSteps := 1000000) (disch := first | omega | assumption) only [g0, g1, g2, g3, g16, g17, hc1, hc2, Sx, reduceIte, Nat.reduceEqDiff, reduceCtorEq, Nat.reduceAdd, Nat.reduceSub, Nat.reduceLT, decide_true, decide_false, Bool.not_true, Bool.not_false, Int.toNat_one, Int.toNat_zero, Nat.zero_mul, l_g, endK, gd_u]
      refine a_call (putNumber_spec (tz_oth hT hX5 hpg) (by omega) (by omega)) ?_
      rintro e H6 ⟨v2, rfl, hv2, hk6, hf6⟩
      rw [(num_ok p2).1] at hv2 ⊢
      have hs2 := hv2.scalar
      have hX6 := okeep hX5 hk6
      have hA6 := Own.keep (Own.keep hA4 hk5) hk6
      simp -implicitDefEqProofs (maxSteps := 1000000) (disch := first | omega | assumption) only [g0, g1, g2, g3, g16, g17, n00, Sx, reduceIte, Nat.reduceEqDiff, reduceCtorEq, Nat.reduceAdd, Nat.reduceSub, Nat.reduceLT, decide_true, decide_false, Bool.not_true, Bool.not_false, Int.toNat_one, Int.toNat_zero, Nat.zero_mul, l_g, endK, gd_u]
      refine a_copyR hA6 (own_by (hv1.keep hk6)) (num_ok p1).2 (by omega) (by omega) ?_
      intro H7 hA7 ho7
      have hX7 := ooth hX6 ho7
      have hv27 : Bs H7 v2 (num (l[i].t - l[i].f)) := hv2.only ho7 fun q hq e => by
        cases e
        exact (Own.keep hA4 hk5).known (r := rp) rfl (hf6 rp hq)
      simp -implicitDefEqProofs (maxSteps := 1000000) (disch := first | omega | assumption) only [g0, g1, g2, g3, g16, g17, ev_slc_lo, Sx, reduceIte, Nat.reduceEqDiff, reduceCtorEq, Nat.reduceAdd, Nat.reduceSub, Nat.reduceLT, decide_true, decide_false, Bool.not_true, Bool.not_false, Int.toNat_one, Int.toNat_zero, Nat.zero_mul, l_g, endK, gd_u]
      rw [hcutA]
      refine a_copyR hA7 (own_by hv27) (num_ok p2).2 (by decide) (by omega) ?_
      intro H8 hA8 ho8
      simp -implicitDefEqProofs (maxSteps := 1000000) (disch := first | omega | assumption) only [g0, g1, g2, g3, g16, g17, Sx, reduceIte, Nat.reduceEqDiff, reduceCtorEq, Nat.reduceAdd, Nat.reduceSub, Nat.reduceLT, decide_true, decide_false, Bool.not_true, Bool.not_false, Int.toNat_one, Int.toNat_zero, Nat.zero_mul, l_g, endK, gd_u]
      refine ⟨k - 1, by omega, i + 1, by omega, by (first | exact True.intro | rfl | assumption), by (first | exact True.intro | rfl | assumption), by (first | exact True.intro | rfl | assumption), by (first | exact True.intro | rfl | assumption), by (first | exact True.intro | rfl | assumption), by (first | exact True.intro | rfl | assumption), ?_, ooth hX7 ho8⟩
      show Re H8 rp (stepR (fillR r a l i) a l i)
      unfold stepR
      rw [dif_pos hil, ← hFe, ← ht]
      exact hA8
    · have f2 : decide ((l.length : Int) ≤ (i : Int)) = true := decide_eq_true (by omega)
      simp -implicitDefEqProofs (maxSteps := 1000000) (disch := first | omega | assumption) only [g0, g1, g2, g3, g16, g17, f2, Sx, reduceIte, Nat.reduceEqDiff, reduceCtorEq, Nat.reduceAdd, Nat.reduceSub, Nat.reduceLT, decide_true, decide_false, Bool.not_true, Bool.not_false, Int.toNat_one, Int.toNat_zero, Nat.zero_mul, l_g, endK, gd_u]
      refine ⟨k - 1, by omega, i + 1, by omega, by (first | exact True.intro | rfl | assumption), by (first | exact True.intro | rfl | assumption), by (first | exact True.intro | rfl | assumption), by (first | exact True.intro | rfl | assumption), by (first | exact True.intro | rfl | assumption), by (first | exact True.intro | rfl | assumption), ?_, hX4⟩
      show Re H4 rp (stepR (fillR r a l i) a l i)
      unfold stepR
      rw [dif_neg hil, ← hFe, ← ht]
      exact hA4
  have f0 : decide ((i : Int) < (p : Int)) = false := decide_eq_false (by omega)
  obtain rfl : i = p := by omega
  unfold L30_0 L30_1
  have hmin : (if (l.length : Int) < (i : Int) then (l.length : Int) else (i : Int)) = ((min i l.length : Nat) : Int) := by split <;> omega
  simp -implicitDefEqProofs (maxSteps := 1000000) (disch := first | omega | assumption) only [g0, g1, g2, g3, g16, g17, f0, hmin, ev_slc_lo, Sx, reduceIte, Nat.reduceEqDiff, reduceCtorEq, Nat.reduceAdd, Nat.reduceSub, Nat.reduceLT, decide_true, decide_false, Bool.not_true, Bool.not_false, Int.toNat_one, Int.toNat_zero, Nat.zero_mul, l_g, endK, gd_u]
  exact ⟨by (first | exact True.intro | rfl | assumption), hA, hX⟩
end Go.Proofs.YthflafgijfbpnaaDoor.S15

/-
  The elder form of maps: PutOld, the program's.
-/
set_option linter.unusedVariables false
set_option linter.unusedSimpArgs false
namespace Go.Proofs.YthflafgijfbpnaaDoor.S15
open Go Go.RowKit Go.Proofs.YthflafgijfbpnaaDoor.Sep Go.Proofs.YthflafgijfbpnaaDoor.Low Go.Proofs.YthflafgijfbpnaaDoor.Lib Go.Proofs.YthflafgijfbpnaaDoor.S12

def flagV (l : List Rg) : Int := if 0 < l.length then 1 else 0
def moreV (l : List Rg) : List (List Int) := if h : l.length = 0 then [] else (fillR Z512 0 l 21).set 504 (flagV (l.drop 21)) :: moreV (l.drop 21)
termination_by l.length
decreasing_by simp; omega
theorem more_nil {l : List Rg} (h : l.length = 0) : moreV l = [] := by rw [moreV, dif_pos h]
theorem more_cons {l : List Rg} (h : l.length ≠ 0) : moreV l = (fillR Z512 0 l 21).set 504 (flagV (l.drop 21)) :: moreV (l.drop 21) := by rw [moreV, dif_neg h]
def putOldV (r : List Int) (l : List Rg) (size : Int) : List Int × List (List Int) × Int :=
  if validV l size then (ow ((fillR r 386 l 4).set 482 (flagV (l.drop 4))) 483 (num size), moreV (l.drop 4), 0) else (r, [], 1)
abbrev ms (M : List (List Int)) : List Value := (M.map by8).flatten
/-- records, a list of our own -/
abbrev Om (H : Heap) (v : Value) (M : List (List Int)) : Prop := Own H T512 512 v (ms M)
theorem ms_len : ∀ {M : List (List Int)}, (∀ x ∈ M, x.length = 512) → (ms M).length = M.length * 512
  | [], _ => rfl
  | x :: M, h => by
    show (by8 x ++ ms M).length = _
    rw [List.length_append, ms_len fun y hy => h y (.tail _ hy), List.length_map, h x (.head _), List.length_cons]
    omega
theorem goods_of {l : List Rg} {size : Int} (h : validV l size = true) (hs : size ≤ 9223372036854775807) : Goods l := by
  obtain ⟨-, -, hc⟩ := valid_true h
  have : ∀ (l : List Rg) (at_ : Int), 0 ≤ at_ → chain size at_ l = true → Goods l := by
    intro l
    induction l with
    | nil => intro _ _ _ x hx; cases hx
    | cons y l ih =>
      intro at_ ha hc
      obtain ⟨h1, h2, h3, h4⟩ := chain_cons hc
      intro x hx
      rcases List.mem_cons.1 hx with rfl | hx
      · omega
      · exact ih _ (by omega) h4 x hx
  exact this l 0 (Int.le_refl _) hc
theorem Goods.drop {l : List Rg} (h : Goods l) (k : Nat) : Goods (l.drop k) := fun x hx => h x (List.mem_of_mem_drop hx)
theorem rrow_drop {H : Heap} {A : Option Addr} {l : List Rg} {c k : Nat} (hr : Row H A (rgs l)) (hc : l.length ≤ c) : Row H (cutA A c k 2) (rgs (l.drop k)) := by
  have := hr.cut (c := c) (l := k) (sz := 2) (by rw [encs_len rg_len]; omega)
  have e : (rgs l).drop (k * 2) = rgs (l.drop k) := by
    clear this hr hc
    induction k generalizing l with
    | zero => simp
    | succ k ih =>
      cases l with
      | nil => show List.drop _ [] = []; exact List.drop_nil
      | cons x l =>
        show (rg x ++ rgs l).drop ((k + 1) * 2) = rgs (l.drop k)
        rw [← ih (l := l), List.drop_append, rg_len, List.drop_of_length_le (by rw [rg_len]; omega), List.nil_append]
        congr 1
        omega
  rwa [e] at this
theorem flag_spec {H : Heap} {A : Option Addr} {n c : Nat} : ACalls Tryd.prog 32 [Value.slice A n c].toArray H fun e H' => e = .returned (.int .u8 (if 0 < n then 1 else 0)) ∧ H' = H := by
  refine call32 (Nat.le_of_ble_eq_true rfl) ?_
  unfold L32 env0
  by_cases h : 0 < n
  · have f0 : decide ((0 : Int) < (n : Int)) = true := decide_eq_true (by omega)
    simp -implicitDefEqProofs (maxSteps := 1000000) (disch := first | omega | assumption) only [f0, Sx, reduceIte, Nat.reduceEqDiff, reduceCtorEq, Nat.reduceAdd, Nat.reduceSub, Nat.reduceLT, decide_true, decide_false, Bool.not_true, Bool.not_false, Int.toNat_one, Int.toNat_zero, Nat.zero_mul, l_g, endK, gd_u]
    exact ⟨by rw [if_pos h], by (first | exact True.intro | rfl | assumption)⟩
  · have f0 : decide ((0 : Int) < (n : Int)) = false := decide_eq_false (by omega)
    simp -implicitDefEqProofs (maxSteps := 1000000) (disch := first | omega | assumption) only [f0, Sx, reduceIte, Nat.reduceEqDiff, reduceCtorEq, Nat.reduceAdd, Nat.reduceSub, Nat.reduceLT, decide_true, decide_false, Bool.not_true, Bool.not_false, Int.toNat_one, Int.toNat_zero, Nat.zero_mul, l_g, endK, gd_u]
    exact ⟨by rw [if_neg h], by (first | exact True.intro | rfl | assumption)⟩
theorem lits_re {P : Program} {H : Heap} {x : List Int} {KV : Value → Heap → Prop} {KP : List PanicEntry → Heap → Prop} (hx : x.length = 512)
    (hk : ∀ r H', Own H' T512 512 (.slice (some ⟨r, 0, none⟩) 1 1) (by8 x) → Keep H H' → H r = none → KV (.slice (some ⟨r, 0, none⟩) 1 1) H') : awpE P (.lits T512 (Array.replicate 512 (.int .u8 0)) 1 [(0, 512)]) [.agg (by8 x).toArray] KV KP H := by
  refine a_lits (sz := 512) (cells := (by8 x).toArray) (by
    simp only [List.length_cons, List.length_nil, if_true, List.zip_cons_cons, List.zip_nil_right]
    rw [repZ, fill_a, if_pos (by rw [List.length_map, List.length_map, List.length_replicate, hx]; exact ⟨rfl, by omega⟩), fill_nil]
    rw [List.take_zero, List.nil_append, List.drop_of_length_le (by rw [List.length_map, List.length_map, List.length_replicate, hx]; omega), List.append_nil]) (by rw [List.size_toArray, List.length_map, hx]) ?_
  intro r H' h1 h2 h3
  exact hk r H' h1 h2 h3
theorem push_re {P : Program} {H : Heap} {v : Value} {M : List (List Int)} {x : List Int} {r : Nat} {KV : Value → Heap → Prop} {KP : List PanicEntry → Heap → Prop} (hO : Om H v M) (hM : ∀ y ∈ M, y.length = 512) (hx : x.length = 512) (hl : M.length ≤ 100000) (h1 : Own H T512 512 (.slice (some ⟨r, 0, none⟩) 1 1) (by8 x))
    (hk : ∀ v' H', Om H' v' (M ++ [x]) → Oth H v H' → Moved H v v' → KV v' H') : awpE P (.app T512 512 512 (Array.replicate 512 (.int .u8 0))) [v, .slice (some ⟨r, 0, none⟩) 1 1] KV KP H := by
  obtain ⟨_, _, _, e, _, _, hrow⟩ := h1.view
  cases e
  refine a_app (len := M.length) (m := 1) (new := by8 x) hO (ms_len hM) rfl (hrow.cells (by rw [List.length_map, hx])) (by rw [List.length_map, hx]) Array.size_replicate (by omega) (by8_scalar x) (by omega) ?_
  intro v' H' h2 h3 h4
  refine hk v' H' ?_ h3 h4
  show Own H' T512 512 v' (ms (M ++ [x]))
  rw [ms, List.map_append, List.flatten_append]
  simpa using h2
theorem drop_min {l : List Rg} {k : Nat} : l.drop (min k l.length) = l.drop k := by
  by_cases h : k ≤ l.length
  · rw [Nat.min_eq_left h]
  · rw [Nat.min_eq_right (by omega), List.drop_of_length_le (Nat.le_refl _), List.drop_of_length_le (by omega)]
theorem flag_min {l : List Rg} {k : Nat} : (if 0 < l.length - min k l.length then (1 : Int) else 0) = flagV (l.drop k) := by
  unfold flagV
  rw [List.length_drop]
  split <;> split <;> omega
theorem tz_free {H : Heap} {r : Nat} (hT : Tz H) (hr : H r = none) : r ≠ 2 := by
  rintro rfl
  unfold Tz Heap.cell? at hT
  simp [hr] at hT

set_option maxHeartbeats 8000000 in
theorem pputOld_spec {H : Heap} {r : List Int} {A : Option Addr} {c : Nat} {l : List Rg} {size : Int} (hT : Tz H) (hl : r.length = 512) (hr : Row H A (rgs l)) (hcl : l.length ≤ c) (hs : -9223372036854775808 ≤ size ∧ size ≤ 9223372036854775807) :
    ACalls Tryd.prog 16 [Value.agg (by8 r).toArray, .slice A l.length c, .int .i64 size].toArray H fun e H' => ∃ v, e = .returned (.tuple #[.agg (by8 (putOldV r l size).1).toArray, v, .int .i64 (putOldV r l size).2.2]) ∧ Om H' v (putOldV r l size).2.1 ∧ Fresh H v ∧ Keep H H' := by
  refine call16 (Nat.le_of_ble_eq_true rfl) ?_
  unfold L16 env0
  have n00 : ((0 : Int) != 0) = false := rfl
  simp -implicitDefEqProofs (maxSteps := 1000000) (disch := first | omega | assumption) only [Sx, reduceIte, Nat.reduceEqDiff, reduceCtorEq, Nat.reduceAdd, Nat.reduceSub, Nat.reduceLT, decide_true, decide_false, Bool.not_true, Bool.not_false, Int.toNat_one, Int.toNat_zero, Nat.zero_mul, l_g, endK, gd_u]
  refine a_boxr hl ?_
  intro r3 H1 hO3 k1 hr3
  simp -implicitDefEqProofs (maxSteps := 1000000) (disch := first | omega | assumption) only [Sx, reduceIte, Nat.reduceEqDiff, reduceCtorEq, Nat.reduceAdd, Nat.reduceSub, Nat.reduceLT, decide_true, decide_false, Bool.not_true, Bool.not_false, Int.toNat_one, Int.toNat_zero, Nat.zero_mul, l_g, endK, gd_u]
  refine a_newr ?_
  intro r6 H2 hO6 k2 hr6
  have n63 : r6 ≠ r3 := by rintro rfl; exact hO3.known (r := r6) rfl hr6
  have hO3 := Own.keep hO3 k2
  have k2 := k1.trans k2
  have f6 : H r6 = none := k1.none hr6
  simp -implicitDefEqProofs (maxSteps := 1000000) (disch := first | omega | assumption) only [Sx, reduceIte, Nat.reduceEqDiff, reduceCtorEq, Nat.reduceAdd, Nat.reduceSub, Nat.reduceLT, decide_true, decide_false, Bool.not_true, Bool.not_false, Int.toNat_one, Int.toNat_zero, Nat.zero_mul, l_g, endK, gd_u]
  refine a_call (fits_spec (k2.row hr) rfl) ?_
  rintro e H3 ⟨rfl, k3⟩
  have hO3 := Own.keep hO3 k3
  have hO6 := Own.keep hO6 k3
  have k3 := k2.trans k3
  unfold putOldV
  by_cases hv : validV l size = true
  rotate_left
  · have hv' : validV l size = false := by simpa using hv
    rw [if_neg hv]
    have e1 := ev_ldnr hO3
    simp -implicitDefEqProofs (maxSteps := 1000000) (disch := first | omega | assumption) only [hv', e1, Sx, reduceIte, Nat.reduceEqDiff, reduceCtorEq, Nat.reduceAdd, Nat.reduceSub, Nat.reduceLT, decide_true, decide_false, Bool.not_true, Bool.not_false, Int.toNat_one, Int.toNat_zero, Nat.zero_mul, l_g, endK, gd_u]
    refine a_str hO6 hl ?_
    intro H4 hO4 ho4
    simp -implicitDefEqProofs (maxSteps := 1000000) (disch := first | omega | assumption) only [Sx, reduceIte, Nat.reduceEqDiff, reduceCtorEq, Nat.reduceAdd, Nat.reduceSub, Nat.reduceLT, decide_true, decide_false, Bool.not_true, Bool.not_false, Int.toNat_one, Int.toNat_zero, Nat.zero_mul, l_g, endK, gd_u]
    rw [g_re hO4 (by simp -implicitDefEqProofs (maxSteps := 1000000) (disch := first | omega | assumption) only [Sx, reduceIte, Nat.reduceEqDiff, reduceCtorEq, Nat.reduceAdd, Nat.reduceSub, Nat.reduceLT, decide_true, decide_false, Bool.not_true, Bool.not_false, Int.toNat_one, Int.toNat_zero, Nat.zero_mul, l_g, endK, gd_u])]
    simp -implicitDefEqProofs (maxSteps := 1000000) (disch := first | omega | assumption) only [Sx, reduceIte, Nat.reduceEqDiff, reduceCtorEq, Nat.reduceAdd, Nat.reduceSub, Nat.reduceLT, decide_true, decide_false, Bool.not_true, Bool.not_false, Int.toNat_one, Int.toNat_zero, Nat.zero_mul, l_g, endK, gd_u]
    exact ⟨_, by (first | exact True.intro | rfl | assumption), .nil, (fun q hq => by cases hq), ho4.keep k3 fun q hq => by cases hq; exact f6⟩
  rw [if_pos hv]
  obtain ⟨v1, v2, -⟩ := valid_true hv
  have hg := goods_of hv hs.2
  have e1 := ev_ldnr hO3
  simp -implicitDefEqProofs (maxSteps := 1000000) (disch := first | omega | assumption) only [hv, e1, Sx, reduceIte, Nat.reduceEqDiff, reduceCtorEq, Nat.reduceAdd, Nat.reduceSub, Nat.reduceLT, decide_true, decide_false, Bool.not_true, Bool.not_false, Int.toNat_one, Int.toNat_zero, Nat.zero_mul, l_g, endK, gd_u]
  refine a_newr ?_
  intro r9 H4 hO9 k4 hr9
  have n96 : r9 ≠ r6 := by rintro rfl; exact hO6.known (r := r9) rfl hr9
  have n93 : r9 ≠ r3 := by rintro rfl; exact hO3.known (r := r9) rfl hr9
  have f9 : H r9 = none := k3.none hr9
  have hO3 := Own.keep hO3 k4
  have hO6 := Own.keep hO6 k4
  have k4 := k3.trans k4
  have oK : ∀ {Ha Hb : Heap}, Keep H Ha → Oth Ha (sl r9) Hb → Keep H Hb := fun hK ho => ho.keep hK fun q hq => by cases hq; exact f9
  have o3 : ∀ {Ha Hb : Heap} {x : List Int}, Re Ha r3 x → Oth Ha (sl r9) Hb → Re Hb r3 x := fun hA ho => hA.only ho fun q hq e => by cases hq; cases e; exact n93 rfl
  have o6 : ∀ {Ha Hb : Heap} {x : List Int}, Re Ha r6 x → Oth Ha (sl r9) Hb → Re Hb r6 x := fun hA ho => hA.only ho fun q hq e => by cases hq; cases e; exact n96 rfl
  simp -implicitDefEqProofs (maxSteps := 1000000) (disch := first | omega | assumption) only [Sx, reduceIte, Nat.reduceEqDiff, reduceCtorEq, Nat.reduceAdd, Nat.reduceSub, Nat.reduceLT, decide_true, decide_false, Bool.not_true, Bool.not_false, Int.toNat_one, Int.toNat_zero, Nat.zero_mul, l_g, endK, gd_u]
  refine a_str hO9 hl ?_
  intro H5 hO9 ho5
  have k5 := oK k4 ho5
  have hO3 := o3 hO3 ho5
  have hO6 := o6 hO6 ho5
  have hT5 := hT.keep k5
  have g9 := tz_free hT f9
  simp -implicitDefEqProofs (maxSteps := 1000000) (disch := first | omega | assumption) only [Sx, reduceIte, Nat.reduceEqDiff, reduceCtorEq, Nat.reduceAdd, Nat.reduceSub, Nat.reduceLT, decide_true, decide_false, Bool.not_true, Bool.not_false, Int.toNat_one, Int.toNat_zero, Nat.zero_mul, l_g, endK, gd_u]
  refine a_call (pput_spec (a := 386) (p := 4) hT5 g9 hO9 (by omega) (k5.row hr) (fun H' ho => (oK k5 ho).row hr) hg (by omega) hcl) ?_
  rintro e H6 ⟨rfl, hO9, ho6⟩
  have k6 := oK k5 ho6
  have hO3 := o3 hO3 ho6
  have hO6 := o6 hO6 ho6
  have hF := fillR_len (k := 4) hl hg (a := 386) (l := l) (by omega)
  simp -implicitDefEqProofs (maxSteps := 1000000) (disch := first | omega | assumption) only [Sx, reduceIte, Nat.reduceEqDiff, reduceCtorEq, Nat.reduceAdd, Nat.reduceSub, Nat.reduceLT, decide_true, decide_false, Bool.not_true, Bool.not_false, Int.toNat_one, Int.toNat_zero, Nat.zero_mul, l_g, endK, gd_u]
  refine a_call (putNumber_spec (hT.keep k6) (by omega) (by omega)) ?_
  rintro e H7 ⟨v11, rfl, hv11, k7, f11⟩
  rw [(num_ok ⟨v1, hs.2⟩).1] at hv11 ⊢
  have hs11 := hv11.scalar
  have hO3 := Own.keep hO3 k7
  have hO6 := Own.keep hO6 k7
  have hO9' := Own.keep hO9 k7
  have n11 : own v11 ≠ some r9 := fun e => hO9.known (r := r9) rfl (f11 r9 e)
  have k7 := k6.trans k7
  simp -implicitDefEqProofs (maxSteps := 1000000) (disch := first | omega | assumption) only [n00, Sx, reduceIte, Nat.reduceEqDiff, reduceCtorEq, Nat.reduceAdd, Nat.reduceSub, Nat.reduceLT, decide_true, decide_false, Bool.not_true, Bool.not_false, Int.toNat_one, Int.toNat_zero, Nat.zero_mul, l_g, endK, gd_u]
  refine a_call flag_spec ?_
  rintro e H8 ⟨rfl, rfl⟩
  have t482 : (482 : Int).toNat = 482 := rfl
  simp -implicitDefEqProofs (maxSteps := 1000000) (disch := first | omega | assumption) only [t482, Sx, reduceIte, Nat.reduceEqDiff, reduceCtorEq, Nat.reduceAdd, Nat.reduceSub, Nat.reduceLT, decide_true, decide_false, Bool.not_true, Bool.not_false, Int.toNat_one, Int.toNat_zero, Nat.zero_mul, l_g, endK, gd_u]
  rw [flag_min]
  refine a_putr hO9' (j := 482) (by omega) ?_
  intro H8 hO9 ho8
  obtain ⟨X1, hX1⟩ : ∃ X1, X1 = (fillR r 386 l 4).set 482 (flagV (l.drop 4)) := ⟨_, rfl⟩
  rw [← hX1] at hO9 ⊢
  have hX1l : X1.length = 512 := by rw [hX1, List.length_set]; exact hF
  have k8 := oK k7 ho8
  have hO3 := o3 hO3 ho8
  have hO6 := o6 hO6 ho8
  have hv8 : Bs H8 v11 (num size) := hv11.only ho8 fun q hq e => by cases e; exact n11 hq
  have t483 : (483 : Int).toNat = 483 := rfl
  have t495 : (495 : Int).toNat = 495 := rfl
  have hcut : cutP ⟨r9, 0, none⟩ 512 483 1 = ⟨r9, 483, none⟩ := by unfold cutP; rw [if_neg (by omega), Nat.mul_one, add_mk, Nat.zero_add]
  have hin : (0 : Int) ≤ 483 ∧ (483 : Int) ≤ 495 ∧ (495 : Int) ≤ ((512 : Nat) : Int) := by omega
  simp -implicitDefEqProofs (maxSteps := 1000000) (disch := first | omega | assumption) only [ev_sla_lohi, hin, t483, t495, hcut, Sx, reduceIte, Nat.reduceEqDiff, reduceCtorEq, Nat.reduceAdd, Nat.reduceSub, Nat.reduceLT, decide_true, decide_false, Bool.not_true, Bool.not_false, Int.toNat_one, Int.toNat_zero, Nat.zero_mul, l_g, endK, gd_u]
  refine a_copyR hO9 (own_by hv8) (num_ok ⟨v1, hs.2⟩).2 (by omega) (by omega) ?_
  intro H9 hO9 ho9
  obtain ⟨X2, hX2⟩ : ∃ X2, X2 = ow X1 483 (num size) := ⟨_, rfl⟩
  rw [← hX2] at hO9 ⊢
  have hX2l : X2.length = 512 := by rw [hX2, ow_len (by rw [(num_ok ⟨v1, hs.2⟩).2]; omega)]; exact hX1l
  have k9 := oK k8 ho9
  have hO3 := o3 hO3 ho9
  have hO6 := o6 hO6 ho9
  have hT9 := hT.keep k9
  obtain ⟨L, hL⟩ : ∃ L, L = l.drop 4 := ⟨_, rfl⟩
  have hLl : l.length - min 4 l.length = L.length := by rw [hL, List.length_drop]; omega
  have hrL : Row H9 (cutA A c (min 4 l.length) 2) (rgs L) := by rw [hL, ← drop_min]; exact rrow_drop (k9.row hr) hcl
  have hgL : Goods L := by rw [hL]; exact hg.drop 4
  rw [← hL]
  simp -implicitDefEqProofs (maxSteps := 1000000) (disch := first | omega | assumption) only [hLl, Sx, reduceIte, Nat.reduceEqDiff, reduceCtorEq, Nat.reduceAdd, Nat.reduceSub, Nat.reduceLT, decide_true, decide_false, Bool.not_true, Bool.not_false, Int.toNat_one, Int.toNat_zero, Nat.zero_mul, l_g, endK, gd_u]
  refine c_loop (fun k env H' => ∃ A' c' L' v M, k = L'.length ∧ L'.length ≤ 65536 ∧ env 1 = .slice A' L'.length c' ∧ L'.length ≤ c' ∧ Row H9 A' (rgs L') ∧ Goods L' ∧ env 3 = .pointer (some ⟨r3, 0, none⟩) ∧ env 6 = .pointer (some ⟨r6, 0, none⟩) ∧ env 9 = .pointer (some ⟨r9, 0, none⟩) ∧ env 13 = v ∧ Om H' v M ∧ (∀ x ∈ M, x.length = 512) ∧ M.length + L'.length ≤ 65536 ∧ M ++ moreV L' = moreV L ∧ Keep H9 H' ∧ Fresh H9 v) L.length
    ⟨_, _, L, _, [], rfl, by omega, by (first | exact True.intro | rfl | assumption), by omega, hrL, hgL, by (first | exact True.intro | rfl | assumption), by (first | exact True.intro | rfl | assumption), by (first | exact True.intro | rfl | assumption), rfl, .nil, (fun x hx => by cases hx), by simp; omega, rfl, Keep.refl _, (fun q hq => by cases hq)⟩ ?_
  rintro k env Ha ⟨A', c', L', v, M, rfl, hLb, g1, hcL, hrw, hgg, g3, g6, g9', g13, hOm, hM, hcnt, hme, ka, hfv⟩
  unfold L16_0
  by_cases h0 : L'.length = 0
  · have f0 : decide ((0 : Int) < (L'.length : Int)) = false := decide_eq_false (by omega)
    have hsv := hOm.scalar
    have e9 := ev_ldnr (Own.keep hO9 ka)
    simp -implicitDefEqProofs (maxSteps := 1000000) (disch := first | omega | assumption) only [g1, g3, g6, g9', g13, f0, e9, Sx, reduceIte, Nat.reduceEqDiff, reduceCtorEq, Nat.reduceAdd, Nat.reduceSub, Nat.reduceLT, decide_true, decide_false, Bool.not_true, Bool.not_false, Int.toNat_one, Int.toNat_zero, Nat.zero_mul, l_g, endK, gd_u]
    refine a_str (Own.keep hO6 ka) hX2l ?_
    intro Hb hOb hob
    rw [more_nil h0, List.append_nil] at hme
    subst hme
    simp -implicitDefEqProofs (maxSteps := 1000000) (disch := first | omega | assumption) only [g13, Sx, reduceIte, Nat.reduceEqDiff, reduceCtorEq, Nat.reduceAdd, Nat.reduceSub, Nat.reduceLT, decide_true, decide_false, Bool.not_true, Bool.not_false, Int.toNat_one, Int.toNat_zero, Nat.zero_mul, l_g, endK, gd_u]
    rw [g_re hOb (by simp -implicitDefEqProofs (maxSteps := 1000000) (disch := first | omega | assumption) only [g6, Sx, reduceIte, Nat.reduceEqDiff, reduceCtorEq, Nat.reduceAdd, Nat.reduceSub, Nat.reduceLT, decide_true, decide_false, Bool.not_true, Bool.not_false, Int.toNat_one, Int.toNat_zero, Nat.zero_mul, l_g, endK, gd_u])]
    simp -implicitDefEqProofs (maxSteps := 1000000) (disch := first | omega | assumption) only [g13, Sx, reduceIte, Nat.reduceEqDiff, reduceCtorEq, Nat.reduceAdd, Nat.reduceSub, Nat.reduceLT, decide_true, decide_false, Bool.not_true, Bool.not_false, Int.toNat_one, Int.toNat_zero, Nat.zero_mul, l_g, endK, gd_u]
    exact ⟨v, by (first | exact True.intro | rfl | assumption), hOm.only hob fun q hq e => by
      cases e
      exact hO6.known (r := r6) rfl (hfv r6 hq), hfv.keep k9, hob.keep (k9.trans ka) fun q hq => by cases hq; exact f6⟩
  have f0 : decide ((0 : Int) < (L'.length : Int)) = true := decide_eq_true (by omega)
  simp -implicitDefEqProofs (maxSteps := 1000000) (disch := first | omega | assumption) only [g1, g3, g6, g9', g13, f0, Sx, reduceIte, Nat.reduceEqDiff, reduceCtorEq, Nat.reduceAdd, Nat.reduceSub, Nat.reduceLT, decide_true, decide_false, Bool.not_true, Bool.not_false, Int.toNat_one, Int.toNat_zero, Nat.zero_mul, l_g, endK, gd_u]
  refine a_newr ?_
  intro r14 Hb hOn kb hrn
  have kb' := ka.trans kb
  have fn : H9 r14 = none := ka.none hrn
  have gn := tz_free hT9 fn
  simp -implicitDefEqProofs (maxSteps := 1000000) (disch := first | omega | assumption) only [g1, g3, g6, g9', g13, Sx, reduceIte, Nat.reduceEqDiff, reduceCtorEq, Nat.reduceAdd, Nat.reduceSub, Nat.reduceLT, decide_true, decide_false, Bool.not_true, Bool.not_false, Int.toNat_one, Int.toNat_zero, Nat.zero_mul, l_g, endK, gd_u]
  refine a_call (pput_spec (a := 0) (p := 21) (hT9.keep kb') gn hOn (by omega) (kb'.row hrw) (fun H' ho => (ho.keep kb' fun q hq => by cases hq; exact fn).row hrw) hgg (by omega) hcL) ?_
  rintro e Hc ⟨rfl, hOn, hoc⟩
  have kc : Keep H9 Hc := hoc.keep kb' fun q hq => by cases hq; exact fn
  have kac : Keep Ha Hc := hoc.keep kb fun q hq => by cases hq; exact hrn
  have hFn := fillR_len (k := 21) z512_len hgg (a := 0) (l := L') (by omega)
  simp -implicitDefEqProofs (maxSteps := 1000000) (disch := first | omega | assumption) only [g1, g3, g6, g9', g13, n00, Sx, reduceIte, Nat.reduceEqDiff, reduceCtorEq, Nat.reduceAdd, Nat.reduceSub, Nat.reduceLT, decide_true, decide_false, Bool.not_true, Bool.not_false, Int.toNat_one, Int.toNat_zero, Nat.zero_mul, l_g, endK, gd_u]
  refine a_call flag_spec ?_
  rintro e Hd ⟨rfl, rfl⟩
  have t504 : (504 : Int).toNat = 504 := rfl
  simp -implicitDefEqProofs (maxSteps := 1000000) (disch := first | omega | assumption) only [g1, g3, g6, g9', g13, t504, Sx, reduceIte, Nat.reduceEqDiff, reduceCtorEq, Nat.reduceAdd, Nat.reduceSub, Nat.reduceLT, decide_true, decide_false, Bool.not_true, Bool.not_false, Int.toNat_one, Int.toNat_zero, Nat.zero_mul, l_g, endK, gd_u]
  rw [flag_min]
  refine a_putr hOn (j := 504) (by omega) ?_
  intro Hd hOn hod
  have kd : Keep H9 Hd := hod.keep kc fun q hq => by cases hq; exact fn
  have kad : Keep Ha Hd := hod.keep kac fun q hq => by cases hq; exact hrn
  obtain ⟨Y, hY⟩ : ∃ Y, Y = (fillR Z512 0 L' 21).set 504 (flagV (L'.drop 21)) := ⟨_, rfl⟩
  rw [← hY] at hOn
  have hYl : Y.length = 512 := by rw [hY, List.length_set]; exact hFn
  have eY := ev_ldnr hOn
  simp -implicitDefEqProofs (maxSteps := 1000000) (disch := first | omega | assumption) only [g1, g3, g6, g9', g13, eY, Sx, reduceIte, Nat.reduceEqDiff, reduceCtorEq, Nat.reduceAdd, Nat.reduceSub, Nat.reduceLT, decide_true, decide_false, Bool.not_true, Bool.not_false, Int.toNat_one, Int.toNat_zero, Nat.zero_mul, l_g, endK, gd_u]
  refine lits_re hYl ?_
  intro rl He hOl ke hrl
  simp -implicitDefEqProofs (maxSteps := 1000000) (disch := first | omega | assumption) only [g1, g3, g6, g9', g13, Sx, reduceIte, Nat.reduceEqDiff, reduceCtorEq, Nat.reduceAdd, Nat.reduceSub, Nat.reduceLT, decide_true, decide_false, Bool.not_true, Bool.not_false, Int.toNat_one, Int.toNat_zero, Nat.zero_mul, l_g, endK, gd_u]
  refine push_re (Own.keep (Own.keep hOm kad) ke) hM hYl (by omega) hOl ?_
  intro v' Hf hOf hof hmv
  have kf0 := kd.trans ke
  have hmf : Fresh H9 v' := hmv.fresh kf0 hfv
  have hsv := hOf.scalar
  simp -implicitDefEqProofs (maxSteps := 1000000) (disch := first | omega | assumption) only [g1, g3, g6, g9', g13, Sx, reduceIte, Nat.reduceEqDiff, reduceCtorEq, Nat.reduceAdd, Nat.reduceSub, Nat.reduceLT, decide_true, decide_false, Bool.not_true, Bool.not_false, Int.toNat_one, Int.toNat_zero, Nat.zero_mul, l_g, endK, gd_u]
  refine ⟨_, ?_, _, _, L'.drop 21, v', M ++ [Y], rfl, by rw [List.length_drop]; omega, by rw [List.length_drop, show L'.length - 21 = L'.length - min 21 L'.length by omega], by rw [List.length_drop]; omega, by rw [← drop_min]; exact rrow_drop hrw hcL, hgg.drop 21, by (first | exact True.intro | rfl | assumption), by (first | exact True.intro | rfl | assumption), by (first | exact True.intro | rfl | assumption), by (first | exact True.intro | rfl | assumption), hOf, ?_, ?_, ?_, hof.keep kf0 (fun q hq => hfv q hq), hmf⟩
  · rw [List.length_drop]; omega
  · intro x hx
    rcases List.mem_append.1 hx with hx | hx
    · exact hM x hx
    · rw [List.mem_singleton.1 hx]; exact hYl
  · rw [List.length_append, List.length_drop, List.length_singleton]; omega
  · rw [← hme, more_cons h0, hY]; simp
end Go.Proofs.YthflafgijfbpnaaDoor.S15

/-
  The elder form of maps: PutOld, the document's.
-/
set_option linter.unusedVariables false
set_option linter.unusedSimpArgs false
namespace Go.Proofs.YthflafgijfbpnaaDoor.S15
open Go Go.RowKit Go.Proofs.YthflafgijfbpnaaDoor.Sep Go.Proofs.YthflafgijfbpnaaDoor.Low Go.Proofs.YthflafgijfbpnaaDoor.Lib Go.Proofs.YthflafgijfbpnaaDoor.S12

theorem ow_at {l b : List Int} {a j : Nat} (h : a + b.length ≤ l.length) (hj : a + b.length ≤ j) : (ow l a b)[j]? = l[j]? := by
  unfold ow
  have e : (l.take a ++ b).length = a + b.length := by simp; omega
  rw [List.getElem?_append_right (by omega), e, List.getElem?_drop]
  congr 1
  omega
theorem fillR_at {r : List Int} {a : Nat} {l : List Rg} (hr : r.length = 512) (hg : Goods l) {j : Nat} : ∀ {k : Nat}, a + 24 * k ≤ 512 → a + 24 * k ≤ j → (fillR r a l k)[j]? = r[j]?
  | 0, _, _ => rfl
  | k + 1, h, hj => by
    have ih := fillR_at (r := r) (a := a) (l := l) hr hg (j := j) (k := k) (by omega) (by omega)
    have hF := fillR_len (k := k) hr hg (a := a) (l := l) (by omega)
    show (stepR (fillR r a l k) a l k)[j]? = _
    rw [← ih]
    obtain ⟨F, hFe⟩ : ∃ F, F = fillR r a l k := ⟨_, rfl⟩
    rw [← hFe] at hF ⊢
    have z1 : (ow F (a + 24 * k) Z24).length = 512 := by rw [ow_len (by rw [z24_len]; omega)]; exact hF
    unfold stepR
    split
    · rename_i hk
      obtain ⟨p1, p2, -⟩ := hg.at hk
      have n1 := (num_ok p1).2
      have n2 := (num_ok p2).2
      have z2 : (ow (ow F (a + 24 * k) Z24) (a + 24 * k) (num l[k].f)).length = 512 := by rw [ow_len (by rw [n1]; omega)]; exact z1
      rw [ow_at (by rw [n2]; omega) (by rw [n2]; omega), ow_at (by rw [n1]; omega) (by rw [n1]; omega), ow_at (by rw [z24_len]; omega) (by rw [z24_len]; omega)]
    · rw [ow_at (by rw [z24_len]; omega) (by rw [z24_len]; omega)]
theorem fill_504 {l : List Rg} (hg : Goods l) : (fillR Z512 0 l 21).set 504 0 = fillR Z512 0 l 21 := by
  have hF := fillR_len (k := 21) z512_len hg (a := 0) (l := l) (by omega)
  apply List.ext_getElem?
  intro j
  rw [List.getElem?_set]
  split
  · rename_i h
    subst h
    rw [if_pos (by omega), fillR_at z512_len hg (by omega) (by omega), List.getElem?_replicate, if_pos (by omega)]
  · rfl
theorem ev_bz {H : Heap} : (QI.build (Array.replicate 512 (.int .u8 0)) []).ev [] H = some (.agg (by8 Z512).toArray) := by
  rw [ev_build]
  simp only [if_true, List.zip_nil_right]
  rw [fill_nil, repZ]
  rfl
theorem set_set {l : List Int} {i : Nat} {x y : Int} : (l.set i x).set i y = l.set i y := by simp

set_option maxHeartbeats 8000000 in
theorem rputOld_spec {H : Heap} {r : List Int} {A : Option Addr} {c : Nat} {l : List Rg} {size : Int} (hl : r.length = 512) (hr : Row H A (rgs l)) (hcl : l.length ≤ c) (hs : -9223372036854775808 ≤ size ∧ size ≤ 9223372036854775807) :
    ACalls Tryd.prog 18 [Value.agg (by8 r).toArray, .slice A l.length c, .int .i64 size].toArray H fun e H' => ∃ v, e = .returned (.tuple #[.agg (by8 (putOldV r l size).1).toArray, v, .int .i64 (putOldV r l size).2.2]) ∧ Om H' v (putOldV r l size).2.1 ∧ Fresh H v ∧ Keep H H' := by
  refine call18 (Nat.le_of_ble_eq_true rfl) ?_
  unfold L18 env0
  simp -implicitDefEqProofs (maxSteps := 1000000) (disch := first | omega | assumption) only [Sx, reduceIte, Nat.reduceEqDiff, reduceCtorEq, Nat.reduceAdd, Nat.reduceSub, Nat.reduceLT, decide_true, decide_false, Bool.not_true, Bool.not_false, Int.toNat_one, Int.toNat_zero, Nat.zero_mul, l_g, endK, gd_u]
  refine a_boxr hl ?_
  intro r3 H1 hO3 k1 hr3
  simp -implicitDefEqProofs (maxSteps := 1000000) (disch := first | omega | assumption) only [Sx, reduceIte, Nat.reduceEqDiff, reduceCtorEq, Nat.reduceAdd, Nat.reduceSub, Nat.reduceLT, decide_true, decide_false, Bool.not_true, Bool.not_false, Int.toNat_one, Int.toNat_zero, Nat.zero_mul, l_g, endK, gd_u]
  refine a_newr ?_
  intro r6 H2 hO6 k2 hr6
  have n63 : r6 ≠ r3 := by rintro rfl; exact hO3.known (r := r6) rfl hr6
  have hO3 := Own.keep hO3 k2
  have k2 := k1.trans k2
  have f6 : H r6 = none := k1.none hr6
  simp -implicitDefEqProofs (maxSteps := 1000000) (disch := first | omega | assumption) only [Sx, reduceIte, Nat.reduceEqDiff, reduceCtorEq, Nat.reduceAdd, Nat.reduceSub, Nat.reduceLT, decide_true, decide_false, Bool.not_true, Bool.not_false, Int.toNat_one, Int.toNat_zero, Nat.zero_mul, l_g, endK, gd_u]
  refine a_call (rvalid_spec (k2.row hr) rfl) ?_
  rintro e H3 ⟨rfl, rfl⟩
  unfold putOldV
  by_cases hv : validV l size = true
  rotate_left
  · have hv' : validV l size = false := by simpa using hv
    rw [if_neg hv]
    have e1 := ev_ldnr hO3
    simp -implicitDefEqProofs (maxSteps := 1000000) (disch := first | omega | assumption) only [hv', e1, Sx, reduceIte, Nat.reduceEqDiff, reduceCtorEq, Nat.reduceAdd, Nat.reduceSub, Nat.reduceLT, decide_true, decide_false, Bool.not_true, Bool.not_false, Int.toNat_one, Int.toNat_zero, Nat.zero_mul, l_g, endK, gd_u]
    refine a_str hO6 hl ?_
    intro H4 hO4 ho4
    simp -implicitDefEqProofs (maxSteps := 1000000) (disch := first | omega | assumption) only [Sx, reduceIte, Nat.reduceEqDiff, reduceCtorEq, Nat.reduceAdd, Nat.reduceSub, Nat.reduceLT, decide_true, decide_false, Bool.not_true, Bool.not_false, Int.toNat_one, Int.toNat_zero, Nat.zero_mul, l_g, endK, gd_u]
    rw [g_re hO4 (by simp -implicitDefEqProofs (maxSteps := 1000000) (disch := first | omega | assumption) only [Sx, reduceIte, Nat.reduceEqDiff, reduceCtorEq, Nat.reduceAdd, Nat.reduceSub, Nat.reduceLT, decide_true, decide_false, Bool.not_true, Bool.not_false, Int.toNat_one, Int.toNat_zero, Nat.zero_mul, l_g, endK, gd_u])]
    simp -implicitDefEqProofs (maxSteps := 1000000) (disch := first | omega | assumption) only [Sx, reduceIte, Nat.reduceEqDiff, reduceCtorEq, Nat.reduceAdd, Nat.reduceSub, Nat.reduceLT, decide_true, decide_false, Bool.not_true, Bool.not_false, Int.toNat_one, Int.toNat_zero, Nat.zero_mul, l_g, endK, gd_u]
    exact ⟨_, by (first | exact True.intro | rfl | assumption), .nil, (fun q hq => by cases hq), ho4.keep k2 fun q hq => by cases hq; exact f6⟩
  rw [if_pos hv]
  obtain ⟨v1, v2, -⟩ := valid_true hv
  have hg := goods_of hv hs.2
  have e1 := ev_ldnr hO3
  simp -implicitDefEqProofs (maxSteps := 1000000) (disch := first | omega | assumption) only [hv, e1, Sx, reduceIte, Nat.reduceEqDiff, reduceCtorEq, Nat.reduceAdd, Nat.reduceSub, Nat.reduceLT, decide_true, decide_false, Bool.not_true, Bool.not_false, Int.toNat_one, Int.toNat_zero, Nat.zero_mul, l_g, endK, gd_u]
  refine a_call (some_spec (a := 386) (p := 4) hl (by omega) (k2.row hr) hg (by omega)) ?_
  rintro e H4 ⟨rfl, k4⟩
  have hO3 := Own.keep hO3 k4
  have hO6 := Own.keep hO6 k4
  have k4 := k2.trans k4
  have hF := fillR_len (k := 4) hl hg (a := 386) (l := l) (by omega)
  simp -implicitDefEqProofs (maxSteps := 1000000) (disch := first | omega | assumption) only [Sx, reduceIte, Nat.reduceEqDiff, reduceCtorEq, Nat.reduceAdd, Nat.reduceSub, Nat.reduceLT, decide_true, decide_false, Bool.not_true, Bool.not_false, Int.toNat_one, Int.toNat_zero, Nat.zero_mul, l_g, endK, gd_u]
  refine a_newr ?_
  intro r9 H5 hO9 k5 hr9
  have n96 : r9 ≠ r6 := by rintro rfl; exact hO6.known (r := r9) rfl hr9
  have f9 : H r9 = none := k4.none hr9
  have hO6 := Own.keep hO6 k5
  have k5 := k4.trans k5
  have oK : ∀ {Ha Hb : Heap}, Keep H Ha → Oth Ha (sl r9) Hb → Keep H Hb := fun hK ho => ho.keep hK fun q hq => by cases hq; exact f9
  have o6 : ∀ {Ha Hb : Heap} {x : List Int}, Re Ha r6 x → Oth Ha (sl r9) Hb → Re Hb r6 x := fun hA ho => hA.only ho fun q hq e => by cases hq; cases e; exact n96 rfl
  simp -implicitDefEqProofs (maxSteps := 1000000) (disch := first | omega | assumption) only [Sx, reduceIte, Nat.reduceEqDiff, reduceCtorEq, Nat.reduceAdd, Nat.reduceSub, Nat.reduceLT, decide_true, decide_false, Bool.not_true, Bool.not_false, Int.toNat_one, Int.toNat_zero, Nat.zero_mul, l_g, endK, gd_u]
  refine a_str hO9 hF ?_
  intro H6 hO9 ho6
  have k6 := oK k5 ho6
  have hO6 := o6 hO6 ho6
  simp -implicitDefEqProofs (maxSteps := 1000000) (disch := first | omega | assumption) only [Sx, reduceIte, Nat.reduceEqDiff, reduceCtorEq, Nat.reduceAdd, Nat.reduceSub, Nat.reduceLT, decide_true, decide_false, Bool.not_true, Bool.not_false, Int.toNat_one, Int.toNat_zero, Nat.zero_mul, l_g, endK, gd_u]
  refine a_lits (sz := 2) (cells := #[]) rfl rfl ?_
  intro re H7 hOe k7 hre
  have hO9 := Own.keep hO9 k7
  have hO6 := Own.keep hO6 k7
  have k7 := k6.trans k7
  -- from here on: rest is the list behind the fourth
  have fin : ∀ (env : Env) (A2 : Option Addr) (c2 : Nat) (L : List Rg), L = l.drop 4 → Row H A2 (rgs L) → L.length ≤ c2 → env 2 = .int .i64 size → env 3 = .pointer (some ⟨r3, 0, none⟩) → env 6 = .pointer (some ⟨r6, 0, none⟩) → env 9 = .pointer (some ⟨r9, 0, none⟩) → env 10 = .bool true → env 11 = .slice A2 L.length c2 →
      awpC Tryd.prog L18_3 (retQ [RV.c 6 (some 512), .t 7, .t 8] fun e H' => ∃ v, e = .returned (.tuple #[.agg (by8 (ow ((fillR r 386 l 4).set 482 (flagV (l.drop 4))) 483 (num size))).toArray, v, .int .i64 0]) ∧ Om H' v (moreV (l.drop 4)) ∧ Fresh H v ∧ Keep H H') (fun ch H' => ∃ v, False ∧ Om H' v (moreV (l.drop 4)) ∧ Fresh H v ∧ Keep H H') env H7 := by
    intro env A2 c2 L hL hrL hcL g2 g3 g6 g9 g10 g11
    have hLb : L.length ≤ 65536 := by rw [hL, List.length_drop]; omega
    have hgL : Goods L := by rw [hL]; exact hg.drop 4
    rw [← hL]
    have t482 : (482 : Int).toNat = 482 := rfl
    unfold L18_3
    simp -implicitDefEqProofs (maxSteps := 1000000) (disch := first | omega | assumption) only [g2, g3, g6, g9, g10, g11, t482, Sx, reduceIte, Nat.reduceEqDiff, reduceCtorEq, Nat.reduceAdd, Nat.reduceSub, Nat.reduceLT, decide_true, decide_false, Bool.not_true, Bool.not_false, Int.toNat_one, Int.toNat_zero, Nat.zero_mul, l_g, endK, gd_u]
    refine a_putr hO9 (j := 482) (by omega) ?_
    intro H8 hO9 ho8
    have k8 := oK k7 ho8
    have hO6 := o6 hO6 ho8
    obtain ⟨X1, hX1⟩ : ∃ X1, X1 = (fillR r 386 l 4).set 482 (flagV L) := ⟨_, rfl⟩
    have hX1l : X1.length = 512 := by rw [hX1, List.length_set]; exact hF
    -- behind the flag
    have fin2 : ∀ (env : Env) (Hx : Heap), Re Hx r9 X1 → Re Hx r6 Z512 → Keep H Hx → env 2 = .int .i64 size → env 3 = .pointer (some ⟨r3, 0, none⟩) → env 6 = .pointer (some ⟨r6, 0, none⟩) → env 9 = .pointer (some ⟨r9, 0, none⟩) → env 10 = .bool true → env 11 = .slice A2 L.length c2 →
        awpC Tryd.prog L18_2 (retQ [RV.c 6 (some 512), .t 7, .t 8] fun e H' => ∃ v, e = .returned (.tuple #[.agg (by8 (ow ((fillR r 386 l 4).set 482 (flagV L)) 483 (num size))).toArray, v, .int .i64 0]) ∧ Om H' v (moreV L) ∧ Fresh H v ∧ Keep H H') (fun ch H' => ∃ v, False ∧ Om H' v (moreV L) ∧ Fresh H v ∧ Keep H H') env Hx := by
      intro env Hx hO9 hO6 kx g2 g3 g6 g9 g10 g11
      rw [← hX1]
      have t483 : (483 : Int).toNat = 483 := rfl
      unfold L18_2
      have e9 := ev_ldnr hO9
      simp -implicitDefEqProofs (maxSteps := 1000000) (disch := first | omega | assumption) only [g2, g3, g6, g9, g10, g11, e9, Sx, reduceIte, Nat.reduceEqDiff, reduceCtorEq, Nat.reduceAdd, Nat.reduceSub, Nat.reduceLT, decide_true, decide_false, Bool.not_true, Bool.not_false, Int.toNat_one, Int.toNat_zero, Nat.zero_mul, l_g, endK, gd_u]
      refine a_call (rputn_spec (a := 483) hX1l (by omega) ⟨v1, hs.2⟩) ?_
      rintro e Hy ⟨rfl, ky⟩
      simp -implicitDefEqProofs (maxSteps := 1000000) (disch := first | omega | assumption) only [g2, g3, g6, g9, g10, g11, Sx, reduceIte, Nat.reduceEqDiff, reduceCtorEq, Nat.reduceAdd, Nat.reduceSub, Nat.reduceLT, decide_true, decide_false, Bool.not_true, Bool.not_false, Int.toNat_one, Int.toNat_zero, Nat.zero_mul, l_g, endK, gd_u]
      obtain ⟨X2, hX2⟩ : ∃ X2, X2 = ow X1 483 (num size) := ⟨_, rfl⟩
      rw [← hX2]
      have hX2l : X2.length = 512 := by rw [hX2, ow_len (by rw [(num_ok ⟨v1, hs.2⟩).2]; omega)]; exact hX1l
      refine a_str (Own.keep hO9 ky) hX2l ?_
      intro Hz hO9 hoz
      have kz := oK (kx.trans ky) hoz
      have hO6 := o6 (Own.keep hO6 ky) hoz
      have hrz : Row Hz A2 (rgs L) := kz.row hrL
      simp -implicitDefEqProofs (maxSteps := 1000000) (disch := first | omega | assumption) only [g2, g3, g6, g9, g10, g11, Sx, reduceIte, Nat.reduceEqDiff, reduceCtorEq, Nat.reduceAdd, Nat.reduceSub, Nat.reduceLT, decide_true, decide_false, Bool.not_true, Bool.not_false, Int.toNat_one, Int.toNat_zero, Nat.zero_mul, l_g, endK, gd_u]
      refine a_lits (sz := 512) (cells := #[]) rfl rfl ?_
      intro rm H9 hOm k9 hrm
      have hO9z := hO9
      have hO6z := hO6
      have hO9 := Own.keep hO9 k9
      have hO6 := Own.keep hO6 k9
      have hrz := k9.row hrz
      have k9z := k9
      have k9 := kz.trans k9
      have frm : H rm = none := kz.none hrm
      simp -implicitDefEqProofs (maxSteps := 1000000) (disch := first | omega | assumption) only [g2, g3, g6, g9, g10, g11, Sx, reduceIte, Nat.reduceEqDiff, reduceCtorEq, Nat.reduceAdd, Nat.reduceSub, Nat.reduceLT, decide_true, decide_false, Bool.not_true, Bool.not_false, Int.toNat_one, Int.toNat_zero, Nat.zero_mul, l_g, endK, gd_u]
      refine c_loop (fun k env H' => ∃ A' c' L' v M, k = L'.length ∧ L'.length ≤ 65536 ∧ env 11 = .slice A' L'.length c' ∧ L'.length ≤ c' ∧ Row H9 A' (rgs L') ∧ Goods L' ∧ env 3 = .pointer (some ⟨r3, 0, none⟩) ∧ env 6 = .pointer (some ⟨r6, 0, none⟩) ∧ env 9 = .pointer (some ⟨r9, 0, none⟩) ∧ env 10 = .bool true ∧ env 13 = v ∧ Om H' v M ∧ (∀ x ∈ M, x.length = 512) ∧ M.length + L'.length ≤ 65536 ∧ M ++ moreV L' = moreV L ∧ Keep Hz H' ∧ Fresh Hz v ∧ (∀ Hb, Keep H9 Hb → Row Hb A' (rgs L')) ∧ (∀ Hb, Keep Hz Hb → Row Hb A' (rgs L'))) L.length
        ⟨_, _, L, _, [], rfl, hLb, by (first | exact True.intro | rfl | assumption), hcL, hrz, hgL, by (first | exact True.intro | rfl | assumption), by (first | exact True.intro | rfl | assumption), by (first | exact True.intro | rfl | assumption), by (first | exact True.intro | rfl | assumption), rfl, hOm, (fun x hx => by cases hx), by simp; omega, rfl, k9z, (fun q hq => by cases hq; exact hrm), (fun Hb hb => hb.row hrz), (fun Hb hb => hb.row (kz.row hrL))⟩ ?_
      rintro k env Ha ⟨A', c', L', v, M, rfl, hLb', g11, hcL', hrw, hgg, g3, g6, g9, g10, g13, hOmv, hM, hcnt, hme, ka, hfv, hrw1, hrw2⟩
      unfold L18_1
      by_cases h0 : L'.length = 0
      · have f0 : decide ((0 : Int) < (L'.length : Int)) = false := decide_eq_false (by omega)
        have hsv := hOmv.scalar
        have e9 := ev_ldnr (Own.keep hO9z ka)
        simp -implicitDefEqProofs (maxSteps := 1000000) (disch := first | omega | assumption) only [g3, g6, g9, g10, g11, g13, f0, e9, Sx, reduceIte, Nat.reduceEqDiff, reduceCtorEq, Nat.reduceAdd, Nat.reduceSub, Nat.reduceLT, decide_true, decide_false, Bool.not_true, Bool.not_false, Int.toNat_one, Int.toNat_zero, Nat.zero_mul, l_g, endK, gd_u]
        refine a_str (Own.keep hO6z ka) hX2l ?_
        intro Hb hOb hob
        rw [more_nil h0, List.append_nil] at hme
        subst hme
        simp -implicitDefEqProofs (maxSteps := 1000000) (disch := first | omega | assumption) only [g13, Sx, reduceIte, Nat.reduceEqDiff, reduceCtorEq, Nat.reduceAdd, Nat.reduceSub, Nat.reduceLT, decide_true, decide_false, Bool.not_true, Bool.not_false, Int.toNat_one, Int.toNat_zero, Nat.zero_mul, l_g, endK, gd_u]
        rw [g_re hOb (by simp -implicitDefEqProofs (maxSteps := 1000000) (disch := first | omega | assumption) only [g6, Sx, reduceIte, Nat.reduceEqDiff, reduceCtorEq, Nat.reduceAdd, Nat.reduceSub, Nat.reduceLT, decide_true, decide_false, Bool.not_true, Bool.not_false, Int.toNat_one, Int.toNat_zero, Nat.zero_mul, l_g, endK, gd_u])]
        simp -implicitDefEqProofs (maxSteps := 1000000) (disch := first | omega | assumption) only [g13, Sx, reduceIte, Nat.reduceEqDiff, reduceCtorEq, Nat.reduceAdd, Nat.reduceSub, Nat.reduceLT, decide_true, decide_false, Bool.not_true, Bool.not_false, Int.toNat_one, Int.toNat_zero, Nat.zero_mul, l_g, endK, gd_u]
        exact ⟨v, by (first | exact True.intro | rfl | assumption), hOmv.only hob fun q hq e => by
          cases e
          exact hO6z.known (r := r6) rfl (hfv r6 hq), hfv.keep kz, hob.keep (kz.trans ka) fun q hq => by cases hq; exact f6⟩
      have f0 : decide ((0 : Int) < (L'.length : Int)) = true := decide_eq_true (by omega)
      have eb := ev_bz (H := Ha)
      simp -implicitDefEqProofs (maxSteps := 1000000) (disch := first | omega | assumption) only [g3, g6, g9, g10, g11, g13, f0, eb, Sx, reduceIte, Nat.reduceEqDiff, reduceCtorEq, Nat.reduceAdd, Nat.reduceSub, Nat.reduceLT, decide_true, decide_false, Bool.not_true, Bool.not_false, Int.toNat_one, Int.toNat_zero, Nat.zero_mul, l_g, endK, gd_u]
      refine a_call (some_spec (a := 0) (p := 21) z512_len (by omega) (hrw2 _ ka) hgg (by omega)) ?_
      rintro e Hb ⟨rfl, kb⟩
      have hFn := fillR_len (k := 21) z512_len hgg (a := 0) (l := L') (by omega)
      simp -implicitDefEqProofs (maxSteps := 1000000) (disch := first | omega | assumption) only [g3, g6, g9, g10, g11, g13, Sx, reduceIte, Nat.reduceEqDiff, reduceCtorEq, Nat.reduceAdd, Nat.reduceSub, Nat.reduceLT, decide_true, decide_false, Bool.not_true, Bool.not_false, Int.toNat_one, Int.toNat_zero, Nat.zero_mul, l_g, endK, gd_u]
      refine a_newr ?_
      intro r14 Hc hOn kc hrn
      have fnz : Hz r14 = none := (ka.trans kb).none hrn
      have fna : Ha r14 = none := kb.none hrn
      simp -implicitDefEqProofs (maxSteps := 1000000) (disch := first | omega | assumption) only [g3, g6, g9, g10, g11, g13, Sx, reduceIte, Nat.reduceEqDiff, reduceCtorEq, Nat.reduceAdd, Nat.reduceSub, Nat.reduceLT, decide_true, decide_false, Bool.not_true, Bool.not_false, Int.toNat_one, Int.toNat_zero, Nat.zero_mul, l_g, endK, gd_u]
      refine a_str hOn hFn ?_
      intro Hd hOn hod
      have kd : Keep Hz Hd := hod.keep ((ka.trans kb).trans kc) fun q hq => by cases hq; exact fnz
      have kad : Keep Ha Hd := hod.keep (kb.trans kc) fun q hq => by cases hq; exact fna
      have t504 : (504 : Int).toNat = 504 := rfl
      have t21 : (21 : Int).toNat = 21 := rfl
      obtain ⟨Y, hY⟩ : ∃ Y, Y = (fillR Z512 0 L' 21).set 504 (flagV (L'.drop 21)) := ⟨_, rfl⟩
      have hYl : Y.length = 512 := by rw [hY, List.length_set]; exact hFn
      -- the record is kept
      have fin3 : ∀ (env : Env) (He : Heap) (A'' : Option Addr) (c'' : Nat) (L'' : List Rg), L'' = L'.drop 21 → L''.length ≤ c'' → (∀ Hb, Keep H9 Hb → Row Hb A'' (rgs L'')) → (∀ Hb, Keep Hz Hb → Row Hb A'' (rgs L'')) → Re He r14 Y → Keep Hz He → Keep Ha He → env 3 = .pointer (some ⟨r3, 0, none⟩) → env 6 = .pointer (some ⟨r6, 0, none⟩) → env 9 = .pointer (some ⟨r9, 0, none⟩) → env 10 = .bool true → env 11 = .slice A'' L''.length c'' → env 13 = v → env 14 = .pointer (some ⟨r14, 0, none⟩) →
          ∀ (Q : Post) (QP : List PanicEntry → Heap → Prop), (∀ env' Hf v', env' 3 = env 3 → env' 6 = env 6 → env' 9 = env 9 → env' 10 = env 10 → env' 11 = env 11 → env' 13 = v' → Om Hf v' (M ++ [Y]) → Keep Hz Hf → Fresh Hz v' → Q .normal env' Hf) → awpC Tryd.prog L18_0 Q QP env He := by
        intro env He A'' c'' L'' hL'' hcc h1 h2 hOy kze kae z3 z6 z9 z10 z11 z13 z14 Q QP hQ
        have hsv := hOmv.scalar
        have eY := ev_ldnr hOy
        unfold L18_0
        simp -implicitDefEqProofs (maxSteps := 1000000) (disch := first | omega | assumption) only [z3, z6, z9, z10, z11, z13, z14, eY, Sx, reduceIte, Nat.reduceEqDiff, reduceCtorEq, Nat.reduceAdd, Nat.reduceSub, Nat.reduceLT, decide_true, decide_false, Bool.not_true, Bool.not_false, Int.toNat_one, Int.toNat_zero, Nat.zero_mul, l_g, endK, gd_u]
        refine lits_re hYl ?_
        intro rl Hg hOl ke hrl
        simp -implicitDefEqProofs (maxSteps := 1000000) (disch := first | omega | assumption) only [z13, Sx, reduceIte, Nat.reduceEqDiff, reduceCtorEq, Nat.reduceAdd, Nat.reduceSub, Nat.reduceLT, decide_true, decide_false, Bool.not_true, Bool.not_false, Int.toNat_one, Int.toNat_zero, Nat.zero_mul, l_g, endK, gd_u]
        refine push_re (Own.keep (Own.keep hOmv kae) ke) hM hYl (by omega) hOl ?_
        intro v' Hf hOf hof hmv
        have kf0 := kze.trans ke
        have hmf : Fresh Hz v' := hmv.fresh kf0 hfv
        have hsv := hOf.scalar
        simp -implicitDefEqProofs (maxSteps := 1000000) (disch := first | omega | assumption) only [z13, Sx, reduceIte, Nat.reduceEqDiff, reduceCtorEq, Nat.reduceAdd, Nat.reduceSub, Nat.reduceLT, decide_true, decide_false, Bool.not_true, Bool.not_false, Int.toNat_one, Int.toNat_zero, Nat.zero_mul, l_g, endK, gd_u]
        exact hQ _ _ v' (by (first | exact True.intro | rfl | assumption)) (by (first | exact True.intro | rfl | assumption)) (by (first | exact True.intro | rfl | assumption)) (by (first | exact True.intro | rfl | assumption)) (by (first | exact True.intro | rfl | assumption)) (by (first | exact True.intro | rfl | assumption)) hOf (hof.keep kf0 (fun q hq => hfv q hq)) hmf
      by_cases h21 : 21 < L'.length
      · have f1 : decide ((21 : Int) < (L'.length : Int)) = true := decide_eq_true (by omega)
        have hfl : flagV (L'.drop 21) = 1 := by unfold flagV; rw [if_pos (by rw [List.length_drop]; omega)]
        rw [hfl] at hY
        simp -implicitDefEqProofs (maxSteps := 1000000) (disch := first | omega | assumption) only [g3, g6, g9, g10, g11, g13, f1, t504, Sx, reduceIte, Nat.reduceEqDiff, reduceCtorEq, Nat.reduceAdd, Nat.reduceSub, Nat.reduceLT, decide_true, decide_false, Bool.not_true, Bool.not_false, Int.toNat_one, Int.toNat_zero, Nat.zero_mul, l_g, endK, gd_u]
        refine a_putr hOn (j := 504) (by omega) ?_
        intro He hOn hoe
        rw [← hY] at hOn
        simp -implicitDefEqProofs (maxSteps := 1000000) (disch := first | omega | assumption) only [g3, g6, g9, g10, g11, g13, t21, ev_slc_lo, Sx, reduceIte, Nat.reduceEqDiff, reduceCtorEq, Nat.reduceAdd, Nat.reduceSub, Nat.reduceLT, decide_true, decide_false, Bool.not_true, Bool.not_false, Int.toNat_one, Int.toNat_zero, Nat.zero_mul, l_g, endK, gd_u]
        refine fin3 _ He (cutA A' c' 21 2) (c' - 21) (L'.drop 21) rfl (by rw [List.length_drop]; omega) (fun Hb hb => rrow_drop (hrw1 _ hb) hcL') (fun Hb hb => rrow_drop (hrw2 _ hb) hcL') hOn (hoe.keep kd fun q hq => by cases hq; exact fnz) (hoe.keep kad fun q hq => by cases hq; exact fna) (by simp -implicitDefEqProofs (maxSteps := 1000000) (disch := first | omega | assumption) only [g3, Sx, reduceIte, Nat.reduceEqDiff, reduceCtorEq, Nat.reduceAdd, Nat.reduceSub, Nat.reduceLT, decide_true, decide_false, Bool.not_true, Bool.not_false, Int.toNat_one, Int.toNat_zero, Nat.zero_mul, l_g, endK, gd_u]) (by simp -implicitDefEqProofs (maxSteps := 1000000) (disch := first | omega | assumption) only [g6, Sx, reduceIte, Nat.reduceEqDiff, reduceCtorEq, Nat.reduceAdd, Nat.reduceSub, Nat.reduceLT, decide_true, decide_false, Bool.not_true, Bool.not_false, Int.toNat_one, Int.toNat_zero, Nat.zero_mul, l_g, endK, gd_u]) (by simp -implicitDefEqProofs (maxSteps := 1000000) (disch := first | omega | assumption) only [g9, Sx, reduceIte, Nat.reduceEqDiff, reduceCtorEq, Nat.reduceAdd, Nat.reduceSub, Nat.reduceLT, decide_true, decide_false, Bool.not_true, Bool.not_false, Int.toNat_one, Int.toNat_zero, Nat.zero_mul, l_g, endK, gd_u]) (by simp -implicitDefEqProofs (maxSteps := 1000000) (disch := first | omega | assumption) only [g10, Sx, reduceIte, Nat.reduceEqDiff, reduceCtorEq, Nat.reduceAdd, Nat.reduceSub, Nat.reduceLT, decide_true, decide_false, Bool.not_true, Bool.not_false, Int.toNat_one, Int.toNat_zero, Nat.zero_mul, l_g, endK, gd_u]) (by simp -implicitDefEqProofs (maxSteps := 1000000) (disch := first | omega | assumption) only [Sx, reduceIte, Nat.reduceEqDiff, reduceCtorEq, Nat.reduceAdd, Nat.reduceSub, Nat.reduceLT, decide_true, decide_false, Bool.not_true, Bool.not_false, Int.toNat_one, Int.toNat_zero, Nat.zero_mul, l_g, endK, gd_u]; rw [List.length_drop]) (by simp -implicitDefEqProofs (maxSteps := 1000000) (disch := first | omega | assumption) only [g13, Sx, reduceIte, Nat.reduceEqDiff, reduceCtorEq, Nat.reduceAdd, Nat.reduceSub, Nat.reduceLT, decide_true, decide_false, Bool.not_true, Bool.not_false, Int.toNat_one, Int.toNat_zero, Nat.zero_mul, l_g, endK, gd_u]) (by simp -implicitDefEqProofs (maxSteps := 1000000) (disch := first | omega | assumption) only [Sx, reduceIte, Nat.reduceEqDiff, reduceCtorEq, Nat.reduceAdd, Nat.reduceSub, Nat.reduceLT, decide_true, decide_false, Bool.not_true, Bool.not_false, Int.toNat_one, Int.toNat_zero, Nat.zero_mul, l_g, endK, gd_u]) _ _ ?_
        intro env' Hf v' y3 y6 y9 y10 y11 y13 hOf kf hmf
        try simp -implicitDefEqProofs (maxSteps := 1000000) (disch := first | omega | assumption) only [Sx, reduceIte, Nat.reduceEqDiff, reduceCtorEq, Nat.reduceAdd, Nat.reduceSub, Nat.reduceLT, decide_true, decide_false, Bool.not_true, Bool.not_false, Int.toNat_one, Int.toNat_zero, Nat.zero_mul, l_g, endK, gd_u]
        refine ⟨_, ?_, _, _, L'.drop 21, v', M ++ [Y], rfl, by rw [List.length_drop]; omega, y11.trans (by simp -implicitDefEqProofs (maxSteps := 1000000) (disch := first | omega | assumption) only [Sx, reduceIte, Nat.reduceEqDiff, reduceCtorEq, Nat.reduceAdd, Nat.reduceSub, Nat.reduceLT, decide_true, decide_false, Bool.not_true, Bool.not_false, Int.toNat_one, Int.toNat_zero, Nat.zero_mul, l_g, endK, gd_u]; rw [List.length_drop]), by rw [List.length_drop]; omega, rrow_drop (hrw1 _ (Keep.refl _)) hcL', hgg.drop 21, y3.trans (by simp -implicitDefEqProofs (maxSteps := 1000000) (disch := first | omega | assumption) only [g3, Sx, reduceIte, Nat.reduceEqDiff, reduceCtorEq, Nat.reduceAdd, Nat.reduceSub, Nat.reduceLT, decide_true, decide_false, Bool.not_true, Bool.not_false, Int.toNat_one, Int.toNat_zero, Nat.zero_mul, l_g, endK, gd_u]), y6.trans (by simp -implicitDefEqProofs (maxSteps := 1000000) (disch := first | omega | assumption) only [g6, Sx, reduceIte, Nat.reduceEqDiff, reduceCtorEq, Nat.reduceAdd, Nat.reduceSub, Nat.reduceLT, decide_true, decide_false, Bool.not_true, Bool.not_false, Int.toNat_one, Int.toNat_zero, Nat.zero_mul, l_g, endK, gd_u]), y9.trans (by simp -implicitDefEqProofs (maxSteps := 1000000) (disch := first | omega | assumption) only [g9, Sx, reduceIte, Nat.reduceEqDiff, reduceCtorEq, Nat.reduceAdd, Nat.reduceSub, Nat.reduceLT, decide_true, decide_false, Bool.not_true, Bool.not_false, Int.toNat_one, Int.toNat_zero, Nat.zero_mul, l_g, endK, gd_u]), y10.trans (by simp -implicitDefEqProofs (maxSteps := 1000000) (disch := first | omega | assumption) only [g10, Sx, reduceIte, Nat.reduceEqDiff, reduceCtorEq, Nat.reduceAdd, Nat.reduceSub, Nat.reduceLT, decide_true, decide_false, Bool.not_true, Bool.not_false, Int.toNat_one, Int.toNat_zero, Nat.zero_mul, l_g, endK, gd_u]), y13, hOf, ?_, ?_, ?_, kf, hmf, fun Hb hb => rrow_drop (hrw1 _ hb) hcL', fun Hb hb => rrow_drop (hrw2 _ hb) hcL'⟩
        · rw [List.length_drop]; omega
        · intro x hx
          rcases List.mem_append.1 hx with hx | hx
          · exact hM x hx
          · rw [List.mem_singleton.1 hx]; exact hYl
        · rw [List.length_append, List.length_drop, List.length_singleton]; omega
        · rw [← hme, more_cons h0, hY, hfl]; simp
      · have f1 : decide ((21 : Int) < (L'.length : Int)) = false := decide_eq_false (by omega)
        have hdr : L'.drop 21 = [] := List.drop_of_length_le (by omega)
        have hfl : flagV (L'.drop 21) = 0 := by rw [hdr]; rfl
        have hY0 : Y = fillR Z512 0 L' 21 := by rw [hY, hfl, fill_504 hgg]
        rw [← hY0] at hOn
        simp -implicitDefEqProofs (maxSteps := 1000000) (disch := first | omega | assumption) only [g3, g6, g9, g10, g11, g13, f1, Sx, reduceIte, Nat.reduceEqDiff, reduceCtorEq, Nat.reduceAdd, Nat.reduceSub, Nat.reduceLT, decide_true, decide_false, Bool.not_true, Bool.not_false, Int.toNat_one, Int.toNat_zero, Nat.zero_mul, l_g, endK, gd_u]
        refine fin3 _ Hd none 0 [] hdr.symm (Nat.le_refl _) (fun Hb hb i v h => by simp [encs] at h) (fun Hb hb i v h => by simp [encs] at h) hOn kd kad (by simp -implicitDefEqProofs (maxSteps := 1000000) (disch := first | omega | assumption) only [g3, Sx, reduceIte, Nat.reduceEqDiff, reduceCtorEq, Nat.reduceAdd, Nat.reduceSub, Nat.reduceLT, decide_true, decide_false, Bool.not_true, Bool.not_false, Int.toNat_one, Int.toNat_zero, Nat.zero_mul, l_g, endK, gd_u]) (by simp -implicitDefEqProofs (maxSteps := 1000000) (disch := first | omega | assumption) only [g6, Sx, reduceIte, Nat.reduceEqDiff, reduceCtorEq, Nat.reduceAdd, Nat.reduceSub, Nat.reduceLT, decide_true, decide_false, Bool.not_true, Bool.not_false, Int.toNat_one, Int.toNat_zero, Nat.zero_mul, l_g, endK, gd_u]) (by simp -implicitDefEqProofs (maxSteps := 1000000) (disch := first | omega | assumption) only [g9, Sx, reduceIte, Nat.reduceEqDiff, reduceCtorEq, Nat.reduceAdd, Nat.reduceSub, Nat.reduceLT, decide_true, decide_false, Bool.not_true, Bool.not_false, Int.toNat_one, Int.toNat_zero, Nat.zero_mul, l_g, endK, gd_u]) (by simp -implicitDefEqProofs (maxSteps := 1000000) (disch := first | omega | assumption) only [g10, Sx, reduceIte, Nat.reduceEqDiff, reduceCtorEq, Nat.reduceAdd, Nat.reduceSub, Nat.reduceLT, decide_true, decide_false, Bool.not_true, Bool.not_false, Int.toNat_one, Int.toNat_zero, Nat.zero_mul, l_g, endK, gd_u]) (by simp -implicitDefEqProofs (maxSteps := 1000000) (disch := first | omega | assumption) only [Sx, reduceIte, Nat.reduceEqDiff, reduceCtorEq, Nat.reduceAdd, Nat.reduceSub, Nat.reduceLT, decide_true, decide_false, Bool.not_true, Bool.not_false, Int.toNat_one, Int.toNat_zero, Nat.zero_mul, l_g, endK, gd_u]; try rfl) (by simp -implicitDefEqProofs (maxSteps := 1000000) (disch := first | omega | assumption) only [g13, Sx, reduceIte, Nat.reduceEqDiff, reduceCtorEq, Nat.reduceAdd, Nat.reduceSub, Nat.reduceLT, decide_true, decide_false, Bool.not_true, Bool.not_false, Int.toNat_one, Int.toNat_zero, Nat.zero_mul, l_g, endK, gd_u]) (by simp -implicitDefEqProofs (maxSteps := 1000000) (disch := first | omega | assumption) only [Sx, reduceIte, Nat.reduceEqDiff, reduceCtorEq, Nat.reduceAdd, Nat.reduceSub, Nat.reduceLT, decide_true, decide_false, Bool.not_true, Bool.not_false, Int.toNat_one, Int.toNat_zero, Nat.zero_mul, l_g, endK, gd_u]) _ _ ?_
        intro env' Hf v' y3 y6 y9 y10 y11 y13 hOf kf hmf
        try simp -implicitDefEqProofs (maxSteps := 1000000) (disch := first | omega | assumption) only [Sx, reduceIte, Nat.reduceEqDiff, reduceCtorEq, Nat.reduceAdd, Nat.reduceSub, Nat.reduceLT, decide_true, decide_false, Bool.not_true, Bool.not_false, Int.toNat_one, Int.toNat_zero, Nat.zero_mul, l_g, endK, gd_u]
        refine ⟨_, ?_, none, 0, [], v', M ++ [Y], rfl, by simp, y11.trans (by simp -implicitDefEqProofs (maxSteps := 1000000) (disch := first | omega | assumption) only [Sx, reduceIte, Nat.reduceEqDiff, reduceCtorEq, Nat.reduceAdd, Nat.reduceSub, Nat.reduceLT, decide_true, decide_false, Bool.not_true, Bool.not_false, Int.toNat_one, Int.toNat_zero, Nat.zero_mul, l_g, endK, gd_u]; try rfl), Nat.le_refl _, (fun i v h => by simp [encs] at h), (fun x hx => by cases hx), y3.trans (by simp -implicitDefEqProofs (maxSteps := 1000000) (disch := first | omega | assumption) only [g3, Sx, reduceIte, Nat.reduceEqDiff, reduceCtorEq, Nat.reduceAdd, Nat.reduceSub, Nat.reduceLT, decide_true, decide_false, Bool.not_true, Bool.not_false, Int.toNat_one, Int.toNat_zero, Nat.zero_mul, l_g, endK, gd_u]), y6.trans (by simp -implicitDefEqProofs (maxSteps := 1000000) (disch := first | omega | assumption) only [g6, Sx, reduceIte, Nat.reduceEqDiff, reduceCtorEq, Nat.reduceAdd, Nat.reduceSub, Nat.reduceLT, decide_true, decide_false, Bool.not_true, Bool.not_false, Int.toNat_one, Int.toNat_zero, Nat.zero_mul, l_g, endK, gd_u]), y9.trans (by simp -implicitDefEqProofs (maxSteps := 1000000) (disch := first | omega | assumption) only [g9, Sx, reduceIte, Nat.reduceEqDiff, reduceCtorEq, Nat.reduceAdd, Nat.reduceSub, Nat.reduceLT, decide_true, decide_false, Bool.not_true, Bool.not_false, Int.toNat_one, Int.toNat_zero, Nat.zero_mul, l_g, endK, gd_u]), y10.trans (by simp -implicitDefEqProofs (maxSteps := 1000000) (disch := first | omega | assumption) only [g10, Sx, reduceIte, Nat.reduceEqDiff, reduceCtorEq, Nat.reduceAdd, Nat.reduceSub, Nat.reduceLT, decide_true, decide_false, Bool.not_true, Bool.not_false, Int.toNat_one, Int.toNat_zero, Nat.zero_mul, l_g, endK, gd_u]), y13, hOf, ?_, ?_, ?_, kf, hmf, (fun Hb hb i v h => by simp [encs] at h), (fun Hb hb i v h => by simp [encs] at h)⟩
        · simp only [List.length_nil]; omega
        · intro x hx
          rcases List.mem_append.1 hx with hx | hx
          · exact hM x hx
          · rw [List.mem_singleton.1 hx]; exact hYl
        · rw [List.length_append, List.length_nil, List.length_singleton]; omega
        · rw [← hme, more_cons h0, hY, hdr]; simp
    by_cases hf : 0 < L.length
    · have f5 : decide ((0 : Int) < (L.length : Int)) = true := decide_eq_true (by omega)
      have hfl : flagV L = 1 := by unfold flagV; rw [if_pos hf]
      simp -implicitDefEqProofs (maxSteps := 1000000) (disch := first | omega | assumption) only [g2, g3, g6, g9, g10, g11, f5, t482, Sx, reduceIte, Nat.reduceEqDiff, reduceCtorEq, Nat.reduceAdd, Nat.reduceSub, Nat.reduceLT, decide_true, decide_false, Bool.not_true, Bool.not_false, Int.toNat_one, Int.toNat_zero, Nat.zero_mul, l_g, endK, gd_u]
      refine a_putr hO9 (j := 482) (by rw [List.length_set]; omega) ?_
      intro Hx hO9 hox
      rw [set_set] at hO9
      rw [hfl] at hX1
      rw [← hX1] at hO9
      try simp -implicitDefEqProofs (maxSteps := 1000000) (disch := first | omega | assumption) only [Sx, reduceIte, Nat.reduceEqDiff, reduceCtorEq, Nat.reduceAdd, Nat.reduceSub, Nat.reduceLT, decide_true, decide_false, Bool.not_true, Bool.not_false, Int.toNat_one, Int.toNat_zero, Nat.zero_mul, l_g, endK, gd_u]
      exact fin2 _ _ hO9 (o6 hO6 hox) (oK k8 hox) (by simp -implicitDefEqProofs (maxSteps := 1000000) (disch := first | omega | assumption) only [g2, Sx, reduceIte, Nat.reduceEqDiff, reduceCtorEq, Nat.reduceAdd, Nat.reduceSub, Nat.reduceLT, decide_true, decide_false, Bool.not_true, Bool.not_false, Int.toNat_one, Int.toNat_zero, Nat.zero_mul, l_g, endK, gd_u]) (by simp -implicitDefEqProofs (maxSteps := 1000000) (disch := first | omega | assumption) only [g3, Sx, reduceIte, Nat.reduceEqDiff, reduceCtorEq, Nat.reduceAdd, Nat.reduceSub, Nat.reduceLT, decide_true, decide_false, Bool.not_true, Bool.not_false, Int.toNat_one, Int.toNat_zero, Nat.zero_mul, l_g, endK, gd_u]) (by simp -implicitDefEqProofs (maxSteps := 1000000) (disch := first | omega | assumption) only [g6, Sx, reduceIte, Nat.reduceEqDiff, reduceCtorEq, Nat.reduceAdd, Nat.reduceSub, Nat.reduceLT, decide_true, decide_false, Bool.not_true, Bool.not_false, Int.toNat_one, Int.toNat_zero, Nat.zero_mul, l_g, endK, gd_u]) (by simp -implicitDefEqProofs (maxSteps := 1000000) (disch := first | omega | assumption) only [g9, Sx, reduceIte, Nat.reduceEqDiff, reduceCtorEq, Nat.reduceAdd, Nat.reduceSub, Nat.reduceLT, decide_true, decide_false, Bool.not_true, Bool.not_false, Int.toNat_one, Int.toNat_zero, Nat.zero_mul, l_g, endK, gd_u]) (by simp -implicitDefEqProofs (maxSteps := 1000000) (disch := first | omega | assumption) only [g10, Sx, reduceIte, Nat.reduceEqDiff, reduceCtorEq, Nat.reduceAdd, Nat.reduceSub, Nat.reduceLT, decide_true, decide_false, Bool.not_true, Bool.not_false, Int.toNat_one, Int.toNat_zero, Nat.zero_mul, l_g, endK, gd_u]) (by simp -implicitDefEqProofs (maxSteps := 1000000) (disch := first | omega | assumption) only [g11, Sx, reduceIte, Nat.reduceEqDiff, reduceCtorEq, Nat.reduceAdd, Nat.reduceSub, Nat.reduceLT, decide_true, decide_false, Bool.not_true, Bool.not_false, Int.toNat_one, Int.toNat_zero, Nat.zero_mul, l_g, endK, gd_u])
    · have f5 : decide ((0 : Int) < (L.length : Int)) = false := decide_eq_false (by omega)
      have hfl : flagV L = 0 := by unfold flagV; rw [if_neg hf]
      rw [hfl] at hX1
      rw [← hX1] at hO9
      simp -implicitDefEqProofs (maxSteps := 1000000) (disch := first | omega | assumption) only [g2, g3, g6, g9, g10, g11, f5, Sx, reduceIte, Nat.reduceEqDiff, reduceCtorEq, Nat.reduceAdd, Nat.reduceSub, Nat.reduceLT, decide_true, decide_false, Bool.not_true, Bool.not_false, Int.toNat_one, Int.toNat_zero, Nat.zero_mul, l_g, endK, gd_u]
      exact fin2 _ _ hO9 hO6 k8 (by simp -implicitDefEqProofs (maxSteps := 1000000) (disch := first | omega | assumption) only [g2, Sx, reduceIte, Nat.reduceEqDiff, reduceCtorEq, Nat.reduceAdd, Nat.reduceSub, Nat.reduceLT, decide_true, decide_false, Bool.not_true, Bool.not_false, Int.toNat_one, Int.toNat_zero, Nat.zero_mul, l_g, endK, gd_u]) (by simp -implicitDefEqProofs (maxSteps := 1000000) (disch := first | omega | assumption) only [g3, Sx, reduceIte, Nat.reduceEqDiff, reduceCtorEq, Nat.reduceAdd, Nat.reduceSub, Nat.reduceLT, decide_true, decide_false, Bool.not_true, Bool.not_false, Int.toNat_one, Int.toNat_zero, Nat.zero_mul, l_g, endK, gd_u]) (by simp -implicitDefEqProofs (maxSteps := 1000000) (disch := first | omega | assumption) only [g6, Sx, reduceIte, Nat.reduceEqDiff, reduceCtorEq, Nat.reduceAdd, Nat.reduceSub, Nat.reduceLT, decide_true, decide_false, Bool.not_true, Bool.not_false, Int.toNat_one, Int.toNat_zero, Nat.zero_mul, l_g, endK, gd_u]) (by simp -implicitDefEqProofs (maxSteps := 1000000) (disch := first | omega | assumption) only [g9, Sx, reduceIte, Nat.reduceEqDiff, reduceCtorEq, Nat.reduceAdd, Nat.reduceSub, Nat.reduceLT, decide_true, decide_false, Bool.not_true, Bool.not_false, Int.toNat_one, Int.toNat_zero, Nat.zero_mul, l_g, endK, gd_u]) (by simp -implicitDefEqProofs (maxSteps := 1000000) (disch := first | omega | assumption) only [g10, Sx, reduceIte, Nat.reduceEqDiff, reduceCtorEq, Nat.reduceAdd, Nat.reduceSub, Nat.reduceLT, decide_true, decide_false, Bool.not_true, Bool.not_false, Int.toNat_one, Int.toNat_zero, Nat.zero_mul, l_g, endK, gd_u]) (by simp -implicitDefEqProofs (maxSteps := 1000000) (disch := first | omega | assumption) only [g11, Sx, reduceIte, Nat.reduceEqDiff, reduceCtorEq, Nat.reduceAdd, Nat.reduceSub, Nat.reduceLT, decide_true, decide_false, Bool.not_true, Bool.not_false, Int.toNat_one, Int.toNat_zero, Nat.zero_mul, l_g, endK, gd_u])
  by_cases h4 : 4 < l.length
  · have f4 : decide ((4 : Int) < (l.length : Int)) = true := decide_eq_true (by omega)
    have t4 : (4 : Int).toNat = 4 := rfl
    simp -implicitDefEqProofs (maxSteps := 1000000) (disch := first | omega | assumption) only [f4, t4, ev_slc_lo, Sx, reduceIte, Nat.reduceEqDiff, reduceCtorEq, Nat.reduceAdd, Nat.reduceSub, Nat.reduceLT, decide_true, decide_false, Bool.not_true, Bool.not_false, Int.toNat_one, Int.toNat_zero, Nat.zero_mul, l_g, endK, gd_u]
    exact fin _ (cutA A c 4 2) (c - 4) (l.drop 4) rfl (rrow_drop hr hcl) (by rw [List.length_drop]; omega) (by simp -implicitDefEqProofs (maxSteps := 1000000) (disch := first | omega | assumption) only [Sx, reduceIte, Nat.reduceEqDiff, reduceCtorEq, Nat.reduceAdd, Nat.reduceSub, Nat.reduceLT, decide_true, decide_false, Bool.not_true, Bool.not_false, Int.toNat_one, Int.toNat_zero, Nat.zero_mul, l_g, endK, gd_u]) (by simp -implicitDefEqProofs (maxSteps := 1000000) (disch := first | omega | assumption) only [Sx, reduceIte, Nat.reduceEqDiff, reduceCtorEq, Nat.reduceAdd, Nat.reduceSub, Nat.reduceLT, decide_true, decide_false, Bool.not_true, Bool.not_false, Int.toNat_one, Int.toNat_zero, Nat.zero_mul, l_g, endK, gd_u]) (by simp -implicitDefEqProofs (maxSteps := 1000000) (disch := first | omega | assumption) only [Sx, reduceIte, Nat.reduceEqDiff, reduceCtorEq, Nat.reduceAdd, Nat.reduceSub, Nat.reduceLT, decide_true, decide_false, Bool.not_true, Bool.not_false, Int.toNat_one, Int.toNat_zero, Nat.zero_mul, l_g, endK, gd_u]) (by simp -implicitDefEqProofs (maxSteps := 1000000) (disch := first | omega | assumption) only [Sx, reduceIte, Nat.reduceEqDiff, reduceCtorEq, Nat.reduceAdd, Nat.reduceSub, Nat.reduceLT, decide_true, decide_false, Bool.not_true, Bool.not_false, Int.toNat_one, Int.toNat_zero, Nat.zero_mul, l_g, endK, gd_u]) (by simp -implicitDefEqProofs (maxSteps := 1000000) (disch := first | omega | assumption) only [Sx, reduceIte, Nat.reduceEqDiff, reduceCtorEq, Nat.reduceAdd, Nat.reduceSub, Nat.reduceLT, decide_true, decide_false, Bool.not_true, Bool.not_false, Int.toNat_one, Int.toNat_zero, Nat.zero_mul, l_g, endK, gd_u]) (by simp -implicitDefEqProofs (maxSteps := 1000000) (disch := first | omega | assumption) only [Sx, reduceIte, Nat.reduceEqDiff, reduceCtorEq, Nat.reduceAdd, Nat.reduceSub, Nat.reduceLT, decide_true, decide_false, Bool.not_true, Bool.not_false, Int.toNat_one, Int.toNat_zero, Nat.zero_mul, l_g, endK, gd_u]; rw [List.length_drop])
  · have f4 : decide ((4 : Int) < (l.length : Int)) = false := decide_eq_false (by omega)
    simp -implicitDefEqProofs (maxSteps := 1000000) (disch := first | omega | assumption) only [f4, Sx, reduceIte, Nat.reduceEqDiff, reduceCtorEq, Nat.reduceAdd, Nat.reduceSub, Nat.reduceLT, decide_true, decide_false, Bool.not_true, Bool.not_false, Int.toNat_one, Int.toNat_zero, Nat.zero_mul, l_g, endK, gd_u]
    exact fin _ _ _ [] (by rw [List.drop_of_length_le (by omega)]) (fun i v h => by simp [encs] at h) (Nat.le_refl _) (by simp -implicitDefEqProofs (maxSteps := 1000000) (disch := first | omega | assumption) only [Sx, reduceIte, Nat.reduceEqDiff, reduceCtorEq, Nat.reduceAdd, Nat.reduceSub, Nat.reduceLT, decide_true, decide_false, Bool.not_true, Bool.not_false, Int.toNat_one, Int.toNat_zero, Nat.zero_mul, l_g, endK, gd_u]) (by simp -implicitDefEqProofs (maxSteps := 1000000) (disch := first | omega | assumption) only [Sx, reduceIte, Nat.reduceEqDiff, reduceCtorEq, Nat.reduceAdd, Nat.reduceSub, Nat.reduceLT, decide_true, decide_false, Bool.not_true, Bool.not_false, Int.toNat_one, Int.toNat_zero, Nat.zero_mul, l_g, endK, gd_u]) (by simp -implicitDefEqProofs (maxSteps := 1000000) (disch := first | omega | assumption) only [Sx, reduceIte, Nat.reduceEqDiff, reduceCtorEq, Nat.reduceAdd, Nat.reduceSub, Nat.reduceLT, decide_true, decide_false, Bool.not_true, Bool.not_false, Int.toNat_one, Int.toNat_zero, Nat.zero_mul, l_g, endK, gd_u]) (by simp -implicitDefEqProofs (maxSteps := 1000000) (disch := first | omega | assumption) only [Sx, reduceIte, Nat.reduceEqDiff, reduceCtorEq, Nat.reduceAdd, Nat.reduceSub, Nat.reduceLT, decide_true, decide_false, Bool.not_true, Bool.not_false, Int.toNat_one, Int.toNat_zero, Nat.zero_mul, l_g, endK, gd_u]) (by simp -implicitDefEqProofs (maxSteps := 1000000) (disch := first | omega | assumption) only [Sx, reduceIte, Nat.reduceEqDiff, reduceCtorEq, Nat.reduceAdd, Nat.reduceSub, Nat.reduceLT, decide_true, decide_false, Bool.not_true, Bool.not_false, Int.toNat_one, Int.toNat_zero, Nat.zero_mul, l_g, endK, gd_u]) (by simp -implicitDefEqProofs (maxSteps := 1000000) (disch := first | omega | assumption) only [Sx, reduceIte, Nat.reduceEqDiff, reduceCtorEq, Nat.reduceAdd, Nat.reduceSub, Nat.reduceLT, decide_true, decide_false, Bool.not_true, Bool.not_false, Int.toNat_one, Int.toNat_zero, Nat.zero_mul, l_g, endK, gd_u]; try rfl)
end Go.Proofs.YthflafgijfbpnaaDoor.S15

/-
  The elder form of maps: a number that is not below 0, a record out of any bytes.
-/
set_option linter.unusedVariables false
set_option linter.unusedSimpArgs false
namespace Go.Proofs.YthflafgijfbpnaaDoor.S15
open Go Go.RowKit Go.Proofs.YthflafgijfbpnaaDoor.Sep Go.Proofs.YthflafgijfbpnaaDoor.Low Go.Proofs.YthflafgijfbpnaaDoor.Lib Go.Proofs.YthflafgijfbpnaaDoor.S12

theorem tw_oct {l : List Int} : ∀ x ∈ l.takeWhile isOct, isOct x = true := by
  induction l with
  | nil => intro x hx; cases hx
  | cons y l ih =>
    intro x hx
    rw [List.takeWhile_cons] at hx
    split at hx
    · rename_i h
      rcases List.mem_cons.1 hx with rfl | hx
      · exact h
      · exact ih x hx
    · cases hx
theorem numB_fit (l : List Int) : -9223372036854775808 ≤ (numB l).1 ∧ (numB l).1 ≤ 9223372036854775807 := by
  show -9223372036854775808 ≤ (numN octN l).1 ∧ (numN octN l).1 ≤ 9223372036854775807
  unfold numN
  split
  · unfold binN
    split
    · simp
    · split
      · rename_i h; simpa [fits64, lo64, hi64] using h
      · simp
  · unfold octN octT
    split
    · cases h : octV 0 ((List.dropWhile (fun x => x == 32) l).takeWhile isOct) with
      | none => simp
      | some n =>
        have := octV_ge _ 0 n (Int.le_refl _) (by decide) tw_oct h
        simp only
        omega
    · simp
/-- a number that is not below 0 -/
def nnV (l : List Int) : Int × Int := if (numB l).2 = 0 ∧ (numB l).1 < 0 then (0, 3) else numB l
theorem nn_ok {l : List Int} (h : (nnV l).2 = 0) : 0 ≤ (nnV l).1 ∧ (nnV l).1 ≤ 9223372036854775807 := by
  have hf := numB_fit l
  unfold nnV at h ⊢
  by_cases hc : (numB l).2 = 0 ∧ (numB l).1 < 0
  · rw [if_pos hc] at h; cases h
  · rw [if_neg hc] at h ⊢
    omega
set_option maxHeartbeats 1000000 in
theorem nn_spec {H : Heap} {v : Value} {l : List Int} (hv : By H v l) (hb : isBy l) (hl : l.length ≤ 211106232532992) :
    ACalls Tryd.prog 36 [v].toArray H fun e H' => e = .returned (.tuple #[.int .i64 (nnV l).1, .int .i64 (nnV l).2]) ∧ Keep H H' := by
  have hv0 := hv
  obtain ⟨A, c, rfl, hc, hr⟩ := hv
  refine call36 (Nat.le_of_ble_eq_true rfl) ?_
  unfold L36 env0
  simp -implicitDefEqProofs (maxSteps := 1000000) (disch := first | omega | assumption) only [Sx, reduceIte, Nat.reduceEqDiff, reduceCtorEq, Nat.reduceAdd, Nat.reduceSub, Nat.reduceLT, decide_true, decide_false, Bool.not_true, Bool.not_false, Int.toNat_one, Int.toNat_zero, Nat.zero_mul, l_g, endK, gd_u]
  refine a_call (number_spec hv0 hb hl) ?_
  rintro e H1 ⟨rfl, k1⟩
  unfold nnV
  obtain ⟨N, hN⟩ : ∃ N, N = numB l := ⟨_, rfl⟩
  rw [← hN]
  by_cases h1 : N.2 = 0
  · have f1 : (N.2 == 0) = true := by rw [beq_iff_eq]; exact h1
    by_cases h2 : N.1 < 0
    · have f2 : decide (N.1 < 0) = true := decide_eq_true h2
      rw [if_pos ⟨h1, h2⟩]
      simp -implicitDefEqProofs (maxSteps := 1000000) (disch := first | omega | assumption) only [f1, f2, Sx, reduceIte, Nat.reduceEqDiff, reduceCtorEq, Nat.reduceAdd, Nat.reduceSub, Nat.reduceLT, decide_true, decide_false, Bool.not_true, Bool.not_false, Int.toNat_one, Int.toNat_zero, Nat.zero_mul, l_g, endK, gd_u]
      exact ⟨by (first | exact True.intro | rfl | assumption), k1⟩
    · have f2 : decide (N.1 < 0) = false := decide_eq_false h2
      rw [if_neg fun h => h2 h.2]
      simp -implicitDefEqProofs (maxSteps := 1000000) (disch := first | omega | assumption) only [f1, f2, Sx, reduceIte, Nat.reduceEqDiff, reduceCtorEq, Nat.reduceAdd, Nat.reduceSub, Nat.reduceLT, decide_true, decide_false, Bool.not_true, Bool.not_false, Int.toNat_one, Int.toNat_zero, Nat.zero_mul, l_g, endK, gd_u]
      exact ⟨by (first | exact True.intro | rfl | assumption), k1⟩
  · have f1 : (N.2 == 0) = false := by rw [beq_eq_false_iff_ne]; exact h1
    rw [if_neg fun h => h1 h.1]
    simp -implicitDefEqProofs (maxSteps := 1000000) (disch := first | omega | assumption) only [f1, Sx, reduceIte, Nat.reduceEqDiff, reduceCtorEq, Nat.reduceAdd, Nat.reduceSub, Nat.reduceLT, decide_true, decide_false, Bool.not_true, Bool.not_false, Int.toNat_one, Int.toNat_zero, Nat.zero_mul, l_g, endK, gd_u]
    exact ⟨by (first | exact True.intro | rfl | assumption), k1⟩
/-- a piece of a record -/
def win (r : List Int) (a n : Nat) : List Int := (r.drop a).take n
theorem win_len {r : List Int} {a n : Nat} (h : a + n ≤ r.length) : (win r a n).length = n := by simp [win]; omega
theorem win_by {r : List Int} {a n : Nat} (h : isBy r) : isBy (win r a n) := (h.drop a).take n
theorem win_row {H : Heap} {rp a n c : Nat} {r : List Int} (h : Row H (some ⟨rp, 0, none⟩) (by8 r)) (hn : a + n ≤ r.length) (hc : n ≤ c) (ha : a ≤ r.length) (hn0 : 0 < n) : By H (.slice (some ⟨rp, a, none⟩) n c) (win r a n) := by
  have hw := win_len hn
  have h1 := row_take (k := n) (row_drop (c := r.length) (k := a) h (Nat.le_refl _))
  rw [cut_own (by omega), Nat.mul_one] at h1
  exact ⟨_, _, by rw [hw], by omega, h1⟩
set_option maxHeartbeats 1000000 in
theorem size_spec {H : Heap} {r : List Int} {a : Nat} (hl : r.length = 512) (hb : isBy r) (ha : a + 12 ≤ 512) :
    ACalls Tryd.prog 38 [Value.agg (by8 r).toArray, .int .i64 (a : Nat)].toArray H fun e H' => e = .returned (.tuple #[.int .i64 (nnV (win r a 12)).1, .int .i64 (nnV (win r a 12)).2]) ∧ Keep H H' := by
  refine call38 (Nat.le_of_ble_eq_true rfl) ?_
  unfold L38 env0
  simp -implicitDefEqProofs (maxSteps := 1000000) (disch := first | omega | assumption) only [Sx, reduceIte, Nat.reduceEqDiff, reduceCtorEq, Nat.reduceAdd, Nat.reduceSub, Nat.reduceLT, decide_true, decide_false, Bool.not_true, Bool.not_false, Int.toNat_one, Int.toNat_zero, Nat.zero_mul, l_g, endK, gd_u]
  refine a_boxr hl ?_
  intro r2 H1 hO k1 hr2
  have t12 : (a : Int) + 12 = ((a + 12 : Nat) : Int) := by omega
  have hin : (0 : Int) ≤ ((a : Nat) : Int) ∧ ((a : Nat) : Int) ≤ ((a + 12 : Nat) : Int) ∧ ((a + 12 : Nat) : Int) ≤ ((512 : Nat) : Int) := by omega
  have hcut : cutP ⟨r2, 0, none⟩ 512 a 1 = ⟨r2, a, none⟩ := by unfold cutP; rw [if_neg (by omega), Nat.mul_one, add_mk, Nat.zero_add]
  simp -implicitDefEqProofs (maxSteps := 1000000) (disch := first | omega | assumption) only [t12, ev_sla_lohi, hcut, Nat.add_sub_cancel_left, Sx, reduceIte, Nat.reduceEqDiff, reduceCtorEq, Nat.reduceAdd, Nat.reduceSub, Nat.reduceLT, decide_true, decide_false, Bool.not_true, Bool.not_false, Int.toNat_one, Int.toNat_zero, Nat.zero_mul, l_g, endK, gd_u]
  refine a_call (rnumber_spec (win_row (re_row hO) (by omega) (by omega) (by omega) (by omega)) (win_by hb) (by rw [win_len (by omega)]; omega)) ?_
  rintro e H2 ⟨rfl, k2⟩
  have k2 := k1.trans k2
  unfold nnV
  obtain ⟨N, hN⟩ : ∃ N, N = numB (win r a 12) := ⟨_, rfl⟩
  rw [← hN]
  by_cases h1 : N.2 = 0
  · have f1 : (N.2 == 0) = true := by rw [beq_iff_eq]; exact h1
    by_cases h2 : N.1 < 0
    · have f2 : decide (N.1 < 0) = true := decide_eq_true h2
      rw [if_pos ⟨h1, h2⟩]
      simp -implicitDefEqProofs (maxSteps := 1000000) (disch := first | omega | assumption) only [f1, f2, Sx, reduceIte, Nat.reduceEqDiff, reduceCtorEq, Nat.reduceAdd, Nat.reduceSub, Nat.reduceLT, decide_true, decide_false, Bool.not_true, Bool.not_false, Int.toNat_one, Int.toNat_zero, Nat.zero_mul, l_g, endK, gd_u]
      exact ⟨by (first | exact True.intro | rfl | assumption), k2⟩
    · have f2 : decide (N.1 < 0) = false := decide_eq_false h2
      rw [if_neg fun h => h2 h.2]
      simp -implicitDefEqProofs (maxSteps := 1000000) (disch := first | omega | assumption) only [f1, f2, Sx, reduceIte, Nat.reduceEqDiff, reduceCtorEq, Nat.reduceAdd, Nat.reduceSub, Nat.reduceLT, decide_true, decide_false, Bool.not_true, Bool.not_false, Int.toNat_one, Int.toNat_zero, Nat.zero_mul, l_g, endK, gd_u]
      exact ⟨by (first | exact True.intro | rfl | assumption), k2⟩
  · have f1 : (N.2 == 0) = false := by rw [beq_eq_false_iff_ne]; exact h1
    rw [if_neg fun h => h1 h.1]
    simp -implicitDefEqProofs (maxSteps := 1000000) (disch := first | omega | assumption) only [f1, Sx, reduceIte, Nat.reduceEqDiff, reduceCtorEq, Nat.reduceAdd, Nat.reduceSub, Nat.reduceLT, decide_true, decide_false, Bool.not_true, Bool.not_false, Int.toNat_one, Int.toNat_zero, Nat.zero_mul, l_g, endK, gd_u]
    exact ⟨by (first | exact True.intro | rfl | assumption), k2⟩
/-- a record of any bytes -/
def recV (b : List Int) : List Int := ow Z512 0 (b.take 512)
theorem rec_len {b : List Int} : (recV b).length = 512 := by unfold recV; rw [ow_len (by rw [List.length_take, z512_len]; omega)]; exact z512_len
theorem rec_by {b : List Int} (h : isBy b) : isBy (recV b) := by
  intro x hx
  unfold recV ow at hx
  rcases List.mem_append.1 hx with hx | hx
  · rcases List.mem_append.1 hx with hx | hx
    · cases hx
    · exact h x (List.mem_of_mem_take hx)
  · have := List.mem_of_mem_drop hx
    rw [List.mem_replicate] at this
    omega
set_option maxHeartbeats 2000000 in
theorem record_spec {H : Heap} {A : Option Addr} {c : Nat} {b : List Int} (hr : Row H A (by8 b)) (hb : b.length ≤ 140737488355328) :
    ACalls Tryd.prog 17 [Value.slice A b.length c].toArray H fun e H' => e = .returned (.agg (by8 (recV b)).toArray) ∧ Keep H H' := by
  refine call17 (Nat.le_of_ble_eq_true rfl) ?_
  unfold L17 env0
  simp -implicitDefEqProofs (maxSteps := 1000000) (disch := first | omega | assumption) only [Sx, reduceIte, Nat.reduceEqDiff, reduceCtorEq, Nat.reduceAdd, Nat.reduceSub, Nat.reduceLT, decide_true, decide_false, Bool.not_true, Bool.not_false, Int.toNat_one, Int.toNat_zero, Nat.zero_mul, l_g, endK, gd_u]
  refine a_newr ?_
  intro r2 H1 hO2 k1 hr2
  have eb := ev_bz (H := H1)
  simp -implicitDefEqProofs (maxSteps := 1000000) (disch := first | omega | assumption) only [eb, Sx, reduceIte, Nat.reduceEqDiff, reduceCtorEq, Nat.reduceAdd, Nat.reduceSub, Nat.reduceLT, decide_true, decide_false, Bool.not_true, Bool.not_false, Int.toNat_one, Int.toNat_zero, Nat.zero_mul, l_g, endK, gd_u]
  refine a_newr ?_
  intro r3 H2 hO3 k2 hr3
  have ne : r3 ≠ r2 := by rintro rfl; exact hO2.known (r := r3) rfl hr3
  have hO2 := Own.keep hO2 k2
  have f3 : H r3 = none := k1.none hr3
  have k2 := k1.trans k2
  simp -implicitDefEqProofs (maxSteps := 1000000) (disch := first | omega | assumption) only [Sx, reduceIte, Nat.reduceEqDiff, reduceCtorEq, Nat.reduceAdd, Nat.reduceSub, Nat.reduceLT, decide_true, decide_false, Bool.not_true, Bool.not_false, Int.toNat_one, Int.toNat_zero, Nat.zero_mul, l_g, endK, gd_u]
  refine a_str hO3 z512_len ?_
  intro H3 hO3 ho3
  have oK : ∀ {Ha Hb : Heap}, Keep H Ha → Oth Ha (sl r3) Hb → Keep H Hb := fun hK ho => ho.keep hK fun q hq => by cases hq; exact f3
  have o2 : ∀ {Ha Hb : Heap} {x : List Int}, Re Ha r2 x → Oth Ha (sl r3) Hb → Re Hb r2 x := fun hA ho => hA.only ho fun q hq e => by cases hq; cases e; exact ne rfl
  simp -implicitDefEqProofs (maxSteps := 1000000) (disch := first | omega | assumption) only [Sx, reduceIte, Nat.reduceEqDiff, reduceCtorEq, Nat.reduceAdd, Nat.reduceSub, Nat.reduceLT, decide_true, decide_false, Bool.not_true, Bool.not_false, Int.toNat_one, Int.toNat_zero, Nat.zero_mul, l_g, endK, gd_u]
  refine c_loop (fun k env H' => ∃ i, k + i = 512 ∧ i ≤ b.length ∧ env 0 = .slice A b.length c ∧ env 2 = .pointer (some ⟨r2, 0, none⟩) ∧ env 3 = .pointer (some ⟨r3, 0, none⟩) ∧ env 4 = .int .i64 (i : Nat) ∧ Re H' r3 (ow Z512 0 ((b.take 512).take i)) ∧ Re H' r2 Z512 ∧ Keep H H') 512
    ⟨0, by omega, by omega, by (first | exact True.intro | rfl | assumption), by (first | exact True.intro | rfl | assumption), by (first | exact True.intro | rfl | assumption), by (first | exact True.intro | rfl | assumption), by rw [List.take_zero, ow_nil]; exact hO3, o2 hO2 ho3, oK k2 ho3⟩ ?_
  rintro k env H4 ⟨i, hk, hib, g0, g2, g3, g4, hA, hB, hK⟩
  unfold L17_0
  have done : (b.length ≤ i ∨ 512 ≤ i) → recV b = ow Z512 0 ((b.take 512).take i) := fun h => by
    unfold recV
    rw [List.take_of_length_le (i := i) (by rw [List.length_take]; omega)]
  by_cases h1 : i < b.length
  · have f1 : decide ((i : Int) < (b.length : Int)) = true := decide_eq_true (by omega)
    by_cases h2 : i < 512
    · have f2 : decide ((i : Int) < 512) = true := decide_eq_true (by omega)
      obtain ⟨ba, rfl, hcell⟩ := by_at (hK.row hr) h1
      have hin : (0 : Int) ≤ (i : Int) ∧ (i : Int) < ((512 : Nat) : Int) := by omega
      simp -implicitDefEqProofs (maxSteps := 1000000) (disch := first | omega | assumption) only [g0, g2, g3, g4, f1, f2, hcell, Sx, reduceIte, Nat.reduceEqDiff, reduceCtorEq, Nat.reduceAdd, Nat.reduceSub, Nat.reduceLT, decide_true, decide_false, Bool.not_true, Bool.not_false, Int.toNat_one, Int.toNat_zero, Nat.zero_mul, l_g, endK, gd_u]
      have hlt : i < (b.take 512).length := by rw [List.length_take]; omega
      refine a_putr hA (j := i) (by rw [ow_len (by rw [List.length_take, List.length_take, z512_len]; omega), z512_len]; omega) ?_
      intro H5 hA5 ho5
      have hst := ow_take (l := Z512) (b := b.take 512) (a := 0) (i := i) (by rw [List.length_take, z512_len]; omega) hlt
      rw [Nat.zero_add, List.getElem_take] at hst
      rw [hst] at hA5
      simp -implicitDefEqProofs (maxSteps := 1000000) (disch := first | omega | assumption) only [g0, g2, g3, g4, Sx, reduceIte, Nat.reduceEqDiff, reduceCtorEq, Nat.reduceAdd, Nat.reduceSub, Nat.reduceLT, decide_true, decide_false, Bool.not_true, Bool.not_false, Int.toNat_one, Int.toNat_zero, Nat.zero_mul, l_g, endK, gd_u]
      exact ⟨k - 1, by omega, i + 1, by omega, by omega, by (first | exact True.intro | rfl | assumption), by (first | exact True.intro | rfl | assumption), by (first | exact True.intro | rfl | assumption), by (first | exact True.intro | rfl | assumption), hA5, o2 hB ho5, oK hK ho5⟩
    · have f2 : decide ((i : Int) < 512) = false := decide_eq_false (by omega)
      rw [← done (.inr (by omega))] at hA
      have e1 := ev_ldnr hA
      simp -implicitDefEqProofs (maxSteps := 1000000) (disch := first | omega | assumption) only [g0, g2, g3, g4, f1, f2, e1, Sx, reduceIte, Nat.reduceEqDiff, reduceCtorEq, Nat.reduceAdd, Nat.reduceSub, Nat.reduceLT, decide_true, decide_false, Bool.not_true, Bool.not_false, Int.toNat_one, Int.toNat_zero, Nat.zero_mul, l_g, endK, gd_u]
      refine a_str hB rec_len ?_
      intro H5 hB5 ho5
      simp -implicitDefEqProofs (maxSteps := 1000000) (disch := first | omega | assumption) only [Sx, reduceIte, Nat.reduceEqDiff, reduceCtorEq, Nat.reduceAdd, Nat.reduceSub, Nat.reduceLT, decide_true, decide_false, Bool.not_true, Bool.not_false, Int.toNat_one, Int.toNat_zero, Nat.zero_mul, l_g, endK, gd_u]
      rw [g_re hB5 (by simp -implicitDefEqProofs (maxSteps := 1000000) (disch := first | omega | assumption) only [g2, Sx, reduceIte, Nat.reduceEqDiff, reduceCtorEq, Nat.reduceAdd, Nat.reduceSub, Nat.reduceLT, decide_true, decide_false, Bool.not_true, Bool.not_false, Int.toNat_one, Int.toNat_zero, Nat.zero_mul, l_g, endK, gd_u])]
      simp -implicitDefEqProofs (maxSteps := 1000000) (disch := first | omega | assumption) only [Sx, reduceIte, Nat.reduceEqDiff, reduceCtorEq, Nat.reduceAdd, Nat.reduceSub, Nat.reduceLT, decide_true, decide_false, Bool.not_true, Bool.not_false, Int.toNat_one, Int.toNat_zero, Nat.zero_mul, l_g, endK, gd_u]
      exact ⟨by (first | exact True.intro | rfl | assumption), ho5.keep hK fun q hq => by cases hq; exact hr2⟩
  · have f1 : decide ((i : Int) < (b.length : Int)) = false := decide_eq_false (by omega)
    rw [← done (.inl (by omega))] at hA
    have e1 := ev_ldnr hA
    simp -implicitDefEqProofs (maxSteps := 1000000) (disch := first | omega | assumption) only [g0, g2, g3, g4, f1, e1, Sx, reduceIte, Nat.reduceEqDiff, reduceCtorEq, Nat.reduceAdd, Nat.reduceSub, Nat.reduceLT, decide_true, decide_false, Bool.not_true, Bool.not_false, Int.toNat_one, Int.toNat_zero, Nat.zero_mul, l_g, endK, gd_u]
    refine a_str hB rec_len ?_
    intro H5 hB5 ho5
    simp -implicitDefEqProofs (maxSteps := 1000000) (disch := first | omega | assumption) only [Sx, reduceIte, Nat.reduceEqDiff, reduceCtorEq, Nat.reduceAdd, Nat.reduceSub, Nat.reduceLT, decide_true, decide_false, Bool.not_true, Bool.not_false, Int.toNat_one, Int.toNat_zero, Nat.zero_mul, l_g, endK, gd_u]
    rw [g_re hB5 (by simp -implicitDefEqProofs (maxSteps := 1000000) (disch := first | omega | assumption) only [g2, Sx, reduceIte, Nat.reduceEqDiff, reduceCtorEq, Nat.reduceAdd, Nat.reduceSub, Nat.reduceLT, decide_true, decide_false, Bool.not_true, Bool.not_false, Int.toNat_one, Int.toNat_zero, Nat.zero_mul, l_g, endK, gd_u])]
    simp -implicitDefEqProofs (maxSteps := 1000000) (disch := first | omega | assumption) only [Sx, reduceIte, Nat.reduceEqDiff, reduceCtorEq, Nat.reduceAdd, Nat.reduceSub, Nat.reduceLT, decide_true, decide_false, Bool.not_true, Bool.not_false, Int.toNat_one, Int.toNat_zero, Nat.zero_mul, l_g, endK, gd_u]
    exact ⟨by (first | exact True.intro | rfl | assumption), ho5.keep hK fun q hq => by cases hq; exact hr2⟩
end Go.Proofs.YthflafgijfbpnaaDoor.S15

/-
  The elder form of maps: the ranges of a record, both.
-/
set_option linter.unusedVariables false
set_option linter.unusedSimpArgs false
namespace Go.Proofs.YthflafgijfbpnaaDoor.S15
open Go Go.RowKit Go.Proofs.YthflafgijfbpnaaDoor.Sep Go.Proofs.YthflafgijfbpnaaDoor.Low Go.Proofs.YthflafgijfbpnaaDoor.Lib Go.Proofs.YthflafgijfbpnaaDoor.S12

theorem allV_b {l m : List Int} : ∀ (L : List Nat), (∀ i ∈ L, i < l.length ∧ i < m.length) → allV (L.map fun i => (i, Leaf.i)) (fun i => (by8 l).toArray[i]?) (fun i => (by8 m).toArray[i]?) = some (L.all fun i => l.getD i 0 == m.getD i 0)
  | [], _ => rfl
  | i :: L, h => by
    have h1 := h i List.mem_cons_self
    have h2 := allV_b L fun j hj => h j (List.mem_cons_of_mem _ hj)
    have e1 : (by8 l).toArray[i]? = some (.int .u8 (l.getD i 0)) := by simp [List.getElem?_eq_getElem h1.1]
    have e2 : (by8 m).toArray[i]? = some (.int .u8 (m.getD i 0)) := by simp [List.getElem?_eq_getElem h1.2]
    simp only [List.map_cons, allV, e1, e2, h2, leafV, List.all_cons, if_true]
theorem ev_eqn {H : Heap} {l m : List Int} {n : Nat} {neg : Bool} (hl : l.length = n) (hm : m.length = n) : (QI.eqa ((List.range n).map fun i => (i, Leaf.i)) neg).ev [.agg (by8 l).toArray, .agg (by8 m).toArray] H = some (.bool (decide (l = m) != neg)) := by
  have h := allV_b (l := l) (m := m) (List.range n) fun i hi => by rw [List.mem_range] at hi; omega
  rw [ev_eqa_of (show allV ((List.range n).map fun i => (i, Leaf.i)) _ _ = _ from h)]
  congr 3
  by_cases e : l = m
  · subst e
    simp
  · rw [decide_eq_false e, Bool.eq_false_iff]
    intro hall
    refine e (List.ext_getElem (by omega) fun i h1 h2 => ?_)
    have := List.all_eq_true.1 hall i (by rw [List.mem_range]; omega)
    simpa [List.getD_eq_getElem?_getD, List.getElem?_eq_getElem h1, List.getElem?_eq_getElem h2] using this
theorem ev_eq24 {H : Heap} {l m : List Int} (hl : l.length = 24) (hm : m.length = 24) : (QI.eqa [(0, .i), (1, .i), (2, .i), (3, .i), (4, .i), (5, .i), (6, .i), (7, .i), (8, .i), (9, .i), (10, .i), (11, .i), (12, .i), (13, .i), (14, .i), (15, .i), (16, .i), (17, .i), (18, .i), (19, .i), (20, .i), (21, .i), (22, .i), (23, .i)] false).ev [.agg (by8 l).toArray, .agg (by8 m).toArray] H = some (.bool (decide (l = m) != false)) := ev_eqn (n := 24) hl hm
theorem ev_s2a {H : Heap} {a : Option Addr} {n ln c : Nat} (h : n ≤ ln) : (QI.s2a n).ev [.slice a ln c] H = some (.pointer a) := by simp [QI.ev, h]
theorem ev_bz24 {H : Heap} : (QI.build (Array.replicate 24 (.int .u8 0)) []).ev [] H = some (.agg (by8 Z24).toArray) := by
  rw [ev_build]
  simp only [if_true, List.zip_nil_right]
  rw [fill_nil, repZ]
  rfl
abbrev T24 : TypeId := 72
abbrev R24 (H : Heap) (r : Nat) (l : List Int) : Prop := Own H T24 1 (.slice (some ⟨r, 0, none⟩) 24 24) (by8 l)
theorem r24_row {H : Heap} {r : Nat} {l : List Int} (h : R24 H r l) : Row H (some ⟨r, 0, none⟩) (by8 l) := by
  obtain ⟨a, m, c, e, -, -, hr⟩ := Own.view h
  cases e
  exact hr
theorem win_win1 {r : List Int} {t : Nat} : win (win r t 24) 0 12 = win r t 12 := by simp [win, List.take_take]
theorem win_win2 {r : List Int} {t : Nat} : win (win r t 24) 12 12 = win r (t + 12) 12 := by
  unfold win
  rw [List.drop_take, List.drop_drop, List.take_take]
  rfl

theorem win_rr {H : Heap} {rp a n : Nat} {r : List Int} (h : Row H (some ⟨rp, 0, none⟩) (by8 r)) (ha : a < r.length) : Row H (some ⟨rp, a, none⟩) (by8 (win r a n)) := by
  have h1 := row_take (k := n) (row_drop (c := r.length) (k := a) h (Nat.le_refl _))
  rw [cut_own (by omega), Nat.mul_one] at h1
  exact h1
/-- the ranges of a record -/
def getF (r : List Int) (a : Nat) : Nat → Nat → List Rg → List Rg × Int
  | 0, _, L => (L, 0)
  | k + 1, i, L =>
    if win r (a + 24 * i) 24 = Z24 then (L, 0)
    else if (nnV (win r (a + 24 * i) 12)).2 ≠ 0 then ([], (nnV (win r (a + 24 * i) 12)).2)
    else if (nnV (win r (a + 24 * i + 12) 12)).2 ≠ 0 then ([], (nnV (win r (a + 24 * i + 12) 12)).2)
    else if 9223372036854775807 - (nnV (win r (a + 24 * i) 12)).1 < (nnV (win r (a + 24 * i + 12) 12)).1 then ([], 3)
    else getF r a k (i + 1) (L ++ [⟨(nnV (win r (a + 24 * i) 12)).1, (nnV (win r (a + 24 * i) 12)).1 + (nnV (win r (a + 24 * i + 12) 12)).1⟩])
abbrev Og (H : Heap) (v : Value) (l : List Rg) : Prop := Own H 51 2 v (rgs l)

set_option maxHeartbeats 8000000 in
theorem get_spec {H : Heap} {r : List Int} {rp a p : Nat} (hO : Re H rp r) (hb : isBy r) (ha : a + 24 * p ≤ 512) :
    ACalls Tryd.prog 35 [Value.pointer (some ⟨rp, 0, none⟩), .int .i64 (a : Nat), .int .i64 (p : Nat)].toArray H fun e H' => ∃ v, e = .returned (.tuple #[v, .int .i64 (getF r a p 0 []).2]) ∧ Og H' v (getF r a p 0 []).1 ∧ Fresh H v ∧ Keep H H' := by
  have hl := re_len hO
  refine call35 (Nat.le_of_ble_eq_true rfl) ?_
  unfold L35 env0
  obtain ⟨G, hGd⟩ : ∃ G, G = getF r a p 0 [] := ⟨_, rfl⟩
  rw [← hGd]
  have n00 : ((0 : Int) != 0) = false := rfl
  simp -implicitDefEqProofs (maxSteps := 1000000) (disch := first | omega | assumption) only [Sx, reduceIte, Nat.reduceEqDiff, reduceCtorEq, Nat.reduceAdd, Nat.reduceSub, Nat.reduceLT, decide_true, decide_false, Bool.not_true, Bool.not_false, Int.toNat_one, Int.toNat_zero, Nat.zero_mul, l_g, endK, gd_u]
  refine c_loop (fun k env H' => ∃ i v L, k + i = p ∧ env 0 = .pointer (some ⟨rp, 0, none⟩) ∧ env 1 = .int .i64 (a : Nat) ∧ env 2 = .int .i64 (p : Nat) ∧ env 8 = v ∧ env 14 = .int .i64 (p : Nat) ∧ env 15 = .int .i64 (i : Nat) ∧ Og H' v L ∧ L.length ≤ i ∧ Fresh H v ∧ Keep H H' ∧ getF r a k i L = G) p
    ⟨0, _, [], by omega, by (first | exact True.intro | rfl | assumption), by (first | exact True.intro | rfl | assumption), by (first | exact True.intro | rfl | assumption), rfl, by (first | exact True.intro | rfl | assumption), by (first | exact True.intro | rfl | assumption), .nil, Nat.le_refl _, (fun q hq => by cases hq), Keep.refl _, hGd.symm⟩ ?_
  rintro k env H1 ⟨i, v, L, hk, g0, g1, g2, g8, g14, g15, hOv, hLi, hfv, hK, hG⟩
  have hsv := hOv.scalar
  by_cases hi : i < p
  · obtain ⟨k, rfl⟩ : ∃ k', k = k' + 1 := ⟨k - 1, by omega⟩
    have f0 : decide ((i : Int) < (p : Int)) = true := decide_eq_true (by omega)
    obtain ⟨t, ht⟩ : ∃ t, t = a + 24 * i := ⟨_, rfl⟩
    have htn : (a : Int) + 24 * (i : Int) = (t : Nat) := by omega
    have hcut : cutP ⟨rp, 0, none⟩ 512 t 1 = ⟨rp, t, none⟩ := by unfold cutP; rw [if_neg (by omega), Nat.mul_one, add_mk, Nat.zero_add]
    have hin : (0 : Int) ≤ ((t : Nat) : Int) ∧ ((t : Nat) : Int) ≤ ((512 : Nat) : Int) := by omega
    have h24 : 24 ≤ 512 - t := by omega
    obtain ⟨w, hw⟩ : ∃ w, w = win r t 24 := ⟨_, rfl⟩
    have hwl : w.length = 24 := by rw [hw, win_len (by omega)]
    have hwb : isBy w := by rw [hw]; exact win_by hb
    unfold getF at hG
    rw [← ht, ← hw] at hG
    have hld : H1.loadN ⟨rp, t, none⟩ 0 24 = some (by8 w) := by
      have hrr := win_rr (n := 24) (a := t) (re_row (Own.keep hO hK)) (by omega)
      have := hrr.loadN
      rw [List.length_map, win_len (by omega), ← hw] at this
      exact this
    unfold L35_0
    simp -implicitDefEqProofs (maxSteps := 1000000) (disch := first | omega | assumption) only [g0, g1, g2, g8, g14, g15, f0, htn, ev_sla_lo, hcut, ev_s2a, h24, ev_nilc, ev_ldn, hld, Sx, reduceIte, Nat.reduceEqDiff, reduceCtorEq, Nat.reduceAdd, Nat.reduceSub, Nat.reduceLT, decide_true, decide_false, Bool.not_true, Bool.not_false, Int.toNat_one, Int.toNat_zero, Nat.zero_mul, l_g, endK, gd_u]
    refine a_new fun r10 hr10 => ?_
    try simp -implicitDefEqProofs (maxSteps := 1000000) (disch := first | omega | assumption) only [g0, g1, g2, g8, g14, g15, Sx, reduceIte, Nat.reduceEqDiff, reduceCtorEq, Nat.reduceAdd, Nat.reduceSub, Nat.reduceLT, decide_true, decide_false, Bool.not_true, Bool.not_false, Int.toNat_one, Int.toNat_zero, Nat.zero_mul, l_g, endK, gd_u]
    refine st_all (old := by8 Z24) (ci := by8 w) (by rw [repZ]; exact set_same) (by rw [List.length_map, List.length_map, hwl, z24_len]) (by rw [List.length_map, hwl]) (by8_scalar w) ?_
    rw [Sep.set_set]
    obtain ⟨H2, k2, hO10, e2⟩ : ∃ H2, Keep H1 H2 ∧ R24 H2 r10 w ∧ H1.set r10 (.cells (by8 w).toArray T24 (0, 0)) = H2 := ⟨_, (Keep.refl _).set_new hr10, Own.at (rest := []) (f := (0, 0)) (by rw [List.append_nil]; exact set_same) (.inl rfl) (by rw [List.length_map, hwl]) (by simp) (Nat.le_refl _), rfl⟩
    rw [e2]
    have k2' := hK.trans k2
    have hl10 : H2.loadN ⟨r10, 0, none⟩ 0 24 = some (by8 w) := by
      have := (r24_row hO10).loadN
      rw [List.length_map, hwl] at this
      exact this
    have eb := ev_bz24 (H := H2)
    have eq := ev_eq24 (H := H2) hwl z24_len
    have bft : (true != false) = true := rfl
    have bff : (false != false) = false := rfl
    by_cases hz : w = Z24
    · have fz : decide (w = Z24) = true := decide_eq_true hz
      rw [if_pos hz] at hG
      unfold L35_1
      simp -implicitDefEqProofs (maxSteps := 1000000) (disch := first | omega | assumption) only [g0, g1, g2, g8, g14, g15, ev_ldn, hl10, eb, eq, fz, bft, Sx, reduceIte, Nat.reduceEqDiff, reduceCtorEq, Nat.reduceAdd, Nat.reduceSub, Nat.reduceLT, decide_true, decide_false, Bool.not_true, Bool.not_false, Int.toNat_one, Int.toNat_zero, Nat.zero_mul, l_g, endK, gd_u]
      exact ⟨v, by rw [← hG], by rw [← hG]; exact hOv.keep k2, hfv, k2'⟩
    have fz : decide (w = Z24) = false := decide_eq_false hz
    rw [if_neg hz] at hG
    have t12 : (12 : Int).toNat = 12 := rfl
    have hi12 : (0 : Int) ≤ 12 ∧ (12 : Int) ≤ ((24 : Nat) : Int) := by omega
    have hcut2 : cutP ⟨r10, 0, none⟩ 24 12 1 = ⟨r10, 12, none⟩ := by unfold cutP; rw [if_neg (by omega), Nat.mul_one, add_mk, Nat.zero_add]
    have hB1 : By H2 (.slice (some ⟨r10, 0, none⟩) 12 24) (win r t 12) := by
      have := win_row (n := 12) (c := 24) (a := 0) (r24_row hO10) (by omega) (by omega) (by omega) (by omega)
      rw [hw, win_win1] at this
      exact this
    simp -implicitDefEqProofs (maxSteps := 1000000) (disch := first | omega | assumption) only [g0, g1, g2, g8, g14, g15, ev_ldn, hl10, eb, eq, fz, bff, ev_sla_hi, t12, Sx, reduceIte, Nat.reduceEqDiff, reduceCtorEq, Nat.reduceAdd, Nat.reduceSub, Nat.reduceLT, decide_true, decide_false, Bool.not_true, Bool.not_false, Int.toNat_one, Int.toNat_zero, Nat.zero_mul, l_g, endK, gd_u]
    refine a_call (nn_spec hB1 (win_by hb) (by rw [win_len (by omega)]; omega)) ?_
    rintro e H3 ⟨rfl, k3⟩
    obtain ⟨N1, hN1⟩ : ∃ N1, N1 = nnV (win r t 12) := ⟨_, rfl⟩
    have ok1 : N1.2 = 0 → 0 ≤ N1.1 ∧ N1.1 ≤ 9223372036854775807 := fun h => by rw [hN1] at h ⊢; exact nn_ok h
    rw [← hN1] at hG ⊢
    have k3' := k2'.trans k3
    by_cases h1 : N1.2 ≠ 0
    · have f1 : (N1.2 != 0) = true := bne_iff_ne.2 h1
      rw [if_pos h1] at hG
      simp -implicitDefEqProofs (maxSteps := 1000000) (disch := first | omega | assumption) only [g0, g1, g2, g8, g14, g15, f1, Sx, reduceIte, Nat.reduceEqDiff, reduceCtorEq, Nat.reduceAdd, Nat.reduceSub, Nat.reduceLT, decide_true, decide_false, Bool.not_true, Bool.not_false, Int.toNat_one, Int.toNat_zero, Nat.zero_mul, l_g, endK, gd_u]
      exact ⟨.slice none 0 0, by rw [← hG], by rw [← hG]; exact .nil, (fun q hq => by cases hq), k3'⟩
    have h1' : N1.2 = 0 := by omega
    have f1 : (N1.2 != 0) = false := by rw [h1']; rfl
    rw [if_neg h1] at hG
    have hB2 : By H3 (.slice (some ⟨r10, 12, none⟩) 12 12) (win r (t + 12) 12) := by
      have := win_row (n := 12) (c := 12) (a := 12) (r24_row (Own.keep hO10 k3)) (by omega) (by omega) (by omega) (by omega)
      rw [hw, win_win2] at this
      exact this
    simp -implicitDefEqProofs (maxSteps := 1000000) (disch := first | omega | assumption) only [g0, g1, g2, g8, g14, g15, f1, ev_sla_lo, t12, hcut2, Sx, reduceIte, Nat.reduceEqDiff, reduceCtorEq, Nat.reduceAdd, Nat.reduceSub, Nat.reduceLT, decide_true, decide_false, Bool.not_true, Bool.not_false, Int.toNat_one, Int.toNat_zero, Nat.zero_mul, l_g, endK, gd_u]
    refine a_call (nn_spec hB2 (win_by hb) (by rw [win_len (by omega)]; omega)) ?_
    rintro e H4 ⟨rfl, k4⟩
    obtain ⟨N2, hN2⟩ : ∃ N2, N2 = nnV (win r (t + 12) 12) := ⟨_, rfl⟩
    have ok2 : N2.2 = 0 → 0 ≤ N2.1 ∧ N2.1 ≤ 9223372036854775807 := fun h => by rw [hN2] at h ⊢; exact nn_ok h
    rw [← hN2] at hG ⊢
    have k4' := k3'.trans k4
    by_cases h2 : N2.2 ≠ 0
    · have f2 : (N2.2 != 0) = true := bne_iff_ne.2 h2
      rw [if_pos h2] at hG
      simp -implicitDefEqProofs (maxSteps := 1000000) (disch := first | omega | assumption) only [g0, g1, g2, g8, g14, g15, f2, Sx, reduceIte, Nat.reduceEqDiff, reduceCtorEq, Nat.reduceAdd, Nat.reduceSub, Nat.reduceLT, decide_true, decide_false, Bool.not_true, Bool.not_false, Int.toNat_one, Int.toNat_zero, Nat.zero_mul, l_g, endK, gd_u]
      exact ⟨.slice none 0 0, by rw [← hG], by rw [← hG]; exact .nil, (fun q hq => by cases hq), k4'⟩
    have h2' : N2.2 = 0 := by omega
    have f2 : (N2.2 != 0) = false := by rw [h2']; rfl
    rw [if_neg h2] at hG
    have o1 := ok1 h1'
    have o2 := ok2 h2'
    by_cases h3 : 9223372036854775807 - N1.1 < N2.1
    · have f3 : decide (9223372036854775807 - N1.1 < N2.1) = true := decide_eq_true h3
      rw [if_pos h3] at hG
      simp -implicitDefEqProofs (maxSteps := 1000000) (disch := first | omega | assumption) only [g0, g1, g2, g8, g14, g15, f2, f3, Sx, reduceIte, Nat.reduceEqDiff, reduceCtorEq, Nat.reduceAdd, Nat.reduceSub, Nat.reduceLT, decide_true, decide_false, Bool.not_true, Bool.not_false, Int.toNat_one, Int.toNat_zero, Nat.zero_mul, l_g, endK, gd_u]
      exact ⟨.slice none 0 0, by rw [← hG], by rw [← hG]; exact .nil, (fun q hq => by cases hq), k4'⟩
    have f3 : decide (9223372036854775807 - N1.1 < N2.1) = false := decide_eq_false h3
    rw [if_neg h3] at hG
    simp -implicitDefEqProofs (maxSteps := 1000000) (disch := first | omega | assumption) only [g0, g1, g2, g8, g14, g15, f2, f3, Sx, reduceIte, Nat.reduceEqDiff, reduceCtorEq, Nat.reduceAdd, Nat.reduceSub, Nat.reduceLT, decide_true, decide_false, Bool.not_true, Bool.not_false, Int.toNat_one, Int.toNat_zero, Nat.zero_mul, l_g, endK, gd_u]
    refine lits_rg ?_
    intro rl H5 hOl k5 hrl
    simp -implicitDefEqProofs (maxSteps := 1000000) (disch := first | omega | assumption) only [g0, g1, g2, g8, g14, g15, Sx, reduceIte, Nat.reduceEqDiff, reduceCtorEq, Nat.reduceAdd, Nat.reduceSub, Nat.reduceLT, decide_true, decide_false, Bool.not_true, Bool.not_false, Int.toNat_one, Int.toNat_zero, Nat.zero_mul, l_g, endK, gd_u]
    refine push_rg (hOv.keep ((k2.trans k3).trans (k4.trans k5))) (by omega) hOl ?_
    intro v' H6 hO6 ho6 hm6
    have k5' := k4'.trans k5
    have hs6 := hO6.scalar
    simp -implicitDefEqProofs (maxSteps := 1000000) (disch := first | omega | assumption) only [g0, g1, g2, g8, g14, g15, Sx, reduceIte, Nat.reduceEqDiff, reduceCtorEq, Nat.reduceAdd, Nat.reduceSub, Nat.reduceLT, decide_true, decide_false, Bool.not_true, Bool.not_false, Int.toNat_one, Int.toNat_zero, Nat.zero_mul, l_g, endK, gd_u]
    exact ⟨k, by omega, i + 1, v', _, by omega, by (first | exact True.intro | rfl | assumption), by (first | exact True.intro | rfl | assumption), by (first | exact True.intro | rfl | assumption), by (first | exact True.intro | rfl | assumption), by (first | exact True.intro | rfl | assumption), by (first | exact True.intro | rfl | assumption), hO6, by rw [List.length_append, List.length_singleton]; omega, hm6.fresh k5' hfv, ho6.keep k5' (fun q hq => hfv q hq), hG⟩
  have f0 : decide ((i : Int) < (p : Int)) = false := decide_eq_false (by omega)
  obtain rfl : k = 0 := by omega
  unfold L35_0 L35_1
  unfold getF at hG
  simp -implicitDefEqProofs (maxSteps := 1000000) (disch := first | omega | assumption) only [g0, g1, g2, g8, g14, g15, f0, Sx, reduceIte, Nat.reduceEqDiff, reduceCtorEq, Nat.reduceAdd, Nat.reduceSub, Nat.reduceLT, decide_true, decide_false, Bool.not_true, Bool.not_false, Int.toNat_one, Int.toNat_zero, Nat.zero_mul, l_g, endK, gd_u]
  exact ⟨v, by rw [← hG], by rw [← hG]; exact hOv, hfv, hK⟩
end Go.Proofs.YthflafgijfbpnaaDoor.S15

/-
  The elder form of maps: the ranges of a record, the document's; ReadOld and ReadMore of both.
-/
set_option linter.unusedVariables false
set_option linter.unusedSimpArgs false
namespace Go.Proofs.YthflafgijfbpnaaDoor.S15
open Go Go.RowKit Go.Proofs.YthflafgijfbpnaaDoor.Sep Go.Proofs.YthflafgijfbpnaaDoor.Low Go.Proofs.YthflafgijfbpnaaDoor.Lib Go.Proofs.YthflafgijfbpnaaDoor.S12

def az (w : List Int) : Bool := w.all (· == 0)
theorem az_z {w : List Int} (h : w.length = 24) : az w = decide (w = Z24) := by
  unfold az
  rw [Bool.eq_iff_iff, decide_eq_true_eq, List.all_eq_true]
  constructor
  · intro hh
    exact List.eq_replicate_iff.2 ⟨h, fun b hb => by simpa using hh b hb⟩
  · rintro rfl x hx
    rw [List.mem_replicate] at hx
    simp [hx.2]
theorem az_step {w : List Int} {j : Nat} (h : j < w.length) : az (w.take (j + 1)) = (az (w.take j) && (w[j] == 0)) := by
  unfold az
  rw [List.take_succ_eq_append_getElem h, List.all_append]
  simp only [List.all_cons, List.all_nil, Bool.and_true]
theorem win_at {r : List Int} {t n j : Nat} (h : t + n ≤ r.length) (hj : j < n) (h1 : j < (win r t n).length) (h2 : t + j < r.length) : (win r t n)[j] = r[t + j] := by
  simp [win]

set_option maxHeartbeats 8000000 in
theorem rranges_spec {H : Heap} {r : List Int} {a p : Nat} (hl : r.length = 512) (hb : isBy r) (ha : a + 24 * p ≤ 512) :
    ACalls Tryd.prog 37 [Value.agg (by8 r).toArray, .int .i64 (a : Nat), .int .i64 (p : Nat)].toArray H fun e H' => ∃ v, e = .returned (.tuple #[v, .int .i64 (getF r a p 0 []).2]) ∧ Og H' v (getF r a p 0 []).1 ∧ Fresh H v ∧ Keep H H' := by
  refine call37 (Nat.le_of_ble_eq_true rfl) ?_
  unfold L37 env0
  obtain ⟨G, hGd⟩ : ∃ G, G = getF r a p 0 [] := ⟨_, rfl⟩
  rw [← hGd]
  simp -implicitDefEqProofs (maxSteps := 1000000) (disch := first | omega | assumption) only [Sx, reduceIte, Nat.reduceEqDiff, reduceCtorEq, Nat.reduceAdd, Nat.reduceSub, Nat.reduceLT, decide_true, decide_false, Bool.not_true, Bool.not_false, Int.toNat_one, Int.toNat_zero, Nat.zero_mul, l_g, endK, gd_u]
  refine a_boxr hl ?_
  intro r3 H1 hO k1 hr3
  simp -implicitDefEqProofs (maxSteps := 1000000) (disch := first | omega | assumption) only [Sx, reduceIte, Nat.reduceEqDiff, reduceCtorEq, Nat.reduceAdd, Nat.reduceSub, Nat.reduceLT, decide_true, decide_false, Bool.not_true, Bool.not_false, Int.toNat_one, Int.toNat_zero, Nat.zero_mul, l_g, endK, gd_u]
  refine a_lits (sz := 2) (cells := #[]) rfl rfl ?_
  intro r8 H2 hO8 k2 hr8
  have hO1r : ∀ q, q = r3 → H1 q = none → False := fun q hq h => by subst hq; exact hO.known (r := q) rfl h
  have hO := Own.keep hO k2
  have fr8 : Fresh H1 (.slice (some ⟨r8, 0, none⟩) 0 0) := fun q hq => by cases hq; exact hr8
  simp -implicitDefEqProofs (maxSteps := 1000000) (disch := first | omega | assumption) only [Sx, reduceIte, Nat.reduceEqDiff, reduceCtorEq, Nat.reduceAdd, Nat.reduceSub, Nat.reduceLT, decide_true, decide_false, Bool.not_true, Bool.not_false, Int.toNat_one, Int.toNat_zero, Nat.zero_mul, l_g, endK, gd_u]
  refine c_loop (fun k env H' => ∃ i v L, k + i = p ∧ env 1 = .int .i64 (a : Nat) ∧ env 2 = .int .i64 (p : Nat) ∧ env 3 = .pointer (some ⟨r3, 0, none⟩) ∧ env 8 = v ∧ env 9 = .int .i64 (i : Nat) ∧ Og H' v L ∧ L.length ≤ i ∧ Fresh H1 v ∧ Keep H1 H' ∧ Re H' r3 r ∧ getF r a k i L = G) p
    ⟨0, _, [], by omega, by (first | exact True.intro | rfl | assumption), by (first | exact True.intro | rfl | assumption), by (first | exact True.intro | rfl | assumption), rfl, by (first | exact True.intro | rfl | assumption), hO8, Nat.le_refl _, fr8, k2, hO, hGd.symm⟩ ?_
  rintro k env H3 ⟨i, v, L, hk, g1, g2, g3, g8, g9, hOv, hLi, hfv, hK, hO, hG⟩
  have hsv := hOv.scalar
  unfold L37_1
  by_cases hi : i < p
  · obtain ⟨k, rfl⟩ : ∃ k', k = k' + 1 := ⟨k - 1, by omega⟩
    have f0 : decide ((i : Int) < (p : Int)) = true := decide_eq_true (by omega)
    obtain ⟨t, ht⟩ : ∃ t, t = a + 24 * i := ⟨_, rfl⟩
    have htn : (a : Int) + 24 * (i : Int) = (t : Nat) := by omega
    obtain ⟨w, hw⟩ : ∃ w, w = win r t 24 := ⟨_, rfl⟩
    have hwl : w.length = 24 := by rw [hw, win_len (by omega)]
    unfold getF at hG
    rw [← ht, ← hw] at hG
    simp -implicitDefEqProofs (maxSteps := 1000000) (disch := first | omega | assumption) only [g1, g2, g3, g8, g9, f0, htn, Sx, reduceIte, Nat.reduceEqDiff, reduceCtorEq, Nat.reduceAdd, Nat.reduceSub, Nat.reduceLT, decide_true, decide_false, Bool.not_true, Bool.not_false, Int.toNat_one, Int.toNat_zero, Nat.zero_mul, l_g, endK, gd_u]
    refine c_loop (fun k' env H' => H' = H3 ∧ ∃ j, k' + j = 24 ∧ env 1 = .int .i64 (a : Nat) ∧ env 2 = .int .i64 (p : Nat) ∧ env 3 = .pointer (some ⟨r3, 0, none⟩) ∧ env 8 = v ∧ env 9 = .int .i64 (i : Nat) ∧ env 10 = .int .i64 (t : Nat) ∧ env 11 = .bool (az (w.take j)) ∧ env 12 = .int .i64 ((t + j : Nat) : Int)) 24
      ⟨rfl, 0, by omega, by (first | exact True.intro | rfl | assumption), by (first | exact True.intro | rfl | assumption), by (first | exact True.intro | rfl | assumption), by first | (first | exact True.intro | rfl | assumption) | exact g8, by (first | exact True.intro | rfl | assumption), by (first | exact True.intro | rfl | assumption), by (first | exact True.intro | rfl | assumption), by (first | exact True.intro | rfl | assumption)⟩ ?_
    rintro k' env H3' ⟨rfl, j, hj, g1, g2, g3, g8, g9, g10, g11, g12⟩
    unfold L37_0
    by_cases hjj : j < 24
    · have f1 : decide (((t + j : Nat) : Int) < (t : Int) + 24) = true := decide_eq_true (by omega)
      have hcell := cell_re hO (i := t + j) (by omega)
      have hin : (0 : Int) ≤ ((t + j : Nat) : Int) ∧ ((t + j : Nat) : Int) < ((512 : Nat) : Int) := by omega
      have hst := az_step (w := w) (j := j) (by omega)
      have hwj : w[j]'(by omega) = r[t + j]'(by omega) := by subst hw; exact win_at (by omega) hjj _ _
      rw [hwj] at hst
      cases hz : az (w.take j) with
      | true =>
        rw [hz, Bool.true_and] at hst
        rw [hz] at g11
        simp -implicitDefEqProofs (maxSteps := 1000000) (disch := first | omega | assumption) only [g1, g2, g3, g8, g9, g10, g11, g12, f1, hcell, Sx, reduceIte, Nat.reduceEqDiff, reduceCtorEq, Nat.reduceAdd, Nat.reduceSub, Nat.reduceLT, decide_true, decide_false, Bool.not_true, Bool.not_false, Int.toNat_one, Int.toNat_zero, Nat.zero_mul, l_g, endK, gd_u]
        exact ⟨k' - 1, by omega, by (first | exact True.intro | rfl | assumption), j + 1, by omega, by (first | exact True.intro | rfl | assumption), by (first | exact True.intro | rfl | assumption), by (first | exact True.intro | rfl | assumption), by first | (first | exact True.intro | rfl | assumption) | exact g8, by (first | exact True.intro | rfl | assumption), by (first | exact True.intro | rfl | assumption), by rw [hst], by (first | exact True.intro | rfl | assumption)⟩
      | false =>
        rw [hz, Bool.false_and] at hst
        rw [hz] at g11
        simp -implicitDefEqProofs (maxSteps := 1000000) (disch := first | omega | assumption) only [g1, g2, g3, g8, g9, g10, g11, g12, f1, hcell, Sx, reduceIte, Nat.reduceEqDiff, reduceCtorEq, Nat.reduceAdd, Nat.reduceSub, Nat.reduceLT, decide_true, decide_false, Bool.not_true, Bool.not_false, Int.toNat_one, Int.toNat_zero, Nat.zero_mul, l_g, endK, gd_u]
        exact ⟨k' - 1, by omega, by (first | exact True.intro | rfl | assumption), j + 1, by omega, by (first | exact True.intro | rfl | assumption), by (first | exact True.intro | rfl | assumption), by (first | exact True.intro | rfl | assumption), by first | (first | exact True.intro | rfl | assumption) | exact g8, by (first | exact True.intro | rfl | assumption), by (first | exact True.intro | rfl | assumption), by rw [hst], by (first | exact True.intro | rfl | assumption)⟩
    have f1 : decide (((t + j : Nat) : Int) < (t : Int) + 24) = false := decide_eq_false (by omega)
    obtain rfl : j = 24 := by omega
    rw [List.take_of_length_le (by omega), az_z hwl] at g11
    by_cases hz : w = Z24
    · rw [decide_eq_true hz] at g11
      rw [if_pos hz] at hG
      simp -implicitDefEqProofs (maxSteps := 1000000) (disch := first | omega | assumption) only [g1, g2, g3, g8, g9, g10, g11, g12, f1, Sx, reduceIte, Nat.reduceEqDiff, reduceCtorEq, Nat.reduceAdd, Nat.reduceSub, Nat.reduceLT, decide_true, decide_false, Bool.not_true, Bool.not_false, Int.toNat_one, Int.toNat_zero, Nat.zero_mul, l_g, endK, gd_u]
      exact ⟨v, by rw [← hG], by rw [← hG]; exact hOv, hfv.keep k1, k1.trans hK⟩
    rw [decide_eq_false hz] at g11
    rw [if_neg hz] at hG
    have e1 := ev_ldnr hO
    simp -implicitDefEqProofs (maxSteps := 1000000) (disch := first | omega | assumption) only [g1, g2, g3, g8, g9, g10, g11, g12, f1, e1, Sx, reduceIte, Nat.reduceEqDiff, reduceCtorEq, Nat.reduceAdd, Nat.reduceSub, Nat.reduceLT, decide_true, decide_false, Bool.not_true, Bool.not_false, Int.toNat_one, Int.toNat_zero, Nat.zero_mul, l_g, endK, gd_u]
    refine a_call (size_spec (a := t) hl hb (by omega)) ?_
    rintro e H4 ⟨rfl, k4⟩
    obtain ⟨N1, hN1⟩ : ∃ N1, N1 = nnV (win r t 12) := ⟨_, rfl⟩
    have ok1 : N1.2 = 0 → 0 ≤ N1.1 ∧ N1.1 ≤ 9223372036854775807 := fun h => by rw [hN1] at h ⊢; exact nn_ok h
    rw [← hN1] at hG ⊢
    have k4' := hK.trans k4
    by_cases h1 : N1.2 ≠ 0
    · have f1 : (N1.2 != 0) = true := bne_iff_ne.2 h1
      rw [if_pos h1] at hG
      simp -implicitDefEqProofs (maxSteps := 1000000) (disch := first | omega | assumption) only [g1, g2, g3, g8, g9, g10, g11, g12, f1, Sx, reduceIte, Nat.reduceEqDiff, reduceCtorEq, Nat.reduceAdd, Nat.reduceSub, Nat.reduceLT, decide_true, decide_false, Bool.not_true, Bool.not_false, Int.toNat_one, Int.toNat_zero, Nat.zero_mul, l_g, endK, gd_u]
      exact ⟨.slice none 0 0, by rw [← hG], by rw [← hG]; exact .nil, (fun q hq => by cases hq), k1.trans k4'⟩
    have h1' : N1.2 = 0 := by omega
    have f1 : (N1.2 != 0) = false := by rw [h1']; rfl
    rw [if_neg h1] at hG
    have e2 := ev_ldnr (Own.keep hO k4)
    have t12 : (t : Int) + 12 = ((t + 12 : Nat) : Int) := by omega
    simp -implicitDefEqProofs (maxSteps := 1000000) (disch := first | omega | assumption) only [g1, g2, g3, g8, g9, g10, g11, g12, f1, e2, t12, Sx, reduceIte, Nat.reduceEqDiff, reduceCtorEq, Nat.reduceAdd, Nat.reduceSub, Nat.reduceLT, decide_true, decide_false, Bool.not_true, Bool.not_false, Int.toNat_one, Int.toNat_zero, Nat.zero_mul, l_g, endK, gd_u]
    refine a_call (size_spec (a := t + 12) hl hb (by omega)) ?_
    rintro e H5 ⟨rfl, k5⟩
    obtain ⟨N2, hN2⟩ : ∃ N2, N2 = nnV (win r (t + 12) 12) := ⟨_, rfl⟩
    have ok2 : N2.2 = 0 → 0 ≤ N2.1 ∧ N2.1 ≤ 9223372036854775807 := fun h => by rw [hN2] at h ⊢; exact nn_ok h
    rw [← hN2] at hG ⊢
    have k5' := k4'.trans k5
    by_cases h2 : N2.2 ≠ 0
    · have f2 : (N2.2 != 0) = true := bne_iff_ne.2 h2
      rw [if_pos h2] at hG
      simp -implicitDefEqProofs (maxSteps := 1000000) (disch := first | omega | assumption) only [g1, g2, g3, g8, g9, g10, g11, g12, f2, Sx, reduceIte, Nat.reduceEqDiff, reduceCtorEq, Nat.reduceAdd, Nat.reduceSub, Nat.reduceLT, decide_true, decide_false, Bool.not_true, Bool.not_false, Int.toNat_one, Int.toNat_zero, Nat.zero_mul, l_g, endK, gd_u]
      exact ⟨.slice none 0 0, by rw [← hG], by rw [← hG]; exact .nil, (fun q hq => by cases hq), k1.trans k5'⟩
    have h2' : N2.2 = 0 := by omega
    have f2 : (N2.2 != 0) = false := by rw [h2']; rfl
    rw [if_neg h2] at hG
    have o1 := ok1 h1'
    have o2 := ok2 h2'
    by_cases h3 : 9223372036854775807 - N1.1 < N2.1
    · have f3 : decide (9223372036854775807 - N1.1 < N2.1) = true := decide_eq_true h3
      rw [if_pos h3] at hG
      simp -implicitDefEqProofs (maxSteps := 1000000) (disch := first | omega | assumption) only [g1, g2, g3, g8, g9, g10, g11, g12, f2, f3, Sx, reduceIte, Nat.reduceEqDiff, reduceCtorEq, Nat.reduceAdd, Nat.reduceSub, Nat.reduceLT, decide_true, decide_false, Bool.not_true, Bool.not_false, Int.toNat_one, Int.toNat_zero, Nat.zero_mul, l_g, endK, gd_u]
      exact ⟨.slice none 0 0, by rw [← hG], by rw [← hG]; exact .nil, (fun q hq => by cases hq), k1.trans k5'⟩
    have f3 : decide (9223372036854775807 - N1.1 < N2.1) = false := decide_eq_false h3
    rw [if_neg h3] at hG
    simp -implicitDefEqProofs (maxSteps := 1000000) (disch := first | omega | assumption) only [g1, g2, g3, g8, g9, g10, g11, g12, f2, f3, Sx, reduceIte, Nat.reduceEqDiff, reduceCtorEq, Nat.reduceAdd, Nat.reduceSub, Nat.reduceLT, decide_true, decide_false, Bool.not_true, Bool.not_false, Int.toNat_one, Int.toNat_zero, Nat.zero_mul, l_g, endK, gd_u]
    refine lits_rg ?_
    intro rl H6 hOl k6 hrl
    simp -implicitDefEqProofs (maxSteps := 1000000) (disch := first | omega | assumption) only [g8, Sx, reduceIte, Nat.reduceEqDiff, reduceCtorEq, Nat.reduceAdd, Nat.reduceSub, Nat.reduceLT, decide_true, decide_false, Bool.not_true, Bool.not_false, Int.toNat_one, Int.toNat_zero, Nat.zero_mul, l_g, endK, gd_u]
    refine push_rg (hOv.keep ((k4.trans k5).trans k6)) (by omega) hOl ?_
    intro v' H7 hO7 ho7 hm7
    have k6' := k5'.trans k6
    have hs7 := hO7.scalar
    simp -implicitDefEqProofs (maxSteps := 1000000) (disch := first | omega | assumption) only [g1, g2, g3, g8, g9, g10, g11, g12, Sx, reduceIte, Nat.reduceEqDiff, reduceCtorEq, Nat.reduceAdd, Nat.reduceSub, Nat.reduceLT, decide_true, decide_false, Bool.not_true, Bool.not_false, Int.toNat_one, Int.toNat_zero, Nat.zero_mul, l_g, endK, gd_u]
    exact ⟨k, by omega, i + 1, v', _, by omega, by (first | exact True.intro | rfl | assumption), by (first | exact True.intro | rfl | assumption), by (first | exact True.intro | rfl | assumption), by (first | exact True.intro | rfl | assumption), by (first | exact True.intro | rfl | assumption), hO7, by rw [List.length_append, List.length_singleton]; omega, hm7.fresh k6' hfv, ho7.keep k6' (fun q hq => hfv q hq), (Own.keep hO ((k4.trans k5).trans k6)).only ho7 (fun q hq e => by cases hq; exact hO1r r3 rfl (hfv r3 e)), hG⟩
  have f0 : decide ((i : Int) < (p : Int)) = false := decide_eq_false (by omega)
  obtain rfl : k = 0 := by omega
  unfold L37_2
  unfold getF at hG
  simp -implicitDefEqProofs (maxSteps := 1000000) (disch := first | omega | assumption) only [g1, g2, g3, g8, g9, f0, Sx, reduceIte, Nat.reduceEqDiff, reduceCtorEq, Nat.reduceAdd, Nat.reduceSub, Nat.reduceLT, decide_true, decide_false, Bool.not_true, Bool.not_false, Int.toNat_one, Int.toNat_zero, Nat.zero_mul, l_g, endK, gd_u]
  exact ⟨v, by rw [← hG], by rw [← hG]; exact hOv, hfv.keep k1, k1.trans hK⟩
end Go.Proofs.YthflafgijfbpnaaDoor.S15

/-
  The elder form of maps: ReadOld and ReadMore of both.
-/
set_option linter.unusedVariables false
set_option linter.unusedSimpArgs false
namespace Go.Proofs.YthflafgijfbpnaaDoor.S15
open Go Go.RowKit Go.Proofs.YthflafgijfbpnaaDoor.Sep Go.Proofs.YthflafgijfbpnaaDoor.Low Go.Proofs.YthflafgijfbpnaaDoor.Lib Go.Proofs.YthflafgijfbpnaaDoor.S12

def roV (r : List Int) : List Rg × Int × Bool × Int :=
  if (getF r 386 4 0 []).2 ≠ 0 then ([], 0, false, (getF r 386 4 0 []).2)
  else if (nnV (win r 483 12)).2 ≠ 0 then ([], 0, false, (nnV (win r 483 12)).2)
  else ((getF r 386 4 0 []).1, (nnV (win r 483 12)).1, r.getD 482 0 != 0, 0)
def rmV (r : List Int) : List Rg × Bool × Int :=
  if (getF r 0 21 0 []).2 ≠ 0 then ([], false, (getF r 0 21 0 []).2) else ((getF r 0 21 0 []).1, r.getD 504 0 != 0, 0)
theorem cell_at {H : Heap} {r : Nat} {l : List Int} (h : Re H r l) {i : Nat} (hi : i < 512) : H.cell? ⟨r, i, none⟩ = some (.int .u8 (l.getD i 0)) := by
  have hl := re_len h
  rw [cell_re h (by omega), List.getD_eq_getElem?_getD, List.getElem?_eq_getElem (by omega)]
  rfl

set_option maxHeartbeats 2000000 in
theorem readOld_spec {H : Heap} {r : List Int} (hl : r.length = 512) (hb : isBy r) :
    ACalls Tryd.prog 19 [Value.agg (by8 r).toArray].toArray H fun e H' => ∃ v, e = .returned (.tuple #[v, .int .i64 (roV r).2.1, .bool (roV r).2.2.1, .int .i64 (roV r).2.2.2]) ∧ Og H' v (roV r).1 ∧ Fresh H v ∧ Keep H H' := by
  refine call19 (Nat.le_of_ble_eq_true rfl) ?_
  unfold L19 env0
  simp -implicitDefEqProofs (maxSteps := 1000000) (disch := first | omega | assumption) only [Sx, reduceIte, Nat.reduceEqDiff, reduceCtorEq, Nat.reduceAdd, Nat.reduceSub, Nat.reduceLT, decide_true, decide_false, Bool.not_true, Bool.not_false, Int.toNat_one, Int.toNat_zero, Nat.zero_mul, l_g, endK, gd_u]
  refine a_boxr hl ?_
  intro r1 H1 hO k1 hr1
  simp -implicitDefEqProofs (maxSteps := 1000000) (disch := first | omega | assumption) only [Sx, reduceIte, Nat.reduceEqDiff, reduceCtorEq, Nat.reduceAdd, Nat.reduceSub, Nat.reduceLT, decide_true, decide_false, Bool.not_true, Bool.not_false, Int.toNat_one, Int.toNat_zero, Nat.zero_mul, l_g, endK, gd_u]
  refine a_call (get_spec (a := 386) (p := 4) hO hb (by omega)) ?_
  rintro e H2 ⟨v, rfl, hv, hf, k2⟩
  have hsv := hv.scalar
  unfold roV
  obtain ⟨G, hG⟩ : ∃ G, G = getF r 386 4 0 [] := ⟨_, rfl⟩
  rw [← hG] at hv ⊢
  have k12 := k1.trans k2
  by_cases h1 : G.2 ≠ 0
  · have f1 : (G.2 != 0) = true := bne_iff_ne.2 h1
    rw [if_pos h1]
    simp -implicitDefEqProofs (maxSteps := 1000000) (disch := first | omega | assumption) only [f1, Sx, reduceIte, Nat.reduceEqDiff, reduceCtorEq, Nat.reduceAdd, Nat.reduceSub, Nat.reduceLT, decide_true, decide_false, Bool.not_true, Bool.not_false, Int.toNat_one, Int.toNat_zero, Nat.zero_mul, l_g, endK, gd_u]
    exact ⟨_, by (first | exact True.intro | rfl | assumption), .nil, (fun q hq => by cases hq), k12⟩
  have f1 : (G.2 != 0) = false := by rw [bne_eq_false_iff_eq]; omega
  rw [if_neg h1]
  have hO2 := Own.keep hO k2
  have t483 : (483 : Int).toNat = 483 := rfl
  have t495 : (495 : Int).toNat = 495 := rfl
  have hcut : cutP ⟨r1, 0, none⟩ 512 483 1 = ⟨r1, 483, none⟩ := by unfold cutP; rw [if_neg (by omega), Nat.mul_one, add_mk, Nat.zero_add]
  have hin : (0 : Int) ≤ 483 ∧ (483 : Int) ≤ 495 ∧ (495 : Int) ≤ ((512 : Nat) : Int) := by omega
  have e12 : 495 - 483 = 12 := rfl
  have e29 : 512 - 483 = 29 := rfl
  simp -implicitDefEqProofs (maxSteps := 1000000) (disch := first | omega | assumption) only [f1, ev_sla_lohi, hin, t483, t495, hcut, e12, e29, Sx, reduceIte, Nat.reduceEqDiff, reduceCtorEq, Nat.reduceAdd, Nat.reduceSub, Nat.reduceLT, decide_true, decide_false, Bool.not_true, Bool.not_false, Int.toNat_one, Int.toNat_zero, Nat.zero_mul, l_g, endK, gd_u]
  refine a_call (nn_spec (win_row (n := 12) (c := 29) (a := 483) (re_row hO2) (by omega) (by omega) (by omega) (by omega)) (win_by hb) (by rw [win_len (by omega)]; omega)) ?_
  rintro e H3 ⟨rfl, k3⟩
  have k123 := k12.trans k3
  obtain ⟨M, hM⟩ : ∃ M, M = nnV (win r 483 12) := ⟨_, rfl⟩
  rw [← hM]
  by_cases h2 : M.2 ≠ 0
  · have f2 : (M.2 != 0) = true := bne_iff_ne.2 h2
    rw [if_pos h2]
    simp -implicitDefEqProofs (maxSteps := 1000000) (disch := first | omega | assumption) only [f2, Sx, reduceIte, Nat.reduceEqDiff, reduceCtorEq, Nat.reduceAdd, Nat.reduceSub, Nat.reduceLT, decide_true, decide_false, Bool.not_true, Bool.not_false, Int.toNat_one, Int.toNat_zero, Nat.zero_mul, l_g, endK, gd_u]
    exact ⟨_, by (first | exact True.intro | rfl | assumption), .nil, (fun q hq => by cases hq), k123⟩
  have f2 : (M.2 != 0) = false := by rw [bne_eq_false_iff_eq]; omega
  rw [if_neg h2]
  have c482 := cell_at (Own.keep hO2 k3) (i := 482) (by omega)
  have t482 : (482 : Int).toNat = 482 := rfl
  have hin2 : (0 : Int) ≤ 482 ∧ (482 : Int) < ((512 : Nat) : Int) := by omega
  simp -implicitDefEqProofs (maxSteps := 1000000) (disch := first | omega | assumption) only [f2, c482, t482, Sx, reduceIte, Nat.reduceEqDiff, reduceCtorEq, Nat.reduceAdd, Nat.reduceSub, Nat.reduceLT, decide_true, decide_false, Bool.not_true, Bool.not_false, Int.toNat_one, Int.toNat_zero, Nat.zero_mul, l_g, endK, gd_u]
  exact ⟨_, by (first | exact True.intro | rfl | assumption), hv.keep k3, hf.keep k1, k123⟩
set_option maxHeartbeats 2000000 in
theorem rreadOld_spec {H : Heap} {r : List Int} (hl : r.length = 512) (hb : isBy r) :
    ACalls Tryd.prog 20 [Value.agg (by8 r).toArray].toArray H fun e H' => ∃ v, e = .returned (.tuple #[v, .int .i64 (roV r).2.1, .bool (roV r).2.2.1, .int .i64 (roV r).2.2.2]) ∧ Og H' v (roV r).1 ∧ Fresh H v ∧ Keep H H' := by
  refine call20 (Nat.le_of_ble_eq_true rfl) ?_
  unfold L20 env0
  simp -implicitDefEqProofs (maxSteps := 1000000) (disch := first | omega | assumption) only [Sx, reduceIte, Nat.reduceEqDiff, reduceCtorEq, Nat.reduceAdd, Nat.reduceSub, Nat.reduceLT, decide_true, decide_false, Bool.not_true, Bool.not_false, Int.toNat_one, Int.toNat_zero, Nat.zero_mul, l_g, endK, gd_u]
  refine a_boxr hl ?_
  intro r1 H1 hO k1 hr1
  have e1 := ev_ldnr hO
  simp -implicitDefEqProofs (maxSteps := 1000000) (disch := first | omega | assumption) only [e1, Sx, reduceIte, Nat.reduceEqDiff, reduceCtorEq, Nat.reduceAdd, Nat.reduceSub, Nat.reduceLT, decide_true, decide_false, Bool.not_true, Bool.not_false, Int.toNat_one, Int.toNat_zero, Nat.zero_mul, l_g, endK, gd_u]
  refine a_call (rranges_spec (a := 386) (p := 4) hl hb (by omega)) ?_
  rintro e H2 ⟨v, rfl, hv, hf, k2⟩
  have hsv := hv.scalar
  unfold roV
  obtain ⟨G, hG⟩ : ∃ G, G = getF r 386 4 0 [] := ⟨_, rfl⟩
  rw [← hG] at hv ⊢
  have k12 := k1.trans k2
  by_cases h1 : G.2 ≠ 0
  · have f1 : (G.2 != 0) = true := bne_iff_ne.2 h1
    rw [if_pos h1]
    simp -implicitDefEqProofs (maxSteps := 1000000) (disch := first | omega | assumption) only [f1, Sx, reduceIte, Nat.reduceEqDiff, reduceCtorEq, Nat.reduceAdd, Nat.reduceSub, Nat.reduceLT, decide_true, decide_false, Bool.not_true, Bool.not_false, Int.toNat_one, Int.toNat_zero, Nat.zero_mul, l_g, endK, gd_u]
    exact ⟨_, by (first | exact True.intro | rfl | assumption), .nil, (fun q hq => by cases hq), k12⟩
  have f1 : (G.2 != 0) = false := by rw [bne_eq_false_iff_eq]; omega
  rw [if_neg h1]
  have hO2 := Own.keep hO k2
  have e2 := ev_ldnr hO2
  simp -implicitDefEqProofs (maxSteps := 1000000) (disch := first | omega | assumption) only [f1, e2, Sx, reduceIte, Nat.reduceEqDiff, reduceCtorEq, Nat.reduceAdd, Nat.reduceSub, Nat.reduceLT, decide_true, decide_false, Bool.not_true, Bool.not_false, Int.toNat_one, Int.toNat_zero, Nat.zero_mul, l_g, endK, gd_u]
  refine a_call (size_spec (a := 483) hl hb (by omega)) ?_
  rintro e H3 ⟨rfl, k3⟩
  have k123 := k12.trans k3
  obtain ⟨M, hM⟩ : ∃ M, M = nnV (win r 483 12) := ⟨_, rfl⟩
  rw [← hM]
  by_cases h2 : M.2 ≠ 0
  · have f2 : (M.2 != 0) = true := bne_iff_ne.2 h2
    rw [if_pos h2]
    simp -implicitDefEqProofs (maxSteps := 1000000) (disch := first | omega | assumption) only [f2, Sx, reduceIte, Nat.reduceEqDiff, reduceCtorEq, Nat.reduceAdd, Nat.reduceSub, Nat.reduceLT, decide_true, decide_false, Bool.not_true, Bool.not_false, Int.toNat_one, Int.toNat_zero, Nat.zero_mul, l_g, endK, gd_u]
    exact ⟨_, by (first | exact True.intro | rfl | assumption), .nil, (fun q hq => by cases hq), k123⟩
  have f2 : (M.2 != 0) = false := by rw [bne_eq_false_iff_eq]; omega
  rw [if_neg h2]
  have c482 := cell_at (Own.keep hO2 k3) (i := 482) (by omega)
  have t482 : (482 : Int).toNat = 482 := rfl
  have hin2 : (0 : Int) ≤ 482 ∧ (482 : Int) < ((512 : Nat) : Int) := by omega
  simp -implicitDefEqProofs (maxSteps := 1000000) (disch := first | omega | assumption) only [f2, c482, t482, Sx, reduceIte, Nat.reduceEqDiff, reduceCtorEq, Nat.reduceAdd, Nat.reduceSub, Nat.reduceLT, decide_true, decide_false, Bool.not_true, Bool.not_false, Int.toNat_one, Int.toNat_zero, Nat.zero_mul, l_g, endK, gd_u]
  exact ⟨_, by (first | exact True.intro | rfl | assumption), hv.keep k3, hf.keep k1, k123⟩
set_option maxHeartbeats 2000000 in
theorem readMore_spec {H : Heap} {r : List Int} (hl : r.length = 512) (hb : isBy r) :
    ACalls Tryd.prog 21 [Value.agg (by8 r).toArray].toArray H fun e H' => ∃ v, e = .returned (.tuple #[v, .bool (rmV r).2.1, .int .i64 (rmV r).2.2]) ∧ Og H' v (rmV r).1 ∧ Fresh H v ∧ Keep H H' := by
  refine call21 (Nat.le_of_ble_eq_true rfl) ?_
  unfold L21 env0
  simp -implicitDefEqProofs (maxSteps := 1000000) (disch := first | omega | assumption) only [Sx, reduceIte, Nat.reduceEqDiff, reduceCtorEq, Nat.reduceAdd, Nat.reduceSub, Nat.reduceLT, decide_true, decide_false, Bool.not_true, Bool.not_false, Int.toNat_one, Int.toNat_zero, Nat.zero_mul, l_g, endK, gd_u]
  refine a_boxr hl ?_
  intro r1 H1 hO k1 hr1
  simp -implicitDefEqProofs (maxSteps := 1000000) (disch := first | omega | assumption) only [Sx, reduceIte, Nat.reduceEqDiff, reduceCtorEq, Nat.reduceAdd, Nat.reduceSub, Nat.reduceLT, decide_true, decide_false, Bool.not_true, Bool.not_false, Int.toNat_one, Int.toNat_zero, Nat.zero_mul, l_g, endK, gd_u]
  refine a_call (get_spec (a := 0) (p := 21) hO hb (by omega)) ?_
  rintro e H2 ⟨v, rfl, hv, hf, k2⟩
  have hsv := hv.scalar
  unfold rmV
  obtain ⟨G, hG⟩ : ∃ G, G = getF r 0 21 0 [] := ⟨_, rfl⟩
  rw [← hG] at hv ⊢
  have k12 := k1.trans k2
  by_cases h1 : G.2 ≠ 0
  · have f1 : (G.2 != 0) = true := bne_iff_ne.2 h1
    rw [if_pos h1]
    simp -implicitDefEqProofs (maxSteps := 1000000) (disch := first | omega | assumption) only [f1, Sx, reduceIte, Nat.reduceEqDiff, reduceCtorEq, Nat.reduceAdd, Nat.reduceSub, Nat.reduceLT, decide_true, decide_false, Bool.not_true, Bool.not_false, Int.toNat_one, Int.toNat_zero, Nat.zero_mul, l_g, endK, gd_u]
    exact ⟨_, by (first | exact True.intro | rfl | assumption), .nil, (fun q hq => by cases hq), k12⟩
  have f1 : (G.2 != 0) = false := by rw [bne_eq_false_iff_eq]; omega
  rw [if_neg h1]
  have c504 := cell_at (Own.keep hO k2) (i := 504) (by omega)
  have t504 : (504 : Int).toNat = 504 := rfl
  have hin2 : (0 : Int) ≤ 504 ∧ (504 : Int) < ((512 : Nat) : Int) := by omega
  simp -implicitDefEqProofs (maxSteps := 1000000) (disch := first | omega | assumption) only [f1, c504, t504, Sx, reduceIte, Nat.reduceEqDiff, reduceCtorEq, Nat.reduceAdd, Nat.reduceSub, Nat.reduceLT, decide_true, decide_false, Bool.not_true, Bool.not_false, Int.toNat_one, Int.toNat_zero, Nat.zero_mul, l_g, endK, gd_u]
  exact ⟨_, by (first | exact True.intro | rfl | assumption), hv, hf.keep k1, k12⟩
set_option maxHeartbeats 2000000 in
theorem rreadMore_spec {H : Heap} {r : List Int} (hl : r.length = 512) (hb : isBy r) :
    ACalls Tryd.prog 22 [Value.agg (by8 r).toArray].toArray H fun e H' => ∃ v, e = .returned (.tuple #[v, .bool (rmV r).2.1, .int .i64 (rmV r).2.2]) ∧ Og H' v (rmV r).1 ∧ Fresh H v ∧ Keep H H' := by
  refine call22 (Nat.le_of_ble_eq_true rfl) ?_
  unfold L22 env0
  simp -implicitDefEqProofs (maxSteps := 1000000) (disch := first | omega | assumption) only [Sx, reduceIte, Nat.reduceEqDiff, reduceCtorEq, Nat.reduceAdd, Nat.reduceSub, Nat.reduceLT, decide_true, decide_false, Bool.not_true, Bool.not_false, Int.toNat_one, Int.toNat_zero, Nat.zero_mul, l_g, endK, gd_u]
  refine a_boxr hl ?_
  intro r1 H1 hO k1 hr1
  have e1 := ev_ldnr hO
  simp -implicitDefEqProofs (maxSteps := 1000000) (disch := first | omega | assumption) only [e1, Sx, reduceIte, Nat.reduceEqDiff, reduceCtorEq, Nat.reduceAdd, Nat.reduceSub, Nat.reduceLT, decide_true, decide_false, Bool.not_true, Bool.not_false, Int.toNat_one, Int.toNat_zero, Nat.zero_mul, l_g, endK, gd_u]
  refine a_call (rranges_spec (a := 0) (p := 21) hl hb (by omega)) ?_
  rintro e H2 ⟨v, rfl, hv, hf, k2⟩
  have hsv := hv.scalar
  unfold rmV
  obtain ⟨G, hG⟩ : ∃ G, G = getF r 0 21 0 [] := ⟨_, rfl⟩
  rw [← hG] at hv ⊢
  have k12 := k1.trans k2
  by_cases h1 : G.2 ≠ 0
  · have f1 : (G.2 != 0) = true := bne_iff_ne.2 h1
    rw [if_pos h1]
    simp -implicitDefEqProofs (maxSteps := 1000000) (disch := first | omega | assumption) only [f1, Sx, reduceIte, Nat.reduceEqDiff, reduceCtorEq, Nat.reduceAdd, Nat.reduceSub, Nat.reduceLT, decide_true, decide_false, Bool.not_true, Bool.not_false, Int.toNat_one, Int.toNat_zero, Nat.zero_mul, l_g, endK, gd_u]
    exact ⟨_, by (first | exact True.intro | rfl | assumption), .nil, (fun q hq => by cases hq), k12⟩
  have f1 : (G.2 != 0) = false := by rw [bne_eq_false_iff_eq]; omega
  rw [if_neg h1]
  have c504 := cell_at (Own.keep hO k2) (i := 504) (by omega)
  have t504 : (504 : Int).toNat = 504 := rfl
  have hin2 : (0 : Int) ≤ 504 ∧ (504 : Int) < ((512 : Nat) : Int) := by omega
  simp -implicitDefEqProofs (maxSteps := 1000000) (disch := first | omega | assumption) only [f1, c504, t504, Sx, reduceIte, Nat.reduceEqDiff, reduceCtorEq, Nat.reduceAdd, Nat.reduceSub, Nat.reduceLT, decide_true, decide_false, Bool.not_true, Bool.not_false, Int.toNat_one, Int.toNat_zero, Nat.zero_mul, l_g, endK, gd_u]
  exact ⟨_, by (first | exact True.intro | rfl | assumption), hv, hf.keep k1, k12⟩
end Go.Proofs.YthflafgijfbpnaaDoor.S15

/-
  SparseForms, the plain law of records: what is put is read.
-/
set_option linter.unusedVariables false
set_option linter.unusedSimpArgs false
namespace Go.Proofs.YthflafgijfbpnaaDoor.S15
open Go Go.RowKit Go.Proofs.YthflafgijfbpnaaDoor.Sep Go.Proofs.YthflafgijfbpnaaDoor.Low Go.Proofs.YthflafgijfbpnaaDoor.Lib Go.Proofs.YthflafgijfbpnaaDoor.S12

theorem ow_get {l b : List Int} {a j : Nat} (h : a + b.length ≤ l.length) : (ow l a b)[j]? = if j < a then l[j]? else if j < a + b.length then b[j - a]? else l[j]? := by
  unfold ow
  have e : (l.take a).length = a := by rw [List.length_take]; omega
  by_cases h1 : j < a
  · rw [if_pos h1, List.append_assoc, List.getElem?_append_left (by omega), List.getElem?_take, if_pos h1]
  · rw [if_neg h1]
    by_cases h2 : j < a + b.length
    · rw [if_pos h2, List.getElem?_append_left (by rw [List.length_append, e]; omega), List.getElem?_append_right (by omega), e]
    · rw [if_neg h2, List.getElem?_append_right (by rw [List.length_append, e]; omega), List.length_append, e, List.getElem?_drop]
      congr 1
      omega
theorem win_get {r : List Int} {a n j : Nat} : (win r a n)[j]? = if j < n then r[a + j]? else none := by
  unfold win
  rw [List.getElem?_take]
  split
  · rw [List.getElem?_drop]
  · rfl
theorem win_eq {r r' : List Int} {t n : Nat} (h : ∀ j, t ≤ j → j < t + n → r[j]? = r'[j]?) : win r t n = win r' t n := by
  apply List.ext_getElem?
  intro j
  rw [win_get, win_get]
  split
  · exact h _ (by omega) (by omega)
  · rfl
theorem win_ow {l b : List Int} {a : Nat} (h : a + b.length ≤ l.length) : win (ow l a b) a b.length = b := by
  apply List.ext_getElem?
  intro j
  rw [win_get]
  split
  · rw [ow_get h, if_neg (by omega), if_pos (by omega)]
    congr 1
    omega
  · rw [List.getElem?_eq_none (by omega)]
theorem win_off {l b : List Int} {a t n : Nat} (h : a + b.length ≤ l.length) (h2 : t + n ≤ a ∨ a + b.length ≤ t) : win (ow l a b) t n = win l t n := win_eq fun j h3 h4 => by
  rw [ow_get h]
  split
  · rfl
  · rw [if_neg (by omega)]
theorem win_set {l : List Int} {i t n : Nat} {x : Int} (h2 : t + n ≤ i ∨ i < t) : win (l.set i x) t n = win l t n := win_eq fun j h3 h4 => by
  rw [List.getElem?_set_ne (by omega)]
/-- the places of a record hold ranges -/
def Holds (X : List Int) (a : Nat) (l : List Rg) (p : Nat) : Prop := ∀ i, i < p → (∀ h : i < l.length, win X (a + 24 * i) 12 = num l[i].f ∧ win X (a + 24 * i + 12) 12 = num (l[i].t - l[i].f)) ∧ (l.length ≤ i → win X (a + 24 * i) 24 = Z24)
theorem holds_step {r : List Int} {a p : Nat} {l : List Rg} (hr : r.length = 512) (hg : Goods l) (ha : a + 24 * p + 24 ≤ 512) (hH : Holds r a l p) : Holds (stepR r a l p) a l (p + 1) := by
  intro i hi
  have z1 : (ow r (a + 24 * p) Z24).length = 512 := by rw [ow_len (by rw [z24_len]; omega)]; exact hr
  unfold stepR
  split
  · rename_i hp
    obtain ⟨h1, h2, -⟩ := hg.at hp
    have n1 := (num_ok h1).2
    have n2 := (num_ok h2).2
    have z2 : (ow (ow r (a + 24 * p) Z24) (a + 24 * p) (num l[p].f)).length = 512 := by rw [ow_len (by rw [n1, z1]; omega)]; exact z1
    by_cases hip : i = p
    · subst hip
      refine ⟨fun h => ⟨?_, ?_⟩, fun h => by omega⟩
      · rw [win_off (by rw [n2, z2]; omega) (by rw [n2]; omega)]
        have := win_ow (l := ow r (a + 24 * i) Z24) (a := a + 24 * i) (b := num l[i].f) (by rw [n1, z1]; omega)
        rwa [n1] at this
      · have := win_ow (l := ow (ow r (a + 24 * i) Z24) (a + 24 * i) (num l[i].f)) (a := a + 24 * i + 12) (b := num (l[i].t - l[i].f)) (by rw [n2, z2]; omega)
        rwa [n2] at this
    · obtain ⟨k1, k2⟩ := hH i (by omega)
      have off : ∀ t n, t + n ≤ a + 24 * p → win (ow (ow (ow r (a + 24 * p) Z24) (a + 24 * p) (num l[p].f)) (a + 24 * p + 12) (num (l[p].t - l[p].f))) t n = win r t n := fun t n h => by
        rw [win_off (by rw [n2, z2]; omega) (by omega), win_off (by rw [n1, z1]; omega) (by omega), win_off (by rw [z24_len, hr]; omega) (by omega)]
      refine ⟨fun h => ?_, fun h => by omega⟩
      rw [off _ _ (by omega), off _ _ (by omega)]
      exact k1 h
  · rename_i hp
    have off : ∀ t n, t + n ≤ a + 24 * p → win (ow r (a + 24 * p) Z24) t n = win r t n := fun t n h => win_off (by rw [z24_len, hr]; omega) (by omega)
    by_cases hip : i = p
    · subst hip
      refine ⟨fun h => absurd h hp, fun h => ?_⟩
      have := win_ow (l := r) (a := a + 24 * i) (b := Z24) (by rw [z24_len, hr]; omega)
      rwa [z24_len] at this
    · obtain ⟨k1, k2⟩ := hH i (by omega)
      refine ⟨fun h => ?_, fun h => ?_⟩
      · rw [off _ _ (by omega), off _ _ (by omega)]
        exact k1 h
      · rw [off _ _ (by omega)]
        exact k2 h
theorem holds_fill {r : List Int} {a : Nat} {l : List Rg} (hr : r.length = 512) (hg : Goods l) : ∀ {p : Nat}, a + 24 * p ≤ 512 → Holds (fillR r a l p) a l p
  | 0, _ => fun i hi => absurd hi (by omega)
  | p + 1, h => holds_step (fillR_len hr hg (by omega)) hg (by omega) (holds_fill hr hg (by omega))
theorem Holds.off {X Y : List Int} {a p : Nat} {l : List Rg} (h : Holds X a l p) (he : ∀ j, a ≤ j → j < a + 24 * p → X[j]? = Y[j]?) : Holds Y a l p := by
  intro i hi
  obtain ⟨h1, h2⟩ := h i hi
  refine ⟨fun hl => ?_, fun hl => ?_⟩
  · rw [← win_eq fun j h3 h4 => he j (by omega) (by omega), ← win_eq fun j h3 h4 => he j (by omega) (by omega)]
    exact h1 hl
  · rw [← win_eq fun j h3 h4 => he j (by omega) (by omega)]
    exact h2 hl
theorem nn_num {n : Int} (h : 0 ≤ n ∧ n ≤ 9223372036854775807) : nnV (num n) = (n, 0) := by
  have h1 : (putN n 12).2 = 0 := by rw [(num_ok h).1]
  have h2 := putN_back h1 (by simp only [fits64, lo64, hi64]; omega)
  unfold nnV num
  rw [h2, if_neg (by simp; omega)]
theorem num_head {n : Int} (h : 0 ≤ n ∧ n ≤ 9223372036854775807) : ∃ x, (num n)[0]? = some x ∧ x ≠ 0 := by
  have h1 : (putN n 12).2 = 0 := by rw [(num_ok h).1]
  unfold num
  unfold putN at h1 ⊢
  by_cases h2 : (putO n 12).2 = 0
  · rw [if_pos h2]
    obtain ⟨x, hx, h3⟩ := putO_head h2
    exact ⟨x, hx, by omega⟩
  · rw [if_neg h2] at h1 ⊢
    obtain ⟨x, r, e, h3⟩ := putB_head h1
    exact ⟨x, by rw [e]; rfl, by omega⟩
theorem get_holds {X : List Int} {a p : Nat} {l : List Rg} (hg : Goods l) (hH : Holds X a l p) : ∀ (k i : Nat), k + i = p → getF X a k i (l.take i) = (l.take p, 0)
  | 0, i, h => by
    obtain rfl : i = p := by omega
    rfl
  | k + 1, i, h => by
    obtain ⟨h1, h2⟩ := hH i (by omega)
    unfold getF
    by_cases hi : i < l.length
    · obtain ⟨w1, w2⟩ := h1 hi
      obtain ⟨p1, p2, p3⟩ := hg.at hi
      have hz : win X (a + 24 * i) 24 ≠ Z24 := by
        intro e
        obtain ⟨x, hx, h0⟩ := num_head p1
        rw [← w1, win_get, if_pos (by omega)] at hx
        have e2 : (win X (a + 24 * i) 24)[0]? = some 0 := by rw [e]; rfl
        rw [win_get, if_pos (by omega), hx] at e2
        injection e2 with e2
        exact h0 e2
      rw [if_neg hz, w1, w2, nn_num p1, nn_num p2, if_neg (by simp), if_neg (by simp), if_neg (by simp only; omega)]
      have e1 : (⟨l[i].f, l[i].f + (l[i].t - l[i].f)⟩ : Rg) = l[i] := by
        have : l[i].f + (l[i].t - l[i].f) = l[i].t := by omega
        rw [this]
      simp only [e1]
      rw [← List.take_succ_eq_append_getElem hi]
      exact get_holds hg hH k (i + 1) (by omega)
    · rw [if_pos (h2 (by omega)), List.take_of_length_le (by omega), List.take_of_length_le (by omega)]

theorem flag_01 (l : List Rg) : flagV l = 0 ∨ flagV l = 1 := by unfold flagV; split <;> simp
theorem by_set {l : List Int} {i : Nat} {L : List Rg} {x : Int} (hb : isBy l) (hx : x ∈ l.set i (flagV L)) : 0 ≤ x ∧ x < 256 := by
  rcases List.mem_or_eq_of_mem_set hx with h | h
  · exact hb x h
  · rcases flag_01 L with e | e <;> omega
theorem ow_by {l b : List Int} {a : Nat} (h1 : isBy l) (h2 : isBy b) : isBy (ow l a b) := by
  intro x hx
  unfold ow at hx
  rcases List.mem_append.1 hx with hx | hx
  · rcases List.mem_append.1 hx with hx | hx
    · exact h1 x (List.mem_of_mem_take hx)
    · exact h2 x hx
  · exact h1 x (List.mem_of_mem_drop hx)
theorem z_by (n : Nat) : isBy (List.replicate n 0) := by
  intro x hx
  rw [List.mem_replicate] at hx
  omega
theorem fill_by {l : List Rg} {a : Nat} (hg : Goods l) : ∀ {p : Nat}, a + 24 * p ≤ 512 → isBy (fillR Z512 a l p)
  | 0, _ => z_by 512
  | p + 1, h => by
    have ih := fill_by (a := a) hg (p := p) (by omega)
    show isBy (stepR (fillR Z512 a l p) a l p)
    unfold stepR
    split
    · rename_i hp
      obtain ⟨h1, h2, -⟩ := hg.at hp
      exact ow_by (ow_by (ow_by ih (z_by 24)) (num_by h1)) (num_by h2)
    · exact ow_by ih (z_by 24)
/-- what is put, read again: the first record -/
theorem old_back {l : List Rg} {size : Int} (hv : validV l size = true) (hs : size ≤ 9223372036854775807) :
    (putOldV Z512 l size).1.length = 512 ∧ isBy (putOldV Z512 l size).1 ∧ getF (putOldV Z512 l size).1 386 4 0 [] = (l.take 4, 0) ∧ nnV (win (putOldV Z512 l size).1 483 12) = (size, 0) ∧ (putOldV Z512 l size).1[482]? = some (flagV (l.drop 4)) := by
  have hg := goods_of hv hs
  obtain ⟨v1, -, -⟩ := valid_true hv
  have hF := fillR_len (k := 4) z512_len hg (a := 386) (l := l) (by omega)
  have hn := (num_ok ⟨v1, hs⟩).2
  have hH := holds_fill (p := 4) z512_len hg (a := 386) (l := l) (by omega)
  have hb : isBy (fillR Z512 386 l 4) := fill_by hg (by omega)
  unfold putOldV
  rw [if_pos hv]
  obtain ⟨F, hFe⟩ : ∃ F, F = fillR Z512 386 l 4 := ⟨_, rfl⟩
  simp only [← hFe] at hF hH hb ⊢
  have hl : 483 + (num size).length ≤ (F.set 482 (flagV (l.drop 4))).length := by rw [hn, List.length_set]; omega
  refine ⟨by rw [ow_len hl, List.length_set]; exact hF, ?_, ?_, ?_, ?_⟩
  · intro x hx
    unfold ow at hx
    rcases List.mem_append.1 hx with hx | hx
    · rcases List.mem_append.1 hx with hx | hx
      · exact by_set hb (List.mem_of_mem_take hx)
      · exact num_by ⟨v1, hs⟩ x hx
    · exact by_set hb (List.mem_of_mem_drop hx)
  · exact get_holds hg (hH.off fun j h1 h2 => by rw [ow_get hl, if_pos (by omega), List.getElem?_set_ne (by omega)]) 4 0 rfl
  · have := win_ow hl
    rw [hn] at this
    rw [this]
    exact nn_num ⟨v1, hs⟩
  · rw [ow_get hl, if_pos (by omega), List.getElem?_set_self (by omega)]
/-- a further one -/
theorem more_back {l : List Rg} (hg : Goods l) :
    ((fillR Z512 0 l 21).set 504 (flagV (l.drop 21))).length = 512 ∧ isBy ((fillR Z512 0 l 21).set 504 (flagV (l.drop 21))) ∧ getF ((fillR Z512 0 l 21).set 504 (flagV (l.drop 21))) 0 21 0 [] = (l.take 21, 0) ∧ ((fillR Z512 0 l 21).set 504 (flagV (l.drop 21)))[504]? = some (flagV (l.drop 21)) := by
  have hF := fillR_len (k := 21) z512_len hg (a := 0) (l := l) (by omega)
  have hH := holds_fill (p := 21) z512_len hg (a := 0) (l := l) (by omega)
  refine ⟨by rw [List.length_set]; exact hF, fun x hx => by_set (fill_by hg (by omega)) hx, ?_, ?_⟩
  · exact get_holds hg (hH.off fun j h1 h2 => by rw [List.getElem?_set_ne (by omega)]) 21 0 rfl
  · rw [List.getElem?_set_self (by omega)]
end Go.Proofs.YthflafgijfbpnaaDoor.S15
