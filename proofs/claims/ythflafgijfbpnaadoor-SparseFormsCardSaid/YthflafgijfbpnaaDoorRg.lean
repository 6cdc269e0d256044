/-
  Ranges: Valid, total, ranges, written.
-/
import Derived.Test.YthflafgijfbpnaaDoorLowA
import Derived.Test.YthflafgijfbpnaaDoorBase
import Derived.Test.YthflafgijfbpnaaDoorSame
set_option linter.unusedVariables false
set_option linter.unusedSimpArgs false
namespace Go.Proofs.YthflafgijfbpnaaDoor.S15
open Go Go.RowKit Go.Proofs.YthflafgijfbpnaaDoor.Sep Go.Proofs.YthflafgijfbpnaaDoor.Low Go.Proofs.YthflafgijfbpnaaDoor.Lib

structure Rg where
  f : Int
  t : Int
  deriving DecidableEq
def rg (x : Rg) : List Value := [.int .i64 x.f, .int .i64 x.t]
theorem rg_len (x : Rg) : (rg x).length = 2 := rfl
def rgTy : Ty Rg := Ty.flat 2 rg rg_len
theorem rg_scalar (x : Rg) : ∀ v ∈ rg x, scalarV v = true := by intro v hv; simp [rg] at hv; rcases hv with rfl | rfl <;> rfl
def Wf (x : Rg) : Prop := (-9223372036854775808 ≤ x.f ∧ x.f ≤ 9223372036854775807) ∧ (-9223372036854775808 ≤ x.t ∧ x.t ≤ 9223372036854775807)
abbrev rgs (l : List Rg) : List Value := encs rg l
/-- the element at a place -/
theorem rg_at {H : Heap} {A : Option Addr} {l : List Rg} (h : Row H A (rgs l)) {i : Nat} (hi : i < l.length) :
    ∃ b, A = some b ∧ H.loadN (b.add (i * 2)) 0 2 = some [.int .i64 l[i].f, .int .i64 l[i].t] ∧ H.cell? (b.add (i * 2)) = some (.int .i64 l[i].f) ∧ H.cell? ((b.add (i * 2)).add 1) = some (.int .i64 l[i].t) := by
  obtain ⟨b, e, h1, h2⟩ := elemR rg_len (by decide) h hi
  refine ⟨b, e, h1, ?_, h2 1 _ rfl⟩
  have := h2 0 _ rfl
  rwa [add_zero_a] at this

def chain (size : Int) : Int → List Rg → Bool
  | _, [] => true
  | at_, x :: l => if x.f < at_ then false else if x.t < x.f then false else if size < x.t then false else chain size x.t l
def validV (l : List Rg) (size : Int) : Bool := if size < 0 then false else if 65536 < (l.length : Int) then false else chain size 0 l

/-- the end before the place i -/
def endAt (l : List Rg) (i : Nat) : Int := match i with
  | 0 => 0
  | i + 1 => (l[i]?.map Rg.t).getD 0
theorem chain_step {l : List Rg} {size : Int} {i : Nat} (hi : i < l.length) : chain size (endAt l i) (l.drop i) = (if l[i].f < endAt l i then false else if l[i].t < l[i].f then false else if size < l[i].t then false else chain size (endAt l (i + 1)) (l.drop (i + 1))) := by
  rw [List.drop_eq_getElem_cons hi]
  have : endAt l (i + 1) = l[i].t := by simp [endAt, hi]
  rw [this]
  rfl

theorem fits_spec {H : Heap} {a : Option Addr} {n c : Nat} {l : List Rg} {size : Int} (hr : Row H a (rgs l)) (hn : n = l.length) :
    ACalls Tryd.prog 23 [Value.slice a n c, .int .i64 size].toArray H fun e H' => e = .returned (.bool (validV l size)) ∧ Keep H H' := by
  subst hn
  refine call23 (Nat.le_of_ble_eq_true rfl) ?_
  unfold L23 env0
  unfold validV
  by_cases h1 : size < 0
  · have f1 : decide (size < 0) = true := decide_eq_true h1
    simp -implicitDefEqProofs (maxSteps := 1000000) (disch := first | omega | assumption) only [l_g, f1, Sx, reduceIte, Nat.reduceEqDiff, reduceCtorEq, Nat.reduceAdd, Nat.reduceSub, Nat.reduceLT]
    exact ⟨by simp [h1], Keep.refl _⟩
  · have f1 : decide (size < 0) = false := decide_eq_false h1
    by_cases h2 : 65536 < (l.length : Int)
    · have f2 : decide (65536 < (l.length : Int)) = true := decide_eq_true h2
      simp -implicitDefEqProofs (maxSteps := 1000000) (disch := first | omega | assumption) only [l_g, f1, f2, Sx, reduceIte, Nat.reduceEqDiff, reduceCtorEq, Nat.reduceAdd, Nat.reduceSub, Nat.reduceLT]
      exact ⟨by simp [h1, h2], Keep.refl _⟩
    · have f2 : decide (65536 < (l.length : Int)) = false := decide_eq_false h2
      rw [if_neg h1, if_neg h2]
      simp -implicitDefEqProofs (maxSteps := 1000000) (disch := first | omega | assumption) only [l_g, f1, f2, Sx, reduceIte, Nat.reduceEqDiff, reduceCtorEq, Nat.reduceAdd, Nat.reduceSub, Nat.reduceLT]
      refine c_loop (fun k env H' => Keep H H' ∧ ∃ i, k + i = l.length ∧ env 1 = .int .i64 size ∧ env 15 = .slice a l.length c ∧ env 16 = .int .i64 l.length ∧ env 17 = .int .i64 i ∧ env 5 = .int .i64 (endAt l i) ∧ chain size 0 l = chain size (endAt l i) (l.drop i)) l.length ⟨Keep.refl _, 0, by omega, rfl, rfl, rfl, rfl, rfl, rfl⟩ ?_
      rintro k env H1 ⟨hK, i, hk, g1, g15, g16, g17, g5, hch⟩
      unfold L23_0
      by_cases hi : i < l.length
      · have f0 : decide ((i : Int) < (l.length : Int)) = true := decide_eq_true (by omega)
        obtain ⟨b, rfl, hld, _, _⟩ := rg_at (hK.row hr) hi
        obtain ⟨x, hx⟩ : ∃ x, x = l[i] := ⟨_, rfl⟩
        rw [chain_step hi] at hch
        rw [← hx] at hld hch
        simp -implicitDefEqProofs (maxSteps := 1000000) (disch := first | omega | assumption) only [g1, g15, g16, g17, g5, f0, ev_ldn, hld, Sx, reduceIte, Nat.reduceEqDiff, reduceCtorEq, Nat.reduceAdd, Nat.reduceSub, Nat.reduceLT]
        refine a_new fun r hr1 => ?_
        try simp -implicitDefEqProofs (maxSteps := 1000000) (disch := first | omega | assumption) only [Sx, reduceIte, Nat.reduceEqDiff, reduceCtorEq, Nat.reduceAdd, Nat.reduceSub, Nat.reduceLT]
        refine st_all (old := [.int .i64 0, .int .i64 0]) set_same (by simp) (by rfl) (by simp [scalarV]) ?_
        rw [set_set]
        have hk1 : Keep H1 (H1.set r (.cells [.int .i64 x.f, .int .i64 x.t].toArray 51 (0, 0))) := (Keep.refl _).set_new hr1
        obtain ⟨H2, hH2⟩ : ∃ H2, H2 = H1.set r (.cells [.int .i64 x.f, .int .i64 x.t].toArray 51 (0, 0)) := ⟨_, rfl⟩
        have hb : H2 r = some (.cells [.int .i64 x.f, .int .i64 x.t].toArray 51 (0, 0)) := by rw [hH2]; exact set_same
        rw [← hH2] at hk1 ⊢
        by_cases c1 : x.f < endAt l i
        · have e1 : decide (x.f < endAt l i) = true := decide_eq_true c1
          rw [if_pos c1] at hch
          simp -implicitDefEqProofs (maxSteps := 1000000) (disch := first | omega | assumption) only [g1, g5, l_g, cell_of hb, e1, Sx, reduceIte, Nat.reduceEqDiff, reduceCtorEq, Nat.reduceAdd, Nat.reduceSub, Nat.reduceLT]
          exact ⟨by rw [hch], hK.trans hk1⟩
        · have e1 : decide (x.f < endAt l i) = false := decide_eq_false c1
          rw [if_neg c1] at hch
          by_cases c2 : x.t < x.f
          · have e2 : decide (x.t < x.f) = true := decide_eq_true c2
            rw [if_pos c2] at hch
            simp -implicitDefEqProofs (maxSteps := 1000000) (disch := first | omega | assumption) only [g1, g5, l_g, cell_of hb, e1, e2, Sx, reduceIte, Nat.reduceEqDiff, reduceCtorEq, Nat.reduceAdd, Nat.reduceSub, Nat.reduceLT]
            exact ⟨by rw [hch], hK.trans hk1⟩
          · have e2 : decide (x.t < x.f) = false := decide_eq_false c2
            rw [if_neg c2] at hch
            by_cases c3 : size < x.t
            · have e3 : decide (size < x.t) = true := decide_eq_true c3
              rw [if_pos c3] at hch
              simp -implicitDefEqProofs (maxSteps := 1000000) (disch := first | omega | assumption) only [g1, g5, l_g, cell_of hb, e1, e2, e3, Sx, reduceIte, Nat.reduceEqDiff, reduceCtorEq, Nat.reduceAdd, Nat.reduceSub, Nat.reduceLT]
              exact ⟨by rw [hch], hK.trans hk1⟩
            · have e3 : decide (size < x.t) = false := decide_eq_false c3
              rw [if_neg c3] at hch
              simp -implicitDefEqProofs (maxSteps := 1000000) (disch := first | omega | assumption) only [g1, g5, g15, g16, g17, l_g, cell_of hb, e1, e2, e3, Sx, reduceIte, Nat.reduceEqDiff, reduceCtorEq, Nat.reduceAdd, Nat.reduceSub, Nat.reduceLT]
              refine ⟨k - 1, by omega, hK.trans hk1, i + 1, by omega, by trivial, by trivial, by trivial, by simp, ?_, hch⟩
              simp [endAt, hi, hx]
      · have f0 : decide ((i : Int) < (l.length : Int)) = false := decide_eq_false (by omega)
        have : l.drop i = [] := List.drop_of_length_le (by omega)
        rw [this] at hch
        simp -implicitDefEqProofs (maxSteps := 1000000) (disch := first | omega | assumption) only [g16, g17, f0, Sx, reduceIte, Nat.reduceEqDiff, reduceCtorEq, Nat.reduceAdd, Nat.reduceSub, Nat.reduceLT]
        exact ⟨by rw [hch]; rfl, hK⟩

theorem rvalid_spec {H : Heap} {a : Option Addr} {n c : Nat} {l : List Rg} {size : Int} (hr : Row H a (rgs l)) (hn : n = l.length) :
    ACalls Tryd.prog 26 [Value.slice a n c, .int .i64 size].toArray H fun e H' => e = .returned (.bool (validV l size)) ∧ H' = H := by
  subst hn
  refine call26 (Nat.le_of_ble_eq_true rfl) ?_
  unfold L26 env0
  unfold validV
  by_cases h1 : size < 0
  · have f1 : decide (size < 0) = true := decide_eq_true h1
    simp -implicitDefEqProofs (maxSteps := 1000000) (disch := first | omega | assumption) only [l_g, f1, Sx, reduceIte, Nat.reduceEqDiff, reduceCtorEq, Nat.reduceAdd, Nat.reduceSub, Nat.reduceLT]
    exact ⟨by simp [h1], by trivial⟩
  · have f1 : decide (size < 0) = false := decide_eq_false h1
    by_cases h2 : 65536 < (l.length : Int)
    · have f2 : decide (65536 < (l.length : Int)) = true := decide_eq_true h2
      simp -implicitDefEqProofs (maxSteps := 1000000) (disch := first | omega | assumption) only [l_g, f1, f2, Sx, reduceIte, Nat.reduceEqDiff, reduceCtorEq, Nat.reduceAdd, Nat.reduceSub, Nat.reduceLT]
      exact ⟨by simp [h1, h2], by trivial⟩
    · have f2 : decide (65536 < (l.length : Int)) = false := decide_eq_false h2
      rw [if_neg h1, if_neg h2]
      simp -implicitDefEqProofs (maxSteps := 1000000) (disch := first | omega | assumption) only [l_g, f1, f2, Sx, reduceIte, Nat.reduceEqDiff, reduceCtorEq, Nat.reduceAdd, Nat.reduceSub, Nat.reduceLT]
      refine c_loop (fun k env H' => H' = H ∧ ∃ i, k + i = l.length ∧ env 0 = .slice a l.length c ∧ env 1 = .int .i64 size ∧ env 6 = .int .i64 i ∧ env 5 = .int .i64 (endAt l i) ∧ chain size 0 l = chain size (endAt l i) (l.drop i)) l.length ⟨rfl, 0, by omega, rfl, rfl, rfl, rfl, rfl⟩ ?_
      rintro k env H1 ⟨rfl, i, hk, g0, g1, g6, g5, hch⟩
      unfold L26_0
      by_cases hi : i < l.length
      · have f0 : decide ((i : Int) < (l.length : Int)) = true := decide_eq_true (by omega)
        obtain ⟨b, rfl, _, hc1, hc2⟩ := rg_at hr hi
        obtain ⟨x, hx⟩ : ∃ x, x = l[i] := ⟨_, rfl⟩
        rw [chain_step hi] at hch
        rw [← hx] at hc1 hc2 hch
        by_cases c1 : x.f < endAt l i
        · have e1 : decide (x.f < endAt l i) = true := decide_eq_true c1
          rw [if_pos c1] at hch
          simp -implicitDefEqProofs (maxSteps := 1000000) (disch := first | omega | assumption) only [g0, g1, g5, g6, f0, l_g, hc1, hc2, e1, Sx, reduceIte, Nat.reduceEqDiff, reduceCtorEq, Nat.reduceAdd, Nat.reduceSub, Nat.reduceLT]
          exact ⟨by rw [hch], by trivial⟩
        · have e1 : decide (x.f < endAt l i) = false := decide_eq_false c1
          rw [if_neg c1] at hch
          by_cases c2 : x.t < x.f
          · have e2 : decide (x.t < x.f) = true := decide_eq_true c2
            rw [if_pos c2] at hch
            simp -implicitDefEqProofs (maxSteps := 1000000) (disch := first | omega | assumption) only [g0, g1, g5, g6, f0, l_g, hc1, hc2, e1, e2, Sx, reduceIte, Nat.reduceEqDiff, reduceCtorEq, Nat.reduceAdd, Nat.reduceSub, Nat.reduceLT]
            exact ⟨by rw [hch], by trivial⟩
          · have e2 : decide (x.t < x.f) = false := decide_eq_false c2
            rw [if_neg c2] at hch
            by_cases c3 : size < x.t
            · have e3 : decide (size < x.t) = true := decide_eq_true c3
              rw [if_pos c3] at hch
              simp -implicitDefEqProofs (maxSteps := 1000000) (disch := first | omega | assumption) only [g0, g1, g5, g6, f0, l_g, hc1, hc2, e1, e2, e3, Sx, reduceIte, Nat.reduceEqDiff, reduceCtorEq, Nat.reduceAdd, Nat.reduceSub, Nat.reduceLT]
              exact ⟨by rw [hch], by trivial⟩
            · have e3 : decide (size < x.t) = false := decide_eq_false c3
              rw [if_neg c3] at hch
              simp -implicitDefEqProofs (maxSteps := 1000000) (disch := first | omega | assumption) only [g0, g1, g5, g6, f0, l_g, hc1, hc2, e1, e2, e3, Sx, reduceIte, Nat.reduceEqDiff, reduceCtorEq, Nat.reduceAdd, Nat.reduceSub, Nat.reduceLT]
              refine ⟨k - 1, by omega, by trivial, i + 1, by omega, by trivial, by trivial, by simp, ?_, hch⟩
              simp [endAt, hi, hx]
      · have f0 : decide ((i : Int) < (l.length : Int)) = false := decide_eq_false (by omega)
        have : l.drop i = [] := List.drop_of_length_le (by omega)
        rw [this] at hch
        simp -implicitDefEqProofs (maxSteps := 1000000) (disch := first | omega | assumption) only [g0, g6, f0, Sx, reduceIte, Nat.reduceEqDiff, reduceCtorEq, Nat.reduceAdd, Nat.reduceSub, Nat.reduceLT]
        exact ⟨by rw [hch]; rfl, by trivial⟩
end Go.Proofs.YthflafgijfbpnaaDoor.S15
