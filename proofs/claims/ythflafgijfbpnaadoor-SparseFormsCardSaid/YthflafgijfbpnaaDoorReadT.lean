/-
  Maps out of texts: Read, of both.
-/
import Derived.Test.YthflafgijfbpnaaDoorPutT
set_option linter.unusedVariables false
set_option linter.unusedSimpArgs false
namespace Go.Proofs.YthflafgijfbpnaaDoor.S15
open Go Go.RowKit Go.Proofs.YthflafgijfbpnaaDoor.Sep Go.Proofs.YthflafgijfbpnaaDoor.Low Go.Proofs.YthflafgijfbpnaaDoor.Lib

def rdR (b : List Int) : Nat → Nat → Int → List Rg → List Rg × Nat × Int
  | 0, p, en, L => (L, p, 0)
  | k + 1, p, en, L => if (numAt b p).2.2 ≠ 0 then ([], 0, (numAt b p).2.2) else
    if (numAt b (p + (numAt b p).2.1)).2.2 ≠ 0 then ([], 0, (numAt b (p + (numAt b p).2.1)).2.2) else
    if (numAt b p).1 < en ∨ 9223372036854775807 - (numAt b p).1 < (numAt b (p + (numAt b p).2.1)).1 then ([], 0, 3) else
    rdR b k (p + (numAt b p).2.1 + (numAt b (p + (numAt b p).2.1)).2.1) ((numAt b p).1 + (numAt b (p + (numAt b p).2.1)).1) (L ++ [⟨(numAt b p).1, (numAt b p).1 + (numAt b (p + (numAt b p).2.1)).1⟩])
def padR (b : List Int) : Nat → Nat → Nat × Int
  | 0, p => (p, 0)
  | k + 1, p => if p = b.length then (p, 4) else if b.getD p 0 ≠ 0 then (p, 3) else padR b k (p + 1)
def finish (b : List Int) (x : List Rg × Nat × Int) : List Rg × Nat × Int := if x.2.2 ≠ 0 then ([], 0, x.2.2) else if (padR b (padN x.2.1) x.2.1).2 ≠ 0 then ([], 0, (padR b (padN x.2.1) x.2.1).2) else (x.1, (padR b (padN x.2.1) x.2.1).1, 0)
def readV (b : List Int) : List Rg × Nat × Int := finish b (if (numAt b 0).2.2 ≠ 0 then ([], 0, (numAt b 0).2.2) else if 65536 < (numAt b 0).1 then ([], 0, 2) else rdR b (numAt b 0).1.toNat (numAt b 0).2.1 0 [])

/-- what Read answers -/
def RdOk (H : Heap) (x : List Rg × Nat × Int) (e : Ending) (H' : Heap) : Prop := ∃ v, e = .returned (.tuple #[v, .int .i64 x.2.1, .int .i64 x.2.2]) ∧ Own H' 51 2 v (rgs x.1) ∧ Keep H H' ∧ Fresh H v

/-- a list of ranges, over a change of the lines' own block -/
theorem lines_own {H1 H2 : Heap} {r : Nat} {v : Value} {cs : List Value} {c0 c1 : Array Value} (hO : Own H1 51 2 v cs) (hb : H1 r = some (.cells c0 55 (0, 0))) (h2 : H2 = H1.set r (.cells c1 55 (0, 0))) : Own H2 51 2 v cs := by
  subst h2
  exact hO.only (S := fun q => q = r) ((Only.refl _ _).set (.inl rfl)) fun q hq e => hO.elem hb (by decide) (e ▸ hq)

theorem tail_err {H0 H : Heap} {env : Env} {p : Nat} {b : List Int} {e : Int} {L : List Rg} {S : Ending → Heap → Prop} {QP : List PanicEntry → Heap → Prop}
    (he : e ≠ 0) (g7 : env 7 = .int .i64 e) (hK : Keep H0 H) (hS : ∀ e' H', RdOk H0 (finish b (L, p, e)) e' H' → S e' H') : awpC Tryd.prog L9_4 (retQ [.t 2, .t 3, .t 4] S) QP env H := by
  unfold L9_4
  have f0 : (e == 0) = false := by rw [beq_eq_false_iff_ne]; exact he
  have f1 : (e != 0) = true := by rw [bne_iff_ne]; exact he
  have hFin : finish b (L, p, e) = ([], 0, e) := by unfold finish; rw [if_pos he]
  rw [hFin] at hS
  simp -implicitDefEqProofs (maxSteps := 1000000) (disch := first | omega | assumption) only [Sx, reduceIte, Nat.reduceEqDiff, reduceCtorEq, Nat.reduceAdd, Nat.reduceSub, Nat.reduceLT, decide_true, decide_false, Bool.not_true, Bool.not_false, Int.toNat_one, Int.toNat_zero, Nat.zero_mul, l_g, endK, gd_u]
  refine c_loop (fun n env' H' => H' = H ∧ env' 7 = .int .i64 e) 0 ⟨rfl, g7⟩ ?_
  rintro n env H1 ⟨rfl, g7⟩
  unfold L9_3
  simp -implicitDefEqProofs (maxSteps := 1000000) (disch := first | omega | assumption) only [g7, f0, f1, Sx, reduceIte, Nat.reduceEqDiff, reduceCtorEq, Nat.reduceAdd, Nat.reduceSub, Nat.reduceLT, decide_true, decide_false, Bool.not_true, Bool.not_false, Int.toNat_one, Int.toNat_zero, Nat.zero_mul, l_g, endK, gd_u]
  exact hS _ _ ⟨_, rfl, .nil, hK, fun r e => by cases e⟩

set_option maxHeartbeats 4000000 in
theorem tail_spec {H0 H : Heap} {env : Env} {r : Nat} {A : Option Addr} {c p : Nat} {b : List Int} {e : Int} {v : Value} {L : List Rg} {S : Ending → Heap → Prop} {QP : List PanicEntry → Heap → Prop}
    (hr : Row H0 A (by8 b)) (hr0 : H0 r = none) (hp : p ≤ b.length) (hl : b.length ≤ 211106232532992)
    (g0 : env 0 = .slice A b.length c) (g5 : env 5 = .pointer (some ⟨r, 0, none⟩)) (g7 : env 7 = .int .i64 e) (g8 : env 8 = v)
    (hb : H r = some (.cells (linesC A b.length c p) 55 (0, 0))) (hO : Own H 51 2 v (rgs L)) (hK : Keep H0 H) (hF : Fresh H0 v)
    (hS : ∀ e' H', RdOk H0 (finish b (L, p, e)) e' H' → S e' H') : awpC Tryd.prog L9_4 (retQ [.t 2, .t 3, .t 4] S) QP env H := by
  unfold L9_4
  by_cases he : e = 0
  · subst he
    have hfin : ∀ q er, padR b (padN p) p = (q, er) → finish b (L, p, 0) = if er ≠ 0 then ([], 0, er) else (L, q, 0) := by
      intro q er h
      unfold finish
      rw [if_neg (by simp), h]
    obtain ⟨F, hFd⟩ : ∃ F, F = finish b (L, p, 0) := ⟨_, rfl⟩
    obtain ⟨PR, hPR⟩ : ∃ PR, PR = padR b (padN p) p := ⟨_, rfl⟩
    have hFin := hfin _ _ hPR.symm
    rw [← hFd] at hFin hS
    simp -implicitDefEqProofs (maxSteps := 1000000) (disch := first | omega | assumption) only [Sx, reduceIte, Nat.reduceEqDiff, reduceCtorEq, Nat.reduceAdd, Nat.reduceSub, Nat.reduceLT, decide_true, decide_false, Bool.not_true, Bool.not_false, Int.toNat_one, Int.toNat_zero, Nat.zero_mul, l_g, endK, gd_u]
    refine c_loop (fun n env' H' => env' 0 = .slice A b.length c ∧ env' 5 = .pointer (some ⟨r, 0, none⟩) ∧ env' 8 = v ∧ Own H' 51 2 v (rgs L) ∧ Keep H0 H' ∧
        ((∃ k q, n = k + 1 ∧ env' 7 = .int .i64 0 ∧ H' r = some (.cells (linesC A b.length c q) 55 (0, 0)) ∧ PR = padR b k q ∧ (q + k) % 512 = 0 ∧ k < 512 ∧ q ≤ b.length) ∨
         (∃ er, env' 7 = .int .i64 er ∧ er ≠ 0 ∧ PR.2 = er))) (padN p + 1)
      ⟨g0, g5, g8, hO, hK, .inl ⟨padN p, p, rfl, g7, hb, hPR, by unfold padN; omega, padN_lt p, hp⟩⟩ ?_
    clear hPR g0 g5 g7 g8 hb hO hK hfin hp hFd
    rintro n env H1 ⟨g0, g5, g8, hO, hK, hcase⟩
    have hsv := hO.scalar
    unfold L9_3
    rcases hcase with ⟨k, q, rfl, g7, hb, hPR, hqk, hk5, hq⟩ | ⟨er, g7, her, hPR⟩
    · have c1 : H1.cell? ⟨r, 0 + 1, none⟩ = some (.int .i64 (q : Int)) := by rw [cell_of hb]; rfl
      have em := emod_nat q
      have f0 : ((0 : Int) == 0) = true := rfl
      cases k with
      | zero =>
        have hq5 : q % 512 = 0 := by omega
        rw [decide_eq_false (by simpa using hq5)] at em
        have f1 : ((0 : Int) != 0) = false := rfl
        simp only [padR] at hPR
        subst hPR
        rw [if_neg (by simp)] at hFin
        simp -implicitDefEqProofs (maxSteps := 1000000) (disch := first | omega | assumption) only [g0, g5, g7, g8, f0, f1, ev_nilc, c1, em, Sx, reduceIte, Nat.reduceEqDiff, reduceCtorEq, Nat.reduceAdd, Nat.reduceSub, Nat.reduceLT, decide_true, decide_false, Bool.not_true, Bool.not_false, Int.toNat_one, Int.toNat_zero, Nat.zero_mul, l_g, endK, gd_u]
        exact hS _ _ ⟨v, by rw [hFin], by rw [hFin]; exact hO, hK, hF⟩
      | succ k =>
        have hq5 : ¬ q % 512 = 0 := by omega
        rw [decide_eq_true hq5] at em
        unfold padR at hPR
        have hset : ∀ z : Int, (q : Int) + 1 = z → Own (H1.set r (.cells [.slice A b.length c, .int .i64 z].toArray 55 (0, 0))) 51 2 v (rgs L) := fun z _ => lines_own hO hb rfl
        have hkp : ∀ z : Int, Keep H0 (H1.set r (.cells [.slice A b.length c, .int .i64 z].toArray 55 (0, 0))) := fun z => hK.set_fresh hr0
        by_cases hqe : q = b.length
        · rw [if_pos hqe] at hPR
          have f2 : ((q : Int) == (b.length : Int)) = true := by rw [beq_iff_eq]; omega
          simp -implicitDefEqProofs (maxSteps := 1000000) (disch := first | omega | assumption) only [g0, g5, g7, g8, f0, f2, ev_nilc, c1, em, L9_2, Sx, reduceIte, Nat.reduceEqDiff, reduceCtorEq, Nat.reduceAdd, Nat.reduceSub, Nat.reduceLT, decide_true, decide_false, Bool.not_true, Bool.not_false, Int.toNat_one, Int.toNat_zero, Nat.zero_mul, l_g, endK, gd_u]
          refine st_one (o := 1) hb (by simp [linesC]) rfl ?_
          try simp -implicitDefEqProofs (maxSteps := 1000000) (disch := first | omega | assumption) only [g0, g5, g7, g8, linesC, Sx, reduceIte, Nat.reduceEqDiff, reduceCtorEq, Nat.reduceAdd, Nat.reduceSub, Nat.reduceLT, decide_true, decide_false, Bool.not_true, Bool.not_false, Int.toNat_one, Int.toNat_zero, Nat.zero_mul, l_g, endK, gd_u]
          exact ⟨0, by omega, by (first | exact True.intro | rfl | assumption), by (first | exact True.intro | rfl | assumption), by (first | exact True.intro | rfl | assumption), hset _ rfl, hkp _, .inr ⟨4, by (first | exact True.intro | rfl | assumption), by omega, by rw [hPR]⟩⟩
        · rw [if_neg hqe] at hPR
          have f2 : ((q : Int) == (b.length : Int)) = false := by rw [beq_eq_false_iff_ne]; omega
          have hql : q < b.length := by omega
          obtain ⟨a, rfl, hx⟩ := by_at (hK.row hr) hql
          have hgd : b.getD q 0 = b[q] := by simp [hql]
          rw [hgd] at hPR
          generalize b[q] = x at hx hPR hgd
          have hix : (0 : Int) ≤ (q : Int) ∧ (q : Int) < (b.length : Nat) := by omega
          by_cases hx0 : x = 0
          · have f3 : (x != 0) = false := by rw [bne_eq_false_iff_eq]; exact hx0
            rw [if_neg (by simpa using hx0)] at hPR
            simp -implicitDefEqProofs (maxSteps := 1000000) (disch := first | omega | assumption) only [g0, g5, g7, g8, f0, f2, f3, hx, ev_nilc, c1, em, L9_2, Sx, reduceIte, Nat.reduceEqDiff, reduceCtorEq, Nat.reduceAdd, Nat.reduceSub, Nat.reduceLT, decide_true, decide_false, Bool.not_true, Bool.not_false, Int.toNat_one, Int.toNat_zero, Nat.zero_mul, l_g, endK, gd_u]
            refine st_one (o := 1) hb (by simp [linesC]) rfl ?_
            try simp -implicitDefEqProofs (maxSteps := 1000000) (disch := first | omega | assumption) only [g0, g5, g7, g8, linesC, Sx, reduceIte, Nat.reduceEqDiff, reduceCtorEq, Nat.reduceAdd, Nat.reduceSub, Nat.reduceLT, decide_true, decide_false, Bool.not_true, Bool.not_false, Int.toNat_one, Int.toNat_zero, Nat.zero_mul, l_g, endK, gd_u]
            refine ⟨k + 1, by omega, by (first | exact True.intro | rfl | assumption), by (first | exact True.intro | rfl | assumption), by (first | exact True.intro | rfl | assumption), hset _ rfl, hkp _, .inl ⟨k, q + 1, rfl, by (first | exact True.intro | rfl | assumption), ?_, hPR, by omega, by omega, by omega⟩⟩
            rw [set_same]
            simp
          · have f3 : (x != 0) = true := by rw [bne_iff_ne]; exact hx0
            rw [if_pos hx0] at hPR
            simp -implicitDefEqProofs (maxSteps := 1000000) (disch := first | omega | assumption) only [g0, g5, g7, g8, f0, f2, f3, hx, ev_nilc, c1, em, L9_2, Sx, reduceIte, Nat.reduceEqDiff, reduceCtorEq, Nat.reduceAdd, Nat.reduceSub, Nat.reduceLT, decide_true, decide_false, Bool.not_true, Bool.not_false, Int.toNat_one, Int.toNat_zero, Nat.zero_mul, l_g, endK, gd_u]
            refine st_one (o := 1) hb (by simp [linesC]) rfl ?_
            try simp -implicitDefEqProofs (maxSteps := 1000000) (disch := first | omega | assumption) only [g0, g5, g7, g8, linesC, Sx, reduceIte, Nat.reduceEqDiff, reduceCtorEq, Nat.reduceAdd, Nat.reduceSub, Nat.reduceLT, decide_true, decide_false, Bool.not_true, Bool.not_false, Int.toNat_one, Int.toNat_zero, Nat.zero_mul, l_g, endK, gd_u]
            exact ⟨0, by omega, by (first | exact True.intro | rfl | assumption), by (first | exact True.intro | rfl | assumption), by (first | exact True.intro | rfl | assumption), hset _ rfl, hkp _, .inr ⟨3, by (first | exact True.intro | rfl | assumption), by omega, by rw [hPR]⟩⟩
    · have f0 : (er == 0) = false := by rw [beq_eq_false_iff_ne]; exact her
      have f1 : (er != 0) = true := by rw [bne_iff_ne]; exact her
      rw [if_pos (by rw [hPR]; exact her), hPR] at hFin
      simp -implicitDefEqProofs (maxSteps := 1000000) (disch := first | omega | assumption) only [g0, g5, g7, g8, f0, f1, Sx, reduceIte, Nat.reduceEqDiff, reduceCtorEq, Nat.reduceAdd, Nat.reduceSub, Nat.reduceLT, decide_true, decide_false, Bool.not_true, Bool.not_false, Int.toNat_one, Int.toNat_zero, Nat.zero_mul, l_g, endK, gd_u]
      rw [hFin] at hS
      exact hS _ _ ⟨_, rfl, .nil, hK, fun r e => by cases e⟩
  · exact tail_err he g7 hK hS

set_option maxHeartbeats 8000000 in
theorem read_spec {H : Heap} {A : Option Addr} {n c : Nat} {b : List Int} (hr : Row H A (by8 b)) (hby : isBy b) (hn : n = b.length) (hl : b.length ≤ 211106232532992) :
    ACalls Tryd.prog 9 [Value.slice A n c].toArray H fun e H' => RdOk H (readV b) e H' := by
  subst hn
  refine call9 (Nat.le_of_ble_eq_true rfl) ?_
  unfold L9 env0
  simp -implicitDefEqProofs (maxSteps := 1000000) (disch := first | omega | assumption) only [Sx, reduceIte, Nat.reduceEqDiff, reduceCtorEq, Nat.reduceAdd, Nat.reduceSub, Nat.reduceLT, decide_true, decide_false, Bool.not_true, Bool.not_false, Int.toNat_one, Int.toNat_zero, Nat.zero_mul, l_g, endK, gd_u]
  refine a_box fun r hr0 => ?_
  have hk1 : Keep H (H.set r (.cells (linesC A b.length c 0) 55 (0, 0))) := (Keep.refl _).set_new hr0
  obtain ⟨H1, hH1⟩ : ∃ H1, H1 = H.set r (.cells (linesC A b.length c 0) 55 (0, 0)) := ⟨_, rfl⟩
  have hb1 : H1 r = some (.cells (linesC A b.length c 0) 55 (0, 0)) := by rw [hH1]; exact set_same
  have hA : ∀ a, A = some a → 0 < b.length → a.block ≠ r := by
    rintro a rfl h0 e
    obtain ⟨a', ea, hx⟩ := by_at hr h0
    cases ea
    have := Heap.cell_known hx
    rw [block_add, e] at this
    exact this hr0
  try simp -implicitDefEqProofs (maxSteps := 1000000) (disch := first | omega | assumption) only [Value.cells, Sx, reduceIte, Nat.reduceEqDiff, reduceCtorEq, Nat.reduceAdd, Nat.reduceSub, Nat.reduceLT, decide_true, decide_false, Bool.not_true, Bool.not_false, Int.toNat_one, Int.toNat_zero, Nat.zero_mul, l_g, endK, gd_u]
  rw [show H.set r (.cells #[.slice A b.length c, .int .i64 0] 55 (0, 0)) = H1 from hH1.symm]
  rw [← hH1] at hk1
  refine a_call (next_spec hb1 (hk1.row hr) hby hA (by omega) hl) ?_
  rintro e H2 ⟨rfl, q, hH2, hq⟩
  have hb2 : H2 r = some (.cells (linesC A b.length c q) 55 (0, 0)) := by rw [hH2]; exact set_same
  have hk2 : Keep H H2 := by rw [hH2]; exact hk1.set_fresh hr0
  have hok := numAt_ok (b := b) (p := 0) (by omega)
  unfold readV
  obtain ⟨N, hN⟩ : ∃ N, N = numAt b 0 := ⟨_, rfl⟩
  rw [← hN] at hq hok ⊢
  have hnil : ∀ H' : Heap, Own H' 51 2 (.slice none 0 0) (rgs []) := fun _ => .nil
  have hfn : Fresh H (.slice none 0 0) := fun r e => by cases e
  -- what is read behind an error
  have early : ∀ (e : Int) (env : Env), e ≠ 0 → env 7 = .int .i64 e → env 6 = .int .i64 N.1 →
      awpC Tryd.prog L9_5 (retQ [.t 2, .t 3, .t 4] (fun e' H' => RdOk H (finish b ([], 0, e)) e' H')) (fun ch H' => RdOk H (finish b ([], 0, e)) (.panicked ch) H') env H2 := by
    intro e env he g7 g6
    have f0 : (e == 0) = false := by rw [beq_eq_false_iff_ne]; exact he
    unfold L9_5
    simp -implicitDefEqProofs (maxSteps := 1000000) (disch := first | omega | assumption) only [Sx, reduceIte, Nat.reduceEqDiff, reduceCtorEq, Nat.reduceAdd, Nat.reduceSub, Nat.reduceLT, decide_true, decide_false, Bool.not_true, Bool.not_false, Int.toNat_one, Int.toNat_zero, Nat.zero_mul, l_g, endK, gd_u]
    refine c_loop (fun n env' H' => H' = H2 ∧ env' 6 = .int .i64 N.1 ∧ env' 7 = .int .i64 e ∧ env' 10 = .int .i64 0) 0 ⟨rfl, by simp -implicitDefEqProofs (maxSteps := 1000000) (disch := first | omega | assumption) only [g6, Sx, reduceIte, Nat.reduceEqDiff, reduceCtorEq, Nat.reduceAdd, Nat.reduceSub, Nat.reduceLT, decide_true, decide_false, Bool.not_true, Bool.not_false, Int.toNat_one, Int.toNat_zero, Nat.zero_mul, l_g, endK, gd_u], by simp -implicitDefEqProofs (maxSteps := 1000000) (disch := first | omega | assumption) only [g7, Sx, reduceIte, Nat.reduceEqDiff, reduceCtorEq, Nat.reduceAdd, Nat.reduceSub, Nat.reduceLT, decide_true, decide_false, Bool.not_true, Bool.not_false, Int.toNat_one, Int.toNat_zero, Nat.zero_mul, l_g, endK, gd_u], by simp -implicitDefEqProofs (maxSteps := 1000000) (disch := first | omega | assumption) only [Sx, reduceIte, Nat.reduceEqDiff, reduceCtorEq, Nat.reduceAdd, Nat.reduceSub, Nat.reduceLT, decide_true, decide_false, Bool.not_true, Bool.not_false, Int.toNat_one, Int.toNat_zero, Nat.zero_mul, l_g, endK, gd_u]⟩ ?_
    rintro n env H3 ⟨rfl, g6, g7, g10⟩
    unfold L9_1
    by_cases hc : (0 : Int) < N.1
    · have f1 : decide ((0 : Int) < N.1) = true := decide_eq_true hc
      simp -implicitDefEqProofs (maxSteps := 1000000) (disch := first | omega | assumption) only [g6, g7, g10, f0, f1, Sx, reduceIte, Nat.reduceEqDiff, reduceCtorEq, Nat.reduceAdd, Nat.reduceSub, Nat.reduceLT, decide_true, decide_false, Bool.not_true, Bool.not_false, Int.toNat_one, Int.toNat_zero, Nat.zero_mul, l_g, endK, gd_u]
      exact tail_err he (by simp -implicitDefEqProofs (maxSteps := 1000000) (disch := first | omega | assumption) only [g7, Sx, reduceIte, Nat.reduceEqDiff, reduceCtorEq, Nat.reduceAdd, Nat.reduceSub, Nat.reduceLT, decide_true, decide_false, Bool.not_true, Bool.not_false, Int.toNat_one, Int.toNat_zero, Nat.zero_mul, l_g, endK, gd_u]) hk2 fun _ _ h => h
    · have f1 : decide ((0 : Int) < N.1) = false := decide_eq_false hc
      simp -implicitDefEqProofs (maxSteps := 1000000) (disch := first | omega | assumption) only [g6, g7, g10, f0, f1, Sx, reduceIte, Nat.reduceEqDiff, reduceCtorEq, Nat.reduceAdd, Nat.reduceSub, Nat.reduceLT, decide_true, decide_false, Bool.not_true, Bool.not_false, Int.toNat_one, Int.toNat_zero, Nat.zero_mul, l_g, endK, gd_u]
      exact tail_err he (by simp -implicitDefEqProofs (maxSteps := 1000000) (disch := first | omega | assumption) only [g7, Sx, reduceIte, Nat.reduceEqDiff, reduceCtorEq, Nat.reduceAdd, Nat.reduceSub, Nat.reduceLT, decide_true, decide_false, Bool.not_true, Bool.not_false, Int.toNat_one, Int.toNat_zero, Nat.zero_mul, l_g, endK, gd_u]) hk2 fun _ _ h => h
  by_cases he : N.2.2 = 0
  · have hok := hok he
    have hq := hq he
    have f0 : (N.2.2 == 0) = true := by rw [beq_iff_eq]; exact he
    by_cases h6 : 65536 < N.1
    · have f1 : decide (65536 < N.1) = true := decide_eq_true h6
      rw [if_neg (by simpa using he), if_pos h6]
      simp -implicitDefEqProofs (maxSteps := 1000000) (disch := first | omega | assumption) only [f0, f1, Sx, reduceIte, Nat.reduceEqDiff, reduceCtorEq, Nat.reduceAdd, Nat.reduceSub, Nat.reduceLT, decide_true, decide_false, Bool.not_true, Bool.not_false, Int.toNat_one, Int.toNat_zero, Nat.zero_mul, l_g, endK, gd_u]
      exact early 2 _ (by decide) (by simp -implicitDefEqProofs (maxSteps := 1000000) (disch := first | omega | assumption) only [Sx, reduceIte, Nat.reduceEqDiff, reduceCtorEq, Nat.reduceAdd, Nat.reduceSub, Nat.reduceLT, decide_true, decide_false, Bool.not_true, Bool.not_false, Int.toNat_one, Int.toNat_zero, Nat.zero_mul, l_g, endK, gd_u]) (by simp -implicitDefEqProofs (maxSteps := 1000000) (disch := first | omega | assumption) only [Sx, reduceIte, Nat.reduceEqDiff, reduceCtorEq, Nat.reduceAdd, Nat.reduceSub, Nat.reduceLT, decide_true, decide_false, Bool.not_true, Bool.not_false, Int.toNat_one, Int.toNat_zero, Nat.zero_mul, l_g, endK, gd_u])
    · have f1 : decide (65536 < N.1) = false := decide_eq_false h6
      rw [if_neg (by simpa using he), if_neg h6]
      obtain ⟨RD, hRD⟩ : ∃ RD, RD = rdR b N.1.toNat N.2.1 0 [] := ⟨_, rfl⟩
      rw [← hRD]
      simp -implicitDefEqProofs (maxSteps := 1000000) (disch := first | omega | assumption) only [f0, f1, L9_5, Sx, reduceIte, Nat.reduceEqDiff, reduceCtorEq, Nat.reduceAdd, Nat.reduceSub, Nat.reduceLT, decide_true, decide_false, Bool.not_true, Bool.not_false, Int.toNat_one, Int.toNat_zero, Nat.zero_mul, l_g, endK, gd_u]
      refine c_loop (fun k env' H' => ∃ (i p : Nat) (en : Int) (L : List Rg) (v : Value), k + i = N.1.toNat ∧ env' 0 = .slice A b.length c ∧ env' 5 = .pointer (some ⟨r, 0, none⟩) ∧ env' 6 = .int .i64 N.1 ∧ env' 7 = .int .i64 0 ∧ env' 8 = v ∧ env' 9 = .int .i64 en ∧ env' 10 = .int .i64 (i : Nat) ∧
          H' r = some (.cells (linesC A b.length c p) 55 (0, 0)) ∧ Own H' 51 2 v (rgs L) ∧ RD = rdR b k p en L ∧ Keep H H' ∧ Fresh H v ∧ p ≤ b.length ∧ L.length = i ∧ 0 ≤ en ∧ en ≤ 9223372036854775807) N.1.toNat
        ⟨0, q, 0, [], _, by omega, by simp -implicitDefEqProofs (maxSteps := 1000000) (disch := first | omega | assumption) only [Sx, reduceIte, Nat.reduceEqDiff, reduceCtorEq, Nat.reduceAdd, Nat.reduceSub, Nat.reduceLT, decide_true, decide_false, Bool.not_true, Bool.not_false, Int.toNat_one, Int.toNat_zero, Nat.zero_mul, l_g, endK, gd_u], by simp -implicitDefEqProofs (maxSteps := 1000000) (disch := first | omega | assumption) only [Sx, reduceIte, Nat.reduceEqDiff, reduceCtorEq, Nat.reduceAdd, Nat.reduceSub, Nat.reduceLT, decide_true, decide_false, Bool.not_true, Bool.not_false, Int.toNat_one, Int.toNat_zero, Nat.zero_mul, l_g, endK, gd_u], by simp -implicitDefEqProofs (maxSteps := 1000000) (disch := first | omega | assumption) only [Sx, reduceIte, Nat.reduceEqDiff, reduceCtorEq, Nat.reduceAdd, Nat.reduceSub, Nat.reduceLT, decide_true, decide_false, Bool.not_true, Bool.not_false, Int.toNat_one, Int.toNat_zero, Nat.zero_mul, l_g, endK, gd_u], by simp -implicitDefEqProofs (maxSteps := 1000000) (disch := first | omega | assumption) only [he, Sx, reduceIte, Nat.reduceEqDiff, reduceCtorEq, Nat.reduceAdd, Nat.reduceSub, Nat.reduceLT, decide_true, decide_false, Bool.not_true, Bool.not_false, Int.toNat_one, Int.toNat_zero, Nat.zero_mul, l_g, endK, gd_u], by simp -implicitDefEqProofs (maxSteps := 1000000) (disch := first | omega | assumption) only [Sx, reduceIte, Nat.reduceEqDiff, reduceCtorEq, Nat.reduceAdd, Nat.reduceSub, Nat.reduceLT, decide_true, decide_false, Bool.not_true, Bool.not_false, Int.toNat_one, Int.toNat_zero, Nat.zero_mul, l_g, endK, gd_u], by simp -implicitDefEqProofs (maxSteps := 1000000) (disch := first | omega | assumption) only [Sx, reduceIte, Nat.reduceEqDiff, reduceCtorEq, Nat.reduceAdd, Nat.reduceSub, Nat.reduceLT, decide_true, decide_false, Bool.not_true, Bool.not_false, Int.toNat_one, Int.toNat_zero, Nat.zero_mul, l_g, endK, gd_u], by simp -implicitDefEqProofs (maxSteps := 1000000) (disch := first | omega | assumption) only [Sx, reduceIte, Nat.reduceEqDiff, reduceCtorEq, Nat.reduceAdd, Nat.reduceSub, Nat.reduceLT, decide_true, decide_false, Bool.not_true, Bool.not_false, Int.toNat_one, Int.toNat_zero, Nat.zero_mul, l_g, endK, gd_u]; rfl, hb2, .nil, by rw [hRD, hq, Nat.zero_add], hk2, hfn, by omega, rfl, by omega, by omega⟩ ?_
      clear early hRD hb2 hk2 hH2 hb1 hk1 hH1
      rintro k env H3 ⟨i, p, en, L, v, hk, g0, g5, g6, g7, g8, g9, g10, hb3, hO, hRD, hK, hF, hp, hL, he0, he1⟩
      have hsv := hO.scalar
      unfold L9_1
      have z0 : ((0 : Int) == 0) = true := rfl
      by_cases hi : (i : Int) < N.1
      · have f2 : decide ((i : Int) < N.1) = true := decide_eq_true hi
        obtain ⟨k, rfl⟩ : ∃ k', k = k' + 1 := ⟨k - 1, by omega⟩
        unfold rdR at hRD
        simp -implicitDefEqProofs (maxSteps := 1000000) (disch := first | omega | assumption) only [g0, g5, g6, g7, g8, g9, g10, z0, f2, Sx, reduceIte, Nat.reduceEqDiff, reduceCtorEq, Nat.reduceAdd, Nat.reduceSub, Nat.reduceLT, decide_true, decide_false, Bool.not_true, Bool.not_false, Int.toNat_one, Int.toNat_zero, Nat.zero_mul, l_g, endK, gd_u]
        refine e_gen (fun env => env 0 = .slice A b.length c ∧ env 5 = .pointer (some ⟨r, 0, none⟩) ∧ env 6 = .int .i64 N.1 ∧ env 8 = v ∧ env 9 = .int .i64 en ∧ env 10 = .int .i64 (i : Nat)) ⟨by simp -implicitDefEqProofs (maxSteps := 1000000) (disch := first | omega | assumption) only [g0, g5, g6, g7, g8, g9, g10, Sx, reduceIte, Nat.reduceEqDiff, reduceCtorEq, Nat.reduceAdd, Nat.reduceSub, Nat.reduceLT], by simp -implicitDefEqProofs (maxSteps := 1000000) (disch := first | omega | assumption) only [g0, g5, g6, g7, g8, g9, g10, Sx, reduceIte, Nat.reduceEqDiff, reduceCtorEq, Nat.reduceAdd, Nat.reduceSub, Nat.reduceLT], by simp -implicitDefEqProofs (maxSteps := 1000000) (disch := first | omega | assumption) only [g0, g5, g6, g7, g8, g9, g10, Sx, reduceIte, Nat.reduceEqDiff, reduceCtorEq, Nat.reduceAdd, Nat.reduceSub, Nat.reduceLT], by simp -implicitDefEqProofs (maxSteps := 1000000) (disch := first | omega | assumption) only [g0, g5, g6, g7, g8, g9, g10, Sx, reduceIte, Nat.reduceEqDiff, reduceCtorEq, Nat.reduceAdd, Nat.reduceSub, Nat.reduceLT], by simp -implicitDefEqProofs (maxSteps := 1000000) (disch := first | omega | assumption) only [g0, g5, g6, g7, g8, g9, g10, Sx, reduceIte, Nat.reduceEqDiff, reduceCtorEq, Nat.reduceAdd, Nat.reduceSub, Nat.reduceLT], by simp -implicitDefEqProofs (maxSteps := 1000000) (disch := first | omega | assumption) only [g0, g5, g6, g7, g8, g9, g10, Sx, reduceIte, Nat.reduceEqDiff, reduceCtorEq, Nat.reduceAdd, Nat.reduceSub, Nat.reduceLT]⟩ ?_
        clear g0 g5 g6 g7 g8 g9 g10
        rintro env ⟨g0, g5, g6, g8, g9, g10⟩
        refine a_call (next_spec hb3 (hK.row hr) hby hA hp hl) ?_
        rintro e H4 ⟨rfl, q4, hH4, hq4⟩
        have hb4 : H4 r = some (.cells (linesC A b.length c q4) 55 (0, 0)) := by rw [hH4]; exact set_same
        have hk4 : Keep H H4 := by rw [hH4]; exact hK.set_fresh hr0
        have hO4 := lines_own hO hb3 hH4
        have hok4 := numAt_ok (b := b) hp
        obtain ⟨M, hM⟩ : ∃ M, M = numAt b p := ⟨_, rfl⟩
        rw [← hM] at hRD hq4 hok4 ⊢
        by_cases hm : M.2.2 = 0
        · have f3 : (M.2.2 != 0) = false := by rw [bne_eq_false_iff_eq]; exact hm
          rw [if_neg (by simpa using hm)] at hRD
          replace hq4 := hq4 hm
          replace hok4 := hok4 hm
          rw [← hq4] at hRD hok4
          simp -implicitDefEqProofs (maxSteps := 1000000) (disch := first | omega | assumption) only [g0, g5, g6, g8, g9, g10, f3, Sx, reduceIte, Nat.reduceEqDiff, reduceCtorEq, Nat.reduceAdd, Nat.reduceSub, Nat.reduceLT, decide_true, decide_false, Bool.not_true, Bool.not_false, Int.toNat_one, Int.toNat_zero, Nat.zero_mul, l_g, endK, gd_u]
          refine e_gen (fun env => env 0 = .slice A b.length c ∧ env 5 = .pointer (some ⟨r, 0, none⟩) ∧ env 6 = .int .i64 N.1 ∧ env 8 = v ∧ env 9 = .int .i64 en ∧ env 10 = .int .i64 (i : Nat) ∧ env 11 = .int .i64 M.1) ⟨by simp -implicitDefEqProofs (maxSteps := 1000000) (disch := first | omega | assumption) only [g0, g5, g6, g8, g9, g10, Sx, reduceIte, Nat.reduceEqDiff, reduceCtorEq, Nat.reduceAdd, Nat.reduceSub, Nat.reduceLT], by simp -implicitDefEqProofs (maxSteps := 1000000) (disch := first | omega | assumption) only [g0, g5, g6, g8, g9, g10, Sx, reduceIte, Nat.reduceEqDiff, reduceCtorEq, Nat.reduceAdd, Nat.reduceSub, Nat.reduceLT], by simp -implicitDefEqProofs (maxSteps := 1000000) (disch := first | omega | assumption) only [g0, g5, g6, g8, g9, g10, Sx, reduceIte, Nat.reduceEqDiff, reduceCtorEq, Nat.reduceAdd, Nat.reduceSub, Nat.reduceLT], by simp -implicitDefEqProofs (maxSteps := 1000000) (disch := first | omega | assumption) only [g0, g5, g6, g8, g9, g10, Sx, reduceIte, Nat.reduceEqDiff, reduceCtorEq, Nat.reduceAdd, Nat.reduceSub, Nat.reduceLT], by simp -implicitDefEqProofs (maxSteps := 1000000) (disch := first | omega | assumption) only [g0, g5, g6, g8, g9, g10, Sx, reduceIte, Nat.reduceEqDiff, reduceCtorEq, Nat.reduceAdd, Nat.reduceSub, Nat.reduceLT], by simp -implicitDefEqProofs (maxSteps := 1000000) (disch := first | omega | assumption) only [g0, g5, g6, g8, g9, g10, Sx, reduceIte, Nat.reduceEqDiff, reduceCtorEq, Nat.reduceAdd, Nat.reduceSub, Nat.reduceLT], by simp -implicitDefEqProofs (maxSteps := 1000000) (disch := first | omega | assumption) only [g0, g5, g6, g8, g9, g10, Sx, reduceIte, Nat.reduceEqDiff, reduceCtorEq, Nat.reduceAdd, Nat.reduceSub, Nat.reduceLT]⟩ ?_
          clear g0 g5 g6 g8 g9 g10
          rintro env ⟨g0, g5, g6, g8, g9, g10, g11⟩
          refine a_call (next_spec hb4 (hk4.row hr) hby hA hok4.2 hl) ?_
          rintro e H5 ⟨rfl, q5, hH5, hq5⟩
          have hb5 : H5 r = some (.cells (linesC A b.length c q5) 55 (0, 0)) := by rw [hH5]; exact set_same
          have hk5 : Keep H H5 := by rw [hH5]; exact hk4.set_fresh hr0
          have hO5 := lines_own hO4 hb4 hH5
          have hok5 := numAt_ok (b := b) hok4.2
          obtain ⟨M2, hM2⟩ : ∃ M2, M2 = numAt b q4 := ⟨_, rfl⟩
          rw [← hM2] at hRD hq5 hok5 ⊢
          by_cases hm2 : M2.2.2 = 0
          · have f4 : (M2.2.2 != 0) = false := by rw [bne_eq_false_iff_eq]; exact hm2
            rw [if_neg (by simpa using hm2)] at hRD
            replace hq5 := hq5 hm2
            replace hok5 := hok5 hm2
            rw [← hq5] at hRD hok5
            by_cases h7 : M.1 < en
            · have f5 : decide (M.1 < en) = true := decide_eq_true h7
              rw [if_pos (.inl h7)] at hRD
              simp -implicitDefEqProofs (maxSteps := 1000000) (disch := first | omega | assumption) only [g0, g5, g6, g8, g9, g10, g11, f4, f5, Sx, reduceIte, Nat.reduceEqDiff, reduceCtorEq, Nat.reduceAdd, Nat.reduceSub, Nat.reduceLT, decide_true, decide_false, Bool.not_true, Bool.not_false, Int.toNat_one, Int.toNat_zero, Nat.zero_mul, l_g, endK, gd_u]
              rw [hRD]
              exact tail_err (by decide) (by simp -implicitDefEqProofs (maxSteps := 1000000) (disch := first | omega | assumption) only [Sx, reduceIte, Nat.reduceEqDiff, reduceCtorEq, Nat.reduceAdd, Nat.reduceSub, Nat.reduceLT, decide_true, decide_false, Bool.not_true, Bool.not_false, Int.toNat_one, Int.toNat_zero, Nat.zero_mul, l_g, endK, gd_u]) hk5 fun _ _ h => h
            have f5 : decide (M.1 < en) = false := decide_eq_false h7
            by_cases h8 : 9223372036854775807 - M.1 < M2.1
            · have f6 : decide (9223372036854775807 - M.1 < M2.1) = true := decide_eq_true h8
              rw [if_pos (.inr h8)] at hRD
              simp -implicitDefEqProofs (maxSteps := 1000000) (disch := first | omega | assumption) only [g0, g5, g6, g8, g9, g10, g11, f4, f5, f6, Sx, reduceIte, Nat.reduceEqDiff, reduceCtorEq, Nat.reduceAdd, Nat.reduceSub, Nat.reduceLT, decide_true, decide_false, Bool.not_true, Bool.not_false, Int.toNat_one, Int.toNat_zero, Nat.zero_mul, l_g, endK, gd_u]
              rw [hRD]
              exact tail_err (by decide) (by simp -implicitDefEqProofs (maxSteps := 1000000) (disch := first | omega | assumption) only [Sx, reduceIte, Nat.reduceEqDiff, reduceCtorEq, Nat.reduceAdd, Nat.reduceSub, Nat.reduceLT, decide_true, decide_false, Bool.not_true, Bool.not_false, Int.toNat_one, Int.toNat_zero, Nat.zero_mul, l_g, endK, gd_u]) hk5 fun _ _ h => h
            have f6 : decide (9223372036854775807 - M.1 < M2.1) = false := decide_eq_false h8
            rw [if_neg (by omega)] at hRD
            simp -implicitDefEqProofs (maxSteps := 1000000) (disch := first | omega | assumption) only [g0, g5, g6, g8, g9, g10, g11, f4, f5, f6, Sx, reduceIte, Nat.reduceEqDiff, reduceCtorEq, Nat.reduceAdd, Nat.reduceSub, Nat.reduceLT, decide_true, decide_false, Bool.not_true, Bool.not_false, Int.toNat_one, Int.toNat_zero, Nat.zero_mul, l_g, endK, gd_u]
            refine lits_rg ?_
            intro r6 H6 hO6 hk6 hr6
            try simp -implicitDefEqProofs (maxSteps := 1000000) (disch := first | omega | assumption) only [g0, g5, g6, g8, g9, g10, g11, Sx, reduceIte, Nat.reduceEqDiff, reduceCtorEq, Nat.reduceAdd, Nat.reduceSub, Nat.reduceLT, decide_true, decide_false, Bool.not_true, Bool.not_false, Int.toNat_one, Int.toNat_zero, Nat.zero_mul, l_g, endK, gd_u]
            refine push_rg (hO5.keep hk6) (by omega) hO6 ?_
            intro v7 H7 hO7 ho7 hm7
            obtain ⟨hk7, hf7⟩ := grown (hk5.trans hk6) hF ho7 hm7
            have hb7 := ho7.oth _ _ (hk6 _ _ hb5) fun e => hO5.elem hb5 (by decide) e
            simp -implicitDefEqProofs (maxSteps := 1000000) (disch := first | omega | assumption) only [g0, g5, g6, g10, L9_0, Sx, reduceIte, Nat.reduceEqDiff, reduceCtorEq, Nat.reduceAdd, Nat.reduceSub, Nat.reduceLT, decide_true, decide_false, Bool.not_true, Bool.not_false, Int.toNat_one, Int.toNat_zero, Nat.zero_mul, l_g, endK, gd_u]
            exact ⟨k, by omega, i + 1, q5, M.1 + M2.1, L ++ [⟨M.1, M.1 + M2.1⟩], v7, by omega, by (first | exact True.intro | rfl | assumption), by (first | exact True.intro | rfl | assumption), by (first | exact True.intro | rfl | assumption), by rw [hm2], by (first | exact True.intro | rfl | assumption), by (first | exact True.intro | rfl | assumption), by simp, hb7, hO7, hRD, hk7, hf7, hok5.2, by simp [hL], by omega, by omega⟩
          · have f4 : (M2.2.2 != 0) = true := by rw [bne_iff_ne]; exact hm2
            rw [if_pos hm2] at hRD
            simp -implicitDefEqProofs (maxSteps := 1000000) (disch := first | omega | assumption) only [g0, g5, g6, g8, g9, g10, g11, f4, Sx, reduceIte, Nat.reduceEqDiff, reduceCtorEq, Nat.reduceAdd, Nat.reduceSub, Nat.reduceLT, decide_true, decide_false, Bool.not_true, Bool.not_false, Int.toNat_one, Int.toNat_zero, Nat.zero_mul, l_g, endK, gd_u]
            rw [hRD]
            exact tail_err hm2 (by simp -implicitDefEqProofs (maxSteps := 1000000) (disch := first | omega | assumption) only [Sx, reduceIte, Nat.reduceEqDiff, reduceCtorEq, Nat.reduceAdd, Nat.reduceSub, Nat.reduceLT, decide_true, decide_false, Bool.not_true, Bool.not_false, Int.toNat_one, Int.toNat_zero, Nat.zero_mul, l_g, endK, gd_u]) hk5 fun _ _ h => h
        · have f3 : (M.2.2 != 0) = true := by rw [bne_iff_ne]; exact hm
          rw [if_pos hm] at hRD
          simp -implicitDefEqProofs (maxSteps := 1000000) (disch := first | omega | assumption) only [g0, g5, g6, g8, g9, g10, f3, Sx, reduceIte, Nat.reduceEqDiff, reduceCtorEq, Nat.reduceAdd, Nat.reduceSub, Nat.reduceLT, decide_true, decide_false, Bool.not_true, Bool.not_false, Int.toNat_one, Int.toNat_zero, Nat.zero_mul, l_g, endK, gd_u]
          rw [hRD]
          exact tail_err hm (by simp -implicitDefEqProofs (maxSteps := 1000000) (disch := first | omega | assumption) only [Sx, reduceIte, Nat.reduceEqDiff, reduceCtorEq, Nat.reduceAdd, Nat.reduceSub, Nat.reduceLT, decide_true, decide_false, Bool.not_true, Bool.not_false, Int.toNat_one, Int.toNat_zero, Nat.zero_mul, l_g, endK, gd_u]) hk4 fun _ _ h => h
      · have f2 : decide ((i : Int) < N.1) = false := decide_eq_false hi
        obtain rfl : k = 0 := by omega
        unfold rdR at hRD
        simp -implicitDefEqProofs (maxSteps := 1000000) (disch := first | omega | assumption) only [g0, g5, g6, g7, g8, g9, g10, z0, f2, Sx, reduceIte, Nat.reduceEqDiff, reduceCtorEq, Nat.reduceAdd, Nat.reduceSub, Nat.reduceLT, decide_true, decide_false, Bool.not_true, Bool.not_false, Int.toNat_one, Int.toNat_zero, Nat.zero_mul, l_g, endK, gd_u]
        rw [hRD]
        exact tail_spec hr hr0 hp hl (by simp -implicitDefEqProofs (maxSteps := 1000000) (disch := first | omega | assumption) only [g0, Sx, reduceIte, Nat.reduceEqDiff, reduceCtorEq, Nat.reduceAdd, Nat.reduceSub, Nat.reduceLT, decide_true, decide_false, Bool.not_true, Bool.not_false, Int.toNat_one, Int.toNat_zero, Nat.zero_mul, l_g, endK, gd_u]) (by simp -implicitDefEqProofs (maxSteps := 1000000) (disch := first | omega | assumption) only [g5, Sx, reduceIte, Nat.reduceEqDiff, reduceCtorEq, Nat.reduceAdd, Nat.reduceSub, Nat.reduceLT, decide_true, decide_false, Bool.not_true, Bool.not_false, Int.toNat_one, Int.toNat_zero, Nat.zero_mul, l_g, endK, gd_u]) (by simp -implicitDefEqProofs (maxSteps := 1000000) (disch := first | omega | assumption) only [g7, Sx, reduceIte, Nat.reduceEqDiff, reduceCtorEq, Nat.reduceAdd, Nat.reduceSub, Nat.reduceLT, decide_true, decide_false, Bool.not_true, Bool.not_false, Int.toNat_one, Int.toNat_zero, Nat.zero_mul, l_g, endK, gd_u]) (by simp -implicitDefEqProofs (maxSteps := 1000000) (disch := first | omega | assumption) only [g8, Sx, reduceIte, Nat.reduceEqDiff, reduceCtorEq, Nat.reduceAdd, Nat.reduceSub, Nat.reduceLT, decide_true, decide_false, Bool.not_true, Bool.not_false, Int.toNat_one, Int.toNat_zero, Nat.zero_mul, l_g, endK, gd_u]) hb3 hO hK hF fun _ _ h => h
  · have f0 : (N.2.2 == 0) = false := by rw [beq_eq_false_iff_ne]; exact he
    rw [if_pos he]
    simp -implicitDefEqProofs (maxSteps := 1000000) (disch := first | omega | assumption) only [f0, Sx, reduceIte, Nat.reduceEqDiff, reduceCtorEq, Nat.reduceAdd, Nat.reduceSub, Nat.reduceLT, decide_true, decide_false, Bool.not_true, Bool.not_false, Int.toNat_one, Int.toNat_zero, Nat.zero_mul, l_g, endK, gd_u]
    exact early N.2.2 _ he (by simp -implicitDefEqProofs (maxSteps := 1000000) (disch := first | omega | assumption) only [Sx, reduceIte, Nat.reduceEqDiff, reduceCtorEq, Nat.reduceAdd, Nat.reduceSub, Nat.reduceLT, decide_true, decide_false, Bool.not_true, Bool.not_false, Int.toNat_one, Int.toNat_zero, Nat.zero_mul, l_g, endK, gd_u]) (by simp -implicitDefEqProofs (maxSteps := 1000000) (disch := first | omega | assumption) only [Sx, reduceIte, Nat.reduceEqDiff, reduceCtorEq, Nat.reduceAdd, Nat.reduceSub, Nat.reduceLT, decide_true, decide_false, Bool.not_true, Bool.not_false, Int.toNat_one, Int.toNat_zero, Nat.zero_mul, l_g, endK, gd_u])
end Go.Proofs.YthflafgijfbpnaaDoor.S15
