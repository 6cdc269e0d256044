/-
  Binary of the code.
-/
import Derived.Test.YtigignkgblaoaaaDoorLowC
import Derived.Test.YtigignkgblaoaaaDoorByteLaw
set_option linter.unusedVariables false
set_option linter.unusedSimpArgs false
namespace Go.Proofs.YtigignkgblaoaaaDoor.S12
open Go Go.RowKit Go.Proofs.YtigignkgblaoaaaDoor.Sep Go.Proofs.YtigignkgblaoaaaDoor.Low Go.Proofs.YtigignkgblaoaaaDoor.Lib

theorem head_at {l : List Int} (h : 0 < l.length) : l.headD 0 = l[0] := by cases l with | nil => simp at h | cons x r => rfl
theorem body_at {l : List Int} (h : 0 < (bodyB l).length) : (bodyB l)[0] = if 64 ≤ l.headD 0 % 128 then l.headD 0 else l.headD 0 - 128 := by cases l with | nil => simp [bodyB] at h | cons x r => rfl
abbrev fillB (s : Int) : Int := if s = 0 then 0 else 255
set_option maxHeartbeats 2000000 in
theorem bin_in {H : Heap} {A : Option Addr} {c m i : Nat} {n s y : Int} {env : Env} {Q : Post} {QP : List PanicEntry → Heap → Prop} (hi : i < m) (hm : m ≤ 1125899906842624) (hs : s = 0 ∨ s = -1) (hy : 0 ≤ y ∧ y < 256) (hM : Mid s n (m - i))
    (h0 : env 0 = .slice A m c) (h4 : env 4 = .int .i64 n) (h5 : env 5 = .int .u8 (fillB s)) (h6 : env 6 = .int .i64 i) (h7 : env 7 = .int .u8 y)
    (hbig : (8 < m - i ∧ y ≠ fillB s) ∨ (m - i = 8 ∧ ((s = 0 ∧ 128 ≤ y) ∨ (s = -1 ∧ y < 128))) → ∀ env' : Env, env' 2 = .int .i64 0 → env' 3 = .int .i64 121 → Q .ret env' H)
    (hok : Mid s (n * 256 + y) (m - i - 1) → ∀ env' : Env, env' 0 = env 0 → env' 5 = env 5 → env' 4 = .int .i64 (n * 256 + y) → env' 23 = env 23 → env' 24 = env 24 → env' 25 = env 25 → Q .normal env' H) : awpC Tryd.prog L12_0 Q QP env H := by
  unfold L12_0
  have last : ∀ (hc9 : 8 ≤ m - i - 1 → y = fillB s) (hc8 : m - i - 1 = 7 → ¬ ((s = 0 ∧ 128 ≤ y) ∨ (s = -1 ∧ y < 128))), Mid s (n * 256 + y) (m - i - 1) := fun hc9 hc8 => mid_step hs hy (by rw [show m - i - 1 + 1 = m - i by omega]; exact hM) hc9 hc8
  have hor : ∀ h : Mid s (n * 256 + y) (m - i - 1), Go.bits .or .i64 (IntKind.i64.wrap (n * 2 ^ min (8 : Int).toNat 64)) y = n * 256 + y := fun h => or_step hy (mid_fits hs h)
  by_cases h9 : 8 < m - i
  · have f0 : decide ((8 : Int) < (m : Int) - (i : Int)) = true := decide_eq_true (by omega)
    have f1 : ((m : Int) - (i : Int) == 8) = false := by rw [beq_eq_false_iff_ne]; omega
    by_cases hf : y = fillB s
    · have f2 : (y != fillB s) = false := by rw [bne_eq_false_iff_eq]; exact hf
      have hl := last (fun _ => hf) (fun h => by omega)
      have ho := hor hl
      simp -implicitDefEqProofs (maxSteps := 1000000) (disch := first | omega | assumption) only [h0, h4, h5, h6, h7, f0, f1, f2, v_shl, ho, bits_i64, Sx, reduceIte, Nat.reduceEqDiff, reduceCtorEq, Nat.reduceAdd, Nat.reduceSub, Nat.reduceLT, decide_true, decide_false, Bool.not_true, Bool.not_false, Int.toNat_one, Int.toNat_zero, Nat.zero_mul, l_g, endK]
      exact hok hl _ (by simp -implicitDefEqProofs (maxSteps := 1000000) (disch := first | omega | assumption) only [h0, Sx, reduceIte, Nat.reduceEqDiff, reduceCtorEq, Nat.reduceAdd, Nat.reduceSub, Nat.reduceLT]) (by simp -implicitDefEqProofs (maxSteps := 1000000) (disch := first | omega | assumption) only [h5, Sx, reduceIte, Nat.reduceEqDiff, reduceCtorEq, Nat.reduceAdd, Nat.reduceSub, Nat.reduceLT]) (by simp -implicitDefEqProofs (maxSteps := 1000000) (disch := first | omega | assumption) only [Sx, reduceIte, Nat.reduceEqDiff, reduceCtorEq, Nat.reduceAdd, Nat.reduceSub, Nat.reduceLT]) (by simp -implicitDefEqProofs (maxSteps := 1000000) (disch := first | omega | assumption) only [Sx, reduceIte, Nat.reduceEqDiff, reduceCtorEq, Nat.reduceAdd, Nat.reduceSub, Nat.reduceLT]) (by simp -implicitDefEqProofs (maxSteps := 1000000) (disch := first | omega | assumption) only [Sx, reduceIte, Nat.reduceEqDiff, reduceCtorEq, Nat.reduceAdd, Nat.reduceSub, Nat.reduceLT]) (by simp -implicitDefEqProofs (maxSteps := 1000000) (disch := first | omega | assumption) only [Sx, reduceIte, Nat.reduceEqDiff, reduceCtorEq, Nat.reduceAdd, Nat.reduceSub, Nat.reduceLT])
    · have f2 : (y != fillB s) = true := by rw [bne_iff_ne]; exact hf
      simp -implicitDefEqProofs (maxSteps := 1000000) (disch := first | omega | assumption) only [h0, h4, h5, h6, h7, f0, f1, f2, Sx, reduceIte, Nat.reduceEqDiff, reduceCtorEq, Nat.reduceAdd, Nat.reduceSub, Nat.reduceLT, decide_true, decide_false, Bool.not_true, Bool.not_false, Int.toNat_one, Int.toNat_zero, Nat.zero_mul, l_g, endK]
      exact hbig (.inl ⟨h9, hf⟩) _ (by simp -implicitDefEqProofs (maxSteps := 1000000) (disch := first | omega | assumption) only [Sx, reduceIte, Nat.reduceEqDiff, reduceCtorEq, Nat.reduceAdd, Nat.reduceSub, Nat.reduceLT]) (by simp -implicitDefEqProofs (maxSteps := 1000000) (disch := first | omega | assumption) only [Sx, reduceIte, Nat.reduceEqDiff, reduceCtorEq, Nat.reduceAdd, Nat.reduceSub, Nat.reduceLT])
  · have f0 : decide ((8 : Int) < (m : Int) - (i : Int)) = false := decide_eq_false (by omega)
    by_cases h8 : m - i = 8
    · have f1 : ((m : Int) - (i : Int) == 8) = true := by rw [beq_iff_eq]; omega
      have hxor : Go.bits .and .u8 (Go.bits .xor .u8 y (fillB s)) 128 = if ((s = 0 ∧ 128 ≤ y) ∨ (s = -1 ∧ y < 128)) then 128 else 0 := by
        rcases hs with rfl | rfl
        · rw [show fillB 0 = 0 from rfl, xor0 hy]
          by_cases h : 128 ≤ y <;> simp [h]
        · rw [show fillB (-1) = 255 from rfl, xor255 hy]
          by_cases h : 128 ≤ y
          · rw [if_pos h, if_neg (by omega)]
          · rw [if_neg h, if_pos (by omega)]
      by_cases hb : (s = 0 ∧ 128 ≤ y) ∨ (s = -1 ∧ y < 128)
      · rw [if_pos hb] at hxor
        have f2 : ((128 : Int) != 0) = true := rfl
        simp -implicitDefEqProofs (maxSteps := 1000000) (disch := first | omega | assumption) only [h0, h4, h5, h6, h7, f0, f1, hxor, f2, Sx, reduceIte, Nat.reduceEqDiff, reduceCtorEq, Nat.reduceAdd, Nat.reduceSub, Nat.reduceLT, decide_true, decide_false, Bool.not_true, Bool.not_false, Int.toNat_one, Int.toNat_zero, Nat.zero_mul, l_g, endK]
        exact hbig (.inr ⟨h8, hb⟩) _ (by simp -implicitDefEqProofs (maxSteps := 1000000) (disch := first | omega | assumption) only [Sx, reduceIte, Nat.reduceEqDiff, reduceCtorEq, Nat.reduceAdd, Nat.reduceSub, Nat.reduceLT]) (by simp -implicitDefEqProofs (maxSteps := 1000000) (disch := first | omega | assumption) only [Sx, reduceIte, Nat.reduceEqDiff, reduceCtorEq, Nat.reduceAdd, Nat.reduceSub, Nat.reduceLT])
      · rw [if_neg hb] at hxor
        have f2 : ((0 : Int) != 0) = false := rfl
        have hl := last (fun h => by omega) (fun _ => hb)
        have ho := hor hl
        simp -implicitDefEqProofs (maxSteps := 1000000) (disch := first | omega | assumption) only [h0, h4, h5, h6, h7, f0, f1, hxor, f2, v_shl, ho, bits_i64, Sx, reduceIte, Nat.reduceEqDiff, reduceCtorEq, Nat.reduceAdd, Nat.reduceSub, Nat.reduceLT, decide_true, decide_false, Bool.not_true, Bool.not_false, Int.toNat_one, Int.toNat_zero, Nat.zero_mul, l_g, endK]
        exact hok hl _ (by simp -implicitDefEqProofs (maxSteps := 1000000) (disch := first | omega | assumption) only [h0, Sx, reduceIte, Nat.reduceEqDiff, reduceCtorEq, Nat.reduceAdd, Nat.reduceSub, Nat.reduceLT]) (by simp -implicitDefEqProofs (maxSteps := 1000000) (disch := first | omega | assumption) only [h5, Sx, reduceIte, Nat.reduceEqDiff, reduceCtorEq, Nat.reduceAdd, Nat.reduceSub, Nat.reduceLT]) (by simp -implicitDefEqProofs (maxSteps := 1000000) (disch := first | omega | assumption) only [Sx, reduceIte, Nat.reduceEqDiff, reduceCtorEq, Nat.reduceAdd, Nat.reduceSub, Nat.reduceLT]) (by simp -implicitDefEqProofs (maxSteps := 1000000) (disch := first | omega | assumption) only [Sx, reduceIte, Nat.reduceEqDiff, reduceCtorEq, Nat.reduceAdd, Nat.reduceSub, Nat.reduceLT]) (by simp -implicitDefEqProofs (maxSteps := 1000000) (disch := first | omega | assumption) only [Sx, reduceIte, Nat.reduceEqDiff, reduceCtorEq, Nat.reduceAdd, Nat.reduceSub, Nat.reduceLT]) (by simp -implicitDefEqProofs (maxSteps := 1000000) (disch := first | omega | assumption) only [Sx, reduceIte, Nat.reduceEqDiff, reduceCtorEq, Nat.reduceAdd, Nat.reduceSub, Nat.reduceLT])
    · have f1 : ((m : Int) - (i : Int) == 8) = false := by rw [beq_eq_false_iff_ne]; omega
      have hl := last (fun h => by omega) (fun h => by omega)
      have ho := hor hl
      simp -implicitDefEqProofs (maxSteps := 1000000) (disch := first | omega | assumption) only [h0, h4, h5, h6, h7, f0, f1, v_shl, ho, bits_i64, Sx, reduceIte, Nat.reduceEqDiff, reduceCtorEq, Nat.reduceAdd, Nat.reduceSub, Nat.reduceLT, decide_true, decide_false, Bool.not_true, Bool.not_false, Int.toNat_one, Int.toNat_zero, Nat.zero_mul, l_g, endK]
      exact hok hl _ (by simp -implicitDefEqProofs (maxSteps := 1000000) (disch := first | omega | assumption) only [h0, Sx, reduceIte, Nat.reduceEqDiff, reduceCtorEq, Nat.reduceAdd, Nat.reduceSub, Nat.reduceLT]) (by simp -implicitDefEqProofs (maxSteps := 1000000) (disch := first | omega | assumption) only [h5, Sx, reduceIte, Nat.reduceEqDiff, reduceCtorEq, Nat.reduceAdd, Nat.reduceSub, Nat.reduceLT]) (by simp -implicitDefEqProofs (maxSteps := 1000000) (disch := first | omega | assumption) only [Sx, reduceIte, Nat.reduceEqDiff, reduceCtorEq, Nat.reduceAdd, Nat.reduceSub, Nat.reduceLT]) (by simp -implicitDefEqProofs (maxSteps := 1000000) (disch := first | omega | assumption) only [Sx, reduceIte, Nat.reduceEqDiff, reduceCtorEq, Nat.reduceAdd, Nat.reduceSub, Nat.reduceLT]) (by simp -implicitDefEqProofs (maxSteps := 1000000) (disch := first | omega | assumption) only [Sx, reduceIte, Nat.reduceEqDiff, reduceCtorEq, Nat.reduceAdd, Nat.reduceSub, Nat.reduceLT]) (by simp -implicitDefEqProofs (maxSteps := 1000000) (disch := first | omega | assumption) only [Sx, reduceIte, Nat.reduceEqDiff, reduceCtorEq, Nat.reduceAdd, Nat.reduceSub, Nat.reduceLT])

set_option maxHeartbeats 4000000 in
theorem bin_3 {H : Heap} {A : Option Addr} {c : Nat} {l : List Int} {env : Env} {Q : Post} {QP : List PanicEntry → Heap → Prop} (hr : Row H A (by8 l)) (hb : isBy l) (hl : l.length ≤ 1125899906842624) (h2 : 2 ≤ l.length) (h128 : 128 ≤ l.headD 0)
    (h0 : env 0 = .slice A l.length c) (h4 : env 4 = .int .i64 (signB l)) (h5 : env 5 = .int .u8 (fillB (signB l)))
    (hq : ∀ env', env' 2 = .int .i64 (binN l).1 → env' 3 = .int .i64 (binN l).2 → Q .ret env' H) : awpC Tryd.prog L12_3 Q QP env H := by
  unfold L12_3
  have hbb := bodyB_by hb h128
  have hbl := bodyB_len l
  have hs := sign_cases l
  have hbin : binN l = if fits64 (binV l) then (binV l, 0) else (0, 121) := by unfold binN; rw [if_neg (by omega)]
  simp -implicitDefEqProofs (maxSteps := 1000000) (disch := first | omega | assumption) only [h0, h4, h5, Sx, reduceIte, Nat.reduceEqDiff, reduceCtorEq, Nat.reduceAdd, Nat.reduceSub, Nat.reduceLT]
  refine c_loop (fun k env H' => H' = H ∧ ∃ (i : Nat) (n : Int), k + i = l.length ∧ env 0 = .slice A l.length c ∧ env 23 = .slice A l.length c ∧ env 24 = .int .i64 l.length ∧ env 25 = .int .i64 i ∧ env 4 = .int .i64 n ∧ env 5 = .int .u8 (fillB (signB l)) ∧ Mid (signB l) n (l.length - i) ∧ bv n ((bodyB l).drop i) = binV l) l.length
    ⟨rfl, 0, signB l, by omega, by simp -implicitDefEqProofs (maxSteps := 1000000) (disch := first | omega | assumption) only [h0, Sx, reduceIte, Nat.reduceEqDiff, reduceCtorEq, Nat.reduceAdd, Nat.reduceSub, Nat.reduceLT], by simp -implicitDefEqProofs (maxSteps := 1000000) (disch := first | omega | assumption) only [Sx, reduceIte, Nat.reduceEqDiff, reduceCtorEq, Nat.reduceAdd, Nat.reduceSub, Nat.reduceLT], by simp -implicitDefEqProofs (maxSteps := 1000000) (disch := first | omega | assumption) only [Sx, reduceIte, Nat.reduceEqDiff, reduceCtorEq, Nat.reduceAdd, Nat.reduceSub, Nat.reduceLT], by simp -implicitDefEqProofs (maxSteps := 1000000) (disch := first | omega | assumption) only [Sx, reduceIte, Nat.reduceEqDiff, reduceCtorEq, Nat.reduceAdd, Nat.reduceSub, Nat.reduceLT]; rfl, by simp -implicitDefEqProofs (maxSteps := 1000000) (disch := first | omega | assumption) only [h4, Sx, reduceIte, Nat.reduceEqDiff, reduceCtorEq, Nat.reduceAdd, Nat.reduceSub, Nat.reduceLT], by simp -implicitDefEqProofs (maxSteps := 1000000) (disch := first | omega | assumption) only [h5, Sx, reduceIte, Nat.reduceEqDiff, reduceCtorEq, Nat.reduceAdd, Nat.reduceSub, Nat.reduceLT], mid_first hs, rfl⟩ ?_
  rintro k env H1 ⟨rfl, i, n, hk, g0, g23, g24, g25, g4, g5, hM, hv⟩
  unfold L12_2
  by_cases hi : i < l.length
  · have f0 : decide ((i : Int) < (l.length : Int)) = true := decide_eq_true (by omega)
    obtain ⟨b, rfl, hx⟩ := by_at hr hi
    have hib : i < (bodyB l).length := by omega
    have hyb := hbb.at hib
    have hdrop := List.drop_eq_getElem_cons hib
    have hrest : isBy ((bodyB l).drop (i + 1)) := hbb.drop _
    have hrl : ((bodyB l).drop (i + 1)).length = l.length - i - 1 := by rw [List.length_drop, hbl]; omega
    rw [hdrop] at hv
    -- the round, from the byte on
    have round : ∀ env2 : Env, env2 0 = .slice (some b) l.length c → env2 23 = .slice (some b) l.length c → env2 24 = .int .i64 l.length → env2 25 = .int .i64 i → env2 4 = .int .i64 n → env2 5 = .int .u8 (fillB (signB l)) → env2 6 = .int .i64 i → env2 7 = .int .u8 ((bodyB l)[i]) →
        ∀ (Q2 : Post) (QP2 : List PanicEntry → Heap → Prop), (∀ env', env' 2 = .int .i64 (binN l).1 → env' 3 = .int .i64 (binN l).2 → Q2 .ret env' H1) →
        (∀ env', env' 0 = .slice (some b) l.length c → env' 23 = .slice (some b) l.length c → env' 24 = .int .i64 l.length → env' 25 = .int .i64 i → env' 4 = .int .i64 (n * 256 + (bodyB l)[i]) → env' 5 = .int .u8 (fillB (signB l)) → Mid (signB l) (n * 256 + (bodyB l)[i]) (l.length - i - 1) → Q2 .normal env' H1) →
        awpC Tryd.prog L12_0 Q2 QP2 env2 H1 := by
      intro env2 e0 e23 e24 e25 e4 e5 e6 e7 Q2 QP2 hq1 hq2
      refine bin_in hi hl hs hyb hM e0 e4 e5 e6 e7 ?_ ?_
      · intro hbad env' d2 d3
        have hnf : ¬ fits64 (binV l) := by
          rw [← hv]
          have hn : n = signB l := hM.1 (by omega)
          rw [hn]
          rcases hbad with ⟨h9, hne⟩ | ⟨h8, hne⟩
          · exact far_big hs hyb hne hrest (by omega)
          · exact top_big hs hyb hne hrest (by omega)
        refine hq1 env' ?_ ?_
        · rw [hbin, if_neg hnf]; exact d2
        · rw [hbin, if_neg hnf]; exact d3
      · intro hM2 env' d0 d5 d4 d23 d24 d25
        exact hq2 env' (d0.trans e0) (d23.trans e23) (d24.trans e24) (d25.trans e25) d4 (d5.trans e5) hM2
    have next : ∀ env', env' 0 = .slice (some b) l.length c → env' 23 = .slice (some b) l.length c → env' 24 = .int .i64 l.length → env' 25 = .int .i64 i → env' 4 = .int .i64 (n * 256 + (bodyB l)[i]) → env' 5 = .int .u8 (fillB (signB l)) → Mid (signB l) (n * 256 + (bodyB l)[i]) (l.length - i - 1) →
        ∀ (Q2 : Post) (QP2 : List PanicEntry → Heap → Prop), (∀ env3, (H1 = H1 ∧ ∃ (i : Nat) (n : Int), k - 1 + i = l.length ∧ env3 0 = .slice (some b) l.length c ∧ env3 23 = .slice (some b) l.length c ∧ env3 24 = .int .i64 l.length ∧ env3 25 = .int .i64 i ∧ env3 4 = .int .i64 n ∧ env3 5 = .int .u8 (fillB (signB l)) ∧ Mid (signB l) n (l.length - i) ∧ bv n ((bodyB l).drop i) = binV l) → Q2 .normal env3 H1) →
        awpC Tryd.prog L12_1 Q2 QP2 env' H1 := by
      intro env' e0 e23 e24 e25 e4 e5 hM2 Q2 QP2 hq2
      unfold L12_1
      simp -implicitDefEqProofs (maxSteps := 1000000) (disch := first | omega | assumption) only [e0, e23, e24, e25, e4, e5, Sx, reduceIte, Nat.reduceEqDiff, reduceCtorEq, Nat.reduceAdd, Nat.reduceSub, Nat.reduceLT]
      refine hq2 _ ⟨rfl, i + 1, n * 256 + (bodyB l)[i], by omega, by simp -implicitDefEqProofs (maxSteps := 1000000) (disch := first | omega | assumption) only [e0, Sx, reduceIte, Nat.reduceEqDiff, reduceCtorEq, Nat.reduceAdd, Nat.reduceSub, Nat.reduceLT], by simp -implicitDefEqProofs (maxSteps := 1000000) (disch := first | omega | assumption) only [e23, Sx, reduceIte, Nat.reduceEqDiff, reduceCtorEq, Nat.reduceAdd, Nat.reduceSub, Nat.reduceLT], by simp -implicitDefEqProofs (maxSteps := 1000000) (disch := first | omega | assumption) only [e24, Sx, reduceIte, Nat.reduceEqDiff, reduceCtorEq, Nat.reduceAdd, Nat.reduceSub, Nat.reduceLT], by simp -implicitDefEqProofs (maxSteps := 1000000) (disch := first | omega | assumption) only [Int.natCast_add, Int.natCast_one, Sx, reduceIte, Nat.reduceEqDiff, reduceCtorEq, Nat.reduceAdd, Nat.reduceSub, Nat.reduceLT], by simp -implicitDefEqProofs (maxSteps := 1000000) (disch := first | omega | assumption) only [e4, Sx, reduceIte, Nat.reduceEqDiff, reduceCtorEq, Nat.reduceAdd, Nat.reduceSub, Nat.reduceLT], by simp -implicitDefEqProofs (maxSteps := 1000000) (disch := first | omega | assumption) only [e5, Sx, reduceIte, Nat.reduceEqDiff, reduceCtorEq, Nat.reduceAdd, Nat.reduceSub, Nat.reduceLT], ?_, hv⟩
      rw [show l.length - (i + 1) = l.length - i - 1 by omega]
      exact hM2
    by_cases hi0 : i = 0
    · subst hi0
      have f1 : (((0 : Nat) : Int) == 0) = true := rfl
      have hhd := head_at hi
      rw [← hhd, add_zero_a] at hx
      have hx0 := hb.at hi
      rw [← hhd] at hx0
      have hfirst : Go.bits .or .u8 (Go.bits .andNot .u8 (l.headD 0) 128) (Go.bits .and .u8 (fillB (signB l)) 128) = (bodyB l)[0] := by
        rw [body_at hib, andn128 hx0]
        unfold signB
        by_cases h64 : 64 ≤ l.headD 0 % 128
        · rw [if_pos h64, if_pos h64, show Go.bits .and .u8 (fillB (-1)) 128 = 128 from by decide, or128 (by omega)]
          omega
        · rw [if_neg h64, if_neg h64, show Go.bits .and .u8 (fillB 0) 128 = 0 from by decide, or0 (by omega)]
          omega
      simp -implicitDefEqProofs (maxSteps := 1000000) (disch := first | omega | assumption) only [g0, g23, g24, g25, g4, g5, f0, f1, hx, v_andNot, hfirst, Sx, reduceIte, Nat.reduceEqDiff, reduceCtorEq, Nat.reduceAdd, Nat.reduceSub, Nat.reduceLT, decide_true, decide_false, Bool.not_true, Bool.not_false, Int.toNat_one, Int.toNat_zero, Nat.zero_mul, l_g, endK]
      refine round _ (by simp -implicitDefEqProofs (maxSteps := 1000000) (disch := first | omega | assumption) only [g0, Sx, reduceIte, Nat.reduceEqDiff, reduceCtorEq, Nat.reduceAdd, Nat.reduceSub, Nat.reduceLT]) (by simp -implicitDefEqProofs (maxSteps := 1000000) (disch := first | omega | assumption) only [g23, Sx, reduceIte, Nat.reduceEqDiff, reduceCtorEq, Nat.reduceAdd, Nat.reduceSub, Nat.reduceLT]) (by simp -implicitDefEqProofs (maxSteps := 1000000) (disch := first | omega | assumption) only [g24, Sx, reduceIte, Nat.reduceEqDiff, reduceCtorEq, Nat.reduceAdd, Nat.reduceSub, Nat.reduceLT]) (by simp -implicitDefEqProofs (maxSteps := 1000000) (disch := first | omega | assumption) only [g25, Sx, reduceIte, Nat.reduceEqDiff, reduceCtorEq, Nat.reduceAdd, Nat.reduceSub, Nat.reduceLT]) (by simp -implicitDefEqProofs (maxSteps := 1000000) (disch := first | omega | assumption) only [g4, Sx, reduceIte, Nat.reduceEqDiff, reduceCtorEq, Nat.reduceAdd, Nat.reduceSub, Nat.reduceLT]) (by simp -implicitDefEqProofs (maxSteps := 1000000) (disch := first | omega | assumption) only [g5, Sx, reduceIte, Nat.reduceEqDiff, reduceCtorEq, Nat.reduceAdd, Nat.reduceSub, Nat.reduceLT]) (by simp -implicitDefEqProofs (maxSteps := 1000000) (disch := first | omega | assumption) only [Sx, reduceIte, Nat.reduceEqDiff, reduceCtorEq, Nat.reduceAdd, Nat.reduceSub, Nat.reduceLT]) (by simp -implicitDefEqProofs (maxSteps := 1000000) (disch := first | omega | assumption) only [Sx, reduceIte, Nat.reduceEqDiff, reduceCtorEq, Nat.reduceAdd, Nat.reduceSub, Nat.reduceLT]) _ _ ?_ ?_
      · intro env' d2 d3
        exact hq env' d2 d3
      · intro env' d0 d23 d24 d25 d4 d5 hM2
        refine next env' d0 d23 d24 d25 d4 d5 hM2 _ _ ?_
        intro env3 h3
        exact ⟨k - 1, by omega, h3⟩
    · have f1 : ((i : Int) == 0) = false := by rw [beq_eq_false_iff_ne]; omega
      have hget : (bodyB l)[i] = l[i] := by
        cases l with
        | nil => simp at hi
        | cons x r =>
          cases i with
          | zero => exact absurd rfl hi0
          | succ i => rfl
      rw [← hget] at hx
      simp -implicitDefEqProofs (maxSteps := 1000000) (disch := first | omega | assumption) only [g0, g23, g24, g25, g4, g5, f0, f1, hx, Sx, reduceIte, Nat.reduceEqDiff, reduceCtorEq, Nat.reduceAdd, Nat.reduceSub, Nat.reduceLT, decide_true, decide_false, Bool.not_true, Bool.not_false, Int.toNat_one, Int.toNat_zero, Nat.zero_mul, l_g, endK]
      refine round _ (by simp -implicitDefEqProofs (maxSteps := 1000000) (disch := first | omega | assumption) only [g0, Sx, reduceIte, Nat.reduceEqDiff, reduceCtorEq, Nat.reduceAdd, Nat.reduceSub, Nat.reduceLT]) (by simp -implicitDefEqProofs (maxSteps := 1000000) (disch := first | omega | assumption) only [g23, Sx, reduceIte, Nat.reduceEqDiff, reduceCtorEq, Nat.reduceAdd, Nat.reduceSub, Nat.reduceLT]) (by simp -implicitDefEqProofs (maxSteps := 1000000) (disch := first | omega | assumption) only [g24, Sx, reduceIte, Nat.reduceEqDiff, reduceCtorEq, Nat.reduceAdd, Nat.reduceSub, Nat.reduceLT]) (by simp -implicitDefEqProofs (maxSteps := 1000000) (disch := first | omega | assumption) only [g25, Sx, reduceIte, Nat.reduceEqDiff, reduceCtorEq, Nat.reduceAdd, Nat.reduceSub, Nat.reduceLT]) (by simp -implicitDefEqProofs (maxSteps := 1000000) (disch := first | omega | assumption) only [g4, Sx, reduceIte, Nat.reduceEqDiff, reduceCtorEq, Nat.reduceAdd, Nat.reduceSub, Nat.reduceLT]) (by simp -implicitDefEqProofs (maxSteps := 1000000) (disch := first | omega | assumption) only [g5, Sx, reduceIte, Nat.reduceEqDiff, reduceCtorEq, Nat.reduceAdd, Nat.reduceSub, Nat.reduceLT]) (by simp -implicitDefEqProofs (maxSteps := 1000000) (disch := first | omega | assumption) only [Sx, reduceIte, Nat.reduceEqDiff, reduceCtorEq, Nat.reduceAdd, Nat.reduceSub, Nat.reduceLT]) (by simp -implicitDefEqProofs (maxSteps := 1000000) (disch := first | omega | assumption) only [Sx, reduceIte, Nat.reduceEqDiff, reduceCtorEq, Nat.reduceAdd, Nat.reduceSub, Nat.reduceLT]) _ _ ?_ ?_
      · intro env' d2 d3
        exact hq env' d2 d3
      · intro env' d0 d23 d24 d25 d4 d5 hM2
        refine next env' d0 d23 d24 d25 d4 d5 hM2 _ _ ?_
        intro env3 h3
        exact ⟨k - 1, by omega, h3⟩
  · have f0 : decide ((i : Int) < (l.length : Int)) = false := decide_eq_false (by omega)
    rw [List.drop_of_length_le (by omega), bv] at hv
    have hfit := mid_fits hs hM
    rw [hv] at hfit g4
    rw [hbin, if_pos hfit] at hq
    simp -implicitDefEqProofs (maxSteps := 1000000) (disch := first | omega | assumption) only [g0, g23, g24, g25, g4, g5, f0, Sx, reduceIte, Nat.reduceEqDiff, reduceCtorEq, Nat.reduceAdd, Nat.reduceSub, Nat.reduceLT]
    exact hq _ (by simp -implicitDefEqProofs (maxSteps := 1000000) (disch := first | omega | assumption) only [Sx, reduceIte, Nat.reduceEqDiff, reduceCtorEq, Nat.reduceAdd, Nat.reduceSub, Nat.reduceLT]) (by simp -implicitDefEqProofs (maxSteps := 1000000) (disch := first | omega | assumption) only [Sx, reduceIte, Nat.reduceEqDiff, reduceCtorEq, Nat.reduceAdd, Nat.reduceSub, Nat.reduceLT])
set_option maxHeartbeats 2000000 in
theorem binary_spec {H : Heap} {v : Value} {l : List Int} (hv : By H v l) (hb : isBy l) (hl : l.length ≤ 1125899906842624) :
    ACalls Tryd.prog 12 [v].toArray H fun e H' => e = .returned (.tuple #[.int .i64 (binN l).1, .int .i64 (binN l).2]) ∧ H' = H := by
  obtain ⟨A, c, rfl, hc, hr⟩ := hv
  refine call12 (Nat.le_of_ble_eq_true rfl) ?_
  unfold L12 env0
  by_cases h2 : l.length < 2
  · have f0 : decide ((l.length : Int) < 2) = true := decide_eq_true (by omega)
    have e : binN l = (0, 120) := by unfold binN; rw [if_pos (.inl h2)]
    rw [e]
    simp -implicitDefEqProofs (maxSteps := 1000000) (disch := first | omega | assumption) only [f0, Sx, reduceIte, Nat.reduceEqDiff, reduceCtorEq, Nat.reduceAdd, Nat.reduceSub, Nat.reduceLT, decide_true, decide_false, Bool.not_true, Bool.not_false, Int.toNat_one, Int.toNat_zero, Nat.zero_mul, l_g, endK]
    exact ⟨by trivial, by trivial⟩
  · have f0 : decide ((l.length : Int) < 2) = false := decide_eq_false (by omega)
    obtain ⟨b, rfl, hx⟩ := by_at hr (i := 0) (by omega)
    rw [add_zero_a] at hx
    have hhd := head_at (l := l) (by omega)
    have hx0 := hb.at (i := 0) (by omega)
    rw [← hhd] at hx hx0
    have hin : (0 : Int) ≤ 0 ∧ (0 : Int) < (l.length : Int) := by omega
    have a1 := and128 hx0
    have a2 := and64 hx0
    by_cases h128 : 128 ≤ l.headD 0
    · rw [if_pos h128] at a1
      have f1 : ((128 : Int) == 0) = false := rfl
      by_cases h64 : 64 ≤ l.headD 0 % 128
      · rw [if_pos h64] at a2
        have f2 : ((64 : Int) != 0) = true := rfl
        have hs : signB l = -1 := by unfold signB; rw [if_pos h64]
        simp -implicitDefEqProofs (maxSteps := 1000000) (disch := first | omega | assumption) only [f0, hx, a1, f1, a2, f2, Sx, reduceIte, Nat.reduceEqDiff, reduceCtorEq, Nat.reduceAdd, Nat.reduceSub, Nat.reduceLT, decide_true, decide_false, Bool.not_true, Bool.not_false, Int.toNat_one, Int.toNat_zero, Nat.zero_mul, l_g, endK]
        refine bin_3 (c := c) hr hb hl (by omega) h128 (by simp -implicitDefEqProofs (maxSteps := 1000000) (disch := first | omega | assumption) only [Sx, reduceIte, Nat.reduceEqDiff, reduceCtorEq, Nat.reduceAdd, Nat.reduceSub, Nat.reduceLT]) (by rw [hs]; simp -implicitDefEqProofs (maxSteps := 1000000) (disch := first | omega | assumption) only [Sx, reduceIte, Nat.reduceEqDiff, reduceCtorEq, Nat.reduceAdd, Nat.reduceSub, Nat.reduceLT]) (by rw [hs]; simp -implicitDefEqProofs (maxSteps := 1000000) (disch := first | omega | assumption) only [Sx, reduceIte, Nat.reduceEqDiff, reduceCtorEq, Nat.reduceAdd, Nat.reduceSub, Nat.reduceLT]; rfl) ?_
        intro env' d2 d3
        simp -implicitDefEqProofs (maxSteps := 1000000) (disch := first | omega | assumption) only [d2, d3, Sx, reduceIte, Nat.reduceEqDiff, reduceCtorEq, Nat.reduceAdd, Nat.reduceSub, Nat.reduceLT]
        exact ⟨by trivial, by trivial⟩
      · rw [if_neg h64] at a2
        have f2 : ((0 : Int) != 0) = false := rfl
        have hs : signB l = 0 := by unfold signB; rw [if_neg h64]
        simp -implicitDefEqProofs (maxSteps := 1000000) (disch := first | omega | assumption) only [f0, hx, a1, f1, a2, f2, Sx, reduceIte, Nat.reduceEqDiff, reduceCtorEq, Nat.reduceAdd, Nat.reduceSub, Nat.reduceLT, decide_true, decide_false, Bool.not_true, Bool.not_false, Int.toNat_one, Int.toNat_zero, Nat.zero_mul, l_g, endK]
        refine bin_3 (c := c) hr hb hl (by omega) h128 (by simp -implicitDefEqProofs (maxSteps := 1000000) (disch := first | omega | assumption) only [Sx, reduceIte, Nat.reduceEqDiff, reduceCtorEq, Nat.reduceAdd, Nat.reduceSub, Nat.reduceLT]) (by rw [hs]; simp -implicitDefEqProofs (maxSteps := 1000000) (disch := first | omega | assumption) only [Sx, reduceIte, Nat.reduceEqDiff, reduceCtorEq, Nat.reduceAdd, Nat.reduceSub, Nat.reduceLT]) (by rw [hs]; simp -implicitDefEqProofs (maxSteps := 1000000) (disch := first | omega | assumption) only [Sx, reduceIte, Nat.reduceEqDiff, reduceCtorEq, Nat.reduceAdd, Nat.reduceSub, Nat.reduceLT]; rfl) ?_
        intro env' d2 d3
        simp -implicitDefEqProofs (maxSteps := 1000000) (disch := first | omega | assumption) only [d2, d3, Sx, reduceIte, Nat.reduceEqDiff, reduceCtorEq, Nat.reduceAdd, Nat.reduceSub, Nat.reduceLT]
        exact ⟨by trivial, by trivial⟩
    · rw [if_neg h128] at a1
      have f1 : ((0 : Int) == 0) = true := rfl
      have e : binN l = (0, 120) := by unfold binN; rw [if_pos (.inr (by omega))]
      rw [e]
      simp -implicitDefEqProofs (maxSteps := 1000000) (disch := first | omega | assumption) only [f0, hx, a1, f1, Sx, reduceIte, Nat.reduceEqDiff, reduceCtorEq, Nat.reduceAdd, Nat.reduceSub, Nat.reduceLT, decide_true, decide_false, Bool.not_true, Bool.not_false, Int.toNat_one, Int.toNat_zero, Nat.zero_mul, l_g, endK]
      exact ⟨by trivial, by trivial⟩
end Go.Proofs.YtigignkgblaoaaaDoor.S12
