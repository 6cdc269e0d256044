/-
  BitsLengths: its loops.
-/
import Derived.Test.YtfdcolicpfellaaLenLaw
import Derived.Test.YtfdcolicpfellaaLowT
set_option linter.unusedVariables false
set_option linter.unusedSimpArgs false
namespace Go.Proofs.Ytfdcolicpfellaa.S05
open Go Go.RowKit Go.Proofs.Ytfdcolicpfellaa.Sep Go.Proofs.Ytfdcolicpfellaa.Low Go.Proofs.Ytfdcolicpfellaa.CodeLaw
open Go.Proofs.Ytfdcolicpfellaa.PackLaw (Tr wt cntL leaves merge Up lev pairs psum)
open Go.Proofs.Ytfdcolicpfellaa.Lib (by64 by64_scalar)

theorem shlL {L : Nat} (h : L ≤ 15) : IntKind.i64.wrap (1 * 2 ^ min L 64) = ((2 ^ L : Nat) : Int) := by
  have h2 : 2 ^ L ≤ 2 ^ 15 := Nat.pow_le_pow_right (by omega) h
  rw [show min L 64 = L by omega, Int.one_mul]
  have : ((2 : Int) ^ L) = ((2 ^ L : Nat) : Int) := by simp
  rw [this]
  generalize 2 ^ L = z at h2 ⊢
  exact w_i64 (by omega)

structure SL (env env' : Env) (i : Nat) : Prop where
  h0 : env' 0 = env 0
  h1 : env' 1 = env 1
  h5 : env' 5 = env 5
  h6 : env' 6 = env 6
  h7 : env' 7 = env 7
  h8 : env' 8 = env 8
  h9 : env' 9 = env 9
  h10 : env' 10 = .int .i64 i
set_option maxHeartbeats 2000000 in
theorem same_loop {H : Heap} {a b : Option Addr} {c d M' : Nat} {os ot : List Int} {env : Env} {Q : Post} {QP : List PanicEntry → Heap → Prop} (hr : Row H a (by64 os)) (hr2 : Row H b (by64 (os ++ ot))) (hM : M' = os.length + ot.length) (hl : os.length ≤ 70368744177664)
    (h0 : env 0 = .slice a os.length c) (h5 : env 5 = .slice b M' d) (h10 : env 10 = .int .i64 0) (hk : ∀ env', SL env env' os.length → Q (.exit 0) env' H) :
    awpC Try.prog (.loop L9_0) Q QP env H := by
  refine c_loop (fun k env' H' => H' = H ∧ ∃ i, k + i = os.length ∧ SL env env' i) os.length ⟨rfl, 0, by omega, ⟨rfl, rfl, rfl, rfl, rfl, rfl, rfl, h10⟩⟩ ?_
  rintro k env1 H1 ⟨rfl, i, hki, ⟨s0, s1, s5, s6, s7, s8, s9, g10⟩⟩
  have g0 : env1 0 = .slice a os.length c := by rw [s0, h0]
  have g5 : env1 5 = .slice b M' d := by rw [s5, h5]
  unfold L9_0
  by_cases hi : i < os.length
  · have f0 : decide ((i : Int) < (os.length : Int)) = true := decide_eq_true (by omega)
    obtain ⟨ab, rfl, hb⟩ := int_at hr hi
    obtain ⟨bb, rfl, hb2⟩ := int_at hr2 (i := i) (by rw [List.length_append]; omega)
    rw [List.getElem_append_left hi] at hb2
    have q1 : (os[i] != os[i]) = false := by simp
    simp -implicitDefEqProofs (maxSteps := 1000000) (disch := first | omega | assumption) only [g0, g5, g10, f0, hb, hb2, q1, Sx, reduceIte, Nat.reduceEqDiff, reduceCtorEq, Nat.reduceAdd, Nat.reduceSub, Nat.reduceLT]
    exact ⟨k - 1, by omega, by trivial, i + 1, by omega, ⟨by simp -implicitDefEqProofs (maxSteps := 1000000) (disch := first | omega | assumption) only [g0, h0, Sx, reduceIte, Nat.reduceEqDiff, reduceCtorEq, Nat.reduceAdd, Nat.reduceSub, Nat.reduceLT], by simp -implicitDefEqProofs (maxSteps := 1000000) (disch := first | omega | assumption) only [s1, Sx, reduceIte, Nat.reduceEqDiff, reduceCtorEq, Nat.reduceAdd, Nat.reduceSub, Nat.reduceLT], by simp -implicitDefEqProofs (maxSteps := 1000000) (disch := first | omega | assumption) only [g5, h5, Sx, reduceIte, Nat.reduceEqDiff, reduceCtorEq, Nat.reduceAdd, Nat.reduceSub, Nat.reduceLT], by simp -implicitDefEqProofs (maxSteps := 1000000) (disch := first | omega | assumption) only [s6, Sx, reduceIte, Nat.reduceEqDiff, reduceCtorEq, Nat.reduceAdd, Nat.reduceSub, Nat.reduceLT], by simp -implicitDefEqProofs (maxSteps := 1000000) (disch := first | omega | assumption) only [s7, Sx, reduceIte, Nat.reduceEqDiff, reduceCtorEq, Nat.reduceAdd, Nat.reduceSub, Nat.reduceLT], by simp -implicitDefEqProofs (maxSteps := 1000000) (disch := first | omega | assumption) only [s8, Sx, reduceIte, Nat.reduceEqDiff, reduceCtorEq, Nat.reduceAdd, Nat.reduceSub, Nat.reduceLT], by simp -implicitDefEqProofs (maxSteps := 1000000) (disch := first | omega | assumption) only [s9, Sx, reduceIte, Nat.reduceEqDiff, reduceCtorEq, Nat.reduceAdd, Nat.reduceSub, Nat.reduceLT], by simp -implicitDefEqProofs (maxSteps := 1000000) (disch := first | omega | assumption) only [Int.natCast_add, Int.natCast_one, Sx, reduceIte, Nat.reduceEqDiff, reduceCtorEq, Nat.reduceAdd, Nat.reduceSub, Nat.reduceLT]⟩⟩
  · have : i = os.length := by omega
    subst this
    have f0 : decide ((os.length : Int) < (os.length : Int)) = false := decide_eq_false (by omega)
    simp -implicitDefEqProofs (maxSteps := 1000000) (disch := first | omega | assumption) only [g0, g5, g10, f0, Sx, reduceIte, Nat.reduceEqDiff, reduceCtorEq, Nat.reduceAdd, Nat.reduceSub, Nat.reduceLT]
    exact hk _ ⟨by simp -implicitDefEqProofs (maxSteps := 1000000) (disch := first | omega | assumption) only [g0, h0, Sx, reduceIte, Nat.reduceEqDiff, reduceCtorEq, Nat.reduceAdd, Nat.reduceSub, Nat.reduceLT], by simp -implicitDefEqProofs (maxSteps := 1000000) (disch := first | omega | assumption) only [s1, Sx, reduceIte, Nat.reduceEqDiff, reduceCtorEq, Nat.reduceAdd, Nat.reduceSub, Nat.reduceLT], by simp -implicitDefEqProofs (maxSteps := 1000000) (disch := first | omega | assumption) only [g5, h5, Sx, reduceIte, Nat.reduceEqDiff, reduceCtorEq, Nat.reduceAdd, Nat.reduceSub, Nat.reduceLT], by simp -implicitDefEqProofs (maxSteps := 1000000) (disch := first | omega | assumption) only [s6, Sx, reduceIte, Nat.reduceEqDiff, reduceCtorEq, Nat.reduceAdd, Nat.reduceSub, Nat.reduceLT], by simp -implicitDefEqProofs (maxSteps := 1000000) (disch := first | omega | assumption) only [s7, Sx, reduceIte, Nat.reduceEqDiff, reduceCtorEq, Nat.reduceAdd, Nat.reduceSub, Nat.reduceLT], by simp -implicitDefEqProofs (maxSteps := 1000000) (disch := first | omega | assumption) only [s8, Sx, reduceIte, Nat.reduceEqDiff, reduceCtorEq, Nat.reduceAdd, Nat.reduceSub, Nat.reduceLT], by simp -implicitDefEqProofs (maxSteps := 1000000) (disch := first | omega | assumption) only [s9, Sx, reduceIte, Nat.reduceEqDiff, reduceCtorEq, Nat.reduceAdd, Nat.reduceSub, Nat.reduceLT], by simp -implicitDefEqProofs (maxSteps := 1000000) (disch := first | omega | assumption) only [g10, Sx, reduceIte, Nat.reduceEqDiff, reduceCtorEq, Nat.reduceAdd, Nat.reduceSub, Nat.reduceLT]⟩

/-- the cost so far -/
def cs (os : List Int) (f : Nat → Nat) (i : Nat) : Int := ((List.range i).map fun x => (f x : Int) * oft os x).sum
theorem cs_succ (os : List Int) (f : Nat → Nat) (i : Nat) : cs os f (i + 1) = cs os f i + (f i : Int) * oft os i := by
  unfold cs
  rw [List.range_succ, List.map_append, List.sum_append]
  simp
theorem cs_bd {os : List Int} {f : Nat → Nat} {L : Nat} (hok : okArgs os L) (hf : LenFacts os L f) : ∀ i, i ≤ os.length → 0 ≤ cs os f i ∧ cs os f i ≤ i * 16492674416640
  | 0, _ => by simp [cs]
  | i + 1, hi => by
    have ih := cs_bd hok hf i (by omega)
    rw [cs_succ]
    have h1 := hf.le i (by omega)
    have h2 : 0 ≤ oft os i ∧ oft os i ≤ 1099511627776 := (okArgsTo_all.2 hok).2.2 i (by omega)
    have hL := hok.2.1
    have h3 : 0 ≤ (f i : Int) * oft os i := Int.mul_nonneg (by omega) h2.1
    have h4 : (f i : Int) * oft os i ≤ 15 * 1099511627776 := Int.mul_le_mul (by omega) h2.2 h2.1 (by omega)
    omega

structure CO (a : Option Addr) (c : Nat) (os : List Int) (L : Nat) (f : Nat → Nat) (lv : Value) (n i : Nat) (env : Env) : Prop where
  h0 : env 0 = .slice a os.length c
  h1 : env 1 = .int .i64 L
  h6 : env 6 = lv
  h8 : env 8 = .int .i64 n
  h13 : env 13 = .int .i64 (cs os f i)
  h14 : env 14 = .int .i64 i

set_option maxHeartbeats 4000000 in
theorem cost_round {H : Heap} {a la : Option Addr} {c lc n L i : Nat} {os : List Int} {f : Nat → Nat} {env : Env} {Q : Post} {QP : List PanicEntry → Heap → Prop} (hr : Row H a (by64 os)) (hlr : Row H la (by64 (nums os.length f))) (hok : okArgs os L) (hf : LenFacts os L f)
    (h1' : n = 1 → ∀ x, x < os.length → 0 < oft os x → f x = 1) (hi : i < os.length) (hS : CO a c os L f (.slice la os.length lc) n i env) (hk : ∀ env', CO a c os L f (.slice la os.length lc) n (i + 1) env' → Q .normal env' H) :
    awpC Try.prog L9_1 Q QP env H := by
  obtain ⟨h0, h1, h6, h8, h13, h14⟩ := hS
  have hM := hok.1
  have hL := hok.2.1
  have f0 : decide ((i : Int) < (os.length : Int)) = true := decide_eq_true (by omega)
  obtain ⟨ab, rfl, hb⟩ := int_at hr hi
  obtain ⟨lb, rfl, hb2⟩ := int_at hlr (i := i) (by simpa using hi)
  have hfi : (nums os.length f)[i]'(by simpa using hi) = (f i : Int) := by simp
  rw [hfi] at hb2
  have hg : oft os i = os[i] := by show os.getD i 0 = _; rw [List.getD_eq_getElem?_getD, List.getElem?_eq_getElem hi]; rfl
  have ho : 0 ≤ os[i] ∧ os[i] ≤ 1099511627776 := hok.2.2 _ (List.getElem_mem hi)
  have hle := hf.le i hi
  have hz := hf.z i hi
  rw [hg] at hz
  have f1 : decide ((f i : Int) < 0) = false := decide_eq_false (by omega)
  have f2 : decide ((L : Int) < (f i : Int)) = false := decide_eq_false (by omega)
  obtain ⟨q, hq⟩ : ∃ q, q = (((f i : Nat) : Int) == 0) := ⟨_, rfl⟩
  have hq2 : (os[i] == 0) = q := by
    rw [hq]
    by_cases h : f i = 0
    · have := hz.1 h
      rw [h, show os[i] = 0 by omega]; rfl
    · have : 0 < os[i] := Decidable.of_not_not fun hn => h (hz.2 hn)
      have e1 : (os[i] == 0) = false := by rw [beq_eq_false_iff_ne]; omega
      have e2 : (((f i : Nat) : Int) == 0) = false := by rw [beq_eq_false_iff_ne]; omega
      rw [e1, e2]
  have q0 : ((q == q) != true) = false := by cases q <;> rfl
  have hb1 := cs_bd hok hf i (by omega)
  have hb3 := cs_bd hok hf (i + 1) (by omega)
  have hcs := cs_succ os f i
  rw [hg] at hcs
  have hp3 : 0 ≤ (f i : Int) * os[i] := Int.mul_nonneg (by omega) ho.1
  have hp4 : (f i : Int) * os[i] ≤ 15 * 1099511627776 := Int.mul_le_mul (by omega) ho.2 ho.1 (by omega)
  obtain ⟨p, hp⟩ : ∃ p, p = (f i : Int) * os[i] := ⟨_, rfl⟩
  rw [← hp] at hcs hp3 hp4
  obtain ⟨s, hs⟩ : ∃ s, s = cs os f i := ⟨_, rfl⟩
  rw [← hs] at h13 hb1 hcs
  have hp' : (f i : Int) * os[i] = p := hp.symm
  unfold L9_1
  have fin : ∀ env2 : Env, env2 0 = .slice (some ab) os.length c → env2 1 = .int .i64 L → env2 6 = .slice (some lb) os.length lc → env2 8 = .int .i64 n → env2 13 = .int .i64 (s + p) → env2 14 = .int .i64 ((i : Int) + 1) → Q .normal env2 H := by
    intro env2 e0 e1 e6 e8 e13 e14
    exact hk _ ⟨e0, e1, e6, e8, by rw [e13, hcs], by rw [e14]; rfl⟩
  by_cases hn : n = 1
  · have q3 : ((n : Int) == 1) = true := by rw [beq_iff_eq]; omega
    by_cases hpos : 0 < os[i]
    · have f3 : decide (0 < os[i]) = true := decide_eq_true hpos
      have hone := h1' hn i hi (by rw [hg]; exact hpos)
      have q4 : (((f i : Nat) : Int) != 1) = false := by rw [hone]; rfl
      simp -implicitDefEqProofs (maxSteps := 1000000) (disch := first | omega | assumption) only [h0, h1, h6, h8, h13, h14, f0, f1, f2, f3, hb, hb2, ← hq, hq2, q0, q3, q4, hp', ev_eqb, l_g, Sx, reduceIte, Nat.reduceEqDiff, reduceCtorEq, Nat.reduceAdd, Nat.reduceSub, Nat.reduceLT]
      exact fin _ (by simp -implicitDefEqProofs (maxSteps := 1000000) (disch := first | omega | assumption) only [h0, Sx, reduceIte, Nat.reduceEqDiff, reduceCtorEq, Nat.reduceAdd, Nat.reduceSub, Nat.reduceLT]) (by simp -implicitDefEqProofs (maxSteps := 1000000) (disch := first | omega | assumption) only [h1, Sx, reduceIte, Nat.reduceEqDiff, reduceCtorEq, Nat.reduceAdd, Nat.reduceSub, Nat.reduceLT]) (by simp -implicitDefEqProofs (maxSteps := 1000000) (disch := first | omega | assumption) only [h6, Sx, reduceIte, Nat.reduceEqDiff, reduceCtorEq, Nat.reduceAdd, Nat.reduceSub, Nat.reduceLT]) (by simp -implicitDefEqProofs (maxSteps := 1000000) (disch := first | omega | assumption) only [h8, Sx, reduceIte, Nat.reduceEqDiff, reduceCtorEq, Nat.reduceAdd, Nat.reduceSub, Nat.reduceLT]) (by simp -implicitDefEqProofs (maxSteps := 1000000) (disch := first | omega | assumption) only [Sx, reduceIte, Nat.reduceEqDiff, reduceCtorEq, Nat.reduceAdd, Nat.reduceSub, Nat.reduceLT]) (by simp -implicitDefEqProofs (maxSteps := 1000000) (disch := first | omega | assumption) only [Sx, reduceIte, Nat.reduceEqDiff, reduceCtorEq, Nat.reduceAdd, Nat.reduceSub, Nat.reduceLT])
    · have f3 : decide (0 < os[i]) = false := decide_eq_false hpos
      simp -implicitDefEqProofs (maxSteps := 1000000) (disch := first | omega | assumption) only [h0, h1, h6, h8, h13, h14, f0, f1, f2, f3, hb, hb2, ← hq, hq2, q0, q3, hp', ev_eqb, l_g, Sx, reduceIte, Nat.reduceEqDiff, reduceCtorEq, Nat.reduceAdd, Nat.reduceSub, Nat.reduceLT]
      exact fin _ (by simp -implicitDefEqProofs (maxSteps := 1000000) (disch := first | omega | assumption) only [h0, Sx, reduceIte, Nat.reduceEqDiff, reduceCtorEq, Nat.reduceAdd, Nat.reduceSub, Nat.reduceLT]) (by simp -implicitDefEqProofs (maxSteps := 1000000) (disch := first | omega | assumption) only [h1, Sx, reduceIte, Nat.reduceEqDiff, reduceCtorEq, Nat.reduceAdd, Nat.reduceSub, Nat.reduceLT]) (by simp -implicitDefEqProofs (maxSteps := 1000000) (disch := first | omega | assumption) only [h6, Sx, reduceIte, Nat.reduceEqDiff, reduceCtorEq, Nat.reduceAdd, Nat.reduceSub, Nat.reduceLT]) (by simp -implicitDefEqProofs (maxSteps := 1000000) (disch := first | omega | assumption) only [h8, Sx, reduceIte, Nat.reduceEqDiff, reduceCtorEq, Nat.reduceAdd, Nat.reduceSub, Nat.reduceLT]) (by simp -implicitDefEqProofs (maxSteps := 1000000) (disch := first | omega | assumption) only [Sx, reduceIte, Nat.reduceEqDiff, reduceCtorEq, Nat.reduceAdd, Nat.reduceSub, Nat.reduceLT]) (by simp -implicitDefEqProofs (maxSteps := 1000000) (disch := first | omega | assumption) only [Sx, reduceIte, Nat.reduceEqDiff, reduceCtorEq, Nat.reduceAdd, Nat.reduceSub, Nat.reduceLT])
  · have q3 : ((n : Int) == 1) = false := by rw [beq_eq_false_iff_ne]; omega
    simp -implicitDefEqProofs (maxSteps := 1000000) (disch := first | omega | assumption) only [h0, h1, h6, h8, h13, h14, f0, f1, f2, hb, hb2, ← hq, hq2, q0, q3, hp', ev_eqb, l_g, Sx, reduceIte, Nat.reduceEqDiff, reduceCtorEq, Nat.reduceAdd, Nat.reduceSub, Nat.reduceLT]
    exact fin _ (by simp -implicitDefEqProofs (maxSteps := 1000000) (disch := first | omega | assumption) only [h0, Sx, reduceIte, Nat.reduceEqDiff, reduceCtorEq, Nat.reduceAdd, Nat.reduceSub, Nat.reduceLT]) (by simp -implicitDefEqProofs (maxSteps := 1000000) (disch := first | omega | assumption) only [h1, Sx, reduceIte, Nat.reduceEqDiff, reduceCtorEq, Nat.reduceAdd, Nat.reduceSub, Nat.reduceLT]) (by simp -implicitDefEqProofs (maxSteps := 1000000) (disch := first | omega | assumption) only [h6, Sx, reduceIte, Nat.reduceEqDiff, reduceCtorEq, Nat.reduceAdd, Nat.reduceSub, Nat.reduceLT]) (by simp -implicitDefEqProofs (maxSteps := 1000000) (disch := first | omega | assumption) only [h8, Sx, reduceIte, Nat.reduceEqDiff, reduceCtorEq, Nat.reduceAdd, Nat.reduceSub, Nat.reduceLT]) (by simp -implicitDefEqProofs (maxSteps := 1000000) (disch := first | omega | assumption) only [Sx, reduceIte, Nat.reduceEqDiff, reduceCtorEq, Nat.reduceAdd, Nat.reduceSub, Nat.reduceLT]) (by simp -implicitDefEqProofs (maxSteps := 1000000) (disch := first | omega | assumption) only [Sx, reduceIte, Nat.reduceEqDiff, reduceCtorEq, Nat.reduceAdd, Nat.reduceSub, Nat.reduceLT])
theorem cost_loop {H : Heap} {a la : Option Addr} {c lc n L : Nat} {os : List Int} {f : Nat → Nat} {env : Env} {Q : Post} {QP : List PanicEntry → Heap → Prop} (hr : Row H a (by64 os)) (hlr : Row H la (by64 (nums os.length f))) (hok : okArgs os L) (hf : LenFacts os L f)
    (h1' : n = 1 → ∀ x, x < os.length → 0 < oft os x → f x = 1) (hS : CO a c os L f (.slice la os.length lc) n 0 env) (hk : ∀ env', CO a c os L f (.slice la os.length lc) n os.length env' → Q (.exit 2) env' H) :
    awpC Try.prog (.loop L9_1) Q QP env H := by
  refine c_loop (fun k env' H' => H' = H ∧ ∃ i, k + i = os.length ∧ CO a c os L f (.slice la os.length lc) n i env') os.length ⟨rfl, 0, by omega, hS⟩ ?_
  rintro k env1 H1 ⟨rfl, i, hki, hS⟩
  by_cases hi : i < os.length
  · refine cost_round hr hlr hok hf h1' hi hS ?_
    intro env' hS'
    exact ⟨k - 1, by omega, rfl, i + 1, by omega, hS'⟩
  · have : i = os.length := by omega
    subst this
    obtain ⟨h0, h1, h6, h8, h13, h14⟩ := hS
    have f0 : decide ((os.length : Int) < (os.length : Int)) = false := decide_eq_false (by omega)
    unfold L9_1
    simp -implicitDefEqProofs (maxSteps := 1000000) (disch := first | omega | assumption) only [h0, h1, h6, h8, h13, h14, f0, Sx, reduceIte, Nat.reduceEqDiff, reduceCtorEq, Nat.reduceAdd, Nat.reduceSub, Nat.reduceLT]
    exact hk _ ⟨by simp -implicitDefEqProofs (maxSteps := 1000000) (disch := first | omega | assumption) only [h0, Sx, reduceIte, Nat.reduceEqDiff, reduceCtorEq, Nat.reduceAdd, Nat.reduceSub, Nat.reduceLT], by simp -implicitDefEqProofs (maxSteps := 1000000) (disch := first | omega | assumption) only [h1, Sx, reduceIte, Nat.reduceEqDiff, reduceCtorEq, Nat.reduceAdd, Nat.reduceSub, Nat.reduceLT], by simp -implicitDefEqProofs (maxSteps := 1000000) (disch := first | omega | assumption) only [h6, Sx, reduceIte, Nat.reduceEqDiff, reduceCtorEq, Nat.reduceAdd, Nat.reduceSub, Nat.reduceLT], by simp -implicitDefEqProofs (maxSteps := 1000000) (disch := first | omega | assumption) only [h8, Sx, reduceIte, Nat.reduceEqDiff, reduceCtorEq, Nat.reduceAdd, Nat.reduceSub, Nat.reduceLT], by simp -implicitDefEqProofs (maxSteps := 1000000) (disch := first | omega | assumption) only [h13, Sx, reduceIte, Nat.reduceEqDiff, reduceCtorEq, Nat.reduceAdd, Nat.reduceSub, Nat.reduceLT], by simp -implicitDefEqProofs (maxSteps := 1000000) (disch := first | omega | assumption) only [h14, Sx, reduceIte, Nat.reduceEqDiff, reduceCtorEq, Nat.reduceAdd, Nat.reduceSub, Nat.reduceLT]⟩
end Go.Proofs.Ytfdcolicpfellaa.S05
