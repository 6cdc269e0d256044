/-
  A meter of the program: New, Take, Back, Left, Used.
-/
import Derived.Test.YtmgpfdfbcnlocaaDoorLowQ
import Derived.Test.YtmgpfdfbcnlocaaDoorLock
import Derived.Test.YtmgpfdfbcnlocaaDoorNames2
set_option linter.unusedVariables false
set_option linter.unusedSimpArgs false
namespace Go.Proofs.YtmgpfdfbcnlocaaDoor.S18
open Go Go.RowKit Go.Proofs.YtmgpfdfbcnlocaaDoor.Sep Go.Proofs.YtmgpfdfbcnlocaaDoor.Low Go.Proofs.YtmgpfdfbcnlocaaDoor.Lib Go.Proofs.YtmgpfdfbcnlocaaDoor.S09

structure Qt where
  b : Int
  e : Int
  d : Int
  deriving DecidableEq
abbrev qt (q : Qt) : List Value := [.int .i64 q.b, .int .i64 q.e, .int .i64 q.d]
def can (q : Qt) : Prop := 0 ≤ q.b ∧ 0 ≤ q.e ∧ 0 ≤ q.d
instance (q : Qt) : Decidable (can q) := by unfold can; exact inferInstance
abbrev i64 (z : Int) : Prop := -9223372036854775808 ≤ z ∧ z ≤ 9223372036854775807
structure Wq (q : Qt) : Prop where
  b : i64 q.b
  e : i64 q.e
  d : i64 q.d
/-- a meter of the program -/
abbrev pm (q : Qt) (b e : Int) : List Value := [.int .i32 0, .int .u32 0, .int .i64 q.b, .int .i64 q.e, .int .i64 q.d, .int .i64 b, .int .i64 e, .int .i64 0]
abbrev Pm (H : Heap) (r : Nat) (q : Qt) (b e : Int) : Prop := H r = some (.cells (pm q b e).toArray 64 (0, 0))

abbrev pl (q : Qt) (b e : Int) : List Value := [.int .i32 1, .int .u32 0, .int .i64 q.b, .int .i64 q.e, .int .i64 q.d, .int .i64 b, .int .i64 e, .int .i64 0]
abbrev Pl (H : Heap) (r : Nat) (q : Qt) (b e : Int) : Prop := H r = some (.cells (pl q b e).toArray 64 (0, 0))
abbrev At1 (r : Nat) (H H' : Heap) : Prop := Only (fun k => k = r) H H'
theorem at_keep {r : Nat} {H H' : Heap} (h : Keep H H') : At1 r H H' := Only.of_keep h
theorem at_trans {r : Nat} {H H1 H2 : Heap} (h : At1 r H H1) (k : At1 r H1 H2) : At1 r H H2 := h.trans k fun q hq => .inl hq
theorem at_set {r : Nat} {H : Heap} {o : Obj} : At1 r H (H.set r o) := (Only.refl _ _).set (.inl rfl)
theorem keep_at {r : Nat} {H H' : Heap} (h : At1 r H H') (hr : H' r = H r) : Keep H H' := fun q o hq => by
  by_cases e : q = r
  · subst e; rw [hr]; exact hq
  · exact h.oth q o hq e
theorem loadN_of {H : Heap} {r o n T : Nat} {f : Nat × Nat} {cs l : List Value} (hb : H r = some (.cells cs.toArray T f)) (hl : (cs.drop o).take n = l) (hn : l.length = n) : H.loadN ⟨r, o, none⟩ 0 n = some l := by
  subst hn
  refine Heap.loadN_row l 0 fun j v hv => ?_
  rw [add_mk, cell_of hb, Nat.zero_add]
  rw [← hl] at hv
  rw [List.getElem?_take] at hv
  split at hv
  · rw [List.getElem?_drop] at hv
    simpa using hv
  · cases hv
/-- the lock is given back -/
theorem door {rs : List RV} {S : Ending → Heap → Prop} {env : Env} {H : Heap} {r : Nat} {q : Qt} {b e : Int} (hm : Pl H r q b e)
    (h : ∀ H', H' = H.set r (.cells (pm q b e).toArray 64 (0, 0)) → bindL (getAll env H' rs) fun vs => S (.returned (oneOr vs)) H') : ALeaves Tryd.prog rs env S [⟨.fn (.func 21) #[], [Value.pointer (some ⟨r, 0, none⟩)].toArray⟩] .returning H :=
  al_cons (by simp) (unlock_adef hm) (by rintro e' u' H' ⟨rfl, rfl, rfl⟩; rw [settle_ret, al_nil]; exact h _ rfl)

set_option maxHeartbeats 1000000 in
theorem used_spec {H : Heap} {r : Nat} {q : Qt} {b e : Int} (hm : Pm H r q b e) :
    ACalls Tryd.prog 12 [Value.pointer (some ⟨r, 0, none⟩)].toArray H fun e' H' => e' = .returned (.agg (qt ⟨b, e, 0⟩).toArray) ∧ Keep H H' := by
  refine call12 (Nat.le_of_ble_eq_true rfl) ?_
  unfold L12 env0
  simp -implicitDefEqProofs (maxSteps := 1000000) (disch := first | omega | assumption) only [Dx, pq_normal, rq_normal, dk_func, settle_ret, ev_nilc, Sx, reduceIte, Nat.reduceEqDiff, reduceCtorEq, Nat.reduceAdd, Nat.reduceSub, Nat.reduceLT, decide_true, decide_false, Bool.not_true, Bool.not_false, Int.toNat_one, Int.toNat_zero, Nat.zero_mul, l_g, endK, gd_u]
  refine a_new fun r1 hr1 => ?_
  have hne : r1 ≠ r := by rintro rfl; exact absurd (hr1.symm.trans hm) (by simp)
  have k1 : Keep H (H.set r1 (.cells (qt ⟨0, 0, 0⟩).toArray 23 (0, 0))) := (Keep.refl _).set_new hr1
  obtain ⟨H1, hH1⟩ : ∃ H1, H1 = H.set r1 (.cells (qt ⟨0, 0, 0⟩).toArray 23 (0, 0)) := ⟨_, rfl⟩
  have hb1 : H1 r1 = some (.cells (qt ⟨0, 0, 0⟩).toArray 23 (0, 0)) := by rw [hH1]; exact set_same
  rw [← hH1] at k1
  rw [show H.set r1 (.cells #[.int .i64 0, .int .i64 0, .int .i64 0] 23 (0, 0)) = H1 from hH1.symm]
  try simp -implicitDefEqProofs (maxSteps := 1000000) (disch := first | omega | assumption) only [Dx, pq_normal, rq_normal, dk_func, settle_ret, ev_nilc, Sx, reduceIte, Nat.reduceEqDiff, reduceCtorEq, Nat.reduceAdd, Nat.reduceSub, Nat.reduceLT, decide_true, decide_false, Bool.not_true, Bool.not_false, Int.toNat_one, Int.toNat_zero, Nat.zero_mul, l_g, endK, gd_u]
  refine a_call (lock_spec (k1 _ _ hm)) ?_
  rintro e' H2 ⟨rfl, hH2⟩
  have hm2 : Pl H2 r q b e := by rw [hH2]; exact set_same
  have hb2 : H2 r1 = some (.cells (qt ⟨0, 0, 0⟩).toArray 23 (0, 0)) := by rw [hH2, set_other hne]; exact hb1
  have hld := loadN_of (o := 5) (n := 3) (l := qt ⟨b, e, 0⟩) hm2 rfl rfl
  simp -implicitDefEqProofs (maxSteps := 1000000) (disch := first | omega | assumption) only [ev_ldn, hld, Dx, pq_normal, rq_normal, dk_func, settle_ret, ev_nilc, Sx, reduceIte, Nat.reduceEqDiff, reduceCtorEq, Nat.reduceAdd, Nat.reduceSub, Nat.reduceLT, decide_true, decide_false, Bool.not_true, Bool.not_false, Int.toNat_one, Int.toNat_zero, Nat.zero_mul, l_g, endK, gd_u]
  refine st_all (old := qt ⟨0, 0, 0⟩) hb2 (by rfl) (by rfl) (by simp [scalarV]) ?_
  have hm3 : Pl (H2.set r1 (.cells [Value.int .i64 b, .int .i64 e, .int .i64 0].toArray 23 (0, 0))) r q b e := by
    show (H2.set r1 _) r = _
    rw [set_other (Ne.symm hne)]; exact hm2
  try simp -implicitDefEqProofs (maxSteps := 1000000) (disch := first | omega | assumption) only [Dx, pq_normal, rq_normal, dk_func, settle_ret, ev_nilc, Sx, reduceIte, Nat.reduceEqDiff, reduceCtorEq, Nat.reduceAdd, Nat.reduceSub, Nat.reduceLT, decide_true, decide_false, Bool.not_true, Bool.not_false, Int.toNat_one, Int.toNat_zero, Nat.zero_mul, l_g, endK, gd_u]
  refine door hm3 ?_
  intro H' hH'
  have hl' : H'.loadN ⟨r1, 0, none⟩ 0 3 = some (qt ⟨b, e, 0⟩) := loadN_of (T := 23) (f := (0, 0)) (cs := qt ⟨b, e, 0⟩) (by rw [hH', set_other hne, set_same]) rfl rfl
  rw [g_cn (by simp -implicitDefEqProofs (maxSteps := 1000000) (disch := first | omega | assumption) only [Dx, pq_normal, rq_normal, dk_func, settle_ret, ev_nilc, Sx, reduceIte, Nat.reduceEqDiff, reduceCtorEq, Nat.reduceAdd, Nat.reduceSub, Nat.reduceLT, decide_true, decide_false, Bool.not_true, Bool.not_false, Int.toNat_one, Int.toNat_zero, Nat.zero_mul, l_g, endK, gd_u]) hl']
  simp -implicitDefEqProofs (maxSteps := 1000000) (disch := first | omega | assumption) only [Dx, pq_normal, rq_normal, dk_func, settle_ret, ev_nilc, Sx, reduceIte, Nat.reduceEqDiff, reduceCtorEq, Nat.reduceAdd, Nat.reduceSub, Nat.reduceLT, decide_true, decide_false, Bool.not_true, Bool.not_false, Int.toNat_one, Int.toNat_zero, Nat.zero_mul, l_g, endK, gd_u]
  refine ⟨by (first | exact True.intro | rfl | assumption), fun k o hk => ?_⟩
  rw [hH']
  by_cases h1 : k = r
  · subst h1; rw [set_same, ← hk, hm]
  · rw [set_other h1]
    by_cases h2 : k = r1
    · subst h2; rw [hr1] at hk; cases hk
    · rw [set_other h2, hH2, set_other h1]; exact k1 k o hk

set_option maxHeartbeats 2000000 in
theorem left_spec {H : Heap} {r : Nat} {q : Qt} {b e : Int} (hm : Pm H r q b e) (hq : can q) (wq : Wq q) (hb : 0 ≤ b ∧ b ≤ q.b) (he : 0 ≤ e ∧ e ≤ q.e) :
    ACalls Tryd.prog 11 [Value.pointer (some ⟨r, 0, none⟩)].toArray H fun e' H' => e' = .returned (.agg (qt ⟨q.b - b, q.e - e, q.d⟩).toArray) ∧ Keep H H' := by
  obtain ⟨w1, w2, w3⟩ := wq
  unfold i64 at w1 w2 w3
  refine call11 (Nat.le_of_ble_eq_true rfl) ?_
  unfold L11 env0
  simp -implicitDefEqProofs (maxSteps := 1000000) (disch := first | omega | assumption) only [Dx, pq_normal, rq_normal, dk_func, settle_ret, ev_nilc, Sx, reduceIte, Nat.reduceEqDiff, reduceCtorEq, Nat.reduceAdd, Nat.reduceSub, Nat.reduceLT, decide_true, decide_false, Bool.not_true, Bool.not_false, Int.toNat_one, Int.toNat_zero, Nat.zero_mul, l_g, endK, gd_u]
  refine a_new fun r1 hr1 => ?_
  have hne : r1 ≠ r := by rintro rfl; exact absurd (hr1.symm.trans hm) (by simp)
  have k1 : Keep H (H.set r1 (.cells (qt ⟨0, 0, 0⟩).toArray 23 (0, 0))) := (Keep.refl _).set_new hr1
  obtain ⟨H1, hH1⟩ : ∃ H1, H1 = H.set r1 (.cells (qt ⟨0, 0, 0⟩).toArray 23 (0, 0)) := ⟨_, rfl⟩
  have hb1 : H1 r1 = some (.cells (qt ⟨0, 0, 0⟩).toArray 23 (0, 0)) := by rw [hH1]; exact set_same
  rw [← hH1] at k1
  rw [show H.set r1 (.cells #[.int .i64 0, .int .i64 0, .int .i64 0] 23 (0, 0)) = H1 from hH1.symm]
  try simp -implicitDefEqProofs (maxSteps := 1000000) (disch := first | omega | assumption) only [Dx, pq_normal, rq_normal, dk_func, settle_ret, ev_nilc, Sx, reduceIte, Nat.reduceEqDiff, reduceCtorEq, Nat.reduceAdd, Nat.reduceSub, Nat.reduceLT, decide_true, decide_false, Bool.not_true, Bool.not_false, Int.toNat_one, Int.toNat_zero, Nat.zero_mul, l_g, endK, gd_u]
  refine a_call (lock_spec (k1 _ _ hm)) ?_
  rintro e' H2 ⟨rfl, hH2⟩
  have hm2 : Pl H2 r q b e := by rw [hH2]; exact set_same
  have hb2 : H2 r1 = some (.cells (qt ⟨0, 0, 0⟩).toArray 23 (0, 0)) := by rw [hH2, set_other hne]; exact hb1
  have c : ∀ H' : Heap, Pl H' r q b e → H'.cell? ⟨r, 2, none⟩ = some (.int .i64 q.b) ∧ H'.cell? ⟨r, 2 + 1, none⟩ = some (.int .i64 q.e) ∧ H'.cell? ⟨r, 2 + 2, none⟩ = some (.int .i64 q.d) ∧ H'.cell? ⟨r, 5, none⟩ = some (.int .i64 b) ∧ H'.cell? ⟨r, 5 + 1, none⟩ = some (.int .i64 e) := fun H' h => ⟨by rw [cell_of h]; rfl, by rw [cell_of h]; rfl, by rw [cell_of h]; rfl, by rw [cell_of h]; rfl, by rw [cell_of h]; rfl⟩
  obtain ⟨c1, c2, c3, c4, c5⟩ := c H2 hm2
  have s2 : ∀ (H' : Heap) x, Pl H' r q b e → Pl (H'.set r1 x) r q b e := fun H' x h => by show (H'.set r1 x) r = _; rw [set_other (Ne.symm hne)]; exact h
  simp -implicitDefEqProofs (maxSteps := 1000000) (disch := first | omega | assumption) only [c1, c2, c3, c4, c5, l_qk, l_e, Dx, pq_normal, rq_normal, dk_func, settle_ret, ev_nilc, Sx, reduceIte, Nat.reduceEqDiff, reduceCtorEq, Nat.reduceAdd, Nat.reduceSub, Nat.reduceLT, decide_true, decide_false, Bool.not_true, Bool.not_false, Int.toNat_one, Int.toNat_zero, Nat.zero_mul, l_g, endK, gd_u]
  refine st_all (old := qt ⟨0, 0, 0⟩) hb2 (by rfl) (by rfl) (by simp [scalarV]) ?_
  refine ⟨fun z hz _ => by simp only [List.mem_cons, List.not_mem_nil, or_false] at hz; rcases hz with rfl | rfl | rfl | rfl | rfl <;> first | exact (c _ (s2 _ _ hm2)).1 | exact (c _ (s2 _ _ hm2)).2.1 | exact (c _ (s2 _ _ hm2)).2.2.1 | exact (c _ (s2 _ _ hm2)).2.2.2.1 | exact (c _ (s2 _ _ hm2)).2.2.2.2, ?_⟩
  refine st_one (cs := (qt ⟨0, 0, 0⟩).toArray) set_same (by simp) rfl ?_
  rw [set_set]
  refine ⟨fun z hz _ => by simp only [List.mem_cons, List.not_mem_nil, or_false] at hz; rcases hz with rfl | rfl | rfl | rfl | rfl <;> first | exact (c _ (s2 _ _ hm2)).1 | exact (c _ (s2 _ _ hm2)).2.1 | exact (c _ (s2 _ _ hm2)).2.2.1 | exact (c _ (s2 _ _ hm2)).2.2.2.1 | exact (c _ (s2 _ _ hm2)).2.2.2.2, ?_⟩
  refine st_one set_same (by simp) rfl ?_
  rw [set_set]
  refine ⟨fun z hz _ => by simp only [List.mem_cons, List.not_mem_nil, or_false] at hz; rcases hz with rfl | rfl | rfl | rfl | rfl <;> first | exact (c _ (s2 _ _ hm2)).1 | exact (c _ (s2 _ _ hm2)).2.1 | exact (c _ (s2 _ _ hm2)).2.2.1 | exact (c _ (s2 _ _ hm2)).2.2.2.1 | exact (c _ (s2 _ _ hm2)).2.2.2.2, ?_⟩
  refine st_one set_same (by simp) rfl ?_
  rw [set_set]
  refine ⟨fun z hz h => by simp at h, ?_⟩
  have e3 : (((((qt ⟨0, 0, 0⟩).toArray.setIfInBounds 0 (.int .i64 (q.b - b))).setIfInBounds 1 (.int .i64 (q.e - e))).setIfInBounds 2 (.int .i64 q.d)) : Array Value) = (qt ⟨q.b - b, q.e - e, q.d⟩).toArray := rfl
  rw [e3]
  obtain ⟨H3, hH3⟩ : ∃ H3, H3 = H2.set r1 (.cells (qt ⟨q.b - b, q.e - e, q.d⟩).toArray 23 (0, 0)) := ⟨_, rfl⟩
  have hm3 : Pl H3 r q b e := by rw [hH3]; exact s2 _ _ hm2
  rw [← hH3]
  refine door hm3 ?_
  intro H' hH'
  have hl' : H'.loadN ⟨r1, 0, none⟩ 0 3 = some (qt ⟨q.b - b, q.e - e, q.d⟩) := loadN_of (T := 23) (f := (0, 0)) (cs := qt ⟨q.b - b, q.e - e, q.d⟩) (by rw [hH', set_other hne, hH3, set_same]) rfl rfl
  rw [g_cn (by simp -implicitDefEqProofs (maxSteps := 1000000) (disch := first | omega | assumption) only [Dx, pq_normal, rq_normal, dk_func, settle_ret, ev_nilc, Sx, reduceIte, Nat.reduceEqDiff, reduceCtorEq, Nat.reduceAdd, Nat.reduceSub, Nat.reduceLT, decide_true, decide_false, Bool.not_true, Bool.not_false, Int.toNat_one, Int.toNat_zero, Nat.zero_mul, l_g, endK, gd_u]) hl']
  simp -implicitDefEqProofs (maxSteps := 1000000) (disch := first | omega | assumption) only [Dx, pq_normal, rq_normal, dk_func, settle_ret, ev_nilc, Sx, reduceIte, Nat.reduceEqDiff, reduceCtorEq, Nat.reduceAdd, Nat.reduceSub, Nat.reduceLT, decide_true, decide_false, Bool.not_true, Bool.not_false, Int.toNat_one, Int.toNat_zero, Nat.zero_mul, l_g, endK, gd_u]
  refine ⟨by (first | exact True.intro | rfl | assumption), fun k o hk => ?_⟩
  rw [hH']
  by_cases h1 : k = r
  · subst h1; rw [set_same, ← hk, hm]
  · rw [set_other h1, hH3]
    by_cases h2 : k = r1
    · subst h2; rw [hr1] at hk; cases hk
    · rw [set_other h2, hH2, set_other h1]; exact k1 k o hk

/-! ### Entries -/
structure En where
  n : List UInt8
  k : Int
  m0 : Int
  m1 : Int
  m2 : Int
  m3 : Int
  m4 : Int
  u : List UInt8
  g : List UInt8
  l : List UInt8
  s : Int
  y : Int
  deriving DecidableEq
def en (x : En) : List Value := [.string ⟨x.n.toArray⟩, .int .i64 x.k, .int .u32 x.m0, .int .u32 x.m1, .int .u32 x.m2, .int .i64 x.m3, .int .i32 x.m4, .string ⟨x.u.toArray⟩, .string ⟨x.g.toArray⟩, .string ⟨x.l.toArray⟩, .int .i64 x.s, .int .u8 x.y]
theorem en_len (x : En) : (en x).length = 12 := rfl
theorem en_scalar (x : En) : ∀ v ∈ en x, scalarV v = true := by intro v hv; simp [en] at hv; rcases hv with rfl | rfl | rfl | rfl | rfl | rfl | rfl | rfl | rfl | rfl | rfl | rfl <;> rfl
structure Wn (x : En) : Prop where
  n : x.n.length ≤ 109951162
  k : i64 x.k
  s : i64 x.s
def needV (x : En) : Int := if x.k = 2 then x.s else 0
def takeV (q : Qt) (b e : Int) (x : En) : Int × Int × Int :=
  if q.e ≤ e then (180, b, e) else if (splitN x.n).2 ≠ 0 then ((splitN x.n).2, b, e) else if q.d < (splitN x.n).1.length then (181, b, e)
  else if needV x < 0 then (1, b, e) else if q.b - b < needV x then (182, b, e) else (0, b + needV x, e + 1)
def backV (b e : Int) (x : En) : Int × Int × Int := if needV x < 0 ∨ b < needV x ∨ e = 0 then (1, b, e) else (0, b - needV x, e - 1)

theorem boxed {H : Heap} {x : En} {r1 : Nat} (hr1 : H r1 = none) : ∃ H1, H1 = H.set r1 (.cells (en x).toArray 38 (0, 0)) ∧ Keep H H1 ∧ H1 r1 = some (.cells (en x).toArray 38 (0, 0)) := ⟨_, rfl, (Keep.refl _).set_new hr1, set_same⟩
set_option maxHeartbeats 1000000 in
theorem need_spec {H : Heap} {x : En} : ACalls Tryd.prog 23 [Value.agg (en x).toArray].toArray H fun e' H' => e' = .returned (.tuple #[.int .i64 (if needV x < 0 then 0 else needV x), .int .i64 (if needV x < 0 then 1 else 0)]) ∧ Keep H H' := by
  refine call23 (Nat.le_of_ble_eq_true rfl) ?_
  unfold L23 env0
  simp -implicitDefEqProofs (maxSteps := 1000000) (disch := first | omega | assumption) only [Sx, reduceIte, Nat.reduceEqDiff, reduceCtorEq, Nat.reduceAdd, Nat.reduceSub, Nat.reduceLT, decide_true, decide_false, Bool.not_true, Bool.not_false, Int.toNat_one, Int.toNat_zero, Nat.zero_mul, l_g, endK, gd_u]
  refine a_box fun r1 hr1 => ?_
  obtain ⟨H1, hH1, hk1, hb1⟩ := boxed (x := x) hr1
  rw [show H.set r1 (.cells (Value.agg (en x).toArray).cells 38 (0, 0)) = H1 from hH1.symm]
  have c1 : H1.cell? ⟨r1, 1, none⟩ = some (.int .i64 x.k) := by rw [cell_of hb1]; rfl
  have c2 : H1.cell? ⟨r1, 10, none⟩ = some (.int .i64 x.s) := by rw [cell_of hb1]; rfl
  unfold needV
  by_cases h2 : x.k = 2
  · have f0 : (x.k != 2) = false := by rw [bne_eq_false_iff_eq]; exact h2
    rw [if_pos h2]
    by_cases h3 : x.s < 0
    · have f1 : decide (x.s < 0) = true := decide_eq_true h3
      simp -implicitDefEqProofs (maxSteps := 1000000) (disch := first | omega | assumption) only [f0, f1, c1, c2, Sx, reduceIte, Nat.reduceEqDiff, reduceCtorEq, Nat.reduceAdd, Nat.reduceSub, Nat.reduceLT, decide_true, decide_false, Bool.not_true, Bool.not_false, Int.toNat_one, Int.toNat_zero, Nat.zero_mul, l_g, endK, gd_u]
      exact ⟨by simp [h3], hk1⟩
    · have f1 : decide (x.s < 0) = false := decide_eq_false h3
      simp -implicitDefEqProofs (maxSteps := 1000000) (disch := first | omega | assumption) only [f0, f1, c1, c2, Sx, reduceIte, Nat.reduceEqDiff, reduceCtorEq, Nat.reduceAdd, Nat.reduceSub, Nat.reduceLT, decide_true, decide_false, Bool.not_true, Bool.not_false, Int.toNat_one, Int.toNat_zero, Nat.zero_mul, l_g, endK, gd_u]
      exact ⟨by simp [h3], hk1⟩
  · have f0 : (x.k != 2) = true := by rw [bne_iff_ne]; exact h2
    rw [if_neg h2]
    simp -implicitDefEqProofs (maxSteps := 1000000) (disch := first | omega | assumption) only [f0, c1, Sx, reduceIte, Nat.reduceEqDiff, reduceCtorEq, Nat.reduceAdd, Nat.reduceSub, Nat.reduceLT, decide_true, decide_false, Bool.not_true, Bool.not_false, Int.toNat_one, Int.toNat_zero, Nat.zero_mul, l_g, endK, gd_u]
    exact ⟨by simp, hk1⟩

structure Okm (q : Qt) (b e : Int) : Prop where
  can : can q
  w : Wq q
  b : 0 ≤ b ∧ b ≤ q.b
  e : 0 ≤ e ∧ e ≤ q.e
theorem Okm.take {q : Qt} {b e : Int} (h : Okm q b e) (x : En) : Okm q (takeV q b e x).2.1 (takeV q b e x).2.2 := by
  obtain ⟨h1, h2, h3, h4⟩ := h
  unfold takeV
  split
  · exact ⟨h1, h2, h3, h4⟩
  · split
    · exact ⟨h1, h2, h3, h4⟩
    · split
      · exact ⟨h1, h2, h3, h4⟩
      · split
        · exact ⟨h1, h2, h3, h4⟩
        · split
          · exact ⟨h1, h2, h3, h4⟩
          · exact ⟨h1, h2, by simp only; omega, by simp only; omega⟩
theorem Okm.back {q : Qt} {b e : Int} (h : Okm q b e) (x : En) : Okm q (backV b e x).2.1 (backV b e x).2.2 := by
  obtain ⟨h1, h2, h3, h4⟩ := h
  unfold backV
  split
  · exact ⟨h1, h2, h3, h4⟩
  · exact ⟨h1, h2, by simp only; omega, by simp only; omega⟩

set_option maxHeartbeats 4000000 in
theorem take_spec {H : Heap} {r : Nat} {q : Qt} {b e : Int} {x : En} (hm : Pm H r q b e) (ok : Okm q b e) (wx : Wn x) :
    ACalls Tryd.prog 10 [Value.pointer (some ⟨r, 0, none⟩), .agg (en x).toArray].toArray H fun e' H' => e' = .returned (.int .i64 (takeV q b e x).1) ∧ Pm H' r q (takeV q b e x).2.1 (takeV q b e x).2.2 ∧ At1 r H H' := by
  obtain ⟨hcan, ⟨w1, w2, w3⟩, hb, he⟩ := ok
  obtain ⟨wn, wk, ws⟩ := wx
  unfold i64 at w1 w2 w3 wk ws
  refine call10 (Nat.le_of_ble_eq_true rfl) ?_
  unfold L10 env0
  simp -implicitDefEqProofs (maxSteps := 1000000) (disch := first | omega | assumption) only [Dx, pq_normal, rq_normal, dk_func, settle_ret, ev_nilc, Sx, reduceIte, Nat.reduceEqDiff, reduceCtorEq, Nat.reduceAdd, Nat.reduceSub, Nat.reduceLT, decide_true, decide_false, Bool.not_true, Bool.not_false, Int.toNat_one, Int.toNat_zero, Nat.zero_mul, l_g, endK, gd_u]
  refine a_box fun r1 hr1 => ?_
  obtain ⟨H1, hH1, k1, hb1⟩ := boxed (x := x) hr1
  have hne : r1 ≠ r := by rintro rfl; exact absurd (hr1.symm.trans hm) (by simp)
  rw [show H.set r1 (.cells (Value.agg (en x).toArray).cells 38 (0, 0)) = H1 from hH1.symm]
  try simp -implicitDefEqProofs (maxSteps := 1000000) (disch := first | omega | assumption) only [Dx, pq_normal, rq_normal, dk_func, settle_ret, ev_nilc, Sx, reduceIte, Nat.reduceEqDiff, reduceCtorEq, Nat.reduceAdd, Nat.reduceSub, Nat.reduceLT, decide_true, decide_false, Bool.not_true, Bool.not_false, Int.toNat_one, Int.toNat_zero, Nat.zero_mul, l_g, endK, gd_u]
  refine a_call (lock_spec (k1 _ _ hm)) ?_
  rintro e' H2 ⟨rfl, hH2⟩
  have hm2 : Pl H2 r q b e := by rw [hH2]; exact set_same
  have a2 : At1 r H H2 := by rw [hH2]; exact at_trans (at_keep k1) at_set
  have hb2 : H2 r1 = some (.cells (en x).toArray 38 (0, 0)) := by rw [hH2, set_other hne]; exact hb1
  have c : ∀ H' : Heap, Pl H' r q b e → H'.cell? ⟨r, 2, none⟩ = some (.int .i64 q.b) ∧ H'.cell? ⟨r, 2 + 1, none⟩ = some (.int .i64 q.e) ∧ H'.cell? ⟨r, 2 + 2, none⟩ = some (.int .i64 q.d) ∧ H'.cell? ⟨r, 5, none⟩ = some (.int .i64 b) ∧ H'.cell? ⟨r, 5 + 1, none⟩ = some (.int .i64 e) := fun H' h => ⟨by rw [cell_of h]; rfl, by rw [cell_of h]; rfl, by rw [cell_of h]; rfl, by rw [cell_of h]; rfl, by rw [cell_of h]; rfl⟩
  obtain ⟨c1, c2, c3, c4, c5⟩ := c H2 hm2
  have cn : H2.cell? ⟨r1, 0, none⟩ = some (.string ⟨x.n.toArray⟩) := by rw [cell_of hb2]; rfl
  -- how it ends
  have fin : ∀ (env : Env) (H3 : Heap) (z b' e' : Int), env 4 = .int .i64 z → Pl H3 r q b' e' → At1 r H H3 → takeV q b e x = (z, b', e') → ALeaves Tryd.prog [.t 4] env (fun e' H' => e' = .returned (.int .i64 (takeV q b e x).1) ∧ Pm H' r q (takeV q b e x).2.1 (takeV q b e x).2.2 ∧ At1 r H H') [⟨.fn (.func 21) #[], [Value.pointer (some ⟨r, 0, none⟩)].toArray⟩] .returning H3 := by
    intro env H3 z b' e' g4 hm3 a3 ht
    refine door hm3 ?_
    rintro H' rfl
    rw [ht]
    simp -implicitDefEqProofs (maxSteps := 1000000) (disch := first | omega | assumption) only [g4, Dx, pq_normal, rq_normal, dk_func, settle_ret, ev_nilc, Sx, reduceIte, Nat.reduceEqDiff, reduceCtorEq, Nat.reduceAdd, Nat.reduceSub, Nat.reduceLT, decide_true, decide_false, Bool.not_true, Bool.not_false, Int.toNat_one, Int.toNat_zero, Nat.zero_mul, l_g, endK, gd_u]
    exact ⟨by (first | exact True.intro | rfl | assumption), set_same, at_trans a3 at_set⟩
  unfold takeV at fin ⊢
  by_cases h1 : q.e ≤ e
  · have f1 : (e == q.e) = true := by rw [beq_iff_eq]; omega
    simp -implicitDefEqProofs (maxSteps := 1000000) (disch := first | omega | assumption) only [c2, c5, f1, Dx, pq_normal, rq_normal, dk_func, settle_ret, ev_nilc, Sx, reduceIte, Nat.reduceEqDiff, reduceCtorEq, Nat.reduceAdd, Nat.reduceSub, Nat.reduceLT, decide_true, decide_false, Bool.not_true, Bool.not_false, Int.toNat_one, Int.toNat_zero, Nat.zero_mul, l_g, endK, gd_u]
    exact fin _ _ 180 b e (by simp -implicitDefEqProofs (maxSteps := 1000000) (disch := first | omega | assumption) only [Dx, pq_normal, rq_normal, dk_func, settle_ret, ev_nilc, Sx, reduceIte, Nat.reduceEqDiff, reduceCtorEq, Nat.reduceAdd, Nat.reduceSub, Nat.reduceLT, decide_true, decide_false, Bool.not_true, Bool.not_false, Int.toNat_one, Int.toNat_zero, Nat.zero_mul, l_g, endK, gd_u]) hm2 a2 (by rw [if_pos h1])
  have f1 : (e == q.e) = false := by rw [beq_eq_false_iff_ne]; omega
  rw [if_neg h1] at fin ⊢
  simp -implicitDefEqProofs (maxSteps := 1000000) (disch := first | omega | assumption) only [c2, c5, f1, cn, Dx, pq_normal, rq_normal, dk_func, settle_ret, ev_nilc, Sx, reduceIte, Nat.reduceEqDiff, reduceCtorEq, Nat.reduceAdd, Nat.reduceSub, Nat.reduceLT, decide_true, decide_false, Bool.not_true, Bool.not_false, Int.toNat_one, Int.toNat_zero, Nat.zero_mul, l_g, endK, gd_u]
  refine a_call (psplit_spec wn) ?_
  rintro e' H3 ⟨vs, rfl, hOs, hk3, hFs⟩
  have hss := hOs.scalar
  obtain ⟨sa, sc, rfl, hsc, -⟩ := hOs.len
  have hm3 : Pl H3 r q b e := hk3 _ _ hm2
  have a3 := at_trans a2 (at_keep hk3)
  obtain ⟨c1, c2, c3, c4, c5⟩ := c H3 hm3
  have hb3 := hk3 _ _ hb2
  obtain ⟨SP, hSP⟩ : ∃ SP, SP = splitN x.n := ⟨_, rfl⟩
  rw [← hSP] at fin ⊢
  by_cases h2 : SP.2 ≠ 0
  · have f2 : (SP.2 != 0) = true := by rw [bne_iff_ne]; exact h2
    rw [if_pos h2] at fin ⊢
    simp -implicitDefEqProofs (maxSteps := 1000000) (disch := first | omega | assumption) only [f2, Dx, pq_normal, rq_normal, dk_func, settle_ret, ev_nilc, Sx, reduceIte, Nat.reduceEqDiff, reduceCtorEq, Nat.reduceAdd, Nat.reduceSub, Nat.reduceLT, decide_true, decide_false, Bool.not_true, Bool.not_false, Int.toNat_one, Int.toNat_zero, Nat.zero_mul, l_g, endK, gd_u]
    exact fin _ _ SP.2 b e (by simp -implicitDefEqProofs (maxSteps := 1000000) (disch := first | omega | assumption) only [Dx, pq_normal, rq_normal, dk_func, settle_ret, ev_nilc, Sx, reduceIte, Nat.reduceEqDiff, reduceCtorEq, Nat.reduceAdd, Nat.reduceSub, Nat.reduceLT, decide_true, decide_false, Bool.not_true, Bool.not_false, Int.toNat_one, Int.toNat_zero, Nat.zero_mul, l_g, endK, gd_u]) hm3 a3 rfl
  have f2 : (SP.2 != 0) = false := by rw [bne_eq_false_iff_eq]; omega
  rw [if_neg h2] at fin ⊢
  by_cases h3 : q.d < SP.1.length
  · have f3 : decide (q.d < (SP.1.length : Int)) = true := decide_eq_true h3
    rw [if_pos h3] at fin ⊢
    simp -implicitDefEqProofs (maxSteps := 1000000) (disch := first | omega | assumption) only [f2, f3, c3, Dx, pq_normal, rq_normal, dk_func, settle_ret, ev_nilc, Sx, reduceIte, Nat.reduceEqDiff, reduceCtorEq, Nat.reduceAdd, Nat.reduceSub, Nat.reduceLT, decide_true, decide_false, Bool.not_true, Bool.not_false, Int.toNat_one, Int.toNat_zero, Nat.zero_mul, l_g, endK, gd_u]
    exact fin _ _ 181 b e (by simp -implicitDefEqProofs (maxSteps := 1000000) (disch := first | omega | assumption) only [Dx, pq_normal, rq_normal, dk_func, settle_ret, ev_nilc, Sx, reduceIte, Nat.reduceEqDiff, reduceCtorEq, Nat.reduceAdd, Nat.reduceSub, Nat.reduceLT, decide_true, decide_false, Bool.not_true, Bool.not_false, Int.toNat_one, Int.toNat_zero, Nat.zero_mul, l_g, endK, gd_u]) hm3 a3 rfl
  have f3 : decide (q.d < (SP.1.length : Int)) = false := decide_eq_false h3
  rw [if_neg h3] at fin ⊢
  have hld := loadN_of (o := 0) (n := 12) (l := en x) hb3 rfl rfl
  simp -implicitDefEqProofs (maxSteps := 1000000) (disch := first | omega | assumption) only [f2, f3, c3, ev_ldn, hld, Dx, pq_normal, rq_normal, dk_func, settle_ret, ev_nilc, Sx, reduceIte, Nat.reduceEqDiff, reduceCtorEq, Nat.reduceAdd, Nat.reduceSub, Nat.reduceLT, decide_true, decide_false, Bool.not_true, Bool.not_false, Int.toNat_one, Int.toNat_zero, Nat.zero_mul, l_g, endK, gd_u]
  refine a_call need_spec ?_
  rintro e' H4 ⟨rfl, hk4⟩
  have hm4 : Pl H4 r q b e := hk4 _ _ hm3
  have a4 := at_trans a3 (at_keep hk4)
  obtain ⟨c1, c2, c3, c4, c5⟩ := c H4 hm4
  by_cases h4 : needV x < 0
  · have f4 : ((1 : Int) != 0) = true := rfl
    rw [if_pos h4] at fin ⊢
    rw [if_pos h4]
    simp -implicitDefEqProofs (maxSteps := 1000000) (disch := first | omega | assumption) only [h4, f4, Dx, pq_normal, rq_normal, dk_func, settle_ret, ev_nilc, Sx, reduceIte, Nat.reduceEqDiff, reduceCtorEq, Nat.reduceAdd, Nat.reduceSub, Nat.reduceLT, decide_true, decide_false, Bool.not_true, Bool.not_false, Int.toNat_one, Int.toNat_zero, Nat.zero_mul, l_g, endK, gd_u]
    exact fin _ _ 1 b e (by simp -implicitDefEqProofs (maxSteps := 1000000) (disch := first | omega | assumption) only [Dx, pq_normal, rq_normal, dk_func, settle_ret, ev_nilc, Sx, reduceIte, Nat.reduceEqDiff, reduceCtorEq, Nat.reduceAdd, Nat.reduceSub, Nat.reduceLT, decide_true, decide_false, Bool.not_true, Bool.not_false, Int.toNat_one, Int.toNat_zero, Nat.zero_mul, l_g, endK, gd_u]) hm4 a4 rfl
  have f4 : ((0 : Int) != 0) = false := rfl
  simp only [if_neg h4] at fin ⊢
  by_cases h5 : q.b - b < needV x
  · have f5 : decide (q.b - b < needV x) = true := decide_eq_true h5
    rw [if_pos h5] at fin ⊢
    simp -implicitDefEqProofs (maxSteps := 1000000) (disch := first | omega | assumption) only [f4, f5, c1, c4, Dx, pq_normal, rq_normal, dk_func, settle_ret, ev_nilc, Sx, reduceIte, Nat.reduceEqDiff, reduceCtorEq, Nat.reduceAdd, Nat.reduceSub, Nat.reduceLT, decide_true, decide_false, Bool.not_true, Bool.not_false, Int.toNat_one, Int.toNat_zero, Nat.zero_mul, l_g, endK, gd_u]
    exact fin _ _ 182 b e (by simp -implicitDefEqProofs (maxSteps := 1000000) (disch := first | omega | assumption) only [Dx, pq_normal, rq_normal, dk_func, settle_ret, ev_nilc, Sx, reduceIte, Nat.reduceEqDiff, reduceCtorEq, Nat.reduceAdd, Nat.reduceSub, Nat.reduceLT, decide_true, decide_false, Bool.not_true, Bool.not_false, Int.toNat_one, Int.toNat_zero, Nat.zero_mul, l_g, endK, gd_u]) hm4 a4 rfl
  have f5 : decide (q.b - b < needV x) = false := decide_eq_false h5
  rw [if_neg h5] at fin ⊢
  simp -implicitDefEqProofs (maxSteps := 1000000) (disch := first | omega | assumption) only [f4, f5, c1, c4, c5, Dx, pq_normal, rq_normal, dk_func, settle_ret, ev_nilc, Sx, reduceIte, Nat.reduceEqDiff, reduceCtorEq, Nat.reduceAdd, Nat.reduceSub, Nat.reduceLT, decide_true, decide_false, Bool.not_true, Bool.not_false, Int.toNat_one, Int.toNat_zero, Nat.zero_mul, l_g, endK, gd_u]
  refine st_one (o := 6) hm4 (by simp) rfl ?_
  have c6 : (H4.set r (.cells ((pl q b e).toArray.setIfInBounds 6 (.int .i64 (e + 1))) 64 (0, 0))).cell? ⟨r, 5, none⟩ = some (.int .i64 b) := by rw [cell_of set_same]; rfl
  try simp -implicitDefEqProofs (maxSteps := 1000000) (disch := first | omega | assumption) only [c6, Dx, pq_normal, rq_normal, dk_func, settle_ret, ev_nilc, Sx, reduceIte, Nat.reduceEqDiff, reduceCtorEq, Nat.reduceAdd, Nat.reduceSub, Nat.reduceLT, decide_true, decide_false, Bool.not_true, Bool.not_false, Int.toNat_one, Int.toNat_zero, Nat.zero_mul, l_g, endK, gd_u]
  refine st_one (o := 5) set_same (by simp) rfl ?_
  rw [set_set]
  try simp -implicitDefEqProofs (maxSteps := 1000000) (disch := first | omega | assumption) only [Dx, pq_normal, rq_normal, dk_func, settle_ret, ev_nilc, Sx, reduceIte, Nat.reduceEqDiff, reduceCtorEq, Nat.reduceAdd, Nat.reduceSub, Nat.reduceLT, decide_true, decide_false, Bool.not_true, Bool.not_false, Int.toNat_one, Int.toNat_zero, Nat.zero_mul, l_g, endK, gd_u]
  exact fin _ _ 0 (b + needV x) (e + 1) (by simp -implicitDefEqProofs (maxSteps := 1000000) (disch := first | omega | assumption) only [Dx, pq_normal, rq_normal, dk_func, settle_ret, ev_nilc, Sx, reduceIte, Nat.reduceEqDiff, reduceCtorEq, Nat.reduceAdd, Nat.reduceSub, Nat.reduceLT, decide_true, decide_false, Bool.not_true, Bool.not_false, Int.toNat_one, Int.toNat_zero, Nat.zero_mul, l_g, endK, gd_u]) (by show (H4.set r _) r = _; rw [set_same]; try rfl) (at_trans a4 at_set) rfl

set_option maxHeartbeats 4000000 in
theorem back_spec {H : Heap} {r : Nat} {q : Qt} {b e : Int} {x : En} (hm : Pm H r q b e) (ok : Okm q b e) (wx : Wn x) :
    ACalls Tryd.prog 15 [Value.pointer (some ⟨r, 0, none⟩), .agg (en x).toArray].toArray H fun e' H' => e' = .returned (.int .i64 (backV b e x).1) ∧ Pm H' r q (backV b e x).2.1 (backV b e x).2.2 ∧ At1 r H H' := by
  obtain ⟨hcan, ⟨w1, w2, w3⟩, hb, he⟩ := ok
  obtain ⟨wn, wk, ws⟩ := wx
  unfold i64 at w1 w2 w3 wk ws
  refine call15 (Nat.le_of_ble_eq_true rfl) ?_
  unfold L15 env0
  simp -implicitDefEqProofs (maxSteps := 1000000) (disch := first | omega | assumption) only [Dx, pq_normal, rq_normal, dk_func, settle_ret, ev_nilc, Sx, reduceIte, Nat.reduceEqDiff, reduceCtorEq, Nat.reduceAdd, Nat.reduceSub, Nat.reduceLT, decide_true, decide_false, Bool.not_true, Bool.not_false, Int.toNat_one, Int.toNat_zero, Nat.zero_mul, l_g, endK, gd_u]
  refine a_box fun r1 hr1 => ?_
  obtain ⟨H1, hH1, k1, hb1⟩ := boxed (x := x) hr1
  have hne : r1 ≠ r := by rintro rfl; exact absurd (hr1.symm.trans hm) (by simp)
  rw [show H.set r1 (.cells (Value.agg (en x).toArray).cells 38 (0, 0)) = H1 from hH1.symm]
  try simp -implicitDefEqProofs (maxSteps := 1000000) (disch := first | omega | assumption) only [Dx, pq_normal, rq_normal, dk_func, settle_ret, ev_nilc, Sx, reduceIte, Nat.reduceEqDiff, reduceCtorEq, Nat.reduceAdd, Nat.reduceSub, Nat.reduceLT, decide_true, decide_false, Bool.not_true, Bool.not_false, Int.toNat_one, Int.toNat_zero, Nat.zero_mul, l_g, endK, gd_u]
  refine a_call (lock_spec (k1 _ _ hm)) ?_
  rintro e' H2 ⟨rfl, hH2⟩
  have hm2 : Pl H2 r q b e := by rw [hH2]; exact set_same
  have a2 : At1 r H H2 := by rw [hH2]; exact at_trans (at_keep k1) at_set
  have hb2 : H2 r1 = some (.cells (en x).toArray 38 (0, 0)) := by rw [hH2, set_other hne]; exact hb1
  have c : ∀ H' : Heap, Pl H' r q b e → H'.cell? ⟨r, 5, none⟩ = some (.int .i64 b) ∧ H'.cell? ⟨r, 5 + 1, none⟩ = some (.int .i64 e) := fun H' h => ⟨by rw [cell_of h]; rfl, by rw [cell_of h]; rfl⟩
  have fin : ∀ (env : Env) (H3 : Heap) (z b' e' : Int), env 4 = .int .i64 z → Pl H3 r q b' e' → At1 r H H3 → backV b e x = (z, b', e') → ALeaves Tryd.prog [.t 4] env (fun e' H' => e' = .returned (.int .i64 (backV b e x).1) ∧ Pm H' r q (backV b e x).2.1 (backV b e x).2.2 ∧ At1 r H H') [⟨.fn (.func 21) #[], [Value.pointer (some ⟨r, 0, none⟩)].toArray⟩] .returning H3 := by
    intro env H3 z b' e' g4 hm3 a3 ht
    refine door hm3 ?_
    rintro H' rfl
    rw [ht]
    simp -implicitDefEqProofs (maxSteps := 1000000) (disch := first | omega | assumption) only [g4, Dx, pq_normal, rq_normal, dk_func, settle_ret, ev_nilc, Sx, reduceIte, Nat.reduceEqDiff, reduceCtorEq, Nat.reduceAdd, Nat.reduceSub, Nat.reduceLT, decide_true, decide_false, Bool.not_true, Bool.not_false, Int.toNat_one, Int.toNat_zero, Nat.zero_mul, l_g, endK, gd_u]
    exact ⟨by (first | exact True.intro | rfl | assumption), set_same, at_trans a3 at_set⟩
  have hld := loadN_of (o := 0) (n := 12) (l := en x) hb2 rfl rfl
  simp -implicitDefEqProofs (maxSteps := 1000000) (disch := first | omega | assumption) only [ev_ldn, hld, Dx, pq_normal, rq_normal, dk_func, settle_ret, ev_nilc, Sx, reduceIte, Nat.reduceEqDiff, reduceCtorEq, Nat.reduceAdd, Nat.reduceSub, Nat.reduceLT, decide_true, decide_false, Bool.not_true, Bool.not_false, Int.toNat_one, Int.toNat_zero, Nat.zero_mul, l_g, endK, gd_u]
  refine a_call need_spec ?_
  rintro e' H4 ⟨rfl, hk4⟩
  have hm4 : Pl H4 r q b e := hk4 _ _ hm2
  have a4 := at_trans a2 (at_keep hk4)
  obtain ⟨c4, c5⟩ := c H4 hm4
  unfold backV at fin ⊢
  by_cases h4 : needV x < 0
  · have f4 : ((1 : Int) != 0) = true := rfl
    simp only [if_pos h4, if_pos (Or.inl h4 : needV x < 0 ∨ b < needV x ∨ e = 0)] at fin ⊢
    simp -implicitDefEqProofs (maxSteps := 1000000) (disch := first | omega | assumption) only [f4, Dx, pq_normal, rq_normal, dk_func, settle_ret, ev_nilc, Sx, reduceIte, Nat.reduceEqDiff, reduceCtorEq, Nat.reduceAdd, Nat.reduceSub, Nat.reduceLT, decide_true, decide_false, Bool.not_true, Bool.not_false, Int.toNat_one, Int.toNat_zero, Nat.zero_mul, l_g, endK, gd_u]
    exact fin _ _ 1 b e (by simp -implicitDefEqProofs (maxSteps := 1000000) (disch := first | omega | assumption) only [Dx, pq_normal, rq_normal, dk_func, settle_ret, ev_nilc, Sx, reduceIte, Nat.reduceEqDiff, reduceCtorEq, Nat.reduceAdd, Nat.reduceSub, Nat.reduceLT, decide_true, decide_false, Bool.not_true, Bool.not_false, Int.toNat_one, Int.toNat_zero, Nat.zero_mul, l_g, endK, gd_u]) hm4 a4 rfl
  have f4 : ((0 : Int) != 0) = false := rfl
  simp only [if_neg h4] at fin ⊢
  by_cases h5 : b < needV x
  · have f5 : decide (b < needV x) = true := decide_eq_true h5
    simp only [if_pos (Or.inr (Or.inl h5) : needV x < 0 ∨ b < needV x ∨ e = 0)] at fin ⊢
    simp -implicitDefEqProofs (maxSteps := 1000000) (disch := first | omega | assumption) only [f4, f5, c4, Dx, pq_normal, rq_normal, dk_func, settle_ret, ev_nilc, Sx, reduceIte, Nat.reduceEqDiff, reduceCtorEq, Nat.reduceAdd, Nat.reduceSub, Nat.reduceLT, decide_true, decide_false, Bool.not_true, Bool.not_false, Int.toNat_one, Int.toNat_zero, Nat.zero_mul, l_g, endK, gd_u]
    exact fin _ _ 1 b e (by simp -implicitDefEqProofs (maxSteps := 1000000) (disch := first | omega | assumption) only [Dx, pq_normal, rq_normal, dk_func, settle_ret, ev_nilc, Sx, reduceIte, Nat.reduceEqDiff, reduceCtorEq, Nat.reduceAdd, Nat.reduceSub, Nat.reduceLT, decide_true, decide_false, Bool.not_true, Bool.not_false, Int.toNat_one, Int.toNat_zero, Nat.zero_mul, l_g, endK, gd_u]) hm4 a4 rfl
  have f5 : decide (b < needV x) = false := decide_eq_false h5
  by_cases h6 : e = 0
  · have f6 : (e == 0) = true := by rw [beq_iff_eq]; exact h6
    simp only [if_pos (Or.inr (Or.inr h6) : needV x < 0 ∨ b < needV x ∨ e = 0)] at fin ⊢
    simp -implicitDefEqProofs (maxSteps := 1000000) (disch := first | omega | assumption) only [f4, f5, f6, c4, c5, Dx, pq_normal, rq_normal, dk_func, settle_ret, ev_nilc, Sx, reduceIte, Nat.reduceEqDiff, reduceCtorEq, Nat.reduceAdd, Nat.reduceSub, Nat.reduceLT, decide_true, decide_false, Bool.not_true, Bool.not_false, Int.toNat_one, Int.toNat_zero, Nat.zero_mul, l_g, endK, gd_u]
    exact fin _ _ 1 b e (by simp -implicitDefEqProofs (maxSteps := 1000000) (disch := first | omega | assumption) only [Dx, pq_normal, rq_normal, dk_func, settle_ret, ev_nilc, Sx, reduceIte, Nat.reduceEqDiff, reduceCtorEq, Nat.reduceAdd, Nat.reduceSub, Nat.reduceLT, decide_true, decide_false, Bool.not_true, Bool.not_false, Int.toNat_one, Int.toNat_zero, Nat.zero_mul, l_g, endK, gd_u]) hm4 a4 rfl
  have f6 : (e == 0) = false := by rw [beq_eq_false_iff_ne]; exact h6
  simp only [if_neg (show ¬ (needV x < 0 ∨ b < needV x ∨ e = 0) by omega)] at fin ⊢
  simp -implicitDefEqProofs (maxSteps := 1000000) (disch := first | omega | assumption) only [f4, f5, f6, c4, c5, Dx, pq_normal, rq_normal, dk_func, settle_ret, ev_nilc, Sx, reduceIte, Nat.reduceEqDiff, reduceCtorEq, Nat.reduceAdd, Nat.reduceSub, Nat.reduceLT, decide_true, decide_false, Bool.not_true, Bool.not_false, Int.toNat_one, Int.toNat_zero, Nat.zero_mul, l_g, endK, gd_u]
  refine st_one (o := 6) (v := .int .i64 (e - 1)) hm4 (by simp) rfl ?_
  have c6 : (H4.set r (.cells ((pl q b e).toArray.setIfInBounds 6 (.int .i64 (e - 1))) 64 (0, 0))).cell? ⟨r, 5, none⟩ = some (.int .i64 b) := by rw [cell_of set_same]; rfl
  try simp -implicitDefEqProofs (maxSteps := 1000000) (disch := first | omega | assumption) only [c6, Dx, pq_normal, rq_normal, dk_func, settle_ret, ev_nilc, Sx, reduceIte, Nat.reduceEqDiff, reduceCtorEq, Nat.reduceAdd, Nat.reduceSub, Nat.reduceLT, decide_true, decide_false, Bool.not_true, Bool.not_false, Int.toNat_one, Int.toNat_zero, Nat.zero_mul, l_g, endK, gd_u]
  refine st_one (o := 5) (v := .int .i64 (b - needV x)) set_same (by simp) rfl ?_
  rw [set_set]
  try simp -implicitDefEqProofs (maxSteps := 1000000) (disch := first | omega | assumption) only [Dx, pq_normal, rq_normal, dk_func, settle_ret, ev_nilc, Sx, reduceIte, Nat.reduceEqDiff, reduceCtorEq, Nat.reduceAdd, Nat.reduceSub, Nat.reduceLT, decide_true, decide_false, Bool.not_true, Bool.not_false, Int.toNat_one, Int.toNat_zero, Nat.zero_mul, l_g, endK, gd_u]
  exact fin _ _ 0 (b - needV x) (e - 1) (by simp -implicitDefEqProofs (maxSteps := 1000000) (disch := first | omega | assumption) only [Dx, pq_normal, rq_normal, dk_func, settle_ret, ev_nilc, Sx, reduceIte, Nat.reduceEqDiff, reduceCtorEq, Nat.reduceAdd, Nat.reduceSub, Nat.reduceLT, decide_true, decide_false, Bool.not_true, Bool.not_false, Int.toNat_one, Int.toNat_zero, Nat.zero_mul, l_g, endK, gd_u]) (by show (H4.set r _) r = _; rw [set_same]; try rfl) (at_trans a4 at_set) rfl

/-! ### New of both, fits -/
theorem fits_cells {H : Heap} {r1 : Nat} {q : Qt} (hb : H r1 = some (.cells (qt q).toArray 23 (0, 0))) : H.cell? ⟨r1, 0, none⟩ = some (.int .i64 q.b) ∧ H.cell? ⟨r1, 1, none⟩ = some (.int .i64 q.e) ∧ H.cell? ⟨r1, 2, none⟩ = some (.int .i64 q.d) := ⟨by rw [cell_of hb]; rfl, by rw [cell_of hb]; rfl, by rw [cell_of hb]; rfl⟩
theorem qbox {H : Heap} {q : Qt} {r1 : Nat} (hr1 : H r1 = none) : ∃ H1, H1 = H.set r1 (.cells (qt q).toArray 23 (0, 0)) ∧ Keep H H1 ∧ H1 r1 = some (.cells (qt q).toArray 23 (0, 0)) := ⟨_, rfl, (Keep.refl _).set_new hr1, set_same⟩
set_option maxHeartbeats 1000000 in
theorem fits_spec {H : Heap} {q : Qt} : ACalls Tryd.prog 19 [Value.agg (qt q).toArray].toArray H fun e' H' => e' = .returned (.bool (decide (can q))) ∧ Keep H H' := by
  refine call19 (Nat.le_of_ble_eq_true rfl) ?_
  unfold L19 env0
  simp -implicitDefEqProofs (maxSteps := 1000000) (disch := first | omega | assumption) only [Sx, reduceIte, Nat.reduceEqDiff, reduceCtorEq, Nat.reduceAdd, Nat.reduceSub, Nat.reduceLT, decide_true, decide_false, Bool.not_true, Bool.not_false, Int.toNat_one, Int.toNat_zero, Nat.zero_mul, l_g, endK, gd_u]
  refine a_box fun r1 hr1 => ?_
  obtain ⟨H1, hH1, hk1, hb1⟩ := qbox (q := q) hr1
  rw [show H.set r1 (.cells (Value.agg (qt q).toArray).cells 23 (0, 0)) = H1 from hH1.symm]
  obtain ⟨c1, c2, c3⟩ := fits_cells hb1
  unfold can
  by_cases h1 : 0 ≤ q.b
  · have f1 : decide (0 ≤ q.b) = true := decide_eq_true h1
    by_cases h2 : 0 ≤ q.e
    · have f2 : decide (0 ≤ q.e) = true := decide_eq_true h2
      by_cases h3 : 0 ≤ q.d
      · have f3 : decide (0 ≤ q.d) = true := decide_eq_true h3
        simp -implicitDefEqProofs (maxSteps := 1000000) (disch := first | omega | assumption) only [c1, c2, c3, f1, f2, f3, Sx, reduceIte, Nat.reduceEqDiff, reduceCtorEq, Nat.reduceAdd, Nat.reduceSub, Nat.reduceLT, decide_true, decide_false, Bool.not_true, Bool.not_false, Int.toNat_one, Int.toNat_zero, Nat.zero_mul, l_g, endK, gd_u]
        exact ⟨by simp [h1, h2, h3], hk1⟩
      · have f3 : decide (0 ≤ q.d) = false := decide_eq_false h3
        simp -implicitDefEqProofs (maxSteps := 1000000) (disch := first | omega | assumption) only [c1, c2, c3, f1, f2, f3, Sx, reduceIte, Nat.reduceEqDiff, reduceCtorEq, Nat.reduceAdd, Nat.reduceSub, Nat.reduceLT, decide_true, decide_false, Bool.not_true, Bool.not_false, Int.toNat_one, Int.toNat_zero, Nat.zero_mul, l_g, endK, gd_u]
        exact ⟨by simp [h1, h2, h3], hk1⟩
    · have f2 : decide (0 ≤ q.e) = false := decide_eq_false h2
      simp -implicitDefEqProofs (maxSteps := 1000000) (disch := first | omega | assumption) only [c1, c2, c3, f1, f2, Sx, reduceIte, Nat.reduceEqDiff, reduceCtorEq, Nat.reduceAdd, Nat.reduceSub, Nat.reduceLT, decide_true, decide_false, Bool.not_true, Bool.not_false, Int.toNat_one, Int.toNat_zero, Nat.zero_mul, l_g, endK, gd_u]
      exact ⟨by simp [h1, h2], hk1⟩
  · have f1 : decide (0 ≤ q.b) = false := decide_eq_false h1
    simp -implicitDefEqProofs (maxSteps := 1000000) (disch := first | omega | assumption) only [c1, c2, c3, f1, Sx, reduceIte, Nat.reduceEqDiff, reduceCtorEq, Nat.reduceAdd, Nat.reduceSub, Nat.reduceLT, decide_true, decide_false, Bool.not_true, Bool.not_false, Int.toNat_one, Int.toNat_zero, Nat.zero_mul, l_g, endK, gd_u]
    exact ⟨by simp [h1], hk1⟩
theorem can_spec {H : Heap} {q : Qt} : ACalls Tryd.prog 9 [Value.agg (qt q).toArray].toArray H fun e' H' => e' = .returned (.bool (decide (can q))) ∧ Keep H H' := by
  refine call9 (Nat.le_of_ble_eq_true rfl) ?_
  unfold L9 env0
  simp -implicitDefEqProofs (maxSteps := 1000000) (disch := first | omega | assumption) only [Sx, reduceIte, Nat.reduceEqDiff, reduceCtorEq, Nat.reduceAdd, Nat.reduceSub, Nat.reduceLT, decide_true, decide_false, Bool.not_true, Bool.not_false, Int.toNat_one, Int.toNat_zero, Nat.zero_mul, l_g, endK, gd_u]
  refine a_box fun r1 hr1 => ?_
  obtain ⟨H1, hH1, hk1, hb1⟩ := qbox (q := q) hr1
  rw [show H.set r1 (.cells (Value.agg (qt q).toArray).cells 23 (0, 0)) = H1 from hH1.symm]
  obtain ⟨c1, c2, c3⟩ := fits_cells hb1
  unfold can
  by_cases h1 : 0 ≤ q.b
  · have f1 : decide (0 ≤ q.b) = true := decide_eq_true h1
    by_cases h2 : 0 ≤ q.e
    · have f2 : decide (0 ≤ q.e) = true := decide_eq_true h2
      by_cases h3 : 0 ≤ q.d
      · have f3 : decide (0 ≤ q.d) = true := decide_eq_true h3
        simp -implicitDefEqProofs (maxSteps := 1000000) (disch := first | omega | assumption) only [c1, c2, c3, f1, f2, f3, Sx, reduceIte, Nat.reduceEqDiff, reduceCtorEq, Nat.reduceAdd, Nat.reduceSub, Nat.reduceLT, decide_true, decide_false, Bool.not_true, Bool.not_false, Int.toNat_one, Int.toNat_zero, Nat.zero_mul, l_g, endK, gd_u]
        exact ⟨by simp [h1, h2, h3], hk1⟩
      · have f3 : decide (0 ≤ q.d) = false := decide_eq_false h3
        simp -implicitDefEqProofs (maxSteps := 1000000) (disch := first | omega | assumption) only [c1, c2, c3, f1, f2, f3, Sx, reduceIte, Nat.reduceEqDiff, reduceCtorEq, Nat.reduceAdd, Nat.reduceSub, Nat.reduceLT, decide_true, decide_false, Bool.not_true, Bool.not_false, Int.toNat_one, Int.toNat_zero, Nat.zero_mul, l_g, endK, gd_u]
        exact ⟨by simp [h1, h2, h3], hk1⟩
    · have f2 : decide (0 ≤ q.e) = false := decide_eq_false h2
      simp -implicitDefEqProofs (maxSteps := 1000000) (disch := first | omega | assumption) only [c1, c2, c3, f1, f2, Sx, reduceIte, Nat.reduceEqDiff, reduceCtorEq, Nat.reduceAdd, Nat.reduceSub, Nat.reduceLT, decide_true, decide_false, Bool.not_true, Bool.not_false, Int.toNat_one, Int.toNat_zero, Nat.zero_mul, l_g, endK, gd_u]
      exact ⟨by simp [h1, h2], hk1⟩
  · have f1 : decide (0 ≤ q.b) = false := decide_eq_false h1
    simp -implicitDefEqProofs (maxSteps := 1000000) (disch := first | omega | assumption) only [c1, c2, c3, f1, Sx, reduceIte, Nat.reduceEqDiff, reduceCtorEq, Nat.reduceAdd, Nat.reduceSub, Nat.reduceLT, decide_true, decide_false, Bool.not_true, Bool.not_false, Int.toNat_one, Int.toNat_zero, Nat.zero_mul, l_g, endK, gd_u]
    exact ⟨by simp [h1], hk1⟩

/-- what New answers: Pk: the meter's block -/
def NewOk (Pk : Heap → Nat → Prop) (q : Qt) (H : Heap) (e' : Ending) (H' : Heap) : Prop := Keep H H' ∧ ((can q ∧ ∃ r, e' = .returned (.tuple #[.pointer (some ⟨r, 0, none⟩), .int .i64 0]) ∧ H r = none ∧ Pk H' r) ∨ (¬ can q ∧ e' = .returned (.tuple #[.pointer none, .int .i64 1])))
set_option maxHeartbeats 1000000 in
theorem new_spec {H : Heap} {q : Qt} : ACalls Tryd.prog 8 [Value.agg (qt q).toArray].toArray H fun e' H' => NewOk (fun H r => Pm H r q 0 0) q H e' H' := by
  refine call8 (Nat.le_of_ble_eq_true rfl) ?_
  unfold L8 env0
  simp -implicitDefEqProofs (maxSteps := 1000000) (disch := first | omega | assumption) only [Sx, reduceIte, Nat.reduceEqDiff, reduceCtorEq, Nat.reduceAdd, Nat.reduceSub, Nat.reduceLT, decide_true, decide_false, Bool.not_true, Bool.not_false, Int.toNat_one, Int.toNat_zero, Nat.zero_mul, l_g, endK, gd_u]
  refine a_box fun r1 hr1 => ?_
  obtain ⟨H1, hH1, hk1, hb1⟩ := qbox (q := q) hr1
  rw [show H.set r1 (.cells (Value.agg (qt q).toArray).cells 23 (0, 0)) = H1 from hH1.symm]
  have hld := loadN_of (o := 0) (n := 3) (l := qt q) hb1 rfl rfl
  try simp -implicitDefEqProofs (maxSteps := 1000000) (disch := first | omega | assumption) only [ev_ldn, hld, Sx, reduceIte, Nat.reduceEqDiff, reduceCtorEq, Nat.reduceAdd, Nat.reduceSub, Nat.reduceLT, decide_true, decide_false, Bool.not_true, Bool.not_false, Int.toNat_one, Int.toNat_zero, Nat.zero_mul, l_g, endK, gd_u]
  refine a_call fits_spec ?_
  rintro e' H2 ⟨rfl, hk2⟩
  have hb2 := hk2 _ _ hb1
  have hld := loadN_of (o := 0) (n := 3) (l := qt q) hb2 rfl rfl
  by_cases hc : can q
  · rw [decide_eq_true hc]
    have hfa : (QI.build #[(.int .i32 0), (.int .u32 0), (.int .i64 0), (.int .i64 0), (.int .i64 0), (.int .i64 0), (.int .i64 0), (.int .i64 0)] [(2, 3)]).ev [Value.agg (qt q).toArray] H2 = some (.agg (pm q 0 0).toArray) := by
      rw [ev_build]
      simp only [List.length_cons, List.length_nil, if_true, List.zip_cons_cons, List.zip_nil_right]
      rw [fill_a, if_pos (by simp), fill_nil]
      rfl
    simp -implicitDefEqProofs (maxSteps := 1000000) (disch := first | omega | assumption) only [ev_ldn, hld, hfa, Sx, reduceIte, Nat.reduceEqDiff, reduceCtorEq, Nat.reduceAdd, Nat.reduceSub, Nat.reduceLT, decide_true, decide_false, Bool.not_true, Bool.not_false, Int.toNat_one, Int.toNat_zero, Nat.zero_mul, l_g, endK, gd_u]
    refine a_box fun r3 hr3 => ?_
    try simp -implicitDefEqProofs (maxSteps := 1000000) (disch := first | omega | assumption) only [Sx, reduceIte, Nat.reduceEqDiff, reduceCtorEq, Nat.reduceAdd, Nat.reduceSub, Nat.reduceLT, decide_true, decide_false, Bool.not_true, Bool.not_false, Int.toNat_one, Int.toNat_zero, Nat.zero_mul, l_g, endK, gd_u]
    exact ⟨(hk1.trans hk2).set_new hr3, .inl ⟨hc, r3, by (first | exact True.intro | rfl | assumption), (hk1.trans hk2).none hr3, set_same⟩⟩
  · rw [decide_eq_false hc]
    simp -implicitDefEqProofs (maxSteps := 1000000) (disch := first | omega | assumption) only [Sx, reduceIte, Nat.reduceEqDiff, reduceCtorEq, Nat.reduceAdd, Nat.reduceSub, Nat.reduceLT, decide_true, decide_false, Bool.not_true, Bool.not_false, Int.toNat_one, Int.toNat_zero, Nat.zero_mul, l_g, endK, gd_u]
    exact ⟨hk1.trans hk2, .inr ⟨hc, by (first | exact True.intro | rfl | assumption)⟩⟩
end Go.Proofs.YtmgpfdfbcnlocaaDoor.S18
