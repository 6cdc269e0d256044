/-
  Cost: the singles; what pairs hold.
-/
import Derived.Test.YtfdcolicpfellaaSCost
import Derived.Test.YtfdcolicpfellaaSLen4
set_option linter.unusedVariables false
set_option linter.unusedSimpArgs false
namespace Go.Proofs.Ytfdcolicpfellaa.S05
open Go Go.RowKit Go.Proofs.Ytfdcolicpfellaa.Sep Go.Proofs.Ytfdcolicpfellaa.Low
open Go.Proofs.Ytfdcolicpfellaa.PackLaw (Tr wt cnt cntL leaves merge Up lev pairs psum)
open Go.Proofs.Ytfdcolicpfellaa.Lib (by64 by64_scalar encs encs_len encs_append encs_one encs_scalar elemR)

theorem load2 {H : Heap} {q : Nat} {x y : Value} {T : TypeId} {f : Nat × Nat} (h : H q = some (.cells #[x, y] T f)) : H.loadN ⟨q, 0, none⟩ 0 2 = some [x, y] := by
  simp [Heap.loadN, add_mk, cell_of h]
/-- the singles so far -/
structure SG (H0 : Heap) (a : Option Addr) (c : Nat) (os : List Int) (most : Int) (i : Nat) (env : Env) (H : Heap) : Prop where
  h0 : env 0 = .slice a os.length c
  h1 : env 1 = .int .i64 most
  h6 : env 6 = .int .i64 i
  K : Keep H0 H
  rest : ∃ sv ls, env 5 = sv ∧ PL H sv os.length ls ∧ ls.map Pk.w = (F (oft os) i).map (oft os) ∧ Fresh H0 sv

set_option maxHeartbeats 4000000 in
theorem single_round {H0 H : Heap} {a : Option Addr} {c i : Nat} {os : List Int} {most : Int} {env : Env} {Q : Post} {QP : List PanicEntry → Heap → Prop} (hr : Row H0 a (by64 os)) (hi : i < os.length) (hl : os.length ≤ 320)
    (hS : SG H0 a c os most i env H) (hk : ∀ env' H', SG H0 a c os most (i + 1) env' H' → Q .normal env' H') :
    awpC Try.prog L43_1 Q QP env H := by
  obtain ⟨h0, h1, h6, hK, sv, ls, h5, hP, hw, hF⟩ := hS
  have f0 : decide ((i : Int) < (os.length : Int)) = true := decide_eq_true (by omega)
  obtain ⟨b, rfl, hb⟩ := int_at (hK.row hr) hi
  have hg : oft os i = os[i] := by show os.getD i 0 = _; rw [List.getD_eq_getElem?_getD, List.getElem?_eq_getElem hi]; rfl
  have hFs := F_succ (oft os) i
  rw [hg] at hFs
  have hsv := hP.O.scalar
  have hll : ls.length ≤ 320 := by
    have := congrArg List.length hw
    rw [List.length_map, List.length_map] at this
    have := F_len (oft os) i
    omega
  unfold L43_1
  by_cases hpos : 0 < os[i]
  · have f1 : decide (0 < os[i]) = true := decide_eq_true hpos
    rw [if_pos hpos] at hFs
    simp -implicitDefEqProofs (maxSteps := 1000000) (disch := first | omega | assumption) only [h0, h1, h5, h6, f0, f1, hb, l_g, Sx, reduceIte, Nat.reduceEqDiff, reduceCtorEq, Nat.reduceAdd, Nat.reduceSub, Nat.reduceLT]
    refine a_mks (l := os.length) (c := os.length) (sz := 1) (by omega) (by omega) (by omega) rfl (by omega) ?_
    intro r1 H1 rest1 hbr1 hW1 hk1 hr1
    try simp -implicitDefEqProofs (maxSteps := 1000000) (disch := first | omega | assumption) only [h0, h1, h5, h6, Sx, reduceIte, Nat.reduceEqDiff, reduceCtorEq, Nat.reduceAdd, Nat.reduceSub, Nat.reduceLT]
    refine a_new fun q hq => ?_
    have hq0 : H q = none := hk1.none hq
    try simp -implicitDefEqProofs (maxSteps := 1000000) (disch := first | omega | assumption) only [h0, h1, h5, h6, Sx, reduceIte, Nat.reduceEqDiff, reduceCtorEq, Nat.reduceAdd, Nat.reduceSub, Nat.reduceLT]
    refine st_all (old := [.int .i64 0, .slice none 0 0]) (ci := [.int .i64 os[i], .slice (some ⟨r1, 0, none⟩) os.length os.length]) set_same rfl rfl (by simp [scalarV]) ?_
    have hk2 : Keep H1 ((H1.set q (.cells #[.int .i64 0, .slice none 0 0] 107 (0, 0))).set q (.cells [.int .i64 os[i], .slice (some ⟨r1, 0, none⟩) os.length os.length].toArray 107 (0, 0))) := ((Keep.refl H1).set_new hq).set_fresh hq
    have hb2 : ((H1.set q (.cells #[.int .i64 0, .slice none 0 0] 107 (0, 0))).set q (.cells [.int .i64 os[i], .slice (some ⟨r1, 0, none⟩) os.length os.length].toArray 107 (0, 0))) q = some (.cells #[.int .i64 os[i], .slice (some ⟨r1, 0, none⟩) os.length os.length] 107 (0, 0)) := set_same
    generalize (H1.set q (.cells #[.int .i64 0, .slice none 0 0] 107 (0, 0))).set q (.cells [.int .i64 os[i], .slice (some ⟨r1, 0, none⟩) os.length os.length].toArray 107 (0, 0)) = H2 at hk2 hb2 ⊢
    have hW2 := hW1.keep hk2
    have hzl : (List.replicate os.length (#[Value.int .i64 0] : Array Value).toList).flatten.length = os.length := by simp
    try simp -implicitDefEqProofs (maxSteps := 1000000) (disch := first | omega | assumption) only [h0, h1, h5, h6, cell_of hb2, Sx, reduceIte, Nat.reduceEqDiff, reduceCtorEq, Nat.reduceAdd, Nat.reduceSub, Nat.reduceLT]
    refine Lib.a_storeC hW2 (j := i) (by rw [hzl]; exact hi) rfl ?_
    intro H3 hW3 ho3
    have hk12 := hk1.trans hk2
    have hK3 : Keep H H3 := ho3.keep hk12 fun z hz => by cases hz; exact hr1
    have hb3 := ho3.oth _ _ hb2 (fun e => hW2.elem hb2 (by decide) e)
    have hld := load2 hb3
    try simp -implicitDefEqProofs (maxSteps := 1000000) (disch := first | omega | assumption) only [h0, h1, h5, h6, ev_ldn, hld, Sx, reduceIte, Nat.reduceEqDiff, reduceCtorEq, Nat.reduceAdd, Nat.reduceSub, Nat.reduceLT]
    refine lits_pk (p := ⟨os[i], some ⟨r1, 0, none⟩, os.length, os.length⟩) ?_
    intro r4 H4 hO4 hk4 hr4
    obtain ⟨_, _, e, _, hrow4⟩ := hO4.len
    cases e
    try simp -implicitDefEqProofs (maxSteps := 1000000) (disch := first | omega | assumption) only [h0, h1, h5, h6, Sx, reduceIte, Nat.reduceEqDiff, reduceCtorEq, Nat.reduceAdd, Nat.reduceSub, Nat.reduceLT]
    have hK4 := hK3.trans hk4
    refine app_pk (m := [⟨os[i], some ⟨r1, 0, none⟩, os.length, os.length⟩]) (k := 1) (Own.keep hP.O hK4) rfl rfl (hrow4.cells rfl) (by simp; omega) ?_
    intro v5 H5 hO5 ho5 hm5
    try simp -implicitDefEqProofs (maxSteps := 1000000) (disch := first | omega | assumption) only [h0, h1, h5, h6, Sx, reduceIte, Nat.reduceEqDiff, reduceCtorEq, Nat.reduceAdd, Nat.reduceSub, Nat.reduceLT]
    unfold L43_0
    try simp -implicitDefEqProofs (maxSteps := 1000000) (disch := first | omega | assumption) only [h0, h1, h5, h6, Sx, reduceIte, Nat.reduceEqDiff, reduceCtorEq, Nat.reduceAdd, Nat.reduceSub, Nat.reduceLT]
    have hIn : InOk H4 os.length ⟨os[i], some ⟨r1, 0, none⟩, os.length, os.length⟩ := by
      refine ⟨(List.replicate os.length 0).set i 1, by simp, ?_⟩
      have e : by64 ((List.replicate os.length 0).set i 1) = (List.replicate os.length (#[Value.int .i64 0] : Array Value).toList).flatten.set i (.int .i64 1) := by
        rw [by64, List.map_set]
        congr 1
        simp
      show Own H4 _ 1 (.slice (some ⟨r1, 0, none⟩) os.length os.length) _
      rw [e]
      exact hW3.keep hk4
    refine hk _ _ ⟨by simp -implicitDefEqProofs (maxSteps := 1000000) (disch := first | omega | assumption) only [h0, Sx, reduceIte, Nat.reduceEqDiff, reduceCtorEq, Nat.reduceAdd, Nat.reduceSub, Nat.reduceLT], by simp -implicitDefEqProofs (maxSteps := 1000000) (disch := first | omega | assumption) only [h1, Sx, reduceIte, Nat.reduceEqDiff, reduceCtorEq, Nat.reduceAdd, Nat.reduceSub, Nat.reduceLT], by simp -implicitDefEqProofs (maxSteps := 1000000) (disch := first | omega | assumption) only [h6, Int.natCast_add, Int.natCast_one, Sx, reduceIte, Nat.reduceEqDiff, reduceCtorEq, Nat.reduceAdd, Nat.reduceSub, Nat.reduceLT], ho5.keep (hK.trans hK4) fun z hz => hF z hz, v5, ls ++ [⟨os[i], some ⟨r1, 0, none⟩, os.length, os.length⟩], by simp -implicitDefEqProofs (maxSteps := 1000000) (disch := first | omega | assumption) only [Sx, reduceIte, Nat.reduceEqDiff, reduceCtorEq, Nat.reduceAdd, Nat.reduceSub, Nat.reduceLT], ⟨hO5, fun p hp => ?_⟩, ?_, hm5.fresh (hK.trans hK4) hF⟩
    · rcases List.mem_append.1 hp with hp | hp
      · exact ((hP.I p hp).keep hK4).oth (Own.keep hP.O hK4) ho5
      · rw [List.mem_singleton] at hp
        subst hp
        exact hIn.oth (Own.keep hP.O hK4) ho5
    · rw [List.map_append, hw, hFs, List.map_append]
      simp only [List.map_cons, List.map_nil, hg]
  · have f1 : decide (0 < os[i]) = false := decide_eq_false hpos
    rw [if_neg hpos, List.append_nil] at hFs
    simp -implicitDefEqProofs (maxSteps := 1000000) (disch := first | omega | assumption) only [h0, h1, h5, h6, f0, f1, hb, l_g, Sx, reduceIte, Nat.reduceEqDiff, reduceCtorEq, Nat.reduceAdd, Nat.reduceSub, Nat.reduceLT]
    unfold L43_0
    simp -implicitDefEqProofs (maxSteps := 1000000) (disch := first | omega | assumption) only [h0, h1, h5, h6, Sx, reduceIte, Nat.reduceEqDiff, reduceCtorEq, Nat.reduceAdd, Nat.reduceSub, Nat.reduceLT]
    exact hk _ _ ⟨by simp -implicitDefEqProofs (maxSteps := 1000000) (disch := first | omega | assumption) only [h0, Sx, reduceIte, Nat.reduceEqDiff, reduceCtorEq, Nat.reduceAdd, Nat.reduceSub, Nat.reduceLT], by simp -implicitDefEqProofs (maxSteps := 1000000) (disch := first | omega | assumption) only [h1, Sx, reduceIte, Nat.reduceEqDiff, reduceCtorEq, Nat.reduceAdd, Nat.reduceSub, Nat.reduceLT], by simp -implicitDefEqProofs (maxSteps := 1000000) (disch := first | omega | assumption) only [h6, Int.natCast_add, Int.natCast_one, Sx, reduceIte, Nat.reduceEqDiff, reduceCtorEq, Nat.reduceAdd, Nat.reduceSub, Nat.reduceLT], hK, sv, ls, by simp -implicitDefEqProofs (maxSteps := 1000000) (disch := first | omega | assumption) only [h5, Sx, reduceIte, Nat.reduceEqDiff, reduceCtorEq, Nat.reduceAdd, Nat.reduceSub, Nat.reduceLT], hP, by rw [hw, hFs], hF⟩

/-- what a pair holds is added up -/
structure AD (H0 : Heap) (a : Option Addr) (c M : Nat) (most : Int) (sv lv pv : Value) (level i q : Nat) (w : Int) (k : Nat) (env : Env) (H : Heap) : Prop where
  h0 : env 0 = .slice a M c
  h1 : env 1 = .int .i64 most
  h5 : env 5 = sv
  h8 : env 8 = lv
  h9 : env 9 = .int .i64 level
  h10 : env 10 = pv
  h11 : env 11 = .int .i64 i
  h12 : env 12 = .pointer (some ⟨q, 0, none⟩)
  h13 : env 13 = .int .i64 k
  K : Keep H0 H
  rest : ∃ (na : Option Addr) (nn nc : Nat) (xs : List Int), xs.length = k ∧ Own H 3 1 (.slice na nn nc) (by64 xs) ∧ H q = some (.cells #[.int .i64 w, .slice na nn nc] 107 (0, 0)) ∧ Fresh H0 (.slice na nn nc)

set_option maxHeartbeats 4000000 in
theorem add_round {H0 H : Heap} {a : Option Addr} {c M k i q level : Nat} {most w : Int} {sv pv : Value} {ls : List Pk} {la : Option Addr} {lc : Nat} {env : Env} {Q : Post} {QP : List PanicEntry → Heap → Prop} (hM : M ≤ 320) (hk1 : k < M) (hl : PL H0 (.slice la ls.length lc) M ls) (hi : i + 1 < ls.length) (hll : ls.length ≤ 1000) (hq0 : H0 q = none)
    (hsv : scalarV sv = true) (hpv : scalarV pv = true) (hS : AD H0 a c M most sv (.slice la ls.length lc) pv level i q w k env H) (hk : ∀ env' H', AD H0 a c M most sv (.slice la ls.length lc) pv level i q w (k + 1) env' H' → Q .normal env' H') :
    awpC Try.prog L43_2 Q QP env H := by
  obtain ⟨h0, h1, h5, h8, h9, h10, h11, h12, h13, hK, na, nn, nc, xs, hxl, hN, hb, hF⟩ := hS
  have f0 : decide ((k : Int) < (M : Int)) = true := decide_eq_true (by omega)
  have hl1 := hl.keep hK
  obtain ⟨_, _, e, hlc, hrow⟩ := hl1.O.len
  cases e
  obtain ⟨b, rfl, -, hx0⟩ := elemR pk_len (by omega) hrow (i := i) (by omega)
  obtain ⟨b', e, -, hy0⟩ := elemR pk_len (by omega) hrow (i := i + 1) (by omega)
  cases e
  obtain ⟨x, hx⟩ : ∃ x, x = ls[i] := ⟨_, rfl⟩
  obtain ⟨y, hy⟩ : ∃ y, y = ls[i + 1] := ⟨_, rfl⟩
  rw [← hx] at hx0
  rw [← hy] at hy0
  have hx1 := hx0 1 _ rfl
  have hy1 := hy0 1 _ rfl
  obtain ⟨us, hul, hU⟩ := hl1.I x (hx ▸ List.getElem_mem _)
  obtain ⟨vs, hvl, hV⟩ := hl1.I y (hy ▸ List.getElem_mem _)
  obtain ⟨_, _, _, e, hul2, huc, hur⟩ := hU.view
  cases e
  obtain ⟨_, _, _, e, hvl2, hvc, hvr⟩ := hV.view
  cases e
  obtain ⟨ub, hua, hub⟩ := int_at hur (i := k) (by omega)
  obtain ⟨vb, hva, hvb⟩ := int_at hvr (i := k) (by omega)
  rw [hua] at hx1
  rw [hva] at hy1
  have hun : x.n = M := by simpa [hul] using hul2.symm
  have hvn : y.n = M := by simpa [hvl] using hvl2.symm
  rw [hun] at hx1
  rw [hvn] at hy1
  have e1 : ((i : Int) + 1).toNat = i + 1 := by omega
  unfold L43_2
  simp -implicitDefEqProofs (maxSteps := 1000000) (disch := first | omega | assumption) only [h0, h1, h5, h8, h9, h10, h11, h12, h13, f0, e1, hx1, hy1, hub, hvb, cell_of hb, l_qk, l_e, Sx, reduceIte, Nat.reduceEqDiff, reduceCtorEq, Nat.reduceAdd, Nat.reduceSub, Nat.reduceLT]
  obtain ⟨z, hz⟩ : ∃ z, z = IntKind.i64.wrap (us[k] + vs[k]) := ⟨_, rfl⟩
  rw [← hz]
  refine a_lits (sz := 1) (cells := #[.int .i64 z]) rfl rfl ?_
  intro r1 H1 hO1 hk1' hr1
  obtain ⟨_, _, _, e, _, _, hrow1⟩ := hO1.view
  cases e
  have hb1 := hk1' _ _ hb
  have hN1 := hN.keep hk1'
  refine ⟨fun p hp _ => by rw [List.mem_singleton] at hp; subst hp; exact cell_of hb1, ?_⟩
  refine a_app (len := xs.length) (m := 1) (new := by64 [z]) hN1 (by simp) (by rfl) (hrow1.cells (by simp)) (by simp) rfl (by omega) (by64_scalar _) (by omega) ?_
  intro v2 H2 hO2 ho2 hm2
  refine ⟨fun p _ hp => by simp at hp, ?_⟩
  have hb2 := ho2.oth _ _ hb1 (hN1.elem hb1 (by decide))
  have hs2 := hO2.scalar
  refine st_one hb2 (by simp) hs2 ?_
  refine ⟨fun p _ hp => by simp at hp, ?_⟩
  have hkk := hK.trans hk1'
  have hK2 : Keep H0 H2 := ho2.keep hkk hF
  have hF2 : Fresh H0 v2 := hm2.fresh hkk hF
  have hqv : own v2 ≠ some q := hO2.elem hb2 (by decide)
  obtain ⟨na', nn', nc', rfl, -, -, -⟩ := hO2.view
  refine hk _ _ ⟨by simp -implicitDefEqProofs (maxSteps := 1000000) (disch := first | omega | assumption) only [h0, Sx, reduceIte, Nat.reduceEqDiff, reduceCtorEq, Nat.reduceAdd, Nat.reduceSub, Nat.reduceLT], by simp -implicitDefEqProofs (maxSteps := 1000000) (disch := first | omega | assumption) only [h1, Sx, reduceIte, Nat.reduceEqDiff, reduceCtorEq, Nat.reduceAdd, Nat.reduceSub, Nat.reduceLT], by simp -implicitDefEqProofs (maxSteps := 1000000) (disch := first | omega | assumption) only [h5, Sx, reduceIte, Nat.reduceEqDiff, reduceCtorEq, Nat.reduceAdd, Nat.reduceSub, Nat.reduceLT], by simp -implicitDefEqProofs (maxSteps := 1000000) (disch := first | omega | assumption) only [h8, Sx, reduceIte, Nat.reduceEqDiff, reduceCtorEq, Nat.reduceAdd, Nat.reduceSub, Nat.reduceLT], by simp -implicitDefEqProofs (maxSteps := 1000000) (disch := first | omega | assumption) only [h9, Sx, reduceIte, Nat.reduceEqDiff, reduceCtorEq, Nat.reduceAdd, Nat.reduceSub, Nat.reduceLT], by simp -implicitDefEqProofs (maxSteps := 1000000) (disch := first | omega | assumption) only [h10, Sx, reduceIte, Nat.reduceEqDiff, reduceCtorEq, Nat.reduceAdd, Nat.reduceSub, Nat.reduceLT], by simp -implicitDefEqProofs (maxSteps := 1000000) (disch := first | omega | assumption) only [h11, Sx, reduceIte, Nat.reduceEqDiff, reduceCtorEq, Nat.reduceAdd, Nat.reduceSub, Nat.reduceLT], by simp -implicitDefEqProofs (maxSteps := 1000000) (disch := first | omega | assumption) only [h12, Sx, reduceIte, Nat.reduceEqDiff, reduceCtorEq, Nat.reduceAdd, Nat.reduceSub, Nat.reduceLT], by simp -implicitDefEqProofs (maxSteps := 1000000) (disch := first | omega | assumption) only [h13, Int.natCast_add, Int.natCast_one, Sx, reduceIte, Nat.reduceEqDiff, reduceCtorEq, Nat.reduceAdd, Nat.reduceSub, Nat.reduceLT], hK2.set_fresh hq0, na', nn', nc', xs ++ [z], by simp [hxl], ?_, set_same, hF2⟩
  have : by64 (xs ++ [z]) = by64 xs ++ by64 [z] := by simp
  rw [this]
  exact hO2.only (S := (· = q)) ((Only.refl _ _).set (.inl rfl)) fun r hr e => hqv (e ▸ hr)
end Go.Proofs.Ytfdcolicpfellaa.S05
