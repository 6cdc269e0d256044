/-
  Lists of coins; the singles.
-/
import Derived.Test.YtfdcolicpfellaaSCoin
import Derived.Test.YtfdcolicpfellaaSCode
set_option linter.unusedVariables false
set_option linter.unusedSimpArgs false
namespace Go.Proofs.Ytfdcolicpfellaa.S05
open Go Go.RowKit Go.Proofs.Ytfdcolicpfellaa.Sep Go.Proofs.Ytfdcolicpfellaa.Low
open Go.Proofs.Ytfdcolicpfellaa.PackLaw (Tr wt cntL leaves merge Up lev pairs)
open Go.Proofs.Ytfdcolicpfellaa.Lib (by64 by64_scalar)

/-- places in a list of different things -/
theorem asc_ex : ∀ ds : List Nat, ds.Nodup → ∃ rk, Asc rk ds
  | [], _ => ⟨fun _ => 0, .nil⟩
  | x :: ds, h => by
    have h' := List.nodup_cons.1 h
    obtain ⟨rk, hr⟩ := asc_ex ds h'.2
    refine ⟨fun y => if y = x then 0 else rk y + 1, List.pairwise_cons.2 ⟨fun y hy => ?_, List.Pairwise.imp_of_mem (fun {a b} ha hb hab => ?_) hr⟩⟩
    · have e : y ≠ x := fun e => h'.1 (by rw [← e]; exact hy)
      simp only [if_pos, if_neg e]; omega
    · have e1 : a ≠ x := fun e => h'.1 (by rw [← e]; exact ha)
      have e2 : b ≠ x := fun e => h'.1 (by rw [← e]; exact hb)
      simp only [if_neg e1, if_neg e2]; omega
theorem srt_one {key : Nat → Int} {rk : Nat → Nat} : ∀ {a b : List Nat}, a.Perm b → Srt key rk a → Srt key rk b → a = b
  | [], b, h, _, _ => (List.Perm.nil_eq h)
  | x :: a, [], h, _, _ => by have := h.length_eq; simp at this
  | x :: a, y :: b, h, ha, hb => by
    have ha' := List.pairwise_cons.1 ha
    have hb' := List.pairwise_cons.1 hb
    have hxy : x = y := by
      rcases List.mem_cons.1 (h.mem_iff.2 (List.mem_cons_self (a := y) (l := b))) with e | e
      · exact e.symm
      · rcases List.mem_cons.1 (h.mem_iff.1 (List.mem_cons_self (a := x) (l := a))) with e' | e'
        · exact e'
        · have h1 := ha'.1 y e
          have h2 := hb'.1 x e'
          unfold lt at h1 h2
          omega
    subst hxy
    rw [srt_one (List.Perm.cons_inv h) ha'.2 hb'.2]
theorem merge_srt {key : Nat → Int} {rk : Nat → Nat} : ∀ (S Q : List Nat), Srt key rk S → Srt key rk Q → (∀ x ∈ S, ∀ y ∈ Q, rk x < rk y) → Srt key rk (merge key S Q)
  | [], Q, _, h, _ => by rw [merge]; exact h
  | a :: S, [], h, _, _ => by rw [merge]; exact h
  | a :: S, b :: Q, hS, hQ, hc => by
    rw [merge]
    have hS' := List.pairwise_cons.1 hS
    have hQ' := List.pairwise_cons.1 hQ
    have hab := hc a List.mem_cons_self b List.mem_cons_self
    split
    · rename_i h
      have hlt : lt key rk a b := by unfold lt; omega
      refine List.pairwise_cons.2 ⟨fun z hz => ?_, merge_srt S (b :: Q) hS'.2 hQ fun x hx y hy => hc x (List.mem_cons_of_mem _ hx) y hy⟩
      rcases List.mem_append.1 ((PackLaw.merge_perm S (b :: Q)).mem_iff.1 hz) with hz | hz
      · exact hS'.1 z hz
      · rcases List.mem_cons.1 hz with rfl | hz
        · exact hlt
        · exact hlt.trans (hQ'.1 z hz)
    · rename_i h
      have hlt : lt key rk b a := by unfold lt; omega
      refine List.pairwise_cons.2 ⟨fun z hz => ?_, merge_srt (a :: S) Q hS hQ'.2 fun x hx y hy => hc x hx y (List.mem_cons_of_mem _ hy)⟩
      rcases List.mem_append.1 ((PackLaw.merge_perm (a :: S) Q).mem_iff.1 hz) with hz | hz
      · rcases List.mem_cons.1 hz with rfl | hz
        · exact hlt
        · exact hlt.trans (hS'.1 z hz)
      · exact hQ'.1 z hz
termination_by S Q => S.length + Q.length
theorem merge_map {α β : Type} {w : α → Int} {u : β → Int} (f : α → β) : ∀ (S Q : List α), (∀ x ∈ S ++ Q, w x = u (f x)) → (merge w S Q).map f = merge u (S.map f) (Q.map f)
  | [], Q, _ => by rw [merge, List.map_nil, merge]
  | a :: S, [], _ => by rw [merge, List.map_nil, List.map_cons, merge]
  | a :: S, b :: Q, h => by
    rw [merge, List.map_cons, List.map_cons, merge, ← h a (by simp), ← h b (by simp)]
    split
    · rw [List.map_cons, merge_map f S (b :: Q) (fun x hx => h x (by simp at hx ⊢; rcases hx with h | h | h <;> simp [h])), List.map_cons]
    · rw [List.map_cons, merge_map f (a :: S) Q (fun x hx => h x (by simp at hx ⊢; rcases hx with h | h | h <;> simp [h])), List.map_cons]
termination_by S Q => S.length + Q.length
theorem srt_up {key : Nat → Int} {rk : Nat → Nat} {D : List Nat} (h : Srt key rk D) : Up key D := List.Pairwise.imp (fun {a b} hab => by unfold lt at hab; omega) h
theorem up_srt {key : Nat → Int} {rk : Nat → Nat} {D : List Nat} (h : Up key D) (k : Asc rk D) : Srt key rk D := by
  refine List.pairwise_iff_getElem.2 fun i j hi hj hij => ?_
  have h1 := List.pairwise_iff_getElem.1 h i j hi hj hij
  have h2 := List.pairwise_iff_getElem.1 k i j hi hj hij
  unfold lt
  omega

/-- a list of coins: all different, each with its tree -/
structure CL (H : Heap) (v : Value) (o : Nat → Int) (tr : Nat → Tr) (ds : List Nat) : Prop where
  O : Cs H v ds
  T : ∀ b ∈ ds, TrAt H o (tr b) b
  nd : ds.Nodup
theorem CL.keep {H H' : Heap} {v : Value} {o : Nat → Int} {tr : Nat → Tr} {ds : List Nat} (h : CL H v o tr ds) (hk : Keep H H') : CL H' v o tr ds :=
  ⟨h.O.keep hk, fun b hb => (h.T b hb).keep hk, h.nd⟩
theorem CL.new {H : Heap} {v : Value} {o : Nat → Int} {tr : Nat → Tr} {ds : List Nat} (h : CL H v o tr ds) {b : Nat} (hb : H b = none) : b ∉ ds := fun hm => by
  obtain ⟨s, l, r, e⟩ := (h.T b hm).key
  rw [hb] at e; cases e
/-- the trees, one more block told -/
def upd (tr : Nat → Tr) (b : Nat) (t : Tr) : Nat → Tr := fun x => if x = b then t else tr x
theorem upd_map {tr : Nat → Tr} {b : Nat} {t : Tr} {ds : List Nat} (h : b ∉ ds) : ds.map (upd tr b t) = ds.map tr := by
  apply List.map_congr_left
  intro x hx
  have e : x ≠ b := fun e => h (by rw [← e]; exact hx)
  show (if x = b then t else tr x) = tr x
  rw [if_neg e]
/-- a list of coins is sorted -/
theorem csort_spec {H : Heap} {v : Value} {o : Nat → Int} {tr : Nat → Tr} {ds : List Nat} (h : CL H v o tr ds) (hne : ds ≠ []) (hsm : ds.length ≤ 1000000) (rk : Nat → Nat) (hrk : Asc rk ds) :
    ACalls Try.prog 54 [v, cmpF].toArray H fun e H' => e = .returned (.tuple #[]) ∧ (∃ D, D.Perm ds ∧ Srt (fun b => wt o (tr b)) rk D ∧ CL H' v o tr D) ∧ Oth H v H' := by
  obtain ⟨r, c, rfl, hc⟩ := h.O.view hne
  refine (sortStable_spec (key := fun b => wt o (tr b)) (rk := rk) h.O (fun b hb => (h.T b hb).key) hrk hsm).mono ?_
  rintro e H' ⟨rfl, ⟨D, hp, hs, hO⟩, ho⟩
  exact ⟨rfl, ⟨D, hp, hs, hO, fun b hb => (h.T b (hp.mem_iff.1 hb)).oth h.O (by decide) ho, hp.nodup_iff.2 h.nd⟩, ho⟩

/-- the symbols that come at all -/
def F (o : Nat → Int) (i : Nat) : List Nat := (List.range i).filter fun s => decide (0 < o s)
theorem F_succ (o : Nat → Int) (i : Nat) : F o (i + 1) = F o i ++ if 0 < o i then [i] else [] := by
  unfold F
  rw [List.range_succ, List.filter_append]
  congr 1
  by_cases h : 0 < o i <;> simp [h]
theorem F_len (o : Nat → Int) (i : Nat) : (F o i).length ≤ i := by
  unfold F
  have := List.length_filter_le (fun s => decide (0 < o s)) (List.range i)
  rwa [List.length_range] at this

/-- the state while the coins are made -/
structure CM (H0 : Heap) (a : Option Addr) (c : Nat) (os : List Int) (most : Int) (i : Nat) (env : Env) (H : Heap) : Prop where
  h0 : env 0 = .slice a os.length c
  h1 : env 1 = .int .i64 most
  h32 : env 32 = .slice a os.length c
  h33 : env 33 = .int .i64 os.length
  h34 : env 34 = .int .i64 i
  ok : ∀ j, j < i → 0 ≤ os.getD j 0 ∧ os.getD j 0 ≤ 1099511627776
  K : Keep H0 H
  rest : ∃ v ds tr, env 6 = v ∧ CL H v (fun s => os.getD s 0) tr ds ∧ ds.map tr = (F (fun s => os.getD s 0) i).map Tr.leaf ∧ Fresh H0 v

set_option maxHeartbeats 4000000 in
theorem coin_round {H0 H : Heap} {a : Option Addr} {c i : Nat} {os : List Int} {most : Int} {env : Env} {Q : Post} {QP : List PanicEntry → Heap → Prop} (hr : Row H0 a (by64 os)) (hi : i < os.length) (hl : os.length ≤ 320) (hx : 0 ≤ os[i] ∧ os[i] ≤ 1099511627776)
    (hS : CM H0 a c os most i env H) (hk : ∀ env' H', CM H0 a c os most (i + 1) env' H' → Q .normal env' H') :
    awpC Try.prog L41_1 Q QP env H := by
  obtain ⟨h0, h1, h32, h33, h34, hok, hK, v, ds, tr, h6, hC, hmap, hF⟩ := hS
  have f0 : decide ((i : Int) < (os.length : Int)) = true := decide_eq_true (by omega)
  obtain ⟨b, rfl, hb⟩ := int_at (hK.row hr) hi
  have hg : os.getD i 0 = os[i] := by rw [List.getD_eq_getElem?_getD, List.getElem?_eq_getElem hi]; rfl
  have f1 : decide (os[i] < 0) = false := decide_eq_false (by omega)
  have f2 : decide (1099511627776 < os[i]) = false := decide_eq_false (by omega)
  have hok' : ∀ j, j < i + 1 → 0 ≤ os.getD j 0 ∧ os.getD j 0 ≤ 1099511627776 := by
    intro j hj
    by_cases e : j = i
    · subst e; rw [hg]; exact hx
    · exact hok j (by omega)
  have hFs := F_succ (fun s => os.getD s 0) i
  have hlen : ds.length ≤ 320 := by
    have := congrArg List.length hmap
    rw [List.length_map, List.length_map] at this
    have := F_len (fun s => os.getD s 0) i
    omega
  have hsv := hC.O.scalar
  unfold L41_1
  by_cases hpos : 0 < os[i]
  · have f3 : decide (0 < os[i]) = true := decide_eq_true hpos
    rw [hg, if_pos hpos] at hFs
    simp -implicitDefEqProofs (maxSteps := 1000000) (disch := first | omega | assumption) only [h0, h1, h6, h32, h33, h34, f0, f1, f2, f3, hb, l_g, Sx, reduceIte, Nat.reduceEqDiff, reduceCtorEq, Nat.reduceAdd, Nat.reduceSub, Nat.reduceLT]
    refine a_box fun q hq => ?_
    simp -implicitDefEqProofs (maxSteps := 1000000) (disch := first | omega | assumption) only [Value.cells, Sx, reduceIte, Nat.reduceEqDiff, reduceCtorEq, Nat.reduceAdd, Nat.reduceSub, Nat.reduceLT]
    have hk1 : Keep H (H.set q (.cells #[.int .i64 os[i], .int .i64 i, .pointer none, .pointer none] 99 (0, 0))) := (Keep.refl H).set_new hq
    have hb1 : (H.set q (.cells #[.int .i64 os[i], .int .i64 i, .pointer none, .pointer none] 99 (0, 0))) q = some (.cells #[.int .i64 os[i], .int .i64 i, .pointer none, .pointer none] 99 (0, 0)) := set_same
    generalize H.set q (.cells #[.int .i64 os[i], .int .i64 i, .pointer none, .pointer none] 99 (0, 0)) = H1 at hk1 hb1 ⊢
    refine a_lits (sz := 1) (cells := #[.pointer (some ⟨q, 0, none⟩)]) rfl rfl ?_
    intro r2 H2 hO2 hk2 hr2
    obtain ⟨_, _, _, e, _, _, hrow2⟩ := hO2.view
    cases e
    try simp -implicitDefEqProofs (maxSteps := 1000000) (disch := first | omega | assumption) only [h0, h1, h6, h32, h33, h34, Sx, reduceIte, Nat.reduceEqDiff, reduceCtorEq, Nat.reduceAdd, Nat.reduceSub, Nat.reduceLT]
    have hk12 := hk1.trans hk2
    refine a_app (len := ds.length) (m := 1) (new := ps [q]) (hC.O.keep hk12) (by simp) (by rfl) (hrow2.cells (by simp)) (by simp) rfl (by omega) (ps_scalar _) (by omega) ?_
    intro v3 H3 hO3 ho3 hm3
    unfold L41_0
    try simp -implicitDefEqProofs (maxSteps := 1000000) (disch := first | omega | assumption) only [h0, h1, h6, h32, h33, h34, Sx, reduceIte, Nat.reduceEqDiff, reduceCtorEq, Nat.reduceAdd, Nat.reduceSub, Nat.reduceLT]
    have hqn : q ∉ ds := hC.new hq
    have hO2' := hC.O.keep hk12
    refine hk _ _ ⟨by simp -implicitDefEqProofs (maxSteps := 1000000) (disch := first | omega | assumption) only [h0, Sx, reduceIte, Nat.reduceEqDiff, reduceCtorEq, Nat.reduceAdd, Nat.reduceSub, Nat.reduceLT], by simp -implicitDefEqProofs (maxSteps := 1000000) (disch := first | omega | assumption) only [h1, Sx, reduceIte, Nat.reduceEqDiff, reduceCtorEq, Nat.reduceAdd, Nat.reduceSub, Nat.reduceLT], by simp -implicitDefEqProofs (maxSteps := 1000000) (disch := first | omega | assumption) only [h32, Sx, reduceIte, Nat.reduceEqDiff, reduceCtorEq, Nat.reduceAdd, Nat.reduceSub, Nat.reduceLT], by simp -implicitDefEqProofs (maxSteps := 1000000) (disch := first | omega | assumption) only [h33, Sx, reduceIte, Nat.reduceEqDiff, reduceCtorEq, Nat.reduceAdd, Nat.reduceSub, Nat.reduceLT], by simp -implicitDefEqProofs (maxSteps := 1000000) (disch := first | omega | assumption) only [Int.natCast_add, Int.natCast_one, Sx, reduceIte, Nat.reduceEqDiff, reduceCtorEq, Nat.reduceAdd, Nat.reduceSub, Nat.reduceLT], hok', ho3.keep (hK.trans hk12) fun z hz => hF z hz, v3, ds ++ [q], upd tr q (.leaf i), by simp -implicitDefEqProofs (maxSteps := 1000000) (disch := first | omega | assumption) only [Sx, reduceIte, Nat.reduceEqDiff, reduceCtorEq, Nat.reduceAdd, Nat.reduceSub, Nat.reduceLT], ⟨?_, fun z hz => ?_, ?_⟩, ?_, hm3.fresh (hK.trans hk12) hF⟩
    · show Own H3 _ 1 _ _
      rw [ps, List.map_append]
      exact hO3
    · rcases List.mem_append.1 hz with hz | hz
      · have e' : z ≠ q := fun e => hqn (by rw [← e]; exact hz)
        have e : upd tr q (.leaf i) z = tr z := by
          show (if z = q then _ else tr z) = tr z
          rw [if_neg e']
        rw [e]
        exact ((hC.T z hz).keep hk12).oth hO2' (by decide) ho3
      · rw [List.mem_singleton] at hz
        subst hz
        have e : upd tr z (.leaf i) z = .leaf i := by show (if z = z then _ else _) = _; rw [if_pos rfl]
        rw [e]
        have h5 : TrAt H2 (fun s => os.getD s 0) (.leaf i) z := .leaf (by rw [hg]; exact hk2 _ _ hb1)
        exact h5.oth hO2' (by decide) ho3
    · exact List.nodup_append.2 ⟨hC.nd, by simp, fun x hx y hy => by rw [List.mem_singleton] at hy; subst hy; exact fun e => hqn (e ▸ hx)⟩
    · rw [List.map_append, upd_map hqn, hmap, hFs, List.map_append]
      congr 1
      simp [upd]
  · have f3 : decide (0 < os[i]) = false := decide_eq_false hpos
    rw [hg, if_neg hpos, List.append_nil] at hFs
    simp -implicitDefEqProofs (maxSteps := 1000000) (disch := first | omega | assumption) only [h0, h1, h6, h32, h33, h34, f0, f1, f2, f3, hb, l_g, Sx, reduceIte, Nat.reduceEqDiff, reduceCtorEq, Nat.reduceAdd, Nat.reduceSub, Nat.reduceLT]
    unfold L41_0
    simp -implicitDefEqProofs (maxSteps := 1000000) (disch := first | omega | assumption) only [h0, h1, h6, h32, h33, h34, Sx, reduceIte, Nat.reduceEqDiff, reduceCtorEq, Nat.reduceAdd, Nat.reduceSub, Nat.reduceLT]
    exact hk _ _ ⟨by simp -implicitDefEqProofs (maxSteps := 1000000) (disch := first | omega | assumption) only [h0, Sx, reduceIte, Nat.reduceEqDiff, reduceCtorEq, Nat.reduceAdd, Nat.reduceSub, Nat.reduceLT], by simp -implicitDefEqProofs (maxSteps := 1000000) (disch := first | omega | assumption) only [h1, Sx, reduceIte, Nat.reduceEqDiff, reduceCtorEq, Nat.reduceAdd, Nat.reduceSub, Nat.reduceLT], by simp -implicitDefEqProofs (maxSteps := 1000000) (disch := first | omega | assumption) only [h32, Sx, reduceIte, Nat.reduceEqDiff, reduceCtorEq, Nat.reduceAdd, Nat.reduceSub, Nat.reduceLT], by simp -implicitDefEqProofs (maxSteps := 1000000) (disch := first | omega | assumption) only [h33, Sx, reduceIte, Nat.reduceEqDiff, reduceCtorEq, Nat.reduceAdd, Nat.reduceSub, Nat.reduceLT], by simp -implicitDefEqProofs (maxSteps := 1000000) (disch := first | omega | assumption) only [Int.natCast_add, Int.natCast_one, Sx, reduceIte, Nat.reduceEqDiff, reduceCtorEq, Nat.reduceAdd, Nat.reduceSub, Nat.reduceLT], hok', hK, v, ds, tr, by simp -implicitDefEqProofs (maxSteps := 1000000) (disch := first | omega | assumption) only [h6, Sx, reduceIte, Nat.reduceEqDiff, reduceCtorEq, Nat.reduceAdd, Nat.reduceSub, Nat.reduceLT], hC, by rw [hmap, hFs], hF⟩
end Go.Proofs.Ytfdcolicpfellaa.S05
