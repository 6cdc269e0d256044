/-
  Equality of structs and arrays, part by part.
-/
import Derived.Test.YtgbhdpeibiglfaaDoorSepOk2
set_option linter.unusedVariables false
set_option linter.unusedSimpArgs false
namespace Go.Proofs.YtgbhdpeibiglfaaDoor.Sep
open Go Go.RowKit
section
variable {P : Program}

theorem allV_append {f g : Nat → Option Value} : ∀ {a b : List (Nat × Leaf)} {r : Bool}, allV (a ++ b) f g = some r → ∃ x y, allV a f g = some x ∧ allV b f g = some y ∧ r = (x && y)
  | [], b, r, h => ⟨true, r, rfl, h, by simp⟩
  | (o, l) :: a, b, r, h => by
    simp only [List.cons_append, allV] at h ⊢
    cases hf : f o with
    | none => simp [hf] at h
    | some u =>
      cases hg : g o with
      | none => simp [hf, hg] at h
      | some v =>
        simp only [hf, hg] at h ⊢
        cases hl : leafV l u v with
        | none => simp [hl] at h
        | some c =>
          cases ha : allV (a ++ b) f g with
          | none => simp [hl, ha] at h
          | some e =>
            simp only [hl, ha, Option.some.injEq] at h
            obtain ⟨x, y, h1, h2, h3⟩ := allV_append ha
            exact ⟨c && x, y, by simp only [h1], h2, by rw [← h, h3, Bool.and_assoc]⟩
theorem allV_shift {f g : Nat → Option Value} {off : Nat} : ∀ (ls : List (Nat × Leaf)), allV (shiftL off ls) f g = allV ls (fun o => f (off + o)) (fun o => g (off + o))
  | [] => rfl
  | (o, l) :: ls => by
    have := allV_shift (f := f) (g := g) (off := off) ls
    unfold shiftL at this
    simp only [shiftL, List.map_cons, allV, this]
theorem allV_congr {f g f' g' : Nat → Option Value} {n : Nat} (hf : ∀ o, o < n → f o = f' o) (hg : ∀ o, o < n → g o = g' o) : ∀ (ls : List (Nat × Leaf)), (∀ x ∈ ls, x.1 < n) → allV ls f g = allV ls f' g'
  | [], _ => rfl
  | (o, l) :: ls, h => by
    have h0 := h (o, l) List.mem_cons_self
    simp only [allV, hf o h0, hg o h0, allV_congr hf hg ls fun x hx => h x (List.mem_cons_of_mem _ hx)]
theorem get_part {xs : Array Value} {off n o : Nat} (h : o < n) : xs[off + o]? = (xs.extract off (off + n))[o]? := by
  rw [Array.getElem?_extract]
  by_cases h1 : off + o < xs.size
  · rw [if_pos (by omega)]
  · rw [if_neg (by omega), Array.getElem?_eq_none (by omega)]
theorem joinL_some {off : Nat} {n : Option Nat} {ls acc : Option (List (Nat × Leaf))} {r : List (Nat × Leaf)} (h : joinL off n ls acc = some r) : ∃ m a b, n = some m ∧ ls = some a ∧ acc = some b ∧ (∀ x ∈ a, x.1 < m) ∧ r = shiftL off a ++ b := by
  unfold joinL at h
  split at h
  · rename_i m a b
    split at h
    · rename_i hc
      refine ⟨m, a, b, rfl, rfl, rfl, fun x hx => of_decide_eq_true (List.all_eq_true.1 hc x hx), (Option.some.inj h).symm⟩
    · cases h
  · cases h

/-- a run over parts: the first that differs ends it -/
theorem eqLoop {β : Type} {body : β → Option Bool × Unit → Sem (ForInStep (Option Bool × Unit))} {H : Heap} : ∀ (l : List β) (rs : List Bool), l.length = rs.length →
    (∀ (i : Nat) b r, l[i]? = some b → rs[i]? = some r → ∀ s (K : Res (ForInStep (Option Bool × Unit)) → Heap → Prop), K (.ok (if r then .yield (none, ()) else .done (some false, ()))) H → awpS P (body b s) K H) →
    ∀ K : Res (Option Bool × Unit) → Heap → Prop, K (.ok (if rs.all id then (none, ()) else (some false, ()))) H → awpS P (forIn l (none, ()) body) K H
  | [], [], _, _, K, hK => by
    show K (.ok (none, ())) H
    simpa using hK
  | b :: l, r :: rs, hl, h, K, hK => by
    rw [List.forIn_cons, awpS_bind]
    refine h 0 b r rfl rfl _ _ ?_
    rw [nxt_ok]
    cases r with
    | true =>
      simp only [if_true]
      exact eqLoop l rs (by simpa using hl) (fun i b r hb hr => h (i + 1) b r (by simpa using hb) (by simpa using hr)) K (by simpa using hK)
    | false =>
      simp only [Bool.false_eq_true, if_false]
      rw [awpS_pure]
      simpa using hK
  | [], _ :: _, hl, _, _, _ => by simp at hl
  | _ :: _, [], hl, _, _, _ => by simp at hl

/-- one value, as cells -/
def oneV (x : Value) : Nat → Option Value := fun o => if o = 0 then some x else none

def EqOk (P : Program) (d : Nat) : Prop := ∀ (k : Nat) (t : TypeId) (ls : List (Nat × Leaf)), eqLeaves P d t = some ls → ∀ (H : Heap) (r : Bool) (K : Res Bool → Heap → Prop), K (.ok r) H →
    (∀ x y, aggP P t = some false → allV ls (oneV x) (oneV y) = some r → awpS P (Op.equalIn (k + d) t x y) K H) ∧
    (∀ xs ys : Array Value, aggP P t = some true → allV ls (fun i => xs[i]?) (fun i => ys[i]?) = some r → awpS P (Op.equalIn (k + d) t (.agg xs) (.agg ys)) K H)

theorem leaves_agg {d : Nat} {t : TypeId} {ls : List (Nat × Leaf)} (h : eqLeaves P d t = some ls) : ∃ b, aggP P t = some b ∧ (b = false → ∃ l, ls = [(0, l)]) := by
  cases d with
  | zero => simp [eqLeaves] at h
  | succ d =>
    unfold aggP
    simp only [eqLeaves] at h
    split at h
    · rename_i ht; exact ⟨false, by rw [ht]; rfl, fun _ => ⟨_, (Option.some.inj h).symm⟩⟩
    · rename_i ht; exact ⟨false, by rw [ht]; rfl, fun _ => ⟨_, (Option.some.inj h).symm⟩⟩
    · rename_i ht; exact ⟨false, by rw [ht]; rfl, fun _ => ⟨_, (Option.some.inj h).symm⟩⟩
    · rename_i fs ht; exact ⟨true, by rw [ht]; rfl, fun h => by cases h⟩
    · rename_i n e ht; exact ⟨true, by rw [ht]; rfl, fun h => by cases h⟩
    · cases h

theorem part_eq {d k : Nat} (ih : EqOk P d) {t : TypeId} {ls : List (Nat × Leaf)} {off n : Nat} {xs ys : Array Value} {r : Bool} {H : Heap} (hn : sizeP P t = some n) (hl : eqLeaves P d t = some ls) (hb : ∀ x ∈ ls, x.1 < n)
    (hv : allV ls (fun o => xs[off + o]?) (fun o => ys[off + o]?) = some r) {γ : Type} (q : Bool → Sem γ) (K : Res γ → Heap → Prop) (hK : awpS P (q r) K H) :
    awpS P (do let a ← part t xs off; let b ← part t ys off; let c ← Op.equalIn (k + d) t a b; q c) K H := by
  obtain ⟨b, ha, hone⟩ := leaves_agg hl
  cases b with
  | true =>
    rw [awpS_bind, awpS_part (v := .agg (xs.extract off (off + n))) ha (fun _ => hn) (by simp), nxt_ok, awpS_bind, awpS_part (v := .agg (ys.extract off (off + n))) ha (fun _ => hn) (by simp), nxt_ok, awpS_bind]
    refine (ih k t ls hl H r _ ?_).2 _ _ ha ?_
    · rw [nxt_ok]; exact hK
    · rw [← hv]
      exact (allV_congr (fun o ho => get_part ho) (fun o ho => get_part ho) ls hb).symm
  | false =>
    obtain ⟨l, rfl⟩ := hone rfl
    simp only [allV, Nat.add_zero] at hv
    cases hx : xs[off]? with
    | none => rw [hx] at hv; cases hv
    | some u =>
      cases hy : ys[off]? with
      | none => rw [hx, hy] at hv; cases hv
      | some v =>
        rw [hx, hy] at hv
        rw [awpS_bind, awpS_part (v := u) ha (fun _ => hn) (by simpa using hx), nxt_ok, awpS_bind, awpS_part (v := v) ha (fun _ => hn) (by simpa using hy), nxt_ok, awpS_bind]
        refine (ih k t _ hl H r _ ?_).1 _ _ ha ?_
        · rw [nxt_ok]; exact hK
        · exact hv

theorem eq_ok : ∀ d, EqOk P d
  | 0 => fun k t ls h => by simp [eqLeaves] at h
  | d + 1 => fun k t ls h H r K hK => by
    have ih := eq_ok d
    show (∀ x y, _ → _ → awpS P (Op.equalIn ((k + d) + 1) t x y) K H) ∧ (∀ xs ys : Array Value, _ → _ → awpS P (Op.equalIn ((k + d) + 1) t (.agg xs) (.agg ys)) K H)
    simp only [eqLeaves] at h
    constructor
    · intro x y ha hv
      unfold Op.equalIn
      split at h
      · rename_i ht
        obtain rfl := (Option.some.inj h).symm
        rw [awpS_bind, awpS_underlying ht, nxt_ok]
        simp only [allV, oneV, if_true] at hv
        cases x <;> cases y <;> simp only [leafV, reduceCtorEq, Option.some.injEq, Bool.and_true] at hv
        subst hv
        exact hK
      · rename_i k1 ht
        obtain rfl := (Option.some.inj h).symm
        rw [awpS_bind, awpS_underlying ht, nxt_ok]
        simp only [allV, oneV, if_true] at hv
        cases x <;> cases y <;> simp only [leafV, reduceCtorEq, Option.some.injEq, Bool.and_true] at hv
        rename_i a1 a2 a3 a4
        by_cases e : a1 = a3
        · subst e
          simp only [if_true, Option.some.injEq, Bool.and_true] at hv
          subst hv
          simp only [if_true]
          exact hK
        · simp only [if_neg e, reduceCtorEq] at hv
      · rename_i ht
        obtain rfl := (Option.some.inj h).symm
        rw [awpS_bind, awpS_underlying ht, nxt_ok]
        simp only [allV, oneV, if_true] at hv
        cases x <;> cases y <;> simp only [leafV, reduceCtorEq, Option.some.injEq, Bool.and_true] at hv
        subst hv
        exact hK
      · rename_i fs ht
        unfold aggP at ha; rw [ht] at ha; cases ha
      · rename_i n e ht
        unfold aggP at ha; rw [ht] at ha; cases ha
      · cases h
    · intro xs ys ha hv
      unfold Op.equalIn
      split at h
      · rename_i ht; unfold aggP at ha; rw [ht] at ha; cases ha
      · rename_i ht; unfold aggP at ha; rw [ht] at ha; cases ha
      · rename_i ht; unfold aggP at ha; rw [ht] at ha; cases ha
      · rename_i fs ht
        split at h
        · cases h
        · rename_i hs
          rw [awpS_bind, awpS_underlying ht, nxt_ok]
          simp only []
          rw [awpS_bind, awpS_program, nxt_ok]
          simp only [hs, Bool.false_eq_true, if_false]
          rw [← Array.forIn_toList, awpS_bind]
          have key : ∀ (l : List Field) (ls : List (Nat × Leaf)) (r : Bool), l.foldr (fun f acc => if f.name = "_" then none else joinL f.offset (sizeP P f.type) (eqLeaves P d f.type) acc) (some []) = some ls →
              allV ls (fun i => xs[i]?) (fun i => ys[i]?) = some r → ∃ rs : List Bool, l.length = rs.length ∧ rs.all id = r ∧ ∀ (i : Nat) f r, l[i]? = some f → rs[i]? = some r → f.name ≠ "_" ∧ ∃ n ls, sizeP P f.type = some n ∧ eqLeaves P d f.type = some ls ∧ (∀ x ∈ ls, x.1 < n) ∧
                allV ls (fun o => xs[f.offset + o]?) (fun o => ys[f.offset + o]?) = some r := by
            intro l
            induction l with
            | nil =>
              intro ls r h hv
              obtain rfl := Option.some.inj h
              obtain rfl := Option.some.inj hv
              exact ⟨[], rfl, rfl, fun i f r hf => by simp at hf⟩
            | cons f l ihl =>
              intro ls r h hv
              simp only [List.foldr_cons] at h
              split at h
              · cases h
              · rename_i hname
                obtain ⟨n, a, b, h1, h2, h3, h4, rfl⟩ := joinL_some h
                obtain ⟨u, v, h5, h6, rfl⟩ := allV_append hv
                obtain ⟨rs, h7, h8, h9⟩ := ihl b v h3 h6
                refine ⟨u :: rs, by simp [h7], by simp [h8], fun i g w hg hw => ?_⟩
                cases i with
                | zero =>
                  simp only [List.getElem?_cons_zero, Option.some.injEq] at hg hw
                  subst hg; subst hw
                  exact ⟨hname, n, a, h1, h2, h4, by rw [← h5, allV_shift]⟩
                | succ i => exact h9 i g w (by simpa using hg) (by simpa using hw)
          obtain ⟨rs, h1, h2, h3⟩ := key _ _ _ h hv
          refine eqLoop fs.toList rs h1 (fun i f w hf hw s K' hK' => ?_) _ ?_
          · obtain ⟨hname, n, a, e1, e2, e3, e4⟩ := h3 i f w hf hw
            simp only [hname, ne_eq, not_false_eq_true, if_true]
            refine part_eq ih e1 e2 e3 e4 _ _ ?_
            cases w <;> exact hK'
          · rw [nxt_ok, h2]
            cases r <;> exact hK
      · rename_i len e ht
        split at h
        · rename_i n hn
          rw [awpS_bind, awpS_underlying ht, nxt_ok]
          simp only []
          rw [awpS_bind, awpS_sizeOf hn, nxt_ok, awpS_bind]
          have key : ∀ (l : List Nat) (ls : List (Nat × Leaf)) (r : Bool), l.foldr (fun i acc => joinL (i * n) (some n) (eqLeaves P d e) acc) (some []) = some ls →
              allV ls (fun i => xs[i]?) (fun i => ys[i]?) = some r → ∃ rs : List Bool, l.length = rs.length ∧ rs.all id = r ∧ ∀ (i : Nat) f r, l[i]? = some f → rs[i]? = some r → ∃ ls, eqLeaves P d e = some ls ∧ (∀ x ∈ ls, x.1 < n) ∧
                allV ls (fun o => xs[f * n + o]?) (fun o => ys[f * n + o]?) = some r := by
            intro l
            induction l with
            | nil =>
              intro ls r h hv
              obtain rfl := Option.some.inj h
              obtain rfl := Option.some.inj hv
              exact ⟨[], rfl, rfl, fun i f r hf => by simp at hf⟩
            | cons f l ihl =>
              intro ls r h hv
              simp only [List.foldr_cons] at h
              obtain ⟨m, a, b, h1, h2, h3, h4, rfl⟩ := joinL_some h
              cases h1
              obtain ⟨u, v, h5, h6, rfl⟩ := allV_append hv
              obtain ⟨rs, h7, h8, h9⟩ := ihl b v h3 h6
              refine ⟨u :: rs, by simp [h7], by simp [h8], fun i g w hg hw => ?_⟩
              cases i with
              | zero =>
                simp only [List.getElem?_cons_zero, Option.some.injEq] at hg hw
                subst hg; subst hw
                exact ⟨a, h2, h4, by rw [← h5, allV_shift]⟩
              | succ i => exact h9 i g w (by simpa using hg) (by simpa using hw)
          obtain ⟨rs, h1, h2, h3⟩ := key _ _ _ h hv
          have hr : (forIn [:len] (none, ()) fun i __s => (do
            let __do_lift ← part e xs (i * n)
            let __do_lift_1 ← part e ys (i * n)
            let __do_lift ← Op.equalIn (k + d) e __do_lift __do_lift_1
            if (!__do_lift) = true then pure (ForInStep.done (some false, ())) else pure (ForInStep.yield (none, ())) : Sem (ForInStep (Option Bool × Unit)))) = forIn (List.range len) (none, ()) fun i __s => (do
            let __do_lift ← part e xs (i * n)
            let __do_lift_1 ← part e ys (i * n)
            let __do_lift ← Op.equalIn (k + d) e __do_lift __do_lift_1
            if (!__do_lift) = true then pure (ForInStep.done (some false, ())) else pure (ForInStep.yield (none, ()))) := by
            simp [List.range_eq_range']
          rw [hr]
          refine eqLoop (List.range len) rs h1 (fun i f w hf hw s K' hK' => ?_) _ ?_
          · obtain ⟨a, e2, e3, e4⟩ := h3 i f w hf hw
            refine part_eq ih hn e2 e3 e4 _ _ ?_
            cases w <;> exact hK'
          · rw [nxt_ok, h2]
            cases r <;> exact hK
        · cases h
      · cases h

theorem eqAll_some {t : TypeId} {ls : List (Nat × Leaf)} (h : eqAll P t = some ls) : P.eqGuardType P.depth t = false ∧ eqLeaves P 20 t = some ls := by
  unfold eqAll at h
  split at h
  · cases h
  · rename_i hc
    exact ⟨by simpa using hc, h⟩
theorem ok_eqa {op : BinOp} {t : TypeId} {x y : Operand} {a b v : Value} {H : Heap} {ls : List (Nat × Leaf)} {neg : Bool} (ho : op = if neg then .neq else .eql) (ht : aggP P t = some true) (hl : eqAll P t = some ls)
    (hv : (QI.eqa ls neg).ev [a, b] H = some v) (K : Res Value → Heap → Prop) (hK : K (.ok v) H) : awpS P (do eqGuard op t x y a b; binOp op t a b) K H := by
  obtain ⟨hg, he⟩ := eqAll_some hl
  cases a <;> cases b <;> simp only [QI.ev, reduceCtorEq] at hv
  rename_i xs ys
  obtain ⟨r, hr, rfl⟩ := Option.map_eq_some_iff.1 hv
  have hgd : ∀ K : Res Unit → Heap → Prop, K (.ok ()) H → awpS P (eqGuard op t x y (.agg xs) (.agg ys)) K H := by
    intro K2 hK2
    unfold eqGuard
    cases neg <;> (simp only [Bool.false_eq_true, if_false, if_true] at ho; subst ho)
    all_goals
      simp only [Bool.not_true, Bool.false_eq_true, if_false]
      rw [awpS_bind, awpS_program, nxt_ok, awpS_bind, awpS_program, nxt_ok, hg]
      exact hK2
  rw [awpS_bind]
  refine hgd _ ?_
  rw [nxt_ok]
  have heq : ∀ K : Res Bool → Heap → Prop, K (.ok r) H → awpS P (Op.equal t (.agg xs) (.agg ys)) K H := fun K hK => (eq_ok 20 9980 t ls he H r K hK).2 xs ys ht hr
  cases neg with
  | false =>
    simp only [Bool.false_eq_true, if_false] at ho
    subst ho
    show awpS P (do pure (.bool (← Op.equal t (.agg xs) (.agg ys)))) K H
    rw [awpS_bind]
    refine heq _ ?_
    rw [nxt_ok, awpS_pure]
    simpa using hK
  | true =>
    simp only [if_true] at ho
    subst ho
    show awpS P (do pure (.bool (!(← Op.equal t (.agg xs) (.agg ys))))) K H
    rw [awpS_bind]
    refine heq _ ?_
    rw [nxt_ok, awpS_pure]
    simpa using hK
end
end Go.Proofs.YtgbhdpeibiglfaaDoor.Sep
