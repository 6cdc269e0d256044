/-
  MEMORY IN PARTS: a weakest precondition of the model's small programs ('Sem') over a known part of the heap, sound over any world that has that part; calls with a frame.
-/
import Derived.Orders
import Derived.Below
import Derived.KernelRfl
set_option linter.unusedVariables false
set_option linter.unusedSimpArgs false
namespace Go.Proofs.YtgbhdpeibiglfaaDoor.Sep
open Go Go.RowKit

/-- What is known of the heap. -/
abbrev Heap := Nat → Option Obj
namespace Heap
def cell? (H : Heap) (a : Addr) : Option Value :=
  match H a.block with
  | some (.cells c _ _) => if a.spot.isSome then none else c[a.off]?
  | _ => none
def frozen? (H : Heap) (a : Addr) : Bool :=
  match H a.block with
  | some (.cells _ _ (lo, hi)) => lo ≤ a.off && a.off < hi
  | _ => false
def set (H : Heap) (r : Nat) (o : Obj) : Heap := fun k => if k = r then some o else H k
def setCell (H : Heap) (a : Addr) (v : Value) : Heap := fun k =>
  if k = a.block then (H k).map fun
    | .cells c e f => .cells (if a.spot.isSome then c else c.setIfInBounds a.off v) e f
    | o => o
  else H k
def freeze (H : Heap) (a : Addr) (n : Nat) : Heap := if n = 0 then H else fun k =>
  if k = a.block then (H k).map fun
    | .cells c elem (lo, hi) => .cells c elem (if lo == hi then (a.off, a.off + n) else (min lo a.off, max hi (a.off + n)))
    | o => o
  else H k
end Heap

/-- The world has this part. -/
def Sees (H : Heap) (w : World) : Prop := ∀ r o, H r = some o → w.heap[r]? = some o
/-- From (H, w) to (H', w'): nothing beside the known part was turned, all that is newly known is new. -/
structure Ext (H : Heap) (w : World) (H' : Heap) (w' : World) : Prop where
  os : w'.os = w.os
  tape : w'.tape = w.tape
  output : w'.output = w.output
  size : w.heap.size ≤ w'.heap.size
  keep : ∀ r, r < w.heap.size → H r = none → w'.heap[r]? = w.heap[r]?
  new : ∀ r, H' r ≠ none → H r ≠ none ∨ w.heap.size ≤ r
theorem Ext.refl (H : Heap) (w : World) : Ext H w H w := ⟨rfl, rfl, rfl, Nat.le_refl _, fun _ _ _ => rfl, fun _ h => .inl h⟩
theorem Ext.trans {H H1 H2 : Heap} {w w1 w2 : World} (h : Ext H w H1 w1) (k : Ext H1 w1 H2 w2) : Ext H w H2 w2 := by
  refine ⟨k.os.trans h.os, k.tape.trans h.tape, k.output.trans h.output, Nat.le_trans h.size k.size, fun r hr hn => ?_, fun r hr => ?_⟩
  · rw [k.keep r (Nat.lt_of_lt_of_le hr h.size) ?_, h.keep r hr hn]
    cases h1 : H1 r with
    | none => rfl
    | some o =>
      rcases h.new r (by rw [h1]; simp) with h2 | h2
      · exact absurd hn h2
      · omega
  · rcases k.new r hr with h1 | h1
    · exact h.new r h1
    · exact .inr (Nat.le_trans h.size h1)
theorem Sees.lt {H : Heap} {w : World} (h : Sees H w) {r : Nat} {o : Obj} (hr : H r = some o) : r < w.heap.size :=
  (Array.getElem?_eq_some_iff.1 (h r o hr)).1
theorem Sees.weaken {H H1 : Heap} {w : World} (h : Sees H w) (hs : ∀ r o, H1 r = some o → H r = some o) : Sees H1 w := fun r o hr => h r o (hs r o hr)
theorem Ext.weaken {H H' H1 : Heap} {w w' : World} (h : Ext H w H' w') (hs : ∀ r o, H1 r = some o → H' r = some o) : Ext H w H1 w' :=
  ⟨h.os, h.tape, h.output, h.size, h.keep, fun r hr => h.new r (by
    cases h1 : H1 r with
    | none => exact absurd h1 hr
    | some o => rw [hs r o h1]; simp)⟩
theorem Ext.drew {H H' : Heap} {w w' : World} (h : Ext H w H' w') (n : Nat) : Ext H w H' { w' with drawn := n } := ⟨h.os, h.tape, h.output, h.size, h.keep, h.new⟩
theorem Sees.drew {H : Heap} {w : World} (h : Sees H w) (n : Nat) : Sees H { w with drawn := n } := h

theorem Sees.cell {H : Heap} {w : World} (h : Sees H w) {a : Addr} {v : Value} (hc : H.cell? a = some v) : w.cell? a = some v := by
  unfold Heap.cell? at hc
  unfold World.cell?
  cases hb : H a.block with
  | none => rw [hb] at hc; cases hc
  | some o => rw [hb] at hc; rw [h _ _ hb]; exact hc
theorem Sees.frozen {H : Heap} {w : World} (h : Sees H w) {a : Addr} (hk : H a.block ≠ none) : w.frozen? a = H.frozen? a := by
  unfold Heap.frozen? World.frozen?
  cases hb : H a.block with
  | none => exact absurd hb hk
  | some o => rw [h _ _ hb]; cases o <;> rfl
theorem Heap.cell_known {H : Heap} {a : Addr} {v : Value} (hc : H.cell? a = some v) : H a.block ≠ none := by
  intro h; unfold Heap.cell? at hc; rw [h] at hc; cases hc

theorem sees_setCell {H : Heap} {w : World} (h : Sees H w) (a : Addr) (v : Value) : Sees (H.setCell a v) (w.setCell a v) := by
  intro r o hr
  unfold Heap.setCell at hr
  simp only [World.setCell, Array.getElem?_modify]
  by_cases e : r = a.block
  · subst e
    rw [if_pos rfl] at hr
    rw [if_pos rfl]
    cases hb : H a.block with
    | none => rw [hb] at hr; cases hr
    | some x =>
      rw [hb] at hr
      rw [h _ _ hb]
      cases x <;> simpa using hr
  · rw [if_neg e] at hr
    rw [if_neg (Ne.symm e)]
    exact h r o hr
theorem ext_setCell {H : Heap} {w : World} (a : Addr) (v : Value) (hk : H a.block ≠ none) : Ext H w (H.setCell a v) (w.setCell a v) := by
  refine ⟨rfl, rfl, rfl, by simp [World.setCell], fun r hr hn => ?_, fun r hr => ?_⟩
  · simp only [World.setCell, Array.getElem?_modify]
    rw [if_neg (by rintro rfl; exact hk hn)]
  · unfold Heap.setCell at hr
    by_cases e : r = a.block
    · subst e; exact .inl hk
    · rw [if_neg e] at hr; exact .inl hr
theorem sees_freeze {H : Heap} {w : World} (h : Sees H w) (a : Addr) (n : Nat) : Sees (H.freeze a n) (w.freeze a n) := by
  intro r o hr
  unfold Heap.freeze at hr
  unfold World.freeze
  by_cases hn : n = 0
  · rw [if_pos hn] at hr ⊢; exact h r o hr
  · rw [if_neg hn] at hr ⊢
    simp only [Array.getElem?_modify]
    by_cases e : r = a.block
    · subst e
      rw [if_pos rfl] at hr
      rw [if_pos rfl]
      cases hb : H a.block with
      | none => rw [hb] at hr; cases hr
      | some x => rw [hb] at hr; rw [h _ _ hb]; cases x <;> simpa using hr
    · rw [if_neg e] at hr
      rw [if_neg (Ne.symm e)]
      exact h r o hr
theorem ext_freeze {H : Heap} {w : World} (a : Addr) (n : Nat) (hk : H a.block ≠ none) : Ext H w (H.freeze a n) (w.freeze a n) := by
  unfold Heap.freeze World.freeze
  by_cases hn : n = 0
  · rw [if_pos hn, if_pos hn]; exact Ext.refl _ _
  · rw [if_neg hn, if_neg hn]
    refine ⟨rfl, rfl, rfl, by simp, fun r hr hnn => ?_, fun r hr => ?_⟩
    · simp only [Array.getElem?_modify]
      rw [if_neg (by rintro rfl; exact hk hnn)]
    · by_cases e : r = a.block
      · subst e; exact .inl hk
      · rw [if_neg e] at hr; exact .inl hr
theorem sees_new {H : Heap} {w : World} (h : Sees H w) (o : Obj) : Sees (H.set w.heap.size o) { w with heap := w.heap.push o } := by
  intro r x hr
  unfold Heap.set at hr
  simp only [Array.getElem?_push]
  by_cases e : r = w.heap.size
  · rw [if_pos e] at hr ⊢; exact hr
  · rw [if_neg e] at hr ⊢; exact h r x hr
theorem ext_new (H : Heap) (w : World) (o : Obj) : Ext H w (H.set w.heap.size o) { w with heap := w.heap.push o } := by
  refine ⟨rfl, rfl, rfl, by simp, fun r hr hn => ?_, fun r hr => ?_⟩
  · simp only [Array.getElem?_push]; rw [if_neg (by omega)]
  · unfold Heap.set at hr
    by_cases e : r = w.heap.size
    · exact .inr (by omega)
    · rw [if_neg e] at hr; exact .inl hr
theorem sees_setObj {H : Heap} {w : World} (h : Sees H w) (r : Nat) (o : Obj) (hk : H r ≠ none) : Sees (H.set r o) { w with heap := w.heap.setIfInBounds r o } := by
  intro k x hx
  unfold Heap.set at hx
  by_cases e : k = r
  · rw [if_pos e] at hx
    subst e
    cases hb : H k with
    | none => exact absurd hb hk
    | some y =>
      have := h.lt hb
      simp [Array.getElem?_setIfInBounds, this, ← hx]
  · rw [if_neg e] at hx
    simp only [Array.getElem?_setIfInBounds_ne (Ne.symm e)]
    exact h k x hx
theorem ext_setObj {H : Heap} {w : World} (r : Nat) (o : Obj) (hk : H r ≠ none) : Ext H w (H.set r o) { w with heap := w.heap.setIfInBounds r o } := by
  refine ⟨rfl, rfl, rfl, by simp, fun k hr hn => ?_, fun k hr => ?_⟩
  · have : k ≠ r := by rintro rfl; exact hk hn
    simp only [Array.getElem?_setIfInBounds_ne (Ne.symm this)]
  · unfold Heap.set at hr
    by_cases e : k = r
    · subst e; exact .inl hk
    · rw [if_neg e] at hr; exact .inl hr

/-- behind all that is known -/
def Newer (H : Heap) (r : Nat) : Prop := ∀ q, H q ≠ none → q < r
theorem Newer.none {H : Heap} {r : Nat} (h : Newer H r) : H r = none := by
  cases e : H r with
  | none => rfl
  | some o => have := h r (by rw [e]; simp); omega
/-- How a small program ends here: with a value, or with a panic. -/
inductive Res (α : Type) where
  | ok (a : α)
  | panic (v : Value)

/-- The weakest precondition of a small program over the known part. -/
def awpS {α : Type} (P : Program) : Sem α → (Res α → Heap → Prop) → Heap → Prop
  | .pure a, K, H => K (.ok a) H
  | .load _ a k, K, H => match H.cell? a with
    | some v => awpS P (k v) K H
    | none => False
  | .store _ a v k, K, H => (∀ cs, v ≠ .agg cs) ∧ (∀ cs, v ≠ .tuple cs) ∧ (H.cell? a).isSome = true ∧ H.frozen? a = false ∧ awpS P k K (H.setCell a v)
  | .new o k, K, H => ∀ r, Newer H r → awpS P (k r) K (H.set r o)
  | .shape r k, K, H => match H r with
    | some (.cells c e _) => awpS P (k (some (e, c.size))) K H
    | some _ => awpS P (k none) K H
    | none => False
  | .freeze a n k, K, H => H a.block ≠ none ∧ awpS P k K (H.freeze a n)
  | .frozen a k, K, H => H a.block ≠ none ∧ awpS P (k (H.frozen? a)) K H
  | .getObj r k, K, H => match H r with
    | some (.cells ..) => False
    | some o => awpS P (k o) K H
    | none => False
  | .setObj r o k, K, H => match H r with
    | some (.cells ..) => False
    | some _ => awpS P k K (H.set r o)
    | none => False
  | .choose q k, K, H => if q.forced then awpS P (k 0) K H else ∀ t, awpS P (k (q.cut t)) K H
  | .sys _ _, _, _ => False
  | .program k, K, H => awpS P (k P) K H
  | .mark _ k, K, H => awpS P k K H
  | .halt (.panic v), K, H => K (.panic v) H
  | .halt _, _, _ => False

/-- What a run ends with. -/
def RunsTo {α : Type} (K : Res α → Heap → Prop) (H : Heap) (w : World) : Result α → Prop
  | .ok a w' => ∃ H', K (.ok a) H' ∧ Sees H' w' ∧ Ext H w H' w'
  | .halt (.panic v) w' => ∃ H', K (.panic v) H' ∧ Sees H' w' ∧ Ext H w H' w'
  | _ => False
theorem RunsTo.from {α : Type} {K : Res α → Heap → Prop} {H H1 : Heap} {w w1 : World} (he : Ext H w H1 w1) {r : Result α} (h : RunsTo K H1 w1 r) : RunsTo K H w r := by
  cases r with
  | ok a w' => obtain ⟨H', a, b, c⟩ := h; exact ⟨H', a, b, he.trans c⟩
  | halt x w' => cases x <;> first | (obtain ⟨H', a, b, c⟩ := h; exact ⟨H', a, b, he.trans c⟩) | exact h.elim

theorem awpS_run {α : Type} {P : Program} (s : Sem α) : ∀ {K : Res α → Heap → Prop} {H : Heap} {w : World}, awpS P s K H → Sees H w → RunsTo K H w (s.run P w) := by
  induction s with
  | pure a => intro K H w h hs; exact ⟨H, h, hs, Ext.refl _ _⟩
  | load m a k ih =>
    intro K H w h hs
    simp only [awpS] at h
    cases hc : H.cell? a with
    | none => rw [hc] at h; exact h.elim
    | some v =>
      rw [hc] at h
      simp only [Sem.run, hs.cell hc]
      exact ih v h hs
  | store m a v k ih =>
    intro K H w h hs
    simp only [awpS] at h
    obtain ⟨h1, h2, h3, h4, h5⟩ := h
    obtain ⟨u, hu⟩ := Option.isSome_iff_exists.1 h3
    have hk := Heap.cell_known hu
    have hw : (Sem.store m a v k).run P w = k.run P (w.setCell a v) := by
      cases v <;> first
        | exact absurd rfl (h1 _)
        | exact absurd rfl (h2 _)
        | simp [Sem.run, hs.cell hu, hs.frozen hk, h4]
    rw [hw]
    exact (ih h5 (sees_setCell hs a v)).from (ext_setCell a v hk)
  | new o k ih =>
    intro K H w h hs
    simp only [awpS] at h
    have hn : Newer H w.heap.size := fun q hq => by
      cases hb : H q with
      | none => exact absurd hb hq
      | some x => exact hs.lt hb
    simp only [Sem.run]
    exact (ih _ (h _ hn) (sees_new hs o)).from (ext_new _ _ _)
  | shape r k ih =>
    intro K H w h hs
    simp only [awpS] at h
    cases hb : H r with
    | none => rw [hb] at h; exact h.elim
    | some o =>
      rw [hb] at h
      simp only [Sem.run, World.shape?, hs _ _ hb]
      cases o <;> exact ih _ h hs
  | freeze a n k ih =>
    intro K H w h hs
    simp only [awpS] at h
    simp only [Sem.run]
    exact (ih h.2 (sees_freeze hs a n)).from (ext_freeze a n h.1)
  | frozen a k ih =>
    intro K H w h hs
    simp only [awpS] at h
    simp only [Sem.run, hs.frozen h.1]
    exact ih _ h.2 hs
  | getObj r k ih =>
    intro K H w h hs
    simp only [awpS] at h
    cases hb : H r with
    | none => rw [hb] at h; exact h.elim
    | some o =>
      rw [hb] at h
      simp only [Sem.run, hs _ _ hb]
      cases o <;> first | exact h.elim | exact ih _ h hs
  | setObj r o k ih =>
    intro K H w h hs
    simp only [awpS] at h
    have hk : H r ≠ none := by intro hb; rw [hb] at h; exact h
    cases hb : H r with
    | none => exact absurd hb hk
    | some x =>
      rw [hb] at h
      simp only [Sem.run, hs _ _ hb]
      cases x <;> first | exact h.elim | exact (ih h (sees_setObj hs r o hk)).from (ext_setObj r o hk)
  | choose q k ih =>
    intro K H w h hs
    simp only [awpS] at h
    simp only [Sem.run]
    split
    · rename_i hq; rw [if_pos hq] at h; exact ih _ h hs
    · rename_i hq
      rw [if_neg hq] at h
      exact (ih _ (h _) (hs.drew _)).from ((Ext.refl H w).drew _)
  | sys c k ih => intro K H w h hs; exact h.elim
  | program k ih => intro K H w h hs; simp only [awpS] at h; simp only [Sem.run]; exact ih _ h hs
  | mark m k ih => intro K H w h hs; simp only [awpS] at h; simp only [Sem.run]; exact ih h hs
  | halt x => intro K H w h hs; cases x <;> first | exact h.elim | exact ⟨H, h, hs, Ext.refl _ _⟩

/-- What follows a value; a panic passes. -/
def nxt {α β : Type} (P : Program) (f : α → Sem β) (K : Res β → Heap → Prop) : Res α → Heap → Prop
  | .ok a, H => awpS P (f a) K H
  | .panic v, H => K (.panic v) H
theorem awpS_bind {α β : Type} {P : Program} (s : Sem α) (f : α → Sem β) : ∀ (K : Res β → Heap → Prop) (H : Heap), awpS P (s >>= f) K H = awpS P s (nxt P f K) H := by
  show ∀ (K : Res β → Heap → Prop) (H : Heap), awpS P (Sem.bind s f) K H = awpS P s (nxt P f K) H
  induction s with
  | pure a => intro K H; rfl
  | load m a k ih => intro K H; simp only [Sem.bind, awpS, ih]
  | store m a v k ih => intro K H; simp only [Sem.bind, awpS, ih]
  | new o k ih => intro K H; simp only [Sem.bind, awpS, ih]
  | shape r k ih => intro K H; simp only [Sem.bind, awpS, ih]
  | freeze a n k ih => intro K H; simp only [Sem.bind, awpS, ih]
  | frozen a k ih => intro K H; simp only [Sem.bind, awpS, ih]
  | getObj r k ih => intro K H; simp only [Sem.bind, awpS, ih]
  | setObj r o k ih => intro K H; simp only [Sem.bind, awpS, ih]
  | choose q k ih => intro K H; simp only [Sem.bind, awpS, ih]
  | sys c k ih => intro K H; simp only [Sem.bind, awpS]
  | program k ih => intro K H; simp only [Sem.bind, awpS, ih]
  | mark m k ih => intro K H; simp only [Sem.bind, awpS, ih]
  | halt x => intro K H; cases x <;> rfl

/-- A call, over a known part: whatever else the world holds stays. -/
def ACalls (P : Program) (f : FuncId) (args : Array Value) (H : Heap) (S : Ending → Heap → Prop) : Prop :=
  ∀ w, Sees H w → Calls P f args w fun e w' => ∃ H', S e H' ∧ Sees H' w' ∧ Ext H w H' w'
theorem ACalls.mono {P : Program} {f : FuncId} {args : Array Value} {H : Heap} {S S' : Ending → Heap → Prop} (h : ACalls P f args H S) (hs : ∀ e H', S e H' → S' e H') : ACalls P f args H S' :=
  fun w hw => (h w hw).mono fun e w' ⟨H', a, b⟩ => ⟨H', hs _ _ a, b⟩
/-- what is known may be forgotten -/
theorem ACalls.forget {P : Program} {f : FuncId} {args : Array Value} {H : Heap} {S S' : Ending → Heap → Prop} (h : ACalls P f args H S)
    (hs : ∀ e H', S e H' → ∃ H1, S' e H1 ∧ ∀ r o, H1 r = some o → H' r = some o) : ACalls P f args H S' :=
  fun w hw => (h w hw).mono fun e w' ⟨H', a, b, c⟩ => let ⟨H1, a1, k⟩ := hs _ _ a; ⟨H1, a1, b.weaken k, c.weaken k⟩
end Go.Proofs.YtgbhdpeibiglfaaDoor.Sep
