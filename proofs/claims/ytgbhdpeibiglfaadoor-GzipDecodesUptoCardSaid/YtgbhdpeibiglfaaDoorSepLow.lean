/-
  THE OPERATIONS IN SHORT ARE THE MODEL'S: each shown against 'execOp'.
-/
import Derived.Test.YtgbhdpeibiglfaaDoorSepIns
set_option linter.unusedVariables false
set_option linter.unusedSimpArgs false
namespace Go.Proofs.YtgbhdpeibiglfaaDoor.Sep
open Go Go.RowKit
section
variable {P : Program}

theorem awpS_pure {α : Type} (a : α) (K : Res α → Heap → Prop) (H : Heap) : awpS P (pure a) K H = K (.ok a) H := rfl
theorem awpS_program (K : Res Program → Heap → Prop) (H : Heap) : awpS P program K H = K (.ok P) H := rfl
theorem nxt_ok {α β : Type} (f : α → Sem β) (K : Res β → Heap → Prop) (a : α) (H : Heap) : nxt P f K (.ok a) H = awpS P (f a) K H := rfl
theorem awpS_typeInfo {t : TypeId} {i : TypeInfo} (h : P.info? t = some i) (K : Res TypeInfo → Heap → Prop) (H : Heap) : awpS P (typeInfo t) K H = K (.ok i) H := by
  unfold typeInfo; rw [awpS_bind, awpS_program, nxt_ok]; simp only [h]; rfl
theorem awpS_underlying {t : TypeId} {d : TypeDesc} (h : P.underlying t = some d) (K : Res TypeDesc → Heap → Prop) (H : Heap) : awpS P (underlying t) K H = K (.ok d) H := by
  unfold underlying; rw [awpS_bind, awpS_program, nxt_ok]; simp only [h]; rfl
theorem awpS_sizeOf {t : TypeId} {n : Nat} (h : sizeP P t = some n) (K : Res Nat → Heap → Prop) (H : Heap) : awpS P (sizeOf t) K H = K (.ok n) H := by
  obtain ⟨i, hi, rfl⟩ := Option.map_eq_some_iff.1 h
  unfold sizeOf; rw [awpS_bind, awpS_typeInfo hi, nxt_ok]; rfl
theorem awpS_zeroValue {t : TypeId} {z : Value} {i : TypeInfo} (h : P.info? t = some i) (hz : i.zero = some z) (K : Res Value → Heap → Prop) (H : Heap) : awpS P (zeroValue t) K H = K (.ok z) H := by
  unfold zeroValue; rw [awpS_bind, awpS_typeInfo h, nxt_ok]; simp only [hz]; rfl
theorem awpS_isAgg {t : TypeId} {b : Bool} (h : aggP P t = some b) (K : Res Bool → Heap → Prop) (H : Heap) : awpS P (isAgg t) K H = K (.ok b) H := by
  obtain ⟨d, hd, rfl⟩ := Option.map_eq_some_iff.1 h
  unfold isAgg; rw [awpS_bind, awpS_underlying hd, nxt_ok]
  cases d <;> rfl
theorem awpS_load {a : Addr} {v : Value} {H : Heap} (h : H.cell? a = some v) (m : Mode) (K : Res Value → Heap → Prop) : awpS P (load a m) K H = K (.ok v) H := by
  unfold load; simp only [awpS, h]
theorem awpS_loadCellsFrom {a : Addr} {H : Heap} (K : Res (Array Value) → Heap → Prop) : ∀ (n i : Nat) (acc : Array Value) (l : List Value), H.loadN a i n = some l → awpS P (loadCellsFrom a i n acc) K H = K (.ok (acc ++ l.toArray)) H
  | 0, i, acc, l, h => by
    simp only [Heap.loadN, Option.some.injEq] at h
    subst h
    show K (.ok acc) H = _
    simp
  | n + 1, i, acc, l, h => by
    simp only [Heap.loadN] at h
    cases hc : H.cell? (a.add i) with
    | none => rw [hc] at h; cases h
    | some v =>
      rw [hc] at h
      obtain ⟨l', hl, rfl⟩ := Option.map_eq_some_iff.1 h
      unfold loadCellsFrom
      rw [awpS_bind, awpS_load hc, nxt_ok, awpS_loadCellsFrom K n (i + 1) (acc.push v) l' hl]
      congr 2
      simp
theorem awpS_loadCells {a : Addr} {H : Heap} {n : Nat} {l : List Value} (h : H.loadN a 0 n = some l) (K : Res (Array Value) → Heap → Prop) : awpS P (loadCells a n) K H = K (.ok l.toArray) H := by
  unfold loadCells; rw [awpS_loadCellsFrom K n 0 #[] l h]; simp
theorem awpS_storeCells {a : Addr} (K : Res Unit → Heap → Prop) : ∀ (vs : List Value) (i : Nat) (H H' : Heap), H.storeN a i vs = some H' → K (.ok ()) H' → awpS P (storeCells a vs i) K H
  | [], i, H, H', h, hk => by
    simp only [Heap.storeN, Option.some.injEq] at h; subst h; exact hk
  | v :: rest, i, H, H', h, hk => by
    simp only [Heap.storeN] at h
    split at h
    · rename_i hc
      simp only [Bool.and_eq_true, Bool.not_eq_true'] at hc
      unfold storeCells
      rw [awpS_bind]
      unfold store
      simp only [awpS, nxt_ok]
      refine ⟨fun cs e => ?_, fun cs e => ?_, hc.1.2, hc.2, awpS_storeCells K rest (i + 1) _ H' h hk⟩
      · subst e; simp [scalarV] at hc
      · subst e; simp [scalarV] at hc
    · cases h
theorem awpS_loadVar {t : TypeId} {a : Addr} {H : Heap} {b : Bool} {n : Nat} {v : Value} (hb : aggP P t = some b) (hn : b = true → sizeP P t = some n)
    (hv : if b then (∃ l, H.loadN a 0 n = some l ∧ v = .agg l.toArray) else H.cell? a = some v) (K : Res Value → Heap → Prop) : awpS P (loadVar t a) K H = K (.ok v) H := by
  unfold loadVar
  rw [awpS_bind, awpS_isAgg hb, nxt_ok]
  cases b with
  | true =>
    obtain ⟨l, hl, rfl⟩ := hv
    simp only [if_true]
    rw [awpS_bind, awpS_sizeOf (hn rfl), nxt_ok, awpS_bind, awpS_loadCells hl, nxt_ok]; rfl
  | false =>
    simp only [Bool.false_eq_true, if_false] at hv ⊢
    exact awpS_load hv _ K
theorem awpS_part {t : TypeId} {cs : Array Value} {off : Nat} {H : Heap} {b : Bool} {n : Nat} {v : Value} (hb : aggP P t = some b) (hn : b = true → sizeP P t = some n)
    (hv : (if b then some (.agg (cs.extract off (off + n))) else cs[off]?) = some v) (K : Res Value → Heap → Prop) : awpS P (part t cs off) K H = K (.ok v) H := by
  unfold part
  rw [awpS_bind, awpS_isAgg hb, nxt_ok]
  cases b with
  | true =>
    simp only [if_true, Option.some.injEq] at hv ⊢
    subst hv
    rw [awpS_bind, awpS_sizeOf (hn rfl), nxt_ok]; rfl
  | false =>
    simp only [Bool.false_eq_true, if_false] at hv ⊢
    rw [hv]; rfl
theorem awpS_sliceBound {x : Value} {y n : Nat} {c : BoundsCode} (h : boundV x y = some n) (K : Res Nat → Heap → Prop) (H : Heap) : awpS P (Instr.sliceBound x y c) K H = K (.ok n) H := by
  cases x <;> simp only [boundV, reduceCtorEq] at h
  rename_i k i
  split at h
  · rename_i hi
    obtain rfl := Option.some.inj h
    unfold Instr.sliceBound asIntOf
    rw [awpS_bind, awpS_pure, nxt_ok]
    simp only [hi, and_self, if_true]
    rfl
  · cases h
theorem map_add_zero (a : Option Addr) : a.map (·.add 0) = a := by cases a <;> simp [Addr.add]
theorem awpS_sliceBounds {isSlice : Bool} {len cap : Nat} {lo hi mx : Option Operand} {ρ : Operand → Value} {r : Nat × Nat × Nat} (h : boundsV len cap lo.isSome hi.isSome mx.isSome ((boundOps lo hi mx).map ρ) = some r)
    (K : Res (Nat × Nat × Nat) → Heap → Prop) (H : Heap) : awpS P (Instr.sliceBounds isSlice len cap (lo.map ρ) (hi.map ρ) (mx.map ρ)) K H = K (.ok r) H := by
  unfold Instr.sliceBounds
  cases lo <;> cases hi <;> cases mx <;> simp only [boundOps, Option.toList, List.nil_append, List.cons_append, List.append_nil, List.map_cons, List.map_nil, Option.isSome, boundsV, reduceCtorEq] at h
  · obtain rfl := Option.some.inj h
    simp only [Option.map_none, awpS_bind, awpS_pure, nxt_ok]
  · obtain ⟨a, ha, rfl⟩ := Option.map_eq_some_iff.1 h
    simp only [Option.map_none, Option.map_some, awpS_bind, awpS_pure, nxt_ok, awpS_sliceBound ha]
  · obtain ⟨a, ha, h⟩ := Option.bind_eq_some_iff.1 h
    obtain ⟨b, hb, rfl⟩ := Option.map_eq_some_iff.1 h
    simp only [Option.map_none, Option.map_some, awpS_bind, awpS_pure, nxt_ok, awpS_sliceBound ha, awpS_sliceBound hb]
  · obtain ⟨a, ha, rfl⟩ := Option.map_eq_some_iff.1 h
    simp only [Option.map_none, Option.map_some, awpS_bind, awpS_pure, nxt_ok, awpS_sliceBound ha]
  · obtain ⟨a, ha, h⟩ := Option.bind_eq_some_iff.1 h
    obtain ⟨b, hb, rfl⟩ := Option.map_eq_some_iff.1 h
    simp only [Option.map_none, Option.map_some, awpS_bind, awpS_pure, nxt_ok, awpS_sliceBound ha, awpS_sliceBound hb]
  · obtain ⟨a, ha, h⟩ := Option.bind_eq_some_iff.1 h
    obtain ⟨b, hb, h⟩ := Option.bind_eq_some_iff.1 h
    obtain ⟨c, hc, rfl⟩ := Option.map_eq_some_iff.1 h
    simp only [Option.map_none, Option.map_some, awpS_bind, awpS_pure, nxt_ok, awpS_sliceBound ha, awpS_sliceBound hb, awpS_sliceBound hc]
end
end Go.Proofs.YtgbhdpeibiglfaaDoor.Sep
