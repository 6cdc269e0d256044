/-
  HOW AN ARGUMENT IS OPENED, kind by kind: out of the form's reading of a value ('DataW.trod') what its cells are in memory, that its numbers are of their kinds, and how much it holds ('uptoBulk'). And how a walk over memory in parts is a walk over the world.
-/
import Derived.Test.YtgbhdpeibiglfaaDoorRows
import Derived.Test.YtgbhdpeibiglfaaDoorSepTy
import Derived.WalkKit
import Derived.ProofKit
import Derived.OpenShut
import Derived.ShutString
import Derived.SizedLaws
import Derived.Deep.CondSized
set_option linter.unusedVariables false
set_option linter.unusedSimpArgs false
namespace Go.Proofs.YtgbhdpeibiglfaaDoor.Sep
open Go Go.RowKit

/-- the whole heap, known -/
def heapOf (w : World) : Heap := fun r => w.heap[r]?
theorem sees_heapOf (w : World) : Sees (heapOf w) w := fun r o h => h
theorem cell_heapOf (w : World) (a : Addr) : (heapOf w).cell? a = w.cell? a := rfl

/-- A law's walk: nothing that was there is turned. -/
theorem walk_of {P : Program} {f : FuncId} {args : List Value} {w : World} {r : Value} (h : ACalls P f args.toArray (heapOf w) fun e H' => e = .returned r ∧ Keep (heapOf w) H') :
    Calls P f args.toArray w fun e w' => e = .returned r ∧ Below w.heap.size w w' := by
  refine (h w (sees_heapOf w)).mono ?_
  rintro e w' ⟨H', ⟨he, hk⟩, hs, hx⟩
  refine ⟨he, hx.os, hx.tape, hx.output, hx.size, fun k hlt => ?_⟩
  have : w.heap[k]? = some w.heap[k] := Array.getElem?_eq_getElem hlt
  rw [this]
  exact hs k _ (hk k _ this)

theorem bulk_one {H : Type} (d : DataW H) : 1 ≤ Rows.uptoBulk d := by
  cases d with
  | lit l => cases l <;> simp [Rows.uptoBulk]
  | nil => simp [Rows.uptoBulk]
  | ptr d => simp [Rows.uptoBulk]
  | slice elems spare => simp [Rows.uptoBulk]
  | agg parts => simp [Rows.uptoBulk]
  | iface t d => simp [Rows.uptoBulk]
  | map entries => simp [Rows.uptoBulk]
  | held h => simp [Rows.uptoBulk]

/-- A type's values, opened. -/
structure Opn (P : Program) (T : TypeId) {α : Type} (d : Ty α) (wf : α → Prop) (bk : α → Nat) : Prop where
  op : ∀ {H : Type} {enc : TypeId × Value → H} {w : World} {base : Nat} {spare : Nat → Bool} {held : Bool} {fuel : Nat} {cs : List Value} {x : DataW H × List MemPlace},
    DataW.trod enc P w base spare held fuel T cs = some x → ∃ a, d.K (heapOf w) a cs ∧ wf a ∧ bk a ≤ Rows.uptoBulk x.1

section
variable {P : Program} {T E : TypeId}
theorem Opn.int {k : IntKind} (ht : P.underlying T = some (.int k)) : Opn P T (Ty.int k) (fun a => (Lit.int k a).wf = true) (fun _ => 1) := ⟨fun h => by
  obtain ⟨n, rfl, rfl, hw⟩ := DataW.trod_int ht h
  exact ⟨n, rfl, hw, bulk_one _⟩⟩
theorem Opn.bool (ht : P.underlying T = some .bool) : Opn P T Ty.bool (fun _ => True) (fun _ => 1) := ⟨fun h => by
  obtain ⟨n, rfl, rfl⟩ := DataW.trod_bool ht h
  exact ⟨n, rfl, trivial, bulk_one _⟩⟩
theorem Opn.string (ht : P.underlying T = some .string) : Opn P T Ty.string (fun s => s.size ≤ maxLen) (fun s => s.size + 1) := ⟨fun h => by
  obtain ⟨s, rfl, rfl, hs⟩ := DataW.trod_string ht h
  refine ⟨s, rfl, hs, ?_⟩
  simp [Rows.uptoBulk]⟩

theorem all_le {H : Type} {α : Type} {bk : α → Nat} : ∀ (xs : List α) (ys : List (DataW H × List MemPlace)), xs.length = ys.length → (∀ (i : Nat) a y, xs[i]? = some a → ys[i]? = some y → bk a ≤ Rows.uptoBulk y.1) →
    (xs.map bk).sum ≤ Rows.uptoBulkAll (ys.map (·.1))
  | [], [], _, _ => by simp
  | a :: xs, y :: ys, hl, h => by
    have h1 := all_le xs ys (by simpa using hl) (fun i b z hb hz => h (i + 1) b z (by simpa using hb) (by simpa using hz))
    have h2 := h 0 a y (by simp) (by simp)
    simp only [List.map_cons, List.sum_cons, Rows.uptoBulkAll]
    omega
  | [], _ :: _, hl, _ => by simp at hl
  | _ :: _, [], hl, _ => by simp at hl

theorem choose_list {β : Type} {n : Nat} {p : Nat → β → Prop} (h : ∀ i, i < n → ∃ a, p i a) : ∃ xs : List β, xs.length = n ∧ ∀ (i : Nat) a, xs[i]? = some a → p i a := by
  induction n with
  | zero => exact ⟨[], rfl, fun i a hi => by simp at hi⟩
  | succ n ih =>
    obtain ⟨xs, hl, hx⟩ := ih (fun i hi => h i (by omega))
    obtain ⟨a, ha⟩ := h n (by omega)
    refine ⟨xs ++ [a], by simp [hl], fun i b hb => ?_⟩
    rcases Nat.lt_or_ge i xs.length with h1 | h1
    · rw [List.getElem?_append_left h1] at hb
      exact hx i b hb
    · have hi : i = n := by
        have := (List.getElem?_eq_some_iff.1 hb).1
        simp at this
        omega
      subst hi
      rw [List.getElem?_append_right h1] at hb
      simp [hl] at hb
      subst hb
      exact ha

theorem cells_at {w : World} {base : Nat} {a : Addr} {n : Nat} {c : List Value} (h : w.cells? base a n = some c) : c.length = n ∧ ∀ (i : Nat) u, c[i]? = some u → w.cell? (a.add i) = some u := by
  unfold World.cells? at h
  split at h
  · have hl : c.length = n := by have := Go.mapM_some_length h; simpa using this
    refine ⟨hl, fun i u hu => ?_⟩
    have hi : i < n := by have := (List.getElem?_eq_some_iff.1 hu).1; omega
    have := Go.mapM_some_get h i i (by simp [hi])
    rw [this]; exact hu
  · cases h

theorem Opn.slice {α : Type} {d : Ty α} {wf : α → Prop} {bk : α → Nat} (ht : P.underlying T = some (.slice E)) (hE : P.cellsOf E = d.sz) (hs : 0 < d.sz) (he : Opn P E d wf bk) :
    Opn P T (Ty.slice d) (fun xs => (∀ x ∈ xs, wf x) ∧ xs.length ≤ maxLen) (fun xs => (xs.map bk).sum + 1) := ⟨fun {H enc w base spare held fuel cs x} h => by
  rcases DataW.trod_slice ht h with ⟨rfl, rfl⟩ | ⟨a, len, cap, elems, rest, n, _, rfl, rfl, hb, hl, hm, hlen, hel, _, _⟩
  · refine ⟨[], ⟨none, 0, [], rfl, Nat.le_refl _, ⟨rfl, fun i x c hx => by simp at hx, fun i v hv => by simp at hv⟩⟩, ⟨fun x hx => absurd hx (List.not_mem_nil), Nat.zero_le _⟩, by simp [Rows.uptoBulk]⟩
  · have each : ∀ i, i < len → ∃ p : α × List Value, ∃ y, w.cells? base (a.add (i * P.cellsOf E)) (P.cellsOf E) = some p.2 ∧ d.K (heapOf w) p.1 p.2 ∧ wf p.1 ∧ elems[i]? = some y ∧ bk p.1 ≤ Rows.uptoBulk y.1 := by
      intro i hi
      have h1 := hel i hi
      have h2 : elems[i]? = some elems[i] := List.getElem?_eq_getElem (by omega)
      rw [h2] at h1
      obtain ⟨c, hc, hy⟩ := Option.bind_eq_some_iff.1 h1
      obtain ⟨a0, hK, hw, hbk⟩ := he.op hy
      exact ⟨(a0, c), _, hc, hK, hw, h2, hbk⟩
    obtain ⟨ps, hpl, hp⟩ := choose_list each
    have hcl : ∀ c ∈ ps.map (·.2), c.length = d.sz := by
      intro c hc
      obtain ⟨p, hpm, rfl⟩ := List.mem_map.1 hc
      obtain ⟨i, hi, rfl⟩ := List.getElem_of_mem hpm
      obtain ⟨y, h1, h2, _⟩ := hp i _ (List.getElem?_eq_getElem hi)
      exact d.len h2
    refine ⟨ps.map (·.1), ⟨some a, cap, ps.map (·.2), by simp [hpl], by simp; omega, ⟨by simp, fun i x c hx hc => ?_, fun i v hv => ?_⟩⟩, ⟨fun x hx' => ?_, by simp; omega⟩, ?_⟩
    · rw [List.getElem?_map] at hx hc
      obtain ⟨p, hpi, rfl⟩ := Option.map_eq_some_iff.1 hx
      rw [hpi] at hc
      cases hc
      obtain ⟨y, _, hK, _⟩ := hp i p hpi
      exact hK
    · rw [flat_get hs hcl] at hv
      obtain ⟨c, hc, hv⟩ := Option.bind_eq_some_iff.1 hv
      rw [List.getElem?_map] at hc
      obtain ⟨p, hpi, rfl⟩ := Option.map_eq_some_iff.1 hc
      obtain ⟨y, h1, _⟩ := hp _ p hpi
      obtain ⟨_, h3⟩ := cells_at h1
      have := h3 _ _ hv
      refine ⟨a, rfl, ?_⟩
      rw [cell_heapOf, ← this, hE, Addr.add_add, show i / d.sz * d.sz + i % d.sz = i from by rw [Nat.mul_comm]; exact Nat.div_add_mod i d.sz]
    · obtain ⟨p, hpm, rfl⟩ := List.mem_map.1 hx'
      obtain ⟨i, hi, rfl⟩ := List.getElem_of_mem hpm
      obtain ⟨y, _, _, hw, _⟩ := hp i _ (List.getElem?_eq_getElem hi)
      exact hw
    · have := all_le (bk := bk) (ps.map (·.1)) elems (by simp; omega) (fun i b y hb hy => by
        rw [List.getElem?_map] at hb
        obtain ⟨p, hpi, rfl⟩ := Option.map_eq_some_iff.1 hb
        obtain ⟨y', _, _, _, hy', hbk⟩ := hp i p hpi
        rw [hy] at hy'
        cases hy'
        exact hbk)
      simp only [Rows.uptoBulk]
      omega⟩

theorem bound {H : Type} {l : List (DataW H)} (hk : Rows.uptoSmall H l = true) : Rows.uptoBulkAll l ≤ 1048576 := of_decide_eq_true hk
set_option maxRecDepth 100000
theorem wf_u8 {x : Int} (h : (Lit.int .u8 x).wf = true) : 0 ≤ x ∧ x < 256 := by
  have : 0 ≤ x ∧ x ≤ 255 := by simpa [Lit.wf, IntKind.min, IntKind.max, IntKind.signed, IntKind.bits] using h
  omega
end
end Go.Proofs.YtgbhdpeibiglfaaDoor.Sep
