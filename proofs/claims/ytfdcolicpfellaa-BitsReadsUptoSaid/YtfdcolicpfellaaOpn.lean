/-
  HOW AN ARGUMENT IS OPENED, kind by kind: out of the form's reading of a value ('DataW.trod') what the value's cells say ('Kd.K'), that its numbers are of their kinds, and how much it holds ('uptoBulk').
-/
import Derived.Test.YtfdcolicpfellaaRows
import Derived.Test.YtfdcolicpfellaaWMore
import Derived.WalkKit
import Derived.ProofKit
import Derived.OpenShut
import Derived.ShutString
import Derived.SizedLaws
import Derived.Deep.CondSized
set_option linter.unusedVariables false
namespace Go.Proofs.Ytfdcolicpfellaa.Opns
open Go.RowKit Go.Proofs.YtfdcolicpfellaaW.PrintWords

theorem bulk_one {H : Type} (d : DataW H) : 1 ≤ Rows.uptoBulk d := by
  cases d with
  | lit l => cases l <;> simp [Rows.uptoBulk]
  | nil => simp [Rows.uptoBulk]
  | ptr d => simp [Rows.uptoBulk]
  | slice elems spare => simp [Rows.uptoBulk]
  | agg parts => simp [Rows.uptoBulk]
  | iface t d => simp [Rows.uptoBulk]
  | map entries => simp [Rows.uptoBulk]
  | held h => simp [Rows.uptoBulk]

/-- A type's values, opened. -/
structure Opn (P : Program) (T : TypeId) {α : Type} (d : Kd α) (wf : α → Prop) (bk : α → Nat) : Prop where
  op : ∀ {H : Type} {enc : TypeId × Value → H} {w : World} {base : Nat} {spare : Nat → Bool} {held : Bool} {fuel : Nat} {cs : List Value} {x : DataW H × List MemPlace},
    DataW.trod enc P w base spare held fuel T cs = some x → ∃ a, d.K w a cs ∧ wf a ∧ bk a ≤ Rows.uptoBulk x.1

section
variable {P : Program} {T E : TypeId}
theorem Opn.int {k : IntKind} (ht : P.underlying T = some (.int k)) : Opn P T (Kd.int k) (fun a => (Lit.int k a).wf = true) (fun _ => 1) := ⟨fun h => by
  obtain ⟨n, rfl, rfl, hw⟩ := DataW.trod_int ht h
  exact ⟨n, rfl, hw, bulk_one _⟩⟩
theorem Opn.bool (ht : P.underlying T = some .bool) : Opn P T Kd.bool (fun _ => True) (fun _ => 1) := ⟨fun h => by
  obtain ⟨n, rfl, rfl⟩ := DataW.trod_bool ht h
  exact ⟨n, rfl, trivial, bulk_one _⟩⟩
theorem Opn.string (ht : P.underlying T = some .string) : Opn P T Kd.string (fun s => s.size ≤ maxLen) (fun s => s.size + 1) := ⟨fun h => by
  obtain ⟨s, rfl, rfl, hs⟩ := DataW.trod_string ht h
  refine ⟨s, rfl, hs, ?_⟩
  simp [Rows.uptoBulk]⟩

theorem all_le {H : Type} {α : Type} {bk : α → Nat} : ∀ (xs : List α) (ys : List (DataW H × List MemPlace)), xs.length = ys.length → (∀ (i : Nat) a y, xs[i]? = some a → ys[i]? = some y → bk a ≤ Rows.uptoBulk y.1) →
    (xs.map bk).sum ≤ Rows.uptoBulkAll (ys.map (·.1))
  | [], [], _, _ => by simp
  | a :: xs, y :: ys, hl, h => by
    have h1 := all_le xs ys (by simpa using hl) (fun i b z hb hz => h (i + 1) b z (by simpa using hb) (by simpa using hz))
    have h2 := h 0 a y (by simp) (by simp)
    simp only [List.map_cons, List.sum_cons, Rows.uptoBulkAll]
    omega
  | [], _ :: _, hl, _ => by simp at hl
  | _ :: _, [], hl, _ => by simp at hl

theorem choose_list {β : Type} {n : Nat} {p : Nat → β → Prop} (h : ∀ i, i < n → ∃ a, p i a) : ∃ xs : List β, xs.length = n ∧ ∀ (i : Nat) a, xs[i]? = some a → p i a := by
  induction n with
  | zero => exact ⟨[], rfl, fun i a hi => by simp at hi⟩
  | succ n ih =>
    obtain ⟨xs, hl, hx⟩ := ih (fun i hi => h i (by omega))
    obtain ⟨a, ha⟩ := h n (by omega)
    refine ⟨xs ++ [a], by simp [hl], fun i b hb => ?_⟩
    rcases Nat.lt_or_ge i xs.length with h1 | h1
    · rw [List.getElem?_append_left h1] at hb
      exact hx i b hb
    · have hi : i = n := by
        have := (List.getElem?_eq_some_iff.1 hb).1
        simp at this
        omega
      subst hi
      rw [List.getElem?_append_right h1] at hb
      simp [hl] at hb
      subst hb
      exact ha

theorem cells_at {w : World} {base : Nat} {a : Addr} {n : Nat} {c : List Value} (h : w.cells? base a n = some c) : c.length = n ∧ ∀ (i : Nat) u, c[i]? = some u → w.cell? (a.add i) = some u := by
  unfold World.cells? at h
  split at h
  · have hl : c.length = n := by have := mapM_some_length h; simpa using this
    refine ⟨hl, fun i u hu => ?_⟩
    have hi : i < n := by have := (List.getElem?_eq_some_iff.1 hu).1; omega
    have := mapM_some_get h i i (by simp [hi])
    rw [this]; exact hu
  · cases h

theorem Opn.slice {α : Type} {d : Kd α} {wf : α → Prop} {bk : α → Nat} (ht : P.underlying T = some (.slice E)) (hE : P.cellsOf E = d.sz) (he : Opn P E d wf bk) :
    Opn P T (Kd.slice E d) (fun xs => (∀ x ∈ xs, wf x) ∧ xs.length ≤ maxLen) (fun xs => (xs.map bk).sum + 1) := ⟨fun {H enc w base spare held fuel cs x} h => by
  rcases DataW.trod_slice ht h with ⟨rfl, rfl⟩ | ⟨a, len, cap, elems, rest, n, _, rfl, rfl, hb, hl, hm, hlen, hel, _, _⟩
  · refine ⟨[], ⟨none, 0, rfl, Nat.le_refl _, rfl, Nat.zero_le _, fun h => absurd h (Nat.lt_irrefl _)⟩, ⟨fun x hx => absurd hx (List.not_mem_nil), Nat.zero_le _⟩, by simp [Rows.uptoBulk]⟩
  · have each : ∀ i, i < len → ∃ a0 : α, ∃ c y, w.cells? base (a.add (i * P.cellsOf E)) (P.cellsOf E) = some c ∧ d.K w a0 c ∧ wf a0 ∧ elems[i]? = some y ∧ bk a0 ≤ Rows.uptoBulk y.1 := by
      intro i hi
      have h1 := hel i hi
      have h2 : elems[i]? = some elems[i] := List.getElem?_eq_getElem (by omega)
      rw [h2] at h1
      obtain ⟨c, hc, hy⟩ := Option.bind_eq_some_iff.1 h1
      obtain ⟨a0, hK, hw, hbk⟩ := he.op hy
      exact ⟨a0, c, _, hc, hK, hw, h2, hbk⟩
    obtain ⟨xs, hxl, hx⟩ := choose_list each
    refine ⟨xs, ⟨some a, cap, by rw [hxl], by omega, ⟨rfl, by rw [hxl]; have := hm; unfold maxLen at this; omega, fun _ => ⟨a, rfl, fun j p hp => ?_⟩⟩⟩, ⟨fun x hx' => ?_, by rw [hxl]; omega⟩, ?_⟩
    · obtain ⟨c, y, hc, hK, _⟩ := hx j p hp
      obtain ⟨hcl, hcc⟩ := cells_at hc
      refine ⟨c, by rw [hcl, hE], hK, fun i u hu => ?_⟩
      have h3 := hcc i u hu
      rw [hE, Addr.add_add] at h3
      exact h3
    · obtain ⟨i, hi, rfl⟩ := List.getElem_of_mem hx'
      obtain ⟨c, y, _, _, hw, _⟩ := hx i _ (List.getElem?_eq_getElem hi)
      exact hw
    · have := all_le (bk := bk) xs elems (by omega) (fun i b y hb hy => by
        obtain ⟨c, y', _, _, _, hy', hbk⟩ := hx i b hb
        rw [hy] at hy'
        cases hy'
        exact hbk)
      simp only [Rows.uptoBulk]
      omega⟩

/-- a list's length by its bulk -/
theorem len_le_sum {α : Type} (bk : α → Nat) (h1 : ∀ a, 1 ≤ bk a) : ∀ xs : List α, xs.length ≤ (xs.map bk).sum
  | [] => by simp
  | a :: xs => by
    have := len_le_sum bk h1 xs
    have := h1 a
    simp only [List.length_cons, List.map_cons, List.sum_cons]
    omega
theorem bound {H : Type} {l : List (DataW H)} (hk : Rows.uptoSmall H l = true) : Rows.uptoBulkAll l ≤ 1048576 := of_decide_eq_true hk
end
end Go.Proofs.Ytfdcolicpfellaa.Opns
