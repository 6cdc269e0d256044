/-
  KINDS OF VALUES, as cells in memory.
-/
import Derived.Test.YtgbhdpeibiglfaaDoorSepList
set_option linter.unusedVariables false
set_option linter.unusedSimpArgs false
namespace Go.Proofs.YtgbhdpeibiglfaaDoor.Sep
open Go Go.RowKit

/-- a kind of values, as cells -/
structure Ty (α : Type) where
  sz : Nat
  K : Heap → α → List Value → Prop
  len : ∀ {H x cs}, K H x cs → cs.length = sz
  keep : ∀ {H H' x cs}, Keep H H' → K H x cs → K H' x cs
def Ty.int (k : IntKind) : Ty Int := ⟨1, fun _ x cs => cs = [.int k x], fun h => by rw [h]; rfl, fun _ h => h⟩
def Ty.bool : Ty Bool := ⟨1, fun _ x cs => cs = [.bool x], fun h => by rw [h]; rfl, fun _ h => h⟩
def Ty.string : Ty ByteArray := ⟨1, fun _ x cs => cs = [.string x], fun h => by rw [h]; rfl, fun _ h => h⟩
/-- what a slice's elements are -/
structure Els {α : Type} (d : Ty α) (H : Heap) (A : Option Addr) (xs : List α) (cl : List (List Value)) : Prop where
  len : cl.length = xs.length
  each : ∀ (i : Nat) x c, xs[i]? = some x → cl[i]? = some c → d.K H x c
  row : Row H A cl.flatten
theorem Els.keep {α : Type} {d : Ty α} {H H' : Heap} {A : Option Addr} {xs : List α} {cl : List (List Value)} (h : Els d H A xs cl) (hk : Keep H H') : Els d H' A xs cl :=
  ⟨h.len, fun i x c hx hc => d.keep hk (h.each i x c hx hc), hk.row h.row⟩
def Ty.slice {α : Type} (d : Ty α) : Ty (List α) := ⟨1, fun H xs cs => ∃ A cap cl, cs = [.slice A xs.length cap] ∧ xs.length ≤ cap ∧ Els d H A xs cl, fun ⟨_, _, _, h, _⟩ => by rw [h]; rfl, fun hk ⟨A, cap, cl, h, hc, he⟩ => ⟨A, cap, cl, h, hc, he.keep hk⟩⟩
theorem flat_single {α β : Type} (f : α → β) (xs : List α) : (xs.map fun x => [f x]).flatten = xs.map f := by
  induction xs with
  | nil => rfl
  | cons x xs ih => simp [ih]
/-- a run of cells is laid over a row -/
theorem foldl_set (off : Nat) : ∀ (ci : List Value) (k : Nat) (z : Array Value), off + k + ci.length ≤ z.size → (ci.zipIdx k).foldl (fun cs (x : Value × Nat) => cs.setIfInBounds (off + x.2) x.1) z = (z.toList.take (off + k) ++ ci ++ z.toList.drop (off + k + ci.length)).toArray
  | [], k, z, h => by apply Array.ext'; simp
  | c :: ci, k, z, h => by
    simp only [List.length_cons] at h
    rw [List.zipIdx_cons, List.foldl_cons, foldl_set off ci (k + 1) _ (by simp; omega)]
    apply Array.ext'
    simp only [Array.toList_setIfInBounds, List.length_cons]
    rw [show off + (k + 1) = off + k + 1 from by omega, List.take_set, List.drop_set_of_lt (by omega)]
    have hsz : z.toList.length = z.size := Array.length_toList
    rw [List.take_add_one, List.set_append_right _ _ (by simp; omega)]
    have hk : off + k < z.toList.length := by omega
    rw [List.getElem?_eq_getElem hk]
    simp only [List.length_take, Option.toList_some]
    rw [Nat.min_eq_left (by omega), Nat.sub_self, List.set_cons_zero]
    simp only [List.append_assoc, List.cons_append, List.nil_append]
    rw [show off + k + 1 + ci.length = off + k + (ci.length + 1) from by omega]
theorem fill_a {z ci : List Value} {o n : Nat} {rest : List ((Nat × Nat) × Value)} : fillV z.toArray (((o, n), .agg ci.toArray) :: rest) = if ci.length = n ∧ o + ci.length ≤ z.length then fillV (z.take o ++ ci ++ z.drop (o + ci.length)).toArray rest else none := by
  simp only [fillV, Value.cells, List.size_toArray]
  by_cases h : ci.length = n ∧ o + ci.length ≤ z.length
  · rw [if_neg (by simp; omega), if_pos h]
    congr 1
    rw [← Array.foldl_toList, Array.toList_zipIdx]
    have := foldl_set o ci 0 z.toArray (by simpa using h.2)
    simpa using this
  · rw [if_pos (by simp; omega), if_neg h]
/-- a whole variable is stored -/
theorem st_all {P : Program} {H : Heap} {r n : Nat} {T : TypeId} {old ci : List Value} {KV : Value → Heap → Prop} {KP : List PanicEntry → Heap → Prop} (hb : H r = some (.cells old.toArray T (0, 0))) (hl : ci.length = old.length) (hn : ci.length = n) (hs : ∀ v ∈ ci, scalarV v = true)
    (hk : KV undef (H.set r (.cells ci.toArray T (0, 0)))) : awpE P (.st n) [.pointer (some ⟨r, 0, none⟩), .agg ci.toArray] KV KP H := by
  have hst := storeN_block (r := r) (T := T) ci H 0 [] old [] hs hl.symm rfl (.inl rfl) (by simpa using hb) 0
  rw [if_pos (Nat.le_refl _), Nat.sub_self] at hst
  refine ⟨by simpa [Value.cells] using hn, ?_⟩
  simp only [Value.cells]
  rw [hst]
  simpa using hk

/-- numbers, one a cell -/
theorem Els.ints {k : IntKind} {H : Heap} {A : Option Addr} {xs : List Int} {cl : List (List Value)} (h : Els (Ty.int k) H A xs cl) : Row H A (xs.map (.int k)) := by
  have : cl = xs.map fun x => [.int k x] := by
    apply List.ext_getElem?
    intro i
    rw [List.getElem?_map]
    cases hx : xs[i]? with
    | none => rw [List.getElem?_eq_none (by rw [h.len]; exact List.getElem?_eq_none_iff.1 hx)]; rfl
    | some x =>
      have hi := (List.getElem?_eq_some_iff.1 hx).1
      have hi2 : i < cl.length := by rw [h.len]; exact hi
      have hc : cl[i]? = some cl[i] := List.getElem?_eq_getElem hi2
      have := h.each i x _ hx hc
      rw [hc]
      exact congrArg some this
  have hr := h.row
  rw [this] at hr
  rwa [flat_single] at hr
/-- cells of rows of one length -/
theorem flat_get {α : Type} : ∀ {cl : List (List α)} {s : Nat}, 0 < s → (∀ c ∈ cl, c.length = s) → ∀ (i : Nat), cl.flatten[i]? = (cl[i / s]?).bind fun c => c[i % s]?
  | [], s, hs, h, i => by simp
  | c :: cl, s, hs, h, i => by
    have hc := h c List.mem_cons_self
    rw [List.flatten_cons]
    by_cases hi : i < s
    · rw [List.getElem?_append_left (by omega), Nat.div_eq_of_lt hi, Nat.mod_eq_of_lt hi]; rfl
    · rw [List.getElem?_append_right (by omega), hc, flat_get hs (fun c hc => h c (List.mem_cons_of_mem _ hc)) (i - s)]
      have e1 : i / s = (i - s) / s + 1 := by rw [Nat.div_eq_sub_div hs (by omega)]
      have e2 : i % s = (i - s) % s := Nat.mod_eq_sub_mod (by omega)
      rw [e1, e2]; rfl
theorem flat_len {α : Type} : ∀ {cl : List (List α)} {s : Nat}, (∀ c ∈ cl, c.length = s) → cl.flatten.length = cl.length * s
  | [], s, h => by simp
  | c :: cl, s, h => by
    rw [List.flatten_cons, List.length_append, h c List.mem_cons_self, flat_len (fun c hc => h c (List.mem_cons_of_mem _ hc)), List.length_cons, Nat.succ_mul, Nat.add_comm]
/-- one element's cells -/
theorem Row.elem {H : Heap} {A : Option Addr} {cl : List (List Value)} {s : Nat} (h : Row H A cl.flatten) (hs : 0 < s) (hl : ∀ c ∈ cl, c.length = s) {i : Nat} {c : List Value} (hc : cl[i]? = some c) : ∃ b, A = some b ∧ H.loadN (b.add (i * s)) 0 s = some c := by
  have hcl := hl c (List.mem_of_getElem? hc)
  have key : ∀ (j : Nat) v, c[j]? = some v → ∃ b, A = some b ∧ H.cell? (b.add (i * s + j)) = some v := by
    intro j v hv
    have hj := (List.getElem?_eq_some_iff.1 hv).1
    refine h (i * s + j) v ?_
    rw [flat_get hs hl, show (i * s + j) / s = i by rw [Nat.mul_comm, Nat.mul_add_div hs, Nat.div_eq_of_lt (by omega)]; rfl, show (i * s + j) % s = j by rw [Nat.mul_comm, Nat.mul_add_mod, Nat.mod_eq_of_lt (by omega)], hc]
    exact hv
  obtain ⟨v, hv⟩ : ∃ v, c[0]? = some v := ⟨_, List.getElem?_eq_getElem (by omega)⟩
  obtain ⟨b, rfl, _⟩ := key 0 v hv
  refine ⟨b, rfl, ?_⟩
  rw [← hcl]
  refine Heap.loadN_row c 0 fun j u hu => ?_
  obtain ⟨b', e, hb⟩ := key j u hu
  cases e
  rw [hcl, Nat.zero_add, add_add]
  exact hb

end Go.Proofs.YtgbhdpeibiglfaaDoor.Sep
