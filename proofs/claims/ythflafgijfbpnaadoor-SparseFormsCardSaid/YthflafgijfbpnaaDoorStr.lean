/-
  Texts as lists of bytes; what the shelf's contracts say, over a known part of memory.
-/
import Derived.Test.YthflafgijfbpnaaDoorTxt
import Derived.Test.YthflafgijfbpnaaDoorShelf
import Derived.Lib.Bytealg
set_option linter.unusedVariables false
set_option linter.unusedSimpArgs false
namespace Go.Proofs.YthflafgijfbpnaaDoor.Lib
open Go Go.RowKit Go.Proofs.YthflafgijfbpnaaDoor.Sep

/-- what a contract over worlds says of a known part -/
theorem acalls_of {P : Program} {f : FuncId} {args : Array Value} {H : Heap} {v : Value} (h : ∀ w, Sees H w → Calls P f args w fun e w' => e = .returned v ∧ w' = w) : ACalls P f args H fun e H' => e = .returned v ∧ H' = H :=
  fun w hw => (h w hw).mono fun e w' ⟨he, hw'⟩ => ⟨H, ⟨he, rfl⟩, by rw [hw']; exact hw, by rw [hw']; exact Ext.refl _ _⟩
theorem acalls_below {P : Program} {f : FuncId} {args : Array Value} {H : Heap} {v : Value} (h : ∀ w, Sees H w → Calls P f args w fun e w' => e = .returned v ∧ Below w.heap.size w w') : ACalls P f args H fun e H' => e = .returned v ∧ H' = H :=
  fun w hw => (h w hw).mono fun e w' ⟨he, hb⟩ => ⟨H, ⟨he, rfl⟩, fun r o hr => by rw [hb.block r (hw.lt hr)]; exact hw r o hr, ⟨hb.os, hb.tape, hb.output, hb.size, fun r hr _ => hb.block r hr, fun r hr => .inl hr⟩⟩

/-- a function value that holds nothing is called -/
theorem a_callv {P : Program} {H : Heap} {f : Nat} {xs : List Value} {S : Ending → Heap → Prop} {KV : Value → Heap → Prop} {KP : List PanicEntry → Heap → Prop} (hc : callable P f = true) (h : ACalls P f xs.toArray H S) (hk : ∀ e H', S e H' → endK KV KP e H') : awpE P .callv (.func (.func f) #[] #[] :: xs) KV KP H :=
  ⟨hc, S, by simpa using h, hk⟩
/-- texts in a row -/
abbrev strs (xs : List (List UInt8)) : List Value := xs.map fun l => .string ⟨l.toArray⟩
theorem strs_scalar (xs : List (List UInt8)) : ∀ v ∈ strs xs, scalarV v = true := map_scalar _ (fun _ => rfl) xs
abbrev Ss (H : Heap) (v : Value) (xs : List (List UInt8)) : Prop := Own H 9 1 v (strs xs)
theorem Ss.len {H : Heap} {v : Value} {xs : List (List UInt8)} (h : Ss H v xs) : ∃ a c, v = .slice a xs.length c ∧ xs.length ≤ c ∧ Row H a (strs xs) := by
  obtain ⟨a, n, c, e, hn, hc, hr⟩ := Own.view h
  have : n = xs.length := by simpa using hn.symm
  subst this
  exact ⟨a, c, e, hc, hr⟩
theorem str_at {H : Heap} {a : Option Addr} {xs : List (List UInt8)} (hr : Row H a (strs xs)) {i : Nat} (hi : i < xs.length) : ∃ b, a = some b ∧ H.cell? (b.add i) = some (.string ⟨xs[i].toArray⟩) := by
  obtain ⟨b, e, h⟩ := hr.at (i := i) (by simpa using hi)
  exact ⟨b, e, by rw [h]; simp⟩
/-- a text is put behind -/
theorem app_str {P : Program} {H : Heap} {v : Value} {l : List (List UInt8)} {x : List UInt8} {r : Nat} {KV : Value → Heap → Prop} {KP : List PanicEntry → Heap → Prop} (hO : Ss H v l) (hl : l.length ≤ 1099511627776) (h1 : Ss H (.slice (some ⟨r, 0, none⟩) 1 1) [x])
    (hk : ∀ v' H', Ss H' v' (l ++ [x]) → Oth H v H' → Moved H v v' → KV v' H') : awpE P (.app 9 1 16 #[.string ⟨#[]⟩]) [v, .slice (some ⟨r, 0, none⟩) 1 1] KV KP H := by
  obtain ⟨_, _, e, _, hrow⟩ := h1.len
  cases e
  refine a_app (len := l.length) (m := 1) (new := strs [x]) hO (by simp) rfl (hrow.cells rfl) rfl rfl (by omega) (strs_scalar _) (by omega) ?_
  intro v' H' h2 h3 h4
  refine hk v' H' ?_ h3 h4
  show Own H' _ 1 _ _
  rw [strs, List.map_append]
  exact h2
theorem lits_str {P : Program} {H : Heap} {x : List UInt8} {KV : Value → Heap → Prop} {KP : List PanicEntry → Heap → Prop}
    (hk : ∀ r H', Ss H' (.slice (some ⟨r, 0, none⟩) 1 1) [x] → Keep H H' → H r = none → KV (.slice (some ⟨r, 0, none⟩) 1 1) H') : awpE P (.lits 9 #[.string ⟨#[]⟩] 1 [(0, 1)]) [.string ⟨x.toArray⟩] KV KP H :=
  a_lits (sz := 1) (cells := #[.string ⟨x.toArray⟩]) rfl rfl fun r H' h1 h2 h3 => hk r H' h1 h2 h3
theorem lits_nostr {P : Program} {H : Heap} {KV : Value → Heap → Prop} {KP : List PanicEntry → Heap → Prop}
    (hk : ∀ r H', Ss H' (.slice (some ⟨r, 0, none⟩) 0 0) [] → Keep H H' → H r = none → KV (.slice (some ⟨r, 0, none⟩) 0 0) H') : awpE P (.lits 9 #[] 0 []) [] KV KP H :=
  a_lits (sz := 1) (cells := #[]) rfl rfl fun r H' h1 h2 h3 => hk r H' h1 h2 h3

/-! ### pieces between slashes -/
def splitL : List UInt8 → List (List UInt8)
  | [] => [[]]
  | b :: l => if b = 47 then [] :: splitL l else match splitL l with
    | [] => [[b]]
    | p :: ps => (b :: p) :: ps
theorem splitL_ne (l : List UInt8) : splitL l ≠ [] := by
  cases l with
  | nil => simp [splitL]
  | cons b l =>
    rw [splitL]
    split
    · simp
    · split <;> simp
theorem splitL_none : ∀ {p : List UInt8}, 47 ∉ p → splitL p = [p]
  | [], _ => rfl
  | b :: p, h => by
    rw [List.mem_cons, not_or] at h
    rw [splitL, if_neg (fun e => h.1 e.symm), splitL_none h.2]
theorem splitL_cons : ∀ {p : List UInt8} {r : List UInt8}, 47 ∉ p → splitL (p ++ 47 :: r) = p :: splitL r
  | [], r, _ => by rw [List.nil_append, splitL, if_pos rfl]
  | b :: p, r, h => by
    rw [List.mem_cons, not_or] at h
    rw [List.cons_append, splitL, if_neg (fun e => h.1 e.symm), splitL_cons h.2]
theorem splitL_len (l : List UInt8) : (splitL l).length = l.count 47 + 1 := by
  induction l with
  | nil => rfl
  | cons b l ih =>
    rw [splitL]
    by_cases h : b = 47
    · rw [if_pos h, List.length_cons, ih, h, List.count_cons_self]
    · rw [if_neg h, List.count_cons_of_ne (fun e => h (by simpa using e))]
      cases hs : splitL l with
      | nil => exact absurd hs (splitL_ne l)
      | cons p ps => rw [hs] at ih; simpa using ih
theorem index_cases (c : UInt8) : ∀ l : List UInt8, (Go.Lib.indexByte l c = -1 ∧ c ∉ l) ∨ ∃ p r, l = p ++ c :: r ∧ c ∉ p ∧ Go.Lib.indexByte l c = p.length
  | [] => .inl ⟨rfl, by simp⟩
  | b :: l => by
    unfold Go.Lib.indexByte
    by_cases h : b = c
    · subst h
      exact .inr ⟨[], l, rfl, by simp, by simp⟩
    · have h' : ¬ (b == c) = true := by simpa using h
      rw [if_neg h']
      rcases index_cases c l with ⟨h1, h2⟩ | ⟨p, r, rfl, h2, h3⟩
      · rw [h1]
        exact .inl ⟨rfl, by rw [List.mem_cons, not_or]; exact ⟨fun e => h e.symm, h2⟩⟩
      · rw [h3, if_neg (by simp)]
        exact .inr ⟨b :: p, r, rfl, by rw [List.mem_cons, not_or]; exact ⟨fun e => h e.symm, h2⟩, by simp⟩
end Go.Proofs.YthflafgijfbpnaaDoor.Lib
