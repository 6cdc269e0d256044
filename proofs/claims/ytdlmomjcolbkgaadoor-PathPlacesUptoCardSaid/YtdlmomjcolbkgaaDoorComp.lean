/-
  Components: what is wrong with one; joined.
-/
import Derived.Test.YtdlmomjcolbkgaaDoorLowC
import Derived.Test.YtdlmomjcolbkgaaDoorNameLaw
set_option linter.unusedVariables false
set_option linter.unusedSimpArgs false
namespace Go.Proofs.YtdlmomjcolbkgaaDoor.S09
open Go Go.RowKit Go.Proofs.YtdlmomjcolbkgaaDoor.Sep Go.Proofs.YtdlmomjcolbkgaaDoor.Low Go.Proofs.YtdlmomjcolbkgaaDoor.Lib

theorem ixb_spec {H : Heap} (l : List UInt8) (c : UInt8) : ACalls Tryd.prog 25 [Value.string ⟨l.toArray⟩, .int .u8 c.toNat].toArray H fun e H' => e = .returned (.int .i64 (Go.Lib.indexByte l c)) ∧ H' = H :=
  acalls_of fun w _ => (Tryd.strings_IndexByte ⟨l.toArray⟩ c.toNat w).mono fun e w' h => by simpa using h
theorem contains_spec {H : Heap} (l : List UInt8) (c : UInt8) : ACalls Tryd.prog 45 [Value.string ⟨l.toArray⟩, .string ⟨#[c]⟩].toArray H fun e H' => e = .returned (.bool (decide (0 ≤ Go.Lib.indexByte l c))) ∧ H' = H :=
  acalls_of fun w _ => (Tryd.strings_Contains_one ⟨l.toArray⟩ c w).mono fun e w' h => h
theorem ix_mem (l : List UInt8) (c : UInt8) : decide ((0 : Int) ≤ Go.Lib.indexByte l c) = decide (c ∈ l) := by
  rcases index_cases c l with ⟨h1, h2⟩ | ⟨p, r, rfl, h2, h3⟩
  · rw [h1, decide_eq_false h2]; rfl
  · rw [h3, decide_eq_true (p := c ∈ p ++ c :: r) (by simp), decide_eq_true (by omega)]
theorem join_spec {H : Heap} {a : Option Addr} {n c : Nat} {xs : List (List UInt8)} (hr : Row H a (strs xs)) (ha : ∀ b, a = some b → b.spot = none) (hn : n = xs.length) (hc : n ≤ c) (hl : tot xs ≤ 140737488355328) :
    ACalls Tryd.prog 29 [Value.slice a n c, .string ⟨#[47]⟩].toArray H fun e H' => e = .returned (.string ⟨(jn xs).toArray⟩) ∧ H' = H := by
  subst hn
  cases hx : xs with
  | nil =>
    refine acalls_of fun w _ => ?_
    exact (Tryd.strings_Join_none a c ⟨#[47]⟩ w).mono fun e w' h => h
  | cons x r =>
    have h0 : 0 < xs.length := by rw [hx]; simp
    obtain ⟨b, rfl, hb⟩ := str_at hr h0
    have hne : xs ≠ [] := by rw [hx]; simp
    have hj := jn_len hne
    have hxl : xs.length ≤ tot xs := by
      have : ∀ l : List (List UInt8), l.length ≤ tot l := by
        intro l
        induction l with
        | nil => simp [tot]
        | cons x l ih => simp only [tot, List.map_cons, List.sum_cons, List.length_cons] at ih ⊢; omega
      exact this xs
    rw [← hx]
    refine acalls_below fun w hw => ?_
    obtain ⟨blk, o, sp⟩ := b
    have hsp : sp = none := ha _ rfl
    subst hsp
    have hcells : ∀ (j : Nat) (y : ByteArray), (xs.map fun l : List UInt8 => (⟨l.toArray⟩ : ByteArray))[j]? = some y → w.cell? ⟨blk, o + j, none⟩ = some (.string y) := by
      intro j y hy
      rw [List.getElem?_map] at hy
      obtain ⟨l, hl, rfl⟩ := Option.map_eq_some_iff.1 hy
      obtain ⟨b', e, hc'⟩ := hr j (.string ⟨l.toArray⟩) (by rw [List.getElem?_map, hl]; rfl)
      cases e
      rw [add_mk] at hc'
      exact hw.cell hc'
    have hlt : blk < w.heap.size := by
      have h1 := hw.cell hb
      rw [add_zero_a] at h1
      unfold World.cell? at h1
      cases hh : w.heap[blk]? with
      | none => rw [hh] at h1; cases h1
      | some o => exact (Array.getElem?_eq_some_iff.1 hh).1
    have hdata : (xs.map fun l : List UInt8 => (⟨l.toArray⟩ : ByteArray)).map (·.data.toList) = xs := by
      rw [List.map_map]
      conv => rhs; rw [← List.map_id xs]
      apply List.map_congr_left
      intro l _
      simp
    have h := Tryd.strings_Join blk o c (xs.map fun l : List UInt8 => (⟨l.toArray⟩ : ByteArray)) ⟨#[47]⟩ w hcells hlt (by rw [List.length_map]; omega) (by rw [List.length_map]; exact hc) (by
      rw [hdata]
      show (Go.Lib.join xs [47]).length ≤ _
      rw [jn_join]
      omega)
    rw [List.length_map, hdata] at h
    have e2 : Go.Lib.join xs (⟨#[47]⟩ : ByteArray).data.toList = jn xs := jn_join xs
    rw [e2] at h
    exact h
end Go.Proofs.YtdlmomjcolbkgaaDoor.S09
