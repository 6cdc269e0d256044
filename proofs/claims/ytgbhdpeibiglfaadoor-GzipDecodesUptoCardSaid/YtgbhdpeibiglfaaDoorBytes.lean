/-
  Rows of bytes that are only read.
-/
import Derived.Test.YtgbhdpeibiglfaaDoorTxt
set_option linter.unusedVariables false
set_option linter.unusedSimpArgs false
namespace Go.Proofs.YtgbhdpeibiglfaaDoor.Lib
open Go Go.RowKit Go.Proofs.YtgbhdpeibiglfaaDoor.Sep

/-- a slice of bytes -/
def By (H : Heap) (v : Value) (l : List Int) : Prop := ∃ A c, v = .slice A l.length c ∧ l.length ≤ c ∧ Row H A (by8 l)
theorem By.keep {H H' : Heap} {v : Value} {l : List Int} (h : By H v l) (hk : Keep H H') : By H' v l := by
  obtain ⟨A, c, e, hc, hr⟩ := h
  exact ⟨A, c, e, hc, hk.row hr⟩
theorem By.nil {H : Heap} : By H (.slice none 0 0) [] := ⟨none, 0, rfl, Nat.le_refl _, fun i v hv => by simp at hv⟩
theorem by_at {H : Heap} {A : Option Addr} {l : List Int} (hr : Row H A (by8 l)) {i : Nat} (hi : i < l.length) : ∃ b, A = some b ∧ H.cell? (b.add i) = some (.int .u8 l[i]) := by
  obtain ⟨b, e, h⟩ := hr.at (i := i) (by simpa using hi)
  exact ⟨b, e, by rw [h]; simp⟩
theorem row_drop {H : Heap} {A : Option Addr} {l : List Int} {c k : Nat} (hr : Row H A (by8 l)) (hc : l.length ≤ c) : Row H (cutA A c k 1) (by8 (l.drop k)) := by
  have := hr.cut (c := c) (l := k) (sz := 1) (by simpa using hc)
  rw [Nat.mul_one, by8, ← List.map_drop] at this
  exact this
theorem row_take {H : Heap} {A : Option Addr} {l : List Int} {k : Nat} (hr : Row H A (by8 l)) : Row H A (by8 (l.take k)) := by
  have := hr.take k
  rw [by8, ← List.map_take] at this
  exact this
theorem By.drop {H : Heap} {A : Option Addr} {l : List Int} {c k : Nat} (hr : Row H A (by8 l)) (hc : l.length ≤ c) (hk : k ≤ l.length) : By H (.slice (cutA A c k 1) (l.length - k) (c - k)) (l.drop k) :=
  ⟨_, _, by rw [List.length_drop], by rw [List.length_drop]; omega, row_drop hr hc⟩
theorem By.take {H : Heap} {A : Option Addr} {l : List Int} {c k : Nat} (hr : Row H A (by8 l)) (hc : l.length ≤ c) (hk : k ≤ l.length) : By H (.slice A k c) (l.take k) :=
  ⟨_, _, by rw [List.length_take, Nat.min_eq_left hk], by rw [List.length_take]; omega, row_take hr⟩
/-- bytes -/
def isBy (l : List Int) : Prop := ∀ x ∈ l, 0 ≤ x ∧ x < 256
theorem isBy.drop {l : List Int} (h : isBy l) (k : Nat) : isBy (l.drop k) := fun x hx => h x (List.mem_of_mem_drop hx)
theorem isBy.take {l : List Int} (h : isBy l) (k : Nat) : isBy (l.take k) := fun x hx => h x (List.mem_of_mem_take hx)
theorem isBy.at {l : List Int} (h : isBy l) {i : Nat} (hi : i < l.length) : 0 ≤ l[i] ∧ l[i] < 256 := h _ (List.getElem_mem hi)
/-- bytes as a text -/
def txt (l : List Int) : List UInt8 := l.map fun x => UInt8.ofNat x.toNat
theorem mapM_bytes : ∀ (l : List Int), (by8 l).mapM Sep.byteOf = some (txt l)
  | [] => rfl
  | x :: l => by
    have := mapM_bytes l
    simp only [by8, List.map_cons, List.mapM_cons, txt] at this ⊢
    rw [this]
    rfl
theorem ev_b2s_by {H : Heap} {A : Option Addr} {l : List Int} {c : Nat} (hr : Row H A (by8 l)) : QI.b2s.ev [.slice A l.length c] H = some (.string ⟨(txt l).toArray⟩) := by
  cases A with
  | none =>
    have : l = [] := by
      cases l with
      | nil => rfl
      | cons x l => obtain ⟨b, e, _⟩ := hr 0 _ rfl; cases e
    subst this
    rfl
  | some a =>
    have h1 : H.loadN a 0 l.length = some (by8 l) := by
      have := hr.loadN
      rwa [by8, List.length_map] at this
    simp only [QI.ev, h1, mapM_bytes, Option.map_some]
theorem txt_inj : ∀ {a b : List Int}, isBy a → isBy b → txt a = txt b → a = b
  | [], [], _, _, _ => rfl
  | [], _ :: _, _, _, h => by simp [txt] at h
  | _ :: _, [], _, _, h => by simp [txt] at h
  | x :: a, y :: b, ha, hb, h => by
    simp only [txt, List.map_cons, List.cons.injEq] at h
    have hx := ha x List.mem_cons_self
    have hy := hb y List.mem_cons_self
    have e1 : x = y := by
      have h2 := congrArg UInt8.toNat h.1
      simp only [UInt8.toNat_ofNat'] at h2
      omega
    rw [e1, txt_inj (fun z hz => ha z (List.mem_cons_of_mem _ hz)) (fun z hz => hb z (List.mem_cons_of_mem _ hz)) h.2]
theorem txt_append (a b : List Int) : txt (a ++ b) = txt a ++ txt b := by simp [txt]
end Go.Proofs.YtgbhdpeibiglfaaDoor.Lib
