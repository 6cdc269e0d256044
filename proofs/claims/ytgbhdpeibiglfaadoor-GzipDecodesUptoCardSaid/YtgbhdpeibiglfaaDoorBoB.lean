/-
  A list of bytes of our own.
-/
import Derived.Test.YtgbhdpeibiglfaaDoorInfP
set_option linter.unusedVariables false
set_option linter.unusedSimpArgs false
namespace Go.Proofs.YtgbhdpeibiglfaaDoor.S06
open Go Go.RowKit Go.Proofs.YtgbhdpeibiglfaaDoor.Sep Go.Proofs.YtgbhdpeibiglfaaDoor.Low Go.Proofs.YtgbhdpeibiglfaaDoor.S05 Go.Proofs.YtgbhdpeibiglfaaDoor.CodeLaw Go.Proofs.YtgbhdpeibiglfaaDoor.Pack Go.Proofs.YtgbhdpeibiglfaaDoor.BitLaw
open Go.Proofs.YtgbhdpeibiglfaaDoor.Lib hiding by8 by8_scalar

abbrev Bo (H : Heap) (v : Value) (l : List Int) : Prop := Own H 5 1 v (by8 l)
theorem Bo.row {H : Heap} {v : Value} {l : List Int} (h : Bo H v l) : ∃ A c, v = .slice A l.length c ∧ l.length ≤ c ∧ Row H A (by8 l) := by
  obtain ⟨a, n, c, e, hn, hc, hr⟩ := Own.view h
  rw [List.length_map, Nat.mul_one] at hn
  exact ⟨a, c, by rw [e, hn], by omega, hr⟩
theorem grown2 {H0 H H' : Heap} {v v' : Value} (hk : Keep H0 H) (hf : Fresh H0 v) (ho : Oth H v H') (hm : Moved H v v') : Keep H0 H' ∧ Fresh H0 v' := ⟨ho.keep hk fun r hr => hf r hr, hm.fresh hk hf⟩
theorem app_b {P : Program} {H : Heap} {v y : Value} {l x : List Int} {KV : Value → Heap → Prop} {KP : List PanicEntry → Heap → Prop} (hO : Bo H v l) {A : Option Addr} {n c : Nat} (hy : y = .slice A n c) (hn : n = x.length) (hr : Row H A (by8 x)) (hl : l.length + x.length ≤ 211106232532992)
    (hk : ∀ v' H', Bo H' v' (l ++ x) → Oth H v H' → Moved H v v' → KV v' H') : awpE P (.app 5 1 1 #[.int .u8 0]) [v, y] KV KP H := by
  subst hy hn
  refine a_app (len := l.length) (m := x.length) (new := by8 x) hO (by simp) rfl (hr.cells (by simp)) (by simp) rfl (by omega) (by8_scalar _) (by omega) ?_
  intro v' H' h1 h2 h3
  refine hk v' H' ?_ h2 h3
  show Own H' _ 1 _ _
  rw [by8, List.map_append]
  exact h1
end Go.Proofs.YtgbhdpeibiglfaaDoor.S06
