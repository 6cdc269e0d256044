/-
  What is found, joined and spread again: the bytes themselves. Plain.
-/
import Derived.Test.YthflafgijfbpnaaSpread
set_option linter.unusedVariables false
namespace Go.Proofs.Ythflafgijfbpnaa.S15
open Go Go.RowKit

theorem good_chain {size : Int} : ∀ {l : List Rg} {at_ : Int}, l.Pairwise (fun x y => x.t < y.f) → (∀ r ∈ l, at_ ≤ r.f ∧ r.f < r.t ∧ r.t ≤ size) → chain size at_ l = true
  | [], _, _, _ => rfl
  | x :: l, at_, hp, hf => by
    have h0 := hf x List.mem_cons_self
    have hp' := List.pairwise_cons.1 hp
    unfold chain
    rw [if_neg (by omega), if_neg (by omega), if_neg (by omega)]
    exact good_chain hp'.2 fun r hr => by have := hf r (List.mem_cons_of_mem _ hr); have := hp'.1 r hr; omega
theorem good_valid {b : List Int} {m : Nat} {l : List Rg} (h : Good b m l) : validV l b.length = decide ((l.length : Int) ≤ 65536) := by
  unfold validV
  rw [if_neg (by omega)]
  by_cases hl : (l.length : Int) ≤ 65536
  · rw [if_neg (by omega), decide_eq_true hl]
    exact good_chain h.apart fun r hr => h.fits r hr
  · rw [if_pos (by omega), decide_eq_false hl]

theorem piece_get {b : List Int} {x : Rg} (h : 0 ≤ x.f ∧ x.f ≤ x.t ∧ x.t ≤ b.length) {p : Nat} (h1 : x.f.toNat ≤ p) (h2 : p < x.t.toNat) : (piece b x)[p - x.f.toNat]? = some (at_ b p) := by
  unfold piece
  rw [List.getElem?_take_of_lt (by omega), List.getElem?_drop, show x.f.toNat + (p - x.f.toNat) = p by omega]
  have : p < b.length := by omega
  simp [at_, List.getD_eq_getElem?_getD, this]
/-- after some ranges: what they hold is there, the rest is as it was -/
theorem back_step {b : List Int} : ∀ (l : List Rg) (out : List Int), (∀ x ∈ l, 0 ≤ x.f ∧ x.f ≤ x.t ∧ x.t ≤ b.length) → out.length = b.length →
    (l.foldl stepS (joinV b l, out)).2.length = b.length ∧ ∀ p, p < b.length → (l.foldl stepS (joinV b l, out)).2[p]? = if (∃ r ∈ l, r.f ≤ (p : Int) ∧ (p : Int) < r.t) then some (at_ b p) else out[p]?
  | [], out, _, ho => ⟨ho, fun p hp => by simp⟩
  | x :: l, out, h, ho => by
    have hx := h x List.mem_cons_self
    have hpl := piece_len hx
    have e1 : joinV b (x :: l) = piece b x ++ joinV b l := by simp [joinV]
    have e2 : stepS (joinV b (x :: l), out) x = (joinV b l, lay out x.f.toNat (piece b x)) := by
      unfold stepS
      rw [e1]
      simp only
      rw [List.drop_left' (by omega), List.take_left' (by omega)]
    have hlay : (lay out x.f.toNat (piece b x)).length = b.length := by rw [lay_len (by omega), ho]
    obtain ⟨h1, h2⟩ := back_step l (lay out x.f.toNat (piece b x)) (fun y hy => h y (List.mem_cons_of_mem _ hy)) hlay
    rw [List.foldl_cons, e2]
    refine ⟨h1, fun p hp => ?_⟩
    rw [h2 p hp]
    by_cases hc : ∃ r ∈ l, r.f ≤ (p : Int) ∧ (p : Int) < r.t
    · obtain ⟨r, hr, hr2⟩ := hc
      rw [if_pos ⟨r, hr, hr2⟩, if_pos ⟨r, List.mem_cons_of_mem _ hr, hr2⟩]
    · rw [if_neg hc]
      have hto : (out.take x.f.toNat).length = x.f.toNat := by rw [List.length_take]; omega
      by_cases hpx : x.f ≤ (p : Int) ∧ (p : Int) < x.t
      · rw [if_pos ⟨x, List.mem_cons_self, hpx⟩]
        unfold lay
        rw [List.append_assoc, List.getElem?_append_right (by omega), hto, List.getElem?_append_left (by omega)]
        exact piece_get hx (by omega) (by omega)
      · rw [if_neg (by
          rintro ⟨r, hr, hr2⟩
          rcases List.mem_cons.1 hr with rfl | hr
          · exact hpx hr2
          · exact hc ⟨r, hr, hr2⟩)]
        unfold lay
        by_cases hlt : p < x.f.toNat
        · rw [List.append_assoc, List.getElem?_append_left (by omega), List.getElem?_take_of_lt hlt]
        · rw [List.getElem?_append_right (by rw [List.length_append]; omega), List.length_append, hto, List.getElem?_drop]
          congr 1
          omega
theorem round_bytes {b : List Int} {m : Nat} {l : List Rg} (h : Good b m l) : spreadV l (joinV b l) b.length = b := by
  have hf : ∀ x ∈ l, 0 ≤ x.f ∧ x.f ≤ x.t ∧ x.t ≤ (b.length : Int) := fun x hx => by have := h.fits x hx; omega
  obtain ⟨h1, h2⟩ := back_step l (List.replicate b.length 0) hf (by simp)
  have e : spreadV l (joinV b l) b.length = (l.foldl stepS (joinV b l, List.replicate b.length 0)).2 := by simp [spreadV, stS]
  rw [e]
  apply List.ext_getElem?
  intro p
  by_cases hp : p < b.length
  · rw [h2 p hp]
    have hb : b[p]? = some (at_ b p) := by simp [at_, List.getD_eq_getElem?_getD, hp]
    rw [hb]
    by_cases hc : ∃ r ∈ l, r.f ≤ (p : Int) ∧ (p : Int) < r.t
    · rw [if_pos hc]
    · rw [if_neg hc, List.getElem?_replicate, if_pos hp]
      have : Hole b m p := Classical.byContradiction fun hn => hc ((h.data p hp).1 hn)
      obtain ⟨s, e, hs, he, _, _, hz⟩ := this
      rw [hz p hs he]
  · rw [List.getElem?_eq_none (by omega), List.getElem?_eq_none (by omega)]
theorem round_ok {b : List Int} {m : Nat} {l : List Rg} (h : Good b m l) (hl : l.length ≤ 65536) (hb : b.length ≤ 4194304) : spreadOk l (joinV b l) b.length = true := by
  have hv : validV l b.length = true := by rw [good_valid h]; exact decide_eq_true (by omega)
  have ht := joinV_len (b := b) (l := l) fun x hx => by have := h.fits x hx; omega
  unfold spreadOk
  rw [hv, decide_eq_true (show (b.length : Int) ≤ 4194304 by omega), decide_eq_true ht.symm]; rfl
theorem near {b : List Int} {m : Nat} {l : List Rg} (h : Good b m l) {i j : Nat} (hij : i < j) (hj : j < l.length) : (l[i]'(by omega)).t < l[j].f := List.pairwise_iff_getElem.1 h.apart i j (by omega) hj hij
theorem inside {b : List Int} {m : Nat} {l : List Rg} (h : Good b m l) {i : Nat} (hi : i < l.length) {p : Nat} (h1 : l[i].f ≤ (p : Int)) (h2 : (p : Int) < l[i].t) : ¬ Hole b m p := by
  have := h.fits _ (List.getElem_mem hi)
  exact (h.data p (by omega)).2 ⟨_, List.getElem_mem hi, h1, h2⟩
/-- a place that touches a range from without lies in a hole -/
theorem outside {b : List Int} {m : Nat} {l : List Rg} (h : Good b m l) {i : Nat} (hi : i < l.length) {p : Nat} (hp : p < b.length) (hh : (p : Int) + 1 = l[i].f ∨ (p : Int) = l[i].t) : Hole b m p := by
  refine Classical.byContradiction fun hn => ?_
  obtain ⟨r, hr, h1, h2⟩ := (h.data p hp).1 hn
  obtain ⟨j, hj, rfl⟩ := List.getElem_of_mem hr
  have fi := h.fits _ (List.getElem_mem hi)
  rcases Nat.lt_trichotomy i j with hlt | he | hgt
  · have := near h hlt hj; omega
  · subst he; omega
  · have := near h hgt hi; omega
theorem left_edge {b : List Int} {m : Nat} {l : List Rg} (h : Good b m l) {i : Nat} (hi : i < l.length) (h0 : 0 < l[i].f) : at_ b l[i].f.toNat ≠ 0 := by
  intro hz
  have fi := h.fits _ (List.getElem_mem hi)
  obtain ⟨s, e, hs, he, hl, hm, hzz⟩ := outside h hi (p := l[i].f.toNat - 1) (by omega) (.inl (by omega))
  refine inside h hi (p := l[i].f.toNat) (by omega) (by omega) ⟨s, max e (l[i].f.toNat + 1), by omega, by omega, by omega, by omega, fun q h1 h2 => ?_⟩
  rcases Nat.lt_or_ge q e with h3 | h3
  · exact hzz q h1 h3
  · rw [show q = l[i].f.toNat by omega]; exact hz
theorem right_edge {b : List Int} {m : Nat} {l : List Rg} (h : Good b m l) {i : Nat} (hi : i < l.length) (h0 : l[i].t < b.length) : at_ b (l[i].t.toNat - 1) ≠ 0 := by
  intro hz
  have fi := h.fits _ (List.getElem_mem hi)
  obtain ⟨s, e, hs, he, hl, hm, hzz⟩ := outside h hi (p := l[i].t.toNat) (by omega) (.inr (by omega))
  refine inside h hi (p := l[i].t.toNat - 1) (by omega) (by omega) ⟨min s (l[i].t.toNat - 1), e, by omega, by omega, by omega, by omega, fun q h1 h2 => ?_⟩
  rcases Nat.lt_or_ge q s with h3 | h3
  · rw [show q = l[i].t.toNat - 1 by omega]; exact hz
  · exact hzz q h3 h2
/-- zeros that end inside a range are fewer than a hole's -/
theorem few_zeros {b : List Int} {m : Nat} {l : List Rg} (h : Good b m l) {i : Nat} (hi : i < l.length) {k run : Nat} (h1 : l[i].f ≤ (k : Int)) (h2 : (k : Int) < l[i].t) (hr : run ≤ k + 1) (hz : ∀ q, k + 1 - run ≤ q → q ≤ k → at_ b q = 0) : run < m ∨ run = 0 := by
  have fi := h.fits _ (List.getElem_mem hi)
  rcases Nat.lt_or_ge run m with h3 | h3
  · exact .inl h3
  · rcases Nat.eq_zero_or_pos run with h4 | h4
    · exact .inr h4
    · exact absurd ⟨k + 1 - run, k + 1, by omega, by omega, by omega, by omega, fun q q1 q2 => hz q q1 (by omega)⟩ (inside h hi h1 h2)
theorem Good.all {b : List Int} {m : Nat} {l : List Rg} (h : Good b m l) (hm : b.length < m) (h0 : 0 < b.length) : l = [⟨0, b.length⟩] := by
  have nh : ∀ p, ¬ Hole b m p := fun p ⟨s, e, _, _, h3, h4, _⟩ => by omega
  refine S15.uniq l _ h.apart (by simp) (fun r hr => (h.fits r hr).2.1) (fun r hr => by rw [List.mem_singleton] at hr; subst hr; simp only; omega) fun p => ?_
  constructor
  · rintro ⟨r, hr, h1, h2⟩
    have := h.fits r hr
    exact ⟨_, List.mem_singleton.2 rfl, by simp only; omega, by simp only; omega⟩
  · rintro ⟨r, hr, h1, h2⟩
    rw [List.mem_singleton] at hr
    subst hr
    simp only at h1 h2
    obtain ⟨r, hr, h3, h4⟩ := (h.data p.toNat (by omega)).1 (nh _)
    exact ⟨r, hr, by omega, by omega⟩
end Go.Proofs.Ythflafgijfbpnaa.S15
