/-
  SparseMore: what the law computes is true, for every list of at most 2^40 bytes and every two numbers.
-/
import Derived.Test.YthflafgijfbpnaaFindMore
set_option linter.unusedVariables false
namespace Go.Proofs.Ythflafgijfbpnaa.PSparseMoreFind
open Go.RowKit Go.Proofs.Ythflafgijfbpnaa.PSparseMore Go.Proofs.YthflafgijfbpnaaW.PrintWords Go.Proofs.YthflafgijfbpnaaW.PrintLast Go.Proofs.YthflafgijfbpnaaW.PrintMore

theorem rdT (l : List S26) (i : Nat) (hi : i < l.length) : rd_T26 l (i : Int) = l[i] := by
  simp [rd_T26, List.getD_eq_getElem?_getD, hi]

/-- is the i-th range of a in one of c's from j on? -/
theorem looks (b : List Int) (a c : List S26) (hc : c.length ≤ 1099511627776 + 1) (i : Nat) (hi : i < a.length) {r : Bool}
    (hgo : Ev (fun k => satchellaw15_SparseMore.l0 k b a c (wrap64 ((i : Int) + 1))) r) :
    ∀ (d j : Nat) (x : Bool), c.length = j + d → (x = true ∨ ∃ m, ∃ h : m < c.length, j ≤ m ∧ (c[m]).f0 ≤ (a[i]).f0 ∧ (a[i]).f1 ≤ (c[m]).f1) →
      Ev (fun k => satchellaw15_SparseMore.l1 k b a c i x j) r := by
  intro d
  induction d with
  | zero =>
    intro j x hd hx
    refine Ev.step (fun k => ?_) hgo
    simp only [satchellaw15_SparseMore.l1]
    rw [if_neg (by omega)]
    rcases hx with hx | ⟨m, hm, hj, _⟩
    · rw [if_pos hx]
    · omega
  | succ d ih =>
    intro j x hd hx
    by_cases hxt : x = true
    · refine Ev.step (fun k => ?_) (ih (j + 1) true (by omega) (.inl rfl))
      simp only [satchellaw15_SparseMore.l1]
      rw [if_pos (by omega), if_pos hxt, w64 (by omega) (by omega)]
      rfl
    · have hx := hx.resolve_left hxt
      by_cases h1 : (c[j]'(by omega)).f0 ≤ (a[i]).f0
      · refine Ev.step (fun k => ?_) (ih (j + 1) (decide ((a[i]).f1 ≤ (c[j]'(by omega)).f1)) (by omega) ?_)
        · simp only [satchellaw15_SparseMore.l1]
          rw [if_pos (by omega), if_neg hxt, if_pos (by omega), if_pos (by omega), if_pos (by omega), rdT a i hi, rdT c j (by omega), if_pos h1, w64 (by omega) (by omega)]
          rfl
        · obtain ⟨m, hm, hj, h2, h3⟩ := hx
          by_cases e : m = j
          · subst e; exact .inl (by simpa using h3)
          · exact .inr ⟨m, hm, by omega, h2, h3⟩
      · refine Ev.step (fun k => ?_) (ih (j + 1) false (by omega) ?_)
        · simp only [satchellaw15_SparseMore.l1]
          rw [if_pos (by omega), if_neg hxt, if_pos (by omega), if_pos (by omega), if_pos (by omega), rdT a i hi, rdT c j (by omega), if_neg h1, w64 (by omega) (by omega)]
          rfl
        · obtain ⟨m, hm, hj, h2, h3⟩ := hx
          by_cases e : m = j
          · subst e; exact absurd h2 h1
          · exact .inr ⟨m, hm, by omega, h2, h3⟩

/-- the end: all is data where no hole is long enough -/
theorem ends (b : List Int) (hb : b.length ≤ 1099511627776) (a c : List S26) (i : Nat) (hi : a.length ≤ i) : Ev (fun k => satchellaw15_SparseMore.l0 k b a c i) true := by
  obtain ⟨l, hg, hl, he⟩ := finds b hb ((b.length : Int) + 1)
  have hl' := hg.all (by unfold mx; split <;> omega)
  refine Ev.step (f := fun k => (sparse_Find.f k b ((b.length : Int) + 1)).bind fun t => (if (b.length : Int) = 0 then (if (t.length : Int) = 0 then (some true) else (if (t.length : Int) = 1 then (if 0 < (t.length : Int) then (some (((rd_T26 t 0).f0) == 0 && (((rd_T26 t 0).f1) == (b.length : Int)))) else (none)) else (some false))) else (if (t.length : Int) = 1 then (if 0 < (t.length : Int) then (some (((rd_T26 t 0).f0) == 0 && (((rd_T26 t 0).f1) == (b.length : Int)))) else (none)) else (some false)))) (fun k => ?_)
    (Ev.bind (f := fun _ t => (if (b.length : Int) = 0 then (if (t.length : Int) = 0 then (some true) else (if (t.length : Int) = 1 then (if 0 < (t.length : Int) then (some (((rd_T26 t 0).f0) == 0 && (((rd_T26 t 0).f1) == (b.length : Int)))) else (none)) else (some false))) else (if (t.length : Int) = 1 then (if 0 < (t.length : Int) then (some (((rd_T26 t 0).f0) == 0 && (((rd_T26 t 0).f1) == (b.length : Int)))) else (none)) else (some false)))) he (Ev.congr (f := fun _ => some true) (fun _ => ?_) (Ev.now true)))
  · simp only [satchellaw15_SparseMore.l0, Option.bind_some, List.nil_append, List.length_nil]
    rw [if_neg (by omega), if_pos (by omega), w64 (by omega) (by omega)]
  · rcases hl' with ⟨h0, rfl⟩ | ⟨h0, rfl⟩
    · rw [if_pos (by omega), if_pos (by simp)]
    · rw [if_neg (by omega), if_pos (by simp), if_pos (by simp)]
      simp [rd_T26]

theorem all_in (b : List Int) (hb : b.length ≤ 1099511627776) (a c : List S26) (ha : a.length ≤ 1099511627776 + 1) (hc : c.length ≤ 1099511627776 + 1)
    (hin : ∀ r ∈ a, ∃ r' ∈ c, r'.f0 ≤ r.f0 ∧ r.f1 ≤ r'.f1) :
    ∀ (d i : Nat), a.length = i + d → Ev (fun k => satchellaw15_SparseMore.l0 k b a c i) true := by
  intro d
  induction d with
  | zero => exact fun i hd => ends b hb a c i (by omega)
  | succ d ih =>
    intro i hd
    have hi : i < a.length := by omega
    obtain ⟨r', hr', h1, h2⟩ := hin (a[i]) (List.getElem_mem hi)
    obtain ⟨m, hm, rfl⟩ := List.getElem_of_mem hr'
    have h3 := looks b a c hc i hi (r := true) (by rw [w64 (by omega) (by omega)]; exact ih (i + 1) (by omega)) c.length 0 false (by omega) (.inr ⟨m, hm, by omega, h1, h2⟩)
    refine Ev.step (fun k => ?_) h3
    simp only [satchellaw15_SparseMore.l0]
    rw [if_pos (by omega)]
    rfl

theorem from_j (b : List Int) (hb : b.length ≤ 1099511627776) (x y : Int) (hxy : x ≤ y) : Ev (fun k => satchellaw15_SparseMore.j0 k b x y) true := by
  obtain ⟨a, hga, hla, hea⟩ := finds b hb x
  obtain ⟨c, hgc, hlc, hec⟩ := finds b hb y
  have h := all_in b hb a c (by omega) (by omega) (fun r hr => hga.range_in hgc (by unfold mx; split <;> split <;> omega) hr) a.length 0 (by omega)
  refine Ev.step (f := fun k => (sparse_Find.f k b x).bind fun t => (sparse_Find.f k b y).bind fun u => satchellaw15_SparseMore.l0 k b t u 0) (fun k => ?_)
    (Ev.bind (f := fun k t => (sparse_Find.f k b y).bind fun u => satchellaw15_SparseMore.l0 k b t u 0) hea (Ev.bind (f := fun k u => satchellaw15_SparseMore.l0 k b a u 0) hec h))
  simp only [satchellaw15_SparseMore.j0, Option.bind_some, List.nil_append, List.length_nil]
  rw [if_pos (by omega)]
  cases sparse_Find.f k b x with
  | none => rfl
  | some t =>
    simp only [Option.bind_some]
    rw [if_pos (by omega)]

theorem more (b : List Int) (hb : b.length ≤ 1099511627776) (x y : Int) : ∃ k, satchellaw15_SparseMore.f k b x y = some true := by
  refine Ev.rounds (g := fun k => satchellaw15_SparseMore.f k b x y) ?_
  unfold satchellaw15_SparseMore.f
  by_cases h : x > y
  · simp only [if_pos h]
    exact from_j b hb y x (by omega)
  · simp only [if_neg h]
    exact from_j b hb x y (by omega)
end Go.Proofs.Ythflafgijfbpnaa.PSparseMoreFind
