/-
  THE DATA OF BYTES: what sparse.Find tells (ranges that are the maximal rows of places which lie in no row of 'least' zeros). Over the printed function 'sparse_Find.f' of one law (namespace PSparseMore).
-/
import Derived.Test.YthflafgijfbpnaaPSparseMorex2
set_option linter.unusedVariables false
namespace Go.Proofs.Ythflafgijfbpnaa.PSparseMoreFind
open Go.RowKit Go.Proofs.Ythflafgijfbpnaa.PSparseMore Go.Proofs.YthflafgijfbpnaaW.PrintWords Go.Proofs.YthflafgijfbpnaaW.PrintLast Go.Proofs.YthflafgijfbpnaaW.PrintMore

theorem w64 {x : Int} (h0 : -9223372036854775808 ≤ x) (h1 : x ≤ 9223372036854775807) : wrap64 x = x := by
  unfold wrap64; omega

/-- the byte at place p -/
def at_ (b : List Int) (p : Nat) : Int := b.getD p 0
theorem rd_at (b : List Int) (p : Nat) : rd b (p : Int) = at_ b p := by simp [rd, at_]

/-- p lies in a row of at least 'least' zeros -/
def Hole (b : List Int) (least p : Nat) : Prop := ∃ s e, s ≤ p ∧ p < e ∧ e ≤ b.length ∧ s + least ≤ e ∧ ∀ q, s ≤ q → q < e → at_ b q = 0

/-- what Find tells -/
structure Good (b : List Int) (least : Nat) (l : List S26) : Prop where
  apart : l.Pairwise (fun x y => x.f1 < y.f0)
  fits : ∀ r ∈ l, 0 ≤ r.f0 ∧ r.f0 < r.f1 ∧ r.f1 ≤ (b.length : Int)
  data : ∀ p, p < b.length → (¬ Hole b least p ↔ ∃ r ∈ l, r.f0 ≤ (p : Int) ∧ (p : Int) < r.f1)

/-- no row of zeros goes over the place i -/
def Cut (b : List Int) (i : Nat) : Prop := i = 0 ∨ b.length ≤ i ∨ at_ b (i - 1) ≠ 0 ∨ at_ b i ≠ 0

/-- at the head of the loop -/
structure Inv (b : List Int) (least : Nat) (out : List S26) (from_ i : Nat) : Prop where
  le1 : from_ ≤ i
  le2 : i ≤ b.length
  cut : Cut b i
  few : out.length ≤ from_
  apart : out.Pairwise (fun x y => x.f1 < y.f0)
  fits : ∀ r ∈ out, 0 ≤ r.f0 ∧ r.f0 < r.f1 ∧ r.f1 < (from_ : Int)
  data : ∀ p, p < i → (¬ Hole b least p ↔ (∃ r ∈ out, r.f0 ≤ (p : Int) ∧ (p : Int) < r.f1) ∨ from_ ≤ p)

theorem Inv.start (b : List Int) (least : Nat) : Inv b least [] 0 0 := by
  refine ⟨Nat.le_refl _, Nat.zero_le _, .inl rfl, Nat.le_refl _, List.Pairwise.nil, ?_, ?_⟩
  · intro r hr; cases hr
  · intro p hp; omega

theorem Inv.byte {b : List Int} {least : Nat} {out : List S26} {from_ i : Nat} (h : Inv b least out from_ i) (hl : 1 ≤ least) (hi : i < b.length) (hb : at_ b i ≠ 0) : Inv b least out from_ (i + 1) := by
  refine ⟨by have := h.le1; omega, by omega, .inr (.inr (.inl (by simpa using hb))), h.few, h.apart, h.fits, ?_⟩
  intro p hp
  by_cases hpi : p < i
  · exact h.data p hpi
  · have : p = i := by omega
    subst this
    refine ⟨fun _ => .inr h.le1, fun _ ⟨s, e, hs, he, _, _, hz⟩ => hb (hz p hs he)⟩

/-- a row of zeros from i to i + n, that goes on on neither side -/
structure Row (b : List Int) (i n : Nat) : Prop where
  one : 1 ≤ n
  le : i + n ≤ b.length
  z : ∀ q, i ≤ q → q < i + n → at_ b q = 0
  left : i = 0 ∨ at_ b (i - 1) ≠ 0
  right : i + n = b.length ∨ at_ b (i + n) ≠ 0

theorem Row.within {b : List Int} {i n : Nat} (h : Row b i n) {s e p : Nat} (hp : i ≤ p ∧ p < i + n) (hs : s ≤ p) (he : p < e) (hl : e ≤ b.length) (hz : ∀ q, s ≤ q → q < e → at_ b q = 0) : i ≤ s ∧ e ≤ i + n := by
  constructor
  · rcases Nat.lt_or_ge s i with h1 | h1
    · rcases h.left with h2 | h2
      · omega
      · exact absurd (hz (i - 1) (by omega) (by omega)) h2
    · exact h1
  · rcases Nat.lt_or_ge (i + n) e with h1 | h1
    · rcases h.right with h2 | h2
      · omega
      · exact absurd (hz (i + n) (by omega) (by omega)) h2
    · exact h1

theorem Row.hole {b : List Int} {i n least : Nat} (h : Row b i n) (hn : least ≤ n) {p : Nat} (hp : i ≤ p ∧ p < i + n) : Hole b least p := ⟨i, i + n, hp.1, hp.2, h.le, by omega, h.z⟩
theorem Row.data {b : List Int} {i n least : Nat} (h : Row b i n) (hn : n < least) {p : Nat} (hp : i ≤ p ∧ p < i + n) : ¬ Hole b least p := by
  rintro ⟨s, e, hs, he, hl, hle, hz⟩
  have := h.within hp hs he hl hz
  omega

theorem Inv.few_ {b : List Int} {least : Nat} {out : List S26} {from_ i n : Nat} (h : Inv b least out from_ i) (hr : Row b i n) (hn : n < least) : Inv b least out from_ (i + n) := by
  refine ⟨by have := h.le1; omega, hr.le, ?_, h.few, h.apart, h.fits, ?_⟩
  · rcases hr.right with h2 | h2
    · exact .inr (.inl (by omega))
    · exact .inr (.inr (.inr h2))
  · intro p hp
    by_cases hpi : p < i
    · exact h.data p hpi
    · exact ⟨fun _ => .inr (by have := h.le1; omega), fun _ => hr.data hn ⟨by omega, hp⟩⟩

theorem Inv.many {b : List Int} {least : Nat} {out : List S26} {from_ i n : Nat} (h : Inv b least out from_ i) (hr : Row b i n) (hn : least ≤ n) (hfi : from_ = i) : Inv b least out (i + n) (i + n) := by
  refine ⟨Nat.le_refl _, hr.le, ?_, by have := h.few; omega, h.apart, fun r hm => ?_, ?_⟩
  · rcases hr.right with h2 | h2
    · exact .inr (.inl (by omega))
    · exact .inr (.inr (.inr h2))
  · have := h.fits r hm
    omega
  · intro p hp
    by_cases hpi : p < i
    · rw [h.data p hpi]
      exact ⟨fun hh => hh.elim .inl (fun hh => by omega), fun hh => hh.elim .inl (fun hh => by omega)⟩
    · refine ⟨fun hh => absurd (hr.hole hn ⟨by omega, hp⟩) hh, fun hh => ?_⟩
      rcases hh with ⟨r, hm, h1, h2⟩ | hh
      · have := h.fits r hm
        omega
      · omega

theorem Inv.push {b : List Int} {least : Nat} {out : List S26} {from_ i n : Nat} (h : Inv b least out from_ i) (hr : Row b i n) (hn : least ≤ n) (hfi : from_ < i) : Inv b least (out ++ [⟨(from_ : Int), (i : Int)⟩]) (i + n) (i + n) := by
  have hone := hr.one
  refine ⟨Nat.le_refl _, hr.le, ?_, by have := h.few; simp; omega, ?_, fun r hm => ?_, ?_⟩
  · rcases hr.right with h2 | h2
    · exact .inr (.inl (by omega))
    · exact .inr (.inr (.inr h2))
  · rw [List.pairwise_append]
    refine ⟨h.apart, by simp, fun x hx y hy => ?_⟩
    rw [List.mem_singleton] at hy
    subst hy
    exact (h.fits x hx).2.2
  · rw [List.mem_append, List.mem_singleton] at hm
    rcases hm with hm | rfl
    · have := h.fits r hm
      omega
    · exact ⟨by show (0 : Int) ≤ (from_ : Int); omega, by show (from_ : Int) < (i : Int); omega, by show (i : Int) < _; omega⟩
  · intro p hp
    by_cases hpi : p < i
    · rw [h.data p hpi]
      constructor
      · rintro (⟨r, hm, h1, h2⟩ | hh)
        · exact .inl ⟨r, List.mem_append_left _ hm, h1, h2⟩
        · exact .inl ⟨⟨(from_ : Int), (i : Int)⟩, by simp, by show (from_ : Int) ≤ _; omega, by show _ < (i : Int); omega⟩
      · rintro (⟨r, hm, h1, h2⟩ | hh)
        · rw [List.mem_append, List.mem_singleton] at hm
          rcases hm with hm | rfl
          · exact .inl ⟨r, hm, h1, h2⟩
          · refine .inr ?_
            have h3 : (from_ : Int) ≤ p := h1
            omega
        · omega
    · refine ⟨fun hh => absurd (hr.hole hn ⟨by omega, hp⟩) hh, fun hh => ?_⟩
      rcases hh with ⟨r, hm, h1, h2⟩ | hh
      · rw [List.mem_append, List.mem_singleton] at hm
        rcases hm with hm | rfl
        · have := h.fits r hm
          omega
        · have h3 : (p : Int) < i := h2
          omega
      · omega

theorem Inv.done {b : List Int} {least : Nat} {out : List S26} {from_ : Nat} (h : Inv b least out from_ b.length) :
    (from_ < b.length → Good b least (out ++ [⟨(from_ : Int), (b.length : Int)⟩])) ∧ (from_ = b.length → Good b least out) := by
  constructor
  · intro hf
    refine ⟨?_, fun r hm => ?_, fun p hp => ?_⟩
    · rw [List.pairwise_append]
      refine ⟨h.apart, by simp, fun x hx y hy => ?_⟩
      rw [List.mem_singleton] at hy
      subst hy
      exact (h.fits x hx).2.2
    · rw [List.mem_append, List.mem_singleton] at hm
      rcases hm with hm | rfl
      · have := h.fits r hm
        omega
      · exact ⟨by show (0 : Int) ≤ (from_ : Int); omega, by show (from_ : Int) < (b.length : Int); omega, Int.le_refl _⟩
    · rw [h.data p hp]
      constructor
      · rintro (⟨r, hm, h1, h2⟩ | hh)
        · exact ⟨r, List.mem_append_left _ hm, h1, h2⟩
        · exact ⟨⟨(from_ : Int), (b.length : Int)⟩, by simp, by show (from_ : Int) ≤ _; omega, by show _ < (b.length : Int); omega⟩
      · rintro ⟨r, hm, h1, h2⟩
        rw [List.mem_append, List.mem_singleton] at hm
        rcases hm with hm | rfl
        · exact .inl ⟨r, hm, h1, h2⟩
        · refine .inr ?_
          have h3 : (from_ : Int) ≤ p := h1
          omega
  · intro hf
    refine ⟨h.apart, fun r hm => ?_, fun p hp => ?_⟩
    · have := h.fits r hm
      omega
    · rw [h.data p hp]
      exact ⟨fun hh => hh.elim id (fun hh => by omega), .inl⟩

/-- the inner loop: how far the zeros go -/
theorem inner (b : List Int) (hb : b.length ≤ 1099511627776) (least : Int) (out : List S26) (from_ i : Nat) (hc : i = 0 ∨ at_ b (i - 1) ≠ 0) {r : List S26}
    (hj : ∀ n, Row b i n → Ev (fun k => sparse_Find.j2 k b least out from_ i n) r) :
    ∀ (d n : Nat), b.length = i + n + d → 1 ≤ n → (∀ q, i ≤ q → q < i + n → at_ b q = 0) → Ev (fun k => sparse_Find.l1 k b least out from_ i n) r := by
  intro d
  induction d with
  | zero =>
    intro n hd h1 hz
    refine Ev.step (f := fun k => sparse_Find.j2 k b least out from_ i n) (fun k => ?_) (hj n ⟨h1, by omega, hz, hc, .inl (by omega)⟩)
    simp only [sparse_Find.l1]
    rw [w64 (by omega) (by omega), if_neg (by omega)]
  | succ d ih =>
    intro n hd h1 hz
    by_cases hq : at_ b (i + n) = 0
    · have h2 := ih (n + 1) (by omega) (by omega) (fun q h3 h4 => by
        rcases Nat.lt_or_ge q (i + n) with h5 | h5
        · exact hz q h3 h5
        · have : q = i + n := by omega
          rw [this]; exact hq)
      refine Ev.step (f := fun k => sparse_Find.l1 k b least out from_ i (n + 1 : Nat)) (fun k => ?_) h2
      simp only [sparse_Find.l1]
      rw [w64 (x := (i : Int) + n) (by omega) (by omega), w64 (x := (n : Int) + 1) (by omega) (by omega), if_pos (by omega), if_pos (by omega), if_pos (by rw [← Int.natCast_add, rd_at]; exact hq)]
      rfl
    · refine Ev.step (f := fun k => sparse_Find.j2 k b least out from_ i n) (fun k => ?_) (hj n ⟨h1, by omega, hz, hc, .inr hq⟩)
      simp only [sparse_Find.l1]
      rw [w64 (x := (i : Int) + n) (by omega) (by omega), if_pos (by omega), if_pos (by omega), if_neg (by rw [← Int.natCast_add, rd_at]; exact hq)]

theorem outer (b : List Int) (hb : b.length ≤ 1099511627776) (least : Nat) (hl : 1 ≤ least) :
    ∀ (d : Nat) (out : List S26) (from_ i : Nat), b.length - i ≤ d → Inv b least out from_ i →
      ∃ r, Good b least r ∧ r.length ≤ b.length + 1 ∧ Ev (fun k => sparse_Find.l0 k b least out from_ i) r := by
  have stop : ∀ (out : List S26) (from_ i : Nat), i = b.length → Inv b least out from_ i →
      ∃ r, Good b least r ∧ r.length ≤ b.length + 1 ∧ Ev (fun k => sparse_Find.l0 k b least out from_ i) r := by
    intro out from_ i hi hI
    subst hi
    have hlen := hI.few
    have h1 := hI.le1
    by_cases hf : from_ < b.length
    · refine ⟨_, hI.done.1 hf, by simp; omega, Ev.step (f := fun _ => some (out ++ [⟨(from_ : Int), (b.length : Int)⟩])) (fun k => ?_) (Ev.now _)⟩
      simp only [sparse_Find.l0]
      rw [if_neg (by omega), if_pos (by omega), if_pos (by omega)]
    · refine ⟨_, hI.done.2 (by omega), by omega, Ev.step (f := fun _ => some out) (fun k => ?_) (Ev.now _)⟩
      simp only [sparse_Find.l0]
      rw [if_neg (by omega), if_neg (by omega)]
  intro d
  induction d with
  | zero =>
    intro out from_ i hd hI
    exact stop out from_ i (by have := hI.le2; omega) hI
  | succ d ih =>
    intro out from_ i hd hI
    rcases Nat.lt_or_ge i b.length with hi | hi
    · by_cases h0 : at_ b i = 0
      · -- a row of zeros
        have hleft : i = 0 ∨ at_ b (i - 1) ≠ 0 := by
          rcases hI.cut with h | h | h | h
          · exact .inl h
          · omega
          · exact .inr h
          · exact absurd h0 h
        -- the row as it is
        have hrow : ∃ n, Row b i n := by
          have key : ∀ (d n : Nat), b.length = i + n + d → 1 ≤ n → (∀ q, i ≤ q → q < i + n → at_ b q = 0) → ∃ n, Row b i n := by
            intro d
            induction d with
            | zero => exact fun n hd h1 hz => ⟨n, h1, by omega, hz, hleft, .inl (by omega)⟩
            | succ d ih =>
              intro n hd h1 hz
              by_cases hq : at_ b (i + n) = 0
              · exact ih (n + 1) (by omega) (by omega) (fun q h3 h4 => by
                  rcases Nat.lt_or_ge q (i + n) with h5 | h5
                  · exact hz q h3 h5
                  · have : q = i + n := by omega
                    rw [this]; exact hq)
              · exact ⟨n, h1, by omega, hz, hleft, .inr hq⟩
          exact key (b.length - (i + 1)) 1 (by omega) (by omega) (fun q h3 h4 => by obtain rfl : q = i := (by omega); exact h0)
        obtain ⟨n, hr⟩ := hrow
        have hn1 := hr.one
        have hnl := hr.le
        have uniq : ∀ m, Row b i m → m = n := by
          intro m hm
          rcases Nat.lt_trichotomy m n with h | h | h
          · exfalso
            rcases hm.right with h2 | h2
            · omega
            · exact h2 (hr.z _ (by omega) (by omega))
          · exact h
          · exfalso
            rcases hr.right with h2 | h2
            · have := hm.le; omega
            · exact h2 (hm.z _ (by omega) (by omega))
        -- where it goes on
        have go : ∃ r, Good b least r ∧ r.length ≤ b.length + 1 ∧ Ev (fun k => sparse_Find.j2 k b least out from_ i n) r := by
          rcases Nat.lt_or_ge n least with hnl' | hnl'
          · obtain ⟨r, hg, hlr, he⟩ := ih out from_ (i + n) (by omega) (hI.few_ hr hnl')
            refine ⟨r, hg, hlr, Ev.step (fun k => ?_) he⟩
            simp only [sparse_Find.j2]
            rw [if_neg (by omega), w64 (by omega) (by omega)]
            rfl
          · rcases Nat.lt_or_ge from_ i with hfi | hfi
            · obtain ⟨r, hg, hlr, he⟩ := ih _ (i + n) (i + n) (by omega) (hI.push hr hnl' hfi)
              refine ⟨r, hg, hlr, Ev.step (fun k => ?_) he⟩
              simp only [sparse_Find.j2]
              have := hI.few
              rw [if_pos (by omega), if_pos (by omega), if_pos (by omega), w64 (by omega) (by omega)]
              rfl
            · have := hI.le1
              obtain ⟨r, hg, hlr, he⟩ := ih _ (i + n) (i + n) (by omega) (hI.many hr hnl' (by omega))
              refine ⟨r, hg, hlr, Ev.step (fun k => ?_) he⟩
              simp only [sparse_Find.j2]
              rw [if_pos (by omega), if_neg (by omega), w64 (by omega) (by omega)]
              rfl
        obtain ⟨r, hg, hlr, he⟩ := go
        have h1 := inner b hb least out from_ i hleft (r := r) (fun m hm => by rw [uniq m hm]; exact he) (b.length - (i + 1)) 1 (by omega) (by omega) (fun q h3 h4 => by obtain rfl : q = i := (by omega); exact h0)
        refine ⟨r, hg, hlr, Ev.step (fun k => ?_) h1⟩
        simp only [sparse_Find.l0]
        rw [if_pos (by omega), if_pos (by omega), if_pos (by rw [rd_at]; exact h0)]
        rfl
      · obtain ⟨r, hg, hlr, he⟩ := ih out from_ (i + 1) (by omega) (hI.byte hl hi h0)
        refine ⟨r, hg, hlr, Ev.step (fun k => ?_) he⟩
        simp only [sparse_Find.l0]
        rw [if_pos (by omega), if_pos (by omega), if_neg (by rw [rd_at]; exact h0), w64 (by omega) (by omega)]
        rfl
    · exact stop out from_ i (by have := hI.le2; omega) hI

/-- Find ends, and what it tells. -/
theorem finds (b : List Int) (hb : b.length ≤ 1099511627776) (least : Int) : ∃ r, Good b (mx least 1).toNat r ∧ r.length ≤ b.length + 1 ∧ Ev (fun k => sparse_Find.f k b least) r := by
  have h1 : 1 ≤ mx least 1 := by unfold mx; split <;> omega
  obtain ⟨m, hm⟩ : ∃ m : Nat, mx least 1 = m := ⟨(mx least 1).toNat, by omega⟩
  obtain ⟨r, hg, hl, he⟩ := outer b hb m (by omega) b.length [] 0 0 (by omega) (Inv.start b m)
  refine ⟨r, by rw [hm]; exact hg, hl, ?_⟩
  unfold sparse_Find.f
  rw [hm]
  exact he

/-! ### of what is told -/
theorem Good.range_in {b : List Int} {m m' : Nat} {l l' : List S26} (h : Good b m l) (h' : Good b m' l') (hm : m ≤ m') {r : S26} (hr : r ∈ l) : ∃ r' ∈ l', r'.f0 ≤ r.f0 ∧ r.f1 ≤ r'.f1 := by
  have hf := h.fits r hr
  have mono : ∀ p, p < b.length → ¬ Hole b m p → ¬ Hole b m' p := fun p _ hn ⟨s, e, h1, h2, h3, h4, h5⟩ => hn ⟨s, e, h1, h2, h3, by omega, h5⟩
  have there : ∀ p : Nat, r.f0 ≤ p → (p : Int) < r.f1 → ∃ r' ∈ l', r'.f0 ≤ (p : Int) ∧ (p : Int) < r'.f1 := fun p h1 h2 => (h'.data p (by omega)).1 (mono p (by omega) ((h.data p (by omega)).2 ⟨r, hr, h1, h2⟩))
  obtain ⟨r', hr', h1, h2⟩ := there r.f0.toNat (by omega) (by omega)
  refine ⟨r', hr', by omega, ?_⟩
  rcases Int.lt_or_le r'.f1 r.f1 with hlt | hle
  · exfalso
    have hf' := h'.fits r' hr'
    obtain ⟨r2, hr2, h3, h4⟩ := there r'.f1.toNat (by omega) (by omega)
    have hne : r' ≠ r2 := by rintro rfl; omega
    rcases pair_of h'.apart hr' hr2 hne with h5 | h5 <;> omega
  · exact hle
where
  pair_of {l : List S26} (hp : l.Pairwise (fun x y => x.f1 < y.f0)) {x y : S26} (hx : x ∈ l) (hy : y ∈ l) (hne : x ≠ y) : x.f1 < y.f0 ∨ y.f1 < x.f0 := by
    induction l with
    | nil => cases hx
    | cons a t ih =>
      rw [List.pairwise_cons] at hp
      rcases List.mem_cons.1 hx with rfl | hx <;> rcases List.mem_cons.1 hy with rfl | hy
      · exact absurd rfl hne
      · exact .inl (hp.1 _ (by assumption))
      · exact .inr (hp.1 _ (by assumption))
      · exact ih hp.2 (by assumption) (by assumption)

theorem Good.all {b : List Int} {m : Nat} {l : List S26} (h : Good b m l) (hm : b.length < m) : (b.length = 0 ∧ l = []) ∨ (0 < b.length ∧ l = [⟨0, (b.length : Int)⟩]) := by
  have noh : ∀ p, ¬ Hole b m p := fun p ⟨s, e, h1, h2, h3, h4, h5⟩ => by omega
  rcases Nat.eq_zero_or_pos b.length with h0 | h0
  · left
    refine ⟨h0, ?_⟩
    cases l with
    | nil => rfl
    | cons a t => have := h.fits a List.mem_cons_self; omega
  · right
    refine ⟨h0, ?_⟩
    obtain ⟨r, hr, h1, h2⟩ := (h.data 0 h0).1 (noh 0)
    have hf := h.fits r hr
    have e0 : r.f0 = 0 := by omega
    have e1 : r.f1 = b.length := by
      rcases Int.lt_or_le r.f1 b.length with hlt | hle
      · exfalso
        obtain ⟨r2, hr2, h3, h4⟩ := (h.data r.f1.toNat (by omega)).1 (noh _)
        have hne : r ≠ r2 := by rintro rfl; omega
        have hf2 := h.fits r2 hr2
        rcases Good.range_in.pair_of h.apart hr hr2 hne with h5 | h5 <;> omega
      · omega
    have only : ∀ x ∈ l, x = r := by
      intro x hx
      have hfx := h.fits x hx
      rcases Classical.em (x = r) with e | hne
      · exact e
      · rcases Good.range_in.pair_of h.apart hx hr hne with h5 | h5 <;> omega
    have er : r = ⟨0, (b.length : Int)⟩ := by cases r; simp only at e0 e1; rw [e0, e1]
    rw [← er]
    match l, h.apart, only, hr with
    | [], _, _, hr => cases hr
    | [a], _, only, _ => rw [only a (by simp)]
    | a :: c :: t, ha, only, _ =>
      exfalso
      have h3 : a.f1 < c.f0 := (List.pairwise_cons.1 ha).1 c (by simp)
      rw [only a (by simp), only c (by simp)] at h3
      omega
end Go.Proofs.Ythflafgijfbpnaa.PSparseMoreFind
