/-
  THE DATA OF BYTES, plain: ranges that are the maximal rows of places which lie in no row of 'least' zeros; there is one such list.
-/
import Derived.Test.YthflafgijfbpnaaRg
set_option linter.unusedVariables false
namespace Go.Proofs.Ythflafgijfbpnaa.S15
open Go Go.RowKit

/-- the byte at place p -/
def at_ (b : List Int) (p : Nat) : Int := b.getD p 0

/-- p lies in a row of at least 'least' zeros -/
def Hole (b : List Int) (least p : Nat) : Prop := ∃ s e, s ≤ p ∧ p < e ∧ e ≤ b.length ∧ s + least ≤ e ∧ ∀ q, s ≤ q → q < e → at_ b q = 0

/-- what Find tells -/
structure Good (b : List Int) (least : Nat) (l : List Rg) : Prop where
  apart : l.Pairwise (fun x y => x.t < y.f)
  fits : ∀ r ∈ l, 0 ≤ r.f ∧ r.f < r.t ∧ r.t ≤ (b.length : Int)
  data : ∀ p, p < b.length → (¬ Hole b least p ↔ ∃ r ∈ l, r.f ≤ (p : Int) ∧ (p : Int) < r.t)

/-- no row of zeros goes over the place i -/
def Cut (b : List Int) (i : Nat) : Prop := i = 0 ∨ b.length ≤ i ∨ at_ b (i - 1) ≠ 0 ∨ at_ b i ≠ 0

/-- at the head of the loop -/
structure Inv (b : List Int) (least : Nat) (out : List Rg) (from_ i : Nat) : Prop where
  le1 : from_ ≤ i
  le2 : i ≤ b.length
  cut : Cut b i
  few : out.length ≤ from_
  apart : out.Pairwise (fun x y => x.t < y.f)
  fits : ∀ r ∈ out, 0 ≤ r.f ∧ r.f < r.t ∧ r.t < (from_ : Int)
  data : ∀ p, p < i → (¬ Hole b least p ↔ (∃ r ∈ out, r.f ≤ (p : Int) ∧ (p : Int) < r.t) ∨ from_ ≤ p)

theorem Inv.start (b : List Int) (least : Nat) : Inv b least [] 0 0 := by
  refine ⟨Nat.le_refl _, Nat.zero_le _, .inl rfl, Nat.le_refl _, List.Pairwise.nil, ?_, ?_⟩
  · intro r hr; cases hr
  · intro p hp; omega

theorem Inv.byte {b : List Int} {least : Nat} {out : List Rg} {from_ i : Nat} (h : Inv b least out from_ i) (hl : 1 ≤ least) (hi : i < b.length) (hb : at_ b i ≠ 0) : Inv b least out from_ (i + 1) := by
  refine ⟨by have := h.le1; omega, by omega, .inr (.inr (.inl (by simpa using hb))), h.few, h.apart, h.fits, ?_⟩
  intro p hp
  by_cases hpi : p < i
  · exact h.data p hpi
  · have : p = i := by omega
    subst this
    refine ⟨fun _ => .inr h.le1, fun _ ⟨s, e, hs, he, _, _, hz⟩ => hb (hz p hs he)⟩

/-- a row of zeros from i to i + n, that goes on on neither side -/
structure Run (b : List Int) (i n : Nat) : Prop where
  one : 1 ≤ n
  le : i + n ≤ b.length
  z : ∀ q, i ≤ q → q < i + n → at_ b q = 0
  left : i = 0 ∨ at_ b (i - 1) ≠ 0
  right : i + n = b.length ∨ at_ b (i + n) ≠ 0

theorem Run.within {b : List Int} {i n : Nat} (h : Run b i n) {s e p : Nat} (hp : i ≤ p ∧ p < i + n) (hs : s ≤ p) (he : p < e) (hl : e ≤ b.length) (hz : ∀ q, s ≤ q → q < e → at_ b q = 0) : i ≤ s ∧ e ≤ i + n := by
  constructor
  · rcases Nat.lt_or_ge s i with h1 | h1
    · rcases h.left with h2 | h2
      · omega
      · exact absurd (hz (i - 1) (by omega) (by omega)) h2
    · exact h1
  · rcases Nat.lt_or_ge (i + n) e with h1 | h1
    · rcases h.right with h2 | h2
      · omega
      · exact absurd (hz (i + n) (by omega) (by omega)) h2
    · exact h1

theorem Run.hole {b : List Int} {i n least : Nat} (h : Run b i n) (hn : least ≤ n) {p : Nat} (hp : i ≤ p ∧ p < i + n) : Hole b least p := ⟨i, i + n, hp.1, hp.2, h.le, by omega, h.z⟩
theorem Run.data {b : List Int} {i n least : Nat} (h : Run b i n) (hn : n < least) {p : Nat} (hp : i ≤ p ∧ p < i + n) : ¬ Hole b least p := by
  rintro ⟨s, e, hs, he, hl, hle, hz⟩
  have := h.within hp hs he hl hz
  omega

theorem Inv.few_ {b : List Int} {least : Nat} {out : List Rg} {from_ i n : Nat} (h : Inv b least out from_ i) (hr : Run b i n) (hn : n < least) : Inv b least out from_ (i + n) := by
  refine ⟨by have := h.le1; omega, hr.le, ?_, h.few, h.apart, h.fits, ?_⟩
  · rcases hr.right with h2 | h2
    · exact .inr (.inl (by omega))
    · exact .inr (.inr (.inr h2))
  · intro p hp
    by_cases hpi : p < i
    · exact h.data p hpi
    · exact ⟨fun _ => .inr (by have := h.le1; omega), fun _ => hr.data hn ⟨by omega, hp⟩⟩

theorem Inv.many {b : List Int} {least : Nat} {out : List Rg} {from_ i n : Nat} (h : Inv b least out from_ i) (hr : Run b i n) (hn : least ≤ n) (hfi : from_ = i) : Inv b least out (i + n) (i + n) := by
  refine ⟨Nat.le_refl _, hr.le, ?_, by have := h.few; omega, h.apart, fun r hm => ?_, ?_⟩
  · rcases hr.right with h2 | h2
    · exact .inr (.inl (by omega))
    · exact .inr (.inr (.inr h2))
  · have := h.fits r hm
    omega
  · intro p hp
    by_cases hpi : p < i
    · rw [h.data p hpi]
      exact ⟨fun hh => hh.elim .inl (fun hh => by omega), fun hh => hh.elim .inl (fun hh => by omega)⟩
    · refine ⟨fun hh => absurd (hr.hole hn ⟨by omega, hp⟩) hh, fun hh => ?_⟩
      rcases hh with ⟨r, hm, h1, h2⟩ | hh
      · have := h.fits r hm
        omega
      · omega

theorem Inv.push {b : List Int} {least : Nat} {out : List Rg} {from_ i n : Nat} (h : Inv b least out from_ i) (hr : Run b i n) (hn : least ≤ n) (hfi : from_ < i) : Inv b least (out ++ [⟨(from_ : Int), (i : Int)⟩]) (i + n) (i + n) := by
  have hone := hr.one
  refine ⟨Nat.le_refl _, hr.le, ?_, by have := h.few; simp; omega, ?_, fun r hm => ?_, ?_⟩
  · rcases hr.right with h2 | h2
    · exact .inr (.inl (by omega))
    · exact .inr (.inr (.inr h2))
  · rw [List.pairwise_append]
    refine ⟨h.apart, by simp, fun x hx y hy => ?_⟩
    rw [List.mem_singleton] at hy
    subst hy
    exact (h.fits x hx).2.2
  · rw [List.mem_append, List.mem_singleton] at hm
    rcases hm with hm | rfl
    · have := h.fits r hm
      omega
    · exact ⟨by show (0 : Int) ≤ (from_ : Int); omega, by show (from_ : Int) < (i : Int); omega, by show (i : Int) < _; omega⟩
  · intro p hp
    by_cases hpi : p < i
    · rw [h.data p hpi]
      constructor
      · rintro (⟨r, hm, h1, h2⟩ | hh)
        · exact .inl ⟨r, List.mem_append_left _ hm, h1, h2⟩
        · exact .inl ⟨⟨(from_ : Int), (i : Int)⟩, by simp, by show (from_ : Int) ≤ _; omega, by show _ < (i : Int); omega⟩
      · rintro (⟨r, hm, h1, h2⟩ | hh)
        · rw [List.mem_append, List.mem_singleton] at hm
          rcases hm with hm | rfl
          · exact .inl ⟨r, hm, h1, h2⟩
          · refine .inr ?_
            have h3 : (from_ : Int) ≤ p := h1
            omega
        · omega
    · refine ⟨fun hh => absurd (hr.hole hn ⟨by omega, hp⟩) hh, fun hh => ?_⟩
      rcases hh with ⟨r, hm, h1, h2⟩ | hh
      · rw [List.mem_append, List.mem_singleton] at hm
        rcases hm with hm | rfl
        · have := h.fits r hm
          omega
        · have h3 : (p : Int) < i := h2
          omega
      · omega

theorem Inv.done {b : List Int} {least : Nat} {out : List Rg} {from_ : Nat} (h : Inv b least out from_ b.length) :
    (from_ < b.length → Good b least (out ++ [⟨(from_ : Int), (b.length : Int)⟩])) ∧ (from_ = b.length → Good b least out) := by
  constructor
  · intro hf
    refine ⟨?_, fun r hm => ?_, fun p hp => ?_⟩
    · rw [List.pairwise_append]
      refine ⟨h.apart, by simp, fun x hx y hy => ?_⟩
      rw [List.mem_singleton] at hy
      subst hy
      exact (h.fits x hx).2.2
    · rw [List.mem_append, List.mem_singleton] at hm
      rcases hm with hm | rfl
      · have := h.fits r hm
        omega
      · exact ⟨by show (0 : Int) ≤ (from_ : Int); omega, by show (from_ : Int) < (b.length : Int); omega, Int.le_refl _⟩
    · rw [h.data p hp]
      constructor
      · rintro (⟨r, hm, h1, h2⟩ | hh)
        · exact ⟨r, List.mem_append_left _ hm, h1, h2⟩
        · exact ⟨⟨(from_ : Int), (b.length : Int)⟩, by simp, by show (from_ : Int) ≤ _; omega, by show _ < (b.length : Int); omega⟩
      · rintro ⟨r, hm, h1, h2⟩
        rw [List.mem_append, List.mem_singleton] at hm
        rcases hm with hm | rfl
        · exact .inl ⟨r, hm, h1, h2⟩
        · refine .inr ?_
          have h3 : (from_ : Int) ≤ p := h1
          omega
  · intro hf
    refine ⟨h.apart, fun r hm => ?_, fun p hp => ?_⟩
    · have := h.fits r hm
      omega
    · rw [h.data p hp]
      exact ⟨fun hh => hh.elim id (fun hh => by omega), .inl⟩

/-- the inner loop: how far the zeros go -/

def Cov (l : List Rg) (p : Int) : Prop := ∃ r ∈ l, r.f ≤ p ∧ p < r.t
theorem uniq : ∀ (l l' : List Rg), l.Pairwise (fun x y => x.t < y.f) → l'.Pairwise (fun x y => x.t < y.f) → (∀ r ∈ l, r.f < r.t) → (∀ r ∈ l', r.f < r.t) → (∀ p, Cov l p ↔ Cov l' p) → l = l'
  | [], [], _, _, _, _, _ => rfl
  | [], r :: l, _, _, _, h, hc => by
    obtain ⟨_, h2, _⟩ := (hc r.f).2 ⟨r, List.mem_cons_self, Int.le_refl _, h r List.mem_cons_self⟩
    cases h2
  | r :: l, [], _, _, h, _, hc => by
    obtain ⟨_, h2, _⟩ := (hc r.f).1 ⟨r, List.mem_cons_self, Int.le_refl _, h r List.mem_cons_self⟩
    cases h2
  | r :: l, r' :: l', hp, hp', h, h', hc => by
    have p1 := List.pairwise_cons.1 hp
    have p2 := List.pairwise_cons.1 hp'
    have hr := h r List.mem_cons_self
    have hr' := h' r' List.mem_cons_self
    have ef : r.f = r'.f := by
      obtain ⟨s, hs, h1, h2⟩ := (hc r.f).1 ⟨r, List.mem_cons_self, Int.le_refl _, hr⟩
      obtain ⟨s', hs', h1', h2'⟩ := (hc r'.f).2 ⟨r', List.mem_cons_self, Int.le_refl _, hr'⟩
      have a1 : r'.f ≤ s.f := by
        rcases List.mem_cons.1 hs with rfl | hs
        · omega
        · have := p2.1 s hs; omega
      have a2 : r.f ≤ s'.f := by
        rcases List.mem_cons.1 hs' with rfl | hs'
        · omega
        · have := p1.1 s' hs'; omega
      omega
    have et : r.t = r'.t := by
      rcases Int.lt_trichotomy r.t r'.t with hlt | he | hgt
      · obtain ⟨s, hs, h1, h2⟩ := (hc r.t).2 ⟨r', List.mem_cons_self, by omega, hlt⟩
        rcases List.mem_cons.1 hs with rfl | hs
        · omega
        · have := p1.1 s hs; omega
      · exact he
      · obtain ⟨s, hs, h1, h2⟩ := (hc r'.t).1 ⟨r, List.mem_cons_self, by omega, hgt⟩
        rcases List.mem_cons.1 hs with rfl | hs
        · omega
        · have := p2.1 s hs; omega
    have e : r = r' := by cases r; cases r'; simp_all
    subst e
    rw [uniq l l' p1.2 p2.2 (fun s hs => h s (List.mem_cons_of_mem _ hs)) (fun s hs => h' s (List.mem_cons_of_mem _ hs)) fun p => ?_]
    constructor
    · rintro ⟨s, hs, h1, h2⟩
      obtain ⟨u, hu, h3, h4⟩ := (hc p).1 ⟨s, List.mem_cons_of_mem _ hs, h1, h2⟩
      rcases List.mem_cons.1 hu with rfl | hu
      · have := p1.1 s hs; omega
      · exact ⟨u, hu, h3, h4⟩
    · rintro ⟨s, hs, h1, h2⟩
      obtain ⟨u, hu, h3, h4⟩ := (hc p).2 ⟨s, List.mem_cons_of_mem _ hs, h1, h2⟩
      rcases List.mem_cons.1 hu with rfl | hu
      · have := p2.1 s hs; omega
      · exact ⟨u, hu, h3, h4⟩
theorem Good.uniq {b : List Int} {m : Nat} {l l' : List Rg} (h : Good b m l) (h' : Good b m l') : l = l' := by
  refine S15.uniq l l' h.apart h'.apart (fun r hr => (h.fits r hr).2.1) (fun r hr => (h'.fits r hr).2.1) fun p => ?_
  constructor
  · rintro ⟨r, hr, h1, h2⟩
    have hf := h.fits r hr
    have := (h.data p.toNat (by omega)).2 ⟨r, hr, by omega, by omega⟩
    obtain ⟨s, hs, h3, h4⟩ := (h'.data p.toNat (by omega)).1 this
    exact ⟨s, hs, by omega, by omega⟩
  · rintro ⟨r, hr, h1, h2⟩
    have hf := h'.fits r hr
    have := (h'.data p.toNat (by omega)).2 ⟨r, hr, by omega, by omega⟩
    obtain ⟨s, hs, h3, h4⟩ := (h.data p.toNat (by omega)).1 this
    exact ⟨s, hs, by omega, by omega⟩
end Go.Proofs.Ythflafgijfbpnaa.S15
