/-
  The document's stream, whole.
-/
import Derived.Test.YtgbhdpeibiglfaaDoorInfP
import Derived.Test.YtgbhdpeibiglfaaDoorLowR
import Derived.Test.YtgbhdpeibiglfaaDoorSWords2
/-
  The document's stream under way: bits, symbols, plain bytes, lengths and distances.
-/
set_option linter.unusedVariables false
set_option linter.unusedSimpArgs false
namespace Go.Proofs.YtgbhdpeibiglfaaDoor.S06
open Go Go.RowKit Go.Proofs.YtgbhdpeibiglfaaDoor.Sep Go.Proofs.YtgbhdpeibiglfaaDoor.Low Go.Proofs.YtgbhdpeibiglfaaDoor.S05 Go.Proofs.YtgbhdpeibiglfaaDoor.CodeLaw Go.Proofs.YtgbhdpeibiglfaaDoor.Pack Go.Proofs.YtgbhdpeibiglfaaDoor.BitLaw
open Go.Proofs.YtgbhdpeibiglfaaDoor.Lib hiding by8 by8_scalar

/-- the document's state -/
structure DAt (H : Heap) (p : Nat) (a : Option Addr) (cl : Nat) (L : List Bool) (t : Nat) (v : Value) (o : List Int) (mo : Nat) (e : Int) : Prop where
  blk : H p = some (.cells #[.slice a L.length cl, .int .i64 (t : Nat), v, .int .i64 (mo : Nat), .int .i64 e] 66 (0, 0))
  bits : Row H a (byb L)
  cap : L.length ≤ cl
  pl : Own H 5 1 v (by8 o)
  le : t ≤ L.length
  small : L.length ≤ 1099511627776
  l8 : L.length % 8 = 0
  na : ∀ b, a = some b → own v ≠ some b.block
  nap : ∀ b, a = some b → b.block ≠ p
  nz : ∀ b, a = some b → H b.block ≠ none
  sm : o.length ≤ mo
  mo : mo ≤ 4194304
  byt : isBy o
structure Dv (p : Nat) (v v' : Value) (H H' : Heap) : Prop where
  c : Only (fun r => r = p ∨ own v = some r) H H'
  m : Moved H v v'
theorem Dv.refl {p : Nat} {v : Value} {H : Heap} : Dv p v v H H := ⟨Only.refl _ _, .inl rfl⟩
theorem Dv.trans {p : Nat} {v v1 v2 : Value} {H H1 H2 : Heap} (h : Dv p v v1 H H1) (k : Dv p v1 v2 H1 H2) : Dv p v v2 H H2 := by
  refine ⟨h.c.trans k.c fun r hr => ?_, ?_⟩
  · rcases hr with hr | hr
    · exact .inl (.inl hr)
    · rcases h.m with e | ⟨s, e, hs⟩
      · exact .inl (.inr (e ▸ hr))
      · rw [e] at hr; cases hr; exact .inr hs
  · rcases k.m with e | ⟨s, e, hs⟩
    · rcases h.m with e2 | ⟨s2, e2, hs2⟩
      · exact .inl (e.trans e2)
      · exact .inr ⟨s2, e.trans e2, hs2⟩
    · exact .inr ⟨s, e, h.c.none hs⟩
theorem Dv.keep {p : Nat} {v v' : Value} {H0 H H' : Heap} (h : Dv p v v' H H') (hk : Keep H0 H) (h1 : H0 p = none) (h3 : Fresh H0 v) : Keep H0 H' ∧ Fresh H0 v' := by
  refine ⟨h.c.keep hk fun r hr => ?_, Moved.fresh h.m hk h3⟩
  rcases hr with rfl | hr
  · exact h1
  · exact h3 r hr
theorem Dv.more {p : Nat} {v v' : Value} {H H1 H2 : Heap} (h : Dv p v v' H H1) (hk : Keep H1 H2) : Dv p v v' H H2 := ⟨h.c.trans (Only.of_keep (S := fun _ => False) hk) (fun r hr => hr.elim), h.m⟩
theorem DAt.keep {H H' : Heap} {p : Nat} {a : Option Addr} {cl : Nat} {L : List Bool} {t : Nat} {v : Value} {o : List Int} {mo : Nat} {e : Int} (s : DAt H p a cl L t v o mo e) (hk : Keep H H') : DAt H' p a cl L t v o mo e :=
  ⟨hk _ _ s.blk, hk.row s.bits, s.cap, s.pl.keep hk, s.le, s.small, s.l8, s.na, s.nap, (fun b hb h => s.nz b hb (hk.none h)), s.sm, s.mo, s.byt⟩
theorem DAt.upd {H H2 : Heap} {p : Nat} {a : Option Addr} {cl : Nat} {L : List Bool} {t : Nat} {v : Value} {o : List Int} {mo : Nat} {e : Int} (s : DAt H p a cl L t v o mo e) (t' : Nat) (e' : Int) (ht : t' ≤ L.length)
    (h2 : H2 = H.set p (.cells #[.slice a L.length cl, .int .i64 (t' : Nat), v, .int .i64 (mo : Nat), .int .i64 e'] 66 (0, 0))) : DAt H2 p a cl L t' v o mo e' ∧ Dv p v v H H2 := by
  have ho : Only (· = p) H H2 := by rw [h2]; exact (Only.refl _ _).set (.inl rfl)
  refine ⟨⟨by rw [h2]; exact set_same, S05.Row.only s.bits ho s.nap, s.cap, s.pl.only ho (fun r hr e => s.pl.elem s.blk (by decide) (e ▸ hr)), ht, s.small, s.l8, s.na, s.nap, (fun b hb h => s.nz b hb (ho.none h)), s.sm, s.mo, s.byt⟩, ⟨ho.mono fun r hr => .inl (.inl hr), .inl rfl⟩⟩
/-- a list of other cells stays -/
theorem Dv.own {H H' : Heap} {p : Nat} {a : Option Addr} {cl : Nat} {L : List Bool} {t : Nat} {v v' : Value} {o : List Int} {mo : Nat} {e : Int} {T n : Nat} {w : Value} {cs : List Value} (m : Dv p v v' H H') (s : DAt H p a cl L t v o mo e) (h : Own H T n w cs) (h1 : T ≠ 66) (h3 : 5 ≠ T) : Own H' T n w cs := by
  refine h.only m.c fun r hr => ?_
  rintro (e | e)
  · exact h.elem s.blk h1 (e ▸ hr)
  · exact own_ne s.pl h h3 r hr e
theorem Dv.blk {H H' : Heap} {p : Nat} {a : Option Addr} {cl : Nat} {L : List Bool} {t : Nat} {v v' : Value} {o : List Int} {mo : Nat} {e : Int} {k : Nat} {d : Array Value} {U : TypeId} {f : Nat × Nat} (m : Dv p v v' H H') (s : DAt H p a cl L t v o mo e) (h : H k = some (.cells d U f)) (h1 : U ≠ 66) (h3 : 5 ≠ U) : H' k = some (.cells d U f) := by
  refine m.c.oth _ _ h ?_
  rintro (e | e)
  · exact blk_ne h s.blk h1 e
  · exact s.pl.elem h h3 e
/-- how a call of the document's stream ends -/
def DOut {α : Type} (H : Heap) (p : Nat) (a : Option Addr) (cl : Nat) (L : List Bool) (v : Value) (mo : Nat) (R : Res α) (val : α → Value) (z : Value) (e : Ending) (H' : Heap) : Prop := match R with
  | .ok x t o => e = .returned (val x) ∧ ∃ v', DAt H' p a cl L t v' o mo 0 ∧ Dv p v v' H H'
  | .bad er o => e = .returned z ∧ er ≠ 0 ∧ ∃ v' t, DAt H' p a cl L t v' o mo er ∧ Dv p v v' H H'

set_option maxHeartbeats 2000000 in
theorem dbits_spec {H : Heap} {p : Nat} {a : Option Addr} {cl : Nat} {L : List Bool} {t : Nat} {v : Value} {o : List Int} {mo n : Nat} (s : DAt H p a cl L t v o mo 0) (hn : n ≤ 16) :
    ACalls Tryd.prog 44 [Value.pointer (some ⟨p, 0, none⟩), .int .i64 (n : Nat)].toArray H fun e H' => DOut H p a cl L v mo (tk n L mo t o) (fun x => .int .i64 (x : Nat)) (.int .i64 0) e H' := by
  refine call44 (Nat.le_of_ble_eq_true rfl) ?_
  unfold L44 env0
  have n00 : ((0 : Int) != 0) = false := rfl
  have hle := s.le
  have hsm := s.small
  by_cases h : t + n ≤ L.length
  rotate_left
  · have f0 : decide ((L.length : Int) - (t : Int) < (n : Int)) = true := decide_eq_true (by omega)
    rw [tk_bad h]
    simp -implicitDefEqProofs (maxSteps := 1000000) (disch := first | omega | assumption) only [cell_of s.blk, ev_nilc, n00, f0, Sx, Nat.reduceEqDiff, reduceCtorEq]
    refine st_one (o := 4) s.blk (by simp) rfl ?_
    try simp -implicitDefEqProofs (maxSteps := 1000000) (disch := first | omega | assumption) only [Sx, Nat.reduceEqDiff]
    obtain ⟨s2, m2⟩ := s.upd (e' := 4) t hle rfl
    exact ⟨by (first | exact True.intro | rfl | assumption), by decide, v, t, s2, m2⟩
  rw [tk_ok h]
  obtain ⟨hv1, hv2⟩ := tk_val h
  have f0 : decide ((L.length : Int) - (t : Int) < (n : Int)) = false := decide_eq_false (by omega)
  simp -implicitDefEqProofs (maxSteps := 1000000) (disch := first | omega | assumption) only [cell_of s.blk, ev_nilc, n00, f0, Sx, Nat.reduceEqDiff, reduceCtorEq]
  refine c_loop (fun k env H' => ∃ i, k + i = n ∧ env 0 = .pointer (some ⟨p, 0, none⟩) ∧ env 1 = .int .i64 (n : Nat) ∧ env 5 = .int .i64 (numOf ((L.drop t).take i)) ∧ env 6 = .int .i64 (i : Nat) ∧ H' = H) n ⟨0, by omega, by simp -implicitDefEqProofs (maxSteps := 1000000) (disch := first | omega | assumption) only [Sx, reduceCtorEq], by simp -implicitDefEqProofs (maxSteps := 1000000) (disch := first | omega | assumption) only [Sx, Nat.reduceEqDiff], by rw [List.take_zero]; simp -implicitDefEqProofs (maxSteps := 1000000) (disch := first | omega | assumption) only [Sx, Nat.reduceEqDiff]; rfl, by simp -implicitDefEqProofs (maxSteps := 1000000) (disch := first | omega | assumption) only [Sx, Nat.reduceEqDiff]; rfl, rfl⟩ ?_
  rintro k env H1 ⟨i, hk, h0, h1, h5, h6, rfl⟩
  unfold L44_0
  by_cases hi : i < n
  · have g0 : decide ((i : Int) < (n : Int)) = true := decide_eq_true (by omega)
    obtain ⟨b, rfl, hb⟩ := bit_at s.bits (i := t + i) (by omega)
    have e0 : IntKind.i64.wrap ((t : Int) + (i : Int)) = ((t + i : Nat) : Int) := w_i64 (by omega)
    have hdl : ((L.drop t).take i).length = i := by rw [List.length_take, List.length_drop]; omega
    have hsn : (L.drop t).take (i + 1) = (L.drop t).take i ++ [L[t + i]] := by
      rw [List.take_succ_eq_append_getElem (by rw [List.length_drop]; omega), List.getElem_drop]
    have hx := numOf_range ((L.drop t).take i)
    have hx2 := numOf_range ((L.drop t).take (i + 1))
    have hs2 := numOf_snoc ((L.drop t).take i) L[t + i]
    rw [← hsn, hdl] at hs2
    rw [hdl] at hx
    rw [show ((L.drop t).take (i + 1)).length = i + 1 by rw [List.length_take, List.length_drop]; omega] at hx2
    have hp : (2 : Nat) ^ i ≤ 2 ^ 16 := Nat.pow_le_pow_right (by omega) (by omega)
    have hp2 : (2 : Nat) ^ (i + 1) ≤ 2 ^ 17 := Nat.pow_le_pow_right (by omega) (by omega)
    have c1 : ((2 ^ i : Nat) : Int) = 2 ^ i := by norm_cast
    have c2 : ((2 ^ (i + 1) : Nat) : Int) = 2 ^ (i + 1) := by norm_cast
    rw [← c1] at hs2 hx
    rw [← c2] at hx2
    obtain ⟨x, hxd⟩ : ∃ x, x = numOf ((L.drop t).take i) := ⟨_, rfl⟩
    obtain ⟨z, hzd⟩ : ∃ z, z = numOf ((L.drop t).take (i + 1)) := ⟨_, rfl⟩
    rw [← hxd] at h5 hs2 hx
    rw [← hzd] at hs2 hx2
    have hbi : b2i L[t + i] = 0 ∨ b2i L[t + i] = 1 := by cases L[t + i] <;> simp [b2i]
    obtain ⟨w, hwd⟩ : ∃ w, w = b2i L[t + i] := ⟨_, rfl⟩
    rw [← hwd] at hb hs2 hbi
    have e1 : IntKind.i64.wrap w = w := w_i64 (by omega)
    have e2 : IntKind.i64.wrap (w * 2 ^ min i 64) = w * ((2 ^ i : Nat) : Int) := by
      rw [Nat.min_eq_left (by omega), ← c1]
      rcases hbi with rfl | rfl
      · rw [Int.zero_mul]; rfl
      · rw [Int.one_mul]; exact w_i64 (by omega)
    have e3 : IntKind.i64.wrap (x + w * ((2 ^ i : Nat) : Int)) = z := by rw [← hs2]; exact w_i64 (by omega)
    simp -implicitDefEqProofs (maxSteps := 1000000) (disch := first | omega | assumption) only [cell_of s.blk, ev_nilc, h0, h1, h5, h6, g0, e0, hb, e1, e2, e3, Sx, Nat.reduceEqDiff, reduceCtorEq]
    exact ⟨k - 1, by omega, i + 1, by omega, by (first | exact True.intro | rfl | assumption), by (first | exact True.intro | rfl | assumption), by simp [hzd], by simp, by (first | exact True.intro | rfl | assumption)⟩
  · have g0 : decide ((i : Int) < (n : Int)) = false := decide_eq_false (by omega)
    have : i = n := by omega
    subst this
    have e0 : IntKind.i64.wrap ((t : Int) + (i : Int)) = ((t + i : Nat) : Int) := w_i64 (by omega)
    simp -implicitDefEqProofs (maxSteps := 1000000) (disch := first | omega | assumption) only [cell_of s.blk, ev_nilc, h0, h1, h6, g0, e0, Sx, Nat.reduceEqDiff, reduceCtorEq]
    refine st_one (o := 1) s.blk (by simp) rfl ?_
    try simp -implicitDefEqProofs (maxSteps := 1000000) (disch := first | omega | assumption) only [h5, Sx, Nat.reduceEqDiff]
    obtain ⟨s2, m2⟩ := s.upd (e' := 0) (t + i) h rfl
    exact ⟨by show Ending.returned (.int .i64 _) = Ending.returned (.int .i64 (((numOf ((L.drop t).take i)).toNat : Nat) : Int)); rw [hv2], v, s2, m2⟩
set_option maxHeartbeats 1000000 in
theorem dbits_dead {H : Heap} {p : Nat} {a : Option Addr} {cl : Nat} {L : List Bool} {t : Nat} {v : Value} {o : List Int} {mo : Nat} {n er : Int} (s : DAt H p a cl L t v o mo er) (he : er ≠ 0) :
    ACalls Tryd.prog 44 [Value.pointer (some ⟨p, 0, none⟩), .int .i64 n].toArray H fun e H' => e = .returned (.int .i64 0) ∧ H' = H := by
  refine call44 (Nat.le_of_ble_eq_true rfl) ?_
  unfold L44 env0
  have n00 : (er != 0) = true := bne_iff_ne.2 he
  simp -implicitDefEqProofs (maxSteps := 1000000) (disch := first | omega | assumption) only [cell_of s.blk, ev_nilc, n00, Sx, Nat.reduceEqDiff, reduceCtorEq]
  exact ⟨by (first | exact True.intro | rfl | assumption), by (first | exact True.intro | rfl | assumption)⟩
theorem row_dropb {H : Heap} {A : Option Addr} {l : List Bool} {c k : Nat} (hr : Row H A (byb l)) (hc : l.length ≤ c) : Row H (cutA A c k 1) (byb (l.drop k)) := by
  have := hr.cut (c := c) (l := k) (sz := 1) (by simpa using hc)
  rw [Nat.mul_one, byb, ← List.map_drop] at this
  exact this
set_option maxHeartbeats 2000000 in
theorem dsymbol_spec {H : Heap} {p : Nat} {a : Option Addr} {cl : Nat} {L : List Bool} {t : Nat} {v : Value} {o : List Int} {mo : Nat} {la : Option Addr} {n lc : Nat} {l : List Int} (s : DAt H p a cl L t v o mo 0) (hr : Row H la (by64 l)) (hn : n = l.length) (hc : isCode l = true) :
    ACalls Tryd.prog 59 [Value.pointer (some ⟨p, 0, none⟩), .slice la n lc].toArray H fun e H' => DOut H p a cl L v mo (symb l L mo t o) (fun x => .int .i64 (x : Nat)) (.int .i64 0) e H' := by
  subst hn
  refine call59 (Nat.le_of_ble_eq_true rfl) ?_
  unfold L59 env0
  have n00 : ((0 : Int) != 0) = false := rfl
  have hle := s.le
  have hsm := s.small
  have hin : (0 : Int) ≤ (t : Int) ∧ (t : Int) ≤ (L.length : Nat) := by omega
  simp -implicitDefEqProofs (maxSteps := 1000000) (disch := first | omega | assumption) only [cell_of s.blk, ev_nilc, n00, ev_slc_lo, Sx, Nat.reduceEqDiff, reduceCtorEq]
  refine a_call (rread_spec hr rfl hc (row_dropb (k := t) s.bits s.cap) (by simp) (by rw [List.length_drop]; omega)) ?_
  rintro e H1 ⟨k, n, f, rfl, hI, hk⟩
  have s1 := s.keep hk
  have m1 : Dv p v v H H1 := Dv.refl.more hk
  rcases rdis_err hI with ⟨rfl, -, -⟩ | rfl | rfl
  · rw [symb_ok hc hI]
    have hlen : t + n ≤ L.length := by
      cases hI with
      | hit a b =>
        have := ((wb_pre hc a).1 b).1
        rw [List.length_drop] at this
        omega
    have q0 : ((0 : Int) == 0) = true := rfl
    have e0 : IntKind.i64.wrap ((t : Int) + (n : Int)) = ((t + n : Nat) : Int) := w_i64 (by omega)
    simp -implicitDefEqProofs (maxSteps := 1000000) (disch := first | omega | assumption) only [cell_of s1.blk, ev_nilc, q0, e0, Sx, Nat.reduceEqDiff, reduceCtorEq, endK]
    refine st_one (o := 1) s1.blk (by simp) rfl ?_
    try simp -implicitDefEqProofs (maxSteps := 1000000) (disch := first | omega | assumption) only [Sx, Nat.reduceEqDiff]
    obtain ⟨s2, m2⟩ := s1.upd (e' := 0) (t + n) hlen rfl
    exact ⟨by (first | exact True.intro | rfl | assumption), v, s2, m1.trans m2⟩
  · rw [symb_short hc hI]
    have q0 : ((50 : Int) == 0) = false := rfl
    have q5 : ((50 : Int) == 50) = true := rfl
    simp -implicitDefEqProofs (maxSteps := 1000000) (disch := first | omega | assumption) only [ev_nilc, q0, q5, Sx, Nat.reduceEqDiff, reduceCtorEq, endK]
    refine st_one (o := 4) s1.blk (by simp) rfl ?_
    try simp -implicitDefEqProofs (maxSteps := 1000000) (disch := first | omega | assumption) only [Sx, Nat.reduceEqDiff]
    obtain ⟨s2, m2⟩ := s1.upd (e' := 4) t hle rfl
    exact ⟨by (first | exact True.intro | rfl | assumption), by decide, v, t, s2, m1.trans m2⟩
  · rw [symb_none hc hI]
    have q0 : ((52 : Int) == 0) = false := rfl
    have q5 : ((52 : Int) == 50) = false := rfl
    simp -implicitDefEqProofs (maxSteps := 1000000) (disch := first | omega | assumption) only [ev_nilc, q0, q5, Sx, Nat.reduceEqDiff, reduceCtorEq, endK]
    refine st_one (o := 4) s1.blk (by simp) rfl ?_
    try simp -implicitDefEqProofs (maxSteps := 1000000) (disch := first | omega | assumption) only [Sx, Nat.reduceEqDiff]
    obtain ⟨s2, m2⟩ := s1.upd (e' := 63) t hle rfl
    exact ⟨by (first | exact True.intro | rfl | assumption), by decide, v, t, s2, m1.trans m2⟩
set_option maxHeartbeats 1000000 in
theorem dsymbol_dead {H : Heap} {p : Nat} {a : Option Addr} {cl : Nat} {L : List Bool} {t : Nat} {v : Value} {o : List Int} {mo : Nat} {er : Int} {w : Value} (s : DAt H p a cl L t v o mo er) (he : er ≠ 0) :
    ACalls Tryd.prog 59 [Value.pointer (some ⟨p, 0, none⟩), w].toArray H fun e H' => e = .returned (.int .i64 0) ∧ H' = H := by
  refine call59 (Nat.le_of_ble_eq_true rfl) ?_
  unfold L59 env0
  have n00 : (er != 0) = true := bne_iff_ne.2 he
  simp -implicitDefEqProofs (maxSteps := 1000000) (disch := first | omega | assumption) only [cell_of s.blk, ev_nilc, n00, Sx, Nat.reduceEqDiff, reduceCtorEq]
  exact ⟨by (first | exact True.intro | rfl | assumption), by (first | exact True.intro | rfl | assumption)⟩
/-- plain bytes are put behind -/
theorem DAt.put {H H' H2 : Heap} {p : Nat} {a : Option Addr} {cl : Nat} {L : List Bool} {t : Nat} {v v' : Value} {o w : List Int} {mo : Nat} {e : Int} (s : DAt H p a cl L t v o mo e) (hO : Own H' 5 1 v' (by8 (o ++ w))) (ho : Oth H v H') (hm : Moved H v v') (hw : isBy w) (hl : o.length + w.length ≤ mo)
    (h2 : H2 = H'.set p (.cells #[.slice a L.length cl, .int .i64 (t : Nat), v', .int .i64 (mo : Nat), .int .i64 e] 66 (0, 0))) : DAt H2 p a cl L t v' (o ++ w) mo e ∧ Dv p v v' H H2 := by
  have hp := ho.oth _ _ s.blk fun e => s.pl.elem s.blk (by decide) e
  have ho2 : Only (· = p) H' H2 := by rw [h2]; exact (Only.refl _ _).set (.inl rfl)
  have hrow := S05.Row.only s.bits ho fun b hb => s.na b hb
  have hvp : own v' ≠ some p := hO.elem hp (by decide)
  refine ⟨⟨by rw [h2]; exact set_same, S05.Row.only hrow ho2 s.nap, s.cap, hO.only ho2 (fun r hr e => hvp (e ▸ hr)), s.le, s.small, s.l8, fun b hb => ?_, s.nap, (fun b hb h => s.nz b hb (ho.none (ho2.none h))), by rw [List.length_append]; exact hl, s.mo, ?_⟩, ⟨?_, hm⟩⟩
  · rcases hm with e | ⟨r, e, hr⟩
    · rw [e]; exact s.na b hb
    · rw [e]
      intro e2
      injection e2 with e2
      subst e2
      exact s.nz b hb hr
  · intro x hx
    rcases List.mem_append.1 hx with h | h
    · exact s.byt x h
    · exact hw x h
  · exact (ho.mono fun r hr => .inl (.inr hr)).trans ho2 fun r hr => .inl (.inl hr)
set_option maxHeartbeats 2000000 in
theorem dput_spec {H : Heap} {p : Nat} {a : Option Addr} {cl : Nat} {L : List Bool} {t : Nat} {v : Value} {o : List Int} {mo : Nat} {r : Nat} {x : Int} (s : DAt H p a cl L t v o mo 0) (hO : Own H 5 1 (.slice (some ⟨r, 0, none⟩) 1 1) (by8 [x])) (hx : 0 ≤ x ∧ x < 256) :
    ACalls Tryd.prog 58 [Value.pointer (some ⟨p, 0, none⟩), .slice (some ⟨r, 0, none⟩) 1 1].toArray H fun e H' => DOut H p a cl L v mo ((room 1).bind (fun _ => S06.put [x]) L mo t o) (fun _ => .tuple #[]) (.tuple #[]) e H' := by
  refine call58 (Nat.le_of_ble_eq_true rfl) ?_
  unfold L58 env0
  have n00 : ((0 : Int) != 0) = false := rfl
  have hsm := s.sm
  have hmo := s.mo
  obtain ⟨va, vn, vc, rfl, hvn, hvc, -⟩ := s.pl.view
  rw [List.length_map, Nat.mul_one] at hvn
  subst hvn
  by_cases h : mo < o.length + 1
  · have hR : room 1 L mo t o = .bad 32 o := if_pos h
    rw [bind_bad hR]
    have f0 : decide ((mo : Int) - (o.length : Int) < ((1 : Nat) : Int)) = true := decide_eq_true (by omega)
    simp -implicitDefEqProofs (maxSteps := 1000000) (disch := first | omega | assumption) only [cell_of s.blk, ev_nilc, n00, f0, Sx, Nat.reduceEqDiff, reduceCtorEq]
    refine st_one (o := 4) s.blk (by simp) rfl ?_
    try simp -implicitDefEqProofs (maxSteps := 1000000) (disch := first | omega | assumption) only [Sx]
    obtain ⟨s2, m2⟩ := s.upd (e' := 32) t s.le rfl
    exact ⟨by (first | exact True.intro | rfl | assumption), by decide, _, t, s2, m2⟩
  · have hR : room 1 L mo t o = .ok () t o := if_neg h
    rw [bind_ok hR]
    have f0 : decide ((mo : Int) - (o.length : Int) < ((1 : Nat) : Int)) = false := decide_eq_false (by omega)
    obtain ⟨_, _, _, e, _, _, hrow⟩ := hO.view
    cases e
    simp -implicitDefEqProofs (maxSteps := 1000000) (disch := first | omega | assumption) only [cell_of s.blk, ev_nilc, n00, f0, Sx, Nat.reduceEqDiff, reduceCtorEq]
    refine a_app (len := o.length) (m := 1) (new := by8 [x]) s.pl (by simp) rfl (hrow.cells (by simp)) (by simp) rfl (by omega) (by8_scalar _) (by omega) ?_
    intro v7 H7 hO7 ho7 hm7
    have hO7' : Own H7 5 1 v7 (by8 (o ++ [x])) := by rw [by8, List.map_append]; exact hO7
    obtain ⟨s8, m8⟩ := s.put hO7' ho7 hm7 (by intro y hy; rw [List.mem_singleton] at hy; subst hy; exact hx) (by simp; omega) rfl
    have hb7 := ho7.oth _ _ s.blk fun e => s.pl.elem s.blk (by decide) e
    have hs7 := hO7.scalar
    try simp -implicitDefEqProofs (maxSteps := 1000000) (disch := first | omega | assumption) only [ev_nilc, Sx, Nat.reduceEqDiff]
    refine st_one (o := 2) hb7 (by simp) hs7 ?_
    try simp -implicitDefEqProofs (maxSteps := 1000000) (disch := first | omega | assumption) only [Sx]
    exact ⟨by (first | exact True.intro | rfl | assumption), v7, s8, m8⟩
set_option maxHeartbeats 1000000 in
theorem dput_dead {H : Heap} {p : Nat} {a : Option Addr} {cl : Nat} {L : List Bool} {t : Nat} {v : Value} {o : List Int} {mo : Nat} {er : Int} {w : Value} (s : DAt H p a cl L t v o mo er) (he : er ≠ 0) :
    ACalls Tryd.prog 58 [Value.pointer (some ⟨p, 0, none⟩), w].toArray H fun e H' => e = .returned (.tuple #[]) ∧ H' = H := by
  refine call58 (Nat.le_of_ble_eq_true rfl) ?_
  unfold L58 env0
  have n00 : (er != 0) = true := bne_iff_ne.2 he
  simp -implicitDefEqProofs (maxSteps := 1000000) (disch := first | omega | assumption) only [cell_of s.blk, ev_nilc, n00, Sx, Nat.reduceEqDiff, reduceCtorEq]
  exact ⟨by (first | exact True.intro | rfl | assumption), by (first | exact True.intro | rfl | assumption)⟩
end Go.Proofs.YtgbhdpeibiglfaaDoor.S06

/-
  The document's stream: small functions (none, good, Fixed, Length, Distance).
-/
set_option linter.unusedVariables false
set_option linter.unusedSimpArgs false
namespace Go.Proofs.YtgbhdpeibiglfaaDoor.S06
open Go Go.RowKit Go.Proofs.YtgbhdpeibiglfaaDoor.Sep Go.Proofs.YtgbhdpeibiglfaaDoor.Low Go.Proofs.YtgbhdpeibiglfaaDoor.S05 Go.Proofs.YtgbhdpeibiglfaaDoor.CodeLaw Go.Proofs.YtgbhdpeibiglfaaDoor.Pack Go.Proofs.YtgbhdpeibiglfaaDoor.BitLaw
open Go.Proofs.YtgbhdpeibiglfaaDoor.Lib hiding by8 by8_scalar

set_option maxHeartbeats 1000000 in
theorem none_spec {H : Heap} {A : Option Addr} {n c : Nat} {l : List Int} (hr : Row H A (by64 l)) (hn : n = l.length) (h0 : ∀ x ∈ l, 0 ≤ x) (hl : l.length ≤ 320) :
    ACalls Tryd.prog 62 [Value.slice A n c].toArray H fun e H' => e = .returned (.bool (zeroL l)) ∧ H' = H := by
  subst hn
  refine call62 (Nat.le_of_ble_eq_true rfl) ?_
  unfold L62 env0
  simp -implicitDefEqProofs (maxSteps := 1000000) (disch := first | omega | assumption) only [Sx, reduceCtorEq]
  refine c_loop (fun k env H' => ∃ i, k + i = l.length ∧ env 0 = .slice A l.length c ∧ env 3 = .int .i64 (i : Nat) ∧ zeroL (l.take i) = true ∧ H' = H) l.length ⟨0, by omega, by simp -implicitDefEqProofs (maxSteps := 1000000) (disch := first | omega | assumption) only [Sx, reduceCtorEq], by simp -implicitDefEqProofs (maxSteps := 1000000) (disch := first | omega | assumption) only [Sx, Nat.reduceEqDiff]; rfl, by simp [zeroL], rfl⟩ ?_
  rintro k env H1 ⟨i, hk, g0, g3, hz, rfl⟩
  unfold L62_0
  by_cases hi : i < l.length
  · have f0 : decide ((i : Int) < (l.length : Int)) = true := decide_eq_true (by omega)
    obtain ⟨b, rfl, hb⟩ := int_at hr hi
    have h1 := h0 _ (List.getElem_mem hi)
    have hzt := zero_take hi
    have hzn := zero_not hi
    generalize l[i] = x at hb h1 hzt hzn
    by_cases hx : 0 < x
    · have f1 : decide (0 < x) = true := decide_eq_true hx
      rw [hzn (by omega)]
      simp -implicitDefEqProofs (maxSteps := 1000000) (disch := first | omega | assumption) only [g0, g3, f0, f1, hb, Sx, Nat.reduceEqDiff, reduceCtorEq]
      exact ⟨by (first | exact True.intro | rfl | assumption), by (first | exact True.intro | rfl | assumption)⟩
    · have f1 : decide (0 < x) = false := decide_eq_false hx
      rw [hz, show x = 0 by omega] at hzt
      simp -implicitDefEqProofs (maxSteps := 1000000) (disch := first | omega | assumption) only [g0, g3, f0, f1, hb, Sx, Nat.reduceEqDiff, reduceCtorEq]
      exact ⟨k - 1, by omega, i + 1, by omega, by (first | exact True.intro | rfl | assumption), by simp, by rw [hzt]; rfl, by (first | exact True.intro | rfl | assumption)⟩
  · have f0 : decide ((i : Int) < (l.length : Int)) = false := decide_eq_false (by omega)
    rw [List.take_of_length_le (by omega)] at hz
    rw [hz]
    simp -implicitDefEqProofs (maxSteps := 1000000) (disch := first | omega | assumption) only [g0, g3, f0, Sx, Nat.reduceEqDiff, reduceCtorEq]
    exact ⟨by (first | exact True.intro | rfl | assumption), by (first | exact True.intro | rfl | assumption)⟩
theorem sum_pos : ∀ {l : List Int}, (∀ x ∈ l, 0 ≤ x) → 0 ≤ l.sum ∧ (l.countP (fun x => decide (0 < x)) = 0 → l.sum = 0 ∧ l.countP (fun x => x == 1) = 0) ∧ (l.countP (fun x => decide (0 < x)) = 1 → (l.sum = 1 ↔ l.countP (fun x => x == 1) = 1))
  | [], _ => by simp
  | x :: l, h => by
    obtain ⟨h1, h2, h3⟩ := sum_pos (l := l) fun y hy => h y (List.mem_cons_of_mem _ hy)
    have hx := h x (List.mem_cons_self ..)
    rw [List.sum_cons, List.countP_cons, List.countP_cons]
    refine ⟨by omega, fun hc => ?_, fun hc => ?_⟩
    · by_cases h0 : 0 < x
      · rw [if_pos (by simpa using h0)] at hc; omega
      · rw [if_neg (by simpa using h0)] at hc
        obtain ⟨a, b⟩ := h2 (by omega)
        rw [if_neg (by simp; omega)]
        omega
    · by_cases h0 : 0 < x
      · rw [if_pos (by simpa using h0)] at hc
        obtain ⟨a, b⟩ := h2 (by omega)
        rw [a, b]
        by_cases h1 : x = 1
        · rw [if_pos (by simpa using h1)]; omega
        · rw [if_neg (by simpa using h1)]; omega
      · rw [if_neg (by simpa using h0)] at hc
        rw [if_neg (by simp; omega), show x = 0 by omega]
        have := h3 (by omega)
        omega
theorem sum_take {l : List Int} {i : Nat} (h : i < l.length) : (l.take (i + 1)).sum = (l.take i).sum + l[i] := by
  rw [List.take_succ_eq_append_getElem h, List.sum_append]
  simp
theorem sum_bound : ∀ {l : List Int}, (∀ x ∈ l, 0 ≤ x ∧ x ≤ 15) → l.sum ≤ 15 * l.length
  | [], _ => by simp
  | x :: l, h => by
    have h1 := sum_bound (l := l) fun y hy => h y (List.mem_cons_of_mem _ hy)
    have hx := h x (List.mem_cons_self ..)
    rw [List.sum_cons, List.length_cons]
    omega
/-- a whole code, or, where one may be alone, one word of one bit -/
def fineA (l : List Int) (alone : Bool) : Bool := isCode l && (isWhole l || (alone && (decide ((l.countP fun x => decide (0 < x)) = 1) && decide ((l.countP fun x => x == 1) = 1))))
theorem fineA_t (l : List Int) : fineA l true = fine l := by unfold fineA fine; rw [Bool.true_and]
theorem fineA_f (l : List Int) : fineA l false = (isCode l && isWhole l) := by unfold fineA; rw [Bool.false_and, Bool.or_false]
set_option maxHeartbeats 2000000 in
theorem good_spec {H : Heap} {A : Option Addr} {n c : Nat} {l : List Int} {alone : Bool} (hr : Row H A (by64 l)) (hn : n = l.length) (hl : l.length ≤ 320) :
    ACalls Tryd.prog 61 [Value.slice A n c, .bool alone].toArray H fun e H' => e = .returned (.bool (fineA l alone)) ∧ H' = H := by
  subst hn
  refine call61 (Nat.le_of_ble_eq_true rfl) ?_
  unfold L61 env0
  simp -implicitDefEqProofs (maxSteps := 1000000) (disch := first | omega | assumption) only [Sx, Nat.reduceEqDiff, reduceCtorEq]
  refine a_call (rcode_spec hr rfl) ?_
  rintro e H1 ⟨rfl, rfl⟩
  cases hc : isCode l with
  | false =>
    have hF : fineA l alone = false := by unfold fineA; rw [hc]; rfl
    rw [hF]
    simp -implicitDefEqProofs (maxSteps := 1000000) (disch := first | omega | assumption) only [Sx, Nat.reduceEqDiff, Zx, endK]
    exact ⟨by (first | exact True.intro | rfl | assumption), by (first | exact True.intro | rfl | assumption)⟩
  | true =>
  cases hw : isWhole l with
  | true =>
    have hF : fineA l alone = true := by unfold fineA; rw [hc, hw]; rfl
    rw [hF]
    simp -implicitDefEqProofs (maxSteps := 1000000) (disch := first | omega | assumption) only [Sx, Nat.reduceEqDiff, Zx, endK]
    exact ⟨by (first | exact True.intro | rfl | assumption), by (first | exact True.intro | rfl | assumption)⟩
  | false =>
  have hok := (isCode_ok hc).2.1
  have hok2 : ∀ x ∈ l, 0 ≤ x ∧ x ≤ 15 := fun x hx => hok x hx
  simp -implicitDefEqProofs (maxSteps := 1000000) (disch := first | omega | assumption) only [Sx, Nat.reduceEqDiff, Zx, endK]
  refine c_loop (fun k env H' => ∃ i, k + i = l.length ∧ env 0 = .slice A l.length c ∧ env 1 = .bool alone ∧ env 7 = .int .i64 (((l.take i).countP fun x => decide (0 < x) : Nat) : Int) ∧ env 8 = .int .i64 (l.take i).sum ∧ env 9 = .int .i64 (i : Nat) ∧ H' = H1) l.length ⟨0, by omega, by simp -implicitDefEqProofs (maxSteps := 1000000) (disch := first | omega | assumption) only [Sx, reduceCtorEq], by simp -implicitDefEqProofs (maxSteps := 1000000) (disch := first | omega | assumption) only [Sx, Nat.reduceEqDiff], by simp -implicitDefEqProofs (maxSteps := 1000000) (disch := first | omega | assumption) only [Sx, Nat.reduceEqDiff]; rfl, by simp -implicitDefEqProofs (maxSteps := 1000000) (disch := first | omega | assumption) only [Sx, Nat.reduceEqDiff]; rfl, by simp -implicitDefEqProofs (maxSteps := 1000000) (disch := first | omega | assumption) only [Sx, Nat.reduceEqDiff]; rfl, rfl⟩ ?_
  rintro k env H2 ⟨i, hk, g0, g1, g7, g8, g9, rfl⟩
  unfold L61_1 L61_0
  have b1 : ((l.take i).countP fun x => decide (0 < x)) ≤ l.length := Nat.le_trans List.countP_le_length (by rw [List.length_take]; omega)
  have b2 : (l.take i).sum ≤ 15 * (l.take i).length := sum_bound fun x hx => hok2 x (List.mem_of_mem_take hx)
  have b3 := (sum_pos (l := l.take i) fun x hx => (hok2 x (List.mem_of_mem_take hx)).1).1
  rw [List.length_take] at b2
  by_cases hi : i < l.length
  · have f0 : decide ((i : Int) < (l.length : Int)) = true := decide_eq_true (by omega)
    obtain ⟨b, rfl, hb⟩ := int_at hr hi
    have c1 := countP_take (f := fun x => decide (0 < x)) hi
    have c2 := sum_take hi
    have hx := hok2 _ (List.getElem_mem hi)
    generalize l[i] = x at hb c1 c2 hx
    obtain ⟨u, hu⟩ : ∃ u, u = (l.take i).countP fun x => decide (0 < x) := ⟨_, rfl⟩
    obtain ⟨w, hw⟩ : ∃ w, w = (l.take i).sum := ⟨_, rfl⟩
    rw [← hu] at c1 g7 b1
    rw [← hw] at c2 g8 b2 b3
    by_cases h0 : 0 < x
    · have f1 : decide (0 < x) = true := decide_eq_true h0
      rw [f1, if_pos rfl] at c1
      simp -implicitDefEqProofs (maxSteps := 1000000) (disch := first | omega | assumption) only [g0, g1, g7, g8, g9, f0, f1, hb, Sx, Nat.reduceEqDiff, reduceCtorEq]
      exact ⟨k - 1, by omega, i + 1, by omega, by (first | exact True.intro | rfl | assumption), by (first | exact True.intro | rfl | assumption), by rw [c1]; simp, by rw [c2], by simp, by (first | exact True.intro | rfl | assumption)⟩
    · have f1 : decide (0 < x) = false := decide_eq_false h0
      rw [f1, if_neg (by decide)] at c1
      simp -implicitDefEqProofs (maxSteps := 1000000) (disch := first | omega | assumption) only [g0, g1, g7, g8, g9, f0, f1, hb, Sx, Nat.reduceEqDiff, reduceCtorEq]
      exact ⟨k - 1, by omega, i + 1, by omega, by (first | exact True.intro | rfl | assumption), by (first | exact True.intro | rfl | assumption), by rw [c1]; simp, by rw [c2, show x = 0 by omega]; simp, by simp, by (first | exact True.intro | rfl | assumption)⟩
  · have f0 : decide ((i : Int) < (l.length : Int)) = false := decide_eq_false (by omega)
    obtain rfl : i = l.length := by omega
    rw [List.take_of_length_le (Nat.le_refl _)] at g7 g8 b3 b1
    have hs := (sum_pos (l := l) fun x hx => (hok2 x hx).1).2.2
    obtain ⟨u, hu⟩ : ∃ u, u = l.countP fun x => decide (0 < x) := ⟨_, rfl⟩
    obtain ⟨w, hw2⟩ : ∃ w, w = l.sum := ⟨_, rfl⟩
    have hF : fineA l alone = (alone && (decide (u = 1) && decide (w = 1))) := by
      unfold fineA
      rw [hc, hw, Bool.true_and, Bool.false_or, ← hu]
      by_cases h1 : u = 1
      · have := hs (by rw [← hu]; exact h1)
        rw [hw2]
        by_cases h2 : l.sum = 1
        · rw [decide_eq_true h2, decide_eq_true (this.1 h2)]
        · rw [decide_eq_false h2, decide_eq_false (fun h => h2 (this.2 h))]
      · rw [decide_eq_false h1, Bool.false_and, Bool.false_and]
    rw [← hu] at g7
    rw [← hw2] at g8
    rw [hF]
    have q1 : ((u : Int) == 1) = decide (u = 1) := by
      by_cases h : u = 1
      · rw [decide_eq_true h, beq_iff_eq]; omega
      · rw [decide_eq_false h, beq_eq_false_iff_ne]; omega
    have q2 : (w == 1) = decide (w = 1) := by
      by_cases h : w = 1
      · rw [decide_eq_true h, beq_iff_eq]; omega
      · rw [decide_eq_false h, beq_eq_false_iff_ne]; omega
    cases alone with
    | false =>
      simp -implicitDefEqProofs (maxSteps := 1000000) (disch := first | omega | assumption) only [g0, g1, g9, f0, Sx, Nat.reduceEqDiff, reduceCtorEq]
      exact ⟨by (first | exact True.intro | rfl | assumption), by (first | exact True.intro | rfl | assumption)⟩
    | true =>
      cases hd : decide (u = 1) with
      | false =>
        rw [hd] at q1
        simp -implicitDefEqProofs (maxSteps := 1000000) (disch := first | omega | assumption) only [g0, g1, g7, g9, f0, q1, Sx, Nat.reduceEqDiff, reduceCtorEq]
        exact ⟨by (first | exact True.intro | rfl | assumption), by (first | exact True.intro | rfl | assumption)⟩
      | true =>
        rw [hd] at q1
        simp -implicitDefEqProofs (maxSteps := 1000000) (disch := first | omega | assumption) only [g0, g1, g7, g8, g9, f0, q1, q2, Sx, Nat.reduceEqDiff, reduceCtorEq]
        exact ⟨by (first | exact True.intro | rfl | assumption), by (first | exact True.intro | rfl | assumption)⟩
/-! ### The fixed codes -/
def fxv (i : Nat) : Int := if 256 ≤ i ∧ i < 280 then 7 else if 144 ≤ i ∧ i < 256 then 9 else 8
theorem fx_all : ((List.range 288).all fun i => fixL[i]? == some (fxv i)) = true := by kernel_rfl
theorem fx_take {i : Nat} (h : i < 288) : fixL.take (i + 1) = fixL.take i ++ [fxv i] := by
  have h1 := fixL_len
  have h2 := List.all_eq_true.1 fx_all i (List.mem_range.2 h)
  simp only [beq_iff_eq] at h2
  rw [List.take_succ_eq_append_getElem (by omega)]
  rw [List.getElem?_eq_getElem (by omega)] at h2
  rw [Option.some.inj h2]
set_option maxHeartbeats 4000000 in
theorem rfixed_spec {H : Heap} : ACalls Tryd.prog 47 ([] : List Value).toArray H fun e H' => ∃ va vb, e = .returned (.tuple #[va, vb]) ∧ Is H' va fixL ∧ Is H' vb fixD ∧ Keep H H' := by
  refine call47 (Nat.le_of_ble_eq_true rfl) ?_
  unfold L47 env0
  simp -implicitDefEqProofs (maxSteps := 1000000) (disch := first | omega | assumption) only [Sx, reduceCtorEq]
  refine c_loop (fun k env H' => ∃ i v, k + i = 288 ∧ env 2 = v ∧ env 3 = .slice none 0 0 ∧ env 4 = .int .i64 (i : Nat) ∧ Is H' v (fixL.take i) ∧ Keep H H' ∧ Fresh H v) 288 ⟨0, .slice none 0 0, by omega, by simp -implicitDefEqProofs (maxSteps := 1000000) (disch := first | omega | assumption) only [Sx, Nat.reduceEqDiff, reduceCtorEq], by simp -implicitDefEqProofs (maxSteps := 1000000) (disch := first | omega | assumption) only [Sx, Nat.reduceEqDiff, reduceCtorEq], by simp -implicitDefEqProofs (maxSteps := 1000000) (disch := first | omega | assumption) only [Sx, Nat.reduceEqDiff, reduceCtorEq]; rfl, .nil, Keep.refl _, fun q hq => by cases hq⟩ ?_
  rintro k env H1 ⟨i, v, hk, g2, g3, g4, hO, hK, hF⟩
  unfold L47_3 L47_1 L47_2
  by_cases hi : i < 288
  · have f0 : decide ((i : Int) < 288) = true := decide_eq_true (by omega)
    have hsv := hO.scalar
    have hlen : (fixL.take i).length = i := by rw [List.length_take, fixL_len]; omega
    have tail : ∀ (x : Int) (env : Env) (Q : Post) QP, x = fxv i → env 2 = v → env 5 = .int .i64 x → (∀ v' env' H', (∀ j, j ≠ 2 → j < 7 → env' j = env j) → env' 2 = v' → Is H' v' (fixL.take (i + 1)) → Keep H H' → Fresh H v' → Q .normal env' H') → awpC Tryd.prog L47_0 Q QP env H1 := by
      intro x env Q QP hx g2 g5 hQ
      subst hx
      unfold L47_0
      simp -implicitDefEqProofs (maxSteps := 1000000) (disch := first | omega | assumption) only [g2, g5, Sx, Nat.reduceEqDiff]
      refine a_lit64 ?_
      intro r4 H4 hO4 hk4 hr4
      obtain ⟨_, _, _, e, _, _, hrow4⟩ := hO4.view
      cases e
      try simp -implicitDefEqProofs (maxSteps := 1000000) (disch := first | omega | assumption) only [Sx, Nat.reduceEqDiff]
      refine a_app (len := i) (m := 1) (new := by64 [fxv i]) (hO.keep hk4) (by rw [List.length_map, hlen]; omega) (by rfl) (hrow4.cells (by simp)) (by simp) rfl (by omega) (by64_scalar _) (by omega) ?_
      intro v5 H5 hO5 ho5 hm5
      try simp -implicitDefEqProofs (maxSteps := 1000000) (disch := first | omega | assumption) only [Sx, Nat.reduceEqDiff]
      refine hQ v5 _ _ (fun j h1 h2 => ?_) (by simp -implicitDefEqProofs (maxSteps := 1000000) (disch := first | omega | assumption) only [Sx, Nat.reduceEqDiff]) ?_ (ho5.keep (hK.trans hk4) hF) (hm5.fresh (hK.trans hk4) hF)
      · have : j = 0 ∨ j = 1 ∨ j = 3 ∨ j = 4 ∨ j = 5 ∨ j = 6 := by omega
        rcases this with rfl | rfl | rfl | rfl | rfl | rfl <;> simp -implicitDefEqProofs (maxSteps := 1000000) (disch := first | omega | assumption) only [Sx, Nat.reduceEqDiff, reduceCtorEq]
      · show Own _ _ _ _ _
        rw [fx_take hi, by64, List.map_append]
        exact hO5
    by_cases h144 : 144 ≤ i
    · have b1 : decide ((144 : Int) ≤ (i : Int)) = true := decide_eq_true (by omega)
      by_cases h256 : i < 256
      · have b2 : decide ((i : Int) < 256) = true := decide_eq_true (by omega)
        have b3 : decide ((256 : Int) ≤ (i : Int)) = false := decide_eq_false (by omega)
        simp -implicitDefEqProofs (maxSteps := 1000000) (disch := first | omega | assumption) only [g4, f0, b1, b2, b3, Sx, Nat.reduceEqDiff]
        refine tail 9 _ _ _ (by unfold fxv; rw [if_neg (by omega), if_pos (by omega)]) ?_ ?_ ?_
        · simp -implicitDefEqProofs (maxSteps := 1000000) (disch := first | omega | assumption) only [g2, Sx, Nat.reduceEqDiff]
        · simp -implicitDefEqProofs (maxSteps := 1000000) (disch := first | omega | assumption) only [Sx, Nat.reduceEqDiff]
        intro v' env' H' he h2 hI hk' hf'
        have h3 : env' 3 = .slice none 0 0 := by rw [he 3 (by decide) (by decide)]; simp -implicitDefEqProofs (maxSteps := 1000000) (disch := first | omega | assumption) only [g3, Sx, Nat.reduceEqDiff]
        have h4 : env' 4 = .int .i64 (i : Nat) := by rw [he 4 (by decide) (by decide)]; simp -implicitDefEqProofs (maxSteps := 1000000) (disch := first | omega | assumption) only [g4, Sx, Nat.reduceEqDiff]
        simp -implicitDefEqProofs (maxSteps := 1000000) (disch := first | omega | assumption) only [h2, h3, h4, Sx, Nat.reduceEqDiff]
        exact ⟨k - 1, by omega, i + 1, v', by omega, by (first | exact True.intro | rfl | assumption), by (first | exact True.intro | rfl | assumption), by simp, hI, hk', hf'⟩
      · have b2 : decide ((i : Int) < 256) = false := decide_eq_false (by omega)
        have b3 : decide ((256 : Int) ≤ (i : Int)) = true := decide_eq_true (by omega)
        by_cases h280 : i < 280
        · have b4 : decide ((i : Int) < 280) = true := decide_eq_true (by omega)
          simp -implicitDefEqProofs (maxSteps := 1000000) (disch := first | omega | assumption) only [g4, f0, b1, b2, b3, b4, Sx, Nat.reduceEqDiff]
          refine tail 7 _ _ _ (by unfold fxv; rw [if_pos (by omega)]) ?_ ?_ ?_
          · simp -implicitDefEqProofs (maxSteps := 1000000) (disch := first | omega | assumption) only [g2, Sx, Nat.reduceEqDiff]
          · simp -implicitDefEqProofs (maxSteps := 1000000) (disch := first | omega | assumption) only [Sx, Nat.reduceEqDiff]
          intro v' env' H' he h2 hI hk' hf'
          have h3 : env' 3 = .slice none 0 0 := by rw [he 3 (by decide) (by decide)]; simp -implicitDefEqProofs (maxSteps := 1000000) (disch := first | omega | assumption) only [g3, Sx, Nat.reduceEqDiff]
          have h4 : env' 4 = .int .i64 (i : Nat) := by rw [he 4 (by decide) (by decide)]; simp -implicitDefEqProofs (maxSteps := 1000000) (disch := first | omega | assumption) only [g4, Sx, Nat.reduceEqDiff]
          simp -implicitDefEqProofs (maxSteps := 1000000) (disch := first | omega | assumption) only [h2, h3, h4, Sx, Nat.reduceEqDiff]
          exact ⟨k - 1, by omega, i + 1, v', by omega, by (first | exact True.intro | rfl | assumption), by (first | exact True.intro | rfl | assumption), by simp, hI, hk', hf'⟩
        · have b4 : decide ((i : Int) < 280) = false := decide_eq_false (by omega)
          simp -implicitDefEqProofs (maxSteps := 1000000) (disch := first | omega | assumption) only [g4, f0, b1, b2, b3, b4, Sx, Nat.reduceEqDiff]
          refine tail 8 _ _ _ (by unfold fxv; rw [if_neg (by omega), if_neg (by omega)]) ?_ ?_ ?_
          · simp -implicitDefEqProofs (maxSteps := 1000000) (disch := first | omega | assumption) only [g2, Sx, Nat.reduceEqDiff]
          · simp -implicitDefEqProofs (maxSteps := 1000000) (disch := first | omega | assumption) only [Sx, Nat.reduceEqDiff]
          intro v' env' H' he h2 hI hk' hf'
          have h3 : env' 3 = .slice none 0 0 := by rw [he 3 (by decide) (by decide)]; simp -implicitDefEqProofs (maxSteps := 1000000) (disch := first | omega | assumption) only [g3, Sx, Nat.reduceEqDiff]
          have h4 : env' 4 = .int .i64 (i : Nat) := by rw [he 4 (by decide) (by decide)]; simp -implicitDefEqProofs (maxSteps := 1000000) (disch := first | omega | assumption) only [g4, Sx, Nat.reduceEqDiff]
          simp -implicitDefEqProofs (maxSteps := 1000000) (disch := first | omega | assumption) only [h2, h3, h4, Sx, Nat.reduceEqDiff]
          exact ⟨k - 1, by omega, i + 1, v', by omega, by (first | exact True.intro | rfl | assumption), by (first | exact True.intro | rfl | assumption), by simp, hI, hk', hf'⟩
    · have b1 : decide ((144 : Int) ≤ (i : Int)) = false := decide_eq_false (by omega)
      have b3 : decide ((256 : Int) ≤ (i : Int)) = false := decide_eq_false (by omega)
      simp -implicitDefEqProofs (maxSteps := 1000000) (disch := first | omega | assumption) only [g4, f0, b1, b3, Sx, Nat.reduceEqDiff]
      refine tail 8 _ _ _ (by unfold fxv; rw [if_neg (by omega), if_neg (by omega)]) ?_ ?_ ?_
      · simp -implicitDefEqProofs (maxSteps := 1000000) (disch := first | omega | assumption) only [g2, Sx, Nat.reduceEqDiff]
      · simp -implicitDefEqProofs (maxSteps := 1000000) (disch := first | omega | assumption) only [Sx, Nat.reduceEqDiff]
      intro v' env' H' he h2 hI hk' hf'
      have h3 : env' 3 = .slice none 0 0 := by rw [he 3 (by decide) (by decide)]; simp -implicitDefEqProofs (maxSteps := 1000000) (disch := first | omega | assumption) only [g3, Sx, Nat.reduceEqDiff]
      have h4 : env' 4 = .int .i64 (i : Nat) := by rw [he 4 (by decide) (by decide)]; simp -implicitDefEqProofs (maxSteps := 1000000) (disch := first | omega | assumption) only [g4, Sx, Nat.reduceEqDiff]
      simp -implicitDefEqProofs (maxSteps := 1000000) (disch := first | omega | assumption) only [h2, h3, h4, Sx, Nat.reduceEqDiff]
      exact ⟨k - 1, by omega, i + 1, v', by omega, by (first | exact True.intro | rfl | assumption), by (first | exact True.intro | rfl | assumption), by simp, hI, hk', hf'⟩
  · have f0 : decide ((i : Int) < 288) = false := decide_eq_false (by omega)
    rw [List.take_of_length_le (by rw [fixL_len]; omega)] at hO
    simp -implicitDefEqProofs (maxSteps := 1000000) (disch := first | omega | assumption) only [g4, f0, Sx, Nat.reduceEqDiff]
    refine c_loop (fun k env H' => ∃ i w, k + i = 32 ∧ env 2 = v ∧ env 3 = w ∧ env 6 = .int .i64 (i : Nat) ∧ Is H' v fixL ∧ Is H' w (List.replicate i 5) ∧ Keep H H' ∧ Keep H1 H' ∧ Fresh H1 w) 32 ⟨0, .slice none 0 0, by omega, by simp -implicitDefEqProofs (maxSteps := 1000000) (disch := first | omega | assumption) only [g2, Sx, Nat.reduceEqDiff], by simp -implicitDefEqProofs (maxSteps := 1000000) (disch := first | omega | assumption) only [g3, Sx, Nat.reduceEqDiff], by simp -implicitDefEqProofs (maxSteps := 1000000) (disch := first | omega | assumption) only [Sx, Nat.reduceEqDiff]; rfl, hO, .nil, hK, Keep.refl _, fun q hq => by cases hq⟩ ?_
    clear g2 g3 g4 f0 hi hk
    rintro k env H2 ⟨i, w, hk, g2, g3, g6, hO2, hW, hK2, hK3, hFw⟩
    unfold L47_4
    have hsv := hO2.scalar
    have hsw := hW.scalar
    by_cases hi : i < 32
    · have f0 : decide ((i : Int) < 32) = true := decide_eq_true (by omega)
      simp -implicitDefEqProofs (maxSteps := 1000000) (disch := first | omega | assumption) only [g3, g6, f0, Sx, Nat.reduceEqDiff]
      refine a_lit64 ?_
      intro r4 H4 hO4 hk4 hr4
      obtain ⟨_, _, _, e, _, _, hrow4⟩ := hO4.view
      cases e
      try simp -implicitDefEqProofs (maxSteps := 1000000) (disch := first | omega | assumption) only [Sx, Nat.reduceEqDiff]
      refine a_app (len := i) (m := 1) (new := by64 [5]) (hW.keep hk4) (by simp) (by rfl) (hrow4.cells (by simp)) (by simp) rfl (by omega) (by64_scalar _) (by omega) ?_
      intro v5 H5 hO5 ho5 hm5
      try simp -implicitDefEqProofs (maxSteps := 1000000) (disch := first | omega | assumption) only [g2, g3, g6, Sx, Nat.reduceEqDiff]
      have hk5 := ho5.keep (hK3.trans hk4) hFw
      exact ⟨k - 1, by omega, i + 1, v5, by omega, by (first | exact True.intro | rfl | assumption), by (first | exact True.intro | rfl | assumption), by simp, hO.keep hk5, by show Own _ _ _ _ _; rw [List.replicate_succ', by64, List.map_append]; exact hO5, hK.trans hk5, hk5, hm5.fresh (hK3.trans hk4) hFw⟩
    · have f0 : decide ((i : Int) < 32) = false := decide_eq_false (by omega)
      obtain rfl : i = 32 := by omega
      simp -implicitDefEqProofs (maxSteps := 1000000) (disch := first | omega | assumption) only [g2, g3, g6, f0, Sx, Nat.reduceEqDiff, reduceCtorEq]
      exact ⟨v, w, by (first | exact True.intro | rfl | assumption), hO2, hW, hK2⟩
/-! ### Lengths and distances -/
def lstep (x : Nat × Nat) (k : Nat) : Nat × Nat := (x.1 + 2 ^ x.2, if 7 ≤ k ∧ (k - 7) % 4 = 0 then (k - 7) / 4 + 1 else x.2)
def lTab : Nat → Nat × Nat
  | 0 => (3, 0)
  | k + 1 => lstep (lTab k) k
set_option maxRecDepth 10000 in
theorem lTab_is : ∀ k, k < 28 → lTab k = lenOf k := by decide
set_option maxRecDepth 10000 in
theorem lTab_le : ∀ k, k < 29 → (lTab k).1 ≤ 300 ∧ (lTab k).2 ≤ 6 := by decide
def dTab : Nat → Nat × Nat
  | 0 => (1, 0)
  | k + 1 => ((dTab k).1 + 2 ^ (dTab k).2, if 3 ≤ k ∧ k % 2 = 1 then (dTab k).2 + 1 else (dTab k).2)
set_option maxRecDepth 10000 in
theorem dTab_is : ∀ k, k < 30 → dTab k = distOf k := by decide
set_option maxRecDepth 10000 in
theorem dTab_le : ∀ k, k < 31 → (dTab k).1 ≤ 32769 ∧ (dTab k).2 ≤ 14 := by decide
theorem shl1 {k : Nat} (hk : k ≤ 15) : IntKind.i64.wrap (1 * 2 ^ min k 64) = ((2 ^ k : Nat) : Int) := by
  have := shlw (k := k) (x := 1) hk (by omega)
  rw [Nat.one_mul] at this
  exact this
set_option maxHeartbeats 2000000 in
theorem rlength_spec {H : Heap} {y : Nat} (h1 : 257 ≤ y) (h2 : y < 286) :
    ACalls Tryd.prog 79 [Value.int .i64 (y : Nat)].toArray H fun e H' => e = .returned (.tuple #[.int .i64 ((lenOf (y - 257)).1 : Nat), .int .i64 ((lenOf (y - 257)).2 : Nat)]) ∧ H' = H := by
  refine call79 (Nat.le_of_ble_eq_true rfl) ?_
  unfold L79 env0
  by_cases h285 : y = 285
  · subst h285
    have f0 : (((285 : Nat) : Int) == 285) = true := rfl
    have e0 : lenOf (285 - 257) = (258, 0) := by decide
    rw [e0]
    simp -implicitDefEqProofs (maxSteps := 1000000) (disch := first | omega | assumption) only [f0, Sx, Nat.reduceEqDiff, reduceCtorEq]
    exact ⟨by (first | exact True.intro | rfl | assumption), by (first | exact True.intro | rfl | assumption)⟩
  have f0 : ((y : Int) == 285) = false := by rw [beq_eq_false_iff_ne]; omega
  simp -implicitDefEqProofs (maxSteps := 1000000) (disch := first | omega | assumption) only [f0, Sx, Nat.reduceEqDiff, reduceCtorEq]
  refine c_loop (fun k env H' => ∃ i, k + i = y - 257 ∧ env 0 = .int .i64 (y : Nat) ∧ env 4 = .int .i64 ((lTab i).1 : Nat) ∧ env 5 = .int .i64 ((lTab i).2 : Nat) ∧ env 6 = .int .i64 ((257 + i : Nat) : Int) ∧ H' = H) (y - 257) ⟨0, by omega, by simp -implicitDefEqProofs (maxSteps := 1000000) (disch := first | omega | assumption) only [Sx, reduceCtorEq], by simp -implicitDefEqProofs (maxSteps := 1000000) (disch := first | omega | assumption) only [Sx, Nat.reduceEqDiff]; rfl, by simp -implicitDefEqProofs (maxSteps := 1000000) (disch := first | omega | assumption) only [Sx, Nat.reduceEqDiff]; rfl, by simp -implicitDefEqProofs (maxSteps := 1000000) (disch := first | omega | assumption) only [Sx, Nat.reduceEqDiff]; rfl, rfl⟩ ?_
  rintro k env H1 ⟨i, hk, g0, g4, g5, g6, rfl⟩
  unfold L79_0
  by_cases hi : 257 + i < y
  · have f1 : decide (((257 + i : Nat) : Int) < (y : Int)) = true := decide_eq_true (by omega)
    obtain ⟨b1, b2⟩ := lTab_le i (by omega)
    obtain ⟨c1, c2⟩ := lTab_le (i + 1) (by omega)
    have e1 : lTab (i + 1) = lstep (lTab i) i := rfl
    unfold lstep at e1
    obtain ⟨u, hu⟩ : ∃ u, u = (lTab i).1 := ⟨_, rfl⟩
    obtain ⟨w, hw⟩ : ∃ w, w = (lTab i).2 := ⟨_, rfl⟩
    rw [← hu, ← hw] at e1
    rw [← hu] at g4 b1
    rw [← hw] at g5 b2
    have hs := shl1 (k := w) (by omega)
    have hp : (2 : Nat) ^ w ≤ 2 ^ 6 := Nat.pow_le_pow_right (by omega) (by omega)
    obtain ⟨q, hq⟩ : ∃ q, q = 2 ^ w := ⟨_, rfl⟩
    rw [← hq] at hs hp e1
    by_cases h7 : 7 ≤ i ∧ (i - 7) % 4 = 0
    · rw [if_pos h7] at e1
      have f2 : decide ((264 : Int) ≤ ((257 + i : Nat) : Int)) = true := decide_eq_true (by omega)
      have e3 : ((257 + i : Nat) : Int) - 264 = ((i - 7 : Nat) : Int) := by omega
      have e4 : ((((i - 7 : Nat) : Int) % 4) == 0) = true := by rw [beq_iff_eq]; omega
      have e5 : ((i - 7 : Nat) : Int) / 4 + 1 = (((i - 7) / 4 + 1 : Nat) : Int) := by omega
      simp -implicitDefEqProofs (maxSteps := 1000000) (disch := first | omega | assumption) only [g0, g4, g5, g6, f1, f2, e3, e4, e5, hs, Sx, Nat.reduceEqDiff, reduceCtorEq]
      exact ⟨k - 1, by omega, i + 1, by omega, by (first | exact True.intro | rfl | assumption), by rw [e1] <;> simp, by rw [e1] <;> simp, by (first | rfl | (congr 1; omega)), by (first | exact True.intro | rfl | assumption)⟩
    · rw [if_neg h7] at e1
      by_cases h8 : 7 ≤ i
      · have f2 : decide ((264 : Int) ≤ ((257 + i : Nat) : Int)) = true := decide_eq_true (by omega)
        have e3 : ((257 + i : Nat) : Int) - 264 = ((i - 7 : Nat) : Int) := by omega
        have e4 : ((((i - 7 : Nat) : Int) % 4) == 0) = false := by rw [beq_eq_false_iff_ne]; omega
        simp -implicitDefEqProofs (maxSteps := 1000000) (disch := first | omega | assumption) only [g0, g4, g5, g6, f1, f2, e3, e4, hs, Sx, Nat.reduceEqDiff, reduceCtorEq]
        exact ⟨k - 1, by omega, i + 1, by omega, by (first | exact True.intro | rfl | assumption), by rw [e1] <;> simp, by rw [e1], by (first | rfl | (congr 1; omega)), by (first | exact True.intro | rfl | assumption)⟩
      · have f2 : decide ((264 : Int) ≤ ((257 + i : Nat) : Int)) = false := decide_eq_false (by omega)
        simp -implicitDefEqProofs (maxSteps := 1000000) (disch := first | omega | assumption) only [g0, g4, g5, g6, f1, f2, hs, Sx, Nat.reduceEqDiff, reduceCtorEq]
        exact ⟨k - 1, by omega, i + 1, by omega, by (first | exact True.intro | rfl | assumption), by rw [e1] <;> simp, by rw [e1], by (first | rfl | (congr 1; omega)), by (first | exact True.intro | rfl | assumption)⟩
  · have f1 : decide (((257 + i : Nat) : Int) < (y : Int)) = false := decide_eq_false (by omega)
    have hiy : i = y - 257 := by omega
    rw [hiy, lTab_is _ (by omega)] at g4 g5
    unfold L79_1
    simp -implicitDefEqProofs (maxSteps := 1000000) (disch := first | omega | assumption) only [g0, g4, g5, g6, f1, Sx, Nat.reduceEqDiff, reduceCtorEq]
    exact ⟨by (first | exact True.intro | rfl | assumption), by (first | exact True.intro | rfl | assumption)⟩
set_option maxHeartbeats 2000000 in
theorem rdistance_spec {H : Heap} {y : Nat} (h2 : y < 30) :
    ACalls Tryd.prog 80 [Value.int .i64 (y : Nat)].toArray H fun e H' => e = .returned (.tuple #[.int .i64 ((distOf y).1 : Nat), .int .i64 ((distOf y).2 : Nat)]) ∧ H' = H := by
  refine call80 (Nat.le_of_ble_eq_true rfl) ?_
  unfold L80 env0
  simp -implicitDefEqProofs (maxSteps := 1000000) (disch := first | omega | assumption) only [Sx, reduceCtorEq]
  refine c_loop (fun k env H' => ∃ i, k + i = y ∧ env 0 = .int .i64 (y : Nat) ∧ env 4 = .int .i64 ((dTab i).1 : Nat) ∧ env 5 = .int .i64 ((dTab i).2 : Nat) ∧ env 6 = .int .i64 (i : Nat) ∧ H' = H) y ⟨0, by omega, by simp -implicitDefEqProofs (maxSteps := 1000000) (disch := first | omega | assumption) only [Sx, reduceCtorEq], by simp -implicitDefEqProofs (maxSteps := 1000000) (disch := first | omega | assumption) only [Sx, Nat.reduceEqDiff]; rfl, by simp -implicitDefEqProofs (maxSteps := 1000000) (disch := first | omega | assumption) only [Sx, Nat.reduceEqDiff]; rfl, by simp -implicitDefEqProofs (maxSteps := 1000000) (disch := first | omega | assumption) only [Sx, Nat.reduceEqDiff]; rfl, rfl⟩ ?_
  rintro k env H1 ⟨i, hk, g0, g4, g5, g6, rfl⟩
  unfold L80_1 L80_0
  by_cases hi : i < y
  · have f1 : decide ((i : Int) < (y : Int)) = true := decide_eq_true (by omega)
    obtain ⟨b1, b2⟩ := dTab_le i (by omega)
    obtain ⟨c1, c2⟩ := dTab_le (i + 1) (by omega)
    have e1 : dTab (i + 1) = ((dTab i).1 + 2 ^ (dTab i).2, if 3 ≤ i ∧ i % 2 = 1 then (dTab i).2 + 1 else (dTab i).2) := rfl
    obtain ⟨u, hu⟩ : ∃ u, u = (dTab i).1 := ⟨_, rfl⟩
    obtain ⟨w, hw⟩ : ∃ w, w = (dTab i).2 := ⟨_, rfl⟩
    rw [← hu, ← hw] at e1
    rw [← hu] at g4 b1
    rw [← hw] at g5 b2
    have hs := shl1 (k := w) (by omega)
    have hp : (2 : Nat) ^ w ≤ 2 ^ 14 := Nat.pow_le_pow_right (by omega) (by omega)
    obtain ⟨q, hq⟩ : ∃ q, q = 2 ^ w := ⟨_, rfl⟩
    rw [← hq] at hs hp e1
    by_cases h7 : 3 ≤ i ∧ i % 2 = 1
    · rw [if_pos h7] at e1
      have f2 : decide ((3 : Int) ≤ (i : Int)) = true := decide_eq_true (by omega)
      have e4 : (((i : Int) % 2) == 1) = true := by rw [beq_iff_eq]; omega
      simp -implicitDefEqProofs (maxSteps := 1000000) (disch := first | omega | assumption) only [g0, g4, g5, g6, f1, f2, e4, hs, Sx, Nat.reduceEqDiff, reduceCtorEq]
      exact ⟨k - 1, by omega, i + 1, by omega, by (first | exact True.intro | rfl | assumption), by rw [e1] <;> simp, by rw [e1] <;> simp, by simp, by (first | exact True.intro | rfl | assumption)⟩
    · rw [if_neg h7] at e1
      by_cases h8 : 3 ≤ i
      · have f2 : decide ((3 : Int) ≤ (i : Int)) = true := decide_eq_true (by omega)
        have e4 : (((i : Int) % 2) == 1) = false := by rw [beq_eq_false_iff_ne]; omega
        simp -implicitDefEqProofs (maxSteps := 1000000) (disch := first | omega | assumption) only [g0, g4, g5, g6, f1, f2, e4, hs, Sx, Nat.reduceEqDiff, reduceCtorEq]
        exact ⟨k - 1, by omega, i + 1, by omega, by (first | exact True.intro | rfl | assumption), by rw [e1] <;> simp, by rw [e1], by simp, by (first | exact True.intro | rfl | assumption)⟩
      · have f2 : decide ((3 : Int) ≤ (i : Int)) = false := decide_eq_false (by omega)
        simp -implicitDefEqProofs (maxSteps := 1000000) (disch := first | omega | assumption) only [g0, g4, g5, g6, f1, f2, hs, Sx, Nat.reduceEqDiff, reduceCtorEq]
        exact ⟨k - 1, by omega, i + 1, by omega, by (first | exact True.intro | rfl | assumption), by rw [e1] <;> simp, by rw [e1], by simp, by (first | exact True.intro | rfl | assumption)⟩
  · have f1 : decide ((i : Int) < (y : Int)) = false := decide_eq_false (by omega)
    obtain rfl : i = y := by omega
    rw [dTab_is i (by omega)] at g4 g5
    simp -implicitDefEqProofs (maxSteps := 1000000) (disch := first | omega | assumption) only [g0, g4, g5, g6, f1, Sx, Nat.reduceEqDiff, reduceCtorEq]
    exact ⟨by (first | exact True.intro | rfl | assumption), by (first | exact True.intro | rfl | assumption)⟩
end Go.Proofs.YtgbhdpeibiglfaaDoor.S06

/-
  The document's stream: a stored block, a match, a block of symbols.
-/
set_option linter.unusedVariables false
set_option linter.unusedSimpArgs false
namespace Go.Proofs.YtgbhdpeibiglfaaDoor.S06
open Go Go.RowKit Go.Proofs.YtgbhdpeibiglfaaDoor.Sep Go.Proofs.YtgbhdpeibiglfaaDoor.Low Go.Proofs.YtgbhdpeibiglfaaDoor.S05 Go.Proofs.YtgbhdpeibiglfaaDoor.CodeLaw Go.Proofs.YtgbhdpeibiglfaaDoor.Pack Go.Proofs.YtgbhdpeibiglfaaDoor.BitLaw
open Go.Proofs.YtgbhdpeibiglfaaDoor.Lib hiding by8 by8_scalar

theorem M.bind_assoc {α β γ : Type} (m : M α) (f : α → M β) (g : β → M γ) : M.bind (M.bind m f) g = M.bind m fun a => M.bind (f a) g := by
  funext L mo t o
  unfold M.bind
  cases m L mo t o <;> rfl
theorem M.fail_bind {α β : Type} (e : Int) (g : α → M β) : M.bind (fail e) g = fail e := rfl
/-- where a part of a stream stands -/
def DG (H : Heap) (p : Nat) (a : Option Addr) (cl : Nat) (L : List Bool) (v : Value) (mo : Nat) (G : Res Unit) (H' : Heap) : Prop := ∃ v' t' o' e', DAt H' p a cl L t' v' o' mo e' ∧ Dv p v v' H H' ∧ ((e' = 0 ∧ G = .ok () t' o') ∨ (e' ≠ 0 ∧ G = .bad e' o'))
theorem DG.out {H : Heap} {p : Nat} {a : Option Addr} {cl : Nat} {L : List Bool} {v : Value} {mo : Nat} {G : Res Unit} {H' : Heap} (h : DG H p a cl L v mo G H') : DOut H p a cl L v mo G (fun _ => .tuple #[]) (.tuple #[]) (.returned (.tuple #[])) H' := by
  obtain ⟨v', t', o', e', s, m, ⟨rfl, hG⟩ | ⟨he, hG⟩⟩ := h
  · rw [hG]; exact ⟨rfl, v', s, m⟩
  · rw [hG]; exact ⟨rfl, he, v', t', s, m⟩
theorem Dv.pre {p : Nat} {v v1 : Value} {a : Option Addr} {cl : Nat} {L : List Bool} {mo : Nat} {G : Res Unit} {H H1 H' : Heap} (m : Dv p v v1 H H1) (h : DG H1 p a cl L v1 mo G H') : DG H p a cl L v mo G H' := by
  obtain ⟨v', t', o', e', s, m2, hh⟩ := h
  exact ⟨v', t', o', e', s, m.trans m2, hh⟩
set_option maxHeartbeats 4000000 in
theorem dgets {H : Heap} {p : Nat} {a : Option Addr} {cl : Nat} {L : List Bool} {t : Nat} {v : Value} {o : List Int} {mo n : Nat} {er : Int} {G : Res Unit} {env : Env} {Q : Post} {QP : List PanicEntry → Heap → Prop} (s : DAt H p a cl L t v o mo er) (h0 : env 0 = .pointer (some ⟨p, 0, none⟩)) (h2 : env 2 = .int .i64 (n : Nat)) (hn : n ≤ 65536)
    (hG : (er = 0 ∧ G = getsAll n L mo t o ∧ o.length + n ≤ mo) ∨ (er ≠ 0 ∧ G = .bad er o)) (hQ : ∀ env' H', DG H p a cl L v mo G H' → Q .normal env' H') : awpC Tryd.prog L45_2 Q QP env H := by
  unfold L45_2
  simp -implicitDefEqProofs (maxSteps := 1000000) (disch := first | omega | assumption) only [Sx]
  refine c_loop (fun k env H' => ∃ i t1 v1 o1 e1, k + i = n ∧ env 0 = .pointer (some ⟨p, 0, none⟩) ∧ env 2 = .int .i64 (n : Nat) ∧ env 4 = .int .i64 (i : Nat) ∧ DAt H' p a cl L t1 v1 o1 mo e1 ∧ Dv p v v1 H H' ∧ ((e1 = 0 ∧ G = getsAll k L mo t1 o1 ∧ o1.length + k ≤ mo) ∨ (e1 ≠ 0 ∧ G = .bad e1 o1))) n ⟨0, t, v, o, er, by omega, by simp -implicitDefEqProofs (maxSteps := 1000000) (disch := first | omega | assumption) only [h0, Sx, reduceCtorEq], by simp -implicitDefEqProofs (maxSteps := 1000000) (disch := first | omega | assumption) only [h2, Sx, Nat.reduceEqDiff], by simp -implicitDefEqProofs (maxSteps := 1000000) (disch := first | omega | assumption) only [Sx]; rfl, s, .refl, hG⟩ ?_
  clear h0 h2 hG
  rintro k env H1 ⟨i, t1, v1, o1, e1, hk, h0, h2, h4, s1, m1, hG⟩
  unfold L45_1
  by_cases hi : i < n
  · have f0 : decide ((i : Int) < (n : Int)) = true := decide_eq_true (by omega)
    rcases hG with ⟨rfl, hG, hr⟩ | ⟨he, hG⟩
    · have n00 : ((0 : Int) == 0) = true := rfl
      obtain ⟨k, rfl⟩ : ∃ k', k = k' + 1 := ⟨k - 1, by omega⟩
      unfold getsAll at hG
      simp -implicitDefEqProofs (maxSteps := 1000000) (disch := first | omega | assumption) only [h0, h2, h4, f0, cell_of s1.blk, ev_nilc, n00, Sx, Nat.reduceEqDiff, reduceCtorEq]
      refine a_call (dbits_spec s1 (n := 8) (by omega)) ?_
      rintro e H2 hO
      rcases tk_cases (n := 8) (L := L) (mo := mo) (t := t1) (o := o1) with ⟨x, h1, hx, -⟩ | h1
      · rw [h1] at hO
        rw [bind_ok h1, bind_ok (m := put _) rfl] at hG
        obtain ⟨rfl, v2, s2, m2⟩ := hO
        have m2 := m1.trans m2
        have e8 : IntKind.u8.wrap (x : Int) = (x : Int) := w_u8 (by omega)
        simp -implicitDefEqProofs (maxSteps := 1000000) (disch := first | omega | assumption) only [h0, e8, Sx, Nat.reduceEqDiff, reduceCtorEq, endK]
        refine a_lit8 ?_
        intro r H4 hO4 k4 hr4
        have s4 := s2.keep k4
        have m4 := m2.more k4
        try simp -implicitDefEqProofs (maxSteps := 1000000) (disch := first | omega | assumption) only [Sx, Nat.reduceEqDiff]
        refine a_call (dput_spec s4 hO4 (by omega)) ?_
        rintro e H5 hO
        have hR : (room 1).bind (fun _ => S06.put [(x : Int)]) L mo (t1 + 8) o1 = .ok () (t1 + 8) (o1 ++ [(x : Int)]) := by
          rw [bind_ok (m := room 1) (if_neg (by omega))]; rfl
        rw [hR] at hO
        obtain ⟨rfl, v5, s5, m5⟩ := hO
        have m5 := m4.trans m5
        simp -implicitDefEqProofs (maxSteps := 1000000) (disch := first | omega | assumption) only [h0, h2, h4, Sx, Nat.reduceEqDiff, reduceCtorEq, endK]
        exact ⟨k, by omega, i + 1, t1 + 8, v5, _, 0, by omega, by (first | exact True.intro | rfl | assumption), by (first | exact True.intro | rfl | assumption), by simp, s5, m5, .inl ⟨rfl, hG, by rw [List.length_append]; show o1.length + 1 + k ≤ mo; omega⟩⟩
      · rw [h1] at hO
        rw [bind_bad h1] at hG
        obtain ⟨rfl, he, v2, t2, s2, m2⟩ := hO
        have m2 := m1.trans m2
        have e8 : IntKind.u8.wrap (0 : Int) = 0 := rfl
        simp -implicitDefEqProofs (maxSteps := 1000000) (disch := first | omega | assumption) only [h0, e8, Sx, Nat.reduceEqDiff, reduceCtorEq, endK]
        refine a_lit8 ?_
        intro r H4 hO4 k4 hr4
        have s4 := s2.keep k4
        have m4 := m2.more k4
        try simp -implicitDefEqProofs (maxSteps := 1000000) (disch := first | omega | assumption) only [Sx, Nat.reduceEqDiff]
        refine a_call (dput_dead s4 he) ?_
        rintro e H5 ⟨rfl, rfl⟩
        simp -implicitDefEqProofs (maxSteps := 1000000) (disch := first | omega | assumption) only [h0, h2, h4, Sx, Nat.reduceEqDiff, reduceCtorEq, endK]
        exact ⟨k, by omega, i + 1, t2, v2, _, 4, by omega, by (first | exact True.intro | rfl | assumption), by (first | exact True.intro | rfl | assumption), by simp, s4, m4, .inr ⟨he, hG⟩⟩
    · have n00 : (e1 == 0) = false := beq_eq_false_iff_ne.2 he
      simp -implicitDefEqProofs (maxSteps := 1000000) (disch := first | omega | assumption) only [h0, h2, h4, f0, cell_of s1.blk, ev_nilc, n00, Sx, Nat.reduceEqDiff, reduceCtorEq]
      exact hQ _ _ ⟨v1, t1, o1, e1, s1, m1, .inr ⟨he, hG⟩⟩
  · have f0 : decide ((i : Int) < (n : Int)) = false := decide_eq_false (by omega)
    simp -implicitDefEqProofs (maxSteps := 1000000) (disch := first | omega | assumption) only [h2, h4, f0, Sx, Nat.reduceEqDiff]
    refine hQ _ _ ⟨v1, t1, o1, e1, s1, m1, ?_⟩
    rcases hG with ⟨rfl, hG, hr⟩ | h
    · rw [show k = 0 by omega] at hG
      exact .inl ⟨rfl, hG⟩
    · exact .inr h
set_option maxHeartbeats 4000000 in
theorem dstored_spec {H : Heap} {p : Nat} {a : Option Addr} {cl : Nat} {L : List Bool} {t : Nat} {v : Value} {o : List Int} {mo : Nat} (s : DAt H p a cl L t v o mo 0) :
    ACalls Tryd.prog 45 [Value.pointer (some ⟨p, 0, none⟩)].toArray H fun e H' => DOut H p a cl L v mo (stored L mo t o) (fun _ => .tuple #[]) (.tuple #[]) e H' := by
  refine call45 (Nat.le_of_ble_eq_true rfl) ?_
  unfold L45 env0
  obtain ⟨G, hG⟩ : ∃ G, G = stored L mo t o := ⟨_, rfl⟩
  rw [← hG]
  unfold stored at hG
  rw [bind_ok (m := align) rfl] at hG
  have hle := s.le
  have hl8 := s.l8
  have hsl := s.small
  obtain ⟨t1, ht1⟩ : ∃ t1, t1 = (t + 7) / 8 * 8 := ⟨_, rfl⟩
  rw [← ht1] at hG
  have n00 : ((0 : Int) == 0) = true := rfl
  simp -implicitDefEqProofs (maxSteps := 1000000) (disch := first | omega | assumption) only [Sx]
  refine c_loop (fun k env H' => ∃ t2, k + t2 = t1 ∧ t2 ≤ t1 ∧ t ≤ t2 ∧ env 0 = .pointer (some ⟨p, 0, none⟩) ∧ DAt H' p a cl L t2 v o mo 0 ∧ Dv p v v H H') (t1 - t) ⟨t, by omega, by omega, by omega, by simp -implicitDefEqProofs (maxSteps := 1000000) (disch := first | omega | assumption) only [Sx], s, .refl⟩ ?_
  rintro k env H1 ⟨t2, hk, ht2, ht3, h0, s1, m1⟩
  unfold L45_0
  by_cases h8 : t2 % 8 ≠ 0
  · have f0 : (((t2 : Int) % 8) != 0) = true := by rw [bne_iff_ne]; omega
    have e0 : IntKind.i64.wrap ((t2 : Int) + 1) = ((t2 + 1 : Nat) : Int) := w_i64 (by omega)
    simp -implicitDefEqProofs (maxSteps := 1000000) (disch := first | omega | assumption) only [h0, cell_of s1.blk, ev_nilc, f0, e0, Sx, Nat.reduceEqDiff, reduceCtorEq]
    refine st_one (o := 1) s1.blk (by simp) rfl ?_
    try simp -implicitDefEqProofs (maxSteps := 1000000) (disch := first | omega | assumption) only [h0, Sx, reduceCtorEq]
    obtain ⟨s2, m2⟩ := s1.upd (e' := 0) (t2 + 1) (by omega) rfl
    exact ⟨k - 1, by omega, t2 + 1, by omega, by omega, by omega, by (first | exact True.intro | rfl | assumption), s2, m1.trans m2⟩
  have f0 : (((t2 : Int) % 8) != 0) = false := by rw [bne_eq_false_iff_eq]; omega
  obtain rfl : t2 = t1 := by omega
  simp -implicitDefEqProofs (maxSteps := 1000000) (disch := first | omega | assumption) only [h0, cell_of s1.blk, ev_nilc, f0, Sx, Nat.reduceEqDiff, reduceCtorEq]
  refine a_call (dbits_spec s1 (n := 16) (by omega)) ?_
  rintro e H2 hO
  by_cases h1 : t2 + 16 ≤ L.length
  rotate_left
  · rw [tk_bad h1] at hO
    rw [bind_bad (tk_bad h1)] at hG
    obtain ⟨rfl, he, v2, t3, s2, m2⟩ := hO
    have q4 : ((4 : Int) == 0) = false := rfl
    simp -implicitDefEqProofs (maxSteps := 1000000) (disch := first | omega | assumption) only [h0, Sx, Nat.reduceEqDiff, reduceCtorEq, endK]
    refine a_call (dbits_dead s2 he) ?_
    rintro e H3 ⟨rfl, rfl⟩
    simp -implicitDefEqProofs (maxSteps := 1000000) (disch := first | omega | assumption) only [h0, cell_of s2.blk, ev_nilc, q4, Sx, Nat.reduceEqDiff, reduceCtorEq, endK]
    unfold L45_3
    simp -implicitDefEqProofs (maxSteps := 1000000) (disch := first | omega | assumption) only [h0, cell_of s2.blk, ev_nilc, q4, Sx, Nat.reduceEqDiff, reduceCtorEq]
    refine dgets (n := 0) s2 (by simp -implicitDefEqProofs (maxSteps := 1000000) (disch := first | omega | assumption) only [h0, Sx, reduceCtorEq]) (by simp -implicitDefEqProofs (maxSteps := 1000000) (disch := first | omega | assumption) only [Sx, Nat.reduceEqDiff]; rfl) (by omega) (.inr ⟨he, hG⟩) ?_
    intro env' H' hD
    simp -implicitDefEqProofs (maxSteps := 1000000) (disch := first | omega | assumption) only [Sx]
    exact ((m1.trans m2).pre hD).out
  obtain ⟨hn, -⟩ := tk_val h1
  rw [tk_ok h1] at hO
  rw [bind_ok (tk_ok h1)] at hG
  obtain ⟨n, hnd⟩ : ∃ n, n = (numOf ((L.drop t2).take 16)).toNat := ⟨_, rfl⟩
  rw [← hnd] at hO hn hG
  obtain ⟨rfl, v2, s2, m2⟩ := hO
  have m2 := m1.trans m2
  simp -implicitDefEqProofs (maxSteps := 1000000) (disch := first | omega | assumption) only [h0, Sx, Nat.reduceEqDiff, reduceCtorEq, endK]
  refine a_call (dbits_spec s2 (n := 16) (by omega)) ?_
  rintro e H3 hO
  by_cases h2 : t2 + 16 + 16 ≤ L.length
  rotate_left
  · rw [tk_bad h2] at hO
    rw [bind_bad (tk_bad h2)] at hG
    obtain ⟨rfl, he, v3, t3, s3, m3⟩ := hO
    have q4 : ((4 : Int) == 0) = false := rfl
    simp -implicitDefEqProofs (maxSteps := 1000000) (disch := first | omega | assumption) only [h0, cell_of s3.blk, ev_nilc, q4, Sx, Nat.reduceEqDiff, reduceCtorEq, endK]
    unfold L45_3
    simp -implicitDefEqProofs (maxSteps := 1000000) (disch := first | omega | assumption) only [h0, cell_of s3.blk, ev_nilc, q4, Sx, Nat.reduceEqDiff, reduceCtorEq]
    refine dgets (n := n) s3 (by simp -implicitDefEqProofs (maxSteps := 1000000) (disch := first | omega | assumption) only [h0, Sx, reduceCtorEq]) (by simp -implicitDefEqProofs (maxSteps := 1000000) (disch := first | omega | assumption) only [Sx, Nat.reduceEqDiff]) (by omega) (.inr ⟨he, hG⟩) ?_
    intro env' H' hD
    simp -implicitDefEqProofs (maxSteps := 1000000) (disch := first | omega | assumption) only [Sx]
    exact ((m2.trans m3).pre hD).out
  obtain ⟨hm, -⟩ := tk_val h2
  rw [tk_ok h2] at hO
  rw [bind_ok (tk_ok h2)] at hG
  obtain ⟨m, hmd⟩ : ∃ m, m = (numOf ((L.drop (t2 + 16)).take 16)).toNat := ⟨_, rfl⟩
  rw [← hmd] at hO hm hG
  obtain ⟨rfl, v3, s3, m3⟩ := hO
  have m3 := m2.trans m3
  have hsm := s3.sm
  have hmo := s3.mo
  by_cases h3 : n + m ≠ 65535
  · have f0 : (((n : Int) + (m : Int)) != 65535) = true := by rw [bne_iff_ne]; omega
    rw [if_pos h3] at hG
    simp -implicitDefEqProofs (maxSteps := 1000000) (disch := first | omega | assumption) only [h0, cell_of s3.blk, ev_nilc, n00, f0, Sx, Nat.reduceEqDiff, reduceCtorEq, endK]
    refine st_one (o := 4) s3.blk (by simp) rfl ?_
    try simp -implicitDefEqProofs (maxSteps := 1000000) (disch := first | omega | assumption) only [Sx]
    obtain ⟨s4, m4⟩ := s3.upd (e' := 61) _ s3.le rfl
    have q4 : ((61 : Int) == 0) = false := rfl
    have hb4 := s4.blk
    unfold L45_3
    simp -implicitDefEqProofs (maxSteps := 1000000) (disch := first | omega | assumption) only [h0, cell_of hb4, ev_nilc, q4, Sx, Nat.reduceEqDiff, reduceCtorEq]
    refine dgets (n := n) s4 (by simp -implicitDefEqProofs (maxSteps := 1000000) (disch := first | omega | assumption) only [h0, Sx, reduceCtorEq]) (by simp -implicitDefEqProofs (maxSteps := 1000000) (disch := first | omega | assumption) only [Sx, Nat.reduceEqDiff]) (by omega) (.inr ⟨by decide, hG⟩) ?_
    intro env' H' hD
    simp -implicitDefEqProofs (maxSteps := 1000000) (disch := first | omega | assumption) only [Sx]
    exact ((m3.trans m4).pre hD).out
  have f0 : (((n : Int) + (m : Int)) != 65535) = false := by rw [bne_eq_false_iff_eq]; omega
  rw [if_neg h3] at hG
  obtain ⟨va, vn, vc, rfl, hvn, hvc, -⟩ := s3.pl.view
  rw [List.length_map, Nat.mul_one] at hvn
  subst hvn
  by_cases h4 : mo < o.length + n
  · have f1 : decide ((mo : Int) - (o.length : Int) < (n : Int)) = true := decide_eq_true (by omega)
    rw [bind_bad (m := room n) (if_pos h4)] at hG
    simp -implicitDefEqProofs (maxSteps := 1000000) (disch := first | omega | assumption) only [h0, cell_of s3.blk, ev_nilc, n00, f0, Sx, Nat.reduceEqDiff, reduceCtorEq, endK]
    unfold L45_3
    simp -implicitDefEqProofs (maxSteps := 1000000) (disch := first | omega | assumption) only [h0, cell_of s3.blk, ev_nilc, n00, f1, Sx, Nat.reduceEqDiff, reduceCtorEq]
    refine st_one (o := 4) s3.blk (by simp) rfl ?_
    try simp -implicitDefEqProofs (maxSteps := 1000000) (disch := first | omega | assumption) only [Sx]
    obtain ⟨s4, m4⟩ := s3.upd (e' := 32) _ s3.le rfl
    refine dgets (n := n) s4 (by simp -implicitDefEqProofs (maxSteps := 1000000) (disch := first | omega | assumption) only [h0, Sx, reduceCtorEq]) (by simp -implicitDefEqProofs (maxSteps := 1000000) (disch := first | omega | assumption) only [Sx, Nat.reduceEqDiff]) (by omega) (.inr ⟨by decide, hG⟩) ?_
    intro env' H' hD
    simp -implicitDefEqProofs (maxSteps := 1000000) (disch := first | omega | assumption) only [Sx]
    exact ((m3.trans m4).pre hD).out
  · have f1 : decide ((mo : Int) - (o.length : Int) < (n : Int)) = false := decide_eq_false (by omega)
    rw [bind_ok (m := room n) (if_neg h4)] at hG
    simp -implicitDefEqProofs (maxSteps := 1000000) (disch := first | omega | assumption) only [h0, cell_of s3.blk, ev_nilc, n00, f0, Sx, Nat.reduceEqDiff, reduceCtorEq, endK]
    unfold L45_3
    simp -implicitDefEqProofs (maxSteps := 1000000) (disch := first | omega | assumption) only [h0, cell_of s3.blk, ev_nilc, n00, f1, Sx, Nat.reduceEqDiff, reduceCtorEq]
    refine dgets (n := n) s3 (by simp -implicitDefEqProofs (maxSteps := 1000000) (disch := first | omega | assumption) only [h0, Sx, reduceCtorEq]) (by simp -implicitDefEqProofs (maxSteps := 1000000) (disch := first | omega | assumption) only [Sx, Nat.reduceEqDiff]) (by omega) (.inl ⟨rfl, hG, by omega⟩) ?_
    intro env' H' hD
    simp -implicitDefEqProofs (maxSteps := 1000000) (disch := first | omega | assumption) only [Sx]
    exact (m3.pre hD).out
end Go.Proofs.YtgbhdpeibiglfaaDoor.S06

/-
  The document's stream: a match, a block of symbols.
-/
set_option linter.unusedVariables false
set_option linter.unusedSimpArgs false
namespace Go.Proofs.YtgbhdpeibiglfaaDoor.S06
open Go Go.RowKit Go.Proofs.YtgbhdpeibiglfaaDoor.Sep Go.Proofs.YtgbhdpeibiglfaaDoor.Low Go.Proofs.YtgbhdpeibiglfaaDoor.S05 Go.Proofs.YtgbhdpeibiglfaaDoor.CodeLaw Go.Proofs.YtgbhdpeibiglfaaDoor.Pack Go.Proofs.YtgbhdpeibiglfaaDoor.BitLaw
open Go.Proofs.YtgbhdpeibiglfaaDoor.Lib hiding by8 by8_scalar

/-- a match, plainly -/
noncomputable def mtch (d : List Int) (k : Nat) : M Unit := if 286 ≤ k then fail 63 else (tk (lenOf (k - 257)).2).bind fun x => if zeroL d then fail 63 else (symb d).bind fun y => if 30 ≤ y then fail 63 else (tk (distOf y).2).bind fun z =>
      (far ((distOf y).1 + z)).bind fun _ => (room ((lenOf (k - 257)).1 + x)).bind fun _ => copies ((lenOf (k - 257)).1 + x) ((distOf y).1 + z)
theorem M.ite_bind {α β : Type} {c : Prop} [Decidable c] (m m' : M α) (g : α → M β) : M.bind (if c then m else m') g = if c then M.bind m g else M.bind m' g := by split <;> rfl
theorem coded_eq (l d : List Int) (f : Nat) : coded l d (f + 1) = (symb l).bind fun k => if k = 256 then M.pure () else if k < 256 then ((room 1).bind fun _ => put [(k : Int)]).bind fun _ => coded l d f else (mtch d k).bind fun _ => coded l d f := by
  rw [coded]
  congr 1
  funext k
  split
  · rfl
  split
  · rw [M.bind_assoc]
  unfold mtch
  rw [M.ite_bind, M.fail_bind]
  split
  · rfl
  rw [M.bind_assoc]
  congr 1
  funext x
  rw [M.ite_bind, M.fail_bind]
  split
  · rfl
  rw [M.bind_assoc]
  congr 1
  funext y
  rw [M.ite_bind, M.fail_bind]
  split
  · rfl
  rw [M.bind_assoc]
  congr 1
  funext z
  rw [M.bind_assoc]
  congr 1
  funext _
  rw [M.bind_assoc]
/-- a list of numbers on the heap, a part of one perhaps -/
structure Cl (H : Heap) (A : Option Addr) (l : List Int) : Prop where
  row : Row H A (by64 l)
  ow : ∀ b, A = some b → ∃ c f, H b.block = some (.cells c 3 f)
theorem Cl.mv {H H' : Heap} {p : Nat} {a : Option Addr} {cl : Nat} {L : List Bool} {t : Nat} {v v' : Value} {o : List Int} {mo : Nat} {e : Int} {A : Option Addr} {l : List Int} (h : Cl H A l) (s : DAt H p a cl L t v o mo e) (m : Dv p v v' H H') : Cl H' A l := by
  refine ⟨S05.Row.only h.row m.c fun b hb => ?_, fun b hb => ?_⟩
  · obtain ⟨c, f, hb2⟩ := h.ow b hb
    rintro (e | e)
    · exact blk_ne hb2 s.blk (by decide) e
    · exact s.pl.elem hb2 (by decide) e
  · obtain ⟨c, f, hb2⟩ := h.ow b hb
    exact ⟨c, f, m.blk s hb2 (by decide) (by decide)⟩
theorem Cl.keep {H H' : Heap} {A : Option Addr} {l : List Int} (h : Cl H A l) (hk : Keep H H') : Cl H' A l := ⟨hk.row h.row, fun b hb => by
  obtain ⟨c, f, hb2⟩ := h.ow b hb
  exact ⟨c, f, hk _ _ hb2⟩⟩
theorem Is.cl {H : Heap} {v : Value} {l : List Int} (h : Is H v l) : ∃ A c, v = .slice A l.length c ∧ l.length ≤ c ∧ Cl H A l := by
  obtain ⟨A, c, e, hc, hr⟩ := Is.row h
  refine ⟨A, c, e, hc, hr, fun b hb => ?_⟩
  subst hb
  subst e
  cases h with
  | «at» hb _ _ _ _ => exact ⟨_, _, hb⟩
theorem Cl.take {H : Heap} {A : Option Addr} {l : List Int} (h : Cl H A l) (k : Nat) : Cl H A (l.take k) := ⟨row_take64 h.row, h.ow⟩
theorem Cl.drop {H : Heap} {A : Option Addr} {l : List Int} (h : Cl H A l) {c : Nat} (k : Nat) (hc : l.length ≤ c) : Cl H (cutA A c k 1) (l.drop k) := ⟨row_drop64 h.row hc, fun b hb => by
  unfold cutA at hb
  split at hb
  · exact h.ow b hb
  · cases A with
    | none => cases hb
    | some x =>
      cases hb
      obtain ⟨c', f, h2⟩ := h.ow x rfl
      exact ⟨c', f, by rw [← h2]; exact congrArg H block_add⟩⟩
theorem mtch_adv {d : List Int} {k : Nat} {L : List Bool} {mo t : Nat} {o : List Int} {u : Unit} {t' : Nat} {o' : List Int} (h : mtch d k L mo t o = .ok u t' o') : t ≤ t' := by
  unfold mtch at h
  split at h
  · cases h
  rcases tk_cases (n := (lenOf (k - 257)).2) (L := L) (mo := mo) (t := t) (o := o) with ⟨x, h1, hx, -⟩ | h1
  rotate_left
  · rw [bind_bad h1] at h; cases h
  rw [bind_ok h1] at h
  split at h
  · cases h
  cases hs : symb d L mo (t + (lenOf (k - 257)).2) o with
  | bad e o2 => rw [bind_bad hs] at h; cases h
  | ok y t2 o2 =>
    have ht2 : t + (lenOf (k - 257)).2 ≤ t2 := by
      unfold symb at hs
      repeat' split at hs
      all_goals cases hs
      omega
    rw [bind_ok hs] at h
    split at h
    · cases h
    rcases tk_cases (n := (distOf y).2) (L := L) (mo := mo) (t := t2) (o := o2) with ⟨z, h2, hz, -⟩ | h2
    rotate_left
    · rw [bind_bad h2] at h; cases h
    rw [bind_ok h2] at h
    by_cases h3 : o2.length < (distOf y).1 + z
    · rw [bind_bad (m := far _) (if_pos h3)] at h; cases h
    rw [bind_ok (m := far _) (if_neg h3)] at h
    by_cases h4 : mo < o2.length + ((lenOf (k - 257)).1 + x)
    · rw [bind_bad (m := room _) (if_pos h4)] at h; cases h
    rw [bind_ok (m := room _) (if_neg h4)] at h
    unfold copies at h
    cases h
    omega
set_option maxHeartbeats 8000000 in
set_option maxRecDepth 4000 in
theorem dmatch_spec {H : Heap} {p : Nat} {a : Option Addr} {cl : Nat} {L : List Bool} {t : Nat} {v : Value} {o : List Int} {mo y : Nat} {d : List Int} {dA : Option Addr} {dc : Nat} (s : DAt H p a cl L t v o mo 0) (hr : Cl H dA d) (hd : zeroL d = true ∨ isCode d = true) (hd0 : ∀ x ∈ d, 0 ≤ x) (hdl : d.length ≤ 320) (hy : 257 ≤ y) (hy2 : y ≤ 400) :
    ACalls Tryd.prog 60 [Value.pointer (some ⟨p, 0, none⟩), .int .i64 (y : Nat), .slice dA d.length dc].toArray H fun e H' => DOut H p a cl L v mo (mtch d y L mo t o) (fun _ => .tuple #[]) (.tuple #[]) e H' := by
  refine call60 (Nat.le_of_ble_eq_true rfl) ?_
  unfold L60 env0
  obtain ⟨G, hG⟩ : ∃ G, G = mtch d y L mo t o := ⟨_, rfl⟩
  rw [← hG]
  unfold mtch at hG
  by_cases h286 : 286 ≤ y
  · have f0 : decide ((285 : Int) < (y : Int)) = true := decide_eq_true (by omega)
    rw [if_pos h286] at hG
    rw [hG]
    simp -implicitDefEqProofs (maxSteps := 1000000) (disch := first | omega | assumption) only [f0, ev_nilc, Sx, Nat.reduceEqDiff, reduceCtorEq]
    refine st_one (o := 4) s.blk (by simp) rfl ?_
    try simp -implicitDefEqProofs (maxSteps := 1000000) (disch := first | omega | assumption) only [Sx]
    obtain ⟨s2, m2⟩ := s.upd (e' := 63) t s.le rfl
    exact ⟨by (first | exact True.intro | rfl | assumption), by decide, v, t, s2, m2⟩
  have f0 : decide ((285 : Int) < (y : Int)) = false := decide_eq_false (by omega)
  rw [if_neg h286] at hG
  simp -implicitDefEqProofs (maxSteps := 1000000) (disch := first | omega | assumption) only [f0, Sx, Nat.reduceEqDiff]
  refine a_call (rlength_spec (y := y) hy (by omega)) ?_
  rintro e H1 ⟨rfl, rfl⟩
  have hb6 := lTab_is (y - 257)
  have hl16 : (lenOf (y - 257)).2 ≤ 16 := by
    unfold lenOf
    split
    · exact Nat.zero_le _
    split
    · exact Nat.zero_le _
    · show (y - 257) / 4 - 1 ≤ 16; omega
  simp -implicitDefEqProofs (maxSteps := 1000000) (disch := first | omega | assumption) only [Sx, Nat.reduceEqDiff, reduceCtorEq, endK]
  refine a_call (dbits_spec s (n := (lenOf (y - 257)).2) hl16) ?_
  rintro e H2 hO
  have dead : ∀ (er : Int) (H2 : Heap) (v2 : Value) (t2 : Nat) (env : Env) (Q : Post) QP, DAt H2 p a cl L t2 v2 o mo er → er ≠ 0 → Dv p v v2 H1 H2 → env 0 = .pointer (some ⟨p, 0, none⟩) → env 2 = .slice dA d.length dc → (∀ env', Q .ret env' H2) → awpC Tryd.prog L60_2 Q QP env H2 := by
    intro er H2 v2 t2 env Q QP s2 he m2 g0 g2 hQ
    unfold L60_2
    have q1 : (er == 0) = false := beq_eq_false_iff_ne.2 he
    have q2 : (er != 0) = true := bne_iff_ne.2 he
    simp -implicitDefEqProofs (maxSteps := 1000000) (disch := first | omega | assumption) only [g0, g2, Sx, Nat.reduceEqDiff]
    refine a_call (dsymbol_dead s2 he) ?_
    rintro e H3 ⟨rfl, rfl⟩
    simp -implicitDefEqProofs (maxSteps := 1000000) (disch := first | omega | assumption) only [g0, cell_of s2.blk, ev_nilc, q1, Sx, Nat.reduceEqDiff, reduceCtorEq, endK]
    unfold L60_1
    simp -implicitDefEqProofs (maxSteps := 1000000) (disch := first | omega | assumption) only [g0, cell_of s2.blk, ev_nilc, q2, Sx, Nat.reduceEqDiff, reduceCtorEq]
    exact hQ _
  rcases tk_cases (n := (lenOf (y - 257)).2) (L := L) (mo := mo) (t := t) (o := o) with ⟨x, h1, hx, -⟩ | h1
  rotate_left
  · rw [h1] at hO
    rw [bind_bad h1] at hG
    obtain ⟨rfl, he, v2, t2, s2, m2⟩ := hO
    have q4 : ((4 : Int) == 0) = false := rfl
    simp -implicitDefEqProofs (maxSteps := 1000000) (disch := first | omega | assumption) only [cell_of s2.blk, ev_nilc, q4, Sx, Nat.reduceEqDiff, reduceCtorEq, endK]
    refine dead 4 _ v2 t2 _ _ _ s2 he m2 ?_ ?_ ?_
    · simp -implicitDefEqProofs (maxSteps := 1000000) (disch := first | omega | assumption) only [Sx, reduceCtorEq]
    · simp -implicitDefEqProofs (maxSteps := 1000000) (disch := first | omega | assumption) only [Sx, Nat.reduceEqDiff]
    intro env'
    simp -implicitDefEqProofs (maxSteps := 1000000) (disch := first | omega | assumption) only [Sx]
    rw [hG]
    exact ⟨by (first | exact True.intro | rfl | assumption), he, v2, t2, s2, m2⟩
  rw [h1] at hO
  rw [bind_ok h1] at hG
  have hn258 := lenOf_le (y - 257) (by omega) x hx
  obtain ⟨n, hn⟩ : ∃ n, n = (lenOf (y - 257)).1 + x := ⟨_, rfl⟩
  obtain ⟨ll, hll⟩ : ∃ ll, ll = lenOf (y - 257) := ⟨_, rfl⟩
  rw [← hll] at hn hn258 hO hG hl16 ⊢
  obtain ⟨t3, ht3d⟩ : ∃ t3, t3 = t + ll.2 := ⟨_, rfl⟩
  rw [← ht3d] at hO hG
  obtain ⟨rfl, v3, s3, m3⟩ := hO
  rw [← hn] at hG hn258
  have hr3 : Row H2 dA (by64 d) := (hr.mv s m3).row
  have n0 : ((0 : Int) == 0) = true := rfl
  have n00 : ((0 : Int) != 0) = false := rfl
  have en : IntKind.i64.wrap ((ll.1 : Int) + (x : Int)) = (n : Int) := by rw [hn]; exact w_i64 (by omega)
  simp -implicitDefEqProofs (maxSteps := 1000000) (disch := first | omega | assumption) only [cell_of s3.blk, ev_nilc, n0, en, Sx, Nat.reduceEqDiff, reduceCtorEq, endK]
  refine a_call (none_spec hr3 rfl hd0 hdl) ?_
  rintro e H3 ⟨rfl, rfl⟩
  cases hz : zeroL d with
  | true =>
    rw [if_pos hz] at hG
    simp -implicitDefEqProofs (maxSteps := 1000000) (disch := first | omega | assumption) only [ev_nilc, Sx, Nat.reduceEqDiff, reduceCtorEq, endK]
    refine st_one (o := 4) s3.blk (by simp) rfl ?_
    try simp -implicitDefEqProofs (maxSteps := 1000000) (disch := first | omega | assumption) only [Sx]
    obtain ⟨s4, m4⟩ := s3.upd (e' := 63) t3 s3.le rfl
    have m4 := m3.trans m4
    refine dead 63 _ v3 t3 _ _ _ s4 (by decide) m4 ?_ ?_ ?_
    · simp -implicitDefEqProofs (maxSteps := 1000000) (disch := first | omega | assumption) only [Sx, reduceCtorEq]
    · simp -implicitDefEqProofs (maxSteps := 1000000) (disch := first | omega | assumption) only [Sx, Nat.reduceEqDiff]
    intro env'
    simp -implicitDefEqProofs (maxSteps := 1000000) (disch := first | omega | assumption) only [Sx]
    rw [hG]
    exact ⟨by (first | exact True.intro | rfl | assumption), by decide, v3, t3, s4, m4⟩
  | false =>
  have hcd : isCode d = true := by rcases hd with h | h; · rw [hz] at h; cases h
                                   · exact h
  rw [if_neg (by rw [hz]; decide)] at hG
  simp -implicitDefEqProofs (maxSteps := 1000000) (disch := first | omega | assumption) only [Sx, Nat.reduceEqDiff, endK]
  unfold L60_2
  simp -implicitDefEqProofs (maxSteps := 1000000) (disch := first | omega | assumption) only [Sx, Nat.reduceEqDiff, reduceCtorEq]
  refine a_call (dsymbol_spec s3 hr3 rfl hcd) ?_
  rintro e H4 hO
  rcases symb_cases hcd (L := L) (mo := mo) (t := t3) (o := o) with ⟨j, t4, h3, ht4, hj⟩ | ⟨er, h3⟩
  rotate_left
  · rw [h3] at hO
    rw [bind_bad h3] at hG
    obtain ⟨rfl, he, v4, t4, s4, m4⟩ := hO
    have q1 : (er == 0) = false := beq_eq_false_iff_ne.2 he
    have q2 : (er != 0) = true := bne_iff_ne.2 he
    have m4 := m3.trans m4
    simp -implicitDefEqProofs (maxSteps := 1000000) (disch := first | omega | assumption) only [cell_of s4.blk, ev_nilc, q1, Sx, Nat.reduceEqDiff, reduceCtorEq, endK]
    unfold L60_1
    simp -implicitDefEqProofs (maxSteps := 1000000) (disch := first | omega | assumption) only [cell_of s4.blk, ev_nilc, q2, Sx, Nat.reduceEqDiff, reduceCtorEq]
    rw [hG]
    exact ⟨by (first | exact True.intro | rfl | assumption), he, v4, t4, s4, m4⟩
  rw [h3] at hO
  rw [bind_ok h3] at hG
  obtain ⟨rfl, v4, s4, m4⟩ := hO
  have m4 := m3.trans m4
  by_cases h30 : 30 ≤ j
  · have f3 : decide ((29 : Int) < (j : Int)) = true := decide_eq_true (by omega)
    rw [if_pos h30] at hG
    simp -implicitDefEqProofs (maxSteps := 1000000) (disch := first | omega | assumption) only [cell_of s4.blk, ev_nilc, n0, f3, Sx, Nat.reduceEqDiff, reduceCtorEq, endK]
    refine st_one (o := 4) s4.blk (by simp) rfl ?_
    try simp -implicitDefEqProofs (maxSteps := 1000000) (disch := first | omega | assumption) only [Sx]
    obtain ⟨s5, m5⟩ := s4.upd (e' := 63) t4 s4.le rfl
    have m5 := m4.trans m5
    have hb5 := s5.blk
    have q2 : ((63 : Int) != 0) = true := rfl
    unfold L60_1
    simp -implicitDefEqProofs (maxSteps := 1000000) (disch := first | omega | assumption) only [cell_of hb5, ev_nilc, q2, Sx, Nat.reduceEqDiff, reduceCtorEq]
    rw [hG]
    exact ⟨by (first | exact True.intro | rfl | assumption), by decide, v4, t4, s5, m5⟩
  have f3 : decide ((29 : Int) < (j : Int)) = false := decide_eq_false (by omega)
  rw [if_neg h30] at hG
  simp -implicitDefEqProofs (maxSteps := 1000000) (disch := first | omega | assumption) only [cell_of s4.blk, ev_nilc, n0, f3, Sx, Nat.reduceEqDiff, reduceCtorEq, endK]
  unfold L60_1
  simp -implicitDefEqProofs (maxSteps := 1000000) (disch := first | omega | assumption) only [cell_of s4.blk, ev_nilc, n00, Sx, Nat.reduceEqDiff, reduceCtorEq]
  refine a_call (rdistance_spec (y := j) (by omega)) ?_
  rintro e H5 ⟨rfl, rfl⟩
  have hd16 : (distOf j).2 ≤ 16 := by
    unfold distOf
    split
    · exact Nat.zero_le _
    · show j / 2 - 1 ≤ 16; omega
  simp -implicitDefEqProofs (maxSteps := 1000000) (disch := first | omega | assumption) only [Sx, Nat.reduceEqDiff, reduceCtorEq, endK]
  refine a_call (dbits_spec s4 (n := (distOf j).2) hd16) ?_
  rintro e H6 hO
  rcases tk_cases (n := (distOf j).2) (L := L) (mo := mo) (t := t4) (o := o) with ⟨z, h4, hz4, -⟩ | h4
  rotate_left
  · rw [h4] at hO
    rw [bind_bad h4] at hG
    obtain ⟨rfl, he, v5, t5, s5, m5⟩ := hO
    have q2 : ((4 : Int) != 0) = true := rfl
    have m5 := m4.trans m5
    simp -implicitDefEqProofs (maxSteps := 1000000) (disch := first | omega | assumption) only [cell_of s5.blk, ev_nilc, q2, Sx, Nat.reduceEqDiff, reduceCtorEq, endK]
    rw [hG]
    exact ⟨by (first | exact True.intro | rfl | assumption), he, v5, t5, s5, m5⟩
  rw [h4] at hO
  rw [bind_ok h4] at hG
  have hb1 := dist_pos j
  have hb2 := dist_le j (by omega) z hz4
  obtain ⟨b, hb⟩ : ∃ b, b = (distOf j).1 + z := ⟨_, rfl⟩
  obtain ⟨dd, hdd⟩ : ∃ dd, dd = distOf j := ⟨_, rfl⟩
  rw [← hdd] at hb hb1 hb2 hO hG
  obtain ⟨t5, ht5d⟩ : ∃ t5, t5 = t4 + dd.2 := ⟨_, rfl⟩
  rw [← ht5d] at hO hG
  obtain ⟨rfl, v5, s5, m5⟩ := hO
  have m5 := m4.trans m5
  rw [← hb] at hG hb2
  have hb1 : 1 ≤ b := by omega
  have eb : IntKind.i64.wrap ((dd.1 : Int) + (z : Int)) = (b : Int) := by rw [hb]; exact w_i64 (by omega)
  have hsm5 := s5.sm
  have hmo5 := s5.mo
  obtain ⟨va, vn, vc, rfl, hvn, hvc, -⟩ := s5.pl.view
  rw [List.length_map, Nat.mul_one] at hvn
  subst hvn
  have hddj : distOf j = dd := hdd.symm
  by_cases hfar : o.length < b
  · have f4 : decide ((o.length : Int) < (b : Int)) = true := decide_eq_true (by omega)
    rw [bind_bad (m := far b) (if_pos hfar)] at hG
    simp -implicitDefEqProofs (maxSteps := 1000000) (disch := first | omega | assumption) only [hddj, cell_of s5.blk, ev_nilc, n00, eb, f4, Sx, Nat.reduceEqDiff, reduceCtorEq, endK]
    refine st_one (o := 4) s5.blk (by simp) rfl ?_
    try simp -implicitDefEqProofs (maxSteps := 1000000) (disch := first | omega | assumption) only [Sx]
    obtain ⟨s6, m6⟩ := s5.upd (e' := 64) t5 s5.le rfl
    rw [hG]
    exact ⟨by (first | exact True.intro | rfl | assumption), by decide, _, t5, s6, m5.trans m6⟩
  have f4 : decide ((o.length : Int) < (b : Int)) = false := decide_eq_false (by omega)
  rw [bind_ok (m := far b) (if_neg hfar)] at hG
  by_cases h6 : mo < o.length + n
  · have f5 : decide ((mo : Int) - (o.length : Int) < (n : Int)) = true := decide_eq_true (by omega)
    rw [bind_bad (m := room n) (if_pos h6)] at hG
    simp -implicitDefEqProofs (maxSteps := 1000000) (disch := first | omega | assumption) only [hddj, cell_of s5.blk, ev_nilc, n00, eb, f4, f5, Sx, Nat.reduceEqDiff, reduceCtorEq, endK]
    refine st_one (o := 4) s5.blk (by simp) rfl ?_
    try simp -implicitDefEqProofs (maxSteps := 1000000) (disch := first | omega | assumption) only [Sx]
    obtain ⟨s6, m6⟩ := s5.upd (e' := 32) t5 s5.le rfl
    rw [hG]
    exact ⟨by (first | exact True.intro | rfl | assumption), by decide, _, t5, s6, m5.trans m6⟩
  have f5 : decide ((mo : Int) - (o.length : Int) < (n : Int)) = false := decide_eq_false (by omega)
  rw [bind_ok (m := room n) (if_neg h6)] at hG
  simp -implicitDefEqProofs (maxSteps := 1000000) (disch := first | omega | assumption) only [hddj, cell_of s5.blk, ev_nilc, n00, eb, f4, f5, Sx, Nat.reduceEqDiff, reduceCtorEq, endK]
  obtain ⟨C, hCd⟩ : ∃ C, C = S06.cp n b o := ⟨_, rfl⟩
  have hG : G = .ok () t5 C := by rw [hG, hCd]; rfl
  refine c_loop (fun i env H' => ∃ (u : Nat) (v9 : Value) (o9 : List Int), u + i = n ∧ env 0 = .pointer (some ⟨p, 0, none⟩) ∧ env 8 = .int .i64 (n : Nat) ∧ env 10 = .int .i64 (b : Nat) ∧ env 11 = .int .i64 (u : Nat) ∧ DAt H' p a cl L t5 v9 o9 mo 0 ∧ Dv p v v9 H1 H' ∧ o9.length = o.length + u ∧ C = S06.cp i b o9) n
    ⟨0, _, o, by omega, by simp -implicitDefEqProofs (maxSteps := 1000000) (disch := first | omega | assumption) only [Sx, reduceCtorEq], by simp -implicitDefEqProofs (maxSteps := 1000000) (disch := first | omega | assumption) only [Sx, Nat.reduceEqDiff], by simp -implicitDefEqProofs (maxSteps := 1000000) (disch := first | omega | assumption) only [Sx, Nat.reduceEqDiff], by simp -implicitDefEqProofs (maxSteps := 1000000) (disch := first | omega | assumption) only [Sx, Nat.reduceEqDiff]; rfl, s5, m5, rfl, hCd⟩ ?_
  clear hCd
  rintro i env H9 ⟨u, v9, o9, hu, g0, g8, g10, g11, s9, m9, ho9, hC9⟩
  unfold L60_0
  by_cases hun : u < n
  · have f5 : decide ((u : Int) < (n : Int)) = true := decide_eq_true (by omega)
    obtain ⟨i, rfl⟩ : ∃ i', i = i' + 1 := ⟨i - 1, by omega⟩
    rw [S06.cp] at hC9
    obtain ⟨A9, n9, c9, hv9, hvn9, hvc9, hr9⟩ := s9.pl.view
    rw [List.length_map, Nat.mul_one] at hvn9
    subst hvn9
    have hs9 := s9.pl.scalar
    subst hv9
    have hidx : o9.length - b < o9.length := by omega
    obtain ⟨ba, rfl, hcell⟩ := by_at hr9 hidx
    have hgd : o9.getD (o9.length - b) 0 = o9[o9.length - b] := by rw [List.getD_eq_getElem?_getD, List.getElem?_eq_getElem hidx]; rfl
    rw [hgd] at hC9
    have hbx := s9.byt _ (List.getElem_mem hidx)
    obtain ⟨x9, hx9⟩ : ∃ x9, x9 = o9[o9.length - b] := ⟨_, rfl⟩
    rw [← hx9] at hcell hC9 hbx
    have hsb : (o9.length : Int) - (b : Int) = ((o9.length - b : Nat) : Int) := by omega
    simp -implicitDefEqProofs (maxSteps := 1000000) (disch := first | omega | assumption) only [g0, g8, g10, g11, f5, cell_of s9.blk, ev_nilc, hsb, hcell, l_qk, l_e, Sx, Nat.reduceEqDiff, reduceCtorEq]
    refine a_lit8 ?_
    intro r H4 hO4 k4 hr4
    have s10 := s9.keep k4
    have m10 := m9.more k4
    try simp -implicitDefEqProofs (maxSteps := 1000000) (disch := first | omega | assumption) only [endK]
    refine ⟨fun z hz _ => by simp only [List.mem_cons, List.not_mem_nil, or_false] at hz; subst hz; (simp only [cell_of s10.blk]; rfl), ?_⟩
    obtain ⟨_, _, _, ee, _, _, hrow4⟩ := hO4.view
    cases ee
    try simp -implicitDefEqProofs (maxSteps := 1000000) (disch := first | omega | assumption) only [l_qk, l_e, Sx, reduceIte, Nat.reduceEqDiff, reduceCtorEq, Nat.reduceAdd, Nat.reduceSub, Nat.reduceLT, Zx, endK]
    refine a_app (len := o9.length) (m := 1) (new := by8 [x9]) s10.pl (by simp) rfl (hrow4.cells (by simp)) (by simp) rfl (by omega) (by8_scalar _) (by omega) ?_
    intro v7 H7 hO7 ho7 hm7
    have hO7' : Own H7 5 1 v7 (by8 (o9 ++ [x9])) := by rw [by8, List.map_append]; exact hO7
    obtain ⟨s8, m8⟩ := s10.put hO7' ho7 hm7 (by intro x hx; rw [List.mem_singleton] at hx; omega) (by simp; omega) rfl
    have m8 := m10.trans m8
    have hb7 := ho7.oth _ _ s10.blk fun e => s10.pl.elem s10.blk (by decide) e
    have hs7 := hO7.scalar
    try simp -implicitDefEqProofs (maxSteps := 1000000) (disch := first | omega | assumption) only [endK]
    refine ⟨fun z hz h => by simp at h, ?_⟩
    try simp -implicitDefEqProofs (maxSteps := 1000000) (disch := first | omega | assumption) only [ev_nilc, l_qk, l_e, Sx, reduceIte, Nat.reduceEqDiff, reduceCtorEq, Nat.reduceAdd, Nat.reduceSub, Nat.reduceLT, Zx, endK]
    refine st_one (o := 2) hb7 (by simp) hs7 ?_
    try simp -implicitDefEqProofs (maxSteps := 1000000) (disch := first | omega | assumption) only [endK]
    refine ⟨fun z hz h => by simp at h, ?_⟩
    try simp -implicitDefEqProofs (maxSteps := 1000000) (disch := first | omega | assumption) only [Sx]
    exact ⟨i, by omega, u + 1, v7, _, by omega, by simp -implicitDefEqProofs (maxSteps := 1000000) (disch := first | omega | assumption) only [], by simp -implicitDefEqProofs (maxSteps := 1000000) (disch := first | omega | assumption) only [], by simp -implicitDefEqProofs (maxSteps := 1000000) (disch := first | omega | assumption) only [], by simp, s8, m8, by simp; omega, hC9⟩
  have f5 : decide ((u : Int) < (n : Int)) = false := decide_eq_false (by omega)
  obtain rfl : i = 0 := by omega
  rw [S06.cp] at hC9
  subst hC9
  simp -implicitDefEqProofs (maxSteps := 1000000) (disch := first | omega | assumption) only [g8, g11, f5, Sx, Nat.reduceEqDiff]
  rw [hG]
  exact ⟨by (first | exact True.intro | rfl | assumption), v9, s9, m9⟩
set_option maxHeartbeats 4000000 in
theorem dsymbols_spec {H : Heap} {p : Nat} {a : Option Addr} {cl : Nat} {L : List Bool} {t : Nat} {v : Value} {o : List Int} {mo : Nat} {l d : List Int} {lA dA : Option Addr} {lc dc : Nat} (s : DAt H p a cl L t v o mo 0) (hl : Cl H lA l) (hlc : isCode l = true) (hll : l.length ≤ 320) (hr : Cl H dA d) (hd : zeroL d = true ∨ isCode d = true) (hd0 : ∀ x ∈ d, 0 ≤ x) (hdl : d.length ≤ 320) :
    ACalls Tryd.prog 46 [Value.pointer (some ⟨p, 0, none⟩), .slice lA l.length lc, .slice dA d.length dc].toArray H fun e H' => DOut H p a cl L v mo (coded l d Fu L mo t o) (fun _ => .tuple #[]) (.tuple #[]) e H' := by
  refine call46 (Nat.le_of_ble_eq_true rfl) ?_
  unfold L46 env0
  obtain ⟨F0, hF0⟩ : ∃ F0, F0 = Fu := ⟨_, rfl⟩
  have hFu : L.length < F0 := by have := s.small; rw [hF0]; unfold Fu; omega
  rw [← hF0]
  obtain ⟨G, hG⟩ : ∃ G, G = coded l d F0 L mo t o := ⟨_, rfl⟩
  rw [← hG]
  have n0 : ((0 : Int) == 0) = true := rfl
  have n00 : ((0 : Int) != 0) = false := rfl
  simp -implicitDefEqProofs (maxSteps := 1000000) (disch := first | omega | assumption) only [Sx]
  refine c_loop (fun k env H' => ∃ t1 v1 o1 e1, env 0 = .pointer (some ⟨p, 0, none⟩) ∧ env 1 = .slice lA l.length lc ∧ env 2 = .slice dA d.length dc ∧ DAt H' p a cl L t1 v1 o1 mo e1 ∧ Dv p v v1 H H' ∧ ((e1 = 0 ∧ F0 ≤ k + t1 ∧ G = coded l d k L mo t1 o1) ∨ (e1 ≠ 0 ∧ G = .bad e1 o1))) F0
    ⟨t, v, o, 0, by (first | exact True.intro | rfl | assumption), by (first | exact True.intro | rfl | assumption), by (first | exact True.intro | rfl | assumption), s, .refl, .inl ⟨rfl, by omega, hG⟩⟩ ?_
  clear hG
  rintro k env H1 ⟨t1, v1, o1, e1, g0, g1, g2, s1, m1, hG⟩
  have hle := s1.le
  have hl1 := hl.mv s m1
  have hd1 := hr.mv s m1
  unfold L46_0
  rcases hG with ⟨rfl, hk, hG⟩ | ⟨he, hG⟩
  rotate_left
  · have q1 : (e1 == 0) = false := beq_eq_false_iff_ne.2 he
    simp -implicitDefEqProofs (maxSteps := 1000000) (disch := first | omega | assumption) only [g0, cell_of s1.blk, ev_nilc, q1, Sx, Nat.reduceEqDiff]
    rw [hG]
    exact ⟨by (first | exact True.intro | rfl | assumption), he, v1, t1, s1, m1⟩
  obtain ⟨k, rfl⟩ : ∃ k', k = k' + 1 := ⟨k - 1, by omega⟩
  rw [coded_eq] at hG
  simp -implicitDefEqProofs (maxSteps := 1000000) (disch := first | omega | assumption) only [g0, g1, cell_of s1.blk, ev_nilc, n0, Sx, Nat.reduceEqDiff, reduceCtorEq]
  refine a_call (dsymbol_spec s1 hl1.row rfl hlc) ?_
  rintro e H2 hO
  rcases symb_cases hlc (L := L) (mo := mo) (t := t1) (o := o1) with ⟨y, t2, h1, ht2, hy⟩ | ⟨er, h1⟩
  rotate_left
  · rw [h1] at hO
    rw [bind_bad h1] at hG
    obtain ⟨rfl, he, v2, t2, s2, m2⟩ := hO
    have m2 := m1.trans m2
    have q2 : (er != 0) = true := bne_iff_ne.2 he
    simp -implicitDefEqProofs (maxSteps := 1000000) (disch := first | omega | assumption) only [g0, g1, g2, cell_of s2.blk, ev_nilc, q2, Sx, Nat.reduceEqDiff, reduceCtorEq, endK]
    exact ⟨k, by omega, t2, v2, o1, er, by (first | exact True.intro | rfl | assumption), by (first | exact True.intro | rfl | assumption), by (first | exact True.intro | rfl | assumption), s2, m2, .inr ⟨he, hG⟩⟩
  rw [h1] at hO
  rw [bind_ok h1] at hG
  obtain ⟨rfl, v2, s2, m2⟩ := hO
  have m2 := m1.trans m2
  by_cases hlt : y < 256
  · have f1 : decide ((y : Int) < 256) = true := decide_eq_true (by omega)
    rw [if_neg (by omega), if_pos hlt] at hG
    have e8 : IntKind.u8.wrap (y : Int) = (y : Int) := w_u8 (by omega)
    simp -implicitDefEqProofs (maxSteps := 1000000) (disch := first | omega | assumption) only [g0, cell_of s2.blk, ev_nilc, n00, f1, e8, Sx, Nat.reduceEqDiff, reduceCtorEq, endK]
    refine a_lit8 ?_
    intro r H4 hO4 k4 hr4
    have s4 := s2.keep k4
    have m4 := m2.more k4
    try simp -implicitDefEqProofs (maxSteps := 1000000) (disch := first | omega | assumption) only [Sx, Nat.reduceEqDiff]
    refine a_call (dput_spec s4 hO4 (by omega)) ?_
    rintro e H5 hO
    cases hP : (room 1).bind (fun _ => S06.put [(y : Int)]) L mo t2 o1 with
    | bad er o2 =>
      rw [hP] at hO
      rw [bind_bad hP] at hG
      obtain ⟨rfl, he, v5, t5, s5, m5⟩ := hO
      have m5 := m4.trans m5
      simp -implicitDefEqProofs (maxSteps := 1000000) (disch := first | omega | assumption) only [g0, g1, g2, Sx, Nat.reduceEqDiff, reduceCtorEq, endK]
      exact ⟨k, by omega, t5, v5, o2, er, by (first | exact True.intro | rfl | assumption), by (first | exact True.intro | rfl | assumption), by (first | exact True.intro | rfl | assumption), s5, m5, .inr ⟨he, hG⟩⟩
    | ok u t5 o5 =>
      rw [hP] at hO
      rw [bind_ok hP] at hG
      have ht5 : t5 = t2 := by
        by_cases h4 : mo < o1.length + 1
        · rw [bind_bad (m := room 1) (if_pos h4)] at hP; cases hP
        · rw [bind_ok (m := room 1) (if_neg h4)] at hP
          unfold S06.put at hP
          cases hP
          rfl
      obtain ⟨rfl, v5, s5, m5⟩ := hO
      have m5 := m4.trans m5
      simp -implicitDefEqProofs (maxSteps := 1000000) (disch := first | omega | assumption) only [g0, g1, g2, Sx, Nat.reduceEqDiff, reduceCtorEq, endK]
      exact ⟨k, by omega, t5, v5, o5, 0, by (first | exact True.intro | rfl | assumption), by (first | exact True.intro | rfl | assumption), by (first | exact True.intro | rfl | assumption), s5, m5, .inl ⟨rfl, by omega, hG⟩⟩
  have f1 : decide ((y : Int) < 256) = false := decide_eq_false (by omega)
  by_cases h256 : y = 256
  · have f2 : ((y : Int) == 256) = true := by rw [beq_iff_eq]; omega
    rw [if_pos h256] at hG
    simp -implicitDefEqProofs (maxSteps := 1000000) (disch := first | omega | assumption) only [g0, cell_of s2.blk, ev_nilc, n00, f1, f2, Sx, Nat.reduceEqDiff, reduceCtorEq, endK]
    rw [hG]
    exact ⟨by (first | exact True.intro | rfl | assumption), v2, s2, m2⟩
  have f2 : ((y : Int) == 256) = false := by rw [beq_eq_false_iff_ne]; omega
  rw [if_neg h256, if_neg hlt] at hG
  simp -implicitDefEqProofs (maxSteps := 1000000) (disch := first | omega | assumption) only [g0, g2, cell_of s2.blk, ev_nilc, n00, f1, f2, Sx, Nat.reduceEqDiff, reduceCtorEq, endK]
  refine a_call (dmatch_spec s2 (hr.mv s m2) hd hd0 hdl (y := y) (by omega) (by omega)) ?_
  rintro e H5 hO
  cases hP : mtch d y L mo t2 o1 with
  | bad er o2 =>
    rw [hP] at hO
    rw [bind_bad hP] at hG
    obtain ⟨rfl, he, v5, t5, s5, m5⟩ := hO
    have m5 := m2.trans m5
    simp -implicitDefEqProofs (maxSteps := 1000000) (disch := first | omega | assumption) only [g0, g1, g2, Sx, Nat.reduceEqDiff, reduceCtorEq, endK]
    exact ⟨k, by omega, t5, v5, o2, er, by (first | exact True.intro | rfl | assumption), by (first | exact True.intro | rfl | assumption), by (first | exact True.intro | rfl | assumption), s5, m5, .inr ⟨he, hG⟩⟩
  | ok u t5 o5 =>
    have ht5 := mtch_adv hP
    rw [hP] at hO
    rw [bind_ok hP] at hG
    obtain ⟨rfl, v5, s5, m5⟩ := hO
    have m5 := m2.trans m5
    simp -implicitDefEqProofs (maxSteps := 1000000) (disch := first | omega | assumption) only [g0, g1, g2, Sx, Nat.reduceEqDiff, reduceCtorEq, endK]
    exact ⟨k, by omega, t5, v5, o5, 0, by (first | exact True.intro | rfl | assumption), by (first | exact True.intro | rfl | assumption), by (first | exact True.intro | rfl | assumption), s5, m5, .inl ⟨rfl, by omega, hG⟩⟩
end Go.Proofs.YtgbhdpeibiglfaaDoor.S06

/-
  The document's stream: a block's own codes.
-/
set_option linter.unusedVariables false
set_option linter.unusedSimpArgs false
namespace Go.Proofs.YtgbhdpeibiglfaaDoor.S06
open Go Go.RowKit Go.Proofs.YtgbhdpeibiglfaaDoor.Sep Go.Proofs.YtgbhdpeibiglfaaDoor.Low Go.Proofs.YtgbhdpeibiglfaaDoor.S05 Go.Proofs.YtgbhdpeibiglfaaDoor.CodeLaw Go.Proofs.YtgbhdpeibiglfaaDoor.Pack Go.Proofs.YtgbhdpeibiglfaaDoor.BitLaw
open Go.Proofs.YtgbhdpeibiglfaaDoor.Lib hiding by8 by8_scalar

theorem DAt.other {S : Nat → Prop} {H H' : Heap} {p : Nat} {a : Option Addr} {cl : Nat} {L : List Bool} {t : Nat} {v : Value} {o : List Int} {mo : Nat} {e : Int} (s : DAt H p a cl L t v o mo e) (ho : Only S H H') (h1 : ¬ S p) (h2 : ∀ r, own v = some r → ¬ S r) (h3 : ∀ b, a = some b → ¬ S b.block) : DAt H' p a cl L t v o mo e :=
  ⟨ho.oth _ _ s.blk h1, S05.Row.only s.bits ho h3, s.cap, s.pl.only ho h2, s.le, s.small, s.l8, s.na, s.nap, (fun b hb h => s.nz b hb (ho.none h)), s.sm, s.mo, s.byt⟩
/-- what is still to be read, if nothing went wrong -/
def Trk {β : Type} (G : Res β) (m : M β) (L : List Bool) (mo t : Nat) (o : List Int) (e : Int) : Prop := (e = 0 ∧ G = m L mo t o) ∨ (e ≠ 0 ∧ G = .bad e o)
theorem Trk.dead {β : Type} {G : Res β} {m m' : M β} {L : List Bool} {mo t t' : Nat} {o : List Int} {e : Int} (h : Trk G m L mo t o e) (he : e ≠ 0) : Trk G m' L mo t' o e := by
  rcases h with ⟨h, _⟩ | h
  · exact absurd h he
  · exact .inr h
theorem dbits_trk {β : Type} {H : Heap} {p : Nat} {a : Option Addr} {cl : Nat} {L : List Bool} {t : Nat} {v : Value} {o : List Int} {mo n : Nat} {er : Int} {G : Res β} {f : Nat → M β} (s : DAt H p a cl L t v o mo er) (hG : Trk G ((tk n).bind f) L mo t o er) (hn : n ≤ 16) :
    ACalls Tryd.prog 44 [Value.pointer (some ⟨p, 0, none⟩), .int .i64 (n : Nat)].toArray H fun e H' => ∃ (x t' : Nat) (v' : Value) (e' : Int), e = .returned (.int .i64 (x : Nat)) ∧ x < 2 ^ n ∧ DAt H' p a cl L t' v' o mo e' ∧ Dv p v v' H H' ∧ Trk G (f x) L mo t' o e' := by
  by_cases he : er = 0
  · subst he
    have hG : G = ((tk n).bind f) L mo t o := by rcases hG with h | h; exact h.2; exact absurd rfl h.1
    refine ACalls.mono (dbits_spec s hn) fun e H' hO => ?_
    rcases tk_cases (n := n) (L := L) (mo := mo) (t := t) (o := o) with ⟨x, h1, hx, -⟩ | h1
    · rw [h1] at hO
      rw [bind_ok h1] at hG
      obtain ⟨rfl, v', s', m'⟩ := hO
      exact ⟨x, t + n, v', 0, rfl, hx, s', m', .inl ⟨rfl, hG⟩⟩
    · rw [h1] at hO
      rw [bind_bad h1] at hG
      obtain ⟨rfl, he, v', t', s', m'⟩ := hO
      exact ⟨0, t', v', 4, rfl, Nat.two_pow_pos n, s', m', .inr ⟨he, hG⟩⟩
  · refine ACalls.mono (dbits_dead s he (n := (n : Nat))) fun e H' hO => ?_
    obtain ⟨rfl, rfl⟩ := hO
    exact ⟨0, t, v, er, rfl, Nat.two_pow_pos n, s, .refl, hG.dead he⟩
theorem dsymbol_trk {β : Type} {H : Heap} {p : Nat} {a : Option Addr} {cl : Nat} {L : List Bool} {t : Nat} {v : Value} {o : List Int} {mo : Nat} {G : Res β} {f : Nat → M β} {la : Option Addr} {n lc : Nat} {l : List Int} (s : DAt H p a cl L t v o mo 0) (hr : Row H la (by64 l)) (hn : n = l.length) (hc : isCode l = true) (hG : G = ((symb l).bind f) L mo t o) :
    ACalls Tryd.prog 59 [Value.pointer (some ⟨p, 0, none⟩), .slice la n lc].toArray H fun e H' => ∃ (x t' : Nat) (v' : Value) (e' : Int), e = .returned (.int .i64 (x : Nat)) ∧ (e' ≠ 0 → x = 0) ∧ x ≤ l.length ∧ (e' = 0 → x < l.length) ∧ DAt H' p a cl L t' v' o mo e' ∧ Dv p v v' H H' ∧ Trk G (f x) L mo t' o e' := by
  refine ACalls.mono (dsymbol_spec s hr hn hc) fun e H' hO => ?_
  rcases symb_cases hc (L := L) (mo := mo) (t := t) (o := o) with ⟨y, t2, h1, ht2, hy⟩ | ⟨er, h1⟩
  · rw [h1] at hO
    rw [bind_ok h1] at hG
    obtain ⟨rfl, v', s', m'⟩ := hO
    exact ⟨y, t2, v', 0, rfl, fun h => absurd rfl h, by omega, fun _ => hy, s', m', .inl ⟨rfl, hG⟩⟩
  · rw [h1] at hO
    rw [bind_bad h1] at hG
    obtain ⟨rfl, he, v', t', s', m'⟩ := hO
    exact ⟨0, t', v', er, rfl, fun _ => rfl, Nat.zero_le _, fun h => absurd h he, s', m', .inr ⟨he, hG⟩⟩
/-- how the reading of a block's own codes ends -/
def OwnD (H : Heap) (p : Nat) (a : Option Addr) (cl : Nat) (L : List Bool) (v : Value) (mo : Nat) (G : Res (List Int × List Int)) (w1 w2 : Value) (H' : Heap) : Prop := match G with
  | .ok x t o => (∃ A1 c1 A2 c2, w1 = .slice A1 x.1.length c1 ∧ w2 = .slice A2 x.2.length c2 ∧ Cl H' A1 x.1 ∧ Cl H' A2 x.2 ∧ isCode x.1 = true ∧ x.1.length ≤ 320 ∧ x.2.length ≤ 320 ∧ (zeroL x.2 = true ∨ isCode x.2 = true) ∧ ∀ y ∈ x.2, 0 ≤ y) ∧ ∃ v', DAt H' p a cl L t v' o mo 0 ∧ Dv p v v' H H'
  | .bad er o => er ≠ 0 ∧ ∃ v' t, DAt H' p a cl L t v' o mo er ∧ Dv p v v' H H'
theorem fine_code {l : List Int} (h : fine l = true) : isCode l = true := by
  unfold fine at h
  rw [Bool.and_eq_true] at h
  exact h.1
noncomputable def own3 (a : Nat) (l : List Int) : M (List Int × List Int) := if l.getD 256 0 = 0 ∨ fine (l.take a) = false ∨ (zeroL (l.drop a) = false ∧ fine (l.drop a) = false) then fail 62 else M.pure (l.take a, l.drop a)
set_option maxHeartbeats 4000000 in
theorem down7 {H0 H : Heap} {p : Nat} {a : Option Addr} {cl : Nat} {L : List Bool} {t : Nat} {v0 v : Value} {o : List Int} {mo la lb lc : Nat} {A : Option Addr} {l : List Int} {er : Int} {G : Res (List Int × List Int)} {env : Env} {Q : Post} {QP : List PanicEntry → Heap → Prop} (s : DAt H p a cl L t v o mo er) (m : Dv p v0 v H0 H)
    (h0 : env 0 = .pointer (some ⟨p, 0, none⟩)) (h4 : env 4 = .int .i64 (la : Nat)) (h10 : env 10 = .slice A l.length lc) (hlc : l.length ≤ lc) (hA : Cl H A l) (hla : 257 ≤ la ∧ la ≤ 288) (hlb : lb ≤ 32) (hl : er = 0 → l.length = la + lb) (hl0 : ∀ x ∈ l, 0 ≤ x) (hG : Trk G (own3 la l) L mo t o er)
    (hQ : ∀ env' H' w1 w2, env' 2 = w1 → env' 3 = w2 → OwnD H0 p a cl L v0 mo G w1 w2 H' → Q .ret env' H') : awpC Tryd.prog L48_7 Q QP env H := by
  unfold L48_7
  by_cases he : er = 0
  rotate_left
  · have q2 : (er != 0) = true := bne_iff_ne.2 he
    have hG : G = .bad er o := by rcases hG with h | h; exact absurd h.1 he; exact h.2
    simp -implicitDefEqProofs (maxSteps := 1000000) (disch := first | omega | assumption) only [h0, cell_of s.blk, ev_nilc, q2, Sx, Nat.reduceEqDiff]
    exact hQ _ _ _ _ rfl rfl (by rw [hG]; exact ⟨he, v, t, s, m⟩)
  subst he
  have hl := hl rfl
  have hG : G = own3 la l L mo t o := by rcases hG with h | h; exact h.2; exact absurd rfl h.1
  unfold own3 at hG
  have n00 : ((0 : Int) != 0) = false := rfl
  have hin1 : (0 : Int) ≤ (la : Int) ∧ (la : Int) ≤ (lc : Nat) := by omega
  have hin2 : (0 : Int) ≤ (la : Int) ∧ (la : Int) ≤ (l.length : Nat) := by omega
  have hlt : (l.take la).length = la := by rw [List.length_take]; omega
  have hld : (l.drop la).length = l.length - la := List.length_drop
  have hrow := hA.row
  obtain ⟨b8, rfl, hcell⟩ := int_at hrow (i := 256) (by omega)
  have hgd : l.getD 256 0 = l[256] := by rw [List.getD_eq_getElem?_getD, List.getElem?_eq_getElem (by omega)]; rfl
  rw [hgd] at hG
  obtain ⟨z, hz⟩ : ∃ z, z = l[256] := ⟨_, rfl⟩
  rw [← hz] at hcell hG
  have t256 : (256 : Int).toNat = 256 := rfl
  by_cases hz0 : z = 0
  · have f3 : (z == 0) = true := beq_iff_eq.2 hz0
    rw [if_pos (.inl hz0)] at hG
    simp -implicitDefEqProofs (maxSteps := 1000000) (disch := first | omega | assumption) only [h0, h4, h10, cell_of s.blk, ev_nilc, n00, t256, hcell, f3, ev_slc_hi, ev_slc_lo, Sx, Nat.reduceEqDiff, reduceCtorEq, Zx]
    refine st_one (o := 4) s.blk (by simp) rfl ?_
    unfold L48_6
    try simp -implicitDefEqProofs (maxSteps := 1000000) (disch := first | omega | assumption) only [Sx, Nat.reduceEqDiff]
    obtain ⟨s2, m2⟩ := s.upd (e' := 62) t s.le rfl
    exact hQ _ _ _ _ rfl rfl (by rw [hG]; exact ⟨by decide, v, t, s2, m.trans m2⟩)
  have f3 : (z == 0) = false := beq_eq_false_iff_ne.2 hz0
  simp -implicitDefEqProofs (maxSteps := 1000000) (disch := first | omega | assumption) only [h0, h4, h10, cell_of s.blk, ev_nilc, n00, t256, hcell, f3, ev_slc_hi, ev_slc_lo, Sx, Nat.reduceEqDiff]
  refine a_call (good_spec (alone := true) (row_take64 (k := la) hrow) hlt.symm (by omega)) ?_
  rintro e H1 ⟨rfl, rfl⟩
  rw [fineA_t]
  cases hf1 : fine (l.take la) with
  | false =>
    rw [if_pos (.inr (.inl hf1))] at hG
    simp -implicitDefEqProofs (maxSteps := 1000000) (disch := first | omega | assumption) only [h0, ev_nilc, Sx, Nat.reduceEqDiff, reduceCtorEq, Zx, endK]
    refine st_one (o := 4) s.blk (by simp) rfl ?_
    unfold L48_6
    try simp -implicitDefEqProofs (maxSteps := 1000000) (disch := first | omega | assumption) only [Sx, Nat.reduceEqDiff]
    obtain ⟨s2, m2⟩ := s.upd (e' := 62) t s.le rfl
    exact hQ _ _ _ _ rfl rfl (by rw [hG]; exact ⟨by decide, v, t, s2, m.trans m2⟩)
  | true =>
  simp -implicitDefEqProofs (maxSteps := 1000000) (disch := first | omega | assumption) only [Sx, Nat.reduceEqDiff, Zx, endK]
  refine a_call (none_spec (row_drop64 (k := la) hrow hlc) hld.symm (fun x hx => hl0 x (List.mem_of_mem_drop hx)) (by omega)) ?_
  rintro e H2 ⟨rfl, rfl⟩
  have okay : (zeroL (l.drop la) = true ∨ isCode (l.drop la) = true) → G = .ok (l.take la, l.drop la) t o → OwnD H0 p a cl L v0 mo G (.slice (some b8) la lc) (.slice (cutA (some b8) lc la 1) (l.length - la) (lc - la)) H2 := by
    intro hzc hG
    rw [hG]
    exact ⟨⟨_, lc, _, lc - la, by rw [hlt], by rw [hld], hA.take la, hA.drop la hlc, fine_code hf1, by rw [hlt]; omega, by rw [hld]; omega, hzc, fun x hx => hl0 x (List.mem_of_mem_drop hx)⟩, v, s, m⟩
  cases hz1 : zeroL (l.drop la) with
  | true =>
    rw [if_neg (by rw [hf1, hz1]; simp [hz0])] at hG
    simp -implicitDefEqProofs (maxSteps := 1000000) (disch := first | omega | assumption) only [Sx, Nat.reduceEqDiff, Zx, endK]
    unfold L48_6
    simp -implicitDefEqProofs (maxSteps := 1000000) (disch := first | omega | assumption) only [Sx, Nat.reduceEqDiff]
    exact hQ _ _ _ _ rfl rfl (by simp -implicitDefEqProofs (maxSteps := 1000000) (disch := first | omega | assumption) only [Sx, Nat.reduceEqDiff]; exact okay (.inl hz1) hG)
  | false =>
  simp -implicitDefEqProofs (maxSteps := 1000000) (disch := first | omega | assumption) only [Sx, Nat.reduceEqDiff, Zx, endK]
  refine a_call (good_spec (alone := true) (row_drop64 (k := la) hrow hlc) hld.symm (by omega)) ?_
  rintro e H3 ⟨rfl, rfl⟩
  rw [fineA_t]
  cases hf2 : fine (l.drop la) with
  | false =>
    rw [if_pos (.inr (.inr ⟨hz1, hf2⟩))] at hG
    simp -implicitDefEqProofs (maxSteps := 1000000) (disch := first | omega | assumption) only [h0, ev_nilc, Sx, Nat.reduceEqDiff, reduceCtorEq, Zx, endK]
    refine st_one (o := 4) s.blk (by simp) rfl ?_
    unfold L48_6
    try simp -implicitDefEqProofs (maxSteps := 1000000) (disch := first | omega | assumption) only [Sx, Nat.reduceEqDiff]
    obtain ⟨s2, m2⟩ := s.upd (e' := 62) t s.le rfl
    exact hQ _ _ _ _ rfl rfl (by rw [hG]; exact ⟨by decide, v, t, s2, m.trans m2⟩)
  | true =>
    rw [if_neg (by rw [hf1, hf2]; simp [hz0])] at hG
    simp -implicitDefEqProofs (maxSteps := 1000000) (disch := first | omega | assumption) only [Sx, Nat.reduceEqDiff, Zx, endK]
    unfold L48_6
    simp -implicitDefEqProofs (maxSteps := 1000000) (disch := first | omega | assumption) only [Sx, Nat.reduceEqDiff]
    exact hQ _ _ _ _ rfl rfl (by simp -implicitDefEqProofs (maxSteps := 1000000) (disch := first | omega | assumption) only [Sx, Nat.reduceEqDiff]; exact okay (.inr (fine_code hf2)) hG)
end Go.Proofs.YtgbhdpeibiglfaaDoor.S06

/-
  The document's stream: the lengths of a block's own codes.
-/
set_option linter.unusedVariables false
set_option linter.unusedSimpArgs false
namespace Go.Proofs.YtgbhdpeibiglfaaDoor.S06
open Go Go.RowKit Go.Proofs.YtgbhdpeibiglfaaDoor.Sep Go.Proofs.YtgbhdpeibiglfaaDoor.Low Go.Proofs.YtgbhdpeibiglfaaDoor.S05 Go.Proofs.YtgbhdpeibiglfaaDoor.CodeLaw Go.Proofs.YtgbhdpeibiglfaaDoor.Pack Go.Proofs.YtgbhdpeibiglfaaDoor.BitLaw
open Go.Proofs.YtgbhdpeibiglfaaDoor.Lib hiding by8 by8_scalar

theorem M.pure_bind {α β : Type} (a : α) (f : α → M β) : M.bind (M.pure a) f = f a := rfl
theorem Trk.map {β : Type} {G : Res β} {m m' : M β} {L : List Bool} {mo t : Nat} {o : List Int} {e : Int} (h : Trk G m L mo t o e) (hm : m = m') : Trk G m' L mo t o e := hm ▸ h
theorem mem_rep {x : List Int} {n : Nat} {z : Int} (h : ∀ y ∈ x, 0 ≤ y) (hz : 0 ≤ z) : ∀ y ∈ x ++ List.replicate n z, 0 ≤ y := fun y hy => by
  rcases List.mem_append.1 hy with h1 | h1
  · exact h y h1
  · rw [List.eq_of_mem_replicate h1]; exact hz
/-- where the reading of lengths stands -/
structure LS (H0 H' : Heap) (p : Nat) (a : Option Addr) (cl : Nat) (L : List Bool) (v0 : Value) (o : List Int) (mo la lb : Nat) (cA : Option Addr) (cc : Nat) (c : List Int) (G : Res (List Int × List Int)) (k : Nat) (env : Env) (t1 : Nat) (v1 w : Value) (x : List Int) (e1 : Int) : Prop where
  g0 : env 0 = .pointer (some ⟨p, 0, none⟩)
  g4 : env 4 = .int .i64 (la : Nat)
  g5 : env 5 = .int .i64 (lb : Nat)
  g8 : env 8 = .slice cA c.length cc
  g10 : env 10 = w
  s : DAt H' p a cl L t1 v1 o mo e1
  m : Dv p v0 v1 H0 H'
  hW : Is H' w x
  hF : Fresh H0 w
  hne : ∀ b, cA = some b → own w ≠ some b.block
  hC : Cl H' cA c
  pos : ∀ y ∈ x, 0 ≤ y
  len : x.length ≤ 470
  fuel : e1 = 0 → x.length ≤ la + lb ∧ la + lb < k + x.length ∧ 0 < k
  tr : Trk G ((lens c (la + lb) k x).bind (own3 la)) L mo t1 o e1
set_option maxHeartbeats 8000000 in
set_option maxRecDepth 4000 in
theorem dlens {H0 H : Heap} {p : Nat} {a : Option Addr} {cl : Nat} {L : List Bool} {t : Nat} {v0 v : Value} {o : List Int} {mo la lb cc : Nat} {cA : Option Addr} {c : List Int} {er : Int} {G : Res (List Int × List Int)} {env : Env} {Q : Post} {QP : List PanicEntry → Heap → Prop} (s : DAt H p a cl L t v o mo er) (m : Dv p v0 v H0 H)
    (h0 : env 0 = .pointer (some ⟨p, 0, none⟩)) (h4 : env 4 = .int .i64 (la : Nat)) (h5 : env 5 = .int .i64 (lb : Nat)) (h8 : env 8 = .slice cA c.length cc) (hC : Cl H cA c) (hcl : c.length = 19) (hcc : er = 0 → isCode c = true) (hla : 257 ≤ la ∧ la ≤ 288) (hlb : lb ≤ 32) (hG : Trk G ((lens c (la + lb) 1000 []).bind (own3 la)) L mo t o er)
    (hnz : ∀ b, a = some b → H0 b.block ≠ none) (hQ : ∀ env' H' w1 w2, env' 2 = w1 → env' 3 = w2 → OwnD H0 p a cl L v0 mo G w1 w2 H' → Q .ret env' H') : awpC Tryd.prog L48_8 Q QP env H := by
  unfold L48_8
  simp -implicitDefEqProofs (maxSteps := 1000000) (disch := first | omega | assumption) only [Sx]
  refine c_loop (fun k env H' => ∃ t1 v1 w x e1, LS H0 H' p a cl L v0 o mo la lb cA cc c G k env t1 v1 w x e1 ∧ (e1 = 0 → isCode c = true)) 1000
    ⟨t, v, .slice none 0 0, [], er, ⟨by simp -implicitDefEqProofs (maxSteps := 1000000) (disch := first | omega | assumption) only [h0, Sx, reduceCtorEq], by simp -implicitDefEqProofs (maxSteps := 1000000) (disch := first | omega | assumption) only [h4, Sx, Nat.reduceEqDiff], by simp -implicitDefEqProofs (maxSteps := 1000000) (disch := first | omega | assumption) only [h5, Sx, Nat.reduceEqDiff], by simp -implicitDefEqProofs (maxSteps := 1000000) (disch := first | omega | assumption) only [h8, Sx, Nat.reduceEqDiff], by simp -implicitDefEqProofs (maxSteps := 1000000) (disch := first | omega | assumption) only [Sx], s, m, .nil, (fun q hq => by cases hq), (fun b hb h => by cases h), hC, (fun y hy => by cases hy), by simp, (fun _ => ⟨by simp, by simp; omega, by omega⟩), hG⟩, hcc⟩ ?_
  clear h0 h4 h5 h8 hG hC hcc
  clear s m
  rintro k env H1 ⟨t1, v1, w, x, e1, ⟨g0, g4, g5, g8, g10, s1, m1, hW, hF, hne, hC, hpos, hlen, hfu, hT⟩, hcc⟩
  have hsw := hW.scalar
  obtain ⟨A, cw, rfl, hcw, hA⟩ := Is.cl hW
  unfold L48_5
  have elt : IntKind.i64.wrap ((la : Int) + (lb : Int)) = ((la + lb : Nat) : Int) := w_i64 (by omega)
  by_cases he1 : e1 = 0
  rotate_left
  · have q1 : (e1 == 0) = false := beq_eq_false_iff_ne.2 he1
    simp -implicitDefEqProofs (maxSteps := 1000000) (disch := first | omega | assumption) only [g0, cell_of s1.blk, ev_nilc, q1, Sx, Nat.reduceEqDiff]
    refine down7 (lb := lb) s1 m1 g0 g4 g10 hcw hA hla hlb (fun h => absurd h he1) hpos (hT.dead he1) hQ
  subst he1
  obtain ⟨hxt, hfu2, hk0⟩ := hfu rfl
  have hcode := hcc rfl
  have n0 : ((0 : Int) == 0) = true := rfl
  obtain ⟨k, rfl⟩ : ∃ k', k = k' + 1 := ⟨k - 1, by omega⟩
  have hT2 : G = ((lens c (la + lb) (k + 1) x).bind (own3 la)) L mo t1 o := by rcases hT with h | h; exact h.2; exact absurd rfl h.1
  rw [lens] at hT2
  by_cases hxl : la + lb ≤ x.length
  · have f0 : decide ((x.length : Int) < ((la + lb : Nat) : Int)) = false := decide_eq_false (by omega)
    rw [if_pos hxl, M.pure_bind] at hT2
    simp -implicitDefEqProofs (maxSteps := 1000000) (disch := first | omega | assumption) only [g0, g4, g5, g10, cell_of s1.blk, ev_nilc, n0, elt, f0, Sx, Nat.reduceEqDiff]
    refine down7 (lb := lb) s1 m1 g0 g4 g10 hcw hA hla hlb (fun _ => by omega) hpos (.inl ⟨rfl, hT2⟩) hQ
  have f0 : decide ((x.length : Int) < ((la + lb : Nat) : Int)) = true := decide_eq_true (by omega)
  rw [if_neg hxl, M.bind_assoc] at hT2
  -- behind what is said: so many times, what
  have fin : ∀ (env : Env) (H3 : Heap) (v3 : Value) (t3 tm : Nat) (z e3 : Int), env 0 = .pointer (some ⟨p, 0, none⟩) → env 4 = .int .i64 (la : Nat) → env 5 = .int .i64 (lb : Nat) → env 8 = .slice cA c.length cc → env 10 = .slice A x.length cw → env 12 = .int .i64 (tm : Nat) → env 13 = .int .i64 z → 1 ≤ tm → tm ≤ 138 → 0 ≤ z → DAt H3 p a cl L t3 v3 o mo e3 → Dv p v0 v3 H0 H3 → Is H3 (.slice A x.length cw) x → Cl H3 cA c →
      Trk G ((if la + lb < x.length + tm then fail 62 else lens c (la + lb) k (x ++ List.replicate tm z)).bind (own3 la)) L mo t3 o e3 → ∀ (Q : Post) (QP : List PanicEntry → Heap → Prop), (∀ env' H', (∃ m, m < k + 1 ∧ ∃ t1 v1 w x e1, LS H0 H' p a cl L v0 o mo la lb cA cc c G m env' t1 v1 w x e1 ∧ (e1 = 0 → isCode c = true)) → Q .normal env' H') →
      awpC Tryd.prog L48_3 Q QP env H3 := by
    clear g0 g4 g5 g8 g10 s1 m1 hT hT2 f0 hQ hcc hA hC hW
    intro env H3 v3 t3 tm z e3 g0 g4 g5 g8 g10 g12 g13 htm1 htm2 hz0 s3 m3 hW3 hC3 hT3 Q QP hQ
    have elt2 : IntKind.i64.wrap ((x.length : Int) + (tm : Int)) = ((x.length + tm : Nat) : Int) := w_i64 (by omega)
    -- the loop that puts them behind
    have lp : ∀ (env : Env) (H4 : Heap) (e4 : Int), env 0 = .pointer (some ⟨p, 0, none⟩) → env 4 = .int .i64 (la : Nat) → env 5 = .int .i64 (lb : Nat) → env 8 = .slice cA c.length cc → env 10 = .slice A x.length cw → env 12 = .int .i64 (tm : Nat) → env 13 = .int .i64 z → DAt H4 p a cl L t3 v3 o mo e4 → Dv p v0 v3 H0 H4 → Is H4 (.slice A x.length cw) x → Cl H4 cA c → (e4 = 0 → x.length + tm ≤ la + lb) → Trk G ((lens c (la + lb) k (x ++ List.replicate tm z)).bind (own3 la)) L mo t3 o e4 → awpC Tryd.prog L48_2 Q QP env H4 := by
      clear g0 g4 g5 g8 g10 g12 g13 hT3 s3 m3 hW3 hC3
      intro env H4 e4 g0 g4 g5 g8 g10 g12 g13 s4 m4 hW4 hC4 hfit hT4
      unfold L48_2
      simp -implicitDefEqProofs (maxSteps := 1000000) (disch := first | omega | assumption) only [Sx]
      refine c_loop (fun j env H' => ∃ i w, j + i = tm ∧ env 0 = .pointer (some ⟨p, 0, none⟩) ∧ env 4 = .int .i64 (la : Nat) ∧ env 5 = .int .i64 (lb : Nat) ∧ env 8 = .slice cA c.length cc ∧ env 10 = w ∧ env 12 = .int .i64 (tm : Nat) ∧ env 13 = .int .i64 z ∧ env 14 = .int .i64 (i : Nat) ∧ DAt H' p a cl L t3 v3 o mo e4 ∧ Dv p v0 v3 H0 H' ∧ Is H' w (x ++ List.replicate i z) ∧ Fresh H0 w ∧ (∀ b, cA = some b → own w ≠ some b.block) ∧ Cl H' cA c) tm
        ⟨0, _, by omega, by simp -implicitDefEqProofs (maxSteps := 1000000) (disch := first | omega | assumption) only [g0, Sx, reduceCtorEq], by simp -implicitDefEqProofs (maxSteps := 1000000) (disch := first | omega | assumption) only [g4, Sx, Nat.reduceEqDiff], by simp -implicitDefEqProofs (maxSteps := 1000000) (disch := first | omega | assumption) only [g5, Sx, Nat.reduceEqDiff], by simp -implicitDefEqProofs (maxSteps := 1000000) (disch := first | omega | assumption) only [g8, Sx, Nat.reduceEqDiff], by simp -implicitDefEqProofs (maxSteps := 1000000) (disch := first | omega | assumption) only [g10, Sx, Nat.reduceEqDiff], by simp -implicitDefEqProofs (maxSteps := 1000000) (disch := first | omega | assumption) only [g12, Sx, Nat.reduceEqDiff], by simp -implicitDefEqProofs (maxSteps := 1000000) (disch := first | omega | assumption) only [g13, Sx, Nat.reduceEqDiff], by simp -implicitDefEqProofs (maxSteps := 1000000) (disch := first | omega | assumption) only [Sx]; rfl, s4, m4, by simpa using hW4, hF, hne, hC4⟩ ?_
      clear g0 g4 g5 g8 g10 g12 g13 s4 m4 hW4 hC4
      rintro j env H5 ⟨i, w, hj, g0, g4, g5, g8, g10, g12, g13, g14, s5, m5, hW5, hF5, hne5, hC5⟩
      unfold L48_1
      have hs5 := hW5.scalar
      by_cases hi : i < tm
      · have f1 : decide ((i : Int) < (tm : Int)) = true := decide_eq_true (by omega)
        simp -implicitDefEqProofs (maxSteps := 1000000) (disch := first | omega | assumption) only [g10, g12, g13, g14, f1, Sx, Nat.reduceEqDiff]
        refine a_lit64 ?_
        intro r6 H6 hO6 k6 hr6
        obtain ⟨_, _, _, ee, _, _, hrow6⟩ := hO6.view
        cases ee
        have s6 := s5.keep k6
        have m6 := m5.more k6
        have hC6 := hC5.keep k6
        have hW6 : Is H6 w (x ++ List.replicate i z) := hW5.keep k6
        try simp -implicitDefEqProofs (maxSteps := 1000000) (disch := first | omega | assumption) only [Sx, Nat.reduceEqDiff]
        refine a_app (len := (x ++ List.replicate i z).length) (m := 1) (new := by64 [z]) hW6 (by simp) (by rfl) (hrow6.cells (by simp)) (by simp) rfl (by omega) (by64_scalar _) (by rw [List.length_append, List.length_replicate]; omega) ?_
        intro w7 H7 hO7 ho7 hm7
        have hW7 : Is H7 w7 (x ++ List.replicate (i + 1) z) := by
          show Own H7 _ 1 _ _
          rw [List.replicate_succ', ← List.append_assoc, by64, List.map_append]
          exact hO7
        have hs7 := hO7.scalar
        have s7 : DAt H7 p a cl L t3 v3 o mo e4 := s6.other ho7 (fun e => hW6.elem s6.blk (by decide) e) (fun r hr e => own_ne s6.pl hW6 (by decide) r e hr) (fun b hb e => hnz b hb (hF5 _ e))
        have m7 : Dv p v0 v3 H0 H7 := ⟨m6.c.trans ho7 fun r hr => .inr (hF5 r hr), m6.m⟩
        have hC7 : Cl H7 cA c := ⟨S05.Row.only hC6.row ho7 fun b hb e => hne5 b hb e, fun b hb => by
          obtain ⟨c', f', hb2⟩ := hC6.ow b hb
          exact ⟨c', f', ho7.oth _ _ hb2 fun e => hne5 b hb e⟩⟩
        try simp -implicitDefEqProofs (maxSteps := 1000000) (disch := first | omega | assumption) only [g0, g4, g5, g8, g10, g12, g13, g14, Sx, Nat.reduceEqDiff, reduceCtorEq]
        refine ⟨j - 1, by omega, i + 1, w7, by omega, by (first | exact True.intro | rfl | assumption), by (first | exact True.intro | rfl | assumption), by (first | exact True.intro | rfl | assumption), by (first | exact True.intro | rfl | assumption), by (first | exact True.intro | rfl | assumption), by (first | exact True.intro | rfl | assumption), by (first | exact True.intro | rfl | assumption), by simp, s7, m7, hW7, ?_, ?_, hC7⟩
        · rcases hm7 with e | ⟨r', e, hr'⟩
          · intro r hr; rw [e] at hr; exact hF5 r hr
          · intro r hr
            rw [e] at hr
            cases hr
            exact m6.c.none hr'
        · rcases hm7 with e | ⟨r', e, hr'⟩
          · intro b hb hr; rw [e] at hr; exact hne5 b hb hr
          · intro b hb hr
            rw [e] at hr
            cases hr
            obtain ⟨c', f', hb2⟩ := hC6.ow b hb
            rw [hr'] at hb2
            cases hb2
      · have f1 : decide ((i : Int) < (tm : Int)) = false := decide_eq_false (by omega)
        obtain rfl : i = tm := by omega
        simp -implicitDefEqProofs (maxSteps := 1000000) (disch := first | omega | assumption) only [g12, g14, f1, Sx, Nat.reduceEqDiff]
        refine hQ _ _ ⟨k, by omega, t3, v3, w, _, e4, ⟨g0, g4, g5, g8, g10, s5, m5, hW5, hF5, hne5, hC5, mem_rep hpos hz0, by rw [List.length_append, List.length_replicate]; omega, fun h => ?_, hT4⟩, fun _ => hcode⟩
        have := hfit h
        rw [List.length_append, List.length_replicate]
        omega
    unfold L48_3
    by_cases he3 : e3 = 0
    rotate_left
    · have q1 : (e3 == 0) = false := beq_eq_false_iff_ne.2 he3
      simp -implicitDefEqProofs (maxSteps := 1000000) (disch := first | omega | assumption) only [g0, cell_of s3.blk, ev_nilc, q1, Sx, Nat.reduceEqDiff]
      refine lp _ _ e3 ?_ ?_ ?_ ?_ ?_ ?_ ?_ s3 m3 hW3 hC3 (fun h => absurd h he3) (hT3.dead he3)
      · simp -implicitDefEqProofs (maxSteps := 1000000) (disch := first | omega | assumption) only [g0, Sx, reduceCtorEq]
      · simp -implicitDefEqProofs (maxSteps := 1000000) (disch := first | omega | assumption) only [g4, Sx, Nat.reduceEqDiff]
      · simp -implicitDefEqProofs (maxSteps := 1000000) (disch := first | omega | assumption) only [g5, Sx, Nat.reduceEqDiff]
      · simp -implicitDefEqProofs (maxSteps := 1000000) (disch := first | omega | assumption) only [g8, Sx, Nat.reduceEqDiff]
      · simp -implicitDefEqProofs (maxSteps := 1000000) (disch := first | omega | assumption) only [g10, Sx, Nat.reduceEqDiff]
      · simp -implicitDefEqProofs (maxSteps := 1000000) (disch := first | omega | assumption) only [g12, Sx, Nat.reduceEqDiff]
      · simp -implicitDefEqProofs (maxSteps := 1000000) (disch := first | omega | assumption) only [g13, Sx, Nat.reduceEqDiff]
    subst he3
    have hT4 : G = ((if la + lb < x.length + tm then fail 62 else lens c (la + lb) k (x ++ List.replicate tm z)).bind (own3 la)) L mo t3 o := by rcases hT3 with h | h; exact h.2; exact absurd rfl h.1
    by_cases hlt : la + lb < x.length + tm
    · have f1 : decide (((la + lb : Nat) : Int) < ((x.length + tm : Nat) : Int)) = true := decide_eq_true (by omega)
      rw [if_pos hlt] at hT4
      simp -implicitDefEqProofs (maxSteps := 1000000) (disch := first | omega | assumption) only [g0, g4, g5, g10, g12, cell_of s3.blk, ev_nilc, n0, elt, elt2, f1, Sx, Nat.reduceEqDiff, reduceCtorEq]
      refine st_one (o := 4) s3.blk (by simp) rfl ?_
      try simp -implicitDefEqProofs (maxSteps := 1000000) (disch := first | omega | assumption) only [Sx]
      obtain ⟨s4, m4⟩ := s3.upd (e' := 62) t3 s3.le rfl
      refine lp _ _ 62 ?_ ?_ ?_ ?_ ?_ ?_ ?_ s4 (m3.trans m4) (m4.own s3 hW3 (by decide) (by decide)) (hC3.mv s3 m4) (fun h => by cases h) (.inr ⟨by decide, hT4⟩)
      · simp -implicitDefEqProofs (maxSteps := 1000000) (disch := first | omega | assumption) only [g0, Sx, reduceCtorEq]
      · simp -implicitDefEqProofs (maxSteps := 1000000) (disch := first | omega | assumption) only [g4, Sx, Nat.reduceEqDiff]
      · simp -implicitDefEqProofs (maxSteps := 1000000) (disch := first | omega | assumption) only [g5, Sx, Nat.reduceEqDiff]
      · simp -implicitDefEqProofs (maxSteps := 1000000) (disch := first | omega | assumption) only [g8, Sx, Nat.reduceEqDiff]
      · simp -implicitDefEqProofs (maxSteps := 1000000) (disch := first | omega | assumption) only [g10, Sx, Nat.reduceEqDiff]
      · simp -implicitDefEqProofs (maxSteps := 1000000) (disch := first | omega | assumption) only [g12, Sx, Nat.reduceEqDiff]
      · simp -implicitDefEqProofs (maxSteps := 1000000) (disch := first | omega | assumption) only [g13, Sx, Nat.reduceEqDiff]
    · have f1 : decide (((la + lb : Nat) : Int) < ((x.length + tm : Nat) : Int)) = false := decide_eq_false (by omega)
      rw [if_neg hlt] at hT4
      simp -implicitDefEqProofs (maxSteps := 1000000) (disch := first | omega | assumption) only [g0, g4, g5, g10, g12, cell_of s3.blk, ev_nilc, n0, elt, elt2, f1, Sx, Nat.reduceEqDiff]
      refine lp _ _ 0 ?_ ?_ ?_ ?_ ?_ ?_ ?_ s3 m3 hW3 hC3 (fun _ => by omega) (.inl ⟨rfl, hT4⟩)
      · simp -implicitDefEqProofs (maxSteps := 1000000) (disch := first | omega | assumption) only [g0, Sx, reduceCtorEq]
      · simp -implicitDefEqProofs (maxSteps := 1000000) (disch := first | omega | assumption) only [g4, Sx, Nat.reduceEqDiff]
      · simp -implicitDefEqProofs (maxSteps := 1000000) (disch := first | omega | assumption) only [g5, Sx, Nat.reduceEqDiff]
      · simp -implicitDefEqProofs (maxSteps := 1000000) (disch := first | omega | assumption) only [g8, Sx, Nat.reduceEqDiff]
      · simp -implicitDefEqProofs (maxSteps := 1000000) (disch := first | omega | assumption) only [g10, Sx, Nat.reduceEqDiff]
      · simp -implicitDefEqProofs (maxSteps := 1000000) (disch := first | omega | assumption) only [g12, Sx, Nat.reduceEqDiff]
      · simp -implicitDefEqProofs (maxSteps := 1000000) (disch := first | omega | assumption) only [g13, Sx, Nat.reduceEqDiff]
  simp -implicitDefEqProofs (maxSteps := 1000000) (disch := first | omega | assumption) only [g0, g4, g5, g8, g10, cell_of s1.blk, ev_nilc, n0, elt, f0, Sx, Nat.reduceEqDiff, reduceCtorEq]
  refine a_call (dsymbol_trk s1 hC.row rfl hcode hT2) ?_
  rintro e H2 ⟨y, t2, v2, e2, rfl, hyz, hyl, hyc, s2, m2, hT3⟩
  have hW2 : Is H2 (.slice A x.length cw) x := m2.own s1 hW (by decide) (by decide)
  have hC2 := hC.mv s1 m2
  have m2 := m1.trans m2
  by_cases he2 : e2 = 0
  rotate_left
  · have hy0 := hyz he2
    subst hy0
    have q1 : (e2 == 0) = false := beq_eq_false_iff_ne.2 he2
    have y16 : (((0 : Nat) : Int) == 16) = false := rfl
    have y17 : (((0 : Nat) : Int) == 17) = false := rfl
    have y18 : (((0 : Nat) : Int) == 18) = false := rfl
    simp -implicitDefEqProofs (maxSteps := 1000000) (disch := first | omega | assumption) only [g0, cell_of s2.blk, ev_nilc, q1, Sx, Nat.reduceEqDiff, reduceCtorEq, endK]
    unfold L48_4
    simp -implicitDefEqProofs (maxSteps := 1000000) (disch := first | omega | assumption) only [y16, y17, y18, Sx, Nat.reduceEqDiff]
    refine fin _ H2 v2 t2 1 0 e2 ?_ ?_ ?_ ?_ ?_ ?_ ?_ (by omega) (by omega) (by omega) s2 m2 hW2 hC2 (hT3.dead he2) _ _ ?_
    · simp -implicitDefEqProofs (maxSteps := 1000000) (disch := first | omega | assumption) only [g0, Sx, reduceCtorEq]
    · simp -implicitDefEqProofs (maxSteps := 1000000) (disch := first | omega | assumption) only [g4, Sx, Nat.reduceEqDiff]
    · simp -implicitDefEqProofs (maxSteps := 1000000) (disch := first | omega | assumption) only [g5, Sx, Nat.reduceEqDiff]
    · simp -implicitDefEqProofs (maxSteps := 1000000) (disch := first | omega | assumption) only [g8, Sx, Nat.reduceEqDiff]
    · simp -implicitDefEqProofs (maxSteps := 1000000) (disch := first | omega | assumption) only [g10, Sx, Nat.reduceEqDiff]
    · simp -implicitDefEqProofs (maxSteps := 1000000) (disch := first | omega | assumption) only [Sx, Nat.reduceEqDiff]; rfl
    · simp -implicitDefEqProofs (maxSteps := 1000000) (disch := first | omega | assumption) only [Sx, Nat.reduceEqDiff]; rfl
    intro env' H' h
    simp -implicitDefEqProofs (maxSteps := 1000000) (disch := first | omega | assumption) only [Sx]
    exact h
  subst he2
  have hy19 := hyc rfl
  have hT4 : G = ((times y x).bind fun q => (if la + lb < x.length + q.1 then fail 62 else lens c (la + lb) k (x ++ List.replicate q.1 q.2)).bind (own3 la)) L mo t2 o := by
    rcases hT3 with h | h
    · rw [h.2, M.bind_assoc]
    · exact absurd rfl h.1
  clear hT3
  unfold times at hT4
  by_cases h16 : y = 16
  · have f1 : ((y : Int) == 16) = true := by rw [beq_iff_eq]; omega
    rw [if_pos h16] at hT4
    by_cases hx0 : x = []
    · have f2 : ((x.length : Int) == 0) = true := by rw [hx0]; rfl
      have f3 : decide ((0 : Int) < (x.length : Int)) = false := by rw [hx0]; rfl
      rw [if_pos hx0, M.fail_bind] at hT4
      simp -implicitDefEqProofs (maxSteps := 1000000) (disch := first | omega | assumption) only [g0, g10, cell_of s2.blk, ev_nilc, n0, f1, f2, Sx, Nat.reduceEqDiff, reduceCtorEq, endK]
      refine st_one (o := 4) s2.blk (by simp) rfl ?_
      try simp -implicitDefEqProofs (maxSteps := 1000000) (disch := first | omega | assumption) only [Sx]
      obtain ⟨s3, m3⟩ := s2.upd (e' := 62) t2 s2.le rfl
      have hW3 : Is _ (.slice A x.length cw) x := m3.own s2 hW2 (by decide) (by decide)
      have hC3 := hC2.mv s2 m3
      have m3 := m2.trans m3
      unfold L48_4
      simp -implicitDefEqProofs (maxSteps := 1000000) (disch := first | omega | assumption) only [g0, f1, Sx, Nat.reduceEqDiff, reduceCtorEq]
      refine a_call (dbits_dead s3 (by decide)) ?_
      rintro e H4 ⟨rfl, rfl⟩
      simp -implicitDefEqProofs (maxSteps := 1000000) (disch := first | omega | assumption) only [g10, f3, Sx, Nat.reduceEqDiff, endK]
      refine fin _ _ v2 t2 3 y 62 ?_ ?_ ?_ ?_ ?_ ?_ ?_ (by omega) (by omega) (by omega) s3 m3 hW3 hC3 (.inr ⟨by decide, hT4⟩) _ _ ?_
      · simp -implicitDefEqProofs (maxSteps := 1000000) (disch := first | omega | assumption) only [g0, Sx, reduceCtorEq]
      · simp -implicitDefEqProofs (maxSteps := 1000000) (disch := first | omega | assumption) only [g4, Sx, Nat.reduceEqDiff]
      · simp -implicitDefEqProofs (maxSteps := 1000000) (disch := first | omega | assumption) only [g5, Sx, Nat.reduceEqDiff]
      · simp -implicitDefEqProofs (maxSteps := 1000000) (disch := first | omega | assumption) only [g8, Sx, Nat.reduceEqDiff]
      · simp -implicitDefEqProofs (maxSteps := 1000000) (disch := first | omega | assumption) only [g10, Sx, Nat.reduceEqDiff]
      · simp -implicitDefEqProofs (maxSteps := 1000000) (disch := first | omega | assumption) only [Sx, Nat.reduceEqDiff]; rfl
      · simp -implicitDefEqProofs (maxSteps := 1000000) (disch := first | omega | assumption) only [Sx, Nat.reduceEqDiff]
      intro env' H' h
      simp -implicitDefEqProofs (maxSteps := 1000000) (disch := first | omega | assumption) only [Sx]
      exact h
    have hxp : 0 < x.length := List.length_pos_iff.2 hx0
    have f2 : ((x.length : Int) == 0) = false := by rw [beq_eq_false_iff_ne]; omega
    have f3 : decide ((0 : Int) < (x.length : Int)) = true := decide_eq_true (by omega)
    rw [if_neg hx0, M.bind_assoc] at hT4
    simp -implicitDefEqProofs (maxSteps := 1000000) (disch := first | omega | assumption) only [g0, g10, cell_of s2.blk, ev_nilc, n0, f1, f2, Sx, Nat.reduceEqDiff, reduceCtorEq, endK]
    unfold L48_4
    simp -implicitDefEqProofs (maxSteps := 1000000) (disch := first | omega | assumption) only [g0, f1, Sx, Nat.reduceEqDiff, reduceCtorEq]
    refine a_call (dbits_trk s2 (.inl ⟨rfl, hT4⟩) (n := 2) (by omega)) ?_
    rintro e H3 ⟨q, t3, v3, e3, rfl, hq, s3, m3, hT5⟩
    rw [M.pure_bind] at hT5
    have hW3 : Is H3 (.slice A x.length cw) x := m3.own s2 hW2 (by decide) (by decide)
    have hC3 := hC2.mv s2 m3
    have m3 := m2.trans m3
    obtain ⟨A', c', ee, -, hrw2⟩ := Is.row hW3
    obtain ⟨rfl, -, rfl⟩ : A = A' ∧ x.length = x.length ∧ cw = c' := by simpa using ee
    obtain ⟨ba, rfl, hcell⟩ := int_at hrw2 (i := x.length - 1) (by omega)
    have hz15 := hpos _ (List.getElem_mem (h := (by omega : x.length - 1 < x.length)))
    have hgl : x.getLastD 0 = x[x.length - 1] := by
      rw [List.getLastD_eq_getLast?, List.getLast?_eq_getElem?, List.getElem?_eq_getElem (by omega)]; rfl
    rw [hgl] at hT5
    obtain ⟨z, hz⟩ : ∃ z, z = x[x.length - 1] := ⟨_, rfl⟩
    rw [← hz] at hcell hz15 hT5
    have hs1 : (x.length : Int) - 1 = ((x.length - 1 : Nat) : Int) := by omega
    have e3 : (q : Int) + 3 = ((3 + q : Nat) : Int) := by omega
    simp -implicitDefEqProofs (maxSteps := 1000000) (disch := first | omega | assumption) only [g10, f3, hs1, hcell, e3, Sx, Nat.reduceEqDiff, endK]
    refine fin _ H3 v3 t3 (3 + q) z _ ?_ ?_ ?_ ?_ ?_ ?_ ?_ (by omega) (by omega) (by omega) s3 m3 hW3 hC3 hT5 _ _ ?_
    · simp -implicitDefEqProofs (maxSteps := 1000000) (disch := first | omega | assumption) only [g0, Sx, reduceCtorEq]
    · simp -implicitDefEqProofs (maxSteps := 1000000) (disch := first | omega | assumption) only [g4, Sx, Nat.reduceEqDiff]
    · simp -implicitDefEqProofs (maxSteps := 1000000) (disch := first | omega | assumption) only [g5, Sx, Nat.reduceEqDiff]
    · simp -implicitDefEqProofs (maxSteps := 1000000) (disch := first | omega | assumption) only [g8, Sx, Nat.reduceEqDiff]
    · simp -implicitDefEqProofs (maxSteps := 1000000) (disch := first | omega | assumption) only [g10, Sx, Nat.reduceEqDiff]
    · simp -implicitDefEqProofs (maxSteps := 1000000) (disch := first | omega | assumption) only [Sx, Nat.reduceEqDiff]
    · simp -implicitDefEqProofs (maxSteps := 1000000) (disch := first | omega | assumption) only [Sx, Nat.reduceEqDiff]
    intro env' H' h
    simp -implicitDefEqProofs (maxSteps := 1000000) (disch := first | omega | assumption) only [Sx]
    exact h
  have f1 : ((y : Int) == 16) = false := by rw [beq_eq_false_iff_ne]; omega
  rw [if_neg h16] at hT4
  simp -implicitDefEqProofs (maxSteps := 1000000) (disch := first | omega | assumption) only [g0, cell_of s2.blk, ev_nilc, n0, f1, Sx, Nat.reduceEqDiff, reduceCtorEq, endK]
  unfold L48_4
  by_cases h17 : y = 17
  · have f2 : ((y : Int) == 17) = true := by rw [beq_iff_eq]; omega
    rw [if_pos h17, M.bind_assoc] at hT4
    simp -implicitDefEqProofs (maxSteps := 1000000) (disch := first | omega | assumption) only [g0, f1, f2, Sx, Nat.reduceEqDiff, reduceCtorEq]
    refine a_call (dbits_trk s2 (.inl ⟨rfl, hT4⟩) (n := 3) (by omega)) ?_
    rintro e H3 ⟨q, t3, v3, e3, rfl, hq, s3, m3, hT5⟩
    rw [M.pure_bind] at hT5
    have hW3 : Is H3 (.slice A x.length cw) x := m3.own s2 hW2 (by decide) (by decide)
    have hC3 := hC2.mv s2 m3
    have m3 := m2.trans m3
    have e3 : (q : Int) + 3 = ((3 + q : Nat) : Int) := by omega
    simp -implicitDefEqProofs (maxSteps := 1000000) (disch := first | omega | assumption) only [e3, Sx, Nat.reduceEqDiff, endK]
    refine fin _ H3 v3 t3 (3 + q) 0 _ ?_ ?_ ?_ ?_ ?_ ?_ ?_ (by omega) (by omega) (by omega) s3 m3 hW3 hC3 hT5 _ _ ?_
    · simp -implicitDefEqProofs (maxSteps := 1000000) (disch := first | omega | assumption) only [g0, Sx, reduceCtorEq]
    · simp -implicitDefEqProofs (maxSteps := 1000000) (disch := first | omega | assumption) only [g4, Sx, Nat.reduceEqDiff]
    · simp -implicitDefEqProofs (maxSteps := 1000000) (disch := first | omega | assumption) only [g5, Sx, Nat.reduceEqDiff]
    · simp -implicitDefEqProofs (maxSteps := 1000000) (disch := first | omega | assumption) only [g8, Sx, Nat.reduceEqDiff]
    · simp -implicitDefEqProofs (maxSteps := 1000000) (disch := first | omega | assumption) only [g10, Sx, Nat.reduceEqDiff]
    · simp -implicitDefEqProofs (maxSteps := 1000000) (disch := first | omega | assumption) only [Sx, Nat.reduceEqDiff]
    · simp -implicitDefEqProofs (maxSteps := 1000000) (disch := first | omega | assumption) only [Sx, Nat.reduceEqDiff]
    intro env' H' h
    simp -implicitDefEqProofs (maxSteps := 1000000) (disch := first | omega | assumption) only [Sx]
    exact h
  have f2 : ((y : Int) == 17) = false := by rw [beq_eq_false_iff_ne]; omega
  rw [if_neg h17] at hT4
  by_cases h18 : y = 18
  · have f3 : ((y : Int) == 18) = true := by rw [beq_iff_eq]; omega
    rw [if_pos h18, M.bind_assoc] at hT4
    simp -implicitDefEqProofs (maxSteps := 1000000) (disch := first | omega | assumption) only [g0, f1, f2, f3, Sx, Nat.reduceEqDiff, reduceCtorEq]
    refine a_call (dbits_trk s2 (.inl ⟨rfl, hT4⟩) (n := 7) (by omega)) ?_
    rintro e H3 ⟨q, t3, v3, e3, rfl, hq, s3, m3, hT5⟩
    rw [M.pure_bind] at hT5
    have hW3 : Is H3 (.slice A x.length cw) x := m3.own s2 hW2 (by decide) (by decide)
    have hC3 := hC2.mv s2 m3
    have m3 := m2.trans m3
    have e3 : (q : Int) + 11 = ((11 + q : Nat) : Int) := by omega
    simp -implicitDefEqProofs (maxSteps := 1000000) (disch := first | omega | assumption) only [e3, Sx, Nat.reduceEqDiff, endK]
    refine fin _ H3 v3 t3 (11 + q) 0 _ ?_ ?_ ?_ ?_ ?_ ?_ ?_ (by omega) (by omega) (by omega) s3 m3 hW3 hC3 hT5 _ _ ?_
    · simp -implicitDefEqProofs (maxSteps := 1000000) (disch := first | omega | assumption) only [g0, Sx, reduceCtorEq]
    · simp -implicitDefEqProofs (maxSteps := 1000000) (disch := first | omega | assumption) only [g4, Sx, Nat.reduceEqDiff]
    · simp -implicitDefEqProofs (maxSteps := 1000000) (disch := first | omega | assumption) only [g5, Sx, Nat.reduceEqDiff]
    · simp -implicitDefEqProofs (maxSteps := 1000000) (disch := first | omega | assumption) only [g8, Sx, Nat.reduceEqDiff]
    · simp -implicitDefEqProofs (maxSteps := 1000000) (disch := first | omega | assumption) only [g10, Sx, Nat.reduceEqDiff]
    · simp -implicitDefEqProofs (maxSteps := 1000000) (disch := first | omega | assumption) only [Sx, Nat.reduceEqDiff]
    · simp -implicitDefEqProofs (maxSteps := 1000000) (disch := first | omega | assumption) only [Sx, Nat.reduceEqDiff]
    intro env' H' h
    simp -implicitDefEqProofs (maxSteps := 1000000) (disch := first | omega | assumption) only [Sx]
    exact h
  have f3 : ((y : Int) == 18) = false := by rw [beq_eq_false_iff_ne]; omega
  rw [if_neg h18, M.pure_bind] at hT4
  simp -implicitDefEqProofs (maxSteps := 1000000) (disch := first | omega | assumption) only [f1, f2, f3, Sx, Nat.reduceEqDiff]
  refine fin _ H2 v2 t2 1 (y : Nat) 0 ?_ ?_ ?_ ?_ ?_ ?_ ?_ (by omega) (by omega) (by omega) s2 m2 hW2 hC2 (.inl ⟨rfl, hT4⟩) _ _ ?_
  · simp -implicitDefEqProofs (maxSteps := 1000000) (disch := first | omega | assumption) only [g0, Sx, reduceCtorEq]
  · simp -implicitDefEqProofs (maxSteps := 1000000) (disch := first | omega | assumption) only [g4, Sx, Nat.reduceEqDiff]
  · simp -implicitDefEqProofs (maxSteps := 1000000) (disch := first | omega | assumption) only [g5, Sx, Nat.reduceEqDiff]
  · simp -implicitDefEqProofs (maxSteps := 1000000) (disch := first | omega | assumption) only [g8, Sx, Nat.reduceEqDiff]
  · simp -implicitDefEqProofs (maxSteps := 1000000) (disch := first | omega | assumption) only [g10, Sx, Nat.reduceEqDiff]
  · simp -implicitDefEqProofs (maxSteps := 1000000) (disch := first | omega | assumption) only [Sx, Nat.reduceEqDiff]; rfl
  · simp -implicitDefEqProofs (maxSteps := 1000000) (disch := first | omega | assumption) only [Sx, Nat.reduceEqDiff]
  intro env' H' h
  simp -implicitDefEqProofs (maxSteps := 1000000) (disch := first | omega | assumption) only [Sx]
  exact h
end Go.Proofs.YtgbhdpeibiglfaaDoor.S06

/-
  The document's stream: a block's own codes, whole.
-/
set_option linter.unusedVariables false
set_option linter.unusedSimpArgs false
namespace Go.Proofs.YtgbhdpeibiglfaaDoor.S06
open Go Go.RowKit Go.Proofs.YtgbhdpeibiglfaaDoor.Sep Go.Proofs.YtgbhdpeibiglfaaDoor.Low Go.Proofs.YtgbhdpeibiglfaaDoor.S05 Go.Proofs.YtgbhdpeibiglfaaDoor.CodeLaw Go.Proofs.YtgbhdpeibiglfaaDoor.Pack Go.Proofs.YtgbhdpeibiglfaaDoor.BitLaw
open Go.Proofs.YtgbhdpeibiglfaaDoor.Lib hiding by8 by8_scalar

theorem ordV_build : fillV (Array.replicate 19 (.int .i64 0)) [((0, 1), .int .i64 16), ((1, 1), .int .i64 17), ((2, 1), .int .i64 18), ((3, 1), .int .i64 0), ((4, 1), .int .i64 8), ((5, 1), .int .i64 7), ((6, 1), .int .i64 9), ((7, 1), .int .i64 6), ((8, 1), .int .i64 10), ((9, 1), .int .i64 5), ((10, 1), .int .i64 11), ((11, 1), .int .i64 4), ((12, 1), .int .i64 12), ((13, 1), .int .i64 3), ((14, 1), .int .i64 13), ((15, 1), .int .i64 2), ((16, 1), .int .i64 14), ((17, 1), .int .i64 1), ((18, 1), .int .i64 15)] = some ordV.toArray := rfl
theorem ordV_scalar : ∀ v ∈ ordV, scalarV v = true := by
  unfold ordV
  simp [scalarV]
@[irreducible] def Own9 : LCode := L48_9
theorem own9_eq : L48_9 = Own9 := by unfold Own9; rfl
set_option maxHeartbeats 8000000 in
set_option maxRecDepth 4000 in
theorem down9 {H : Heap} {p : Nat} {a : Option Addr} {cl : Nat} {L : List Bool} {t : Nat} {v : Value} {o : List Int} {mo : Nat} (s : DAt H p a cl L t v o mo 0)
    {G : Res (List Int × List Int)} {la lb ln : Nat} (hla2 : 257 ≤ la ∧ la ≤ 288) (hlb2 : lb ≤ 32) (hln2 : ln ≤ 19) {K : List Int → M (List Int × List Int)} (hK : K = fun c => if isWhole c = false then fail 62 else own2 la lb c)
    {env : Env} {H4 : Heap} {v4 : Value} {t4 : Nat} {e4 : Int} (g0 : env 0 = .pointer (some ⟨p, 0, none⟩)) (g4 : env 4 = .int .i64 (la : Nat)) (g5 : env 5 = .int .i64 (lb : Nat)) (g6 : env 6 = .int .i64 (ln : Nat))
    (s4 : DAt H4 p a cl L t4 v4 o mo e4) (m4 : Dv p v v4 H H4) {KK : M (List Int × List Int)} (hKK : KK = (smalls ln 0 (List.replicate 19 0)).bind K) (hT : Trk G KK L mo t4 o e4)
    {Q : Post} {QP : List PanicEntry → Heap → Prop} (hQ : ∀ env' H' w1 w2, env' 2 = w1 → env' 3 = w2 → OwnD H p a cl L v mo G w1 w2 H' → Q .ret env' H') : awpC Tryd.prog Own9 Q QP env H4 := by
  have hnz := s.nz
  rw [hKK] at hT
  clear hKK
  unfold Own9 L48_9
  simp -implicitDefEqProofs (maxSteps := 1000000) (disch := first | omega | assumption) only [ordV_build, Option.map_some, Sx, Nat.reduceAdd]
  refine a_new fun r7 hr7 => ?_
  have hz19 : Array.replicate 19 (Value.int .i64 0) = (by64 (List.replicate 19 0)).toArray := rfl
  try simp -implicitDefEqProofs (maxSteps := 1000000) (disch := first | omega | assumption) only [Sx, Nat.reduceEqDiff]
  refine st_all (old := by64 (List.replicate 19 0)) (ci := ordV) (by rw [set_same, hz19]) rfl rfl ordV_scalar ?_
  rw [set_set]
  obtain ⟨H5, hH5⟩ : ∃ H5, H5 = H4.set r7 (.cells ordV.toArray T19 (0, 0)) := ⟨_, rfl⟩
  have k5 : Keep H4 H5 := by rw [hH5]; exact (Keep.refl _).set_new hr7
  have hB5 : H5 r7 = some (.cells ordV.toArray T19 (0, 0)) := by rw [hH5]; exact set_same
  rw [← hH5]
  clear hH5
  try simp -implicitDefEqProofs (maxSteps := 1000000) (disch := first | omega | assumption) only [Sx]
  refine a_mks (sz := 1) (l := 19) (c := 19) (Nat.le_refl _) (by omega) (by omega) rfl (by omega) ?_
  intro r8 H6 rest hb8 hO8 k6 hr8
  have k46 := k5.trans k6
  have s6 := s4.keep k46
  have m6 := m4.more k46
  have hB6 := k6 _ _ hB5
  have hW6 : Is H6 (.slice (some ⟨r8, 0, none⟩) 19 19) (List.replicate 19 0) := hO8
  have hr8H : H r8 = none := m4.c.none (k5.none hr8)
  clear hb8 hO8
  try simp -implicitDefEqProofs (maxSteps := 1000000) (disch := first | omega | assumption) only [Sx, Nat.reduceEqDiff]
  refine c_loop (fun k env H' => ∃ (i t1 : Nat) (v1 : Value) (x : List Int) (e1 : Int), k + i = ln ∧ env 0 = .pointer (some ⟨p, 0, none⟩) ∧ env 4 = .int .i64 (la : Nat) ∧ env 5 = .int .i64 (lb : Nat) ∧ env 6 = .int .i64 (ln : Nat) ∧ env 7 = .pointer (some ⟨r7, 0, none⟩) ∧ env 8 = .slice (some ⟨r8, 0, none⟩) 19 19 ∧ env 9 = .int .i64 (i : Nat) ∧ DAt H' p a cl L t1 v1 o mo e1 ∧ Dv p v v1 H H' ∧ H' r7 = some (.cells ordV.toArray T19 (0, 0)) ∧ Is H' (.slice (some ⟨r8, 0, none⟩) 19 19) x ∧ x.length = 19 ∧ Trk G ((smalls k i x).bind K) L mo t1 o e1) ln
    ⟨0, t4, v4, List.replicate 19 0, e4, by omega, by simp -implicitDefEqProofs (maxSteps := 1000000) (disch := first | omega | assumption) only [g0, Sx, reduceCtorEq], by simp -implicitDefEqProofs (maxSteps := 1000000) (disch := first | omega | assumption) only [g4, Sx, Nat.reduceEqDiff], by simp -implicitDefEqProofs (maxSteps := 1000000) (disch := first | omega | assumption) only [g5, Sx, Nat.reduceEqDiff], by simp -implicitDefEqProofs (maxSteps := 1000000) (disch := first | omega | assumption) only [g6, Sx, Nat.reduceEqDiff], by simp -implicitDefEqProofs (maxSteps := 1000000) (disch := first | omega | assumption) only [Sx, Nat.reduceEqDiff], by simp -implicitDefEqProofs (maxSteps := 1000000) (disch := first | omega | assumption) only [Sx, Nat.reduceEqDiff], by simp -implicitDefEqProofs (maxSteps := 1000000) (disch := first | omega | assumption) only [Sx, Nat.reduceEqDiff]; rfl, s6, m6, hB6, hW6, List.length_replicate, hT⟩ ?_
  clear g0 g4 g5 g6 hT s6 m6 hB6 hW6 s4 m4 k5 k6 k46 hB5
  rintro k env H7 ⟨i, t1, v1, x, e1, hk, g0, g4, g5, g6, g7, g8, g9, s7, m7, hB7, hW7, hx19, hT⟩
  unfold L48_0
  by_cases hi : i < ln
  · have f2 : decide ((i : Int) < (ln : Int)) = true := decide_eq_true (by omega)
    obtain ⟨k, rfl⟩ : ∃ k', k = k' + 1 := ⟨k - 1, by omega⟩
    obtain ⟨ho1, ho2⟩ := ord_at i (by omega)
    have hcell : H7.cell? ⟨r7, i, none⟩ = some (.int .i64 ((ord.getD i 0 : Nat) : Int)) := by
      rw [cell_of hB7]
      exact ho1
    rw [smalls, M.bind_assoc] at hT
    obtain ⟨u, hu⟩ : ∃ u, u = ord.getD i 0 := ⟨_, rfl⟩
    rw [← hu] at ho1 hcell ho2 hT
    simp -implicitDefEqProofs (maxSteps := 1000000) (disch := first | omega | assumption) only [g0, g4, g5, g6, g7, g8, g9, f2, hcell, l_qk, l_e, Sx, Nat.reduceEqDiff, reduceCtorEq]
    refine a_call (dbits_trk s7 hT (n := 3) (by omega)) ?_
    rintro e H8 ⟨y, t8, v8, e8, rfl, hy, s8, m8, hT8⟩
    have hB8 := m8.blk s7 hB7 (by decide) (by decide)
    have hW8 : Is H8 (.slice (some ⟨r8, 0, none⟩) 19 19) x := m8.own s7 hW7 (by decide) (by decide)
    have m8 := m7.trans m8
    have hcell8 : H8.cell? ⟨r7, i, none⟩ = some (.int .i64 (u : Nat)) := by
      rw [cell_of hB8]
      exact ho1
    try simp -implicitDefEqProofs (maxSteps := 1000000) (disch := first | omega | assumption) only [endK]
    refine ⟨fun z hz _ => by simp only [List.mem_cons, List.not_mem_nil, or_false] at hz; subst hz; simp only [hcell8], ?_⟩
    have hin2 : (0 : Int) ≤ (u : Int) ∧ (u : Int) < ((19 : Nat) : Int) := by omega
    try simp -implicitDefEqProofs (maxSteps := 1000000) (disch := first | omega | assumption) only [g0, g4, g5, g6, g7, g8, g9, l_qk, l_e, Sx, reduceIte, Nat.reduceEqDiff, reduceCtorEq, Nat.reduceAdd, Nat.reduceSub, Nat.reduceLT, Zx, endK]
    refine a_storeC hW8 (j := u) (by rw [List.length_map]; omega) rfl ?_
    intro H9 hO9 ho9
    have hW9 : Is H9 (.slice (some ⟨r8, 0, none⟩) 19 19) (x.set u (y : Int)) := by
      show Own H9 _ 1 _ (by64 _)
      rw [by64, List.map_set]
      exact hO9
    have s9 : DAt H9 p a cl L t8 v8 o mo e8 := s8.other ho9 (fun e => hW8.elem s8.blk (by decide) e) (fun r hr e => own_ne s8.pl hW8 (by decide) r e hr) (fun b hb e => by cases e; exact hnz b hb hr8H)
    have m9 : Dv p v v8 H H9 := ⟨m8.c.trans ho9 fun r hr => by cases hr; exact .inr hr8H, m8.m⟩
    have hB9 := ho9.oth _ _ hB8 fun e => hW8.elem hB8 (by decide) e
    try simp -implicitDefEqProofs (maxSteps := 1000000) (disch := first | omega | assumption) only [endK]
    refine ⟨fun z hz h => by simp at h, ?_⟩
    try simp -implicitDefEqProofs (maxSteps := 1000000) (disch := first | omega | assumption) only [g0, g4, g5, g6, g7, g8, g9, Sx, reduceIte, Nat.reduceEqDiff, reduceCtorEq, Nat.reduceAdd, Nat.reduceSub, Nat.reduceLT, Zx, endK]
    exact ⟨k, by omega, i + 1, t8, v8, _, e8, by omega, by simp -implicitDefEqProofs (maxSteps := 1000000) (disch := first | omega | assumption) only [], by simp -implicitDefEqProofs (maxSteps := 1000000) (disch := first | omega | assumption) only [], by simp -implicitDefEqProofs (maxSteps := 1000000) (disch := first | omega | assumption) only [], by simp -implicitDefEqProofs (maxSteps := 1000000) (disch := first | omega | assumption) only [], by simp -implicitDefEqProofs (maxSteps := 1000000) (disch := first | omega | assumption) only [], by simp -implicitDefEqProofs (maxSteps := 1000000) (disch := first | omega | assumption) only [], by simp, s9, m9, hB9, hW9, by rw [List.length_set]; exact hx19, hT8⟩
  have f2 : decide ((i : Int) < (ln : Int)) = false := decide_eq_false (by omega)
  obtain rfl : k = 0 := by omega
  rw [smalls, M.pure_bind, hK] at hT
  simp only at hT
  obtain ⟨A8, c8, ee, -, hC8⟩ := Is.cl hW7
  simp only [Value.slice.injEq] at ee
  obtain ⟨rfl, -, rfl⟩ := ee
  by_cases he1 : e1 = 0
  rotate_left
  · have q1 : (e1 == 0) = false := beq_eq_false_iff_ne.2 he1
    simp -implicitDefEqProofs (maxSteps := 1000000) (disch := first | omega | assumption) only [g0, g6, g9, f2, cell_of s7.blk, ev_nilc, q1, Sx, Nat.reduceEqDiff, reduceCtorEq]
    refine dlens s7 m7 (lb := lb) (cc := 19) ?_ ?_ ?_ ?_ hC8 hx19 (fun h => absurd h he1) hla2 hlb2 (hT.dead he1) hnz ?_
    · simp -implicitDefEqProofs (maxSteps := 1000000) (disch := first | omega | assumption) only [g0, Sx, reduceCtorEq]
    · simp -implicitDefEqProofs (maxSteps := 1000000) (disch := first | omega | assumption) only [g4, Sx, Nat.reduceEqDiff]
    · simp -implicitDefEqProofs (maxSteps := 1000000) (disch := first | omega | assumption) only [g5, Sx, Nat.reduceEqDiff]
    · rw [hx19]; simp -implicitDefEqProofs (maxSteps := 1000000) (disch := first | omega | assumption) only [g8, Sx, Nat.reduceEqDiff]
    intro env' H' w1 w2 h1 h2 hD
    try simp -implicitDefEqProofs (maxSteps := 1000000) (disch := first | omega | assumption) only [Sx, reduceIte, Nat.reduceEqDiff, reduceCtorEq, Nat.reduceAdd, Nat.reduceSub, Nat.reduceLT, Zx, endK]
    exact hQ _ _ _ _ h1 h2 hD
  subst he1
  have n0 : ((0 : Int) == 0) = true := rfl
  simp -implicitDefEqProofs (maxSteps := 1000000) (disch := first | omega | assumption) only [g0, g6, g8, g9, f2, cell_of s7.blk, ev_nilc, n0, Sx, Nat.reduceEqDiff, reduceCtorEq]
  refine a_call (good_spec (alone := false) hC8.row hx19.symm (by omega)) ?_
  rintro e H8 ⟨rfl, rfl⟩
  rw [fineA_f]
  by_cases hw : isWhole x = true
  rotate_left
  · have hw' : isWhole x = false := by simpa using hw
    have hfa : (isCode x && isWhole x) = false := by rw [hw', Bool.and_false]
    have hG62 : G = .bad 62 o := by
      rcases hT with h | h
      · rw [h.2, if_pos hw']; rfl
      · exact absurd rfl h.1
    simp -implicitDefEqProofs (maxSteps := 1000000) (disch := first | omega | assumption) only [g0, ev_nilc, hfa, Sx, Nat.reduceEqDiff, reduceCtorEq, Zx, endK]
    refine st_one (o := 4) s7.blk (by simp) rfl ?_
    try simp -implicitDefEqProofs (maxSteps := 1000000) (disch := first | omega | assumption) only [Sx]
    obtain ⟨s8, m8⟩ := s7.upd (e' := 62) t1 s7.le rfl
    refine dlens s8 (m7.trans m8) (lb := lb) (cc := 19) ?_ ?_ ?_ ?_ (hC8.mv s7 m8) hx19 (fun h => by cases h) hla2 hlb2 (.inr ⟨by decide, hG62⟩) hnz ?_
    · simp -implicitDefEqProofs (maxSteps := 1000000) (disch := first | omega | assumption) only [g0, Sx, reduceCtorEq]
    · simp -implicitDefEqProofs (maxSteps := 1000000) (disch := first | omega | assumption) only [g4, Sx, Nat.reduceEqDiff]
    · simp -implicitDefEqProofs (maxSteps := 1000000) (disch := first | omega | assumption) only [g5, Sx, Nat.reduceEqDiff]
    · rw [hx19]; simp -implicitDefEqProofs (maxSteps := 1000000) (disch := first | omega | assumption) only [g8, Sx, Nat.reduceEqDiff]
    intro env' H' w1 w2 h1 h2 hD
    try simp -implicitDefEqProofs (maxSteps := 1000000) (disch := first | omega | assumption) only [Sx, reduceIte, Nat.reduceEqDiff, reduceCtorEq, Nat.reduceAdd, Nat.reduceSub, Nat.reduceLT, Zx, endK]
    exact hQ _ _ _ _ h1 h2 hD
  · have hcx := whole_code hw
    have hfa : (isCode x && isWhole x) = true := by rw [hw, hcx]; rfl
    have hG2 : G = own2 la lb x L mo t1 o := by
      rcases hT with h | h
      · rw [h.2, if_neg (by rw [hw]; decide)]
      · exact absurd rfl h.1
    simp -implicitDefEqProofs (maxSteps := 1000000) (disch := first | omega | assumption) only [hfa, Sx, Nat.reduceEqDiff, Zx, endK]
    refine dlens s7 m7 (lb := lb) (cc := 19) ?_ ?_ ?_ ?_ hC8 hx19 (fun _ => hcx) hla2 hlb2 (.inl ⟨rfl, hG2⟩) hnz ?_
    · simp -implicitDefEqProofs (maxSteps := 1000000) (disch := first | omega | assumption) only [g0, Sx, reduceCtorEq]
    · simp -implicitDefEqProofs (maxSteps := 1000000) (disch := first | omega | assumption) only [g4, Sx, Nat.reduceEqDiff]
    · simp -implicitDefEqProofs (maxSteps := 1000000) (disch := first | omega | assumption) only [g5, Sx, Nat.reduceEqDiff]
    · rw [hx19]; simp -implicitDefEqProofs (maxSteps := 1000000) (disch := first | omega | assumption) only [g8, Sx, Nat.reduceEqDiff]
    intro env' H' w1 w2 h1 h2 hD
    try simp -implicitDefEqProofs (maxSteps := 1000000) (disch := first | omega | assumption) only [Sx, reduceIte, Nat.reduceEqDiff, reduceCtorEq, Nat.reduceAdd, Nat.reduceSub, Nat.reduceLT, Zx, endK]
    exact hQ _ _ _ _ h1 h2 hD
set_option maxHeartbeats 8000000 in
set_option maxRecDepth 4000 in
theorem down_spec {H : Heap} {p : Nat} {a : Option Addr} {cl : Nat} {L : List Bool} {t : Nat} {v : Value} {o : List Int} {mo : Nat} (s : DAt H p a cl L t v o mo 0) :
    ACalls Tryd.prog 48 [Value.pointer (some ⟨p, 0, none⟩)].toArray H fun e H' => ∃ w1 w2, e = .returned (.tuple #[w1, w2]) ∧ OwnD H p a cl L v mo (own1 L mo t o) w1 w2 H' := by
  refine call48 (Nat.le_of_ble_eq_true rfl) ?_
  unfold L48 env0
  obtain ⟨G, hG⟩ : ∃ G, G = own1 L mo t o := ⟨_, rfl⟩
  rw [← hG]
  unfold own1 at hG
  have hnz := s.nz
  simp -implicitDefEqProofs (maxSteps := 1000000) (disch := first | omega | assumption) only [Sx, Nat.reduceEqDiff, reduceCtorEq]
  refine a_call (dbits_trk s (.inl ⟨rfl, hG⟩) (n := 5) (by omega)) ?_
  rintro e H1 ⟨x1, t1, v1, e1, rfl, hx1, s1, m1, hT⟩
  simp -implicitDefEqProofs (maxSteps := 1000000) (disch := first | omega | assumption) only [Sx, Nat.reduceEqDiff, reduceCtorEq, endK]
  refine a_call (dbits_trk s1 hT (n := 5) (by omega)) ?_
  rintro e H2 ⟨x2, t2, v2, e2, rfl, hx2, s2, m2, hT⟩
  have m2 := m1.trans m2
  simp -implicitDefEqProofs (maxSteps := 1000000) (disch := first | omega | assumption) only [Sx, Nat.reduceEqDiff, reduceCtorEq, endK]
  refine a_call (dbits_trk s2 hT (n := 4) (by omega)) ?_
  rintro e H3 ⟨x3, t3, v3, e3, rfl, hx3, s3, m3, hT⟩
  have m3 := m2.trans m3
  obtain ⟨la, hla⟩ : ∃ la, la = x1 + 257 := ⟨_, rfl⟩
  obtain ⟨lb, hlb⟩ : ∃ lb, lb = x2 + 1 := ⟨_, rfl⟩
  obtain ⟨ln, hln⟩ : ∃ ln, ln = x3 + 4 := ⟨_, rfl⟩
  have ea : (x1 : Int) + 257 = (la : Nat) := by omega
  have eb : (x2 : Int) + 1 = (lb : Nat) := by omega
  have en : (x3 : Int) + 4 = (ln : Nat) := by omega
  rw [← hla, ← hlb, ← hln] at hT
  have hla2 : 257 ≤ la ∧ la ≤ 288 := by omega
  have hlb2 : lb ≤ 32 := by omega
  have hln2 : ln ≤ 19 := by omega
  obtain ⟨K, hK⟩ : ∃ K : List Int → M (List Int × List Int), K = fun c => if isWhole c = false then fail 62 else own2 la lb c := ⟨_, rfl⟩
  rw [← hK] at hT
  obtain ⟨KK, hKK⟩ : ∃ KK, KK = (smalls ln 0 (List.replicate 19 0)).bind K := ⟨_, rfl⟩
  rw [← hKK] at hT
  have go := fun (env : Env) (H4 : Heap) (v4 : Value) (t4 : Nat) (e4 : Int) g0 g4 g5 g6 s4 m4 hT Q QP hQ => @down9 H p a cl L t v o mo s G la lb ln hla2 hlb2 hln2 K hK env H4 v4 t4 e4 g0 g4 g5 g6 s4 m4 KK hKK hT Q QP hQ
  clear hla hlb hln hx1 hx2 hx3 hG s1 s2 m1 m2 hK hKK
  have fin : ∀ (env' : Env) (H' : Heap) (w1 w2 : Value), OwnD H p a cl L v mo G w1 w2 H' → ∃ w1' w2', Ending.returned (.tuple #[w1, w2]) = .returned (.tuple #[w1', w2']) ∧ OwnD H p a cl L v mo G w1' w2' H' := fun _ _ w1 w2 h => ⟨w1, w2, rfl, h⟩
  by_cases he3 : e3 = 0
  rotate_left
  · have q1 : (e3 == 0) = false := beq_eq_false_iff_ne.2 he3
    simp -implicitDefEqProofs (maxSteps := 1000000) (disch := first | omega | assumption) only [ea, eb, en, cell_of s3.blk, ev_nilc, q1, Sx, Nat.reduceEqDiff, reduceCtorEq, Zx, endK]
    rw [own9_eq]
    refine go _ H3 v3 t3 e3 ?_ ?_ ?_ ?_ s3 m3 (hT.dead he3) _ _ ?_
    · simp -implicitDefEqProofs (maxSteps := 1000000) (disch := first | omega | assumption) only [Sx, reduceCtorEq]
    · simp -implicitDefEqProofs (maxSteps := 1000000) (disch := first | omega | assumption) only [Sx, Nat.reduceEqDiff]
    · simp -implicitDefEqProofs (maxSteps := 1000000) (disch := first | omega | assumption) only [Sx, Nat.reduceEqDiff]
    · simp -implicitDefEqProofs (maxSteps := 1000000) (disch := first | omega | assumption) only [Sx, Nat.reduceEqDiff]
    intro env' H' w1 w2 h1 h2 hD
    simp -implicitDefEqProofs (maxSteps := 1000000) (disch := first | omega | assumption) only [h1, h2, Sx]
    exact ⟨w1, w2, by (first | exact True.intro | rfl | assumption), hD⟩
  subst he3
  have n0 : ((0 : Int) == 0) = true := rfl
  have hT2 : G = (if 286 < la ∨ 30 < lb then fail 62 else KK) L mo t3 o := by rcases hT with h | h; exact h.2; exact absurd rfl h.1
  by_cases hbig : 286 < la ∨ 30 < lb
  · rw [if_pos hbig] at hT2
    obtain ⟨s4, m4⟩ := s3.upd (H2 := H3.set p (.cells #[.slice a L.length cl, .int .i64 (t3 : Nat), v3, .int .i64 (mo : Nat), .int .i64 62] 66 (0, 0))) (e' := 62) t3 s3.le rfl
    have m4 := m3.trans m4
    by_cases h286 : 286 < la
    · have f0 : decide ((286 : Int) < (la : Int)) = true := decide_eq_true (by omega)
      simp -implicitDefEqProofs (maxSteps := 1000000) (disch := first | omega | assumption) only [ea, eb, en, cell_of s3.blk, ev_nilc, n0, f0, Sx, Nat.reduceEqDiff, reduceCtorEq, endK]
      refine st_one (o := 4) s3.blk (by simp) rfl ?_
      try simp -implicitDefEqProofs (maxSteps := 1000000) (disch := first | omega | assumption) only [Sx]
      rw [own9_eq]
      refine go _ _ v3 t3 62 ?_ ?_ ?_ ?_ s4 m4 (.inr ⟨by decide, hT2⟩) _ _ ?_
      · simp -implicitDefEqProofs (maxSteps := 1000000) (disch := first | omega | assumption) only [Sx, reduceCtorEq]
      · simp -implicitDefEqProofs (maxSteps := 1000000) (disch := first | omega | assumption) only [Sx, Nat.reduceEqDiff]
      · simp -implicitDefEqProofs (maxSteps := 1000000) (disch := first | omega | assumption) only [Sx, Nat.reduceEqDiff]
      · simp -implicitDefEqProofs (maxSteps := 1000000) (disch := first | omega | assumption) only [Sx, Nat.reduceEqDiff]
      intro env' H' w1 w2 h1 h2 hD
      simp -implicitDefEqProofs (maxSteps := 1000000) (disch := first | omega | assumption) only [h1, h2, Sx]
      exact ⟨w1, w2, by (first | exact True.intro | rfl | assumption), hD⟩
    · have f0 : decide ((286 : Int) < (la : Int)) = false := decide_eq_false (by omega)
      have f1 : decide ((30 : Int) < (lb : Int)) = true := decide_eq_true (by omega)
      simp -implicitDefEqProofs (maxSteps := 1000000) (disch := first | omega | assumption) only [ea, eb, en, cell_of s3.blk, ev_nilc, n0, f0, f1, Sx, Nat.reduceEqDiff, reduceCtorEq, endK]
      refine st_one (o := 4) s3.blk (by simp) rfl ?_
      try simp -implicitDefEqProofs (maxSteps := 1000000) (disch := first | omega | assumption) only [Sx]
      rw [own9_eq]
      refine go _ _ v3 t3 62 ?_ ?_ ?_ ?_ s4 m4 (.inr ⟨by decide, hT2⟩) _ _ ?_
      · simp -implicitDefEqProofs (maxSteps := 1000000) (disch := first | omega | assumption) only [Sx, reduceCtorEq]
      · simp -implicitDefEqProofs (maxSteps := 1000000) (disch := first | omega | assumption) only [Sx, Nat.reduceEqDiff]
      · simp -implicitDefEqProofs (maxSteps := 1000000) (disch := first | omega | assumption) only [Sx, Nat.reduceEqDiff]
      · simp -implicitDefEqProofs (maxSteps := 1000000) (disch := first | omega | assumption) only [Sx, Nat.reduceEqDiff]
      intro env' H' w1 w2 h1 h2 hD
      simp -implicitDefEqProofs (maxSteps := 1000000) (disch := first | omega | assumption) only [h1, h2, Sx]
      exact ⟨w1, w2, by (first | exact True.intro | rfl | assumption), hD⟩
  rw [if_neg hbig] at hT2
  have f0 : decide ((286 : Int) < (la : Int)) = false := decide_eq_false (by omega)
  have f1 : decide ((30 : Int) < (lb : Int)) = false := decide_eq_false (by omega)
  simp -implicitDefEqProofs (maxSteps := 1000000) (disch := first | omega | assumption) only [ea, eb, en, cell_of s3.blk, ev_nilc, n0, f0, f1, Sx, Nat.reduceEqDiff, reduceCtorEq, endK]
  rw [own9_eq]
  refine go _ H3 v3 t3 0 ?_ ?_ ?_ ?_ s3 m3 (.inl ⟨rfl, hT2⟩) _ _ ?_
  · simp -implicitDefEqProofs (maxSteps := 1000000) (disch := first | omega | assumption) only [Sx, reduceCtorEq]
  · simp -implicitDefEqProofs (maxSteps := 1000000) (disch := first | omega | assumption) only [Sx, Nat.reduceEqDiff]
  · simp -implicitDefEqProofs (maxSteps := 1000000) (disch := first | omega | assumption) only [Sx, Nat.reduceEqDiff]
  · simp -implicitDefEqProofs (maxSteps := 1000000) (disch := first | omega | assumption) only [Sx, Nat.reduceEqDiff]
  intro env' H' w1 w2 h1 h2 hD
  simp -implicitDefEqProofs (maxSteps := 1000000) (disch := first | omega | assumption) only [h1, h2, Sx]
  exact ⟨w1, w2, by (first | exact True.intro | rfl | assumption), hD⟩
end Go.Proofs.YtgbhdpeibiglfaaDoor.S06

/-
  The document's stream, whole.
-/
set_option linter.unusedVariables false
set_option linter.unusedSimpArgs false
namespace Go.Proofs.YtgbhdpeibiglfaaDoor.S06
open Go Go.RowKit Go.Proofs.YtgbhdpeibiglfaaDoor.Sep Go.Proofs.YtgbhdpeibiglfaaDoor.Low Go.Proofs.YtgbhdpeibiglfaaDoor.S05 Go.Proofs.YtgbhdpeibiglfaaDoor.CodeLaw Go.Proofs.YtgbhdpeibiglfaaDoor.Pack Go.Proofs.YtgbhdpeibiglfaaDoor.BitLaw
open Go.Proofs.YtgbhdpeibiglfaaDoor.Lib hiding by8 by8_scalar

set_option maxHeartbeats 1000000 in
theorem dsymbols_dead {H : Heap} {p : Nat} {a : Option Addr} {cl : Nat} {L : List Bool} {t : Nat} {v : Value} {o : List Int} {mo : Nat} {er : Int} {w1 w2 : Value} (s : DAt H p a cl L t v o mo er) (he : er ≠ 0) :
    ACalls Tryd.prog 46 [Value.pointer (some ⟨p, 0, none⟩), w1, w2].toArray H fun e H' => e = .returned (.tuple #[]) ∧ H' = H := by
  refine call46 (Nat.le_of_ble_eq_true rfl) ?_
  unfold L46 env0
  have q1 : (er == 0) = false := beq_eq_false_iff_ne.2 he
  simp -implicitDefEqProofs (maxSteps := 1000000) (disch := first | omega | assumption) only [Sx, reduceCtorEq]
  refine c_loop (fun k env H' => env 0 = .pointer (some ⟨p, 0, none⟩) ∧ H' = H) 0 ⟨by (first | exact True.intro | rfl | assumption), rfl⟩ ?_
  rintro k env H1 ⟨g0, rfl⟩
  unfold L46_0
  simp -implicitDefEqProofs (maxSteps := 1000000) (disch := first | omega | assumption) only [g0, cell_of s.blk, ev_nilc, q1, Sx, Nat.reduceEqDiff]
  exact ⟨by (first | exact True.intro | rfl | assumption), by (first | exact True.intro | rfl | assumption)⟩
theorem DOut.ret {H : Heap} {p : Nat} {a : Option Addr} {cl : Nat} {L : List Bool} {v : Value} {mo : Nat} {R : Res Unit} {e : Ending} {H' : Heap} (h : DOut H p a cl L v mo R (fun _ => .tuple #[]) (.tuple #[]) e H') : e = .returned (.tuple #[]) := by
  unfold DOut at h
  cases R with
  | ok u t o => exact h.1
  | bad er o => exact h.1
theorem dbits_trk2 {β : Type} {H : Heap} {p : Nat} {a : Option Addr} {cl : Nat} {L : List Bool} {t : Nat} {v : Value} {o : List Int} {mo n : Nat} {er : Int} {G : Res β} {f : Nat → M β} (s : DAt H p a cl L t v o mo er) (hG : Trk G ((tk n).bind f) L mo t o er) (hn : n ≤ 16) :
    ACalls Tryd.prog 44 [Value.pointer (some ⟨p, 0, none⟩), .int .i64 (n : Nat)].toArray H fun e H' => ∃ (x t' : Nat) (v' : Value) (e' : Int), e = .returned (.int .i64 (x : Nat)) ∧ x < 2 ^ n ∧ DAt H' p a cl L t' v' o mo e' ∧ Dv p v v' H H' ∧ Trk G (f x) L mo t' o e' ∧ (e' = 0 → er = 0 ∧ t' = t + n ∧ t + n ≤ L.length) := by
  by_cases he : er = 0
  · subst he
    have hG : G = ((tk n).bind f) L mo t o := by rcases hG with h | h; exact h.2; exact absurd rfl h.1
    refine ACalls.mono (dbits_spec s hn) fun e H' hO => ?_
    rcases tk_cases (n := n) (L := L) (mo := mo) (t := t) (o := o) with ⟨x, h1, hx, hl⟩ | h1
    · rw [h1] at hO
      rw [bind_ok h1] at hG
      obtain ⟨rfl, v', s', m'⟩ := hO
      exact ⟨x, t + n, v', 0, rfl, hx, s', m', .inl ⟨rfl, hG⟩, fun _ => ⟨rfl, rfl, s'.le⟩⟩
    · rw [h1] at hO
      rw [bind_bad h1] at hG
      obtain ⟨rfl, he, v', t', s', m'⟩ := hO
      exact ⟨0, t', v', 4, rfl, Nat.two_pow_pos n, s', m', .inr ⟨he, hG⟩, fun h => absurd h he⟩
  · refine ACalls.mono (dbits_dead s he (n := (n : Nat))) fun e H' hO => ?_
    obtain ⟨rfl, rfl⟩ := hO
    exact ⟨0, t, v, er, rfl, Nat.two_pow_pos n, s, .refl, hG.dead he, fun h => absurd h he⟩
theorem fixD_nn : ∀ x ∈ fixD, 0 ≤ x := by
  intro x hx
  rw [List.eq_of_mem_replicate hx]
  decide
/-- what the document reads -/
def RdD (H : Heap) (bs : List Int) (mo : Nat) (e : Ending) (H' : Heap) : Prop := ∃ (v : Value) (t : Nat) (er : Int), e = .returned (.agg #[v, .int .i64 (t : Nat), .int .i64 er]) ∧ Own H' 5 1 v (by8 (infl bs mo).out) ∧ Keep H H' ∧ Fresh H v ∧ (infl bs mo).out.length ≤ mo ∧ isBy (infl bs mo).out ∧
  (match infl bs mo with | .ok _ t' _ => er = 0 ∧ t = t' | .bad e' _ => er = e' ∧ er ≠ 0)
theorem st_load {H : Heap} {r : Nat} {v : Value} {t : Nat} {e : Int} (h : H r = some (.cells #[v, .int .i64 (t : Nat), .int .i64 e] 54 (0, 0))) : H.loadN ⟨r, 0, none⟩ 0 3 = some [v, .int .i64 (t : Nat), .int .i64 e] :=
  (row_of_block (cs := [v, .int .i64 (t : Nat), .int .i64 e]) (rest := []) (f := (0, 0)) (by rw [h]; rfl)).loadN
theorem rd_end {H0 H5 H' H2 : Heap} {r4 p : Nat} {a : Option Addr} {cl : Nat} {bs : List Int} {t1 : Nat} {v1 : Value} {o1 : List Int} {mo : Nat} {e1 : Int} (k5 : Keep H0 H5) (hp : H0 p = none) (h4 : H0 r4 = none) (s1 : DAt H' p a cl (unpack bs) t1 v1 o1 mo e1) (m1 : Dv p (.slice none 0 0) v1 H5 H')
    {c : Array Value} (hb : H' r4 = some (.cells c 54 (0, 0))) (h2 : H2 = H'.set r4 (.cells #[v1, .int .i64 (t1 : Nat), .int .i64 e1] 54 (0, 0))) (hG : (e1 = 0 ∧ infl bs mo = .ok () t1 o1) ∨ (e1 ≠ 0 ∧ infl bs mo = .bad e1 o1)) :
    RdD H0 bs mo (.returned (.agg #[v1, .int .i64 (t1 : Nat), .int .i64 e1])) H2 := by
  obtain ⟨k6, f6⟩ := m1.keep k5 hp (fun q hq => by cases hq)
  have ho : Only (· = r4) H' H2 := by rw [h2]; exact (Only.refl _ _).set (.inl rfl)
  have hout : (infl bs mo).out = o1 := by rcases hG with ⟨-, h⟩ | ⟨-, h⟩ <;> rw [h] <;> rfl
  refine ⟨v1, t1, e1, rfl, by rw [hout]; exact s1.pl.only ho (fun q hq e => s1.pl.elem hb (by decide) (e ▸ hq)), ho.keep k6 (fun q hq => by cases hq; exact h4), f6, by rw [hout]; exact s1.sm, by rw [hout]; exact s1.byt, ?_⟩
  rcases hG with ⟨h, hR⟩ | ⟨h, hR⟩
  · rw [hR]; exact ⟨h, rfl⟩
  · rw [hR]; exact ⟨rfl, h⟩
set_option maxHeartbeats 8000000 in
set_option maxRecDepth 4000 in
theorem dread_spec {H : Heap} {A : Option Addr} {c n mo : Nat} {bs : List Int} (hr : Row H A (by8 bs)) (hn : n = bs.length) (hb : isBy bs) (hbl : bs.length ≤ 137438953472) (hmo : mo ≤ 4194304) :
    ACalls Tryd.prog 31 [Value.slice A n c, .int .i64 (mo : Nat)].toArray H fun e H' => RdD H bs mo e H' := by
  subst hn
  refine call31 (Nat.le_of_ble_eq_true rfl) ?_
  unfold L31 env0
  have hul := unpack_length bs
  obtain ⟨F0, hF0⟩ : ∃ F0, F0 = Fu := ⟨_, rfl⟩
  have hFu : 8 * bs.length < F0 := by rw [hF0]; unfold Fu; omega
  obtain ⟨G, hG⟩ : ∃ G, G = blocks F0 (unpack bs) mo 0 [] := ⟨_, rfl⟩
  have hGi : infl bs mo = G := by unfold infl; rw [hG, hF0]
  simp -implicitDefEqProofs (maxSteps := 1000000) (disch := first | omega | assumption) only [Sx]
  refine a_new fun r4 hr4 => ?_
  obtain ⟨H1, hH1⟩ : ∃ H1, H1 = H.set r4 (.cells #[.slice none 0 0, .int .i64 0, .int .i64 0] 54 (0, 0)) := ⟨_, rfl⟩
  have k1 : Keep H H1 := by rw [hH1]; exact (Keep.refl _).set_new hr4
  have b4 : H1 r4 = some (.cells #[.slice none 0 0, .int .i64 0, .int .i64 0] 54 (0, 0)) := by rw [hH1]; exact set_same
  rw [← hH1]
  clear hH1
  try simp -implicitDefEqProofs (maxSteps := 1000000) (disch := first | omega | assumption) only [Sx, Nat.reduceEqDiff, reduceCtorEq]
  refine a_call (rbits_spec (k1.row hr) rfl hb (by omega)) ?_
  rintro e H2 ⟨vb, rfl, hB, k2, f2⟩
  obtain ⟨a, nb, cl, rfl, hnb, hcl, hrow⟩ := hB.view
  rw [List.length_map, Nat.mul_one] at hnb
  subst hnb
  have k2' := k1.trans k2
  simp -implicitDefEqProofs (maxSteps := 1000000) (disch := first | omega | assumption) only [Sx, Nat.reduceEqDiff, Nat.reduceAdd, Nat.reduceLT, endK]
  refine a_box fun p hp => ?_
  obtain ⟨H5, hH5⟩ : ∃ H5, H5 = H2.set p (.cells #[.slice a (unpack bs).length cl, .int .i64 ((0 : Nat) : Int), .slice none 0 0, .int .i64 (mo : Nat), .int .i64 0] 66 (0, 0)) := ⟨_, rfl⟩
  have k25 : Keep H2 H5 := by rw [hH5]; exact (Keep.refl _).set_new hp
  have k5 := k2'.trans k25
  have b45 := k25 _ _ (k2 _ _ b4)
  have hab : ∀ b, a = some b → H2 b.block ≠ none := by
    rintro b rfl
    exact hB.known rfl
  have s0 : DAt H5 p a cl (unpack bs) 0 (.slice none 0 0) [] mo 0 := by
    refine ⟨by rw [hH5]; exact set_same, k25.row hrow, by omega, .nil, by omega, by rw [hul]; omega, by rw [hul]; omega, (fun b hb e => by cases e), (fun b hb e => hab b hb (by rw [e]; exact hp)), (fun b hb e => hab b hb (k25.none e)), by simp, hmo, (fun x hx => by cases hx)⟩
  try simp -implicitDefEqProofs (maxSteps := 1000000) (disch := first | omega | assumption) only [Value.cells, Sx, Nat.reduceEqDiff]
  rw [show H2.set p (.cells #[.slice a (unpack bs).length cl, .int .i64 0, .slice none 0 0, .int .i64 (mo : Nat), .int .i64 0] 66 (0, 0)) = H5 from hH5.symm]
  clear hH5
  have hpH : H p = none := k2'.none hp
  refine c_loop (fun k env H' => ∃ (t1 : Nat) (v1 : Value) (o1 : List Int) (e1 l1 : Int), env 4 = .pointer (some ⟨r4, 0, none⟩) ∧ env 5 = .pointer (some ⟨p, 0, none⟩) ∧ env 6 = .int .i64 l1 ∧ DAt H' p a cl (unpack bs) t1 v1 o1 mo e1 ∧ Dv p (.slice none 0 0) v1 H5 H' ∧ ((e1 = 0 ∧ l1 = 0 ∧ F0 ≤ k + t1 ∧ G = blocks k (unpack bs) mo t1 o1) ∨ (e1 = 0 ∧ l1 ≠ 0 ∧ G = .ok () t1 o1) ∨ (e1 ≠ 0 ∧ G = .bad e1 o1))) F0
    ⟨0, _, [], 0, 0, by simp -implicitDefEqProofs (maxSteps := 1000000) (disch := first | omega | assumption) only [Sx, Nat.reduceEqDiff], by simp -implicitDefEqProofs (maxSteps := 1000000) (disch := first | omega | assumption) only [Sx, Nat.reduceEqDiff], by simp -implicitDefEqProofs (maxSteps := 1000000) (disch := first | omega | assumption) only [Sx, Nat.reduceEqDiff], s0, .refl, .inl ⟨rfl, rfl, by omega, hG⟩⟩ ?_
  clear hG
  rintro k env H6 ⟨t1, v1, o1, e1, l1, g4, g5, g6, s1, m1, hcase⟩
  unfold L31_0
  have hb1 := m1.blk s0 b45 (by decide) (by decide)
  have hs1 := s1.pl.scalar
  by_cases he1 : e1 = 0
  rotate_left
  · have q1 : (e1 == 0) = false := beq_eq_false_iff_ne.2 he1
    have hG1 : G = .bad e1 o1 := by rcases hcase with h | h | h; exact absurd h.1 he1; exact absurd h.1 he1; exact h.2
    simp -implicitDefEqProofs (maxSteps := 1000000) (disch := first | omega | assumption) only [g4, g5, cell_of s1.blk, ev_nilc, q1, Sx, Nat.reduceEqDiff, Nat.reduceAdd, Nat.reduceLT]
    refine st_all (old := [.slice none 0 0, .int .i64 0, .int .i64 0]) (ci := [v1, .int .i64 (t1 : Nat), .int .i64 e1]) hb1 rfl rfl (by intro v hv; simp only [List.mem_cons, List.not_mem_nil, or_false] at hv; rcases hv with rfl | rfl | rfl; exact hs1; rfl; rfl) ?_
    try simp -implicitDefEqProofs (maxSteps := 1000000) (disch := first | omega | assumption) only [Sx]
    show match getAll _ _ _ with | some vs => _ | none => False
    rw [g_cn (by simp -implicitDefEqProofs (maxSteps := 1000000) (disch := first | omega | assumption) only [g4, Sx, Nat.reduceEqDiff]) (st_load set_same)]
    simp -implicitDefEqProofs (maxSteps := 1000000) (disch := first | omega | assumption) only [Sx]
    exact rd_end k5 hpH hr4 s1 m1 hb1 rfl (.inr ⟨he1, by rw [hGi, hG1]⟩)
  subst he1
  have n0 : ((0 : Int) == 0) = true := rfl
  by_cases hl1 : l1 = 0
  rotate_left
  · have q1 : (l1 == 0) = false := beq_eq_false_iff_ne.2 hl1
    have hG1 : G = .ok () t1 o1 := by rcases hcase with h | h | h; exact absurd h.2.1 hl1; exact h.2.2; exact absurd rfl h.1
    simp -implicitDefEqProofs (maxSteps := 1000000) (disch := first | omega | assumption) only [g4, g5, g6, cell_of s1.blk, ev_nilc, n0, q1, Sx, Nat.reduceEqDiff, Nat.reduceAdd, Nat.reduceLT]
    refine st_all (old := [.slice none 0 0, .int .i64 0, .int .i64 0]) (ci := [v1, .int .i64 (t1 : Nat), .int .i64 0]) hb1 rfl rfl (by intro v hv; simp only [List.mem_cons, List.not_mem_nil, or_false] at hv; rcases hv with rfl | rfl | rfl; exact hs1; rfl; rfl) ?_
    try simp -implicitDefEqProofs (maxSteps := 1000000) (disch := first | omega | assumption) only [Sx]
    show match getAll _ _ _ with | some vs => _ | none => False
    rw [g_cn (by simp -implicitDefEqProofs (maxSteps := 1000000) (disch := first | omega | assumption) only [g4, Sx, Nat.reduceEqDiff]) (st_load set_same)]
    simp -implicitDefEqProofs (maxSteps := 1000000) (disch := first | omega | assumption) only [Sx]
    exact rd_end k5 hpH hr4 s1 m1 hb1 rfl (.inl ⟨rfl, by rw [hGi, hG1]⟩)
  subst hl1
  obtain ⟨hk, hG1⟩ : F0 ≤ k + t1 ∧ G = blocks k (unpack bs) mo t1 o1 := by rcases hcase with h | h | h; exact h.2.2; exact absurd rfl h.2.1; exact absurd rfl h.1
  have hle := s1.le
  obtain ⟨k, rfl⟩ : ∃ k', k = k' + 1 := ⟨k - 1, by omega⟩
  rw [blocks] at hG1
  simp -implicitDefEqProofs (maxSteps := 1000000) (disch := first | omega | assumption) only [g5, g6, cell_of s1.blk, ev_nilc, n0, Sx, Nat.reduceEqDiff]
  refine a_call (dbits_trk2 s1 (.inl ⟨rfl, hG1⟩) (n := 1) (by omega)) ?_
  rintro e H7 ⟨x1, t2, v2, e2, rfl, hx1, s2, m2, hT2, ht2⟩
  have m2 := m1.trans m2
  simp -implicitDefEqProofs (maxSteps := 1000000) (disch := first | omega | assumption) only [g5, Sx, Nat.reduceEqDiff, endK]
  refine a_call (dbits_trk2 s2 hT2 (n := 2) (by omega)) ?_
  rintro e H8 ⟨kd, t3, v3, e3, rfl, hkd, s3, m3, hT3, ht3⟩
  have m3 := m2.trans m3
  have n00 : ((0 : Int) != 0) = false := rfl
  by_cases he3 : e3 = 0
  rotate_left
  · have q2 : (e3 != 0) = true := bne_iff_ne.2 he3
    have hG3 : G = .bad e3 o1 := by rcases hT3 with h | h; exact absurd h.1 he3; exact h.2
    simp -implicitDefEqProofs (maxSteps := 1000000) (disch := first | omega | assumption) only [g4, g5, cell_of s3.blk, ev_nilc, q2, Sx, Nat.reduceEqDiff, endK]
    exact ⟨k, Nat.lt_succ_self k, t3, v3, o1, e3, (x1 : Nat), by (first | exact True.intro | rfl | assumption), by (first | exact True.intro | rfl | assumption), by (first | exact True.intro | rfl | assumption), s3, m3, .inr (.inr ⟨he3, hG3⟩)⟩
  subst he3
  obtain ⟨he2, ht3, ht3l⟩ := ht3 rfl
  obtain ⟨-, ht2, -⟩ := ht2 he2
  have hG3 : G = ((block kd).bind fun _ => if x1 = 0 then blocks k else M.pure ()) (unpack bs) mo t3 o1 := by rcases hT3 with h | h; exact h.2; exact absurd rfl h.1
  have hpay := pay_block kd (unpack bs) mo t3 o1
  have nxt : ∀ (H' H9 : Heap) (v4 : Value), Dv p (.slice none 0 0) v4 H5 H9 → DOut H9 p a cl (unpack bs) v4 mo (block kd (unpack bs) mo t3 o1) (fun _ => .tuple #[]) (.tuple #[]) (.returned (.tuple #[])) H' →
      ∃ k', k' < k + 1 ∧ ∃ (t1 : Nat) (v1 : Value) (o1 : List Int) (e1 : Int), DAt H' p a cl (unpack bs) t1 v1 o1 mo e1 ∧ Dv p (.slice none 0 0) v1 H5 H' ∧ ((e1 = 0 ∧ (x1 : Int) = 0 ∧ F0 ≤ k' + t1 ∧ G = blocks k' (unpack bs) mo t1 o1) ∨ (e1 = 0 ∧ (x1 : Int) ≠ 0 ∧ G = .ok () t1 o1) ∨ (e1 ≠ 0 ∧ G = .bad e1 o1)) := by
    intro H' H9 v4 m4 hO
    cases hR : block kd (unpack bs) mo t3 o1 with
    | bad er o4 =>
      rw [hR] at hO
      rw [bind_bad hR] at hG3
      obtain ⟨-, he, v5, t5, s5, m5⟩ := hO
      exact ⟨k, Nat.lt_succ_self k, t5, v5, o4, er, s5, m4.trans m5, .inr (.inr ⟨he, hG3⟩)⟩
    | ok u t5 o4 =>
      have hp := hpay u t5 o4 (by rw [hul]; omega) s3.le s3.sm hR
      rw [hR] at hO
      rw [bind_ok hR] at hG3
      obtain ⟨-, v5, s5, m5⟩ := hO
      refine ⟨k, Nat.lt_succ_self k, t5, v5, o4, 0, s5, m4.trans m5, ?_⟩
      by_cases hx : x1 = 0
      · rw [if_pos hx] at hG3
        exact .inl ⟨rfl, by omega, by omega, hG3⟩
      · rw [if_neg hx] at hG3
        exact .inr (.inl ⟨rfl, by omega, hG3⟩)
  by_cases k0 : kd = 0
  · have f1 : ((kd : Int) == 0) = true := by rw [beq_iff_eq]; omega
    have hB : block kd (unpack bs) mo t3 o1 = stored (unpack bs) mo t3 o1 := by unfold block; rw [if_pos k0]
    simp -implicitDefEqProofs (maxSteps := 1000000) (disch := first | omega | assumption) only [g5, cell_of s3.blk, ev_nilc, n00, f1, Sx, Nat.reduceEqDiff, endK]
    refine a_call (dstored_spec s3) ?_
    rintro e H9 hO
    rw [← hB] at hO
    obtain rfl := hO.ret
    simp -implicitDefEqProofs (maxSteps := 1000000) (disch := first | omega | assumption) only [g4, g5, Sx, Nat.reduceEqDiff, endK]
    obtain ⟨k', hk', t', v', o', e', s', m', hh⟩ := nxt _ _ _ m3 hO
    exact ⟨k', hk', t', v', o', e', (x1 : Nat), by (first | exact True.intro | rfl | assumption), by (first | exact True.intro | rfl | assumption), by (first | exact True.intro | rfl | assumption), s', m', hh⟩
  have f1 : ((kd : Int) == 0) = false := by rw [beq_eq_false_iff_ne]; omega
  by_cases k1' : kd = 1
  · have f2 : ((kd : Int) == 1) = true := by rw [beq_iff_eq]; omega
    have hB : block kd (unpack bs) mo t3 o1 = coded fixL fixD Fu (unpack bs) mo t3 o1 := by unfold block; rw [if_neg k0, if_pos k1']
    simp -implicitDefEqProofs (maxSteps := 1000000) (disch := first | omega | assumption) only [g5, cell_of s3.blk, ev_nilc, n00, f1, f2, Sx, Nat.reduceEqDiff, endK]
    refine a_call (xs := []) rfixed_spec ?_
    rintro e H9 ⟨lv, dv, rfl, hL, hD, k9⟩
    have s4 := s3.keep k9
    have m4 := m3.more k9
    obtain ⟨A1, c1, rfl, -, hC1⟩ := Is.cl hL
    obtain ⟨A2, c2, rfl, -, hC2⟩ := Is.cl hD
    simp -implicitDefEqProofs (maxSteps := 1000000) (disch := first | omega | assumption) only [Sx, Nat.reduceEqDiff, endK]
    refine a_call (dsymbols_spec s4 hC1 fixL_code (by rw [fixL_len]; omega) hC2 (.inr fixD_code) fixD_nn (by rw [fixD_len]; omega)) ?_
    rintro e H10 hO
    rw [← hB] at hO
    obtain rfl := hO.ret
    simp -implicitDefEqProofs (maxSteps := 1000000) (disch := first | omega | assumption) only [g4, g5, Sx, Nat.reduceEqDiff, endK]
    obtain ⟨k', hk', t', v', o', e', s', m', hh⟩ := nxt _ _ _ m4 hO
    exact ⟨k', hk', t', v', o', e', (x1 : Nat), by (first | exact True.intro | rfl | assumption), by (first | exact True.intro | rfl | assumption), by (first | exact True.intro | rfl | assumption), s', m', hh⟩
  have f2 : ((kd : Int) == 1) = false := by rw [beq_eq_false_iff_ne]; omega
  by_cases k2' : kd = 2
  · have f3 : ((kd : Int) == 2) = true := by rw [beq_iff_eq]; omega
    have hB : block kd (unpack bs) mo t3 o1 = (M.bind own1 fun x => coded x.1 x.2 Fu) (unpack bs) mo t3 o1 := by unfold block; rw [if_neg k0, if_neg k1', if_pos k2']
    simp -implicitDefEqProofs (maxSteps := 1000000) (disch := first | omega | assumption) only [g5, cell_of s3.blk, ev_nilc, n00, f1, f2, f3, Sx, Nat.reduceEqDiff, endK]
    refine a_call (down_spec s3) ?_
    rintro e H9 ⟨w1, w2, rfl, hO⟩
    cases hR1 : own1 (unpack bs) mo t3 o1 with
    | bad er o4 =>
      rw [hR1] at hO
      rw [bind_bad hR1] at hB
      rw [bind_bad hB] at hG3
      obtain ⟨he, v4, t4, s4, m4⟩ := hO
      simp -implicitDefEqProofs (maxSteps := 1000000) (disch := first | omega | assumption) only [g5, Sx, Nat.reduceEqDiff, endK]
      refine a_call (dsymbols_dead s4 he) ?_
      rintro e H10 ⟨rfl, rfl⟩
      simp -implicitDefEqProofs (maxSteps := 1000000) (disch := first | omega | assumption) only [g4, g5, Sx, Nat.reduceEqDiff, endK]
      exact ⟨k, Nat.lt_succ_self k, t4, v4, o4, er, (x1 : Nat), by (first | exact True.intro | rfl | assumption), by (first | exact True.intro | rfl | assumption), by (first | exact True.intro | rfl | assumption), s4, m3.trans m4, .inr (.inr ⟨he, hG3⟩)⟩
    | ok x t4 o4 =>
      rw [hR1] at hO
      rw [bind_ok hR1] at hB
      obtain ⟨⟨A1, c1, A2, c2, rfl, rfl, hC1, hC2, hx1, hl1, hl2, hz, hnn⟩, v4, s4, m4⟩ := hO
      simp -implicitDefEqProofs (maxSteps := 1000000) (disch := first | omega | assumption) only [g5, Sx, Nat.reduceEqDiff, endK]
      refine a_call (dsymbols_spec s4 hC1 hx1 hl1 hC2 hz hnn hl2) ?_
      rintro e H10 hO
      rw [← hB] at hO
      obtain rfl := hO.ret
      simp -implicitDefEqProofs (maxSteps := 1000000) (disch := first | omega | assumption) only [g4, g5, Sx, Nat.reduceEqDiff, endK]
      obtain ⟨k', hk', t', v', o', e', s', m', hh⟩ := nxt _ _ _ (m3.trans m4) hO
      exact ⟨k', hk', t', v', o', e', (x1 : Nat), by (first | exact True.intro | rfl | assumption), by (first | exact True.intro | rfl | assumption), by (first | exact True.intro | rfl | assumption), s', m', hh⟩
  have f3 : ((kd : Int) == 2) = false := by rw [beq_eq_false_iff_ne]; omega
  have hB : block kd (unpack bs) mo t3 o1 = .bad 60 o1 := by unfold block; rw [if_neg k0, if_neg k1', if_neg k2']; rfl
  rw [bind_bad hB] at hG3
  simp -implicitDefEqProofs (maxSteps := 1000000) (disch := first | omega | assumption) only [g5, cell_of s3.blk, ev_nilc, n00, f1, f2, f3, Sx, Nat.reduceEqDiff, endK]
  refine st_one (o := 4) s3.blk (by simp) rfl ?_
  try simp -implicitDefEqProofs (maxSteps := 1000000) (disch := first | omega | assumption) only [g4, g5, Sx, Nat.reduceEqDiff]
  obtain ⟨s4, m4⟩ := s3.upd (e' := 60) t3 s3.le rfl
  exact ⟨k, Nat.lt_succ_self k, t3, v3, o1, 60, (x1 : Nat), by (first | exact True.intro | rfl | assumption), by (first | exact True.intro | rfl | assumption), by (first | exact True.intro | rfl | assumption), s4, m3.trans m4, .inr (.inr ⟨by decide, hG3⟩)⟩
end Go.Proofs.YtgbhdpeibiglfaaDoor.S06
