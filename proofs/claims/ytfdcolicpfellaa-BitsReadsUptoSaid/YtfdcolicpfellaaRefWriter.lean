/-
  The document's Writer (bits one by one), and lent: the walks.
-/
import Derived.Test.YtfdcolicpfellaaWriter
import Derived.Test.YtfdcolicpfellaaBWPure
import Derived.Deep.RegionHeld3
set_option linter.unusedVariables false
set_option linter.unusedSimpArgs false
namespace Go.Proofs.Ytfdcolicpfellaa.Mach
open Go.RowKit Go.Proofs.YtfdcolicpfellaaW.PrintWords Go.Proofs.YtfdcolicpfellaaW.PrintLast Go.Proofs.YtfdcolicpfellaaW.PrintMore Go.Proofs.Ytfdcolicpfellaa.Pack

/-- the document's Writer at block g: its row v holds the bits, one a byte -/
structure IsV (B : Nat) (w : World) (g : Nat) (v : Value) (L : List Bool) : Prop where
  blk : w.heap[g]? = some (.cells #[v] 29 (0, 0))
  ge : B ≤ g
  row : Kd.R (Kd.int .u8) 5 w B (fun _ => True) v (L.map b2i)
theorem IsV.lt {B : Nat} {w : World} {g : Nat} {v : Value} {L : List Bool} (h : IsV B w g v L) : g < w.heap.size := blk_lt h.blk
theorem IsV.below {B : Nat} {w w' : World} {g : Nat} {v : Value} {L : List Bool} (h : IsV B w g v L) (hb : Below w.heap.size w w') : IsV B w' g v L :=
  ⟨(hb.block g h.lt).trans h.blk, h.ge, Kd.R_below h.row hb⟩

set_option maxHeartbeats 2000000 in
set_option maxRecDepth 100000 in
theorem rput_bad (w : World) (g : Nat) (V N : Int) (hV0 : 0 ≤ V) (hV1 : V < 4294967296) (hbad : ¬ (0 ≤ N ∧ N ≤ 32 ∧ V < 2 ^ N.toNat)) :
    Calls Try.prog 11 #[.pointer (some ⟨g, 0, none⟩), .int .u32 V, .int .i64 N] w fun e w' => e = .returned (.int .i64 1) ∧ w = w' := by
  by_cases h1 : N < 0
  · have f1 : decide (N < 0) = true := decide_eq_true h1
    clear h1 hbad hV1
    go_enter Try.func11, Try.ntmps11
    go_wp2
    go_ret
    exact ⟨rfl, rfl⟩
  · have f1 : decide (N < 0) = false := decide_eq_false h1
    by_cases h2 : 32 < N
    · have f2 : decide (32 < N) = true := decide_eq_true h2
      clear h1 h2 hbad hV1
      go_enter Try.func11, Try.ntmps11
      go_wp2
      go_ret
      exact ⟨rfl, rfl⟩
    · have f2 : decide (32 < N) = false := decide_eq_false h2
      have hp := pow_le32 (n := N.toNat) (by omega)
      have hp0 : (1 : Int) ≤ 2 ^ N.toNat := by exact_mod_cast Nat.one_le_two_pow
      have f4 : decide (N < 32) = true := decide_eq_true (by
        rcases Int.lt_or_le N 32 with h | h
        · exact h
        · have : N = 32 := by omega
          subst this
          exact absurd ⟨by omega, by omega, hV1⟩ hbad)
      have hn0 : 0 ≤ N := by omega
      have hn1 : N ≤ 32 := by omega
      have f3 : decide (IntKind.u64.wrap (2 ^ N.toNat) ≤ IntKind.u64.wrap V) = true := decide_eq_true (by rw [wrap_u64_small (by omega) (by omega), wrap_u64_small hV0 (by omega)]; omega)
      have e1 : IntKind.u64.wrap N = N := wrap_u64_small hn0 (by omega)
      clear h1 h2 hbad hp hp0 hV1
      go_enter Try.func11, Try.ntmps11
      go_wp2
      go_ret
      exact ⟨rfl, rfl⟩

set_option maxHeartbeats 4000000 in
set_option maxRecDepth 100000 in
theorem rput_good (w0 w : World) (g : Nat) (v : Value) (L : List Bool) (V N : Int) (hI : IsV w0.heap.size w g v L) (hB : Below w0.heap.size w0 w) (hN0 : 0 ≤ N) (hN1 : N ≤ 32) (hV0 : 0 ≤ V) (hV1 : V < 2 ^ N.toNat) (hL : L.length ≤ 1099511627776) :
    Calls Try.prog 11 #[.pointer (some ⟨g, 0, none⟩), .int .u32 V, .int .i64 N] w fun e w' => e = .returned (.int .i64 0) ∧ ∃ v', IsV w0.heap.size w' g v' (L ++ low N.toNat V) ∧ Below w0.heap.size w0 w' ∧ Turned w w' g v v' := by
  have hp := pow_le32 (n := N.toNat) (by omega)
  have hV2 : V < 4294967296 := by omega
  have f1 : decide (N < 0) = false := decide_eq_false (by omega)
  have f2 : decide (32 < N) = false := decide_eq_false (by omega)
  have f3 : decide (IntKind.u64.wrap (2 ^ N.toNat) ≤ IntKind.u64.wrap V) = false := decide_eq_false (by rw [wrap_u64_small (by omega) (by omega), wrap_u64_small hV0 (by omega)]; omega)
  have e1 : IntKind.u64.wrap N = N := wrap_u64_small hN0 (by omega)
  have HI := Aside0.mk hI
  have HB := Aside0.mk hB
  have HL := Aside0.mk hL
  have HV1 := Aside0.mk hV1
  have HV2 := Aside0.mk hV2
  have HLT := Aside0.mk hI.lt
  have HGE := Aside0.mk hI.ge
  clear hI hB hL hV1 hp hV2
  go_enter Try.func11, Try.ntmps11
  by_cases h32 : N < 32
  all_goals first | (have f4 : decide (N < 32) = true := decide_eq_true h32) | (have f4 : decide (N < 32) = false := decide_eq_false h32)
  all_goals clear h32
  all_goals go_wp2
  all_goals
    go_loopw [1, 7] (fun s1 s7 wr => ∃ (i : Nat) (x : Int) (u : Value), s1 = .int .u32 x ∧ s7 = .int .i64 i ∧ i ≤ N.toNat ∧ Aside0 (x = V / 2 ^ i) ∧ (0 ≤ x ∧ x ≤ 4294967295) ∧ Aside0 (IsV w0.heap.size wr g u (L ++ low i V)) ∧ Aside0 (Below w0.heap.size w0 wr) ∧ Aside0 (Turned w wr g v u)) (fun _ s7 _ => N.toNat - (intOf s7).toNat)
    case atStart =>
      have := HV2.out
      exact ⟨0, V, v, rfl, rfl, Nat.zero_le _, ⟨by simp⟩, ⟨hV0, by omega⟩, ⟨by simpa [low] using HI.out⟩, HB, ⟨Turned.refl _ _ _⟩⟩
    case round =>
      obtain ⟨i, x, u, rfl, rfl, hi, HX, ⟨hx0, hx1⟩, HI1, HB1, HT⟩ := hrel
      by_cases hlt : (i : Int) < N
      · have hrow := HI1.out.row
        have hblk := HI1.out.blk
        have hne : some g ≠ u.ownBlock := Kd.R_ne hrow hblk (by decide)
        obtain ⟨A1, cp1, rfl⟩ := Kd.R_slice hrow
        have hlen : ((L ++ low i V).map b2i).length ≤ 1099511627776 + 32 := by
          rw [List.length_map, List.length_append, low_length]
          have := HL.out
          omega
        obtain ⟨m, hm⟩ : ∃ m, m = ((L ++ low i V).map b2i).length := ⟨_, rfl⟩
        rw [← hm] at hblk hrow hlen hne
        have c0 : wr.cell? ⟨g, 0, none⟩ = some (.slice A1 m cp1) := (blk_cell hblk 0).trans rfl
        have z0 := blk_frozen hblk 0
        have HBk := Aside0.mk hblk
        have HRow := Aside0.mk hrow
        have HNe := Aside0.mk hne
        have HLen := Aside0.mk hlen
        have HM := Aside0.mk hm
        clear hblk hrow hne hlen hm
        go_wp2_with (first | ((with_reducible refine gate_builtin (b := .append) (xs := #[.tmp 35, .tmp 39]) rfl ?_); at_builtin; refine Kd.R_append (Kd.int .u8) (w0 := w0) w0.heap.size rfl (.tmp 35) (.tmp 39) 24 5 (.int .u8 0) 1 rfl Try.underlying24 info5 rfl (by decide) (by omega) _ ((L ++ low i V).map b2i) (x % 2) [.int .u8 (x % 2)] (fun _ => True) (fun _ => False) rfl rfl rfl (fun _ hk => hk.elim) (fun _ _ => trivial) HRow.out HB1.out (below_size HB1.out) ?aL ?_; (case aL => rw [← HM.out]; have := HLen.out; omega); intro v2 w2 ho hb hg hat; (obtain ⟨gb, cp, rfl, hgb, hgl, hcb⟩ := Kd.R_form ho (by rw [List.length_append, List.length_singleton]; omega)); rw [List.length_append, List.length_singleton, ← HM.out] at ho hat ⊢; have hb2 := blk_grown HBk.out hg HNe.out; have c0' := (blk_cell hb2 0).trans (show _ = some _ from rfl); have z0' := blk_frozen hb2 0; have HB2 := Aside0.mk hb; have HBk2 := Aside0.mk hb2; have HO := Aside0.mk ho; have HG := Aside0.mk hg; have HA := Aside0.mk hat; clear ho hb hg hat hb2 hgb hgl hcb))
        go_roundw
        case measure => simp [intOf]; omega
        case rel =>
          have hx := HX.out
          have hlow : (L ++ low (i + 1) V).map b2i = (L ++ low i V).map b2i ++ [x % 2] := by
            rw [low_snoc, ← List.append_assoc, List.map_append (l₂ := [_]), ← hx]
            simp only [List.map_cons, List.map_nil, b2i_mod]
          refine ⟨i + 1, x / 2, _, rfl, rfl, by omega, ⟨by rw [hx, div_pow_succ]⟩, ⟨by omega, by omega⟩, ⟨⟨heap_set_same _ g 0 _ 29 _ HBk2.out, HGE.out, ?_⟩⟩, ⟨below_set HB2.out HGE.out⟩, ⟨HT.out.trans ⟨?_, ?_⟩ HLT.out⟩⟩
          · rw [hlow]
            exact Kd.R_set HO.out HBk2.out (by decide) 0 _
          · rw [← HM.out]
            exact (Kept.of_grown HG.out (Kept.refl _ _) (fun k hk => .inl (.inr hk.symm))).setCell (p := ⟨g, 0, none⟩) (.inl (.inl rfl)) _
          · rw [← HM.out]
            exact HA.out
      · go_wp2
        go_ret
        have hi' : i = N.toNat := by omega
        subst hi'
        exact ⟨rfl, u, HI1.out, HB1.out, HT.out⟩

set_option maxHeartbeats 4000000 in
set_option maxRecDepth 100000 in
theorem ralign (w0 w : World) (g : Nat) (v : Value) (L : List Bool) (hI : IsV w0.heap.size w g v L) (hB : Below w0.heap.size w0 w) (hL : L.length ≤ 35184372088832) :
    Calls Try.prog 13 #[.pointer (some ⟨g, 0, none⟩)] w fun e w' => e = .returned (.tuple #[]) ∧ ∃ v', IsV w0.heap.size w' g v' (fill L) ∧ Below w0.heap.size w0 w' ∧ Turned w w' g v v' := by
  have HI := Aside0.mk hI
  have HB := Aside0.mk hB
  have HL := Aside0.mk hL
  have HLT := Aside0.mk hI.lt
  have HGE := Aside0.mk hI.ge
  obtain ⟨N, hN⟩ : ∃ N, N = (8 - L.length % 8) % 8 := ⟨_, rfl⟩
  have HN := Aside0.mk hN
  have hN8 : N < 8 := by omega
  have HN8 := Aside0.mk hN8
  clear hI hB hL hN hN8
  go_enter Try.func13, Try.ntmps13
  go_wp2
  go_loopg [] N (fun gk wr => ∃ (i : Nat) (u : Value), Aside0 (i + gk = N) ∧ Aside0 (IsV w0.heap.size wr g u (L ++ List.replicate i false)) ∧ Aside0 (Below w0.heap.size w0 wr) ∧ Aside0 (Turned w wr g v u))
  case atStart => exact ⟨0, v, ⟨by omega⟩, ⟨by simpa using HI.out⟩, HB, ⟨Turned.refl _ _ _⟩⟩
  case round =>
    obtain ⟨i, u, HK, HI1, HB1, HT⟩ := hrel
    have hrow := HI1.out.row
    have hblk := HI1.out.blk
    have hne : some g ≠ u.ownBlock := Kd.R_ne hrow hblk (by decide)
    obtain ⟨A1, cp1, rfl⟩ := Kd.R_slice hrow
    obtain ⟨m, hm⟩ : ∃ m, m = ((L ++ List.replicate i false).map b2i).length := ⟨_, rfl⟩
    have hml : m = L.length + i := by rw [hm]; simp
    rw [← hm] at hblk hrow hne
    have c0 : wr.cell? ⟨g, 0, none⟩ = some (.slice A1 m cp1) := (blk_cell hblk 0).trans rfl
    have z0 := blk_frozen hblk 0
    have HBk := Aside0.mk hblk
    have HRow := Aside0.mk hrow
    have HNe := Aside0.mk hne
    have HM := Aside0.mk hm
    have HML := Aside0.mk hml
    clear hblk hrow hne hm hml
    by_cases h8 : m % 8 = 0
    · have e8 : ((m : Int) % 8 != 0) = false := by rw [bne_eq_false_iff_eq]; omega
      have H8 := Aside0.mk h8
      clear h8
      go_wp2
      go_end0
      have h1 := H8.out
      have h2 := HML.out
      have h3 := HK.out
      have h4 := HN.out
      have h5 := HN8.out
      have hi : i = (8 - L.length % 8) % 8 := by omega
      refine ⟨rfl, _, ?_, HB1.out, HT.out⟩
      unfold fill
      rw [← hi]
      exact HI1.out
    · have e8 : ((m : Int) % 8 != 0) = true := by rw [bne_iff_ne]; omega
      have H8 := Aside0.mk h8
      clear h8
      go_wp2_with (first | ((with_reducible refine gate_builtin (b := .append) (xs := #[.tmp 13, .tmp 14]) rfl ?_); at_builtin; refine Kd.R_append (Kd.int .u8) (w0 := w0) w0.heap.size rfl (.tmp 13) (.tmp 14) 24 5 (.int .u8 0) 1 rfl Try.underlying24 info5 rfl (by decide) (by omega) _ ((L ++ List.replicate i false).map b2i) 0 [.int .u8 0] (fun _ => True) (fun _ => False) rfl rfl rfl (fun _ hk => hk.elim) (fun _ _ => trivial) HRow.out HB1.out (below_size HB1.out) ?aL ?_; (case aL => rw [← HM.out]; have h1 := HML.out; have h2 := HK.out; have h3 := HN8.out; have h4 := HL.out; omega); intro v2 w2 ho hb hg hat; (obtain ⟨gb, cp, rfl, hgb, hgl, hcb⟩ := Kd.R_form ho (by rw [List.length_append, List.length_singleton]; omega)); rw [List.length_append, List.length_singleton, ← HM.out] at ho hat ⊢; have hb2 := blk_grown HBk.out hg HNe.out; have c0' := (blk_cell hb2 0).trans (show _ = some _ from rfl); have z0' := blk_frozen hb2 0; have HB2 := Aside0.mk hb; have HBk2 := Aside0.mk hb2; have HO := Aside0.mk ho; have HG := Aside0.mk hg; have HA := Aside0.mk hat; clear ho hb hg hat hb2 hgb hgl hcb))
      have h1 := H8.out
      have h2 := HML.out
      have h3 := HK.out
      have h4 := HN.out
      have h5 : gk ≠ 0 := by rintro rfl; omega
      obtain ⟨k1, rfl⟩ : ∃ k1, gk = k1 + 1 := ⟨gk - 1, by omega⟩
      clear h1 h2 h3 h4 h5
      go_roundg k1
      case measure => omega
      case rel =>
        refine ⟨i + 1, _, ⟨by have := HK.out; omega⟩, ⟨⟨heap_set_same _ g 0 _ 29 _ HBk2.out, HGE.out, ?_⟩⟩, ⟨below_set HB2.out HGE.out⟩, ⟨HT.out.trans ⟨?_, ?_⟩ HLT.out⟩⟩
        · rw [show (L ++ List.replicate (i + 1) false).map b2i = (L ++ List.replicate i false).map b2i ++ [0] from by rw [List.replicate_succ', ← List.append_assoc, List.map_append (l₂ := [_])]; rfl]
          exact Kd.R_set HO.out HBk2.out (by decide) 0 _
        · rw [← HM.out]
          exact (Kept.of_grown HG.out (Kept.refl _ _) (fun k hk => .inl (.inr hk.symm))).setCell (p := ⟨g, 0, none⟩) (.inl (.inl rfl)) _
        · rw [← HM.out]
          exact HA.out
end Go.Proofs.Ytfdcolicpfellaa.Mach
