/-
  bits.Writer: the other calls.
-/
import Derived.Test.YtfdcolicpfellaaPut
set_option linter.unusedVariables false
set_option linter.unusedSimpArgs false
namespace Go.Proofs.Ytfdcolicpfellaa.Mach
open Go.RowKit Go.Proofs.YtfdcolicpfellaaW.PrintWords Go.Proofs.YtfdcolicpfellaaW.PrintLast Go.Proofs.YtfdcolicpfellaaW.PrintMore Go.Proofs.Ytfdcolicpfellaa.Pack

set_option maxHeartbeats 2000000 in
set_option maxRecDepth 100000 in
theorem put_bad (w : World) (g : Nat) (V N : Int) (hV0 : 0 ≤ V) (hV1 : V < 4294967296) (hbad : ¬ (0 ≤ N ∧ N ≤ 32 ∧ V < 2 ^ N.toNat)) :
    Calls Try.prog 10 #[.pointer (some ⟨g, 0, none⟩), .int .u32 V, .int .i64 N] w fun e w' => e = .returned (.int .i64 1) ∧ w = w' := by
  by_cases h1 : N < 0
  · have f1 : decide (N < 0) = true := decide_eq_true h1
    clear h1 hbad hV1
    go_enter Try.func10, Try.ntmps10
    go_wp2
    go_ret
    exact ⟨rfl, rfl⟩
  · have f1 : decide (N < 0) = false := decide_eq_false h1
    by_cases h2 : 32 < N
    · have f2 : decide (32 < N) = true := decide_eq_true h2
      clear h1 h2 hbad hV1
      go_enter Try.func10, Try.ntmps10
      go_wp2
      go_ret
      exact ⟨rfl, rfl⟩
    · have f2 : decide (32 < N) = false := decide_eq_false h2
      have hp := pow_le32 (n := N.toNat) (by omega)
      have hp0 : (1 : Int) ≤ 2 ^ N.toNat := by exact_mod_cast Nat.one_le_two_pow
      have f3 : decide (IntKind.u64.wrap (2 ^ N.toNat) ≤ IntKind.u64.wrap V) = true := decide_eq_true (by rw [wrap_u64_small (by omega) (by omega), wrap_u64_small hV0 (by omega)]; omega)
      have hn0 : 0 ≤ N := by omega
      have hn1 : N ≤ 32 := by omega
      clear h1 h2 hbad hp hp0 hV1
      go_enter Try.func10, Try.ntmps10
      go_wp2
      go_ret
      exact ⟨rfl, rfl⟩

theorem IsW.below {B : Nat} {w w' : World} {g : Nat} {v : Value} {L : List Bool} (h : IsW B w g v L) (hb : Below w.heap.size w w') : IsW B w' g v L :=
  ⟨(hb.block g h.lt).trans h.blk, h.ge, Kd.R_below h.row hb⟩
theorem IsW.drewN {B : Nat} {w : World} {g : Nat} {v : Value} {L : List Bool} (h : IsW B w g v L) (n : Nat) : IsW B (w.drewN n) g v L := ⟨h.blk, h.ge, Kd.R_drewN h.row n⟩

set_option maxHeartbeats 1000000 in
theorem align (w0 w : World) (g : Nat) (v : Value) (L : List Bool) (hI : IsW w0.heap.size w g v L) (hB : Below w0.heap.size w0 w) (hL : L.length ≤ 1125899906842624) :
    Calls Try.prog 12 #[.pointer (some ⟨g, 0, none⟩)] w fun e w' => e = .returned (.tuple #[]) ∧ IsW w0.heap.size w' g v (fill L) ∧ Below w0.heap.size w0 w' ∧ Turned w w' g v v := by
  obtain ⟨A, cp, rfl⟩ := Kd.R_slice hI.row
  have c0 : w.cell? ⟨g, 0, none⟩ = some (.slice A (pack L).length cp) := (blk_cell hI.blk 0).trans rfl
  have c1 : w.cell? ⟨g, 1, none⟩ = some (.int .i64 (L.length : Int)) := (blk_cell hI.blk 1).trans rfl
  have z1 := blk_frozen hI.blk 1
  have hpl := pack_len L
  obtain ⟨m, hm⟩ : ∃ m, m = (pack L).length := ⟨_, rfl⟩
  rw [← hm] at c0 hpl
  have HI := Aside0.mk hI
  have HB := Aside0.mk hB
  have HM := Aside0.mk hm
  have HP := Aside0.mk hpl
  have hmb : 8 * (m : Int) ≤ 9223372036854775807 := by omega
  clear hI hB hm hpl hL
  go_enter Try.func12, Try.ntmps12
  go_wp2
  go_end0
  refine ⟨rfl, ⟨?_, HI.out.ge, ?_⟩, below_set HB.out HI.out.ge, ((Kept.refl w _).setCell (p := ⟨g, 1, none⟩) (.inl (.inl rfl)) _), .inl rfl⟩
  · have h2 := heap_set_same _ g 1 _ 26 (.int .i64 (8 * (m : Int))) HI.out.blk
    have h3 : ((fill L).length : Int) = 8 * (m : Int) := by rw [fill_length, HP.out]; push_cast; rfl
    rw [h3]
    exact h2
  · rw [pack_fill]
    exact Kd.R_set HI.out.row HI.out.blk (by decide) 1 _

set_option maxHeartbeats 1000000 in
theorem len_ (B : Nat) (w : World) (g : Nat) (v : Value) (L : List Bool) (hI : IsW B w g v L) :
    Calls Try.prog 21 #[.pointer (some ⟨g, 0, none⟩)] w fun e w' => e = .returned (.int .i64 (L.length : Int)) ∧ w = w' := by
  have c1 : w.cell? ⟨g, 1, none⟩ = some (.int .i64 (L.length : Int)) := (blk_cell hI.blk 1).trans rfl
  clear hI
  go_enter Try.func21, Try.ntmps21
  go_wp2
  go_ret
  exact ⟨rfl, rfl⟩

set_option maxHeartbeats 1000000 in
theorem done (B : Nat) (w : World) (g : Nat) (v : Value) (L : List Bool) (hI : IsW B w g v L) (hL : L.length ≤ 1125899906842624) :
    Calls Try.prog 19 #[.pointer (some ⟨g, 0, none⟩)] w fun e w' => ∃ u, e = .returned u ∧ Kd.R (Kd.int .u8) 5 w' w.heap.size (fun _ => True) u (pack L) ∧ Below w.heap.size w w' := by
  have hpl := pack_len L
  obtain ⟨A, cp, rfl⟩ := Kd.R_slice hI.row
  have hrd := Kd.R_reads' hI.row
  have hcl := clone A cp (pack L) w hrd.2.2 hrd.2.1 (by omega)
  have c0 : w.cell? ⟨g, 0, none⟩ = some (.slice A (pack L).length cp) := (blk_cell hI.blk 0).trans rfl
  obtain ⟨m, hm⟩ : ∃ m, m = (pack L).length := ⟨_, rfl⟩
  rw [← hm] at c0 hcl
  have HC := Aside0.mk hcl
  clear hI hm hcl hrd hpl hL
  go_enter Try.func19, Try.ntmps19
  go_wp2_with (go_at_call 44; refine HC.out.mono ?_; rintro e w1 ⟨u, rfl, hr, hb⟩; have HR := Aside0.mk hr; have HB := Aside0.mk hb; clear hr hb)
  go_ret
  exact ⟨u, rfl, HR.out, HB.out⟩

/-- bits behind whole bytes -/
theorem pack_add (L : List Bool) (ys : List Int) (hy : ∀ x ∈ ys, 0 ≤ x ∧ x < 256) : pack (fill L ++ unpack ys) = pack L ++ ys := by
  rw [pack_append _ _ _ (Nat.le_refl _) (by rw [fill_length]; omega), pack_fill, pack_unpack ys hy]

set_option maxHeartbeats 2000000 in
set_option maxRecDepth 100000 in
theorem add (w0 w : World) (g : Nat) (v : Value) (L : List Bool) (A : Option Addr) (c : Nat) (ys : List Int) (hI : IsW w0.heap.size w g v L) (hB : Below w0.heap.size w0 w) (hr : Kd.C (Kd.int .u8) w A ys.length ys) (hy : ∀ x ∈ ys, 0 ≤ x ∧ x < 256)
    (hL : L.length + ys.length ≤ 35184372088832) :
    Calls Try.prog 15 #[.pointer (some ⟨g, 0, none⟩), .slice A ys.length c] w fun e w' => e = .returned (.tuple #[]) ∧ ∃ v', IsW w0.heap.size w' g v' (fill L ++ unpack ys) ∧ Below w0.heap.size w0 w' ∧ Turned w w' g v v' := by
  have hpl := pack_len L
  have hne : some g ≠ v.ownBlock := Kd.R_ne hI.row hI.blk (by decide)
  obtain ⟨A1, cp, rfl⟩ := Kd.R_slice hI.row
  have c0 : w.cell? ⟨g, 0, none⟩ = some (.slice A1 (pack L).length cp) := (blk_cell hI.blk 0).trans rfl
  have HI := Aside0.mk hI
  have HB := Aside0.mk hB
  have HR := Aside0.mk hr
  have HY := Aside0.mk hy
  have HP := Aside0.mk hpl
  have HL := Aside0.mk hL
  have HNe := Aside0.mk hne
  clear hI hB hr hy hpl hL hne
  go_enter Try.func15, Try.ntmps15
  go_wp2_with (first | ((with_reducible refine gate_builtin (b := .append) (xs := #[.tmp 8, .tmp 9]) rfl ?_); at_builtin; refine Kd.R_append_rows (Kd.int .u8) (w0 := w0) w0.heap.size rfl (.tmp 8) (.tmp 9) 24 5 (.int .u8 0) 1 rfl Try.underlying24 info5 rfl (by decide) (by omega) _ (pack L) ys _ _ _ (fun _ => True) (fun _ => False) rfl rfl HI.out.row HR.out (fun _ _ h => h) (fun _ h => h.elim) (fun _ _ => trivial) HB.out (below_size HB.out) ?aL ?_; (case aL => have h1 := HL.out; have h2 := HP.out; omega); intro v2 w2 ho hb hg hat; obtain ⟨A2, cp2, rfl⟩ := Kd.R_slice ho; (obtain ⟨m, hm⟩ : ∃ m, m = (pack L ++ ys).length := ⟨_, rfl⟩); rw [← hm] at ho hat ⊢; have hb2 := blk_grown HI.out.blk hg HNe.out; have c0' := (blk_cell hb2 0).trans (show _ = some _ from rfl); have z0' := blk_frozen hb2 0; have z1' := blk_frozen hb2 1; have c1' := (blk_cell hb2 1).trans (show _ = some _ from rfl); have HB2 := Aside0.mk hb; have HBk2 := Aside0.mk hb2; have HO := Aside0.mk ho; have HG := Aside0.mk hg; have HA := Aside0.mk hat; have HM := Aside0.mk hm; have hmb : 8 * (m : Int) ≤ 9223372036854775807 := (by have h1 := HL.out; have h2 := HP.out; rw [hm, List.length_append]; omega); clear ho hb hg hat hb2 hm))
  go_end0
  have hpa := pack_add L ys HY.out
  have hlen : (fill L ++ unpack ys).length = 8 * m := by rw [HM.out, List.length_append, List.length_append, fill_length, unpack_length, HP.out]; omega
  have h1 := heap_set_same _ g 0 _ 26 (.slice A2 m cp2) HBk2.out
  refine ⟨rfl, .slice A2 m cp2, ⟨?_, HI.out.ge, ?_⟩, below_set (below_set HB2.out HI.out.ge) HI.out.ge, (((Kept.of_grown HG.out (Kept.refl _ _) (fun k hk => .inl (.inr hk.symm))).setCell (p := ⟨g, 0, none⟩) (.inl (.inl rfl)) _).setCell (p := ⟨g, 1, none⟩) (.inl (.inl rfl)) _), HA.out⟩
  · have h2 := heap_set_same _ g 1 _ 26 (.int .i64 (8 * (m : Int))) h1
    rw [hlen]
    exact h2
  · rw [hpa]
    exact Kd.R_set (Kd.R_set HO.out HBk2.out (by decide) 0 _) h1 (by decide) 1 _
end Go.Proofs.Ytfdcolicpfellaa.Mach
