/-
  The document's Writer: Add.
-/
import Derived.Test.YtfdcolicpfellaaRefWriter
import Derived.Deep.RegionLaw
import Derived.Deep.AppendLies
set_option linter.unusedVariables false
set_option linter.unusedSimpArgs false
namespace Go.Proofs.Ytfdcolicpfellaa.Mach
open Go.RowKit Go.Proofs.YtfdcolicpfellaaW.PrintWords Go.Proofs.YtfdcolicpfellaaW.PrintLast Go.Proofs.YtfdcolicpfellaaW.PrintMore Go.Proofs.Ytfdcolicpfellaa.Pack Go.Proofs.Ytfdcolicpfellaa.PBitsWritesPure

set_option maxHeartbeats 4000000 in
set_option maxRecDepth 100000 in
theorem radd (w0 w : World) (g : Nat) (v : Value) (L : List Bool) (A : Option Addr) (c : Nat) (ys : List Int) (hI : IsV w0.heap.size w g v L) (hB : Below w0.heap.size w0 w) (hr : Kd.C (Kd.int .u8) w0 A ys.length ys) (hc : ys.length ≤ c) (hy : ∀ x ∈ ys, 0 ≤ x ∧ x < 256)
    (hL : L.length + 8 * ys.length ≤ 35184372088832) :
    Calls Try.prog 16 #[.pointer (some ⟨g, 0, none⟩), .slice A ys.length c] w fun e w' => e = .returned (.tuple #[]) ∧ ∃ v', IsV w0.heap.size w' g v' (fill L ++ unpack ys) ∧ Below w0.heap.size w0 w' ∧ Turned w w' g v v' := by
  obtain ⟨k, hk⟩ := (bits_f ys hy (by omega)).rounds
  obtain ⟨bl, hbl⟩ : ∃ bl, bl = (unpack ys).map b2i := ⟨_, rfl⟩
  rw [← hbl] at hk
  have hbll : bl.length = 8 * ys.length := by rw [hbl, List.length_map, unpack_length]
  have HBl := Aside0.mk hbl
  have HBll := Aside0.mk hbll
  have hal := ralign w0 w g v L hI hB (by omega)
  have HAL := Aside0.mk hal
  have HK := Aside0.mk hk
  have HR := Aside0.mk hr
  have HC := Aside0.mk hc
  have HGE := Aside0.mk hI.ge
  have HLT := Aside0.mk hI.lt
  have HL := Aside0.mk hL
  clear hI hB hr hc hL hal hk hbl hbll
  go_enter Try.func16, Try.ntmps16
  go_wp2_with (go_at_call 13; refine HAL.out.mono ?_; rintro e w1 ⟨rfl, u, hI1, hb1, ht1⟩; have HI1 := Aside0.mk hI1; have HB1 := Aside0.mk hb1; have HT1 := Aside0.mk ht1; clear hI1 hb1 ht1)
  have hrow := HI1.out.row
  have hblk := HI1.out.blk
  have hne : some g ≠ u.ownBlock := Kd.R_ne hrow hblk (by decide)
  obtain ⟨A1, cp1, rfl⟩ := Kd.R_slice hrow
  obtain ⟨m, hm⟩ : ∃ m, m = ((fill L).map b2i).length := ⟨_, rfl⟩
  have hml : m ≤ L.length + 8 := by rw [hm, List.length_map, fill_length]; omega
  rw [← hm] at hblk hrow hne
  have c0 : w1.cell? ⟨g, 0, none⟩ = some (.slice A1 m cp1) := (blk_cell hblk 0).trans rfl
  have z0 := blk_frozen hblk 0
  have hcall := PBitsWrites.satchelref05_Bits.calls k A c ys _ w1.drew (Kd.C_drew (Kd.C_below HR.out HB1.out)) HC.out HK.out
  have HCall := Aside0.mk hcall
  have HBk := Aside0.mk hblk
  have HRow := Aside0.mk hrow
  have HNe := Aside0.mk hne
  have HM := Aside0.mk hm
  have HML := Aside0.mk hml
  clear hblk hrow hne hm hml hcall
  go_wp2
  go_region_law (first | (go_simp; go_at_call 24; refine HCall.out.mono ?_; rintro e w2 ⟨u2, rfl, ho2, hb2⟩; have hblk2 := (hb2.block g (blk_lt HBk.out)).trans HBk.out; have c2 := (blk_cell hblk2 0).trans (show _ = some _ from rfl); have z2 := blk_frozen hblk2 0; obtain ⟨A2, cp2, rfl⟩ := Kd.R_slice ho2; have HO2 := Aside0.mk ho2; have HB2 := Aside0.mk hb2; have HBk2 := Aside0.mk hblk2; clear ho2 hb2 hblk2) | (refine Kd.R_append_rows_step (Kd.int .u8) (w0 := w0) w0.heap.size (by rfl) (.tmp 10) (.tmp 12) 24 5 (.int .u8 0) 1 (by rfl) Try.underlying24 info5 rfl (by decide) (by omega) _ ((fill L).map b2i) bl _ _ _ (fun _ => True) (fun _ => False) (by rfl) (by rfl) (Kd.R_below (Kd.R_drew HRow.out) HB2.out) (Kd.R_reads' HO2.out).2.2 (fun _ _ h => h) (fun _ h => h.elim) (fun _ _ => trivial) (below_then (below_drew HB1.out) (below_size (below_drew HB1.out)) HB2.out) (Nat.le_trans (below_size (below_drew HB1.out)) HB2.out.size) ?aL ?_; (case aL => have h1 := HML.out; have h2 := HL.out; have h3 := HBll.out; have h4 := HM.out; omega); intro v3 w3 ho3 hb3 hg3 ha3; obtain ⟨A3, cp3, rfl⟩ := Kd.R_slice ho3; (obtain ⟨m3, hm3⟩ : ∃ m3, m3 = ((fill L).map b2i ++ bl).length := ⟨_, rfl⟩); rw [← hm3] at ho3 ha3 ⊢; have hblk3 := blk_grown HBk2.out hg3 HNe.out; have c3 := (blk_cell hblk3 0).trans (show _ = some _ from rfl); have z3 := blk_frozen hblk3 0; have HO3 := Aside0.mk ho3; have HB3 := Aside0.mk hb3; have HG3 := Aside0.mk hg3; have HA3 := Aside0.mk ha3; have HBk3 := Aside0.mk hblk3; have HM3 := Aside0.mk hm3; clear ho3 hb3 hg3 ha3 hblk3 hm3))
  all_goals
    go_end0
    refine ⟨rfl, .slice A3 m3 cp3, ⟨heap_set_same _ g 0 _ 29 _ HBk3.out, HGE.out, ?_⟩, below_set HB3.out HGE.out, HT1.out.trans ⟨?_, ?_⟩ HLT.out⟩
    · rw [List.map_append, ← HBl.out]
      exact Kd.R_set HO3.out HBk3.out (by decide) 0 _
    · have hk0 : Kept w1 w2 (fun k => k = g ∨ some k = (Value.slice A1 m cp1).ownBlock) := Kept.of_below (w := w1.drew) HB2.out _
      rw [← HM.out]
      exact ((hk0.of_grown HG3.out (fun k hk => .inl (.inr hk.symm))).setCell (p := ⟨g, 0, none⟩) (.inl (.inl rfl)) _)
    · rw [← HM.out]
      rcases HA3.out with h | ⟨b, hb, hle⟩
      · exact .inl h
      · exact .inr ⟨b, hb, Nat.le_trans (HB2.out.size : w1.heap.size ≤ w2.heap.size) hle⟩
end Go.Proofs.Ytfdcolicpfellaa.Mach
