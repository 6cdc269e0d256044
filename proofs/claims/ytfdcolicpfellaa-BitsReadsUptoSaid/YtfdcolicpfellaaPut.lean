/-
  bits.Writer: Put, one call.
-/
import Derived.Test.YtfdcolicpfellaaClone
import Derived.Test.YtfdcolicpfellaaPack
import Derived.BigRegion
import Derived.RegionTactic
import Derived.ChangeAlike
import Derived.Deep.Cut
import Derived.Deep.DeepCutAuto
import Derived.Deep.CutBlock
set_option linter.unusedVariables false
set_option linter.unusedSimpArgs false
namespace Go.Proofs.Ytfdcolicpfellaa.Mach
open Go.RowKit Go.Proofs.YtfdcolicpfellaaW.PrintWords Go.Proofs.YtfdcolicpfellaaW.PrintLast Go.Proofs.YtfdcolicpfellaaW.PrintMore Go.Proofs.Ytfdcolicpfellaa.Pack

/-- a Writer of bits at block g: its row v holds the bits, packed -/
structure IsW (B : Nat) (w : World) (g : Nat) (v : Value) (L : List Bool) : Prop where
  blk : w.heap[g]? = some (.cells #[v, .int .i64 (L.length : Int)] 26 (0, 0))
  ge : B ≤ g
  row : Kd.R (Kd.int .u8) 5 w B (fun _ => True) v (pack L)

/-- what a call on (g, v) may turn -/
def Turned (w w' : World) (g : Nat) (v v' : Value) : Prop := Kept w w' (fun k => k = g ∨ some k = v.ownBlock) ∧ (v'.ownBlock = v.ownBlock ∨ ∃ b, v'.ownBlock = some b ∧ w.heap.size ≤ b)

theorem wrap_u64_small {x : Int} (h0 : 0 ≤ x) (h1 : x < 18446744073709551616) : IntKind.u64.wrap x = x := by rw [IntKind.wrap_u64]; omega

theorem pow_le32 {n : Nat} (h : n ≤ 32) : (2 : Int) ^ n ≤ 4294967296 := by
  have h4 : (2 : Nat) ^ n ≤ 4294967296 := Nat.pow_le_pow_right (n := 2) (by omega) h
  have h5 : ((2 ^ n : Nat) : Int) ≤ (4294967296 : Nat) := Int.ofNat_le.2 h4
  rw [Int.natCast_pow] at h5
  exact h5

theorem Turned.refl (w : World) (g : Nat) (v : Value) : Turned w w g v v := ⟨Kept.refl _ _, .inl rfl⟩
theorem Turned.trans {w w1 w2 : World} {g : Nat} {v v1 v2 : Value} (h : Turned w w1 g v v1) (k : Turned w1 w2 g v1 v2) (hlt : g < w.heap.size) : Turned w w2 g v v2 := by
  refine ⟨h.1.then_ k.1 (fun j hj => ?_), ?_⟩
  · rcases hj with hj | hj
    · exact .inl (.inl hj)
    · rcases h.2 with e | ⟨b, e, hb⟩
      · exact .inl (.inr (hj.trans e))
      · rw [e] at hj; cases hj; exact .inr hb
  · rcases k.2 with e | ⟨b, e, hb⟩
    · rw [e]; exact h.2
    · exact .inr ⟨b, e, Nat.le_trans h.1.1 hb⟩
theorem IsW.lt {B : Nat} {w : World} {g : Nat} {v : Value} {L : List Bool} (h : IsW B w g v L) : g < w.heap.size := blk_lt h.blk

/-- what the first half of a round leaves -/
def Half (B n : Nat) (w : World) (g : Nat) (v : Value) (xs : List Int) : Prop := w.heap[g]? = some (.cells #[v, .int .i64 (n : Int)] 26 (0, 0)) ∧ Kd.R (Kd.int .u8) 5 w B (fun _ => True) v xs

theorem heap_set_same (w : World) (g j : Nat) (cs : Array Value) (t : Nat) (u : Value) (h : w.heap[g]? = some (.cells cs t (0, 0))) : (w.setCell ⟨g, j, none⟩ u).heap[g]? = some (.cells (cs.setIfInBounds j u) t (0, 0)) := heap_setCell_same w g j cs t u h

set_option maxHeartbeats 4000000 in
set_option maxRecDepth 100000 in
theorem put_good (w0 w : World) (g : Nat) (v : Value) (L : List Bool) (V N : Int) (hI : IsW w0.heap.size w g v L) (hB : Below w0.heap.size w0 w) (hN0 : 0 ≤ N) (hN1 : N ≤ 32) (hV0 : 0 ≤ V) (hV1 : V < 2 ^ N.toNat) (hL : L.length ≤ 1099511627776) :
    Calls Try.prog 10 #[.pointer (some ⟨g, 0, none⟩), .int .u32 V, .int .i64 N] w fun e w' => e = .returned (.int .i64 0) ∧ ∃ v', IsW w0.heap.size w' g v' (L ++ low N.toNat V) ∧ Below w0.heap.size w0 w' ∧ Turned w w' g v v' := by
  have hp := pow_le32 (n := N.toNat) (by omega)
  have f1 : decide (N < 0) = false := decide_eq_false (by omega)
  have f2 : decide (32 < N) = false := decide_eq_false (by omega)
  have f3 : decide (IntKind.u64.wrap (2 ^ N.toNat) ≤ IntKind.u64.wrap V) = false := decide_eq_false (by rw [wrap_u64_small (by omega) (by omega), wrap_u64_small hV0 (by omega)]; omega)
  have HI := Aside0.mk hI
  have HB := Aside0.mk hB
  have HL := Aside0.mk hL
  have HV1 := Aside0.mk hV1
  have HLT := Aside0.mk hI.lt
  have HGE := Aside0.mk hI.ge
  clear hI hB hL hV1 hp
  go_enter Try.func10, Try.ntmps10
  go_wp2
  go_loopw [7, 22] (fun v7 v22 wr => ∃ (i : Nat) (v1 : Value), v22 = .int .i64 i ∧ i ≤ N.toNat ∧ Aside0 (IsW w0.heap.size wr g v1 (L ++ low i V)) ∧ Aside0 (Below w0.heap.size w0 wr) ∧ Aside0 (Turned w wr g v v1)) (fun _ v22 _ => N.toNat - (intOf v22).toNat)
  case atStart =>
    exact ⟨0, v, rfl, Nat.zero_le _, ⟨by simpa [low] using HI.out⟩, HB, ⟨Turned.refl _ _ _⟩⟩
  case round =>
    obtain ⟨i, v1, rfl, hi, HI1, HB1, HT⟩ := hrel
    by_cases hlt : (i : Int) < N
    · obtain ⟨M, hM⟩ : ∃ M, M = L ++ low i V := ⟨_, rfl⟩
      rw [← hM] at HI1
      obtain ⟨n, hn⟩ : ∃ n : Nat, n = M.length := ⟨_, rfl⟩
      have hb := HI1.out.blk
      have hrow := HI1.out.row
      rw [← hn] at hb
      have c0 : wr.cell? ⟨g, 0, none⟩ = some v1 := (blk_cell hb 0).trans rfl
      have c1 : wr.cell? ⟨g, 1, none⟩ = some (.int .i64 (n : Int)) := (blk_cell hb 1).trans rfl
      have z0 := blk_frozen hb 0
      have z1 := blk_frozen hb 1
      have hne : some g ≠ v1.ownBlock := Kd.R_ne hrow hb (by decide)
      have HN := Aside0.mk hn
      have HM := Aside0.mk hM
      have HBk := Aside0.mk hb
      have HRow := Aside0.mk hrow
      have HNe := Aside0.mk hne
      have hnl : n ≤ 1099511627776 + 32 := by
        rw [hn, hM, List.length_append, low_length]
        have := HL.out
        omega
      have HNL := Aside0.mk hnl
      clear hn hM hb hrow hne hnl
      go_upto_if 30 with (fail)
      go_cut [] (fun wc => ∃ v2 xs, Aside0 (Half w0.heap.size n wc g v2 xs) ∧ Aside0 (xs = if n % 8 = 0 then pack M ++ [0] else pack M) ∧ Aside0 (Below w0.heap.size w0 wc) ∧ Aside0 (Turned w wc g v v2))
      case first =>
        by_cases h8 : n % 8 = 0
        · have e8 : ((n : Int) % 8 == 0) = true := by rw [beq_iff_eq]; omega
          have H8 := Aside0.mk h8
          clear h8
          obtain ⟨A1, cp1, rfl⟩ := Kd.R_slice HRow.out
          go_wp2_with (first | ((with_reducible refine gate_builtin (b := .append) (xs := #[.tmp 35, .tmp 36]) rfl ?_); at_builtin; refine Kd.R_append (Kd.int .u8) (w0 := w0) w0.heap.size rfl (.tmp 35) (.tmp 36) 24 5 (.int .u8 0) 1 rfl Try.underlying24 info5 rfl (by decide) (by omega) _ (pack M) 0 [.int .u8 0] (fun _ => True) (fun _ => False) rfl rfl rfl (fun _ hk => hk.elim) (fun _ _ => trivial) HRow.out HB1.out (below_size HB1.out) ?aL ?_; (case aL => rw [pack_len]; have := HNL.out; have := HN.out; omega); intro v2 w2 ho hb hg hat; (obtain ⟨gb, cp, rfl, hgb, hgl, hcb⟩ := Kd.R_form ho (by simp)); have hb2 := blk_grown HBk.out hg HNe.out; have c0' := (blk_cell hb2 0).trans (show _ = some _ from rfl); have z0' := blk_frozen hb2 0; have HB2 := Aside0.mk hb; have HBk2 := Aside0.mk hb2; have HO := Aside0.mk ho; have HG := Aside0.mk hg; have HA := Aside0.mk hat; clear ho hb hg hat hb2 hgb hgl hcb))
          go_meet
          case rel =>
            refine ⟨_, _, ⟨heap_set_same _ g 0 _ 26 _ HBk2.out, (by have h_ := Kd.R_set HO.out HBk2.out (by decide) 0 (Value.slice (some ⟨gb, 0, none⟩) ((pack M).length + 1) cp); rw [List.length_append, List.length_singleton] at h_; exact h_)⟩, ⟨by rw [if_pos H8.out]⟩, ⟨below_set HB2.out HGE.out⟩, ⟨HT.out.trans ⟨?_, HA.out⟩ HLT.out⟩⟩
            exact (Kept.of_grown HG.out (Kept.refl _ _) (fun k hk => .inl (.inr hk.symm))).setCell (.inl (.inl rfl)) _
        · have e8 : ((n : Int) % 8 == 0) = false := by rw [beq_eq_false_iff_ne]; omega
          have H8 := Aside0.mk h8
          clear h8
          go_wp2
          go_meet
          case rel => exact ⟨v1, pack M, ⟨HBk.out, HRow.out⟩, ⟨by rw [if_neg H8.out]⟩, HB1, HT⟩
      case rest =>
        obtain ⟨v2, xs, HH, HX, HB2, HT2⟩ := hcut
        have hxl : ∃ j, xs.length = j + 1 := by
          have h1 := HX.out
          have h2 := HN.out
          by_cases h8 : n % 8 = 0
          · rw [if_pos h8] at h1; exact ⟨(pack M).length, by rw [h1]; simp⟩
          · rw [if_neg h8] at h1; rw [h1, pack_len, ← h2]; exact ⟨(n + 7) / 8 - 1, by omega⟩
        obtain ⟨j, hj⟩ := hxl
        have hblk := HH.out.1
        have hrow := HH.out.2
        obtain ⟨gb, cp, rfl, hgb, hgl, hcb⟩ := Kd.R_form hrow (by omega)
        rw [hj] at hblk hrow
        have hcell := Kd.R_celln 0 hrow (j : Int) (by omega) (by omega)
        have d0 : wc.cell? ⟨g, 0, none⟩ = some (.slice (some ⟨gb, 0, none⟩) (j + 1) cp) := (blk_cell hblk 0).trans rfl
        have d1 : wc.cell? ⟨g, 1, none⟩ = some (.int .i64 (n : Int)) := (blk_cell hblk 1).trans rfl
        have y1 := blk_frozen hblk 1
        have e0 : wc.cell? ⟨gb, j, none⟩ = some (.int .u8 (rdOf 0 xs j)) := hcell.1
        have e1 : wc.frozen? ⟨gb, j, none⟩ = false := hcell.2
        obtain ⟨xl, hxl⟩ : ∃ xl, xl = rdOf 0 xs j := ⟨_, rfl⟩
        rw [← hxl] at e0
        have HJ := Aside0.mk hj
        have HBlk := Aside0.mk hblk
        have HRw := Aside0.mk hrow
        have HXl := Aside0.mk hxl
        have HCap := Aside0.mk (Kd.R_reads' hrow)
        have hj' : j < 1099511627776 * 2 := by
          have h1 := HX.out
          have h2 := HN.out
          have h3 := HNL.out
          have h4 := pack_len M
          rw [← h2] at h4
          split at h1 <;> rw [h1] at hj <;> (try simp at hj) <;> omega
        have HJ' := Aside0.mk hj'
        have jb : (j : Int) + 1 ≤ 9223372036854775807 := by omega
        have gne : g ≠ gb := by
          rintro rfl
          obtain ⟨cells, hc⟩ := hcb
          rw [hblk] at hc
          cases hc
        clear hj hblk hrow hcell hxl hcb hgb hgl hj'
        go_wp2
        go_big_region
        go_wp2
        go_roundw
        case measure => simp [intOf]; omega
        case rel =>
          have hV2 : V < 4294967296 := by have h1 := HV1.out; have h2 := pow_le32 (n := N.toNat) (by omega); omega
          have hM := HM.out
          have hn := HN.out
          have hnl := HNL.out
          have hx : xs = if M.length % 8 = 0 then pack M ++ [0] else pack M := by rw [← hn]; exact HX.out
          have hrr := round_row M xs j V i hV0 hV2 hx HJ.out
          rw [← hn] at hrr
          have hlow : L ++ low (i + 1) V = M ++ [V / 2 ^ i % 2 == 1] := by rw [low_snoc, ← List.append_assoc, ← hM]
          have hxl : xl = xs.getD j 0 := by rw [HXl.out]; simp [rdOf]
          rw [← hxl] at hrr
          have hput := (Kd.R_putg HRw.out (j : Int) (bits .or .u8 xl (bits .and .u32 (V / 2 ^ i) 1 % 256 * 2 ^ (n % 8) % 256)))
          rw [Int.toNat_natCast, hrr] at hput
          have hb1 := (Below.heap_setCell wc ⟨gb, j, none⟩ (.int .u8 (bits .or .u8 xl (bits .and .u32 (V / 2 ^ i) 1 % 256 * 2 ^ (n % 8) % 256))) g gne).trans HBlk.out
          have hlen : ((L ++ low (i + 1) V).length : Int) = (n : Int) + 1 := by rw [hlow, List.length_append, ← hn]; simp
          refine ⟨i + 1, .slice (some ⟨gb, 0, none⟩) (j + 1) cp, rfl, by omega, ⟨⟨?_, HGE.out, ?_⟩⟩, ⟨?_⟩, ⟨?_⟩⟩
          · rw [hlen]
            have h2 := heap_set_same _ g 1 _ 26 (.int .i64 (wrap64 ((n : Int) + 1))) hb1
            rw [show wrap64 ((n : Int) + 1) = (n : Int) + 1 from by unfold wrap64; omega] at h2 ⊢
            exact h2
          · rw [hlow]
            exact Kd.R_drew (Kd.R_set hput.1 hb1 (by decide) 1 _)
          · exact below_drew (below_set (Below.setCell HB2.out (Kd.R_base HRw.out gb (by simp [Value.ownBlock])) _) HGE.out)
          · have h3 := HT2.out
            rw [show xs.length = j + 1 from HJ.out] at h3
            refine h3.trans ⟨(((Kept.refl wc _).setCell (p := ⟨gb, j, none⟩) (.inl (.inr (by simp [Value.ownBlock]))) _).setCell (p := ⟨g, 1, none⟩) (.inl (.inl rfl)) _).drew, .inl rfl⟩ HLT.out
    · go_wp2
      go_ret
      have hi' : i = N.toNat := by omega
      subst hi'
      exact ⟨rfl, v1, HI1.out, HB1.out, HT.out⟩
end Go.Proofs.Ytfdcolicpfellaa.Mach
