/-
  BitsReads: the law's own walk.
-/
import Derived.Test.YtfdcolicpfellaaReadsSt
import Derived.Test.YtfdcolicpfellaaLawWrites
set_option linter.unusedVariables false
set_option linter.unusedSimpArgs false
namespace Go.Proofs.Ytfdcolicpfellaa.Mach
open Go.RowKit Go.Proofs.YtfdcolicpfellaaW.PrintWords Go.Proofs.YtfdcolicpfellaaW.PrintLast Go.Proofs.YtfdcolicpfellaaW.PrintMore Go.Proofs.Ytfdcolicpfellaa.Pack Go.Proofs.Ytfdcolicpfellaa.PBitsReads Go.Proofs.Ytfdcolicpfellaa.ReadPure Go.Proofs.Ytfdcolicpfellaa.PBitsWritesPure

theorem same22 {ks : Nat} {l : List Int} {m : Nat} (hk : PBitsWrites.satchellaw05_same.f ks l l = some true) (hm : m = l.length) (W : World) (A1 A2 : Option Addr) (c1 c2 : Nat) {B1 B2 : Nat} {P1 P2 : Nat → Prop} (h1 : Kd.R (Kd.int .u8) 5 W B1 P1 (.slice A1 m c1) l) (h2 : Kd.R (Kd.int .u8) 5 W B2 P2 (.slice A2 m c2) l) :
    Calls Try.prog 22 #[.slice A1 m c1, .slice A2 m c2] W fun e w' => e = .returned (.bool true) ∧ ∃ m, w' = W.drewN m := by
  have r1 := Kd.R_reads' h1
  have r2 := Kd.R_reads' h2
  subst hm
  exact (PBitsWrites.satchellaw05_same.calls ks A1 c1 l A2 c2 l true W r1.2.2 r1.2.1 r2.2.2 r2.2.1 hk).mono fun _ _ ⟨he, ⟨⟨m, hm⟩⟩⟩ => ⟨he, m, hm⟩

set_option maxHeartbeats 8000000 in
set_option maxRecDepth 100000 in
theorem bitsReads (w : World) (A0 : Option Addr) (c0 : Nat) (bs : List Int) (A : Option Addr) (c : Nat) (l : List OpS) (hr0 : Kd.C (Kd.int .u8) w A0 bs.length bs) (hc0 : bs.length ≤ c0) (hbs : ∀ x ∈ bs, 0 ≤ x ∧ x < 256) (hbl : bs.length ≤ 1048576)
    (hr : Kd.C kOp w A l.length l) (hc : l.length ≤ c) (hwf : ∀ x ∈ l, -9223372036854775808 ≤ x.n ∧ x.n ≤ 9223372036854775807) (hlen : l.length ≤ 1125899906842624) :
    Calls Try.prog 4 #[.slice A0 bs.length c0, .slice A l.length c] w fun e w' => e = .returned (.bool true) ∧ Below w.heap.size w w' := by
  obtain ⟨n, hn⟩ : ∃ n, n = l.length := ⟨_, rfl⟩
  rw [← hn] at hr hc hlen ⊢
  obtain ⟨m, hm⟩ : ∃ m, m = bs.length := ⟨_, rfl⟩
  have hcl := lent w A0 c0 bs hr0 hc0 (by omega)
  obtain ⟨kb, hkb⟩ := (bits_f bs hbs (by omega)).rounds
  obtain ⟨kk, hkk⟩ := (kept_f bs (by omega)).rounds
  have hbits : ∀ W, Below w.heap.size w W → Calls Try.prog 24 #[.slice A0 bs.length c0] W fun e w' => ∃ v0_ : Value, e = .returned (v0_) ∧ Kd.R (Kd.int .u8) 5 w' W.heap.size (fun _ => True) v0_ ((unpack bs).map b2i) ∧ Below W.heap.size W w' := fun W hW => PBitsWrites.satchelref05_Bits.calls kb A0 c0 bs _ W (Kd.C_below hr0 hW) hc0 hkb
  have hkept : ∀ W, Below w.heap.size w W → ∀ ga cpa, Kd.R (Kd.int .u8) 5 W w.heap.size (fun _ => True) (.slice (some ⟨ga, 0, none⟩) (bs.length + 32) cpa) (bs ++ marks) → Calls Try.prog 17 #[.slice (some ⟨ga, 0, none⟩) (bs.length + 32) cpa, .slice A0 bs.length c0] W fun e w' => e = .returned (.bool true) ∧ ∃ nd, w' = W.drewN nd := fun W hW ga cpa ho => by
    have hrd := Kd.R_reads' ho
    have h := PBitsWrites.satchellaw05_kept.calls kk (some ⟨ga, 0, none⟩) cpa (bs ++ marks) A0 c0 bs true W hrd.2.2 (by rw [← hrd.1]; exact hrd.2.1) (Kd.C_below hr0 hW) hc0 hkk
    rw [← hrd.1] at h
    exact h.mono fun _ _ ⟨he, ⟨⟨m, hm⟩⟩⟩ => ⟨he, m, hm⟩
  rw [← hm] at hcl hbits hkept hbl ⊢
  have HM := Aside0.mk hm
  have HN := Aside0.mk hn
  have HR := Aside0.mk hr
  have HWf := Aside0.mk hwf
  have HLen := Aside0.mk hlen
  have HBl := Aside0.mk hbl
  have HBs := Aside0.mk hbs
  have HLent := Aside0.mk hcl
  have HBits := Aside0.mk hbits
  have HKept := Aside0.mk hkept
  have nb : (n : Int) ≤ 9223372036854775807 := by omega
  clear hn hr hc hwf hlen hm hr0 hc0 hbs hbl hcl hkb hkk hbits hkept
  go_enter Try.func4, Try.ntmps4
  go_wp2_with fail
  refine HLent.out.mono ?_
  rintro e wl ⟨ga, cpa, rfl, hal, hbl⟩
  have hc3 := Kd.R_take (m := m) hal (by rw [List.length_append, ← HM.out]; omega)
  rw [HM.out, List.take_left' rfl, ← HM.out] at hc3
  have hrd3 := Kd.R_reads' hc3
  have hnr := newReader (some ⟨ga, 0, none⟩) cpa bs wl hrd3.2.2 (by rw [← HM.out]; exact hrd3.2.1) (by have := HBl.out; have := HM.out; omega)
  rw [← HM.out] at hnr
  have HNr := Aside0.mk hnr
  have HAl := Aside0.mk hal
  have HBL := Aside0.mk hbl
  clear hal hbl hc3 hrd3 hnr
  go_wp2_with fail
  refine HNr.out.mono ?_
  rintro e wp ⟨w1, rfl, hip, hb1, hbp⟩
  have hbw1 := below_then HBL.out (below_size HBL.out) hb1
  have hbwp := below_then hbw1 (below_size hbw1) hbp
  have HIp := Aside0.mk hip
  have HB1 := Aside0.mk hb1
  have HBp := Aside0.mk hbp
  have HBw1 := Aside0.mk hbw1
  have HBwp := Aside0.mk hbwp
  clear hip hb1 hbp hbw1 hbwp
  go_wp2_with fail
  refine (HBits.out _ HBwp.out).mono ?_
  rintro e w2 ⟨vd, rfl, hrd, hb2⟩
  obtain ⟨A2, c2, rfl⟩ := Kd.R_slice hrd
  obtain ⟨mm, hmm⟩ : ∃ mm, mm = ((unpack bs).map b2i).length := ⟨_, rfl⟩
  rw [← hmm]
  have HMm := Aside0.mk hmm
  clear hmm
  have HRd := Aside0.mk hrd
  have HB2 := Aside0.mk hb2
  clear hrd hb2
  go_wp2
  have hba : RBase w w1 w2 bs A2 c2 := ⟨HBw1.out, Nat.lt_of_lt_of_le HIp.out.lt HB2.out.size, Kd.R_lower HRd.out HIp.out.lt, HBs.out, by have := HM.out; have := HBl.out; omega⟩
  have hp2 : IsS85 w1 w2 w1.heap.size bs 0 := HIp.out.below HB2.out
  have hal2 := Kd.R_below (Kd.R_below (Kd.R_below HAl.out HB1.out) HBp.out) HB2.out
  have hst : RSt w w1 w2 bs A2 c2 ga cpa (w2.alloc (.cells #[.slice A2 mm c2, .int .i64 0] 48)) 0 0 := by
   rw [HMm.out]
   exact ⟨by simpa using hp2.alloc _, below_alloc (below_then HBp.out (below_size HBp.out) HB2.out) _, Kept.of_below (below_alloc (Below.refl _ _) _) _, by simpa using heap_alloc_new w2 (.cells #[.slice A2 ((unpack bs).map b2i).length c2, .int .i64 0] 48), by rw [← HM.out]; exact Kd.R_below hal2 (below_alloc (Below.refl _ _) _), Nat.zero_le _⟩
  have HBa := Aside0.mk hba
  have HSt := Aside0.mk hst
  clear hba hp2 hal2 hst
  go_loopw [9] (fun v9 wr => ∃ (i at_ : Nat), v9 = .int .i64 i ∧ i ≤ n ∧ Aside0 (RSt w w1 w2 bs A2 c2 ga cpa wr at_ at_)) (fun v9 _ => n - (intOf v9).toNat)
  case atStart =>
    exact ⟨0, 0, rfl, Nat.zero_le _, HSt⟩
  case round =>
    obtain ⟨i, at_, rfl, hi, HS⟩ := hrel
    by_cases hlt : (i : Int) < (n : Int)
    · obtain ⟨ad, x, Bx, cb, rfl, hx, o0, o1, o2, o3, hxc, hxr⟩ := op_at HR.out i (by omega)
      have hxm : x ∈ l := List.mem_of_getElem? hx
      have hv := HWf.out x hxm
      have hwr := HS.out.b HBa.out
      have r0 := (hwr.cell (World.block_lt_of_cell? w _ o0)).trans o0
      have r1 := (hwr.cell (World.block_lt_of_cell? w _ o1)).trans o1
      have HX := Aside0.mk hx
      have HV := Aside0.mk hv
      have O1 := Aside0.mk o1
      have HAt := Aside0.mk HS.out.ap_le
      have hi1 : (0 : Int) ≤ (i : Int) := by omega
      clear hx hxm hv hxr hxc o0 o1 o2 o3 hwr
      go_upto_block 2 with (fail)
      go_cut [] (fun wc => ∃ (at_ : Nat), Aside0 (RSt w w1 w2 bs A2 c2 ga cpa wc at_ at_))
      case first =>
        by_cases k0 : x.kind = 0
        · have e0 : (x.kind == 0) = true := beq_iff_eq.2 k0
          obtain ⟨q, hq, hql⟩ := takeV_at (unpack bs) at_ x.n (by rw [unpack_length]; exact HAt.out)
          rw [unpack_length] at hql
          have ht1 := take_any w1 wr w1.heap.size bs HBs.out HBa.out.len at_ HAt.out x.n HV.out HS.out.p HS.out.pb
          have ht2 : ∀ W, RSt w w1 w2 bs A2 c2 ga cpa W q at_ → _ := fun W hW => @rtake_any ⟨A2, c2⟩ (cutTo W w2.heap.size) W w2.heap.size bs HBa.out.len at_ HAt.out x.n HV.out (hW.pre HBa.out).1 (hW.pre HBa.out).2
          rw [hq] at ht1
          rw [hq] at ht2
          obtain ⟨t1, ht⟩ : ∃ t, t = (takeV (unpack bs) at_ x.n).1 := ⟨_, rfl⟩
          obtain ⟨t2, htt⟩ : ∃ t, t = (takeV (unpack bs) at_ x.n).2.1 := ⟨_, rfl⟩
          rw [← ht, ← htt] at ht1
          rw [← ht, ← htt] at ht2
          have HT1 := Aside0.mk ht1
          have HT2 := Aside0.mk ht2
          have HQl := Aside0.mk hql
          clear k0 hq hql ht htt ht1 ht2
          go_wp2_with (first
            | (go_at_call 25; refine HT1.out.mono ?_; rintro e w4 ⟨rfl, hi4, hb4, hk4⟩; have hs4 := HS.out.code HBa.out hi4 HQl.out hb4 hk4; have q1 := ((hs4.b HBa.out).cell (World.block_lt_of_cell? w _ O1.out)).trans O1.out; have HS4 := Aside0.mk hs4; clear hi4 hb4 hk4 hs4)
            | (go_at_call 26; refine (HT2.out w4 HS4.out).mono ?_; rintro e w5 ⟨rfl, hi5, hb5, hk5⟩; have hs5 := HS4.out.doc HBa.out hi5 hb5 hk5; have HS5 := Aside0.mk hs5; clear hi5 hb5 hk5 hs5))
          go_meet
          case rel => exact ⟨q, HS5⟩
        · have e0 : (x.kind == 0) = false := beq_eq_false_iff_ne.2 k0
          by_cases k1 : x.kind = 1
          · have e1 : (x.kind == 1) = true := beq_iff_eq.2 k1
            have ht1 := align_any w1 wr w1.heap.size bs HBa.out.len at_ HAt.out HS.out.p HS.out.pb
            have ht2 : ∀ W, RSt w w1 w2 bs A2 c2 ga cpa W ((at_ + 7) / 8 * 8) at_ → _ := fun W hW => @ralign_any ⟨A2, c2⟩ (cutTo W w2.heap.size) W w2.heap.size bs HBa.out.len at_ HAt.out (hW.pre HBa.out).1 (hW.pre HBa.out).2
            have HT1 := Aside0.mk ht1
            have HT2 := Aside0.mk ht2
            clear k0 k1 ht1 ht2
            go_wp2_with (first
              | (go_at_call 27; refine HT1.out.mono ?_; rintro e w4 ⟨rfl, hi4, hb4, hk4⟩; have hs4 := HS.out.code HBa.out hi4 (by have := HAt.out; omega) hb4 hk4; have HS4 := Aside0.mk hs4; clear hi4 hb4 hk4 hs4)
              | (go_at_call 28; refine (HT2.out w4 HS4.out).mono ?_; rintro e w5 ⟨rfl, hi5, hb5, hk5⟩; have hs5 := HS4.out.doc HBa.out hi5 hb5 hk5; have HS5 := Aside0.mk hs5; clear hi5 hb5 hk5 hs5))
            go_meet
            case rel => exact ⟨_, HS5⟩
          · have e1 : (x.kind == 1) = false := beq_eq_false_iff_ne.2 k1
            by_cases k2 : x.kind = 2
            · have e2 : (x.kind == 2) = true := beq_iff_eq.2 k2
              obtain ⟨hql, hxl⟩ := bytesV_at bs at_ x.n HAt.out
              have ht1 := bytes_any w1 wr w1.heap.size bs HBa.out.len at_ HAt.out x.n HS.out.p HS.out.pb
              have ht2 : ∀ W, RSt w w1 w2 bs A2 c2 ga cpa W (bytesV bs at_ x.n).2.2 at_ → _ := fun W hW => @rbytes_any ⟨A2, c2⟩ (cutTo W w2.heap.size) W w2.heap.size bs HBs.out HBa.out.len at_ HAt.out x.n (hW.pre HBa.out).1 (hW.pre HBa.out).2
              obtain ⟨t, ht⟩ : ∃ t, t = bytesV bs at_ x.n := ⟨_, rfl⟩
              rw [← ht] at ht1 hql hxl
              rw [← ht] at ht2
              obtain ⟨t1, t2, q⟩ := t
              dsimp only at ht1 ht2 hql hxl
              obtain ⟨xl, hxl'⟩ : ∃ xl, xl = t1.length := ⟨_, rfl⟩
              obtain ⟨ks, hks⟩ := (same_f t1 t1 (by have := HBa.out.len; omega)).rounds
              rw [decide_eq_true rfl] at hks
              obtain ⟨kf, hkf⟩ := (full_f t1 3 (by have := HBa.out.len; omega)).rounds
              have HXl := Aside0.mk hxl'
              have HKs := Aside0.mk hks
              have HKf := Aside0.mk hkf
              have HT1 := Aside0.mk ht1
              have HT2 := Aside0.mk ht2
              have HQl := Aside0.mk hql
              clear k0 k1 k2 ht hql hxl hxl' hks hkf ht1 ht2
              go_wp2_with (first
                | (go_at_call 29; refine HT1.out.mono ?_; rintro e w4 ⟨vx, rfl, hx4, hi4, hb4, hk4⟩; obtain ⟨Ax, cx, rfl⟩ := Kd.R_slice hx4; rw [← HXl.out] at hx4 ⊢; have hs4 := HS.out.code HBa.out hi4 HQl.out hb4 hk4; have q1 := ((hs4.b HBa.out).cell (World.block_lt_of_cell? w _ O1.out)).trans O1.out; have HS4 := Aside0.mk hs4; have HX4 := Aside0.mk hx4; clear hi4 hb4 hk4 hs4 hx4)
                | (go_at_call 30; refine (HT2.out w4 HS4.out).mono ?_; rintro e w5 ⟨vy, rfl, hy5, hi5, hb5, hk5⟩; obtain ⟨Ay, cy, rfl⟩ := Kd.R_slice hy5; rw [← HXl.out] at hy5 ⊢; have hs5 := HS4.out.doc HBa.out hi5 hb5 hk5; have hx5 := Kd.R_mono (Kd.R_keep (Kd.R_types HX4.out HS4.out.dblk (by decide)) hk5 (fun k hk => hk.2)) (fun _ _ => (trivial : (fun _ : Nat => True) _)); have HS5 := Aside0.mk hs5; have HX5 := Aside0.mk hx5; have HY5 := Aside0.mk hy5; clear hi5 hb5 hk5 hs5 hx5 hy5)
                | (go_at_call 22; refine (same22 HKs.out HXl.out w5 Ax Ay cx cy HX5.out HY5.out).mono ?_; rintro e w6 ⟨rfl, nd, rfl⟩)
                | (go_at_call 18; refine (PBitsWrites.satchellaw05_full.calls kf (fun k => some k = (Value.slice Ax xl cx).ownBlock) _ t1 3 w1 _ (pw_below_drewN HS5.out.pb nd) (Kd.R_tight rfl (Kd.R_drewN (Kd.R_lower HX5.out HS.out.pb.size) nd)) HKf.out).mono ?_; rintro e w7 ⟨rfl, hb7, hk7⟩; have hs7 := RSt.wrote HS.out (HS5.out.drewN nd) HBa.out hk7 (fun k hk => Kd.R_base HX4.out k hk.symm) hb7; have HS7 := Aside0.mk hs7; clear hb7 hk7 hs7))
              go_meet
              case rel => exact ⟨q, HS7⟩
            · have e2 : (x.kind == 2) = false := beq_eq_false_iff_ne.2 k2
              clear k0 k1 k2
              go_wp2
              go_meet
              case rel => exact ⟨at_, HS⟩
      case rest =>
        clear HS HAt r0 r1
        obtain ⟨at_, HS⟩ := hcut
        have HAt := Aside0.mk HS.out.ap_le
        obtain ⟨rr, hrr⟩ : ∃ r, r = 8 * bs.length - at_ := ⟨_, rfl⟩
        have hl1 := left_q w1 wc w1.heap.size bs at_ HS.out.p HAt.out (by have := HBa.out.len; omega)
        have hl2 : ∀ nd, Calls Try.prog 32 #[.pointer (some ⟨w2.heap.size, 0, none⟩)] (wc.drewN nd) fun e w' => e = .returned (.int .i64 (rr : Int)) ∧ ∃ m, w' = (wc.drewN nd).drewN m := fun nd => by
          have h := @rleft_q ⟨A2, c2⟩ (cutTo (wc.drewN nd) w2.heap.size) (wc.drewN nd) w2.heap.size ((unpack bs).map b2i) at_ ((HS.out.drewN nd).pre HBa.out).1 (by rw [List.length_map, unpack_length]; exact HAt.out) (by rw [List.length_map, unpack_length]; have := HBa.out.len; omega)
          rw [List.length_map, unpack_length, ← hrr] at h
          exact h
        rw [← hrr] at hl1
        have HL1 := Aside0.mk hl1
        have HL2 := Aside0.mk hl2
        clear hrr hl1 hl2
        go_wp2_with (first
          | (go_at_call 31; refine HL1.out.mono ?_; rintro e w4 ⟨rfl, n4, rfl⟩)
          | (go_at_call 32; refine (HL2.out n4).mono ?_; rintro e w5 ⟨rfl, n5, rfl⟩)
          | (go_at_call 17; refine (HKept.out _ ((HS.out.drewN (n4 + n5)).b HBa.out) ga cpa (by have h := (HS.out.drewN (n4 + n5)).all; rw [← HM.out] at h; exact h)).mono ?_; rintro e w6 ⟨rfl, n6, rfl⟩))
        go_roundw
        case measure => simp [intOf]; omega
        case rel => exact ⟨i + 1, at_, rfl, by omega, ⟨by first | exact HS.out.drewN _ | exact (HS.out.drewN _).drewN _⟩⟩
    · have HAt := Aside0.mk HS.out.ap_le
      obtain ⟨rr, hrr⟩ : ∃ r, r = 8 * bs.length - at_ := ⟨_, rfl⟩
      have hl1 := left_q w1 wr w1.heap.size bs at_ HS.out.p HAt.out (by have := HBa.out.len; omega)
      have hl2 : ∀ nd, Calls Try.prog 32 #[.pointer (some ⟨w2.heap.size, 0, none⟩)] (wr.drewN nd) fun e w' => e = .returned (.int .i64 (rr : Int)) ∧ ∃ m, w' = (wr.drewN nd).drewN m := fun nd => by
        have h := @rleft_q ⟨A2, c2⟩ (cutTo (wr.drewN nd) w2.heap.size) (wr.drewN nd) w2.heap.size ((unpack bs).map b2i) at_ ((HS.out.drewN nd).pre HBa.out).1 (by rw [List.length_map, unpack_length]; exact HAt.out) (by rw [List.length_map, unpack_length]; have := HBa.out.len; omega)
        rw [List.length_map, unpack_length, ← hrr] at h
        exact h
      rw [← hrr] at hl1
      have HL1 := Aside0.mk hl1
      have HL2 := Aside0.mk hl2
      clear hrr hl1 hl2
      go_wp2_with (first
        | (go_at_call 31; refine HL1.out.mono ?_; rintro e w4 ⟨rfl, n4, rfl⟩)
        | (go_at_call 32; refine (HL2.out n4).mono ?_; rintro e w5 ⟨rfl, n5, rfl⟩))
      go_ret
      exact ⟨by first | rfl | simp, (HS.out.drewN (n4 + n5)).b HBa.out⟩
end Go.Proofs.Ytfdcolicpfellaa.Mach
