/-
  The document's Reader.Bytes; Left of both readers as quiet calls.
-/
import Derived.Test.YtfdcolicpfellaaReaders
import Derived.BigQuiet
set_option linter.unusedVariables false
set_option linter.unusedSimpArgs false
namespace Go.Proofs.Ytfdcolicpfellaa.Mach
open Go.RowKit Go.Proofs.YtfdcolicpfellaaW.PrintWords Go.Proofs.YtfdcolicpfellaaW.PrintLast Go.Proofs.YtfdcolicpfellaaW.PrintMore Go.Proofs.Ytfdcolicpfellaa.Pack Go.Proofs.Ytfdcolicpfellaa.PBitsReads Go.Proofs.Ytfdcolicpfellaa.ReadPure Go.Proofs.Ytfdcolicpfellaa.PBitsWritesPure

set_option maxHeartbeats 1000000 in
set_option maxRecDepth 100000 in
theorem left_q (w0 w : World) (g : Nat) (bs : List Int) (at_ : Nat) (hI : IsS85 w0 w g bs at_) (hat : at_ ≤ 8 * bs.length) (hl : bs.length ≤ 17592186044416) :
    Calls Try.prog 31 #[.pointer (some ⟨g, 0, none⟩)] w fun e w' => e = .returned (.int .i64 ((8 * bs.length - at_ : Nat) : Int)) ∧ ∃ m, w' = w.drewN m := by
  obtain ⟨A0, cap, hb, hg, hC⟩ := hI
  have q0 := cellS85_0 hb
  have q1 := cellS85_1 hb
  obtain ⟨m, hm⟩ : ∃ m, m = bs.length := ⟨_, rfl⟩
  rw [← hm] at q0 hat hl ⊢
  have e1 : (8 : Int) * m ≤ 9223372036854775807 := by omega
  have e2 : (8 : Int) * m - at_ ≤ 9223372036854775807 := by omega
  have e3 : 0 ≤ (8 : Int) * m - at_ := by omega
  have e4 : (((8 * m - at_ : Nat) : Int)) = (8 : Int) * m - at_ := by omega
  have HE := Aside0.mk e4
  clear hb hg hC hm hl hat e4
  go_enter Try.func31, Try.ntmps31
  go_wp2
  repeat (go_quiet (fail); try go_wp2)
  go_ret
  exact ⟨by rw [HE.out]; rfl, _, rfl⟩

set_option linter.unusedSectionVars false
variable [Fix]
set_option maxHeartbeats 1000000 in
set_option maxRecDepth 100000 in
theorem rleft_q (w0 w : World) (g : Nat) (bs : List Int) (at_ : Nat) (hI : IsS48 w0 w g bs at_) (hat : at_ ≤ bs.length) (hl : bs.length ≤ 140737488355328) :
    Calls Try.prog 32 #[.pointer (some ⟨g, 0, none⟩)] w fun e w' => e = .returned (.int .i64 ((bs.length - at_ : Nat) : Int)) ∧ ∃ m, w' = w.drewN m := by
  obtain ⟨A0, cap, hb, hg, hC⟩ := hI
  have q0 := cellS48_0 hb
  have q1 := cellS48_1 hb
  obtain ⟨m, hm⟩ : ∃ m, m = bs.length := ⟨_, rfl⟩
  rw [← hm] at q0 hat hl ⊢
  have e2 : (m : Int) - at_ ≤ 9223372036854775807 := by omega
  have e3 : 0 ≤ (m : Int) - at_ := by omega
  have e4 : (((m - at_ : Nat) : Int)) = (m : Int) - at_ := by omega
  have HE := Aside0.mk e4
  clear hb hg hC hm hl hat e4
  go_enter Try.func32, Try.ntmps32
  go_wp2
  repeat (go_quiet (fail); try go_wp2)
  go_ret
  exact ⟨by rw [HE.out]; rfl, _, rfl⟩

set_option maxHeartbeats 1000000 in
set_option maxRecDepth 100000 in
theorem rbytes_neg (w0 w : World) (g : Nat) (M : List Int) (at_ : Nat) (n : Int) (hI : IsS48 w0 w g M at_) (hB : Below w0.heap.size w0 w) (hat : at_ ≤ 1407374883553) (hn : n < 0) :
    Calls Try.prog 30 #[.pointer (some ⟨g, 0, none⟩), .int .i64 n] w fun e w' => e = .returned (.tuple #[.slice none 0 0, .int .i64 1]) ∧ IsS48 w0 w' g M (((at_ + 7) / 8 : Nat) * 8) ∧ Below w0.heap.size w0 w' ∧ KeepBut w w' g none := by
  obtain ⟨ka, hka⟩ := (ralign_f M at_ hat).rounds
  rw [show (((at_ + 7) / 8 * 8 : Nat) : Int) = ((at_ + 7) / 8 : Nat) * 8 by omega] at hka
  have HA := Aside0.mk hka
  have HI := Aside0.mk hI
  have HB := Aside0.mk hB
  have f1 : decide (n < 0) = true := decide_eq_true hn
  clear hI hB hat hn hka
  go_enter Try.func30, Try.ntmps30
  go_wp2_with (go_at_call 28; refine (satchelref05_Reader_Align.calls ka g M at_ _ w0 _ HI.out HB.out HA.out).mono ?_; rintro e w1 ⟨rfl, hi1, hb1, hk1⟩; have HI1 := Aside0.mk hi1; have HB1 := Aside0.mk hb1; have HK1 := Aside0.mk hk1; clear hi1 hb1 hk1)
  go_ret2
  exact ⟨rfl, HI1.out, HB1.out, HK1.out⟩

set_option maxHeartbeats 1000000 in
set_option maxRecDepth 100000 in
theorem rbytes_short (w0 w : World) (g : Nat) (M : List Int) (at_ p : Nat) (n : Int) (hI : IsS48 w0 w g M at_) (hB : Below w0.heap.size w0 w) (hp : p = (at_ + 7) / 8) (hpm : p * 8 ≤ M.length) (hl : M.length ≤ 1407374883553) (hn : 0 ≤ n) (hs : ((M.length : Int) - p * 8) / 8 < n) :
    Calls Try.prog 30 #[.pointer (some ⟨g, 0, none⟩), .int .i64 n] w fun e w' => e = .returned (.tuple #[.slice none 0 0, .int .i64 50]) ∧ IsS48 w0 w' g M ((p : Int) * 8) ∧ Below w0.heap.size w0 w' ∧ KeepBut w w' g none := by
  obtain ⟨ka, hka⟩ := (ralign_f M at_ (by omega)).rounds
  rw [show (((at_ + 7) / 8 * 8 : Nat) : Int) = (p : Int) * 8 by omega] at hka
  have HA := Aside0.mk hka
  have HI := Aside0.mk hI
  have HB := Aside0.mk hB
  obtain ⟨m, hm⟩ : ∃ m, m = M.length := ⟨_, rfl⟩
  rw [← hm] at hs hl hpm
  have HM := Aside0.mk hm
  have f1 : decide (n < 0) = false := decide_eq_false (by omega)
  have f2 : decide (((m : Int) - (p : Int) * 8) / 8 < n) = true := decide_eq_true hs
  have e2 : (m : Int) - (p : Int) * 8 ≤ 9223372036854775807 := by omega
  have e3 : 0 ≤ (m : Int) - (p : Int) * 8 := by omega
  clear hI hB hn hka hs hl hpm hm hp
  go_enter Try.func30, Try.ntmps30
  go_wp2_with (go_at_call 28; refine (satchelref05_Reader_Align.calls ka g M at_ _ w0 _ HI.out HB.out HA.out).mono ?_; rintro e w1 ⟨rfl, hi1, hb1, hk1⟩; have HI1 := Aside0.mk hi1; have HB1 := Aside0.mk hb1; have HK1 := Aside0.mk hk1; obtain ⟨A1, cp1, hbb1, hg1, hC1⟩ := id hi1; have p0 := cellS48_0 hbb1; rw [← HM.out] at p0; have p1 := cellS48_1 hbb1; clear hi1 hb1 hk1 hbb1 hg1 hC1)
  go_quiet (fail)
  go_wp2
  go_ret2
  exact ⟨rfl, HI1.out.drewN _, pw_below_drewN HB1.out _, keep_drewN HK1.out _⟩

theorem bytes20 {kb n : Nat} {L : List Bool} (hk : PBitsWrites.satchelref05_Bytes.f kb (L.map b2i) = some (pack L)) (hn : L.length = n) (A : Option Addr) (c : Nat) (w : World) (hr : Kd.C (Kd.int .u8) w A n (L.map b2i)) (hc : n ≤ c) :
    Calls Try.prog 20 #[.slice A n c] w fun e w' => ∃ v, e = .returned v ∧ Kd.R (Kd.int .u8) 5 w' w.heap.size (fun _ => True) v (pack L) ∧ Below w.heap.size w w' := by
  subst hn
  have h := PBitsWrites.satchelref05_Bytes.calls kb A c (L.map b2i) (pack L) w (by rw [List.length_map]; exact hr) (by rw [List.length_map]; exact hc) hk
  rw [List.length_map] at h
  exact h

set_option maxHeartbeats 2000000 in
set_option maxRecDepth 100000 in
theorem rbytes_good (w0 w : World) (g : Nat) (L : List Bool) (at_ p n : Nat) (hI : IsS48 w0 w g (L.map b2i) at_) (hB : Below w0.heap.size w0 w) (hp : p = (at_ + 7) / 8) (hpm : p * 8 + 8 * n ≤ L.length) (hl : L.length ≤ 1407374883553) :
    Calls Try.prog 30 #[.pointer (some ⟨g, 0, none⟩), .int .i64 n] w fun e w' => ∃ v, e = .returned (.tuple #[v, .int .i64 0]) ∧ Kd.R (Kd.int .u8) 5 w' w.heap.size (fun _ => True) v (pack ((L.drop (p * 8)).take (8 * n))) ∧ IsS48 w0 w' g (L.map b2i) ((p : Int) * 8 + 8 * n) ∧ Below w0.heap.size w0 w' ∧ KeepBut w w' g none := by
  obtain ⟨ka, hka⟩ := (ralign_f (L.map b2i) at_ (by omega)).rounds
  rw [show (((at_ + 7) / 8 * 8 : Nat) : Int) = (p : Int) * 8 by omega] at hka
  have hge := hI.ge
  have HA := Aside0.mk hka
  have HI := Aside0.mk hI
  have HB := Aside0.mk hB
  have HG := Aside0.mk hge
  obtain ⟨kb, hkb⟩ := (bytes_f ((L.drop (p * 8)).take (8 * n)) (by simp; omega)).rounds
  have HKb := Aside0.mk hkb
  have hlt : ((L.drop (p * 8)).take (8 * n)).length = 8 * n := by simp; omega
  have HLt := Aside0.mk hlt
  have HPm := Aside0.mk hpm
  have HL := Aside0.mk hl
  obtain ⟨m, hm⟩ : ∃ m, m = (L.map b2i).length := ⟨_, rfl⟩
  have HM := Aside0.mk hm
  rw [List.length_map] at hm
  have f1 : decide ((n : Int) < 0) = false := decide_eq_false (by omega)
  have f2 : decide (((m : Int) - (p : Int) * 8) / 8 < n) = false := decide_eq_false (by omega)
  have e2 : (m : Int) - (p : Int) * 8 ≤ 9223372036854775807 := by omega
  have e3 : 0 ≤ (m : Int) - (p : Int) * 8 := by omega
  have e4 : (p : Int) * 8 + 8 * (n : Int) ≤ 9223372036854775807 := by omega
  have e5 : IntKind.i64.wrap (8 * (n : Int)) = 8 * (n : Int) := by rw [IntKind.wrap_i64]; omega
  have e6 : IntKind.i64.wrap ((p : Int) * 8 + 8 * (n : Int)) = (p : Int) * 8 + 8 * (n : Int) := by rw [IntKind.wrap_i64]; omega
  clear hI hB hka hl hpm hm hp hkb hlt hge
  go_enter Try.func30, Try.ntmps30
  go_wp2_with (go_at_call 28; refine (satchelref05_Reader_Align.calls ka g (L.map b2i) at_ _ w0 _ HI.out HB.out HA.out).mono ?_; rintro e w1 ⟨rfl, hi1, hb1, hk1⟩; have HI1 := Aside0.mk hi1; have HB1 := Aside0.mk hb1; have HK1 := Aside0.mk hk1; obtain ⟨A1, cp1, hbb1, hg1, hC1⟩ := id hi1; have p0 := cellS48_0 hbb1; have p1 := cellS48_1 hbb1; have z1 := blk_frozen hbb1 1; obtain ⟨A2, cp2, hsl, hC2, hcp2⟩ := cut_reads w0 (L.map b2i) (p * 8) (8 * n) (by rw [List.length_map]; exact HPm.out) (by rw [List.length_map]; have := HL.out; omega) A1 cp1 ⟨hC1.1, hC1.2.1⟩; rw [← HM.out] at p0 hsl; push_cast at hsl; rw [← List.map_drop, ← List.map_take] at hC2; have HC2 := Aside0.mk hC2; have HCp := Aside0.mk hcp2; clear hi1 hb1 hk1 hbb1 hg1 hC1 hC2 hcp2)
  go_quiet (fail)
  go_wp2
  go_region_held3 (fun w' => w'.cell? ⟨g, 0, none⟩ = some (.slice A1 m cp1) ∧ w'.cell? ⟨g, 1, none⟩ = some (.int .i64 ((p : Int) * 8))) (first | go_keep | exact ⟨p0, p1⟩ | exact ⟨(HB2.out.cell (World.block_lt_of_cell? w1 _ p0)).trans p0, (HB2.out.cell (World.block_lt_of_cell? w1 _ p1)).trans p1⟩)
    (first | (go_at_call 20; refine (bytes20 HKb.out HLt.out A2 cp2 _ (Kd.C_below HC2.out (pw_below_drewN HB1.out _)) HCp.out).mono ?_; rintro e w2 ⟨u, rfl, hu, hb2⟩; have HU := Aside0.mk hu; have HB2 := Aside0.mk hb2; clear hu hb2))
  have hi2 := (HI1.out.drewN (nq + 1)).below HB2.out
  have HI2 := Aside0.mk hi2
  obtain ⟨A3, cp3, hb3, hg3, hC3⟩ := hi2
  have s1 := cellS48_1 hb3
  have z3 := blk_frozen hb3 1
  have HBk := Aside0.mk hb3
  clear hb3 hg3 hC3
  go_wp2
  go_ret2
  have hb0 := pw_below_drewN HB1.out (nq + 1)
  have hb1 := below_set (j := 1) (v := .int .i64 ((p : Int) * 8 + 8 * (n : Int))) (below_then hb0 (below_size hb0) HB2.out) HG.out
  have hk1 := (keep_drewN HK1.out (nq + 1)).trans (KeepBut.of_below HB2.out g none) (.inl rfl)
  exact ⟨u, rfl, Kd.R_set (Kd.R_lower HU.out HK1.out.1) HBk.out (by decide) 1 _, HI2.out.set_1 _, hb1, hk1.set_ 1 _⟩
end Go.Proofs.Ytfdcolicpfellaa.Mach
