/-
  bits.NewReader, and Reader.Bytes of the code and of the document.
-/
import Derived.Test.YtfdcolicpfellaaLent
import Derived.Test.YtfdcolicpfellaaReadPure
import Derived.BigRegion
import Derived.RegionTactic
set_option linter.unusedVariables false
set_option linter.unusedSimpArgs false
namespace Go.Proofs.Ytfdcolicpfellaa.Mach
open Go.RowKit Go.Proofs.YtfdcolicpfellaaW.PrintWords Go.Proofs.YtfdcolicpfellaaW.PrintLast Go.Proofs.YtfdcolicpfellaaW.PrintMore Go.Proofs.Ytfdcolicpfellaa.Pack Go.Proofs.Ytfdcolicpfellaa.PBitsReads Go.Proofs.Ytfdcolicpfellaa.ReadPure

theorem keep_kept {w w' : World} {g : Nat} (h : KeepBut w w' g none) : Kept w w' (fun k => k = g) := ⟨h.1, fun i hi hn => h.2 i hi hn (by simp)⟩

set_option maxHeartbeats 1000000 in
theorem newReader (A : Option Addr) (c : Nat) (l : List Int) (w : World) (hr : Kd.C (Kd.int .u8) w A l.length l) (hc : l.length ≤ c) (hl : l.length ≤ 140737488355328) :
    Calls Try.prog 23 #[.slice A l.length c] w fun e w' => ∃ w1, e = .returned (.pointer (some ⟨w1.heap.size, 0, none⟩)) ∧ IsS85 w1 w' w1.heap.size l 0 ∧ Below w.heap.size w w1 ∧ Below w1.heap.size w1 w' := by
  have hcl := clone A c l w hr hc hl
  obtain ⟨m, hm⟩ : ∃ m, m = l.length := ⟨_, rfl⟩
  rw [← hm] at hcl ⊢
  have HC := Aside0.mk hcl
  have HM := Aside0.mk hm
  clear hr hc hl hcl hm
  go_enter Try.func23, Try.ntmps23
  go_wp2_with (go_at_call 44; refine HC.out.mono ?_; rintro e w1 ⟨u, rfl, hr, hb⟩; obtain ⟨A1, c1, rfl⟩ := Kd.R_slice hr; have hrd := Kd.R_reads' hr; have HR := Aside0.mk hrd; have HB := Aside0.mk hb; clear hr hb hrd)
  go_ret
  exact ⟨w1, rfl, IsS85.new w1 w1 A1 c1 l 0 (Below.refl _ _) ⟨HR.out.2.2, HR.out.2.1⟩, HB.out, below_alloc (Below.refl _ _) _⟩

theorem rw1 (at_ p : Nat) (hp : p = (at_ + 7) / 8) (h : at_ ≤ 140737488355328) : (at_ : Int) + 7 ≤ 9223372036854775807 ∧ ((at_ : Int) + 7) / 8 = (p : Int) ∧ (p : Int) * 8 ≤ 9223372036854775807 := by omega
set_option maxHeartbeats 1000000 in
theorem bytes_neg (w0 w : World) (g : Nat) (bs : List Int) (at_ : Nat) (n : Int) (hI : IsS85 w0 w g bs at_) (hB : Below w0.heap.size w0 w) (hat : at_ ≤ 8 * bs.length) (hl : bs.length ≤ 17592186044416) (hn : n < 0) :
    Calls Try.prog 29 #[.pointer (some ⟨g, 0, none⟩), .int .i64 n] w fun e w' => e = .returned (.tuple #[.slice none 0 0, .int .i64 1]) ∧ IsS85 w0 w' g bs (((at_ + 7) / 8 : Nat) * 8) ∧ Below w0.heap.size w0 w' ∧ KeepBut w w' g none := by
  have hge := hI.ge
  obtain ⟨A0, c0, hb, hg, hC⟩ := id hI
  have c0 := cellS85_0 hb
  have c1 := cellS85_1 hb
  have z1 := blk_frozen hb 1
  obtain ⟨p, hp⟩ : ∃ p, p = (at_ + 7) / 8 := ⟨_, rfl⟩
  rw [← hp]
  obtain ⟨a1, a2, a3⟩ := rw1 at_ p hp (by omega)
  have HI := Aside0.mk hI
  have HB := Aside0.mk hB
  have HG := Aside0.mk hge
  have f1 : decide (n < 0) = true := decide_eq_true hn
  clear hI hB hb hg hC hat hl hge hn hp
  go_enter Try.func29, Try.ntmps29
  go_wp2
  go_ret2
  exact ⟨rfl, HI.out.set_1 _, below_set HB.out HG.out, (KeepBut.refl w g none).set_ _ _⟩

theorem left_f' (bs : List Int) (p r : Nat) (hr : r + p * 8 = 8 * bs.length) (hl : bs.length ≤ 17592186044416) : bits_Reader_left.f bs ((p : Int) * 8) = some ((r : Int), (p : Int) * 8) := by
  unfold bits_Reader_left.f
  rw [w64 (x := 8 * (bs.length : Int)) (by omega) (by omega), w64 (by omega) (by omega)]
  simp only [Option.some.injEq, Prod.mk.injEq, and_true]; omega
theorem info5' : ∃ i, Try.prog.info? 5 = some i ∧ i.size = 1 := by
  obtain ⟨o, ho⟩ : ∃ o, o = Try.prog.info? 5 := ⟨_, rfl⟩
  have h := info5
  rw [← ho] at h ⊢
  clear ho
  cases o with
  | none => cases h
  | some i => exact ⟨i, rfl, by simp only [Option.map_some, Option.some.injEq, Prod.mk.injEq] at h; exact h.2.1⟩

set_option maxHeartbeats 1000000 in
theorem bytes_short (w0 w : World) (g : Nat) (bs : List Int) (at_ : Nat) (n : Int) (hI : IsS85 w0 w g bs at_) (hB : Below w0.heap.size w0 w) (hat : at_ ≤ 8 * bs.length) (hl : bs.length ≤ 17592186044416) (hn : 0 ≤ n) (hs : (bs.length : Int) - ((at_ + 7) / 8 : Nat) < n) :
    Calls Try.prog 29 #[.pointer (some ⟨g, 0, none⟩), .int .i64 n] w fun e w' => e = .returned (.tuple #[.slice none 0 0, .int .i64 50]) ∧ IsS85 w0 w' g bs (((at_ + 7) / 8 : Nat) * 8) ∧ Below w0.heap.size w0 w' ∧ KeepBut w w' g none := by
  have hge := hI.ge
  obtain ⟨A0, cap, hb, hg, hC⟩ := id hI
  have c0 := cellS85_0 hb
  have c1 := cellS85_1 hb
  have z1 := blk_frozen hb 1
  obtain ⟨p, hp⟩ : ∃ p, p = (at_ + 7) / 8 := ⟨_, rfl⟩
  rw [← hp] at hs ⊢
  obtain ⟨r, hr⟩ : ∃ r, r = 8 * bs.length - 8 * p := ⟨_, rfl⟩
  have f1 : decide (n < 0) = false := decide_eq_false (by omega)
  have f2 : decide ((r : Int) / 8 < n) = true := decide_eq_true (by omega)
  have hpr : p ≤ 17592186044416 ∧ r ≤ 140737488355328 ∧ at_ ≤ 140737488355328 ∧ r + p * 8 = 8 * bs.length := ⟨by omega, by omega, by omega, by omega⟩
  obtain ⟨a1, a2, a3⟩ := rw1 at_ p hp hpr.2.2.1
  have a4 : (r : Int) ≤ 9223372036854775807 := by omega
  have EL := Aside0.mk (left_f' bs p r hpr.2.2.2 hl)
  have HI := Aside0.mk hI
  have HB := Aside0.mk hB
  have HG := Aside0.mk hge
  clear hI hB hb hg hC hat hl hge hn hp hs hr hpr
  go_enter Try.func29, Try.ntmps29
  go_wp2_with (go_at_call 45; refine (bits_Reader_left.calls g bs ((p : Int) * 8) _ _ w0 _ (HI.out.set_1 _) (below_set HB.out HG.out) EL.out).mono ?_; rintro e w1 ⟨rfl, hi1, hb1, hk1⟩; have HI1 := Aside0.mk hi1; have HB1 := Aside0.mk hb1; have HK1 := Aside0.mk hk1; clear hi1 hb1 hk1)
  go_ret2
  exact ⟨rfl, HI1.out, HB1.out, ((KeepBut.refl w g none).set_ _ _).trans HK1.out (.inl rfl)⟩

theorem clone44 {l : List Int} {n : Nat} (hn : l.length = n) (A : Option Addr) (c : Nat) (w : World) (hr : Kd.C (Kd.int .u8) w A n l) (hc : n ≤ c) (hl : n ≤ 140737488355328) :
    Calls Try.prog 44 #[.slice A n c] w fun e w' => ∃ v, e = .returned v ∧ Kd.R (Kd.int .u8) 5 w' w.heap.size (fun _ => True) v l ∧ Below w.heap.size w w' := by
  subst hn
  exact clone A c l w hr hc hl
theorem cut_reads (w0 : World) (bs : List Int) (p n : Nat) (h : p + n ≤ bs.length) (hl : bs.length ≤ 17592186044416) (A : Option Addr) (cap : Nat) (hC : Kd.C (Kd.int .u8) w0 A bs.length bs ∧ bs.length ≤ cap) :
    ∃ A' c', (∀ W, (Instr.slice 24 (.slice A bs.length cap) (some (.int .i64 (p : Int))) (some (.int .i64 ((p : Int) + n))) none).run Try.prog W = .ok (.slice A' n c') W) ∧ Kd.C (Kd.int .u8) w0 A' n ((bs.drop p).take n) ∧ n ≤ c' := by
  obtain ⟨i5, hi5, hz5⟩ := info5'
  have hsl := cut_mid (P := Try.prog) 24 5 .i64 .i64 Try.underlying24 hi5 1 hz5 A bs.length cap (p : Int) ((p : Int) + n) (by omega) (by omega) (by omega) hC.2
  have hCm := Kd.C_mid (lo := p) (hi := p + n) hC.1 (by omega) (by omega) hC.2
  rw [show ((p : Int) + n).toNat - (p : Int).toNat = n by omega, show (p : Int).toNat = p by omega] at hsl
  rw [List.drop_take, show p + n - p = n by omega] at hCm
  have hln : ((bs.drop p).take n).length = n := by simp; omega
  rw [hln] at hCm
  exact ⟨_, _, hsl, hCm, by omega⟩

set_option maxHeartbeats 2000000 in
set_option maxRecDepth 100000 in
theorem bytes_good (w0 w : World) (g : Nat) (bs : List Int) (at_ n : Nat) (hI : IsS85 w0 w g bs at_) (hB : Below w0.heap.size w0 w) (hat : at_ ≤ 8 * bs.length) (hl : bs.length ≤ 17592186044416) (hs : (at_ + 7) / 8 + n ≤ bs.length) :
    Calls Try.prog 29 #[.pointer (some ⟨g, 0, none⟩), .int .i64 n] w fun e w' => ∃ v, e = .returned (.tuple #[v, .int .i64 0]) ∧ Kd.R (Kd.int .u8) 5 w' w.heap.size (fun _ => True) v ((bs.drop ((at_ + 7) / 8)).take n) ∧ IsS85 w0 w' g bs (((at_ + 7) / 8 : Nat) * 8 + 8 * (n : Int)) ∧ Below w0.heap.size w0 w' ∧ KeepBut w w' g none := by
  have hge := hI.ge
  obtain ⟨A0, cap, hb, hg, hC⟩ := id hI
  have q0 := cellS85_0 hb
  have q1 := cellS85_1 hb
  have z1 := blk_frozen hb 1
  obtain ⟨p, hp⟩ : ∃ p, p = (at_ + 7) / 8 := ⟨_, rfl⟩
  rw [← hp] at hs ⊢
  obtain ⟨r, hr⟩ : ∃ r, r = 8 * bs.length - 8 * p := ⟨_, rfl⟩
  have f1 : decide ((n : Int) < 0) = false := decide_eq_false (by omega)
  have f2 : decide ((r : Int) / 8 < n) = false := decide_eq_false (by omega)
  have hpr : p ≤ 17592186044416 ∧ r ≤ 140737488355328 ∧ at_ ≤ 140737488355328 ∧ r + p * 8 = 8 * bs.length := ⟨by omega, by omega, by omega, by omega⟩
  obtain ⟨a1, a2, a3⟩ := rw1 at_ p hp hpr.2.2.1
  have a4 : (r : Int) ≤ 9223372036854775807 := by omega
  have a8 : (p : Int) * 8 + 8 * (n : Int) ≤ 9223372036854775807 := by omega
  have EL := Aside0.mk (left_f' bs p r hpr.2.2.2 hl)
  have HI := Aside0.mk hI
  have HB := Aside0.mk hB
  have HG := Aside0.mk hge
  have HS := Aside0.mk hs
  have HL := Aside0.mk hl
  have hln : ((bs.drop p).take n).length = n := by simp; omega
  have HLn := Aside0.mk hln
  clear hI hB hb hg hC hat hl hge hp hs hr hpr hln
  go_enter Try.func29, Try.ntmps29
  go_wp2_with (first | (go_at_call 45; refine (bits_Reader_left.calls g bs ((p : Int) * 8) _ _ w0 _ (HI.out.set_1 _) (below_set HB.out HG.out) EL.out).mono ?_; rintro e w1 ⟨rfl, hi1, hb1, hk1⟩; have HI1 := Aside0.mk hi1; have HB1 := Aside0.mk hb1; have HK1 := Aside0.mk hk1; obtain ⟨A1, cp1, hbb1, hg1, hC1⟩ := id hi1; have p0 := cellS85_0 hbb1; have p1 := cellS85_1 hbb1; have z2 := blk_frozen hbb1 1; obtain ⟨A2, cp2, hsl, hC2, hcp2⟩ := cut_reads w0 bs p n HS.out HL.out A1 cp1 hC1; have HC2 := Aside0.mk hC2; have HCp := Aside0.mk hcp2; clear hi1 hb1 hk1 hbb1 hg1 hC1 hC2 hcp2) | (go_at_call 44; refine (clone44 HLn.out A2 cp2 _ (Kd.C_below HC2.out (below_set HB1.out HG.out)) HCp.out (by have := HS.out; have := HL.out; omega)).mono ?_; rintro e w2 ⟨u, rfl, hu, hb2⟩; have HU := Aside0.mk hu; have HB2 := Aside0.mk hb2; clear hu hb2))
  go_ret2
  have hb1 := below_set (j := 1) (v := .int .i64 ((p : Int) * 8 + 8 * (n : Int))) HB1.out HG.out
  have hk1 := ((KeepBut.refl w g none).set_ 1 (.int .i64 ((p : Int) * 8))).trans HK1.out (.inl rfl)
  have hk2 := hk1.set_ 1 (.int .i64 ((p : Int) * 8 + 8 * (n : Int)))
  exact ⟨u, rfl, Kd.R_lower HU.out hk2.1, (HI1.out.set_1 _).below HB2.out, below_then hb1 (below_size hb1) HB2.out, hk2.trans (KeepBut.of_below HB2.out g none) (.inl rfl)⟩
end Go.Proofs.Ytfdcolicpfellaa.Mach
