/-
  lent: a copy of bytes with 32 marked bytes behind it, in one row.
-/
import Derived.Test.YtfdcolicpfellaaWriter
import Derived.Test.YtfdcolicpfellaaBWPure
set_option linter.unusedVariables false
set_option linter.unusedSimpArgs false
namespace Go.Proofs.Ytfdcolicpfellaa.Mach
open Go.RowKit Go.Proofs.YtfdcolicpfellaaW.PrintWords Go.Proofs.YtfdcolicpfellaaW.PrintLast Go.Proofs.YtfdcolicpfellaaW.PrintMore Go.Proofs.Ytfdcolicpfellaa.Pack Go.Proofs.Ytfdcolicpfellaa.PBitsWritesPure

theorem R_empty {W : World} {g c B : Nat} {cs : Array Value} (h : W.heap[g]? = some (.cells cs 5 (0, 0))) (hc : cs.size = c) (hm : c ≤ 9223372036854775807) (hB : B ≤ g) : Kd.R (Kd.int .u8) 5 W B (fun _ => True) (.slice (some ⟨g, 0, none⟩) 0 c) [] :=
  Kd.R_of_own (enc := Value.int .u8) ⟨rfl, .inr ⟨g, c, cs, rfl, hB, h, Nat.zero_le _, hm, by rw [hc, Nat.mul_one], by simp [encs]⟩⟩ (fun _ _ => trivial)

theorem marks_take (i : Nat) (hi : i < 32) : marks.take (i + 1) = marks.take i ++ [171 + (i : Int)] := by
  rw [List.take_succ_eq_append_getElem (by rw [marks_length]; exact hi)]
  simp [marks]

set_option maxHeartbeats 4000000 in
set_option maxRecDepth 100000 in
theorem lent (w : World) (A : Option Addr) (c : Nat) (l : List Int) (hr : Kd.C (Kd.int .u8) w A l.length l) (hc : l.length ≤ c) (hl : l.length ≤ 1099511627776) :
    Calls Try.prog 14 #[.slice A l.length c] w fun e w' => ∃ g cp, e = .returned (.tuple #[.slice (some ⟨g, 0, none⟩) l.length cp, .slice (some ⟨g, 0, none⟩) (l.length + 32) cp]) ∧
      Kd.R (Kd.int .u8) 5 w' w.heap.size (fun _ => True) (.slice (some ⟨g, 0, none⟩) (l.length + 32) cp) (l ++ marks) ∧ Below w.heap.size w w' := by
  obtain ⟨i0, hi0, hz0, hz1, hz2⟩ := info_parts info5
  obtain ⟨n, hn⟩ : ∃ n, n = l.length := ⟨_, rfl⟩
  have hmk : ∀ u : World, (Instr.makeSlice 24 (.int .i64 0) (.int .i64 ((n : Int) + 32))).run Try.prog u = .ok (.slice (some ⟨u.heap.size, 0, none⟩) 0 (n + 32)) (u.alloc (.cells (madeCells #[.int .u8 0] (n + 32)) 5)) := fun u => by
    have h := run_make (P := Try.prog) u 24 5 i0 (.int .u8 0) Try.underlying24 hi0 hz0 .i64 .i64 0 ((n : Int) + 32) (by omega) (by omega) (by rw [hz2]; omega) (by omega)
    have e : ((n : Int) + 32).toNat = n + 32 := by omega
    rw [e] at h
    simpa [hz1, Value.cells] using h
  have hms : (madeCells #[Value.int .u8 0] (n + 32)).size = n + 32 := by simp [madeCells]
  rw [← hn] at hr hc hl ⊢
  have HN := Aside0.mk hn
  have HR := Aside0.mk hr
  have HC := Aside0.mk hc
  have HL := Aside0.mk hl
  have HMS := Aside0.mk hms
  have nb : (n : Int) + 32 ≤ 9223372036854775807 := by omega
  clear hn hr hc hl hms hi0 hz0 hz1 hz2 i0
  go_enter Try.func14, Try.ntmps14
  go_wp2_with (first | ((with_reducible refine gate_builtin (b := .append) (xs := #[.tmp 10, .tmp 11]) rfl ?_); at_builtin; refine Kd.R_append_rows (Kd.int .u8) (w0 := w) w.heap.size rfl (.tmp 10) (.tmp 11) 24 5 (.int .u8 0) 1 rfl Try.underlying24 info5 rfl (by decide) (by omega) _ [] l _ _ _ (fun _ => True) (fun _ => False) rfl rfl (R_empty (heap_alloc_new w _) HMS.out (by omega) (Nat.le_refl _)) (Kd.C_alloc HR.out _) (fun _ _ h => h) (fun _ h => h.elim) (fun _ _ => trivial) (below_alloc (Below.refl _ _) _) (below_size (below_alloc (Below.refl _ _) _)) ?aL ?_; (case aL => have := HL.out; simp; omega); intro v2 w2 ho hb hg hat; rw [List.nil_append] at ho; have HO := Aside0.mk ho; have HB := Aside0.mk hb; clear ho hb hg hat))
  go_loopw [4, 5] (fun v4 v5 wr => ∃ (i : Nat), v5 = .int .i64 i ∧ i ≤ 32 ∧ Aside0 (Kd.R (Kd.int .u8) 5 wr w.heap.size (fun _ => True) v4 (l ++ marks.take i)) ∧ Aside0 (Below w.heap.size w wr)) (fun _ v5 _ => 32 - (intOf v5).toNat)
  case atStart => exact ⟨0, rfl, by omega, ⟨by simpa using HO.out⟩, HB⟩
  case round =>
    obtain ⟨i, rfl, hi, HO1, HB1⟩ := hrel
    have hlen : (l ++ marks.take i).length = n + i := by rw [List.length_append, List.length_take, marks_length, ← HN.out]; omega
    have ho1 := HO1.out
    obtain ⟨A1, cp1, rfl⟩ := Kd.R_slice ho1
    rw [hlen] at ho1 ⊢
    clear HO1
    by_cases hlt : (i : Int) < 32
    · have HO1 := Aside0.mk ho1
      have HLen := Aside0.mk hlen
      clear hlen ho1 hmk nb
      go_wp2_with (first | ((with_reducible refine gate_builtin (b := .append) (xs := #[.tmp 17, .tmp 21]) rfl ?_); at_builtin; refine Kd.R_append (Kd.int .u8) (w0 := w) w.heap.size rfl (.tmp 17) (.tmp 21) 24 5 (.int .u8 0) 1 rfl Try.underlying24 info5 rfl (by decide) (by omega) _ (l ++ marks.take i) (171 + (i : Int)) [.int .u8 (171 + (i : Int))] (fun _ => True) (fun _ => False) rfl rfl rfl (fun _ hk => hk.elim) (fun _ _ => trivial) HO1.out HB1.out (below_size HB1.out) ?aL ?_; (case aL => rw [HLen.out]; have := HL.out; omega); intro v3 w3 ho hb hg hat; have HO3 := Aside0.mk ho; have HB3 := Aside0.mk hb; clear ho hb hg hat))
      go_roundw
      case measure => simp [intOf]; omega
      case rel =>
        refine ⟨i + 1, rfl, by omega, ⟨?_⟩, HB3⟩
        rw [marks_take i (by omega), ← List.append_assoc]
        exact HO3.out
    · have hi' : i = 32 := by omega
      subst hi'
      obtain ⟨gb, cp, hv, hgb, hgl, hcb⟩ := Kd.R_form ho1 (by omega)
      rw [hlen] at hv
      injection hv with h1 _ h2
      subst h1
      subst h2
      have hle := (Kd.R_reads' ho1).2.1
      have hnl : (n : Int) ≤ cp1 := by omega
      have HO1 := Aside0.mk ho1
      clear hlen hgb hgl hcb hle hmk ho1
      go_wp2
      go_ret2
      have h32 : marks.take 32 = marks := List.take_of_length_le (by rw [marks_length]; omega)
      have h3 := HO1.out
      rw [h32] at h3
      exact ⟨gb, cp1, rfl, h3, HB1.out⟩
end Go.Proofs.Ytfdcolicpfellaa.Mach
