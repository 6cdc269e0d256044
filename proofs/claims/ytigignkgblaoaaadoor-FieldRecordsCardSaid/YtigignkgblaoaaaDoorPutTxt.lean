/-
  PutText of both; the statements' own same.
-/
import Derived.Test.YtigignkgblaoaaaDoorRPutBin
import Derived.Test.YtigignkgblaoaaaDoorText
set_option linter.unusedVariables false
set_option linter.unusedSimpArgs false
namespace Go.Proofs.YtigignkgblaoaaaDoor.S12
open Go Go.RowKit Go.Proofs.YtigignkgblaoaaaDoor.Sep Go.Proofs.YtigignkgblaoaaaDoor.Low Go.Proofs.YtigignkgblaoaaaDoor.Lib

/-- a text's bytes -/
def nats (s : List UInt8) : List Int := s.map fun b => (b.toNat : Int)
theorem nats_by (s : List UInt8) : isBy (nats s) := by
  intro x hx
  obtain ⟨b, _, rfl⟩ := List.mem_map.1 hx
  have := b.toNat_lt
  omega
theorem nats_len (s : List UInt8) : (nats s).length = s.length := by simp [nats]
theorem txt_nats (s : List UInt8) : txt (nats s) = s := by
  rw [txt, nats, List.map_map]
  conv => rhs; rw [← List.map_id s]
  apply List.map_congr_left
  intro b _
  simp
/-- PutText -/
def putT (s : List UInt8) (w : Int) : List Int × Int := if w < 1 ∨ 512 < w ∨ 0 ∈ s then ([], 1) else if w < s.length then ([], 122) else (nats s ++ List.replicate (w.toNat - s.length) 0, 0)
theorem own_some' {H : Heap} {T : TypeId} {a : Option Addr} {n c : Nat} {cs : List Value} (h : Own H T 1 (.slice a n c) cs) (hl : 0 < cs.length) : ∃ r, a = some ⟨r, 0, none⟩ := by
  cases h with
  | nil => simp at hl
  | @«at» r len cap _ rest f hb hf hl hr hc => exact ⟨r, rfl⟩
theorem own_some {H : Heap} {T : TypeId} {a : Option Addr} {n c : Nat} {l : List Int} (h : Own H T 1 (.slice a n c) (by8 l)) (hl : 0 < l.length) : ∃ r, a = some ⟨r, 0, none⟩ := own_some' h (by simpa using hl)
theorem ixb_spec {H : Heap} (l : List UInt8) (c : UInt8) : ACalls Tryd.prog 42 [Value.string ⟨l.toArray⟩, .int .u8 c.toNat].toArray H fun e H' => e = .returned (.int .i64 (Go.Lib.indexByte l c)) ∧ H' = H :=
  acalls_of fun w _ => (Tryd.strings_IndexByte ⟨l.toArray⟩ c.toNat w).mono fun e w' h => by simpa using h
theorem ix_mem (l : List UInt8) (c : UInt8) : decide ((0 : Int) ≤ Go.Lib.indexByte l c) = decide (c ∈ l) := by
  rcases index_cases c l with ⟨h1, h2⟩ | ⟨p, r, rfl, h2, h3⟩
  · rw [h1, decide_eq_false h2]; rfl
  · rw [h3, decide_eq_true (p := c ∈ p ++ c :: r) (by simp), decide_eq_true (by omega)]
theorem str_cells {H : Heap} {s : List UInt8} : cellsV 1 s.length (.string ⟨s.toArray⟩) H = some (by8 (nats s)) := by
  simp only [cellsV]
  have : (⟨s.toArray⟩ : ByteArray).extract 0 s.length = ⟨s.toArray⟩ := by
    apply ByteArray.ext
    apply Array.ext'
    simp
  rw [this]
  simp only [by8, nats, List.map_map]
  congr 1
theorem cutA_zero {r c : Nat} : cutA (some (⟨r, 0, none⟩ : Addr)) c 0 1 = some ⟨r, 0, none⟩ := by
  unfold cutA
  split
  · rfl
  · simp [Addr.add]
theorem a_copy0 {P : Program} {H : Heap} {T : Nat} {cs new : List Value} {r len c k : Nat} {src : Value} {KV : Value → Heap → Prop} {KP : List PanicEntry → Heap → Prop} (hO : Own H T 1 (.slice (some ⟨r, 0, none⟩) len c) cs) (hk : k ≤ len) (hm : lenV src = some k) (hc : cellsV 1 k src H = some new) (hn : new.length = k) (hl : len = cs.length) (hs : ∀ v ∈ new, scalarV v = true)
    (hq : ∀ H', Own H' T 1 (.slice (some ⟨r, 0, none⟩) len c) (cs.take 0 ++ new ++ cs.drop (0 + k)) → Oth H (.slice (some ⟨r, 0, none⟩) len c) H' → KV (.int .i64 k) H') : awpE P (.copy 1) [.slice (some ⟨r, 0, none⟩) len c, src] KV KP H := by
  obtain ⟨H', h1, h2, h3⟩ := storeCs hO (j := 0) (new := new) (by omega) hs
  rw [hn] at h2
  have hmin : min k len = k := by omega
  simp only [awpE, hm, hmin, hc, h1]
  exact hq _ h2 h3
set_option maxHeartbeats 2000000 in
theorem putText_spec {H : Heap} {s : List UInt8} {w : Int} (hw : -9223372036854775808 ≤ w ∧ w ≤ 9223372036854775807) :
    ACalls Tryd.prog 24 [Value.string ⟨s.toArray⟩, .int .i64 w].toArray H fun e H' => Puts H (putT s w) e H' := by
  refine call24 (Nat.le_of_ble_eq_true rfl) ?_
  unfold L24 env0
  by_cases h1 : w < 1
  · have f0 : decide (w < 1) = true := decide_eq_true h1
    simp -implicitDefEqProofs (maxSteps := 1000000) (disch := first | omega | assumption) only [f0, Sx, reduceIte, Nat.reduceEqDiff, reduceCtorEq, Nat.reduceAdd, Nat.reduceSub, Nat.reduceLT, decide_true, decide_false, Bool.not_true, Bool.not_false, Int.toNat_one, Int.toNat_zero, Nat.zero_mul, l_g, endK]
    exact .err (Keep.refl _) (by unfold putT; rw [if_pos (.inl h1)])
  have f0 : decide (w < 1) = false := decide_eq_false h1
  by_cases h2 : 512 < w
  · have f1 : decide (512 < w) = true := decide_eq_true h2
    simp -implicitDefEqProofs (maxSteps := 1000000) (disch := first | omega | assumption) only [f0, f1, Sx, reduceIte, Nat.reduceEqDiff, reduceCtorEq, Nat.reduceAdd, Nat.reduceSub, Nat.reduceLT, decide_true, decide_false, Bool.not_true, Bool.not_false, Int.toNat_one, Int.toNat_zero, Nat.zero_mul, l_g, endK]
    exact .err (Keep.refl _) (by unfold putT; rw [if_pos (.inr (.inl h2))])
  have f1 : decide (512 < w) = false := decide_eq_false h2
  simp -implicitDefEqProofs (maxSteps := 1000000) (disch := first | omega | assumption) only [f0, f1, Sx, reduceIte, Nat.reduceEqDiff, reduceCtorEq, Nat.reduceAdd, Nat.reduceSub, Nat.reduceLT, decide_true, decide_false, Bool.not_true, Bool.not_false, Int.toNat_one, Int.toNat_zero, Nat.zero_mul, l_g, endK]
  refine a_call (ixb_spec s 0) ?_
  rintro e H1 ⟨rfl, rfl⟩
  by_cases h3 : 0 ∈ s
  · have f2 : decide ((0 : Int) ≤ Go.Lib.indexByte s 0) = true := by rw [ix_mem, decide_eq_true h3]
    simp -implicitDefEqProofs (maxSteps := 1000000) (disch := first | omega | assumption) only [f2, Sx, reduceIte, Nat.reduceEqDiff, reduceCtorEq, Nat.reduceAdd, Nat.reduceSub, Nat.reduceLT, decide_true, decide_false, Bool.not_true, Bool.not_false, Int.toNat_one, Int.toNat_zero, Nat.zero_mul, l_g, endK]
    exact .err (Keep.refl _) (by unfold putT; rw [if_pos (.inr (.inr h3))])
  have f2 : decide ((0 : Int) ≤ Go.Lib.indexByte s 0) = false := by rw [ix_mem, decide_eq_false h3]
  have hput : putT s w = if w < s.length then ([], 122) else (nats s ++ List.replicate (w.toNat - s.length) 0, 0) := by
    unfold putT; rw [if_neg (by rintro (h | h | h); exact h1 h; exact h2 h; exact h3 h)]
  by_cases h4 : w < s.length
  · have f3 : decide (w < (s.length : Int)) = true := decide_eq_true h4
    simp -implicitDefEqProofs (maxSteps := 1000000) (disch := first | omega | assumption) only [f2, f3, t_size, Sx, reduceIte, Nat.reduceEqDiff, reduceCtorEq, Nat.reduceAdd, Nat.reduceSub, Nat.reduceLT, decide_true, decide_false, Bool.not_true, Bool.not_false, Int.toNat_one, Int.toNat_zero, Nat.zero_mul, l_g, endK]
    exact .err (Keep.refl _) (by rw [hput, if_pos h4])
  · have f3 : decide (w < (s.length : Int)) = false := decide_eq_false h4
    obtain ⟨m, rfl⟩ : ∃ m : Nat, w = (m : Int) := ⟨w.toNat, by omega⟩
    simp -implicitDefEqProofs (maxSteps := 1000000) (disch := first | omega | assumption) only [f2, f3, t_size, Sx, reduceIte, Nat.reduceEqDiff, reduceCtorEq, Nat.reduceAdd, Nat.reduceSub, Nat.reduceLT, decide_true, decide_false, Bool.not_true, Bool.not_false, Int.toNat_one, Int.toNat_zero, Nat.zero_mul, l_g, endK]
    refine a_mks (l := m) (c := m) (sz := 1) (by omega) (by omega) (by omega) rfl (by omega) ?_
    intro r H2 rest hbr hW hk2 hr2
    rw [zeros_by] at hW
    have hF : Fresh H1 (.slice (some ⟨r, 0, none⟩) m m) := fun q hq => by cases hq; exact hr2
    try simp -implicitDefEqProofs (maxSteps := 1000000) (disch := first | omega | assumption) only [Sx, reduceIte, Nat.reduceEqDiff, reduceCtorEq, Nat.reduceAdd, Nat.reduceSub, Nat.reduceLT, decide_true, decide_false, Bool.not_true, Bool.not_false, Int.toNat_one, Int.toNat_zero, Nat.zero_mul, l_g, endK]
    refine a_copy0 (k := s.length) (new := by8 (nats s)) hW (by omega) rfl str_cells (by simp [nats]) (by simp) (by8_scalar _) ?_
    intro H3 hO3 ho3
    have hfin : (by8 (List.replicate m 0)).take 0 ++ by8 (nats s) ++ (by8 (List.replicate m 0)).drop (0 + s.length) = by8 (nats s ++ List.replicate (m - s.length) 0) := by
      simp [by8]
    rw [hfin] at hO3
    try simp -implicitDefEqProofs (maxSteps := 1000000) (disch := first | omega | assumption) only [Sx, reduceIte, Nat.reduceEqDiff, reduceCtorEq, Nat.reduceAdd, Nat.reduceSub, Nat.reduceLT, decide_true, decide_false, Bool.not_true, Bool.not_false, Int.toNat_one, Int.toNat_zero, Nat.zero_mul, l_g, endK]
    exact ⟨_, by rw [hput, if_neg h4], by rw [hput, if_neg h4]; exact hO3, ho3.keep hk2 hF, hF⟩
set_option maxHeartbeats 2000000 in
theorem rputText_spec {H : Heap} {s : List UInt8} {w : Int} (hs : s.length ≤ 211106232532992) (hw : -9223372036854775808 ≤ w ∧ w ≤ 9223372036854775807) :
    ACalls Tryd.prog 25 [Value.string ⟨s.toArray⟩, .int .i64 w].toArray H fun e H' => Puts H (putT s w) e H' := by
  refine call25 (Nat.le_of_ble_eq_true rfl) ?_
  unfold L25 env0
  by_cases h1 : w < 1
  · have f0 : decide (w < 1) = true := decide_eq_true h1
    simp -implicitDefEqProofs (maxSteps := 1000000) (disch := first | omega | assumption) only [f0, Sx, reduceIte, Nat.reduceEqDiff, reduceCtorEq, Nat.reduceAdd, Nat.reduceSub, Nat.reduceLT, decide_true, decide_false, Bool.not_true, Bool.not_false, Int.toNat_one, Int.toNat_zero, Nat.zero_mul, l_g, endK]
    exact .err (Keep.refl _) (by unfold putT; rw [if_pos (.inl h1)])
  have f0 : decide (w < 1) = false := decide_eq_false h1
  by_cases h2 : 512 < w
  · have f1 : decide (512 < w) = true := decide_eq_true h2
    simp -implicitDefEqProofs (maxSteps := 1000000) (disch := first | omega | assumption) only [f0, f1, Sx, reduceIte, Nat.reduceEqDiff, reduceCtorEq, Nat.reduceAdd, Nat.reduceSub, Nat.reduceLT, decide_true, decide_false, Bool.not_true, Bool.not_false, Int.toNat_one, Int.toNat_zero, Nat.zero_mul, l_g, endK]
    exact .err (Keep.refl _) (by unfold putT; rw [if_pos (.inr (.inl h2))])
  have f1 : decide (512 < w) = false := decide_eq_false h2
  simp -implicitDefEqProofs (maxSteps := 1000000) (disch := first | omega | assumption) only [f0, f1, Sx, reduceIte, Nat.reduceEqDiff, reduceCtorEq, Nat.reduceAdd, Nat.reduceSub, Nat.reduceLT, decide_true, decide_false, Bool.not_true, Bool.not_false, Int.toNat_one, Int.toNat_zero, Nat.zero_mul, l_g, endK]
  refine c_loop (fun k env H' => H' = H ∧ ∃ i, k + i = s.length ∧ env 0 = .string ⟨s.toArray⟩ ∧ env 1 = .int .i64 w ∧ env 6 = .int .i64 i ∧ 0 ∉ s.take i) s.length ⟨rfl, 0, by omega, by simp -implicitDefEqProofs (maxSteps := 1000000) (disch := first | omega | assumption) only [Sx, reduceIte, Nat.reduceEqDiff, reduceCtorEq, Nat.reduceAdd, Nat.reduceSub, Nat.reduceLT], by simp -implicitDefEqProofs (maxSteps := 1000000) (disch := first | omega | assumption) only [Sx, reduceIte, Nat.reduceEqDiff, reduceCtorEq, Nat.reduceAdd, Nat.reduceSub, Nat.reduceLT], by simp -implicitDefEqProofs (maxSteps := 1000000) (disch := first | omega | assumption) only [Sx, reduceIte, Nat.reduceEqDiff, reduceCtorEq, Nat.reduceAdd, Nat.reduceSub, Nat.reduceLT]; rfl, by simp⟩ ?_
  rintro k env H1 ⟨rfl, i, hk, h0, hh1, h6, hno⟩
  unfold L25_0
  by_cases hi : i < s.length
  · have f2 : decide ((i : Int) < (s.length : Int)) = true := decide_eq_true (by omega)
    obtain ⟨x, hx⟩ : ∃ x, s[i]? = some x := ⟨_, List.getElem?_eq_getElem hi⟩
    have hxe : s[i] = x := by rw [List.getElem?_eq_getElem hi] at hx; exact Option.some.inj hx
    by_cases hx0 : x = 0
    · have f3 : ((x.toNat : Int) == 0) = true := by rw [hx0]; rfl
      simp -implicitDefEqProofs (maxSteps := 1000000) (disch := first | omega | assumption) only [h0, hh1, h6, f2, t_size, e_ixs, hx, f3, Sx, reduceIte, Nat.reduceEqDiff, reduceCtorEq, Nat.reduceAdd, Nat.reduceSub, Nat.reduceLT, decide_true, decide_false, Bool.not_true, Bool.not_false, Int.toNat_one, Int.toNat_zero, Nat.zero_mul, l_g, endK]
      exact .err (Keep.refl _) (by unfold putT; rw [if_pos (.inr (.inr (by rw [← hx0, ← hxe]; exact List.getElem_mem hi)))])
    · have f3 : ((x.toNat : Int) == 0) = false := by
        rw [beq_eq_false_iff_ne]
        intro e
        exact hx0 (UInt8.toNat_inj.1 (by rw [UInt8.toNat_zero]; omega))
      simp -implicitDefEqProofs (maxSteps := 1000000) (disch := first | omega | assumption) only [h0, hh1, h6, f2, t_size, e_ixs, hx, f3, Sx, reduceIte, Nat.reduceEqDiff, reduceCtorEq, Nat.reduceAdd, Nat.reduceSub, Nat.reduceLT, decide_true, decide_false, Bool.not_true, Bool.not_false, Int.toNat_one, Int.toNat_zero, Nat.zero_mul, l_g, endK]
      refine ⟨k - 1, by omega, by trivial, i + 1, by omega, by trivial, by trivial, by simp -implicitDefEqProofs (maxSteps := 1000000) (disch := first | omega | assumption) only [Int.natCast_add, Int.natCast_one, Sx, reduceIte, Nat.reduceEqDiff, reduceCtorEq, Nat.reduceAdd, Nat.reduceSub, Nat.reduceLT], ?_⟩
      rw [List.take_succ_eq_append_getElem hi, List.mem_append, not_or]
      exact ⟨hno, fun h => hx0 (by rw [← hxe]; exact (List.mem_singleton.1 h).symm)⟩
  · have f2 : decide ((i : Int) < (s.length : Int)) = false := decide_eq_false (by omega)
    rw [List.take_of_length_le (by omega)] at hno
    have hput : putT s w = if w < s.length then ([], 122) else (nats s ++ List.replicate (w.toNat - s.length) 0, 0) := by
      unfold putT; rw [if_neg (by rintro (h | h | h); exact h1 h; exact h2 h; exact hno h)]
    by_cases h4 : w < s.length
    · have f3 : decide (w < (s.length : Int)) = true := decide_eq_true h4
      simp -implicitDefEqProofs (maxSteps := 1000000) (disch := first | omega | assumption) only [h0, hh1, h6, f2, f3, t_size, Sx, reduceIte, Nat.reduceEqDiff, reduceCtorEq, Nat.reduceAdd, Nat.reduceSub, Nat.reduceLT, decide_true, decide_false, Bool.not_true, Bool.not_false, Int.toNat_one, Int.toNat_zero, Nat.zero_mul, l_g, endK]
      exact .err (Keep.refl _) (by rw [hput, if_pos h4])
    have f3 : decide (w < (s.length : Int)) = false := decide_eq_false h4
    obtain ⟨m, rfl⟩ : ∃ m : Nat, w = (m : Int) := ⟨w.toNat, by omega⟩
    simp -implicitDefEqProofs (maxSteps := 1000000) (disch := first | omega | assumption) only [h0, hh1, h6, f2, f3, t_size, Sx, reduceIte, Nat.reduceEqDiff, reduceCtorEq, Nat.reduceAdd, Nat.reduceSub, Nat.reduceLT, decide_true, decide_false, Bool.not_true, Bool.not_false, Int.toNat_one, Int.toNat_zero, Nat.zero_mul, l_g, endK]
    refine a_mks (l := m) (c := m) (sz := 1) (by omega) (by omega) (by omega) rfl (by omega) ?_
    intro r H2 rest hbr hW hk2 hr2
    rw [zeros_by] at hW
    have hF : Fresh H1 (.slice (some ⟨r, 0, none⟩) m m) := fun q hq => by cases hq; exact hr2
    have hnl := nats_len s
    try simp -implicitDefEqProofs (maxSteps := 1000000) (disch := first | omega | assumption) only [h0, hh1, h6, Sx, reduceIte, Nat.reduceEqDiff, reduceCtorEq, Nat.reduceAdd, Nat.reduceSub, Nat.reduceLT, decide_true, decide_false, Bool.not_true, Bool.not_false, Int.toNat_one, Int.toNat_zero, Nat.zero_mul, l_g, endK]
    refine c_loop (fun k env H' => ∃ j, k + j = s.length ∧ env 0 = .string ⟨s.toArray⟩ ∧ env 7 = .slice (some ⟨r, 0, none⟩) m m ∧ env 8 = .int .i64 j ∧ Bs H' (.slice (some ⟨r, 0, none⟩) m m) ((nats s).take j ++ List.replicate (m - j) 0) ∧ Keep H1 H') s.length
      ⟨0, by omega, by simp -implicitDefEqProofs (maxSteps := 1000000) (disch := first | omega | assumption) only [h0, Sx, reduceIte, Nat.reduceEqDiff, reduceCtorEq, Nat.reduceAdd, Nat.reduceSub, Nat.reduceLT], by simp -implicitDefEqProofs (maxSteps := 1000000) (disch := first | omega | assumption) only [Sx, reduceIte, Nat.reduceEqDiff, reduceCtorEq, Nat.reduceAdd, Nat.reduceSub, Nat.reduceLT], by simp -implicitDefEqProofs (maxSteps := 1000000) (disch := first | omega | assumption) only [Sx, reduceIte, Nat.reduceEqDiff, reduceCtorEq, Nat.reduceAdd, Nat.reduceSub, Nat.reduceLT]; rfl, by rw [List.take_zero, List.nil_append, Nat.sub_zero]; exact hW, hk2⟩ ?_
    rintro k2 env2 H3 ⟨j, hkj, g0, g7, g8, hO, hK⟩
    unfold L25_1
    by_cases hj : j < s.length
    · have f4 : decide ((j : Int) < (s.length : Int)) = true := decide_eq_true (by omega)
      obtain ⟨x, hx⟩ : ∃ x, s[j]? = some x := ⟨_, List.getElem?_eq_getElem hj⟩
      have hxe : s[j] = x := by rw [List.getElem?_eq_getElem hj] at hx; exact Option.some.inj hx
      have hin : (0 : Int) ≤ (j : Int) ∧ (j : Int) < (m : Int) := by omega
      have htl : ((nats s).take j).length = j := by rw [List.length_take]; omega
      simp -implicitDefEqProofs (maxSteps := 1000000) (disch := first | omega | assumption) only [g0, g7, g8, f4, t_size, e_ixs, hx, Sx, reduceIte, Nat.reduceEqDiff, reduceCtorEq, Nat.reduceAdd, Nat.reduceSub, Nat.reduceLT, decide_true, decide_false, Bool.not_true, Bool.not_false, Int.toNat_one, Int.toNat_zero, Nat.zero_mul, l_g, endK]
      refine a_put hO (j := j) (by rw [List.length_append, htl]; simp; omega) ?_
      intro H4 hO4 ho4
      have hset : ((nats s).take j ++ List.replicate (m - j) (0 : Int)).set j (x.toNat : Int) = (nats s).take (j + 1) ++ List.replicate (m - (j + 1)) 0 := by
        have hjn : j < (nats s).length := by omega
        rw [show m - j = (m - (j + 1)) + 1 by omega, List.replicate_succ, List.set_append_right _ _ (by omega), htl, Nat.sub_self, List.set_cons_zero, List.take_succ_eq_append_getElem hjn]
        have : (nats s)[j] = (x.toNat : Int) := by rw [← hxe]; simp [nats]
        rw [this]; simp
      rw [hset] at hO4
      simp -implicitDefEqProofs (maxSteps := 1000000) (disch := first | omega | assumption) only [g0, g7, g8, Sx, reduceIte, Nat.reduceEqDiff, reduceCtorEq, Nat.reduceAdd, Nat.reduceSub, Nat.reduceLT, decide_true, decide_false, Bool.not_true, Bool.not_false, Int.toNat_one, Int.toNat_zero, Nat.zero_mul, l_g, endK]
      exact ⟨k2 - 1, by omega, j + 1, by omega, by trivial, by trivial, by simp -implicitDefEqProofs (maxSteps := 1000000) (disch := first | omega | assumption) only [Int.natCast_add, Int.natCast_one, Sx, reduceIte, Nat.reduceEqDiff, reduceCtorEq, Nat.reduceAdd, Nat.reduceSub, Nat.reduceLT], hO4, ho4.keep hK hF⟩
    · have f4 : decide ((j : Int) < (s.length : Int)) = false := decide_eq_false (by omega)
      have hjs : j = s.length := by omega
      rw [List.take_of_length_le (by omega), hjs] at hO
      simp -implicitDefEqProofs (maxSteps := 1000000) (disch := first | omega | assumption) only [g0, g7, g8, f4, t_size, Sx, reduceIte, Nat.reduceEqDiff, reduceCtorEq, Nat.reduceAdd, Nat.reduceSub, Nat.reduceLT, decide_true, decide_false, Bool.not_true, Bool.not_false, Int.toNat_one, Int.toNat_zero, Nat.zero_mul, l_g, endK]
      exact ⟨_, by rw [hput, if_neg h4], by rw [hput, if_neg h4]; exact hO, hK, hF⟩

set_option maxHeartbeats 1000000 in
theorem same_tail {H : Heap} {A : Option Addr} {c : Nat} {l : List Int} {b : Bool} {env : Env} {Q : Post} {QP : List PanicEntry → Heap → Prop} (hO : Bs H (.slice A l.length c) l) (hl : l.length ≤ 1048576)
    (h0 : env 0 = .slice A l.length c) (h9 : env 9 = .bool b) (hq : ∀ env' H', env' 8 = .bool b → Oth H (.slice A l.length c) H' → Q .ret env' H') : awpC Tryd.prog L26_b0 Q QP env H := by
  unfold L26_b0
  simp -implicitDefEqProofs (maxSteps := 1000000) (disch := first | omega | assumption) only [h0, h9, Sx, reduceIte, Nat.reduceEqDiff, reduceCtorEq, Nat.reduceAdd, Nat.reduceSub, Nat.reduceLT, decide_true, decide_false, Bool.not_true, Bool.not_false, Int.toNat_one, Int.toNat_zero, Nat.zero_mul, l_g, endK]
  refine c_loop (fun k env H' => ∃ i l', k + i = l.length ∧ l'.length = l.length ∧ env 0 = .slice A l.length c ∧ env 9 = .bool b ∧ env 10 = .int .i64 i ∧ Bs H' (.slice A l.length c) l' ∧ Oth H (.slice A l.length c) H') l.length
    ⟨0, l, by omega, rfl, by simp -implicitDefEqProofs (maxSteps := 1000000) (disch := first | omega | assumption) only [h0, Sx, reduceIte, Nat.reduceEqDiff, reduceCtorEq, Nat.reduceAdd, Nat.reduceSub, Nat.reduceLT], by simp -implicitDefEqProofs (maxSteps := 1000000) (disch := first | omega | assumption) only [h9, Sx, reduceIte, Nat.reduceEqDiff, reduceCtorEq, Nat.reduceAdd, Nat.reduceSub, Nat.reduceLT], by simp -implicitDefEqProofs (maxSteps := 1000000) (disch := first | omega | assumption) only [Sx, reduceIte, Nat.reduceEqDiff, reduceCtorEq, Nat.reduceAdd, Nat.reduceSub, Nat.reduceLT]; rfl, hO, Only.refl _ _⟩ ?_
  rintro k env H1 ⟨i, l', hk, hll, h0, h9, h10, hO, ho⟩
  unfold L26_0
  by_cases hi : i < l.length
  · have f0 : decide ((i : Int) < (l.length : Int)) = true := decide_eq_true (by omega)
    obtain ⟨r, rfl⟩ := own_some (l := l') hO (by omega)
    have hin : (0 : Int) ≤ (i : Int) ∧ (i : Int) < (l.length : Int) := by omega
    simp -implicitDefEqProofs (maxSteps := 1000000) (disch := first | omega | assumption) only [h0, h9, h10, f0, Sx, reduceIte, Nat.reduceEqDiff, reduceCtorEq, Nat.reduceAdd, Nat.reduceSub, Nat.reduceLT, decide_true, decide_false, Bool.not_true, Bool.not_false, Int.toNat_one, Int.toNat_zero, Nat.zero_mul, l_g, endK]
    refine a_put hO (j := i) (by omega) ?_
    intro H2 hO2 ho2
    simp -implicitDefEqProofs (maxSteps := 1000000) (disch := first | omega | assumption) only [h0, h9, h10, Sx, reduceIte, Nat.reduceEqDiff, reduceCtorEq, Nat.reduceAdd, Nat.reduceSub, Nat.reduceLT, decide_true, decide_false, Bool.not_true, Bool.not_false, Int.toNat_one, Int.toNat_zero, Nat.zero_mul, l_g, endK]
    exact ⟨k - 1, by omega, i + 1, _, by omega, by rw [List.length_set]; exact hll, by trivial, by trivial, by simp -implicitDefEqProofs (maxSteps := 1000000) (disch := first | omega | assumption) only [Int.natCast_add, Int.natCast_one, Sx, reduceIte, Nat.reduceEqDiff, reduceCtorEq, Nat.reduceAdd, Nat.reduceSub, Nat.reduceLT], hO2, ho.trans ho2 fun q hq => .inl hq⟩
  · have f0 : decide ((i : Int) < (l.length : Int)) = false := decide_eq_false (by omega)
    simp -implicitDefEqProofs (maxSteps := 1000000) (disch := first | omega | assumption) only [h0, h9, h10, f0, Sx, reduceIte, Nat.reduceEqDiff, reduceCtorEq, Nat.reduceAdd, Nat.reduceSub, Nat.reduceLT, decide_true, decide_false, Bool.not_true, Bool.not_false, Int.toNat_one, Int.toNat_zero, Nat.zero_mul, l_g, endK]
    refine a_lits (sz := 1) (cells := #[.int .u8 221, .int .u8 221]) rfl rfl ?_
    intro r3 H3 hO3 hk3 hr3
    have hO3 : Bs H3 (.slice (some ⟨r3, 0, none⟩) 2 2) [221, 221] := hO3
    try simp -implicitDefEqProofs (maxSteps := 1000000) (disch := first | omega | assumption) only [h0, h9, h10, Sx, reduceIte, Nat.reduceEqDiff, reduceCtorEq, Nat.reduceAdd, Nat.reduceSub, Nat.reduceLT, decide_true, decide_false, Bool.not_true, Bool.not_false, Int.toNat_one, Int.toNat_zero, Nat.zero_mul, l_g, endK]
    refine app_b1 (hO.keep hk3) (by simp; omega) (own_by hO3) ?_
    intro v4 H4 hO4 ho4 hm4
    have ho3 : Oth H (.slice A l.length c) H3 := ho.trans (Only.of_keep (S := fun _ => False) hk3) fun q hq => hq.elim
    try simp -implicitDefEqProofs (maxSteps := 1000000) (disch := first | omega | assumption) only [h0, h9, h10, Sx, reduceIte, Nat.reduceEqDiff, reduceCtorEq, Nat.reduceAdd, Nat.reduceSub, Nat.reduceLT, decide_true, decide_false, Bool.not_true, Bool.not_false, Int.toNat_one, Int.toNat_zero, Nat.zero_mul, l_g, endK]
    exact hq _ _ (by simp -implicitDefEqProofs (maxSteps := 1000000) (disch := first | omega | assumption) only [h9, Sx, reduceIte, Nat.reduceEqDiff, reduceCtorEq, Nat.reduceAdd, Nat.reduceSub, Nat.reduceLT]) (ho3.trans ho4 fun q hq => .inl hq)
/-- the statements' own same: the first list is written over -/
theorem same_spec {H : Heap} {v u : Value} {l m : List Int} {x y : Int} (hO : Bs H v l) (hu : By H u m) (hl : l.length ≤ 1048576) :
    ACalls Tryd.prog 26 [v, u, .int .i64 x, .int .i64 y].toArray H fun e H' => e = .returned (.bool (decide (txt l = txt m) && (x == y))) ∧ Oth H v H' := by
  obtain ⟨A, c, rfl, hc, hr⟩ := own_by hO
  obtain ⟨B, d, rfl, hd, hs⟩ := hu
  refine call26 (Nat.le_of_ble_eq_true rfl) ?_
  unfold L26 env0
  have b1 := ev_b2s_by (c := c) hr
  have b2 := ev_b2s_by (c := d) hs
  have fin : ∀ (b : Bool) (env' : Env) (H' : Heap), env' 8 = .bool b → Oth H (.slice A l.length c) H' → b = (decide (txt l = txt m) && (x == y)) → retQ [.t 8] (fun e H' => e = .returned (.bool (decide (txt l = txt m) && (x == y))) ∧ Oth H (.slice A l.length c) H') .ret env' H' := by
    rintro b env' H' e8 ho rfl
    simp -implicitDefEqProofs (maxSteps := 1000000) (disch := first | omega | assumption) only [e8, Sx, reduceIte, Nat.reduceEqDiff, reduceCtorEq, Nat.reduceAdd, Nat.reduceSub, Nat.reduceLT]
    exact ⟨by trivial, ho⟩
  by_cases ht : txt l = txt m
  · have f0 : decide (txt l = txt m) = true := decide_eq_true ht
    simp -implicitDefEqProofs (maxSteps := 1000000) (disch := first | omega | assumption) only [b1, b2, t_eq, f0, Sx, reduceIte, Nat.reduceEqDiff, reduceCtorEq, Nat.reduceAdd, Nat.reduceSub, Nat.reduceLT, decide_true, decide_false, Bool.not_true, Bool.not_false, Int.toNat_one, Int.toNat_zero, Nat.zero_mul, l_g, endK]
    refine same_tail (b := (x == y)) hO hl (by simp -implicitDefEqProofs (maxSteps := 1000000) (disch := first | omega | assumption) only [Sx, reduceIte, Nat.reduceEqDiff, reduceCtorEq, Nat.reduceAdd, Nat.reduceSub, Nat.reduceLT]) (by simp -implicitDefEqProofs (maxSteps := 1000000) (disch := first | omega | assumption) only [Sx, reduceIte, Nat.reduceEqDiff, reduceCtorEq, Nat.reduceAdd, Nat.reduceSub, Nat.reduceLT]) ?_
    intro env' H' e8 ho
    have hfin := fin _ env' H' e8 ho (by rw [f0]; rfl)
    rw [f0] at hfin
    exact hfin
  · have f0 : decide (txt l = txt m) = false := decide_eq_false ht
    simp -implicitDefEqProofs (maxSteps := 1000000) (disch := first | omega | assumption) only [b1, b2, t_eq, f0, Sx, reduceIte, Nat.reduceEqDiff, reduceCtorEq, Nat.reduceAdd, Nat.reduceSub, Nat.reduceLT, decide_true, decide_false, Bool.not_true, Bool.not_false, Int.toNat_one, Int.toNat_zero, Nat.zero_mul, l_g, endK]
    refine same_tail (b := false) hO hl (by simp -implicitDefEqProofs (maxSteps := 1000000) (disch := first | omega | assumption) only [Sx, reduceIte, Nat.reduceEqDiff, reduceCtorEq, Nat.reduceAdd, Nat.reduceSub, Nat.reduceLT]) (by simp -implicitDefEqProofs (maxSteps := 1000000) (disch := first | omega | assumption) only [Sx, reduceIte, Nat.reduceEqDiff, reduceCtorEq, Nat.reduceAdd, Nat.reduceSub, Nat.reduceLT]) ?_
    intro env' H' e8 ho
    have hfin := fin _ env' H' e8 ho (by rw [f0]; rfl)
    rw [f0] at hfin
    exact hfin
end Go.Proofs.YtigignkgblaoaaaDoor.S12
