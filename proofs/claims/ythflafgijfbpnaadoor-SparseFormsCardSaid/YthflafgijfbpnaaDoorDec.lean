/-
  Decimal numbers: AppendInt and its parts, the document's decimal.
-/
import Derived.Test.YthflafgijfbpnaaDoorLowT
import Derived.Test.YthflafgijfbpnaaDoorStr
import Derived.Test.YthflafgijfbpnaaDoorBytes
import Derived.Lib.ItoaMem
set_option linter.unusedVariables false
set_option linter.unusedSimpArgs false
namespace Go.Proofs.YthflafgijfbpnaaDoor.S15
open Go Go.RowKit Go.Proofs.YthflafgijfbpnaaDoor.Sep Go.Proofs.YthflafgijfbpnaaDoor.Low Go.Proofs.YthflafgijfbpnaaDoor.Lib

/-- the table of powers -/
def Tab (H : Heap) : Prop := ∃ T f, H 0 = some (.cells (Go.Lib.pow10Tab.map fun z => Value.int .u64 z).toArray T f)
theorem Tab.keep {H H' : Heap} (h : Tab H) (hk : Keep H H') : Tab H' := by
  obtain ⟨T, f, h⟩ := h
  exact ⟨T, f, hk _ _ h⟩
theorem Tab.is {H : Heap} {w : World} (h : Tab H) (hw : Sees H w) : Go.Lib.TabIs Tryd.prog w "internal/strconv.uint64pow10" .u64 Go.Lib.pow10Tab := by
  obtain ⟨T, f, h⟩ := h
  unfold Go.Lib.TabIs World.var?
  rw [show Tryd.prog.globalNamed "internal/strconv.uint64pow10" = some 0 from by kernel_rfl]
  simp only [Option.bind_some, hw _ _ h]

/-- a number's digits -/
def decI (n : Int) : List Int := (Go.Lib.decDigits n.toNat).map fun b => (b.toNat : Int)
theorem u8n {k : Nat} (h : k < 208) : ((UInt8.ofNat (48 + k)).toNat : Int) = 48 + (k : Int) := by
  rw [UInt8.toNat_ofNat']; omega
theorem decI_small {n : Int} (h0 : 0 ≤ n) (h : n < 10) : decI n = [48 + n] := by
  unfold decI
  rw [Go.Lib.decDigits, dif_pos (by omega)]
  simp only [List.map_cons, List.map_nil, List.cons.injEq, and_true]
  rw [u8n (by omega)]; omega
theorem decI_big {n : Int} (h : 10 ≤ n) : decI n = decI (n / 10) ++ [48 + n % 10] := by
  unfold decI
  conv => lhs; rw [Go.Lib.decDigits, dif_neg (by omega)]
  rw [List.map_append, show (n / 10).toNat = n.toNat / 10 by omega]
  simp only [List.map_cons, List.map_nil]
  rw [u8n (by omega)]
  congr 2
  omega
theorem dec_len : ∀ (k u : Nat), u < 10 ^ (k + 1) → (Go.Lib.decDigits u).length ≤ k + 1
  | 0, u, h => by rw [Go.Lib.decDigits, dif_pos (by simpa using h)]; simp
  | k + 1, u, h => by
    rw [Go.Lib.decDigits]
    split
    · simp
    · rw [List.length_append]
      have := dec_len k (u / 10) (by rw [Nat.pow_succ] at h; omega)
      simp only [List.length_cons, List.length_nil]
      omega
theorem decI_len {n : Int} (h : n ≤ 9223372036854775807) : (decI n).length ≤ 19 := by
  unfold decI
  rw [List.length_map]
  exact dec_len 18 _ (by have : (10 : Nat) ^ (18 + 1) = 10000000000000000000 := rfl; omega)
theorem decI_by (n : Int) : isBy (decI n) := by
  intro x hx
  unfold decI at hx
  obtain ⟨b, _, rfl⟩ := List.mem_map.1 hx
  have := b.toNat_lt
  omega

/-- a text is put behind -/
theorem app_txt {P : Program} {H : Heap} {v : Value} {l : List Int} {s : List UInt8} {KV : Value → Heap → Prop} {KP : List PanicEntry → Heap → Prop} (hO : Own H 5 1 v (by8 l)) (hl : l.length + s.length ≤ 211106232532992)
    (hk : ∀ v' H', Own H' 5 1 v' (by8 (l ++ s.map fun b => (b.toNat : Int))) → Oth H v H' → Moved H v v' → KV v' H') : awpE P (.app 5 1 1 #[.int .u8 0]) [v, .string ⟨s.toArray⟩] KV KP H := by
  have hc : cellsV 1 s.length (.string ⟨s.toArray⟩) H = some (by8 (s.map fun b => (b.toNat : Int))) := by
    simp only [cellsV, t_ext]
    simp [by8]
  refine a_app (len := l.length) (m := s.length) (new := by8 (s.map fun b => (b.toNat : Int))) hO (by simp) (by simp [lenV, ByteArray.size]) hc (by simp) rfl (by omega) (by8_scalar _) (by omega) ?_
  intro v' H' h1 h2 h3
  refine hk v' H' ?_ h2 h3
  rw [by8, List.map_append]
  exact h1
theorem app_by {P : Program} {H : Heap} {v y : Value} {l x : List Int} {KV : Value → Heap → Prop} {KP : List PanicEntry → Heap → Prop} (hO : Own H 5 1 v (by8 l)) (hy : By H y x) (hl : l.length + x.length ≤ 211106232532992)
    (hk : ∀ v' H', Own H' 5 1 v' (by8 (l ++ x)) → Oth H v H' → Moved H v v' → KV v' H') : awpE P (.app 5 1 1 #[.int .u8 0]) [v, y] KV KP H := by
  obtain ⟨a, c, rfl, hc, hr⟩ := hy
  refine a_app (len := l.length) (m := x.length) (new := by8 x) hO (by simp) rfl (hr.cells (by simp)) (by simp) rfl (by omega) (by8_scalar _) (by omega) ?_
  intro v' H' h1 h2 h3
  refine hk v' H' ?_ h2 h3
  rw [by8, List.map_append]
  exact h1
theorem lits_byte {P : Program} {H : Heap} {x : Int} {KV : Value → Heap → Prop} {KP : List PanicEntry → Heap → Prop}
    (hk : ∀ r H', Own H' 5 1 (.slice (some ⟨r, 0, none⟩) 1 1) (by8 [x]) → Keep H H' → H r = none → KV (.slice (some ⟨r, 0, none⟩) 1 1) H') : awpE P (.lits 5 #[.int .u8 0] 1 [(0, 1)]) [.int .u8 x] KV KP H :=
  a_lits (sz := 1) (cells := #[.int .u8 x]) rfl rfl fun r H' h1 h2 h3 => hk r H' h1 h2 h3
/-- a list that grew, or moved, is fresh still, and all else is there -/
theorem grown {H0 H H' : Heap} {v v' : Value} (hk : Keep H0 H) (hf : Fresh H0 v) (ho : Oth H v H') (hm : Moved H v v') : Keep H0 H' ∧ Fresh H0 v' := ⟨oth_keep ho hk hf, hm.fresh hk hf⟩
theorem Moved.trans {H H1 : Heap} {v v1 v2 : Value} (h : Moved H v v1) (hk : ∀ q, H1 q = none → H q = none) (k : Moved H1 v1 v2) : Moved H v v2 := by
  rcases k with k | ⟨r, k, hr⟩
  · rcases h with h | ⟨q, h, hq⟩
    · exact .inl (k.trans h)
    · exact .inr ⟨q, k.trans h, hq⟩
  · exact .inr ⟨r, k, hk _ hr⟩
theorem oth_trans {H H1 H2 : Heap} {v v1 : Value} (h : Oth H v H1) (hm : Moved H v v1) (k : Oth H1 v1 H2) : Oth H v H2 :=
  h.trans k fun q hq => by
    rcases hm with e | ⟨r, e, hr⟩
    · exact .inl (e ▸ hq)
    · rw [e] at hq; cases hq; exact .inr hr

set_option maxHeartbeats 1000000 in
theorem fmt_spec {H : Heap} {r T : Nat} {u : Nat} (hu : u < 9223372036854775808) (hb : H r = some (.cells (Array.replicate 24 (.int .u8 0)) T (0, 0))) (hd : Go.Lib.nDigits u ≤ 24) :
    ACalls Tryd.prog 56 [Value.slice (some ⟨r, 0, none⟩) (Go.Lib.nDigits u) 24, .int .u64 u].toArray H fun e H' => e = .returned (.tuple #[]) ∧ ∃ cells, H' = H.set r (.cells cells T (0, 0)) ∧ Row H' (some ⟨r, 0, none⟩) (by8 (decI u)) := by
  intro w hw
  have hwr := hw _ _ hb
  have hc : ∀ j, j < 24 → w.cell? ⟨r, 0 + j, none⟩ = some (.int .u8 0) ∧ w.frozen? ⟨r, 0 + j, none⟩ = false := by
    intro j hj
    refine ⟨hw.cell (by rw [cell_of hb]; simp [hj]), ?_⟩
    rw [hw.frozen (by rw [hb]; simp), frozen_of hb]
  have hH : Go.Sort.Holds (fun (b : UInt8) => Value.int .u8 (b.toNat : Int)) w r 0 (Array.replicate (Go.Lib.nDigits u) 0) := by
    intro j hj
    rw [Array.size_replicate] at hj
    obtain ⟨h1, h2⟩ := hc j (by omega)
    refine ⟨?_, h2⟩
    rw [h1, getElem!_pos _ j (by simpa using hj)]
    simp
  have hcon := Tryd.internal_strconv_formatBase10 r 0 24 u (Array.replicate (Go.Lib.nDigits u) 0) w hH (by rw [Array.size_replicate]; exact Go.Lib.lt_pow_nDigits u) (by omega) (by rw [Array.size_replicate]; omega)
  rw [Array.size_replicate] at hcon
  refine Calls.mono hcon ?_
  rintro e w' ⟨rfl, n, v', dk, rfl, hF⟩
  have hsz := hF.size
  refine ⟨H.set r (.cells (Go.Sort.putCells (fun (b : UInt8) => Value.int .u8 (b.toNat : Int)) 0 dk (Array.replicate 24 (.int .u8 0))) T (0, 0)), ⟨rfl, _, rfl, ?_⟩, ?_, ?_⟩
  · intro i v hv
    refine ⟨_, rfl, ?_⟩
    rw [add_mk, cell_of set_same]
    simp only [by8, decI, List.map_map, List.getElem?_map, Option.map_eq_some_iff] at hv
    obtain ⟨b, hb1, rfl⟩ := hv
    have hi : i < (Go.Lib.decDigits ((u : Int)).toNat).length := (List.getElem?_eq_some_iff.1 hb1).1
    rw [Int.toNat_natCast] at hb1 hi
    have hn := Go.Lib.row_is_numeral hF i hi
    have hbi : b = dk[i]! := by rw [← hn]; simpa [hi] using hb1.symm
    rw [Go.Lib.decDigits_length] at hi
    simp only [Go.Sort.putCells, Array.getElem?_mapIdx, Nat.zero_add]
    rw [Array.getElem?_eq_getElem (by simp; omega)]
    simp only [Option.map_some, Nat.zero_le, true_and, Nat.sub_zero]
    rw [if_pos (by omega), ← hbi]
    rfl
  · intro q o hq
    show (Go.Sort.putRow _ w r 0 dk).heap[q]? = some o
    unfold Go.Sort.putRow Go.Sort.mapBlock
    simp only [Array.getElem?_modify]
    by_cases e : q = r
    · subst e
      rw [if_pos rfl, hwr]
      rw [set_same] at hq
      exact hq
    · rw [if_neg (fun h => e h.symm)]
      rw [set_other e] at hq
      exact hw _ _ hq
  · refine ⟨rfl, rfl, rfl, by show w.heap.size ≤ (w.heap.modify _ _).size; simp, fun q hq hn => ?_, fun q hq => ?_⟩
    · show (w.heap.modify _ _)[q]? = _
      rw [Array.getElem?_modify, if_neg (by rintro rfl; rw [hb] at hn; cases hn)]
    · by_cases e : q = r
      · subst e; exact .inl (by rw [hb]; simp)
      · rw [set_other e] at hq; exact .inl hq

set_option maxHeartbeats 2000000 in
theorem appendUint_spec {H : Heap} {v : Value} {l : List Int} {u : Nat} (hT : Tab H) (hu : u < 9223372036854775808) (hO : Own H 5 1 v (by8 l)) (hl : l.length ≤ 1099511627776) :
    ACalls Tryd.prog 45 [v, .int .u64 u, .int .i64 10].toArray H fun e H' => ∃ v', e = .returned v' ∧ Own H' 5 1 v' (by8 (l ++ decI u)) ∧ Oth H v H' ∧ Moved H v v' := by
  refine call45 (Nat.le_of_ble_eq_true rfl) ?_
  unfold L45 env0
  have hsv := hO.scalar
  have hlen := decI_len (n := u) (by omega)
  have hdl : (Go.Lib.decDigits u).length ≤ 19 := by unfold decI at hlen; rw [List.length_map, Int.toNat_natCast] at hlen; exact hlen
  have f0 : ((10 : Int) == 10) = true := rfl
  by_cases h : u < 100
  · have f1 : decide ((u : Int) < 100) = true := decide_eq_true (by omega)
    simp -implicitDefEqProofs (maxSteps := 1000000) (disch := first | omega | assumption) only [f0, f1, Sx, reduceIte, Nat.reduceEqDiff, reduceCtorEq, Nat.reduceAdd, Nat.reduceSub, Nat.reduceLT, decide_true, decide_false, Bool.not_true, Bool.not_false, Int.toNat_one, Int.toNat_zero, Nat.zero_mul, l_g, endK, gd_u]
    refine a_call (acalls_of fun w hw => Tryd.internal_strconv_small u h w) ?_
    rintro e H1 ⟨rfl, rfl⟩
    simp -implicitDefEqProofs (maxSteps := 1000000) (disch := first | omega | assumption) only [Sx, reduceIte, Nat.reduceEqDiff, reduceCtorEq, Nat.reduceAdd, Nat.reduceSub, Nat.reduceLT, decide_true, decide_false, Bool.not_true, Bool.not_false, Int.toNat_one, Int.toNat_zero, Nat.zero_mul, l_g, endK, gd_u]
    refine app_txt hO (by omega) ?_
    intro v' H2 h1 h2 h3
    try simp -implicitDefEqProofs (maxSteps := 1000000) (disch := first | omega | assumption) only [Sx, reduceIte, Nat.reduceEqDiff, reduceCtorEq, Nat.reduceAdd, Nat.reduceSub, Nat.reduceLT, decide_true, decide_false, Bool.not_true, Bool.not_false, Int.toNat_one, Int.toNat_zero, Nat.zero_mul, l_g, endK, gd_u]
    exact ⟨v', by trivial, by unfold decI; rw [Int.toNat_natCast]; exact h1, h2, h3⟩
  · have f1 : decide ((u : Int) < 100) = false := decide_eq_false (by omega)
    simp -implicitDefEqProofs (maxSteps := 1000000) (disch := first | omega | assumption) only [f0, f1, Sx, reduceIte, Nat.reduceEqDiff, reduceCtorEq, Nat.reduceAdd, Nat.reduceSub, Nat.reduceLT, decide_true, decide_false, Bool.not_true, Bool.not_false, Int.toNat_one, Int.toNat_zero, Nat.zero_mul, l_g, endK, gd_u]
    refine a_new fun r hr => ?_
    have hk1 : Keep H (H.set r (.cells (Array.replicate 24 (.int .u8 0)) 72 (0, 0))) := (Keep.refl _).set_new hr
    generalize hH1 : H.set r (.cells (Array.replicate 24 (.int .u8 0)) 72 (0, 0)) = H1 at hk1 ⊢
    have hb1 : H1 r = some (.cells (Array.replicate 24 (.int .u8 0)) 72 (0, 0)) := by rw [← hH1]; exact set_same
    try simp -implicitDefEqProofs (maxSteps := 1000000) (disch := first | omega | assumption) only [Sx, reduceIte, Nat.reduceEqDiff, reduceCtorEq, Nat.reduceAdd, Nat.reduceSub, Nat.reduceLT, decide_true, decide_false, Bool.not_true, Bool.not_false, Int.toNat_one, Int.toNat_zero, Nat.zero_mul, l_g, endK, gd_u]
    refine a_call (acalls_of fun w hw => Tryd.internal_strconv_numDigits u (by omega) (by omega) w ((hT.keep hk1).is hw)) ?_
    rintro e H2 ⟨rfl, rfl⟩
    have hnd : Go.Lib.nDigits u ≤ 19 := by rw [← Go.Lib.decDigits_length]; exact hdl
    have hc1 : (0 : Int) ≤ ((Go.Lib.nDigits u : Nat) : Int) ∧ ((Go.Lib.nDigits u : Nat) : Int) ≤ ((24 : Nat) : Int) := by omega
    have es := ev_sla_hi (H := H2) (z := ((Go.Lib.nDigits u : Nat) : Int)) (a := ⟨r, 0, none⟩) (sz := 1) (k := .i64) (m := 24) hc1
    rw [Int.toNat_natCast] at es
    simp -implicitDefEqProofs (maxSteps := 1000000) (disch := first | omega | assumption) only [es, Sx, reduceIte, Nat.reduceEqDiff, reduceCtorEq, Nat.reduceAdd, Nat.reduceSub, Nat.reduceLT, decide_true, decide_false, Bool.not_true, Bool.not_false, Int.toNat_one, Int.toNat_zero, Nat.zero_mul, l_g, endK, gd_u]
    refine a_call (fmt_spec hu hb1 (by omega)) ?_
    rintro e H3 ⟨rfl, cells, hH3, hrow⟩
    have es := ev_sla_hi (H := H3) (z := ((Go.Lib.nDigits u : Nat) : Int)) (a := ⟨r, 0, none⟩) (sz := 1) (k := .i64) (m := 24) hc1
    rw [Int.toNat_natCast] at es
    simp -implicitDefEqProofs (maxSteps := 1000000) (disch := first | omega | assumption) only [es, Sx, reduceIte, Nat.reduceEqDiff, reduceCtorEq, Nat.reduceAdd, Nat.reduceSub, Nat.reduceLT, decide_true, decide_false, Bool.not_true, Bool.not_false, Int.toNat_one, Int.toNat_zero, Nat.zero_mul, l_g, endK, gd_u]
    have hk3 : Keep H H3 := by rw [hH3]; exact hk1.set_fresh hr
    have hdn : (decI u).length = Go.Lib.nDigits u := by unfold decI; rw [List.length_map, Int.toNat_natCast, Go.Lib.decDigits_length]
    refine app_by (x := decI u) (hO.keep hk3) ⟨_, _, by rw [hdn], by omega, hrow⟩ (by omega) ?_
    intro v' H4 h1 h2 h3
    try simp -implicitDefEqProofs (maxSteps := 1000000) (disch := first | omega | assumption) only [Sx, reduceIte, Nat.reduceEqDiff, reduceCtorEq, Nat.reduceAdd, Nat.reduceSub, Nat.reduceLT, decide_true, decide_false, Bool.not_true, Bool.not_false, Int.toNat_one, Int.toNat_zero, Nat.zero_mul, l_g, endK, gd_u]
    refine ⟨v', by trivial, h1, ?_, ?_⟩
    · exact (Only.of_keep hk3 (S := fun q => own v = some q)).trans h2 fun q hq => .inl hq
    · rcases h3 with e | ⟨q, e, hq⟩
      · exact .inl e
      · exact .inr ⟨q, e, hk3.none hq⟩

theorem appendIntI_spec {H : Heap} {v : Value} {l : List Int} {n : Int} (hT : Tab H) (h0 : 0 ≤ n) (hn : n ≤ 9223372036854775807) (hO : Own H 5 1 v (by8 l)) (hl : l.length ≤ 1099511627776) :
    ACalls Tryd.prog 39 [v, .int .i64 n, .int .i64 10].toArray H fun e H' => ∃ v', e = .returned v' ∧ Own H' 5 1 v' (by8 (l ++ decI n)) ∧ Oth H v H' ∧ Moved H v v' := by
  refine call39 (Nat.le_of_ble_eq_true rfl) ?_
  unfold L39 env0
  have hsv := hO.scalar
  have f0 : decide (n < 0) = false := decide_eq_false (by omega)
  obtain ⟨u, rfl⟩ : ∃ u : Nat, n = (u : Int) := ⟨n.toNat, by omega⟩
  have e1 : IntKind.u64.wrap (u : Int) = (u : Int) := w_u64 (by omega)
  simp -implicitDefEqProofs (maxSteps := 1000000) (disch := first | omega | assumption) only [f0, e1, L39_0, Sx, reduceIte, Nat.reduceEqDiff, reduceCtorEq, Nat.reduceAdd, Nat.reduceSub, Nat.reduceLT, decide_true, decide_false, Bool.not_true, Bool.not_false, Int.toNat_one, Int.toNat_zero, Nat.zero_mul, l_g, endK, gd_u]
  refine a_call (appendUint_spec hT (by omega) hO hl) ?_
  rintro e H1 ⟨v', rfl, h1, h2, h3⟩
  have hsv' := h1.scalar
  simp -implicitDefEqProofs (maxSteps := 1000000) (disch := first | omega | assumption) only [Sx, reduceIte, Nat.reduceEqDiff, reduceCtorEq, Nat.reduceAdd, Nat.reduceSub, Nat.reduceLT, decide_true, decide_false, Bool.not_true, Bool.not_false, Int.toNat_one, Int.toNat_zero, Nat.zero_mul, l_g, endK, gd_u]
  exact ⟨v', by trivial, h1, h2, h3⟩
theorem appendInt_spec {H : Heap} {v : Value} {l : List Int} {n : Int} (hT : Tab H) (h0 : 0 ≤ n) (hn : n ≤ 9223372036854775807) (hO : Own H 5 1 v (by8 l)) (hl : l.length ≤ 1099511627776) :
    ACalls Tryd.prog 25 [v, .int .i64 n, .int .i64 10].toArray H fun e H' => ∃ v', e = .returned v' ∧ Own H' 5 1 v' (by8 (l ++ decI n)) ∧ Oth H v H' ∧ Moved H v v' := by
  have hsv := hO.scalar
  refine call25 (Nat.le_of_ble_eq_true rfl) ?_
  unfold L25 env0
  simp -implicitDefEqProofs (maxSteps := 1000000) (disch := first | omega | assumption) only [Sx, reduceIte, Nat.reduceEqDiff, reduceCtorEq, Nat.reduceAdd, Nat.reduceSub, Nat.reduceLT, decide_true, decide_false, Bool.not_true, Bool.not_false, Int.toNat_one, Int.toNat_zero, Nat.zero_mul, l_g, endK, gd_u]
  refine a_call (appendIntI_spec hT h0 hn hO hl) ?_
  rintro e H1 ⟨v', rfl, h1, h2, h3⟩
  have hsv' := h1.scalar
  simp -implicitDefEqProofs (maxSteps := 1000000) (disch := first | omega | assumption) only [Sx, reduceIte, Nat.reduceEqDiff, reduceCtorEq, Nat.reduceAdd, Nat.reduceSub, Nat.reduceLT, decide_true, decide_false, Bool.not_true, Bool.not_false, Int.toNat_one, Int.toNat_zero, Nat.zero_mul, l_g, endK, gd_u]
  exact ⟨v', by trivial, h1, h2, h3⟩
/-- a line -/
theorem line_spec {H : Heap} {v : Value} {l : List Int} {n : Int} (hT : Tab H) (h0 : 0 ≤ n) (hn : n ≤ 9223372036854775807) (hO : Own H 5 1 v (by8 l)) (hl : l.length ≤ 1000000000000) :
    ACalls Tryd.prog 24 [v, .int .i64 n].toArray H fun e H' => ∃ v', e = .returned v' ∧ Own H' 5 1 v' (by8 (l ++ (decI n ++ [10]))) ∧ Oth H v H' ∧ Moved H v v' := by
  have hsv := hO.scalar
  refine call24 (Nat.le_of_ble_eq_true rfl) ?_
  unfold L24 env0
  simp -implicitDefEqProofs (maxSteps := 1000000) (disch := first | omega | assumption) only [Sx, reduceIte, Nat.reduceEqDiff, reduceCtorEq, Nat.reduceAdd, Nat.reduceSub, Nat.reduceLT, decide_true, decide_false, Bool.not_true, Bool.not_false, Int.toNat_one, Int.toNat_zero, Nat.zero_mul, l_g, endK, gd_u]
  refine a_call (appendInt_spec hT h0 hn hO (by omega)) ?_
  rintro e H1 ⟨v1, rfl, h1, h2, h3⟩
  have hsv1 := h1.scalar
  have hlen := decI_len hn
  simp -implicitDefEqProofs (maxSteps := 1000000) (disch := first | omega | assumption) only [Sx, reduceIte, Nat.reduceEqDiff, reduceCtorEq, Nat.reduceAdd, Nat.reduceSub, Nat.reduceLT, decide_true, decide_false, Bool.not_true, Bool.not_false, Int.toNat_one, Int.toNat_zero, Nat.zero_mul, l_g, endK, gd_u]
  refine lits_byte ?_
  intro r2 H2 hO2 hk2 hr2
  try simp -implicitDefEqProofs (maxSteps := 1000000) (disch := first | omega | assumption) only [Sx, reduceIte, Nat.reduceEqDiff, reduceCtorEq, Nat.reduceAdd, Nat.reduceSub, Nat.reduceLT, decide_true, decide_false, Bool.not_true, Bool.not_false, Int.toNat_one, Int.toNat_zero, Nat.zero_mul, l_g, endK, gd_u]
  refine app_by (x := [10]) (h1.keep hk2) (own_by hO2) (by simp; omega) ?_
  intro v3 H3 hO3 ho3 hm3
  try simp -implicitDefEqProofs (maxSteps := 1000000) (disch := first | omega | assumption) only [Sx, reduceIte, Nat.reduceEqDiff, reduceCtorEq, Nat.reduceAdd, Nat.reduceSub, Nat.reduceLT, decide_true, decide_false, Bool.not_true, Bool.not_false, Int.toNat_one, Int.toNat_zero, Nat.zero_mul, l_g, endK, gd_u]
  refine ⟨v3, by trivial, by rw [← List.append_assoc]; exact hO3, ?_, ?_⟩
  · exact oth_trans (h2.trans (Only.of_keep hk2) (S' := fun _ => False) fun q hq => hq.elim) h3 ho3
  · exact Moved.trans h3 (fun q hq => h2.none (hk2.none hq)) hm3

set_option maxHeartbeats 1000000 in
theorem decimal_spec {H : Heap} {n : Int} (h0 : 0 ≤ n) (hn : n ≤ 9223372036854775807) :
    ACalls Tryd.prog 27 [.int .i64 n].toArray H fun e H' => ∃ v, e = .returned v ∧ Own H' 5 1 v (by8 (decI n)) ∧ Keep H H' ∧ Fresh H v := by
  refine call27 (Nat.le_of_ble_eq_true rfl) ?_
  unfold L27 env0
  have e1 : IntKind.u8.wrap (48 + n % 10) = 48 + n % 10 := w_u8 (by omega)
  simp -implicitDefEqProofs (maxSteps := 1000000) (disch := first | omega | assumption) only [e1, Sx, reduceIte, Nat.reduceEqDiff, reduceCtorEq, Nat.reduceAdd, Nat.reduceSub, Nat.reduceLT, decide_true, decide_false, Bool.not_true, Bool.not_false, Int.toNat_one, Int.toNat_zero, Nat.zero_mul, l_g, endK, gd_u]
  refine lits_byte ?_
  intro r1 H1 hO1 hk1 hr1
  try simp -implicitDefEqProofs (maxSteps := 1000000) (disch := first | omega | assumption) only [Sx, reduceIte, Nat.reduceEqDiff, reduceCtorEq, Nat.reduceAdd, Nat.reduceSub, Nat.reduceLT, decide_true, decide_false, Bool.not_true, Bool.not_false, Int.toNat_one, Int.toNat_zero, Nat.zero_mul, l_g, endK, gd_u]
  refine c_loop (fun k env H' => ∃ (m : Int) (acc : List Int) (v : Value), m.toNat = k ∧ 0 ≤ m ∧ m ≤ n ∧ env 0 = .int .i64 m ∧ env 3 = v ∧ Own H' 5 1 v (by8 ((48 + m % 10) :: acc)) ∧ acc.length ≤ 19 ∧ decI n = decI m ++ acc ∧ Keep H H' ∧ Fresh H v) n.toNat
    ⟨n, [], _, rfl, h0, Int.le_refl _, by simp -implicitDefEqProofs (maxSteps := 1000000) (disch := first | omega | assumption) only [Sx, reduceIte, Nat.reduceEqDiff, reduceCtorEq, Nat.reduceAdd, Nat.reduceSub, Nat.reduceLT, decide_true, decide_false, Bool.not_true, Bool.not_false, Int.toNat_one, Int.toNat_zero, Nat.zero_mul, l_g, endK, gd_u], by simp -implicitDefEqProofs (maxSteps := 1000000) (disch := first | omega | assumption) only [Sx, reduceIte, Nat.reduceEqDiff, reduceCtorEq, Nat.reduceAdd, Nat.reduceSub, Nat.reduceLT, decide_true, decide_false, Bool.not_true, Bool.not_false, Int.toNat_one, Int.toNat_zero, Nat.zero_mul, l_g, endK, gd_u], hO1, by simp, by simp, hk1, by rintro q ⟨⟩; exact hr1⟩ ?_
  rintro k env H2 ⟨m, acc, v, hk, hm0, hmn, g0, g3, hO, hacc, hd, hK, hF⟩
  have hsv := hO.scalar
  unfold L27_0
  by_cases hm : 10 ≤ m
  · have f0 : decide (10 ≤ m) = true := decide_eq_true hm
    have e2 : IntKind.u8.wrap (48 + m / 10 % 10) = 48 + m / 10 % 10 := w_u8 (by omega)
    have hdm := decI_big hm
    have hla : acc.length < 19 := by
      have h1 := congrArg List.length hd
      rw [hdm] at h1
      simp only [List.length_append, List.length_cons, List.length_nil] at h1
      have := decI_len hn
      omega
    simp -implicitDefEqProofs (maxSteps := 1000000) (disch := first | omega | assumption) only [g0, g3, f0, e2, Sx, reduceIte, Nat.reduceEqDiff, reduceCtorEq, Nat.reduceAdd, Nat.reduceSub, Nat.reduceLT, decide_true, decide_false, Bool.not_true, Bool.not_false, Int.toNat_one, Int.toNat_zero, Nat.zero_mul, l_g, endK, gd_u]
    refine lits_byte ?_
    intro r3 H3 hO3 hk3 hr3
    try simp -implicitDefEqProofs (maxSteps := 1000000) (disch := first | omega | assumption) only [g0, g3, Sx, reduceIte, Nat.reduceEqDiff, reduceCtorEq, Nat.reduceAdd, Nat.reduceSub, Nat.reduceLT, decide_true, decide_false, Bool.not_true, Bool.not_false, Int.toNat_one, Int.toNat_zero, Nat.zero_mul, l_g, endK, gd_u]
    refine app_by (x := (48 + m % 10) :: acc) hO3 (own_by (hO.keep hk3)) (by simp; omega) ?_
    intro v4 H4 hO4 ho4 hm4
    try simp -implicitDefEqProofs (maxSteps := 1000000) (disch := first | omega | assumption) only [g0, g3, Sx, reduceIte, Nat.reduceEqDiff, reduceCtorEq, Nat.reduceAdd, Nat.reduceSub, Nat.reduceLT, decide_true, decide_false, Bool.not_true, Bool.not_false, Int.toNat_one, Int.toNat_zero, Nat.zero_mul, l_g, endK, gd_u]
    obtain ⟨q1, q2⟩ := grown (hK.trans hk3) (H0 := H) (v := .slice (some ⟨r3, 0, none⟩) 1 1) (by rintro q ⟨⟩; exact hK.none hr3) ho4 hm4
    refine ⟨(m / 10).toNat, by omega, m / 10, (48 + m % 10) :: acc, v4, rfl, by omega, by omega, by trivial, by trivial, hO4, by simp; omega, by rw [hd, hdm]; simp, q1, q2⟩
  · have f0 : decide (10 ≤ m) = false := decide_eq_false hm
    simp -implicitDefEqProofs (maxSteps := 1000000) (disch := first | omega | assumption) only [g0, g3, f0, Sx, reduceIte, Nat.reduceEqDiff, reduceCtorEq, Nat.reduceAdd, Nat.reduceSub, Nat.reduceLT, decide_true, decide_false, Bool.not_true, Bool.not_false, Int.toNat_one, Int.toNat_zero, Nat.zero_mul, l_g, endK, gd_u]
    refine ⟨v, by trivial, ?_, hK, hF⟩
    have e3 : m % 10 = m := by omega
    rw [hd, decI_small hm0 (by omega)]
    rw [e3] at hO
    exact hO
end Go.Proofs.YthflafgijfbpnaaDoor.S15
