/-
  NewCode.
-/
import Derived.Test.YtgbhdpeibiglfaaDoorSCode
set_option linter.unusedVariables false
set_option linter.unusedSimpArgs false
namespace Go.Proofs.YtgbhdpeibiglfaaDoor.S05
open Go Go.RowKit Go.Proofs.YtgbhdpeibiglfaaDoor.Sep Go.Proofs.YtgbhdpeibiglfaaDoor.Low Go.Proofs.YtgbhdpeibiglfaaDoor.CodeLaw
open Go.Proofs.YtgbhdpeibiglfaaDoor.Lib (by64 by64_scalar encs encs_len)

def wd (x : Nat × Nat) : List Value := [.int .u32 (x.1 : Nat), .int .i64 (x.2 : Nat)]
theorem wd_len (x : Nat × Nat) : (wd x).length = 2 := rfl
theorem wd_scalar (x : Nat × Nat) : ∀ v ∈ wd x, scalarV v = true := by intro v hv; simp [wd] at hv; rcases hv with rfl | rfl <;> rfl
def cnts (l : List Int) : List Int := (List.range 16).map fun n => if n = 0 then 0 else ((cnt l n : Nat) : Int)
theorem cnts_len (l : List Int) : (cnts l).length = 16 := by simp [cnts]
theorem cnts_get {l : List Int} {n : Nat} (h0 : 1 ≤ n) (h : n < 16) : (cnts l).getD n 0 = cnt l n := by
  rw [List.getD_eq_getElem?_getD, cnts, List.getElem?_map, List.getElem?_range h]
  simp [show n ≠ 0 by omega]
theorem cnts_put {l : List Int} {i x : Nat} (hi : i < l.length) (hx : l[i] = (x : Int)) (h0 : 1 ≤ x) (h1 : x < 16) : cnts (l.take (i + 1)) = (cnts (l.take i)).set x ((cnt (l.take i) x : Nat) + 1) := by
  apply List.ext_getElem (by simp [cnts])
  intro j h2 h3
  rw [List.getElem_set]
  simp only [cnts, List.getElem_map, List.getElem_range]
  rw [cnt_take hi, hx]
  by_cases hj : x = j
  · subst hj
    rw [if_pos rfl, if_neg (by omega), if_pos rfl]
    simp
  · rw [if_neg hj]
    rw [if_neg (show ¬ (x : Int) = (j : Int) by omega), Nat.add_zero]
theorem cnts_skip {l : List Int} {i : Nat} (hi : i < l.length) (hx : l[i] = 0) : cnts (l.take (i + 1)) = cnts (l.take i) := by
  apply List.ext_getElem (by simp [cnts])
  intro j h2 h3
  simp only [cnts, List.getElem_map, List.getElem_range]
  rw [cnt_take hi, hx]
  by_cases hj : j = 0
  · rw [if_pos hj, if_pos hj]
  · rw [if_neg hj, if_neg hj, if_neg (by omega), Nat.add_zero]

abbrev fz : List Int := List.replicate 16 0
/-- the block of a Code -/
abbrev CB (H : Heap) (p : Nat) (wv ov : Value) (cs fs : List Int) (wh : Bool) (lo : Int) : Prop := H p = some (.cells (codeCells wv ov cs fs wh lo).toArray 119 (0, 0))

/-- one length is counted -/
theorem count_round {H0 H : Heap} {a : Option Addr} {c p i : Nat} {l : List Int} {wv ov : Value} {env : Env} {Q : Post} {QP : List PanicEntry → Heap → Prop} (hr : Row H0 a (by64 l)) (hl : l.length ≤ 320) (hi : i < l.length) (hx : 0 ≤ l[i] ∧ l[i] ≤ 15) (hK : Keep H0 H) (hp : H0 p = none)
    (hB : CB H p wv ov (cnts (l.take i)) fz false 0)
    (h0 : env 0 = .slice a l.length c) (h4 : env 4 = .pointer (some ⟨p, 0, none⟩)) (h5 : env 5 = .int .i64 (kraft (l.take i) : Nat)) (h25 : env 25 = .slice a l.length c) (h26 : env 26 = .int .i64 l.length) (h27 : env 27 = .int .i64 i)
    (hk : ∀ env' H', env' 0 = .slice a l.length c → env' 4 = .pointer (some ⟨p, 0, none⟩) → env' 5 = .int .i64 (kraft (l.take (i + 1)) : Nat) → env' 25 = .slice a l.length c → env' 26 = .int .i64 l.length → env' 27 = .int .i64 ((i + 1 : Nat) : Int) → Only (· = p) H H' → CB H' p wv ov (cnts (l.take (i + 1))) fz false 0 → Q .normal env' H') :
    awpC Tryd.prog L73_1 Q QP env H := by
  have f0 : decide ((i : Int) < (l.length : Int)) = true := decide_eq_true (by omega)
  obtain ⟨b, rfl, hb⟩ := int_at (hK.row hr) hi
  have hkt := kraft_take hi
  have hle := kraft_le (l.take i)
  rw [List.length_take] at hle
  obtain ⟨x, hxe⟩ : ∃ x : Nat, l[i] = (x : Int) := ⟨l[i].toNat, by omega⟩
  rw [hxe] at hb hx hkt
  rw [Int.toNat_natCast] at hkt
  have hpw := pow15 x
  have f1 : decide ((x : Int) < 0) = false := decide_eq_false (by omega)
  have f2 : decide (15 < (x : Int)) = false := decide_eq_false (by omega)
  unfold L73_1
  by_cases hpos : 0 < (x : Int)
  · have f3 : decide ((0 : Int) < (x : Int)) = true := decide_eq_true hpos
    have e1 : (15 : Int) - (x : Int) = ((15 - x : Nat) : Int) := by omega
    have e3 := shl15 (n := x) (by omega)
    rw [if_pos hpos] at hkt
    have hcc := cc_cnt (wv := wv) (ov := ov) (cs := cnts (l.take i)) (fs := fz) (wh := false) (lo := 0) (n := x) (cnts_len _) (by omega)
    rw [cnts_get (by omega) (by omega)] at hcc
    have hcn : cnt (l.take i) x ≤ 320 := by
      have : cnt (l.take i) x ≤ (l.take i).length := List.countP_le_length
      rw [List.length_take] at this
      omega
    simp -implicitDefEqProofs (maxSteps := 1000000) (disch := first | omega | assumption) only [h4, h25, h26, h27, f0, f1, f2, f3, hb, l_g, cell_of hB, hcc, Sx, Nat.reduceEqDiff]
    refine st_one hB (by rw [cc_size (cnts_len _) (by simp)]; omega) (by rfl) ?_
    rw [cc_set_cnt (cnts_len _) (by omega), ← cnts_put hi hxe (by omega) (by omega)]
    try simp -implicitDefEqProofs (maxSteps := 1000000) (disch := first | omega | assumption) only [h5, e1, e3, Sx, Nat.reduceEqDiff]
    unfold L73_0
    simp -implicitDefEqProofs (maxSteps := 1000000) (disch := first | omega | assumption) only [h27, Sx, Nat.reduceEqDiff]
    exact hk _ _ (by simp -implicitDefEqProofs (maxSteps := 1000000) (disch := first | omega | assumption) only [h0, Sx, reduceCtorEq]) (by simp -implicitDefEqProofs (maxSteps := 1000000) (disch := first | omega | assumption) only [h4, Sx, Nat.reduceEqDiff]) (by simp -implicitDefEqProofs (maxSteps := 1000000) (disch := first | omega | assumption) only [Sx, Nat.reduceEqDiff]; rw [hkt]; simp) (by simp -implicitDefEqProofs (maxSteps := 1000000) (disch := first | omega | assumption) only [h25, Sx, Nat.reduceEqDiff]) (by simp -implicitDefEqProofs (maxSteps := 1000000) (disch := first | omega | assumption) only [h26, Sx, Nat.reduceEqDiff]) (by simp -implicitDefEqProofs (maxSteps := 1000000) (disch := first | omega | assumption) only [Int.natCast_add, Int.natCast_one, Sx, Nat.reduceEqDiff]) ((Only.refl _ _).set (.inl rfl)) set_same
  · have f3 : decide ((0 : Int) < (x : Int)) = false := decide_eq_false hpos
    rw [if_neg hpos, Nat.add_zero] at hkt
    simp -implicitDefEqProofs (maxSteps := 1000000) (disch := first | omega | assumption) only [h25, h26, h27, f0, f1, f2, f3, hb, l_g, Sx, Nat.reduceEqDiff]
    unfold L73_0
    simp -implicitDefEqProofs (maxSteps := 1000000) (disch := first | omega | assumption) only [h27, Sx, Nat.reduceEqDiff]
    have hx0 : l[i] = 0 := by omega
    exact hk _ _ (by simp -implicitDefEqProofs (maxSteps := 1000000) (disch := first | omega | assumption) only [h0, Sx, reduceCtorEq]) (by simp -implicitDefEqProofs (maxSteps := 1000000) (disch := first | omega | assumption) only [h4, Sx, Nat.reduceEqDiff]) (by simp -implicitDefEqProofs (maxSteps := 1000000) (disch := first | omega | assumption) only [h5, Sx, Nat.reduceEqDiff]; rw [hkt]; simp) (by simp -implicitDefEqProofs (maxSteps := 1000000) (disch := first | omega | assumption) only [h25, Sx, Nat.reduceEqDiff]) (by simp -implicitDefEqProofs (maxSteps := 1000000) (disch := first | omega | assumption) only [h26, Sx, Nat.reduceEqDiff]) (by simp -implicitDefEqProofs (maxSteps := 1000000) (disch := first | omega | assumption) only [Int.natCast_add, Int.natCast_one, Sx, Nat.reduceEqDiff]) (Only.refl _ _) (by rw [cnts_skip hi hx0]; exact hB)

theorem wl_set {l : List (Nat × Nat)} {i : Nat} {x : Nat × Nat} (hi : i < l.length) : (encs wd l).take (i * 2) ++ wd x ++ (encs wd l).drop (i * 2 + (wd x).length) = encs wd (l.set i x) := by
  rw [Lib.encs_take wd_len, wd_len, show i * 2 + 2 = (i + 1) * 2 by omega, Lib.encs_drop wd_len, List.set_eq_take_append_cons_drop, if_pos hi]
  simp [encs, List.append_assoc]
/-- the longest of the words that are made -/
structure Lo (l : List Int) (n i lo : Nat) : Prop where
  gap : ∀ m, lo < m → m < n → cnt l m = 0
  now : lo < n → rank l i n = 0
  le : lo ≤ n
  got : lo = 0 ∨ 0 < cnt l lo
theorem rank_succ {l : List Int} {i n : Nat} (hi : i < l.length) : rank l (i + 1) n = rank l i n + (if l[i] = (n : Int) then 1 else 0) := cnt_take hi
theorem rank_all (l : List Int) (n : Nat) : rank l l.length n = cnt l n := by unfold rank; rw [List.take_length]
theorem Lo.skip {l : List Int} {n i lo : Nat} (h : Lo l n i lo) (hi : i < l.length) (hx : l[i] ≠ (n : Int)) : Lo l n (i + 1) lo :=
  ⟨h.gap, fun hl => by rw [rank_succ hi, if_neg hx, h.now hl], h.le, h.got⟩
theorem Lo.put {l : List Int} {n i lo : Nat} (h : Lo l n i lo) (hi : i < l.length) (hx : l[i] = (n : Int)) : Lo l n (i + 1) n :=
  ⟨fun m h1 h2 => by omega, fun hl => by omega, Nat.le_refl _, .inr (by have := rank_lt hi hx; omega)⟩
theorem Lo.next {l : List Int} {n lo : Nat} (h : Lo l n l.length lo) : Lo l (n + 1) 0 lo :=
  ⟨fun m h1 h2 => by
    by_cases hm : m = n
    · subst hm
      have := h.now h1
      rwa [rank_all] at this
    · exact h.gap m h1 (by omega), fun _ => rfl, by have := h.le; omega, h.got⟩
/-- the state while words are made -/
structure NS (H0 : Heap) (a : Option Addr) (c : Nat) (l : List Int) (p : Nat) (wv ov : Value) (fs : List Int) (n i word lo : Nat) (env : Env) (H : Heap) : Prop where
  h0 : env 0 = .slice a l.length c
  h4 : env 4 = .pointer (some ⟨p, 0, none⟩)
  h8 : env 8 = .int .i64 word
  h9 : env 9 = .int .i64 n
  B : CB H p wv ov (cnts l) fs (isWhole l) lo
  W : Own H 122 2 wv (encs wd (WL l n i))
  O : Own H 3 1 ov (by64 ((OL l n i).map fun j : Nat => (j : Int)))
  K : Keep H0 H
  Fp : H0 p = none
  Fw : Fresh H0 wv
  Fo : Fresh H0 ov
  ne : ∀ r, own wv = some r → own ov ≠ some r
  L : Lo l n i lo

set_option maxHeartbeats 4000000 in
/-- a symbol is looked at -/
theorem sym_round {H0 H : Heap} {a : Option Addr} {c p i n word lo : Nat} {l fs : List Int} {wv ov : Value} {env : Env} {Q : Post} {QP : List PanicEntry → Heap → Prop} (hr : Row H0 a (by64 l)) (hl : l.length ≤ 320) (hi : i < l.length) (hc : isCode l = true) (hn1 : 1 ≤ n) (hn : n ≤ 15)
    (hfs : fs.length = 16) (hw : word = fst l n + rank l i n) (hS : NS H0 a c l p wv ov fs n i word lo env H)
    (h78 : env 78 = .slice a l.length c) (h79 : env 79 = .int .i64 l.length) (h80 : env 80 = .int .i64 i)
    (hk : ∀ env' H' ov' lo', env' 78 = .slice a l.length c → env' 79 = .int .i64 l.length → env' 80 = .int .i64 ((i + 1 : Nat) : Int) → NS H0 a c l p wv ov' fs n (i + 1) (fst l n + rank l (i + 1) n) lo' env' H' → Q .normal env' H') :
    awpC Tryd.prog L73_2 Q QP env H := by
  obtain ⟨h0, h4, h8, h9, hB, hW, hO, hK, hFp, hFw, hFo, hne, hL⟩ := hS
  have f0 : decide ((i : Int) < (l.length : Int)) = true := decide_eq_true (by omega)
  obtain ⟨b, rfl, hb⟩ := int_at (hK.row hr) hi
  have hrs := rank_succ (n := n) hi
  have hlen : l[i] = ((len_ l i : Nat) : Int) := by
    have hok : okLens l = true := by unfold isCode at hc; simp only [Bool.and_eq_true] at hc; exact hc.1
    have := (okLens_true hok).2 _ (List.getElem_mem hi)
    unfold len_
    rw [List.getD_eq_getElem?_getD, List.getElem?_eq_getElem hi]
    simp only [Option.getD_some]
    omega
  unfold L73_2
  by_cases hx : l[i] = (n : Int)
  · have f1 : (l[i] != (n : Int)) = false := by rw [bne_eq_false_iff_eq]; exact hx
    rw [hx] at hb
    have f1' : ((n : Int) != (n : Int)) = false := by simp
    have hkr : kraft l ≤ 32768 := by
      unfold isCode at hc
      simp only [Bool.and_eq_true, decide_eq_true_eq] at hc
      exact hc.2.2
    have hwo := wordOf_lt hkr hi hx hn1 hn
    have hwe : word = wordOf l i := by
      have hg : (l.getD i 0).toNat = n := by rw [List.getD_eq_getElem?_getD, List.getElem?_eq_getElem hi]; simp [hx]
      unfold wordOf
      rw [hg, hw]
    have hp2 : 2 ^ n ≤ 2 ^ 15 := Nat.pow_le_pow_right (by omega) hn
    have hlen2 : len_ l i = n := by omega
    have hw0 := (cc_hd (wv := wv) (ov := ov) (cs := cnts l) (fs := fs) (wh := isWhole l) (lo := lo)).1
    simp -implicitDefEqProofs (maxSteps := 1000000) (disch := first | omega | assumption) only [h4, h8, h9, h78, h79, h80, f0, f1', hb, cell_of hB, hw0, l_qk, l_e, Sx, Nat.reduceEqDiff, Nat.reduceAdd]
    refine a_call (turned_spec (w := word) (n := n) (by omega) hn) ?_
    rintro e H1 ⟨rfl, rfl⟩
    have hq : H1.cell? ⟨p, 0, none⟩ = some wv := by rw [cell_of hB]; exact hw0
    simp -implicitDefEqProofs (maxSteps := 1000000) (disch := first | omega | assumption) only [endK]
    refine ⟨fun q hq' _ => by rw [List.mem_singleton] at hq'; subst hq'; exact hq, ?_⟩
    have hwl : (encs wd (WL l n i)).length = l.length * 2 := by rw [encs_len wd_len, WL_len]
    obtain ⟨r, len, c2, rfl, hln, -⟩ := Lib.storeC hW (j := 0) (u := .int .u32 0) (by omega) rfl
    rw [hwl] at hln
    have e1 : (i : Int).toNat * 2 = i * 2 := by omega
    simp -implicitDefEqProofs (maxSteps := 1000000) (disch := first | omega | assumption) only [h4, l_e, Sx, Nat.reduceEqDiff, Nat.reduceAdd, Nat.reduceLT]
    refine Lib.a_storeCs hW (new := wd (rev n word, n)) (by rw [wd_len, hwl]; omega) rfl (wd_scalar _) ?_
    intro H2 hW2 ho2
    rw [wl_set (by rw [WL_len]; exact hi)] at hW2
    have hB2 := ho2.oth _ _ hB (hW.elem hB (by decide))
    have hov := cc_hd (wv := .slice (some ⟨r, 0, none⟩) len c2) (ov := ov) (cs := cnts l) (fs := fs) (wh := isWhole l) (lo := lo)
    have hO2 := hO.only ho2 fun q hq e => hne q e hq
    refine ⟨fun q _ hq => by simp at hq, ?_⟩
    simp -implicitDefEqProofs (maxSteps := 1000000) (disch := first | omega | assumption) only [cell_of hB2, hov.2, Sx, Nat.reduceEqDiff]
    refine a_lits (sz := 1) (cells := #[.int .i64 i]) rfl rfl ?_
    intro r1 H3 hO3 hk3 hr3
    obtain ⟨_, _, _, e, _, _, hrow3⟩ := hO3.view
    cases e
    have hsv := hO2.scalar
    try simp -implicitDefEqProofs (maxSteps := 1000000) (disch := first | omega | assumption) only [Sx, Nat.reduceEqDiff]
    have hOl : (OL l n i).length ≤ 320 + 15 * 320 := OL_le hl hn (by omega)
    refine a_app (len := (OL l n i).length) (m := 1) (new := [.int .i64 i]) (hO2.keep hk3) (by simp) (by rfl) (hrow3.cells (by simp)) (by simp) rfl (by omega) (by simp [scalarV]) (by omega) ?_
    intro ov' H4 hO4 ho4 hm4
    have hB3 := hk3 _ _ hB2
    have hB4 := ho4.oth _ _ hB3 ((hO2.keep hk3).elem hB3 (by decide))
    have hW4 := (hW2.keep hk3).only ho4 (fun r hr e => hne r hr e)
    have hne4 : own ov' ≠ some p := hO4.elem hB4 (by decide)
    have hsv4 := hO4.scalar
    try simp -implicitDefEqProofs (maxSteps := 1000000) (disch := first | omega | assumption) only [Sx, Nat.reduceEqDiff]
    refine st_one hB4 (by rw [cc_size (cnts_len _) hfs]; omega) hsv4 ?_
    rw [cc_set_ov]
    have hB5 : CB (H4.set p (.cells (codeCells (.slice (some ⟨r, 0, none⟩) len c2) ov' (cnts l) fs (isWhole l) lo).toArray 119 (0, 0))) p (.slice (some ⟨r, 0, none⟩) len c2) ov' (cnts l) fs (isWhole l) lo := set_same
    try simp -implicitDefEqProofs (maxSteps := 1000000) (disch := first | omega | assumption) only [h4, h9, Sx, Nat.reduceEqDiff]
    refine st_one hB5 (by rw [cc_size (cnts_len _) hfs]; omega) (by rfl) ?_
    rw [cc_set_lo (cnts_len _) hfs, set_set]
    try simp -implicitDefEqProofs (maxSteps := 1000000) (disch := first | omega | assumption) only [h8, h80, Sx, Nat.reduceEqDiff]
    have hnp : own (.slice (some ⟨r, 0, none⟩) len c2) ≠ some p := hW4.elem hB4 (by decide)
    refine hk _ _ ov' n (by simp -implicitDefEqProofs (maxSteps := 1000000) (disch := first | omega | assumption) only [h78, Sx, Nat.reduceEqDiff]) (by simp -implicitDefEqProofs (maxSteps := 1000000) (disch := first | omega | assumption) only [h79, Sx, Nat.reduceEqDiff]) (by simp -implicitDefEqProofs (maxSteps := 1000000) (disch := first | omega | assumption) only [Int.natCast_add, Int.natCast_one, Sx, Nat.reduceEqDiff]) ⟨by simp -implicitDefEqProofs (maxSteps := 1000000) (disch := first | omega | assumption) only [h0, Sx, reduceCtorEq], by simp -implicitDefEqProofs (maxSteps := 1000000) (disch := first | omega | assumption) only [h4, Sx, Nat.reduceEqDiff], ?_, by simp -implicitDefEqProofs (maxSteps := 1000000) (disch := first | omega | assumption) only [h9, Sx, Nat.reduceEqDiff], set_same, ?_, ?_, ?_, hFp, hFw, ?_, ?_, hL.put hi hx⟩
    · simp -implicitDefEqProofs (maxSteps := 1000000) (disch := first | omega | assumption) only [Sx, Nat.reduceEqDiff]
      rw [hrs, if_pos hx, hw, ← Nat.add_assoc, Int.natCast_add]
      rfl
    · rw [WL_put hn1 hi hlen2, show wordAt l i = (rev n word, n) by unfold wordAt; rw [hlen2, hwe]]
      exact hW4.only (S := (· = p)) ((Only.refl _ _).set (.inl rfl)) fun q hq e => hnp (e ▸ hq)
    · rw [OL_put hlen2, List.map_append, by64, List.map_append]
      exact hO4.only (S := (· = p)) ((Only.refl _ _).set (.inl rfl)) fun q hq e => hne4 (e ▸ hq)
    · refine (ho4.keep ((ho2.keep hK fun q hq => hFw q hq).trans hk3) fun q hq => hFo q hq).set_fresh hFp
    · exact hm4.fresh ((ho2.keep hK fun q hq => hFw q hq).trans hk3) hFo
    · intro q hq e
      rcases hm4 with h | ⟨r', h, hr'⟩
      · exact hne q hq (h ▸ e)
      · rw [h] at e
        cases e
        exact (hW2.keep hk3).known hq hr'
  · have f1 : (l[i] != (n : Int)) = true := by rw [bne_iff_ne]; exact hx
    simp -implicitDefEqProofs (maxSteps := 1000000) (disch := first | omega | assumption) only [h9, h78, h79, h80, f0, f1, hb, Sx, Nat.reduceEqDiff]
    refine hk _ _ ov lo (by simp -implicitDefEqProofs (maxSteps := 1000000) (disch := first | omega | assumption) only [h78, Sx, Nat.reduceEqDiff]) (by simp -implicitDefEqProofs (maxSteps := 1000000) (disch := first | omega | assumption) only [h79, Sx, Nat.reduceEqDiff]) (by simp -implicitDefEqProofs (maxSteps := 1000000) (disch := first | omega | assumption) only [Int.natCast_add, Int.natCast_one, Sx, Nat.reduceEqDiff]) ⟨by simp -implicitDefEqProofs (maxSteps := 1000000) (disch := first | omega | assumption) only [h0, Sx, reduceCtorEq], by simp -implicitDefEqProofs (maxSteps := 1000000) (disch := first | omega | assumption) only [h4, Sx, Nat.reduceEqDiff], ?_, by simp -implicitDefEqProofs (maxSteps := 1000000) (disch := first | omega | assumption) only [h9, Sx, Nat.reduceEqDiff], hB, ?_, ?_, hK, hFp, hFw, hFo, hne, hL.skip hi hx⟩
    · simp -implicitDefEqProofs (maxSteps := 1000000) (disch := first | omega | assumption) only [h8, Sx, Nat.reduceEqDiff]
      rw [hrs, if_neg hx, Nat.add_zero, hw]
    · rw [WL_skip (by omega)]; exact hW
    · rw [OL_skip (by omega)]; exact hO
end Go.Proofs.YtgbhdpeibiglfaaDoor.S05
