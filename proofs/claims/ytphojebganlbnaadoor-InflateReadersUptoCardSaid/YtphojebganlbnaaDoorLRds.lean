/-
  InflateReaders: two readers, whatever is fed to them, in turns; the walk.
-/
import Derived.Test.YtphojebganlbnaaDoorRLaw
import Derived.Test.YtphojebganlbnaaDoorRFeed
import Derived.Test.YtphojebganlbnaaDoorLowM
import Derived.Test.YtphojebganlbnaaDoorSepOpn
/-
  A reader of a stream in pieces, the document's.
-/
set_option linter.unusedVariables false
set_option linter.unusedSimpArgs false
namespace Go.Proofs.YtphojebganlbnaaDoor.S06
open Go Go.RowKit Go.Proofs.YtphojebganlbnaaDoor.Sep Go.Proofs.YtphojebganlbnaaDoor.Low Go.Proofs.YtphojebganlbnaaDoor.S05 Go.Proofs.YtphojebganlbnaaDoor.CodeLaw Go.Proofs.YtphojebganlbnaaDoor.Pack Go.Proofs.YtphojebganlbnaaDoor.BitLaw
open Go.Proofs.YtphojebganlbnaaDoor.Lib hiding by8 by8_scalar

def okR (R : Res Unit) : Bool := match R with
  | .ok _ _ _ => true
  | .bad _ _ => false
/-- the document's reader that took the bytes x -/
structure DR (H : Heap) (d mo : Nat) (x : List Int) (v : Value) : Prop where
  blk : H d = some (.cells #[.int .i64 (mo : Nat), .int .i64 ((infl x mo).out.length : Nat), v, .int .i64 (errOf (infl x mo))] 61 (0, 0))
  lst : Bo H v x
  byt : isBy x
  le : mo ≤ 4194304
theorem DR.only {S : Nat → Prop} {H H' : Heap} {d mo : Nat} {x : List Int} {v : Value} (h : DR H d mo x v) (ho : Only S H H') (h1 : ¬ S d) (h2 : ∀ s, own v = some s → ¬ S s) : DR H' d mo x v := ⟨ho.oth _ _ h.blk h1, h.lst.only ho h2, h.byt, h.le⟩
theorem DR.keep {H H' : Heap} {d mo : Nat} {x : List Int} {v : Value} (h : DR H d mo x v) (hk : Keep H H') : DR H' d mo x v := ⟨hk _ _ h.blk, h.lst.keep hk, h.byt, h.le⟩
theorem okR_err {R : Res Unit} (h : errOf R ≠ 0) : okR R = false := by
  cases R with
  | ok u t o => exact absurd rfl h
  | bad e o => rfl
set_option maxHeartbeats 2000000 in
theorem ddone_spec {H : Heap} {d mo : Nat} {x : List Int} {v : Value} (h : DR H d mo x v) (hl : x.length ≤ 137438953472) : ACalls Tryd.prog 27 [Value.pointer (some ⟨d, 0, none⟩)].toArray H fun e H' => e = .returned (.bool (okR (infl x mo))) ∧ Keep H H' := by
  obtain ⟨a, b, hx, hmo⟩ := h
  refine call27 (Nat.le_of_ble_eq_true rfl) ?_
  unfold L27 env0
  obtain ⟨A, c, rfl, hc, w⟩ := Bo.row b
  by_cases he : errOf (infl x mo) = 0
  rotate_left
  · have q1 : (errOf (infl x mo) == 0) = false := beq_eq_false_iff_ne.2 he
    have hk := okR_err he
    simp -implicitDefEqProofs (maxSteps := 1000000) (disch := first | omega | assumption) only [cell_of a, ev_nilc, q1, Sx, reduceIte, Nat.reduceEqDiff, reduceCtorEq, Nat.reduceAdd, Nat.reduceSub, Nat.reduceLT, Zx, endK]
    exact ⟨by rw [hk], Keep.refl _⟩
  have q1 : (errOf (infl x mo) == 0) = true := beq_iff_eq.2 he
  simp -implicitDefEqProofs (maxSteps := 1000000) (disch := first | omega | assumption) only [cell_of a, ev_nilc, q1, Sx, reduceIte, Nat.reduceEqDiff, reduceCtorEq, Nat.reduceAdd, Nat.reduceSub, Nat.reduceLT, Zx, endK]
  refine a_call (dread_spec w rfl hx hl hmo) ?_
  rintro e H1 ⟨v1, t, er, rfl, hO, k1, hf, -, -, hR⟩
  cases hI : infl x mo with
  | ok u t' o =>
    rw [hI] at hR
    obtain ⟨rfl, rfl⟩ := hR
    have n0 : ((0 : Int) == 0) = true := rfl
    simp -implicitDefEqProofs (maxSteps := 1000000) (disch := first | omega | assumption) only [n0, Sx, reduceIte, Nat.reduceEqDiff, reduceCtorEq, Nat.reduceAdd, Nat.reduceSub, Nat.reduceLT, Zx, endK]
    exact ⟨by (first | exact True.intro | rfl | assumption), k1⟩
  | bad er' o =>
    rw [hI] at hR
    obtain ⟨rfl, hne⟩ := hR
    have n0 : (er == 0) = false := beq_eq_false_iff_ne.2 hne
    simp -implicitDefEqProofs (maxSteps := 1000000) (disch := first | omega | assumption) only [n0, Sx, reduceIte, Nat.reduceEqDiff, reduceCtorEq, Nat.reduceAdd, Nat.reduceSub, Nat.reduceLT, Zx, endK]
    exact ⟨by (first | exact True.intro | rfl | assumption), k1⟩
set_option maxHeartbeats 2000000 in
theorem dsize_spec {H : Heap} {d mo : Nat} {x : List Int} {v : Value} (h : DR H d mo x v) (hl : x.length ≤ 137438953472) : ACalls Tryd.prog 28 [Value.pointer (some ⟨d, 0, none⟩)].toArray H fun e H' => e = .returned (.int .i64 (szV x (infl x mo) : Nat)) ∧ Keep H H' := by
  refine call28 (Nat.le_of_ble_eq_true rfl) ?_
  unfold L28 env0
  simp -implicitDefEqProofs (maxSteps := 1000000) (disch := first | omega | assumption) only [Sx, reduceIte, Nat.reduceEqDiff, reduceCtorEq, Nat.reduceAdd, Nat.reduceSub, Nat.reduceLT, Zx, endK]
  refine a_call (ddone_spec h hl) ?_
  rintro e H1 ⟨rfl, k1⟩
  obtain ⟨a, b, hx, hmo⟩ := h.keep k1
  obtain ⟨A, c, rfl, hc, w⟩ := Bo.row b
  cases hI : infl x mo with
  | bad er o =>
    rw [hI] at a
    have hk : okR (.bad er o) = false := rfl
    simp -implicitDefEqProofs (maxSteps := 1000000) (disch := first | omega | assumption) only [cell_of a, ev_nilc, hk, Sx, reduceIte, Nat.reduceEqDiff, reduceCtorEq, Nat.reduceAdd, Nat.reduceSub, Nat.reduceLT, Zx, endK]
    exact ⟨by (first | exact True.intro | rfl | assumption), k1⟩
  | ok u t o =>
    rw [hI] at a
    have hk : okR (.ok u t o) = true := rfl
    simp -implicitDefEqProofs (maxSteps := 1000000) (disch := first | omega | assumption) only [cell_of a, ev_nilc, hk, Sx, reduceIte, Nat.reduceEqDiff, reduceCtorEq, Nat.reduceAdd, Nat.reduceSub, Nat.reduceLT, Zx, endK]
    refine a_call (dread_spec w rfl hx hl hmo) ?_
    rintro e H2 ⟨v1, t1, er, rfl, hO, k2, hf, -, -, hR⟩
    rw [hI] at hR
    obtain ⟨rfl, rfl⟩ := hR
    obtain ⟨i1, i2, -, -, -⟩ := infl_ok hI
    have e7 : IntKind.i64.wrap ((t1 : Int) + 7) = ((t1 + 7 : Nat) : Int) := w_i64 (by omega)
    have e8 : IntKind.i64.wrap (((t1 + 7 : Nat) : Int) / 8) = (((t1 + 7) / 8 : Nat) : Int) := by rw [w_i64 (by omega)]; omega
    simp -implicitDefEqProofs (maxSteps := 1000000) (disch := first | omega | assumption) only [e7, e8, Sx, reduceIte, Nat.reduceEqDiff, reduceCtorEq, Nat.reduceAdd, Nat.reduceSub, Nat.reduceLT, Zx, endK]
    exact ⟨by (first | exact True.intro | rfl | assumption), k1.trans k2⟩
set_option maxHeartbeats 2000000 in
theorem drest_spec {H : Heap} {d mo : Nat} {x : List Int} {v : Value} (h : DR H d mo x v) (hl : x.length ≤ 137438953472) : ACalls Tryd.prog 29 [Value.pointer (some ⟨d, 0, none⟩)].toArray H fun e H' => ∃ A n c, e = .returned (.slice A n c) ∧ n = (restV x (infl x mo)).length ∧ Row H' A (by8 (restV x (infl x mo))) ∧ Keep H H' ∧ (∀ b, A = some b → own v = some b.block) := by
  refine call29 (Nat.le_of_ble_eq_true rfl) ?_
  unfold L29 env0
  simp -implicitDefEqProofs (maxSteps := 1000000) (disch := first | omega | assumption) only [Sx, reduceIte, Nat.reduceEqDiff, reduceCtorEq, Nat.reduceAdd, Nat.reduceSub, Nat.reduceLT, Zx, endK]
  refine a_call (ddone_spec h hl) ?_
  rintro e H1 ⟨rfl, k1⟩
  have h1 := h.keep k1
  obtain ⟨a, b, hx, hmo⟩ := h.keep k1
  cases hI : infl x mo with
  | bad er o =>
    have hk : okR (.bad er o) = false := rfl
    simp -implicitDefEqProofs (maxSteps := 1000000) (disch := first | omega | assumption) only [hk, Sx, reduceIte, Nat.reduceEqDiff, reduceCtorEq, Nat.reduceAdd, Nat.reduceSub, Nat.reduceLT, Zx, endK]
    exact ⟨none, 0, 0, by (first | exact True.intro | rfl | assumption), rfl, (fun i v hv => by cases hv), k1, fun b hb => by cases hb⟩
  | ok u t o =>
    rw [hI] at a
    obtain ⟨A, c, rfl, hc, w⟩ := Bo.row b
    have hk : okR (.ok u t o) = true := rfl
    simp -implicitDefEqProofs (maxSteps := 1000000) (disch := first | omega | assumption) only [cell_of a, ev_nilc, hk, l_qk, l_e, Sx, reduceIte, Nat.reduceEqDiff, reduceCtorEq, Nat.reduceAdd, Nat.reduceSub, Nat.reduceLT, Zx, endK]
    refine a_call (dsize_spec h1 hl) ?_
    rintro e H2 ⟨rfl, k2⟩
    rw [hI]
    have a2 := k2 _ _ a
    obtain ⟨i1, i2, -, -, -⟩ := infl_ok hI
    have hsz : szV x (.ok u t o) = (t + 7) / 8 := rfl
    have hre : restV x (.ok u t o) = x.drop ((t + 7) / 8) := rfl
    obtain ⟨n, hn⟩ : ∃ n, n = (t + 7) / 8 := ⟨_, rfl⟩
    rw [← hn] at i1 i2 hsz hre
    rw [hsz, hre]
    have hin : (0 : Int) ≤ (n : Int) ∧ (n : Int) ≤ (x.length : Nat) := by omega
    try simp -implicitDefEqProofs (maxSteps := 1000000) (disch := first | omega | assumption) only [endK]
    refine ⟨fun z hz _ => by simp only [List.mem_cons, List.not_mem_nil, or_false] at hz; subst hz; (simp only [ev_ld, cell_of a2]; rfl), ?_⟩
    try simp -implicitDefEqProofs (maxSteps := 1000000) (disch := first | omega | assumption) only [ev_slc_lo, l_qk, l_e, Sx, reduceIte, Nat.reduceEqDiff, reduceCtorEq, Nat.reduceAdd, Nat.reduceSub, Nat.reduceLT, Zx, endK]
    refine ⟨_, _, _, by (first | exact True.intro | rfl | assumption), List.length_drop.symm, row_drop (k2.row w) hc, k1.trans k2, fun b hb => ?_⟩
    unfold cutA at hb
    split at hb
    · rw [hb]; rfl
    · cases A with
      | none => cases hb
      | some y =>
        cases hb
        exact congrArg some block_add.symm
set_option maxHeartbeats 1000000 in
theorem dfeed_dead {H : Heap} {d mo n c : Nat} {x : List Int} {v : Value} {A : Option Addr} (h : DR H d mo x v) (he : errOf (infl x mo) ≠ 0) :
    ACalls Tryd.prog 30 [Value.pointer (some ⟨d, 0, none⟩), .slice A n c].toArray H fun e H' => e = .returned (.tuple #[.slice none 0 0, .int .i64 (errOf (infl x mo))]) ∧ H' = H := by
  obtain ⟨a, b, hx, hmo⟩ := h
  refine call30 (Nat.le_of_ble_eq_true rfl) ?_
  unfold L30 env0
  have f0 : (errOf (infl x mo) != 0) = true := bne_iff_ne.2 he
  simp -implicitDefEqProofs (maxSteps := 1000000) (disch := first | omega | assumption) only [cell_of a, ev_nilc, f0, Sx, reduceIte, Nat.reduceEqDiff, reduceCtorEq, Nat.reduceAdd, Nat.reduceSub, Nat.reduceLT, Zx, endK]
  exact ⟨by (first | exact True.intro | rfl | assumption), by (first | exact True.intro | rfl | assumption)⟩
set_option maxHeartbeats 2000000 in
theorem dfeed_end {H : Heap} {d n c : Nat} {y0 y1 y2 : Value} {er : Int} {A : Option Addr} {l : List Int} {env : Env} {Q : Post} {QP : List PanicEntry → Heap → Prop} (h0 : env 0 = .pointer (some ⟨d, 0, none⟩)) (h7 : env 7 = .slice A n c) (hn : n = l.length) (hr : Row H A (by8 l)) (hl : l.length ≤ 137438953472)
    (hb : H d = some (.cells #[y0, y1, y2, .int .i64 er] 61 (0, 0))) (hQ : ∀ env' H' w, env' 4 = w → env' 5 = .int .i64 er → Bo H' w l → Fresh H w → Keep H H' → Q .ret env' H') : awpC Tryd.prog L30_0 Q QP env H := by
  subst hn
  unfold L30_0
  simp -implicitDefEqProofs (maxSteps := 1000000) (disch := first | omega | assumption) only [h0, h7, cell_of hb, ev_nilc, l_qk, l_e, Sx, reduceIte, Nat.reduceEqDiff, reduceCtorEq, Nat.reduceAdd, Nat.reduceSub, Nat.reduceLT, Zx, endK]
  refine a_lits (sz := 1) (cells := #[]) rfl rfl ?_
  intro r2 H2 hO2 k2 hr2
  have hb2 := k2 _ _ hb
  try simp -implicitDefEqProofs (maxSteps := 1000000) (disch := first | omega | assumption) only [endK]
  refine ⟨fun z hz _ => by simp only [List.mem_cons, List.not_mem_nil, or_false] at hz; subst hz; (simp only [ev_ld, cell_of hb2]; rfl), ?_⟩
  try simp -implicitDefEqProofs (maxSteps := 1000000) (disch := first | omega | assumption) only [h7, l_qk, l_e, Sx, reduceIte, Nat.reduceEqDiff, reduceCtorEq, Nat.reduceAdd, Nat.reduceSub, Nat.reduceLT, Zx, endK]
  refine app_b (l := []) (x := l) hO2 rfl rfl (k2.row hr) (by simp; omega) ?_
  intro v3 H3 hO3 ho3 hm3
  obtain ⟨k3, f3⟩ := grown2 k2 (v := .slice (some ⟨r2, 0, none⟩) 0 0) (by rintro q ⟨⟩; exact hr2) ho3 hm3
  have hb3 := k3 _ _ hb
  rw [List.nil_append] at hO3
  have hs3 := hO3.scalar
  try simp -implicitDefEqProofs (maxSteps := 1000000) (disch := first | omega | assumption) only [endK]
  refine ⟨fun z hz _ => by simp only [List.mem_cons, List.not_mem_nil, or_false] at hz; subst hz; (simp only [ev_ld, cell_of hb3]; rfl), ?_⟩
  try simp -implicitDefEqProofs (maxSteps := 1000000) (disch := first | omega | assumption) only [Sx, reduceIte, Nat.reduceEqDiff, reduceCtorEq, Nat.reduceAdd, Nat.reduceSub, Nat.reduceLT, Zx, endK]
  exact hQ _ _ v3 (by simp -implicitDefEqProofs (maxSteps := 1000000) (disch := first | omega | assumption) only [Sx, reduceIte, Nat.reduceEqDiff, reduceCtorEq, Nat.reduceAdd, Nat.reduceSub, Nat.reduceLT, Zx, endK]) (by simp -implicitDefEqProofs (maxSteps := 1000000) (disch := first | omega | assumption) only [Sx, reduceIte, Nat.reduceEqDiff, reduceCtorEq, Nat.reduceAdd, Nat.reduceSub, Nat.reduceLT, Zx, endK]) hO3 f3 k3
set_option maxHeartbeats 8000000 in
set_option maxRecDepth 4000 in
theorem dfeed_spec {H : Heap} {d mo n c : Nat} {x z : List Int} {v : Value} {A : Option Addr} (h : DR H d mo x v) (hlive : errOf (infl x mo) = 0) (hr : Row H A (by8 z)) (hn : n = z.length) (hz : isBy z) (hl : x.length + z.length ≤ 137438953472) :
    ACalls Tryd.prog 30 [Value.pointer (some ⟨d, 0, none⟩), .slice A n c].toArray H fun e H' => ∃ w v', e = .returned (.tuple #[w, .int .i64 (errOf (infl (x ++ z) mo))]) ∧ Bo H' w ((infl (x ++ z) mo).out.drop (infl x mo).out.length) ∧ Fresh H w ∧ DR H' d mo (x ++ z) v' ∧ Fresh H v' ∧ Only (· = d) H H' := by
  subst hn
  obtain ⟨a, b, hx, hmo⟩ := h
  refine call30 (Nat.le_of_ble_eq_true rfl) ?_
  unfold L30 env0
  have hxz := isBy_app hx hz
  have hpre := infl_pre (bs := x) (ex := z) (mo := mo)
  rw [hlive] at a
  obtain ⟨T0, hT0⟩ : ∃ T0, T0 = (infl x mo).out.length := ⟨_, rfl⟩
  rw [← hT0] at a ⊢
  have n00 : ((0 : Int) != 0) = false := rfl
  obtain ⟨vA, vc, rfl, hvc, w⟩ := Bo.row b
  simp -implicitDefEqProofs (maxSteps := 1000000) (disch := first | omega | assumption) only [cell_of a, ev_nilc, n00, Sx, reduceIte, Nat.reduceEqDiff, reduceCtorEq, Nat.reduceAdd, Nat.reduceSub, Nat.reduceLT, Zx, endK]
  refine a_lits (sz := 1) (cells := #[]) rfl rfl ?_
  intro r2 H2 hO2 k2 hr2
  try simp -implicitDefEqProofs (maxSteps := 1000000) (disch := first | omega | assumption) only [cell_of (k2 _ _ a), ev_nilc, Sx, reduceIte, Nat.reduceEqDiff, reduceCtorEq, Nat.reduceAdd, Nat.reduceSub, Nat.reduceLT, Zx, endK]
  refine app_b (l := []) (x := x) hO2 rfl rfl (k2.row w) (by simp; omega) ?_
  intro v3 H3 hO3 ho3 hm3
  obtain ⟨k3, f3⟩ := grown2 k2 (v := .slice (some ⟨r2, 0, none⟩) 0 0) (by rintro q ⟨⟩; exact hr2) ho3 hm3
  rw [List.nil_append] at hO3
  have hs3 := hO3.scalar
  try simp -implicitDefEqProofs (maxSteps := 1000000) (disch := first | omega | assumption) only [Sx, reduceIte, Nat.reduceEqDiff, reduceCtorEq, Nat.reduceAdd, Nat.reduceSub, Nat.reduceLT, Zx, endK]
  refine app_b hO3 rfl rfl (k3.row hr) (by omega) ?_
  intro v4 H4 hO4 ho4 hm4
  obtain ⟨k4, f4⟩ := grown2 k3 f3 ho4 hm4
  have hs4 := hO4.scalar
  have a4 := k4 _ _ a
  try simp -implicitDefEqProofs (maxSteps := 1000000) (disch := first | omega | assumption) only [ev_nilc, Sx, reduceIte, Nat.reduceEqDiff, reduceCtorEq, Nat.reduceAdd, Nat.reduceSub, Nat.reduceLT, Zx, endK]
  refine st_one (o := 2) a4 (by simp) hs4 ?_
  obtain ⟨H5, hH5⟩ : ∃ H5, H5 = H4.set d (.cells #[.int .i64 (mo : Nat), .int .i64 (T0 : Nat), v4, .int .i64 0] 61 (0, 0)) := ⟨_, rfl⟩
  have a5 : H5 d = some (.cells #[.int .i64 (mo : Nat), .int .i64 (T0 : Nat), v4, .int .i64 0] 61 (0, 0)) := by rw [hH5]; exact set_same
  have ho5 : Only (· = d) H H5 := by rw [hH5]; exact (Only.of_keep k4).set (.inl rfl)
  have hO5 : Bo H5 v4 (x ++ z) := by
    rw [hH5]
    exact hO4.only ((Only.refl (· = d) _).set (.inl rfl)) fun s hs e => hO4.elem a4 (by decide) (e ▸ hs)
  try simp -implicitDefEqProofs (maxSteps := 1000000) (disch := first | omega | assumption) only [Sx, reduceIte, Nat.reduceEqDiff, reduceCtorEq, Nat.reduceAdd, Nat.reduceSub, Nat.reduceLT, Zx, endK]
  rw [show H4.set d (.cells #[.int .i64 (mo : Nat), .int .i64 (T0 : Nat), v4, .int .i64 0] 61 (0, 0)) = H5 from hH5.symm]
  clear hH5
  obtain ⟨A5, c5, rfl, hc5, w5⟩ := Bo.row hO5
  try simp -implicitDefEqProofs (maxSteps := 1000000) (disch := first | omega | assumption) only [cell_of a5, ev_nilc, Sx, reduceIte, Nat.reduceEqDiff, reduceCtorEq, Nat.reduceAdd, Nat.reduceSub, Nat.reduceLT, Zx, endK]
  refine a_call (dread_spec w5 rfl hxz (by rw [List.length_append]; omega) hmo) ?_
  rintro e H6 ⟨v6, t, er, rfl, hO6, k6, f6, hPl, hPb, hR⟩
  obtain ⟨PL, hPLd⟩ : ∃ PL, PL = (infl (x ++ z) mo).out := ⟨_, rfl⟩
  rw [← hPLd] at hO6 hPl hPb hpre ⊢
  have hT0L : T0 ≤ PL.length := by rw [hT0]; exact hpre.length_le
  have hs6 := hO6.scalar
  simp -implicitDefEqProofs (maxSteps := 1000000) (disch := first | omega | assumption) only [Sx, reduceIte, Nat.reduceEqDiff, reduceCtorEq, Nat.reduceAdd, Nat.reduceSub, Nat.reduceLT, Zx, endK]
  refine a_new fun r7 hr7 => ?_
  try simp -implicitDefEqProofs (maxSteps := 1000000) (disch := first | omega | assumption) only [Sx, reduceIte, Nat.reduceEqDiff, reduceCtorEq, Nat.reduceAdd, Nat.reduceSub, Nat.reduceLT, Zx, endK]
  refine st_all (old := [.slice none 0 0, .int .i64 0, .int .i64 0]) (ci := [v6, .int .i64 (t : Nat), .int .i64 er]) set_same rfl rfl (by intro x hx; simp only [List.mem_cons, List.not_mem_nil, or_false] at hx; rcases hx with rfl | rfl | rfl; exact hs6; rfl; rfl) ?_
  rw [set_set]
  obtain ⟨H7, hH7⟩ : ∃ H7, H7 = H6.set r7 (.cells #[v6, .int .i64 (t : Nat), .int .i64 er] 56 (0, 0)) := ⟨_, rfl⟩
  have k7 : Keep H6 H7 := by rw [hH7]; exact (Keep.refl _).set_new hr7
  have b7 : H7 r7 = some (.cells #[v6, .int .i64 (t : Nat), .int .i64 er] 56 (0, 0)) := by rw [hH7]; exact set_same
  have hH7' : H6.set r7 (.cells [v6, .int .i64 (t : Nat), .int .i64 er].toArray 56 (0, 0)) = H7 := hH7.symm
  rw [hH7']
  clear hH7 hH7'
  have a7 := k7 _ _ (k6 _ _ a5)
  have k57 := k6.trans k7
  have hO7 := hO5.keep k57
  have hP7 : Bo H7 v6 PL := hO6.keep k7
  have ho7 : Only (· = d) H H7 := ho5.trans (Only.of_keep (S := fun _ => False) k57) fun s hs => hs.elim
  obtain ⟨A6, c6, rfl, hc6, w6⟩ := Bo.row hP7
  have hin : (0 : Int) ≤ (T0 : Int) ∧ (T0 : Int) ≤ (PL.length : Nat) := by omega
  try simp -implicitDefEqProofs (maxSteps := 1000000) (disch := first | omega | assumption) only [cell_of a7, cell_of b7, ev_nilc, ev_slc_lo, Sx, reduceIte, Nat.reduceEqDiff, reduceCtorEq, Nat.reduceAdd, Nat.reduceSub, Nat.reduceLT, Zx, endK]
  refine st_one (o := 1) a7 (by simp) rfl ?_
  obtain ⟨H8, hH8⟩ : ∃ H8, H8 = H7.set d (.cells #[.int .i64 (mo : Nat), .int .i64 (PL.length : Nat), .slice A5 (x ++ z).length c5, .int .i64 0] 61 (0, 0)) := ⟨_, rfl⟩
  have a8 : H8 d = some (.cells #[.int .i64 (mo : Nat), .int .i64 (PL.length : Nat), .slice A5 (x ++ z).length c5, .int .i64 0] 61 (0, 0)) := by rw [hH8]; exact set_same
  have h78 : Only (· = d) H7 H8 := by rw [hH8]; exact (Only.refl _ _).set (.inl rfl)
  have b8 : H8 r7 = some (.cells #[.slice A6 PL.length c6, .int .i64 (t : Nat), .int .i64 er] 56 (0, 0)) := h78.oth _ _ b7 (blk_ne b7 a7 (by decide))
  have ndA : ∀ s, own (.slice A5 (x ++ z).length c5) = some s → s ≠ d := fun s hs e => hO7.elem a7 (by decide) (e ▸ hs)
  have ndP : ∀ s, own (.slice A6 PL.length c6) = some s → s ≠ d := fun s hs e => hP7.elem a7 (by decide) (e ▸ hs)
  have hO8 := hO7.only h78 ndA
  have hP8 : Bo H8 (.slice A6 PL.length c6) PL := hP7.only h78 ndP
  have ho8 : Only (· = d) H H8 := ho7.trans h78 fun s hs => .inl hs
  obtain ⟨_, _, ee, -, w8⟩ := Bo.row hP8
  cases ee
  try simp -implicitDefEqProofs (maxSteps := 1000000) (disch := first | omega | assumption) only [Sx, reduceIte, Nat.reduceEqDiff, reduceCtorEq, Nat.reduceAdd, Nat.reduceSub, Nat.reduceLT, Zx, endK]
  rw [show H7.set d (.cells #[.int .i64 (mo : Nat), .int .i64 (PL.length : Nat), .slice A5 (x ++ z).length c5, .int .i64 0] 61 (0, 0)) = H8 from hH8.symm]
  clear hH8
  have fin : ∀ (H9 : Heap), H9 = H8 ∨ (H9 = H8.set d (.cells #[.int .i64 (mo : Nat), .int .i64 (PL.length : Nat), .slice A5 (x ++ z).length c5, .int .i64 (errOf (infl (x ++ z) mo))] 61 (0, 0))) → H9 d = some (.cells #[.int .i64 (mo : Nat), .int .i64 (PL.length : Nat), .slice A5 (x ++ z).length c5, .int .i64 (errOf (infl (x ++ z) mo))] 61 (0, 0)) →
      Row H9 (cutA A6 c6 T0 1) (by8 (PL.drop T0)) ∧ Bo H9 (.slice A5 (x ++ z).length c5) (x ++ z) ∧ Only (· = d) H H9 := by
    intro H9 h9 hb9
    have h89 : Only (· = d) H8 H9 := by
      rcases h9 with rfl | rfl
      · exact Only.refl _ _
      · exact (Only.refl _ _).set (.inl rfl)
    have hP9 : Bo H9 (.slice A6 PL.length c6) PL := hP8.only h89 ndP
    obtain ⟨_, _, ee, -, w9⟩ := Bo.row hP9
    cases ee
    exact ⟨row_drop w9 hc6, hO8.only h89 ndA, ho8.trans h89 fun s hs => .inl hs⟩
  have out : ∀ (H9 H' : Heap) (w : Value), H9 d = some (.cells #[.int .i64 (mo : Nat), .int .i64 (PL.length : Nat), .slice A5 (x ++ z).length c5, .int .i64 (errOf (infl (x ++ z) mo))] 61 (0, 0)) → Bo H9 (.slice A5 (x ++ z).length c5) (x ++ z) → Only (· = d) H H9 → Bo H' w (PL.drop T0) → Fresh H9 w → Keep H9 H' →
      Bo H' w (PL.drop T0) ∧ Fresh H w ∧ DR H' d mo (x ++ z) (.slice A5 (x ++ z).length c5) ∧ Fresh H (.slice A5 (x ++ z).length c5) ∧ Only (· = d) H H' := by
    intro H9 H' w hb9 hO9 ho9 hW hf hk
    refine ⟨hW, fun s hs => ho9.none (hf s hs), ⟨?_, hO9.keep hk, hxz, hmo⟩, f4, ho9.trans (Only.of_keep (S := fun _ => False) hk) fun s hs => hs.elim⟩
    rw [← hPLd]
    exact hk _ _ hb9
  by_cases h4 : er ≠ 0 ∧ er ≠ 4
  · have f1 : (er != 0) = true := bne_iff_ne.2 h4.1
    have f2 : (er != 4) = true := bne_iff_ne.2 h4.2
    have hE : errOf (infl (x ++ z) mo) = er := by
      cases hI : infl (x ++ z) mo with
      | ok u t' o => rw [hI] at hR; exact absurd hR.1 h4.1
      | bad e o => rw [hI] at hR; obtain ⟨rfl, -⟩ := hR; exact if_neg h4.2
    rw [hE] at fin out ⊢
    simp -implicitDefEqProofs (maxSteps := 1000000) (disch := first | omega | assumption) only [cell_of b8, f1, f2, ev_nilc, Sx, reduceIte, Nat.reduceEqDiff, reduceCtorEq, Nat.reduceAdd, Nat.reduceSub, Nat.reduceLT, Zx, endK]
    refine st_one (o := 3) a8 (by simp) rfl ?_
    obtain ⟨g1, g2, g3⟩ := fin _ (.inr rfl) set_same
    try simp -implicitDefEqProofs (maxSteps := 1000000) (disch := first | omega | assumption) only [Sx, reduceIte, Nat.reduceEqDiff, reduceCtorEq, Nat.reduceAdd, Nat.reduceSub, Nat.reduceLT, Zx, endK]
    refine dfeed_end (n := PL.length - T0) (c := c6 - T0) (l := PL.drop T0) ?_ ?_ ?_ g1 (by rw [List.length_drop]; omega) set_same ?_
    · simp -implicitDefEqProofs (maxSteps := 1000000) (disch := first | omega | assumption) only [Sx, reduceIte, Nat.reduceEqDiff, reduceCtorEq, Nat.reduceAdd, Nat.reduceSub, Nat.reduceLT, Zx, endK]
    · simp -implicitDefEqProofs (maxSteps := 1000000) (disch := first | omega | assumption) only [Sx, reduceIte, Nat.reduceEqDiff, reduceCtorEq, Nat.reduceAdd, Nat.reduceSub, Nat.reduceLT, Zx, endK]
    · exact List.length_drop.symm
    intro env' H' w e4 e5 hW hf hk
    obtain ⟨p1, p2, p3, p4, p5⟩ := out _ _ _ set_same g2 g3 hW hf hk
    simp -implicitDefEqProofs (maxSteps := 1000000) (disch := first | omega | assumption) only [e4, e5, Sx, reduceIte, Nat.reduceEqDiff, reduceCtorEq, Nat.reduceAdd, Nat.reduceSub, Nat.reduceLT, Zx, endK]
    exact ⟨w, _, by (first | exact True.intro | rfl | assumption), p1, p2, p3, p4, p5⟩
  · have hE : errOf (infl (x ++ z) mo) = 0 := by
      cases hI : infl (x ++ z) mo with
      | ok u t' o => rfl
      | bad e o =>
        rw [hI] at hR
        obtain ⟨rfl, hne⟩ := hR
        have h44 : er = 4 := by omega
        exact if_pos h44
    rw [hE] at fin out ⊢
    obtain ⟨g1, g2, g3⟩ := fin _ (.inl rfl) a8
    by_cases h0 : er = 0
    · have f1 : (er != 0) = false := by rw [h0]; rfl
      simp -implicitDefEqProofs (maxSteps := 1000000) (disch := first | omega | assumption) only [cell_of b8, f1, Sx, reduceIte, Nat.reduceEqDiff, reduceCtorEq, Nat.reduceAdd, Nat.reduceSub, Nat.reduceLT, Zx, endK]
      refine dfeed_end (n := PL.length - T0) (c := c6 - T0) (l := PL.drop T0) ?_ ?_ ?_ g1 (by rw [List.length_drop]; omega) a8 ?_
      · simp -implicitDefEqProofs (maxSteps := 1000000) (disch := first | omega | assumption) only [Sx, reduceIte, Nat.reduceEqDiff, reduceCtorEq, Nat.reduceAdd, Nat.reduceSub, Nat.reduceLT, Zx, endK]
      · simp -implicitDefEqProofs (maxSteps := 1000000) (disch := first | omega | assumption) only [Sx, reduceIte, Nat.reduceEqDiff, reduceCtorEq, Nat.reduceAdd, Nat.reduceSub, Nat.reduceLT, Zx, endK]
      · exact List.length_drop.symm
      intro env' H' w e4 e5 hW hf hk
      obtain ⟨p1, p2, p3, p4, p5⟩ := out _ _ _ a8 g2 g3 hW hf hk
      simp -implicitDefEqProofs (maxSteps := 1000000) (disch := first | omega | assumption) only [e4, e5, Sx, reduceIte, Nat.reduceEqDiff, reduceCtorEq, Nat.reduceAdd, Nat.reduceSub, Nat.reduceLT, Zx, endK]
      exact ⟨w, _, by (first | exact True.intro | rfl | assumption), p1, p2, p3, p4, p5⟩
    · have f1 : (er != 0) = true := bne_iff_ne.2 h0
      have f2 : (er != 4) = false := by
        have h44 : er = 4 := by omega
        rw [h44]; rfl
      simp -implicitDefEqProofs (maxSteps := 1000000) (disch := first | omega | assumption) only [cell_of b8, f1, f2, Sx, reduceIte, Nat.reduceEqDiff, reduceCtorEq, Nat.reduceAdd, Nat.reduceSub, Nat.reduceLT, Zx, endK]
      refine dfeed_end (n := PL.length - T0) (c := c6 - T0) (l := PL.drop T0) ?_ ?_ ?_ g1 (by rw [List.length_drop]; omega) a8 ?_
      · simp -implicitDefEqProofs (maxSteps := 1000000) (disch := first | omega | assumption) only [Sx, reduceIte, Nat.reduceEqDiff, reduceCtorEq, Nat.reduceAdd, Nat.reduceSub, Nat.reduceLT, Zx, endK]
      · simp -implicitDefEqProofs (maxSteps := 1000000) (disch := first | omega | assumption) only [Sx, reduceIte, Nat.reduceEqDiff, reduceCtorEq, Nat.reduceAdd, Nat.reduceSub, Nat.reduceLT, Zx, endK]
      · exact List.length_drop.symm
      intro env' H' w e4 e5 hW hf hk
      obtain ⟨p1, p2, p3, p4, p5⟩ := out _ _ _ a8 g2 g3 hW hf hk
      simp -implicitDefEqProofs (maxSteps := 1000000) (disch := first | omega | assumption) only [e4, e5, Sx, reduceIte, Nat.reduceEqDiff, reduceCtorEq, Nat.reduceAdd, Nat.reduceSub, Nat.reduceLT, Zx, endK]
      exact ⟨w, _, by (first | exact True.intro | rfl | assumption), p1, p2, p3, p4, p5⟩
end Go.Proofs.YtphojebganlbnaaDoor.S06

/-
  InflateReaders: two readers, whatever is fed to them, in turns.
-/
set_option linter.unusedVariables false
set_option linter.unusedSimpArgs false
namespace Go.Proofs.YtphojebganlbnaaDoor.S06
open Go Go.RowKit Go.Proofs.YtphojebganlbnaaDoor.Sep Go.Proofs.YtphojebganlbnaaDoor.Low Go.Proofs.YtphojebganlbnaaDoor.S05 Go.Proofs.YtphojebganlbnaaDoor.CodeLaw Go.Proofs.YtphojebganlbnaaDoor.Pack Go.Proofs.YtphojebganlbnaaDoor.BitLaw
open Go.Proofs.YtphojebganlbnaaDoor.Lib hiding by8 by8_scalar

/-- a reader by the program and by the document, in blocks of its own -/
structure Pr (S : Nat → Prop) (H : Heap) (P r d mo : Nat) (x : List Int) (v u : Value) : Prop where
  blk : H P = some (.cells #[.pointer (some ⟨r, 0, none⟩), .pointer (some ⟨d, 0, none⟩)] 43 (0, 0))
  rt : RT H r mo x v
  dr : DR H d mo x u
  sP : S P
  sr : S r
  sd : S d
  sv : ∀ s, own v = some s → S s
  su : ∀ s, own u = some s → S s
  ne : ∀ s, own v = some s → own u ≠ some s
  kn : ∀ s, S s → H s ≠ none
theorem Pr.only {S T : Nat → Prop} {H H' : Heap} {P r d mo : Nat} {x : List Int} {v u : Value} (h : Pr S H P r d mo x v u) (ho : Only T H H') (hd : ∀ s, S s → ¬ T s) : Pr S H' P r d mo x v u :=
  ⟨ho.oth _ _ h.blk (hd _ h.sP), h.rt.only ho (hd _ h.sr) (fun s hs => hd _ (h.sv s hs)), h.dr.only ho (hd _ h.sd) (fun s hs => hd _ (h.su s hs)), h.sP, h.sr, h.sd, h.sv, h.su, h.ne, fun s hs => ho.dom s (h.kn s hs)⟩
theorem Pr.keep {S : Nat → Prop} {H H' : Heap} {P r d mo : Nat} {x : List Int} {v u : Value} (h : Pr S H P r d mo x v u) (hk : Keep H H') : Pr S H' P r d mo x v u := h.only (Only.of_keep (S := fun _ => False) hk) fun _ _ e => e
theorem RT.blk {H : Heap} {r mo : Nat} {x : List Int} {v : Value} (h : RT H r mo x v) : ∃ c, H r = some (.cells c 63 (0, 0)) := by
  obtain ⟨size, done, why, a, b, c, d, e, ol⟩ := h
  exact ⟨_, a⟩
theorem RT.lst {H : Heap} {r mo : Nat} {x : List Int} {v : Value} (h : RT H r mo x v) : Bo H v x := by
  obtain ⟨size, done, why, a, b, c, d, e, ol⟩ := h
  exact b
theorem RT.ol {H : Heap} {r mo : Nat} {x : List Int} {v : Value} (h : RT H r mo x v) : (infl x mo).out.length ≤ mo ∧ mo ≤ 4194304 := by
  obtain ⟨size, done, why, a, b, c, d, e, ol⟩ := h
  exact ⟨ol, d⟩
theorem doneT_spec {H : Heap} {r mo : Nat} {x : List Int} {v : Value} (h : RT H r mo x v) : ACalls Tryd.prog 20 [Value.pointer (some ⟨r, 0, none⟩)].toArray H fun e H' => e = .returned (.bool (okR (infl x mo))) ∧ H' = H := done_spec h.rs
theorem ld_ptr {H : Heap} {P r d : Nat} (h : H P = some (.cells #[.pointer (some ⟨r, 0, none⟩), .pointer (some ⟨d, 0, none⟩)] 43 (0, 0))) : H.cell? ⟨P, 0, none⟩ = some (.pointer (some ⟨r, 0, none⟩)) ∧ H.cell? ⟨P, 1, none⟩ = some (.pointer (some ⟨d, 0, none⟩)) := ⟨by rw [cell_of h]; rfl, by rw [cell_of h]; rfl⟩
theorem restV_len {x : List Int} {R : Res Unit} : (restV x R).length ≤ x.length := by
  cases R with
  | ok u t o => show (x.drop _).length ≤ _; rw [List.length_drop]; omega
  | bad e o => exact Nat.zero_le _
set_option maxHeartbeats 4000000 in
theorem tells_spec {S : Nat → Prop} {H : Heap} {P r d mo : Nat} {x : List Int} {v u : Value} (h : Pr S H P r d mo x v u) (hl : x.length ≤ 137438953472) : ACalls Tryd.prog 17 [Value.pointer (some ⟨P, 0, none⟩)].toArray H fun e H' => e = .returned (.bool true) ∧ Keep H H' := by
  refine call17 (Nat.le_of_ble_eq_true rfl) ?_
  unfold L17 env0
  have hb0 := h.blk
  simp -implicitDefEqProofs (maxSteps := 1000000) (disch := first | omega | assumption) only [cell_of hb0, ev_nilc, l_qk, l_e, Sx, reduceIte, Nat.reduceEqDiff, reduceCtorEq, Nat.reduceAdd, Nat.reduceSub, Nat.reduceLT, Zx, endK]
  refine a_call (doneT_spec h.rt) ?_
  rintro e H1 ⟨rfl, rfl⟩
  try simp -implicitDefEqProofs (maxSteps := 1000000) (disch := first | omega | assumption) only [endK]
  refine ⟨fun z hz _ => by simp only [List.mem_cons, List.not_mem_nil, or_false] at hz; subst hz; (simp only [ev_ld, (ld_ptr hb0).2]), ?_⟩
  try simp -implicitDefEqProofs (maxSteps := 1000000) (disch := first | omega | assumption) only [l_qk, l_e, Sx, reduceIte, Nat.reduceEqDiff, reduceCtorEq, Nat.reduceAdd, Nat.reduceSub, Nat.reduceLT, Zx, endK]
  refine a_call (ddone_spec h.dr hl) ?_
  rintro e H1 ⟨rfl, k1⟩
  have h1 := h.keep k1
  have hb1 := h1.blk
  have q1 : (okR (infl x mo) == okR (infl x mo)) = true := by simp
  have btf : (true != false) = true := rfl
  try simp -implicitDefEqProofs (maxSteps := 1000000) (disch := first | omega | assumption) only [endK]
  refine ⟨fun z hz h => by simp at h, ?_⟩
  try simp -implicitDefEqProofs (maxSteps := 1000000) (disch := first | omega | assumption) only [cell_of hb1, ev_nilc, q1, btf, l_qk, l_e, Sx, reduceIte, Nat.reduceEqDiff, reduceCtorEq, Nat.reduceAdd, Nat.reduceSub, Nat.reduceLT, Zx, endK]
  refine a_call (sizeT_spec h1.rt) ?_
  rintro e H2 ⟨rfl, rfl⟩
  have q2 : (((szV x (infl x mo) : Nat) : Int) == ((szV x (infl x mo) : Nat) : Int)) = true := by simp
  try simp -implicitDefEqProofs (maxSteps := 1000000) (disch := first | omega | assumption) only [endK]
  refine ⟨fun z hz _ => by simp only [List.mem_cons, List.not_mem_nil, or_false] at hz; rcases hz with rfl | rfl <;> exact (ld_ptr hb1).2, ?_⟩
  try simp -implicitDefEqProofs (maxSteps := 1000000) (disch := first | omega | assumption) only [l_qk, l_e, Sx, reduceIte, Nat.reduceEqDiff, reduceCtorEq, Nat.reduceAdd, Nat.reduceSub, Nat.reduceLT, Zx, endK]
  refine a_call (dsize_spec h1.dr hl) ?_
  rintro e H3 ⟨rfl, k3⟩
  have k3' := k1.trans k3
  have h3 := h1.keep k3
  have hb3 := h3.blk
  try simp -implicitDefEqProofs (maxSteps := 1000000) (disch := first | omega | assumption) only [endK]
  refine ⟨fun z hz h => by simp at h, ?_⟩
  try simp -implicitDefEqProofs (maxSteps := 1000000) (disch := first | omega | assumption) only [cell_of hb3, ev_nilc, q2, l_qk, l_e, Sx, reduceIte, Nat.reduceEqDiff, reduceCtorEq, Nat.reduceAdd, Nat.reduceSub, Nat.reduceLT, Zx, endK]
  have hre := restV_len (x := x) (R := infl x mo)
  refine a_call (rest_spec h3.rt.rs (by omega)) ?_
  rintro e H4 ⟨w4, rfl, hW4, k4, f4⟩
  have hb4 := k4 _ _ hb3
  have hs4 := hW4.scalar
  try simp -implicitDefEqProofs (maxSteps := 1000000) (disch := first | omega | assumption) only [endK]
  refine ⟨fun z hz _ => by simp only [List.mem_cons, List.not_mem_nil, or_false] at hz; rcases hz with rfl | rfl | rfl <;> exact (ld_ptr hb4).2, ?_⟩
  try simp -implicitDefEqProofs (maxSteps := 1000000) (disch := first | omega | assumption) only [l_qk, l_e, Sx, reduceIte, Nat.reduceEqDiff, reduceCtorEq, Nat.reduceAdd, Nat.reduceSub, Nat.reduceLT, Zx, endK]
  have h4 := h3.keep k4
  refine a_call (drest_spec h4.dr hl) ?_
  rintro e H5 ⟨A5, n5, c5, rfl, hn5, hR5, k5, -⟩
  try simp -implicitDefEqProofs (maxSteps := 1000000) (disch := first | omega | assumption) only [endK]
  refine ⟨fun z hz h => by simp at h, ?_⟩
  try simp -implicitDefEqProofs (maxSteps := 1000000) (disch := first | omega | assumption) only [l_qk, l_e, Sx, reduceIte, Nat.reduceEqDiff, reduceCtorEq, Nat.reduceAdd, Nat.reduceSub, Nat.reduceLT, Zx, endK]
  refine a_call (wiped_spec (hW4.keep k5) hR5 hn5 (by omega)) ?_
  rintro e H6 ⟨rfl, ho6⟩
  have k6 : Keep H3 H6 := ho6.keep (k4.trans k5) fun q hq => f4 q hq
  have k6' := k3'.trans k6
  have h6 := h3.keep k6
  have hb6 := h6.blk
  try simp -implicitDefEqProofs (maxSteps := 1000000) (disch := first | omega | assumption) only [endK]
  refine ⟨fun z hz h => by simp at h, ?_⟩
  try simp -implicitDefEqProofs (maxSteps := 1000000) (disch := first | omega | assumption) only [cell_of hb6, ev_nilc, l_qk, l_e, Sx, reduceIte, Nat.reduceEqDiff, reduceCtorEq, Nat.reduceAdd, Nat.reduceSub, Nat.reduceLT, Zx, endK]
  refine a_call (rest_spec h6.rt.rs (by omega)) ?_
  rintro e H7 ⟨w7, rfl, hW7, k7, f7⟩
  have hb7 := k7 _ _ hb6
  have hs7 := hW7.scalar
  try simp -implicitDefEqProofs (maxSteps := 1000000) (disch := first | omega | assumption) only [endK]
  refine ⟨fun z hz _ => by simp only [List.mem_cons, List.not_mem_nil, or_false] at hz; rcases hz with rfl | rfl | rfl | rfl <;> exact (ld_ptr hb7).2, ?_⟩
  try simp -implicitDefEqProofs (maxSteps := 1000000) (disch := first | omega | assumption) only [l_qk, l_e, Sx, reduceIte, Nat.reduceEqDiff, reduceCtorEq, Nat.reduceAdd, Nat.reduceSub, Nat.reduceLT, Zx, endK]
  have h7 := h6.keep k7
  refine a_call (drest_spec h7.dr hl) ?_
  rintro e H8 ⟨A8, n8, c8, rfl, hn8, hR8, k8, -⟩
  try simp -implicitDefEqProofs (maxSteps := 1000000) (disch := first | omega | assumption) only [endK]
  refine ⟨fun z hz h => by simp at h, ?_⟩
  try simp -implicitDefEqProofs (maxSteps := 1000000) (disch := first | omega | assumption) only [l_qk, l_e, Sx, reduceIte, Nat.reduceEqDiff, reduceCtorEq, Nat.reduceAdd, Nat.reduceSub, Nat.reduceLT, Zx, endK]
  refine a_call (wiped_spec (hW7.keep k8) hR8 hn8 (by omega)) ?_
  rintro e H9 ⟨rfl, ho9⟩
  have k9 : Keep H6 H9 := ho9.keep (k7.trans k8) fun q hq => f7 q hq
  try simp -implicitDefEqProofs (maxSteps := 1000000) (disch := first | omega | assumption) only [endK]
  refine ⟨fun z hz h => by simp at h, ?_⟩
  try simp -implicitDefEqProofs (maxSteps := 1000000) (disch := first | omega | assumption) only [l_qk, l_e, Sx, reduceIte, Nat.reduceEqDiff, reduceCtorEq, Nat.reduceAdd, Nat.reduceSub, Nat.reduceLT, Zx, endK]
  exact ⟨by (first | exact True.intro | rfl | assumption), k6'.trans k9⟩
/-- what a reader took, then more -/
noncomputable def tkM (x z : List Int) (mo : Nat) : List Int := if errOf (infl x mo) = 0 then x ++ z else x
set_option maxHeartbeats 4000000 in
theorem feeds_spec {S : Nat → Prop} {H : Heap} {P r d mo n c : Nat} {x z : List Int} {v u : Value} {A : Option Addr} (hT : ∀ H', Only S H H' → TabO H') (h : Pr S H P r d mo x v u) (hr : ∀ H', Only S H H' → Row H' A (by8 z)) (hn : n = z.length) (hz : isBy z) (hl : x.length + z.length ≤ 137438953472) :
    ACalls Tryd.prog 18 [Value.pointer (some ⟨P, 0, none⟩), .slice A n c].toArray H fun e H' => e = .returned (.bool true) ∧ Only S H H' ∧ ∃ S' v' u', Pr S' H' P r d mo (tkM x z mo) v' u' ∧ ∀ s, S' s → S s ∨ H s = none := by
  subst hn
  refine call18 (Nat.le_of_ble_eq_true rfl) ?_
  unfold L18 env0
  simp -implicitDefEqProofs (maxSteps := 1000000) (disch := first | omega | assumption) only [Sx, reduceIte, Nat.reduceEqDiff, reduceCtorEq, Nat.reduceAdd, Nat.reduceSub, Nat.reduceLT, Zx, endK]
  refine a_call (hand_spec (hr H (Only.refl _ _)) rfl (by omega)) ?_
  rintro e H1 ⟨vi, rfl, hI, k1, fi⟩
  have h1 := h.keep k1
  have hb1 := h1.blk
  have hlen : (z ++ mk5).length = z.length + 5 := by rw [List.length_append]; rfl
  obtain ⟨Ai, ci, rfl, hci, wi⟩ := Bo.row hI
  have wb : Row H1 Ai (by8 z) := by
    have := row_take (k := z.length) wi
    rwa [List.take_left] at this
  have hin : (0 : Int) ≤ (z.length : Int) ∧ (z.length : Int) ≤ (ci : Nat) := by omega
  have o1 : Only S H H1 := Only.of_keep k1
  simp -implicitDefEqProofs (maxSteps := 1000000) (disch := first | omega | assumption) only [cell_of hb1, ev_nilc, ev_slc_hi, Sx, reduceIte, Nat.reduceEqDiff, reduceCtorEq, Nat.reduceAdd, Nat.reduceSub, Nat.reduceLT, Zx, endK]
  by_cases he : errOf (infl x mo) = 0
  rotate_left
  · refine a_call (feedT_dead h1.rt he) ?_
    rintro e H2 ⟨rfl, rfl⟩
    simp -implicitDefEqProofs (maxSteps := 1000000) (disch := first | omega | assumption) only [cell_of hb1, ev_nilc, Sx, reduceIte, Nat.reduceEqDiff, reduceCtorEq, Nat.reduceAdd, Nat.reduceSub, Nat.reduceLT, Zx, endK]
    refine a_call (dfeed_dead h1.dr he) ?_
    rintro e H3 ⟨rfl, rfl⟩
    simp -implicitDefEqProofs (maxSteps := 1000000) (disch := first | omega | assumption) only [Sx, reduceIte, Nat.reduceEqDiff, reduceCtorEq, Nat.reduceAdd, Nat.reduceSub, Nat.reduceLT, Zx, endK]
    refine a_call (left_spec hI (hr _ o1) rfl (by omega)) ?_
    rintro e H4 ⟨rfl, ho4⟩
    have k4 : Keep H H4 := ho4.keep k1 fun q hq => fi q hq
    have qE : (errOf (infl x mo) == errOf (infl x mo)) = true := by simp
    simp -implicitDefEqProofs (maxSteps := 1000000) (disch := first | omega | assumption) only [qE, Sx, reduceIte, Nat.reduceEqDiff, reduceCtorEq, Nat.reduceAdd, Nat.reduceSub, Nat.reduceLT, Zx, endK]
    refine a_call (wiped_spec (x := []) (B := none) (.nil) (fun i v hv => by cases hv) rfl (by show 0 ≤ _; omega)) ?_
    rintro e H5 ⟨rfl, ho5⟩
    have k5 : Keep H H5 := ho5.keep k4 fun q hq => by cases hq
    simp -implicitDefEqProofs (maxSteps := 1000000) (disch := first | omega | assumption) only [Sx, reduceIte, Nat.reduceEqDiff, reduceCtorEq, Nat.reduceAdd, Nat.reduceSub, Nat.reduceLT, Zx, endK]
    refine ⟨by (first | exact True.intro | rfl | assumption), Only.of_keep k5, S, v, u, ?_, fun s hs => .inl hs⟩
    unfold tkM
    rw [if_neg he]
    exact h.keep k5
  have hx : tkM x z mo = x ++ z := if_pos he
  rw [hx]
  have sub2 : ∀ q, (q = r ∨ own v = some q) → S q ∨ H q = none := fun q hq => .inl (by rcases hq with rfl | hq; exact h.sr; exact h.sv q hq)
  refine a_call (feedT_spec (fun H' ho => hT H' (o1.trans ho sub2)) h1.rt he wb rfl hz (by omega)) ?_
  rintro e H2 ⟨vp, v2, rfl, hP, fp, hrt2, ho2, hm2, hne2⟩
  have o2 : Only S H H2 := o1.trans ho2 sub2
  obtain ⟨cr, hbr⟩ := h1.rt.blk
  have ndr : d ≠ r := blk_ne h1.dr.blk hbr (by decide)
  have nPr : P ≠ r := blk_ne hb1 hbr (by decide)
  have nPd : P ≠ d := blk_ne hb1 h1.dr.blk (by decide)
  have hdr2 : DR H2 d mo x u := h1.dr.only ho2 (by rintro (e | e); exact ndr e; exact h1.rt.lst.elem h1.dr.blk (by decide) e) (by
    rintro s hs (e | e)
    · exact h1.dr.lst.elem hbr (by decide) (e ▸ hs)
    · exact h1.ne s e hs)
  have hb2 := ho2.oth _ _ hb1 (by rintro (e | e); exact nPr e; exact h1.rt.lst.elem hb1 (by decide) e)
  have hI2 : Bo H2 (.slice Ai (z ++ mk5).length ci) (z ++ mk5) := hI.only ho2 (by
    rintro s hs (e | e)
    · exact h.kn r h.sr (e ▸ fi s hs)
    · exact h.kn s (h.sv s e) (fi s hs))
  have hsp := hP.scalar
  simp -implicitDefEqProofs (maxSteps := 1000000) (disch := first | omega | assumption) only [cell_of hb2, ev_nilc, Sx, reduceIte, Nat.reduceEqDiff, reduceCtorEq, Nat.reduceAdd, Nat.reduceSub, Nat.reduceLT, Zx, endK]
  refine a_call (dfeed_spec hdr2 he (hr _ o2) rfl hz hl) ?_
  rintro e H3 ⟨vw, u3, rfl, hW, fw, hdr3, fu, ho3⟩
  have sub3 : ∀ q, q = d → S q ∨ H q = none := fun q hq => .inl (hq ▸ h.sd)
  have o3 : Only S H H3 := o2.trans ho3 sub3
  have hrt3 : RT H3 r mo (x ++ z) v2 := hrt2.only ho3 (fun e => ndr e.symm) (fun s hs e => hrt2.lst.elem hdr2.blk (by decide) (e ▸ hs))
  have hb3 := ho3.oth _ _ hb2 nPd
  have hP3 := hP.only ho3 fun s hs e => hP.elem hdr2.blk (by decide) (e ▸ hs)
  have hI3 := hI2.only ho3 fun s hs e => hI2.elem hdr2.blk (by decide) (e ▸ hs)
  have hsw := hW.scalar
  simp -implicitDefEqProofs (maxSteps := 1000000) (disch := first | omega | assumption) only [Sx, reduceIte, Nat.reduceEqDiff, reduceCtorEq, Nat.reduceAdd, Nat.reduceSub, Nat.reduceLT, Zx, endK]
  refine a_call (left_spec hI3 (hr _ o3) rfl (by omega)) ?_
  rintro e H4 ⟨rfl, ho4⟩
  have o4 : Only S H H4 := o3.trans ho4 fun q hq => .inr (fi q hq)
  obtain ⟨cr3, hbr3⟩ := hrt3.blk
  have kn1 : ∀ s, own (.slice Ai (z ++ mk5).length ci) = some s → H1 s ≠ none := fun s hs => hI.known hs
  have kn2 : ∀ s, own (.slice Ai (z ++ mk5).length ci) = some s → H2 s ≠ none := fun s hs => hI2.known hs
  have nv2 : ∀ s, own v2 = some s → own (.slice Ai (z ++ mk5).length ci) ≠ some s := by
    intro s hs e
    rcases hm2 with e2 | ⟨q, e2, hq⟩
    · rw [e2] at hs
      exact h.kn s (h.sv s hs) (fi s e)
    · rw [e2] at hs
      cases hs
      exact kn1 _ e hq
  have hrt4 : RT H4 r mo (x ++ z) v2 := hrt3.only ho4 (fun e => hI3.elem hbr3 (by decide) e) nv2
  have hdr4 : DR H4 d mo (x ++ z) u3 := hdr3.only ho4 (fun e => hI3.elem hdr3.blk (by decide) e) (fun s hs e => kn2 s e (fu s hs))
  have hb4 := ho4.oth _ _ hb3 fun e => hI3.elem hb3 (by decide) e
  have hP4 := hP3.only ho4 fun s hs e => kn1 s e (fp s hs)
  have hW4 := hW.only ho4 fun s hs e => kn2 s e (fw s hs)
  obtain ⟨Aw, cw, rfl, hcw, ww⟩ := Bo.row hW4
  have hol := hrt4.ol
  have qE : (errOf (infl (x ++ z) mo) == errOf (infl (x ++ z) mo)) = true := by simp
  simp -implicitDefEqProofs (maxSteps := 1000000) (disch := first | omega | assumption) only [qE, Sx, reduceIte, Nat.reduceEqDiff, reduceCtorEq, Nat.reduceAdd, Nat.reduceSub, Nat.reduceLT, Zx, endK]
  refine a_call (wiped_spec hP4 ww rfl (by rw [List.length_drop]; omega)) ?_
  rintro e H5 ⟨rfl, ho5⟩
  have o5 : Only S H H5 := o4.trans ho5 fun q hq => .inr (k1.none (fp q hq))
  obtain ⟨cr4, hbr4⟩ := hrt4.blk
  have hrt5 : RT H5 r mo (x ++ z) v2 := hrt4.only ho5 (fun e => hP4.elem hbr4 (by decide) e) (fun s hs e => hne2 s e hs)
  have hdr5 : DR H5 d mo (x ++ z) u3 := hdr4.only ho5 (fun e => hP4.elem hdr4.blk (by decide) e) (fun s hs e => hP.known e (fu s hs))
  have hb5 := ho5.oth _ _ hb4 fun e => hP4.elem hb4 (by decide) e
  simp -implicitDefEqProofs (maxSteps := 1000000) (disch := first | omega | assumption) only [Sx, reduceIte, Nat.reduceEqDiff, reduceCtorEq, Nat.reduceAdd, Nat.reduceSub, Nat.reduceLT, Zx, endK]
  refine ⟨by (first | exact True.intro | rfl | assumption), o5, fun s => s = P ∨ s = r ∨ s = d ∨ own v2 = some s ∨ own u3 = some s, v2, u3, ⟨hb5, hrt5, hdr5, .inl rfl, .inr (.inl rfl), .inr (.inr (.inl rfl)), fun s hs => .inr (.inr (.inr (.inl hs))), fun s hs => .inr (.inr (.inr (.inr hs))), fun s hs e => hrt2.lst.known hs (fu s e), ?_⟩, ?_⟩
  · obtain ⟨cr5, hbr5⟩ := hrt5.blk
    rintro s (rfl | rfl | rfl | hs | hs)
    · rw [hb5]; simp
    · rw [hbr5]; simp
    · rw [hdr5.blk]; simp
    · exact hrt5.lst.known hs
    · exact hdr5.lst.known hs
  · rintro s (rfl | rfl | rfl | hs | hs)
    · exact .inl h.sP
    · exact .inl h.sr
    · exact .inl h.sd
    · rcases hm2 with e2 | ⟨q, e2, hq⟩
      · rw [e2] at hs; exact .inl (h.sv s hs)
      · rw [e2] at hs
        cases hs
        exact .inr (k1.none hq)
    · exact .inr (o2.none (fu s hs))
end Go.Proofs.YtphojebganlbnaaDoor.S06

/-
  InflateReaders: two readers, whatever is fed to them, in turns; the walk.
-/
set_option linter.unusedVariables false
set_option linter.unusedSimpArgs false
namespace Go.Proofs.YtphojebganlbnaaDoor.S06
open Go Go.RowKit Go.Proofs.YtphojebganlbnaaDoor.Sep Go.Proofs.YtphojebganlbnaaDoor.Low Go.Proofs.YtphojebganlbnaaDoor.S05 Go.Proofs.YtphojebganlbnaaDoor.CodeLaw Go.Proofs.YtphojebganlbnaaDoor.Pack Go.Proofs.YtphojebganlbnaaDoor.BitLaw
open Go.Proofs.YtphojebganlbnaaDoor.Lib hiding by8 by8_scalar

set_option maxHeartbeats 4000000 in
theorem made_spec {H : Heap} {most : Int} :
    ACalls Tryd.prog 16 [Value.int .i64 most].toArray H fun e H' => ∃ P, e = .returned (.tuple #[.pointer (some ⟨P, 0, none⟩), .bool true]) ∧ Keep H H' ∧
      (((most < 0 ∨ 4194304 < most) ∧ ∃ d, H' P = some (.cells #[.pointer none, .pointer (some ⟨d, 0, none⟩)] 43 (0, 0))) ∨
       (¬ (most < 0 ∨ 4194304 < most) ∧ ∃ S r d v u, Pr S H' P r d most.toNat [] v u ∧ ∀ s, S s → H s = none)) := by
  refine call16 (Nat.le_of_ble_eq_true rfl) ?_
  unfold L16 env0
  have q0 : ((0 : Int) == 0) = true := rfl
  have q00 : ((0 : Int) != 0) = false := rfl
  have q11 : ((1 : Int) == 1) = true := rfl
  have q10 : ((1 : Int) != 0) = true := rfl
  have btt : ((true == true) != false) = true := rfl
  have bff : ((false == false) != false) = true := rfl
  have btf : (true != false) = true := rfl
  have eff : (false == false) = true := rfl
  have ett : (true == true) = true := rfl
  by_cases hbad : most < 0 ∨ 4194304 < most
  · simp -implicitDefEqProofs (maxSteps := 1000000) (disch := first | omega | assumption) only [Sx, reduceIte, Nat.reduceEqDiff, reduceCtorEq, Nat.reduceAdd, Nat.reduceSub, Nat.reduceLT, Zx, endK]
    refine a_call (newReader_bad hbad) ?_
    rintro e H1 ⟨rfl, rfl⟩
    have tail : ∀ (env : Env) (Q : Post) QP, env 0 = .int .i64 most → env 4 = .pointer none → env 5 = .int .i64 1 → env 6 = .int .i64 1 → (∀ env' H' P, env' 2 = .pointer (some ⟨P, 0, none⟩) → env' 3 = .bool true → Keep H1 H' → (∃ d, H' P = some (.cells #[.pointer none, .pointer (some ⟨d, 0, none⟩)] 43 (0, 0))) → Q .ret env' H') → awpC Tryd.prog L16_0 Q QP env H1 := by
      intro env Q QP g0 g4 g5 g6 hQ
      unfold L16_0
      simp -implicitDefEqProofs (maxSteps := 1000000) (disch := first | omega | assumption) only [g0, g4, Sx, reduceIte, Nat.reduceEqDiff, reduceCtorEq, Nat.reduceAdd, Nat.reduceSub, Nat.reduceLT, Zx, endK]
      refine a_box fun d hd => ?_
      try simp -implicitDefEqProofs (maxSteps := 1000000) (disch := first | omega | assumption) only [Value.cells, g4, Sx, reduceIte, Nat.reduceEqDiff, reduceCtorEq, Nat.reduceAdd, Nat.reduceSub, Nat.reduceLT, Zx, endK]
      refine a_box fun P hP => ?_
      try simp -implicitDefEqProofs (maxSteps := 1000000) (disch := first | omega | assumption) only [Value.cells, g4, g5, g6, q11, q10, btt, btf, ett, Option.isNone_none, Sx, reduceIte, Nat.reduceEqDiff, reduceCtorEq, Nat.reduceAdd, Nat.reduceSub, Nat.reduceLT, Zx, endK]
      exact hQ _ _ P (by simp -implicitDefEqProofs (maxSteps := 1000000) (disch := first | omega | assumption) only [Sx, reduceIte, Nat.reduceEqDiff, reduceCtorEq, Nat.reduceAdd, Nat.reduceSub, Nat.reduceLT, Zx, endK]) (by simp -implicitDefEqProofs (maxSteps := 1000000) (disch := first | omega | assumption) only [Sx, reduceIte, Nat.reduceEqDiff, reduceCtorEq, Nat.reduceAdd, Nat.reduceSub, Nat.reduceLT, Zx, endK]) (((Keep.refl _).set_new hd).set_new hP) ⟨d, set_same⟩
    by_cases h1 : most < 0
    · have f1 : decide (most < 0) = true := decide_eq_true h1
      simp -implicitDefEqProofs (maxSteps := 1000000) (disch := first | omega | assumption) only [f1, Sx, reduceIte, Nat.reduceEqDiff, reduceCtorEq, Nat.reduceAdd, Nat.reduceSub, Nat.reduceLT, Zx, endK]
      refine tail _ _ _ ?_ ?_ ?_ ?_ ?_
      · simp -implicitDefEqProofs (maxSteps := 1000000) (disch := first | omega | assumption) only [Sx, reduceIte, Nat.reduceEqDiff, reduceCtorEq, Nat.reduceAdd, Nat.reduceSub, Nat.reduceLT, Zx, endK]
      · simp -implicitDefEqProofs (maxSteps := 1000000) (disch := first | omega | assumption) only [Sx, reduceIte, Nat.reduceEqDiff, reduceCtorEq, Nat.reduceAdd, Nat.reduceSub, Nat.reduceLT, Zx, endK]
      · simp -implicitDefEqProofs (maxSteps := 1000000) (disch := first | omega | assumption) only [Sx, reduceIte, Nat.reduceEqDiff, reduceCtorEq, Nat.reduceAdd, Nat.reduceSub, Nat.reduceLT, Zx, endK]
      · simp -implicitDefEqProofs (maxSteps := 1000000) (disch := first | omega | assumption) only [Sx, reduceIte, Nat.reduceEqDiff, reduceCtorEq, Nat.reduceAdd, Nat.reduceSub, Nat.reduceLT, Zx, endK]
      intro env' H' P e2 e3 hk hd
      simp -implicitDefEqProofs (maxSteps := 1000000) (disch := first | omega | assumption) only [e2, e3, Sx, reduceIte, Nat.reduceEqDiff, reduceCtorEq, Nat.reduceAdd, Nat.reduceSub, Nat.reduceLT, Zx, endK]
      exact ⟨P, by (first | exact True.intro | rfl | assumption), hk, .inl ⟨hbad, hd⟩⟩
    · have f1 : decide (most < 0) = false := decide_eq_false h1
      have f2 : decide (4194304 < most) = true := decide_eq_true (by omega)
      simp -implicitDefEqProofs (maxSteps := 1000000) (disch := first | omega | assumption) only [f1, f2, Sx, reduceIte, Nat.reduceEqDiff, reduceCtorEq, Nat.reduceAdd, Nat.reduceSub, Nat.reduceLT, Zx, endK]
      refine tail _ _ _ ?_ ?_ ?_ ?_ ?_
      · simp -implicitDefEqProofs (maxSteps := 1000000) (disch := first | omega | assumption) only [Sx, reduceIte, Nat.reduceEqDiff, reduceCtorEq, Nat.reduceAdd, Nat.reduceSub, Nat.reduceLT, Zx, endK]
      · simp -implicitDefEqProofs (maxSteps := 1000000) (disch := first | omega | assumption) only [Sx, reduceIte, Nat.reduceEqDiff, reduceCtorEq, Nat.reduceAdd, Nat.reduceSub, Nat.reduceLT, Zx, endK]
      · simp -implicitDefEqProofs (maxSteps := 1000000) (disch := first | omega | assumption) only [Sx, reduceIte, Nat.reduceEqDiff, reduceCtorEq, Nat.reduceAdd, Nat.reduceSub, Nat.reduceLT, Zx, endK]
      · simp -implicitDefEqProofs (maxSteps := 1000000) (disch := first | omega | assumption) only [Sx, reduceIte, Nat.reduceEqDiff, reduceCtorEq, Nat.reduceAdd, Nat.reduceSub, Nat.reduceLT, Zx, endK]
      intro env' H' P e2 e3 hk hd
      simp -implicitDefEqProofs (maxSteps := 1000000) (disch := first | omega | assumption) only [e2, e3, Sx, reduceIte, Nat.reduceEqDiff, reduceCtorEq, Nat.reduceAdd, Nat.reduceSub, Nat.reduceLT, Zx, endK]
      exact ⟨P, by (first | exact True.intro | rfl | assumption), hk, .inl ⟨hbad, hd⟩⟩
  have f1 : decide (most < 0) = false := decide_eq_false (by omega)
  have f2 : decide (4194304 < most) = false := decide_eq_false (by omega)
  obtain ⟨mo, hmod⟩ : ∃ mo, mo = most.toNat := ⟨_, rfl⟩
  have hmt : most = (mo : Nat) := by omega
  have hmo : mo ≤ 4194304 := by omega
  rw [← hmod]
  clear hmod
  subst hmt
  simp -implicitDefEqProofs (maxSteps := 1000000) (disch := first | omega | assumption) only [Sx, reduceIte, Nat.reduceEqDiff, reduceCtorEq, Nat.reduceAdd, Nat.reduceSub, Nat.reduceLT, Zx, endK]
  refine a_call (inewReader_spec hmo) ?_
  rintro e H1 ⟨r, rfl, hrs, k1, hr⟩
  have hrt := RT.new hrs
  simp -implicitDefEqProofs (maxSteps := 1000000) (disch := first | omega | assumption) only [f1, f2, Sx, reduceIte, Nat.reduceEqDiff, reduceCtorEq, Nat.reduceAdd, Nat.reduceSub, Nat.reduceLT, Zx, endK]
  unfold L16_0
  simp -implicitDefEqProofs (maxSteps := 1000000) (disch := first | omega | assumption) only [Sx, reduceIte, Nat.reduceEqDiff, reduceCtorEq, Nat.reduceAdd, Nat.reduceSub, Nat.reduceLT, Zx, endK]
  refine a_box fun d hd => ?_
  try simp -implicitDefEqProofs (maxSteps := 1000000) (disch := first | omega | assumption) only [Value.cells, Sx, reduceIte, Nat.reduceEqDiff, reduceCtorEq, Nat.reduceAdd, Nat.reduceSub, Nat.reduceLT, Zx, endK]
  refine a_box fun P hP => ?_
  obtain ⟨H2, hH2⟩ : ∃ H2, H2 = H1.set d (.cells #[.int .i64 (mo : Nat), .int .i64 0, .slice none 0 0, .int .i64 0] 61 (0, 0)) := ⟨_, rfl⟩
  have k2 : Keep H1 H2 := by rw [hH2]; exact (Keep.refl _).set_new hd
  have bd : H2 d = some (.cells #[.int .i64 (mo : Nat), .int .i64 0, .slice none 0 0, .int .i64 0] 61 (0, 0)) := by rw [hH2]; exact set_same
  have hP2 : H2 P = none := by rw [hH2]; exact hP
  try simp -implicitDefEqProofs (maxSteps := 1000000) (disch := first | omega | assumption) only [Value.cells, q0, q00, bff, btf, eff, Option.isNone_some, Sx, reduceIte, Nat.reduceEqDiff, reduceCtorEq, Nat.reduceAdd, Nat.reduceSub, Nat.reduceLT, Zx, endK]
  rw [show H1.set d (.cells #[.int .i64 (mo : Nat), .int .i64 0, .slice none 0 0, .int .i64 0] 61 (0, 0)) = H2 from hH2.symm]
  have k3 : Keep H2 (H2.set P (.cells #[.pointer (some ⟨r, 0, none⟩), .pointer (some ⟨d, 0, none⟩)] 43 (0, 0))) := (Keep.refl _).set_new hP2
  have hdr : DR H2 d mo [] (.slice none 0 0) := ⟨by rw [bd, infl_nil]; rfl, .nil, (fun x hx => by cases hx), hmo⟩
  have k23 := k2.trans k3
  refine ⟨P, by (first | exact True.intro | rfl | assumption), k1.trans k23, .inr ⟨hbad, fun s => s = P ∨ s = r ∨ s = d, r, d, .slice none 0 0, .slice none 0 0, ⟨set_same, hrt.keep k23, hdr.keep k3, .inl rfl, .inr (.inl rfl), .inr (.inr rfl), (fun s hs => by cases hs), (fun s hs => by cases hs), (fun s hs => by cases hs), ?_⟩, ?_⟩⟩
  · obtain ⟨cr, hbr⟩ := (hrt.keep k23).blk
    rintro s (rfl | rfl | rfl)
    · rw [set_same]; simp
    · rw [hbr]; simp
    · rw [k3 _ _ bd]; simp
  · rintro s (rfl | rfl | rfl)
    · exact k1.none (k2.none hP2)
    · exact hr
    · exact k1.none hd
structure OpR where
  ask : Bool
  oth : Bool
  b : List Int
abbrev opcR (z : OpR × Option Addr × Nat) : List Value := [.bool z.1.ask, .bool z.1.oth, .slice z.2.1 z.1.b.length z.2.2]
theorem opcR_len (z : OpR × Option Addr × Nat) : (opcR z).length = 3 := rfl
theorem op_at {H : Heap} {A : Option Addr} {zs : List (OpR × Option Addr × Nat)} (h : Row H A (encs opcR zs)) {i : Nat} (hi : i < zs.length) : ∃ b, A = some b ∧ H.cell? (b.add (i * 3)) = some (.bool zs[i].1.ask) ∧ H.cell? ((b.add (i * 3)).add 1) = some (.bool zs[i].1.oth) ∧ H.cell? ((b.add (i * 3)).add 2) = some (.slice zs[i].2.1 zs[i].1.b.length zs[i].2.2) := by
  obtain ⟨b, e, -, h2⟩ := elemR opcR_len (by decide) h hi
  refine ⟨b, e, ?_, h2 1 _ rfl, h2 2 _ rfl⟩
  have := h2 0 _ rfl
  rwa [add_zero_a] at this
theorem tkM_len {x z : List Int} {mo : Nat} : (tkM x z mo).length ≤ x.length + z.length := by
  unfold tkM
  split
  · exact Nat.le_of_eq List.length_append
  · omega
set_option maxHeartbeats 2000000 in
theorem step1 {S : Nat → Prop} {H : Heap} {P r d mo c i : Nat} {x : List Int} {v u : Value} {A : Option Addr} {zs : List (OpR × Option Addr × Nat)} {env : Env} {Q : Post} {QP : List PanicEntry → Heap → Prop} (hT : ∀ H', Only S H H' → TabO H') (h : Pr S H P r d mo x v u) (hA : Row H A (encs opcR zs)) (hi : i < zs.length) (hr : ∀ H', Only S H H' → Row H' zs[i].2.1 (by8 zs[i].1.b)) (hz : isBy zs[i].1.b) (hl : x.length + zs[i].1.b.length ≤ 137438953472)
    (g2 : env 2 = .slice A zs.length c) (g11 : env 11 = .int .i64 (i : Nat)) (g12 : env 12 = .pointer (some ⟨P, 0, none⟩))
    (hQ : ∀ env' H' S' x' v' u', env' 2 = env 2 → env' 7 = env 7 → env' 9 = env 9 → env' 11 = env 11 → Only S H H' → Pr S' H' P r d mo x' v' u' → (∀ s, S' s → S s ∨ H s = none) → x'.length ≤ x.length + zs[i].1.b.length → Q .normal env' H') : awpC Tryd.prog L7_1 Q QP env H := by
  unfold L7_1
  obtain ⟨b, rfl, c0, c1, c2⟩ := op_at hA hi
  have hin : (0 : Int) ≤ (i : Int) ∧ (i : Int) < (zs.length : Nat) := by omega
  cases ha : zs[i].1.ask with
  | true =>
    rw [ha] at c0
    simp -implicitDefEqProofs (maxSteps := 1000000) (disch := first | omega | assumption) only [g2, g11, g12, c0, Sx, reduceIte, Nat.reduceEqDiff, reduceCtorEq, Nat.reduceAdd, Nat.reduceSub, Nat.reduceLT, Zx, endK]
    refine a_call (tells_spec h (by omega)) ?_
    rintro e H1 ⟨rfl, k1⟩
    unfold L7_0
    simp -implicitDefEqProofs (maxSteps := 1000000) (disch := first | omega | assumption) only [Sx, reduceIte, Nat.reduceEqDiff, reduceCtorEq, Nat.reduceAdd, Nat.reduceSub, Nat.reduceLT, Zx, endK]
    refine hQ _ _ S x v u (by simp -implicitDefEqProofs (maxSteps := 1000000) (disch := first | omega | assumption) only [Sx, reduceIte, Nat.reduceEqDiff, reduceCtorEq, Nat.reduceAdd, Nat.reduceSub, Nat.reduceLT, Zx, endK]) (by simp -implicitDefEqProofs (maxSteps := 1000000) (disch := first | omega | assumption) only [Sx, reduceIte, Nat.reduceEqDiff, reduceCtorEq, Nat.reduceAdd, Nat.reduceSub, Nat.reduceLT, Zx, endK]) (by simp -implicitDefEqProofs (maxSteps := 1000000) (disch := first | omega | assumption) only [Sx, reduceIte, Nat.reduceEqDiff, reduceCtorEq, Nat.reduceAdd, Nat.reduceSub, Nat.reduceLT, Zx, endK]) (by simp -implicitDefEqProofs (maxSteps := 1000000) (disch := first | omega | assumption) only [Sx, reduceIte, Nat.reduceEqDiff, reduceCtorEq, Nat.reduceAdd, Nat.reduceSub, Nat.reduceLT, Zx, endK]) (Only.of_keep k1) (h.keep k1) (fun s hs => .inl hs) (by omega)
  | false =>
    rw [ha] at c0
    simp -implicitDefEqProofs (maxSteps := 1000000) (disch := first | omega | assumption) only [g2, g11, g12, c0, c2, Sx, reduceIte, Nat.reduceEqDiff, reduceCtorEq, Nat.reduceAdd, Nat.reduceSub, Nat.reduceLT, Zx, endK]
    refine a_call (feeds_spec hT h hr rfl hz hl) ?_
    rintro e H1 ⟨rfl, ho, S', v', u', hp, hs⟩
    unfold L7_0
    simp -implicitDefEqProofs (maxSteps := 1000000) (disch := first | omega | assumption) only [Sx, reduceIte, Nat.reduceEqDiff, reduceCtorEq, Nat.reduceAdd, Nat.reduceSub, Nat.reduceLT, Zx, endK]
    refine hQ _ _ S' _ v' u' (by simp -implicitDefEqProofs (maxSteps := 1000000) (disch := first | omega | assumption) only [Sx, reduceIte, Nat.reduceEqDiff, reduceCtorEq, Nat.reduceAdd, Nat.reduceSub, Nat.reduceLT, Zx, endK]) (by simp -implicitDefEqProofs (maxSteps := 1000000) (disch := first | omega | assumption) only [Sx, reduceIte, Nat.reduceEqDiff, reduceCtorEq, Nat.reduceAdd, Nat.reduceSub, Nat.reduceLT, Zx, endK]) (by simp -implicitDefEqProofs (maxSteps := 1000000) (disch := first | omega | assumption) only [Sx, reduceIte, Nat.reduceEqDiff, reduceCtorEq, Nat.reduceAdd, Nat.reduceSub, Nat.reduceLT, Zx, endK]) (by simp -implicitDefEqProofs (maxSteps := 1000000) (disch := first | omega | assumption) only [Sx, reduceIte, Nat.reduceEqDiff, reduceCtorEq, Nat.reduceAdd, Nat.reduceSub, Nat.reduceLT, Zx, endK]) ho hp hs tkM_len
theorem tot_succ {zs : List (OpR × Option Addr × Nat)} {i : Nat} (hi : i < zs.length) : ((zs.take (i + 1)).map fun z => z.1.b.length).sum = ((zs.take i).map fun z => z.1.b.length).sum + zs[i].1.b.length := by
  rw [List.take_succ_eq_append_getElem hi, List.map_append, List.sum_append, List.map_cons, List.map_nil, List.sum_cons, List.sum_nil, Nat.add_zero]
theorem sum_take_le : ∀ (l : List Nat) (i : Nat), (l.take i).sum ≤ l.sum
  | [], i => by simp
  | x :: l, 0 => Nat.zero_le _
  | x :: l, i + 1 => by
    have := sum_take_le l i
    rw [List.take_succ_cons, List.sum_cons, List.sum_cons]
    omega
theorem tot_le {zs : List (OpR × Option Addr × Nat)} {i : Nat} : ((zs.take i).map fun z => z.1.b.length).sum ≤ (zs.map fun z => z.1.b.length).sum := by
  rw [List.map_take]
  exact sum_take_le _ _
set_option maxHeartbeats 8000000 in
set_option maxRecDepth 4000 in
theorem inflateReaders_walk {H : Heap} {most other : Int} {A : Option Addr} {c : Nat} {zs : List (OpR × Option Addr × Nat)} (hT : TabO H) (hA : Row H A (encs opcR zs)) (hr : ∀ z ∈ zs, Row H z.2.1 (by8 z.1.b)) (hz : ∀ z ∈ zs, isBy z.1.b) (hs : (zs.map fun z => z.1.b.length).sum ≤ 1048576) (hl : zs.length ≤ 1048576) :
    ACalls Tryd.prog 7 [Value.int .i64 most, .int .i64 other, .slice A zs.length c].toArray H fun e H' => e = .returned (.bool true) ∧ Keep H H' := by
  refine call7 (Nat.le_of_ble_eq_true rfl) ?_
  unfold L7 env0
  have btf : (true != false) = true := rfl
  have bff : (false != false) = false := rfl
  simp -implicitDefEqProofs (maxSteps := 1000000) (disch := first | omega | assumption) only [Sx, reduceIte, Nat.reduceEqDiff, reduceCtorEq, Nat.reduceAdd, Nat.reduceSub, Nat.reduceLT, Zx, endK]
  refine a_call made_spec ?_
  rintro e H1 ⟨P1, rfl, k1, hc1⟩
  simp -implicitDefEqProofs (maxSteps := 1000000) (disch := first | omega | assumption) only [Sx, reduceIte, Nat.reduceEqDiff, reduceCtorEq, Nat.reduceAdd, Nat.reduceSub, Nat.reduceLT, Zx, endK]
  refine a_call made_spec ?_
  rintro e H2 ⟨P2, rfl, k2, hc2⟩
  have k2' := k1.trans k2
  rcases hc1 with ⟨-, d1, hb1⟩ | ⟨-, S1, r1, d1, v1, u1, h1, hS1⟩
  · simp -implicitDefEqProofs (maxSteps := 1000000) (disch := first | omega | assumption) only [cell_of (k2 _ _ hb1), ev_nilc, btf, bff, Option.isNone_none, Option.isNone_some, Sx, reduceIte, Nat.reduceEqDiff, reduceCtorEq, Nat.reduceAdd, Nat.reduceSub, Nat.reduceLT, Zx, endK]
    exact ⟨by (first | exact True.intro | rfl | assumption), k2'⟩
  have hb1 := (h1.keep k2).blk
  rcases hc2 with ⟨-, d2, hb2⟩ | ⟨-, S2, r2, d2, v2, u2, h2, hS2⟩
  · simp -implicitDefEqProofs (maxSteps := 1000000) (disch := first | omega | assumption) only [cell_of hb1, cell_of hb2, ev_nilc, btf, bff, Option.isNone_none, Option.isNone_some, Sx, reduceIte, Nat.reduceEqDiff, reduceCtorEq, Nat.reduceAdd, Nat.reduceSub, Nat.reduceLT, Zx, endK]
    exact ⟨by (first | exact True.intro | rfl | assumption), k2'⟩
  have hb2 := h2.blk
  simp -implicitDefEqProofs (maxSteps := 1000000) (disch := first | omega | assumption) only [cell_of hb1, cell_of hb2, ev_nilc, btf, bff, Option.isNone_none, Option.isNone_some, Sx, reduceIte, Nat.reduceEqDiff, reduceCtorEq, Nat.reduceAdd, Nat.reduceSub, Nat.reduceLT, Zx, endK]
  obtain ⟨mo1, hmo1⟩ : ∃ mo1, mo1 = most.toNat := ⟨_, rfl⟩
  obtain ⟨mo2, hmo2⟩ : ∃ mo2, mo2 = other.toNat := ⟨_, rfl⟩
  rw [← hmo1] at h1
  rw [← hmo2] at h2
  refine c_loop (fun k env H' => ∃ (i : Nat) (S1 S2 : Nat → Prop) (x1 x2 : List Int) (v1 u1 v2 u2 : Value), k + i = zs.length ∧ env 2 = .slice A zs.length c ∧ env 7 = .pointer (some ⟨P1, 0, none⟩) ∧ env 9 = .pointer (some ⟨P2, 0, none⟩) ∧ env 11 = .int .i64 (i : Nat) ∧ Keep H H' ∧ Pr S1 H' P1 r1 d1 mo1 x1 v1 u1 ∧ Pr S2 H' P2 r2 d2 mo2 x2 v2 u2 ∧
      (∀ s, S1 s → ¬ S2 s) ∧ (∀ s, S1 s → H s = none) ∧ (∀ s, S2 s → H s = none) ∧ x1.length ≤ ((zs.take i).map fun z => z.1.b.length).sum ∧ x2.length ≤ ((zs.take i).map fun z => z.1.b.length).sum) zs.length
    ⟨0, S1, S2, [], [], v1, u1, v2, u2, by omega, by (first | exact True.intro | rfl | assumption), by (first | exact True.intro | rfl | assumption), by (first | exact True.intro | rfl | assumption), by (first | exact True.intro | rfl | assumption), k2', h1.keep k2, h2, fun s h h' => h1.kn s h (hS2 s h'), hS1, fun s h => k1.none (hS2 s h), Nat.zero_le _, Nat.zero_le _⟩ ?_
  clear hb1 hb2 h1 h2 hS1 hS2 hmo1 hmo2
  rintro k env H3 ⟨i, S1, S2, x1, x2, v1, u1, v2, u2, hk, g2, g7, g9, g11, hK, h1, h2, hD, hS1, hS2, hx1, hx2⟩
  have hti := tot_le (zs := zs) (i := i)
  unfold L7_3
  by_cases hi : i < zs.length
  rotate_left
  · have f0 : decide ((i : Int) < (zs.length : Int)) = false := decide_eq_false (by omega)
    simp -implicitDefEqProofs (maxSteps := 1000000) (disch := first | omega | assumption) only [g2, g7, g9, g11, f0, Sx, reduceIte, Nat.reduceEqDiff, reduceCtorEq, Nat.reduceAdd, Nat.reduceSub, Nat.reduceLT, Zx, endK]
    refine a_call (tells_spec h1 (by omega)) ?_
    rintro e H4 ⟨rfl, k4⟩
    simp -implicitDefEqProofs (maxSteps := 1000000) (disch := first | omega | assumption) only [g9, Sx, reduceIte, Nat.reduceEqDiff, reduceCtorEq, Nat.reduceAdd, Nat.reduceSub, Nat.reduceLT, Zx, endK]
    refine a_call (tells_spec (h2.keep k4) (by omega)) ?_
    rintro e H5 ⟨rfl, k5⟩
    simp -implicitDefEqProofs (maxSteps := 1000000) (disch := first | omega | assumption) only [Sx, reduceIte, Nat.reduceEqDiff, reduceCtorEq, Nat.reduceAdd, Nat.reduceSub, Nat.reduceLT, Zx, endK]
    exact ⟨by (first | exact True.intro | rfl | assumption), hK.trans (k4.trans k5)⟩
  have f0 : decide ((i : Int) < (zs.length : Int)) = true := decide_eq_true (by omega)
  have hin : (0 : Int) ≤ (i : Int) ∧ (i : Int) < (zs.length : Nat) := by omega
  have hA3 := hK.row hA
  have hts := tot_succ hi
  have hti2 := tot_le (zs := zs) (i := i + 1)
  have hmem : zs[i] ∈ zs := List.getElem_mem hi
  obtain ⟨b, hAb, -, c1, -⟩ := op_at hA3 hi
  obtain ⟨k, rfl⟩ : ∃ k', k = k' + 1 := ⟨k - 1, by omega⟩
  cases ho : zs[i].1.oth with
  | false =>
    rw [ho] at c1
    subst hAb
    simp -implicitDefEqProofs (maxSteps := 1000000) (disch := first | omega | assumption) only [g2, g7, g9, g11, f0, c1, Sx, reduceIte, Nat.reduceEqDiff, reduceCtorEq, Nat.reduceAdd, Nat.reduceSub, Nat.reduceLT, Zx, endK]
    refine step1 (c := c) (fun H' hO => hT.keep (hO.keep hK hS1)) h1 hA3 hi (fun H' hO => (hO.keep hK hS1).row (hr _ hmem)) (hz _ hmem) (by omega) ?_ ?_ ?_ ?_
    · simp -implicitDefEqProofs (maxSteps := 1000000) (disch := first | omega | assumption) only [g2, Sx, reduceIte, Nat.reduceEqDiff, reduceCtorEq, Nat.reduceAdd, Nat.reduceSub, Nat.reduceLT, Zx, endK]
    · simp -implicitDefEqProofs (maxSteps := 1000000) (disch := first | omega | assumption) only [g11, Sx, reduceIte, Nat.reduceEqDiff, reduceCtorEq, Nat.reduceAdd, Nat.reduceSub, Nat.reduceLT, Zx, endK]
    · simp -implicitDefEqProofs (maxSteps := 1000000) (disch := first | omega | assumption) only [Sx, reduceIte, Nat.reduceEqDiff, reduceCtorEq, Nat.reduceAdd, Nat.reduceSub, Nat.reduceLT, Zx, endK]
    intro env' H4 S' x' v' u' e2 e7 e9 e11 hO hp hs hx
    replace e2 : env' 2 = .slice (some b) zs.length c := by rw [e2]; simp -implicitDefEqProofs (maxSteps := 1000000) (disch := first | omega | assumption) only [g2, Sx, reduceIte, Nat.reduceEqDiff, reduceCtorEq, Nat.reduceAdd, Nat.reduceSub, Nat.reduceLT, Zx, endK]
    replace e7 : env' 7 = .pointer (some ⟨P1, 0, none⟩) := by rw [e7]; simp -implicitDefEqProofs (maxSteps := 1000000) (disch := first | omega | assumption) only [g7, Sx, reduceIte, Nat.reduceEqDiff, reduceCtorEq, Nat.reduceAdd, Nat.reduceSub, Nat.reduceLT, Zx, endK]
    replace e9 : env' 9 = .pointer (some ⟨P2, 0, none⟩) := by rw [e9]; simp -implicitDefEqProofs (maxSteps := 1000000) (disch := first | omega | assumption) only [g9, Sx, reduceIte, Nat.reduceEqDiff, reduceCtorEq, Nat.reduceAdd, Nat.reduceSub, Nat.reduceLT, Zx, endK]
    replace e11 : env' 11 = .int .i64 (i : Nat) := by rw [e11]; simp -implicitDefEqProofs (maxSteps := 1000000) (disch := first | omega | assumption) only [g11, Sx, reduceIte, Nat.reduceEqDiff, reduceCtorEq, Nat.reduceAdd, Nat.reduceSub, Nat.reduceLT, Zx, endK]
    unfold L7_2
    simp -implicitDefEqProofs (maxSteps := 1000000) (disch := first | omega | assumption) only [e2, e7, e9, e11, Sx, reduceIte, Nat.reduceEqDiff, reduceCtorEq, Nat.reduceAdd, Nat.reduceSub, Nat.reduceLT, Zx, endK]
    exact ⟨k, by omega, i + 1, S', S2, x', x2, v', u', v2, u2, by omega, by (first | exact True.intro | rfl | assumption), by (first | exact True.intro | rfl | assumption), by (first | exact True.intro | rfl | assumption), by simp, hO.keep hK hS1, hp, h2.only hO (fun s h2s h1s => hD s h1s h2s), (fun s h h' => by rcases hs s h with h3 | h3; exact hD s h3 h'; exact h2.kn s h' h3), (fun s h => by rcases hs s h with h3 | h3; exact hS1 s h3; exact hK.none h3), hS2, by omega, by omega⟩
  | true =>
    rw [ho] at c1
    subst hAb
    simp -implicitDefEqProofs (maxSteps := 1000000) (disch := first | omega | assumption) only [g2, g7, g9, g11, f0, c1, Sx, reduceIte, Nat.reduceEqDiff, reduceCtorEq, Nat.reduceAdd, Nat.reduceSub, Nat.reduceLT, Zx, endK]
    refine step1 (c := c) (fun H' hO => hT.keep (hO.keep hK hS2)) h2 hA3 hi (fun H' hO => (hO.keep hK hS2).row (hr _ hmem)) (hz _ hmem) (by omega) ?_ ?_ ?_ ?_
    · simp -implicitDefEqProofs (maxSteps := 1000000) (disch := first | omega | assumption) only [g2, Sx, reduceIte, Nat.reduceEqDiff, reduceCtorEq, Nat.reduceAdd, Nat.reduceSub, Nat.reduceLT, Zx, endK]
    · simp -implicitDefEqProofs (maxSteps := 1000000) (disch := first | omega | assumption) only [g11, Sx, reduceIte, Nat.reduceEqDiff, reduceCtorEq, Nat.reduceAdd, Nat.reduceSub, Nat.reduceLT, Zx, endK]
    · simp -implicitDefEqProofs (maxSteps := 1000000) (disch := first | omega | assumption) only [Sx, reduceIte, Nat.reduceEqDiff, reduceCtorEq, Nat.reduceAdd, Nat.reduceSub, Nat.reduceLT, Zx, endK]
    intro env' H4 S' x' v' u' e2 e7 e9 e11 hO hp hs hx
    replace e2 : env' 2 = .slice (some b) zs.length c := by rw [e2]; simp -implicitDefEqProofs (maxSteps := 1000000) (disch := first | omega | assumption) only [g2, Sx, reduceIte, Nat.reduceEqDiff, reduceCtorEq, Nat.reduceAdd, Nat.reduceSub, Nat.reduceLT, Zx, endK]
    replace e7 : env' 7 = .pointer (some ⟨P1, 0, none⟩) := by rw [e7]; simp -implicitDefEqProofs (maxSteps := 1000000) (disch := first | omega | assumption) only [g7, Sx, reduceIte, Nat.reduceEqDiff, reduceCtorEq, Nat.reduceAdd, Nat.reduceSub, Nat.reduceLT, Zx, endK]
    replace e9 : env' 9 = .pointer (some ⟨P2, 0, none⟩) := by rw [e9]; simp -implicitDefEqProofs (maxSteps := 1000000) (disch := first | omega | assumption) only [g9, Sx, reduceIte, Nat.reduceEqDiff, reduceCtorEq, Nat.reduceAdd, Nat.reduceSub, Nat.reduceLT, Zx, endK]
    replace e11 : env' 11 = .int .i64 (i : Nat) := by rw [e11]; simp -implicitDefEqProofs (maxSteps := 1000000) (disch := first | omega | assumption) only [g11, Sx, reduceIte, Nat.reduceEqDiff, reduceCtorEq, Nat.reduceAdd, Nat.reduceSub, Nat.reduceLT, Zx, endK]
    unfold L7_2
    simp -implicitDefEqProofs (maxSteps := 1000000) (disch := first | omega | assumption) only [e2, e7, e9, e11, Sx, reduceIte, Nat.reduceEqDiff, reduceCtorEq, Nat.reduceAdd, Nat.reduceSub, Nat.reduceLT, Zx, endK]
    exact ⟨k, by omega, i + 1, S1, S', x1, x', v1, u1, v', u', by omega, by (first | exact True.intro | rfl | assumption), by (first | exact True.intro | rfl | assumption), by (first | exact True.intro | rfl | assumption), by simp, hO.keep hK hS2, h1.only hO (fun s h1s h2s => hD s h1s h2s), hp, (fun s h h' => by rcases hs s h' with h3 | h3; exact hD s h h3; exact h1.kn s h h3), hS1, (fun s h => by rcases hs s h with h3 | h3; exact hS2 s h3; exact hK.none h3), by omega, by omega⟩

/-! ### How an Op is opened -/
def opTyR : Ty OpR := ⟨3, fun H x cs => ∃ B cp cl, cs = opcR (x, B, cp) ∧ x.b.length ≤ cp ∧ Els (Ty.int .u8) H B x.b cl,
  fun ⟨_, _, _, h, _⟩ => by rw [h]; rfl, fun hk ⟨B, cp, cl, h, h1, h2⟩ => ⟨B, cp, cl, h, h1, h2.keep hk⟩⟩
def wfOpR (x : OpR) : Prop := isBy x.b
def bkR (x : OpR) : Nat := x.b.length + 4
theorem cellsBool : Tryd.prog.cellsOf 4 = 1 := by kernel_rfl
theorem cellsBy : Tryd.prog.cellsOf 22 = 1 := by kernel_rfl
theorem cellsOpR : Tryd.prog.cellsOf 45 = 3 := by kernel_rfl
theorem onesR : ∀ l : List Int, (l.map fun _ => 1).sum = l.length
  | [] => rfl
  | x :: l => by rw [List.map_cons, List.sum_cons, onesR l, List.length_cons]; omega
set_option maxRecDepth 100000
theorem opnOpR : Opn Tryd.prog 45 opTyR wfOpR bkR := ⟨fun {H enc w base spare held fuel cs x} h => by
  obtain ⟨xs, n, _, rfl, hl, hlen, hf⟩ := DataW.trod_struct Tryd.underlying45 h
  rw [cellsOpR] at hl
  match xs, hlen, cs, hl with
  | [y0, y1, y2], _, [c0, c1, c2], _ =>
    have e0 : DataW.trod enc Tryd.prog w base spare held n 4 [c0] = some y0 := by simpa [cellsBool] using hf 0 _ rfl
    have e1 : DataW.trod enc Tryd.prog w base spare held n 4 [c1] = some y1 := by simpa [cellsBool] using hf 1 _ rfl
    have e2 : DataW.trod enc Tryd.prog w base spare held n 22 [c2] = some y2 := by simpa [cellsBy] using hf 2 _ rfl
    obtain ⟨a0, k0, w0, b0⟩ := (Opn.bool Tryd.underlying4).op e0
    obtain ⟨a1, k1, w1, b1⟩ := (Opn.bool Tryd.underlying4).op e1
    obtain ⟨a2, ⟨B, cp, cl, k3, k4, k5⟩, w3, b3⟩ := (Opn.slice Tryd.underlying22 (by kernel_rfl) (by decide) (Opn.int Tryd.underlying5)).op e2
    obtain ⟨rfl⟩ : c0 = .bool a0 := by simpa [Ty.bool] using k0
    obtain ⟨rfl⟩ : c1 = .bool a1 := by simpa [Ty.bool] using k1
    obtain ⟨rfl⟩ : c2 = .slice B a2.length cp := by simpa using k3
    refine ⟨⟨a0, a1, a2⟩, ⟨B, cp, cl, rfl, k4, k5⟩, fun y hy => wf_u8 (w3.1 y hy), ?_⟩
    rw [onesR] at b3
    simp only [Rows.uptoBulk, List.map_cons, List.map_nil, Rows.uptoBulkAll, bkR]
    omega⟩
theorem zs_of {H : Heap} : ∀ (xs : List OpR) (cl : List (List Value)), cl.length = xs.length → (∀ (i : Nat) x c, xs[i]? = some x → cl[i]? = some c → opTyR.K H x c) → ∃ zs : List (OpR × Option Addr × Nat), zs.map (·.1) = xs ∧ encs opcR zs = cl.flatten ∧ ∀ z ∈ zs, Row H z.2.1 (by8 z.1.b)
  | [], [], _, _ => ⟨[], rfl, rfl, fun z hz => by cases hz⟩
  | [], _ :: _, h, _ => by cases h
  | _ :: _, [], h, _ => by cases h
  | x :: xs, c :: cl, h, he => by
    obtain ⟨zs, h1, h2, h3⟩ := zs_of xs cl (Nat.succ.inj h) fun i y d hy hd => he (i + 1) y d hy hd
    obtain ⟨B, cp, cl', e, hcp, hE⟩ := he 0 x c rfl rfl
    refine ⟨(x, B, cp) :: zs, by rw [List.map_cons, h1], ?_, fun z hz => ?_⟩
    · show opcR (x, B, cp) ++ encs opcR zs = c ++ cl.flatten
      rw [h2, e]
    · rcases List.mem_cons.1 hz with rfl | hz
      · exact hE.ints
      · exact h3 z hz
theorem bkR_sum : ∀ l : List OpR, (l.map bkR).sum = (l.map fun z => z.b.length).sum + 4 * l.length
  | [] => rfl
  | x :: l => by
    have := bkR_sum l
    have e : bkR x = x.b.length + 4 := rfl
    rw [List.map_cons, List.sum_cons, List.map_cons, List.sum_cons, List.length_cons, e]
    omega
theorem inflateReaders_row {H : Heap} (hT : TabO H) (most : Int) (wm : (Lit.int .i64 most).wf = true) (other : Int) (wo : (Lit.int .i64 other).wf = true) (A : Option Addr) (c : Nat) (xs : List OpR) (cl : List (List Value)) (he : Els opTyR H A xs cl) (hc : xs.length ≤ c) (wx : (∀ x ∈ xs, wfOpR x) ∧ xs.length ≤ maxLen) (hb : 1 + (1 + ((xs.map bkR).sum + 1)) ≤ 1048576) :
    ACalls Tryd.prog 7 [Value.int .i64 most, .int .i64 other, .slice A xs.length c].toArray H fun e H' => e = .returned (.bool true) ∧ Keep H H' := by
  obtain ⟨zs, h1, h2, h3⟩ := zs_of xs cl he.len he.each
  have hlen : xs.length = zs.length := by rw [← h1, List.length_map]
  have hsum : (zs.map fun z => z.1.b.length).sum = (xs.map fun z => z.b.length).sum := by rw [← h1, List.map_map]; rfl
  have hbs := bkR_sum xs
  rw [hlen]
  refine inflateReaders_walk hT (by rw [h2]; exact he.row) h3 (fun z hz => wx.1 z.1 (by rw [← h1]; exact List.mem_map.2 ⟨z, hz, rfl⟩)) (by omega) (by omega)
end Go.Proofs.YtphojebganlbnaaDoor.S06
