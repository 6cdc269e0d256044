/-
  BitsWrites: the law's own walk.
-/
import Derived.Test.YtfdcolicpfellaaRefAdd
import Derived.Test.YtfdcolicpfellaaLent
import Derived.Deep.RegionHeld3
import Derived.Deep.QuietTactic
import Derived.BigQuiet
set_option linter.unusedVariables false
set_option linter.unusedSimpArgs false
namespace Go.Proofs.Ytfdcolicpfellaa.Mach
open Go.RowKit Go.Proofs.YtfdcolicpfellaaW.PrintWords Go.Proofs.YtfdcolicpfellaaW.PrintLast Go.Proofs.YtfdcolicpfellaaW.PrintMore Go.Proofs.Ytfdcolicpfellaa.Pack Go.Proofs.Ytfdcolicpfellaa.PBitsWritesPure

/-- an Op -/
structure OpS where
  kind : Int
  n : Int
  v : Int
  b : List Int
def zOp : OpS := ⟨0, 0, 0, []⟩
def kOp : Kd OpS := Kd.iso (Kd.pair (Kd.int .i64) (Kd.pair (Kd.int .i64) (Kd.pair (Kd.int .u32) (Kd.slice 5 (Kd.int .u8))))) (fun x : OpS => (x.kind, x.n, x.v, x.b))
theorem kOp_open {w : World} {x : OpS} {cs : List Value} (h : kOp.K w x cs) : ∃ A c, cs = [.int .i64 x.kind, .int .i64 x.n, .int .u32 x.v, .slice A x.b.length c] ∧ x.b.length ≤ c ∧ Kd.C (Kd.int .u8) w A x.b.length x.b := by
  obtain ⟨_, _, rfl, rfl, _, _, rfl, rfl, _, _, rfl, rfl, A, c, rfl, h1, h2⟩ := h
  exact ⟨A, c, rfl, h1, h2⟩
theorem op_at {w : World} {A : Option Addr} {n : Nat} {xs : List OpS} (h : Kd.C kOp w A n xs) (i : Nat) (hi : i < n) : ∃ ad x B c, A = some ad ∧ xs[i]? = some x ∧ w.cell? (ad.add (i * 4)) = some (.int .i64 x.kind) ∧
    w.cell? ⟨(ad.add (i * 4)).block, (ad.add (i * 4)).off + 1, none⟩ = some (.int .i64 x.n) ∧ w.cell? ⟨(ad.add (i * 4)).block, (ad.add (i * 4)).off + 2, none⟩ = some (.int .u32 x.v) ∧
    w.cell? ⟨(ad.add (i * 4)).block, (ad.add (i * 4)).off + 3, none⟩ = some (.slice B x.b.length c) ∧ x.b.length ≤ c ∧ Kd.C (Kd.int .u8) w B x.b.length x.b := by
  have hl : xs.length = n := h.1
  have hi' : i < xs.length := by omega
  obtain ⟨ad, c, e, _, hK, hc0⟩ := Kd.C_get h zOp (i : Int) (by omega) (by omega)
  rw [Int.toNat_natCast, List.getD_eq_getElem?_getD, List.getElem?_eq_getElem hi'] at hK
  simp only [Option.getD_some] at hK
  have hc : ∀ j u, c[j]? = some u → w.cell? (ad.add (i * 4 + j)) = some u := by
    have := hc0
    rw [Int.toNat_natCast] at this
    exact this
  clear hc0
  obtain ⟨B, cb, rfl, hb1, hb2⟩ := kOp_open hK
  exact ⟨ad, xs[i], B, cb, e, List.getElem?_eq_getElem hi', hc 0 _ rfl, by rw [← add_field _ _ 1 (by omega)]; exact hc 1 _ rfl, by rw [← add_field _ _ 2 (by omega)]; exact hc 2 _ rfl, by rw [← add_field _ _ 3 (by omega)]; exact hc 3 _ rfl, hb1, hb2⟩

theorem IsW.drew {B : Nat} {w : World} {g : Nat} {v : Value} {L : List Bool} (h : IsW B w g v L) : IsW B w.drew g v L := ⟨h.blk, h.ge, Kd.R_drew h.row⟩
theorem IsV.drew {B : Nat} {w : World} {g : Nat} {v : Value} {L : List Bool} (h : IsV B w g v L) : IsV B w.drew g v L := ⟨h.blk, h.ge, Kd.R_drew h.row⟩
/-- two rows apart -/
def Ap (v u : Value) : Prop := ∀ k, v.ownBlock = some k → u.ownBlock ≠ some k
theorem Ap.symm {v u : Value} (h : Ap v u) : Ap u v := fun k hk hv => h k hv hk
/-- a new row is apart from an old one -/
theorem Ap.new {w w' : World} {B : Nat} {P Q : Nat → Prop} {v u : Value} {xs ys : List Int} (hv : Kd.R (Kd.int .u8) 5 w B P v xs) (hu : Kd.R (Kd.int .u8) 5 w' w.heap.size Q u ys) : Ap v u := fun k hk hu' => by
  have h1 := Kd.R_lt hv k hk
  have h2 := Kd.R_base hu k hu'
  omega
/-- a row apart from what a call turned -/
theorem row_turned {w w' : World} {B g : Nat} {v v' u : Value} {xs : List Int} (h : Kd.R (Kd.int .u8) 5 w B (fun _ => True) u xs) (hT : Turned w w' g v v') (hg : some g ≠ u.ownBlock) (hA : Ap v u) : Kd.R (Kd.int .u8) 5 w' B (fun _ => True) u xs :=
  Kd.R_mono (Kd.R_kept (Kd.R_tight rfl h) hT.1 (fun k hk hn => by
    rcases hn with rfl | hn
    · exact hg hk
    · exact hA k hn.symm hk.symm)) (fun _ _ => trivial)
theorem Ap.turned {w w' : World} {B g : Nat} {v v' u : Value} {xs : List Int} (h : Kd.R (Kd.int .u8) 5 w B (fun _ => True) u xs) (hT : Turned w w' g v v') (hA : Ap v u) : Ap v' u := fun k hk hu => by
  rcases hT.2 with e | ⟨b, e, hb⟩
  · exact hA k (e ▸ hk) hu
  · rw [e] at hk
    cases hk
    have := Kd.R_lt h _ hu
    omega
theorem IsV.turned {B : Nat} {w w' : World} {g g2 : Nat} {v v' u : Value} {L : List Bool} {cs : Array Value} (h : IsV B w g2 u L) (hT : Turned w w' g v v') (hb : w.heap[g]? = some (.cells cs 26 (0, 0))) (hv : ∀ k, v.ownBlock = some k → ∃ cells, w.heap[k]? = some (.cells cells 5 (0, 0))) (hA : Ap v u) : IsV B w' g2 u L := by
  refine ⟨(hT.1.2 g2 h.lt (fun hn => ?_)).trans h.blk, h.ge, row_turned h.row hT (Kd.R_ne h.row hb (by decide)) hA⟩
  rcases hn with rfl | hn
  · rw [h.blk] at hb; cases hb
  · obtain ⟨cells, hc⟩ := hv g2 hn.symm
    rw [h.blk] at hc; cases hc
theorem IsW.turned {B : Nat} {w w' : World} {g g2 : Nat} {v v' u : Value} {L : List Bool} {cs : Array Value} (h : IsW B w g2 u L) (hT : Turned w w' g v v') (hb : w.heap[g]? = some (.cells cs 29 (0, 0))) (hv : ∀ k, v.ownBlock = some k → ∃ cells, w.heap[k]? = some (.cells cells 5 (0, 0))) (hA : Ap v u) : IsW B w' g2 u L := by
  refine ⟨(hT.1.2 g2 h.lt (fun hn => ?_)).trans h.blk, h.ge, row_turned h.row hT (Kd.R_ne h.row hb (by decide)) hA⟩
  rcases hn with rfl | hn
  · rw [h.blk] at hb; cases hb
  · obtain ⟨cells, hc⟩ := hv g2 hn.symm
    rw [h.blk] at hc; cases hc

/-- both writers, apart -/
structure Both (B : Nat) (w : World) (g1 g2 : Nat) (v1 v2 : Value) (L : List Bool) : Prop where
  p : IsW B w g1 v1 L
  d : IsV B w g2 v2 L
  ap : Ap v1 v2
theorem Both.below {B : Nat} {w w' : World} {g1 g2 : Nat} {v1 v2 : Value} {L : List Bool} (h : Both B w g1 g2 v1 v2 L) (hb : Below w.heap.size w w') : Both B w' g1 g2 v1 v2 L := ⟨h.p.below hb, h.d.below hb, h.ap⟩
theorem Both.kept {B : Nat} {w w' : World} {g1 g2 : Nat} {v1 v2 u : Value} {L : List Bool} {xs : List Int} {B2 : Nat} {Q : Nat → Prop} (h : Both B w g1 g2 v1 v2 L) (hu : Kd.R (Kd.int .u8) 5 w B2 Q u xs) (hk : Kept w w' (fun k => some k = u.ownBlock)) (h1 : Ap v1 u) (h2 : Ap v2 u) : Both B w' g1 g2 v1 v2 L := by
  have n1 := Kd.R_ne hu h.p.blk (by decide)
  have n2 := Kd.R_ne hu h.d.blk (by decide)
  refine ⟨⟨(hk.2 g1 h.p.lt n1).trans h.p.blk, h.p.ge, Kd.R_mono (Kd.R_kept (Kd.R_tight rfl h.p.row) hk (fun k hk1 hk2 => h1 k hk1.symm hk2.symm)) (fun _ _ => trivial)⟩,
    ⟨(hk.2 g2 h.d.lt n2).trans h.d.blk, h.d.ge, Kd.R_mono (Kd.R_kept (Kd.R_tight rfl h.d.row) hk (fun k hk1 hk2 => h2 k hk1.symm hk2.symm)) (fun _ _ => trivial)⟩, h.ap⟩

/-- both calls of Put, one behind the other, as one fact of each -/
def code (V N : Int) : Int := if 0 ≤ N ∧ N ≤ 32 ∧ V < 2 ^ N.toNat then 0 else 1
def puts (L : List Bool) (V N : Int) : List Bool := if 0 ≤ N ∧ N ≤ 32 ∧ V < 2 ^ N.toNat then L ++ low N.toNat V else L
theorem puts_length (L : List Bool) (V N : Int) : (puts L V N).length ≤ L.length + 32 := by
  unfold puts
  split
  · rw [List.length_append, low_length]; omega
  · omega

theorem put_any (w0 w : World) (g : Nat) (v : Value) (L : List Bool) (V N : Int) (hI : IsW w0.heap.size w g v L) (hB : Below w0.heap.size w0 w) (hV0 : 0 ≤ V) (hV1 : V < 4294967296) (hL : L.length ≤ 1099511627776) :
    Calls Try.prog 10 #[.pointer (some ⟨g, 0, none⟩), .int .u32 V, .int .i64 N] w fun e w' => e = .returned (.int .i64 (code V N)) ∧ ∃ v', IsW w0.heap.size w' g v' (puts L V N) ∧ Below w0.heap.size w0 w' ∧ Turned w w' g v v' := by
  unfold code puts
  by_cases h : 0 ≤ N ∧ N ≤ 32 ∧ V < 2 ^ N.toNat
  · simp only [if_pos h]
    exact put_good w0 w g v L V N hI hB h.1 h.2.1 hV0 h.2.2 hL
  · simp only [if_neg h]
    exact (put_bad w g V N hV0 hV1 h).mono fun e w' ⟨he, hw⟩ => by subst hw; exact ⟨he, v, hI, hB, Turned.refl _ _ _⟩
theorem rput_any (w0 w : World) (g : Nat) (v : Value) (L : List Bool) (V N : Int) (hI : IsV w0.heap.size w g v L) (hB : Below w0.heap.size w0 w) (hV0 : 0 ≤ V) (hV1 : V < 4294967296) (hL : L.length ≤ 1099511627776) :
    Calls Try.prog 11 #[.pointer (some ⟨g, 0, none⟩), .int .u32 V, .int .i64 N] w fun e w' => e = .returned (.int .i64 (code V N)) ∧ ∃ v', IsV w0.heap.size w' g v' (puts L V N) ∧ Below w0.heap.size w0 w' ∧ Turned w w' g v v' := by
  unfold code puts
  by_cases h : 0 ≤ N ∧ N ≤ 32 ∧ V < 2 ^ N.toNat
  · simp only [if_pos h]
    exact rput_good w0 w g v L V N hI hB h.1 h.2.1 hV0 h.2.2 hL
  · simp only [if_neg h]
    exact (rput_bad w g V N hV0 hV1 h).mono fun e w' ⟨he, hw⟩ => by subst hw; exact ⟨he, v, hI, hB, Turned.refl _ _ _⟩

/-- how much the first ops hold -/
def held (l : List OpS) (i : Nat) : Nat := ((l.take i).map fun x => x.b.length + 5).sum
theorem held_succ (l : List OpS) (i : Nat) (x : OpS) (h : l[i]? = some x) : held l (i + 1) = held l i + (x.b.length + 5) := by
  unfold held
  obtain ⟨hi, rfl⟩ := List.getElem?_eq_some_iff.1 h
  rw [List.take_succ_eq_append_getElem hi, List.map_append, List.sum_append]
  simp only [List.map_cons, List.map_nil, List.sum_cons, List.sum_nil]
  omega
theorem held_le (l : List OpS) (i : Nat) : held l i ≤ (l.map fun x => x.b.length + 5).sum := by
  unfold held
  have h : l.map (fun x => x.b.length + 5) = (l.take i).map (fun x => x.b.length + 5) ++ (l.drop i).map (fun x => x.b.length + 5) := by rw [← List.map_append, List.take_append_drop]
  rw [h, List.sum_append]
  omega

set_option maxHeartbeats 8000000 in
set_option maxRecDepth 100000 in
theorem bitsWrites (w : World) (A : Option Addr) (c : Nat) (l : List OpS) (hr : Kd.C kOp w A l.length l) (hc : l.length ≤ c) (hwf : ∀ x ∈ l, (0 ≤ x.v ∧ x.v < 4294967296) ∧ ∀ y ∈ x.b, 0 ≤ y ∧ y < 256)
    (hb : (l.map fun x => x.b.length + 5).sum ≤ 1048576) : Calls Try.prog 3 #[.slice A l.length c] w fun e w' => e = .returned (.bool true) ∧ Below w.heap.size w w' := by
  have hlen : l.length ≤ 1048576 := by
    have : l.length ≤ (l.map fun x => x.b.length + 5).sum := by
      clear hr hc hwf hb
      induction l with
      | nil => simp
      | cons a l ih => simp only [List.length_cons, List.map_cons, List.sum_cons]; omega
    omega
  obtain ⟨n, hn⟩ : ∃ n, n = l.length := ⟨_, rfl⟩
  rw [← hn] at hr hc hlen ⊢
  have HN := Aside0.mk hn
  have HR := Aside0.mk hr
  have HWf := Aside0.mk hwf
  have HBk := Aside0.mk hb
  have HLen := Aside0.mk hlen
  have nb : (n : Int) ≤ 9223372036854775807 := by omega
  clear hn hr hc hwf hb hlen
  go_enter Try.func3, Try.ntmps3
  go_wp2
  go_loopw [5] (fun v5 wr => ∃ (i : Nat) (v1 v2 : Value) (L : List Bool), v5 = .int .i64 i ∧ i ≤ n ∧ Aside0 (Both w.heap.size wr w.heap.size (w.heap.size + 1) v1 v2 L) ∧ Aside0 (L.length ≤ 40 * held l i) ∧ Aside0 (Below w.heap.size w wr)) (fun v5 _ => n - (intOf v5).toNat)
  case atStart =>
    have hp : IsW w.heap.size (w.alloc (.cells #[.slice none 0 0, .int .i64 0] 26)) w.heap.size (.slice none 0 0) [] := ⟨heap_alloc_new _ _, Nat.le_refl _, by rw [pack_nil]; exact Kd.R_nil _ _ _ _ _⟩
    have hd : IsV w.heap.size ((w.alloc (.cells #[.slice none 0 0, .int .i64 0] 26)).alloc (.cells #[.slice none 0 0] 29)) (w.heap.size + 1) (.slice none 0 0) [] := ⟨by have := heap_alloc_new (w.alloc (.cells #[.slice none 0 0, .int .i64 0] 26)) (.cells #[.slice none 0 0] 29); simpa using this, by omega, Kd.R_nil _ _ _ _ _⟩
    exact ⟨0, _, _, [], rfl, Nat.zero_le _, ⟨⟨hp.below (below_alloc (Below.refl _ _) _), hd, fun k hk => by simp [Value.ownBlock] at hk⟩⟩, ⟨Nat.zero_le _⟩, ⟨below_alloc (below_alloc (Below.refl _ _) _) _⟩⟩
  case round =>
    obtain ⟨i, v1, v2, L, rfl, hi, HBo, HL, HB1⟩ := hrel
    by_cases hlt : (i : Int) < (n : Int)
    · obtain ⟨ad, x, Bx, cb, rfl, hx, o0, o1, o2, o3, hxc, hxr⟩ := op_at HR.out i (by omega)
      have hxm : x ∈ l := List.mem_of_getElem? hx
      have hv := HWf.out x hxm
      have r0 := (HB1.out.cell (World.block_lt_of_cell? w _ o0)).trans o0
      have r1 := (HB1.out.cell (World.block_lt_of_cell? w _ o1)).trans o1
      have r2 := (HB1.out.cell (World.block_lt_of_cell? w _ o2)).trans o2
      have r3 := (HB1.out.cell (World.block_lt_of_cell? w _ o3)).trans o3
      have hhs := held_succ l i x hx
      have hhl := held_le l (i + 1)
      have hsz : L.length ≤ 40 * 1048576 ∧ x.b.length ≤ 1048576 := by
        have h1 := HL.out
        have h4 := HBk.out
        omega
      have HSz := Aside0.mk hsz
      have HX := Aside0.mk hx
      have HV := Aside0.mk hv
      have HXR := Aside0.mk hxr
      have HXC := Aside0.mk hxc
      have HHS := Aside0.mk hhs
      have HHL := Aside0.mk hhl
      have O0 := Aside0.mk o0
      have O1 := Aside0.mk o1
      have O2 := Aside0.mk o2
      have O3 := Aside0.mk o3
      have hi1 : (0 : Int) ≤ (i : Int) := by omega
      clear hsz hx hxm hv hxr hxc hhs hhl o0 o1 o2 o3
      go_upto_block 2 with (fail)
      go_cut [] (fun wc => ∃ (v1 v2 : Value) (L : List Bool), Aside0 (Both w.heap.size wc w.heap.size (w.heap.size + 1) v1 v2 L) ∧ Aside0 (L.length ≤ 40 * held l (i + 1)) ∧ Aside0 (Below w.heap.size w wc))
      case first =>
        by_cases k0 : x.kind = 0
        · have e0 : (x.kind == 0) = true := beq_iff_eq.2 k0
          clear k0
          go_wp2
          go_region_held3 (fun w' => w'.cell? ⟨(ad.add (i * 4)).block, (ad.add (i * 4)).off + 1, none⟩ = some (.int .i64 x.n) ∧ w'.cell? ⟨(ad.add (i * 4)).block, (ad.add (i * 4)).off + 2, none⟩ = some (.int .u32 x.v)) (first | go_keep | exact ⟨(HB4.out.cell (World.block_lt_of_cell? w _ O1.out)).trans O1.out, (HB4.out.cell (World.block_lt_of_cell? w _ O2.out)).trans O2.out⟩ | exact ⟨(HB3.out.cell (World.block_lt_of_cell? w _ O1.out)).trans O1.out, (HB3.out.cell (World.block_lt_of_cell? w _ O2.out)).trans O2.out⟩)
            (first | (go_at_call 10; refine (put_any w wr.drew w.heap.size v1 L x.v x.n HBo.out.p.drew (below_drew HB1.out) HV.out.1.1 HV.out.1.2 (by have h1 := HL.out; have h2 := HHS.out; have h3 := HHL.out; have h4 := HBk.out; omega)).mono ?_; rintro e w3 ⟨rfl, v3, hI3, hb3, ht3⟩; have hd3 := HBo.out.d.drew.turned ht3 HBo.out.p.blk (Kd.R_typed HBo.out.p.row) HBo.out.ap; have hap3 := Ap.turned HBo.out.d.drew.row ht3 HBo.out.ap; have HI3 := Aside0.mk hI3; have HB3 := Aside0.mk hb3; have HD3 := Aside0.mk hd3; have HAp3 := Aside0.mk hap3; clear hI3 hb3 ht3 hd3 hap3) | (go_at_call 11; refine (rput_any w w3 (w.heap.size + 1) v2 L x.v x.n HD3.out HB3.out HV.out.1.1 HV.out.1.2 (by have h1 := HL.out; have h2 := HHS.out; have h3 := HHL.out; have h4 := HBk.out; omega)).mono ?_; rintro e w4 ⟨rfl, v4, hI4, hb4, ht4⟩; have hp4 := HI3.out.turned ht4 HD3.out.blk (Kd.R_typed HD3.out.row) HAp3.out.symm; have hap4 := (Ap.turned HI3.out.row ht4 HAp3.out.symm).symm; have HI4 := Aside0.mk hI4; have HB4 := Aside0.mk hb4; have HP4 := Aside0.mk hp4; have HAp4 := Aside0.mk hap4; clear hI4 hb4 ht4 hp4 hap4))
          go_wp2
          go_meet
          case rel =>
            refine ⟨v3, v4, _, ⟨⟨HP4.out, HI4.out, HAp4.out⟩⟩, ⟨?_⟩, HB4⟩
            have h1 := puts_length L x.v x.n
            have h2 := HL.out
            have h3 := HHS.out
            omega
        · have e0 : (x.kind == 0) = false := beq_eq_false_iff_ne.2 k0
          by_cases k1 : x.kind = 1
          · have e1 : (x.kind == 1) = true := beq_iff_eq.2 k1
            clear k0 k1
            go_wp2_with (first | (go_at_call 12; refine (align w wr w.heap.size v1 L HBo.out.p HB1.out (by have h1 := HSz.out; omega)).mono ?_; rintro e w3 ⟨rfl, hI3, hb3, ht3⟩; have hd3 := HBo.out.d.turned ht3 HBo.out.p.blk (Kd.R_typed HBo.out.p.row) HBo.out.ap; have HI3 := Aside0.mk hI3; have HB3 := Aside0.mk hb3; have HD3 := Aside0.mk hd3; clear hI3 hb3 ht3 hd3) | (go_at_call 13; refine (ralign w w3 (w.heap.size + 1) v2 L HD3.out HB3.out (by have h1 := HSz.out; omega)).mono ?_; rintro e w4 ⟨rfl, v4, hI4, hb4, ht4⟩; have hp4 := HI3.out.turned ht4 HD3.out.blk (Kd.R_typed HD3.out.row) HBo.out.ap.symm; have hap4 := (Ap.turned HI3.out.row ht4 HBo.out.ap.symm).symm; have HI4 := Aside0.mk hI4; have HB4 := Aside0.mk hb4; have HP4 := Aside0.mk hp4; have HAp4 := Aside0.mk hap4; clear hI4 hb4 ht4 hp4 hap4))
            go_meet
            case rel =>
              refine ⟨v1, v4, _, ⟨⟨HP4.out, HI4.out, HAp4.out⟩⟩, ⟨?_⟩, HB4⟩
              have h1 := fill_length L
              have h2 := HL.out
              have h3 := HHS.out
              omega
          · have e1 : (x.kind == 1) = false := beq_eq_false_iff_ne.2 k1
            by_cases k2 : x.kind = 2
            · have e2 : (x.kind == 2) = true := beq_iff_eq.2 k2
              clear k0 k1 k2
              obtain ⟨xl, hxl⟩ : ∃ xl, xl = x.b.length := ⟨_, rfl⟩
              rw [← hxl] at r3
              have o3x := O3.out
              rw [← hxl] at o3x
              have O3x := Aside0.mk o3x
              have HXl := Aside0.mk hxl
              clear hxl o3x
              obtain ⟨kk, hkk⟩ := (kept_f x.b (by have := HSz.out; omega)).rounds
              obtain ⟨kf, hkf⟩ := (full_f x.b 4 (by have := HSz.out; omega)).rounds
              have HKk := Aside0.mk hkk
              have HKf := Aside0.mk hkf
              clear hkk hkf
              have hcl := lent wr Bx cb x.b (Kd.C_below HXR.out HB1.out) HXC.out (by have := HSz.out; omega)
              rw [← HXl.out] at hcl
              have HCl := Aside0.mk hcl
              clear hcl
              go_wp2_with (first | (go_at_call 14; refine HCl.out.mono ?_; rintro e w3 ⟨gl, cpl, rfl, ho3, hb3⟩; have hbo3 := HBo.out.below hb3; have hB3 := below_then HB1.out (below_size HB1.out) hb3; have hc3 := Kd.R_take (m := xl) ho3 (by rw [List.length_append, ← HXl.out]; omega); rw [HXl.out, List.take_left' rfl, ← HXl.out] at hc3; have hrd3 := Kd.R_reads' hc3; have hadd := add w w3 w.heap.size v1 L (some ⟨gl, 0, none⟩) cpl x.b hbo3.p hB3 hrd3.2.2 HV.out.2 (by have := HSz.out; omega); rw [← HXl.out] at hadd; have HAdd := Aside0.mk hadd; have HAl3 := Aside0.mk (Ap.new HBo.out.p.row ho3); have HAr3 := Aside0.mk (Ap.new HBo.out.d.row ho3); have HO3 := Aside0.mk ho3; have HBo3 := Aside0.mk hbo3; have HB3 := Aside0.mk hB3; have HCap := Aside0.mk hrd3.2.1; clear ho3 hb3 hbo3 hB3 hc3 hrd3 hadd) | (go_at_call 15; refine HAdd.out.mono ?_; rintro e w4 ⟨rfl, v5, hI4, hb4, ht4⟩; have q4 := (hb4.cell (World.block_lt_of_cell? w _ O3x.out)).trans O3x.out; have hd4 := HBo3.out.d.turned ht4 HBo3.out.p.blk (Kd.R_typed HBo3.out.p.row) HBo3.out.ap; have ho4 := row_turned HO3.out ht4 (Kd.R_ne HO3.out HBo3.out.p.blk (by decide)) HAl3.out; have hal4 := Ap.turned HO3.out ht4 HAl3.out; have hap4 := Ap.turned HBo3.out.d.row ht4 HBo3.out.ap; have hrb := radd w w4 (w.heap.size + 1) v2 L Bx cb x.b hd4 hb4 HXR.out HXC.out HV.out.2 (by have := HSz.out; omega); rw [← HXl.out] at hrb; have HRb := Aside0.mk hrb; have HI4 := Aside0.mk hI4; have HB4 := Aside0.mk hb4; have HD4 := Aside0.mk hd4; have HO4 := Aside0.mk ho4; have HAl4 := Aside0.mk hal4; have HAp4 := Aside0.mk hap4; clear hI4 hb4 ht4 hd4 ho4 hal4 hap4 hrb) | (go_at_call 16; refine HRb.out.mono ?_; rintro e w5 ⟨rfl, v6, hI5, hb5, ht5⟩; have q5 := (hb5.cell (World.block_lt_of_cell? w _ O3x.out)).trans O3x.out; have hp5 := HI4.out.turned ht5 HD4.out.blk (Kd.R_typed HD4.out.row) HAp4.out.symm; have ho5 := row_turned HO4.out ht5 (Kd.R_ne HO4.out HD4.out.blk (by decide)) HAr3.out; have har5 := Ap.turned HO4.out ht5 HAr3.out; have hap5 := (Ap.turned HI4.out.row ht5 HAp4.out.symm).symm; have hrd5 := Kd.R_reads' ho5; have hkp := PBitsWrites.satchellaw05_kept.calls kk (some ⟨gl, 0, none⟩) cpl (x.b ++ marks) Bx cb x.b true w5 hrd5.2.2 (by rw [← hrd5.1]; exact hrd5.2.1) (Kd.C_below HXR.out hb5) HXC.out HKk.out; rw [← hrd5.1, ← HXl.out] at hkp; have HKp := Aside0.mk hkp; have HBo5 := Aside0.mk (Both.mk hp5 hI5 hap5); have HB5 := Aside0.mk hb5; have HO5 := Aside0.mk ho5; have HAr5 := Aside0.mk har5; clear hI5 hb5 ht5 hp5 ho5 har5 hap5 hrd5 hkp) | (go_at_call 17; refine HKp.out.mono ?_; rintro e w6 ⟨rfl, ⟨nd, rfl⟩⟩) | (go_at_call 18; refine (PBitsWrites.satchellaw05_full.calls kf (fun k => some k = (Value.slice (some ⟨gl, 0, none⟩) xl cpl).ownBlock) _ x.b 4 w _ (pw_below_drewN HB5.out nd) ?s1 HKf.out).mono ?_; (case s1 => (have h1 := Kd.R_take (m := xl) HO5.out (by rw [List.length_append, ← HXl.out]; omega)); rw [HXl.out, List.take_left' rfl, ← HXl.out] at h1; exact Kd.R_tight rfl (Kd.R_drewN (Kd.R_lower h1 (below_size HB1.out)) nd)); rintro e w7 ⟨rfl, hb7, hk7⟩; have HB7 := Aside0.mk hb7; have HK7 := Aside0.mk hk7; clear hb7 hk7))
              go_meet
              case rel =>
                refine ⟨v5, v6, fill L ++ unpack x.b, ⟨?_⟩, ⟨?_⟩, HB7⟩
                · have h1 := Kd.R_take (m := xl) HO5.out (by rw [List.length_append, ← HXl.out]; omega)
                  exact (Both.mk ⟨HBo5.out.p.blk, HBo5.out.p.ge, Kd.R_drewN HBo5.out.p.row nd⟩ ⟨HBo5.out.d.blk, HBo5.out.d.ge, Kd.R_drewN HBo5.out.d.row nd⟩ HBo5.out.ap : Both _ (w5.drewN nd) _ _ _ _ _).kept (Kd.R_drewN h1 nd) HK7.out (fun k h2 h3 => HAl4.out k h2 h3) (fun k h2 h3 => HAr5.out k h2 h3)
                · have h1 := fill_length L
                  have h2 := HL.out
                  have h3 := HHS.out
                  rw [List.length_append, unpack_length, h1]
                  omega
            · have e2 : (x.kind == 2) = false := beq_eq_false_iff_ne.2 k2
              clear k0 k1 k2
              go_wp2
              go_meet
              case rel =>
                refine ⟨v1, v2, L, HBo, ⟨?_⟩, HB1⟩
                have h2 := HL.out
                have h3 := HHS.out
                omega
      case rest =>
        clear HBo HL HB1 HSz r0 r1 r2 r3
        obtain ⟨v1, v2, L, HBo, HL, HB1⟩ := hcut
        have hsz : L.length ≤ 40 * 1048576 := by
          have h1 := HL.out
          have h3 := HHL.out
          have h4 := HBk.out
          omega
        have HSz := Aside0.mk hsz
        have hpl := pack_len L
        obtain ⟨mm, hmm⟩ : ∃ mm, mm = (pack L).length := ⟨_, rfl⟩
        have HMm := Aside0.mk hmm
        obtain ⟨A2, cp2, rfl⟩ := Kd.R_slice HBo.out.d.row
        obtain ⟨m, hm⟩ : ∃ m, m = (L.map b2i).length := ⟨_, rfl⟩
        have hml : m = L.length := by rw [hm, List.length_map]
        have HM := Aside0.mk hm
        have hneq : ((L.length : Int) != (m : Int)) = false := by rw [hml]; simp
        obtain ⟨kb, hkb⟩ := (bytes_f L (by omega)).rounds
        obtain ⟨ks, hks⟩ := (same_f (pack L) (pack L) (by omega)).rounds
        rw [decide_eq_true rfl] at hks
        obtain ⟨kf, hkf⟩ := (full_f (pack L) 5 (by omega)).rounds
        have HKb := Aside0.mk hkb
        have HKs := Aside0.mk hks
        have HKf := Aside0.mk hkf
        have hrow2 := HBo.out.d.row
        rw [← hm] at hrow2
        have HRow2 := Aside0.mk hrow2
        clear hsz hpl hmm hm hml hkb hks hkf hrow2
        go_wp2_with fail
        refine (done w.heap.size wc w.heap.size v1 L HBo.out.p (by have := HSz.out; omega)).mono ?_
        rintro e w1 ⟨x1, rfl, hx1, hb1⟩
        obtain ⟨Ax, cx, rfl⟩ := Kd.R_slice hx1
        rw [← HMm.out] at hx1 ⊢
        have HBo1 := Aside0.mk (HBo.out.below hb1)
        have HB2 := Aside0.mk (below_then HB1.out (below_size HB1.out) hb1)
        have HX1 := Aside0.mk hx1
        have HAx1 := Aside0.mk (Ap.new HBo.out.p.row hx1)
        have HAx2 := Aside0.mk (Ap.new HBo.out.d.row hx1)
        have HS1 := Aside0.mk hb1.size
        clear hx1 hb1
        go_wp2_with fail
        refine (done w.heap.size w1 w.heap.size v1 L HBo1.out.p (by have := HSz.out; omega)).mono ?_
        rintro e w2 ⟨y1, rfl, hy1, hb2⟩
        obtain ⟨Ay, cy, rfl⟩ := Kd.R_slice hy1
        rw [← HMm.out] at hy1 ⊢
        have hbo2 := HBo1.out.below hb2
        have hx2 := Kd.R_below HX1.out hb2
        have HAxy := Aside0.mk (Ap.new HX1.out hy1)
        have c2 : w2.cell? ⟨w.heap.size + 1, 0, none⟩ = some (.slice A2 m cp2) := by rw [HM.out]; exact (blk_cell hbo2.d.blk 0).trans rfl
        have HBo2 := Aside0.mk hbo2
        have HB3 := Aside0.mk (below_then HB2.out (below_size HB2.out) hb2)
        have HX2 := Aside0.mk hx2
        have HY2 := Aside0.mk hy1
        have HS2 := Aside0.mk hb2.size
        clear hy1 hb2 hbo2 hx2
        have hbc := Kd.R_reads' HBo2.out.d.row
        have hbys := PBitsWrites.satchelref05_Bytes.calls kb A2 cp2 (L.map b2i) (pack L) w2 hbc.2.2 hbc.2.1 HKb.out
        rw [← HM.out] at hbys
        have HBys := Aside0.mk hbys
        clear hbc hbys
        go_wp2_with (go_at_call 20; refine HBys.out.mono ?_; rintro e w3 ⟨want, rfl, hw3, hb3⟩; obtain ⟨Aw, cw, rfl⟩ := Kd.R_slice hw3; rw [← HMm.out] at hw3 ⊢; have HBo3 := Aside0.mk (HBo2.out.below hb3); have HX3 := Aside0.mk (Kd.R_below HX2.out hb3); have HY3 := Aside0.mk (Kd.R_below HY2.out hb3); have HAxw := Aside0.mk (Ap.new HX2.out hw3); have HAyw := Aside0.mk (Ap.new HY2.out hw3); have HB4 := Aside0.mk (below_then HB3.out (below_size HB3.out) hb3); have HW3 := Aside0.mk hw3; have HS3 := Aside0.mk hb3.size; have c3 := (hb3.cell (World.block_lt_of_cell? w2 _ c2)).trans c2; clear hw3 hb3 c2)
        have hsame : ∀ (W : World) (A1 A2 : Option Addr) (c1 c2 : Nat), Kd.R (Kd.int .u8) 5 W 0 (fun _ => True) (.slice A1 mm c1) (pack L) → Kd.R (Kd.int .u8) 5 W 0 (fun _ => True) (.slice A2 mm c2) (pack L) →
            Calls Try.prog 22 #[.slice A1 mm c1, .slice A2 mm c2] W fun e w' => e = .returned (.bool true) ∧ ∃ m, w' = W.drewN m := fun W A1 A2 c1 c2 h1 h2 => by
          have r1 := Kd.R_reads' h1
          have r2 := Kd.R_reads' h2
          have h := PBitsWrites.satchellaw05_same.calls ks A1 c1 (pack L) A2 c2 (pack L) true W r1.2.2 (by omega) r2.2.2 (by omega) HKs.out
          rw [← HMm.out] at h
          exact h.mono fun _ _ ⟨he, ⟨⟨m, hm⟩⟩⟩ => ⟨he, m, hm⟩
        have HSame := Aside0.mk hsame
        have hqx : ∀ nq, Calls Try.prog 22 #[.slice Ax mm cx, .slice Aw mm cw] (w3.drewN nq) fun e w' => e = .returned (.bool true) ∧ ∃ m, w' = (w3.drewN nq).drewN m := fun nq => hsame _ _ _ _ _ (Kd.R_lower (Kd.R_drewN HX3.out nq) (Nat.zero_le _)) (Kd.R_lower (Kd.R_drewN HW3.out nq) (Nat.zero_le _))
        have hqy : ∀ nq, Calls Try.prog 22 #[.slice Ay mm cy, .slice Aw mm cw] (w3.drewN nq) fun e w' => e = .returned (.bool true) ∧ ∃ m, w' = (w3.drewN nq).drewN m := fun nq => hsame _ _ _ _ _ (Kd.R_lower (Kd.R_drewN HY3.out nq) (Nat.zero_le _)) (Kd.R_lower (Kd.R_drewN HW3.out nq) (Nat.zero_le _))
        have hql : ∀ nq, Calls Try.prog 21 #[.pointer (some ⟨w.heap.size, 0, none⟩)] (w3.drewN nq) fun e w' => e = .returned (.int .i64 (L.length : Int)) ∧ w' = w3.drewN nq := fun nq => (len_ w.heap.size (w3.drewN nq) w.heap.size v1 L (HBo3.out.p.drewN nq)).mono fun _ _ ⟨he, hw⟩ => ⟨he, hw.symm⟩
        have HQx := Aside0.mk hqx
        have HQy := Aside0.mk hqy
        have HQl := Aside0.mk hql
        clear hsame hqx hqy hql
        go_quiet (first | (go_at_call 21; exact Calls.quiet_of_same (HQl.out _)) | (go_at_call_of 22 (Value.slice Ax mm cx); exact Calls.quiet_of (HQx.out _)) | (go_at_call_of 22 (Value.slice Ay mm cy); exact Calls.quiet_of (HQy.out _)))
        go_wp2_with fail
        refine (PBitsWrites.satchellaw05_full.calls kf (fun k => some k = (Value.slice Ax mm cx).ownBlock) _ (pack L) 5 w _ (pw_below_drewN HB4.out _) (Kd.R_tight rfl (Kd.R_drewN (Kd.R_lower HX3.out (below_size HB1.out)) _)) HKf.out).mono ?_
        rintro e w4 ⟨rfl, hb4, hk4⟩
        have hbo4 := (Both.mk ⟨HBo3.out.p.blk, HBo3.out.p.ge, Kd.R_drewN HBo3.out.p.row nq⟩ ⟨HBo3.out.d.blk, HBo3.out.d.ge, Kd.R_drewN HBo3.out.d.row nq⟩ HBo3.out.ap : Both _ (w3.drewN nq) _ _ _ _ _).kept (Kd.R_drewN HX3.out nq) hk4 HAx1.out HAx2.out
        have hy4 := Kd.R_mono (Kd.R_kept (Kd.R_tight rfl (Kd.R_drewN HY3.out nq)) hk4 (fun k h1 h2 => HAxy.out k h2.symm h1.symm)) (fun _ _ => (trivial : (fun _ : Nat => True) _))
        have hw4 := Kd.R_mono (Kd.R_kept (Kd.R_tight rfl (Kd.R_drewN HW3.out nq)) hk4 (fun k h1 h2 => HAxw.out k h2.symm h1.symm)) (fun _ _ => (trivial : (fun _ : Nat => True) _))
        have HBo4 := Aside0.mk hbo4
        have HY4 := Aside0.mk hy4
        have HW4 := Aside0.mk hw4
        have HB5 := Aside0.mk hb4
        clear hbo4 hy4 hw4 hb4 hk4
        go_wp2_with fail
        refine (HSame.out w4 Ay Aw cy cw (Kd.R_lower HY4.out (Nat.zero_le _)) (Kd.R_lower HW4.out (Nat.zero_le _))).mono ?_
        rintro e w5 ⟨rfl, nd, rfl⟩
        go_wp2_with fail
        refine (done w.heap.size _ w.heap.size v1 L (HBo4.out.p.drewN nd) (by have := HSz.out; omega)).mono ?_
        rintro e w6 ⟨u, rfl, hu, hb6⟩
        obtain ⟨Au, cu, rfl⟩ := Kd.R_slice hu
        rw [← HMm.out] at hu ⊢
        have hbo6 := (Both.mk (HBo4.out.p.drewN nd) ⟨HBo4.out.d.blk, HBo4.out.d.ge, Kd.R_drewN HBo4.out.d.row nd⟩ HBo4.out.ap : Both _ (w4.drewN nd) _ _ _ _ _).below hb6
        have HBo6 := Aside0.mk hbo6
        have HW6 := Aside0.mk (Kd.R_below (Kd.R_drewN HW4.out nd) hb6)
        have HB6 := Aside0.mk (below_then (pw_below_drewN HB5.out nd) (below_size (pw_below_drewN HB5.out nd)) hb6)
        have HU6 := Aside0.mk hu
        clear hu hb6 hbo6
        go_wp2_with fail
        refine (HSame.out w6 Au Aw cu cw (Kd.R_lower HU6.out (Nat.zero_le _)) (Kd.R_lower HW6.out (Nat.zero_le _))).mono ?_
        rintro e w7 ⟨rfl, nd2, rfl⟩
        go_wp2
        go_roundw
        case measure => simp [intOf]; omega
        case rel =>
          have h2 := HBo6.out.d.row
          refine ⟨i + 1, v1, _, L, rfl, by omega, ⟨⟨HBo6.out.p.drewN nd2, ⟨HBo6.out.d.blk, HBo6.out.d.ge, Kd.R_drewN HBo6.out.d.row nd2⟩, HBo6.out.ap⟩⟩, HL, ⟨pw_below_drewN HB6.out nd2⟩⟩
    · go_wp2
      go_ret
      exact ⟨rfl, HB1.out⟩
end Go.Proofs.Ytfdcolicpfellaa.Mach
