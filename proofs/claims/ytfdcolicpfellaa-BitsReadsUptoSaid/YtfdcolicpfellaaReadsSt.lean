/-
  The two readers of BitsReads together: what a call of each leaves.
-/
import Derived.Test.YtfdcolicpfellaaReadersRef
set_option linter.unusedVariables false
set_option linter.unusedSimpArgs false
namespace Go.Proofs.Ytfdcolicpfellaa.Mach
open Go.RowKit Go.Proofs.YtfdcolicpfellaaW.PrintWords Go.Proofs.YtfdcolicpfellaaW.PrintLast Go.Proofs.YtfdcolicpfellaaW.PrintMore Go.Proofs.Ytfdcolicpfellaa.Pack Go.Proofs.Ytfdcolicpfellaa.PBitsReads Go.Proofs.Ytfdcolicpfellaa.ReadPure Go.Proofs.Ytfdcolicpfellaa.PBitsWritesPure

/-! ### answers -/
theorem takeV_at (L : List Bool) (at_ : Nat) (n : Int) (h : at_ ≤ L.length) : ∃ q : Nat, (takeV L at_ n).2.2 = (q : Int) ∧ q ≤ L.length := by
  unfold takeV
  split
  · exact ⟨at_, rfl, h⟩
  · split
    · exact ⟨at_, rfl, h⟩
    · exact ⟨at_ + n.toNat, by simp only []; omega, by omega⟩
def bytesV (bs : List Int) (at_ : Nat) (n : Int) : List Int × Int × Nat :=
  if n < 0 then ([], 1, (at_ + 7) / 8 * 8) else if (bs.length : Int) - ((at_ + 7) / 8 : Nat) < n then ([], 50, (at_ + 7) / 8 * 8) else ((bs.drop ((at_ + 7) / 8)).take n.toNat, 0, (at_ + 7) / 8 * 8 + 8 * n.toNat)
theorem bytesV_at (bs : List Int) (at_ : Nat) (n : Int) (h : at_ ≤ 8 * bs.length) : (bytesV bs at_ n).2.2 ≤ 8 * bs.length ∧ (bytesV bs at_ n).1.length ≤ bs.length := by
  unfold bytesV
  split
  · exact ⟨by simp only []; omega, by simp⟩
  · split
    · exact ⟨by simp only []; omega, by simp⟩
    · exact ⟨by simp only []; omega, by simp; omega⟩
theorem unpack_drop : ∀ (p : Nat) (bs : List Int), (unpack bs).drop (p * 8) = unpack (bs.drop p)
  | 0, bs => by simp
  | p + 1, [] => by simp [unpack]
  | p + 1, x :: bs => by
    rw [show unpack (x :: bs) = low 8 x ++ unpack bs from rfl, List.drop_succ_cons, ← unpack_drop p bs, show (p + 1) * 8 = (low 8 x).length + p * 8 by rw [low_length]; omega, List.drop_append]
    simp
theorem unpack_take : ∀ (n : Nat) (bs : List Int), (unpack bs).take (8 * n) = unpack (bs.take n)
  | 0, bs => by simp [unpack]
  | n + 1, [] => by simp [unpack]
  | n + 1, x :: bs => by
    rw [show unpack (x :: bs) = low 8 x ++ unpack bs from rfl, List.take_succ_cons, show unpack (x :: bs.take n) = low 8 x ++ unpack (bs.take n) from rfl, ← unpack_take n bs, show 8 * (n + 1) = (low 8 x).length + 8 * n by rw [low_length]; omega, List.take_append, List.take_of_length_le (by omega)]
    simp
theorem pack_cut (bs : List Int) (hbs : ∀ x ∈ bs, 0 ≤ x ∧ x < 256) (p n : Nat) : pack (((unpack bs).drop (p * 8)).take (8 * n)) = (bs.drop p).take n := by
  rw [unpack_drop, unpack_take, pack_unpack _ (fun x hx => hbs x (List.mem_of_mem_drop (List.mem_of_mem_take hx)))]

/-! ### one call of the code's reader -/
theorem take_any (w0 w : World) (g : Nat) (bs : List Int) (hbs : ∀ x ∈ bs, 0 ≤ x ∧ x < 256) (hl : bs.length ≤ 17592186044) (at_ : Nat) (h : at_ ≤ 8 * bs.length) (n : Int) (hn : -9223372036854775808 ≤ n ∧ n ≤ 9223372036854775807) (hI : IsS85 w0 w g bs at_) (hB : Below w0.heap.size w0 w) :
    Calls Try.prog 25 #[.pointer (some ⟨g, 0, none⟩), .int .i64 n] w fun e w' => e = .returned (.tuple #[.int .u32 (takeV (unpack bs) at_ n).1, .int .i64 (takeV (unpack bs) at_ n).2.1]) ∧ IsS85 w0 w' g bs (takeV (unpack bs) at_ n).2.2 ∧ Below w0.heap.size w0 w' ∧ KeepBut w w' g none := by
  obtain ⟨k, hk⟩ := (take_f bs hbs (by omega) at_ h n hn.1 hn.2).rounds
  exact bits_Reader_Take.calls k g bs at_ n _ _ _ w0 w hI hB hk
theorem align_any (w0 w : World) (g : Nat) (bs : List Int) (hl : bs.length ≤ 17592186044) (at_ : Nat) (h : at_ ≤ 8 * bs.length) (hI : IsS85 w0 w g bs at_) (hB : Below w0.heap.size w0 w) :
    Calls Try.prog 27 #[.pointer (some ⟨g, 0, none⟩)] w fun e w' => e = .returned (.tuple #[]) ∧ IsS85 w0 w' g bs (((at_ + 7) / 8 * 8 : Nat) : Int) ∧ Below w0.heap.size w0 w' ∧ KeepBut w w' g none :=
  bits_Reader_Align.calls g bs at_ _ w0 w hI hB (align_f bs at_ (by omega))
theorem bytes_any (w0 w : World) (g : Nat) (bs : List Int) (hl : bs.length ≤ 17592186044) (at_ : Nat) (h : at_ ≤ 8 * bs.length) (n : Int) (hI : IsS85 w0 w g bs at_) (hB : Below w0.heap.size w0 w) :
    Calls Try.prog 29 #[.pointer (some ⟨g, 0, none⟩), .int .i64 n] w fun e w' => ∃ v, e = .returned (.tuple #[v, .int .i64 (bytesV bs at_ n).2.1]) ∧ Kd.R (Kd.int .u8) 5 w' w.heap.size (fun _ => True) v (bytesV bs at_ n).1 ∧ IsS85 w0 w' g bs ((bytesV bs at_ n).2.2 : Int) ∧ Below w0.heap.size w0 w' ∧ KeepBut w w' g none := by
  unfold bytesV
  split
  · rename_i h1
    exact (bytes_neg w0 w g bs at_ n hI hB h (by omega) h1).mono fun e w' ⟨he, hi, hb, hk⟩ => ⟨_, he, Kd.R_nil _ _ _ _ _, by simpa using hi, hb, hk⟩
  · split
    · rename_i h1 h2
      exact (bytes_short w0 w g bs at_ n hI hB h (by omega) (by omega) h2).mono fun e w' ⟨he, hi, hb, hk⟩ => ⟨_, he, Kd.R_nil _ _ _ _ _, by simpa using hi, hb, hk⟩
    · rename_i h1 h2
      obtain ⟨m, rfl⟩ := Int.eq_ofNat_of_zero_le (show 0 ≤ n by omega)
      exact (bytes_good w0 w g bs at_ m hI hB h (by omega) (by omega)).mono fun e w' ⟨v, he, hr, hi, hb, hk⟩ => ⟨v, he, hr, by simpa using hi, hb, hk⟩

/-! ### one call of the document's -/
section
variable [Fix]
theorem rtake_any (w0 w : World) (g : Nat) (bs : List Int) (hl : bs.length ≤ 17592186044) (at_ : Nat) (h : at_ ≤ 8 * bs.length) (n : Int) (hn : -9223372036854775808 ≤ n ∧ n ≤ 9223372036854775807) (hI : IsS48 w0 w g ((unpack bs).map b2i) at_) (hB : Below w0.heap.size w0 w) :
    Calls Try.prog 26 #[.pointer (some ⟨g, 0, none⟩), .int .i64 n] w fun e w' => e = .returned (.tuple #[.int .u32 (takeV (unpack bs) at_ n).1, .int .i64 (takeV (unpack bs) at_ n).2.1]) ∧ IsS48 w0 w' g ((unpack bs).map b2i) (takeV (unpack bs) at_ n).2.2 ∧ Below w0.heap.size w0 w' ∧ KeepBut w w' g none := by
  obtain ⟨k, hk⟩ := (rtake_f (unpack bs) (by rw [unpack_length]; omega) at_ (by rw [unpack_length]; omega) n hn.1 hn.2).rounds
  exact satchelref05_Reader_Take.calls k g _ at_ n _ _ _ w0 w hI hB hk
theorem ralign_any (w0 w : World) (g : Nat) (bs : List Int) (hl : bs.length ≤ 17592186044) (at_ : Nat) (h : at_ ≤ 8 * bs.length) (hI : IsS48 w0 w g ((unpack bs).map b2i) at_) (hB : Below w0.heap.size w0 w) :
    Calls Try.prog 28 #[.pointer (some ⟨g, 0, none⟩)] w fun e w' => e = .returned (.tuple #[]) ∧ IsS48 w0 w' g ((unpack bs).map b2i) (((at_ + 7) / 8 * 8 : Nat) : Int) ∧ Below w0.heap.size w0 w' ∧ KeepBut w w' g none := by
  obtain ⟨k, hk⟩ := (ralign_f ((unpack bs).map b2i) at_ (by omega)).rounds
  exact satchelref05_Reader_Align.calls k g _ at_ _ w0 w hI hB hk
theorem rbytes_any (w0 w : World) (g : Nat) (bs : List Int) (hbs : ∀ x ∈ bs, 0 ≤ x ∧ x < 256) (hl : bs.length ≤ 17592186044) (at_ : Nat) (h : at_ ≤ 8 * bs.length) (n : Int) (hI : IsS48 w0 w g ((unpack bs).map b2i) at_) (hB : Below w0.heap.size w0 w) :
    Calls Try.prog 30 #[.pointer (some ⟨g, 0, none⟩), .int .i64 n] w fun e w' => ∃ v, e = .returned (.tuple #[v, .int .i64 (bytesV bs at_ n).2.1]) ∧ Kd.R (Kd.int .u8) 5 w' w.heap.size (fun _ => True) v (bytesV bs at_ n).1 ∧ IsS48 w0 w' g ((unpack bs).map b2i) ((bytesV bs at_ n).2.2 : Int) ∧ Below w0.heap.size w0 w' ∧ KeepBut w w' g none := by
  have hu : ((unpack bs).map b2i).length = 8 * bs.length := by rw [List.length_map, unpack_length]
  unfold bytesV
  split
  · rename_i h1
    exact (rbytes_neg w0 w g _ at_ n hI hB (by omega) h1).mono fun e w' ⟨he, hi, hb, hk⟩ => ⟨_, he, Kd.R_nil _ _ _ _ _, by simpa using hi, hb, hk⟩
  · split
    · rename_i h1 h2
      exact (rbytes_short w0 w g _ at_ _ n hI hB rfl (by omega) (by omega) (by omega) (by omega)).mono fun e w' ⟨he, hi, hb, hk⟩ => ⟨_, he, Kd.R_nil _ _ _ _ _, by simpa using hi, hb, hk⟩
    · rename_i h1 h2
      obtain ⟨m, rfl⟩ := Int.eq_ofNat_of_zero_le (show 0 ≤ n by omega)
      refine (rbytes_good w0 w g (unpack bs) at_ _ m hI hB rfl (by rw [unpack_length]; omega) (by rw [unpack_length]; omega)).mono fun e w' ⟨v, he, hr, hi, hb, hk⟩ => ⟨v, he, ?_, by simpa using hi, hb, hk⟩
      rw [pack_cut bs hbs] at hr
      exact hr
end

/-! ### both -/
theorem _root_.Go.Proofs.Ytfdcolicpfellaa.PBitsReads.IsS48.mk' [Fix] {w0 W : World} {g : Nat} {f0 : List Int} {f1 : Int} (hb : W.heap[g]? = some (.cells #[.slice Fix.A f0.length Fix.c, .int .i64 f1] 48 (0, 0))) (hg : w0.heap.size ≤ g) (hC : Kd.C (Kd.int .u8) w0 Fix.A f0.length f0) (hc : f0.length ≤ Fix.c) : IsS48 w0 W g f0 f1 := ⟨_, _, hb, hg, hC, hc, rfl, rfl⟩
/-- the heap's first m blocks -/
def cutTo (w : World) (m : Nat) : World := { w with heap := w.heap.extract 0 m }
theorem cutTo_size (w : World) (m : Nat) (h : m ≤ w.heap.size) : (cutTo w m).heap.size = m := by simp [cutTo]; omega
theorem cutTo_get (w : World) (m k : Nat) (h : k < m) : (cutTo w m).heap[k]? = w.heap[k]? := by
  simp [cutTo, Array.getElem?_extract]; omega
theorem below_cutTo (w : World) (m : Nat) (h : m ≤ w.heap.size) : Below (cutTo w m).heap.size (cutTo w m) w :=
  ⟨rfl, rfl, rfl, by rw [cutTo_size w m h]; exact h, fun k hk => (cutTo_get w m k (by rwa [cutTo_size w m h] at hk)).symm⟩

/-- the two readers; the law's own row -/
structure RSt (w w1 w2 : World) (bs : List Int) (A : Option Addr) (c : Nat) (ga cpa : Nat) (wr : World) (ap ad : Nat) : Prop where
  p : IsS85 w1 wr w1.heap.size bs ap
  pb : Below w1.heap.size w1 wr
  dk : Kept w2 wr (fun k => k = w1.heap.size)
  dblk : wr.heap[w2.heap.size]? = some (.cells #[.slice A ((unpack bs).map b2i).length c, .int .i64 (ad : Int)] 48 (0, 0))
  all : Kd.R (Kd.int .u8) 5 wr w.heap.size (fun _ => True) (.slice (some ⟨ga, 0, none⟩) (bs.length + 32) cpa) (bs ++ marks)
  ap_le : ap ≤ 8 * bs.length

/-- what stands still: the worlds at which the readers were made -/
structure RBase (w w1 w2 : World) (bs : List Int) (A : Option Addr) (c : Nat) : Prop where
  b1 : Below w.heap.size w w1
  lt : w1.heap.size < w2.heap.size
  row : Kd.R (Kd.int .u8) 5 w2 (w1.heap.size + 1) (fun _ => True) (.slice A ((unpack bs).map b2i).length c) ((unpack bs).map b2i)
  bytes : ∀ x ∈ bs, 0 ≤ x ∧ x < 256
  len : bs.length ≤ 17592186044

section
variable {w w1 w2 : World} {bs : List Int} {A : Option Addr} {c ga cpa : Nat} {wr w' : World} {ap ad q : Nat}
theorem RSt.b (hS : RSt w w1 w2 bs A c ga cpa wr ap ad) (hB : RBase w w1 w2 bs A c) : Below w.heap.size w wr := below_then hB.b1 (below_size hB.b1) hS.pb

theorem RSt.code (hS : RSt w w1 w2 bs A c ga cpa wr ap ad) (hB : RBase w w1 w2 bs A c) (hi : IsS85 w1 w' w1.heap.size bs q) (hq : q ≤ 8 * bs.length) (hb : Below w1.heap.size w1 w') (hk : KeepBut wr w' w1.heap.size none) : RSt w w1 w2 bs A c ga cpa w' q ad := by
  have hlt := hB.lt
  refine ⟨hi, hb, ⟨Nat.le_trans hS.dk.1 hk.1, fun i h1 h2 => (hk.2 i (Nat.lt_of_lt_of_le h1 hS.dk.1) h2 (by simp)).trans (hS.dk.2 i h1 h2)⟩, hk.blk hS.dblk (by omega) (by simp), ?_, hq⟩
  obtain ⟨A0, cap, hb0, _⟩ := hS.p
  exact Kd.R_mono (Kd.R_keep (Kd.R_types hS.all hb0 (by decide)) hk (fun k hk => hk.2)) (fun _ _ => trivial)

theorem RSt.pre (hS : RSt w w1 w2 bs A c ga cpa wr ap ad) (hB : RBase w w1 w2 bs A c) : @IsS48 ⟨A, c⟩ (cutTo wr w2.heap.size) wr w2.heap.size ((unpack bs).map b2i) ad ∧ Below (cutTo wr w2.heap.size).heap.size (cutTo wr w2.heap.size) wr := by
  have hsz := cutTo_size wr w2.heap.size hS.dk.1
  have hrow : Kd.R (Kd.int .u8) 5 (cutTo wr w2.heap.size) (w1.heap.size + 1) (fun k => w1.heap.size + 1 ≤ k) (.slice A ((unpack bs).map b2i).length c) ((unpack bs).map b2i) :=
    Kd.R_kept (Kd.R_mono (Kd.R_bound hB.row) (fun k hk => hk.2.1)) (S := fun k => k = w1.heap.size) ⟨by rw [hsz]; exact Nat.le_refl _, fun i h1 h2 => (cutTo_get wr _ i h1).trans (hS.dk.2 i h1 h2)⟩ (fun k hk => by omega)
  have hrd := Kd.R_reads' hrow
  exact ⟨@IsS48.mk' ⟨A, c⟩ _ _ _ _ _ hS.dblk (by rw [hsz]; exact Nat.le_refl _) hrd.2.2 hrd.2.1, below_cutTo wr _ hS.dk.1⟩

theorem RSt.doc (hS : RSt w w1 w2 bs A c ga cpa wr ap ad) (hB : RBase w w1 w2 bs A c) (hi : @IsS48 ⟨A, c⟩ (cutTo wr w2.heap.size) w' w2.heap.size ((unpack bs).map b2i) q) (hb : Below (cutTo wr w2.heap.size).heap.size (cutTo wr w2.heap.size) w') (hk : KeepBut wr w' w2.heap.size none) : RSt w w1 w2 bs A c ga cpa w' ap q := by
  have hlt := hB.lt
  obtain ⟨A0, c0, hb0, _, _, _, hf⟩ := hi
  obtain ⟨rfl, rfl⟩ := hf
  obtain ⟨A1, c1, hb1, hg1, hC1⟩ := id hS.p
  refine ⟨⟨A1, c1, hk.blk hb1 (by omega) (by simp), hg1, hC1⟩, ⟨hb.os.trans hS.pb.os, hb.tape.trans hS.pb.tape, hb.output.trans hS.pb.output, Nat.le_trans hS.pb.size hk.1, fun k h1 => (hk.2 k (Nat.lt_of_lt_of_le h1 hS.pb.size) (by omega) (by simp)).trans (hS.pb.block k h1)⟩, ⟨Nat.le_trans hS.dk.1 hk.1, fun i h1 h2 => (hk.2 i (Nat.lt_of_lt_of_le h1 hS.dk.1) (by omega) (by simp)).trans (hS.dk.2 i h1 h2)⟩, hb0, ?_, hS.ap_le⟩
  exact Kd.R_mono (Kd.R_keep (Kd.R_types hS.all hS.dblk (by decide)) hk (fun k hk => hk.2)) (fun _ _ => trivial)

theorem RSt.wrote {wrb : World} {a0 b0 : Nat} {S : Nat → Prop} (hS0 : RSt w w1 w2 bs A c ga cpa wrb a0 b0) (hS : RSt w w1 w2 bs A c ga cpa wr ap ad) (hB : RBase w w1 w2 bs A c) (hk : Kept wr w' S) (hge : ∀ k, S k → wrb.heap.size ≤ k) (hb : Below w1.heap.size w1 w') : RSt w w1 w2 bs A c ga cpa w' ap ad := by
  have h1 := hS0.p.lt
  have h2 := blk_lt hS0.dblk
  have h3 := Kd.R_lt hS0.all ga rfl
  refine ⟨hS.p.kept hk (fun h => by have := hge _ h; omega), hb, ⟨Nat.le_trans hS.dk.1 hk.1, fun i hi1 hi2 => (hk.2 i (Nat.lt_of_lt_of_le hi1 hS.dk.1) (fun h => by have := hge _ h; omega)).trans (hS.dk.2 i hi1 hi2)⟩, (hk.2 _ (blk_lt hS.dblk) (fun h => by have := hge _ h; omega)).trans hS.dblk, ?_, hS.ap_le⟩
  refine Kd.R_mono (Kd.R_kept (Kd.R_tight rfl hS.all) hk (fun k hk hn => ?_)) (fun _ _ => trivial)
  have h4 := hge k hn
  have h5 : k = ga := by simpa [Value.ownBlock] using hk
  omega

theorem RSt.drewN (hS : RSt w w1 w2 bs A c ga cpa wr ap ad) (m : Nat) : RSt w w1 w2 bs A c ga cpa (wr.drewN m) ap ad := ⟨hS.p.drewN m, pw_below_drewN hS.pb m, hS.dk, hS.dblk, Kd.R_drewN hS.all m, hS.ap_le⟩
end
end Go.Proofs.Ytfdcolicpfellaa.Mach
