/-
  A stream, plainly: it always ends by itself (never for want of rounds).
-/
import Derived.Test.YtgbhdpeibiglfaaDoorSCode
/-
  A stream, plainly: what a stream of bits says, step by step.
-/
set_option linter.unusedVariables false
set_option linter.unusedSimpArgs false
namespace Go.Proofs.YtgbhdpeibiglfaaDoor.S06
open Go Go.RowKit Go.Proofs.YtgbhdpeibiglfaaDoor.Sep Go.Proofs.YtgbhdpeibiglfaaDoor.S05 Go.Proofs.YtgbhdpeibiglfaaDoor.CodeLaw Go.Proofs.YtgbhdpeibiglfaaDoor.Pack Go.Proofs.YtgbhdpeibiglfaaDoor.BitLaw

inductive Res (α : Type) where
  | ok (a : α) (at_ : Nat) (out : List Int)
  | bad (e : Int) (out : List Int)
/-- what reads bits of a stream: the bits, how many plain bytes there may be, the place, the plain bytes -/
def M (α : Type) := List Bool → Nat → Nat → List Int → Res α
def M.bind {α β : Type} (m : M α) (f : α → M β) : M β := fun L mo t o => match m L mo t o with
  | .ok a t' o' => f a L mo t' o'
  | .bad e o' => .bad e o'
def M.pure {α : Type} (a : α) : M α := fun _ _ t o => .ok a t o
def fail {α : Type} (e : Int) : M α := fun _ _ _ o => .bad e o
def tk (n : Nat) : M Nat := fun L _ t o => if t + n ≤ L.length then .ok (numOf ((L.drop t).take n)).toNat (t + n) o else .bad 4 o
def align : M Unit := fun _ _ t o => .ok () ((t + 7) / 8 * 8) o
open Classical in
noncomputable def sym (l : List Int) (rest : List Bool) : Nat × Nat × Int := if h : ∃ x : Nat × Nat × Int, RdIs l rest x.1 x.2.1 x.2.2 then h.choose else (0, 0, 52)
theorem sym_of {l : List Int} (hc : isCode l = true) {rest : List Bool} {i n : Nat} {e : Int} (h : RdIs l rest i n e) : sym l rest = (i, n, e) := by
  have hx : ∃ x : Nat × Nat × Int, RdIs l rest x.1 x.2.1 x.2.2 := ⟨(i, n, e), h⟩
  unfold sym
  rw [dif_pos hx]
  obtain ⟨a, b, c⟩ := RdIs.one hc hx.choose_spec h
  exact Prod.ext a (Prod.ext b c)
theorem sym_is {l : List Int} {rest : List Bool} : RdIs l rest (sym l rest).1 (sym l rest).2.1 (sym l rest).2.2 := by
  have hx : ∃ x : Nat × Nat × Int, RdIs l rest x.1 x.2.1 x.2.2 := by
    by_cases h1 : ∃ j, 0 < len_ l j ∧ wb l j <+: rest
    · obtain ⟨j, a, b⟩ := h1
      exact ⟨(_, _, _), .hit a b⟩
    · have n1 : ∀ j, 0 < len_ l j → ¬ wb l j <+: rest := fun j a b => h1 ⟨j, a, b⟩
      by_cases h2 : ∃ j, 0 < len_ l j ∧ rest <+: wb l j
      · obtain ⟨j, a, b⟩ := h2
        exact ⟨(_, _, _), .more n1 a b⟩
      · exact ⟨(_, _, _), .none n1 fun j a b => h2 ⟨j, a, b⟩⟩
  unfold sym
  rw [dif_pos hx]
  exact hx.choose_spec
noncomputable def symb (l : List Int) : M Nat := fun L _ t o => if isCode l = true then (if (sym l (L.drop t)).2.2 = 0 then .ok (sym l (L.drop t)).1 (t + (sym l (L.drop t)).2.1) o else if (sym l (L.drop t)).2.2 = 50 then .bad 4 o else .bad 63 o) else .bad 63 o
def room (n : Nat) : M Unit := fun _ mo t o => if mo < o.length + n then .bad 32 o else .ok () t o
def put (l : List Int) : M Unit := fun _ _ t o => .ok () t (o ++ l)
def far (b : Nat) : M Unit := fun _ _ t o => if o.length < b then .bad 64 o else .ok () t o
def cp : Nat → Nat → List Int → List Int
  | 0, _, o => o
  | n + 1, b, o => cp n b (o ++ [o.getD (o.length - b) 0])
def copies (n b : Nat) : M Unit := fun _ _ t o => .ok () t (cp n b o)

/-! ### What stands behind changes nothing of what was read -/
def Res.out {α : Type} : Res α → List Int
  | .ok _ _ o => o
  | .bad _ o => o
structure Good {α : Type} (m : M α) : Prop where
  grow : ∀ L mo t o, o <+: (m L mo t o).out
  more : ∀ L X mo t o, match m L mo t o with
    | .ok a t' o' => m (L ++ X) mo t o = .ok a t' o'
    | .bad e o' => if e = 4 then o' <+: (m (L ++ X) mo t o).out else m (L ++ X) mo t o = .bad e o'
  most : ∀ L mo mo' t o, mo ≤ mo' → m L mo t o = m L mo' t o ∨ ∃ o', m L mo t o = .bad 32 o'
theorem Good.bind {α β : Type} {m : M α} {f : α → M β} (hm : Good m) (hf : ∀ a, Good (f a)) : Good (M.bind m f) := by
  refine ⟨fun L mo t o => ?_, fun L X mo t o => ?_, fun L mo mo' t o h => ?_⟩
  · have h1 := hm.grow L mo t o
    unfold M.bind
    cases h : m L mo t o with
    | ok a t' o' => rw [h] at h1; exact h1.trans ((hf a).grow L mo t' o')
    | bad e o' => rw [h] at h1; exact h1
  · have h1 := hm.more L X mo t o
    unfold M.bind
    cases h : m L mo t o with
    | ok a t' o' =>
      rw [h] at h1
      simp only at h1 ⊢
      rw [h1]
      exact (hf a).more L X mo t' o'
    | bad e o' =>
      rw [h] at h1
      simp only at h1 ⊢
      split
      · rename_i he
        rw [if_pos he] at h1
        cases h2 : m (L ++ X) mo t o with
        | ok a t' o2 => rw [h2] at h1; exact h1.trans ((hf a).grow _ mo t' o2)
        | bad e2 o2 => rw [h2] at h1; exact h1
      · rename_i he
        rw [if_neg he] at h1
        rw [h1]
  · unfold M.bind
    rcases hm.most L mo mo' t o h with h1 | ⟨o', h1⟩
    · rw [← h1]
      cases h2 : m L mo t o with
      | ok a t' o' => exact (hf a).most L mo mo' t' o' h
      | bad e o' => exact .inl rfl
    · rw [h1]
      exact .inr ⟨o', rfl⟩
theorem cp_len : ∀ (n b : Nat) (o : List Int), (cp n b o).length = o.length + n
  | 0, _, _ => rfl
  | n + 1, b, o => by rw [cp, cp_len n b]; simp; omega
/-! ### The stream -/
def getsAll : Nat → M Unit
  | 0 => M.pure ()
  | n + 1 => (tk 8).bind fun v => (put [(v : Int)]).bind fun _ => getsAll n
def stored : M Unit := align.bind fun _ => (tk 16).bind fun n => (tk 16).bind fun m => if n + m ≠ 65535 then fail 61 else (room n).bind fun _ => getsAll n
def lenOf (k : Nat) : Nat × Nat := if k < 8 then (3 + k, 0) else if k = 28 then (258, 0) else (3 + (4 + k % 4) * 2 ^ (k / 4 - 1), k / 4 - 1)
def distOf (k : Nat) : Nat × Nat := if k < 4 then (1 + k, 0) else (1 + (2 + k % 2) * 2 ^ (k / 2 - 1), k / 2 - 1)
def zeroL (l : List Int) : Bool := l.all (· == 0)
noncomputable def coded (l d : List Int) : Nat → M Unit
  | 0 => fail 0
  | f + 1 => (symb l).bind fun k =>
    if k = 256 then M.pure () else if k < 256 then (room 1).bind fun _ => (put [(k : Int)]).bind fun _ => coded l d f
    else if 286 ≤ k then fail 63 else (tk (lenOf (k - 257)).2).bind fun x => if zeroL d then fail 63 else (symb d).bind fun y => if 30 ≤ y then fail 63 else (tk (distOf y).2).bind fun z =>
      (far ((distOf y).1 + z)).bind fun _ => (room ((lenOf (k - 257)).1 + x)).bind fun _ => (copies ((lenOf (k - 257)).1 + x) ((distOf y).1 + z)).bind fun _ => coded l d f
def fixL : List Int := List.replicate 144 8 ++ (List.replicate 112 9 ++ (List.replicate 24 7 ++ List.replicate 8 8))
def fixD : List Int := List.replicate 32 5
def ord : List Nat := [16, 17, 18, 0, 8, 7, 9, 6, 10, 5, 11, 4, 12, 3, 13, 2, 14, 1, 15]
/-- the lengths of the code of lengths -/
def smalls : Nat → Nat → List Int → M (List Int)
  | 0, _, l => M.pure l
  | n + 1, i, l => (tk 3).bind fun v => smalls n (i + 1) (l.set (ord.getD i 0) (v : Int))
def times (s : Nat) (l : List Int) : M (Nat × Int) :=
  if s = 16 then (if l = [] then fail 62 else (tk 2).bind fun x => M.pure (3 + x, l.getLastD 0))
  else if s = 17 then (tk 3).bind fun x => M.pure (3 + x, 0)
  else if s = 18 then (tk 7).bind fun x => M.pure (11 + x, 0)
  else M.pure (1, (s : Int))
noncomputable def lens (c : List Int) (total : Nat) : Nat → List Int → M (List Int)
  | 0, _ => fail 0
  | f + 1, l => if total ≤ l.length then M.pure l else (symb c).bind fun s => (times s l).bind fun x => if total < l.length + x.1 then fail 62 else lens c total f (l ++ List.replicate x.1 x.2)
/-- a whole code, or one word of one bit -/
def fine (l : List Int) : Bool := isCode l && (isWhole l || (decide ((l.countP fun x => decide (0 < x)) = 1) && decide ((l.countP fun x => x == 1) = 1)))
noncomputable def own2 (a b : Nat) (c : List Int) : M (List Int × List Int) := (lens c (a + b) 1000 []).bind fun l => if l.getD 256 0 = 0 ∨ fine (l.take a) = false ∨ (zeroL (l.drop a) = false ∧ fine (l.drop a) = false) then fail 62 else M.pure (l.take a, l.drop a)
noncomputable def own1 : M (List Int × List Int) := (tk 5).bind fun a => (tk 5).bind fun b => (tk 4).bind fun n => if 286 < a + 257 ∨ 30 < b + 1 then fail 62 else (smalls (n + 4) 0 (List.replicate 19 0)).bind fun c => if isWhole c = false then fail 62 else own2 (a + 257) (b + 1) c
def Fu : Nat := 1152921504606846976
noncomputable def block (k : Nat) : M Unit := if k = 0 then stored else if k = 1 then coded fixL fixD Fu else if k = 2 then own1.bind fun x => coded x.1 x.2 Fu else fail 60
noncomputable def blocks : Nat → M Unit
  | 0 => fail 0
  | f + 1 => (tk 1).bind fun last => (tk 2).bind fun k => (block k).bind fun _ => if last = 0 then blocks f else M.pure ()
@[irreducible] noncomputable def infl (bs : List Int) (most : Nat) : Res Unit := blocks Fu (unpack bs) most 0 []

end Go.Proofs.YtgbhdpeibiglfaaDoor.S06

/-
  A stream, plainly: the laws (how much comes out, beginnings, what stands behind).
-/
set_option linter.unusedVariables false
set_option linter.unusedSimpArgs false
namespace Go.Proofs.YtgbhdpeibiglfaaDoor.S06
open Go Go.RowKit Go.Proofs.YtgbhdpeibiglfaaDoor.Sep Go.Proofs.YtgbhdpeibiglfaaDoor.S05 Go.Proofs.YtgbhdpeibiglfaaDoor.CodeLaw Go.Proofs.YtgbhdpeibiglfaaDoor.Pack Go.Proofs.YtgbhdpeibiglfaaDoor.BitLaw

/-- what is read pays for what comes out: 129 bytes for a bit -/
def Pay {α : Type} (c : Int) (m : M α) : Prop := ∀ L mo t o a t' o', L.length % 8 = 0 → t ≤ L.length → o.length ≤ mo → m L mo t o = .ok a t' o' → t ≤ t' ∧ t' ≤ L.length ∧ o'.length ≤ mo ∧ (o'.length : Int) ≤ o.length + 129 * ((t' : Int) - t) + c
theorem Pay.bind {α β : Type} {c d : Int} {m : M α} {f : α → M β} (hm : Pay c m) (hf : ∀ a, Pay d (f a)) : Pay (c + d) (M.bind m f) := by
  intro L mo t o a t' o' h8 ht ho h
  unfold M.bind at h
  cases h1 : m L mo t o with
  | ok b t1 o1 =>
    rw [h1] at h
    obtain ⟨a1, a2, a3, a4⟩ := hm L mo t o b t1 o1 h8 ht ho h1
    obtain ⟨b1, b2, b3, b4⟩ := hf b L mo t1 o1 a t' o' h8 a2 a3 h
    exact ⟨by omega, b2, b3, by omega⟩
  | bad e o1 => rw [h1] at h; cases h
theorem Pay.le {α : Type} {c d : Int} {m : M α} (h : Pay c m) (hcd : c ≤ d) : Pay d m := fun L mo t o a t' o' h8 ht ho h1 => by
  obtain ⟨a1, a2, a3, a4⟩ := h L mo t o a t' o' h8 ht ho h1
  exact ⟨a1, a2, a3, by omega⟩
theorem pay_pure {α : Type} (a : α) : Pay 0 (M.pure a) := fun L mo t o b t' o' h8 ht ho h => by cases h; exact ⟨Nat.le_refl _, ht, ho, by omega⟩
theorem pay_fail {α : Type} (e c : Int) : Pay c (fail e : M α) := fun L mo t o b t' o' h8 ht ho h => by cases h
theorem pay_align : Pay 0 align := fun L mo t o b t' o' h8 ht ho h => by cases h; exact ⟨by omega, by omega, ho, by omega⟩
theorem pay_tk {α : Type} {n : Nat} {c : Int} {f : Nat → M α} (h : ∀ v, v < 2 ^ n → Pay c (f v)) : Pay (c - 129 * n) ((tk n).bind f) := by
  intro L mo t o a t' o' h8 ht ho h1
  unfold M.bind tk at h1
  by_cases hl : t + n ≤ L.length
  · rw [if_pos hl] at h1
    have hr := numOf_range ((L.drop t).take n)
    have hlen : ((L.drop t).take n).length = n := by rw [List.length_take, List.length_drop]; omega
    rw [hlen] at hr
    have hv : (numOf ((L.drop t).take n)).toNat < 2 ^ n := by
      have h2 : ((2 ^ n : Nat) : Int) = 2 ^ n := by norm_cast
      omega
    obtain ⟨a1, a2, a3, a4⟩ := h _ hv L mo (t + n) o a t' o' h8 hl ho h1
    exact ⟨by omega, a2, a3, by omega⟩
  · rw [if_neg hl] at h1; cases h1
theorem pay_tk0 {α : Type} {n : Nat} {f : Nat → M α} (h : ∀ v, v < 2 ^ n → Pay 0 (f v)) : Pay 0 ((tk n).bind f) := (pay_tk h).le (by omega)
theorem pay_symb (l : List Int) : Pay (-129) (symb l) := by
  intro L mo t o a t' o' h8 ht ho h1
  unfold symb at h1
  split at h1
  case isFalse => cases h1
  split at h1
  case isFalse => split at h1 <;> cases h1
  rename_i hc he
  cases h1
  have h2 := sym_is (l := l) (rest := L.drop t)
  obtain ⟨x, hx⟩ : ∃ x, x = sym l (L.drop t) := ⟨_, rfl⟩
  rw [← hx] at h2 he ⊢
  obtain ⟨x1, x2, x3⟩ := x
  simp only at h2 he ⊢
  cases h2 with
  | hit a b =>
    have := ((wb_pre hc a).1 b).1
    rw [List.length_drop] at this
    exact ⟨by omega, by omega, ho, by omega⟩
  | more a b c => cases he
  | none a b => cases he
theorem pay_far (b : Nat) : Pay 0 (far b) := fun L mo t o a t' o' h8 ht ho h => by
  unfold far at h
  split at h
  · cases h
  · cases h; exact ⟨Nat.le_refl _, ht, ho, by omega⟩
theorem pay_room {α : Type} {n : Nat} {c : Int} {f : Unit → M α} (h : ∀ L mo t o a t' o', L.length % 8 = 0 → t ≤ L.length → o.length + n ≤ mo → f () L mo t o = .ok a t' o' → t ≤ t' ∧ t' ≤ L.length ∧ o'.length ≤ mo ∧ (o'.length : Int) ≤ o.length + 129 * ((t' : Int) - t) + c) : Pay c ((room n).bind f) := by
  intro L mo t o a t' o' h8 ht ho h1
  unfold M.bind room at h1
  split at h1
  · rename_i h2; split at h2 <;> cases h2; exact h L mo _ _ a t' o' h8 ht (by omega) h1
  · cases h1
theorem gets_ok : ∀ (n : Nat) (L : List Bool) (mo t : Nat) (o : List Int) (a : Unit) (t' : Nat) (o' : List Int), t ≤ L.length → getsAll n L mo t o = .ok a t' o' → t' = t + 8 * n ∧ t' ≤ L.length ∧ o'.length = o.length + n
  | 0, L, mo, t, o, a, t', o', ht, h => by cases h; exact ⟨rfl, ht, rfl⟩
  | n + 1, L, mo, t, o, a, t', o', ht, h => by
    unfold getsAll M.bind tk at h
    by_cases hl : t + 8 ≤ L.length
    · rw [if_pos hl] at h
      have := gets_ok n L mo (t + 8) _ a t' o' hl h
      simp at this
      omega
    · rw [if_neg hl] at h; cases h
theorem pay_stored : Pay 0 stored := by
  unfold stored
  refine (pay_align.bind (d := 0) fun _ => pay_tk0 fun n hn => pay_tk0 fun m hm => ?_).le (by omega)
  split
  · exact pay_fail _ _
  · refine pay_room fun L mo t o a t' o' h8 ht ho h => ?_
    have := gets_ok n L mo t o a t' o' ht h
    exact ⟨by omega, by omega, by omega, by omega⟩
theorem lenOf_le : ∀ k, k < 29 → ∀ x, x < 2 ^ (lenOf k).2 → (lenOf k).1 + x ≤ 258 := by decide
theorem pay_coded (l d : List Int) : ∀ f, Pay 0 (coded l d f)
  | 0 => pay_fail _ _
  | f + 1 => by
    unfold coded
    refine ((pay_symb l).bind (d := 129) fun k => ?_).le (by omega)
    split
    · exact (pay_pure _).le (by omega)
    split
    · refine pay_room fun L mo t o a t' o' h8 ht ho h => ?_
      obtain ⟨a1, a2, a3, a4⟩ := pay_coded l d f L mo t (o ++ [(k : Int)]) a t' o' h8 ht (by simp; omega) h
      simp at a4
      exact ⟨a1, a2, a3, by omega⟩
    split
    · exact pay_fail _ _
    rename_i k1 k2 k3
    refine (pay_tk (c := 129) fun x hx => ?_).le (by omega)
    split
    · exact pay_fail _ _
    refine ((pay_symb d).bind (d := 258) fun y => ?_).le (by omega)
    split
    · exact pay_fail _ _
    refine (pay_tk (c := 258) fun z hz => ?_).le (by omega)
    refine ((pay_far _).bind (d := 258) fun _ => ?_).le (by omega)
    refine pay_room fun L mo t o a t' o' h8 ht ho h => ?_
    have h258 := lenOf_le (k - 257) (by omega) x hx
    have hcl := cp_len ((lenOf (k - 257)).1 + x) ((distOf y).1 + z) o
    obtain ⟨a1, a2, a3, a4⟩ := pay_coded l d f L mo t (cp ((lenOf (k - 257)).1 + x) ((distOf y).1 + z) o) a t' o' h8 ht (by omega) h
    exact ⟨a1, a2, a3, by omega⟩
theorem pay_smalls : ∀ n i l, Pay 0 (smalls n i l)
  | 0, _, _ => pay_pure _
  | n + 1, i, l => pay_tk0 fun _ _ => pay_smalls n _ _
theorem pay_times (s : Nat) (l : List Int) : Pay 0 (times s l) := by
  unfold times
  repeat' split
  · exact pay_fail _ _
  · exact pay_tk0 fun _ _ => pay_pure _
  · exact pay_tk0 fun _ _ => pay_pure _
  · exact pay_tk0 fun _ _ => pay_pure _
  · exact pay_pure _
theorem pay_lens (c : List Int) (total : Nat) : ∀ f l, Pay 0 (lens c total f l)
  | 0, _ => pay_fail _ _
  | f + 1, l => by
    unfold lens
    split
    · exact pay_pure _
    refine ((pay_symb c).bind (d := 0) fun s => ?_).le (by omega)
    refine ((pay_times s l).bind (d := 0) fun x => ?_).le (by omega)
    split
    · exact pay_fail _ _
    · exact pay_lens c total f _
theorem pay_own : Pay 0 own1 := by
  unfold own1
  refine pay_tk0 fun a _ => pay_tk0 fun b _ => pay_tk0 fun n _ => ?_
  split
  · exact pay_fail _ _
  refine ((pay_smalls _ _ _).bind (d := 0) fun c => ?_).le (by omega)
  split
  · exact pay_fail _ _
  unfold own2
  refine ((pay_lens _ _ _ _).bind (d := 0) fun l => ?_).le (by omega)
  split
  · exact pay_fail _ _
  · exact pay_pure _
theorem pay_block (k : Nat) : Pay 0 (block k) := by
  unfold block
  repeat' split
  · exact pay_stored
  · exact pay_coded _ _ _
  · exact (pay_own.bind (d := 0) fun x => pay_coded _ _ _).le (by omega)
  · exact pay_fail _ _
theorem pay_blocks : ∀ f, Pay 0 (blocks f)
  | 0 => pay_fail _ _
  | f + 1 => by
    unfold blocks
    refine pay_tk0 fun last _ => pay_tk0 fun k _ => ?_
    refine ((pay_block k).bind (d := 0) fun _ => ?_).le (by omega)
    split
    · exact pay_blocks f
    · exact pay_pure _
theorem blocks_pos : ∀ f, Pay (-387) (blocks f)
  | 0 => pay_fail _ _
  | f + 1 => by
    unfold blocks
    refine (pay_tk (c := -258) fun last _ => ?_).le (by omega)
    refine (pay_tk (c := 0) fun k _ => ?_).le (by omega)
    refine ((pay_block k).bind (d := 0) fun _ => ?_).le (by omega)
    split
    · exact pay_blocks f
    · exact pay_pure _
theorem unp_len (bs : List Int) : (unpack bs).length = 8 * bs.length := unpack_length bs
/-- a stream that is read: where it ends, how much came out -/
theorem infl_ok {bs : List Int} {mo t : Nat} {o : List Int} {a : Unit} (h : infl bs mo = .ok a t o) : 1 ≤ (t + 7) / 8 ∧ (t + 7) / 8 ≤ bs.length ∧ o.length ≤ mo ∧ o.length ≤ 1032 * bs.length ∧ t ≤ 8 * bs.length := by
  unfold infl at h
  have h1 := blocks_pos Fu (unpack bs) mo 0 [] a t o (by rw [unp_len]; omega) (by omega) (by simp) h
  rw [unp_len] at h1
  simp only [List.length_nil] at h1
  exact ⟨by omega, by omega, h1.2.2.1, by omega, h1.2.1⟩
end Go.Proofs.YtgbhdpeibiglfaaDoor.S06

/-
  A stream, plainly: it always ends by itself (never for want of rounds).
-/
set_option linter.unusedVariables false
set_option linter.unusedSimpArgs false
namespace Go.Proofs.YtgbhdpeibiglfaaDoor.S06
open Go Go.RowKit Go.Proofs.YtgbhdpeibiglfaaDoor.Sep Go.Proofs.YtgbhdpeibiglfaaDoor.S05 Go.Proofs.YtgbhdpeibiglfaaDoor.CodeLaw Go.Proofs.YtgbhdpeibiglfaaDoor.Pack Go.Proofs.YtgbhdpeibiglfaaDoor.BitLaw

/-- with so many rounds it ends by itself -/
def Nz {α : Type} (n : Nat) (m : M α) : Prop := ∀ L mo t o, L.length % 8 = 0 → t ≤ L.length → o.length ≤ mo → L.length < n + t → ∀ o', m L mo t o ≠ .bad 0 o'
theorem Nz.bind {α β : Type} {n : Nat} {c : Int} {m : M α} {f : α → M β} (hm : Nz n m) (hp : Pay c m) (hf : ∀ a, Nz n (f a)) : Nz n (M.bind m f) := by
  intro L mo t o h8 ht ho hn o' h
  unfold M.bind at h
  cases h1 : m L mo t o with
  | ok a t1 o1 =>
    rw [h1] at h
    obtain ⟨a1, a2, a3, -⟩ := hp L mo t o a t1 o1 h8 ht ho h1
    exact hf a L mo t1 o1 h8 a2 a3 (by omega) o' h
  | bad e o1 =>
    rw [h1] at h
    cases h
    exact hm L mo t o h8 ht ho hn _ h1
theorem nz_pure {α : Type} {n : Nat} (a : α) : Nz n (M.pure a) := fun L mo t o _ _ _ _ o' h => by cases h
theorem nz_fail {α : Type} {n : Nat} {e : Int} (he : e ≠ 0) : Nz n (fail e : M α) := fun L mo t o _ _ _ _ o' h => by cases h; exact he rfl
theorem nz_tk {n k : Nat} : Nz n (tk k) := fun L mo t o _ _ _ _ o' h => by
  unfold tk at h
  split at h <;> cases h
theorem nz_align {n : Nat} : Nz n align := fun L mo t o _ _ _ _ o' h => by cases h
theorem nz_symb {n : Nat} {l : List Int} : Nz n (symb l) := fun L mo t o _ _ _ _ o' h => by
  unfold symb at h
  repeat' split at h
  all_goals cases h
theorem pay_tkz (k : Nat) : Pay 0 (tk k) := fun L mo t o a t' o' h8 ht ho h => by
  unfold tk at h
  split at h
  · cases h; exact ⟨by omega, by assumption, ho, by omega⟩
  · cases h
theorem Nz.tk {α : Type} {n k : Nat} {f : Nat → M α} (hf : ∀ a, Nz n (f a)) : Nz n (M.bind (S06.tk k) f) := nz_tk.bind (pay_tkz k) hf
/-- a step ahead gives a round back -/
theorem Nz.sym {α : Type} {n : Nat} {l : List Int} {f : Nat → M α} (hf : ∀ a, Nz n (f a)) : Nz (n + 1) (M.bind (symb l) f) := by
  intro L mo t o h8 ht ho hn o' h
  unfold M.bind at h
  cases h1 : symb l L mo t o with
  | ok a t1 o1 =>
    rw [h1] at h
    obtain ⟨a1, a2, a3, a4⟩ := pay_symb l L mo t o a t1 o1 h8 ht ho h1
    have : t < t1 := by
      unfold symb at h1
      repeat' split at h1
      · cases h1
        rename_i hc he
        have h2 := sym_is (l := l) (rest := L.drop t)
        obtain ⟨x, hx⟩ : ∃ x, x = S06.sym l (L.drop t) := ⟨_, rfl⟩
        rw [← hx] at h2 he ⊢
        obtain ⟨x1, x2, x3⟩ := x
        simp only at h2 he ⊢
        cases h2 with
        | hit a b => omega
        | more a b c => cases he
        | none a b => cases he
      all_goals cases h1
    exact hf a L mo t1 o1 h8 a2 a3 (by omega) o' h
  | bad e o1 =>
    rw [h1] at h
    cases h
    exact nz_symb (n := n + 1) L mo t o h8 ht ho hn _ h1
theorem Nz.tk1 {α : Type} {n k : Nat} {f : Nat → M α} (hk : 0 < k) (hf : ∀ a, Nz n (f a)) : Nz (n + 1) (M.bind (S06.tk k) f) := by
  intro L mo t o h8 ht ho hn o' h
  unfold M.bind S06.tk at h
  by_cases hl : t + k ≤ L.length
  · rw [if_pos hl] at h
    exact hf _ L mo (t + k) o h8 hl ho (by omega) o' h
  · rw [if_neg hl] at h; cases h
theorem Nz.room {α : Type} {n k : Nat} {f : Unit → M α} (hf : ∀ L mo t o, L.length % 8 = 0 → t ≤ L.length → o.length + k ≤ mo → L.length < n + t → ∀ o', f () L mo t o ≠ .bad 0 o') : Nz n (M.bind (S06.room k) f) := by
  intro L mo t o h8 ht ho hn o' h
  unfold M.bind S06.room at h
  by_cases h2 : mo < o.length + k
  · rw [if_pos h2] at h; cases h
  · rw [if_neg h2] at h
    exact hf L mo t o h8 ht (by omega) hn o' h
theorem nz_gets : ∀ (k : Nat) (L : List Bool) (mo t : Nat) (o o' : List Int), getsAll k L mo t o ≠ .bad 0 o'
  | 0, L, mo, t, o, o', h => by cases h
  | k + 1, L, mo, t, o, o', h => by
    unfold getsAll M.bind tk at h
    by_cases hl : t + 8 ≤ L.length
    · rw [if_pos hl] at h
      exact nz_gets k L mo (t + 8) _ o' h
    · rw [if_neg hl] at h; cases h
theorem nz_stored {n : Nat} : Nz n stored := by
  unfold stored
  refine nz_align.bind pay_align fun _ => Nz.tk fun a => Nz.tk fun b => ?_
  split
  · exact nz_fail (by decide)
  · exact Nz.room fun L mo t o _ _ _ _ o' => nz_gets a L mo t o o'
theorem nz_coded (l d : List Int) : ∀ f, Nz f (coded l d f)
  | 0 => fun L mo t o _ ht _ hn => by omega
  | f + 1 => by
    unfold coded
    refine Nz.sym fun k => ?_
    split
    · exact nz_pure _
    split
    · exact Nz.room fun L mo t o h8 ht ho hn o' h => nz_coded l d f L mo t _ h8 ht (by simp; omega) hn o' h
    split
    · exact nz_fail (by decide)
    refine Nz.tk fun x => ?_
    split
    · exact nz_fail (by decide)
    refine nz_symb.bind (pay_symb d) fun y => ?_
    split
    · exact nz_fail (by decide)
    refine Nz.tk fun z => ?_
    refine Nz.bind (c := 0) (fun L mo t o _ _ _ _ o' h => ?_) (pay_far _) fun _ => Nz.room fun L mo t o h8 ht ho hn o' h => nz_coded l d f L mo t _ h8 ht (by rw [cp_len]; omega) hn o' h
    unfold far at h
    split at h <;> cases h
theorem nz_smalls {n : Nat} : ∀ k i l, Nz n (smalls k i l)
  | 0, _, _ => nz_pure _
  | k + 1, i, l => Nz.tk fun _ => nz_smalls k _ _
theorem times_pos {s : Nat} {l : List Int} {L : List Bool} {mo t : Nat} {o : List Int} : (∀ x t' o', times s l L mo t o = .ok x t' o' → 1 ≤ x.1) ∧ ∀ o', times s l L mo t o ≠ .bad 0 o' := by
  unfold times
  repeat' split
  · exact ⟨(fun x t' o' h => by cases h), (fun o' h => by cases h)⟩
  · unfold M.bind tk
    refine ⟨fun x t' o' h => ?_, fun o' h => ?_⟩
    · split at h
      · rename_i h2; split at h2 <;> cases h2; cases h; show 1 ≤ 3 + _; omega
      · cases h
    · split at h
      · cases h
      · rename_i h2; split at h2 <;> cases h2; cases h
  · unfold M.bind tk
    refine ⟨fun x t' o' h => ?_, fun o' h => ?_⟩
    · split at h
      · rename_i h2; split at h2 <;> cases h2; cases h; show 1 ≤ 3 + _; omega
      · cases h
    · split at h
      · cases h
      · rename_i h2; split at h2 <;> cases h2; cases h
  · unfold M.bind tk
    refine ⟨fun x t' o' h => ?_, fun o' h => ?_⟩
    · split at h
      · rename_i h2; split at h2 <;> cases h2; cases h; show 1 ≤ 11 + _; omega
      · cases h
    · split at h
      · cases h
      · rename_i h2; split at h2 <;> cases h2; cases h
  · exact ⟨(fun x t' o' h => by cases h; exact Nat.le_refl 1), (fun o' h => by cases h)⟩
theorem nz_lens (c : List Int) (total : Nat) : ∀ (f : Nat) (l : List Int) (L : List Bool) (mo t : Nat) (o o' : List Int), (0 < f ∧ total < f + l.length) → lens c total f l L mo t o ≠ .bad 0 o'
  | 0, l, L, mo, t, o, o', hf, h => absurd hf.1 (by omega)
  | f + 1, l, L, mo, t, o, o', hf, h => by
    unfold lens at h
    by_cases hl : total ≤ l.length
    · rw [if_pos hl] at h; cases h
    rw [if_neg hl] at h
    unfold M.bind at h
    cases h1 : symb c L mo t o with
    | bad e o1 =>
      rw [h1] at h
      cases h
      unfold symb at h1
      repeat' split at h1
      all_goals cases h1
    | ok s t1 o1 =>
      rw [h1] at h
      simp only at h
      obtain ⟨p1, p2⟩ := times_pos (s := s) (l := l) (L := L) (mo := mo) (t := t1) (o := o1)
      cases h2 : times s l L mo t1 o1 with
      | bad e o2 => rw [h2] at h; cases h; exact p2 _ h2
      | ok x t2 o2 =>
        rw [h2] at h
        simp only at h
        have := p1 _ _ _ h2
        split at h
        · cases h
        · exact nz_lens c total f _ L mo t2 o2 o' ⟨by omega, by rw [List.length_append, List.length_replicate]; omega⟩ h
theorem nz_own {n : Nat} : Nz n own1 := by
  unfold own1
  refine Nz.tk fun a => Nz.tk fun b => Nz.tk fun k => ?_
  split
  · exact nz_fail (by decide)
  rename_i hab
  refine (nz_smalls _ _ _).bind (pay_smalls _ _ _) fun c => ?_
  split
  · exact nz_fail (by decide)
  unfold own2
  refine Nz.bind (c := 0) (fun L mo t o _ _ _ _ o' => nz_lens _ _ _ _ L mo t o o' ⟨by omega, by simp only [List.length_nil]; omega⟩) (pay_lens _ _ _ _) fun l => ?_
  split
  · exact nz_fail (by decide)
  · exact nz_pure _
theorem Nz.mono {α : Type} {n k : Nat} {m : M α} (h : Nz n m) (hk : k ≤ n) : Nz k m := fun L mo t o h8 ht ho hn => h L mo t o h8 ht ho (by omega)
theorem nz_block {n : Nat} (hn : n ≤ Fu) (k : Nat) : Nz n (block k) := by
  unfold block
  split
  · exact nz_stored
  split
  · exact (nz_coded _ _ _).mono hn
  split
  · exact nz_own.bind pay_own fun x => (nz_coded _ _ _).mono hn
  · exact nz_fail (by decide)
theorem nz_blocks : ∀ f, f ≤ Fu → Nz f (blocks f)
  | 0, _ => fun L mo t o _ ht _ hn => by omega
  | f + 1, hf => by
    unfold blocks
    refine Nz.tk1 (by decide) fun last => Nz.tk fun k => ?_
    refine (nz_block (by omega) k).bind (pay_block k) fun _ => ?_
    split
    · exact nz_blocks f (by omega)
    · exact nz_pure _
theorem infl_nz {bs : List Int} {mo : Nat} {o : List Int} (hb : bs.length ≤ 211106232532992) : infl bs mo ≠ .bad 0 o := by
  unfold infl
  exact nz_blocks Fu (Nat.le_refl _) (unpack bs) mo 0 [] (by rw [unp_len]; omega) (by omega) (by simp) (by rw [unp_len]; unfold Fu; omega) o
end Go.Proofs.YtgbhdpeibiglfaaDoor.S06
