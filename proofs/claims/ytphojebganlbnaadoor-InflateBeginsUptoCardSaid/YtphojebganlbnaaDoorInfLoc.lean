/-
  A stream, plainly: what stands behind it was not looked at.
-/
import Derived.Test.YtphojebganlbnaaDoorInfA
set_option linter.unusedVariables false
set_option linter.unusedSimpArgs false
namespace Go.Proofs.YtphojebganlbnaaDoor.S06
open Go Go.RowKit Go.Proofs.YtphojebganlbnaaDoor.Sep Go.Proofs.YtphojebganlbnaaDoor.S05 Go.Proofs.YtphojebganlbnaaDoor.CodeLaw Go.Proofs.YtphojebganlbnaaDoor.Pack Go.Proofs.YtphojebganlbnaaDoor.BitLaw

structure Loc {α : Type} (m : M α) : Prop where
  mon : ∀ L mo t o a t' o', m L mo t o = .ok a t' o' → t ≤ t'
  loc : ∀ L X mo t o a t' o', m (L ++ X) mo t o = .ok a t' o' → t' ≤ L.length → m L mo t o = .ok a t' o'
theorem Loc.bind {α β : Type} {m : M α} {f : α → M β} (hm : Loc m) (hf : ∀ a, Loc (f a)) : Loc (M.bind m f) := by
  refine ⟨fun L mo t o a t' o' h => ?_, fun L X mo t o a t' o' h ht => ?_⟩
  · unfold M.bind at h
    cases h1 : m L mo t o with
    | ok b t1 o1 => rw [h1] at h; exact Nat.le_trans (hm.mon _ _ _ _ _ _ _ h1) ((hf b).mon _ _ _ _ _ _ _ h)
    | bad e o1 => rw [h1] at h; cases h
  · unfold M.bind at h ⊢
    cases h1 : m (L ++ X) mo t o with
    | ok b t1 o1 =>
      rw [h1] at h
      have := (hf b).mon _ _ _ _ _ _ _ h
      rw [hm.loc L X mo t o b t1 o1 h1 (by omega)]
      exact (hf b).loc L X mo t1 o1 a t' o' h ht
    | bad e o1 => rw [h1] at h; cases h
theorem loc_pure {α : Type} (a : α) : Loc (M.pure a) := ⟨fun _ _ _ _ _ _ _ h => by cases h; exact Nat.le_refl _, fun _ _ _ _ _ _ _ _ h _ => by cases h; rfl⟩
theorem loc_fail {α : Type} (e : Int) : Loc (fail e : M α) := ⟨(fun _ _ _ _ _ _ _ h => by cases h), (fun _ _ _ _ _ _ _ _ h _ => by cases h)⟩
theorem loc_tk (n : Nat) : Loc (tk n) := by
  refine ⟨fun L mo t o a t' o' h => ?_, fun L X mo t o a t' o' h ht => ?_⟩
  · unfold tk at h
    split at h <;> cases h
    omega
  · unfold tk at h ⊢
    by_cases hl : t + n ≤ (L ++ X).length
    · rw [if_pos hl] at h
      cases h
      rw [if_pos ht, List.drop_append_of_le_length (by omega), List.take_append_of_le_length (by rw [List.length_drop]; omega)]
    · rw [if_neg hl] at h; cases h
theorem loc_align : Loc align := ⟨fun _ _ _ _ _ _ _ h => by cases h; omega, fun _ _ _ _ _ _ _ _ h _ => by cases h; rfl⟩
theorem loc_put (l : List Int) : Loc (put l) := ⟨fun _ _ _ _ _ _ _ h => by cases h; exact Nat.le_refl _, fun _ _ _ _ _ _ _ _ h _ => by cases h; rfl⟩
theorem loc_copies (n b : Nat) : Loc (copies n b) := ⟨fun _ _ _ _ _ _ _ h => by cases h; exact Nat.le_refl _, fun _ _ _ _ _ _ _ _ h _ => by cases h; rfl⟩
theorem loc_far (b : Nat) : Loc (far b) := by
  refine ⟨fun L mo t o a t' o' h => ?_, fun L X mo t o a t' o' h ht => h⟩
  unfold far at h
  split at h <;> cases h
  exact Nat.le_refl _
theorem loc_room (n : Nat) : Loc (room n) := by
  refine ⟨fun L mo t o a t' o' h => ?_, fun L X mo t o a t' o' h ht => h⟩
  unfold room at h
  split at h <;> cases h
  exact Nat.le_refl _
theorem symb_inv {l : List Int} {L : List Bool} {mo t : Nat} {o : List Int} {k t' : Nat} {o' : List Int} (h : symb l L mo t o = .ok k t' o') : isCode l = true ∧ o' = o ∧ t' = t + len_ l k ∧ 0 < len_ l k ∧ wb l k <+: L.drop t := by
  unfold symb at h
  split at h
  case isFalse => cases h
  rename_i hc
  split at h
  case isFalse => split at h <;> cases h
  rename_i he
  have h2 := sym_is (l := l) (rest := L.drop t)
  obtain ⟨x, hx⟩ : ∃ x, x = sym l (L.drop t) := ⟨_, rfl⟩
  rw [← hx] at h2 h he
  obtain ⟨x1, x2, x3⟩ := x
  simp only at h2 h he
  cases h
  cases h2 with
  | hit a b => exact ⟨hc, rfl, rfl, a, b⟩
  | more a b c => cases he
  | none a b => cases he
theorem loc_symb (l : List Int) : Loc (symb l) := by
  refine ⟨fun L mo t o a t' o' h => ?_, fun L X mo t o a t' o' h ht => ?_⟩
  · obtain ⟨_, _, h3, _, _⟩ := symb_inv h
    omega
  · obtain ⟨hc, rfl, rfl, h4, h5⟩ := symb_inv h
    have h6 : wb l a <+: L.drop t := by
      rw [List.drop_append_of_le_length (by omega)] at h5
      exact List.prefix_of_prefix_length_le h5 (List.prefix_append _ _) (by rw [wb_len, List.length_drop]; omega)
    have h7 : RdIs l (L.drop t) a (len_ l a) 0 := .hit h4 h6
    unfold symb
    rw [if_pos hc, sym_of hc h7, if_pos rfl]
theorem loc_ite {α : Type} {c : Prop} [Decidable c] {a b : M α} (ha : Loc a) (hb : Loc b) : Loc (if c then a else b) := by
  split
  · exact ha
  · exact hb
theorem loc_gets : ∀ n, Loc (getsAll n)
  | 0 => loc_pure _
  | n + 1 => (loc_tk _).bind fun _ => (loc_put _).bind fun _ => loc_gets n
theorem loc_stored : Loc stored := loc_align.bind fun _ => (loc_tk _).bind fun _ => (loc_tk _).bind fun _ => loc_ite (loc_fail _) ((loc_room _).bind fun _ => loc_gets _)
theorem loc_coded (l d : List Int) : ∀ f, Loc (coded l d f)
  | 0 => loc_fail _
  | f + 1 => (loc_symb _).bind fun _ => loc_ite (loc_pure _) (loc_ite ((loc_room _).bind fun _ => (loc_put _).bind fun _ => loc_coded l d f)
    (loc_ite (loc_fail _) ((loc_tk _).bind fun _ => loc_ite (loc_fail _) ((loc_symb _).bind fun _ => loc_ite (loc_fail _) ((loc_tk _).bind fun _ => (loc_far _).bind fun _ => (loc_room _).bind fun _ => (loc_copies _ _).bind fun _ => loc_coded l d f)))))
theorem loc_smalls : ∀ n i l, Loc (smalls n i l)
  | 0, _, _ => loc_pure _
  | n + 1, i, l => (loc_tk _).bind fun _ => loc_smalls n _ _
theorem loc_times (s : Nat) (l : List Int) : Loc (times s l) := loc_ite (loc_ite (loc_fail _) ((loc_tk _).bind fun _ => loc_pure _)) (loc_ite ((loc_tk _).bind fun _ => loc_pure _) (loc_ite ((loc_tk _).bind fun _ => loc_pure _) (loc_pure _)))
theorem loc_lens (c : List Int) (total : Nat) : ∀ f l, Loc (lens c total f l)
  | 0, _ => loc_fail _
  | f + 1, l => loc_ite (loc_pure _) ((loc_symb _).bind fun _ => (loc_times _ _).bind fun _ => loc_ite (loc_fail _) (loc_lens c total f _))
theorem loc_own2 (a b : Nat) (c : List Int) : Loc (own2 a b c) := (loc_lens _ _ _ _).bind fun _ => loc_ite (loc_fail _) (loc_pure _)
theorem loc_own1 : Loc own1 := (loc_tk _).bind fun _ => (loc_tk _).bind fun _ => (loc_tk _).bind fun _ => loc_ite (loc_fail _) ((loc_smalls _ _ _).bind fun _ => loc_ite (loc_fail _) (loc_own2 _ _ _))
theorem loc_block (k : Nat) : Loc (block k) := loc_ite loc_stored (loc_ite (loc_coded _ _ _) (loc_ite (loc_own1.bind fun _ => loc_coded _ _ _) (loc_fail _)))
theorem loc_blocks : ∀ f, Loc (blocks f)
  | 0 => loc_fail _
  | f + 1 => (loc_tk _).bind fun _ => (loc_tk _).bind fun _ => (loc_block _).bind fun _ => loc_ite (loc_blocks f) (loc_pure _)
theorem infl_loc {x ex : List Int} {mo t : Nat} {u : Unit} {o : List Int} (h : infl (x ++ ex) mo = .ok u t o) (ht : t ≤ 8 * x.length) : infl x mo = .ok u t o := by
  unfold infl at h ⊢
  rw [unpack_app] at h
  exact (loc_blocks Fu).loc _ _ _ _ _ _ _ _ h (by rw [unp_len]; exact ht)
/-- a stream's own bytes say it all -/
theorem infl_cut {b : List Int} {mo t cut : Nat} {u : Unit} {o : List Int} (h : infl b mo = .ok u t o) (hc : (t + 7) / 8 ≤ cut) (hb : cut ≤ b.length) : infl (b.take cut) mo = .ok u t o := by
  refine infl_loc (ex := b.drop cut) (by rw [List.take_append_drop]; exact h) (by rw [List.length_take]; omega)
/-- no part of it can be left out -/
theorem infl_short {b : List Int} {mo t cut : Nat} {u : Unit} {o : List Int} (h : infl b mo = .ok u t o) (hc : cut < (t + 7) / 8) (hb : cut ≤ b.length) : ∃ o', infl (b.take cut) mo = .bad 4 o' := by
  have hm := infl_more (bs := b.take cut) (ex := b.drop cut) (mo := mo)
  rw [List.take_append_drop, h] at hm
  cases hR : infl (b.take cut) mo with
  | ok u2 t2 o2 =>
    rw [hR] at hm
    simp only [Res.ok.injEq] at hm
    have := infl_ok hR
    rw [List.length_take] at this
    omega
  | bad e o2 =>
    rw [hR] at hm
    simp only at hm
    by_cases he : e = 4
    · exact ⟨o2, by rw [he]⟩
    · rw [if_neg he] at hm; cases hm
end Go.Proofs.YtphojebganlbnaaDoor.S06
