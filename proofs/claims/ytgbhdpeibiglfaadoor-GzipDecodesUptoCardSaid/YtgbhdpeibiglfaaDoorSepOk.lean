/-
  THE LOOKING OPERATIONS IN SHORT ARE THE MODEL'S.
-/
import Derived.Test.YtgbhdpeibiglfaaDoorSepLow
set_option linter.unusedVariables false
set_option linter.unusedSimpArgs false
namespace Go.Proofs.YtgbhdpeibiglfaaDoor.Sep
open Go Go.RowKit
section
variable {P : Program}

theorem awpS_sureAddr (a : Addr) (K : Res Addr → Heap → Prop) (H : Heap) : awpS P (Instr.sureAddr (.pointer (some a))) K H = K (.ok a) H := rfl
theorem awpS_asIntOf (k : IntKind) (i : Int) (K : Res (IntKind × Int) → Heap → Prop) (H : Heap) : awpS P (asIntOf (.int k i)) K H = K (.ok (k, i)) H := rfl
theorem awpS_asInt (k : IntKind) (i : Int) (K : Res Int → Heap → Prop) (H : Heap) : awpS P (asInt (.int k i)) K H = K (.ok i) H := rfl

theorem ok_load {t : TypeId} {x v : Value} {H : Heap} {b : Bool} {n : Nat} (hb : aggP P t = some b) (hn : b = true → sizeP P t = some n)
    (hv : (if b then QI.ldn n else QI.ld).ev [x] H = some v) (K : Res Value → Heap → Prop) (hK : K (.ok v) H) : awpS P (Instr.loadAt t x) K H := by
  unfold Instr.loadAt
  cases x with
  | pointer a =>
    cases a with
    | none => cases b <;> simp [QI.ev] at hv
    | some a =>
      rw [awpS_bind, awpS_sureAddr, nxt_ok, awpS_loadVar (v := v) hb hn]
      · exact hK
      · cases b with
        | true =>
          simp only [if_true, QI.ev, Option.map_eq_some_iff] at hv ⊢
          obtain ⟨l, hl, rfl⟩ := hv
          exact ⟨l, hl, rfl⟩
        | false => simpa [QI.ev] using hv
  | _ => cases b <;> simp [QI.ev] at hv

theorem ok_fieldAt {t : TypeId} {fs : Array Field} {f : Nat} {fl : Field} {n : Nat} {x v : Value} {H : Heap} (ht : P.underlying t = some (.struct fs)) (hf : fs[f]? = some fl) (hn : sizeP P fl.type = some (n + 1))
    (hv : (QI.fad fl.offset).ev [x] H = some v) (K : Res Value → Heap → Prop) (hK : K (.ok v) H) : awpS P (Instr.fieldAt t x f) K H := by
  cases x <;> simp only [QI.ev, reduceCtorEq] at hv
  rename_i a
  cases a with
  | none => simp at hv
  | some a =>
    simp only [Option.some.injEq] at hv
    subst hv
    unfold Instr.fieldAt fieldPlace
    rw [awpS_bind, awpS_underlying ht, nxt_ok]
    simp only [hf]
    rw [awpS_bind, awpS_sureAddr, nxt_ok, awpS_bind, awpS_bind, awpS_sizeOf hn, nxt_ok]
    simp only [Nat.add_one_ne_zero, if_false]
    exact hK

theorem ok_indexAt {t : TypeId} {x i v : Value} {H : Heap} {n : Nat} {q : QI} (hq : (∃ e, P.underlying t = some (.slice e) ∧ sizeP P e = some n ∧ q = .iad n) ∨ (∃ e len, P.underlying t = some (.array len e) ∧ sizeP P e = some n ∧ q = .iada len n))
    (hv : q.ev [x, i] H = some v) (K : Res Value → Heap → Prop) (hK : K (.ok v) H) : awpS P (Instr.indexAt t x i) K H := by
  rcases hq with ⟨e, ht, hn, rfl⟩ | ⟨e, len, ht, hn, rfl⟩
  · cases x <;> simp only [QI.ev, reduceCtorEq] at hv
    rename_i a ln cp
    cases a with
    | none => simp at hv
    | some a =>
      cases i <;> simp only [reduceCtorEq] at hv
      rename_i k i
      split at hv
      · rename_i hi
        obtain rfl := Option.some.inj hv
        unfold Instr.indexAt
        simp only [awpS_bind, nxt_ok, awpS_underlying ht, awpS_pure, awpS_sureAddr, awpS_asIntOf, awpS_sizeOf hn, hi, and_self, if_true]
        exact hK
      · cases hv
  · cases x <;> simp only [QI.ev, reduceCtorEq] at hv
    rename_i a
    cases a with
    | none => simp at hv
    | some a =>
      cases i <;> simp only [reduceCtorEq] at hv
      rename_i k i
      split at hv
      · rename_i hi
        obtain rfl := Option.some.inj hv
        unfold Instr.indexAt
        simp only [awpS_bind, nxt_ok, awpS_underlying ht, awpS_pure, awpS_sureAddr, awpS_asIntOf, awpS_sizeOf hn, hi, and_self, if_true]
        exact hK
      · cases hv

theorem ok_index {t : TypeId} {x i v : Value} {H : Heap} {q : QI} (hq : (P.underlying t = some .string ∧ q = .ixs) ∨ (∃ e len n b, P.underlying t = some (.array len e) ∧ aggP P e = some b ∧ sizeP P e = some n ∧ q = .ixa len n b))
    (hv : q.ev [x, i] H = some v) (K : Res Value → Heap → Prop) (hK : K (.ok v) H) : awpS P (Instr.index t x i) K H := by
  rcases hq with ⟨ht, rfl⟩ | ⟨e, len, n, b, ht, hb, hn, rfl⟩
  · cases x <;> simp only [QI.ev, reduceCtorEq] at hv
    rename_i s
    cases i <;> simp only [reduceCtorEq] at hv
    rename_i k i
    split at hv
    · rename_i hi
      obtain ⟨u, hu, rfl⟩ := Option.map_eq_some_iff.1 hv
      unfold Instr.index
      rw [awpS_bind, awpS_asIntOf, nxt_ok]
      simp only []
      rw [awpS_bind, awpS_underlying ht, nxt_ok]
      simp only [hi, if_true, hu]
      exact hK
    · cases hv
  · cases x <;> simp only [QI.ev, reduceCtorEq] at hv
    rename_i cs
    cases i <;> simp only [reduceCtorEq] at hv
    rename_i k i
    split at hv
    · rename_i hi
      unfold Instr.index
      rw [awpS_bind, awpS_asIntOf, nxt_ok]
      simp only []
      rw [awpS_bind, awpS_underlying ht, nxt_ok]
      simp only [hi, and_self, if_true]
      rw [awpS_bind, awpS_sizeOf hn, nxt_ok, awpS_part hb (fun _ => hn) hv]
      exact hK
    · cases hv

theorem ok_field {t : TypeId} {fs : Array Field} {f : Nat} {fl : Field} {x v : Value} {H : Heap} {b : Bool} {n : Nat} (ht : P.underlying t = some (.struct fs)) (hf : fs[f]? = some fl) (hb : aggP P fl.type = some b) (hn : b = true → sizeP P fl.type = some n)
    (hv : (if b then QI.fldn fl.offset n else QI.fld fl.offset).ev [x] H = some v) (K : Res Value → Heap → Prop) (hK : K (.ok v) H) : awpS P (Instr.field t x f) K H := by
  unfold Instr.field
  rw [awpS_bind, awpS_underlying ht, nxt_ok]
  simp only [hf]
  cases x with
  | agg cs =>
    rw [awpS_bind]
    show awpS P (part fl.type cs fl.offset) K H
    rw [awpS_part (v := v) hb hn]
    · exact hK
    · cases b <;> simpa [QI.ev] using hv
  | _ => cases b <;> simp [QI.ev] at hv

theorem ok_intDiv {op : BinOp} {k : IntKind} {x y : Int} {v : Value} {H : Heap} (ho : op = .quo ∨ op = .rem) (h : intV op k x y = some v) (K : Res Value → Heap → Prop) (hK : K (.ok v) H) : awpS P (Op.intDiv op k x y) K H := by
  unfold Op.intDiv
  by_cases hy : y = 0
  · rcases ho with rfl | rfl <;> simp [intV, hy] at h
  · rcases ho with rfl | rfl <;> (simp only [intV, hy, if_false, Option.some.injEq] at h ⊢; subst h; exact hK)

theorem binV_kinds {op : BinOp} {x y v : Value} (h : binV op x y = some v) : (∃ k a k' b, x = .int k a ∧ y = .int k' b) ∨ (∃ a b, x = .string a ∧ y = .string b) := by
  unfold binV at h
  split at h
  · exact .inl ⟨_, _, _, _, rfl, rfl⟩
  · exact .inl ⟨_, _, _, _, rfl, rfl⟩
  · exact .inl ⟨_, _, _, _, rfl, rfl⟩
  · exact .inr ⟨_, _, rfl, rfl⟩
  · cases h
theorem ok_binOp {op : BinOp} {t : TypeId} {x y v : Value} {H : Heap} (h : binV op x y = some v) (K : Res Value → Heap → Prop) (hK : K (.ok v) H) : awpS P (binOp op t x y) K H := by
  rcases binV_kinds h with ⟨k, a, k', b, rfl, rfl⟩ | ⟨a, b, rfl, rfl⟩
  · by_cases hs : op = .shl ∨ op = .shr
    · rcases hs with rfl | rfl <;>
      · simp only [binV, shiftV] at h
        split at h
        · cases h
        · rename_i hb
          simp only [Option.some.injEq] at h
          subst h
          simp only [binOp, Op.shift, hb, if_false]
          exact hK
    · have h' : (if k = k' then intV op k a b else none) = some v := by
        cases op <;> first | exact h | (exact absurd (.inl rfl) hs) | (exact absurd (.inr rfl) hs)
      split at h'
      · rename_i hk
        subst hk
        cases op <;> first
          | exact absurd (.inl rfl) hs
          | exact absurd (.inr rfl) hs
          | (simp only [binOp, ne_eq, not_true_eq_false, if_false]; exact ok_intDiv (by simp) h' K hK)
          | (simp only [intV, Option.some.injEq] at h'; subst h'; simp only [binOp, ne_eq, not_true_eq_false, if_false]; exact hK)
      · cases h'
  · have h' : strV op a b = some v := by cases op <;> first | exact h | cases h
    unfold strV at h'
    cases op <;> simp only [reduceCtorEq, Option.some.injEq] at h' <;> first
      | (subst h'; exact hK)
      | (split at h'
         · cases h'
         · rename_i hs
           obtain rfl := Option.some.inj h'
           simp only [binOp, Op.stringOp, hs, if_false]
           exact hK)

theorem ok_eqGuard {op : BinOp} {t : TypeId} {x y : Operand} {a b : Value} {H : Heap} (hn : ¬ (a = .nilIface ∧ b = .nilIface)) (ha : ∀ cs ds, ¬ (a = .agg cs ∧ b = .agg ds)) (K : Res Unit → Heap → Prop) (hK : K (.ok ()) H) : awpS P (eqGuard op t x y a b) K H := by
  unfold eqGuard
  cases op
  all_goals first
    | exact hK
    | (cases a <;> cases b <;> first
        | exact hK
        | exact absurd ⟨rfl, rfl⟩ hn
        | exact absurd ⟨rfl, rfl⟩ (ha _ _))

theorem ok_equal {t : TypeId} {x y : Value} {H : Heap} {r : Bool} (h : (P.underlying t = some .bool ∧ ∃ a b, x = .bool a ∧ y = .bool b ∧ r = (a == b)) ∨
    (∃ e, P.underlying t = some (.pointer e) ∧ ((∃ b, x = .pointer none ∧ y = .pointer b ∧ r = b.isNone) ∨ (∃ a, x = .pointer (some a) ∧ y = .pointer none ∧ r = false))) ∨
    (∃ e, P.underlying t = some (.slice e) ∧ ((∃ n c b n' c', x = .slice none n c ∧ y = .slice b n' c' ∧ r = b.isNone) ∨ (∃ a n c n' c', x = .slice (some a) n c ∧ y = .slice none n' c' ∧ r = false))))
    (K : Res Bool → Heap → Prop) (hK : K (.ok r) H) : awpS P (Op.equal t x y) K H := by
  unfold Op.equal Op.maxDepth Op.equalIn
  rcases h with ⟨ht, a, b, rfl, rfl, rfl⟩ | ⟨e, ht, ⟨b, rfl, rfl, rfl⟩ | ⟨a, rfl, rfl, rfl⟩⟩ | ⟨e, ht, ⟨n, c, b, n', c', rfl, rfl, rfl⟩ | ⟨a, n, c, n', c', rfl, rfl, rfl⟩⟩ <;>
    (rw [awpS_bind, awpS_underlying ht, nxt_ok]; exact hK)

theorem ok_un {op : UnOp} {x v : Value} {H : Heap} (h : unV op x = some v) (K : Res Value → Heap → Prop) (hK : K (.ok v) H) : awpS P (Op.unary op x) K H := by
  unfold unV at h
  split at h <;> simp only [reduceCtorEq, Option.some.injEq] at h <;> (subst h; exact hK)

theorem forIn_push (bs : List UInt8) : ∀ (l : List Value) (s : ByteArray), l.mapM Sep.byteOf = some bs → ∀ (K : Res ByteArray → Heap → Prop) (H : Heap), K (.ok ⟨s.data ++ bs.toArray⟩) H →
    awpS P (forIn l s fun c r => match c with
      | .int .u8 n => pure (.yield (r.push (UInt8.ofNat n.toNat)))
      | _ => stuck "bytesToString: byte expected") K H := by
  induction bs with
  | nil =>
    intro l s h K H hK
    cases l with
    | nil => 
      show K (.ok s) H
      simpa using hK
    | cons c l => 
      simp only [List.mapM_cons, Option.bind_eq_bind, Option.bind_eq_some_iff, Option.pure_def] at h
      obtain ⟨a, _, b, _, h3⟩ := h
      cases h3
  | cons u bs ih =>
    intro l s h K H hK
    cases l with
    | nil => simp at h
    | cons c l =>
      simp only [List.mapM_cons, Option.bind_eq_bind, Option.bind_eq_some_iff, Option.pure_def, Option.some.injEq, List.cons.injEq] at h
      obtain ⟨a, ha, b, hb, rfl, rfl⟩ := h
      unfold Sep.byteOf at ha
      split at ha
      · obtain rfl := Option.some.inj ha
        rw [List.forIn_cons, awpS_bind]
        show awpS P (forIn l _ _) K H
        apply ih l _ hb K H
        have e : (⟨(s.push (UInt8.ofNat (Int.toNat ‹_›))).data ++ b.toArray⟩ : ByteArray) = ⟨s.data ++ (UInt8.ofNat (Int.toNat ‹_›) :: b).toArray⟩ := by
          cases s; simp [ByteArray.push]
        rw [e]; exact hK
      · cases ha

theorem ok_b2s {x v : Value} {H : Heap} (h : QI.ev .b2s [x] H = some v) (K : Res Value → Heap → Prop) (hK : K (.ok v) H) : awpS P (Conv.bytesToString x) K H := by
  cases x <;> simp only [QI.ev, reduceCtorEq] at h
  rename_i a n c
  cases a with
  | none => obtain rfl := Option.some.inj h; exact hK
  | some a =>
    simp only [] at h
    cases hl : H.loadN a 0 n with
    | none => rw [hl] at h; cases h
    | some l =>
      rw [hl] at h
      obtain ⟨bs, hbs, rfl⟩ := Option.map_eq_some_iff.1 h
      unfold Conv.bytesToString
      simp only []
      rw [awpS_bind, awpS_loadCells hl, nxt_ok, awpS_bind]
      rw [← Array.forIn_toList]
      refine forIn_push bs l ByteArray.empty hbs _ H ?_
      rw [nxt_ok, awpS_pure]
      simpa using hK
end
end Go.Proofs.YtgbhdpeibiglfaaDoor.Sep
