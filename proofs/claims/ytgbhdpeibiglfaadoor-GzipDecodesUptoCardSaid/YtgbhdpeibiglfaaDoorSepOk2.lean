/-
  THE OPERATIONS IN SHORT ARE THE MODEL'S: all of them.
-/
import Derived.Test.YtgbhdpeibiglfaaDoorSepOk
import Derived.Laws.Sem
set_option linter.unusedVariables false
set_option linter.unusedSimpArgs false
namespace Go.Proofs.YtgbhdpeibiglfaaDoor.Sep
open Go Go.RowKit
section
variable {P : Program}

theorem awpS_mapL {α β : Type} (g : α → Sem β) (g' : α → β) : ∀ (l : List α) (h : ∀ x ∈ l, ∀ (K : Res β → Heap → Prop) H, awpS P (g x) K H = K (.ok (g' x)) H) (K : Res (List β) → Heap → Prop) (H : Heap), awpS P (l.mapM g) K H = K (.ok (l.map g')) H
  | [], h, K, H => by rw [List.mapM_nil]; rfl
  | x :: l, h, K, H => by
    rw [List.mapM_cons, awpS_bind, h x (by simp), nxt_ok, awpS_bind, awpS_mapL g g' l (fun y hy => h y (by simp [hy])), nxt_ok]
    rfl
theorem awpS_mapA {α β : Type} (g : α → Sem β) (g' : α → β) (l : Array α) (h : ∀ x ∈ l, ∀ (K : Res β → Heap → Prop) H, awpS P (g x) K H = K (.ok (g' x)) H) (K : Res (Array β) → Heap → Prop) (H : Heap) : awpS P (l.mapM g) K H = K (.ok (l.map g')) H := by
  rw [Array.mapM_eq_mapM_toList, ← bind_pure_comp, awpS_bind, awpS_mapL g g' l.toList (fun x hx => h x (by simpa using hx)), nxt_ok]
  show K (.ok (l.toList.map g').toArray) H = _
  rw [← Array.toList_map]

theorem fill_fillV (place : Nat → Option (Nat × Nat)) (ρ : Operand → Value) : ∀ (parts : List (Nat × Operand)) (ps : List (Nat × Nat)) (cells : Array Value), ps.length = parts.length → (∀ (j : Nat) i x p, parts[j]? = some (i, x) → ps[j]? = some p → place i = some p) →
    Instr.fill place cells (parts.map fun (i, x) => (i, ρ x)) = fillV cells (ps.zip (parts.map fun p => ρ p.2))
  | [], [], cells, _, _ => rfl
  | [], _ :: _, cells, hl, _ => by simp at hl
  | _ :: _, [], cells, hl, _ => by simp at hl
  | (i, x) :: parts, (off, sz) :: ps, cells, hl, h => by
    have h0 := h 0 i x (off, sz) (by simp) (by simp)
    simp only [List.map_cons, Instr.fill, h0, List.zip_cons_cons, fillV]
    split
    · rfl
    · exact fill_fillV place ρ parts ps _ (by simpa using hl) (fun j k y p hj hp => h (j + 1) k y p (by simpa using hj) (by simpa using hp))

theorem mapM_some_get {α β : Type} {f : α → Option β} : ∀ {l : List α} {r : List β}, l.mapM f = some r → r.length = l.length ∧ ∀ (j : Nat) a b, l[j]? = some a → r[j]? = some b → f a = some b
  | [], r, h => by simp at h; subst h; simp
  | x :: l, r, h => by
    simp only [List.mapM_cons, Option.bind_eq_bind, Option.bind_eq_some_iff, Option.pure_def, Option.some.injEq] at h
    obtain ⟨y, hy, r', hr, rfl⟩ := h
    obtain ⟨h1, h2⟩ := mapM_some_get hr
    refine ⟨by simp [h1], fun j a b ha hb => ?_⟩
    cases j with
    | zero => simp at ha hb; subst ha hb; exact hy
    | succ j => exact h2 j a b (by simpa using ha) (by simpa using hb)

theorem zeroP_some {t : TypeId} {z : Array Value} (h : zeroP P t = some z) : ∃ i v, P.info? t = some i ∧ i.zero = some v ∧ v.cells = z := by
  obtain ⟨i, hi, h⟩ := Option.bind_eq_some_iff.1 h
  obtain ⟨v, hv, rfl⟩ := Option.map_eq_some_iff.1 h
  exact ⟨i, v, hi, hv, rfl⟩

theorem ok_build {t : TypeId} {z : Array Value} {ps : List (Nat × Nat)} {parts : Array (Nat × Operand)} {ρ : Operand → Value} {v : Value} {H : Heap} (hz : zeroP P t = some z)
    (hp : (∃ fs, P.underlying t = some (.struct fs) ∧ fieldPlaces P fs parts.toList = some ps) ∨ (∃ n e s, P.underlying t = some (.array n e) ∧ sizeP P e = some s ∧ ps = parts.toList.map fun (i, _) => (i * s, s)))
    (hv : (QI.build z ps).ev ((parts.toList.map (·.2)).map ρ) H = some v) (K : Res Value → Heap → Prop) (hK : K (.ok v) H) : awpS P (Instr.build t (parts.map fun (i, x) => (i, ρ x))) K H := by
  obtain ⟨i, zv, hi, hzv, rfl⟩ := zeroP_some hz
  simp only [QI.ev] at hv
  split at hv
  case isFalse => cases hv
  rename_i hl
  obtain ⟨cs, hcs, rfl⟩ := Option.map_eq_some_iff.1 hv
  unfold Instr.build
  rw [awpS_bind, awpS_zeroValue hi hzv, nxt_ok]
  simp only []
  rcases hp with ⟨fs, ht, hps⟩ | ⟨n, e, s, ht, hs, rfl⟩
  · unfold fieldPlaces at hps
    split at hps
    case isFalse => cases hps
    rename_i hall
    rw [awpS_bind, awpS_underlying ht, nxt_ok]
    simp only []
    rw [awpS_bind, awpS_mapA _ (fun f => (f.offset, (sizeP P f.type).getD 0)) fs (fun f hf K H => by
      have h1 : (sizeP P f.type).isSome = true := Array.all_eq_true_iff_forall_mem.1 hall f hf
      obtain ⟨n, hn⟩ := Option.isSome_iff_exists.1 h1
      rw [awpS_bind, awpS_sizeOf hn, nxt_ok, hn]; rfl), nxt_ok]
    obtain ⟨h1, h2⟩ := mapM_some_get hps
    have hf := fill_fillV (fun i => (fs.map (fun f => (f.offset, (sizeP P f.type).getD 0)))[i]?) ρ parts.toList ps zv.cells h1 (fun j i x p hj hp => by
      have := h2 j (i, x) p hj hp
      simp only [] at this
      cases hfi : fs[i]? with
      | none => rw [hfi] at this; cases this
      | some f =>
        rw [hfi] at this
        obtain ⟨s, hs, rfl⟩ := Option.map_eq_some_iff.1 this
        simp [Array.getElem?_map, hfi, hs])
    have e1 : (parts.map fun (i, x) => (i, ρ x)).toList = parts.toList.map fun (i, x) => (i, ρ x) := by simp
    rw [List.map_map] at hcs
    rw [e1, hf, show (List.map (fun p : Nat × Operand => ρ p.2) parts.toList) = List.map (ρ ∘ fun x => x.2) parts.toList from rfl, hcs]
    exact hK
  · rw [awpS_bind, awpS_underlying ht, nxt_ok]
    simp only []
    rw [awpS_bind, awpS_sizeOf hs, nxt_ok]
    have hf := fill_fillV (fun i => some (i * s, s)) ρ parts.toList (parts.toList.map fun (i, _) => (i * s, s)) zv.cells (by simp) (fun j i x p hj hp => by
      simp only [List.getElem?_map, hj, Option.map_some, Option.some.injEq] at hp
      rw [hp])
    have e1 : (parts.map fun (i, x) => (i, ρ x)).toList = parts.toList.map fun (i, x) => (i, ρ x) := by simp
    rw [List.map_map] at hcs
    rw [e1, hf, show (List.map (fun p : Nat × Operand => ρ p.2) parts.toList) = List.map (ρ ∘ fun x => x.2) parts.toList from rfl, hcs]
    exact hK

theorem awpS_val (s : Sem Value) (K : Res Next → Heap → Prop) (H : Heap) : awpS P (do pure (Next.value (← s))) K H = awpS P s (nxt P (fun v => pure (Next.value v)) K) H := awpS_bind _ _ _ _
theorem valK {K : Res Next → Heap → Prop} {v : Value} {H : Heap} (hK : K (.ok (.value v)) H) : nxt P (fun v => pure (Next.value v)) K (.ok v) H := hK

theorem ok_slice {t : TypeId} {x v : Value} {lo hi mx : Option Operand} {ρ : Operand → Value} {H : Heap} {q : QI}
    (hq : (P.underlying t = some .string ∧ mx = none ∧ q = .sls lo.isSome hi.isSome) ∨ (∃ e n, P.underlying t = some (.slice e) ∧ sizeP P e = some n ∧ q = .slc n lo.isSome hi.isSome mx.isSome) ∨
      (∃ n e s, P.underlying t = some (.array n e) ∧ sizeP P e = some s ∧ mx = none ∧ q = .sla n s lo.isSome hi.isSome))
    (hv : q.ev (x :: (boundOps lo hi mx).map ρ) H = some v) (K : Res Value → Heap → Prop) (hK : K (.ok v) H) : awpS P (Instr.sliceAt t x (lo.map ρ) (hi.map ρ) (mx.map ρ)) K H := by
  unfold Instr.sliceAt
  rcases hq with ⟨ht, rfl, rfl⟩ | ⟨e, n, ht, hn, rfl⟩ | ⟨n, e, s, ht, hs, rfl, rfl⟩
  · rw [awpS_bind, awpS_underlying ht, nxt_ok]
    simp only []
    cases x <;> simp only [QI.ev, reduceCtorEq] at hv
    rename_i s
    obtain ⟨r, hr, rfl⟩ := Option.map_eq_some_iff.1 hv
    unfold Instr.slice
    rw [awpS_bind, awpS_underlying ht, nxt_ok]
    simp only [Option.map_none, Option.isSome_none, Bool.false_eq_true, if_false]
    have := awpS_sliceBounds (P := P) (isSlice := false) (mx := none) hr
    simp only [Option.map_none] at this
    rw [awpS_bind, this, nxt_ok]
    exact hK
  · rw [awpS_bind, awpS_underlying ht, nxt_ok]
    simp only []
    cases x <;> simp only [QI.ev, reduceCtorEq] at hv
    rename_i a ln cp
    obtain ⟨r, hr, rfl⟩ := Option.map_eq_some_iff.1 hv
    unfold Instr.slice
    rw [awpS_bind, awpS_underlying ht, nxt_ok]
    simp only []
    rw [awpS_bind, awpS_sliceBounds hr, nxt_ok, awpS_bind, awpS_sizeOf hn, nxt_ok]
    exact hK
  · rw [awpS_bind, awpS_underlying ht, nxt_ok]
    simp only []
    cases x <;> simp only [QI.ev, reduceCtorEq] at hv
    rename_i a
    cases a with
    | none => simp at hv
    | some a =>
      obtain ⟨r, hr, rfl⟩ := Option.map_eq_some_iff.1 hv
      rw [awpS_bind, awpS_sureAddr, nxt_ok]
      have := awpS_sliceBounds (P := P) (isSlice := false) (mx := none) hr
      simp only [Option.map_none] at this
      simp only [Option.map_none]
      rw [awpS_bind, this, nxt_ok, awpS_bind, awpS_sizeOf hs, nxt_ok]
      exact hK

theorem ok_conv {s d : TypeId} {x v : Value} {H : Heap} {q : QI} (hq : (∃ j k, P.underlying s = some (.int j) ∧ P.underlying d = some (.int k) ∧ q = .cvi k) ∨ (P.underlying s = some .string ∧ P.underlying d = some .string ∧ q = .idv) ∨
      (∃ e, P.underlying s = some (.slice e) ∧ P.underlying d = some .string ∧ P.underlying e = some (.int .u8) ∧ q = .b2s))
    (hv : q.ev [x] H = some v) (K : Res Value → Heap → Prop) (hK : K (.ok v) H) : awpS P (convert s d x) K H := by
  unfold convert
  rcases hq with ⟨j, k, hs, hd, rfl⟩ | ⟨hs, hd, rfl⟩ | ⟨e, hs, hd, he, rfl⟩
  · cases x <;> simp only [QI.ev, reduceCtorEq] at hv
    obtain rfl := Option.some.inj hv
    rw [awpS_bind, awpS_underlying hs, nxt_ok, awpS_bind, awpS_underlying hd, nxt_ok]
    exact hK
  · cases x <;> simp only [QI.ev, reduceCtorEq] at hv
    obtain rfl := Option.some.inj hv
    rw [awpS_bind, awpS_underlying hs, nxt_ok, awpS_bind, awpS_underlying hd, nxt_ok]
    exact hK
  · rw [awpS_bind, awpS_underlying hs, nxt_ok, awpS_bind, awpS_underlying hd, nxt_ok]
    have hx : ∃ a n c, x = .slice a n c := by cases x <;> simp [QI.ev] at hv <;> exact ⟨_, _, _, rfl⟩
    obtain ⟨a, n, c, rfl⟩ := hx
    simp only []
    rw [awpS_bind, awpS_underlying he, nxt_ok]
    exact ok_b2s hv K hK

theorem ok_eq {op : BinOp} {t : TypeId} {x y : Operand} {a b v : Value} {H : Heap} {q : QI} {neg : Bool} (ho : op = if neg then .neq else .eql)
    (hq : (P.underlying t = some .bool ∧ q = .eqb neg) ∨ (∃ e, P.underlying t = some (.pointer e) ∧ q = .eqp neg) ∨ (∃ e, P.underlying t = some (.slice e) ∧ q = .eqs neg))
    (hv : q.ev [a, b] H = some v) (K : Res Value → Heap → Prop) (hK : K (.ok v) H) : awpS P (do eqGuard op t x y a b; binOp op t a b) K H := by
  have key : ∀ r, v = .bool (r != neg) → (∀ K : Res Bool → Heap → Prop, K (.ok r) H → awpS P (Op.equal t a b) K H) → (∀ k n, a ≠ .int k n) → (∀ k n, a ≠ .float k n) → (∀ k n m, a ≠ .complex k n m) → (∀ s, a ≠ .string s) → awpS P (binOp op t a b) K H := by
    intro r hr he h1 h2 h3 h4
    subst hr ho
    cases neg with
    | false =>
      have : binOp .eql t a b = (do pure (.bool (← Op.equal t a b))) := by cases a <;> first | rfl | (exact absurd rfl (h1 _ _)) | (exact absurd rfl (h2 _ _)) | (exact absurd rfl (h3 _ _ _)) | (exact absurd rfl (h4 _))
      simp only [Bool.false_eq_true, if_false]
      rw [this, awpS_bind]
      exact he _ (by rw [nxt_ok, awpS_pure]; simpa using hK)
    | true =>
      have : binOp .neq t a b = (do pure (.bool (!(← Op.equal t a b)))) := by cases a <;> first | rfl | (exact absurd rfl (h1 _ _)) | (exact absurd rfl (h2 _ _)) | (exact absurd rfl (h3 _ _ _)) | (exact absurd rfl (h4 _))
      simp only [if_true]
      rw [this, awpS_bind]
      exact he _ (by rw [nxt_ok, awpS_pure]; cases r <;> simpa using hK)
  rw [awpS_bind]
  rcases hq with ⟨ht, rfl⟩ | ⟨e, ht, rfl⟩ | ⟨e, ht, rfl⟩
  · cases a <;> simp only [QI.ev, reduceCtorEq] at hv
    rename_i p
    cases b <;> simp only [reduceCtorEq] at hv
    rename_i r
    refine ok_eqGuard (by simp) (by simp) _ ?_
    exact key (p == r) (Option.some.inj hv).symm (fun K hK => ok_equal (.inl ⟨ht, p, r, rfl, rfl, rfl⟩) K hK) (by simp) (by simp) (by simp) (by simp)
  · cases a <;> simp only [QI.ev, reduceCtorEq] at hv
    rename_i p
    refine ok_eqGuard (by simp) (by simp) _ ?_
    cases p with
    | none =>
      cases b <;> simp only [QI.ev, reduceCtorEq] at hv
      rename_i r
      exact key r.isNone (Option.some.inj hv).symm (fun K hK => ok_equal (.inr (.inl ⟨e, ht, .inl ⟨r, rfl, rfl, rfl⟩⟩)) K hK) (by simp) (by simp) (by simp) (by simp)
    | some p =>
      cases b <;> (try (cases hv; done))
      rename_i r
      cases r with
      | some r => simp at hv
      | none => exact key false (Option.some.inj hv).symm (fun K hK => ok_equal (.inr (.inl ⟨e, ht, .inr ⟨p, rfl, rfl, rfl⟩⟩)) K hK) (by simp) (by simp) (by simp) (by simp)
  · cases a <;> simp only [QI.ev, reduceCtorEq] at hv
    rename_i p n c
    refine ok_eqGuard (by simp) (by simp) _ ?_
    cases p with
    | none =>
      cases b <;> simp only [reduceCtorEq] at hv
      rename_i r n' c'
      exact key r.isNone (Option.some.inj hv).symm (fun K hK => ok_equal (.inr (.inr ⟨e, ht, .inl ⟨n, c, r, n', c', rfl, rfl, rfl⟩⟩)) K hK) (by simp) (by simp) (by simp) (by simp)
    | some p =>
      cases b <;> (try (cases hv; done))
      rename_i r n' c'
      cases r with
      | some r => simp at hv
      | none => exact key false (Option.some.inj hv).symm (fun K hK => ok_equal (.inr (.inr ⟨e, ht, .inr ⟨p, n, c, n', c', rfl, rfl, rfl⟩⟩)) K hK) (by simp) (by simp) (by simp) (by simp)
theorem ok_ein {op : BinOp} {t : TypeId} {x : Operand} {a b v : Value} {H : Heap} {neg : Bool} {ms : Array (String × TypeId)} (ho : op = if neg then .neq else .eql) (ht : P.underlying t = some (.interface ms))
    (hv : (QI.ein neg).ev [a, b] H = some v) (K : Res Value → Heap → Prop) (hK : K (.ok v) H) : awpS P (do eqGuard op t x (.const .nilIface) a b; binOp op t a b) K H := by
  obtain rfl : b = .nilIface := by cases a <;> cases b <;> first | rfl | (simp [QI.ev] at hv)
  have hne : op = .neq ∨ op = .eql := by cases neg <;> simp [ho]
  have hg : ∀ K' : Res Unit → Heap → Prop, K' (.ok ()) H → awpS P (eqGuard op t x (.const .nilIface) a .nilIface) K' H := by
    intro K' hK'
    unfold eqGuard
    rcases hne with rfl | rfl <;> (cases a <;> first | exact hK' | (cases x <;> exact hK'))
  rw [awpS_bind]
  refine hg _ ?_
  rw [nxt_ok]
  have he : ∀ r, (∀ K : Res Bool → Heap → Prop, K (.ok r) H → awpS P (Op.equal t a .nilIface) K H) → v = .bool (r != neg) → (∀ k n, a ≠ .int k n) → (∀ k n, a ≠ .float k n) → (∀ k n m, a ≠ .complex k n m) → (∀ s, a ≠ .string s) → awpS P (binOp op t a .nilIface) K H := by
    intro r he hr h1 h2 h3 h4
    subst hr ho
    cases neg with
    | false =>
      have : binOp .eql t a .nilIface = (do pure (.bool (← Op.equal t a .nilIface))) := by cases a <;> first | rfl | (exact absurd rfl (h1 _ _)) | (exact absurd rfl (h2 _ _)) | (exact absurd rfl (h3 _ _ _)) | (exact absurd rfl (h4 _))
      simp only [Bool.false_eq_true, if_false]
      rw [this, awpS_bind]
      exact he _ (by rw [nxt_ok, awpS_pure]; simpa using hK)
    | true =>
      have : binOp .neq t a .nilIface = (do pure (.bool (!(← Op.equal t a .nilIface)))) := by cases a <;> first | rfl | (exact absurd rfl (h1 _ _)) | (exact absurd rfl (h2 _ _)) | (exact absurd rfl (h3 _ _ _)) | (exact absurd rfl (h4 _))
      simp only [if_true]
      rw [this, awpS_bind]
      exact he _ (by rw [nxt_ok, awpS_pure]; cases r <;> simpa using hK)
  cases a <;> simp only [QI.ev, reduceCtorEq, Option.some.injEq] at hv
  · exact he false (fun K hK => by
      unfold Op.equal Op.maxDepth Op.equalIn
      rw [awpS_bind, awpS_underlying ht, nxt_ok]; exact hK) hv.symm (by simp) (by simp) (by simp) (by simp)
  · exact he true (fun K hK => by
      unfold Op.equal Op.maxDepth Op.equalIn
      rw [awpS_bind, awpS_underlying ht, nxt_ok]; exact hK) hv.symm (by simp) (by simp) (by simp) (by simp)
end
end Go.Proofs.YtgbhdpeibiglfaaDoor.Sep
