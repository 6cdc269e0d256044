/-
  LISTS IN MEMORY: what a slice reads as; lists of a call's own, that grow; append, make, copy.
-/
import Derived.Test.YtgbhdpeibiglfaaDoorSepUse
set_option linter.unusedVariables false
set_option linter.unusedSimpArgs false
namespace Go.Proofs.YtgbhdpeibiglfaaDoor.Sep
open Go Go.RowKit

/-- all that was known is known still -/
def Keep (H H' : Heap) : Prop := ∀ q o, H q = some o → H' q = some o
theorem Keep.refl (H : Heap) : Keep H H := fun _ _ h => h
theorem Keep.trans {H H1 H2 : Heap} (h : Keep H H1) (k : Keep H1 H2) : Keep H H2 := fun q o e => k q o (h q o e)
theorem Keep.set_new {H H1 : Heap} (h : Keep H H1) {r : Nat} {o : Obj} (hr : H1 r = none) : Keep H (H1.set r o) := fun q x e => by
  have := h q x e
  rw [set_other (by rintro rfl; rw [hr] at this; cases this)]
  exact this
theorem Keep.set_fresh {H H1 : Heap} (h : Keep H H1) {r : Nat} {o : Obj} (hr : H r = none) : Keep H (H1.set r o) := fun q x e => by
  rw [set_other (by rintro rfl; rw [hr] at e; cases e)]
  exact h q x e
theorem Keep.none {H H1 : Heap} (h : Keep H H1) {r : Nat} (hr : H1 r = none) : H r = none := by
  cases e : H r with
  | none => rfl
  | some o => rw [h r o e] at hr; cases hr
theorem Keep.cell {H H1 : Heap} (h : Keep H H1) {a : Addr} {v : Value} (hc : H.cell? a = some v) : H1.cell? a = some v := by
  unfold Heap.cell? at hc ⊢
  cases e : H a.block with
  | none => rw [e] at hc; cases hc
  | some o => rw [e] at hc; rw [h _ _ e]; exact hc
theorem Keep.row {H H1 : Heap} (h : Keep H H1) {a : Option Addr} {cs : List Value} (hr : Row H a cs) : Row H1 a cs := fun i v hv => by
  obtain ⟨b, hb, hc⟩ := hr i v hv
  exact ⟨b, hb, h.cell hc⟩

/-- the block of a slice that begins at its block's first cell -/
def own : Value → Option Nat
  | .slice (some a) _ _ => some a.block
  | _ => none
/-- A list of a call's own: nothing, or a block whose first cells are cs. -/
inductive Own (H : Heap) (T : TypeId) (sz : Nat) : Value → List Value → Prop where
  | nil : Own H T sz (.slice none 0 0) []
  | at {r len cap : Nat} {cs rest : List Value} {f : Nat × Nat} (hb : H r = some (.cells (cs ++ rest).toArray T f)) (hf : Far f (cs ++ rest).length) (hl : cs.length = len * sz) (hr : rest.length = (cap - len) * sz) (hc : len ≤ cap) : Own H T sz (.slice (some ⟨r, 0, none⟩) len cap) cs
def Fresh (H : Heap) (v : Value) : Prop := ∀ r, own v = some r → H r = none
theorem Fresh.keep {H H1 : Heap} {v : Value} (h : Keep H H1) (hf : Fresh H1 v) : Fresh H v := fun r hr => h.none (hf r hr)
/-- Of what is known nothing beside S is turned; nothing is forgotten. -/
structure Only (S : Nat → Prop) (H H' : Heap) : Prop where
  oth : ∀ q o, H q = some o → ¬ S q → H' q = some o
  dom : ∀ q, H q ≠ none → H' q ≠ none
theorem Only.refl (S : Nat → Prop) (H : Heap) : Only S H H := ⟨fun _ _ h _ => h, fun _ h => h⟩
theorem Only.trans {S S' : Nat → Prop} {H H1 H2 : Heap} (h : Only S H H1) (k : Only S' H1 H2) (hs : ∀ q, S' q → S q ∨ H q = none) : Only S H H2 :=
  ⟨fun q o e hq => k.oth q o (h.oth q o e hq) (by
    intro h'
    rcases hs q h' with h1 | h1
    · exact hq h1
    · rw [h1] at e; cases e), fun q hq => k.dom q (h.dom q hq)⟩
theorem Only.mono {S S' : Nat → Prop} {H H' : Heap} (h : Only S H H') (hs : ∀ q, S q → S' q ∨ H q = none) : Only S' H H' := (Only.refl S' H).trans h hs
theorem Only.set {S : Nat → Prop} {H H1 : Heap} (h : Only S H H1) {r : Nat} {o : Obj} (hr : S r ∨ H r = none) : Only S H (H1.set r o) :=
  ⟨fun q x e hq => by
    rw [set_other (by
      rintro rfl
      rcases hr with hr | hr
      · exact hq hr
      · rw [hr] at e; cases e)]
    exact h.oth q x e hq, fun q hq => by
    by_cases e : q = r
    · subst e; rw [set_same]; simp
    · rw [set_other e]; exact h.dom q hq⟩
theorem Only.keep {S : Nat → Prop} {H0 H H' : Heap} (h : Only S H H') (hk : Keep H0 H) (hs : ∀ q, S q → H0 q = none) : Keep H0 H' := fun q o e => h.oth q o (hk q o e) fun e2 => by rw [hs q e2] at e; cases e
theorem Only.of_keep {S : Nat → Prop} {H H' : Heap} (h : Keep H H') : Only S H H' := ⟨fun q o e _ => h q o e, fun q hq => by
  cases e : H q with
  | none => exact absurd e hq
  | some o => rw [h q o e]; simp⟩
theorem Only.none {S : Nat → Prop} {H H' : Heap} (h : Only S H H') {q : Nat} (hq : H' q = none) : H q = none := by
  cases e : H q with
  | none => rfl
  | some o => exact absurd hq (h.dom q (by rw [e]; simp))
/-- known blocks beside v's own stay -/
abbrev Oth (H : Heap) (v : Value) (H' : Heap) : Prop := Only (fun q => own v = some q) H H'
/-- where a list of ours lies, after a call that turned it -/
def Moved (H : Heap) (v v' : Value) : Prop := own v' = own v ∨ ∃ r, own v' = some r ∧ H r = none
/-- .. and behind all that was known, if elsewhere -/
def Moved2 (H : Heap) (v v' : Value) : Prop := own v' = own v ∨ ∃ r, own v' = some r ∧ Newer H r
theorem Moved2.weak {H : Heap} {v v' : Value} (h : Moved2 H v v') : Moved H v v' := by
  rcases h with h | ⟨r, h, hr⟩
  · exact .inl h
  · exact .inr ⟨r, h, hr.none⟩
/-- nothing of a list's block is marked -/
def Z0 (H : Heap) (T : Nat) (v : Value) : Prop := ∀ r, own v = some r → ∃ c, H r = some (.cells c T (0, 0))
theorem Moved.fresh {H0 H : Heap} {v v' : Value} (h : Moved H v v') (hk : Keep H0 H) (hf : Fresh H0 v) : Fresh H0 v' := fun r hr => by
  rcases h with h | ⟨q, h, hq⟩
  · exact hf r (h ▸ hr)
  · rw [h] at hr; cases hr; exact hk.none hq
theorem Own.keep {H H' : Heap} {T sz : Nat} {v : Value} {cs : List Value} (h : Own H T sz v cs) (hk : Keep H H') : Own H' T sz v cs := by
  cases h with
  | nil => exact .nil
  | «at» hb hf hl hr hc => exact .at (hk _ _ hb) hf hl hr hc
theorem Own.only {S : Nat → Prop} {H H' : Heap} {T sz : Nat} {v : Value} {cs : List Value} (h : Own H T sz v cs) (ho : Only S H H') (hne : ∀ r, own v = some r → ¬ S r) : Own H' T sz v cs := by
  cases h with
  | nil => exact .nil
  | «at» hb hf hl hr hc => exact .at (ho.oth _ _ hb (hne _ rfl)) hf hl hr hc
theorem Own.elem {H : Heap} {T sz : Nat} {v : Value} {cs : List Value} (h : Own H T sz v cs) {q : Nat} {c : Array Value} {U : TypeId} {f : Nat × Nat} (hq : H q = some (.cells c U f)) (hne : T ≠ U) : own v ≠ some q := by
  cases h with
  | nil => simp [own]
  | «at» hb _ _ _ _ =>
    intro e
    simp only [own, Option.some.injEq] at e
    subst e
    rw [hb] at hq
    cases hq
    exact hne rfl
theorem Own.known {H : Heap} {T sz : Nat} {v : Value} {cs : List Value} (h : Own H T sz v cs) {r : Nat} (hr : own v = some r) : H r ≠ none := by
  cases h with
  | nil => cases hr
  | «at» hb hf hl hrr hc => simp only [own, Option.some.injEq] at hr; subst hr; rw [hb]; simp
theorem Moved.ne {H : Heap} {v v' u : Value} (h : Moved H v v') (hu : ∀ r, own u = some r → H r ≠ none) (hne : own v = none ∨ own v ≠ own u) : own v' = none ∨ own v' ≠ own u := by
  rcases h with h | ⟨r, h, hr⟩
  · rw [h]; exact hne
  · right; intro e; rw [h] at e; exact hu r e.symm hr
theorem row_of_block {H : Heap} {r : Nat} {cs rest : List Value} {T : TypeId} {f : Nat × Nat} (hb : H r = some (.cells (cs ++ rest).toArray T f)) : Row H (some ⟨r, 0, none⟩) cs := fun i v hv => by
  refine ⟨_, rfl, ?_⟩
  have hi := (List.getElem?_eq_some_iff.1 hv).1
  rw [add_mk, cell_of hb]
  simp only [List.getElem?_toArray, Nat.zero_add]
  rw [List.getElem?_append_left hi]
  exact hv
theorem Own.scalar {H : Heap} {T sz : Nat} {v : Value} {cs : List Value} (h : Own H T sz v cs) : scalarV v = true := by
  obtain h | h := h <;> rfl
/-- what a list of ours is -/
theorem Own.view {H : Heap} {T sz : Nat} {v : Value} {cs : List Value} (h : Own H T sz v cs) : ∃ a len cap, v = .slice a len cap ∧ cs.length = len * sz ∧ len ≤ cap ∧ Row H a cs := by
  cases h with
  | nil => exact ⟨none, 0, 0, rfl, by simp, Nat.le_refl _, fun i v hv => by simp at hv⟩
  | @«at» r len cap _ rest f hb hf hl hr hc => exact ⟨_, len, cap, rfl, hl, hc, row_of_block hb⟩

theorem Heap.loadN_row {H : Heap} {a : Addr} : ∀ (l : List Value) (i : Nat), (∀ (j : Nat) v, l[j]? = some v → H.cell? (a.add (i + j)) = some v) → H.loadN a i l.length = some l
  | [], i, h => rfl
  | v :: l, i, h => by
    have h0 := h 0 v (by simp)
    rw [Nat.add_zero] at h0
    simp only [List.length_cons, Heap.loadN, h0]
    rw [Heap.loadN_row l (i + 1) (fun j u hu => by rw [Nat.add_right_comm, Nat.add_assoc]; exact h (j + 1) u (by simpa using hu))]
    rfl
theorem Row.loadN {H : Heap} {a : Addr} {cs : List Value} (h : Row H (some a) cs) : H.loadN a 0 cs.length = some cs :=
  Heap.loadN_row cs 0 fun j v hv => by
    obtain ⟨b, e, hc⟩ := h j v hv
    cases e
    simpa using hc
theorem Row.cells {H : Heap} {a : Option Addr} {cs : List Value} {n c sz : Nat} (h : Row H a cs) (hl : cs.length = n * sz) : cellsV sz n (.slice a n c) H = some cs := by
  cases a with
  | some a => simp only [cellsV, ← hl]; exact h.loadN
  | none =>
    cases cs with
    | nil => rfl
    | cons v cs => obtain ⟨b, e, _⟩ := h 0 v (by simp); cases e

theorem Row.take {H : Heap} {a : Option Addr} {cs : List Value} (h : Row H a cs) (n : Nat) : Row H a (cs.take n) := fun i v hv => by
  rw [List.getElem?_take] at hv
  split at hv
  · exact h i v hv
  · cases hv
/-- what lies behind a cut -/
theorem Row.cut {H : Heap} {a : Option Addr} {cs : List Value} (h : Row H a cs) {c l sz : Nat} (hc : cs.length ≤ c * sz) : Row H (cutA a c l sz) (cs.drop (l * sz)) := fun i v hv => by
  rw [List.getElem?_drop] at hv
  have hlt := (List.getElem?_eq_some_iff.1 hv).1
  obtain ⟨b, rfl, hb⟩ := h _ _ hv
  unfold cutA
  rw [if_neg (by rintro rfl; omega)]
  exact ⟨b.add (l * sz), rfl, by rw [add_add]; exact hb⟩

/-- stores into a block that is known -/
theorem storeN_block {r : Nat} {T : TypeId} {f : Nat × Nat} : ∀ (new : List Value) (H : Heap) (i : Nat) (pre old post : List Value), (∀ v ∈ new, scalarV v = true) → old.length = new.length → pre.length = i → Far f (pre ++ old ++ post).length → H r = some (.cells (pre ++ old ++ post).toArray T f) →
    ∀ o, H.storeN ⟨r, o, none⟩ (i - o) new = (if o ≤ i then some (H.set r (.cells (pre ++ new ++ post).toArray T f)) else H.storeN ⟨r, o, none⟩ (i - o) new)
  | [], H, i, pre, old, post, hs, ho, hi, hf, hb, o => by
    have : old = [] := List.length_eq_zero_iff.1 (by simpa using ho)
    subst this
    split
    · simp only [Heap.storeN]
      rw [set_self (by simpa using hb)]
    · rfl
  | v :: new, H, i, pre, old, post, hs, ho, hi, hf, hb, o => by
    split
    case isFalse => rfl
    rename_i hoi
    obtain ⟨u, old, rfl⟩ : ∃ u l, old = u :: l := by cases old with | nil => simp at ho | cons u l => exact ⟨u, l, rfl⟩
    have hvs := hs v List.mem_cons_self
    have hadd : (⟨r, o, none⟩ : Addr).add (i - o) = ⟨r, i, none⟩ := by rw [add_mk]; congr 1; omega
    have hlt : i < (pre ++ (u :: old) ++ post).length := by simp; omega
    have hc : (H.cell? ⟨r, i, none⟩).isSome = true := by
      have hlt' : i < (pre ++ (u :: old) ++ post).toArray.size := by simpa using hlt
      rw [cell_of hb, Array.getElem?_eq_getElem hlt']; rfl
    simp only [Heap.storeN, hadd, hvs, hc, frozen_far hb (by simpa using hf) (by simpa using hlt), Bool.not_false, Bool.and_self, if_true]
    rw [setCell_of hb]
    have e : ((pre ++ (u :: old) ++ post).toArray.setIfInBounds i v) = ((pre ++ [v]) ++ old ++ post).toArray := by
      apply Array.ext'
      simp only [Array.toList_setIfInBounds, List.append_assoc]
      rw [List.set_append_right _ _ (by omega)]
      simp [hi]
    rw [e]
    have := storeN_block new (H.set r (.cells ((pre ++ [v]) ++ old ++ post).toArray T f)) (i + 1) (pre ++ [v]) old post (fun x hx => hs x (List.mem_cons_of_mem _ hx)) (by simpa using ho) (by simp [hi]) (by simpa using hf) set_same o
    rw [if_pos (by omega)] at this
    rw [show i - o + 1 = i + 1 - o from by omega, this, set_set]
    simp

theorem nextslicecap_le (need old : Nat) (h : old < need) : Builtin.nextslicecap need old ≤ need + need / 4 + 512 := by
  unfold Builtin.nextslicecap
  split
  · omega
  · split
    · omega
    · have key : ∀ (k c : Nat), c ≤ need + need / 4 + 512 → Builtin.growBy need k c ≤ need + need / 4 + 512 := by
        intro k
        induction k with
        | zero => intro c hc; simp only [Builtin.growBy]; omega
        | succ k ih =>
          intro c hc
          simp only [Builtin.growBy]
          split
          · omega
          · exact ih _ (by omega)
      exact key 4 old (by omega)
theorem growth {need x bytes : Nat} (h : x ≤ need + need / 4 + 512) (hb : (5 * need + 2048) * bytes ≤ 1125899906842624) : x * bytes ≤ 281474976710656 := by
  have h2 : 4 * x ≤ 5 * need + 2048 := by omega
  have h3 := Nat.mul_le_mul_right bytes h2
  rw [Nat.mul_assoc] at h3
  omega

section
variable {P : Program} {H : Heap} {T sz bytes : Nat} {zero : Array Value} {v y : Value} {cs new : List Value} {KV : Value → Heap → Prop} {KP : List PanicEntry → Heap → Prop}

/-- append onto a list of our own -/
theorem app_own2 {len : Nat} (hO : Own H T sz v cs) (hlen : cs.length = len * sz) {m : Nat} (hn : new.length = m * sz) (hz : zero.size = sz) (hsz : 0 < sz) (hs : ∀ v ∈ new, scalarV v = true) (hbd : (5 * (len + m) + 2048) * bytes ≤ 1125899906842624)
    (hk : ∀ v' H', Own H' T sz v' (cs ++ new) → Oth H v H' → Moved2 H v v' → (Z0 H T v → Z0 H' T v') → KV v' H') : ∃ a n c, v = .slice a n c ∧ n = len ∧ appE T sz bytes zero a n c m new KV H := by
  cases hO with
  | nil =>
    have hl0 : len = 0 := by
      rcases Nat.eq_zero_or_pos len with h | h
      · exact h
      · have := Nat.mul_pos h hsz; simp at hlen; omega
    subst hl0
    refine ⟨_, _, _, rfl, rfl, ?_⟩
    simp only [appE]
    refine ⟨fun h => ?_, fun h => ⟨?_, ?_⟩⟩
    · have hm0 : m = 0 := by omega
      subst hm0
      have : new = [] := List.length_eq_zero_iff.1 (by simpa using hn)
      subst this
      exact hk _ _ .nil (Only.refl _ _) (.inl rfl) fun h => h
    · exact growth (nextslicecap_le (0 + m) 0 h) hbd
    · simp only [cellsV]
      intro r c hc' hr
      refine hk _ _ (.at (f := (0, 0)) (rest := (Builtin.zeroCells zero (c - (0 + m))).toList) ?_ (.inl rfl) ?_ ?_ (by omega)) ((Only.refl _ _).set (.inr hr.none)) (.inr ⟨r, rfl, hr⟩) fun _ q hq => by cases hq; exact ⟨_, set_same⟩
      · rw [set_same]; congr 2; apply Array.ext'; simp
      · simp [hn]
      · simp [Builtin.zeroCells, hz]
  | @«at» r len' cap _ rest f hb hf hl hr hcap =>
    have hl2 : len' = len := by
      have : len' * sz = len * sz := by omega
      exact Nat.eq_of_mul_eq_mul_right hsz this
    subst hl2
    refine ⟨_, _, _, rfl, rfl, ?_⟩
    simp only [appE]
    refine ⟨fun h => ?_, fun h => ⟨?_, ?_⟩⟩
    · have hle : m * sz ≤ rest.length := by rw [hr]; exact Nat.mul_le_mul_right _ (by omega)
      have hsplit : rest = rest.take (m * sz) ++ rest.drop (m * sz) := (List.take_append_drop _ _).symm
      have hst := storeN_block (r := r) (T := T) new H (len' * sz) cs (rest.take (m * sz)) (rest.drop (m * sz)) hs (by rw [List.length_take, hn]; omega) hl (by rw [List.append_assoc, ← hsplit]; exact hf) (by rw [List.append_assoc, ← hsplit]; exact hb) (len' * sz)
      rw [if_pos (Nat.le_refl _), Nat.sub_self] at hst
      rw [add_mk, Nat.zero_add, hst]
      simp only []
      refine hk _ _ (.at (rest := rest.drop (m * sz)) set_same (hf.le (by simp [hn]; omega)) ?_ ?_ h) ((Only.refl _ _).set (.inl rfl)) (.inl rfl) (fun h0 q hq => by
        cases hq
        obtain ⟨c0, hc0⟩ := h0 r rfl
        rw [hb] at hc0
        cases hc0
        exact ⟨_, set_same⟩)
      · rw [List.length_append, hl, hn, Nat.add_mul]
      · rw [List.length_drop, hr, ← Nat.sub_mul]; congr 1; omega
    · exact growth (nextslicecap_le _ _ h) hbd
    · have hrow := row_of_block hb
      rw [hrow.cells hl]
      simp only []
      intro r' c hc' hr'
      refine hk _ _ (.at (f := (0, 0)) (rest := (Builtin.zeroCells zero (c - (len' + m))).toList) ?_ (.inl rfl) ?_ ?_ hc') ((Only.refl _ _).set (.inr hr'.none)) (.inr ⟨r', rfl, hr'⟩) fun _ q hq => by cases hq; exact ⟨_, set_same⟩
      · rw [set_same]; congr 2; apply Array.ext'; simp
      · rw [List.length_append, hl, hn, Nat.add_mul]
      · simp [Builtin.zeroCells, hz]
theorem app_own {len : Nat} (hO : Own H T sz v cs) (hlen : cs.length = len * sz) {m : Nat} (hn : new.length = m * sz) (hz : zero.size = sz) (hsz : 0 < sz) (hs : ∀ v ∈ new, scalarV v = true) (hbd : (5 * (len + m) + 2048) * bytes ≤ 1125899906842624)
    (hk : ∀ v' H', Own H' T sz v' (cs ++ new) → Oth H v H' → Moved H v v' → KV v' H') : ∃ a n c, v = .slice a n c ∧ n = len ∧ appE T sz bytes zero a n c m new KV H :=
  app_own2 hO hlen hn hz hsz hs hbd fun v' H' h1 h2 h3 _ => hk v' H' h1 h2 h3.weak
theorem a_app {len : Nat} (hO : Own H T sz v cs) (hlen : cs.length = len * sz) {m : Nat} (hm : lenV y = some m) (hc : cellsV sz m y H = some new) (hn : new.length = m * sz) (hz : zero.size = sz) (hsz : 0 < sz) (hs : ∀ v ∈ new, scalarV v = true) (hbd : (5 * (len + m) + 2048) * bytes ≤ 1125899906842624)
    (hk : ∀ v' H', Own H' T sz v' (cs ++ new) → Oth H v H' → Moved H v v' → KV v' H') : awpE P (.app T sz bytes zero) [v, y] KV KP H := by
  obtain ⟨a, n, c, rfl, -, h⟩ := app_own hO hlen hn hz hsz hs hbd hk
  simp only [awpE, hm, hc]
  exact h
theorem zerosV_len {n : Nat} (hz : zero.size = sz) : (zerosV sz zero n).length = n * sz := by
  unfold zerosV
  split
  · rename_i h; rw [h]; rfl
  · simp [Builtin.zeroCells, hz]
/-- append of a make, onto a list of our own -/
theorem a_appz {len m : Nat} {k : IntKind} (hO : Own H T sz v cs) (hlen : cs.length = len * sz) (hz : zero.size = sz) (hsz : 0 < sz) (hs : ∀ v ∈ zerosV sz zero m, scalarV v = true) (hb0 : 0 < bytes) (hbd : (5 * (len + m) + 2048) * bytes ≤ 1125899906842624)
    (hk : ∀ v' H', Own H' T sz v' (cs ++ zerosV sz zero m) → Oth H v H' → Moved H v v' → KV v' H') : awpE P (.appz T sz bytes zero) [v, .int k m] KV KP H := by
  obtain ⟨a, n, c, rfl, rfl, h⟩ := app_own hO hlen (zerosV_len hz) hz hsz hs hbd hk
  have h1 : (5 * (n + m) + 2048) * 1 ≤ (5 * (n + m) + 2048) * bytes := Nat.mul_le_mul_left _ hb0
  have h2 : m * bytes ≤ (5 * (n + m) + 2048) * bytes := Nat.mul_le_mul_right _ (by omega)
  have h3 : 5 * (m * bytes) ≤ (5 * (n + m) + 2048) * bytes := by rw [← Nat.mul_assoc]; exact Nat.mul_le_mul_right _ (by omega)
  have h4 : (m : Int) * (bytes : Int) ≤ 281474976710656 := by rw [← Int.natCast_mul]; omega
  exact ⟨by omega, by omega, h4, h⟩

/-- a store into a list of our own, one cell an element -/
theorem Own.store (hO : Own H T 1 v cs) {i : Nat} (hi : i < cs.length) {u : Value} (hu : scalarV u = true) : ∃ r c, v = .slice (some ⟨r, 0, none⟩) cs.length c ∧ ∃ cells f, H r = some (.cells cells T f) ∧ Far f cells.size ∧ i < cells.size ∧ Own (H.set r (.cells (cells.setIfInBounds i u) T f)) T 1 v (cs.set i u) := by
  cases hO with
  | nil => simp at hi
  | @«at» r len' cap _ rest f hb hf hl hr hcap =>
    have e : len' = cs.length := by omega
    subst e
    refine ⟨r, cap, rfl, _, f, hb, by simpa using hf, by simp; omega, .at (rest := rest) ?_ (by simpa using hf) (by simp) hr hcap⟩
    rw [set_same]
    congr 2
    apply Array.ext'
    simp only [Array.toList_setIfInBounds]
    rw [List.set_append_left _ _ hi]
/-- a literal of a slice -/
theorem a_lits {len : Nat} {places : List (Nat × Nat)} {xs : List Value} {cells : Array Value} (hf : (if places.length = xs.length then fillV zero (places.zip xs) else none) = some cells) (hl : cells.size = len * sz)
    (hk : ∀ r H', Own H' T sz (.slice (some ⟨r, 0, none⟩) len len) cells.toList → Keep H H' → H r = none → KV (.slice (some ⟨r, 0, none⟩) len len) H') : awpE P (.lits T zero len places) xs KV KP H := by
  have : match (if places.length = xs.length then fillV zero (places.zip xs) else none) with
    | some cs => ∀ r, H r = none → KV (.slice (some ⟨r, 0, none⟩) len len) (H.set r (.cells cs T (0, 0)))
    | none => False := by
    rw [hf]
    intro r hr
    exact hk r _ (.at (f := (0, 0)) (rest := []) (by rw [set_same]; simp) (.inl rfl) (by simpa using hl) (by simp) (Nat.le_refl _)) ((Keep.refl H).set_new hr) hr
  exact this
/-- make -/
theorem a_mks {l c : Nat} {k k' : IntKind} (hlc : l ≤ c) (hb : bytes * c ≤ 281474976710656) (hc : c ≤ 281474976710656) (hz : zero.size = sz) (hsz : 0 < sz)
    (hk : ∀ r H' rest, H' r = some (.cells ((List.replicate l zero.toList).flatten ++ rest).toArray T (0, 0)) → Own H' T sz (.slice (some ⟨r, 0, none⟩) l c) (List.replicate l zero.toList).flatten → Keep H H' → H r = none → KV (.slice (some ⟨r, 0, none⟩) l c) H') : awpE P (.mks T sz bytes zero) [.int k l, .int k' c] KV KP H := by
  have hrow : ∀ n, (rowV (if n * sz = 0 then #[] else zero) (n * sz)).toList = (List.replicate n zero.toList).flatten := by
    intro n
    by_cases h0 : n * sz = 0
    · have : n = 0 := by
        rcases Nat.eq_zero_or_pos n with h | h
        · exact h
        · have := Nat.mul_pos h hsz; omega
      subst this
      simp [rowV]
    · rw [if_neg h0]
      apply List.ext_getElem?
      intro i
      simp only [rowV, Array.toList_map, Array.toList_range, List.getElem?_map]
      by_cases hi : i < n * sz
      · have hmod : i % zero.size < zero.size := Nat.mod_lt _ (by omega)
        have e2 : (List.replicate n zero.toList).flatten[i]? = zero.toList[i % sz]? := by
          clear h0 hk hb hc hlc
          induction n generalizing i with
          | zero => simp at hi
          | succ n ih =>
            rw [List.replicate_succ, List.flatten_cons]
            by_cases h1 : i < sz
            · rw [List.getElem?_append_left (by simpa [hz] using h1), Nat.mod_eq_of_lt h1]
            · rw [List.getElem?_append_right (by simp [hz]; omega)]
              have hlen : zero.toList.length = sz := by simpa using hz
              rw [hlen, ih (i - sz) (by rw [Nat.succ_mul] at hi; omega) (Nat.mod_lt _ (by omega))]
              congr 1
              rw [Nat.mod_eq_sub_mod (a := i) (by omega)]
        rw [e2, List.getElem?_range hi]
        simp only [Option.map_some]
        rw [hz] at hmod ⊢
        have : i % sz < zero.size := by omega
        simp [Array.getElem?_toList, getElem!_pos, this]
      · have hl : ((List.replicate n zero.toList).flatten).length = n * sz := by simp [hz]
        rw [List.getElem?_eq_none (l := List.range (n * sz)) (by simp; omega), List.getElem?_eq_none (by rw [hl]; omega)]
        rfl
  refine (show 0 ≤ (l : Int) ∧ (l : Int) ≤ c ∧ (bytes : Int) * c ≤ 281474976710656 ∧ (c : Int) ≤ 281474976710656 ∧ ∀ r, H r = none → KV (.slice (some ⟨r, 0, none⟩) (l : Int).toNat (c : Int).toNat) (H.set r (.cells (rowV (if (c : Int).toNat * sz = 0 then #[] else zero) ((c : Int).toNat * sz)) T (0, 0))) from ?_)
  have hb' : (bytes : Int) * c ≤ 281474976710656 := by
    have : ((bytes * c : Nat) : Int) ≤ (281474976710656 : Nat) := Int.ofNat_le.2 hb
    rwa [Int.natCast_mul] at this
  refine ⟨by omega, by omega, hb', by omega, fun r hr => ?_⟩
  rw [Int.toNat_natCast, Int.toNat_natCast]
  have hsplit : (List.replicate c zero.toList).flatten = (List.replicate l zero.toList).flatten ++ (List.replicate (c - l) zero.toList).flatten := by
    rw [← List.flatten_append, List.replicate_append_replicate]; congr 2; omega
  have hcell : rowV (if c * sz = 0 then #[] else zero) (c * sz) = ((List.replicate l zero.toList).flatten ++ (List.replicate (c - l) zero.toList).flatten).toArray := by
    apply Array.ext'; rw [hrow, hsplit]
  rw [hcell]
  have hO : Own (H.set r (.cells ((List.replicate l zero.toList).flatten ++ (List.replicate (c - l) zero.toList).flatten).toArray T (0, 0))) T sz (.slice (some ⟨r, 0, none⟩) l c) (List.replicate l zero.toList).flatten :=
    .at set_same (.inl rfl) (by simp [hz]) (by simp [hz]) hlc
  exact hk r _ _ set_same hO ((Keep.refl H).set_new hr) hr
end
end Go.Proofs.YtgbhdpeibiglfaaDoor.Sep
