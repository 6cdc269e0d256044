/-
  WHAT ALL CHAPTERS SHARE: bytes in memory, elements of several cells, stores and copies into lists of a call's own.
-/
import Derived.Test.YtgbhdpeibiglfaaDoorSepTy
set_option linter.unusedVariables false
set_option linter.unusedSimpArgs false
namespace Go.Proofs.YtgbhdpeibiglfaaDoor.Lib
open Go Go.RowKit Go.Proofs.YtgbhdpeibiglfaaDoor.Sep

theorem gd_u {P : Program} {want : Bool} {i : Nat} {ins : Ins} {args : List Operand} {re : List Nat} {keep : Bool} {rest : List Stp} {dst : Option Tmp} {D : Done} {K : Env → Heap → Prop} {KP : List PanicEntry → Heap → Prop} {env : Env} {H : Heap} : goG P undef want i ins args re keep rest dst D K KP env H = awpL P rest D K KP (env.put dst undef) H := rfl
/-- further steps in one -/
theorem Zx : (type_of% @decide_true) ∧ (type_of% @decide_false) ∧ (type_of% @Bool.not_true) ∧ (type_of% @Bool.not_false) ∧ (type_of% @Int.toNat_one) ∧ (type_of% @Int.toNat_zero) ∧ (type_of% @Nat.zero_mul) ∧ (type_of% @gd_u) := ⟨@decide_true, @decide_false, @Bool.not_true, @Bool.not_false, @Int.toNat_one, @Int.toNat_zero, @Nat.zero_mul, @gd_u⟩
abbrev by8 (l : List Int) : List Value := l.map (.int .u8)
abbrev by64 (l : List Int) : List Value := l.map (.int .i64)
theorem map_scalar {α : Type} (f : α → Value) (hf : ∀ x, scalarV (f x) = true) (l : List α) : ∀ v ∈ l.map f, scalarV v = true := by
  intro v hv
  obtain ⟨x, _, rfl⟩ := List.mem_map.1 hv
  exact hf x
theorem by8_scalar (l : List Int) : ∀ v ∈ by8 l, scalarV v = true := map_scalar _ (fun _ => rfl) l
theorem by64_scalar (l : List Int) : ∀ v ∈ by64 l, scalarV v = true := map_scalar _ (fun _ => rfl) l

/-- what the temporaries hold is forgotten, but for R -/
theorem e_gen {P : Program} {e : EI} {xs : List Value} {rest : List Stp} {dst : Option Tmp} {K : Env → Heap → Prop} {KP : List PanicEntry → Heap → Prop} {env : Env} {H : Heap} (R : Env → Prop) (hR : R env) (h : ∀ env, R env → goE P e xs rest dst K KP env H) : goE P e xs rest dst K KP env H := h env hR
/-- two lists of our own of different types -/
theorem apart {H : Heap} {T U sz sz' : Nat} {v u : Value} {cs ds : List Value} (h : Own H T sz v cs) (k : Own H U sz' u ds) (hne : T ≠ U) {r : Nat} (hv : own v = some r) : own u ≠ some r := by
  intro hu
  cases h with
  | nil => cases hv
  | @«at» r' _ _ _ _ _ hb _ _ _ _ =>
    cases hv
    exact k.elem hb (Ne.symm hne) hu
/-- one cell of a list of our own is stored -/
theorem storeC {H : Heap} {T sz : Nat} {v : Value} {cs : List Value} (hO : Own H T sz v cs) {j : Nat} (hj : j < cs.length) {u : Value} (hu : scalarV u = true) :
    ∃ r len c, v = .slice (some ⟨r, 0, none⟩) len c ∧ len * sz = cs.length ∧ ∃ cells f, H r = some (.cells cells T f) ∧ Far f cells.size ∧ j < cells.size ∧ Own (H.set r (.cells (cells.setIfInBounds j u) T f)) T sz v (cs.set j u) := by
  cases hO with
  | nil => simp at hj
  | @«at» r len cap _ rest f hb hf hl hr hcap =>
    refine ⟨r, len, cap, rfl, hl.symm, _, f, hb, by simpa using hf, by simp; omega, .at (rest := rest) ?_ (by simpa using hf) (by simpa using hl) hr hcap⟩
    rw [set_same]
    congr 2
    apply Array.ext'
    simp only [Array.toList_setIfInBounds]
    rw [List.set_append_left _ _ hj]
theorem a_storeC {P : Program} {H : Heap} {T sz : Nat} {cs : List Value} {r len c j : Nat} {u : Value} {KV : Value → Heap → Prop} {KP : List PanicEntry → Heap → Prop} (hO : Own H T sz (.slice (some ⟨r, 0, none⟩) len c) cs) (hj : j < cs.length) (hu : scalarV u = true)
    (hk : ∀ H', Own H' T sz (.slice (some ⟨r, 0, none⟩) len c) (cs.set j u) → Oth H (.slice (some ⟨r, 0, none⟩) len c) H' → KV undef H') : awpE P (.st 1) [.pointer (some ⟨r, j, none⟩), u] KV KP H := by
  obtain ⟨r', len', c', e, hl, cells, f, hb, hf, hjs, hO2⟩ := storeC hO hj hu
  cases e
  exact st_onef hb hf hjs hu (hk _ hO2 ((Only.refl _ _).set (.inl rfl)))
/-- some cells of a list of our own are stored -/
theorem storeCs {H : Heap} {T sz : Nat} {cs new : List Value} {r len c j : Nat} (hO : Own H T sz (.slice (some ⟨r, 0, none⟩) len c) cs) (hj : j + new.length ≤ cs.length) (hs : ∀ v ∈ new, scalarV v = true) :
    ∃ H', H.storeN ⟨r, j, none⟩ 0 new = some H' ∧ Own H' T sz (.slice (some ⟨r, 0, none⟩) len c) (cs.take j ++ new ++ cs.drop (j + new.length)) ∧ Oth H (.slice (some ⟨r, 0, none⟩) len c) H' := by
  cases hO with
  | @«at» _ _ _ _ rest f hb hf hl hr hcap =>
    have hsp : cs = cs.take j ++ (cs.drop j).take new.length ++ cs.drop (j + new.length) := by
      rw [List.append_assoc, show cs.drop (j + new.length) = (cs.drop j).drop new.length by rw [List.drop_drop], List.take_append_drop, List.take_append_drop]
    have hst := storeN_block (r := r) (T := T) new H j (cs.take j) ((cs.drop j).take new.length) (cs.drop (j + new.length) ++ rest) hs (by simp; omega) (by simp; omega) (hf.le (by simp; omega)) (by
      rw [hb]; congr 3
      conv => lhs; rw [hsp]
      simp only [List.append_assoc]) j
    rw [if_pos (Nat.le_refl _), Nat.sub_self] at hst
    refine ⟨_, hst, .at (rest := rest) ?_ (hf.le (by simp; omega)) ?_ hr hcap, (Only.refl _ _).set (.inl rfl)⟩
    · rw [set_same]; simp only [List.append_assoc]
    · rw [← hl]; simp; omega
theorem a_storeCs {P : Program} {H : Heap} {T sz n : Nat} {cs new : List Value} {r len c j : Nat} {KV : Value → Heap → Prop} {KP : List PanicEntry → Heap → Prop} (hO : Own H T sz (.slice (some ⟨r, 0, none⟩) len c) cs) (hj : j + new.length ≤ cs.length) (hn : new.length = n) (hs : ∀ v ∈ new, scalarV v = true)
    (hk : ∀ H', Own H' T sz (.slice (some ⟨r, 0, none⟩) len c) (cs.take j ++ new ++ cs.drop (j + new.length)) → Oth H (.slice (some ⟨r, 0, none⟩) len c) H' → KV undef H') : awpE P (.st n) [.pointer (some ⟨r, j, none⟩), .agg new.toArray] KV KP H := by
  obtain ⟨H', h1, h2, h3⟩ := storeCs hO hj hs
  refine ⟨by simpa [Value.cells] using hn, ?_⟩
  simp only [Value.cells]
  rw [h1]
  exact hk H' h2 h3
abbrev encs {α : Type} (enc : α → List Value) (xs : List α) : List Value := (xs.map enc).flatten
theorem encs_len {α : Type} {sz : Nat} {enc : α → List Value} (h : ∀ x, (enc x).length = sz) (xs : List α) : (encs enc xs).length = xs.length * sz := by
  have := flat_len (cl := xs.map enc) (s := sz) (fun c hc => by
    obtain ⟨x, _, rfl⟩ := List.mem_map.1 hc
    exact h x)
  rw [this, List.length_map]
theorem encs_append {α : Type} (enc : α → List Value) (xs ys : List α) : encs enc (xs ++ ys) = encs enc xs ++ encs enc ys := by simp [encs]
theorem encs_one {α : Type} (enc : α → List Value) (x : α) : encs enc [x] = enc x := by simp [encs]
theorem encs_take {α : Type} {sz : Nat} {enc : α → List Value} (h : ∀ x, (enc x).length = sz) : ∀ (xs : List α) (n : Nat), (encs enc xs).take (n * sz) = encs enc (xs.take n)
  | [], n => by simp [encs]
  | x :: xs, 0 => by simp [encs]
  | x :: xs, n + 1 => by
    have := encs_take h xs n
    simp only [encs, List.map_cons, List.flatten_cons, List.take_succ_cons] at this ⊢
    rw [show (n + 1) * sz = sz + n * sz by rw [Nat.succ_mul, Nat.add_comm], List.take_append, h x, List.take_of_length_le (by rw [h x]; omega), show sz + n * sz - sz = n * sz by omega, this]
theorem encs_drop {α : Type} {sz : Nat} {enc : α → List Value} (h : ∀ x, (enc x).length = sz) : ∀ (xs : List α) (n : Nat), (encs enc xs).drop (n * sz) = encs enc (xs.drop n)
  | [], n => by simp [encs]
  | x :: xs, 0 => by simp [encs]
  | x :: xs, n + 1 => by
    have := encs_drop h xs n
    simp only [encs, List.map_cons, List.flatten_cons, List.drop_succ_cons] at this ⊢
    rw [show (n + 1) * sz = sz + n * sz by rw [Nat.succ_mul, Nat.add_comm], List.drop_append, h x, List.drop_of_length_le (by rw [h x]; omega), show sz + n * sz - sz = n * sz by omega, this, List.nil_append]
/-- one element, its cells one by one -/
theorem elemR {α : Type} {sz : Nat} {enc : α → List Value} (h : ∀ x, (enc x).length = sz) (hsz : 0 < sz) {H : Heap} {A : Option Addr} {xs : List α} (hr : Row H A (encs enc xs)) {i : Nat} (hi : i < xs.length) :
    ∃ b, A = some b ∧ H.loadN (b.add (i * sz)) 0 sz = some (enc xs[i]) ∧ ∀ k v, (enc xs[i])[k]? = some v → H.cell? ((b.add (i * sz)).add k) = some v := by
  have hcl : ∀ c ∈ xs.map enc, c.length = sz := fun c hc => by
    obtain ⟨x, _, rfl⟩ := List.mem_map.1 hc
    exact h x
  have hget : (xs.map enc)[i]? = some (enc xs[i]) := by rw [List.getElem?_map, List.getElem?_eq_getElem hi]; rfl
  obtain ⟨b, rfl, hl⟩ := hr.elem hsz hcl hget
  refine ⟨b, rfl, hl, fun k v hv => ?_⟩
  have hk : k < sz := by rw [← h xs[i]]; exact (List.getElem?_eq_some_iff.1 hv).1
  have hv2 : (encs enc xs)[i * sz + k]? = some v := by
    rw [encs, flat_get hsz hcl, show (i * sz + k) / sz = i by rw [Nat.mul_comm, Nat.mul_add_div hsz, Nat.div_eq_of_lt hk]; rfl, show (i * sz + k) % sz = k by rw [Nat.mul_comm, Nat.mul_add_mod, Nat.mod_eq_of_lt hk], hget]
    exact hv
  obtain ⟨b', e, hc⟩ := hr _ _ hv2
  cases e
  rw [add_add]
  exact hc
end Go.Proofs.YtgbhdpeibiglfaaDoor.Lib
