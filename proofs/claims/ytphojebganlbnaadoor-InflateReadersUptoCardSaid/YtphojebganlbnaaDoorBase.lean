/-
  WHAT ALL CHAPTERS SHARE: bytes in memory, elements of several cells, stores and copies into lists of a call's own.
-/
import Derived.Test.YtphojebganlbnaaDoorSepTy
set_option linter.unusedVariables false
set_option linter.unusedSimpArgs false
namespace Go.Proofs.YtphojebganlbnaaDoor.Lib
open Go Go.RowKit Go.Proofs.YtphojebganlbnaaDoor.Sep

theorem gd_u {P : Program} {want : Bool} {i : Nat} {ins : Ins} {args : List Operand} {re : List Nat} {keep : Bool} {rest : List Stp} {dst : Option Tmp} {D : Done} {K : Env → Heap → Prop} {KP : List PanicEntry → Heap → Prop} {env : Env} {H : Heap} : goG P undef want i ins args re keep rest dst D K KP env H = awpL P rest D K KP (env.put dst undef) H := rfl
/-- further steps in one -/
theorem Zx : (type_of% @decide_true) ∧ (type_of% @decide_false) ∧ (type_of% @Bool.not_true) ∧ (type_of% @Bool.not_false) ∧ (type_of% @Int.toNat_one) ∧ (type_of% @Int.toNat_zero) ∧ (type_of% @Nat.zero_mul) ∧ (type_of% @gd_u) := ⟨@decide_true, @decide_false, @Bool.not_true, @Bool.not_false, @Int.toNat_one, @Int.toNat_zero, @Nat.zero_mul, @gd_u⟩
theorem ev_eqa_of {ls : List (Nat × Leaf)} {neg r : Bool} {xs ys : Array Value} {H : Heap} (h : allV ls (fun i => xs[i]?) (fun i => ys[i]?) = some r) : (QI.eqa ls neg).ev [.agg xs, .agg ys] H = some (.bool (r != neg)) := by
  simp only [QI.ev, h, Option.map_some]
theorem ev_eqa_ii {k k' : IntKind} {a b c d : Int} {neg : Bool} {H : Heap} : (QI.eqa [(0, .i), (1, .i)] neg).ev [.agg [.int k a, .int k' b].toArray, .agg [.int k c, .int k' d].toArray] H = some (.bool ((a == c && b == d) != neg)) := ev_eqa_of (by simp [allV, leafV])
abbrev by8 (l : List Int) : List Value := l.map (.int .u8)
abbrev by64 (l : List Int) : List Value := l.map (.int .i64)
theorem map_scalar {α : Type} (f : α → Value) (hf : ∀ x, scalarV (f x) = true) (l : List α) : ∀ v ∈ l.map f, scalarV v = true := by
  intro v hv
  obtain ⟨x, _, rfl⟩ := List.mem_map.1 hv
  exact hf x
theorem by8_scalar (l : List Int) : ∀ v ∈ by8 l, scalarV v = true := map_scalar _ (fun _ => rfl) l
theorem by64_scalar (l : List Int) : ∀ v ∈ by64 l, scalarV v = true := map_scalar _ (fun _ => rfl) l

/-- what the temporaries hold is forgotten, but for R -/
theorem e_gen {P : Program} {e : EI} {xs : List Value} {rest : List Stp} {dst : Option Tmp} {K : Env → Heap → Prop} {KP : List PanicEntry → Heap → Prop} {env : Env} {H : Heap} (R : Env → Prop) (hR : R env) (h : ∀ env, R env → goE P e xs rest dst K KP env H) : goE P e xs rest dst K KP env H := h env hR
/-- two lists of our own of different types -/
theorem apart {H : Heap} {T U sz sz' : Nat} {v u : Value} {cs ds : List Value} (h : Own H T sz v cs) (k : Own H U sz' u ds) (hne : T ≠ U) {r : Nat} (hv : own v = some r) : own u ≠ some r := by
  intro hu
  cases h with
  | nil => cases hv
  | @«at» r' _ _ _ _ _ hb _ _ _ _ =>
    cases hv
    exact k.elem hb (Ne.symm hne) hu
/-- a fresh list is none that was known -/
theorem keep_fresh {H0 H1 : Heap} {v : Value} (hk : Keep H0 H1) (hf : Fresh H1 v) : Fresh H0 v := fun r hr => hk.none (hf r hr)
theorem oth_keep {H0 H H' : Heap} {v : Value} (ho : Oth H v H') (hk : Keep H0 H) (hf : Fresh H0 v) : Keep H0 H' := ho.keep hk fun q hq => hf q hq
/-- another's list, over a change of one -/
theorem oth_own {H H' : Heap} {T sz : Nat} {v u : Value} {cs : List Value} (ho : Oth H v H') (hO : Own H T sz u cs) (hne : ∀ r, own v = some r → own u ≠ some r) : Own H' T sz u cs := hO.only ho fun r hr e => hne r e hr
theorem fresh_ne {H H' : Heap} {T sz : Nat} {v u : Value} {cs : List Value} (hO : Own H T sz u cs) (hf : Fresh H v) {r : Nat} (hv : own v = some r) : own u ≠ some r := fun hu => hO.known hu (hf r hv)

/-- one cell of a list of our own is stored -/
theorem storeC {H : Heap} {T sz : Nat} {v : Value} {cs : List Value} (hO : Own H T sz v cs) {j : Nat} (hj : j < cs.length) {u : Value} (hu : scalarV u = true) :
    ∃ r len c, v = .slice (some ⟨r, 0, none⟩) len c ∧ len * sz = cs.length ∧ ∃ cells f, H r = some (.cells cells T f) ∧ Far f cells.size ∧ j < cells.size ∧ Own (H.set r (.cells (cells.setIfInBounds j u) T f)) T sz v (cs.set j u) := by
  cases hO with
  | nil => simp at hj
  | @«at» r len cap _ rest f hb hf hl hr hcap =>
    refine ⟨r, len, cap, rfl, hl.symm, _, f, hb, by simpa using hf, by simp; omega, .at (rest := rest) ?_ (by simpa using hf) (by simpa using hl) hr hcap⟩
    rw [set_same]
    congr 2
    apply Array.ext'
    simp only [Array.toList_setIfInBounds]
    rw [List.set_append_left _ _ hj]
theorem a_storeC {P : Program} {H : Heap} {T sz : Nat} {cs : List Value} {r len c j : Nat} {u : Value} {KV : Value → Heap → Prop} {KP : List PanicEntry → Heap → Prop} (hO : Own H T sz (.slice (some ⟨r, 0, none⟩) len c) cs) (hj : j < cs.length) (hu : scalarV u = true)
    (hk : ∀ H', Own H' T sz (.slice (some ⟨r, 0, none⟩) len c) (cs.set j u) → Oth H (.slice (some ⟨r, 0, none⟩) len c) H' → KV undef H') : awpE P (.st 1) [.pointer (some ⟨r, j, none⟩), u] KV KP H := by
  obtain ⟨r', len', c', e, hl, cells, f, hb, hf, hjs, hO2⟩ := storeC hO hj hu
  cases e
  exact st_onef hb hf hjs hu (hk _ hO2 ((Only.refl _ _).set (.inl rfl)))
/-- some cells of a list of our own are stored -/
theorem storeCs {H : Heap} {T sz : Nat} {cs new : List Value} {r len c j : Nat} (hO : Own H T sz (.slice (some ⟨r, 0, none⟩) len c) cs) (hj : j + new.length ≤ cs.length) (hs : ∀ v ∈ new, scalarV v = true) :
    ∃ H', H.storeN ⟨r, j, none⟩ 0 new = some H' ∧ Own H' T sz (.slice (some ⟨r, 0, none⟩) len c) (cs.take j ++ new ++ cs.drop (j + new.length)) ∧ Oth H (.slice (some ⟨r, 0, none⟩) len c) H' := by
  cases hO with
  | @«at» _ _ _ _ rest f hb hf hl hr hcap =>
    have hsp : cs = cs.take j ++ (cs.drop j).take new.length ++ cs.drop (j + new.length) := by
      rw [List.append_assoc, show cs.drop (j + new.length) = (cs.drop j).drop new.length by rw [List.drop_drop], List.take_append_drop, List.take_append_drop]
    have hst := storeN_block (r := r) (T := T) new H j (cs.take j) ((cs.drop j).take new.length) (cs.drop (j + new.length) ++ rest) hs (by simp; omega) (by simp; omega) (hf.le (by simp; omega)) (by
      rw [hb]; congr 3
      conv => lhs; rw [hsp]
      simp only [List.append_assoc]) j
    rw [if_pos (Nat.le_refl _), Nat.sub_self] at hst
    refine ⟨_, hst, .at (rest := rest) ?_ (hf.le (by simp; omega)) ?_ hr hcap, (Only.refl _ _).set (.inl rfl)⟩
    · rw [set_same]; simp only [List.append_assoc]
    · rw [← hl]; simp; omega
theorem a_storeCs {P : Program} {H : Heap} {T sz n : Nat} {cs new : List Value} {r len c j : Nat} {KV : Value → Heap → Prop} {KP : List PanicEntry → Heap → Prop} (hO : Own H T sz (.slice (some ⟨r, 0, none⟩) len c) cs) (hj : j + new.length ≤ cs.length) (hn : new.length = n) (hs : ∀ v ∈ new, scalarV v = true)
    (hk : ∀ H', Own H' T sz (.slice (some ⟨r, 0, none⟩) len c) (cs.take j ++ new ++ cs.drop (j + new.length)) → Oth H (.slice (some ⟨r, 0, none⟩) len c) H' → KV undef H') : awpE P (.st n) [.pointer (some ⟨r, j, none⟩), .agg new.toArray] KV KP H := by
  obtain ⟨H', h1, h2, h3⟩ := storeCs hO hj hs
  refine ⟨by simpa [Value.cells] using hn, ?_⟩
  simp only [Value.cells]
  rw [h1]
  exact hk H' h2 h3
theorem cut_own {r c l sz : Nat} (h : l < c) : cutA (some ⟨r, 0, none⟩) c l sz = some ⟨r, l * sz, none⟩ := by
  unfold cutA
  rw [if_neg (by omega)]
  simp [add_mk]
/-- bytes are copied into a list of our own -/
theorem a_copy {P : Program} {H : Heap} {T : Nat} {cs new : List Value} {r len c lo n m : Nat} {src : Value} {KV : Value → Heap → Prop} {KP : List PanicEntry → Heap → Prop} {dc : Nat} (hO : Own H T 1 (.slice (some ⟨r, 0, none⟩) len c) cs) (hm : lenV src = some m) (hnm : n ≤ m) (hc : cellsV 1 n src H = some new) (hn : new.length = n) (hl : lo + n ≤ cs.length) (hlc : cs.length ≤ c) (hs : ∀ v ∈ new, scalarV v = true)
    (hk : ∀ H', Own H' T 1 (.slice (some ⟨r, 0, none⟩) len c) (cs.take lo ++ new ++ cs.drop (lo + n)) → Oth H (.slice (some ⟨r, 0, none⟩) len c) H' → KV (.int .i64 n) H') : awpE P (.copy 1) [.slice (cutA (some ⟨r, 0, none⟩) c lo 1) n dc, src] KV KP H := by
  obtain ⟨H', h1, h2, h3⟩ := storeCs hO (j := lo) (new := new) (by omega) hs
  rw [hn] at h2
  have hmin : min m n = n := by omega
  by_cases hlc2 : lo < c
  · rw [cut_own hlc2]
    simp only [awpE, hm, hmin, hc, Nat.mul_one, h1]
    exact hk _ h2 h3
  · have hn0 : n = 0 := by omega
    subst hn0
    have hnew : new = [] := List.length_eq_zero_iff.1 hn
    subst hnew
    have hcut : cutA (some (⟨r, 0, none⟩ : Addr)) c lo 1 = some ⟨r, 0, none⟩ := by
      unfold cutA
      by_cases e : c = lo
      · rw [if_pos e]
      · omega
    simp only [Heap.storeN, Option.some.injEq] at h1
    subst h1
    rw [hcut]
    simp only [awpE, hm, hmin, hc, Heap.storeN]
    exact hk _ h2 h3

/-- kinds of values whose cells tell all -/
def Ty.flat {α : Type} (sz : Nat) (enc : α → List Value) (h : ∀ x, (enc x).length = sz) : Ty α := ⟨sz, fun _ x cs => cs = enc x, fun e => by rw [e]; exact h _, fun _ e => e⟩
abbrev encs {α : Type} (enc : α → List Value) (xs : List α) : List Value := (xs.map enc).flatten
theorem Els.flat {α : Type} {sz : Nat} {enc : α → List Value} {h : ∀ x, (enc x).length = sz} {H : Heap} {A : Option Addr} {xs : List α} {cl : List (List Value)} (he : Els (Ty.flat sz enc h) H A xs cl) : Row H A (encs enc xs) := by
  have : cl = xs.map enc := by
    apply List.ext_getElem?
    intro i
    rw [List.getElem?_map]
    cases hx : xs[i]? with
    | none => rw [List.getElem?_eq_none (by rw [he.len]; exact List.getElem?_eq_none_iff.1 hx)]; rfl
    | some x =>
      have hi := (List.getElem?_eq_some_iff.1 hx).1
      have hi2 : i < cl.length := by rw [he.len]; exact hi
      have hc : cl[i]? = some cl[i] := List.getElem?_eq_getElem hi2
      have := he.each i x _ hx hc
      rw [hc]
      exact congrArg some this
  have hr := he.row
  rwa [this] at hr
theorem encs_len {α : Type} {sz : Nat} {enc : α → List Value} (h : ∀ x, (enc x).length = sz) (xs : List α) : (encs enc xs).length = xs.length * sz := by
  have := flat_len (cl := xs.map enc) (s := sz) (fun c hc => by
    obtain ⟨x, _, rfl⟩ := List.mem_map.1 hc
    exact h x)
  rw [this, List.length_map]
theorem encs_append {α : Type} (enc : α → List Value) (xs ys : List α) : encs enc (xs ++ ys) = encs enc xs ++ encs enc ys := by simp [encs]
theorem encs_one {α : Type} (enc : α → List Value) (x : α) : encs enc [x] = enc x := by simp [encs]
theorem encs_scalar {α : Type} {enc : α → List Value} (h : ∀ x, ∀ v ∈ enc x, scalarV v = true) (xs : List α) : ∀ v ∈ encs enc xs, scalarV v = true := by
  intro v hv
  obtain ⟨c, hc, hv⟩ := List.mem_flatten.1 hv
  obtain ⟨x, _, rfl⟩ := List.mem_map.1 hc
  exact h x v hv
theorem encs_take {α : Type} {sz : Nat} {enc : α → List Value} (h : ∀ x, (enc x).length = sz) : ∀ (xs : List α) (n : Nat), (encs enc xs).take (n * sz) = encs enc (xs.take n)
  | [], n => by simp [encs]
  | x :: xs, 0 => by simp [encs]
  | x :: xs, n + 1 => by
    have := encs_take h xs n
    simp only [encs, List.map_cons, List.flatten_cons, List.take_succ_cons] at this ⊢
    rw [show (n + 1) * sz = sz + n * sz by rw [Nat.succ_mul, Nat.add_comm], List.take_append, h x, List.take_of_length_le (by rw [h x]; omega), show sz + n * sz - sz = n * sz by omega, this]
theorem encs_drop {α : Type} {sz : Nat} {enc : α → List Value} (h : ∀ x, (enc x).length = sz) : ∀ (xs : List α) (n : Nat), (encs enc xs).drop (n * sz) = encs enc (xs.drop n)
  | [], n => by simp [encs]
  | x :: xs, 0 => by simp [encs]
  | x :: xs, n + 1 => by
    have := encs_drop h xs n
    simp only [encs, List.map_cons, List.flatten_cons, List.drop_succ_cons] at this ⊢
    rw [show (n + 1) * sz = sz + n * sz by rw [Nat.succ_mul, Nat.add_comm], List.drop_append, h x, List.drop_of_length_le (by rw [h x]; omega), show sz + n * sz - sz = n * sz by omega, this, List.nil_append]
/-- one element, its cells one by one -/
theorem elemR {α : Type} {sz : Nat} {enc : α → List Value} (h : ∀ x, (enc x).length = sz) (hsz : 0 < sz) {H : Heap} {A : Option Addr} {xs : List α} (hr : Row H A (encs enc xs)) {i : Nat} (hi : i < xs.length) :
    ∃ b, A = some b ∧ H.loadN (b.add (i * sz)) 0 sz = some (enc xs[i]) ∧ ∀ k v, (enc xs[i])[k]? = some v → H.cell? ((b.add (i * sz)).add k) = some v := by
  have hcl : ∀ c ∈ xs.map enc, c.length = sz := fun c hc => by
    obtain ⟨x, _, rfl⟩ := List.mem_map.1 hc
    exact h x
  have hget : (xs.map enc)[i]? = some (enc xs[i]) := by rw [List.getElem?_map, List.getElem?_eq_getElem hi]; rfl
  obtain ⟨b, rfl, hl⟩ := hr.elem hsz hcl hget
  refine ⟨b, rfl, hl, fun k v hv => ?_⟩
  have hk : k < sz := by rw [← h xs[i]]; exact (List.getElem?_eq_some_iff.1 hv).1
  have hv2 : (encs enc xs)[i * sz + k]? = some v := by
    rw [encs, flat_get hsz hcl, show (i * sz + k) / sz = i by rw [Nat.mul_comm, Nat.mul_add_div hsz, Nat.div_eq_of_lt hk]; rfl, show (i * sz + k) % sz = k by rw [Nat.mul_comm, Nat.mul_add_mod, Nat.mod_eq_of_lt hk], hget]
    exact hv
  obtain ⟨b', e, hc⟩ := hr _ _ hv2
  cases e
  rw [add_add]
  exact hc
end Go.Proofs.YtphojebganlbnaaDoor.Lib
