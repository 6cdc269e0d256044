/-
  REGIONS AND CODE IN SHORT: operations in one order, which stands for every order that Go leaves open; code; functions.
-/
import Derived.Test.YtgbhdpeibiglfaaDoorSepOk4
set_option linter.unusedVariables false
set_option linter.unusedSimpArgs false
namespace Go.Proofs.YtgbhdpeibiglfaaDoor.Sep
open Go Go.RowKit

abbrev Env := Nat → Value
def Env.put (env : Env) (d : Option Tmp) (v : Value) : Env :=
  match d with
  | some d => fun t => if t = d then v else env t
  | none => env
def Env.eval (env : Env) : Operand → Value
  | .tmp t => env t
  | .const v => v
  | .global g => .pointer (some ⟨g, 0, none⟩)
  | .func f => .func (.func f) #[] #[]

/-- One operation of a region: its place among them, what it does, with what, where the answer goes, what guards it; the readings that must stand behind it; whether it is itself such a reading. -/
structure Stp where
  i : Nat
  ins : Ins
  args : List Operand
  dst : Option Tmp
  guard : Option (Tmp × Bool)
  re : List Nat
  keep : Bool

def Stp.on (s : Stp) (env : Env) : Bool :=
  match s.guard with
  | none => true
  | some (t, want) => match env t with
    | .bool b => b == want
    | _ => false

abbrev Done := List (Nat × (Heap → Prop))

def awpL (P : Program) : List Stp → Done → (Env → Heap → Prop) → (List PanicEntry → Heap → Prop) → Env → Heap → Prop
  | [], _, K, _, env, H => K env H
  | s :: rest, done, K, KP, env, H =>
    match s.on env with
    | false => awpL P rest done K KP (env.put s.dst undef) H
    | true => match s.ins with
      | .q q => match q.ev (s.args.map env.eval) H with
        | some v => awpL P rest (if s.keep then (s.i, fun H' => q.ev (s.args.map env.eval) H' = some v) :: done else done) K KP (env.put s.dst v) H
        | none => False
      | .e e => awpE P e (s.args.map env.eval) (fun v H' => (∀ p ∈ done, p.1 ∈ s.re → p.2 H') ∧ awpL P rest done K KP (env.put s.dst v) H') KP H

theorem endK_mono {K K' : Value → Heap → Prop} {KP KP' : List PanicEntry → Heap → Prop} (h : ∀ v H, K v H → K' v H) (hp : ∀ v H, KP v H → KP' v H) (e : Ending) (H : Heap) (hk : endK K KP e H) : endK K' KP' e H := by
  cases e <;> first | exact h _ _ hk | exact hp _ _ hk | exact hk.elim

theorem appE_mono {T : TypeId} {sz bytes : Nat} {zero : Array Value} {base : Option Addr} {sLen sCap n : Nat} {new : List Value} {K K' : Value → Heap → Prop} {H : Heap} (hm : ∀ v H, K v H → K' v H) (h : appE T sz bytes zero base sLen sCap n new K H) : appE T sz bytes zero base sLen sCap n new K' H := by
  unfold appE at h ⊢
  refine ⟨fun hle => ?_, fun hlt => ?_⟩
  · have h1 := h.1 hle
    split at h1
    · split at h1
      · exact hm _ _ h1
      · exact h1.elim
    · exact hm _ _ h1
  · obtain ⟨h1, h2⟩ := h.2 hlt
    refine ⟨h1, ?_⟩
    split at h2
    · exact h2.elim
    · exact fun r c hc hr => hm _ _ (h2 r c hc hr)
theorem awpE_mono {P : Program} {e : EI} {xs : List Value} {K K' : Value → Heap → Prop} {KP KP' : List PanicEntry → Heap → Prop} {H : Heap} (hm : ∀ v H, K v H → K' v H) (hp : ∀ v H, KP v H → KP' v H) (h : awpE P e xs K KP H) : awpE P e xs K' KP' H := by
  unfold awpE at h ⊢
  split at h
  · exact fun r hr => hm _ _ (h r hr)
  · exact fun r hr => hm _ _ (h r hr)
  · try simp only [] at h ⊢
    split at h
    · exact fun r hr => hm _ _ (h r hr)
    · exact h.elim
  · try simp only [] at h ⊢
    refine ⟨h.1, ?_⟩
    have h2 := h.2
    split at h2
    · exact hm _ _ h2
    · exact h2.elim
  · try simp only [] at h ⊢
    exact ⟨h.1, h.2.1, h.2.2.1, h.2.2.2.1, fun r hr => hm _ _ (h.2.2.2.2 r hr)⟩
  · try simp only [] at h ⊢
    obtain ⟨S, hS, hk⟩ := h
    exact ⟨S, hS, fun e H' hs => endK_mono hm hp _ _ (hk e H' hs)⟩
  · try simp only [] at h ⊢
    obtain ⟨hc, S, hS, hk⟩ := h
    exact ⟨hc, S, hS, fun e H' hs => endK_mono hm hp _ _ (hk e H' hs)⟩
  · try simp only [] at h ⊢
    split at h
    · exact h.elim
    · split at h
      · exact h.elim
      · exact appE_mono hm h
  · exact ⟨h.1, h.2.1, h.2.2.1, appE_mono hm h.2.2.2⟩
  · try simp only [] at h ⊢
    split at h
    · exact h.elim
    · split at h
      · exact h.elim
      · split at h
        · split at h
          · exact hm _ _ h
          · exact h.elim
        · exact hm _ _ h
  · exact fun r c hc hr => hm _ _ (h r c hc hr)
  · try simp only [] at h ⊢
    split at h
    · exact hm _ _ h
    · exact h.elim
  · try simp only [] at h ⊢
    split at h
    · exact hm _ _ h
    · split at h
      · rename_i h0
        rw [if_pos h0]
        exact hm _ _ h
      · rename_i h0
        rw [if_neg h0]
        split at h
        · exact hm _ _ h
        · exact h.elim
  · exact hp _ _ h
  · exact h.elim

theorem awpL_done {P : Program} {K : Env → Heap → Prop} {KP : List PanicEntry → Heap → Prop} : ∀ (L : List Stp) (D D' : Done) (env : Env) (H : Heap), (∀ p ∈ D, p ∈ D') → awpL P L D' K KP env H → awpL P L D K KP env H
  | [], D, D', env, H, hd, h => h
  | s :: rest, D, D', env, H, hd, h => by
    unfold awpL at h ⊢
    split at h
    · exact awpL_done rest D D' _ H hd h
    · split at h
      · split at h
        · refine awpL_done rest _ _ _ H ?_ h
          intro p hp
          split at hp
          · rename_i hk
            rw [if_pos hk]
            rcases List.mem_cons.1 hp with rfl | hp
            · exact List.mem_cons_self
            · exact List.mem_cons_of_mem _ (hd p hp)
          · rename_i hk
            rw [if_neg hk]
            exact hd p hp
        · exact h.elim
      · exact awpE_mono (fun v H' hv => ⟨fun p hp hre => hv.1 p (hd p hp) hre, awpL_done rest D D' _ H' hd hv.2⟩) (fun _ _ h => h) h

/-! ### Two that stand beside each other change places -/
def tmpsOf (xs : List Operand) : List Tmp := xs.filterMap fun | .tmp t => some t | _ => none
/-- the temporaries that a step looks at -/
def Stp.looks (s : Stp) : List Tmp := tmpsOf s.args ++ (match s.guard with | some (t, _) => [t] | none => [])
def Stp.free (s : Stp) (d : Option Tmp) : Bool := match d with
  | some d => !s.looks.contains d && s.dst != some d
  | none => true
def apartS (x y : Stp) : Bool := y.free x.dst && x.free y.dst

theorem eval_put {env : Env} {d : Option Tmp} {v : Value} {xs : List Operand} (h : ∀ t, d = some t → t ∉ tmpsOf xs) : xs.map (env.put d v).eval = xs.map env.eval := by
  refine List.map_congr_left fun x hx => ?_
  cases d with
  | none => rfl
  | some d =>
    cases x <;> try rfl
    rename_i t
    simp only [Env.eval, Env.put]
    rw [if_neg]
    rintro rfl
    exact h t rfl (List.mem_filterMap.2 ⟨_, hx, rfl⟩)
theorem free_args {s : Stp} {d : Option Tmp} (h : s.free d = true) : ∀ t, d = some t → t ∉ tmpsOf s.args := by
  rintro t rfl ht
  simp only [Stp.free, Bool.and_eq_true, Bool.not_eq_true', List.contains_eq_mem, decide_eq_false_iff_not] at h
  exact h.1 (List.mem_append_left _ ht)
theorem free_on {s : Stp} {d : Option Tmp} (h : s.free d = true) (env : Env) (v : Value) : s.on (env.put d v) = s.on env := by
  unfold Stp.on
  cases hg : s.guard with
  | none => rfl
  | some gw =>
    obtain ⟨t, want⟩ := gw
    cases d with
    | none => rfl
    | some d =>
      have : t ≠ d := by
        rintro rfl
        simp only [Stp.free, Bool.and_eq_true, Bool.not_eq_true', List.contains_eq_mem, decide_eq_false_iff_not] at h
        exact h.1 (List.mem_append_right _ (by rw [hg]; simp))
      simp only [Env.put, if_neg this]
theorem put_put {env : Env} {x y : Stp} (h : y.free x.dst = true) (v u : Value) : (env.put x.dst v).put y.dst u = (env.put y.dst u).put x.dst v := by
  cases hx : x.dst with
  | none => rfl
  | some d =>
    cases hy : y.dst with
    | none => rfl
    | some e =>
      have : e ≠ d := by
        rintro rfl
        rw [hx] at h
        simp [Stp.free, hy] at h
      funext t
      simp only [Env.put]
      split
      · rename_i ht; subst ht; rw [if_neg this]
      · rfl

/-- looks at no memory -/
def QI.pure : QI → Bool
  | .ld | .ldn _ | .b2s => false
  | _ => true
theorem pure_ev {q : QI} (h : q.pure = true) (xs : List Value) (H H' : Heap) : q.ev xs H = q.ev xs H' := by
  cases q <;> first | (simp [QI.pure] at h; done) | skip
  all_goals (unfold QI.ev; repeat' split) <;> first | rfl | simp_all

/-! ### What only makes a new block -/
def EI.alloc : EI → Bool
  | .new .. | .box .. | .lits .. | .mks .. => true
  | _ => false
/-- the answer and the block -/
def allocV (e : EI) (xs : List Value) : Option ((Nat → Value) × Obj) :=
  match e, xs with
  | .new zero T, [] => some (fun r => .pointer (some ⟨r, 0, none⟩), .cells zero T (0, 0))
  | .box T, [x] => some (fun r => .pointer (some ⟨r, 0, none⟩), .cells x.cells T (0, 0))
  | .lits T zero len places, xs => match (if places.length = xs.length then fillV zero (places.zip xs) else none) with
    | some cs => some (fun r => .slice (some ⟨r, 0, none⟩) len len, .cells cs T (0, 0))
    | none => none
  | .mks T sz bytes zero, [.int _ l, .int _ c] => if 0 ≤ l ∧ l ≤ c ∧ bytes * c ≤ 281474976710656 ∧ c ≤ 281474976710656 then
      some (fun r => .slice (some ⟨r, 0, none⟩) l.toNat c.toNat, .cells (rowV (if c.toNat * sz = 0 then #[] else zero) (c.toNat * sz)) T (0, 0)) else none
  | _, _ => none
theorem awpE_alloc {P : Program} {e : EI} (he : e.alloc = true) {xs : List Value} {K : Value → Heap → Prop} {KP : List PanicEntry → Heap → Prop} {H : Heap} :
    awpE P e xs K KP H ↔ ∃ p o, allocV e xs = some (p, o) ∧ ∀ r, H r = none → K (p r) (H.set r o) := by
  constructor
  · intro h
    unfold awpE at h
    split at h
    · exact ⟨_, _, rfl, h⟩
    · exact ⟨_, _, rfl, h⟩
    · try simp only [] at h
      split at h
      · rename_i cs hcs
        exact ⟨_, _, by simp only [allocV, hcs], h⟩
      · exact h.elim
    · cases he
    · try simp only [] at h
      exact ⟨_, _, by rw [allocV, if_pos ⟨h.1, h.2.1, h.2.2.1, h.2.2.2.1⟩], h.2.2.2.2⟩
    all_goals first | (exact h.elim) | (cases he)
  · rintro ⟨p, o, h, hk⟩
    unfold allocV at h
    split at h
    · obtain ⟨rfl, rfl⟩ := Prod.mk.inj (Option.some.inj h); exact hk
    · obtain ⟨rfl, rfl⟩ := Prod.mk.inj (Option.some.inj h); exact hk
    · split at h
      · rename_i cs hcs
        obtain ⟨rfl, rfl⟩ := Prod.mk.inj (Option.some.inj h)
        simp only [awpE, hcs]
        exact hk
      · cases h
    · split at h
      · rename_i hc
        obtain ⟨rfl, rfl⟩ := Prod.mk.inj (Option.some.inj h)
        exact ⟨hc.1, hc.2.1, hc.2.2.1, hc.2.2.2, hk⟩
      · cases h
    · cases h
theorem set_cell {H : Heap} {r : Nat} {o : Obj} (hr : H r = none) {a : Addr} {v : Value} (h : H.cell? a = some v) : (H.set r o).cell? a = some v := by
  unfold Heap.cell? at h ⊢
  have : a.block ≠ r := by rintro rfl; rw [hr] at h; cases h
  simp only [Heap.set, if_neg this]
  exact h
theorem set_loadN {H : Heap} {r : Nat} {o : Obj} (hr : H r = none) {a : Addr} : ∀ (n i : Nat) (l : List Value), H.loadN a i n = some l → (H.set r o).loadN a i n = some l
  | 0, i, l, h => h
  | n + 1, i, l, h => by
    simp only [Heap.loadN] at h ⊢
    cases hc : H.cell? (a.add i) with
    | none => rw [hc] at h; cases h
    | some v =>
      rw [hc] at h
      obtain ⟨l', hl, rfl⟩ := Option.map_eq_some_iff.1 h
      rw [set_cell hr hc]
      simp only [set_loadN hr n (i + 1) l' hl]
      rfl
theorem set_ev {H : Heap} {r : Nat} {o : Obj} (hr : H r = none) {q : QI} {xs : List Value} {v : Value} (h : q.ev xs H = some v) : q.ev xs (H.set r o) = some v := by
  by_cases hp : q.pure = true
  · rw [pure_ev hp _ _ H]; exact h
  · unfold QI.ev at h
    split at h <;> first | (exact absurd rfl hp) | (cases h; done) | exact set_cell hr h | skip
    · obtain ⟨l, hl, rfl⟩ := Option.map_eq_some_iff.1 h
      simp only [QI.ev, set_loadN hr _ _ _ hl, Option.map_some]
    · exact h
    · split at h
      · rename_i l hl
        simp only [QI.ev, set_loadN hr _ _ _ hl]
        exact h
      · cases h
theorem set_swap {H : Heap} {r q : Nat} {o x : Obj} (hne : r ≠ q) : (H.set r o).set q x = (H.set q x).set r o := by
  funext i
  simp only [Heap.set]
  by_cases h1 : i = q
  · subst h1
    rw [if_pos rfl, if_neg (fun e => hne e.symm), if_pos rfl]
  · rw [if_neg h1, if_neg h1]

def EI.isCall : EI → Bool
  | .call _ => true
  | _ => false
/-- makes a block, whatever it is handed -/
def EI.sure (n : Nat) : EI → Bool
  | .new .. => n == 0
  | .box _ => n == 1
  | _ => false
theorem sure_alloc {e : EI} {xs : List Value} (h : e.sure xs.length = true) : e.alloc = true ∧ ∃ p o, allocV e xs = some (p, o) := by
  cases e <;> simp only [EI.sure, Bool.false_eq_true] at h
  · rw [beq_iff_eq] at h
    obtain rfl := List.length_eq_zero_iff.1 h
    exact ⟨rfl, _, _, rfl⟩
  · rw [beq_iff_eq] at h
    obtain ⟨x, rfl⟩ := List.length_eq_one_iff.1 h
    exact ⟨rfl, _, _, rfl⟩
/-- a call beside a block that is newly known -/
theorem acalls_frame {P : Program} {f : FuncId} {args : Array Value} {H : Heap} {S : Ending → Heap → Prop} (h : ACalls P f args H S) {r : Nat} (hr : H r = none) (o : Obj) :
    ACalls P f args (H.set r o) fun e H' => match e with
      | .returned v => ∃ H1, S (.returned v) H1 ∧ H1 r = none ∧ H' = H1.set r o
      | e => S e H' := by
  intro w hw
  have hwr : w.heap[r]? = some o := hw r o (by simp [Heap.set])
  have hlt : r < w.heap.size := (Array.getElem?_eq_some_iff.1 hwr).1
  have hw1 : Sees H w := hw.weaken fun q x hq => by
    have : q ≠ r := by rintro rfl; rw [hr] at hq; cases hq
    simp only [Heap.set, if_neg this]; exact hq
  refine (h w hw1).mono fun e w' ⟨H', he, hsee, hext⟩ => ?_
  have hn : H' r = none := by
    cases hh : H' r with
    | none => rfl
    | some x =>
      rcases hext.new r (by rw [hh]; simp) with h1 | h1
      · exact absurd hr h1
      · omega
  have hnew : ∀ q, H' q ≠ none → (H.set r o) q ≠ none ∨ w.heap.size ≤ q := fun q hq => by
    rcases hext.new q hq with h1 | h1
    · left
      have : q ≠ r := by rintro rfl; exact h1 hr
      simp only [Heap.set, if_neg this]; exact h1
    · exact .inr h1
  have hkeep : ∀ q, q < w.heap.size → (H.set r o) q = none → w'.heap[q]? = w.heap[q]? := fun q hq hn' => by
    refine hext.keep q hq ?_
    simp only [Heap.set] at hn'
    split at hn'
    · cases hn'
    · exact hn'
  have forget : ∃ H1, S e H1 ∧ Sees H1 w' ∧ Ext (H.set r o) w H1 w' := ⟨H', he, hsee, hext.os, hext.tape, hext.output, hext.size, hkeep, hnew⟩
  cases e with
  | returned v =>
    refine ⟨H'.set r o, ⟨H', he, hn, rfl⟩, fun q x hq => ?_, hext.os, hext.tape, hext.output, hext.size, hkeep, fun q hq => ?_⟩
    · simp only [Heap.set] at hq
      split at hq
      · rename_i e
        subst e
        rw [hext.keep q hlt hr, hwr]; exact hq
      · exact hsee q x hq
    · simp only [Heap.set] at hq
      split at hq
      · rename_i e; left; simp [Heap.set, e]
      · exact hnew q hq
  | panicked ch => exact forget
  | outgrown => exact forget
/-- what stands there of looks outlives a new block -/
def Mono (D : Done) : Prop := ∀ p ∈ D, ∀ (H : Heap) (r : Nat) (o : Obj), H r = none → p.2 H → p.2 (H.set r o)
theorem Mono.nil : Mono [] := fun p hp => by cases hp
theorem Mono.cons {D : Done} (h : Mono D) {q : QI} {xs : List Value} {v : Value} (i : Nat) (k : Bool) : Mono (if k then (i, fun H' => q.ev xs H' = some v) :: D else D) := by
  cases k with
  | false => exact h
  | true =>
    intro p hp H r o hr hq
    rcases List.mem_cons.1 hp with rfl | hp
    · exact set_ev hr hq
    · exact h p hp H r o hr hq
/-- j stands ahead of i, and may stand behind it -/
def swapOk (j i : Stp) : Bool :=
  match j.ins with
  | .e ej => match i.ins with
    | .e ei => apartS j i && ((ej.alloc && ei.alloc && j.re.isEmpty && i.re.isEmpty) || (ej.isCall && ei.sure i.args.length && i.re.isEmpty))
    | .q _ => false
  | .q q => apartS j i && (match i.ins with
    | .q _ => true
    | .e e => q.pure || (j.keep && i.re.contains j.i) || e.alloc)

/-- there is always room -/
def Roomy (H : Heap) : Prop := ∀ n, ∃ r, n ≤ r ∧ H r = none
theorem Roomy.set {H : Heap} (h : Roomy H) (r : Nat) (o : Obj) : Roomy (H.set r o) := fun n => by
  obtain ⟨q, hq, hn⟩ := h (n + r + 1)
  exact ⟨q, by omega, by simp only [Heap.set]; rw [if_neg (by omega)]; exact hn⟩
theorem swap_ee {P : Program} {K : Env → Heap → Prop} {KP : List PanicEntry → Heap → Prop} {j i : Stp} {ej ei : EI} (hj : j.ins = .e ej) (hi : i.ins = .e ei) (hij : i.free j.dst = true) (hji : j.free i.dst = true) (aj : ej.alloc = true) (ai : ei.alloc = true) (rj : j.re = []) (ri : i.re = []) {rest : List Stp} {D : Done} {env : Env} {H : Heap} (hR : Roomy H)
    (h : awpL P (j :: i :: rest) D K KP env H) : awpL P (i :: j :: rest) D K KP env H := by
  rw [awpL] at h ⊢
  cases hon : j.on env with
  | false =>
    rw [hon] at h
    simp only [] at h
    rw [awpL, free_on hij] at h
    cases hoi : i.on env with
    | false =>
      rw [hoi] at h
      simp only [] at h ⊢
      rw [awpL, free_on hji, hon]
      simp only []
      rw [← put_put hij]
      exact h
    | true =>
      rw [hoi] at h
      simp only [hi] at h ⊢
      rw [eval_put (free_args hij)] at h
      refine awpE_mono (fun v H' hv => ⟨hv.1, ?_⟩) (fun _ _ h => h) h
      rw [awpL, free_on hji, hon]
      simp only []
      rw [← put_put hij]
      exact hv.2
  | true =>
    rw [hon] at h
    simp only [hj] at h
    obtain ⟨pj, oj, vj, hk⟩ := (awpE_alloc aj).1 h
    cases hoi : i.on env with
    | false =>
      simp only []
      rw [awpL, free_on hji, hon]
      simp only [hj]
      rw [eval_put (free_args hji)]
      refine (awpE_alloc aj).2 ⟨pj, oj, vj, fun r hr => ⟨(hk r hr).1, ?_⟩⟩
      have := (hk r hr).2
      rw [awpL, free_on hij, hoi] at this
      simp only [] at this
      rw [← put_put hij]
      exact this
    | true =>
      simp only [hi]
      obtain ⟨r0, -, hr0⟩ := hR 0
      have h0 := (hk r0 hr0).2
      rw [awpL, free_on hij, hoi] at h0
      simp only [hi] at h0
      rw [eval_put (free_args hij)] at h0
      obtain ⟨pi, oi, vi, -⟩ := (awpE_alloc ai).1 h0
      refine (awpE_alloc ai).2 ⟨pi, oi, vi, fun r hr => ⟨(fun p _ hp => by rw [ri] at hp; cases hp), ?_⟩⟩
      rw [awpL, free_on hji, hon]
      simp only [hj]
      rw [eval_put (free_args hji)]
      refine (awpE_alloc aj).2 ⟨pj, oj, vj, fun q hq => ⟨(fun p _ hp => by rw [rj] at hp; cases hp), ?_⟩⟩
      have hne : q ≠ r := by
        rintro rfl
        simp [Heap.set] at hq
      have hq0 : H q = none := by simpa [Heap.set, hne] using hq
      have h1 := (hk q hq0).2
      rw [awpL, free_on hij, hoi] at h1
      simp only [hi] at h1
      rw [eval_put (free_args hij)] at h1
      obtain ⟨pi', oi', vi', hki⟩ := (awpE_alloc ai).1 h1
      rw [vi] at vi'
      obtain ⟨rfl, rfl⟩ := Prod.mk.inj (Option.some.inj vi')
      have h2 := (hki r (by simpa [Heap.set, hne.symm] using hr)).2
      rw [put_put hij, set_swap hne] at h2
      exact h2
theorem swap_ce {P : Program} {K : Env → Heap → Prop} {KP : List PanicEntry → Heap → Prop} {j i : Stp} {f : FuncId} {ei : EI} (hj : j.ins = .e (.call f)) (hi : i.ins = .e ei) (hij : i.free j.dst = true) (hji : j.free i.dst = true) (ai : ei.sure i.args.length = true) (ri : i.re = []) {rest : List Stp} {D : Done} (hM : Mono D) {env : Env} {H : Heap}
    (h : awpL P (j :: i :: rest) D K KP env H) : awpL P (i :: j :: rest) D K KP env H := by
  rw [awpL] at h ⊢
  cases hon : j.on env with
  | false =>
    rw [hon] at h
    simp only [] at h
    rw [awpL, free_on hij] at h
    cases hoi : i.on env with
    | false =>
      rw [hoi] at h
      simp only [] at h ⊢
      rw [awpL, free_on hji, hon]
      simp only []
      rw [← put_put hij]
      exact h
    | true =>
      rw [hoi] at h
      simp only [hi] at h ⊢
      rw [eval_put (free_args hij)] at h
      refine awpE_mono (fun v H' hv => ⟨hv.1, ?_⟩) (fun _ _ h => h) h
      rw [awpL, free_on hji, hon]
      simp only []
      rw [← put_put hij]
      exact hv.2
  | true =>
    rw [hon] at h
    simp only [hj] at h
    cases hoi : i.on env with
    | false =>
      simp only []
      rw [awpL, free_on hji, hon]
      simp only [hj]
      rw [eval_put (free_args hji)]
      refine awpE_mono (fun v H' hv => ⟨hv.1, ?_⟩) (fun _ _ h => h) h
      have := hv.2
      rw [awpL, free_on hij, hoi] at this
      simp only [] at this
      rw [← put_put hij]
      exact this
    | true =>
      simp only [hi]
      have hargs : ei.sure (i.args.map env.eval).length = true := by simpa using ai
      obtain ⟨aa, p, o, hv⟩ := sure_alloc hargs
      obtain ⟨S, hS, hk⟩ := h
      refine (awpE_alloc aa).2 ⟨p, o, hv, fun r hr => ⟨(fun q _ hq => by rw [ri] at hq; cases hq), ?_⟩⟩
      rw [awpL, free_on hji, hon]
      simp only [hj]
      rw [eval_put (free_args hji)]
      refine ⟨_, acalls_frame hS hr o, fun e H2 he => ?_⟩
      cases e with
      | returned v =>
        obtain ⟨H1, h1, hn, rfl⟩ := he
        obtain ⟨hD, h2⟩ := hk _ _ h1
        refine ⟨fun q hq hre => hM q hq H1 r o hn (hD q hq hre), ?_⟩
        rw [awpL, free_on hij, hoi] at h2
        simp only [hi] at h2
        rw [eval_put (free_args hij)] at h2
        obtain ⟨p', o', hv', hk'⟩ := (awpE_alloc aa).1 h2
        rw [hv] at hv'
        obtain ⟨rfl, rfl⟩ := Prod.mk.inj (Option.some.inj hv')
        have := (hk' r hn).2
        rw [← put_put hij]
        exact this
      | panicked ch => exact hk _ _ he
      | outgrown => exact hk _ _ he
theorem swap {P : Program} {K : Env → Heap → Prop} {KP : List PanicEntry → Heap → Prop} {j i : Stp} (hs : swapOk j i = true) {rest : List Stp} {D : Done} (hM : Mono D) {env : Env} {H : Heap} (hR : Roomy H)
    (h : awpL P (j :: i :: rest) D K KP env H) : awpL P (i :: j :: rest) D K KP env H := by
  unfold swapOk at hs
  split at hs
  · rename_i ej hj
    split at hs
    · rename_i ei hi
      simp only [Bool.and_eq_true, Bool.or_eq_true, apartS, List.isEmpty_iff] at hs
      rcases hs.2 with h2 | h2
      · exact swap_ee hj hi hs.1.1 hs.1.2 h2.1.1.1 h2.1.1.2 h2.1.2 h2.2 hR h
      · obtain ⟨f, rfl⟩ : ∃ f, ej = .call f := by
          have := h2.1.1
          cases ej <;> first | exact ⟨_, rfl⟩ | (simp [EI.isCall] at this)
        exact swap_ce hj hi hs.1.1 hs.1.2 h2.1.2 h2.2 hM h
    · cases hs
  · rename_i q hq
    simp only [Bool.and_eq_true] at hs
    obtain ⟨hap, hre⟩ := hs
    simp only [apartS, Bool.and_eq_true] at hap
    obtain ⟨hij, hji⟩ := hap
    rw [awpL] at h ⊢
    cases hon : j.on env with
    | false =>
      rw [hon] at h
      simp only [] at h
      rw [awpL, free_on hij] at h
      cases hoi : i.on env with
      | false =>
        rw [hoi] at h
        simp only [] at h ⊢
        rw [awpL, free_on hji, hon]
        simp only []
        rw [← put_put hij]
        exact h
      | true =>
        rw [hoi] at h
        simp only [] at h ⊢
        rw [eval_put (free_args hij)] at h
        cases hi : i.ins with
        | q qi =>
          rw [hi] at h
          simp only [] at h ⊢
          split at h
          · rename_i v hv
            rw [awpL, free_on hji, hon]
            simp only []
            rw [← put_put hij]
            exact h
          · exact h.elim
        | e ei =>
          rw [hi] at h
          simp only [] at h ⊢
          refine awpE_mono (fun v H' hv => ⟨hv.1, ?_⟩) (fun _ _ h => h) h
          rw [awpL, free_on hji, hon]
          simp only []
          rw [← put_put hij]
          exact hv.2
    | true =>
      rw [hon] at h
      simp only [hq] at h
      cases hv : q.ev (j.args.map env.eval) H with
      | none => rw [hv] at h; exact h.elim
      | some v =>
        rw [hv] at h
        simp only [] at h
        rw [awpL, free_on hij] at h
        cases hoi : i.on env with
        | false =>
          rw [hoi] at h
          simp only [] at h ⊢
          rw [awpL, free_on hji, hon]
          simp only [hq]
          rw [eval_put (free_args hji), hv]
          simp only []
          rw [← put_put hij]
          exact h
        | true =>
          rw [hoi] at h
          simp only [] at h ⊢
          rw [eval_put (free_args hij)] at h
          cases hi : i.ins with
          | q qi =>
            rw [hi] at h
            simp only [] at h ⊢
            split at h
            · rename_i u hu
              rw [awpL, free_on hji, hon]
              simp only [hq]
              rw [eval_put (free_args hji), hv]
              simp only []
              rw [← put_put hij]
              refine awpL_done _ _ _ _ _ ?_ h
              intro p hp
              cases hjk : j.keep <;> cases hik : i.keep <;> simp_all <;> grind
            · exact h.elim
          | e ei =>
            rw [hi] at h hre
            simp only [] at h hre ⊢
            by_cases ha : ei.alloc = true
            · obtain ⟨pi, oi, vi, hk⟩ := (awpE_alloc ha).1 h
              refine (awpE_alloc ha).2 ⟨pi, oi, vi, fun r hr => ?_⟩
              have hu := hk r hr
              refine ⟨fun p hp => hu.1 p ?_, ?_⟩
              · split
                · exact List.mem_cons_of_mem _ hp
                · exact hp
              · rw [awpL, free_on hji, hon]
                simp only [hq]
                rw [eval_put (free_args hji), set_ev hr hv]
                simp only []
                rw [← put_put hij]
                exact hu.2
            simp only [ha, Bool.or_false] at hre
            refine awpE_mono (fun u H' hu => ?_) (fun _ _ h => h) h
            refine ⟨?_, ?_⟩
            · intro p hp
              refine hu.1 p ?_
              split
              · exact List.mem_cons_of_mem _ hp
              · exact hp
            · rw [awpL, free_on hji, hon]
              simp only [hq]
              have hv' : q.ev (j.args.map env.eval) H' = some v := by
                simp only [Bool.or_eq_true, Bool.and_eq_true] at hre
                rcases hre with hp | ⟨hk, hc⟩
                · rw [pure_ev hp _ H' H]; exact hv
                · have := hu.1 (j.i, fun H' => q.ev (j.args.map env.eval) H' = some v) (by rw [if_pos hk]; exact List.mem_cons_self) (by simpa using hc)
                  exact this
              rw [eval_put (free_args hji), hv']
              simp only []
              rw [← put_put hij]
              exact hu.2
end Go.Proofs.YtgbhdpeibiglfaaDoor.Sep
