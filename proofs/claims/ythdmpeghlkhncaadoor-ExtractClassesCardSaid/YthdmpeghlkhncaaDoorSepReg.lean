/-
  REGIONS AND CODE IN SHORT: operations in one order, which stands for every order that Go leaves open; code; functions.
-/
import Derived.Test.YthdmpeghlkhncaaDoorSepOk4
set_option linter.unusedVariables false
set_option linter.unusedSimpArgs false
namespace Go.Proofs.YthdmpeghlkhncaaDoor.Sep
open Go Go.RowKit

abbrev Env := Nat → Value
def Env.put (env : Env) (d : Option Tmp) (v : Value) : Env :=
  match d with
  | some d => fun t => if t = d then v else env t
  | none => env
def Env.eval (env : Env) : Operand → Value
  | .tmp t => env t
  | .const v => v
  | .global g => .pointer (some ⟨g, 0, none⟩)
  | .func f => .func (.func f) #[] #[]

/-- One operation of a region: its place among them, what it does, with what, where the answer goes, what guards it; the readings that must stand behind it; whether it is itself such a reading. -/
structure Stp where
  i : Nat
  ins : Ins
  args : List Operand
  dst : Option Tmp
  guard : Option (Tmp × Bool)
  re : List Nat
  keep : Bool

def Stp.on (s : Stp) (env : Env) : Bool :=
  match s.guard with
  | none => true
  | some (t, want) => match env t with
    | .bool b => b == want
    | _ => false

abbrev Done := List (Nat × (Heap → Prop))

def awpL (P : Program) : List Stp → Done → (Env → Heap → Prop) → (List PanicEntry → Heap → Prop) → Env → Heap → Prop
  | [], _, K, _, env, H => K env H
  | s :: rest, done, K, KP, env, H =>
    match s.on env with
    | false => awpL P rest done K KP (env.put s.dst undef) H
    | true => match s.ins with
      | .q q => match q.ev (s.args.map env.eval) H with
        | some v => awpL P rest (if s.keep then (s.i, fun H' => q.ev (s.args.map env.eval) H' = some v) :: done else done) K KP (env.put s.dst v) H
        | none => False
      | .e e => awpE P e (s.args.map env.eval) (fun v H' => (∀ p ∈ done, p.1 ∈ s.re → p.2 H') ∧ awpL P rest done K KP (env.put s.dst v) H') KP H

theorem endK_mono {K K' : Value → Heap → Prop} {KP KP' : List PanicEntry → Heap → Prop} (h : ∀ v H, K v H → K' v H) (hp : ∀ v H, KP v H → KP' v H) (e : Ending) (H : Heap) (hk : endK K KP e H) : endK K' KP' e H := by
  cases e <;> first | exact h _ _ hk | exact hp _ _ hk | exact hk.elim

theorem awpE_mono {P : Program} {e : EI} {xs : List Value} {K K' : Value → Heap → Prop} {KP KP' : List PanicEntry → Heap → Prop} {H : Heap} (hm : ∀ v H, K v H → K' v H) (hp : ∀ v H, KP v H → KP' v H) (h : awpE P e xs K KP H) : awpE P e xs K' KP' H := by
  unfold awpE at h ⊢
  split at h
  · exact fun r hr => hm _ _ (h r hr)
  · exact fun r hr => hm _ _ (h r hr)
  · try simp only [] at h ⊢
    split at h
    · exact fun r hr => hm _ _ (h r hr)
    · exact h.elim
  · try simp only [] at h ⊢
    refine ⟨h.1, ?_⟩
    have h2 := h.2
    split at h2
    · exact hm _ _ h2
    · exact h2.elim
  · try simp only [] at h ⊢
    exact ⟨h.1, h.2.1, h.2.2.1, h.2.2.2.1, fun r hr => hm _ _ (h.2.2.2.2 r hr)⟩
  · try simp only [] at h ⊢
    obtain ⟨S, hS, hk⟩ := h
    exact ⟨S, hS, fun e H' hs => endK_mono hm hp _ _ (hk e H' hs)⟩
  · try simp only [] at h ⊢
    obtain ⟨hc, S, hS, hk⟩ := h
    exact ⟨hc, S, hS, fun e H' hs => endK_mono hm hp _ _ (hk e H' hs)⟩
  · try simp only [] at h ⊢
    split at h
    · exact h.elim
    · split at h
      · exact h.elim
      · refine ⟨fun hle => ?_, fun hlt => ?_⟩
        · have h1 := h.1 hle
          split at h1
          · split at h1
            · exact hm _ _ h1
            · exact h1.elim
          · exact hm _ _ h1
        · obtain ⟨h1, h2⟩ := h.2 hlt
          refine ⟨h1, ?_⟩
          split at h2
          · exact h2.elim
          · exact fun r c hc hr => hm _ _ (h2 r c hc hr)
  · try simp only [] at h ⊢
    split at h
    · exact h.elim
    · split at h
      · exact h.elim
      · split at h
        · split at h
          · exact hm _ _ h
          · exact h.elim
        · exact hm _ _ h
  · exact hp _ _ h
  · exact h.elim

theorem awpL_done {P : Program} {K : Env → Heap → Prop} {KP : List PanicEntry → Heap → Prop} : ∀ (L : List Stp) (D D' : Done) (env : Env) (H : Heap), (∀ p ∈ D, p ∈ D') → awpL P L D' K KP env H → awpL P L D K KP env H
  | [], D, D', env, H, hd, h => h
  | s :: rest, D, D', env, H, hd, h => by
    unfold awpL at h ⊢
    split at h
    · exact awpL_done rest D D' _ H hd h
    · split at h
      · split at h
        · refine awpL_done rest _ _ _ H ?_ h
          intro p hp
          split at hp
          · rename_i hk
            rw [if_pos hk]
            rcases List.mem_cons.1 hp with rfl | hp
            · exact List.mem_cons_self
            · exact List.mem_cons_of_mem _ (hd p hp)
          · rename_i hk
            rw [if_neg hk]
            exact hd p hp
        · exact h.elim
      · exact awpE_mono (fun v H' hv => ⟨fun p hp hre => hv.1 p (hd p hp) hre, awpL_done rest D D' _ H' hd hv.2⟩) (fun _ _ h => h) h

/-! ### Two that stand beside each other change places -/
def tmpsOf (xs : List Operand) : List Tmp := xs.filterMap fun | .tmp t => some t | _ => none
/-- the temporaries that a step looks at -/
def Stp.looks (s : Stp) : List Tmp := tmpsOf s.args ++ (match s.guard with | some (t, _) => [t] | none => [])
def Stp.free (s : Stp) (d : Option Tmp) : Bool := match d with
  | some d => !s.looks.contains d && s.dst != some d
  | none => true
def apartS (x y : Stp) : Bool := y.free x.dst && x.free y.dst

theorem eval_put {env : Env} {d : Option Tmp} {v : Value} {xs : List Operand} (h : ∀ t, d = some t → t ∉ tmpsOf xs) : xs.map (env.put d v).eval = xs.map env.eval := by
  refine List.map_congr_left fun x hx => ?_
  cases d with
  | none => rfl
  | some d =>
    cases x <;> try rfl
    rename_i t
    simp only [Env.eval, Env.put]
    rw [if_neg]
    rintro rfl
    exact h t rfl (List.mem_filterMap.2 ⟨_, hx, rfl⟩)
theorem free_args {s : Stp} {d : Option Tmp} (h : s.free d = true) : ∀ t, d = some t → t ∉ tmpsOf s.args := by
  rintro t rfl ht
  simp only [Stp.free, Bool.and_eq_true, Bool.not_eq_true', List.contains_eq_mem, decide_eq_false_iff_not] at h
  exact h.1 (List.mem_append_left _ ht)
theorem free_on {s : Stp} {d : Option Tmp} (h : s.free d = true) (env : Env) (v : Value) : s.on (env.put d v) = s.on env := by
  unfold Stp.on
  cases hg : s.guard with
  | none => rfl
  | some gw =>
    obtain ⟨t, want⟩ := gw
    cases d with
    | none => rfl
    | some d =>
      have : t ≠ d := by
        rintro rfl
        simp only [Stp.free, Bool.and_eq_true, Bool.not_eq_true', List.contains_eq_mem, decide_eq_false_iff_not] at h
        exact h.1 (List.mem_append_right _ (by rw [hg]; simp))
      simp only [Env.put, if_neg this]
theorem put_put {env : Env} {x y : Stp} (h : y.free x.dst = true) (v u : Value) : (env.put x.dst v).put y.dst u = (env.put y.dst u).put x.dst v := by
  cases hx : x.dst with
  | none => rfl
  | some d =>
    cases hy : y.dst with
    | none => rfl
    | some e =>
      have : e ≠ d := by
        rintro rfl
        rw [hx] at h
        simp [Stp.free, hy] at h
      funext t
      simp only [Env.put]
      split
      · rename_i ht; subst ht; rw [if_neg this]
      · rfl

/-- looks at no memory -/
def QI.pure : QI → Bool
  | .ld | .ldn _ | .b2s => false
  | _ => true
theorem pure_ev {q : QI} (h : q.pure = true) (xs : List Value) (H H' : Heap) : q.ev xs H = q.ev xs H' := by
  cases q <;> first | (simp [QI.pure] at h; done) | skip
  all_goals (unfold QI.ev; repeat' split) <;> first | rfl | simp_all

/-- j stands ahead of i, and may stand behind it -/
def swapOk (j i : Stp) : Bool :=
  match j.ins with
  | .e _ => false
  | .q q => apartS j i && (match i.ins with
    | .q _ => true
    | .e _ => q.pure || (j.keep && i.re.contains j.i))

theorem swap {P : Program} {K : Env → Heap → Prop} {KP : List PanicEntry → Heap → Prop} {j i : Stp} (hs : swapOk j i = true) {rest : List Stp} {D : Done} {env : Env} {H : Heap}
    (h : awpL P (j :: i :: rest) D K KP env H) : awpL P (i :: j :: rest) D K KP env H := by
  unfold swapOk at hs
  split at hs
  · cases hs
  · rename_i q hq
    simp only [Bool.and_eq_true] at hs
    obtain ⟨hap, hre⟩ := hs
    simp only [apartS, Bool.and_eq_true] at hap
    obtain ⟨hij, hji⟩ := hap
    rw [awpL] at h ⊢
    cases hon : j.on env with
    | false =>
      rw [hon] at h
      simp only [] at h
      rw [awpL, free_on hij] at h
      cases hoi : i.on env with
      | false =>
        rw [hoi] at h
        simp only [] at h ⊢
        rw [awpL, free_on hji, hon]
        simp only []
        rw [← put_put hij]
        exact h
      | true =>
        rw [hoi] at h
        simp only [] at h ⊢
        rw [eval_put (free_args hij)] at h
        cases hi : i.ins with
        | q qi =>
          rw [hi] at h
          simp only [] at h ⊢
          split at h
          · rename_i v hv
            rw [awpL, free_on hji, hon]
            simp only []
            rw [← put_put hij]
            exact h
          · exact h.elim
        | e ei =>
          rw [hi] at h
          simp only [] at h ⊢
          refine awpE_mono (fun v H' hv => ⟨hv.1, ?_⟩) (fun _ _ h => h) h
          rw [awpL, free_on hji, hon]
          simp only []
          rw [← put_put hij]
          exact hv.2
    | true =>
      rw [hon] at h
      simp only [hq] at h
      cases hv : q.ev (j.args.map env.eval) H with
      | none => rw [hv] at h; exact h.elim
      | some v =>
        rw [hv] at h
        simp only [] at h
        rw [awpL, free_on hij] at h
        cases hoi : i.on env with
        | false =>
          rw [hoi] at h
          simp only [] at h ⊢
          rw [awpL, free_on hji, hon]
          simp only [hq]
          rw [eval_put (free_args hji), hv]
          simp only []
          rw [← put_put hij]
          exact h
        | true =>
          rw [hoi] at h
          simp only [] at h ⊢
          rw [eval_put (free_args hij)] at h
          cases hi : i.ins with
          | q qi =>
            rw [hi] at h
            simp only [] at h ⊢
            split at h
            · rename_i u hu
              rw [awpL, free_on hji, hon]
              simp only [hq]
              rw [eval_put (free_args hji), hv]
              simp only []
              rw [← put_put hij]
              refine awpL_done _ _ _ _ _ ?_ h
              intro p hp
              cases hjk : j.keep <;> cases hik : i.keep <;> simp_all <;> grind
            · exact h.elim
          | e ei =>
            rw [hi] at h hre
            simp only [] at h hre ⊢
            refine awpE_mono (fun u H' hu => ?_) (fun _ _ h => h) h
            refine ⟨?_, ?_⟩
            · intro p hp
              refine hu.1 p ?_
              split
              · exact List.mem_cons_of_mem _ hp
              · exact hp
            · rw [awpL, free_on hji, hon]
              simp only [hq]
              have hv' : q.ev (j.args.map env.eval) H' = some v := by
                simp only [Bool.or_eq_true, Bool.and_eq_true] at hre
                rcases hre with hp | ⟨hk, hc⟩
                · rw [pure_ev hp _ H' H]; exact hv
                · have := hu.1 (j.i, fun H' => q.ev (j.args.map env.eval) H' = some v) (by rw [if_pos hk]; exact List.mem_cons_self) (by simpa using hc)
                  exact this
              rw [eval_put (free_args hji), hv']
              simp only []
              rw [← put_put hij]
              exact hu.2
end Go.Proofs.YthdmpeghlkhncaaDoor.Sep
