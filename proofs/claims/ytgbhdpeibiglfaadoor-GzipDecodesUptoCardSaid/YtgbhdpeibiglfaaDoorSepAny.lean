/-
  A REGION IN SHORT STANDS FOR EVERY ORDER of its operations that Go leaves open.
-/
import Derived.Test.YtgbhdpeibiglfaaDoorSepReg
set_option linter.unusedVariables false
set_option linter.unusedSimpArgs false
namespace Go.Proofs.YtgbhdpeibiglfaaDoor.Sep
open Go Go.RowKit

/-- what is behind a binding edge -/
def edgesOf (o : Oper) : List Nat := (o.after.toList.filter (Region.binds .any)).map (·.on)
def maskOf (l : List Nat) : Nat := l.foldl (fun m j => m ||| 2 ^ j) 0
def closOf (acc : List Nat) (l : List Nat) : Nat := l.foldl (fun m j => m ||| 2 ^ j ||| acc.getD j 0) 0
/-- of each operation a mask of all that must stand ahead of it -/
def closAux : List Oper → List Nat → List Nat
  | [], acc => acc
  | o :: os, acc => closAux os (acc ++ [closOf acc (edgesOf o)])

theorem closOf_bit (acc : List Nat) : ∀ (l : List Nat) (m j : Nat), (l.foldl (fun m j => m ||| 2 ^ j ||| acc.getD j 0) m).testBit j = true → m.testBit j = true ∨ ∃ k ∈ l, k = j ∨ (acc.getD k 0).testBit j = true
  | [], m, j, h => .inl h
  | k :: l, m, j, h => by
    rw [List.foldl_cons] at h
    rcases closOf_bit acc l _ j h with h | ⟨k', hk, h⟩
    · simp only [Nat.testBit_or, Bool.or_eq_true] at h
      rcases h with (h | h) | h
      · exact .inl h
      · rw [Nat.testBit_two_pow] at h
        exact .inr ⟨k, List.mem_cons_self, .inl (by simpa using h)⟩
      · exact .inr ⟨k, List.mem_cons_self, .inr h⟩
    · exact .inr ⟨k', List.mem_cons_of_mem _ hk, h⟩

def ClosOk (ops : List Oper) (cl : List Nat) : Prop := ∀ (k : Nat) o j, ops[k]? = some o → (cl.getD k 0).testBit j = true → ∃ x ∈ edgesOf o, x = j ∨ (x < k ∧ (cl.getD x 0).testBit j = true)
theorem closAux_ok : ∀ (os pre : List Oper) (acc : List Nat), acc.length = pre.length → ClosOk pre acc → ClosOk (pre ++ os) (closAux os acc) ∧ (closAux os acc).length = (pre ++ os).length
  | [], pre, acc, hl, h => by simp only [closAux, List.append_nil]; exact ⟨h, hl⟩
  | o :: os, pre, acc, hl, h => by
    simp only [closAux]
    have key := closAux_ok os (pre ++ [o]) (acc ++ [closOf acc (edgesOf o)]) (by simp [hl]) (by
      intro k x j hk hj
      rcases Nat.lt_trichotomy k pre.length with hlt | heq | hgt
      · rw [List.getElem?_append_left hlt] at hk
        have e : (acc ++ [closOf acc (edgesOf o)]).getD k 0 = acc.getD k 0 := by
          simp only [List.getD_eq_getElem?_getD]; rw [List.getElem?_append_left (by omega)]
        rw [e] at hj
        obtain ⟨y, hy, hc⟩ := h k x j hk hj
        refine ⟨y, hy, hc.imp id fun ⟨h1, h2⟩ => ⟨h1, ?_⟩⟩
        simp only [List.getD_eq_getElem?_getD]; rw [List.getElem?_append_left (by omega)]
        simpa [List.getD_eq_getElem?_getD] using h2
      · subst heq
        rw [List.getElem?_append_right (Nat.le_refl _)] at hk
        simp at hk
        subst hk
        have e : (acc ++ [closOf acc (edgesOf o)]).getD pre.length 0 = closOf acc (edgesOf o) := by
          simp only [List.getD_eq_getElem?_getD]; rw [List.getElem?_append_right (by omega)]; simp [hl]
        rw [e] at hj
        rcases closOf_bit acc _ 0 j hj with hz | ⟨y, hy, hc⟩
        · simp at hz
        · refine ⟨y, hy, hc.imp id fun h2 => ?_⟩
          have hlt : y < acc.length := by
            rcases Nat.lt_or_ge y acc.length with h3 | h3
            · exact h3
            · simp only [List.getD_eq_getElem?_getD, List.getElem?_eq_none h3] at h2; simp at h2
          refine ⟨by omega, ?_⟩
          simp only [List.getD_eq_getElem?_getD]; rw [List.getElem?_append_left hlt]
          simpa [List.getD_eq_getElem?_getD] using h2
      · rw [List.getElem?_eq_none (by simp; omega)] at hk
        cases hk)
    simpa using key

/-- Each listed one has all that must stand ahead of it listed. -/
def Down (ops : Array Oper) (listed : Array Bool) : Prop := ∀ (k : Nat) o, ops[k]? = some o → listed.getD k false = true → ∀ j ∈ edgesOf o, listed.getD j false = true
theorem clos_listed {ops : Array Oper} {cl : List Nat} {listed : Array Bool} (hc : ClosOk ops.toList cl) (hd : Down ops listed) : ∀ (k : Nat) o j, ops[k]? = some o → (∀ x ∈ edgesOf o, listed.getD x false = true) → (cl.getD k 0).testBit j = true → listed.getD j false = true := by
  intro k
  induction k using Nat.strongRecOn with
  | _ k ih =>
    intro o j ho hx hj
    obtain ⟨x, hxe, rfl | ⟨hlt, hxj⟩⟩ := hc k o j (by simpa using ho) hj
    · exact hx _ hxe
    · have hxk : x < ops.size := by have := (Array.getElem?_eq_some_iff.1 ho).1; omega
      exact ih x hlt ops[x] j (Array.getElem?_eq_getElem hxk) (hd x _ (Array.getElem?_eq_getElem hxk) (hx x hxe)) hxj

/-- a step is what the operation at its place says -/
structure StpOk (P : Program) (n : Nat) (ops : Array Oper) (s : Stp) (o : Oper) : Prop where
  at_ : ops[s.i]? = some o
  low : lowOp P o = some (s.ins, s.args)
  dst : s.dst = o.dst
  guard : match o.guard with
    | none => s.guard = none
    | some (j, want) => ∃ t, (ops[j]?).bind (·.dst) = some t ∧ s.guard = some (t, want) ∧ t < n
  below : ∀ t, .tmp t ∈ o.op.operands → t < n

structure Agree (n : Nat) (env : Env) (a : Act) : Prop where
  size : a.tmps.size = n
  at_ : ∀ t, t < n → a.tmps[t]? = some (env t)
/-- what a function holds: its deferred calls; temporaries that stay, and what they hold -/
structure Hold where
  ds : List Deferred
  T : Tmp → Bool
  e0 : Env
def Hold.none : Hold := ⟨[], fun _ => false, fun _ => undef⟩
structure At (H0 : Heap) (w0 : World) (n : Nat) (hd : Hold) (env : Env) (H : Heap) (a : Act) (w : World) : Prop where
  agree : Agree n env a
  sees : Sees H w
  ext : Ext H0 w0 H w
  defers : a.defers = hd.ds
  held : ∀ t, hd.T t = true → env t = hd.e0 t
def Stp.spares (T : Tmp → Bool) (s : Stp) : Bool := match s.dst with
  | some d => !T d
  | none => true
/-- what stays of an activation -/
def Held (n : Nat) (hd : Hold) (a : Act) : Prop := a.tmps.size = n ∧ ∀ t, hd.T t = true → t < n → a.tmps[t]? = some (hd.e0 t)
theorem At.acts {H0 : Heap} {w0 : World} {n : Nat} {hd : Hold} {env : Env} {H : Heap} {a : Act} {w : World} (h : At H0 w0 n hd env H a w) : Held n hd a := ⟨h.agree.size, fun t ht hn => by rw [h.agree.at_ t hn, h.held t ht]⟩
theorem held_put {hd : Hold} {env : Env} {s : Stp} (hs : s.spares hd.T = true) (h : ∀ t, hd.T t = true → env t = hd.e0 t) (v : Value) : ∀ t, hd.T t = true → (env.put s.dst v) t = hd.e0 t := by
  intro t ht
  unfold Stp.spares at hs
  cases hd' : s.dst with
  | none => exact h t ht
  | some d =>
    rw [hd'] at hs
    simp only [Bool.not_eq_true'] at hs
    have : t ≠ d := by rintro rfl; rw [hs] at ht; cases ht
    simp only [Env.put, if_neg this]
    exact h t ht

theorem Agree.put {n : Nat} {env : Env} {a : Act} (h : Agree n env a) (d : Option Tmp) (v : Value) : Agree n (env.put d v) (a.put d v) := by
  cases d with
  | none => exact h
  | some d =>
    refine ⟨by simp [Act.put, h.size], fun t ht => ?_⟩
    simp only [Act.put, Env.put]
    by_cases e : t = d
    · subst e
      rw [if_pos rfl, Array.getElem?_setIfInBounds_self_of_lt (by rw [h.size]; exact ht)]
    · rw [if_neg e, Array.getElem?_setIfInBounds_ne (Ne.symm e)]
      exact h.at_ t ht
theorem Agree.eval {n : Nat} {env : Env} {a : Act} (h : Agree n env a) {x : Operand} (hx : ∀ t, x = .tmp t → t < n) : a.eval x = env.eval x := by
  cases x <;> try rfl
  rename_i t
  have := h.at_ t (hx t rfl)
  simp [Act.eval, Env.eval, this]

theorem lowOp_select {P : Program} {o : Oper} {r : Ins × List Operand} (h : lowOp P o = some r) : ∀ cs b, o.op ≠ .select cs b := by
  intro cs b e
  unfold lowOp at h
  rw [e] at h
  simp at h

section
variable {P : Program} {n : Nat} {ops : Array Oper}

theorem StpOk.on {s : Stp} {o : Oper} (h : StpOk P n ops s o) {env : Env} {a : Act} (ha : Agree n env a) : Region.wanted o (yielded ops a.tmps) = s.on env := by
  unfold Region.wanted Stp.on
  have hg := h.guard
  cases hgo : o.guard with
  | none => rw [hgo] at hg; rw [hg]
  | some gw =>
    obtain ⟨j, want⟩ := gw
    rw [hgo] at hg
    obtain ⟨t, ht, hs, hlt⟩ := hg
    rw [hs]
    simp only [yielded, ht, Option.bind_some, ha.at_ t hlt]
    cases env t <;> simp

theorem step_wp {s : Stp} {o : Oper} (hs : StpOk P n ops s o) {rest : List Stp} {D : Done} {K : Env → Heap → Prop} {KP : List PanicEntry → Heap → Prop} {env : Env} {H H0 : Heap} {a : Act} {w w0 : World} {ds : Hold}
    (hsp : s.spares ds.T = true) (hM : Mono D) (h : awpL P (s :: rest) D K KP env H) (hat : At H0 w0 n ds env H a w) {Kc : Act → World → Prop} {Q : Exit → Act → World → Prop}
    (hK : ∀ a' w' env' H' D', Mono D' → awpL P rest D' K KP env' H' → At H0 w0 n ds env' H' a' w' → Kc a' w')
    (hQ : ∀ ch a' w' H', KP ch H' → a'.defers = ds.ds → Held n ds a' → Sees H' w' → Ext H0 w0 H' w' → Q (.panic ch) a' w') : wpOp P ops Q s.i Kc a w := by
  unfold wpOp
  rw [hs.at_]
  simp only []
  rw [hs.on hat.agree]
  rw [awpL] at h
  cases hon : s.on env with
  | false =>
    rw [hon] at h
    simp only [Bool.false_eq_true, if_false] at h ⊢
    rw [← hs.dst]
    exact hK _ _ _ _ _ hM h ⟨hat.agree.put _ _, hat.sees, hat.ext, by cases hd : s.dst <;> simp [Act.put, hat.defers], held_put hsp hat.held _⟩
  | true =>
    rw [hon] at h
    simp only [if_true] at h ⊢
    refine .inl ?_
    have hev : ∀ x ∈ o.op.operands, a.eval x = env.eval x := fun x hx => hat.agree.eval fun t e => hs.below t (e ▸ hx)
    unfold Oper.wp
    rw [execOp_congr o (lowOp_select hs.low) hev]
    have hput : ∀ v, ((a.put o.dst v)).defers = ds.ds := fun v => by cases hd : o.dst <;> simp [Act.put, hat.defers]
    have key : awpS P (execOp env.eval o) (nextK P (fun v H' => ∃ D', Mono D' ∧ awpL P rest D' K KP (env.put s.dst v) H') KP) H := by
      cases hi : s.ins with
      | q q =>
        rw [hi] at h
        simp only [] at h
        split at h
        · rename_i v hv
          exact lowQ_ok (by rw [hs.low, hi]) hv _ ⟨_, hM.cons _ _, h⟩
        · exact h.elim
      | e e =>
        rw [hi] at h
        simp only [] at h
        exact lowE_ok (by rw [hs.low, hi]) (awpE_mono (fun v H' hv => ⟨D, hM, hv.2⟩) (fun _ _ h => h) h) (fun g => rfl)
    have hrun := awpS_run _ key hat.sees
    cases hr : (execOp env.eval o).run P w with
    | ok nx w' =>
      rw [hr] at hrun
      obtain ⟨H', hk, hsee, hext⟩ := hrun
      cases nx <;> simp only [nextK] at hk <;> try exact hk.elim
      · obtain ⟨D', hM', hk⟩ := hk
        simp only [Oper.upon]
        exact hK _ _ _ _ _ hM' hk ⟨by rw [hs.dst]; exact hat.agree.put _ _, hsee, hat.ext.trans hext, hput _, held_put hsp hat.held _⟩
      · obtain ⟨D', hM', hk⟩ := hk
        simp only [Oper.upon]
        exact hK _ _ _ _ _ hM' hk ⟨by rw [hs.dst]; exact hat.agree.put _ _, hsee, hat.ext.trans hext, hput _, held_put hsp hat.held _⟩
      · obtain ⟨S, hS, hk⟩ := hk
        simp only [Oper.upon]
        refine (hS w' hsee).mono fun e w'' ⟨H'', he, hsee2, hext2⟩ => ?_
        have hk2 := hk e H'' he
        cases e <;> simp only [endK] at hk2
        · obtain ⟨D', hM', hk2⟩ := hk2
          exact hK _ _ _ _ _ hM' hk2 ⟨by rw [hs.dst]; exact hat.agree.put _ _, hsee2, (hat.ext.trans hext).trans hext2, hput _, held_put hsp hat.held _⟩
        · exact hQ _ _ _ _ hk2 hat.defers hat.acts hsee2 ((hat.ext.trans hext).trans hext2)
    | halt x w' =>
      rw [hr] at hrun
      cases x <;> simp only [RunsTo] at hrun
      obtain ⟨H', hk, hsee, hext⟩ := hrun
      simp only [Oper.upon]
      exact hQ _ _ _ _ hk hat.defers hat.acts hsee (hat.ext.trans hext)

/-- in the order of the text -/
theorem order_wp {K : Env → Heap → Prop} {KP : List PanicEntry → Heap → Prop} {H0 : Heap} {w0 : World} {ds : Hold} {Q : Exit → Act → World → Prop}
    (hN : ∀ a' w' env' H', K env' H' → At H0 w0 n ds env' H' a' w' → Q .normal a' w')
    (hQ : ∀ ch a' w' H', KP ch H' → a'.defers = ds.ds → Held n ds a' → Sees H' w' → Ext H0 w0 H' w' → Q (.panic ch) a' w') :
    ∀ (S : List Stp) (D : Done) (env : Env) (H : Heap) (a : Act) (w : World), (∀ s ∈ S, ∃ o, StpOk P n ops s o) → (∀ s ∈ S, s.spares ds.T = true) → Mono D → awpL P S D K KP env H → At H0 w0 n ds env H a w → wpOps P ops Q (S.map (·.i)) a w
  | [], D, env, H, a, w, hS, hsp, hM, h, hat => hN _ _ _ _ h hat
  | s :: S, D, env, H, a, w, hS, hsp, hM, h, hat => by
    rw [List.map_cons, wpOps_cons]
    obtain ⟨o, ho⟩ := hS s List.mem_cons_self
    exact step_wp ho (hsp s List.mem_cons_self) hM h hat (fun a' w' env' H' D' hM' h' hat' => order_wp hN hQ S D' env' H' a' w' (fun s hs => hS s (List.mem_cons_of_mem _ hs)) (fun s hs => hsp s (List.mem_cons_of_mem _ hs)) hM' h' hat') hQ

/-- j ahead of i in the order that is written: i is not what j waits for, and j must stand there or may as well stand behind -/
def pairOk (cl : List Nat) (E : List (List Nat)) (j i : Stp) : Bool := !(E.getD j.i []).contains i.i && ((cl.getD i.i 0).testBit j.i || swapOk j i)

theorem Sees.roomy {H : Heap} {w : World} (h : Sees H w) : Roomy H := fun n => ⟨n + w.heap.size, by omega, by
  cases hr : H (n + w.heap.size) with
  | none => rfl
  | some o => have := h.lt hr; omega⟩
theorem front {K : Env → Heap → Prop} {KP : List PanicEntry → Heap → Prop} {i : Stp} {B : List Stp} : ∀ (A : List Stp) (D : Done) (env : Env) (H : Heap), Mono D → Roomy H → (∀ j ∈ A, swapOk j i = true) → awpL P (A ++ i :: B) D K KP env H → awpL P (i :: (A ++ B)) D K KP env H
  | [], D, env, H, hM, hR, hA, h => h
  | j :: A, D, env, H, hM, hR, hA, h => by
    have hj := hA j List.mem_cons_self
    have h2 : awpL P (j :: i :: (A ++ B)) D K KP env H := by
      rw [List.cons_append, awpL] at h
      rw [awpL]
      cases hon : j.on env with
      | false => rw [hon] at h; exact front A _ _ _ hM hR (fun x hx => hA x (List.mem_cons_of_mem _ hx)) h
      | true =>
        rw [hon] at h
        simp only [] at h ⊢
        cases hq : j.ins with
        | q q =>
          rw [hq] at h
          simp only [] at h ⊢
          split at h
          · rename_i v hv
            exact front A _ _ _ (hM.cons _ _) hR (fun x hx => hA x (List.mem_cons_of_mem _ hx)) h
          · exact h.elim
        | e ej =>
          rw [hq] at h
          simp only [] at h ⊢
          have ha : ej.alloc = true ∨ ∃ f, ej = .call f := by
            unfold swapOk at hj
            rw [hq] at hj
            simp only [] at hj
            split at hj
            · simp only [Bool.and_eq_true, Bool.or_eq_true] at hj
              rcases hj.2 with h3 | h3
              · exact .inl h3.1.1.1
              · right
                have := h3.1.1
                cases ej <;> first | exact ⟨_, rfl⟩ | (simp [EI.isCall] at this)
            · cases hj
          rcases ha with ha | ⟨f, rfl⟩
          · obtain ⟨p, o, hv, hk⟩ := (awpE_alloc ha).1 h
            exact (awpE_alloc ha).2 ⟨p, o, hv, fun r hr => ⟨(hk r hr).1, front A _ _ _ hM (hR.set r o) (fun x hx => hA x (List.mem_cons_of_mem _ hx)) (hk r hr).2⟩⟩
          · obtain ⟨S, hS, hk⟩ := h
            refine ⟨fun e H' => S e H' ∧ Roomy H', fun w hw => (hS w hw).mono fun e w' ⟨H', he, hsee, hext⟩ => ⟨H', ⟨he, hsee.roomy⟩, hsee, hext⟩, fun e H' he => ?_⟩
            have := hk e H' he.1
            cases e with
            | returned v => exact ⟨this.1, front A _ _ _ hM he.2 (fun x hx => hA x (List.mem_cons_of_mem _ hx)) this.2⟩
            | panicked ch => exact this
            | outgrown => exact this
    exact swap hj hM hR h2

theorem getD_set {listed : Array Bool} {i j : Nat} (hi : i < listed.size) : (listed.setIfInBounds i true).getD j false = if j = i then true else listed.getD j false := by
  by_cases h : j = i
  · subst h; simp [hi]
  · rw [if_neg h, getD_set_ne false (Ne.symm h)]

theorem any_wp {K : Env → Heap → Prop} {KP : List PanicEntry → Heap → Prop} {H0 : Heap} {w0 : World} {ds : Hold} {Q : Exit → Act → World → Prop} {S : List Stp} {cl : List Nat} {E : List (List Nat)}
    (hN : ∀ a' w' env' H', K env' H' → At H0 w0 n ds env' H' a' w' → Q .normal a' w')
    (hQ : ∀ ch a' w' H', KP ch H' → a'.defers = ds.ds → Held n ds a' → Sees H' w' → Ext H0 w0 H' w' → Q (.panic ch) a' w')
    (hS : ∀ s ∈ S, ∃ o, StpOk P n ops s o) (hsp : ∀ s ∈ S, s.spares ds.T = true) (hall : ∀ k, k < ops.size → ∃ s ∈ S, s.i = k) (hpw : S.Pairwise fun j i => pairOk cl E j i = true ∧ j.i ≠ i.i) (hcl : ClosOk ops.toList cl) (hE : ∀ (k : Nat) o, ops[k]? = some o → E.getD k [] = edgesOf o) (hsz : ∀ (k : Nat) o, ops[k]? = some o → ∀ j ∈ edgesOf o, j < ops.size ∧ j ≠ k) :
    ∀ (fuel : Nat) (listed : Array Bool) (R : List Stp) (D : Done) (env : Env) (H : Heap) (a : Act) (w : World), listed.size = ops.size → R = S.filter (fun s => !listed.getD s.i false) → R.length ≤ fuel → Down ops listed → Mono D → awpL P R D K KP env H → At H0 w0 n ds env H a w → wpAny P .any ops Q fuel listed a w := by
  have hreadyR : ∀ (listed : Array Bool) (i : Nat), listed.size = ops.size → i ∈ Region.ready .any ops listed → ∃ s ∈ S.filter (fun s => !listed.getD s.i false), s.i = i ∧ ∃ o, ops[i]? = some o ∧ ∀ x ∈ edgesOf o, listed.getD x false = true := by
    intro listed i hls hi
    obtain ⟨h0, o, ho, hafter⟩ := mem_ready.1 hi
    have hlt := (Array.getElem?_eq_some_iff.1 ho).1
    obtain ⟨s, hsS, hsi⟩ := hall i hlt
    refine ⟨s, List.mem_filter.2 ⟨hsS, ?_⟩, hsi, o, ho, fun x hx => ?_⟩
    · rw [hsi]
      have : listed.getD i false = false := by
        simp only [Array.getD, hls, hlt, dif_pos] at h0 ⊢
        exact h0
      rw [this]; rfl
    · unfold edgesOf at hx
      obtain ⟨e, he, rfl⟩ := List.mem_map.1 hx
      obtain ⟨he1, he2⟩ := List.mem_filter.1 he
      exact hafter e (by simpa using he1) he2
  have hfirst : ∀ (listed : Array Bool) (s : Stp) (R : List Stp), listed.size = ops.size → s :: R = S.filter (fun s => !listed.getD s.i false) → s.i ∈ Region.ready .any ops listed := by
    intro listed s R hls hR
    have hsm : s ∈ S.filter (fun s => !listed.getD s.i false) := by rw [← hR]; exact List.mem_cons_self
    obtain ⟨hsS, hun⟩ := List.mem_filter.1 hsm
    obtain ⟨o, ho⟩ := hS s hsS
    have hlt := (Array.getElem?_eq_some_iff.1 ho.at_).1
    refine mem_ready.2 ⟨?_, o, ho.at_, fun e he hb => ?_⟩
    · have h1 : listed.getD s.i false = false := by simpa using hun
      simp only [Array.getD, hls, hlt, dif_pos] at h1 ⊢
      exact h1
    · have hx : e.on ∈ edgesOf o := List.mem_map.2 ⟨e, List.mem_filter.2 ⟨by simpa using he, hb⟩, rfl⟩
      cases hl : listed.getD e.on false with
      | true => rfl
      | false =>
        exfalso
        obtain ⟨t, htS, hti⟩ := hall e.on (hsz s.i o ho.at_ _ hx).1
        have htR : t ∈ S.filter (fun s => !listed.getD s.i false) := List.mem_filter.2 ⟨htS, by rw [hti, hl]; rfl⟩
        rw [← hR] at htR
        have hp : (s :: R).Pairwise fun j i => pairOk cl E j i = true ∧ j.i ≠ i.i := by rw [hR]; exact hpw.filter _
        rcases List.mem_cons.1 htR with rfl | htR
        · exact (hsz t.i o ho.at_ _ hx).2 hti.symm
        · have := (List.pairwise_cons.1 hp).1 t htR
          simp only [pairOk, Bool.and_eq_true, Bool.not_eq_true', List.contains_eq_mem, decide_eq_false_iff_not] at this
          rw [hE s.i o ho.at_, hti] at this
          exact this.1.1 hx
  intro fuel
  induction fuel with
  | zero =>
    intro listed R D env H a w hls hR hlen hdown hM h hat
    have hnil : R = [] := List.length_eq_zero_iff.1 (by omega)
    subst hnil
    refine ⟨?_, hN _ _ _ _ h hat⟩
    cases hr : Region.ready .any ops listed with
    | nil => rfl
    | cons i l =>
      obtain ⟨s, hs, _⟩ := hreadyR listed i hls (by rw [hr]; exact List.mem_cons_self)
      rw [← hR] at hs
      cases hs
  | succ fuel ih =>
    intro listed R D env H a w hls hR hlen hdown hM h hat
    refine ⟨fun hnil => ?_, fun i hi => ?_⟩
    · cases R with
      | nil => exact hN _ _ _ _ h hat
      | cons s R =>
        have := hfirst listed s R hls hR
        rw [hnil] at this
        cases this
    · obtain ⟨s, hs, hsi, o, ho, hx⟩ := hreadyR listed i hls hi
      rw [← hR] at hs
      obtain ⟨A, B, hAB⟩ := List.append_of_mem hs
      obtain ⟨hsS, hun⟩ := List.mem_filter.1 (by rw [← hR]; exact hs : s ∈ S.filter (fun s => !listed.getD s.i false))
      have hp : (A ++ s :: B).Pairwise fun j i => pairOk cl E j i = true ∧ j.i ≠ i.i := by rw [← hAB, hR]; exact hpw.filter _
      have hswap : ∀ j ∈ A, swapOk j s = true := by
        intro j hj
        have h1 := (List.pairwise_append.1 hp).2.2 j hj s List.mem_cons_self
        have h2 := h1.1
        simp only [pairOk, Bool.and_eq_true, Bool.or_eq_true] at h2
        rcases h2.2 with h3 | h3
        · exfalso
          have hl := clos_listed hcl hdown s.i o j.i (by rw [hsi]; exact ho) hx h3
          have hjR : j ∈ S.filter (fun s => !listed.getD s.i false) := by rw [← hR, hAB]; exact List.mem_append_left _ hj
          have := (List.mem_filter.1 hjR).2
          rw [hl] at this
          cases this
        · exact h3
      rw [hAB] at h
      have hf := front A D env H hM hat.sees.roomy hswap h
      obtain ⟨o', ho'⟩ := hS s hsS
      rw [← hsi]
      refine step_wp ho' (hsp s hsS) hM hf hat (fun a' w' env' H' D' hM' h' hat' => ?_) hQ
      have hlt : s.i < listed.size := by rw [hls]; exact (Array.getElem?_eq_some_iff.1 ho'.at_).1
      refine ih (listed.setIfInBounds s.i true) (A ++ B) D' env' H' a' w' (by simp [hls]) ?_ ?_ ?_ hM' h' hat'
      · have hne : ∀ x ∈ A ++ B, x.i ≠ s.i := by
          intro x hx
          rcases List.mem_append.1 hx with hx | hx
          · exact ((List.pairwise_append.1 hp).2.2 x hx s List.mem_cons_self).2
          · exact fun e => ((List.pairwise_cons.1 (List.pairwise_append.1 hp).2.1).1 x hx).2 e.symm
        have e1 : S.filter (fun x => !(listed.setIfInBounds s.i true).getD x.i false) = (S.filter (fun x => !listed.getD x.i false)).filter (fun x => x.i != s.i) := by
          rw [List.filter_filter]
          congr 1
          funext x
          rw [getD_set hlt]
          by_cases hxs : x.i = s.i
          · simp [hxs]
          · simp [hxs]
        rw [e1, ← hR, hAB, List.filter_append, List.filter_cons]
        simp only [bne_self_eq_false, Bool.false_eq_true, if_false]
        rw [List.filter_eq_self.2 (fun x hx => by simpa using hne x (List.mem_append_left _ hx)), List.filter_eq_self.2 (fun x hx => by simpa using hne x (List.mem_append_right _ hx))]
      · have : R.length = A.length + (B.length + 1) := by rw [hAB]; simp
        simp only [List.length_append]
        omega
      · intro k x hk hkl j hj
        rw [getD_set hlt] at hkl ⊢
        split
        · rfl
        · split at hkl
          · rename_i hks
            subst hks
            rw [hsi, ho] at hk
            cases hk
            exact hx j hj
          · exact hdown k x hk hkl j hj
end
end Go.Proofs.YtgbhdpeibiglfaaDoor.Sep
