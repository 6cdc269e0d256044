/-
  FUNCTIONS THAT DEFER, and deferred ones that recover.
-/
import Derived.Test.YtgbhdpeibiglfaaDoorSepUse
import Derived.Recover
set_option linter.unusedVariables false
set_option linter.unusedSimpArgs false
namespace Go.Proofs.YtgbhdpeibiglfaaDoor.Sep
open Go Go.RowKit

/-- code that defers: plain code; plain code and what follows; steps, a deferred call, and what follows -/
inductive DCode where
  | code (l : LCode)
  | seq (l : LCode) (d : DCode)
  | dfr (S : List Stp) (f : Operand) (args : List Operand) (d : DCode)
structure DFn where
  n : Nat
  results : List RV
  pre : LCode
  body : DCode

def dfrOf (v : Value) (args : List Value) : Option Deferred := match v with
  | .func (.func f) first captured => some ⟨.fn (.func f) captured, first ++ args.toArray⟩
  | _ => none

/-- what a deferred call does, entered in a mode -/
def ADef (P : Program) (d : Deferred) (u : FrameMode) (H : Heap) (S : Ending → FrameMode → Heap → Prop) : Prop :=
  ∀ w, Sees H w → ∃ fv cap f args, d.target = .fn fv cap ∧ (invoke d.target d.args).run P w = .ok (.enter f args) w ∧ CallsD P f args u w fun e u' w' => ∃ H', S e u' H' ∧ Sees H' w' ∧ Ext H w H' w'
theorem ADef.mono {P : Program} {d : Deferred} {u : FrameMode} {H : Heap} {S S' : Ending → FrameMode → Heap → Prop} (h : ADef P d u H S) (hs : ∀ e u' H', S e u' H' → S' e u' H') : ADef P d u H S' := fun w hw => by
  obtain ⟨fv, cap, f, args, h1, h2, h3⟩ := h w hw
  exact ⟨fv, cap, f, args, h1, h2, h3.mono fun e u' w' ⟨H', a, b⟩ => ⟨H', hs _ _ _ a, b⟩⟩

/-- what the deferred calls make of a frame that leaves -/
def ALeaves (P : Program) (rs : List RV) (env : Env) (S : Ending → Heap → Prop) : List Deferred → FrameMode → Heap → Prop
  | [], .returning, H => match getAll env H rs with
    | some vs => S (.returned (oneOr vs)) H
    | none => False
  | [], .panicking ch, H => S (.panicked ch) H
  | [], .run, _ => False
  | d :: ds, u, H => u ≠ .run ∧ ∃ S', ADef P d u H S' ∧ ∀ e u' H', S' e u' H' → match e with
    | .returned _ => ALeaves P rs env S ds (settle u') H'
    | .panicked ch => ALeaves P rs env S ds (raised u' ch) H'
    | .outgrown => False

/-- the temporaries that results are read out of -/
def RV.tmp : RV → Tmp
  | .t i => i
  | .c a _ => a
def keptB (rs : List RV) (t : Tmp) : Bool := rs.any fun r => match r with
  | .c a _ => a == t
  | .t _ => false

def awpD (P : Program) (rs : List RV) (S : Ending → Heap → Prop) (e0 : Env) : DCode → List Deferred → Env → Heap → Prop
  | .code l, ds, env, H => awpC P l (fun e env H => match e with
      | .normal | .ret => ALeaves P rs env S ds .returning H
      | _ => False) (fun ch H => ∀ env, (∀ t, keptB rs t = true → env t = e0 t) → ALeaves P rs env S ds (.panicking ch) H) env H
  | .seq l d, ds, env, H => awpC P l (fun e env H => match e with
      | .normal => awpD P rs S e0 d ds env H
      | .ret => ALeaves P rs env S ds .returning H
      | _ => False) (fun ch H => ∀ env, (∀ t, keptB rs t = true → env t = e0 t) → ALeaves P rs env S ds (.panicking ch) H) env H
  | .dfr L f args d, ds, env, H => awpL P L [] (fun env H => match dfrOf (env.eval f) (args.map env.eval) with
      | some x => awpD P rs S e0 d (x :: ds) env H
      | none => False) (fun ch H => ∀ env, (∀ t, keptB rs t = true → env t = e0 t) → ALeaves P rs env S ds (.panicking ch) H) env H

def DCode.spares (T : Tmp → Bool) : DCode → Bool
  | .code l => l.spares T
  | .seq l d => l.spares T && d.spares T
  | .dfr S _ _ d => S.all (Stp.spares T) && d.spares T

/-- steps, and a deferred call at their end -/
def lowDfr (P : Program) (n : Nat) (ops : Array Oper) : Option (List Stp × Operand × List Operand) :=
  match ops.back? with
  | some o => match o.op, o.guard, o.dst with
    | .defer c, none, none => match c.callee with
      | .value f => if belowB n o.op.operands then match (List.range (ops.size - 1)).mapM (fun i => lowStp P n ops i [] false) with
          | some S => some (S, f, c.args.toList)
          | none => none
        else none
      | _ => none
    | _, _, _ => none
  | none => none
def lowD (P : Program) (n : Nat) : Code → Option DCode
  | .seq (.region id ops false) b => match lowDfr P n ops with
    | some (S, f, args) => (lowD P n b).map (.dfr S f args)
    | none => match lowC P n (.region id ops false) with
      | some l => (lowD P n b).map (.seq l)
      | none => none
  | .seq a b => match lowC P n a with
    | some l => (lowD P n b).map (.seq l)
    | none => none
  | c => (lowC P n c).map .code
def lowDFn (P : Program) (fn : Func) : Option DFn :=
  match fn.body with
  | some (.seq a b) => match lowC P fn.ntmps a, lowD P fn.ntmps b, fn.results.toList.mapM (lowRV P fn.ntmps) with
    | some l, some d, some rs => if d.spares (keptB rs) then some ⟨fn.ntmps, rs, l, d⟩ else none
    | _, _, _ => none
  | _ => none

section
variable {P : Program} {n : Nat}
theorem results_run {fn : Func} {env : Env} {H : Heap} {a : Act} {w : World} {rs : List RV} {vs : List Value} (ha : Agree n env a) (hrs : fn.results.toList.mapM (lowRV P n) = some rs) (hvs : getAll env H rs = some vs) (hs : Sees H w) : (results fn a.tmps).run P w = .ok (oneOr vs) w := by
  have key : awpS P (results fn a.tmps) (fun r H1 => r = .ok (oneOr vs)) H := by
    unfold results
    rw [Array.mapM_eq_mapM_toList, awpS_bind, ← bind_pure_comp, awpS_bind]
    refine results_ok ha hrs hvs _ ?_
    rw [nxt_ok, awpS_pure, nxt_ok, awpS_pure]
    congr 1
    match vs with
    | [] => rfl
    | [v] => rfl
    | _ :: _ :: _ => simp [oneOr]
  have hnw : NoWrite (results fn a.tmps) := by
    unfold results
    rw [Array.mapM_eq_mapM_toList, ← bind_pure_comp]
    refine NoWrite.bind _ _ (fun b => trivial) (NoWrite.bind _ _ (fun l => trivial) (nw_mapM _ (fun r => ?_) _))
    cases r with
    | tmp t => trivial
    | cell c t => exact NoWrite.bind _ _ (fun x => nw_loadVar _ _) (nw_asAddr _)
  have hrun := awpS_run _ key hs
  cases hr : (results fn a.tmps).run P w with
  | ok v w2 =>
    rw [hr] at hrun
    obtain ⟨_, h1, _, _⟩ := hrun
    cases h1
    rw [NoWrite.same _ hnw hr]
  | halt x w2 =>
    rw [hr] at hrun
    cases x <;> simp only [RunsTo] at hrun
    obtain ⟨_, h1, _, _⟩ := hrun
    cases h1

theorem leaves_of {fn : Func} {rs : List RV} {S : Ending → Heap → Prop} {env : Env} {a : Act} {H0 : Heap} {w0 : World} (ha : Agree n env a) (hrs : fn.results.toList.mapM (lowRV P n) = some rs) :
    ∀ (ds : List Deferred) (u : FrameMode) (H : Heap) (w : World), ALeaves P rs env S ds u H → Sees H w → Ext H0 w0 H w → Leaves P fn a.tmps (fun e w' => ∃ H', S e H' ∧ Sees H' w' ∧ Ext H0 w0 H' w') ds u w
  | [], .returning, H, w, h, hs, hx => by
    simp only [ALeaves] at h
    split at h
    · rename_i vs hvs
      exact ⟨_, results_run ha hrs hvs hs, H, h, hs, hx⟩
    · exact h.elim
  | [], .panicking ch, H, w, h, hs, hx => ⟨H, h, hs, hx⟩
  | [], .run, H, w, h, hs, hx => h.elim
  | d :: ds, u, H, w, h, hs, hx => by
    obtain ⟨hu, S', hd, hk⟩ := h
    obtain ⟨fv, cap, f, args, h1, h2, h3⟩ := hd w hs
    refine ⟨hu, fv, cap, f, args, h1, h2, h3.mono fun e u' w' ⟨H', he, hs', hx'⟩ => ?_⟩
    have := hk e u' H' he
    cases e with
    | returned v => exact leaves_of ha hrs ds _ _ _ this hs' (hx.trans hx')
    | panicked ch => exact leaves_of ha hrs ds _ _ _ this hs' (hx.trans hx')
    | outgrown => exact this.elim

/-- what a body that defers ends in -/
def PD (P : Program) (fn : Func) (S : Ending → Heap → Prop) (H0 : Heap) (w0 : World) : Exit → Act → World → Prop := fun e a w => match e with
  | .normal | .ret => Leaves P fn a.tmps (fun e w' => ∃ H', S e H' ∧ Sees H' w' ∧ Ext H0 w0 H' w') a.defers .returning w
  | .panic ch => Leaves P fn a.tmps (fun e w' => ∃ H', S e H' ∧ Sees H' w' ∧ Ext H0 w0 H' w') a.defers (.panicking ch) w
  | _ => False

theorem pd_ret {fn : Func} {rs : List RV} {S : Ending → Heap → Prop} {H0 : Heap} {w0 : World} (hrs : fn.results.toList.mapM (lowRV P n) = some rs) {hd : Hold} {env : Env} {H : Heap} {a : Act} {w : World} (h : ALeaves P rs env S hd.ds .returning H) (hat : At H0 w0 n hd env H a w) :
    Leaves P fn a.tmps (fun e w' => ∃ H', S e H' ∧ Sees H' w' ∧ Ext H0 w0 H' w') a.defers .returning w := by
  rw [hat.defers]
  exact leaves_of hat.agree hrs _ _ _ _ h hat.sees hat.ext
theorem pd_panic {fn : Func} {rs : List RV} {S : Ending → Heap → Prop} {H0 : Heap} {w0 : World} (hrs : fn.results.toList.mapM (lowRV P n) = some rs) {ds : List Deferred} {e0 : Env} {ch : List PanicEntry} {H : Heap} {a : Act} {w : World}
    (h : ∀ env, (∀ t, keptB rs t = true → env t = e0 t) → ALeaves P rs env S ds (.panicking ch) H) (hd : a.defers = ds) (hh : Held n ⟨ds, keptB rs, e0⟩ a) (hs : Sees H w) (hx : Ext H0 w0 H w) :
    Leaves P fn a.tmps (fun e w' => ∃ H', S e H' ∧ Sees H' w' ∧ Ext H0 w0 H' w') a.defers (.panicking ch) w := by
  have hag : Agree n (fun t => if t < n then a.tmps.getD t undef else e0 t) a := ⟨hh.1, fun t ht => by
    simp only [ht, if_true]
    rw [Array.getElem?_eq_getElem (by rw [hh.1]; exact ht)]
    simp [Array.getD, hh.1, ht]⟩
  rw [hd]
  refine leaves_of hag hrs _ _ _ _ (h _ fun t ht => ?_) hs hx
  by_cases htn : t < n
  · rw [if_pos htn]
    have := hh.2 t ht htn
    simp only [Array.getD]
    rw [Array.getElem?_eq_getElem (by rw [hh.1]; exact htn)] at this
    rw [dif_pos (by rw [hh.1]; exact htn)]
    exact Option.some.inj this
  · rw [if_neg htn]

theorem wpOps_append {ops : Array Oper} {Q : Exit → Act → World → Prop} (l2 : List Nat) : ∀ (l1 : List Nat) (a : Act) (w : World), wpOps P ops (fun e a w => match e with | .normal => wpOps P ops Q l2 a w | e => Q e a w) l1 a w → wpOps P ops Q (l1 ++ l2) a w
  | [], a, w, h => h
  | i :: l1, a, w, h => by
    rw [List.cons_append]
    unfold wpOps at h ⊢
    cases ho : ops[i]? with
    | none =>
      rw [ho] at h
      exact wpOps_append l2 l1 a w h
    | some o =>
      rw [ho] at h
      simp only [] at h ⊢
      split
      · rename_i hw
        rw [if_pos hw] at h
        rcases h with h | ⟨h1, h2⟩
        · left
          unfold Oper.wp Oper.upon at h ⊢
          split at h
          · exact wpOps_append l2 l1 _ _ h
          · exact wpOps_append l2 l1 _ _ h
          · exact wpOps_append l2 l1 _ _ h
          · refine h.mono fun e w'' he => ?_
            cases e with
            | returned v => exact wpOps_append l2 l1 _ _ he
            | panicked ch => exact he
            | outgrown => exact he
          · exact h.mono fun v w'' he => wpOps_append l2 l1 _ _ he
          · exact h
          · exact h.elim
        · right
          exact ⟨h1, h2⟩
      · rename_i hw
        rw [if_neg hw] at h
        exact wpOps_append l2 l1 _ _ h

theorem dfr_wp {fn : Func} {rs : List RV} {S : Ending → Heap → Prop} {H0 : Heap} {w0 : World} (hrs : fn.results.toList.mapM (lowRV P n) = some rs) {e0 : Env} {id : Nat} {ops : Array Oper} {L : List Stp} {f : Operand} {args : List Operand} (hl : lowDfr P n ops = some (L, f, args)) (hsp : ∀ s ∈ L, s.spares (keptB rs) = true)
    {K : Deferred → Env → Heap → Prop} {Kw : Act → World → Prop} {ds : List Deferred}
    (hK : ∀ x env H a w, K x env H → At H0 w0 n ⟨x :: ds, keptB rs, e0⟩ env H a w → Kw a w)
    {env : Env} {H : Heap} {a : Act} {w : World}
    (h : awpL P L [] (fun env H => match dfrOf (env.eval f) (args.map env.eval) with
      | some x => K x env H
      | none => False) (fun ch H => ∀ env, (∀ t, keptB rs t = true → env t = e0 t) → ALeaves P rs env S ds (.panicking ch) H) env H)
    (hat : At H0 w0 n ⟨ds, keptB rs, e0⟩ env H a w) : (Code.region id ops false).wp P (fun e a w => match e with | .normal => Kw a w | e => PD P fn S H0 w0 e a w) a w := by
  unfold lowDfr at hl
  split at hl
  case h_2 => cases hl
  rename_i o ho
  split at hl
  case h_2 => cases hl
  rename_i c hop hg hdst
  split at hl
  case h_2 => cases hl
  rename_i f' hcal
  split at hl
  case isFalse => cases hl
  rename_i hb
  split at hl
  case h_2 => cases hl
  rename_i S0 hS0
  simp only [Option.some.injEq, Prod.mk.injEq] at hl
  obtain ⟨rfl, rfl, rfl⟩ := hl
  have hne : 0 < ops.size := by
    rcases Nat.eq_zero_or_pos ops.size with h0 | h0
    · have : ops = #[] := Array.size_eq_zero_iff.1 h0
      subst this
      simp at ho
    · exact h0
  have hat2 : ops[ops.size - 1]? = some o := by rw [← Array.back?_eq_getElem?]; exact ho
  refine wp_region ?_
  rw [show List.range ops.size = List.range (ops.size - 1) ++ [ops.size - 1] by
    conv => lhs; rw [show ops.size = ops.size - 1 + 1 by omega, List.range_succ]]
  refine wpOps_append _ _ _ _ ?_
  have hidx := mapM_idx hS0
  rw [← hidx]
  refine order_wp (ds := ⟨ds, keptB rs, e0⟩) (fun a' w' env' H' hk hat' => ?_) (fun ch a' w' H' hk h1 h2 h3 h4 => ?_) S0 [] env H a w (fun s hs => by obtain ⟨x, _, hx⟩ := mapM_mem hS0 s hs; exact (lowStp_ok hx).2) hsp Mono.nil h hat
  · show wpOps P ops _ [ops.size - 1] a' w'
    rw [wpOps_cons]
    unfold wpOp
    rw [hat2]
    simp only []
    have hw : Region.wanted o (yielded ops a'.tmps) = true := by unfold Region.wanted; rw [hg]
    rw [if_pos hw]
    left
    have hops : ∀ x ∈ o.op.operands, a'.eval x = env'.eval x := fun x hx => hat'.agree.eval fun t e => belowB_ok hb t (e ▸ hx)
    have hf : a'.eval f' = env'.eval f' := hops f' (by rw [hop]; simp [Op.operands, Call.operands, hcal])
    have hargs : c.args.map a'.eval = (c.args.toList.map env'.eval).toArray := by
      apply Array.ext'
      simp only [Array.toList_map]
      refine List.map_congr_left fun x hx => hops x ?_
      rw [hop]
      simp only [Op.operands, Call.operands, hcal]
      exact Array.mem_append_right _ (by simpa using hx)
    split at hk
    · rename_i x hx
      have hex : (execOp a'.eval o).run P w' = .ok (.defer x) w' := by
        unfold dfrOf at hx
        split at hx
        · rename_i fid first captured hv
          obtain rfl := Option.some.inj hx
          unfold execOp
          rw [hop]
          simp only [resolve, hcal]
          rw [hf, hv, hargs]
          rfl
        · cases hx
      unfold Oper.wp
      rw [hex]
      simp only [Oper.upon]
      rw [hdst]
      simp only [wpOps, Act.put]
      refine hK x _ _ _ _ hk ⟨⟨hat'.agree.size, hat'.agree.at_⟩, hat'.sees, hat'.ext, ?_, hat'.held⟩
      simp only
      rw [hat'.defers]
    · exact hk.elim
  · exact pd_panic hrs hk h1 h2 h3 h4

theorem dcode_wp (hm : P.follows .mixedOrders = true) {fn : Func} {rs : List RV} {S : Ending → Heap → Prop} {H0 : Heap} {w0 : World} (hrs : fn.results.toList.mapM (lowRV P n) = some rs) {e0 : Env} : ∀ (c : Code) (d : DCode) (ds : List Deferred) (env : Env) (H : Heap) (a : Act) (w : World), lowD P n c = some d → d.spares (keptB rs) = true → awpD P rs S e0 d ds env H → At H0 w0 n ⟨ds, keptB rs, e0⟩ env H a w → c.wp P (PD P fn S H0 w0) a w := by
  intro c
  have plain : ∀ (c : Code) (l : LCode) (ds : List Deferred) (env : Env) (H : Heap) (a : Act) (w : World), lowC P n c = some l → l.spares (keptB rs) = true → ∀ (K : Env → Heap → Prop) (Kw : Act → World → Prop), (∀ env H a w, K env H → At H0 w0 n ⟨ds, keptB rs, e0⟩ env H a w → Kw a w) →
      awpC P l (fun e env H => match e with
        | .normal => K env H
        | .ret => ALeaves P rs env S ds .returning H
        | _ => False) (fun ch H => ∀ env, (∀ t, keptB rs t = true → env t = e0 t) → ALeaves P rs env S ds (.panicking ch) H) env H → At H0 w0 n ⟨ds, keptB rs, e0⟩ env H a w → c.wp P (fun e a w => match e with | .normal => Kw a w | e => PD P fn S H0 w0 e a w) a w := by
    intro c l ds env H a w hl hsp K Kw hK h hat
    refine wp_mono (code_wp hm c l _ env H a w hl hsp h hat) fun e a' w' hq => ?_
    cases e with
    | normal => obtain ⟨env', H', h1, h2⟩ := hq; exact hK _ _ _ _ h1 h2
    | ret => obtain ⟨env', H', h1, h2⟩ := hq; exact pd_ret hrs h1 h2
    | panic ch => obtain ⟨H', h1, h2, h3, h4, h5⟩ := hq; exact pd_panic hrs h1 h2 h3 h4 h5
    | exit id => obtain ⟨env', H', h1, h2⟩ := hq; exact h1.elim
    | goto l => obtain ⟨env', H', h1, h2⟩ := hq; exact h1.elim
    | outgrown => exact hq.elim
  have last : ∀ (c : Code) (l : LCode) (ds : List Deferred) (env : Env) (H : Heap) (a : Act) (w : World), lowC P n c = some l → l.spares (keptB rs) = true → awpD P rs S e0 (.code l) ds env H → At H0 w0 n ⟨ds, keptB rs, e0⟩ env H a w → c.wp P (PD P fn S H0 w0) a w := by
    intro c l ds env H a w hl hsp h hat
    refine wp_mono (plain c l ds env H a w hl hsp (fun env H => ALeaves P rs env S ds .returning H) (fun a w => PD P fn S H0 w0 .normal a w) (fun env H a w h1 h2 => pd_ret hrs h1 h2) ?_ hat) fun e a' w' hq => ?_
    · refine awpC_mono _ (fun e env H h => ?_) (fun _ _ h => h) h
      cases e <;> exact h
    · cases e <;> exact hq
  induction c with
  | seq x y ihx ihy =>
    intro d ds env H a w hl hsp h hat
    have step : ∀ l d', lowC P n x = some l → lowD P n y = some d' → d = .seq l d' → (Code.seq x y).wp P (PD P fn S H0 w0) a w := by
      rintro l d' hx hy rfl
      simp only [DCode.spares, Bool.and_eq_true] at hsp
      refine wp_seq (wp_mono (plain x l ds env H a w hx hsp.1 (fun env H => awpD P rs S e0 d' ds env H) (fun a w => y.wp P (PD P fn S H0 w0) a w) (fun env H a w h1 h2 => ihy d' ds env H a w hy hsp.2 h1 h2) h hat) fun e a' w' hq => ?_)
      cases e <;> exact hq
    unfold lowD at hl
    split at hl
    · rename_i id ops b heq
      cases heq
      split at hl
      · rename_i L f args hd
        obtain ⟨d', hy, rfl⟩ := Option.map_eq_some_iff.1 hl
        simp only [DCode.spares, Bool.and_eq_true, List.all_eq_true] at hsp
        refine wp_seq (wp_mono (dfr_wp hrs (K := fun x env H => awpD P rs S e0 d' (x :: ds) env H) (Kw := fun a w => y.wp P (PD P fn S H0 w0) a w) hd hsp.1 (fun x env H a w h1 h2 => ihy d' _ env H a w hy hsp.2 h1 h2) h hat) fun e a' w' hq => ?_)
        cases e <;> exact hq
      · split at hl
        · rename_i l hx
          obtain ⟨d', hy, rfl⟩ := Option.map_eq_some_iff.1 hl
          exact step l d' hx hy rfl
        · cases hl
    · rename_i a' b hno heq
      cases heq
      split at hl
      · rename_i l hx
        obtain ⟨d', hy, rfl⟩ := Option.map_eq_some_iff.1 hl
        exact step l d' hx hy rfl
      · cases hl
    · rename_i h1 h2
      exact absurd rfl (h2 _ _)
  | _ =>
    intro d ds env H a w hl hsp h hat
    simp only [lowD] at hl
    obtain ⟨l, hl2, rfl⟩ := Option.map_eq_some_iff.1 hl
    exact last _ l ds env H a w hl2 hsp h hat

/-- A CALL of a function that defers, out of its code in short. -/
theorem acalls_d {f : FuncId} {fn : Func} {L : DFn} {args : List Value} {H : Heap} {S : Ending → Heap → Prop} (hm : P.follows .mixedOrders = true) (hf : P.funcs[f]? = some fn) (hL : lowDFn P fn = some L)
    (hn : args.length ≤ L.n) (h : awpC P L.pre (fun e env H => match e with
      | .normal => awpD P L.results S env L.body [] env H
      | _ => False) (fun ch H => S (.panicked ch) H) (env0 args) H) : ACalls P f args.toArray H S := by
  unfold lowDFn at hL
  split at hL
  case h_2 => cases hL
  rename_i ca cb hc
  split at hL
  case h_2 => cases hL
  rename_i l d rs hl hd hrs
  split at hL
  case isFalse => cases hL
  rename_i hsp
  obtain rfl := Option.some.inj hL
  intro w hw
  refine calls_of_wp_defers hf hc ?_
  have hsz : args.length ≤ fn.ntmps := hn
  have hat : At H w fn.ntmps .none (env0 args) H { tmps := args.toArray ++ Array.replicate (fn.ntmps - args.toArray.size) undef, defers := [] } w := by
    refine ⟨⟨by simp; omega, fun t ht => ?_⟩, hw, Ext.refl _ _, rfl, fun t ht => by cases ht⟩
    simp only [env0, List.getD_eq_getElem?_getD]
    by_cases h1 : t < args.length
    · rw [Array.getElem?_append_left (by simpa using h1)]
      simp [h1]
    · rw [Array.getElem?_append_right (by simp; omega)]
      simp
      rw [List.getElem?_eq_none (by omega)]
      simp [Array.getElem?_replicate]
      omega
  refine wp_seq (wp_mono (code_wp hm ca l _ (env0 args) H _ w hl (spares_none l) h hat) fun e a' w' hq => ?_)
  cases e with
  | normal =>
    obtain ⟨env', H', h1, h2⟩ := hq
    refine wp_mono (dcode_wp hm hrs cb d [] env' H' a' w' hd hsp h1 ⟨h2.agree, h2.sees, h2.ext, h2.defers, fun t _ => rfl⟩) fun e a' w' hq => ?_
    cases e <;> first | exact hq | exact hq.elim
  | ret => obtain ⟨env', H', h1, h2⟩ := hq; exact h1.elim
  | panic ch =>
    obtain ⟨H', h1, h2, -, h3, h4⟩ := hq
    show Leaves P fn a'.tmps _ a'.defers (.panicking ch) w'
    rw [h2]
    exact ⟨H', h1, h3, h4⟩
  | exit id => obtain ⟨env', H', h1, h2⟩ := hq; exact h1.elim
  | goto l => obtain ⟨env', H', h1, h2⟩ := hq; exact h1.elim
  | outgrown => exact hq.elim

/-! ### The panic that a frame below has -/
def recV : FrameMode → Value
  | .panicking ({ v, recovered := false, goexit := false } :: _) => v
  | _ => .nilIface
def recM : FrameMode → FrameMode
  | .panicking ({ v, recovered := false, goexit := false } :: older) => .panicking ({ v, recovered := true } :: older)
  | m => m
theorem recoverD_eq (c : Frame) (cs : List Frame) : (match recoverD (c :: cs) with
    | some (v, cs') => (v, cs')
    | none => (.nilIface, c :: cs)) = (recV c.mode, { c with mode := recM c.mode } :: cs) := by
  obtain ⟨fn, tmps, todo, defers, mode, kind, roundOf⟩ := c
  cases mode with
  | run => rfl
  | returning => rfl
  | panicking l =>
    cases l with
    | nil => rfl
    | cons p older =>
      obtain ⟨v, r, g⟩ := p
      cases r <;> cases g <;> rfl

/-- A deferred function that recovers: what stands ahead, the steps behind 'recover', what follows. -/
structure RFn where
  n : Nat
  results : List RV
  pre : LCode
  dst : Tmp
  S : List Stp
  post : LCode
def quietB : List Stp → Bool := fun S => S.all fun s => s.ins.quiet && s.guard.isNone
def lowRFn (P : Program) (fn : Func) : Option RFn :=
  match fn.body with
  | some (.seq a (.seq (.region _ ops false) b)) => match ops[0]? with
    | some o => match o.op, o.guard, o.dst with
      | .call c, none, some d => match c.callee, c.args.toList with
        | .builtin .recover, [] => match lowC P fn.ntmps a, ((List.range (ops.size - 1)).map (· + 1)).mapM (fun i => lowStp P fn.ntmps ops i [] false), lowC P fn.ntmps b, fn.results.toList.mapM (lowRV P fn.ntmps) with
          | some l, some S, some l2, some rs => if quietB S then some ⟨fn.ntmps, rs, l, d, S, l2⟩ else none
          | _, _, _, _ => none
        | _, _ => none
      | _, _, _ => none
    | none => none
  | _ => none

theorem quiet_wpS {ops : Array Oper} {Q : Exit → Act → List Frame → World → Prop} {H0 : Heap} {w0 : World} {hd : Hold} {K : Env → Heap → Prop} {KP : List PanicEntry → Heap → Prop} {cs : List Frame}
    (hN : ∀ a' w' env' H', K env' H' → At H0 w0 n hd env' H' a' w' → Q .normal a' cs w') :
    ∀ (S : List Stp) (D : Done) (env : Env) (H : Heap) (a : Act) (w : World), (∀ s ∈ S, ∃ o, StpOk P n ops s o) → (∀ s ∈ S, s.ins.quiet = true ∧ s.guard = none) → (∀ s ∈ S, s.spares hd.T = true) → awpL P S D K KP env H → At H0 w0 n hd env H a w → wpOpsS P ops Q (S.map (·.i)) a cs w
  | [], D, env, H, a, w, hS, hq, hsp, h, hat => hN _ _ _ _ h hat
  | s :: S, D, env, H, a, w, hS, hq, hsp, h, hat => by
    obtain ⟨o, ho⟩ := hS s List.mem_cons_self
    obtain ⟨hq1, hg⟩ := hq s List.mem_cons_self
    rw [List.map_cons]
    unfold wpOpsS
    rw [ho.at_]
    simp only []
    have hon : s.on env = true := by unfold Stp.on; rw [hg]
    rw [ho.on hat.agree, hon, if_pos rfl]
    rw [awpL, hon] at h
    simp only [] at h
    cases hi : s.ins with
    | e e => rw [hi] at hq1; cases hq1
    | q q =>
      rw [hi] at h
      simp only [] at h
      split at h
      case h_2 => exact h.elim
      rename_i v hv
      have hev : ∀ x ∈ o.op.operands, a.eval x = env.eval x := fun x hx => hat.agree.eval fun t e => ho.below t (e ▸ hx)
      have key : awpS P (execOp env.eval o) (fun r H' => r = .ok (.value v) ∧ H' = H) H := lowQ_ok (by rw [ho.low, hi]) hv _ ⟨rfl, rfl⟩
      have hrun := awpS_run _ key hat.sees
      rw [execOp_congr o (lowOp_select ho.low) hev]
      have rest : ∀ w', Sees H w' → Ext H w H w' → wpOpsS P ops Q (S.map (·.i)) (a.put o.dst v) cs w' := fun w' h1 h2 =>
        quiet_wpS hN S _ _ _ _ _ (fun s hs => hS s (List.mem_cons_of_mem _ hs)) (fun s hs => hq s (List.mem_cons_of_mem _ hs)) (fun s hs => hsp s (List.mem_cons_of_mem _ hs)) h ⟨by rw [ho.dst]; exact hat.agree.put _ _, h1, hat.ext.trans h2, by cases hd' : o.dst <;> simp [Act.put, hat.defers], held_put (hsp s List.mem_cons_self) hat.held _⟩
      cases hr : (execOp env.eval o).run P w with
      | ok nx w' =>
        rw [hr] at hrun
        obtain ⟨H', hk, hsee, hext⟩ := hrun
        obtain ⟨e1, rfl⟩ := hk
        cases e1
        simp only [Oper.upon]
        exact rest w' hsee hext
      | halt x w' =>
        rw [hr] at hrun
        cases x <;> simp only [RunsTo] at hrun
        obtain ⟨H', hk, _⟩ := hrun
        cases hk.1

theorem callFunc_enter {f : FuncId} (hcl : callable P f = true) (args : Array Value) (w : World) : (callFunc f args).run P w = .ok (.enter f args) w := by
  unfold callable at hcl
  cases hf : P.funcs[f]? with
  | none => rw [hf] at hcl; simp at hcl
  | some fn =>
    rw [hf] at hcl
    simp only [Option.any_some, Bool.and_eq_true, bne_iff_ne] at hcl
    unfold callFunc
    show Sem.run P (match P.funcs[f]? with
      | none => _
      | some fn => _) w = _
    rw [hf]
    simp only []
    rw [if_neg (by simpa using hcl.2), if_neg (by have := hcl.1; cases hb : fn.body <;> simp_all)]
    rfl
/-- A DEFERRED CALL of a function that recovers. -/
theorem adef_rec {f : FuncId} {fn : Func} {L : RFn} {args captured : List Value} {u : FrameMode} {H : Heap} {S : Ending → FrameMode → Heap → Prop} (hm : P.follows .mixedOrders = true) (hf : P.funcs[f]? = some fn) (hL : lowRFn P fn = some L) (hcl : callable P f = true)
    (hn : (args ++ captured).length ≤ L.n) (h : awpC P L.pre (fun e env H => match e with
      | .normal => awpL P L.S [] (fun env H => awpC P L.post (retQ L.results fun e H => S e (recM u) H) (fun ch H => S (.panicked ch) (recM u) H) env H) (fun ch H => False) (env.put (some L.dst) (recV u)) H
      | _ => False) (fun ch H => S (.panicked ch) u H) (env0 (args ++ captured)) H) : ADef P ⟨.fn (.func f) captured.toArray, args.toArray⟩ u H S := by
  unfold lowRFn at hL
  split at hL
  case h_2 => cases hL
  rename_i ca id ops cb hc
  split at hL
  case h_2 => cases hL
  rename_i o ho
  split at hL
  case h_2 => cases hL
  rename_i c d hop hg hdst
  split at hL
  case h_2 => cases hL
  rename_i hcal hargs
  split at hL
  case h_2 => cases hL
  rename_i l S0 l2 rs hl hS0 hl2 hrs
  split at hL
  case isFalse => cases hL
  rename_i hquiet
  obtain rfl := Option.some.inj hL
  have hsz : (args ++ captured).length ≤ fn.ntmps := hn
  intro w hw
  refine ⟨.func f, captured.toArray, f, (args ++ captured).toArray, rfl, ?_, ?_⟩
  · show (callFunc f (args.toArray ++ captured.toArray)).run P w = _
    rw [List.append_toArray]
    exact callFunc_enter hcl _ _
  · refine callsD_of_wpS hf hc fun c₀ cs hu => ?_
    have hat : At H w fn.ntmps .none (env0 (args ++ captured)) H { tmps := (args ++ captured).toArray ++ Array.replicate (fn.ntmps - (args ++ captured).toArray.size) undef, defers := [] } w := by
      refine ⟨⟨by simp at hsz ⊢; omega, fun t ht => ?_⟩, hw, Ext.refl _ _, rfl, fun t ht => by cases ht⟩
      simp only [env0, List.getD_eq_getElem?_getD]
      by_cases h1 : t < (args ++ captured).length
      · rw [Array.getElem?_append_left (by simpa using h1), List.getElem?_toArray, List.getElem?_eq_getElem h1]
        rfl
      · rw [Array.getElem?_append_right (by simpa using h1), List.getElem?_eq_none (by omega)]
        simp only [List.size_toArray, Option.getD_none]
        rw [Array.getElem?_replicate, if_pos (by first | omega | (simp at h1 ⊢; omega) | (simp; omega))]
    refine wpS_seq (wpS_of_wp (wp_mono (code_wp hm ca l _ _ H _ w hl (spares_none l) h hat) fun e a' w' hq => ?_))
    cases e with
    | ret => obtain ⟨env', H', h1, h2⟩ := hq; exact h1.elim
    | exit id => obtain ⟨env', H', h1, h2⟩ := hq; exact h1.elim
    | goto l => obtain ⟨env', H', h1, h2⟩ := hq; exact h1.elim
    | outgrown => exact hq.elim
    | panic ch =>
      obtain ⟨H', h1, h2, -, h3, h4⟩ := hq
      exact ⟨h2, u, by subst hu; rfl, H', h1, h3, h4⟩
    | normal =>
      obtain ⟨env', H', h1, h2⟩ := hq
      refine wpS_seq (wpS_region ?_)
      have hpos : 0 < ops.size := (Array.getElem?_eq_some_iff.1 ho).1
      rw [show List.range ops.size = 0 :: (List.range (ops.size - 1)).map (· + 1) by
        conv => lhs; rw [show ops.size = ops.size - 1 + 1 by omega, List.range_succ_eq_map]]
      unfold wpOpsS
      rw [ho]
      simp only []
      rw [if_pos (by unfold Region.wanted; rw [hg])]
      have hex : (execOp a'.eval o).run P w' = .ok .recover w' := by
        unfold execOp
        rw [hop]
        show Sem.run P (do let d ← resolve a'.eval c o.type; invoke d.target d.args) w' = _
        unfold resolve
        rw [hcal]
        rfl
      rw [hex]
      simp only []
      have hthen : ∀ (a2 : Act), a2 = a'.put o.dst (recV u) → wpOpsS P ops (Exit.thenS (cb.wpS P (bodyPostS P fn c₀ cs fun e u' w' => ∃ H', S e u' H' ∧ Sees H' w' ∧ Ext H w H' w')) (bodyPostS P fn c₀ cs fun e u' w' => ∃ H', S e u' H' ∧ Sees H' w' ∧ Ext H w H' w')) ((List.range (ops.size - 1)).map (· + 1)) a2 ({ c₀ with mode := recM u } :: cs) w' := by
        rintro a2 rfl
        rw [hdst, ← mapM_idx hS0]
        have hat2 : At H w fn.ntmps .none (env'.put (some d) (recV u)) H' (a'.put (some d) (recV u)) w' := ⟨h2.agree.put _ _, h2.sees, h2.ext, by simp [Act.put, h2.defers], fun t ht => by cases ht⟩
        refine quiet_wpS (hd := .none) (fun a3 w3 env3 H3 h3 hat3 => ?_) S0 [] _ _ _ _ (fun s hs => by obtain ⟨x, _, hx⟩ := mapM_mem hS0 s hs; exact (lowStp_ok hx).2) (fun s hs => ?_) (fun s hs => by unfold Stp.spares; cases s.dst <;> rfl) h1 hat2
        · refine wpS_of_wp (wp_mono (code_wp hm cb l2 _ _ H3 _ w3 hl2 (spares_none l2) h3 hat3) fun e a4 w4 hq => ?_)
          have fin : ∀ env4 H4, (match getAll env4 H4 rs with | some vs => S (.returned (oneOr vs)) (recM u) H4 | none => False) → At H w fn.ntmps .none env4 H4 a4 w4 → a4.defers = [] ∧ ∃ u', ({ c₀ with mode := recM u } : Frame) :: cs = { c₀ with mode := u' } :: cs ∧ ∃ v, (results fn a4.tmps).run P w4 = .ok v w4 ∧ ∃ H', S (.returned v) u' H' ∧ Sees H' w4 ∧ Ext H w H' w4 := by
            intro env4 H4 hq hat4
            split at hq
            case h_2 => exact hq.elim
            rename_i vs hvs
            exact ⟨hat4.defers, recM u, rfl, _, results_run hat4.agree hrs hvs hat4.sees, H4, hq, hat4.sees, hat4.ext⟩
          cases e with
          | normal => obtain ⟨env4, H4, k1, k2⟩ := hq; exact fin env4 H4 k1 k2
          | ret => obtain ⟨env4, H4, k1, k2⟩ := hq; exact fin env4 H4 k1 k2
          | panic ch => obtain ⟨H4, k1, k2, -, k3, k4⟩ := hq; exact ⟨k2, recM u, rfl, H4, k1, k3, k4⟩
          | exit id => obtain ⟨env4, H4, k1, k2⟩ := hq; exact k1.elim
          | goto l => obtain ⟨env4, H4, k1, k2⟩ := hq; exact k1.elim
          | outgrown => exact hq.elim
        · have := List.all_eq_true.1 hquiet s hs
          simp only [Bool.and_eq_true, Option.isNone_iff_eq_none] at this
          exact this
      have hrec := recoverD_eq c₀ cs
      rw [hu] at hrec
      cases hr : recoverD (c₀ :: cs) with
      | none =>
        rw [hr] at hrec
        simp only [Prod.mk.injEq] at hrec
        simp only []
        rw [hrec.1, hrec.2]
        exact hthen _ rfl
      | some p =>
        rw [hr] at hrec
        simp only [Prod.mk.injEq] at hrec
        simp only []
        rw [hrec.1, hrec.2]
        exact hthen _ rfl
/-! ### How code that defers is stepped through -/
def endDQ (P : Program) (rs : List RV) (S : Ending → Heap → Prop) (ds : List Deferred) : Post := fun e env H => match e with
  | .normal | .ret => ALeaves P rs env S ds .returning H
  | _ => False
def seqDQ (P : Program) (rs : List RV) (S : Ending → Heap → Prop) (e0 : Env) (ds : List Deferred) (d : DCode) : Post := fun e env H => match e with
  | .normal => awpD P rs S e0 d ds env H
  | .ret => ALeaves P rs env S ds .returning H
  | _ => False
def preDQ (P : Program) (L : DFn) (S : Ending → Heap → Prop) : Post := fun e env H => match e with
  | .normal => awpD P L.results S env L.body [] env H
  | _ => False
def panD (P : Program) (rs : List RV) (S : Ending → Heap → Prop) (e0 : Env) (ds : List Deferred) : List PanicEntry → Heap → Prop := fun ch H => ∀ env, (∀ t, keptB rs t = true → env t = e0 t) → ALeaves P rs env S ds (.panicking ch) H
def dfrK (P : Program) (rs : List RV) (S : Ending → Heap → Prop) (e0 : Env) (f : Operand) (args : List Operand) (d : DCode) (ds : List Deferred) : Env → Heap → Prop := fun env H => match dfrOf (env.eval f) (args.map env.eval) with
  | some x => awpD P rs S e0 d (x :: ds) env H
  | none => False
section
variable {rs : List RV} {S : Ending → Heap → Prop} {e0 env : Env} {ds : List Deferred} {d : DCode} {l : LCode} {H : Heap} {Ls : List Stp} {f : Operand} {args : List Operand}
theorem dd_code : awpD P rs S e0 (.code l) ds env H = awpC P l (endDQ P rs S ds) (panD P rs S e0 ds) env H := by
  simp only [awpD, endDQ, panD]; rfl
theorem dd_seq : awpD P rs S e0 (.seq l d) ds env H = awpC P l (seqDQ P rs S e0 ds d) (panD P rs S e0 ds) env H := by
  simp only [awpD, seqDQ, panD]; rfl
theorem dd_dfr : awpD P rs S e0 (.dfr Ls f args d) ds env H = awpL P Ls [] (dfrK P rs S e0 f args d ds) (panD P rs S e0 ds) env H := by
  simp only [awpD, dfrK, panD]; rfl
theorem dq_normal : endDQ P rs S ds .normal env H = ALeaves P rs env S ds .returning H := rfl
theorem dq_ret : endDQ P rs S ds .ret env H = ALeaves P rs env S ds .returning H := rfl
theorem ds_normal : seqDQ P rs S e0 ds d .normal env H = awpD P rs S e0 d ds env H := rfl
theorem ds_ret : seqDQ P rs S e0 ds d .ret env H = ALeaves P rs env S ds .returning H := rfl
theorem dk {v : Value} {xs : List Value} {x : Deferred} (h1 : env.eval f = v) (h2 : args.map env.eval = xs) (h3 : dfrOf v xs = some x) : dfrK P rs S e0 f args d ds env H = awpD P rs S e0 d (x :: ds) env H := by
  simp only [dfrK, h1, h2, h3]
theorem al_nil : ALeaves P rs env S [] .returning H = bindL (getAll env H rs) fun vs => S (.returned (oneOr vs)) H := by
  simp only [ALeaves, bindL]; cases getAll env H rs <;> rfl
theorem al_cons {x : Deferred} {u : FrameMode} {S' : Ending → FrameMode → Heap → Prop} (hu : u ≠ .run) (hd : ADef P x u H S') (hk : ∀ e u' H', S' e u' H' → match e with
    | .returned _ => ALeaves P rs env S ds (settle u') H'
    | .panicked ch => ALeaves P rs env S ds (raised u' ch) H'
    | .outgrown => False) : ALeaves P rs env S (x :: ds) u H := ⟨hu, S', hd, hk⟩
end
theorem dk_func {g : Nat} {rs : List RV} {S : Ending → Heap → Prop} {e0 env : Env} {ds : List Deferred} {d : DCode} {H : Heap} {args : List Operand} : dfrK P rs S e0 (.func g) args d ds env H = awpD P rs S e0 d (⟨.fn (.func g) #[], (args.map env.eval).toArray⟩ :: ds) env H := by
  rw [dk (v := .func (.func g) #[] #[]) rfl rfl (x := ⟨.fn (.func g) #[], (args.map env.eval).toArray⟩) (by simp [dfrOf])]
theorem dk_tmp {g : Nat} {t : Tmp} {cap : Array Value} {rs : List RV} {S : Ending → Heap → Prop} {e0 env : Env} {ds : List Deferred} {d : DCode} {H : Heap} {args : List Operand} (h : env t = .func (.func g) #[] cap) : dfrK P rs S e0 (.tmp t) args d ds env H = awpD P rs S e0 d (⟨.fn (.func g) cap, (args.map env.eval).toArray⟩ :: ds) env H := by
  rw [dk (f := .tmp t) (v := .func (.func g) #[] cap) h rfl (x := ⟨.fn (.func g) cap, (args.map env.eval).toArray⟩) (by simp [dfrOf])]
theorem settle_ret : settle .returning = .returning := rfl
theorem settle_rec {v : Value} {older : List PanicEntry} (h : older = []) : settle (.panicking ({ v, recovered := true } :: older)) = .returning := by subst h; rfl
/-- the steps' equations for code that defers -/
theorem Dx : (type_of% @dd_code) ∧ (type_of% @dd_seq) ∧ (type_of% @dd_dfr) ∧ (type_of% @dq_normal) ∧ (type_of% @dq_ret) ∧ (type_of% @ds_normal) ∧ (type_of% @ds_ret) ∧ (type_of% @al_nil) := ⟨@dd_code, @dd_seq, @dd_dfr, @dq_normal, @dq_ret, @ds_normal, @ds_ret, @al_nil⟩
theorem pq_normal {L : DFn} {S : Ending → Heap → Prop} {env : Env} {H : Heap} : preDQ P L S .normal env H = awpD P L.results S env L.body [] env H := rfl
theorem acalls_dq {f : FuncId} {fn : Func} {L : DFn} {args : List Value} {H : Heap} {S : Ending → Heap → Prop} (hm : P.follows .mixedOrders = true) (hf : P.funcs[f]? = some fn) (hL : lowDFn P fn = some L)
    (hn : args.length ≤ L.n) (h : awpC P L.pre (preDQ P L S) (fun ch H => S (.panicked ch) H) (env0 args) H) : ACalls P f args.toArray H S := acalls_d hm hf hL hn h
/-- what stands behind 'recover' -/
def recQ (P : Program) (L : RFn) (u : FrameMode) (S : Ending → FrameMode → Heap → Prop) : Post := fun e env H => match e with
  | .normal => awpL P L.S [] (fun env H => awpC P L.post (retQ L.results fun e H => S e (recM u) H) (fun ch H => S (.panicked ch) (recM u) H) env H) (fun ch H => False) (env.put (some L.dst) (recV u)) H
  | _ => False
theorem rq_normal {L : RFn} {u : FrameMode} {S : Ending → FrameMode → Heap → Prop} {env : Env} {H : Heap} : recQ P L u S .normal env H = awpL P L.S [] (fun env H => awpC P L.post (retQ L.results fun e H => S e (recM u) H) (fun ch H => S (.panicked ch) (recM u) H) env H) (fun ch H => False) (env.put (some L.dst) (recV u)) H := rfl
theorem adef_rq {f : FuncId} {fn : Func} {L : RFn} {args captured : List Value} {u : FrameMode} {H : Heap} {S : Ending → FrameMode → Heap → Prop} (hm : P.follows .mixedOrders = true) (hf : P.funcs[f]? = some fn) (hL : lowRFn P fn = some L) (hcl : callable P f = true)
    (hn : (args ++ captured).length ≤ L.n) (h : awpC P L.pre (recQ P L u S) (fun ch H => S (.panicked ch) u H) (env0 (args ++ captured)) H) : ADef P ⟨.fn (.func f) captured.toArray, args.toArray⟩ u H S := adef_rec hm hf hL hcl hn h
end
end Go.Proofs.YtgbhdpeibiglfaaDoor.Sep
