/-
  Short words for steps; a deferred function that begins with 'recover'.
-/
import Derived.Test.YtgbhdpeibiglfaaDoorSepDfr
set_option linter.unusedVariables false
set_option linter.unusedSimpArgs false
namespace Go.Proofs.YtgbhdpeibiglfaaDoor.Sep
open Go Go.RowKit
variable {P : Program}

abbrev Stp.q (i : Nat) (x : QI) (a : List Operand) (d : Tmp) : Stp := ⟨i, .q x, a, some d, none, [], false⟩
abbrev Stp.e (i : Nat) (x : EI) (a : List Operand) (d : Tmp) : Stp := ⟨i, .e x, a, some d, none, [], false⟩
abbrev Stp.n (i : Nat) (x : EI) (a : List Operand) : Stp := ⟨i, .e x, a, none, none, [], false⟩
abbrev Stp.g (i : Nat) (x : QI) (a : List Operand) (d t : Tmp) (w : Bool) : Stp := ⟨i, .q x, a, some d, some (t, w), [], false⟩
def lowRFn0 (P : Program) (fn : Func) : Option RFn :=
  match fn.body with
  | some (.seq (.region _ ops false) b) => match ops[0]? with
    | some o => match o.op, o.guard, o.dst with
      | .call c, none, some d => match c.callee, c.args.toList with
        | .builtin .recover, [] => match ((List.range (ops.size - 1)).map (· + 1)).mapM (fun i => lowStp P fn.ntmps ops i [] false), lowC P fn.ntmps b, fn.results.toList.mapM (lowRV P fn.ntmps) with
          | some S, some l2, some rs => if quietB S then some ⟨fn.ntmps, rs, .skip, d, S, l2⟩ else none
          | _, _, _ => none
        | _, _ => none
      | _, _, _ => none
    | none => none
  | _ => none
/-- A DEFERRED CALL of a function that recovers at once. -/
theorem adef_rec0 {f : FuncId} {fn : Func} {L : RFn} {args captured : List Value} {u : FrameMode} {H : Heap} {S : Ending → FrameMode → Heap → Prop} (hm : P.follows .mixedOrders = true) (hf : P.funcs[f]? = some fn) (hL : lowRFn0 P fn = some L) (hcl : callable P f = true)
    (hn : (args ++ captured).length ≤ L.n) (h : awpL P L.S [] (fun env H => awpC P L.post (retQ L.results fun e H => S e (recM u) H) (fun ch H => S (.panicked ch) (recM u) H) env H) (fun ch H => False) ((env0 (args ++ captured)).put (some L.dst) (recV u)) H) : ADef P ⟨.fn (.func f) captured.toArray, args.toArray⟩ u H S := by
  unfold lowRFn0 at hL
  split at hL
  case h_2 => cases hL
  rename_i id ops cb hc
  split at hL
  case h_2 => cases hL
  rename_i o ho
  split at hL
  case h_2 => cases hL
  rename_i c d hop hg hdst
  split at hL
  case h_2 => cases hL
  rename_i hcal hargs
  split at hL
  case h_2 => cases hL
  rename_i S0 l2 rs hS0 hl2 hrs
  split at hL
  case isFalse => cases hL
  rename_i hquiet
  obtain rfl := Option.some.inj hL
  have hsz : (args ++ captured).length ≤ fn.ntmps := hn
  intro w hw
  refine ⟨.func f, captured.toArray, f, (args ++ captured).toArray, rfl, ?_, ?_⟩
  · show (callFunc f (args.toArray ++ captured.toArray)).run P w = _
    rw [List.append_toArray]
    exact callFunc_enter hcl _ _
  · refine callsD_of_wpS hf hc fun c₀ cs hu => ?_
    have hat : At H w fn.ntmps .none (env0 (args ++ captured)) H { tmps := (args ++ captured).toArray ++ Array.replicate (fn.ntmps - (args ++ captured).toArray.size) undef, defers := [] } w := by
      refine ⟨⟨by simp at hsz ⊢; omega, fun t ht => ?_⟩, hw, Ext.refl _ _, rfl, fun t ht => by cases ht⟩
      simp only [env0, List.getD_eq_getElem?_getD]
      by_cases h1 : t < (args ++ captured).length
      · rw [Array.getElem?_append_left (by simpa using h1), List.getElem?_toArray, List.getElem?_eq_getElem h1]
        rfl
      · rw [Array.getElem?_append_right (by simpa using h1), List.getElem?_eq_none (by omega)]
        simp only [List.size_toArray, Option.getD_none]
        rw [Array.getElem?_replicate, if_pos (by first | omega | (simp at h1 ⊢; omega) | (simp; omega))]
    obtain ⟨a', ha'⟩ : ∃ a' : Act, a' = { tmps := (args ++ captured).toArray ++ Array.replicate (fn.ntmps - (args ++ captured).toArray.size) undef, defers := [] } := ⟨_, rfl⟩
    rw [← ha'] at hat ⊢
    clear ha'
    obtain ⟨env', he'⟩ : ∃ env', env' = env0 (args ++ captured) := ⟨_, rfl⟩
    rw [← he'] at hat h
    clear he'
    have h1 := h
    have h2 := hat
    have hw' := hw
    refine wpS_seq (wpS_region ?_)
    have hpos : 0 < ops.size := (Array.getElem?_eq_some_iff.1 ho).1
    rw [show List.range ops.size = 0 :: (List.range (ops.size - 1)).map (· + 1) by
      conv => lhs; rw [show ops.size = ops.size - 1 + 1 by omega, List.range_succ_eq_map]]
    unfold wpOpsS
    rw [ho]
    simp only []
    rw [if_pos (by unfold Region.wanted; rw [hg])]
    have hex : (execOp a'.eval o).run P w = .ok .recover w := by
      unfold execOp
      rw [hop]
      show Sem.run P (do let d ← resolve a'.eval c o.type; invoke d.target d.args) w = _
      unfold resolve
      rw [hcal]
      rfl
    rw [hex]
    simp only []
    have hthen : ∀ (a2 : Act), a2 = a'.put o.dst (recV u) → wpOpsS P ops (Exit.thenS (cb.wpS P (bodyPostS P fn c₀ cs fun e u' w' => ∃ H', S e u' H' ∧ Sees H' w' ∧ Ext H w H' w')) (bodyPostS P fn c₀ cs fun e u' w' => ∃ H', S e u' H' ∧ Sees H' w' ∧ Ext H w H' w')) ((List.range (ops.size - 1)).map (· + 1)) a2 ({ c₀ with mode := recM u } :: cs) w := by
      rintro a2 rfl
      rw [hdst, ← mapM_idx hS0]
      have hat2 : At H w fn.ntmps .none (env'.put (some d) (recV u)) H (a'.put (some d) (recV u)) w := ⟨h2.agree.put _ _, h2.sees, h2.ext, by simp [Act.put, h2.defers], fun t ht => by cases ht⟩
      refine quiet_wpS (hd := .none) (fun a3 w3 env3 H3 h3 hat3 => ?_) S0 [] _ _ _ _ (fun s hs => by obtain ⟨x, _, hx⟩ := mapM_mem hS0 s hs; exact (lowStp_ok hx).2) (fun s hs => ?_) (fun s hs => by unfold Stp.spares; cases s.dst <;> rfl) h1 hat2
      · refine wpS_of_wp (wp_mono (code_wp hm cb l2 _ _ H3 _ w3 hl2 (spares_none l2) h3 hat3) fun e a4 w4 hq => ?_)
        have fin : ∀ env4 H4, (match getAll env4 H4 rs with | some vs => S (.returned (oneOr vs)) (recM u) H4 | none => False) → At H w fn.ntmps .none env4 H4 a4 w4 → a4.defers = [] ∧ ∃ u', ({ c₀ with mode := recM u } : Frame) :: cs = { c₀ with mode := u' } :: cs ∧ ∃ v, (results fn a4.tmps).run P w4 = .ok v w4 ∧ ∃ H', S (.returned v) u' H' ∧ Sees H' w4 ∧ Ext H w H' w4 := by
          intro env4 H4 hq hat4
          split at hq
          case h_2 => exact hq.elim
          rename_i vs hvs
          exact ⟨hat4.defers, recM u, rfl, _, results_run hat4.agree hrs hvs hat4.sees, H4, hq, hat4.sees, hat4.ext⟩
        cases e with
        | normal => obtain ⟨env4, H4, k1, k2⟩ := hq; exact fin env4 H4 k1 k2
        | ret => obtain ⟨env4, H4, k1, k2⟩ := hq; exact fin env4 H4 k1 k2
        | panic ch => obtain ⟨H4, k1, k2, -, k3, k4⟩ := hq; exact ⟨k2, recM u, rfl, H4, k1, k3, k4⟩
        | exit id => obtain ⟨env4, H4, k1, k2⟩ := hq; exact k1.elim
        | goto l => obtain ⟨env4, H4, k1, k2⟩ := hq; exact k1.elim
        | outgrown => exact hq.elim
      · have := List.all_eq_true.1 hquiet s hs
        simp only [Bool.and_eq_true, Option.isNone_iff_eq_none] at this
        exact this
    have hrec := recoverD_eq c₀ cs
    rw [hu] at hrec
    cases hr : recoverD (c₀ :: cs) with
    | none =>
      rw [hr] at hrec
      simp only [Prod.mk.injEq] at hrec
      simp only []
      rw [hrec.1, hrec.2]
      exact hthen _ rfl
    | some p =>
      rw [hr] at hrec
      simp only [Prod.mk.injEq] at hrec
      simp only []
      rw [hrec.1, hrec.2]
      exact hthen _ rfl
end Go.Proofs.YtgbhdpeibiglfaaDoor.Sep
