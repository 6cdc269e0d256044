/-
  CODE IN SHORT, and functions: shown against the model's code.
-/
import Derived.Test.YtgbhdpeibiglfaaDoorSepAny
import Derived.Deep.LoopGhost
set_option linter.unusedVariables false
set_option linter.unusedSimpArgs false
namespace Go.Proofs.YtgbhdpeibiglfaaDoor.Sep
open Go Go.RowKit

inductive LCode where
  | skip
  | reg (S : List Stp)
  | seq (a b : LCode)
  | cond (c : Operand) (a b : LCode)
  | block (id : Nat) (a : LCode)
  | loop (a : LCode)
  | exit (id : Nat)
  | ret

abbrev Post := Exit → Env → Heap → Prop
def thn (next : Env → Heap → Prop) (Q : Post) : Post
  | .normal => next
  | e => Q e
def blk (id : Nat) (Q : Post) : Post
  | .exit id' => if id' = id then Q .normal else Q (.exit id')
  | e => Q e

def awpC (P : Program) : LCode → Post → (List PanicEntry → Heap → Prop) → Env → Heap → Prop
  | .skip, Q, _, env, H => Q .normal env H
  | .reg S, Q, QP, env, H => awpL P S [] (Q .normal) QP env H
  | .seq a b, Q, QP, env, H => awpC P a (thn (awpC P b Q QP) Q) QP env H
  | .cond c a b, Q, QP, env, H => match env.eval c with
    | .bool t => (t = true → awpC P a Q QP env H) ∧ (t = false → awpC P b Q QP env H)
    | _ => False
  | .block id a, Q, QP, env, H => awpC P a (blk id Q) QP env H
  | .loop a, Q, QP, env, H => ∃ R : Nat → Env → Heap → Prop, (∃ n, R n env H) ∧ ∀ n env H, R n env H → awpC P a (thn (fun env' H' => ∃ m, m < n ∧ R m env' H') Q) QP env H
  | .exit id, Q, _, env, H => Q (.exit id) env H
  | .ret, Q, _, env, H => Q .ret env H

/-! ### Writing code in short -/
def belowB (n : Nat) (xs : Array Operand) : Bool := xs.all fun | .tmp t => decide (t < n) | _ => true
def lowStp (P : Program) (n : Nat) (ops : Array Oper) (i : Nat) (re : List Nat) (keep : Bool) : Option Stp :=
  match ops[i]? with
  | none => none
  | some o => match lowOp P o with
    | none => none
    | some (ins, args) => if belowB n o.op.operands then
        match o.guard with
        | none => some ⟨i, ins, args, o.dst, none, re, keep⟩
        | some (j, want) => match (ops[j]?).bind (·.dst) with
          | some t => if t < n then some ⟨i, ins, args, o.dst, some (t, want), re, keep⟩ else none
          | none => none
      else none
def Ins.quiet : Ins → Bool
  | .q _ => true
  | .e _ => false
def Ins.look : Ins → Bool
  | .q x => !x.pure
  | .e _ => false
def Ins.alloc : Ins → Bool
  | .q _ => false
  | .e x => x.alloc
/-- quiet ones first -/
def greedy : Nat → List (Stp × Nat) → Nat → List Stp
  | 0, _, _ => []
  | fuel + 1, todo, listed =>
    match (match todo.find? fun (s, m) => s.ins.quiet && (m &&& listed == m) with | some x => some x | none => match todo.find? fun ((s, m) : Stp × Nat) => !s.ins.alloc && (m &&& listed == m) with | some x => some x | none => todo.find? fun (s, m) => m &&& listed == m) with
    | some (s, m) => s :: greedy fuel (todo.filter fun (t, _) => t.i != s.i) (listed ||| 2 ^ s.i)
    | none => []
def resOf (cl : List Nat) (S : List Stp) : List (Nat × List Nat) :=
  (S.foldl (fun (acc : List Nat × List (Nat × List Nat)) s =>
    if s.ins.quiet then (if s.ins.look then s.i :: acc.1 else acc.1, acc.2)
    else (acc.1, (s.i, acc.1.filter fun j => !(cl.getD s.i 0).testBit j) :: acc.2)) ([], [])).2
def pairwiseB (f : Stp → Stp → Bool) : List Stp → Bool
  | [] => true
  | j :: rest => rest.all (f j) && pairwiseB f rest
theorem pairwiseB_ok {f : Stp → Stp → Bool} : ∀ {l : List Stp}, pairwiseB f l = true → l.Pairwise fun j i => f j i = true
  | [], _ => List.Pairwise.nil
  | j :: rest, h => by
    simp only [pairwiseB, Bool.and_eq_true] at h
    exact List.Pairwise.cons (fun x hx => List.all_eq_true.1 h.1 x hx) (pairwiseB_ok h.2)
def drawOk (ops : Array Oper) (cl : List Nat) (E : List (List Nat)) (S : List Stp) : Bool :=
  (List.range ops.size).all (fun k => S.any fun s => s.i == k) && pairwiseB (fun j i => pairOk cl E j i && j.i != i.i) S &&
  (List.range ops.size).all (fun k => (E.getD k []).all fun j => decide (j < ops.size) && j != k)
def lowDraw (P : Program) (n : Nat) (ops : Array Oper) (res : List (Nat × List Nat)) (ord : List Stp) (cl : List Nat) (E : List (List Nat)) : Option (List Stp) :=
  match ord.mapM (fun s => lowStp P n ops s.i (((res.find? fun r => r.1 == s.i).map (·.2)).getD []) (res.any fun r => r.2.contains s.i)) with
  | none => none
  | some S => if drawOk ops cl E S then some S else none
def lowReg (P : Program) (n : Nat) (ops : Array Oper) (draw : Bool) : Option (List Stp) :=
  match (List.range ops.size).mapM (fun i => lowStp P n ops i [] false) with
  | none => none
  | some S0 =>
    if draw then
      let E := ops.toList.map edgesOf
      let cl := closAux ops.toList []
      let ord := greedy ops.size (S0.zip (E.map maskOf)) 0
      match lowDraw P n ops (resOf cl ord) ord cl E with
      | some S => some S
      | none => lowDraw P n ops ((resOf cl ord).filter fun r => !ord.any fun s => s.i == r.1 && s.ins.alloc) ord cl E
    else some S0
theorem lowReg_draw {P : Program} {n : Nat} {ops : Array Oper} {S S0 : List Stp} (h0 : (List.range ops.size).mapM (fun i => lowStp P n ops i [] false) = some S0) (h : lowReg P n ops true = some S) : ∃ f : Stp → List Nat × Bool, ∃ ord : List Stp, ord.mapM (fun s => lowStp P n ops s.i (f s).1 (f s).2) = some S ∧ drawOk ops (closAux ops.toList []) (ops.toList.map edgesOf) S = true := by
  have one : ∀ res ord, lowDraw P n ops res ord (closAux ops.toList []) (ops.toList.map edgesOf) = some S → ∃ f : Stp → List Nat × Bool, ∃ ord : List Stp, ord.mapM (fun s => lowStp P n ops s.i (f s).1 (f s).2) = some S ∧ drawOk ops (closAux ops.toList []) (ops.toList.map edgesOf) S = true := by
    intro res ord hd
    unfold lowDraw at hd
    split at hd
    · cases hd
    · rename_i S' hS'
      split at hd
      · rename_i hok
        obtain rfl := Option.some.inj hd
        exact ⟨fun s => (((res.find? fun r => r.1 == s.i).map (·.2)).getD [], res.any fun r => r.2.contains s.i), ord, hS', hok⟩
      · cases hd
  unfold lowReg at h
  rw [h0] at h
  simp only [if_true] at h
  split at h
  · rename_i S' hS'
    obtain rfl := Option.some.inj h
    exact one _ _ hS'
  · exact one _ _ h
def lowC (P : Program) (n : Nat) : Code → Option LCode
  | .skip => some .skip
  | .region _ ops draw => (lowReg P n ops draw).map .reg
  | .seq a b => match lowC P n a with
    | some x => (lowC P n b).map (.seq x)
    | none => none
  | .cond c a b => if belowB n #[c] then match lowC P n a with
      | some x => (lowC P n b).map (.cond c x)
      | none => none
    else none
  | .block id a => (lowC P n a).map (.block id)
  | .loop a => (lowC P n a).map .loop
  | .exit id => some (.exit id)
  | .ret => some .ret
  | _ => none

section
variable {P : Program} {n : Nat}
theorem belowB_ok {xs : Array Operand} (h : belowB n xs = true) : ∀ t, .tmp t ∈ xs → t < n := by
  intro t ht
  have := Array.all_eq_true_iff_forall_mem.1 h _ ht
  simpa using this
theorem lowStp_ok {ops : Array Oper} {i : Nat} {re : List Nat} {keep : Bool} {s : Stp} (h : lowStp P n ops i re keep = some s) : s.i = i ∧ ∃ o, StpOk P n ops s o := by
  unfold lowStp at h
  split at h
  · cases h
  · rename_i o ho
    split at h
    · cases h
    · rename_i ins args hlow
      split at h
      case isFalse => cases h
      rename_i hb
      split at h
      · rename_i hg
        obtain rfl := Option.some.inj h
        exact ⟨rfl, o, ho, hlow, rfl, by rw [hg], belowB_ok hb⟩
      · rename_i j want hg
        split at h
        · rename_i t ht
          split at h
          · rename_i hlt
            obtain rfl := Option.some.inj h
            exact ⟨rfl, o, ho, hlow, rfl, by rw [hg]; exact ⟨t, ht, rfl, hlt⟩, belowB_ok hb⟩
          · cases h
        · cases h
theorem mapM_mem {α β : Type} {f : α → Option β} : ∀ {l : List α} {r : List β}, l.mapM f = some r → ∀ b ∈ r, ∃ a ∈ l, f a = some b
  | [], r, h, b, hb => by simp at h; subst h; cases hb
  | x :: l, r, h, b, hb => by
    simp only [List.mapM_cons, Option.bind_eq_bind, Option.bind_eq_some_iff, Option.pure_def, Option.some.injEq] at h
    obtain ⟨y, hy, r', hr, rfl⟩ := h
    rcases List.mem_cons.1 hb with rfl | hb
    · exact ⟨x, List.mem_cons_self, hy⟩
    · obtain ⟨a, ha, h2⟩ := mapM_mem hr b hb
      exact ⟨a, List.mem_cons_of_mem _ ha, h2⟩
theorem mapM_idx {ops : Array Oper} : ∀ {l : List Nat} {r : List Stp}, l.mapM (fun i => lowStp P n ops i [] false) = some r → r.map (·.i) = l
  | [], r, h => by simp at h; subst h; rfl
  | x :: l, r, h => by
    simp only [List.mapM_cons, Option.bind_eq_bind, Option.bind_eq_some_iff, Option.pure_def, Option.some.injEq] at h
    obtain ⟨y, hy, r', hr, rfl⟩ := h
    rw [List.map_cons, mapM_idx hr, (lowStp_ok hy).1]

theorem reg_wp {id : Nat} {ops : Array Oper} {draw : Bool} {S : List Stp} (hm : P.follows .mixedOrders = true) (hl : lowReg P n ops draw = some S) {K : Env → Heap → Prop} {KP : List PanicEntry → Heap → Prop} {H0 : Heap} {w0 : World} {ds : Hold} {Q : Exit → Act → World → Prop}
    (hN : ∀ a' w' env' H', K env' H' → At H0 w0 n ds env' H' a' w' → Q .normal a' w')
    (hQ : ∀ ch a' w' H', KP ch H' → a'.defers = ds.ds → Held n ds a' → Sees H' w' → Ext H0 w0 H' w' → Q (.panic ch) a' w')
    {env : Env} {H : Heap} {a : Act} {w : World} (hsp : ∀ s ∈ S, s.spares ds.T = true) (h : awpL P S [] K KP env H) (hat : At H0 w0 n ds env H a w) : (Code.region id ops draw).wp P Q a w := by
  have hl0 := hl
  unfold lowReg at hl
  split at hl
  · cases hl
  · rename_i S0 hS0
    split at hl
    · rename_i hd
      subst hd
      · obtain ⟨f, ord, hS', hok⟩ := lowReg_draw hS0 hl0
        clear hl hl0
        simp only [drawOk, Bool.and_eq_true] at hok
        obtain ⟨⟨hall, hpw⟩, hsz⟩ := hok
        have hE : ∀ (k : Nat) o, ops[k]? = some o → (ops.toList.map edgesOf).getD k [] = edgesOf o := by
          intro k o ho
          simp [List.getD_eq_getElem?_getD, ho]
        refine wp_region_any hm (any_wp (S := S) (cl := closAux ops.toList []) (E := ops.toList.map edgesOf) hN hQ ?_ hsp ?_ ?_ ?_ hE ?_ ops.size (Array.replicate ops.size false) S [] env H a _ (by simp) ?_ ?_ ?_ Mono.nil h ⟨hat.agree, hat.sees.drew _, hat.ext.drew _, hat.defers, hat.held⟩)
        · intro s hs
          obtain ⟨x, _, hx⟩ := mapM_mem hS' s hs
          exact (lowStp_ok hx).2
        · intro k hk
          have := List.all_eq_true.1 hall k (List.mem_range.2 hk)
          obtain ⟨s, hs, he⟩ := List.any_eq_true.1 this
          exact ⟨s, hs, by simpa using he⟩
        · exact (pairwiseB_ok hpw).imp fun h => by simpa using h
        · have := (closAux_ok ops.toList [] [] rfl (by intro k o j hk; simp at hk)).1
          simpa using this
        · intro k o ho j hj
          have hlt := (Array.getElem?_eq_some_iff.1 ho).1
          have := List.all_eq_true.1 hsz k (List.mem_range.2 hlt)
          rw [hE k o ho] at this
          have := List.all_eq_true.1 this j hj
          simpa using this
        · have hf : ∀ j, (Array.replicate ops.size false).getD j false = false := by
            intro j
            simp [Array.getD]
          rw [List.filter_eq_self.2 (fun s _ => by rw [hf]; rfl)]
        · have hnd : (S.map (·.i)).Nodup := by
            have := pairwiseB_ok hpw
            rw [List.nodup_iff_pairwise_ne, List.pairwise_map]
            exact this.imp fun h => by simp at h; exact h.2
          have hsub : ∀ x ∈ S.map (·.i), x ∈ List.range ops.size := by
            intro x hx
            obtain ⟨s, hs, rfl⟩ := List.mem_map.1 hx
            obtain ⟨y, _, hy⟩ := mapM_mem hS' s hs
            obtain ⟨o, ho⟩ := (lowStp_ok hy).2
            exact List.mem_range.2 (Array.getElem?_eq_some_iff.1 ho.at_).1
          have := List.Nodup.length_le_of_subset hnd hsub
          simpa using this
        · intro k o ho hk
          simp [Array.getD] at hk
    · rename_i hd
      simp only [Bool.not_eq_true] at hd
      subst hd
      obtain rfl := Option.some.inj hl
      refine wp_region ?_
      rw [← mapM_idx hS0]
      exact order_wp hN hQ S0 [] env H a w (fun s hs => by obtain ⟨x, _, hx⟩ := mapM_mem hS0 s hs; exact (lowStp_ok hx).2) hsp Mono.nil h hat

def LCode.spares (T : Tmp → Bool) : LCode → Bool
  | .reg S => S.all (Stp.spares T)
  | .seq a b | .cond _ a b => a.spares T && b.spares T
  | .block _ a | .loop a => a.spares T
  | _ => true
theorem spares_none : ∀ l : LCode, l.spares (fun _ => false) = true
  | .reg S => by simp only [LCode.spares, List.all_eq_true]; intro s _; unfold Stp.spares; cases s.dst <;> rfl
  | .seq a b | .cond _ a b => by simp only [LCode.spares, spares_none a, spares_none b, Bool.and_self]
  | .block _ a | .loop a => by simp only [LCode.spares, spares_none a]
  | .skip | .exit _ | .ret => rfl
/-- a post over what is known, as one over worlds -/
def PQ (n : Nat) (ds : Hold) (H0 : Heap) (w0 : World) (Q : Post) (QP : List PanicEntry → Heap → Prop) : Exit → Act → World → Prop
  | .panic ch, a, w => ∃ H', QP ch H' ∧ a.defers = ds.ds ∧ Held n ds a ∧ Sees H' w ∧ Ext H0 w0 H' w
  | .outgrown, _, _ => False
  | e, a, w => ∃ env H', Q e env H' ∧ At H0 w0 n ds env H' a w

theorem code_wp (hm : P.follows .mixedOrders = true) {H0 : Heap} {w0 : World} {ds : Hold} {QP : List PanicEntry → Heap → Prop} : ∀ (c : Code) (l : LCode) (Q : Post) (env : Env) (H : Heap) (a : Act) (w : World), lowC P n c = some l → l.spares ds.T = true → awpC P l Q QP env H → At H0 w0 n ds env H a w → c.wp P (PQ n ds H0 w0 Q QP) a w := by
  intro c
  induction c with
  | skip =>
    intro l Q env H a w hl hsp h hat
    simp only [lowC, Option.some.injEq] at hl; subst hl
    exact wp_skip ⟨env, H, h, hat⟩
  | region id ops draw =>
    intro l Q env H a w hl hsp h hat
    obtain ⟨S, hS, rfl⟩ := Option.map_eq_some_iff.1 hl
    exact reg_wp hm hS (fun a' w' env' H' h1 h2 => ⟨env', H', h1, h2⟩) (fun ch a' w' H' h1 h2 h3 h4 h5 => ⟨H', h1, h2, h3, h4, h5⟩) (by simpa [LCode.spares] using hsp) h hat
  | seq x y ihx ihy =>
    intro l Q env H a w hl hsp h hat
    simp only [lowC] at hl
    split at hl
    · rename_i lx hx
      obtain ⟨ly, hy, rfl⟩ := Option.map_eq_some_iff.1 hl
      simp only [LCode.spares, Bool.and_eq_true] at hsp
      refine wp_seq (wp_mono (ihx lx _ env H a w hx hsp.1 h hat) fun e a' w' hq => ?_)
      cases e with
      | normal =>
        obtain ⟨env', H', h1, h2⟩ := hq
        exact ihy ly Q env' H' a' w' hy hsp.2 h1 h2
      | _ => exact hq
    · cases hl
  | cond c x y ihx ihy =>
    intro l Q env H a w hl hsp h hat
    simp only [lowC] at hl
    split at hl
    case isFalse => cases hl
    rename_i hb
    split at hl
    · rename_i lx hx
      obtain ⟨ly, hy, rfl⟩ := Option.map_eq_some_iff.1 hl
      simp only [LCode.spares, Bool.and_eq_true] at hsp
      simp only [awpC] at h
      split at h
      · rename_i t ht
        have hc : a.eval c = .bool t := by
          rw [hat.agree.eval (n := n) (fun t e => belowB_ok hb t (by rw [e]; simp))]
          exact ht
        exact wp_cond_split hc (fun h1 => ihx lx Q env H a w hx hsp.1 (h.1 h1) hat) (fun h1 => ihy ly Q env H a w hy hsp.2 (h.2 h1) hat)
      · exact h.elim
    · cases hl
  | block id x ih =>
    intro l Q env H a w hl hsp h hat
    obtain ⟨lx, hx, rfl⟩ := Option.map_eq_some_iff.1 hl
    refine wp_block (wp_mono (ih lx _ env H a w hx hsp h hat) fun e a' w' hq => ?_)
    cases e with
    | exit id' =>
      simp only [Exit.inBlock]
      obtain ⟨env', H', h1, h2⟩ := hq
      simp only [blk] at h1
      split at h1
      · rename_i e; rw [if_pos e]; exact ⟨env', H', h1, h2⟩
      · rename_i e; rw [if_neg e]; exact ⟨env', H', h1, h2⟩
    | _ => exact hq
  | loop x ih =>
    intro l Q env H a w hl hsp h hat
    obtain ⟨lx, hx, rfl⟩ := Option.map_eq_some_iff.1 hl
    simp only [awpC] at h
    obtain ⟨R, ⟨k, hk⟩, hR⟩ := h
    refine wp_loop_ghost (fun k a w => ∃ env H, R k env H ∧ At H0 w0 n ds env H a w) k ⟨env, H, hk, hat⟩ ?_
    rintro k a w ⟨env, H, hk, hat⟩
    refine wp_mono (ih lx _ env H a w hx hsp (hR k env H hk) hat) fun e a' w' hq => ?_
    cases e with
    | normal =>
      obtain ⟨env', H', ⟨m, h1, h2⟩, h3⟩ := hq
      exact ⟨m, h1, env', H', h2, h3⟩
    | _ => exact hq
  | exit id =>
    intro l Q env H a w hl hsp h hat
    simp only [lowC, Option.some.injEq] at hl; subst hl
    exact wp_exit ⟨env, H, h, hat⟩
  | ret =>
    intro l Q env H a w hl hsp h hat
    simp only [lowC, Option.some.injEq] at hl; subst hl
    exact wp_ret ⟨env, H, h, hat⟩
  | rangeFunc => intro l Q env H a w hl; cases hl
  | scope => intro l Q env H a w hl; cases hl
  | label => intro l Q env H a w hl; cases hl
  | goto => intro l Q env H a w hl; cases hl
  | refuse => intro l Q env H a w hl; cases hl

/-! ### Functions -/
inductive RV where
  | t (t : Tmp)
  | c (a : Tmp) (agg : Option Nat)
def RV.get (r : RV) (env : Env) (H : Heap) : Option Value :=
  match r with
  | .t i => some (env i)
  | .c a agg => match env a with
    | .pointer (some x) => match agg with
      | none => H.cell? x
      | some n => (H.loadN x 0 n).map fun l => .agg l.toArray
    | _ => none
def getAll (env : Env) (H : Heap) : List RV → Option (List Value)
  | [] => some []
  | r :: rs => match r.get env H with
    | some v => (getAll env H rs).map (v :: ·)
    | none => none
def oneOr (vs : List Value) : Value := match vs with
  | [v] => v
  | vs => .tuple vs.toArray

structure LFn where
  n : Nat
  results : List RV
  body : LCode

def lowRV (P : Program) (n : Nat) : ResultVar → Option RV
  | .tmp t => if t < n then some (.t t) else none
  | .cell a t => if a < n then match aggP P t with
      | some true => (sizeP P t).map fun s => .c a (some s)
      | some false => some (.c a none)
      | none => none
    else none
def lowFn (P : Program) (fn : Func) : Option LFn :=
  match fn.body with
  | none => none
  | some c => match lowC P fn.ntmps c, fn.results.toList.mapM (lowRV P fn.ntmps) with
    | some l, some rs => some ⟨fn.ntmps, rs, l⟩
    | _, _ => none

/-- the first temporaries hold the arguments -/
def env0 (args : List Value) : Env := fun t => args.getD t undef
def retQ (rs : List RV) (S : Ending → Heap → Prop) : Post
  | .normal, env, H | .ret, env, H => match getAll env H rs with
    | some vs => S (.returned (oneOr vs)) H
    | none => False
  | _, _, _ => False

/-- small programs that write nothing -/
def NoWrite {α : Type} : Sem α → Prop
  | .pure _ => True
  | .load _ _ k => ∀ v, NoWrite (k v)
  | .shape _ k => ∀ v, NoWrite (k v)
  | .program k => ∀ p, NoWrite (k p)
  | .halt _ => True
  | _ => False
theorem NoWrite.same {α : Type} {P : Program} (s : Sem α) : ∀ {w w' : World} {a : α}, NoWrite s → s.run P w = .ok a w' → w' = w := by
  induction s with
  | pure a => intro w w' b _ h; simp only [Sem.run, Result.ok.injEq] at h; exact h.2.symm
  | load m a k ih =>
    intro w w' b hn h
    simp only [Sem.run] at h
    split at h
    · exact ih _ (hn _) h
    · split at h
      · exact ih _ (hn _) h
      · cases h
  | shape r k ih => intro w w' b hn h; simp only [Sem.run] at h; exact ih _ (hn _) h
  | program k ih => intro w w' b hn h; simp only [Sem.run] at h; exact ih _ (hn _) h
  | halt x => intro w w' b _ h; simp [Sem.run] at h
  | _ => intro w w' b hn; exact hn.elim
theorem NoWrite.bind {α β : Type} (s : Sem α) (f : α → Sem β) (hf : ∀ a, NoWrite (f a)) : NoWrite s → NoWrite (s >>= f) := by
  show NoWrite s → NoWrite (Sem.bind s f)
  induction s with
  | pure a => intro _; exact hf a
  | load m a k ih => intro h v; exact ih v (h v)
  | shape r k ih => intro h v; exact ih v (h v)
  | program k ih => intro h v; exact ih v (h v)
  | halt x => intro _; trivial
  | _ => intro h; exact h.elim
theorem nw_typeInfo (t : TypeId) : NoWrite (typeInfo t) := by
  unfold typeInfo
  refine NoWrite.bind _ _ (fun p => ?_) (fun p => trivial)
  split <;> trivial
theorem nw_underlying (t : TypeId) : NoWrite (underlying t) := by
  unfold underlying
  refine NoWrite.bind _ _ (fun p => ?_) (fun p => trivial)
  split <;> trivial
theorem nw_loadCellsFrom (a : Addr) : ∀ (n i : Nat) (acc : Array Value), NoWrite (loadCellsFrom a i n acc)
  | 0, i, acc => trivial
  | n + 1, i, acc => NoWrite.bind _ _ (fun v => nw_loadCellsFrom a n (i + 1) _) (fun v => trivial)
theorem nw_loadVar (t : TypeId) (a : Addr) : NoWrite (loadVar t a) := by
  unfold loadVar isAgg
  refine NoWrite.bind _ _ (fun b => ?_) ?_
  · cases b with
    | true =>
      refine NoWrite.bind _ _ (fun n => ?_) ?_
      · exact NoWrite.bind _ _ (fun l => trivial) (nw_loadCellsFrom a _ 0 #[])
      · exact NoWrite.bind _ _ (fun i => trivial) (nw_typeInfo t)
    | false => exact fun v => trivial
  · refine NoWrite.bind _ _ (fun d => ?_) (nw_underlying t)
    split <;> trivial
theorem nw_asAddr (v : Value) : NoWrite (asAddr v) := by
  unfold asAddr
  split
  · trivial
  · intro p; trivial
  · trivial
theorem nw_mapM {α β : Type} (f : α → Sem β) (hf : ∀ a, NoWrite (f a)) : ∀ l : List α, NoWrite (l.mapM f)
  | [] => by rw [List.mapM_nil]; trivial
  | x :: l => by
    rw [List.mapM_cons]
    exact NoWrite.bind _ _ (fun b => NoWrite.bind _ _ (fun bs => trivial) (nw_mapM f hf l)) (hf x)

theorem lowRV_ok {r : ResultVar} {x : RV} {env : Env} {H : Heap} {a : Act} {v : Value} (hl : lowRV P n r = some x) (ha : Agree n env a) (hv : x.get env H = some v) (K : Res Value → Heap → Prop) (hK : K (.ok v) H) :
    awpS P (match r with | .tmp t => pure (a.tmps.getD t undef) | .cell c t => do loadVar t (← asAddr (a.tmps.getD c undef))) K H := by
  have hget : ∀ t, t < n → a.tmps.getD t undef = env t := fun t ht => by
    have := ha.at_ t ht
    simp [this]
  cases r with
  | tmp t =>
    simp only [lowRV] at hl
    split at hl
    · rename_i ht
      obtain rfl := Option.some.inj hl
      simp only [RV.get, Option.some.injEq] at hv
      subst hv
      show awpS P (pure (a.tmps.getD t undef)) K H
      rw [hget t ht]
      exact hK
    · cases hl
  | cell c t =>
    simp only [lowRV] at hl
    split at hl
    case isFalse => cases hl
    rename_i hc
    show awpS P (do loadVar t (← asAddr (a.tmps.getD c undef))) K H
    rw [hget c hc, awpS_bind]
    have haddr : ∃ x, env c = .pointer (some x) := by
      have : ∃ agg, x = .c c agg := by
        split at hl
        · obtain ⟨s, _, rfl⟩ := Option.map_eq_some_iff.1 hl; exact ⟨_, rfl⟩
        · obtain rfl := Option.some.inj hl; exact ⟨_, rfl⟩
        · cases hl
      obtain ⟨agg, rfl⟩ := this
      simp only [RV.get] at hv
      split at hv
      · exact ⟨_, ‹_›⟩
      · cases hv
    obtain ⟨p, hp⟩ := haddr
    rw [hp]
    show awpS P (loadVar t p) K H
    split at hl
    · rename_i hb
      obtain ⟨s, hs, rfl⟩ := Option.map_eq_some_iff.1 hl
      simp only [RV.get, hp] at hv
      obtain ⟨l, hl2, rfl⟩ := Option.map_eq_some_iff.1 hv
      rw [awpS_loadVar hb (fun _ => hs) (v := .agg l.toArray) (by rw [if_pos rfl]; exact ⟨l, hl2, rfl⟩)]
      exact hK
    · rename_i hb
      obtain rfl := Option.some.inj hl
      simp only [RV.get, hp] at hv
      rw [awpS_loadVar (n := 0) hb (fun h => by cases h) (v := v) (by simpa using hv)]
      exact hK
    · cases hl

theorem results_ok {env : Env} {H : Heap} {a : Act} (ha : Agree n env a) : ∀ {rs : List ResultVar} {xs : List RV} {vs : List Value}, rs.mapM (lowRV P n) = some xs → getAll env H xs = some vs → ∀ (K : Res (List Value) → Heap → Prop), K (.ok vs) H →
    awpS P (rs.mapM fun r => match r with | .tmp t => pure (a.tmps.getD t undef) | .cell c t => do loadVar t (← asAddr (a.tmps.getD c undef))) K H
  | [], xs, vs, hl, hv, K, hK => by
    simp at hl; subst hl
    simp only [getAll, Option.some.injEq] at hv; subst hv
    rw [List.mapM_nil]; exact hK
  | r :: rs, xs, vs, hl, hv, K, hK => by
    simp only [List.mapM_cons, Option.bind_eq_bind, Option.bind_eq_some_iff, Option.pure_def, Option.some.injEq] at hl
    obtain ⟨y, hy, r', hr, rfl⟩ := hl
    simp only [getAll] at hv
    split at hv
    · rename_i v hv1
      obtain ⟨vs', hvs, rfl⟩ := Option.map_eq_some_iff.1 hv
      rw [List.mapM_cons, awpS_bind]
      refine lowRV_ok hy ha hv1 _ ?_
      rw [nxt_ok, awpS_bind]
      exact results_ok ha hr hvs _ hK
    · cases hv

/-- A CALL, out of its code in short. -/
theorem acalls {f : FuncId} {fn : Func} {L : LFn} {args : List Value} {H : Heap} {S : Ending → Heap → Prop} (hm : P.follows .mixedOrders = true) (hf : P.funcs[f]? = some fn) (hL : lowFn P fn = some L)
    (hn : args.length ≤ L.n) (h : awpC P L.body (retQ L.results S) (fun ch H => S (.panicked ch) H) (env0 args) H) : ACalls P f args.toArray H S := by
  unfold lowFn at hL
  split at hL
  · cases hL
  · rename_i c hc
    split at hL
    · rename_i l rs hl hrs
      obtain rfl := Option.some.inj hL
      intro w hw
      refine calls_of_wp hf hc ?_
      have hsz : args.length ≤ fn.ntmps := hn
      have hat : At H w fn.ntmps .none (env0 args) H { tmps := args.toArray ++ Array.replicate (fn.ntmps - args.toArray.size) undef, defers := [] } w := by
        refine ⟨⟨by simp; omega, fun t ht => ?_⟩, hw, Ext.refl _ _, rfl, fun t ht => by cases ht⟩
        simp only [env0, List.getD_eq_getElem?_getD]
        by_cases h1 : t < args.length
        · rw [Array.getElem?_append_left (by simpa using h1)]
          simp [h1]
        · rw [Array.getElem?_append_right (by simp; omega)]
          simp
          rw [List.getElem?_eq_none (by omega)]
          simp [Array.getElem?_replicate]
          omega
      refine wp_mono (code_wp hm c l _ (env0 args) H _ w hl (spares_none l) h hat) fun e a' w' hq => ?_
      have fin : ∀ env' H', (match getAll env' H' rs with | some vs => S (.returned (oneOr vs)) H' | none => False) → At H w fn.ntmps .none env' H' a' w' → a'.defers = [] ∧ ∃ v, (results fn a'.tmps).run P w' = .ok v w' ∧ ∃ H', S (.returned v) H' ∧ Sees H' w' ∧ Ext H w H' w' := by
        intro env' H' hq hat'
        split at hq
        case h_2 => exact hq.elim
        rename_i vs hvs
        refine ⟨hat'.defers, oneOr vs, ?_, H', hq, hat'.sees, hat'.ext⟩
        have key : awpS P (results fn a'.tmps) (fun r H1 => r = .ok (oneOr vs)) H' := by
          unfold results
          rw [Array.mapM_eq_mapM_toList, awpS_bind, ← bind_pure_comp, awpS_bind]
          refine results_ok hat'.agree hrs hvs _ ?_
          rw [nxt_ok, awpS_pure, nxt_ok, awpS_pure]
          congr 1
          match vs with
          | [] => rfl
          | [v] => rfl
          | _ :: _ :: _ => simp [oneOr]
        have hnw : NoWrite (results fn a'.tmps) := by
          unfold results
          rw [Array.mapM_eq_mapM_toList, ← bind_pure_comp]
          refine NoWrite.bind _ _ (fun b => trivial) (NoWrite.bind _ _ (fun l => trivial) (nw_mapM _ (fun r => ?_) _))
          cases r with
          | tmp t => trivial
          | cell c t => exact NoWrite.bind _ _ (fun x => nw_loadVar _ _) (nw_asAddr _)
        have hrun := awpS_run _ key hat'.sees
        cases hr : (results fn a'.tmps).run P w' with
        | ok v w2 =>
          rw [hr] at hrun
          obtain ⟨_, h1, _, _⟩ := hrun
          cases h1
          rw [NoWrite.same _ hnw hr]
        | halt x w2 =>
          rw [hr] at hrun
          cases x <;> simp only [RunsTo] at hrun
          obtain ⟨_, h1, _, _⟩ := hrun
          cases h1
      cases e with
      | normal => obtain ⟨env', H', h1, h2⟩ := hq; exact fin env' H' h1 h2
      | ret => obtain ⟨env', H', h1, h2⟩ := hq; exact fin env' H' h1 h2
      | panic ch => obtain ⟨H', h1, h2, -, h3, h4⟩ := hq; exact ⟨h2, H', h1, h3, h4⟩
      | exit id => obtain ⟨env', H', h1, h2⟩ := hq; exact h1.elim
      | goto l => obtain ⟨env', H', h1, h2⟩ := hq; exact h1.elim
      | outgrown => exact hq.elim
    · cases hL
end
end Go.Proofs.YtgbhdpeibiglfaaDoor.Sep
