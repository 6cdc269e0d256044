/-
  HOW CODE IN SHORT IS STEPPED THROUGH: one equation for each form of code and each instruction; cells of a heap behind a store.
-/
import Derived.Test.YtgbhdpeibiglfaaDoorSepCode
import Derived.Laws.BitsAllLaws
set_option linter.unusedVariables false
set_option linter.unusedSimpArgs false
namespace Go.Proofs.YtgbhdpeibiglfaaDoor.Sep
open Go Go.RowKit
section
variable {P : Program} {Q : Post} {QP : List PanicEntry → Heap → Prop} {env : Env} {H : Heap}

/-- a value that must be there, and the steps that follow -/
def goQ (P : Program) (o : Option Value) (rest : List Stp) (dst : Option Tmp) (D : Done) (K : Env → Heap → Prop) (KP : List PanicEntry → Heap → Prop) (env : Env) (H : Heap) : Prop := match o with
  | some v => awpL P rest D K KP (env.put dst v) H
  | none => False
/-- a writing step, and the steps that follow -/
abbrev goE (P : Program) (e : EI) (xs : List Value) (rest : List Stp) (dst : Option Tmp) (K : Env → Heap → Prop) (KP : List PanicEntry → Heap → Prop) (env : Env) (H : Heap) : Prop :=
  awpE P e xs (fun v H' => awpL P rest [] K KP (env.put dst v) H') KP H
/-- a test's two ways -/
def goC (P : Program) (v : Value) (a b : LCode) (Q : Post) (QP : List PanicEntry → Heap → Prop) (env : Env) (H : Heap) : Prop := match v with
  | .bool t => (t = true → awpC P a Q QP env H) ∧ (t = false → awpC P b Q QP env H)
  | _ => False
/-- a guard's two ways -/
def goG (P : Program) (v : Value) (want : Bool) (i : Nat) (ins : Ins) (args : List Operand) (re : List Nat) (keep : Bool) (rest : List Stp) (dst : Option Tmp) (D : Done) (K : Env → Heap → Prop) (KP : List PanicEntry → Heap → Prop) (env : Env) (H : Heap) : Prop :=
  if (match v with | .bool t => t == want | _ => false) then awpL P (⟨i, ins, args, dst, none, re, keep⟩ :: rest) D K KP env H else awpL P rest D K KP (env.put dst undef) H
section
variable {K : Env → Heap → Prop} {KP : List PanicEntry → Heap → Prop} {D : Done} {rest : List Stp} {i : Nat} {args : List Operand} {dst : Option Tmp} {re : List Nat} {ins : Ins} {keep : Bool} {a b : LCode}
theorem b_some {v : Value} : goQ P (some v) rest dst D K KP env H = awpL P rest D K KP (env.put dst v) H := rfl
theorem d_true : goC P (.bool true) a b Q QP env H = awpC P a Q QP env H := by simp [goC]
theorem d_false : goC P (.bool false) a b Q QP env H = awpC P b Q QP env H := by simp [goC]
theorem d_dec {p : Prop} [Decidable p] (h1 : p → awpC P a Q QP env H) (h2 : ¬ p → awpC P b Q QP env H) : goC P (.bool (decide p)) a b Q QP env H := ⟨fun h => h1 (of_decide_eq_true h), fun h => h2 (of_decide_eq_false h)⟩
theorem gd_tt : goG P (.bool true) true i ins args re keep rest dst D K KP env H = awpL P (⟨i, ins, args, dst, none, re, keep⟩ :: rest) D K KP env H := rfl
theorem gd_ff : goG P (.bool false) false i ins args re keep rest dst D K KP env H = awpL P (⟨i, ins, args, dst, none, re, keep⟩ :: rest) D K KP env H := rfl
theorem gd_tf : goG P (.bool true) false i ins args re keep rest dst D K KP env H = awpL P rest D K KP (env.put dst undef) H := rfl
theorem gd_ft : goG P (.bool false) true i ins args re keep rest dst D K KP env H = awpL P rest D K KP (env.put dst undef) H := rfl
end

theorem c_skip : awpC P .skip Q QP env H = Q .normal env H := rfl
theorem c_reg {S : List Stp} : awpC P (.reg S) Q QP env H = awpL P S [] (Q .normal) QP env H := rfl
theorem c_seq {a b : LCode} : awpC P (.seq a b) Q QP env H = awpC P a (thn (awpC P b Q QP) Q) QP env H := rfl
theorem c_cond {c : Operand} {a b : LCode} : awpC P (.cond c a b) Q QP env H = goC P (env.eval c) a b Q QP env H := by
  simp only [awpC, goC]
  cases env.eval c <;> rfl
theorem c_block {i : Nat} {a : LCode} : awpC P (.block i a) Q QP env H = awpC P a (blk i Q) QP env H := rfl
theorem c_exit {i : Nat} : awpC P (.exit i) Q QP env H = Q (.exit i) env H := rfl
theorem c_ret : awpC P .ret Q QP env H = Q .ret env H := rfl
theorem c_loop {a : LCode} (R : Nat → Env → Heap → Prop) (k : Nat) (h0 : R k env H) (h : ∀ n env H, R n env H → awpC P a (thn (fun env' H' => ∃ m, m < n ∧ R m env' H') Q) QP env H) : awpC P (.loop a) Q QP env H := ⟨R, ⟨k, h0⟩, h⟩

theorem awpC_mono : ∀ (c : LCode) {Q Q' : Post} {QP QP' : List PanicEntry → Heap → Prop} {env : Env} {H : Heap}, (∀ e env H, Q e env H → Q' e env H) → (∀ ch H, QP ch H → QP' ch H) → awpC P c Q QP env H → awpC P c Q' QP' env H
  | .skip, Q, Q', QP, QP', env, H, hq, hp, h => hq _ _ _ h
  | .reg S, Q, Q', QP, QP', env, H, hq, hp, h => by
    have : ∀ (S : List Stp) (D : Done) (env : Env) (H : Heap), awpL P S D (Q .normal) QP env H → awpL P S D (Q' .normal) QP' env H := by
      intro S
      induction S with
      | nil => exact fun D env H h => hq _ _ _ h
      | cons s S ih =>
        intro D env H h
        rw [awpL] at h ⊢
        split at h
        · exact ih _ _ _ h
        · split at h
          · split at h
            · exact ih _ _ _ h
            · exact h.elim
          · exact awpE_mono (fun v H' hv => ⟨hv.1, ih _ _ _ hv.2⟩) hp h
    exact this S [] env H h
  | .seq a b, Q, Q', QP, QP', env, H, hq, hp, h => awpC_mono a (fun e env H h => by cases e <;> first | exact awpC_mono b hq hp h | exact hq _ _ _ h) hp h
  | .cond c a b, Q, Q', QP, QP', env, H, hq, hp, h => by
    simp only [awpC] at h ⊢
    split at h
    · exact ⟨fun t => awpC_mono a hq hp (h.1 t), fun t => awpC_mono b hq hp (h.2 t)⟩
    · exact h.elim
  | .block i a, Q, Q', QP, QP', env, H, hq, hp, h => awpC_mono a (fun e env H h => by
      cases e <;> simp only [blk] at h ⊢ <;> first | exact hq _ _ _ h | (split at h <;> rename_i hc <;> simp only [hc, if_true, if_false] <;> exact hq _ _ _ h)) hp h
  | .loop a, Q, Q', QP, QP', env, H, hq, hp, h => by
    obtain ⟨R, hk, hR⟩ := h
    exact ⟨R, hk, fun n env H hn => awpC_mono a (fun e env H h => by cases e <;> first | exact h | exact hq _ _ _ h) hp (hR n env H hn)⟩
  | .exit i, Q, Q', QP, QP', env, H, hq, hp, h => hq _ _ _ h
  | .ret, Q, Q', QP, QP', env, H, hq, hp, h => hq _ _ _ h

theorem t_normal {K : Env → Heap → Prop} {Q : Post} : thn K Q .normal = K := rfl
theorem t_exit {K : Env → Heap → Prop} {Q : Post} {i : Nat} : thn K Q (.exit i) = Q (.exit i) := rfl
theorem t_ret {K : Env → Heap → Prop} {Q : Post} : thn K Q .ret = Q .ret := rfl
theorem b_normal {i : Nat} {Q : Post} : blk i Q .normal = Q .normal := rfl
theorem b_ret {i : Nat} {Q : Post} : blk i Q .ret = Q .ret := rfl
theorem b_exit {i j : Nat} {Q : Post} : blk i Q (.exit j) = if j = i then Q .normal else Q (.exit j) := rfl
def bindL (o : Option (List Value)) (k : List Value → Prop) : Prop := match o with
  | some v => k v
  | none => False
theorem bl_some {v : List Value} {k : List Value → Prop} : bindL (some v) k = k v := rfl
@[congr] theorem bindL_congr {o o' : Option (List Value)} {k : List Value → Prop} (h : o = o') : bindL o k = bindL o' k := by rw [h]
theorem r_normal {rs : List RV} {S : Ending → Heap → Prop} {env : Env} {H : Heap} : retQ rs S .normal env H = bindL (getAll env H rs) fun vs => S (.returned (oneOr vs)) H := by
  simp only [retQ, bindL]; cases getAll env H rs <;> rfl
theorem r_ret {rs : List RV} {S : Ending → Heap → Prop} {env : Env} {H : Heap} : retQ rs S .ret env H = bindL (getAll env H rs) fun vs => S (.returned (oneOr vs)) H := by
  simp only [retQ, bindL]; cases getAll env H rs <;> rfl
theorem g_nil : getAll env H [] = some [] := rfl
theorem g_t {i : Tmp} {rs : List RV} : getAll env H (.t i :: rs) = (getAll env H rs).map (env i :: ·) := by simp [getAll, RV.get]
theorem g_cn {i : Tmp} {n : Nat} {rs : List RV} {x : Addr} {l : List Value} (ha : env i = .pointer (some x)) (hv : H.loadN x 0 n = some l) : getAll env H (.c i (some n) :: rs) = (getAll env H rs).map (.agg l.toArray :: ·) := by simp [getAll, RV.get, ha, hv]
theorem g_c {i : Tmp} {rs : List RV} {x : Addr} {v : Value} (ha : env i = .pointer (some x)) (hv : H.cell? x = some v) : getAll env H (.c i none :: rs) = (getAll env H rs).map (v :: ·) := by simp [getAll, RV.get, ha, hv]
theorem o_one {v : Value} : oneOr [v] = v := rfl
theorem o_nil : oneOr [] = .tuple #[] := rfl
theorem o_two {v u : Value} {vs : List Value} : oneOr (v :: u :: vs) = .tuple (v :: u :: vs).toArray := rfl

variable {K : Env → Heap → Prop} {KP : List PanicEntry → Heap → Prop} {D : Done} {rest : List Stp} {i : Nat} {args : List Operand} {dst : Option Tmp} {re : List Nat}
theorem l_nil : awpL P [] D K KP env H = K env H := rfl
theorem l_q {q : QI} : awpL P (⟨i, .q q, args, dst, none, re, false⟩ :: rest) D K KP env H = goQ P (q.ev (args.map env.eval) H) rest dst D K KP env H := by
  simp only [awpL, Stp.on, goQ, Bool.false_eq_true, if_false]
  cases q.ev (args.map env.eval) H <;> rfl
theorem l_qk {q : QI} : awpL P (⟨i, .q q, args, dst, none, re, true⟩ :: rest) D K KP env H = goQ P (q.ev (args.map env.eval) H) rest dst ((i, fun H' => q.ev (args.map env.eval) H' = q.ev (args.map env.eval) H) :: D) K KP env H := by
  simp only [awpL, Stp.on, goQ, if_true]
  cases h : q.ev (args.map env.eval) H <;> rfl
theorem l_e {e : EI} {k : Bool} : awpL P (⟨i, .e e, args, dst, none, re, k⟩ :: rest) D K KP env H = awpE P e (args.map env.eval) (fun v H' => (∀ p ∈ D, p.1 ∈ re → p.2 H') ∧ awpL P rest D K KP (env.put dst v) H') KP H := by
  simp only [awpL, Stp.on]
theorem l_e0 {e : EI} {k : Bool} : awpL P (⟨i, .e e, args, dst, none, re, k⟩ :: rest) [] K KP env H = goE P e (args.map env.eval) rest dst K KP env H := by
  simp only [awpL, Stp.on, goE, List.not_mem_nil, false_implies, implies_true, true_and]
/-- a guarded step: on, or off -/
theorem l_g {ins : Ins} {t : Tmp} {want k : Bool} : awpL P (⟨i, ins, args, dst, some (t, want), re, k⟩ :: rest) D K KP env H = goG P (env t) want i ins args re k rest dst D K KP env H := by
  simp only [awpL, Stp.on, goG]
  cases env t <;> try rfl
  rename_i b
  cases b <;> cases want <;> rfl
theorem e_tmp {t : Tmp} : env.eval (.tmp t) = env t := rfl
theorem e_const {v : Value} : env.eval (.const v) = v := rfl
theorem e_func {f : Nat} : env.eval (.func f) = .func (.func f) #[] #[] := rfl
theorem e_global {g : Nat} : env.eval (.global g) = .pointer (some ⟨g, 0, none⟩) := rfl
theorem p_get {d t : Nat} {v : Value} : (env.put (some d) v) t = if t = d then v else env t := rfl
theorem p_none {v : Value} : env.put none v = env := rfl

/-! ### What looking instructions answer -/
variable {x y v u : Value} {a : Addr} {sz n c : Nat} {k k' : IntKind} {z z' : Int}
theorem ev_mv : QI.mv.ev [x] H = some x := rfl
theorem ev_pick {b : Bool} : QI.pick.ev [.bool b, x, y] H = some (if b then x else y) := rfl
theorem ev_ld : QI.ld.ev [.pointer (some a)] H = H.cell? a := rfl
theorem ev_ldn : (QI.ldn n).ev [.pointer (some a)] H = (H.loadN a 0 n).map fun l => .agg l.toArray := rfl
theorem ev_fad {o : Nat} : (QI.fad o).ev [.pointer (some a)] H = some (.pointer (some (a.add o))) := rfl
theorem ev_iad (h : 0 ≤ z ∧ z < n) : (QI.iad sz).ev [.slice (some a) n c, .int k z] H = some (.pointer (some (a.add (z.toNat * sz)))) := by simp only [QI.ev, h, and_self, if_true]
theorem ev_iada (h : 0 ≤ z ∧ z < n) : (QI.iada n sz).ev [.pointer (some a), .int k z] H = some (.pointer (some (a.add (z.toNat * sz)))) := by simp only [QI.ev, h, and_self, if_true]
theorem ev_fld {o : Nat} {cs : Array Value} : (QI.fld o).ev [.agg cs] H = cs[o]? := rfl
theorem ev_fldn {o : Nat} {cs : Array Value} : (QI.fldn o n).ev [.agg cs] H = some (.agg (cs.extract o (o + n))) := rfl
theorem ev_ext {o : Nat} {cs : Array Value} : (QI.ext o).ev [.tuple cs] H = cs[o]? := rfl
theorem ev_bin {op : BinOp} : (QI.bin op).ev [x, y] H = binV op x y := rfl
theorem ev_eqb {b b' neg : Bool} : (QI.eqb neg).ev [.bool b, .bool b'] H = some (.bool ((b == b') != neg)) := rfl
theorem ev_eqp0 {neg : Bool} {p : Option Addr} : (QI.eqp neg).ev [.pointer none, .pointer p] H = some (.bool (p.isNone != neg)) := rfl
theorem ev_eqp1 {neg : Bool} : (QI.eqp neg).ev [.pointer (some a), .pointer none] H = some (.bool (false != neg)) := rfl
theorem ev_eqs0 {neg : Bool} {p : Option Addr} {n' c' : Nat} : (QI.eqs neg).ev [.slice none n c, .slice p n' c'] H = some (.bool (p.isNone != neg)) := rfl
theorem ev_eqs1 {neg : Bool} {n' c' : Nat} : (QI.eqs neg).ev [.slice (some a) n c, .slice none n' c'] H = some (.bool (false != neg)) := rfl
theorem ev_ein0 {neg : Bool} : (QI.ein neg).ev [.nilIface, .nilIface] H = some (.bool (true != neg)) := rfl
theorem ev_ein1 {neg : Bool} {t : TypeId} {v : Value} : (QI.ein neg).ev [.iface t v, .nilIface] H = some (.bool (false != neg)) := rfl
theorem ev_un {op : UnOp} : (QI.un op).ev [x] H = unV op x := rfl
theorem ev_cvi : (QI.cvi k).ev [.int k' z] H = some (.int k (k.wrap z)) := rfl
theorem ev_idv {s : ByteArray} : QI.idv.ev [.string s] H = some (.string s) := rfl
theorem ev_lens {s : ByteArray} : QI.lens.ev [.string s] H = some (.int .i64 s.size) := rfl
theorem ev_len {p : Option Addr} : QI.len.ev [.slice p n c] H = some (.int .i64 n) := rfl
theorem ev_lenc : (QI.lenc n).ev [x] H = some (.int .i64 n) := rfl
theorem ev_cap {p : Option Addr} : QI.cap.ev [.slice p n c] H = some (.int .i64 c) := rfl
theorem ev_nilc : QI.nilc.ev [.pointer (some a)] H = some (.pointer (some a)) := rfl
theorem ev_mki {t : TypeId} : (QI.mki t).ev [x] H = some (.iface t x) := rfl
theorem ev_tas {t : TypeId} : (QI.tas t).ev [.iface t x] H = some x := by simp [QI.ev]
theorem ev_build {z : Array Value} {ps : List (Nat × Nat)} {xs : List Value} : (QI.build z ps).ev xs H = if ps.length = xs.length then (fillV z (ps.zip xs)).map .agg else none := by simp only [QI.ev]
theorem fill_nil {z : Array Value} : fillV z [] = some z := rfl
theorem fill_s {l : List Value} {o : Nat} {rest : List ((Nat × Nat) × Value)} (hv : scalarV v = true) : fillV l.toArray (((o, 1), v) :: rest) = if o < l.length then fillV (l.set o v).toArray rest else none := by
  have hc : v.cells = #[v] := by cases v <;> first | rfl | simp [scalarV] at hv
  simp only [fillV, hc]
  by_cases h : o < l.length
  · rw [if_neg (by simp; omega), if_pos h]
    congr 1
    apply Array.ext'
    simp
  · rw [if_pos (by simp; omega), if_neg h]
theorem fill_int {l : List Value} {o : Nat} {k : IntKind} {z : Int} {rest : List ((Nat × Nat) × Value)} : fillV l.toArray (((o, 1), .int k z) :: rest) = if o < l.length then fillV (l.set o (.int k z)).toArray rest else none := fill_s rfl
theorem fill_bool {l : List Value} {o : Nat} {z : Bool} {rest : List ((Nat × Nat) × Value)} : fillV l.toArray (((o, 1), .bool z) :: rest) = if o < l.length then fillV (l.set o (.bool z)).toArray rest else none := fill_s rfl
theorem fill_str {l : List Value} {o : Nat} {z : ByteArray} {rest : List ((Nat × Nat) × Value)} : fillV l.toArray (((o, 1), .string z) :: rest) = if o < l.length then fillV (l.set o (.string z)).toArray rest else none := fill_s rfl
theorem fill_ptr {l : List Value} {o : Nat} {z : Option Addr} {rest : List ((Nat × Nat) × Value)} : fillV l.toArray (((o, 1), .pointer z) :: rest) = if o < l.length then fillV (l.set o (.pointer z)).toArray rest else none := fill_s rfl
theorem fill_slice {l : List Value} {o : Nat} {z : Option Addr} {n c : Nat} {rest : List ((Nat × Nat) × Value)} : fillV l.toArray (((o, 1), .slice z n c) :: rest) = if o < l.length then fillV (l.set o (.slice z n c)).toArray rest else none := fill_s rfl
theorem s_int {k : IntKind} {z : Int} : scalarV (.int k z) = true := rfl
theorem s_bool {b : Bool} : scalarV (.bool b) = true := rfl
theorem s_str {s : ByteArray} : scalarV (.string s) = true := rfl
theorem s_ptr {p : Option Addr} : scalarV (.pointer p) = true := rfl
theorem s_slice {p : Option Addr} {n c : Nat} : scalarV (.slice p n c) = true := rfl
theorem ev_min2 : QI.min2.ev [.int k z, .int k' z'] H = some (.int k (if z' < z then z' else z)) := rfl
theorem ev_max2 : QI.max2.ev [.int k z, .int k' z'] H = some (.int k (if z' > z then z' else z)) := rfl
/-- a slice's head up to h -/
theorem add_zero_a0 : a.add 0 = a := by simp [Addr.add]
theorem ev_slc_hi {p : Option Addr} (h : 0 ≤ z ∧ z ≤ c) : (QI.slc sz false true false).ev [.slice p n c, .int k z] H = some (.slice p z.toNat c) := by
  have e : (p.map fun a => a.add 0) = p := map_add_zero p
  simp [QI.ev, boundsV, boundV, h, e]
/-- a slice from l on; its address is left open -/
def cutA (p : Option Addr) (c l sz : Nat) : Option Addr := if c = l then p else p.map (·.add (l * sz))
theorem ev_slc_lo {p : Option Addr} (h : 0 ≤ z ∧ z ≤ n) : (QI.slc sz true false false).ev [.slice p n c, .int k z] H = some (.slice (cutA p c z.toNat sz) (n - z.toNat) (c - z.toNat)) := by
  simp [QI.ev, boundsV, boundV, h, cutA]
theorem ev_slc_lohi {p : Option Addr} (h : 0 ≤ z ∧ z ≤ z' ∧ z' ≤ c) : (QI.slc sz true true false).ev [.slice p n c, .int k z, .int k' z'] H = some (.slice (cutA p c z.toNat sz) (z'.toNat - z.toNat) (c - z.toNat)) := by
  have h1 : 0 ≤ z' := by omega
  have h2 : z ≤ (z'.toNat : Int) := by omega
  have h3 : z ≤ max z' 0 := by omega
  simp [QI.ev, boundsV, boundV, h, cutA, h1, h2, h3]
theorem ev_sla_hi {m : Nat} (h : 0 ≤ z ∧ z ≤ m) : (QI.sla m sz false true).ev [.pointer (some a), .int k z] H = some (.slice (some a) z.toNat m) := by
  simp [QI.ev, boundsV, boundV, h, add_zero_a0]
theorem v_add : binV .add (.int k z) (.int k z') = some (.int k (k.wrap (z + z'))) := by simp [binV, intV]
theorem v_sub : binV .sub (.int k z) (.int k z') = some (.int k (k.wrap (z - z'))) := by simp [binV, intV]
theorem v_mul : binV .mul (.int k z) (.int k z') = some (.int k (k.wrap (z * z'))) := by simp [binV, intV]
theorem v_quo (h : z' ≠ 0) : binV .quo (.int k z) (.int k z') = some (.int k (k.wrap (z.tdiv z'))) := by simp [binV, intV, h]
theorem v_rem (h : z' ≠ 0) : binV .rem (.int k z) (.int k z') = some (.int k (z.tmod z')) := by simp [binV, intV, h]
theorem v_and : binV .and (.int k z) (.int k z') = some (.int k (Go.bits .and k z z')) := by simp only [binV, if_true, intV]; rfl
theorem v_or : binV .or (.int k z) (.int k z') = some (.int k (Go.bits .or k z z')) := by simp only [binV, if_true, intV]; rfl
theorem v_xor : binV .xor (.int k z) (.int k z') = some (.int k (Go.bits .xor k z z')) := by simp only [binV, if_true, intV]; rfl
theorem v_eql : binV .eql (.int k z) (.int k z') = some (.bool (z == z')) := by simp [binV, intV]
theorem v_neq : binV .neq (.int k z) (.int k z') = some (.bool (z != z')) := by simp [binV, intV]
theorem v_lss : binV .lss (.int k z) (.int k z') = some (.bool (decide (z < z'))) := by simp [binV, intV]
theorem v_leq : binV .leq (.int k z) (.int k z') = some (.bool (decide (z ≤ z'))) := by simp [binV, intV]
theorem v_gtr : binV .gtr (.int k z) (.int k z') = some (.bool (decide (z' < z))) := by simp [binV, intV]
theorem v_geq : binV .geq (.int k z) (.int k z') = some (.bool (decide (z' ≤ z))) := by simp [binV, intV]
theorem v_shl (h : 0 ≤ z') : binV .shl (.int k z) (.int k' z') = some (.int k (k.wrap (z * 2 ^ min z'.toNat k.bits))) := by
  have : ¬ z' < 0 := by omega
  simp [binV, shiftV, this]
theorem v_shr (h : 0 ≤ z') : binV .shr (.int k z) (.int k' z') = some (.int k (z.fdiv (2 ^ min z'.toNat k.bits))) := by
  have : ¬ z' < 0 := by omega
  simp [binV, shiftV, this]
theorem v_seql {s t : ByteArray} : binV .eql (.string s) (.string t) = some (.bool (s.toList == t.toList)) := rfl
theorem v_sneq {s t : ByteArray} : binV .neq (.string s) (.string t) = some (.bool !(s.toList == t.toList)) := rfl
theorem v_slss {s t : ByteArray} : binV .lss (.string s) (.string t) = some (.bool (Op.bytesLess s.toList t.toList)) := rfl
theorem v_sgtr {s t : ByteArray} : binV .gtr (.string s) (.string t) = some (.bool !(Op.bytesLess s.toList t.toList || s.toList == t.toList)) := rfl
theorem u_not {b : Bool} : unV .not (.bool b) = some (.bool !b) := rfl
theorem u_neg : unV .neg (.int k z) = some (.int k (k.wrap (0 - z))) := rfl

/-! ### Numbers -/
theorem w_i64 (h : -9223372036854775808 ≤ z ∧ z ≤ 9223372036854775807) : IntKind.i64.wrap z = z := by
  unfold IntKind.wrap IntKind.bits IntKind.signed
  have e1 : (2 ^ 64 : Int) = 18446744073709551616 := by decide
  have e2 : (2 ^ (64 - 1) : Int) = 9223372036854775808 := by decide
  simp only [Bool.true_and, decide_eq_true_eq, e1, e2]
  split <;> omega
theorem w_u8 (h : 0 ≤ z ∧ z < 256) : IntKind.u8.wrap z = z := by
  unfold IntKind.wrap IntKind.bits IntKind.signed
  simp only [Bool.false_and, Bool.false_eq_true, if_false]
  have : (2 ^ 8 : Int) = 256 := by decide
  omega
theorem w_u8m : IntKind.u8.wrap z = z % 256 := by
  unfold IntKind.wrap IntKind.bits IntKind.signed
  simp only [Bool.false_and, Bool.false_eq_true, if_false]
  have : (2 ^ 8 : Int) = 256 := by decide
  omega
theorem w_u32 (h : 0 ≤ z ∧ z < 4294967296) : IntKind.u32.wrap z = z := by
  unfold IntKind.wrap IntKind.bits IntKind.signed
  simp only [Bool.false_and, Bool.false_eq_true, if_false]
  have : (2 ^ 32 : Int) = 4294967296 := by decide
  omega
theorem w_u64 (h : 0 ≤ z ∧ z < 18446744073709551616) : IntKind.u64.wrap z = z := by
  unfold IntKind.wrap IntKind.bits IntKind.signed
  simp only [Bool.false_and, Bool.false_eq_true, if_false]
  have : (2 ^ 64 : Int) = 18446744073709551616 := by decide
  omega

theorem t_mod (h : 0 ≤ z) : z.tmod z' = z % z' := Int.tmod_eq_emod_of_nonneg h
theorem t_div (h : 0 ≤ z) : z.tdiv z' = z / z' := Int.tdiv_eq_ediv_of_nonneg h
theorem f_div (h : 0 ≤ z') : z.fdiv z' = z / z' := Int.fdiv_eq_ediv_of_nonneg z h
theorem bits_u8 : IntKind.u8.bits = 8 := rfl
theorem bits_u16 : IntKind.u16.bits = 16 := rfl
theorem bits_u32 : IntKind.u32.bits = 32 := rfl
theorem bits_i64 : IntKind.i64.bits = 64 := rfl
theorem bits_u64 : IntKind.u64.bits = 64 := rfl

/-! ### Addresses and cells -/
theorem add_zero_a : a.add 0 = a := by simp [Addr.add]
theorem block_add : (a.add n).block = a.block := by unfold Addr.add; split <;> rfl
theorem add_mk {r o : Nat} : (⟨r, o, none⟩ : Addr).add n = ⟨r, o + n, none⟩ := by unfold Addr.add; split <;> simp_all
theorem add_add {m : Nat} : (a.add n).add m = a.add (n + m) := by
  unfold Addr.add
  by_cases h1 : n = 0 <;> by_cases h2 : m = 0 <;> simp_all [Nat.add_assoc]
theorem set_same {r : Nat} {o : Obj} : (H.set r o) r = some o := by simp [Heap.set]
theorem set_other {r r' : Nat} {o : Obj} (h : r' ≠ r) : (H.set r o) r' = H r' := by simp [Heap.set, h]
theorem cell_of {r o : Nat} {cs : Array Value} {T : TypeId} {f : Nat × Nat} (h : H r = some (.cells cs T f)) : H.cell? ⟨r, o, none⟩ = cs[o]? := by simp [Heap.cell?, h]
theorem frozen_of {r o : Nat} {cs : Array Value} {T : TypeId} (h : H r = some (.cells cs T (0, 0))) : H.frozen? ⟨r, o, none⟩ = false := by simp [Heap.frozen?, h]
/-- what is frozen of a block lies behind all its cells -/
def Far (f : Nat × Nat) (n : Nat) : Prop := f.1 = f.2 ∨ n ≤ f.1
theorem Far.le {f : Nat × Nat} {n m : Nat} (h : Far f n) (hm : m ≤ n) : Far f m := by
  rcases h with h | h
  · exact .inl h
  · exact .inr (by omega)
theorem frozen_far {r o : Nat} {cs : Array Value} {T : TypeId} {f : Nat × Nat} (h : H r = some (.cells cs T f)) (hf : Far f cs.size) (ho : o < cs.size) : H.frozen? ⟨r, o, none⟩ = false := by
  obtain ⟨lo, hi⟩ := f
  simp only [Heap.frozen?, h]
  rcases hf with hf | hf
  · simp only at hf
    subst hf
    simp only [Bool.and_eq_false_iff, decide_eq_false_iff_not]
    omega
  · simp only at hf
    simp only [Bool.and_eq_false_iff, decide_eq_false_iff_not]
    omega
theorem setCell_of {r o : Nat} {cs : Array Value} {T : TypeId} {f : Nat × Nat} (h : H r = some (.cells cs T f)) : H.setCell ⟨r, o, none⟩ v = H.set r (.cells (cs.setIfInBounds o v) T f) := by
  funext k
  simp only [Heap.setCell, Heap.set]
  split
  · rename_i e; subst e; rw [h]; simp
  · rfl
theorem cell_set_same {r o : Nat} {cs : Array Value} {T : TypeId} {f : Nat × Nat} : (H.set r (.cells cs T f)).cell? ⟨r, o, none⟩ = cs[o]? := cell_of set_same
theorem set_set {r : Nat} {o o' : Obj} : (H.set r o).set r o' = H.set r o' := by funext k; simp only [Heap.set]; split <;> rfl
theorem set_self {r : Nat} {o : Obj} (h : H r = some o) : H.set r o = H := by
  funext k; simp only [Heap.set]; split
  · rename_i e; rw [e, h]
  · rfl

/-- what lies from an address on, one cell an element -/
def Row (H : Heap) (a : Option Addr) (cs : List Value) : Prop := ∀ (i : Nat) v, cs[i]? = some v → ∃ b, a = some b ∧ H.cell? (b.add i) = some v
theorem Row.at {H : Heap} {a : Option Addr} {cs : List Value} (h : Row H a cs) {i : Nat} (hi : i < cs.length) : ∃ b, a = some b ∧ H.cell? (b.add i) = some cs[i] := h i _ (List.getElem?_eq_getElem hi)
/-- a byte's cell -/
def b8 (x : UInt8) : Value := .int .u8 x.toNat

/-- one cell is stored -/
theorem st_one {r o : Nat} {cs : Array Value} {T : TypeId} (hb : H r = some (.cells cs T (0, 0))) (ho : o < cs.size) (hv : scalarV v = true) {KV : Value → Heap → Prop}
    (hk : KV undef (H.set r (.cells (cs.setIfInBounds o v) T (0, 0)))) : awpE P (.st 1) [.pointer (some ⟨r, o, none⟩), v] KV KP H := by
  have hc : v.cells = #[v] := by cases v <;> first | rfl | simp [scalarV] at hv
  have e1 : (cs[o]?).isSome = true := by simp [ho]
  simp only [awpE, hc, Heap.storeN, add_mk, Nat.add_zero, hv, cell_of hb, frozen_of hb, setCell_of hb, e1]
  exact ⟨by simp, hk⟩
theorem st_onef {r o : Nat} {cs : Array Value} {T : TypeId} {f : Nat × Nat} (hb : H r = some (.cells cs T f)) (hf : Far f cs.size) (ho : o < cs.size) (hv : scalarV v = true) {KV : Value → Heap → Prop}
    (hk : KV undef (H.set r (.cells (cs.setIfInBounds o v) T f))) : awpE P (.st 1) [.pointer (some ⟨r, o, none⟩), v] KV KP H := by
  have hc : v.cells = #[v] := by cases v <;> first | rfl | simp [scalarV] at hv
  have e1 : (cs[o]?).isSome = true := by simp [ho]
  simp only [awpE, hc, Heap.storeN, add_mk, Nat.add_zero, hv, cell_of hb, frozen_far hb hf ho, setCell_of hb, e1]
  exact ⟨by simp, hk⟩
theorem a_call {f : Nat} {xs : List Value} {S : Ending → Heap → Prop} {KV : Value → Heap → Prop} (h : ACalls P f xs.toArray H S) (hk : ∀ e H', S e H' → endK KV KP e H') : awpE P (.call f) xs KV KP H := ⟨S, h, hk⟩
theorem a_new {zero : Array Value} {T : TypeId} {KV : Value → Heap → Prop} (hk : ∀ r, H r = none → KV (.pointer (some ⟨r, 0, none⟩)) (H.set r (.cells zero T (0, 0)))) : awpE P (.new zero T) [] KV KP H := hk
theorem a_box {T : TypeId} {KV : Value → Heap → Prop} (hk : ∀ r, H r = none → KV (.pointer (some ⟨r, 0, none⟩)) (H.set r (.cells x.cells T (0, 0)))) : awpE P (.box T) [x] KV KP H := hk
theorem a_pan {t : TypeId} {KV : Value → Heap → Prop} (hk : KP [{ v := .iface t x, recovered := false }] H) : awpE P .pan [.iface t x] KV KP H := hk
end
/-- all steps in one -/
theorem Sx : (type_of% @c_skip) ∧ (type_of% @c_reg) ∧ (type_of% @c_seq) ∧ (type_of% @c_block) ∧ (type_of% @c_exit) ∧ (type_of% @c_ret) ∧ (type_of% @c_cond) ∧ (type_of% @b_some) ∧ (type_of% @d_true) ∧ (type_of% @d_false) ∧ (type_of% @gd_tt) ∧ (type_of% @gd_ff) ∧ (type_of% @gd_tf) ∧ (type_of% @gd_ft) ∧ (type_of% @t_normal) ∧ (type_of% @t_exit) ∧ (type_of% @t_ret) ∧ (type_of% @b_normal) ∧ (type_of% @b_ret) ∧ (type_of% @b_exit) ∧ (type_of% @l_nil) ∧ (type_of% @l_q) ∧ (type_of% @l_e0) ∧ (type_of% @l_g) ∧ (type_of% @e_tmp) ∧ (type_of% @e_const) ∧ (type_of% @e_func) ∧ (type_of% @p_get) ∧ (type_of% @p_none) ∧ (type_of% @List.map_cons.{0,0}) ∧ (type_of% @List.map_nil.{0,0}) ∧ (type_of% @ev_mv) ∧ (type_of% @ev_pick) ∧ (type_of% @ev_ld) ∧ (type_of% @ev_fad) ∧ (type_of% @ev_fld) ∧ (type_of% @ev_fldn) ∧ (type_of% @ev_ext) ∧ (type_of% @ev_bin) ∧ (type_of% @ev_eqb) ∧ (type_of% @ev_eqp0) ∧ (type_of% @ev_eqp1) ∧ (type_of% @ev_un) ∧ (type_of% @ev_cvi) ∧ (type_of% @ev_idv) ∧ (type_of% @ev_lens) ∧ (type_of% @ev_len) ∧ (type_of% @ev_lenc) ∧ (type_of% @ev_cap) ∧ (type_of% @ev_nilc) ∧ (type_of% @ev_mki) ∧ (type_of% @ev_min2) ∧ (type_of% @ev_max2) ∧ (type_of% @ev_iad) ∧ (type_of% @ev_iada) ∧ (type_of% @v_add) ∧ (type_of% @v_sub) ∧ (type_of% @v_mul) ∧ (type_of% @v_quo) ∧ (type_of% @v_rem) ∧ (type_of% @v_and) ∧ (type_of% @v_or) ∧ (type_of% @v_xor) ∧ (type_of% @v_eql) ∧ (type_of% @v_neq) ∧ (type_of% @v_lss) ∧ (type_of% @v_leq) ∧ (type_of% @v_gtr) ∧ (type_of% @v_geq) ∧ (type_of% @v_shl) ∧ (type_of% @v_shr) ∧ (type_of% @v_seql) ∧ (type_of% @v_sneq) ∧ (type_of% @v_slss) ∧ (type_of% @v_sgtr) ∧ (type_of% @u_not) ∧ (type_of% @u_neg) ∧ (type_of% @r_normal) ∧ (type_of% @r_ret) ∧ (type_of% @g_nil) ∧ (type_of% @g_t) ∧ (type_of% @bl_some) ∧ (type_of% @Option.map_some.{0,0}) ∧ (type_of% @Option.map_none.{0,0}) ∧ (type_of% @o_one) ∧ (type_of% @o_nil) ∧ (type_of% @o_two) ∧ (type_of% @w_i64) ∧ (type_of% @add_zero_a) ∧ (type_of% @Int.toNat_natCast) ∧ (type_of% @Nat.mul_one) ∧ (type_of% @if_true.{1}) ∧ (type_of% @if_false.{1}) ∧ (type_of% @Bool.false_eq_true) ∧ (type_of% @Bool.true_eq_false) ∧ (type_of% @ne_eq.{1}) ∧ (type_of% @not_true_eq_false) ∧ (type_of% @not_false_eq_true) ∧ (type_of% @decide_eq_true_eq) ∧ (type_of% @decide_eq_false_iff_not) ∧ (type_of% @bne_iff_ne.{0}) ∧ (type_of% @bne_eq_false_iff_eq.{0}) ∧ (type_of% @beq_iff_eq.{0}) ∧ (type_of% @beq_eq_false_iff_ne.{0}) ∧ (type_of% @Nat.add_zero) ∧ (type_of% @Nat.zero_add) ∧ (type_of% @add_mk) ∧ (type_of% @cell_set_same) ∧ (type_of% @List.getElem?_toArray.{0}) ∧ (type_of% @List.getElem?_cons_zero.{0}) ∧ (type_of% @List.getElem?_cons_succ.{0}) ∧ (type_of% @List.setIfInBounds_toArray.{0}) ∧ (type_of% @List.set_cons_zero.{0}) ∧ (type_of% @List.set_cons_succ.{0}) ∧ (type_of% @List.length_cons.{0}) ∧ (type_of% @List.length_nil.{0}) ∧ (type_of% @t_mod) ∧ (type_of% @t_div) ∧ (type_of% @bits_u8) ∧ (type_of% @bits_u16) ∧ (type_of% @bits_u32) ∧ (type_of% @bits_i64) ∧ (type_of% @bits_u64) ∧ (type_of% @ev_build) ∧ (type_of% @List.zip_cons_cons.{0,0}) ∧ (type_of% @List.zip_nil_right.{0,0}) ∧ (type_of% @fill_s) ∧ (type_of% @fill_nil) ∧ (type_of% @fill_int) ∧ (type_of% @fill_bool) ∧ (type_of% @fill_str) ∧ (type_of% @fill_ptr) ∧ (type_of% @fill_slice) ∧ (type_of% @s_int) ∧ (type_of% @s_bool) ∧ (type_of% @s_str) ∧ (type_of% @s_ptr) ∧ (type_of% @s_slice) ∧ (type_of% @List.getD_cons_zero.{0}) ∧ (type_of% @List.getD_cons_succ.{0}) := ⟨@c_skip, @c_reg, @c_seq, @c_block, @c_exit, @c_ret, @c_cond, @b_some, @d_true, @d_false, @gd_tt, @gd_ff, @gd_tf, @gd_ft, @t_normal, @t_exit, @t_ret, @b_normal, @b_ret, @b_exit, @l_nil, @l_q, @l_e0, @l_g, @e_tmp, @e_const, @e_func, @p_get, @p_none, @List.map_cons.{0,0}, @List.map_nil.{0,0}, @ev_mv, @ev_pick, @ev_ld, @ev_fad, @ev_fld, @ev_fldn, @ev_ext, @ev_bin, @ev_eqb, @ev_eqp0, @ev_eqp1, @ev_un, @ev_cvi, @ev_idv, @ev_lens, @ev_len, @ev_lenc, @ev_cap, @ev_nilc, @ev_mki, @ev_min2, @ev_max2, @ev_iad, @ev_iada, @v_add, @v_sub, @v_mul, @v_quo, @v_rem, @v_and, @v_or, @v_xor, @v_eql, @v_neq, @v_lss, @v_leq, @v_gtr, @v_geq, @v_shl, @v_shr, @v_seql, @v_sneq, @v_slss, @v_sgtr, @u_not, @u_neg, @r_normal, @r_ret, @g_nil, @g_t, @bl_some, @Option.map_some.{0,0}, @Option.map_none.{0,0}, @o_one, @o_nil, @o_two, @w_i64, @add_zero_a, @Int.toNat_natCast, @Nat.mul_one, @if_true.{1}, @if_false.{1}, @Bool.false_eq_true, @Bool.true_eq_false, @ne_eq.{1}, @not_true_eq_false, @not_false_eq_true, @decide_eq_true_eq, @decide_eq_false_iff_not, @bne_iff_ne.{0}, @bne_eq_false_iff_eq.{0}, @beq_iff_eq.{0}, @beq_eq_false_iff_ne.{0}, @Nat.add_zero, @Nat.zero_add, @add_mk, @cell_set_same, @List.getElem?_toArray.{0}, @List.getElem?_cons_zero.{0}, @List.getElem?_cons_succ.{0}, @List.setIfInBounds_toArray.{0}, @List.set_cons_zero.{0}, @List.set_cons_succ.{0}, @List.length_cons.{0}, @List.length_nil.{0}, @t_mod, @t_div, @bits_u8, @bits_u16, @bits_u32, @bits_i64, @bits_u64, @ev_build, @List.zip_cons_cons.{0,0}, @List.zip_nil_right.{0,0}, @fill_s, @fill_nil, @fill_int, @fill_bool, @fill_str, @fill_ptr, @fill_slice, @s_int, @s_bool, @s_str, @s_ptr, @s_slice, @List.getD_cons_zero.{0}, @List.getD_cons_succ.{0}⟩
end Go.Proofs.YtgbhdpeibiglfaaDoor.Sep
