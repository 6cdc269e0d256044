/-
  THE OPERATIONS IN SHORT ARE THE MODEL'S: both sorts, joined.
-/
import Derived.Test.YtgbhdpeibiglfaaDoorSepEq
set_option linter.unusedVariables false
set_option linter.unusedSimpArgs false
namespace Go.Proofs.YtgbhdpeibiglfaaDoor.Sep
open Go Go.RowKit
section
variable {P : Program}

theorem ok_len {ts : Array TypeId} {u : TypeId} {x v : Value} {H : Heap} {t : TypeId} {q : QI} (ht : ts[0]? = some t)
    (hq : (P.underlying t = some .string ∧ q = .lens) ∨ (∃ e, P.underlying t = some (.slice e) ∧ q = .len) ∨ (∃ n e, P.underlying t = some (.array n e) ∧ q = .lenc n))
    (hv : q.ev [x] H = some v) (K : Res Value → Heap → Prop) (hK : K (.ok v) H) : awpS P (Builtin.len_ ts u #[x]) K H := by
  unfold Builtin.len_
  simp only [ht]
  show awpS P (underlying t >>= _) K H
  rcases hq with ⟨hu, rfl⟩ | ⟨e, hu, rfl⟩ | ⟨n, e, hu, rfl⟩
  · rw [awpS_bind, awpS_underlying hu, nxt_ok]
    cases x <;> simp only [QI.ev, reduceCtorEq] at hv
    obtain rfl := Option.some.inj hv
    exact hK
  · rw [awpS_bind, awpS_underlying hu, nxt_ok]
    cases x <;> simp only [QI.ev, reduceCtorEq] at hv
    obtain rfl := Option.some.inj hv
    exact hK
  · rw [awpS_bind, awpS_underlying hu, nxt_ok]
    simp only [QI.ev, Option.some.injEq] at hv
    subst hv
    exact hK

theorem awpS_builtin {ρ : Operand → Value} {b : Builtin} {args : Array Operand} {ts : Array TypeId} {u : TypeId} (K : Res Next → Heap → Prop) (H : Heap) :
    awpS P (do let d ← resolve ρ { callee := .builtin b, args := args, argTypes := ts } u; invoke d.target d.args) K H = awpS P (builtin b ts u (args.map fun | .const _ => true | _ => false) (args.map ρ)) K H := rfl

theorem args_one {args : Array Operand} {x : Operand} (h : args.toList = [x]) : args = #[x] := by rw [← Array.toArray_toList (xs := args), h]
theorem args_two {args : Array Operand} {x y : Operand} (h : args.toList = [x, y]) : args = #[x, y] := by rw [← Array.toArray_toList (xs := args), h]

set_option maxHeartbeats 1000000 in
theorem lowQ_ok {o : Oper} {q : QI} {xs : List Operand} {ρ : Operand → Value} {H : Heap} {v : Value} (hl : lowOp P o = some (.q q, xs)) (hv : q.ev (xs.map ρ) H = some v) (K : Res Next → Heap → Prop) (hK : K (.ok (.value v)) H) : awpS P (execOp ρ o) K H := by
  unfold lowOp at hl
  unfold execOp
  split at hl
  case h_1 x ho => 
    simp only [Option.some.injEq, Prod.mk.injEq, Ins.q.injEq] at hl; obtain ⟨rfl, rfl⟩ := hl
    simp only [ho]; simp only [List.map_cons, List.map_nil, QI.ev, Option.some.injEq] at hv; subst hv; exact hK
  case h_2 x ho => 
    simp only [Option.some.injEq, Prod.mk.injEq, Ins.q.injEq] at hl; obtain ⟨rfl, rfl⟩ := hl
    simp only [ho]; simp only [List.map_cons, List.map_nil, QI.ev, Option.some.injEq] at hv; subst hv; exact hK
  case h_3 c a b ho =>
    simp only [Option.some.injEq, Prod.mk.injEq, Ins.q.injEq] at hl; obtain ⟨rfl, rfl⟩ := hl
    simp only [ho]; simp only [List.map_cons, List.map_nil] at hv
    cases hc : ρ c <;> rw [hc] at hv <;> simp only [QI.ev, reduceCtorEq, Option.some.injEq] at hv
    subst hv
    exact hK
  case h_4 t x ho =>
    simp only [ho]
    rw [awpS_val]
    split at hl
    · rename_i n hb hn
      simp only [Option.some.injEq, Prod.mk.injEq, Ins.q.injEq] at hl; obtain ⟨rfl, rfl⟩ := hl
      exact ok_load hb (fun _ => hn) hv _ (valK hK)
    · rename_i hb
      simp only [Option.some.injEq, Prod.mk.injEq, Ins.q.injEq] at hl; obtain ⟨rfl, rfl⟩ := hl
      exact ok_load (n := 0) hb (fun h => by cases h) hv _ (valK hK)
    · cases hl
  case h_5 t x f ho =>
    simp only [ho]
    rw [awpS_val]
    split at hl
    case h_2 => cases hl
    rename_i fs ht
    split at hl
    case h_2 => cases hl
    rename_i fl hf
    split at hl
    case h_2 => cases hl
    rename_i n hn
    simp only [Option.some.injEq, Prod.mk.injEq, Ins.q.injEq] at hl; obtain ⟨rfl, rfl⟩ := hl
    exact ok_fieldAt ht hf hn hv _ (valK hK)
  case h_6 t x i ho =>
    simp only [ho]
    rw [awpS_val]
    split at hl
    · rename_i e ht
      split at hl
      · rename_i n hn
        simp only [Option.some.injEq, Prod.mk.injEq, Ins.q.injEq] at hl; obtain ⟨rfl, rfl⟩ := hl
        exact ok_indexAt (.inl ⟨e, ht, hn, rfl⟩) hv _ (valK hK)
      · cases hl
    · rename_i len e ht
      split at hl
      · rename_i n hn
        simp only [Option.some.injEq, Prod.mk.injEq, Ins.q.injEq] at hl; obtain ⟨rfl, rfl⟩ := hl
        exact ok_indexAt (.inr ⟨e, len, ht, hn, rfl⟩) hv _ (valK hK)
      · cases hl
    · cases hl
  case h_7 t x i ho =>
    simp only [ho]
    rw [awpS_val]
    split at hl
    · rename_i ht
      simp only [Option.some.injEq, Prod.mk.injEq, Ins.q.injEq] at hl; obtain ⟨rfl, rfl⟩ := hl
      exact ok_index (.inl ⟨ht, rfl⟩) hv _ (valK hK)
    · rename_i len e ht
      split at hl
      · rename_i b n hb hn
        simp only [Option.some.injEq, Prod.mk.injEq, Ins.q.injEq] at hl; obtain ⟨rfl, rfl⟩ := hl
        exact ok_index (.inr ⟨e, len, n, b, ht, hb, hn, rfl⟩) hv _ (valK hK)
      · cases hl
    · cases hl
  case h_8 t x f ho =>
    simp only [ho]
    rw [awpS_val]
    split at hl
    case h_2 => cases hl
    rename_i fs ht
    split at hl
    case h_2 => cases hl
    rename_i fl hf
    split at hl
    · rename_i n hb hn
      simp only [Option.some.injEq, Prod.mk.injEq, Ins.q.injEq] at hl; obtain ⟨rfl, rfl⟩ := hl
      exact ok_field ht hf hb (fun _ => hn) hv _ (valK hK)
    · rename_i hb
      simp only [Option.some.injEq, Prod.mk.injEq, Ins.q.injEq] at hl; obtain ⟨rfl, rfl⟩ := hl
      exact ok_field (n := 0) ht hf hb (fun h => by cases h) hv _ (valK hK)
    · cases hl
  case h_9 x i ho =>
    simp only [Option.some.injEq, Prod.mk.injEq, Ins.q.injEq] at hl; obtain ⟨rfl, rfl⟩ := hl
    simp only [ho]
    rw [awpS_val]
    simp only [List.map_cons, List.map_nil] at hv
    cases hx : ρ x <;> rw [hx] at hv <;> simp only [QI.ev, reduceCtorEq] at hv
    unfold Instr.extract
    simp only [hv]
    exact hK
  case h_10 op t x y u ho =>
    simp only [ho]
    rw [awpS_val]
    split at hl
    · rename_i k ht
      simp only [Option.some.injEq, Prod.mk.injEq, Ins.q.injEq] at hl; obtain ⟨rfl, rfl⟩ := hl
      simp only [List.map_cons, List.map_nil, QI.ev] at hv
      rw [awpS_bind]
      refine ok_eqGuard ?_ ?_ _ ?_
      · rcases binV_kinds hv with ⟨_, _, _, _, h1, h2⟩ | ⟨_, _, h1, h2⟩ <;> rw [h1, h2] <;> simp
      · rcases binV_kinds hv with ⟨_, _, _, _, h1, h2⟩ | ⟨_, _, h1, h2⟩ <;> rw [h1, h2] <;> simp
      · exact ok_binOp hv _ (valK hK)
    · rename_i ht
      simp only [Option.some.injEq, Prod.mk.injEq, Ins.q.injEq] at hl; obtain ⟨rfl, rfl⟩ := hl
      simp only [List.map_cons, List.map_nil, QI.ev] at hv
      rw [awpS_bind]
      refine ok_eqGuard ?_ ?_ _ ?_
      · rcases binV_kinds hv with ⟨_, _, _, _, h1, h2⟩ | ⟨_, _, h1, h2⟩ <;> rw [h1, h2] <;> simp
      · rcases binV_kinds hv with ⟨_, _, _, _, h1, h2⟩ | ⟨_, _, h1, h2⟩ <;> rw [h1, h2] <;> simp
      · exact ok_binOp hv _ (valK hK)
    · rename_i ht
      split at hl <;> simp only [Option.some.injEq, Prod.mk.injEq, Ins.q.injEq, reduceCtorEq] at hl <;> obtain ⟨rfl, rfl⟩ := hl
      · exact ok_eq (neg := false) rfl (.inl ⟨ht, rfl⟩) hv _ (valK hK)
      · exact ok_eq (neg := true) rfl (.inl ⟨ht, rfl⟩) hv _ (valK hK)
    · rename_i e ht
      split at hl <;> simp only [Option.some.injEq, Prod.mk.injEq, Ins.q.injEq, reduceCtorEq] at hl <;> obtain ⟨rfl, rfl⟩ := hl
      · exact ok_eq (neg := false) rfl (.inr (.inl ⟨e, ht, rfl⟩)) hv _ (valK hK)
      · exact ok_eq (neg := true) rfl (.inr (.inl ⟨e, ht, rfl⟩)) hv _ (valK hK)
    · rename_i e ht
      split at hl <;> simp only [Option.some.injEq, Prod.mk.injEq, Ins.q.injEq, reduceCtorEq] at hl <;> obtain ⟨rfl, rfl⟩ := hl
      · exact ok_eq (neg := false) rfl (.inr (.inr ⟨e, ht, rfl⟩)) hv _ (valK hK)
      · exact ok_eq (neg := true) rfl (.inr (.inr ⟨e, ht, rfl⟩)) hv _ (valK hK)
    · rename_i ms ht
      split at hl <;> simp only [Option.some.injEq, Prod.mk.injEq, Ins.q.injEq, reduceCtorEq] at hl <;> obtain ⟨rfl, rfl⟩ := hl
      · exact ok_ein (neg := false) rfl ht hv _ (valK hK)
      · exact ok_ein (neg := true) rfl ht hv _ (valK hK)
    · rename_i fs ht
      split at hl <;> simp only [Option.some.injEq, Prod.mk.injEq, Ins.q.injEq, reduceCtorEq] at hl <;> obtain ⟨rfl, rfl⟩ := hl
      · rename_i ls he
        exact ok_eqa (neg := false) rfl (by unfold aggP; rw [ht]; rfl) he hv _ (valK hK)
      · rename_i ls he
        exact ok_eqa (neg := true) rfl (by unfold aggP; rw [ht]; rfl) he hv _ (valK hK)
    · rename_i n e ht
      split at hl <;> simp only [Option.some.injEq, Prod.mk.injEq, Ins.q.injEq, reduceCtorEq] at hl <;> obtain ⟨rfl, rfl⟩ := hl
      · rename_i ls he
        exact ok_eqa (neg := false) rfl (by unfold aggP; rw [ht]; rfl) he hv _ (valK hK)
      · rename_i ls he
        exact ok_eqa (neg := true) rfl (by unfold aggP; rw [ht]; rfl) he hv _ (valK hK)
    · cases hl
  case h_11 op t x ho =>
    simp only [Option.some.injEq, Prod.mk.injEq, Ins.q.injEq] at hl; obtain ⟨rfl, rfl⟩ := hl
    simp only [ho]
    rw [awpS_val]
    exact ok_un hv _ (valK hK)
  case h_12 s d x ho =>
    simp only [ho]
    rw [awpS_val]
    split at hl
    · rename_i j k hs hd
      simp only [Option.some.injEq, Prod.mk.injEq, Ins.q.injEq] at hl; obtain ⟨rfl, rfl⟩ := hl
      exact ok_conv (.inl ⟨j, k, hs, hd, rfl⟩) hv _ (valK hK)
    · rename_i hs hd
      simp only [Option.some.injEq, Prod.mk.injEq, Ins.q.injEq] at hl; obtain ⟨rfl, rfl⟩ := hl
      exact ok_conv (.inr (.inl ⟨hs, hd, rfl⟩)) hv _ (valK hK)
    · rename_i e hs hd
      split at hl
      · rename_i he
        simp only [Option.some.injEq, Prod.mk.injEq, Ins.q.injEq] at hl; obtain ⟨rfl, rfl⟩ := hl
        exact ok_conv (.inr (.inr ⟨e, hs, hd, he, rfl⟩)) hv _ (valK hK)
      · cases hl
    · split at hl <;> simp at hl
    · split at hl
      · split at hl <;> simp at hl
      · cases hl
    · cases hl
  case h_13 x ho =>
    simp only [Option.some.injEq, Prod.mk.injEq, Ins.q.injEq] at hl; obtain ⟨rfl, rfl⟩ := hl
    simp only [ho]
    simp only [List.map_cons, List.map_nil] at hv
    cases hx : ρ x <;> rw [hx] at hv <;> simp only [QI.ev, reduceCtorEq] at hv
    rename_i a
    cases a with
    | none => simp at hv
    | some a => simp only [Option.some.injEq] at hv; subst hv; exact hK
  case h_14 fn first captured ho =>
    simp only [Option.some.injEq, Prod.mk.injEq, Ins.q.injEq] at hl; obtain ⟨rfl, rfl⟩ := hl
    simp only [ho]
    simp only [QI.ev, Option.some.injEq] at hv
    subst hv
    have e : Value.func fn (List.take first.size (List.map ρ (first.toList ++ captured.toList))).toArray (List.drop first.size (List.map ρ (first.toList ++ captured.toList))).toArray = .func fn (first.map ρ) (captured.map ρ) := by
      congr 1
      · apply Array.ext'; simp [List.take_left' ]
      · apply Array.ext'; simp [List.drop_left' ]
    rw [e] at hK
    exact hK
  case h_15 t x ho =>
    simp only [ho]
    rw [awpS_val]
    split at hl
    · cases hl
    · cases hl
    · rename_i d h1 ht
      simp only [Option.some.injEq, Prod.mk.injEq, Ins.q.injEq] at hl; obtain ⟨rfl, rfl⟩ := hl
      simp only [List.map_cons, List.map_nil, QI.ev, Option.some.injEq] at hv
      subst hv
      unfold Instr.makeInterface
      rw [awpS_bind, awpS_underlying ht, nxt_ok]
      cases d <;> first | (exact (h1 _ rfl).elim) | exact hK
  case h_16 x u t ho =>
    simp only [ho]
    rw [awpS_val]
    split at hl
    · cases hl
    · cases hl
    · rename_i d h1 ht
      simp only [Option.some.injEq, Prod.mk.injEq, Ins.q.injEq] at hl; obtain ⟨rfl, rfl⟩ := hl
      simp only [List.map_cons, List.map_nil] at hv
      cases hx : ρ x <;> rw [hx] at hv <;> simp only [QI.ev, reduceCtorEq] at hv
      rename_i t' v'
      split at hv
      · rename_i e
        subst e
        obtain rfl := Option.some.inj hv
        unfold Instr.typeAssert
        rw [awpS_bind, awpS_underlying ht, nxt_ok]
        cases d <;> first | (exact (h1 _ rfl).elim) | exact hK | (simp only [if_true]; exact hK)
      · cases hv
  case h_17 t x lo hi mx ho =>
    simp only [ho]
    rw [awpS_val]
    split at hl
    · rename_i ht
      split at hl
      · rename_i hm
        simp only [Option.some.injEq, Prod.mk.injEq, Ins.q.injEq] at hl; obtain ⟨rfl, rfl⟩ := hl
        cases mx with
        | some m => simp at hm
        | none => exact ok_slice (.inl ⟨ht, rfl, rfl⟩) hv _ (valK hK)
      · cases hl
    · rename_i e ht
      split at hl
      · rename_i n hn
        split at hl
        · cases hl
        · simp only [Option.some.injEq, Prod.mk.injEq, Ins.q.injEq] at hl; obtain ⟨rfl, rfl⟩ := hl
          exact ok_slice (.inr (.inl ⟨e, n, ht, hn, rfl⟩)) hv _ (valK hK)
      · cases hl
    · rename_i n e ht
      split at hl
      · rename_i s hs
        split at hl
        · rename_i hm
          simp only [Option.some.injEq, Prod.mk.injEq, Ins.q.injEq] at hl; obtain ⟨rfl, rfl⟩ := hl
          cases mx with
          | some m => simp at hm
          | none => exact ok_slice (.inr (.inr ⟨n, e, s, ht, hs, rfl, rfl⟩)) hv _ (valK hK)
        · cases hl
      · cases hl
    · cases hl
  case h_18 t parts ho =>
    simp only [ho]
    rw [awpS_val]
    split at hl
    · rename_i z fs hz ht
      split at hl
      · rename_i ps hps
        simp only [Option.some.injEq, Prod.mk.injEq, Ins.q.injEq] at hl; obtain ⟨rfl, rfl⟩ := hl
        exact ok_build hz (.inl ⟨fs, ht, hps⟩) hv _ (valK hK)
      · cases hl
    · rename_i z n e hz ht
      split at hl
      · rename_i s hs
        simp only [Option.some.injEq, Prod.mk.injEq, Ins.q.injEq] at hl; obtain ⟨rfl, rfl⟩ := hl
        exact ok_build hz (.inr ⟨n, e, s, ht, hs, rfl⟩) hv _ (valK hK)
      · cases hl
    · cases hl
  case h_19 => split at hl <;> simp at hl
  case h_20 => simp at hl
  case h_21 =>
    split at hl
    · split at hl
      · split at hl <;> simp at hl
      · cases hl
    · cases hl
  case h_22 => split at hl <;> simp at hl
  case h_23 =>
    split at hl
    · split at hl <;> simp at hl
    · cases hl
  case h_24 => simp at hl
  case h_25 c ho =>
    simp only [ho]
    obtain ⟨callee, args, argTypes⟩ := c
    simp only [] at hl
    split at hl
    · split at hl <;> simp at hl
    · simp at hl
    · -- len
      split at hl
      · rename_i x t hx ht
        obtain rfl := args_one hx
        rw [awpS_builtin]
        unfold builtin
        simp only []
        rw [awpS_val]
        have e1 : Array.map ρ #[x] = #[ρ x] := by simp
        rw [e1]
        split at hl
        · rename_i htt
          simp only [Option.some.injEq, Prod.mk.injEq, Ins.q.injEq] at hl; obtain ⟨rfl, rfl⟩ := hl
          exact ok_len ht (.inl ⟨htt, rfl⟩) hv _ (valK hK)
        · rename_i e htt
          simp only [Option.some.injEq, Prod.mk.injEq, Ins.q.injEq] at hl; obtain ⟨rfl, rfl⟩ := hl
          exact ok_len ht (.inr (.inl ⟨e, htt, rfl⟩)) hv _ (valK hK)
        · rename_i n e htt
          simp only [Option.some.injEq, Prod.mk.injEq, Ins.q.injEq] at hl; obtain ⟨rfl, rfl⟩ := hl
          exact ok_len ht (.inr (.inr ⟨n, e, htt, rfl⟩)) hv _ (valK hK)
        · cases hl
      · cases hl
    · -- cap
      split at hl
      · rename_i x t hx ht
        obtain rfl := args_one hx
        rw [awpS_builtin]
        unfold builtin
        simp only []
        rw [awpS_val]
        split at hl
        · rename_i e htt
          simp only [Option.some.injEq, Prod.mk.injEq, Ins.q.injEq] at hl; obtain ⟨rfl, rfl⟩ := hl
          simp only [List.map_cons, List.map_nil] at hv
          cases hxx : ρ x <;> rw [hxx] at hv <;> simp only [QI.ev, reduceCtorEq] at hv
          obtain rfl := Option.some.inj hv
          have e1 : Array.map ρ #[x] = #[ρ x] := by simp
          rw [e1, hxx]
          unfold Builtin.cap_
          simp only [ht]
          show awpS P (underlying t >>= _) _ H
          rw [awpS_bind, awpS_underlying htt, nxt_ok]
          exact valK hK
        · cases hl
      · cases hl
    · -- min
      split at hl
      · rename_i x y hx
        obtain rfl := args_two hx
        rw [awpS_builtin]
        unfold builtin
        simp only []
        rw [awpS_val]
        simp only [Option.some.injEq, Prod.mk.injEq, Ins.q.injEq] at hl; obtain ⟨rfl, rfl⟩ := hl
        simp only [List.map_cons, List.map_nil] at hv
        have e1 : Array.map ρ #[x, y] = #[ρ x, ρ y] := by simp
        rw [e1]
        cases hxx : ρ x <;> rw [hxx] at hv <;> simp only [QI.ev, reduceCtorEq] at hv
        cases hyy : ρ y <;> rw [hyy] at hv <;> simp only [QI.ev, reduceCtorEq] at hv
        obtain rfl := Option.some.inj hv
        exact valK hK
      · cases hl
    · -- max
      split at hl
      · rename_i x y hx
        obtain rfl := args_two hx
        rw [awpS_builtin]
        unfold builtin
        simp only []
        rw [awpS_val]
        simp only [Option.some.injEq, Prod.mk.injEq, Ins.q.injEq] at hl; obtain ⟨rfl, rfl⟩ := hl
        simp only [List.map_cons, List.map_nil] at hv
        have e1 : Array.map ρ #[x, y] = #[ρ x, ρ y] := by simp
        rw [e1]
        cases hxx : ρ x <;> rw [hxx] at hv <;> simp only [QI.ev, reduceCtorEq] at hv
        cases hyy : ρ y <;> rw [hyy] at hv <;> simp only [QI.ev, reduceCtorEq] at hv
        obtain rfl := Option.some.inj hv
        exact valK hK
      · cases hl
    · -- append
      split at hl
      · split at hl
        · split at hl
          · split at hl <;> simp at hl
          · split at hl <;> simp at hl
        · cases hl
      · cases hl
    · split at hl
      · split at hl
        · split at hl <;> simp at hl
        · cases hl
      · cases hl
    · split at hl
      · split at hl
        · split at hl <;> simp at hl
        · cases hl
      · cases hl
    · cases hl
  case h_26 t x ho =>
    simp only [ho]
    split at hl
    · rename_i n e ht
      simp only [Option.some.injEq, Prod.mk.injEq, Ins.q.injEq] at hl; obtain ⟨rfl, rfl⟩ := hl
      simp only [List.map_cons, List.map_nil] at hv
      cases hx : ρ x <;> rw [hx] at hv <;> simp only [QI.ev, reduceCtorEq] at hv
      rename_i a len cp
      split at hv
      case isFalse => cases hv
      rename_i hle
      obtain rfl := Option.some.inj hv
      rw [awpS_val]
      unfold Instr.arrayAt
      rw [awpS_bind, awpS_underlying ht, nxt_ok]
      simp only []
      rw [if_neg (by omega)]
      exact valK hK
    · cases hl
  case h_27 => cases hl
end
end Go.Proofs.YtgbhdpeibiglfaaDoor.Sep
