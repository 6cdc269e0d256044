/-
  THE WRITING OPERATIONS IN SHORT ARE THE MODEL'S.
-/
import Derived.Test.YtgbhdpeibiglfaaDoorSepOk3
set_option linter.unusedVariables false
set_option linter.unusedSimpArgs false
namespace Go.Proofs.YtgbhdpeibiglfaaDoor.Sep
open Go Go.RowKit
section
variable {P : Program}

/-- What follows an operation: its value, or the call that it makes. -/
def nextK (P : Program) (K : Value → Heap → Prop) (KP : List PanicEntry → Heap → Prop) : Res Next → Heap → Prop
  | .ok (.value v), H => K v H
  | .ok .skip, H => K undef H
  | .ok (.enter f args), H => ∃ S, ACalls P f args H S ∧ ∀ e H', S e H' → endK K KP e H'
  | .panic v, H => KP [{ v, recovered := false }] H
  | _, _ => False

theorem awpS_newRow {T : TypeId} {cells : Array Value} {K : Res Addr → Heap → Prop} {H : Heap} (h : ∀ r, Newer H r → K (.ok ⟨r, 0, none⟩) (H.set r (.cells cells T (0, 0)))) : awpS P (newRow T cells) K H := by
  unfold newRow newObj
  rw [awpS_bind]
  intro r hr
  exact h r hr

theorem awpS_askRoom (n : Nat) (K : Res Unit → Heap → Prop) (H : Heap) : awpS P (askRoom n) K H = K (.ok ()) H := by
  unfold askRoom; split <;> rfl

theorem wrap_i64_small {x : Int} (h0 : 0 ≤ x) (h1 : x ≤ 281474976710656) : IntKind.i64.wrap x = x := by
  unfold IntKind.wrap IntKind.bits IntKind.signed
  simp only [Bool.true_and, decide_eq_true_eq]
  have e : x % (2 ^ 64 : Int) = x := by
    have : (2 ^ 64 : Int) = 18446744073709551616 := by decide
    omega
  rw [e, if_neg]
  have : (2 ^ (64 - 1) : Int) = 9223372036854775808 := by decide
  omega

theorem ok_mks {t : TypeId} {e : TypeId} {s b : Nat} {z : Array Value} {x y : Value} {H : Heap} {KP : List PanicEntry → Heap → Prop} {K : Value → Heap → Prop} (ht : P.underlying t = some (.slice e)) (hs : sizeP P e = some s) (hb : bytesP P e = some b) (hz : zeroP P e = some z)
    (h : awpE P (.mks e s b z) [x, y] K KP H) : awpS P (do pure (Next.value (← Instr.makeSlice t x y))) (nextK P K KP) H := by
  rw [awpS_val]
  cases x <;> simp only [awpE] at h
  cases y <;> simp only [] at h
  rename_i k l k' c
  obtain ⟨h0, h1, h2, h3, h4⟩ := h
  obtain ⟨i, hi, rfl⟩ := Option.map_eq_some_iff.1 hb
  unfold Instr.makeSlice
  rw [awpS_bind, awpS_underlying ht, nxt_ok]
  simp only []
  rw [awpS_bind, awpS_asInt, nxt_ok, awpS_bind, awpS_asInt, nxt_ok, awpS_bind, awpS_typeInfo hi, nxt_ok]
  simp only [wrap_i64_small h0 (by omega), wrap_i64_small (x := c) (by omega) h3]
  have e48 : (2 ^ 48 : Int) = 281474976710656 := by decide
  have hc : (decide (c < 0) || decide ((i.bytes : Int) * c > 2 ^ 48) || decide (l < 0) || decide (l > c)) = false := by
    have h5 : ¬ c < 0 := by omega
    have h6 : ¬ ((i.bytes : Int) * c > 2 ^ 48) := by rw [e48]; omega
    have h7 : ¬ l < 0 := by omega
    have h8 : ¬ l > c := by omega
    simp only [h5, h6, h7, h8, decide_false, Bool.or_false]
  simp only [hc, Bool.false_eq_true, if_false]
  rw [awpS_bind, awpS_askRoom, nxt_ok, awpS_bind, awpS_sizeOf hs, nxt_ok]
  obtain ⟨i2, zv, hi2, hzv, rfl⟩ := zeroP_some hz
  unfold rowV at h4
  by_cases hn : c.toNat * s = 0
  · simp only [hn, if_true, awpS_bind, awpS_pure, nxt_ok] at h4 ⊢
    refine awpS_newRow fun r hrn => ?_
    have hr := hrn.none
    exact h4 r hr
  · simp only [hn, if_false, awpS_bind, awpS_zeroValue hi2 hzv, awpS_pure, nxt_ok] at h4 ⊢
    refine awpS_newRow fun r hrn => ?_
    have hr := hrn.none
    exact h4 r hr

theorem ok_lits {t : TypeId} {e : TypeId} {s : Nat} {z : Array Value} {len : Nat} {parts : Array (Nat × Operand)} {ρ : Operand → Value} {H : Heap} {KP : List PanicEntry → Heap → Prop} {K : Value → Heap → Prop}
    (ht : P.underlying t = some (.slice e)) (hs : sizeP P e = some s) (hz : zeroP P e = some z) (hsz : ¬ len * s > 2 ^ 24)
    (h : awpE P (.lits e (rowV (if len * s = 0 then #[] else z) (len * s)) len (parts.toList.map fun (i, _) => (i * s, s))) ((parts.toList.map (·.2)).map ρ) K KP H) :
    awpS P (do pure (Next.value (← Instr.buildSlice t len (parts.map fun (i, x) => (i, ρ x))))) (nextK P K KP) H := by
  rw [awpS_val]
  have hl : (parts.toList.map fun (x : Nat × Operand) => (x.1 * s, s)).length = ((parts.toList.map (·.2)).map ρ).length := by simp
  have h' : match (if (parts.toList.map fun (x : Nat × Operand) => (x.1 * s, s)).length = ((parts.toList.map (·.2)).map ρ).length then fillV (rowV (if len * s = 0 then #[] else z) (len * s)) ((parts.toList.map fun (x : Nat × Operand) => (x.1 * s, s)).zip ((parts.toList.map (·.2)).map ρ)) else none) with
    | some cs => ∀ r, H r = none → K (.slice (some ⟨r, 0, none⟩) len len) (H.set r (.cells cs e (0, 0)))
    | none => False := h
  rw [if_pos hl] at h'
  obtain ⟨i, zv, hi, hzv, rfl⟩ := zeroP_some hz
  unfold Instr.buildSlice
  rw [awpS_bind, awpS_underlying ht, nxt_ok]
  simp only []
  rw [awpS_bind, awpS_sizeOf hs, nxt_ok]
  simp only [hsz, if_false]
  have hf := fill_fillV (fun i => some (i * s, s)) ρ parts.toList (parts.toList.map fun (i, _) => (i * s, s)) (rowV (if len * s = 0 then #[] else zv.cells) (len * s)) (by simp) (fun j i x p hj hp => by
      simp only [List.getElem?_map, hj, Option.map_some, Option.some.injEq] at hp
      rw [hp])
  have e1 : (parts.map fun (i, x) => (i, ρ x)).toList = parts.toList.map fun (i, x) => (i, ρ x) := by simp
  rw [List.map_map] at h'
  rw [show (List.map (ρ ∘ fun x => x.2) parts.toList) = (List.map (fun p : Nat × Operand => ρ p.2) parts.toList) from rfl, ← hf] at h'
  split at h'
  case h_2 => exact h'.elim
  rename_i cs hcs
  have fin : ∀ zc, zc = (if len * s = 0 then #[] else zv.cells) → awpS P (match Instr.fill (fun i => some (i * s, s)) ((Array.range (len * s)).map (zc[· % zc.size]!)) (parts.map fun (i, x) => (i, ρ x)).toList with
      | some cells => do pure (Value.slice (some (← newRow e cells)) len len)
      | x => stuck "buildSlice: a part of the wrong size") (nxt P (fun v => pure (Next.value v)) (nextK P K KP)) H := by
    intro zc hzc
    subst hzc
    rw [e1]
    have := hcs
    unfold rowV at this
    rw [this]
    simp only []
    rw [awpS_bind]
    exact awpS_newRow fun r hr => h' r hr.none
  by_cases hn : len * s = 0
  · have := fin #[] (by rw [if_pos hn])
    simp only [hn, if_true, awpS_bind, awpS_pure, nxt_ok] at this ⊢
    exact this
  · have := fin zv.cells (by rw [if_neg hn])
    simp only [hn, if_false, awpS_bind, awpS_zeroValue hi hzv, awpS_pure, nxt_ok] at this ⊢
    exact this

theorem ok_store {t : TypeId} {n : Nat} {x y : Value} {H : Heap} {KP : List PanicEntry → Heap → Prop} {K : Value → Heap → Prop} (hn : sizeP P t = some n) (h : awpE P (.st n) [x, y] K KP H) : awpS P (do Instr.storeAt t x y; pure Next.skip) (nextK P K KP) H := by
  rw [awpS_bind]
  cases x with
  | pointer a =>
    cases a with
    | none => simp only [awpE] at h
    | some a =>
      simp only [awpE] at h
      obtain ⟨h1, h2⟩ := h
      cases hs : H.storeN a 0 y.cells.toList with
      | none => rw [hs] at h2; exact h2.elim
      | some H' =>
        rw [hs] at h2
        unfold Instr.storeAt storeVar
        rw [awpS_bind, awpS_sureAddr, nxt_ok, awpS_bind, awpS_sizeOf hn, nxt_ok]
        simp only [h1, ne_eq, not_true_eq_false, if_false]
        exact awpS_storeCells _ _ 0 H H' hs h2
  | _ => simp only [awpE] at h

theorem ok_panic {x : Value} {H : Heap} {KP : List PanicEntry → Heap → Prop} {K : Value → Heap → Prop} (h : awpE P .pan [x] K KP H) : awpS P (do pure (Next.value (← Instr.panic x))) (nextK P K KP) H := by
  rw [awpS_val]
  cases x <;> simp only [awpE] at h
  unfold Instr.panic goPanic
  exact h

theorem awpS_lenOf {x : Value} {n : Nat} (h : lenV x = some n) (K : Res Nat → Heap → Prop) (H : Heap) : awpS P (Builtin.lenOf x) K H = K (.ok n) H := by
  cases x <;> simp only [lenV, reduceCtorEq, Option.some.injEq] at h <;> subst h <;> rfl
theorem awpS_firstCells {sz n : Nat} {x : Value} {l : List Value} {H : Heap} (h : cellsV sz n x H = some l) (K : Res (Array Value) → Heap → Prop) : awpS P (Builtin.firstCells sz n x) K H = K (.ok l.toArray) H := by
  cases x <;> simp only [cellsV, reduceCtorEq] at h
  · obtain rfl := Option.some.inj h
    show K (.ok _) H = _
    congr 2
    apply Array.ext'
    simp
  · rename_i a m c
    cases a with
    | none => obtain rfl := Option.some.inj h; rfl
    | some a => exact awpS_loadCells h K

theorem ok_append {ts : Array TypeId} {u t t2 e : TypeId} {n b : Nat} {z : Array Value} {d : TypeDesc} {x y : Value} {H : Heap} {KP : List PanicEntry → Heap → Prop} {K : Value → Heap → Prop}
    (h0 : ts[0]? = some t) (h1 : ts[1]? = some t2) (ht : P.underlying t = some (.slice e)) (ht2 : P.underlying t2 = some d) (hd : ∀ k, d ≠ .int k) (hn : sizeP P e = some n) (hb : bytesP P e = some b) (hb0 : b ≠ 0) (hz : zeroP P e = some z)
    (h : awpE P (.app e n b z) [x, y] K KP H) : awpS P (do pure (Next.value (← Builtin.append_ ts u #[x, y]))) (nextK P K KP) H := by
  rw [awpS_val]
  cases x <;> simp only [awpE] at h
  rename_i base sLen sCap
  cases hm : lenV y with
  | none => rw [hm] at h; exact h.elim
  | some m =>
    rw [hm] at h
    simp only [] at h
    cases hc : cellsV n m y H with
    | none => rw [hc] at h; exact h.elim
    | some new =>
      rw [hc] at h
      simp only [appE] at h
      obtain ⟨hin, hout⟩ := h
      obtain ⟨i, hi, rfl⟩ := Option.map_eq_some_iff.1 hb
      obtain ⟨i2, zv, hi2, hzv, rfl⟩ := zeroP_some hz
      have e0 : (#[Value.slice base sLen sCap, y] : Array Value)[0]? = some (.slice base sLen sCap) := rfl
      have e1 : (#[Value.slice base sLen sCap, y] : Array Value)[1]? = some y := rfl
      unfold Builtin.append_
      simp only [h0, h1, e0, e1]
      show awpS P (underlying t >>= _) _ H
      rw [awpS_bind, awpS_underlying ht, nxt_ok]
      rw [awpS_bind, awpS_sizeOf hn, nxt_ok]
      have c1 : ¬ (((sLen + m : Nat) : Int) > IntKind.i64.max ∧ i.bytes = 0) := by simp [hb0]
      have e48 : (2 ^ 48 : Nat) = 281474976710656 := by decide
      have hd2 := hd
      clear hd
      cases d
      all_goals first | exact absurd rfl (hd2 _) | clear hd2
      all_goals simp only [awpS_bind, nxt_ok, awpS_underlying ht2, awpS_pure, Bool.false_eq_true, if_false, Bool.not_false, if_true, awpS_lenOf hm, false_or]
      all_goals by_cases hle : sLen + m ≤ sCap
      all_goals first
        | (have hin2 := hin hle
           simp only [hle, if_true, awpS_bind, awpS_firstCells hc, nxt_ok]
           cases base with
           | none => exact hin2
           | some a =>
             simp only [] at hin2 ⊢
             cases hs : H.storeN (a.add (sLen * n)) 0 new with
             | none => rw [hs] at hin2; exact hin2.elim
             | some H' =>
               rw [hs] at hin2
               rw [awpS_bind]
               refine awpS_storeCells _ _ 0 H H' (by simpa using hs) ?_
               exact hin2)
        | (obtain ⟨hcap, hout2⟩ := hout (by omega)
           cases ho : cellsV n sLen (.slice base sLen sCap) H with
           | none => rw [ho] at hout2; exact hout2.elim
           | some old =>
             rw [ho] at hout2
             simp only [] at hout2
             have c2 : ¬ (Builtin.nextslicecap (sLen + m) sCap * i.bytes > 2 ^ 48) := by rw [e48]; omega
             simp only [hle, if_false, awpS_bind, awpS_typeInfo hi, nxt_ok, c1]
             simp only [awpS_bind, awpS_typeInfo hi, nxt_ok, c2, if_false]
             unfold choose
             simp only [awpS, Question.forced, Bool.false_eq_true, if_false, nxt_ok]
             intro tp
             have hq : sLen + m ≤ Question.cut (.appendCap (sLen + m) sCap e) tp := by simp only [Question.cut]; omega
             generalize Question.cut (.appendCap (sLen + m) sCap e) tp = c at hq ⊢
             simp only [awpS_bind, awpS_typeInfo hi, awpS_askRoom, nxt_ok, awpS_firstCells ho, awpS_firstCells hc, awpS_zeroValue hi2 hzv]
             refine awpS_newRow fun r hr => ?_
             have h9 := hout2 r c hq hr
             rw [show (old ++ new).toArray = old.toArray ++ new.toArray from by simp] at h9
             exact h9)
theorem ok_appz {ts : Array TypeId} {u t t2 e : TypeId} {n b : Nat} {z : Array Value} {k : IntKind} {x y : Value} {H : Heap} {KP : List PanicEntry → Heap → Prop} {K : Value → Heap → Prop}
    (h0 : ts[0]? = some t) (h1 : ts[1]? = some t2) (ht : P.underlying t = some (.slice e)) (ht2 : P.underlying t2 = some (.int k)) (hn : sizeP P e = some n) (hb : bytesP P e = some b) (hb0 : b ≠ 0) (hz : zeroP P e = some z)
    (h : awpE P (.appz e n b z) [x, y] K KP H) : awpS P (do pure (Next.value (← Builtin.append_ ts u #[x, y]))) (nextK P K KP) H := by
  rw [awpS_val]
  cases x <;> simp only [awpE] at h
  rename_i base sLen sCap
  cases y <;> simp only [] at h
  rename_i kk l
  obtain ⟨hl0, hl1, hl2, h⟩ := h
  simp only [appE] at h
  obtain ⟨hin, hout⟩ := h
  obtain ⟨i, hi, rfl⟩ := Option.map_eq_some_iff.1 hb
  obtain ⟨i2, zv, hi2, hzv, rfl⟩ := zeroP_some hz
  have e0 : (#[Value.slice base sLen sCap, Value.int kk l] : Array Value)[0]? = some (.slice base sLen sCap) := rfl
  have e1 : (#[Value.slice base sLen sCap, Value.int kk l] : Array Value)[1]? = some (.int kk l) := rfl
  unfold Builtin.append_
  simp only [h0, h1, e0, e1]
  show awpS P (underlying t >>= _) _ H
  rw [awpS_bind, awpS_underlying ht, nxt_ok]
  rw [awpS_bind, awpS_sizeOf hn, nxt_ok]
  have hw : IntKind.i64.wrap l = l := by
    unfold IntKind.wrap IntKind.bits IntKind.signed
    have e1 : (2 ^ 64 : Int) = 18446744073709551616 := by decide
    have e2 : (2 ^ (64 - 1) : Int) = 9223372036854775808 := by decide
    simp only [Bool.true_and, decide_eq_true_eq, e1, e2]
    split <;> omega
  have c3 : ¬ l < 0 := by omega
  have e48 : (2 ^ 48 : Nat) = 281474976710656 := by decide
  have c4 : ¬ (l * (i.bytes : Int) > 2 ^ 48) := by
    have : (2 ^ 48 : Int) = 281474976710656 := by decide
    omega
  have hmx : IntKind.i64.max = 9223372036854775807 := by decide
  simp only [awpS_bind, nxt_ok, awpS_underlying ht2, awpS_pure, if_true, awpS_asInt, hw, c3, if_false, awpS_typeInfo hi, c4]
  by_cases hle : sLen + l.toNat ≤ sCap
  · have hin2 := hin hle
    have hap : ∀ (K : Res (Array Value) → Heap → Prop) (H : Heap), awpS P (if (!true) = true then Builtin.firstCells n l.toNat (.int kk l) else if l.toNat * n = 0 then pure #[] else do pure (Builtin.zeroCells (← zeroValue e).cells l.toNat)) K H = K (.ok (zerosV n zv.cells l.toNat).toArray) H := by
      intro K H
      simp only [Bool.not_true, Bool.false_eq_true, if_false]
      unfold zerosV
      split
      · rfl
      · rw [awpS_bind, awpS_zeroValue hi2 hzv]; simp only [nxt_ok, Array.toArray_toList]; rfl
    simp only [hle, if_true, awpS_bind]
    rw [hap]
    simp only [nxt_ok]
    cases base with
    | none => exact hin2
    | some a =>
      simp only [] at hin2 ⊢
      cases hs : H.storeN (a.add (sLen * n)) 0 (zerosV n zv.cells l.toNat) with
      | none => rw [hs] at hin2; exact hin2.elim
      | some H' =>
        rw [hs] at hin2
        rw [awpS_bind]
        refine awpS_storeCells _ _ 0 H H' (by simpa using hs) ?_
        exact hin2
  · obtain ⟨hcap, hout2⟩ := hout (by omega)
    have hap : ∀ (K : Res (Array Value) → Heap → Prop) (H : Heap), awpS P (if (!true) = true then Builtin.firstCells n l.toNat (.int kk l) else if l.toNat * n = 0 then pure #[] else do pure (Builtin.zeroCells (← zeroValue e).cells l.toNat)) K H = K (.ok (zerosV n zv.cells l.toNat).toArray) H := by
      intro K H
      simp only [Bool.not_true, Bool.false_eq_true, if_false]
      unfold zerosV
      split
      · rfl
      · rw [awpS_bind, awpS_zeroValue hi2 hzv]; simp only [nxt_ok, Array.toArray_toList]; rfl
    cases ho : cellsV n sLen (.slice base sLen sCap) H with
    | none => rw [ho] at hout2; exact hout2.elim
    | some old =>
      rw [ho] at hout2
      simp only [] at hout2
      have c2 : ¬ (Builtin.nextslicecap (sLen + l.toNat) sCap * i.bytes > 2 ^ 48) := by rw [e48]; omega
      have c1 : ¬ (((sLen + l.toNat : Nat) : Int) > IntKind.i64.max ∧ (True ∨ i.bytes = 0)) := by
        rintro ⟨h1, -⟩
        rw [hmx] at h1
        omega
      simp only [hle, if_false, awpS_bind, awpS_typeInfo hi, nxt_ok, c1]
      simp only [awpS_bind, awpS_typeInfo hi, nxt_ok, c2, if_false]
      unfold choose
      simp only [awpS, Question.forced, Bool.false_eq_true, if_false, nxt_ok]
      intro tp
      have hq : sLen + l.toNat ≤ Question.cut (.appendCap (sLen + l.toNat) sCap e) tp := by simp only [Question.cut]; omega
      generalize Question.cut (.appendCap (sLen + l.toNat) sCap e) tp = c at hq ⊢
      simp only [awpS_bind, awpS_typeInfo hi, awpS_askRoom, nxt_ok, awpS_firstCells ho]
      rw [hap]
      simp only [nxt_ok, awpS_bind, awpS_zeroValue hi2 hzv]
      refine awpS_newRow fun r hr => ?_
      have h9 := hout2 r c hq hr
      rw [show (old ++ zerosV n zv.cells l.toNat).toArray = old.toArray ++ (zerosV n zv.cells l.toNat).toArray from by simp] at h9
      exact h9
theorem ok_copy {ts : Array TypeId} {u t e : TypeId} {n : Nat} {x y : Value} {H : Heap} {KP : List PanicEntry → Heap → Prop} {K : Value → Heap → Prop}
    (h0 : ts[0]? = some t) (ht : P.underlying t = some (.slice e)) (hn : sizeP P e = some n)
    (h : awpE P (.copy n) [x, y] K KP H) : awpS P (do pure (Next.value (← Builtin.copy_ ts u #[x, y]))) (nextK P K KP) H := by
  rw [awpS_val]
  cases x <;> simp only [awpE] at h
  rename_i base dLen cp
  cases hm : lenV y with
  | none => rw [hm] at h; exact h.elim
  | some m =>
    rw [hm] at h
    simp only [] at h
    cases hc : cellsV n (min m dLen) y H with
    | none => rw [hc] at h; exact h.elim
    | some cs =>
      rw [hc] at h
      simp only [] at h
      have e0 : (#[Value.slice base dLen cp, y] : Array Value)[0]? = some (.slice base dLen cp) := rfl
      have e1 : (#[Value.slice base dLen cp, y] : Array Value)[1]? = some y := rfl
      unfold Builtin.copy_
      simp only [h0, e0, e1]
      show awpS P (underlying t >>= _) _ H
      rw [awpS_bind, awpS_underlying ht, nxt_ok]
      simp only [awpS_bind, nxt_ok, awpS_lenOf hm, awpS_sizeOf hn]
      rw [show Nat.min m dLen = min m dLen from rfl, awpS_firstCells hc, nxt_ok]
      cases base with
      | none => exact h
      | some a =>
        simp only [] at h ⊢
        cases hs : H.storeN a 0 cs with
        | none => rw [hs] at h; exact h.elim
        | some H' =>
          rw [hs] at h
          rw [awpS_bind]
          refine awpS_storeCells _ _ 0 H H' (by simpa using hs) ?_
          exact h

theorem ok_s2b {s d e : TypeId} {x : Value} {H : Heap} {KP : List PanicEntry → Heap → Prop} {K : Value → Heap → Prop} (hs : P.underlying s = some .string) (hd : P.underlying d = some (.slice e)) (he : P.underlying e = some (.int .u8))
    (h : awpE P (.s2b e) [x] K KP H) : awpS P (do pure (Next.value (← convert s d x))) (nextK P K KP) H := by
  rw [awpS_val]
  cases x <;> simp only [awpE] at h
  rename_i b
  unfold convert
  rw [awpS_bind, awpS_underlying hs, nxt_ok, awpS_bind, awpS_underlying hd, nxt_ok]
  simp only []
  rw [awpS_bind, awpS_underlying he, nxt_ok]
  simp only []
  unfold Conv.stringToBytes
  rw [awpS_bind]
  unfold choose
  simp only [awpS, Question.forced, Bool.false_eq_true, if_false, nxt_ok]
  intro tp
  have hq : b.size ≤ Question.cut (.appendCap b.size 0 e) tp := by simp only [Question.cut]; omega
  generalize Question.cut (.appendCap b.size 0 e) tp = c at hq ⊢
  rw [awpS_bind]
  refine awpS_newRow fun r hr => ?_
  rw [nxt_ok, awpS_bind]
  have h9 := h r c hq hr.none
  have hsz : ((b.data.map fun x => Value.int .u8 x.toNat) ++ Array.replicate (c - b.size) (Value.int .u8 0)).size = c := by
    simp only [Array.size_append, Array.size_map, Array.size_replicate]
    have : b.data.size = b.size := rfl
    omega
  generalize ((b.data.map fun x => Value.int .u8 x.toNat) ++ Array.replicate (c - b.size) (Value.int .u8 0)) = cs at h9 hsz ⊢
  unfold markStringish
  rw [awpS_bind]
  have hb : (H.set r (.cells cs e (0, 0))) r = some (.cells cs e (0, 0)) := by simp [Heap.set]
  unfold shape freeze
  simp only [awpS, hb, nxt_ok]
  refine ⟨by simp, ?_⟩
  have e2 : (H.set r (.cells cs e (0, 0))).freeze { block := r, off := cs.size } 1 = H.set r (.cells cs e (c, c + 1)) := by
    funext k
    simp only [Heap.freeze, Nat.one_ne_zero, if_false, Heap.set]
    by_cases hk : k = r
    · subst hk; simp [hsz]
    · simp [hk]
  rw [e2]
  exact h9
theorem ok_mrk {s d e1 e : TypeId} {x : Value} {H : Heap} {KP : List PanicEntry → Heap → Prop} {K : Value → Heap → Prop} (hs : P.underlying s = some (.slice e1)) (hd : P.underlying d = some (.slice e)) (he : P.underlying e = some (.int .u8)) (hsd : (s == d) = true)
    (h : awpE P .mrk [x] K KP H) : awpS P (do pure (Next.value (← convert s d x))) (nextK P K KP) H := by
  rw [awpS_val]
  cases x <;> simp only [awpE] at h
  rename_i a n c
  cases a with
  | none => exact h.elim
  | some a =>
    simp only [] at h
    split at h
    · rename_i cs T hb
      unfold convert
      rw [awpS_bind, awpS_underlying hs, nxt_ok, awpS_bind, awpS_underlying hd, nxt_ok]
      simp only []
      rw [awpS_bind, awpS_underlying he, nxt_ok]
      simp only [hsd]
      unfold markStringish
      rw [awpS_bind, awpS_bind]
      unfold shape freeze
      simp only [awpS, hb, nxt_ok]
      refine ⟨by simp, ?_⟩
      have e2 : H.freeze { block := a.block, off := cs.size } 1 = H.set a.block (.cells cs T (cs.size, cs.size + 1)) := by
        funext k
        simp only [Heap.freeze, Nat.one_ne_zero, if_false, Heap.set]
        by_cases hk : k = a.block
        · subst hk; simp [hb]
        · simp [hk]
      rw [e2]
      exact h
    · exact h.elim
theorem ok_clr {ts : Array TypeId} {u t e : TypeId} {n : Nat} {z : Array Value} {x : Value} {H : Heap} {KP : List PanicEntry → Heap → Prop} {K : Value → Heap → Prop}
    (h0 : ts[0]? = some t) (ht : P.underlying t = some (.slice e)) (hz : zeroP P e = some z)
    (h : awpE P (.clr n z) [x] K KP H) : awpS P (do pure (Next.value (← Builtin.clear_ ts u #[x]))) (nextK P K KP) H := by
  rw [awpS_val]
  cases x <;> simp only [awpE] at h
  rename_i base len cp
  obtain ⟨i2, zv, hi2, hzv, rfl⟩ := zeroP_some hz
  have e0 : (#[Value.slice base len cp] : Array Value)[0]? = some (.slice base len cp) := rfl
  unfold Builtin.clear_
  simp only [h0, e0]
  rw [awpS_bind, awpS_underlying ht, nxt_ok]
  cases base with
  | none => exact h
  | some a =>
    simp only [] at h
    by_cases h1 : len = 0
    · subst h1; rw [if_pos rfl] at h; exact h
    · rw [if_neg h1] at h
      cases len with
      | zero => exact absurd rfl h1
      | succ len =>
        simp only []
        cases hst : H.storeN a 0 (Builtin.zeroCells zv.cells (len + 1)).toList with
        | none => rw [hst] at h; exact h.elim
        | some H' =>
          rw [hst] at h
          rw [awpS_bind, awpS_zeroValue hi2 hzv, nxt_ok, awpS_bind]
          refine awpS_storeCells _ _ 0 H H' (by simpa using hst) ?_
          exact h

theorem callable_call {f : FuncId} (h : callable P f = true) (args : Array Value) (K : Res Next → Heap → Prop) (H : Heap) : awpS P (callFunc f args) K H = K (.ok (.enter f args)) H := by
  unfold callable at h
  cases hf : P.funcs[f]? with
  | none => rw [hf] at h; cases h
  | some fn =>
    rw [hf] at h
    simp only [Option.any_some, Bool.and_eq_true, bne_iff_ne] at h
    unfold callFunc
    rw [awpS_bind, awpS_program, nxt_ok]
    simp only [hf]
    have h1 : (fn.name == "runtime.NumGoroutine") = false := by rw [beq_eq_false_iff_ne]; exact h.2
    have h2 : fn.body.isNone = false := by have := h.1; cases hb : fn.body <;> simp_all
    simp only [h1, h2, Bool.false_eq_true, if_false]
    rfl

set_option maxHeartbeats 1000000 in
theorem lowE_ok {o : Oper} {e : EI} {xs : List Operand} {ρ : Operand → Value} {H : Heap} {KP : List PanicEntry → Heap → Prop} {K : Value → Heap → Prop} (hl : lowOp P o = some (.e e, xs)) (h : awpE P e (xs.map ρ) K KP H) (hf : ∀ g, ρ (.func g) = .func (.func g) #[] #[]) : awpS P (execOp ρ o) (nextK P K KP) H := by
  unfold lowOp at hl
  unfold execOp
  split at hl
  case h_1 => simp at hl
  case h_2 => simp at hl
  case h_3 => simp at hl
  case h_4 => split at hl <;> simp at hl
  case h_5 => 
    split at hl
    case h_2 => cases hl
    split at hl
    case h_2 => cases hl
    split at hl <;> simp at hl
  case h_6 =>
    split at hl
    · split at hl <;> simp at hl
    · split at hl <;> simp at hl
    · cases hl
  case h_7 =>
    split at hl
    · simp at hl
    · split at hl <;> simp at hl
    · cases hl
  case h_8 =>
    split at hl
    case h_2 => cases hl
    split at hl
    case h_2 => cases hl
    split at hl <;> simp at hl
  case h_9 => simp at hl
  case h_10 =>
    split at hl
    · simp at hl
    · simp at hl
    · split at hl <;> simp at hl
    · split at hl <;> simp at hl
    · split at hl <;> simp at hl
    · split at hl <;> simp at hl
    · split at hl <;> simp at hl
    · split at hl <;> simp at hl
    · cases hl
  case h_11 => simp at hl
  case h_12 s d x ho =>
    split at hl
    · simp at hl
    · simp at hl
    · split at hl <;> simp at hl
    · rename_i e' hs hd
      split at hl
      · rename_i he
        simp only [Option.some.injEq, Prod.mk.injEq, Ins.e.injEq] at hl; obtain ⟨rfl, rfl⟩ := hl
        simp only [ho]
        simp only [List.map_cons, List.map_nil] at h
        exact ok_s2b hs hd he h
      · cases hl
    · rename_i e1' e' hs hd
      split at hl
      · rename_i hsd
        split at hl
        · rename_i he
          simp only [Option.some.injEq, Prod.mk.injEq, Ins.e.injEq] at hl; obtain ⟨rfl, rfl⟩ := hl
          simp only [ho]
          simp only [List.map_cons, List.map_nil] at h
          exact ok_mrk hs hd he hsd h
        · cases hl
      · cases hl
    · cases hl
  case h_13 => simp at hl
  case h_14 => simp at hl
  case h_15 => split at hl <;> simp at hl
  case h_16 => split at hl <;> simp at hl
  case h_17 =>
    split at hl
    · split at hl <;> simp at hl
    · split at hl
      · split at hl <;> simp at hl
      · cases hl
    · split at hl
      · split at hl <;> simp at hl
      · cases hl
    · cases hl
  case h_18 =>
    split at hl
    · split at hl <;> simp at hl
    · split at hl <;> simp at hl
    · cases hl
  case h_19 t ho =>
    simp only [ho]
    split at hl
    · rename_i z hz
      simp only [Option.some.injEq, Prod.mk.injEq, Ins.e.injEq] at hl; obtain ⟨rfl, rfl⟩ := hl
      obtain ⟨i, zv, hi, hzv, rfl⟩ := zeroP_some hz
      rw [awpS_val]
      unfold Instr.alloc newVar
      rw [awpS_bind, awpS_zeroValue hi hzv, nxt_ok]
      simp only [awpS_bind]
      exact awpS_newRow fun r hr => h r hr.none
    · cases hl
  case h_20 t x ho =>
    simp only [ho]
    simp only [Option.some.injEq, Prod.mk.injEq, Ins.e.injEq] at hl; obtain ⟨rfl, rfl⟩ := hl
    rw [awpS_val]
    unfold Instr.box newVar
    simp only [awpS_bind]
    exact awpS_newRow fun r hr => h r hr.none
  case h_21 t len parts ho =>
    simp only [ho]
    split at hl
    · rename_i e' ht
      split at hl
      · rename_i s z hs hz
        split at hl
        · cases hl
        · rename_i hsz
          simp only [Option.some.injEq, Prod.mk.injEq, Ins.e.injEq] at hl; obtain ⟨rfl, rfl⟩ := hl
          exact ok_lits ht hs hz hsz h
      · cases hl
    · cases hl
  case h_22 t a v ho =>
    simp only [ho]
    split at hl
    · rename_i n hn
      simp only [Option.some.injEq, Prod.mk.injEq, Ins.e.injEq] at hl; obtain ⟨rfl, rfl⟩ := hl
      exact ok_store hn h
    · cases hl
  case h_23 t l c ho =>
    simp only [ho]
    split at hl
    · rename_i e' ht
      split at hl
      · rename_i s b z hs hb hz
        simp only [Option.some.injEq, Prod.mk.injEq, Ins.e.injEq] at hl; obtain ⟨rfl, rfl⟩ := hl
        exact ok_mks ht hs hb hz h
      · cases hl
    · cases hl
  case h_24 x ho =>
    simp only [ho]
    simp only [Option.some.injEq, Prod.mk.injEq, Ins.e.injEq] at hl; obtain ⟨rfl, rfl⟩ := hl
    exact ok_panic h
  case h_25 c ho =>
    simp only [ho]
    obtain ⟨callee, args, argTypes⟩ := c
    simp only [] at hl
    split at hl
    · rename_i g
      split at hl
      · rename_i hcall
        simp only [Option.some.injEq, Prod.mk.injEq, Ins.e.injEq] at hl; obtain ⟨rfl, rfl⟩ := hl
        unfold resolve
        simp only [awpS_bind, hf]
        unfold Deferred.ofValue
        simp only [awpS_pure, nxt_ok]
        unfold invoke
        simp only [awpS_bind, callable_call hcall]
        simp only [awpE] at h
        have e1 : (#[] ++ Array.map ρ args ++ #[] : Array Value) = (List.map ρ args.toList).toArray := by apply Array.ext'; simp
        rw [e1]
        exact h
      · cases hl
    · rename_i x hx
      simp only [Option.some.injEq, Prod.mk.injEq, Ins.e.injEq] at hl; obtain ⟨rfl, rfl⟩ := hl
      simp only [List.map_cons] at h
      cases hxx : ρ x <;> rw [hxx] at h <;> simp only [awpE] at h
      rename_i fn first captured
      cases fn <;> simp only [] at h
      obtain ⟨hcall, h⟩ := h
      unfold resolve
      simp only [awpS_bind, hxx]
      unfold Deferred.ofValue
      simp only [awpS_pure, nxt_ok]
      unfold invoke
      simp only [awpS_bind, callable_call hcall]
      have e1 : (first ++ Array.map ρ args ++ captured : Array Value) = first ++ (List.map ρ args.toList).toArray ++ captured := by congr 2; apply Array.ext'; simp
      rw [e1]
      exact h
    · split at hl
      · split at hl <;> simp at hl
      · cases hl
    · split at hl
      · split at hl <;> simp at hl
      · cases hl
    · split at hl <;> simp at hl
    · split at hl <;> simp at hl
    · -- append
      split at hl
      · rename_i x y t u hx h0 h1
        split at hl
        · rename_i e' d ht ht2
          split at hl
          · split at hl
            · rename_i n b z hn hb hz
              simp only [Option.some.injEq, Prod.mk.injEq, Ins.e.injEq] at hl; obtain ⟨rfl, rfl⟩ := hl
              obtain rfl := args_two hx
              rw [awpS_builtin]
              have e1 : Array.map ρ #[x, y] = #[ρ x, ρ y] := by simp
              rw [e1]
              exact ok_appz h0 h1 ht ht2 hn hb (by simp) hz h
            · cases hl
          · rename_i hd
            split at hl
            · rename_i n b z hn hb hz
              simp only [Option.some.injEq, Prod.mk.injEq, Ins.e.injEq] at hl; obtain ⟨rfl, rfl⟩ := hl
              obtain rfl := args_two hx
              rw [awpS_builtin]
              have e1 : Array.map ρ #[x, y] = #[ρ x, ρ y] := by simp
              rw [e1]
              exact ok_append h0 h1 ht ht2 (fun k hk => hd k hk) hn hb (by simp) hz h
            · cases hl
        · cases hl
      · cases hl
    · split at hl
      · rename_i x y t hx h0
        split at hl
        · rename_i e' ht
          split at hl
          · rename_i n hn
            simp only [Option.some.injEq, Prod.mk.injEq, Ins.e.injEq] at hl; obtain ⟨rfl, rfl⟩ := hl
            obtain rfl := args_two hx
            rw [awpS_builtin]
            have e1 : Array.map ρ #[x, y] = #[ρ x, ρ y] := by simp
            rw [e1]
            exact ok_copy h0 ht hn h
          · cases hl
        · cases hl
      · cases hl
    · split at hl
      · rename_i x t hx h0
        split at hl
        · rename_i e' ht
          split at hl
          · rename_i n z hn hz
            simp only [Option.some.injEq, Prod.mk.injEq, Ins.e.injEq] at hl; obtain ⟨rfl, rfl⟩ := hl
            obtain rfl := args_one hx
            rw [awpS_builtin]
            have e1 : Array.map ρ #[x] = #[ρ x] := by simp
            rw [e1]
            exact ok_clr h0 ht hz h
          · cases hl
        · cases hl
      · cases hl
    · cases hl
  case h_26 => split at hl <;> simp at hl
  case h_27 => cases hl
end
end Go.Proofs.YtgbhdpeibiglfaaDoor.Sep
