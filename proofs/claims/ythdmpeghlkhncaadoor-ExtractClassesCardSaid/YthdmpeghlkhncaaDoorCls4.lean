/-
  ExtractClasses: the row with the listed variable, and its tied card.
-/
import Derived.Test.YthdmpeghlkhncaaDoorCls3
import Derived.Test.YthdmpeghlkhncaaDoorTie
import Derived.Test.YthdmpeghlkhncaaDoorCards
import Derived.ProofKit
import Derived.LaidMore
import Derived.OpenShut
import Derived.Stop.Joined
import Derived.SevenTiedAt
set_option linter.unusedVariables false
set_option linter.unusedSimpArgs false
namespace Go.Proofs.YthdmpeghlkhncaaDoor.C20
open Go Go.ChangeShapes Go.WideShapes Go.ChangeAt Go.WideMaps Go.WideElems Go.RowKit

theorem own : ownKnob Tryd.prog.godebug = none := by kernel_rfl
theorem gClasses : Tryd.prog.globalNamed "satchel/extract.classes" = some 0 := by kernel_rfl
theorem tClasses : (Tryd.prog.globals[0]?).map (·.type) = some 25 := by kernel_rfl
/-- the listed variable -/
abbrev laid1 : List (String × DataW Unit) := [("satchel/extract.classes", Rows.laid_satchel_extract_classes)]

theorem mem_insert {H : Type} (x z : Lit × DataW H) : ∀ l : List (Lit × DataW H), z ∈ DataW.insert x l ↔ z = x ∨ z ∈ l
  | [] => by simp [DataW.insert]
  | y :: r => by
    unfold DataW.insert
    split
    · simp
    · rw [List.mem_cons, mem_insert x z r, List.mem_cons]
      constructor
      · rintro (h | h | h)
        · exact .inr (.inl h)
        · exact .inl h
        · exact .inr (.inr h)
      · rintro (h | h | h)
        · exact .inr (.inl h)
        · exact .inl h
        · exact .inr (.inr h)
theorem mem_sorted {H : Type} (z : Lit × DataW H) : ∀ l : List (Lit × DataW H), z ∈ l.foldr DataW.insert [] ↔ z ∈ l
  | [] => by simp
  | x :: l => by rw [List.foldr_cons, mem_insert, mem_sorted z l, List.mem_cons]
/-- the closed list, as data -/
def dataOf {H : Type} (p : Int × List Int) : Lit × DataW H := (.int .i64 p.1, .slice (p.2.map fun x => .lit (.int .i64 x)) [])
theorem laid_is {H : Type} : (Rows.laid_satchel_extract_classes : DataW H) = .map (tab.map dataOf) := rfl
theorem map_inj : ∀ {xs ys : List Int}, (xs.map fun x => (DataW.lit (.int .i64 x) : DataW Unit)) = ys.map (fun x => .lit (.int .i64 x)) → xs = ys
  | [], [], _ => rfl
  | [], _ :: _, h => by cases h
  | _ :: _, [], h => by cases h
  | x :: xs, y :: ys, h => by
    simp only [List.map_cons, List.cons.injEq, DataW.lit.injEq, Lit.int.injEq, true_and] at h
    rw [h.1, map_inj h.2]
theorem dataOf_inj {p q : Int × List Int} (h : (dataOf p : Lit × DataW Unit) = dataOf q) : p = q := by
  unfold dataOf at h
  simp only [Prod.mk.injEq, Lit.int.injEq, true_and, DataW.slice.injEq, and_true] at h
  exact Prod.ext h.1 (map_inj h.2)
theorem tab_len : ∀ p ∈ tab, p.2.length ≤ 1000000 ∧ p.2 ≠ [] := by decide

/-- a slice of numbers, read as data -/
theorem read_ints {enc : TypeId × Value → Unit} {w : World} {sp : Nat → Bool} {held : Bool} {fuel : Nat} {cs : List Value} {x : DataW Unit × List MemPlace} {zs : List Int} (h : DataW.trod enc Tryd.prog w 0 sp held fuel 26 cs = some x) (hx : x.1 = .slice (zs.map fun z => .lit (.int .i64 z)) []) :
    ∃ a c, cs = [.slice (some a) zs.length c] ∧ ∀ j, j < zs.length → w.cell? (a.add j) = some (.int .i64 (zs.getD j 0)) := by
  rcases DataW.trod_slice Tryd.underlying26 h with ⟨rfl, rfl⟩ | ⟨a, len, cap, elems, rest, n, _, rfl, rfl, hb, hl, hm, hlen, hel, _, _⟩
  · cases hx
  · simp only [DataW.slice.injEq] at hx
    have hlz : elems.length = zs.length := by
      have := congrArg List.length hx.1
      simpa using this
    have c22 : Tryd.prog.cellsOf 22 = 1 := by kernel_rfl
    refine ⟨a, cap, by rw [← hlz, hlen], fun j hj => ?_⟩
    have h1 := hel j (by omega)
    rw [c22, Nat.mul_one, List.getElem?_eq_getElem (show j < elems.length by omega)] at h1
    obtain ⟨c, hc, hy⟩ := Option.bind_eq_some_iff.1 h1
    obtain ⟨k, e1, e2, _⟩ := DataW.trod_int Tryd.underlying22 hy
    have hk : k = zs.getD j 0 := by
      have h2 := congrArg (fun l => l[j]?) hx.1
      simp only [List.getElem?_map] at h2
      rw [List.getElem?_eq_getElem (show j < elems.length by omega), List.getElem?_eq_getElem (show j < zs.length by omega)] at h2
      simp only [Option.map_some, Option.some.injEq] at h2
      rw [e2] at h2
      simp only [DataW.lit.injEq, Lit.int.injEq, true_and] at h2
      rw [List.getD_eq_getElem?_getD, List.getElem?_eq_getElem (show j < zs.length by omega), h2]
      rfl
    rw [e1] at hc
    have := (Sep.cells_at hc).2 0 (.int .i64 k) rfl
    rw [← hk]
    simpa [Addr.add] using this

/-- WHAT THE CONDITION GIVES THE WALK -/
theorem of_laid {W : World} (h : laidMetH Tryd.prog laid1 W) : ∃ bm es clock rd, Tab W tab bm es clock rd := by
  rw [MakeChecks.laidMetH_plain _ _ _ (by kernel_rfl)] at h
  obtain ⟨ps, ⟨g0, t0, cs0, f0, p0, q0, hg0, ht0, hv0, hd0, _, _⟩, _, _⟩ := h
  obtain rfl := Option.some.inj (gClasses.symm.trans hg0)
  obtain rfl := Option.some.inj (tClasses.symm.trans ht0)
  rcases open_map Tryd.underlying25 hd0 with ⟨_, hx⟩ | ⟨bm, es, clock, m, rfl, hcs, hb, _, F, hx⟩
  · simp [laid_is] at hx
  simp only [Prod.mk.injEq, laid_is, DataW.map.injEq] at hx
  have hcell : W.cell? ⟨0, 0, none⟩ = some (.map (some bm)) := by
    have := World.var?_cell hg0 hv0 0
    rw [Array.eq_one_of_toList hcs] at this
    simpa using this
  generalize hR : elemAt _ Tryd.prog W 0 _ false m 26 = R at F hx
  have hin : ∀ z, z ∈ es.toList.map (rg Tryd.prog 22 R) ↔ z ∈ tab.map dataOf := fun z => by rw [hx.1, mem_sorted]
  have hch : ∀ x, ∃ p, x ∈ es.toList → p ∈ tab ∧ dataOf p = rg Tryd.prog 22 R x := by
    intro x
    by_cases hm : x ∈ es.toList
    · obtain ⟨p, hp, e⟩ := List.mem_map.1 ((hin _).1 (List.mem_map.2 ⟨x, hm, rfl⟩))
      exact ⟨p, fun _ => ⟨hp, e⟩⟩
    · exact ⟨(0, []), fun h => absurd h hm⟩
  refine ⟨bm, es, clock, fun x => Classical.choose (hch x), hcell, hb, F.stamped, fun x hm => ?_, fun x hm => (Classical.choose_spec (hch x) hm).1, fun p hp => ?_⟩
  · obtain ⟨hp, hd⟩ := Classical.choose_spec (hch x) hm
    generalize Classical.choose (hch x) = p at hp hd ⊢
    obtain ⟨y, hy⟩ := F.reads x hm
    have hyd : dataOf p = y := by rw [hd, rg_of hy]
    obtain ⟨v, hv, hv2, _⟩ := Maps.keyOf_int_inv Tryd.underlying22 (rd_key hy)
    obtain ⟨z, hz, hd2⟩ := rd_val hy
    have hvp : v = p.1 := by
      rw [← hyd] at hv2
      simpa [dataOf] using hv2.symm
    have hzd : z.1 = .slice (p.2.map fun x => .lit (.int .i64 x)) [] := by rw [← hd2, ← hyd]; rfl
    rw [← hR] at hz
    unfold elemAt at hz
    split at hz
    case isFalse => cases hz
    rename_i hf
    obtain ⟨a, c, hcs2, hcell2⟩ := read_ints hz hzd
    have hval : x.val = .slice (some a) p.2.length c := by
      cases hxv : x.val with
      | agg cs => rw [hxv] at hf; simp [Value.formed, Tryd.underlying26] at hf
      | tuple cs => rw [hxv] at hf; simp [Value.formed] at hf
      | slice q n c => rw [hxv] at hcs2; simpa [Value.cells] using hcs2
      | _ => rw [hxv] at hcs2; simp [Value.cells] at hcs2
    exact ⟨a, _, c, by rw [hv, hvp], hval, Nat.le_refl _, Nat.le_refl _, (tab_len p hp).1, hcell2⟩
  · obtain ⟨x, hm, e⟩ := List.mem_map.1 ((hin _).2 (List.mem_map.2 ⟨p, hp, rfl⟩))
    exact ⟨x, hm, dataOf_inj ((Classical.choose_spec (hch x) hm).2.trans e)⟩

/-- the door's own heap meets the condition -/
theorem door_met (os : Os) (args : Array Value) : laidMetH Tryd.prog laid1 ((World.doorLaid Tryd.prog 400 os).forCall (fun _ _ => 0) ⟨#[], args, []⟩).memory :=
  laidMetH_of_parts3 (fuel := 8) (laidMet_of_run' 8 (by kernel_rfl) (by kernel_rfl)) (by kernel_rfl) (by kernel_rfl)

set_option maxRecDepth 100000 in
theorem lifted (os : Os) (started : os.Started) (H : Type) (enc : TypeId × Value → H) :
    ReturnsInHanded {} Tryd.checked os 3 .any (fun w args => (Rows.extractClassesSpec.pre enc Tryd.prog Tryd.f3 [] false w args ∧ laidMetH Tryd.prog laid1 w) ∧ sizedMet enc Tryd.prog Tryd.f3 (OpenSpec.ofChange Rows.extractClassesSpec) false w args)
      (Rows.extractClassesSpec.post enc Tryd.prog Tryd.f3 false true false false) := by
  refine returnsInHanded_of_change_and (C := Tryd.checked) (X := fun w _ => laidMetH Tryd.prog laid1 w) (fun _ _ _ hh h => h.of_heap hh) own started (by kernel_rfl) Tryd.func3
    (ChangeSpec.witness_shaped (enc := enc) (C := Tryd.checked) (os := os) (X := fun w _ => laidMetH Tryd.prog laid1 w) false (World.doorLaid Tryd.prog 400 os) #[.int .i64 0] 8 rfl (World.shaped_of_RefB (by kernel_rfl) (by kernel_rfl)) (by kernel_rfl) (by kernel_rfl) (by kernel_rfl) (door_met os _)) ?_
  intro W base args ds gs before hval0 hW _ _ hL _
  have hval : ∀ (j : Nat) t v, Tryd.f3.params[j]? = some t → args[j]? = some v → Value.okWide Tryd.prog W .any base t v := hval0
  have hW' := hW
  obtain ⟨p, q, hA0, hV, rfl, hfz, hnd⟩ := hW
  have hA : DataW.TrodAll enc Tryd.prog W 0 (fun _ => true) true Tryd.f3.params.toList args.toList ds p := hA0
  rw [Tryd.params3] at hA hval
  obtain ⟨v0, d0, rfl, rfl, h0⟩ := trodAll_one hA
  obtain ⟨rfl, rfl⟩ := trodVars_none hV
  obtain ⟨e, rfl, rfl, rfl, we⟩ := open_int Tryd.underlying22 (hval 0 22 v0 rfl rfl) h0
  obtain ⟨bm, es, clock, rd, hT⟩ := of_laid hL
  clear hA0 hval0
  simp only [List.append_nil] at hW'
  refine (law e W hT).mono fun r W' ⟨he, hb⟩ => ?_
  subst he
  have bel : Below W.heap.size W { W' with tape := W.tape } := ⟨hb.os, rfl, hb.output, hb.size, hb.block⟩
  exact ⟨_, rfl, ChangeSpec.post_alike (W'' := { W' with tape := W.tape }) ⟨_, _, _, [], _, [], hW', trodAll_mk1 (shut_bool Tryd.underlying4 _), trodAll_mk1 (shut_int Tryd.underlying22 we), rfl, bel.frame _, fun h => by cases h⟩ ⟨rfl, rfl, rfl⟩⟩

theorem row_holds : Rows.ExtractClassesSaid :=
  OpenClaim.holds_of_wide 3 Tryd.f3 rfl rfl rfl rfl rfl rfl rfl ⟨rfl, rfl, rfl, rfl, rfl⟩ rfl rfl rfl rfl rfl (by kernel_rfl) Tryd.func3 (by kernel_rfl)
    (of_decide_eq_true (by kernel_rfl)) (by unfold Func.isWrapper; first | (rw [if_pos (by decide +kernel)]; kernel_rfl) | (rw [if_neg (by decide +kernel)]; exact ⟨rfl, rfl⟩))
    (fun os started H enc _ => lifted os started H enc)
theorem card_holds : Rows.ExtractClassesCardSaid :=
  Claim7.holds_tied_plain_at .later [] [.mappedDeep] true (true, "691a1ccbc3b5ba92dcd3b496f0640abcf214a2e595082650ef4a9f01cd110973") false
    row_holds (fun _ h => by cases h) (by kernel_rfl) (fun _ h => by cases h) extractClasses_row_tie rfl ⟨rfl, rfl⟩ (by kernel_rfl) rfl
    (fun f fn hf hfn => by
      obtain rfl : f = 3 := Option.some.inj ((show Tryd.prog.funcNamed "satchel/satchellaw20.ExtractClasses" = some 3 by kernel_rfl).symm.trans hf) |>.symm
      obtain rfl : fn = Tryd.f3 := (Option.some.inj (Tryd.func3.symm.trans hfn)).symm
      exact ⟨by kernel_rfl, fun j t ht => by
        rw [Tryd.params3] at ht
        have hm : t ∈ [22] := by simpa using Array.mem_of_getElem? ht
        have hall : ([22].all fun u => !Tryd.prog.wantsStandIn u) = true := by kernel_rfl
        exact (show Tryd.prog.wantsStandIn t = false by simpa using List.all_eq_true.1 hall t hm)⟩)
    (by kernel_rfl)
end Go.Proofs.YthdmpeghlkhncaaDoor.C20
namespace Go.Proofs.YthdmpeghlkhncaaDoor
/-- The card, under a short name, for the claim. -/
theorem extractClassesCard_proved : Rows.ExtractClassesCardSaid := C20.card_holds
end Go.Proofs.YthdmpeghlkhncaaDoor
