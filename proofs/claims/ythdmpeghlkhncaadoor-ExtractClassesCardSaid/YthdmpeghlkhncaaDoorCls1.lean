/-
  slices.Index and slices.Contains at the closed list's rows.
-/
import Derived.Test.YthdmpeghlkhncaaDoorRows
import Derived.WalkKit
import Derived.WalkSpells
import Derived.WalkLawsBesides
set_option linter.unusedVariables false
set_option linter.unusedSimpArgs false
namespace Go.Proofs.YthdmpeghlkhncaaDoor.C20
open Go Go.RowKit

/-- where a number stands, or -1 -/
def at_ (zs : List Int) (x : Int) (k : Nat) : Prop := k < zs.length ∧ zs.getD k 0 = x ∧ ∀ j, j < k → zs.getD j 0 ≠ x

set_option maxHeartbeats 2000000 in
theorem index_any (a : Addr) (n c : Nat) (zs : List Int) (x : Int) (w : World) (hz1 : n ≤ zs.length) (hz2 : zs.length ≤ n) (hbig : n ≤ 1000000) (hc : ∀ j, j < zs.length → w.cell? (a.add j) = some (.int .i64 (zs.getD j 0))) :
    Calls Tryd.prog 7 #[.slice (some a) n c, .int .i64 x] w fun e w' => (∃ r : Int, e = .returned (.int .i64 r) ∧ ((0 ≤ r ∧ x ∈ zs) ∨ (r = -1 ∧ x ∉ zs))) ∧ w' = w := by
  go_enter Tryd.func7, Tryd.ntmps7
  go_wp2
  go_loop [5, 8] (fun _ i => ∃ k : Nat, k ≤ n ∧ i = .int .i64 k ∧ ∀ j, j < k → zs.getD j 0 ≠ x) (fun _ i => match i with | .int _ m => n - m.toNat | _ => 0)
  case atStart => exact ⟨0, Nat.zero_le _, rfl, fun j hj => absurd hj (Nat.not_lt_zero _)⟩
  case round =>
    obtain ⟨k, hk, rfl, hne⟩ := hrel
    have hcell : k < n → w.cell? (a.add k) = some (.int .i64 (zs.getD k 0)) := fun _ => hc k (by omega)
    go_wp2
    · have hlt : k < n := by assumption
      have heq : (x == zs[k]?.getD 0) = true := by assumption
      go_ret
      refine ⟨⟨_, rfl, .inl ⟨by omega, ?_⟩⟩, rfl⟩
      have e := beq_iff_eq.1 heq
      rw [List.getElem?_eq_getElem (by omega)] at e
      simp only [Option.getD_some] at e
      rw [e]
      exact List.getElem_mem _
    · have hlt : k < n := by assumption
      have hneq : (x == zs[k]?.getD 0) = false := by assumption
      go_round
      case rel =>
        refine ⟨k + 1, by omega, rfl, fun j hj => ?_⟩
        by_cases e : j = k
        · subst e
          intro he
          rw [List.getD_eq_getElem?_getD] at he
          rw [he] at hneq
          simp at hneq
        · exact hne j (by omega)
      case measure =>
        show n - ((k : Int) + 1).toNat < n - (k : Int).toNat
        omega
    · have hge : ¬ k < n := by assumption
      have hkn : k = n := by omega
      subst hkn
      go_ret
      refine ⟨⟨_, rfl, .inr ⟨rfl, fun hx => ?_⟩⟩, rfl⟩
      obtain ⟨j, hj, e⟩ := List.getElem_of_mem hx
      have := hne j (by omega)
      rw [List.getD_eq_getElem?_getD, List.getElem?_eq_getElem hj] at this
      exact this e

set_option maxHeartbeats 2000000 in
theorem contains_any (a : Addr) (n c : Nat) (zs : List Int) (x : Int) (w : World) (hz1 : n ≤ zs.length) (hz2 : zs.length ≤ n) (hbig : n ≤ 1000000) (hc : ∀ j, j < zs.length → w.cell? (a.add j) = some (.int .i64 (zs.getD j 0))) :
    Calls Tryd.prog 6 #[.slice (some a) n c, .int .i64 x] w fun e w' => (∃ r : Bool, e = .returned (.bool r) ∧ (r = true ↔ x ∈ zs)) ∧ w' = w := by
  have hcon := index_any a n c zs x w hz1 hz2 hbig hc
  clear hc
  go_enter Tryd.func6, Tryd.ntmps6
  go_wp2_with (go_at_call 7; refine hcon.mono ?_; rintro e w' ⟨⟨r, rfl, hr⟩, rfl⟩)
  go_ret
  refine ⟨⟨_, rfl, ?_⟩, rfl⟩
  rw [decide_eq_true_eq]
  rcases hr with ⟨h1, h2⟩ | ⟨h1, h2⟩
  · exact ⟨fun _ => h2, fun _ => h1⟩
  · exact ⟨fun h => by omega, fun h => absurd h h2⟩

/-- what the closed list's map is in memory -/
structure Tab (w : World) (tab : List (Int × List Int)) (bm : Nat) (es : Array MapEntry) (clock : Nat) (rd : MapEntry → Int × List Int) : Prop where
  g : w.cell? ⟨0, 0, none⟩ = some (.map (some bm))
  hb : w.heap[bm]? = some (.map es clock)
  st : MapKept.Stamped es clock
  hv : ∀ x ∈ es.toList, ∃ a n c, x.key = .int .i64 (rd x).1 ∧ x.val = .slice (some a) n c ∧ n ≤ (rd x).2.length ∧ (rd x).2.length ≤ n ∧ n ≤ 1000000 ∧ ∀ j, j < (rd x).2.length → w.cell? (a.add j) = some (.int .i64 ((rd x).2.getD j 0))
  mem : ∀ x ∈ es.toList, rd x ∈ tab
  all : ∀ p ∈ tab, ∃ x ∈ es.toList, rd x = p
def IsClass (tab : List (Int × List Int)) (e r : Int) : Prop := (∃ p ∈ tab, e ∈ p.2 ∧ r = p.1) ∨ ((∀ p ∈ tab, e ∉ p.2) ∧ r = 206)

theorem class_zero (w : World) : Calls Tryd.prog 4 #[.int .i64 0] w fun e w' => e = .returned (.int .i64 0) ∧ w' = w := by
  go_enter Tryd.func4, Tryd.ntmps4
  go_wp2
  go_ret
  exact ⟨rfl, rfl⟩

set_option maxHeartbeats 4000000 in
set_option maxRecDepth 1000000 in
theorem class_any (tab : List (Int × List Int)) (bm : Nat) (es : Array MapEntry) (clock : Nat) (rd : MapEntry → Int × List Int) (want : Int) (w : World) (hw : want ≠ 0) (hT : Tab w tab bm es clock rd) :
    Calls Tryd.prog 4 #[.int .i64 want] w fun e w' => (∃ r, e = .returned (.int .i64 r) ∧ IsClass tab want r) ∧ ∃ (w1 : World) (seen : Array Nat), w1.Alike w ∧ w' = w1.alloc (.mapIter (some bm) clock seen clock) := by
  obtain ⟨g, hb, hst, hv, hmem, hall⟩ := hT
  have hrg := run_range_map (P := Tryd.prog) w 25 22 26 bm es clock Tryd.underlying25 hb
  have hw0 : (want == 0) = false := by rw [beq_eq_false_iff_ne]; exact hw
  go_enter Tryd.func4, Tryd.ntmps4
  go_wp2
  go_loopw [] (fun w' => ∃ (w1 : World) (seen : Array Nat), w1.Alike w ∧ w' = w1.alloc (.mapIter (some bm) clock seen clock) ∧ ∀ x ∈ es.toList, seen.contains x.born = true → want ∉ (rd x).2) (fun w' => (leftOf es (w'.iterSeen w.heap.size)).size)
  case atStart => exact ⟨w, #[], ⟨rfl, rfl, rfl⟩, rfl, fun x _ h => by simp at h⟩
  case round =>
    obtain ⟨w1, seen, hal, rfl, hno⟩ := hrel
    have hsz : w1.heap.size = w.heap.size := by rw [hal.1]
    have hb1 : w1.heap[bm]? = some (.map es clock) := by rw [hal.1]; exact hb
    have law := run_next_map (P := Tryd.prog) w1 0 bm clock clock seen es clock hb1 hst.1 (Nat.le_refl _)
    rw [hsz] at law
    rcases law with ⟨h0, hrun⟩ | ⟨e, he, w2, hal2, hrun⟩
    · have hnx : ∀ ty, (Instr.next (.pointer (some ⟨w.heap.size, 0, none⟩)) false ty).run Tryd.prog (w1.alloc (.mapIter (some bm) clock seen clock)) = _ := fun _ => hrun
      go_wp2
      go_ret
      refine ⟨⟨_, rfl, .inr ⟨fun p hp => ?_, rfl⟩⟩, w1, seen, hal, rfl⟩
      obtain ⟨x, hx, rfl⟩ := hall p hp
      exact hno x hx (all_seen es seen h0 x hx)
    · have hme := (mem_left he).1
      obtain ⟨a, n, c, hkey, hval, hz1, hz2, hn, hcells⟩ := hv e hme
      rw [hkey, hval] at hrun
      have hnx : ∀ ty, (Instr.next (.pointer (some ⟨w.heap.size, 0, none⟩)) false ty).run Tryd.prog (w1.alloc (.mapIter (some bm) clock seen clock)) = _ := fun _ => hrun
      have hsz2 : w2.heap.size = w.heap.size := by rw [hal2.1, hal.1]
      have hb2 : w2.heap[bm]? = some (.map es clock) := by rw [hal2.1]; exact hb1
      have hen := run_entry_map (P := Tryd.prog) w2 bm clock seen es clock e hb2 hme hst.2.1
      rw [hsz2, hkey, hval] at hen
      have hal3 : w2.Alike w := ⟨hal2.1.trans hal.1, hal2.2.1.trans hal.2.1, hal2.2.2.trans hal.2.2⟩
      have hcells2 : ∀ j, j < (rd e).2.length → (w2.alloc (.mapIter (some bm) clock (seen.push e.born) clock)).cell? (a.add j) = some (.int .i64 ((rd e).2.getD j 0)) := by
        intro j hj
        have h1 := hcells j hj
        have h2 : w2.cell? (a.add j) = some (.int .i64 ((rd e).2.getD j 0)) := by
          unfold World.cell? at h1 ⊢
          rw [hal3.1]; exact h1
        rw [World.cell?_alloc_old]
        · exact h2
        · intro e
          unfold World.cell? at h2
          rw [e] at h2
          simp at h2
      have hcon := contains_any a n c (rd e).2 want (w2.alloc (.mapIter (some bm) clock (seen.push e.born) clock)) hz1 hz2 hn hcells2
      clear hcells hcells2 hv
      generalize hzs : (rd e).2 = zs at hcon hz1 hz2
      generalize hcl : (rd e).1 = cls at hen hnx hrun hkey
      go_wp2_with (go_at_call 6; refine hcon.mono ?_; rintro e' w' ⟨⟨r, rfl, hr⟩, rfl⟩)
      · rename_i hrt
        go_ret
        refine ⟨⟨_, rfl, .inl ⟨rd e, hmem e hme, by rw [hzs]; exact hr.1 hrt, hcl.symm⟩⟩, w2, _, hal3, rfl⟩
      · rename_i hrf
        have hnin : want ∉ (rd e).2 := fun h => by rw [hzs] at h; rw [hr.2 h] at hrf; cases hrf
        go_roundw
        case rel =>
          refine ⟨w2, seen.push e.born, hal3, rfl, fun x hx hc => ?_⟩
          rw [contains_push] at hc
          rcases Bool.or_eq_true _ _ ▸ hc with h1 | h1
          · exact hno x hx h1
          · have : x = e := born_inj hst.2.1 hx hme (beq_iff_eq.1 h1)
            subst this
            exact hnin
        case measure =>
          rw [← hsz2, World.iterSeen_alloc, hsz2, ← hsz, World.iterSeen_alloc]
          exact left_shrinks es seen e he

/-- the world has only grown -/
structure Bel (w w' : World) : Prop where
  os : w'.os = w.os
  output : w'.output = w.output
  size : w.heap.size ≤ w'.heap.size
  block : ∀ k, k < w.heap.size → w'.heap[k]? = w.heap[k]?
theorem Bel.refl (w : World) : Bel w w := ⟨rfl, rfl, Nat.le_refl _, fun _ _ => rfl⟩
theorem Bel.trans {a b c : World} (h : Bel a b) (k : Bel b c) : Bel a c := ⟨k.os.trans h.os, k.output.trans h.output, Nat.le_trans h.size k.size, fun i hi => (k.block i (Nat.lt_of_lt_of_le hi h.size)).trans (h.block i hi)⟩
theorem Bel.iter {w w1 : World} {o : Obj} (hal : w1.Alike w) : Bel w (w1.alloc o) := by
  obtain ⟨h1, h2, h3⟩ := hal
  have hb := Below.alloc (Below.refl w1.heap.size w1) (Nat.le_refl _) o
  refine ⟨hb.os.trans h2, hb.output.trans h3, ?_, fun k hk => ?_⟩
  · rw [← h1]; exact hb.size
  · rw [← h1] at hk ⊢; exact hb.block k hk
theorem Bel.of {w w' : World} (h : Below w.heap.size w w') : Bel w w' := ⟨h.os, h.output, h.size, h.block⟩
/-- the closed list stands in a world that has only grown -/
theorem Tab.below {w w' : World} {tab : List (Int × List Int)} {bm : Nat} {es : Array MapEntry} {clock : Nat} {rd : MapEntry → Int × List Int} (h : Tab w tab bm es clock rd) (hb : Bel w w') : Tab w' tab bm es clock rd := by
  have lt : ∀ {k : Nat} {o : Obj}, w.heap[k]? = some o → w'.heap[k]? = some o := by
    intro k o hk
    have hlt : k < w.heap.size := by
      rcases Nat.lt_or_ge k w.heap.size with h1 | h1
      · exact h1
      · rw [Array.getElem?_eq_none h1] at hk; cases hk
    rw [hb.block k hlt]; exact hk
  have cell : ∀ {a : Addr} {v : Value}, w.cell? a = some v → w'.cell? a = some v := by
    intro a v ha
    unfold World.cell? at ha ⊢
    cases e : w.heap[a.block]? with
    | none => rw [e] at ha; simp at ha
    | some o => rw [e] at ha; rw [lt e]; exact ha
  refine ⟨cell h.g, lt h.hb, h.st, fun x hx => ?_, h.mem, h.all⟩
  obtain ⟨a, n, c, h1, h2, h3, h4, h5, h6⟩ := h.hv x hx
  exact ⟨a, n, c, h1, h2, h3, h4, h5, fun j hj => cell (h6 j hj)⟩

/-- the closed list -/
def tab : List (Int × List Int) := [(200, [4, 2, 120, 121, 130, 131, 132, 140, 141, 142, 160, 161, 3, 192]), (201, [90, 91, 92, 93, 94, 95, 190, 107]), (202, [103, 110, 111, 112, 114, 104, 106, 191]), (203, [180, 181, 182]), (204, [193]), (205, [105])]
theorem tab_apart : ∀ p ∈ tab, ∀ q ∈ tab, p.1 ≠ q.1 → ∀ x ∈ p.2, x ∉ q.2 := by decide
theorem tab_206 : ∀ p ∈ tab, p.1 ≠ 206 := by decide
theorem IsClass.one {e r r' : Int} (h : IsClass tab e r) (k : IsClass tab e r') : r = r' := by
  rcases h with ⟨p, hp, h1, rfl⟩ | ⟨h1, rfl⟩
  · rcases k with ⟨q, hq, k1, rfl⟩ | ⟨k1, rfl⟩
    · by_cases e : p.1 = q.1
      · exact e
      · exact absurd k1 (tab_apart p hp q hq e _ h1)
    · exact absurd h1 (k1 p hp)
  · rcases k with ⟨q, hq, k1, rfl⟩ | ⟨k1, rfl⟩
    · exact absurd k1 (h1 q hq)
    · rfl
end Go.Proofs.YthdmpeghlkhncaaDoor.C20
