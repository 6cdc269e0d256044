/-
  QuotaMany: whoever comes first.
-/
import Derived.Test.YtmgpfdfbcnlocaaDoorQLaw
set_option linter.unusedVariables false
set_option linter.unusedSimpArgs false
namespace Go.Proofs.YtmgpfdfbcnlocaaDoor.S18
open Go Go.RowKit Go.Proofs.YtmgpfdfbcnlocaaDoor.Sep Go.Proofs.YtmgpfdfbcnlocaaDoor.Low Go.Proofs.YtmgpfdfbcnlocaaDoor.Lib Go.Proofs.YtmgpfdfbcnlocaaDoor.S09

theorem sm_le {f g : Nat → Int} : ∀ {n : Nat}, (∀ j, j < n → f j ≤ g j) → sm f n ≤ sm g n
  | 0, _ => Int.le_refl _
  | n + 1, h => by
    have h1 := sm_le (f := f) (g := g) (n := n) fun j hj => h j (by omega)
    have h2 := h n (by omega)
    show sm f n + f n ≤ sm g n + g n
    omega
/-- one after the other: what was taken ahead of the i-th -/
def run (q : Qt) (xs : Nat → En) : Nat → Int × Int
  | 0 => (0, 0)
  | i + 1 => (takeV q (run q xs i).1 (run q xs i).2 (xs i)).2
def code (q : Qt) (xs : Nat → En) (i : Nat) : Int := (takeV q (run q xs i).1 (run q xs i).2 (xs i)).1
def got (q : Qt) (xs : Nat → En) (i : Nat) : Int := if code q xs i = 0 then needV (xs i) else 0
def gone (q : Qt) (xs : Nat → En) (i : Nat) : Int := if code q xs i = 0 then 1 else 0
theorem run_ok {q : Qt} {xs : Nat → En} (hc : can q) (wq : Wq q) : ∀ i, Okm q (run q xs i).1 (run q xs i).2
  | 0 => ⟨hc, wq, ⟨Int.le_refl _, hc.1⟩, ⟨Int.le_refl _, hc.2.1⟩⟩
  | i + 1 => (run_ok hc wq i).take _
theorem run_sums {q : Qt} {xs : Nat → En} : ∀ i, (run q xs i).1 = sm (got q xs) i ∧ (run q xs i).2 = sm (gone q xs) i
  | 0 => ⟨rfl, rfl⟩
  | i + 1 => by
    obtain ⟨h1, h2⟩ := run_sums (q := q) (xs := xs) i
    have e : run q xs (i + 1) = (takeV q (run q xs i).1 (run q xs i).2 (xs i)).2 := rfl
    by_cases hz : code q xs i = 0
    · have hz' := hz
      unfold code at hz'
      obtain ⟨o1, o2, o3⟩ := take_zero hz'
      rw [e, take_yes o1 o2 o3]
      have g1 : got q xs i = needV (xs i) := by unfold got; rw [if_pos hz]
      have g2 : gone q xs i = 1 := by unfold gone; rw [if_pos hz]
      refine ⟨?_, ?_⟩
      · show (run q xs i).1 + needV (xs i) = sm (got q xs) i + got q xs i
        omega
      · show (run q xs i).2 + 1 = sm (gone q xs) i + gone q xs i
        omega
    · have hz' := hz
      unfold code at hz'
      rw [e, take_no hz']
      have g1 : got q xs i = 0 := by unfold got; rw [if_neg hz]
      have g2 : gone q xs i = 0 := by unfold gone; rw [if_neg hz]
      refine ⟨?_, ?_⟩
      · show (run q xs i).1 = sm (got q xs) i + got q xs i
        omega
      · show (run q xs i).2 = sm (gone q xs) i + gone q xs i
        omega
theorem code_ok {q : Qt} {xs : Nat → En} {i : Nat} (h : code q xs i = 0) : Ok1 q (xs i) := (take_zero h).1
/-- who is refused though alone nothing speaks against it -/
theorem full {q : Qt} {b e : Int} {x : En} (ho : Ok1 q x) (h1 : (takeV q b e x).1 ≠ 180) (h2 : (takeV q b e x).1 ≠ 182) : (takeV q b e x).1 = 0 := by
  obtain ⟨o1, o2, o3⟩ := ho
  unfold takeV at h1 h2 ⊢
  by_cases c1 : q.e ≤ e
  · rw [if_pos c1] at h1; exact absurd rfl h1
  rw [if_neg c1] at h1 h2 ⊢
  rw [if_neg (by simp [o1] : ¬ (splitN x.n).2 ≠ 0), if_neg o2, if_neg (by omega)] at h1 h2 ⊢
  by_cases c5 : q.b - b < needV x
  · rw [if_pos c5] at h2; exact absurd rfl h2
  rw [if_neg c5]
open Classical in
/-- if one order refuses nobody for want of room, just the good ones are taken in each -/
theorem just {q : Qt} {xs ys : Nat → En} {n : Nat} (hc : can q) (wq : Wq q) (hs : ∀ f : En → Int, sm (fun j => f (xs j)) n = sm (fun j => f (ys j)) n) (h : ∀ j, j < n → code q ys j ≠ 180 ∧ code q ys j ≠ 182) :
    (∀ j, j < n → (code q xs j = 0 ↔ Ok1 q (xs j))) ∧ (∀ j, j < n → (code q ys j = 0 ↔ Ok1 q (ys j))) := by
  have hy : ∀ j, j < n → (code q ys j = 0 ↔ Ok1 q (ys j)) := fun j hj => ⟨code_ok, fun ho => full ho (h j hj).1 (h j hj).2⟩
  refine ⟨fun j hj => ⟨code_ok, fun ho => ?_⟩, hy⟩
  obtain ⟨nb, hnb⟩ : ∃ nb : En → Int, nb = fun x => if Ok1 q x then needV x else 0 := ⟨_, rfl⟩
  obtain ⟨ne, hne⟩ : ∃ ne : En → Int, ne = fun x => if Ok1 q x then 1 else 0 := ⟨_, rfl⟩
  have nbp : ∀ x, 0 ≤ nb x := fun x => by
    rw [hnb]; simp only
    split
    · rename_i ho; exact ho.n
    · exact Int.le_refl _
  have nep : ∀ x, 0 ≤ ne x := fun x => by
    rw [hne]; simp only
    split <;> omega
  have eb : sm (got q ys) n = sm (fun j => nb (ys j)) n := sm_congr fun j hj => by
    rw [hnb]; unfold got
    by_cases ho : Ok1 q (ys j)
    · simp only [if_pos ho, if_pos ((hy j hj).2 ho)]
    · simp only [if_neg ho, if_neg (fun hh => ho ((hy j hj).1 hh))]
  have ee : sm (gone q ys) n = sm (fun j => ne (ys j)) n := sm_congr fun j hj => by
    rw [hne]; unfold gone
    by_cases ho : Ok1 q (ys j)
    · simp only [if_pos ho, if_pos ((hy j hj).2 ho)]
    · simp only [if_neg ho, if_neg (fun hh => ho ((hy j hj).1 hh))]
  have lb : sm (got q xs) j ≤ sm (fun j => nb (xs j)) j := sm_le fun k hk => by
    rw [hnb]; unfold got
    by_cases hz : code q xs k = 0
    · simp only [if_pos hz, if_pos (code_ok hz)]; exact Int.le_refl _
    · rw [if_neg hz]; have := nbp (xs k); rw [hnb] at this; exact this
  have le : sm (gone q xs) j ≤ sm (fun j => ne (xs j)) j := sm_le fun k hk => by
    rw [hne]; unfold gone
    by_cases hz : code q xs k = 0
    · simp only [if_pos hz, if_pos (code_ok hz)]; exact Int.le_refl _
    · rw [if_neg hz]; have := nep (xs k); rw [hne] at this; exact this
  have mb := (sm_mono (f := fun j => nb (xs j)) (n := n) (fun k _ => nbp _) (m := j + 1) hj).2
  have me := (sm_mono (f := fun j => ne (xs j)) (n := n) (fun k _ => nep _) (m := j + 1) hj).2
  have rb := (run_ok (q := q) (xs := ys) hc wq n).b.2
  have re := (run_ok (q := q) (xs := ys) hc wq n).e.2
  rw [(run_sums n).1, eb, ← hs nb] at rb
  rw [(run_sums n).2, ee, ← hs ne] at re
  have sb : sm (fun j => nb (xs j)) (j + 1) = sm (fun j => nb (xs j)) j + needV (xs j) := by
    show sm (fun j => nb (xs j)) j + nb (xs j) = _
    rw [hnb]; simp only [if_pos ho]
  have se : sm (fun j => ne (xs j)) (j + 1) = sm (fun j => ne (xs j)) j + 1 := by
    show sm (fun j => ne (xs j)) j + ne (xs j) = _
    rw [hne]; simp only [if_pos ho]
  have r1 := (run_sums (q := q) (xs := xs) j).1
  have r2 := (run_sums (q := q) (xs := xs) j).2
  unfold code
  rw [take_yes ho (by omega) (by omega)]

/-- the place where the i-th stands -/
def rot (n t i : Nat) : Nat := if i + t % n < n then i + t % n else i + t % n - n
def plc (n t i : Nat) : Nat := if t % 2 = 1 then n - 1 - rot n t i else rot n t i
theorem rot_mod {n t i : Nat} (hi : i < n) : (i + t) % n = rot n t i := by
  unfold rot
  have hp : 0 < n := by omega
  have ht := Nat.mod_lt t hp
  rw [Nat.add_mod, Nat.mod_eq_of_lt hi]
  split
  · rename_i h; exact Nat.mod_eq_of_lt h
  · rw [Nat.mod_eq_sub_mod (by omega), Nat.mod_eq_of_lt (by omega)]
theorem rot_lt {n t i : Nat} (hi : i < n) : rot n t i < n := by
  rw [← rot_mod hi]; exact Nat.mod_lt _ (by omega)
theorem plc_lt {n t i : Nat} (hi : i < n) : plc n t i < n := by
  have := rot_lt (t := t) hi
  unfold plc
  split <;> omega
theorem rot_inj {n t i j : Nat} (hi : i < n) (hj : j < n) (h : rot n t i = rot n t j) : i = j := by
  have ht := Nat.mod_lt t (by omega : 0 < n)
  unfold rot at h
  split at h <;> split at h <;> omega
theorem plc_inj {n t i j : Nat} (hi : i < n) (hj : j < n) (h : plc n t i = plc n t j) : i = j := by
  have h1 := rot_lt (t := t) hi
  have h2 := rot_lt (t := t) hj
  unfold plc at h
  split at h
  · exact rot_inj (t := t) hi hj (by omega)
  · exact rot_inj (t := t) hi hj h
theorem rot_sur {n t i : Nat} (hi : i < n) : ∃ j, j < n ∧ rot n t j = i := by
  have ht := Nat.mod_lt t (by omega : 0 < n)
  unfold rot
  by_cases h : t % n ≤ i
  · exact ⟨i - t % n, by omega, by rw [if_pos (by omega)]; omega⟩
  · exact ⟨i + n - t % n, by omega, by rw [if_neg (by omega)]; omega⟩
theorem plc_sur {n t i : Nat} (hi : i < n) : ∃ j, j < n ∧ plc n t j = i := by
  unfold plc
  split
  · obtain ⟨j, hj, h⟩ := rot_sur (t := t) (i := n - 1 - i) (n := n) (by omega)
    exact ⟨j, hj, by omega⟩
  · exact rot_sur hi
theorem sm_plc (f : Nat → Int) (n t : Nat) : sm (fun j => f (plc n t j)) n = sm f n := by
  rcases Nat.eq_zero_or_pos n with rfl | hp
  · rfl
  have hr : ∀ g : Nat → Int, sm (fun j => g (rot n t j)) n = sm g n := fun g => by
    rw [← sm_turn g (Nat.mod_lt t hp)]
    exact sm_congr fun j hj => by
      show g (rot n t j) = g ((j + t % n) % n)
      rw [← rot_mod hj, Nat.add_mod j t, Nat.add_mod j (t % n), Nat.mod_mod]
  unfold plc
  split
  · rw [hr fun j => f (n - 1 - j)]
    exact sm_back f n
  · exact hr f
end Go.Proofs.YtmgpfdfbcnlocaaDoor.S18
