/-
  What lengths are, plain: whole, within the bound, as cheap as the document's.
-/
import Derived.Test.YtfdcolicpfellaaSAbove
import Derived.Test.YtfdcolicpfellaaSCost4
import Derived.Test.YtfdcolicpfellaaSRef
set_option linter.unusedVariables false
set_option linter.unusedSimpArgs false
namespace Go.Proofs.Ytfdcolicpfellaa.S05
open Go Go.RowKit Go.Proofs.Ytfdcolicpfellaa.Sep Go.Proofs.Ytfdcolicpfellaa.Low Go.Proofs.Ytfdcolicpfellaa.CodeLaw
open Go.Proofs.Ytfdcolicpfellaa.PackLaw (Tr wt cntL leaves merge Up lev pairs psum)
open Go.Proofs.Ytfdcolicpfellaa.Lib (by64 by64_scalar)

def sym : Tr → Nat
  | .leaf s => s
  | .node _ _ => 0
theorem F_nodup (o : Nat → Int) (M : Nat) : (F o M).Nodup := List.Pairwise.filter _ List.nodup_range
theorem syms_of {o : Nat → Int} {M : Nat} {S : List Tr} (hS : Sg o M S) (hp : S.Perm ((F o M).map Tr.leaf)) : (S.map sym).Perm (F o M) := by
  have := hp.map sym
  rw [List.map_map] at this
  have e : (F o M).map (sym ∘ Tr.leaf) = F o M := by
    rw [show (sym ∘ Tr.leaf) = id from rfl, List.map_id]
  rwa [e] at this
theorem sum_filter (p : Nat → Bool) (g : Nat → Nat) : ∀ l : List Nat, (∀ x ∈ l, p x = false → g x = 0) → (l.map g).sum = ((l.filter p).map g).sum
  | [], _ => rfl
  | x :: l, h => by
    have ih := sum_filter p g l fun y hy => h y (List.mem_cons_of_mem _ hy)
    rw [List.map_cons, List.sum_cons, ih]
    cases hp : p x with
    | true => rw [List.filter_cons_of_pos hp, List.map_cons, List.sum_cons]
    | false => rw [List.filter_cons_of_neg (by simp [hp]), h x List.mem_cons_self hp, Nat.zero_add]
theorem sum_mul (c : Nat) (g : Nat → Nat) : ∀ l : List Nat, (l.map fun x => c * g x).sum = c * (l.map g).sum
  | [] => by simp
  | x :: l => by rw [List.map_cons, List.sum_cons, sum_mul c g l, List.map_cons, List.sum_cons, Nat.mul_add]

structure LenFacts (os : List Int) (L : Nat) (f : Nat → Nat) : Prop where
  le : ∀ x, x < os.length → f x ≤ L
  z : ∀ x, x < os.length → (f x = 0 ↔ ¬ 0 < oft os x)

theorem many_law {os : List Int} {L : Nat} {S : List Tr} (h2 : 2 ≤ S.length) (hle : S.length ≤ 2 ^ L) (hL1 : 1 ≤ L) (hL : L ≤ 15) (hS : Sg (oft os) os.length S) (hp : S.Perm ((F (oft os) os.length).map Tr.leaf)) :
    LenFacts os L (cntL ((lev (oft os) S (L - 1)).take (2 * S.length - 2))) ∧ kraft (nums os.length (cntL ((lev (oft os) S (L - 1)).take (2 * S.length - 2)))) = 32768 := by
  have hsy := syms_of hS hp
  have hnd : (S.map sym).Nodup := hsy.nodup_iff.2 (F_nodup _ _)
  have hσ : ∀ i (h : i < S.length), S[i] = .leaf ((S.map sym).getD i 0) := by
    intro i h
    obtain ⟨s, e, -⟩ := hS.lf _ (List.getElem_mem h)
    rw [List.getD_eq_getElem?_getD, List.getElem?_map, List.getElem?_eq_getElem h, e]
    rfl
  have hget : ∀ i (h : i < S.length), (S.map sym).getD i 0 = (S.map sym)[i]'(by simpa using h) := by
    intro i h
    rw [List.getD_eq_getElem?_getD, List.getElem?_eq_getElem (by simpa using h)]
    rfl
  have hinj : ∀ i j, i < S.length → j < S.length → (S.map sym).getD i 0 = (S.map sym).getD j 0 → i = j := by
    intro i j hi hj e
    rw [hget i hi, hget j hj] at e
    have hpw := List.pairwise_iff_getElem.1 hnd
    rcases Nat.lt_trichotomy i j with h | h | h
    · exact absurd e (hpw i j (by simpa using hi) (by simpa using hj) h)
    · exact h
    · exact absurd e.symm (hpw j i (by simpa using hj) (by simpa using hi) h)
  have hpos : ∀ t ∈ S, 0 < wt (oft os) t := by
    intro t ht
    obtain ⟨s, rfl, -, h, -⟩ := hS.lf t ht
    exact h
  obtain ⟨-, hb, hk⟩ := PackLaw.pm_code hσ hinj hS.up hpos h2 hL1 hle
  have hlv : ∀ t ∈ (lev (oft os) S (L - 1)).take (2 * S.length - 2), leaves (· ∈ F (oft os) os.length) t := by
    intro t ht
    refine PackLaw.lev_mem (leaves (· ∈ F (oft os) os.length)) ?_ (fun a b ha hb => ⟨ha, hb⟩) _ t (List.mem_of_mem_take ht)
    intro u hu
    obtain ⟨s, hs, rfl⟩ := List.mem_map.1 (hp.mem_iff.1 hu)
    exact hs
  have hout : ∀ x, x ∉ F (oft os) os.length → cntL ((lev (oft os) S (L - 1)).take (2 * S.length - 2)) x = 0 := by
    intro x hx
    rcases Nat.eq_zero_or_pos (cntL ((lev (oft os) S (L - 1)).take (2 * S.length - 2)) x) with h | h
    · exact h
    · exact absurd (PackLaw.cntL_leaf hlv h) hx
  generalize cntL ((lev (oft os) S (L - 1)).take (2 * S.length - 2)) = f at hb hk hout ⊢
  have hin : ∀ x ∈ F (oft os) os.length, 1 ≤ f x ∧ f x ≤ L := by
    intro x hx
    obtain ⟨i, hi, e⟩ := List.getElem_of_mem (hsy.mem_iff.2 hx)
    have hi' : i < S.length := by simpa using hi
    have := hb i hi'
    rw [hget i hi', e] at this
    exact this
  have hmem : ∀ x, x < os.length → (x ∈ F (oft os) os.length ↔ 0 < oft os x) := by
    intro x hx
    unfold F
    rw [List.mem_filter, List.mem_range, decide_eq_true_eq]
    exact ⟨fun h => h.2, fun h => ⟨hx, h⟩⟩
  refine ⟨⟨fun x hx => ?_, fun x hx => ?_⟩, ?_⟩
  · by_cases h : x ∈ F (oft os) os.length
    · exact (hin x h).2
    · rw [hout x h]; omega
  · rw [← hmem x hx]
    constructor
    · intro h0 h
      have := (hin x h).1
      omega
    · exact hout x
  · have e1 : kraft (nums os.length f) = ((List.range os.length).map fun x => if 0 < f x then 2 ^ (15 - f x) else 0).sum := by
      unfold kraft nums
      rw [List.map_map]
      congr 1
      apply List.map_congr_left
      intro x _
      simp only [Function.comp, Int.toNat_natCast]
      by_cases h : 0 < f x
      · rw [if_pos h, if_pos (by omega)]
      · rw [if_neg h, if_neg (by omega)]
    rw [e1, sum_filter (fun s => decide (0 < oft os s)) _ (List.range os.length) (fun x hx hpx => by
      have hx' := List.mem_range.1 hx
      rw [if_neg]
      rw [hout x (fun h => by
        have := (hmem x hx').1 h
        simp only [decide_eq_false_iff_not] at hpx
        exact hpx this)]
      omega)]
    show ((F (oft os) os.length).map _).sum = _
    rw [← (hsy.map fun x => if 0 < f x then 2 ^ (15 - f x) else 0).sum_nat]
    have e2 : (S.map sym).map (fun x => if 0 < f x then 2 ^ (15 - f x) else 0) = (List.range S.length).map fun i => 2 ^ (15 - L) * 2 ^ (L - f ((S.map sym).getD i 0)) := by
      apply List.ext_getElem (by simp)
      intro i h1 h3
      have hi : i < S.length := by simpa using h1
      have h4 := hb i hi
      rw [hget i hi, List.getElem_map] at h4
      simp only [List.getElem_map, List.getElem_range, hget i hi]
      rw [if_pos (by omega), ← Nat.pow_add]
      congr 1
      omega
    rw [e2, sum_mul (2 ^ (15 - L)) (fun i => 2 ^ (L - f ((S.map sym).getD i 0))), hk, ← Nat.pow_add, show 15 - L + L = 15 by omega]
theorem many_cost {os : List Int} {S : List Tr} (hS : Sg (oft os) os.length S) (j n : Nat) : ((List.range os.length).map fun x => (cntL ((lev (oft os) S j).take n) x : Int) * oft os x).sum = (((lev (oft os) S j).take n).map (wt (oft os))).sum :=
  PackLaw.wt_sumL _ fun t ht => hS.leaves j t (List.mem_of_mem_take ht)
theorem pick_facts {os : List Int} {L : Nat} {f : Nat → Nat} (hL1 : 1 ≤ L) (hL : L ≤ 15) (h : Pick os L f) : LenFacts os L f ∧ ((F (oft os) os.length).length = 1 → ∀ x, x < os.length → 0 < oft os x → f x = 1) := by
  have hmem : ∀ x, x < os.length → (x ∈ F (oft os) os.length ↔ 0 < oft os x) := by
    intro x hx
    unfold F
    rw [List.mem_filter, List.mem_range, decide_eq_true_eq]
    exact ⟨fun h => h.2, fun h => ⟨hx, h⟩⟩
  cases h with
  | zero h =>
    refine ⟨⟨fun x hx => Nat.zero_le _, fun x hx => ?_⟩, fun h1 => by rw [h] at h1; cases h1⟩
    rw [← hmem x hx, h]
    simp
  | one h =>
    rename_i s
    have hms : ∀ x, x < os.length → (x = s ↔ 0 < oft os x) := fun x hx => by rw [← hmem x hx, h, List.mem_singleton]
    refine ⟨⟨fun x hx => ?_, fun x hx => ?_⟩, fun _ x hx hx0 => ?_⟩
    · show (if x = s then 1 else 0) ≤ L
      split <;> omega
    · show (if x = s then 1 else 0) = 0 ↔ _
      rw [← hms x hx]
      by_cases e : x = s
      · rw [if_pos e]; simp [e]
      · rw [if_neg e]; simp [e]
    · show (if x = s then 1 else 0) = 1
      rw [if_pos ((hms x hx).2 hx0)]
  | many h2 hle hS hp =>
    refine ⟨(many_law h2 hle hL1 hL hS hp).1, fun h1 => ?_⟩
    have := hp.length_eq
    rw [List.length_map, h1] at this
    omega
/-- two of one weight -/
theorem pick_two {f : Nat → Nat} (h : Pick ([4, 4] : List Int) 3 f) : f 0 = 1 ∧ f 1 = 1 := by
  have hF : F (oft ([4, 4] : List Int)) ([4, 4] : List Int).length = [0, 1] := by decide
  cases h with
  | zero h => rw [hF] at h; cases h
  | one h => rw [hF] at h; cases h
  | many h2 hle hS hp =>
    obtain ⟨hf, hk⟩ := many_law h2 hle (by omega) (by omega) hS hp
    generalize cntL _ = f at hf hk ⊢
    have a0 := hf.le 0 (by simp)
    have a1 := hf.le 1 (by simp)
    have z0 : f 0 ≠ 0 := fun e => (hf.z 0 (by simp)).1 e (by decide)
    have z1 : f 1 ≠ 0 := fun e => (hf.z 1 (by simp)).1 e (by decide)
    have hk' : (if 0 < f 0 then 2 ^ (15 - f 0) else 0) + (if 0 < f 1 then 2 ^ (15 - f 1) else 0) = 32768 := by
      have : kraft (nums ([4, 4] : List Int).length f) = (if 0 < f 0 then 2 ^ (15 - f 0) else 0) + (if 0 < f 1 then 2 ^ (15 - f 1) else 0) := by
        simp [kraft, nums, List.range_succ]
      rw [← this]; exact hk
    rw [if_pos (by omega), if_pos (by omega)] at hk'
    have c0 : f 0 = 1 ∨ f 0 = 2 ∨ f 0 = 3 := by omega
    have c1 : f 1 = 1 ∨ f 1 = 2 ∨ f 1 = 3 := by omega
    rcases c0 with e | e | e <;> rcases c1 with e' | e' | e' <;> rw [e, e'] at hk' <;> first | exact ⟨e, e'⟩ | (exact absurd hk' (by decide))
end Go.Proofs.Ytfdcolicpfellaa.S05
