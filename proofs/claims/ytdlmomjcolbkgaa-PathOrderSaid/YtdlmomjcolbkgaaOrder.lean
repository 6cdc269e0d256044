/-
  PathOrder: the order of names: what the law computes is true, for all lists of texts of at most 2^42 pieces.
-/
import Derived.Test.YtdlmomjcolbkgaaOrderM2
set_option linter.unusedVariables false
namespace Go.Proofs.Ytdlmomjcolbkgaa.PathOrderPure
open Go.RowKit Go.Proofs.Ytdlmomjcolbkgaa.Texts Go.Proofs.Ytdlmomjcolbkgaa.PPathOrder Go.Proofs.YtdlmomjcolbkgaaW.PrintWords Go.Proofs.YtdlmomjcolbkgaaW.PrintLast Go.Proofs.YtdlmomjcolbkgaaW.PrintMore

theorem w64 {x : Int} (h0 : -9223372036854775808 ≤ x) (h1 : x ≤ 9223372036854775807) : wrap64 x = x := by
  unfold wrap64; omega

/-- the order of two texts -/
def cs (a b : ByteArray) : Int := if Op.bytesLess a.toList b.toList = true then -1 else if Op.bytesLess b.toList a.toList = true then 1 else 0

structure Cmp (c : ByteArray → ByteArray → Int) : Prop where
  anti : ∀ a b, c a b = - c b a
  small : ∀ a b, -1 ≤ c a b ∧ c a b ≤ 1
  zero : ∀ a b, c a b = 0 ↔ a.toList = b.toList
  left : ∀ a b d, c a b = 0 → c a d = c b d
  right : ∀ a b d, c a b = 0 → c d a = c d b
  trans : ∀ a b d, c a b < 0 → c b d < 0 → c a d < 0

theorem cs_cmp : Cmp cs := by
  have h0 : ∀ a b, cs a b = 0 ↔ a.toList = b.toList := by
    intro a b
    unfold cs
    constructor
    · intro h
      split at h
      · omega
      · split at h
        · omega
        · rename_i h1 h2
          exact bl_tri _ _ (by simpa using h1) (by simpa using h2)
    · intro h
      rw [h, if_neg (by rw [bl_irrefl]; simp), if_neg (by rw [bl_irrefl]; simp)]
  have hneg : ∀ a b, cs a b < 0 ↔ Op.bytesLess a.toList b.toList = true := by
    intro a b
    unfold cs
    constructor
    · intro h
      split at h
      · assumption
      · split at h <;> omega
    · intro h
      rw [if_pos h]; omega
  refine ⟨fun a b => ?_, fun a b => ?_, h0, fun a b d h => ?_, fun a b d h => ?_, fun a b d h h' => ?_⟩
  · unfold cs
    by_cases h1 : Op.bytesLess a.toList b.toList = true
    · rw [if_pos h1, if_neg (by rw [bl_asymm _ _ h1]; simp), if_pos h1]
    · rw [if_neg h1]
      by_cases h2 : Op.bytesLess b.toList a.toList = true
      · rw [if_pos h2, if_pos h2]; rfl
      · rw [if_neg h2, if_neg h2, if_neg h1]; rfl
  · unfold cs
    split
    · omega
    · split <;> omega
  · have := (h0 a b).1 h
    unfold cs
    rw [this]
  · have := (h0 a b).1 h
    unfold cs
    rw [this]
  · rw [hneg] at h h' ⊢
    exact bl_trans _ _ _ h h'

/-! ### lists of texts -/
def cl : List ByteArray → List ByteArray → Int
  | [], [] => 0
  | [], _ :: _ => -1
  | _ :: _, [] => 1
  | a :: x, b :: y => if cs a b = 0 then cl x y else cs a b
def sm : List ByteArray → List ByteArray → Bool
  | [], [] => true
  | a :: x, b :: y => a.toList == b.toList && sm x y
  | _, _ => false
def un : List ByteArray → List ByteArray → Bool
  | _ :: _, [] => true
  | a :: x, b :: y => a.toList == b.toList && un x y
  | _, _ => false

theorem cl_anti : ∀ x y, cl x y = - cl y x
  | [], [] => rfl
  | [], _ :: _ => rfl
  | _ :: _, [] => rfl
  | a :: x, b :: y => by
    have h1 := cs_cmp.anti a b
    simp only [cl]
    by_cases h : cs a b = 0
    · rw [if_pos h, if_pos (by omega)]; exact cl_anti x y
    · rw [if_neg h, if_neg (by omega)]; exact h1
theorem cl_small : ∀ x y, -1 ≤ cl x y ∧ cl x y ≤ 1
  | [], [] => by simp [cl]
  | [], _ :: _ => by simp [cl]
  | _ :: _, [] => by simp [cl]
  | a :: x, b :: y => by
    simp only [cl]
    split
    · exact cl_small x y
    · exact cs_cmp.small a b
theorem cl_zero : ∀ x y, cl x y = 0 ↔ sm x y = true
  | [], [] => by simp [cl, sm]
  | [], _ :: _ => by simp [cl, sm]
  | _ :: _, [] => by simp [cl, sm]
  | a :: x, b :: y => by
    simp only [cl, sm]
    by_cases h : cs a b = 0
    · rw [if_pos h, cl_zero x y]
      simp [(cs_cmp.zero a b).1 h]
    · rw [if_neg h]
      have : ¬ a.toList = b.toList := fun e => h ((cs_cmp.zero a b).2 e)
      simp [h, this]
theorem cl_trans : ∀ x y z, cl x y ≤ 0 → cl y z ≤ 0 → cl x z ≤ 0 ∧ (cl x y < 0 → cl x z < 0)
  | [], [], z, h, h' => ⟨h', fun h1 => by simp [cl] at h1⟩
  | [], _ :: _, [], h, h' => by simp [cl] at h'
  | [], _ :: _, _ :: _, h, h' => by simp [cl]
  | _ :: _, [], _, h, h' => by simp [cl] at h
  | _ :: _, _ :: _, [], h, h' => by simp [cl] at h'
  | a :: x, b :: y, d :: z, h, h' => by
    have ih := cl_trans x y z
    simp only [cl] at h h' ⊢
    by_cases h1 : cs a b = 0
    · rw [if_pos h1] at h ⊢
      rw [cs_cmp.left a b d h1]
      by_cases h2 : cs b d = 0
      · rw [if_pos h2] at h' ⊢
        exact ih h h'
      · rw [if_neg h2] at h' ⊢
        exact ⟨h', fun _ => by omega⟩
    · rw [if_neg h1] at h ⊢
      by_cases h2 : cs b d = 0
      · rw [← cs_cmp.right b d a h2, if_neg h1]
        exact ⟨h, fun h => h⟩
      · rw [if_neg h2] at h'
        have := cs_cmp.trans a b d (by omega) (by omega)
        rw [if_neg (by omega)]
        exact ⟨by omega, fun _ => this⟩
theorem un_one : ∀ x y, un x y = true → cl x y = 1
  | [], [], h => by simp [un] at h
  | [], _ :: _, h => by simp [un] at h
  | _ :: _, [], _ => rfl
  | a :: x, b :: y, h => by
    simp only [un, Bool.and_eq_true, beq_iff_eq] at h
    simp only [cl]
    rw [if_pos ((cs_cmp.zero a b).2 h.1)]
    exact un_one x y h.2
theorem un_between : ∀ x y z, un z x = true → cl x y < 0 → cl y z < 0 → un y x = true
  | [], [], _, _, h, _ => by simp [cl] at h
  | [], _ :: _, _, _, _, _ => rfl
  | _ :: _, [], _, _, h, _ => by simp [cl] at h
  | _ :: _, _ :: _, [], h, _, _ => by simp [un] at h
  | a :: x, b :: y, d :: z, h, h1, h2 => by
    simp only [un, Bool.and_eq_true, beq_iff_eq] at h ⊢
    simp only [cl] at h1 h2
    have e1 := (cs_cmp.zero d a).2 h.1
    have e2 := cs_cmp.right d a b e1
    have e3 := cs_cmp.anti a b
    have e4 : cs a b = 0 := by
      rw [e2] at h2
      by_cases h3 : cs a b = 0
      · exact h3
      · rw [if_neg h3] at h1
        rw [if_neg (by omega)] at h2
        omega
    rw [if_pos e4] at h1
    rw [e2, if_pos (by omega)] at h2
    exact ⟨((cs_cmp.zero a b).1 e4).symm, un_between x y z h.2 h1 h2⟩

/-! ### the functions as printed -/
theorem rdO (l : List ByteArray) (i : Nat) (h : i < l.length) : rdOf ByteArray.empty l (i : Int) = l[i] := by
  simp [rdOf, List.getD_eq_getElem?_getD, h]
theorem cmp_f (a b : ByteArray) : cmp_Compare_string.f a b = some (cs a b) := by
  unfold cmp_Compare_string.f cmp_isNaN_string.f cs
  simp only [bne_self_eq_false, Option.bind_some, if_neg Bool.false_ne_true]
  split
  · rfl
  · split <;> rfl
theorem drop_at {α : Type} (l : List α) (i : Nat) (h : i < l.length) : l.drop i = l[i] :: l.drop (i + 1) := List.drop_eq_getElem_cons h

theorem compare_l (x y : List ByteArray) (hx : x.length ≤ 8796093022208) (hy : y.length ≤ 8796093022208) : ∀ (d i : Nat), x.length = i + d → i ≤ y.length →
    Ev (fun k => slices_Compare_string_string.l0 k x y x (x.length : Int) i) (cl (x.drop i) (y.drop i)) := by
  intro d
  induction d with
  | zero =>
    intro i hd hi
    rw [List.drop_of_length_le (l := x) (by omega)]
    rcases Nat.lt_or_ge i y.length with h | h
    · rw [drop_at y i h]
      refine Ev.step (f := fun _ => some (-1)) (fun k => ?_) (Ev.now _)
      simp only [slices_Compare_string_string.l0]
      rw [if_neg (by omega), if_pos (by omega)]
    · rw [List.drop_of_length_le (l := y) (by omega)]
      refine Ev.step (f := fun _ => some 0) (fun k => ?_) (Ev.now _)
      simp only [slices_Compare_string_string.l0]
      rw [if_neg (by omega), if_neg (by omega)]
  | succ d ih =>
    intro i hd hi
    have hx' : i < x.length := by omega
    rw [drop_at x i hx']
    rcases Nat.lt_or_ge i y.length with h | h
    · rw [drop_at y i h]
      simp only [cl]
      by_cases h0 : cs (x[i]) (y[i]) = 0
      · rw [if_pos h0]
        refine Ev.step (fun k => ?_) (ih (i + 1) (by omega) (by omega))
        simp only [slices_Compare_string_string.l0]
        rw [if_pos (by omega), if_pos (by omega), if_pos (by omega), if_neg (by omega), if_pos (by omega), rdO x i hx', rdO y i h, cmp_f]
        simp only [Option.bind_some]
        rw [if_pos h0, w64 (by omega) (by omega)]
        rfl
      · rw [if_neg h0]
        refine Ev.step (f := fun _ => some (cs (x[i]) (y[i]))) (fun k => ?_) (Ev.now _)
        simp only [slices_Compare_string_string.l0]
        rw [if_pos (by omega), if_pos (by omega), if_pos (by omega), if_neg (by omega), if_pos (by omega), rdO x i hx', rdO y i h, cmp_f]
        simp only [Option.bind_some]
        rw [if_neg h0]
    · rw [List.drop_of_length_le (l := y) (by omega)]
      refine Ev.step (f := fun _ => some 1) (fun k => ?_) (Ev.now _)
      simp only [slices_Compare_string_string.l0]
      rw [if_pos (by omega), if_pos (by omega), if_pos (by omega), if_pos (by omega)]
theorem compare_f (x y : List ByteArray) (hx : x.length ≤ 8796093022208) (hy : y.length ≤ 8796093022208) : Ev (fun k => path_Compare.f k x y) (cl x y) := by
  have h := compare_l x y hx hy x.length 0 (by omega) (by omega)
  refine Ev.bind (g := fun k => slices_Compare_string_string.f k x y) (f := fun _ t => some t) ?_ (Ev.now _)
  exact h

theorem same_l (x y : List ByteArray) (hl : x.length = y.length) (hx : x.length ≤ 8796093022208) : ∀ (d i : Nat), x.length = i + d → Ev (fun k => satchellaw09_same.l0 k x y i) (sm (x.drop i) (y.drop i)) := by
  intro d
  induction d with
  | zero =>
    intro i hd
    rw [List.drop_of_length_le (l := x) (by omega), List.drop_of_length_le (l := y) (by omega)]
    refine Ev.step (f := fun _ => some true) (fun k => ?_) (Ev.now _)
    simp only [satchellaw09_same.l0]
    rw [if_neg (by omega)]
  | succ d ih =>
    intro i hd
    have hx' : i < x.length := by omega
    have hy' : i < y.length := by omega
    rw [drop_at x i hx', drop_at y i hy']
    simp only [sm]
    by_cases h : (x[i]).toList = (y[i]).toList
    · rw [beq_iff_eq.2 h, Bool.true_and]
      refine Ev.step (fun k => ?_) (ih (i + 1) (by omega))
      simp only [satchellaw09_same.l0]
      rw [if_pos (by omega), if_pos (by omega), if_pos (by omega), rdO x i hx', rdO y i hy', if_pos h, w64 (by omega) (by omega)]
      rfl
    · rw [beq_eq_false_iff_ne.2 h, Bool.false_and]
      refine Ev.step (f := fun _ => some false) (fun k => ?_) (Ev.now _)
      simp only [satchellaw09_same.l0]
      rw [if_pos (by omega), if_pos (by omega), if_pos (by omega), rdO x i hx', rdO y i hy', if_neg h]
theorem sm_len : ∀ x y, x.length ≠ y.length → sm x y = false
  | [], [], h => absurd rfl h
  | [], _ :: _, _ => rfl
  | _ :: _, [], _ => rfl
  | a :: x, b :: y, h => by
    simp only [sm, sm_len x y (by simpa using h), Bool.and_false]
theorem same_f (x y : List ByteArray) (hx : x.length ≤ 8796093022208) : Ev (fun k => satchellaw09_same.f k x y) (sm x y) := by
  unfold satchellaw09_same.f
  by_cases h : x.length = y.length
  · simp only [if_pos (show (x.length : Int) = y.length by omega)]
    exact same_l x y h hx x.length 0 (by omega)
  · simp only [if_neg (show ¬ (x.length : Int) = y.length by omega)]
    rw [sm_len x y h]
    exact Ev.now _
theorem equal_l (x y : List ByteArray) (hl : x.length = y.length) (hx : x.length ≤ 8796093022208) : ∀ (d i : Nat), x.length = i + d → Ev (fun k => slices_Equal_string_string.l0 k x y (x.length : Int) i) (sm (x.drop i) (y.drop i)) := by
  intro d
  induction d with
  | zero =>
    intro i hd
    rw [List.drop_of_length_le (l := x) (by omega), List.drop_of_length_le (l := y) (by omega)]
    refine Ev.step (f := fun _ => some true) (fun k => ?_) (Ev.now _)
    simp only [slices_Equal_string_string.l0]
    rw [if_neg (by omega)]
  | succ d ih =>
    intro i hd
    have hx' : i < x.length := by omega
    have hy' : i < y.length := by omega
    rw [drop_at x i hx', drop_at y i hy']
    simp only [sm]
    by_cases h : (x[i]).toList = (y[i]).toList
    · rw [beq_iff_eq.2 h, Bool.true_and]
      refine Ev.step (fun k => ?_) (ih (i + 1) (by omega))
      simp only [slices_Equal_string_string.l0]
      rw [if_pos (by omega), if_pos (by omega), if_pos (by omega), if_pos (by omega), rdO x i hx', rdO y i hy', if_pos h, w64 (by omega) (by omega)]
      rfl
    · rw [beq_eq_false_iff_ne.2 h, Bool.false_and]
      refine Ev.step (f := fun _ => some false) (fun k => ?_) (Ev.now _)
      simp only [slices_Equal_string_string.l0]
      rw [if_pos (by omega), if_pos (by omega), if_pos (by omega), if_pos (by omega), rdO x i hx', rdO y i hy', if_neg h]
theorem equal_f (x y : List ByteArray) (hx : x.length ≤ 8796093022208) : Ev (fun k => slices_Equal_string_string.f k x y) (sm x y) := by
  unfold slices_Equal_string_string.f
  by_cases h : x.length = y.length
  · simp only [if_pos (show (x.length : Int) = y.length by omega)]
    exact equal_l x y h hx x.length 0 (by omega)
  · simp only [if_neg (show ¬ (x.length : Int) = y.length by omega)]
    rw [sm_len x y h]
    exact Ev.now _
theorem un_take : ∀ x y : List ByteArray, un x y = (decide (y.length < x.length) && sm (x.take y.length) y)
  | [], y => by simp [un]
  | _ :: _, [] => by simp [un, sm]
  | a :: x, b :: y => by
    simp only [un, un_take x y, List.length_cons, List.take_succ_cons, sm]
    rw [show decide (y.length + 1 < x.length + 1) = decide (y.length < x.length) from by simp]
    cases decide (y.length < x.length) <;> simp
theorem under_f (x y : List ByteArray) (hx : x.length ≤ 8796093022208) : Ev (fun k => path_Under.f k x y) (un x y) := by
  unfold path_Under.f
  rw [un_take]
  by_cases h : y.length < x.length
  · simp only [if_pos (show (x.length : Int) > (y.length : Int) by omega), if_pos (show (0 : Int) ≤ (y.length : Int) by omega), if_pos (show (y.length : Int) ≤ (x.length : Int) by omega), Int.toNat_natCast]
    rw [decide_eq_true h, Bool.true_and]
    exact Ev.bind (f := fun _ t => some t) (equal_f _ _ (by rw [List.length_take]; omega)) (Ev.now _)
  · simp only [if_neg (show ¬ (x.length : Int) > (y.length : Int) by omega)]
    rw [decide_eq_false h, Bool.false_and]
    exact Ev.now _

/-! ### the law -/
theorem j3 : Ev (fun k => satchellaw09_PathOrder.j3 k false) true := by
  refine Ev.step (f := fun k => (path_Under.f k (([(⟨#[97]⟩ : ByteArray), (⟨#[98]⟩ : ByteArray)] : List ByteArray)) (([(⟨#[97]⟩ : ByteArray)] : List ByteArray))).bind fun t145 => (if t145 = true then ((path_Compare.f k (([(⟨#[97]⟩ : ByteArray)] : List ByteArray)) (([(⟨#[98]⟩ : ByteArray)] : List ByteArray))).bind fun t152 => (some (t152 == (-1)))) else (some false)))
    (fun k => by simp only [satchellaw09_PathOrder.j3, if_neg Bool.false_ne_true])
    (Ev.bind (f := fun k t145 => (if t145 = true then ((path_Compare.f k (([(⟨#[97]⟩ : ByteArray)] : List ByteArray)) (([(⟨#[98]⟩ : ByteArray)] : List ByteArray))).bind fun t152 => (some (t152 == (-1)))) else (some false))) (under_f _ _ (by simp)) ?_)
  rw [show un [(⟨#[97]⟩ : ByteArray), (⟨#[98]⟩ : ByteArray)] [(⟨#[97]⟩ : ByteArray)] = true from by simp [un]]
  simp only [if_true]
  refine Ev.bind (f := fun _ t152 => some (t152 == (-1))) (compare_f _ _ (by simp) (by simp)) ?_
  rw [show cl [(⟨#[97]⟩ : ByteArray)] [(⟨#[98]⟩ : ByteArray)] = -1 from by decide +kernel]
  exact Ev.now _
theorem j2 (x y z : List ByteArray) (hx : x.length ≤ 8796093022208) (hy : y.length ≤ 8796093022208) (hz : z.length ≤ 8796093022208) : Ev (fun k => satchellaw09_PathOrder.j2 k x y z (cl x y) (cl y z) false) true := by
  refine Ev.step (f := fun k => (path_Under.f k z x).bind fun t137 => (if t137 = true then (if cl x y < 0 then (if cl y z < 0 then ((path_Under.f k y x).bind fun t138 => (satchellaw09_PathOrder.j3 k (!t138))) else (satchellaw09_PathOrder.j3 k false)) else (satchellaw09_PathOrder.j3 k false)) else (satchellaw09_PathOrder.j3 k false)))
    (fun k => by simp only [satchellaw09_PathOrder.j2, if_neg Bool.false_ne_true]) ?_
  refine Ev.bind (f := fun k t137 => (if t137 = true then (if cl x y < 0 then (if cl y z < 0 then ((path_Under.f k y x).bind fun t138 => (satchellaw09_PathOrder.j3 k (!t138))) else (satchellaw09_PathOrder.j3 k false)) else (satchellaw09_PathOrder.j3 k false)) else (satchellaw09_PathOrder.j3 k false))) (under_f z x hz) ?_
  by_cases h : un z x = true
  · simp only [if_pos h]
    by_cases h1 : cl x y < 0
    · simp only [if_pos h1]
      by_cases h2 : cl y z < 0
      · simp only [if_pos h2]
        refine Ev.bind (f := fun k t138 => satchellaw09_PathOrder.j3 k (!t138)) (under_f y x hy) ?_
        rw [un_between x y z h h1 h2]
        exact j3
      · simp only [if_neg h2]; exact j3
    · simp only [if_neg h1]; exact j3
  · simp only [if_neg h]; exact j3
theorem j1 (x y z : List ByteArray) (hx : x.length ≤ 8796093022208) (hy : y.length ≤ 8796093022208) (hz : z.length ≤ 8796093022208) : Ev (fun k => satchellaw09_PathOrder.j1 k x y z (cl x y) (cl y z) false) true := by
  refine Ev.step (f := fun k => (path_Under.f k x y).bind fun t136 => (if t136 = true then (satchellaw09_PathOrder.j2 k x y z (cl x y) (cl y z) (cl x y != 1)) else (satchellaw09_PathOrder.j2 k x y z (cl x y) (cl y z) false)))
    (fun k => by simp only [satchellaw09_PathOrder.j1, if_neg Bool.false_ne_true]) ?_
  refine Ev.bind (f := fun k t136 => (if t136 = true then (satchellaw09_PathOrder.j2 k x y z (cl x y) (cl y z) (cl x y != 1)) else (satchellaw09_PathOrder.j2 k x y z (cl x y) (cl y z) false))) (under_f x y hx) ?_
  by_cases h : un x y = true
  · simp only [if_pos h]
    rw [show (cl x y != 1) = false from by rw [un_one x y h]; rfl]
    exact j2 x y z hx hy hz
  · simp only [if_neg h]
    exact j2 x y z hx hy hz
theorem j0 (x y z : List ByteArray) (hx : x.length ≤ 8796093022208) (hy : y.length ≤ 8796093022208) (hz : z.length ≤ 8796093022208) : Ev (fun k => satchellaw09_PathOrder.j0 k x y z (cl x y) (cl y z) (cl x z) false) true := by
  refine Ev.step (fun k => ?_) (j1 x y z hx hy hz)
  have ht := cl_trans x y z
  simp only [satchellaw09_PathOrder.j0, if_neg Bool.false_ne_true]
  split
  · split
    · have := ht (by omega) (by omega)
      rw [if_neg (by omega)]
      split
      · have h3 := this.2 (by omega)
        rw [decide_eq_false (by omega)]
      · rfl
    · split <;> rfl
  · rw [if_neg (by omega)]
theorem order (x y z : List ByteArray) (hx : x.length < 8796093022208) (hy : y.length < 8796093022208) (hz : z.length < 8796093022208) : ∃ k, satchellaw09_PathOrder.f k x y z = some true := by
  refine Ev.rounds (g := fun k => satchellaw09_PathOrder.f k x y z) ?_
  unfold satchellaw09_PathOrder.f
  simp only [Option.bind_some, List.length_nil, Nat.zero_add, if_pos hx, if_pos hy, if_pos hz, List.nil_append]
  refine Ev.bind (f := fun k t131 => _) (compare_f x y (by omega) (by omega)) ?_
  refine Ev.bind (f := fun k t132 => _) (compare_f y z (by omega) (by omega)) ?_
  refine Ev.bind (f := fun k t133 => _) (compare_f x z (by omega) (by omega)) ?_
  refine Ev.bind (f := fun k t134 => _) (compare_f y x (by omega) (by omega)) ?_
  have ha := cl_anti x y
  have hs := cl_small x y
  simp only [w64 (x := -cl y x) (by have := cl_small y x; omega) (by have := cl_small y x; omega), if_pos ha]
  refine Ev.bind (f := fun k t135 => _) (same_f x y (by omega)) ?_
  have e : (cl x y == 0) = sm x y := by
    have := cl_zero x y
    cases h : sm x y
    · rw [h] at this
      simpa using this
    · rw [h] at this
      simpa using this
  simp only [e, bne_self_eq_false, if_neg Bool.false_ne_true, if_neg (show ¬ cl x y < -1 by omega), decide_eq_false (show ¬ cl x y > 1 by omega)]
  exact j0 x y z (by omega) (by omega) (by omega)

theorem walk (w : World) (A0 : Option Addr) (c0 : Nat) (l0 : List ByteArray) (hr0 : Kd.C Kd.string w A0 l0.length l0) (hc0 : l0.length ≤ c0) (_ : (∀ s ∈ l0, s.size ≤ maxLen) ∧ l0.length ≤ maxLen) (y0 : l0.length * 16 ≤ 140737488351232)
    (A1 : Option Addr) (c1 : Nat) (l1 : List ByteArray) (hr1 : Kd.C Kd.string w A1 l1.length l1) (hc1 : l1.length ≤ c1) (_ : (∀ s ∈ l1, s.size ≤ maxLen) ∧ l1.length ≤ maxLen) (y1 : l1.length * 16 ≤ 140737488351232)
    (A2 : Option Addr) (c2 : Nat) (l2 : List ByteArray) (hr2 : Kd.C Kd.string w A2 l2.length l2) (hc2 : l2.length ≤ c2) (_ : (∀ s ∈ l2, s.size ≤ maxLen) ∧ l2.length ≤ maxLen) (y2 : l2.length * 16 ≤ 140737488351232) :
    Calls Try.prog 3 #[.slice A0 l0.length c0, .slice A1 l1.length c1, .slice A2 l2.length c2] w fun e w' => e = .returned (.bool true) ∧ Below w.heap.size w w' := by
  obtain ⟨k, h⟩ := order l0 l1 l2 (by omega) (by omega) (by omega)
  exact satchellaw09_PathOrder.calls k A0 c0 l0 A1 c1 l1 A2 c2 l2 true w hr0 hc0 hr1 hc1 hr2 hc2 h
end Go.Proofs.Ytdlmomjcolbkgaa.PathOrderPure
