/-
  What the small functions of the law's package, and the document's Bits and Bytes, come to.
-/
import Derived.Test.YtfdcolicpfellaaPBitsWritesx2
import Derived.Test.YtfdcolicpfellaaPack
set_option linter.unusedVariables false
namespace Go.Proofs.Ytfdcolicpfellaa.PBitsWritesPure
open Go.RowKit Go.Proofs.Ytfdcolicpfellaa.PBitsWrites Go.Proofs.YtfdcolicpfellaaW.PrintWords Go.Proofs.YtfdcolicpfellaaW.PrintLast Go.Proofs.YtfdcolicpfellaaW.PrintMore Go.Proofs.Ytfdcolicpfellaa.Pack

theorem w64 {x : Int} (h0 : -9223372036854775808 ≤ x) (h1 : x ≤ 9223372036854775807) : wrap64 x = x := by
  unfold wrap64; omega
theorem rdN (l : List Int) (i : Nat) (h : i < l.length) : rd l (i : Int) = l[i] := by
  simp [rd, List.getD_eq_getElem?_getD, h]

/-! ### same -/
theorem same_l (x y : List Int) (hl : x.length = y.length) (hx : x.length ≤ 1125899906842624) : ∀ (d i : Nat), x.length = i + d → Ev (fun k => satchellaw05_same.l0 k x y i) (decide (x.drop i = y.drop i)) := by
  intro d
  induction d with
  | zero =>
    intro i hd
    rw [List.drop_of_length_le (l := x) (by omega), List.drop_of_length_le (l := y) (by omega)]
    refine Ev.step (f := fun _ => some true) (fun k => ?_) (Ev.now _)
    simp only [satchellaw05_same.l0]
    rw [if_neg (by omega)]
  | succ d ih =>
    intro i hd
    have hx' : i < x.length := by omega
    have hy' : i < y.length := by omega
    rw [List.drop_eq_getElem_cons hx', List.drop_eq_getElem_cons hy']
    by_cases h : x[i] = y[i]
    · rw [show decide (x[i] :: x.drop (i + 1) = y[i] :: y.drop (i + 1)) = decide (x.drop (i + 1) = y.drop (i + 1)) from decide_eq_decide.2 ⟨fun e => (List.cons.inj e).2, fun e => by rw [h, e]⟩]
      refine Ev.step (fun k => ?_) (ih (i + 1) (by omega))
      simp only [satchellaw05_same.l0]
      rw [if_pos (by omega), if_pos (by omega), if_pos (by omega), rdN x i hx', rdN y i hy', if_pos h, w64 (by omega) (by omega)]
      rfl
    · rw [show decide (x[i] :: x.drop (i + 1) = y[i] :: y.drop (i + 1)) = false from decide_eq_false (fun e => h (List.cons.inj e).1)]
      refine Ev.step (f := fun _ => some false) (fun k => ?_) (Ev.now _)
      simp only [satchellaw05_same.l0]
      rw [if_pos (by omega), if_pos (by omega), if_pos (by omega), rdN x i hx', rdN y i hy', if_neg h]
theorem same_f (x y : List Int) (hx : x.length ≤ 1125899906842624) : Ev (fun k => satchellaw05_same.f k x y) (decide (x = y)) := by
  unfold satchellaw05_same.f
  by_cases h : x.length = y.length
  · simp only [if_pos (show (x.length : Int) = y.length by omega)]
    exact same_l x y h hx x.length 0 (by omega)
  · simp only [if_neg (show ¬ (x.length : Int) = y.length by omega)]
    rw [decide_eq_false (fun e => h (by rw [e]))]
    exact Ev.now _

/-! ### kept -/
def marks : List Int := (List.range 32).map fun i : Nat => (171 + (i : Int))
theorem marks_length : marks.length = 32 := rfl
theorem kept_l (l : List Int) (hx : l.length ≤ 1125899906842624) : ∀ (d i : Nat), l.length + 32 = i + d → Ev (fun k => satchellaw05_kept.l0 k (l ++ marks) l i) true := by
  have hal : (l ++ marks).length = l.length + 32 := by rw [List.length_append, marks_length]
  intro d
  induction d with
  | zero =>
    intro i hd
    refine Ev.step (f := fun _ => some true) (fun k => ?_) (Ev.now _)
    simp only [satchellaw05_kept.l0, hal]
    rw [if_neg (by omega)]
  | succ d ih =>
    intro i hd
    refine Ev.step (fun k => ?_) (ih (i + 1) (by omega))
    simp only [satchellaw05_kept.l0]
    rw [if_pos (by rw [hal]; omega), w64 (x := (i : Int) + 1) (by omega) (by omega)]
    rcases Nat.lt_or_ge i l.length with h | h
    · rw [if_pos (by omega), if_pos (by omega), rdN _ i (by rw [hal]; omega), rdN l i h, List.getElem_append_left h, if_pos rfl, if_neg (by omega)]
      rfl
    · rw [if_neg (by omega), if_pos (by omega), if_pos (by omega), rdN _ i (by rw [hal]; omega), List.getElem_append_right h, w64 (x := 171 + (i : Int)) (by omega) (by omega), w64 (by omega) (by omega)]
      have hm : marks[i - l.length]'(by rw [marks_length]; omega) = (171 + (i : Int) - l.length) % 256 := by
        simp only [marks, List.getElem_map, List.getElem_range]
        omega
      rw [if_pos hm]
      rfl
theorem kept_f (l : List Int) (hx : l.length ≤ 1125899906842624) : Ev (fun k => satchellaw05_kept.f k (l ++ marks) l) true := kept_l l hx (l.length + 32) 0 (by omega)

/-! ### full -/
theorem full_1 (v : Int) : ∀ (d i : Nat) (l : List Int), 90 = i + d → l.length + d < 140737488355328 → Ev (fun k => satchellaw05_full.l1 k l v i) () := by
  intro d
  induction d with
  | zero =>
    intro i l hd hl
    refine Ev.step (f := fun _ => some ()) (fun k => ?_) (Ev.now _)
    simp only [satchellaw05_full.l1]
    rw [if_neg (by omega)]
  | succ d ih =>
    intro i l hd hl
    refine Ev.step (fun k => ?_) (ih (i + 1) (l ++ [v]) (by omega) (by simp; omega))
    simp only [satchellaw05_full.l1]
    rw [if_pos (by omega), if_pos (by omega), w64 (by omega) (by omega)]
    rfl
theorem full_0 (v : Int) : ∀ (d i : Nat) (l : List Int), l.length = i + d → l.length + 90 < 140737488355328 → Ev (fun k => satchellaw05_full.l0 k l v i) () := by
  intro d
  induction d with
  | zero =>
    intro i l hd hl
    refine Ev.step (fun k => ?_) (full_1 v 90 0 l (by omega) hl)
    simp only [satchellaw05_full.l0]
    rw [if_neg (by omega)]
    rfl
  | succ d ih =>
    intro i l hd hl
    refine Ev.step (fun k => ?_) (ih (i + 1) (l.set i v) (by simp; omega) (by simp; omega))
    simp only [satchellaw05_full.l0]
    rw [if_pos (by omega), if_pos (by omega), w64 (by omega) (by omega)]
    rfl
theorem full_f (l : List Int) (v : Int) (hl : l.length + 90 < 140737488355328) : Ev (fun k => satchellaw05_full.f k l v) () := full_0 v l.length 0 l (by omega) hl

/-! ### Bits -/
theorem bits_1 (xs : List Int) {r : List Int} (i : Nat) : ∀ (d j : Nat) (x : Int) (out : List Int), 8 = j + d → 0 ≤ x → x < 256 → out.length + d < 140737488355328 →
    Ev (fun k => satchelref05_Bits.l0 k xs (out ++ (low d x).map b2i) (wrap64 ((i : Int) + 1))) r → Ev (fun k => satchelref05_Bits.l1 k xs out i x j) r := by
  intro d
  induction d with
  | zero =>
    intro j x out hd h0 h1 hl h
    rw [show (low 0 x).map b2i = [] from rfl, List.append_nil] at h
    refine Ev.step (fun k => ?_) h
    simp only [satchelref05_Bits.l1]
    rw [if_neg (by omega)]
  | succ d ih =>
    intro j x out hd h0 h1 hl h
    have h2 := ih (j + 1) (x / 2) (out ++ [b2i (x % 2 == 1)]) (by omega) (by omega) (by omega) (by simp; omega) (by rw [List.append_assoc]; exact h)
    refine Ev.step (fun k => ?_) h2
    simp only [satchelref05_Bits.l1]
    rw [if_pos (by omega), if_pos (by omega), w64 (by omega) (by omega), Int.tmod_eq_emod_of_nonneg h0, Int.tdiv_eq_ediv_of_nonneg h0, show x / 2 % 256 = x / 2 by omega]
    have e : b2i (x % 2 == 1) = x % 2 := by
      unfold b2i
      split
      · rename_i h; simp at h; omega
      · rename_i h; simp at h; omega
    rw [e]
    rfl
theorem bits_0 (xs : List Int) (hxs : ∀ x ∈ xs, 0 ≤ x ∧ x < 256) (hl : xs.length ≤ 8796093022208) : ∀ (d i : Nat) (out : List Int), xs.length = i + d → out.length = 8 * i →
    Ev (fun k => satchelref05_Bits.l0 k xs out i) (out ++ (unpack (xs.drop i)).map b2i) := by
  intro d
  induction d with
  | zero =>
    intro i out hd ho
    rw [List.drop_of_length_le (by omega)]
    refine Ev.step (f := fun _ => some out) (fun k => ?_) (by simpa [unpack] using Ev.now out)
    simp only [satchelref05_Bits.l0]
    rw [if_neg (by omega)]
  | succ d ih =>
    intro i out hd ho
    have hi : i < xs.length := by omega
    have hx := hxs _ (List.getElem_mem hi)
    rw [List.drop_eq_getElem_cons hi]
    simp only [unpack, List.map_append]
    rw [← List.append_assoc]
    have h := ih (i + 1) (out ++ (low 8 xs[i]).map b2i) (by omega) (by simp [low_length]; omega)
    have h2 := bits_1 xs (r := out ++ (low 8 xs[i]).map b2i ++ (unpack (xs.drop (i + 1))).map b2i) i 8 0 xs[i] out (by omega) hx.1 hx.2 (by omega) (by rw [w64 (by omega) (by omega)]; exact h)
    refine Ev.step (fun k => ?_) h2
    simp only [satchelref05_Bits.l0]
    rw [if_pos (by omega), if_pos (by omega), rdN xs i hi]
    rfl
theorem bits_f (xs : List Int) (hxs : ∀ x ∈ xs, 0 ≤ x ∧ x < 256) (hl : xs.length ≤ 8796093022208) : Ev (fun k => satchelref05_Bits.f k xs) ((unpack xs).map b2i) := by
  have := bits_0 xs hxs hl xs.length 0 [] (by omega) rfl
  rw [List.drop_zero, List.nil_append] at this
  exact this

/-! ### Bytes -/
theorem bytes_1 (L : List Bool) (i : Nat) {r out : List Int} (hi : i ≤ L.length) (hL : L.length ≤ 1125899906842624) : ∀ (d j : Nat) (x : Int), 8 = j + d → x = numOf ((L.drop i).take j) → 
    Ev (fun k => satchelref05_Bytes.l1 k (L.map b2i) out i (numOf ((L.drop i).take 8)) 0 (i + 8 : Nat)) r → Ev (fun k => satchelref05_Bytes.l1 k (L.map b2i) out i x (2 ^ j % 256) (i + j : Nat)) r := by
  intro d
  induction d with
  | zero =>
    intro j x hd hx h
    have : j = 8 := by omega
    subst this
    subst hx
    exact h
  | succ d ih =>
    intro j x hd hx h
    have hj : j < 8 := by omega
    have hp : (2 : Int) ^ j ≤ 128 := by
      have h4 : (2 : Nat) ^ j ≤ 2 ^ 7 := Nat.pow_le_pow_right (by omega) (by omega)
      exact_mod_cast h4
    have hp0 : (1 : Int) ≤ 2 ^ j := by exact_mod_cast Nat.one_le_two_pow
    have hw : (2 : Int) ^ j % 256 * 2 % 256 = 2 ^ (j + 1) % 256 := by rw [Int.pow_succ]; omega
    rcases Nat.lt_or_ge (i + j) L.length with hlt | hge
    · have hsn : (L.drop i).take (j + 1) = (L.drop i).take j ++ [L[i + j]] := by
        rw [List.take_succ_eq_append_getElem (by rw [List.length_drop]; omega), List.getElem_drop]
      have hlen : ((L.drop i).take j).length = j := by rw [List.length_take, List.length_drop]; omega
      have hr := numOf_range ((L.drop i).take j)
      rw [hlen] at hr
      have hnew : numOf ((L.drop i).take (j + 1)) = x + b2i L[i + j] * 2 ^ j := by rw [hsn, numOf_snoc, hlen, hx]
      have h2 := ih (j + 1) (numOf ((L.drop i).take (j + 1))) (by omega) rfl h
      refine Ev.step (fun k => ?_) h2
      have hm : i + j < (L.map b2i).length := by simpa using hlt
      simp only [satchelref05_Bytes.l1]
      rw [w64 (x := (i : Int) + 8) (by omega) (by omega), if_pos (by omega), if_pos (by simp; omega), if_pos (by omega), rdN _ (i + j) hm, w64 (by omega) (by omega), hw, hnew]
      rw [← hx] at hr
      cases hb : L[i + j] with
      | true =>
        rw [if_pos (by simp [hb, b2i])]
        rw [show (x + 2 ^ j % 256) % 256 = x + b2i true * 2 ^ j from by simp only [b2i, if_true, Int.one_mul]; omega]
        rfl
      | false =>
        rw [if_neg (by simp [hb, b2i])]
        rw [show x + b2i false * 2 ^ j = x from by simp [b2i]]
        rfl
    · have hsn : (L.drop i).take (j + 1) = (L.drop i).take j := by
        rw [List.take_of_length_le (by rw [List.length_drop]; omega), List.take_of_length_le (by rw [List.length_drop]; omega)]
      have h2 := ih (j + 1) x (by omega) (by rw [hsn]; exact hx) h
      refine Ev.step (fun k => ?_) h2
      simp only [satchelref05_Bytes.l1]
      rw [w64 (x := (i : Int) + 8) (by omega) (by omega), if_pos (by omega), if_neg (by simp; omega), w64 (by omega) (by omega), hw]
      rfl
theorem bytes_0 (L : List Bool) (hL : L.length ≤ 140737488355328) : ∀ (d i : Nat) (out : List Int), L.length ≤ i + d → i % 8 = 0 → out.length ≤ i → i ≤ L.length + 8 →
    Ev (fun k => satchelref05_Bytes.l0 k (L.map b2i) out i) (out ++ pack (L.drop i)) := by
  intro d
  induction d with
  | zero =>
    intro i out hd h8 ho hi
    rw [List.drop_of_length_le (by omega), pack_nil, List.append_nil]
    refine Ev.step (f := fun _ => some out) (fun k => ?_) (Ev.now out)
    simp only [satchelref05_Bytes.l0]
    rw [if_neg (by simp; omega)]
  | succ d ih =>
    intro i out hd h8 ho hi
    rcases Nat.lt_or_ge i L.length with hlt | hge
    · rw [pack_pos (l := L.drop i) (by rw [List.length_drop]; omega), List.drop_drop]
      have h := ih (i + 8) (out ++ [numOf ((L.drop i).take 8)]) (by omega) (by omega) (by simp; omega) (by omega)
      rw [List.append_assoc] at h
      have h2 : Ev (fun k => satchelref05_Bytes.l1 k (L.map b2i) out i (numOf ((L.drop i).take 8)) 0 (i + 8 : Nat)) (out ++ ([numOf ((L.drop i).take 8)] ++ pack (L.drop (i + 8)))) := by
        refine Ev.step (fun k => ?_) h
        simp only [satchelref05_Bytes.l1]
        rw [w64 (x := (i : Int) + 8) (by omega) (by omega), if_neg (by omega), if_pos (by omega)]
        rfl
      have h3 := bytes_1 L i (out := out) (by omega) (by omega) 8 0 0 (by omega) (by simp [numOf]) h2
      refine Ev.step (fun k => ?_) h3
      simp only [satchelref05_Bytes.l0]
      rw [if_pos (by simp; omega)]
      rfl
    · rw [List.drop_of_length_le (by omega), pack_nil, List.append_nil]
      refine Ev.step (f := fun _ => some out) (fun k => ?_) (Ev.now out)
      simp only [satchelref05_Bytes.l0]
      rw [if_neg (by simp; omega)]
theorem bytes_f (L : List Bool) (hL : L.length ≤ 140737488355328) : Ev (fun k => satchelref05_Bytes.f k (L.map b2i)) (pack L) := by
  have := bytes_0 L hL L.length 0 [] (by omega) (by omega) (by simp) (by omega)
  rw [List.drop_zero, List.nil_append] at this
  exact this
end Go.Proofs.Ytfdcolicpfellaa.PBitsWritesPure
