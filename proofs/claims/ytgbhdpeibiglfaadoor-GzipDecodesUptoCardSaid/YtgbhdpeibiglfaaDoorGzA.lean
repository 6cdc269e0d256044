/-
  Members of compressed bytes: one member, the document's.
-/
import Derived.Test.YtgbhdpeibiglfaaDoorInfP
import Derived.Test.YtgbhdpeibiglfaaDoorBoB
import Derived.Test.YtgbhdpeibiglfaaDoorLowG
import Derived.Test.YtgbhdpeibiglfaaDoorLowH
import Derived.Test.YtgbhdpeibiglfaaDoorCallV
import Derived.Test.YtgbhdpeibiglfaaDoorShelf
import Derived.Test.YtgbhdpeibiglfaaDoorRLaw
set_option linter.unusedVariables false
set_option linter.unusedSimpArgs false
namespace Go.Proofs.YtgbhdpeibiglfaaDoor.S08
open Go Go.RowKit Go.Proofs.YtgbhdpeibiglfaaDoor.Sep Go.Proofs.YtgbhdpeibiglfaaDoor.S05 Go.Proofs.YtgbhdpeibiglfaaDoor.S06
open Go.Proofs.YtgbhdpeibiglfaaDoor.Lib hiding by8 by8_scalar

/-! ### The check sum -/
def crcStep (c : Nat) : Nat := if c % 2 = 1 then (c / 2) ^^^ 3988292384 else c / 2
def steps : Nat → Nat → Nat
  | 0, c => c
  | n + 1, c => steps n (crcStep c)
def crcAll (c : Nat) (l : List Int) : Nat := l.foldl (fun c x => steps 8 (c ^^^ x.toNat)) c
def crc (l : List Int) : Nat := crcAll 4294967295 l ^^^ 4294967295
theorem xor_lt {a b : Nat} (ha : a < 4294967296) (hb : b < 4294967296) : a ^^^ b < 4294967296 := Nat.xor_lt_two_pow (n := 32) ha hb
theorem crcStep_lt {c : Nat} (h : c < 4294967296) : crcStep c < 4294967296 := by
  unfold crcStep
  split
  · exact xor_lt (by omega) (by omega)
  · omega
theorem steps_lt : ∀ {n c : Nat}, c < 4294967296 → steps n c < 4294967296
  | 0, _, h => h
  | n + 1, _, h => steps_lt (n := n) (crcStep_lt h)
theorem crcAll_lt : ∀ {l : List Int} {c : Nat}, isBy l → c < 4294967296 → crcAll c l < 4294967296
  | [], c, _, h => h
  | x :: l, c, hb, h => by
    have h1 := hb x List.mem_cons_self
    exact crcAll_lt (l := l) (fun y hy => hb y (List.mem_cons_of_mem _ hy)) (steps_lt (xor_lt h (by omega)))
theorem crc_lt {l : List Int} (h : isBy l) : crc l < 4294967296 := xor_lt (crcAll_lt h (by omega)) (by omega)
theorem crcAll_snoc (c : Nat) (l : List Int) (x : Int) : crcAll c (l ++ [x]) = steps 8 (crcAll c l ^^^ x.toNat) := by
  unfold crcAll
  rw [List.foldl_append]
  rfl
theorem bof {a : Nat} (h : a < 4294967296) : (BitVec.ofInt 32 (a : Int)).toNat = a := by
  rw [BitVec.toNat_ofInt]
  omega
theorem w_u32' {z : Int} (h : 0 ≤ z ∧ z < 4294967296) : IntKind.u32.wrap z = z := by
  show (z % (2 : Int) ^ 32) = z
  omega
theorem bx32 {a b : Nat} (ha : a < 4294967296) (hb : b < 4294967296) : Go.bits .xor .u32 (a : Int) (b : Int) = ((a ^^^ b : Nat) : Int) := by
  have h := xor_lt ha hb
  show IntKind.u32.wrap (((BitVec.ofInt 32 (a : Int) ^^^ BitVec.ofInt 32 (b : Int)).toNat : Nat) : Int) = _
  rw [BitVec.toNat_xor, bof ha, bof hb, w_u32' (by omega)]
theorem ba32 {a b : Nat} (ha : a < 4294967296) (hb : b < 4294967296) : Go.bits .and .u32 (a : Int) (b : Int) = ((a &&& b : Nat) : Int) := by
  have h : a &&& b < 4294967296 := Nat.lt_of_le_of_lt Nat.and_le_left ha
  show IntKind.u32.wrap (((BitVec.ofInt 32 (a : Int) &&& BitVec.ofInt 32 (b : Int)).toNat : Nat) : Int) = _
  rw [BitVec.toNat_and, bof ha, bof hb, w_u32' (by omega)]
theorem bo32 {a b : Nat} (ha : a < 4294967296) (hb : b < 4294967296) : Go.bits .or .u32 (a : Int) (b : Int) = ((a ||| b : Nat) : Int) := by
  have h : a ||| b < 4294967296 := Nat.or_lt_two_pow (n := 32) ha hb
  show IntKind.u32.wrap (((BitVec.ofInt 32 (a : Int) ||| BitVec.ofInt 32 (b : Int)).toNat : Nat) : Int) = _
  rw [BitVec.toNat_or, bof ha, bof hb, w_u32' (by omega)]
theorem u_xor32 {a : Nat} (ha : a < 4294967296) : unV .xor (.int .u32 (a : Int)) = some (.int .u32 ((a ^^^ 4294967295 : Nat) : Int)) := by
  have h := xor_lt ha (b := 4294967295) (by omega)
  have e : unV .xor (.int .u32 (a : Int)) = some (.int .u32 (IntKind.u32.wrap ((BitVec.ofInt 32 4294967295 ^^^ BitVec.ofInt 32 (a : Int)).toNat : Nat))) := rfl
  rw [e, BitVec.toNat_xor, bof ha, show (BitVec.ofInt 32 4294967295).toNat = 4294967295 from rfl, Nat.xor_comm, w_u32' (by omega)]

/-! ### Numbers -/
def le : List Int → Nat
  | [] => 0
  | x :: l => x.toNat + 256 * le l
def lowB : Nat → Nat → List Int
  | 0, _ => []
  | k + 1, n => ((n % 256 : Nat) : Int) :: lowB k (n / 256)
theorem lowB_len : ∀ (k n : Nat), (lowB k n).length = k
  | 0, _ => rfl
  | k + 1, n => by rw [lowB, List.length_cons, lowB_len k]
theorem lowB_by : ∀ (k n : Nat), isBy (lowB k n)
  | 0, _ => fun x hx => by cases hx
  | k + 1, n => fun x hx => by
    rcases List.mem_cons.1 hx with rfl | hx
    · omega
    · exact lowB_by k _ x hx
theorem le_lowB : ∀ (k n : Nat), n < 256 ^ k → le (lowB k n) = n
  | 0, n, h => by rw [Nat.pow_zero] at h; show 0 = n; omega
  | k + 1, n, h => by
    rw [Nat.pow_succ] at h
    rw [lowB, le, le_lowB k (n / 256) (Nat.div_lt_of_lt_mul (by rw [Nat.mul_comm]; exact h))]
    omega
theorem lowB_le : ∀ {l : List Int}, isBy l → lowB l.length (le l) = l
  | [], _ => rfl
  | x :: l, h => by
    have h1 := h x List.mem_cons_self
    have ih := lowB_le (l := l) fun y hy => h y (List.mem_cons_of_mem _ hy)
    rw [List.length_cons, lowB, le, show (x.toNat + 256 * le l) / 256 = le l by omega, ih, show (x.toNat + 256 * le l) % 256 = x.toNat by omega]
    congr 1
    omega

/-! ### A member -/
structure Mem where
  name : List Int
  comment : List Int
  extra : List Int
  time : Nat
  flags : Int
  system : Int
  text : Bool
  sum : Bool
abbrev Ex (α : Type) := Except Int α
/-- the text at a place: it, and where it ends -/
def mtext (b : List Int) (at_ : Nat) : Ex (List Int × Nat) :=
  if 65535 < ((b.drop at_).takeWhile (· != 0)).length then .error 2 else if ((b.drop at_).takeWhile (· != 0)).length = (b.drop at_).length then .error 4 else .ok ((b.drop at_).takeWhile (· != 0), at_ + ((b.drop at_).takeWhile (· != 0)).length + 1)
def fl (b : List Int) : Nat := (b.getD 3 0).toNat
def mextra (b : List Int) : Ex (List Int × Nat) :=
  if fl b / 4 % 2 = 0 then .ok ([], 10) else if b.length < 12 then .error 4 else if b.length < 12 + le ((b.drop 10).take 2) then .error 4 else .ok ((b.drop 12).take (le ((b.drop 10).take 2)), 12 + le ((b.drop 10).take 2))
def mtextIf (b : List Int) (bit at_ : Nat) : Ex (List Int × Nat) := if fl b / bit % 2 = 0 then .ok ([], at_) else mtext b at_
def msum (b : List Int) (at_ : Nat) : Ex Nat :=
  if fl b / 2 % 2 = 0 then .ok at_ else if b.length < at_ + 2 then .error 4 else if le ((b.drop at_).take 2) = crc (b.take at_) % 65536 then .ok (at_ + 2) else .error 82
/-- the ten bytes at the beginning -/
def mten (b : List Int) : Ex Unit :=
  if b.length < 1 then .error 4 else if b.getD 0 0 ≠ 31 then .error 130 else if b.length < 2 then .error 4 else if b.getD 1 0 ≠ 139 then .error 130 else if b.length < 3 then .error 4 else if b.getD 2 0 ≠ 8 then .error 80 else if b.length < 4 then .error 4 else if 31 < fl b then .error 81 else if b.length < 10 then .error 4 else .ok ()
def mhead (b : List Int) : Ex (Mem × Nat) :=
  (mten b).bind fun _ => (mextra b).bind fun x => (mtextIf b 8 x.2).bind fun n => (mtextIf b 16 n.2).bind fun c => (msum b c.2).bind fun z => .ok (⟨n.1, c.1, x.1, le ((b.drop 4).take 4), b.getD 8 0, b.getD 9 0, fl b % 2 == 1, fl b / 2 % 2 == 1⟩, z)
/-- what stands behind a stream -/
def mtail (b : List Int) (at_ : Nat) (p : List Int) : Ex Nat :=
  if b.length < at_ + 8 then .error 4 else if le ((b.drop at_).take 4) ≠ crc p then .error 83 else if le ((b.drop (at_ + 4)).take 4) ≠ p.length then .error 84 else .ok (at_ + 8)
noncomputable def mbody (b : List Int) (most : Int) (at_ : Nat) : Ex (List Int × Nat) := if (decV (b.drop at_) most).2.2 ≠ 0 then .error (decV (b.drop at_) most).2.2 else (mtail b (at_ + (decV (b.drop at_) most).2.1) (decV (b.drop at_) most).1).bind fun z => .ok ((decV (b.drop at_) most).1, z)
noncomputable def mone (b : List Int) (most : Int) : Ex (List Int × Mem × Nat) :=
  if most < 0 ∨ 4194304 < most then .error 1 else (mhead b).bind fun h => (mbody b most h.2).bind fun x => .ok (x.1, h.1, x.2)
def zerosB (b : List Int) : Bool := b.all (· == 0)
noncomputable def mdec : Nat → Bool → List Int → Int → Ex (List Int × List Mem)
  | 0, _, _, _ => .error 0
  | f + 1, first, b, most => if first = false ∧ zerosB b = true then .ok ([], []) else match mone b most with
    | .error e => .error (if e = 130 ∧ first = false then 5 else e)
    | .ok (x, m, k) => match mdec f false (b.drop k) (most - x.length) with
      | .error e => .error e
      | .ok (y, l) => .ok (x ++ y, m :: l)
end Go.Proofs.YtgbhdpeibiglfaaDoor.S08

set_option linter.unusedVariables false
set_option linter.unusedSimpArgs false
namespace Go.Proofs.YtgbhdpeibiglfaaDoor.S08
open Go Go.RowKit Go.Proofs.YtgbhdpeibiglfaaDoor.Sep Go.Proofs.YtgbhdpeibiglfaaDoor.Low Go.Proofs.YtgbhdpeibiglfaaDoor.S05 Go.Proofs.YtgbhdpeibiglfaaDoor.S06
open Go.Proofs.YtgbhdpeibiglfaaDoor.Lib hiding by8 by8_scalar

theorem and1 {c : Nat} : c &&& 1 = c % 2 := Nat.and_one_is_mod c
theorem shr1 {c : Nat} : ((c : Int)).fdiv (2 ^ min 1 32) = ((c / 2 : Nat) : Int) := by
  have e : (2 : Int) ^ min 1 32 = 2 := by decide
  rw [e, f_div (by omega)]
  omega
set_option maxHeartbeats 2000000 in
theorem gsum_spec {H : Heap} {A : Option Addr} {n c : Nat} {l : List Int} (hr : Row H A (by8 l)) (hn : n = l.length) (hb : isBy l) (hl : l.length ≤ 211106232532992) :
    ACalls Tryd.prog 26 [Value.slice A n c].toArray H fun e H' => e = .returned (.int .u32 ((crc l : Nat) : Int)) ∧ H' = H := by
  subst hn
  refine call26 (Nat.le_of_ble_eq_true rfl) ?_
  unfold L26 env0
  simp -implicitDefEqProofs (maxSteps := 1000000) (disch := first | omega | assumption) only [Sx, Nat.reduceEqDiff, reduceCtorEq]
  refine c_loop (fun k env H' => ∃ i, k + i = l.length ∧ env 3 = .int .u32 ((crcAll 4294967295 (l.take i) : Nat) : Int) ∧ env 7 = .slice A l.length c ∧ env 8 = .int .i64 (l.length : Nat) ∧ env 9 = .int .i64 (i : Nat) ∧ H' = H) l.length ⟨0, by omega, by (first | exact True.intro | rfl | assumption), by (first | exact True.intro | rfl | assumption), by (first | exact True.intro | rfl | assumption), by (first | exact True.intro | rfl | assumption), rfl⟩ ?_
  rintro k env H1 ⟨i, hk, g3, g7, g8, g9, rfl⟩
  unfold L26_2
  have hlt := crcAll_lt (c := 4294967295) (hb.take i) (by omega)
  obtain ⟨z, hz⟩ : ∃ z, z = crcAll 4294967295 (l.take i) := ⟨_, rfl⟩
  rw [← hz] at g3 hlt
  by_cases hi : i < l.length
  · have f0 : decide ((i : Int) < (l.length : Int)) = true := decide_eq_true (by omega)
    have hin : (0 : Int) ≤ (i : Int) ∧ (i : Int) < (l.length : Nat) := by omega
    obtain ⟨b, rfl, hcell⟩ := by_at hr hi
    have hx := hb.at hi
    have hsn : crcAll 4294967295 (l.take (i + 1)) = steps 8 (z ^^^ l[i].toNat) := by
      rw [List.take_succ_eq_append_getElem hi, crcAll_snoc, hz]
    obtain ⟨x, hxd⟩ : ∃ x : Nat, (x : Int) = l[i] := ⟨l[i].toNat, by omega⟩
    rw [← hxd] at hcell hx hsn
    rw [Int.toNat_natCast] at hsn
    have e1 : IntKind.u32.wrap (x : Int) = (x : Int) := w_u32' (by omega)
    have e2 := bx32 hlt (b := x) (by omega)
    have hlt2 := xor_lt hlt (b := x) (by omega)
    simp -implicitDefEqProofs (maxSteps := 1000000) (disch := first | omega | assumption) only [g3, g7, g8, g9, f0, hcell, e1, e2, Sx, Nat.reduceEqDiff]
    refine c_loop (fun j env H' => ∃ d m, j + m = 8 ∧ d < 4294967296 ∧ steps j d = steps 8 (z ^^^ x) ∧ env 3 = .int .u32 (d : Nat) ∧ env 7 = .slice (some b) l.length c ∧ env 8 = .int .i64 (l.length : Nat) ∧ env 9 = .int .i64 (i : Nat) ∧ env 17 = .int .i64 (m : Nat) ∧ H' = H1) 8 ⟨z ^^^ x, 0, by omega, hlt2, rfl, by (first | exact True.intro | rfl | assumption), by simp -implicitDefEqProofs (maxSteps := 1000000) (disch := first | omega | assumption) only [g7, Sx, Nat.reduceEqDiff], by simp -implicitDefEqProofs (maxSteps := 1000000) (disch := first | omega | assumption) only [g8, Sx, Nat.reduceEqDiff], by simp -implicitDefEqProofs (maxSteps := 1000000) (disch := first | omega | assumption) only [g9, Sx, Nat.reduceEqDiff], by (first | exact True.intro | rfl | assumption), rfl⟩ ?_
    rintro j env2 H2 ⟨d, m, hj, hd, hst, g3, g7, g8, g9, g17, rfl⟩
    unfold L26_1
    by_cases hm : m < 8
    · have f1 : decide ((m : Int) < 8) = true := decide_eq_true (by omega)
      have ea : Go.bits .and .u32 (d : Int) 1 = ((d % 2 : Nat) : Int) := by
        have h := ba32 hd (b := 1) (by omega)
        rw [and1] at h
        exact h
      have eb : IntKind.u32.bits = 32 := rfl
      obtain ⟨j, rfl⟩ : ∃ j', j = j' + 1 := ⟨j - 1, by omega⟩
      rw [steps] at hst
      have hd2 := crcStep_lt hd
      unfold L26_0
      by_cases ho : d % 2 = 1
      · have hcs : crcStep d = (d / 2) ^^^ 3988292384 := if_pos ho
        have f2 : (((d % 2 : Nat) : Int) == 1) = true := by rw [beq_iff_eq]; omega
        have e3 : Go.bits .xor .u32 ((d / 2 : Nat) : Int) 3988292384 = (((d / 2) ^^^ 3988292384 : Nat) : Int) := bx32 (a := d / 2) (b := 3988292384) (by omega) (by omega)
        rw [hcs] at hst hd2
        simp -implicitDefEqProofs (maxSteps := 1000000) (disch := first | omega | assumption) only [g3, g7, g8, g9, g17, f1, ea, f2, eb, shr1, e3, v_and, v_xor, v_shr, Sx, Nat.reduceEqDiff, Zx]
        exact ⟨j, by omega, _, m + 1, by omega, hd2, hst, by (first | exact True.intro | rfl | assumption), by simp -implicitDefEqProofs (maxSteps := 1000000) (disch := first | omega | assumption) only [], by simp -implicitDefEqProofs (maxSteps := 1000000) (disch := first | omega | assumption) only [], by simp -implicitDefEqProofs (maxSteps := 1000000) (disch := first | omega | assumption) only [], by simp, by (first | exact True.intro | rfl | assumption)⟩
      · have hcs : crcStep d = d / 2 := if_neg ho
        have f2 : (((d % 2 : Nat) : Int) == 1) = false := by rw [beq_eq_false_iff_ne]; omega
        rw [hcs] at hst hd2
        simp -implicitDefEqProofs (maxSteps := 1000000) (disch := first | omega | assumption) only [g3, g7, g8, g9, g17, f1, ea, f2, eb, shr1, v_and, v_shr, Sx, Nat.reduceEqDiff, Zx]
        exact ⟨j, by omega, _, m + 1, by omega, hd2, hst, by (first | exact True.intro | rfl | assumption), by simp -implicitDefEqProofs (maxSteps := 1000000) (disch := first | omega | assumption) only [], by simp -implicitDefEqProofs (maxSteps := 1000000) (disch := first | omega | assumption) only [], by simp -implicitDefEqProofs (maxSteps := 1000000) (disch := first | omega | assumption) only [], by simp, by (first | exact True.intro | rfl | assumption)⟩
    · have f1 : decide ((m : Int) < 8) = false := decide_eq_false (by omega)
      obtain rfl : j = 0 := by omega
      rw [steps] at hst
      simp -implicitDefEqProofs (maxSteps := 1000000) (disch := first | omega | assumption) only [g3, g7, g8, g9, g17, f1, Sx, Nat.reduceEqDiff, reduceCtorEq]
      exact ⟨k - 1, by omega, i + 1, by omega, by rw [hsn, ← hst], by (first | exact True.intro | rfl | assumption), by (first | exact True.intro | rfl | assumption), by simp, by (first | exact True.intro | rfl | assumption)⟩
  · have f0 : decide ((i : Int) < (l.length : Int)) = false := decide_eq_false (by omega)
    have ux := u_xor32 hlt
    rw [List.take_of_length_le (by omega)] at hz
    unfold L26_3
    simp -implicitDefEqProofs (maxSteps := 1000000) (disch := first | omega | assumption) only [g3, g8, g9, f0, ux, Sx, Nat.reduceEqDiff]
    exact ⟨by rw [hz]; rfl, by (first | exact True.intro | rfl | assumption)⟩
set_option maxHeartbeats 2000000 in
theorem dsum_spec {H : Heap} {A : Option Addr} {n c : Nat} {l : List Int} (hr : Row H A (by8 l)) (hn : n = l.length) (hb : isBy l) (hl : l.length ≤ 211106232532992) :
    ACalls Tryd.prog 30 [Value.slice A n c].toArray H fun e H' => e = .returned (.int .u32 ((crc l : Nat) : Int)) ∧ H' = H := by
  subst hn
  refine call30 (Nat.le_of_ble_eq_true rfl) ?_
  unfold L30 env0
  simp -implicitDefEqProofs (maxSteps := 1000000) (disch := first | omega | assumption) only [Sx, reduceCtorEq]
  refine c_loop (fun k env H' => ∃ i, k + i = l.length ∧ env 3 = .int .u32 ((crcAll 4294967295 (l.take i) : Nat) : Int) ∧ env 0 = .slice A l.length c ∧ env 4 = .int .i64 (i : Nat) ∧ H' = H) l.length ⟨0, by omega, by (first | exact True.intro | rfl | assumption), by (first | exact True.intro | rfl | assumption), by (first | exact True.intro | rfl | assumption), rfl⟩ ?_
  rintro k env H1 ⟨i, hk, g3, g0, g4, rfl⟩
  unfold L30_2
  have hlt := crcAll_lt (c := 4294967295) (hb.take i) (by omega)
  obtain ⟨z, hz⟩ : ∃ z, z = crcAll 4294967295 (l.take i) := ⟨_, rfl⟩
  rw [← hz] at g3 hlt
  by_cases hi : i < l.length
  · have f0 : decide ((i : Int) < (l.length : Int)) = true := decide_eq_true (by omega)
    have hin : (0 : Int) ≤ (i : Int) ∧ (i : Int) < (l.length : Nat) := by omega
    obtain ⟨b, rfl, hcell⟩ := by_at hr hi
    have hx := hb.at hi
    have hsn : crcAll 4294967295 (l.take (i + 1)) = steps 8 (z ^^^ l[i].toNat) := by
      rw [List.take_succ_eq_append_getElem hi, crcAll_snoc, hz]
    obtain ⟨x, hxd⟩ : ∃ x : Nat, (x : Int) = l[i] := ⟨l[i].toNat, by omega⟩
    rw [← hxd] at hcell hx hsn
    rw [Int.toNat_natCast] at hsn
    have e1 : IntKind.u32.wrap (x : Int) = (x : Int) := w_u32' (by omega)
    have e2 := bx32 hlt (b := x) (by omega)
    have hlt2 := xor_lt hlt (b := x) (by omega)
    simp -implicitDefEqProofs (maxSteps := 1000000) (disch := first | omega | assumption) only [g3, g0, g4, f0, hcell, e1, e2, Sx, Nat.reduceEqDiff, reduceCtorEq]
    refine c_loop (fun j env H' => ∃ d m, j + m = 8 ∧ d < 4294967296 ∧ steps j d = steps 8 (z ^^^ x) ∧ env 3 = .int .u32 (d : Nat) ∧ env 0 = .slice (some b) l.length c ∧ env 4 = .int .i64 (i : Nat) ∧ env 5 = .int .i64 (m : Nat) ∧ H' = H1) 8 ⟨z ^^^ x, 0, by omega, hlt2, rfl, by (first | exact True.intro | rfl | assumption), by simp -implicitDefEqProofs (maxSteps := 1000000) (disch := first | omega | assumption) only [g0, Sx, reduceCtorEq], by simp -implicitDefEqProofs (maxSteps := 1000000) (disch := first | omega | assumption) only [g4, Sx, Nat.reduceEqDiff], by (first | exact True.intro | rfl | assumption), rfl⟩ ?_
    rintro j env2 H2 ⟨d, m, hj, hd, hst, g3, g0, g4, g5, rfl⟩
    unfold L30_1
    by_cases hm : m < 8
    · have f1 : decide ((m : Int) < 8) = true := decide_eq_true (by omega)
      have eb : IntKind.u32.bits = 32 := rfl
      obtain ⟨j, rfl⟩ : ∃ j', j = j' + 1 := ⟨j - 1, by omega⟩
      rw [steps] at hst
      have hd2 := crcStep_lt hd
      unfold L30_0
      by_cases ho : d % 2 = 1
      · have hcs : crcStep d = (d / 2) ^^^ 3988292384 := if_pos ho
        have f2 : (((d : Int) % 2) == 1) = true := by rw [beq_iff_eq]; omega
        have e3 : Go.bits .xor .u32 ((d / 2 : Nat) : Int) 3988292384 = (((d / 2) ^^^ 3988292384 : Nat) : Int) := bx32 (a := d / 2) (b := 3988292384) (by omega) (by omega)
        rw [hcs] at hst hd2
        simp -implicitDefEqProofs (maxSteps := 1000000) (disch := first | omega | assumption) only [g3, g0, g4, g5, f1, f2, eb, shr1, e3, v_xor, v_shr, Sx, Nat.reduceEqDiff, reduceCtorEq, Zx]
        exact ⟨j, by omega, _, m + 1, by omega, hd2, hst, by (first | exact True.intro | rfl | assumption), by simp -implicitDefEqProofs (maxSteps := 1000000) (disch := first | omega | assumption) only [], by simp -implicitDefEqProofs (maxSteps := 1000000) (disch := first | omega | assumption) only [], by simp, by (first | exact True.intro | rfl | assumption)⟩
      · have hcs : crcStep d = d / 2 := if_neg ho
        have f2 : (((d : Int) % 2) == 1) = false := by rw [beq_eq_false_iff_ne]; omega
        rw [hcs] at hst hd2
        simp -implicitDefEqProofs (maxSteps := 1000000) (disch := first | omega | assumption) only [g3, g0, g4, g5, f1, f2, eb, shr1, v_shr, Sx, Nat.reduceEqDiff, reduceCtorEq, Zx]
        exact ⟨j, by omega, _, m + 1, by omega, hd2, hst, by (first | exact True.intro | rfl | assumption), by simp -implicitDefEqProofs (maxSteps := 1000000) (disch := first | omega | assumption) only [], by simp -implicitDefEqProofs (maxSteps := 1000000) (disch := first | omega | assumption) only [], by simp, by (first | exact True.intro | rfl | assumption)⟩
    · have f1 : decide ((m : Int) < 8) = false := decide_eq_false (by omega)
      obtain rfl : j = 0 := by omega
      rw [steps] at hst
      simp -implicitDefEqProofs (maxSteps := 1000000) (disch := first | omega | assumption) only [g3, g0, g4, g5, f1, Sx, Nat.reduceEqDiff, reduceCtorEq]
      exact ⟨k - 1, by omega, i + 1, by omega, by rw [hsn, ← hst], by (first | exact True.intro | rfl | assumption), by simp, by (first | exact True.intro | rfl | assumption)⟩
  · have f0 : decide ((i : Int) < (l.length : Int)) = false := decide_eq_false (by omega)
    have ux : Go.bits .xor .u32 (z : Int) 4294967295 = ((z ^^^ 4294967295 : Nat) : Int) := bx32 (b := 4294967295) hlt (by omega)
    rw [List.take_of_length_le (by omega)] at hz
    unfold L30_3
    simp -implicitDefEqProofs (maxSteps := 1000000) (disch := first | omega | assumption) only [g3, g0, g4, f0, ux, v_xor, Sx, Nat.reduceEqDiff, reduceCtorEq]
    exact ⟨by rw [hz]; rfl, by (first | exact True.intro | rfl | assumption)⟩
end Go.Proofs.YtgbhdpeibiglfaaDoor.S08

set_option linter.unusedVariables false
set_option linter.unusedSimpArgs false
namespace Go.Proofs.YtgbhdpeibiglfaaDoor.S08
open Go Go.RowKit Go.Proofs.YtgbhdpeibiglfaaDoor.Sep Go.Proofs.YtgbhdpeibiglfaaDoor.Low Go.Proofs.YtgbhdpeibiglfaaDoor.S05 Go.Proofs.YtgbhdpeibiglfaaDoor.S06
open Go.Proofs.YtgbhdpeibiglfaaDoor.Lib hiding by8 by8_scalar

theorem or_add {x y k : Nat} (h : x < 2 ^ k) : x ||| (y * 2 ^ k) = x + y * 2 ^ k := by
  have := Nat.two_pow_add_eq_or_of_lt h y
  rw [Nat.or_comm, Nat.mul_comm y, ← this]
  omega
theorem le4 {a b c d : Int} (l : List Int) : le ((a :: b :: c :: d :: l).take 4) = a.toNat + b.toNat * 256 + c.toNat * 65536 + d.toNat * 16777216 := by
  show le [a, b, c, d] = _
  simp only [le]
  omega
theorem le2 {a b : Int} (l : List Int) : le ((a :: b :: l).take 2) = a.toNat + b.toNat * 256 := by
  show le [a, b] = _
  simp only [le]
  omega
theorem f4_of {l : List Int} (h : 4 ≤ l.length) : ∃ a b c d r, l = a :: b :: c :: d :: r := by
  match l, h with
  | a :: b :: c :: d :: r, _ => exact ⟨a, b, c, d, r, rfl⟩
theorem f2_of {l : List Int} (h : 2 ≤ l.length) : ∃ a b r, l = a :: b :: r := by
  match l, h with
  | a :: b :: r, _ => exact ⟨a, b, r, rfl⟩
set_option maxHeartbeats 2000000 in
theorem get32_spec {H : Heap} {A : Option Addr} {n c : Nat} {l : List Int} (hr : Row H A (by8 l)) (hn : n = l.length) (hb : isBy l) (hl : 4 ≤ l.length) :
    ACalls Tryd.prog 25 [Value.slice A n c].toArray H fun e H' => e = .returned (.int .u32 ((le (l.take 4) : Nat) : Int)) ∧ H' = H := by
  subst hn
  refine call25 (Nat.le_of_ble_eq_true rfl) ?_
  unfold L25 env0
  obtain ⟨x0, x1, x2, x3, r, rfl⟩ := f4_of hl
  have i0 : (0 : Int) ≤ 0 ∧ (0 : Int) < ((x0 :: x1 :: x2 :: x3 :: r).length : Nat) := by rw [List.length_cons]; omega
  have i1 : (0 : Int) ≤ 1 ∧ (1 : Int) < ((x0 :: x1 :: x2 :: x3 :: r).length : Nat) := by simp only [List.length_cons]; omega
  have i2 : (0 : Int) ≤ 2 ∧ (2 : Int) < ((x0 :: x1 :: x2 :: x3 :: r).length : Nat) := by simp only [List.length_cons]; omega
  have i3 : (0 : Int) ≤ 3 ∧ (3 : Int) < ((x0 :: x1 :: x2 :: x3 :: r).length : Nat) := by simp only [List.length_cons]; omega
  obtain ⟨b, rfl, c0⟩ := by_at hr (i := 0) (by simp)
  obtain ⟨_, ee, c1⟩ := by_at hr (i := 1) (by simp)
  cases ee
  obtain ⟨_, ee, c2⟩ := by_at hr (i := 2) (by simp)
  cases ee
  obtain ⟨_, ee, c3⟩ := by_at hr (i := 3) (by simp)
  cases ee
  have h0 := hb x0 (by simp)
  have h1 := hb x1 (by simp)
  have h2 := hb x2 (by simp)
  have h3 := hb x3 (by simp)
  rw [le4]
  obtain ⟨y0, hy0⟩ : ∃ y : Nat, (y : Int) = x0 := ⟨x0.toNat, by omega⟩
  obtain ⟨y1, hy1⟩ : ∃ y : Nat, (y : Int) = x1 := ⟨x1.toNat, by omega⟩
  obtain ⟨y2, hy2⟩ : ∃ y : Nat, (y : Int) = x2 := ⟨x2.toNat, by omega⟩
  obtain ⟨y3, hy3⟩ : ∃ y : Nat, (y : Int) = x3 := ⟨x3.toNat, by omega⟩
  obtain ⟨N, hN⟩ : ∃ N, N = (x0 :: x1 :: x2 :: x3 :: r).length := ⟨_, rfl⟩
  rw [← hN] at i0 i1 i2 i3 ⊢
  have d0 : H.cell? (b.add 0) = some (.int .u8 (y0 : Int)) := by rw [hy0]; exact c0
  have d1 : H.cell? (b.add 1) = some (.int .u8 (y1 : Int)) := by rw [hy1]; exact c1
  have d2 : H.cell? (b.add 2) = some (.int .u8 (y2 : Int)) := by rw [hy2]; exact c2
  have d3 : H.cell? (b.add 3) = some (.int .u8 (y3 : Int)) := by rw [hy3]; exact c3
  rw [add_zero_a] at d0
  rw [← hy0, ← hy1, ← hy2, ← hy3, Int.toNat_natCast, Int.toNat_natCast, Int.toNat_natCast, Int.toNat_natCast]
  have t0 : (0 : Int).toNat = 0 := rfl
  have t1 : (1 : Int).toNat = 1 := rfl
  have t2 : (2 : Int).toNat = 2 := rfl
  have t3 : (3 : Int).toNat = 3 := rfl
  have w0 : IntKind.u32.wrap (y0 : Int) = (y0 : Int) := w_u32' (by omega)
  have w1 : IntKind.u32.wrap (y1 : Int) = (y1 : Int) := w_u32' (by omega)
  have w2 : IntKind.u32.wrap (y2 : Int) = (y2 : Int) := w_u32' (by omega)
  have w3 : IntKind.u32.wrap (y3 : Int) = (y3 : Int) := w_u32' (by omega)
  have e8 : (2 : Int) ^ min (8 : Int).toNat 32 = 256 := by decide
  have e16 : (2 : Int) ^ min (16 : Int).toNat 32 = 65536 := by decide
  have e24 : (2 : Int) ^ min (24 : Int).toNat 32 = 16777216 := by decide
  have s1 : IntKind.u32.wrap ((y1 : Int) * 256) = ((y1 * 256 : Nat) : Int) := by rw [w_u32' (by omega)]; omega
  have s2 : IntKind.u32.wrap ((y2 : Int) * 65536) = ((y2 * 65536 : Nat) : Int) := by rw [w_u32' (by omega)]; omega
  have s3 : IntKind.u32.wrap ((y3 : Int) * 16777216) = ((y3 * 16777216 : Nat) : Int) := by rw [w_u32' (by omega)]; omega
  have o1 : Go.bits .or .u32 (y0 : Int) ((y1 * 256 : Nat) : Int) = ((y0 + y1 * 256 : Nat) : Int) := by
    rw [bo32 (by omega) (by omega), or_add (k := 8) (by omega)]
  have o2 : Go.bits .or .u32 ((y0 + y1 * 256 : Nat) : Int) ((y2 * 65536 : Nat) : Int) = ((y0 + y1 * 256 + y2 * 65536 : Nat) : Int) := by
    rw [bo32 (by omega) (by omega), or_add (k := 16) (by omega)]
  have o3 : Go.bits .or .u32 ((y0 + y1 * 256 + y2 * 65536 : Nat) : Int) ((y3 * 16777216 : Nat) : Int) = ((y0 + y1 * 256 + y2 * 65536 + y3 * 16777216 : Nat) : Int) := by
    rw [bo32 (by omega) (by omega), or_add (k := 24) (by omega)]
  simp -implicitDefEqProofs (maxSteps := 1000000) (disch := first | omega | assumption) only [d0, d1, d2, d3, t2, t3, w0, w1, w2, w3, e8, e16, e24, s1, s2, s3, o1, o2, o3, v_or, v_shl, bits_u32, Sx, Nat.reduceEqDiff, reduceCtorEq, Zx]
  exact ⟨by (first | exact True.intro | rfl | assumption), by (first | exact True.intro | rfl | assumption)⟩
theorem bo16 {a b : Nat} (ha : a < 65536) (hb : b < 65536) : Go.bits .or .u16 (a : Int) (b : Int) = ((a ||| b : Nat) : Int) := by
  have h : a ||| b < 65536 := Nat.or_lt_two_pow (n := 16) ha hb
  show IntKind.u16.wrap (((BitVec.ofInt 16 (a : Int) ||| BitVec.ofInt 16 (b : Int)).toNat : Nat) : Int) = _
  have e : ∀ {a : Nat}, a < 65536 → (BitVec.ofInt 16 (a : Int)).toNat = a := fun h => by rw [BitVec.toNat_ofInt]; omega
  rw [BitVec.toNat_or, e ha, e hb]
  show ((a ||| b : Nat) : Int) % (2 : Int) ^ 16 = _
  omega
theorem w_u16' {z : Int} (h : 0 ≤ z ∧ z < 65536) : IntKind.u16.wrap z = z := by
  show (z % (2 : Int) ^ 16) = z
  omega
set_option maxHeartbeats 2000000 in
theorem get16_spec {H : Heap} {A : Option Addr} {n c : Nat} {l : List Int} (hr : Row H A (by8 l)) (hn : n = l.length) (hb : isBy l) (hl : 2 ≤ l.length) :
    ACalls Tryd.prog 39 [Value.slice A n c].toArray H fun e H' => e = .returned (.int .u16 ((le (l.take 2) : Nat) : Int)) ∧ H' = H := by
  subst hn
  refine call39 (Nat.le_of_ble_eq_true rfl) ?_
  unfold L39 env0
  obtain ⟨x0, x1, r, rfl⟩ := f2_of hl
  have i0 : (0 : Int) ≤ 0 ∧ (0 : Int) < ((x0 :: x1 :: r).length : Nat) := by rw [List.length_cons]; omega
  have i1 : (0 : Int) ≤ 1 ∧ (1 : Int) < ((x0 :: x1 :: r).length : Nat) := by simp only [List.length_cons]; omega
  obtain ⟨b, rfl, c0⟩ := by_at hr (i := 0) (by simp)
  obtain ⟨_, ee, c1⟩ := by_at hr (i := 1) (by simp)
  cases ee
  have h0 := hb x0 (by simp)
  have h1 := hb x1 (by simp)
  rw [le2]
  obtain ⟨y0, hy0⟩ : ∃ y : Nat, (y : Int) = x0 := ⟨x0.toNat, by omega⟩
  obtain ⟨y1, hy1⟩ : ∃ y : Nat, (y : Int) = x1 := ⟨x1.toNat, by omega⟩
  obtain ⟨N, hN⟩ : ∃ N, N = (x0 :: x1 :: r).length := ⟨_, rfl⟩
  rw [← hN] at i0 i1 ⊢
  have d0 : H.cell? (b.add 0) = some (.int .u8 (y0 : Int)) := by rw [hy0]; exact c0
  have d1 : H.cell? (b.add 1) = some (.int .u8 (y1 : Int)) := by rw [hy1]; exact c1
  rw [add_zero_a] at d0
  rw [← hy0, ← hy1, Int.toNat_natCast, Int.toNat_natCast]
  have w0 : IntKind.u16.wrap (y0 : Int) = (y0 : Int) := w_u16' (by omega)
  have w1 : IntKind.u16.wrap (y1 : Int) = (y1 : Int) := w_u16' (by omega)
  have e8 : (2 : Int) ^ min (8 : Int).toNat 16 = 256 := by decide
  have s1 : IntKind.u16.wrap ((y1 : Int) * 256) = ((y1 * 256 : Nat) : Int) := by rw [w_u16' (by omega)]; omega
  have o1 : Go.bits .or .u16 (y0 : Int) ((y1 * 256 : Nat) : Int) = ((y0 + y1 * 256 : Nat) : Int) := by
    rw [bo16 (by omega) (by omega), or_add (k := 8) (by omega)]
  simp -implicitDefEqProofs (maxSteps := 1000000) (disch := first | omega | assumption) only [d0, d1, w0, w1, e8, s1, o1, v_or, v_shl, bits_u16, Sx, Nat.reduceEqDiff, reduceCtorEq, Zx]
  exact ⟨by (first | exact True.intro | rfl | assumption), by (first | exact True.intro | rfl | assumption)⟩
/-- a reader over bytes -/
structure GAt (H : Heap) (p q o c : Nat) (b : List Int) (t : Nat) : Prop where
  blk : H p = some (.cells #[.slice (some ⟨q, o, none⟩) b.length c, .int .i64 (t : Nat)] 45 (0, 0))
  row : Row H (some ⟨q, o, none⟩) (by8 b)
  cap : b.length ≤ c
  le : t ≤ b.length
  byt : isBy b
  small : b.length ≤ 137438953472
  ne : q ≠ p
  kn : H q ≠ none
theorem GAt.keep {H H' : Heap} {p q o c : Nat} {b : List Int} {t : Nat} (g : GAt H p q o c b t) (hk : Keep H H') : GAt H' p q o c b t := ⟨hk _ _ g.blk, hk.row g.row, g.cap, g.le, g.byt, g.small, g.ne, fun h => g.kn (hk.none h)⟩
theorem GAt.upd {H H2 : Heap} {p q o c : Nat} {b : List Int} {t t' : Nat} (g : GAt H p q o c b t) (ht : t' ≤ b.length) (h2 : H2 = H.set p (.cells #[.slice (some ⟨q, o, none⟩) b.length c, .int .i64 (t' : Nat)] 45 (0, 0))) : GAt H2 p q o c b t' ∧ Only (· = p) H H2 := by
  have ho : Only (· = p) H H2 := by rw [h2]; exact (Only.refl _ _).set (.inl rfl)
  exact ⟨⟨by rw [h2]; exact set_same, S05.Row.only g.row ho (fun x hx => by cases hx; exact g.ne), g.cap, ht, g.byt, g.small, g.ne, fun h => g.kn (ho.none h)⟩, ho⟩
theorem GAt.other {S : Nat → Prop} {H H' : Heap} {p q o c : Nat} {b : List Int} {t : Nat} (g : GAt H p q o c b t) (ho : Only S H H') (h1 : ¬ S p) (h2 : ¬ S q) : GAt H' p q o c b t := ⟨ho.oth _ _ g.blk h1, S05.Row.only g.row ho (fun x hx => by cases hx; exact h2), g.cap, g.le, g.byt, g.small, g.ne, fun h => g.kn (ho.none h)⟩
theorem GAt.sub {H : Heap} {p q o c : Nat} {b : List Int} {t' : Nat} (g : GAt H p q o c b t') (t n : Nat) : Row H (cutA (some ⟨q, o, none⟩) c t 1) (by8 ((b.drop t).take n)) := row_take (row_drop g.row g.cap)
theorem cut_at {q o c t : Nat} : ∃ o', cutA (some ⟨q, o, none⟩) c t 1 = some ⟨q, o', none⟩ := by
  unfold cutA
  split
  · exact ⟨o, rfl⟩
  · exact ⟨o + t * 1, by rw [Option.map_some, add_mk]⟩
theorem drop_one {b : List Int} {t : Nat} (h : t < b.length) : (b.drop t).take 1 = [b[t]] := by
  rw [List.drop_eq_getElem_cons h]
  rfl
theorem GAt.cell {H : Heap} {p q o c : Nat} {b : List Int} {t' t o' : Nat} (g : GAt H p q o c b t') (h : t < b.length) (hc : cutA (some ⟨q, o, none⟩) c t 1 = some ⟨q, o', none⟩) : H.cell? ⟨q, o', none⟩ = some (.int .u8 b[t]) := by
  have hr := g.sub t 1
  rw [drop_one h, hc] at hr
  obtain ⟨x, e, h0⟩ := by_at hr (i := 0) (by simp)
  cases e
  rwa [add_zero_a] at h0
set_option maxHeartbeats 2000000 in
theorem take_spec {H : Heap} {p q o c : Nat} {b : List Int} {t n : Nat} (g : GAt H p q o c b t) (hn : n ≤ 9223372036854775807) :
    ACalls Tryd.prog 24 [Value.pointer (some ⟨p, 0, none⟩), .int .i64 (n : Nat)].toArray H fun e H' =>
      (t + n ≤ b.length ∧ e = .returned (.slice (cutA (some ⟨q, o, none⟩) c t 1) n (c - t)) ∧ GAt H' p q o c b (t + n) ∧ Only (· = p) H H') ∨ (b.length < t + n ∧ e = pnc 4 ∧ H' = H) := by
  refine call24 (Nat.le_of_ble_eq_true rfl) ?_
  unfold L24 env0
  have hle := g.le
  have hsm := g.small
  have hcap := g.cap
  by_cases h : t + n ≤ b.length
  · have f0 : decide ((b.length : Int) - (t : Int) < (n : Int)) = false := decide_eq_false (by omega)
    have ea : IntKind.i64.wrap ((t : Int) + (n : Int)) = ((t + n : Nat) : Int) := by rw [w_i64 (by omega)]; omega
    have es : ((t + n : Nat) : Int) - (n : Int) = (t : Int) := by omega
    obtain ⟨g2, ho⟩ := g.upd (t' := t + n) h rfl
    simp -implicitDefEqProofs (maxSteps := 1000000) (disch := first | omega | assumption) only [cell_of g.blk, ev_nilc, f0, Sx, Nat.reduceEqDiff, reduceCtorEq]
    unfold L24_0
    simp -implicitDefEqProofs (maxSteps := 1000000) (disch := first | omega | assumption) only [cell_of g.blk, ev_nilc, ea, Sx, Nat.reduceEqDiff, reduceCtorEq]
    refine st_one (o := 1) g.blk (by simp) rfl ?_
    have hin : (0 : Int) ≤ (t : Int) ∧ (t : Int) ≤ ((t + n : Nat) : Int) ∧ ((t + n : Nat) : Int) ≤ (c : Nat) := by omega
    try simp -implicitDefEqProofs (maxSteps := 1000000) (disch := first | omega | assumption) only [ev_nilc, es, ev_slc_lohi, Sx, Nat.reduceEqDiff, reduceCtorEq]
    exact .inl ⟨h, by rw [Nat.add_sub_cancel_left], g2, ho⟩
  · have f0 : decide ((b.length : Int) - (t : Int) < (n : Int)) = true := decide_eq_true (by omega)
    simp -implicitDefEqProofs (maxSteps := 1000000) (disch := first | omega | assumption) only [cell_of g.blk, ev_nilc, f0, Sx, Nat.reduceEqDiff, reduceCtorEq]
    refine a_pan ?_
    exact .inr ⟨by omega, by (first | exact True.intro | rfl | assumption), by (first | exact True.intro | rfl | assumption)⟩
set_option maxHeartbeats 2000000 in
theorem must_spec {H : Heap} {p q o c f : Nat} {b : List Int} {t : Nat} {P : Int → Bool} {why : Int} (g : GAt H p q o c b t) (hc : callable Tryd.prog f = true) (hf : ∀ (H' : Heap) (x : Int), 0 ≤ x ∧ x < 256 → ACalls Tryd.prog f [Value.int .u8 x].toArray H' fun e H2 => e = .returned (.bool (P x)) ∧ H2 = H') :
    ACalls Tryd.prog 33 [Value.pointer (some ⟨p, 0, none⟩), .func (.func f) #[] #[], .int .i64 why].toArray H fun e H' =>
      (∃ h : t < b.length, P b[t] = true ∧ e = .returned (.int .u8 b[t]) ∧ GAt H' p q o c b (t + 1) ∧ Only (· = p) H H') ∨ (∃ h : t < b.length, P b[t] = false ∧ e = pnc why ∧ Only (· = p) H H') ∨ (b.length ≤ t ∧ e = pnc 4 ∧ H' = H) := by
  refine call33 (Nat.le_of_ble_eq_true rfl) ?_
  unfold L33 env0
  simp -implicitDefEqProofs (maxSteps := 1000000) (disch := first | omega | assumption) only [Sx, Nat.reduceEqDiff, reduceCtorEq]
  refine a_call (take_spec (n := 1) g (by omega)) ?_
  rintro e H1 (⟨h, rfl, g1, ho⟩ | ⟨h, rfl, rfl⟩)
  · have hlt : t < b.length := by omega
    obtain ⟨o', hcu⟩ := cut_at (q := q) (o := o) (c := c) (t := t)
    have c0' := g1.cell hlt hcu
    obtain ⟨x, hx⟩ : ∃ x, x = b[t] := ⟨_, rfl⟩
    have hxb := g.byt.at hlt
    rw [← hx] at c0' hxb
    rw [hcu]
    have i0 : (0 : Int) ≤ 0 ∧ (0 : Int) < ((1 : Nat) : Int) := by omega
    simp -implicitDefEqProofs (maxSteps := 1000000) (disch := first | omega | assumption) only [c0', Sx, Nat.reduceEqDiff, Zx, endK]
    refine a_callv hc (hf H1 x hxb) ?_
    rintro e H2 ⟨rfl, rfl⟩
    cases hP : P x with
    | true =>
      simp -implicitDefEqProofs (maxSteps := 1000000) (disch := first | omega | assumption) only [Sx, Nat.reduceEqDiff, Zx, endK]
      unfold L33_0
      simp -implicitDefEqProofs (maxSteps := 1000000) (disch := first | omega | assumption) only [Sx, Nat.reduceEqDiff, reduceCtorEq]
      exact .inl ⟨hlt, by rw [← hx]; exact hP, by rw [← hx], g1, ho⟩
    | false =>
      simp -implicitDefEqProofs (maxSteps := 1000000) (disch := first | omega | assumption) only [Sx, Nat.reduceEqDiff, Zx, endK]
      refine a_pan ?_
      exact .inr (.inl ⟨hlt, by rw [← hx]; exact hP, by (first | exact True.intro | rfl | assumption), ho⟩)
  · simp -implicitDefEqProofs (maxSteps := 1000000) (disch := first | omega | assumption) only [endK]
    exact .inr (.inr ⟨by omega, by (first | exact True.intro | rfl | assumption), by (first | exact True.intro | rfl | assumption)⟩)
end Go.Proofs.YtgbhdpeibiglfaaDoor.S08

set_option linter.unusedVariables false
set_option linter.unusedSimpArgs false
namespace Go.Proofs.YtgbhdpeibiglfaaDoor.S08
open Go Go.RowKit Go.Proofs.YtgbhdpeibiglfaaDoor.Sep Go.Proofs.YtgbhdpeibiglfaaDoor.Low Go.Proofs.YtgbhdpeibiglfaaDoor.S05 Go.Proofs.YtgbhdpeibiglfaaDoor.S06
open Go.Proofs.YtgbhdpeibiglfaaDoor.Lib hiding by8 by8_scalar

theorem acalls_of {P : Program} {f : FuncId} {args : Array Value} {H : Heap} {v : Value} (h : ∀ w, Sees H w → Calls P f args w fun e w' => e = .returned v ∧ w' = w) : ACalls P f args H fun e H' => e = .returned v ∧ H' = H :=
  fun w hw => (h w hw).mono fun e w' ⟨he, hw'⟩ => ⟨H, ⟨he, rfl⟩, by rw [hw']; exact hw, by rw [hw']; exact Ext.refl _ _⟩
theorem tw_take {p : Int → Bool} : ∀ l : List Int, l.take (l.takeWhile p).length = l.takeWhile p
  | [] => rfl
  | x :: l => by
    cases h : p x with
    | true => rw [List.takeWhile_cons_of_pos h, List.length_cons, List.take_succ_cons, tw_take l]
    | false => rw [List.takeWhile_cons_of_neg (by rw [h]; decide)]; rfl
theorem tw_le {p : Int → Bool} (l : List Int) : (l.takeWhile p).length ≤ l.length := by
  have := congrArg List.length (tw_take (p := p) l)
  rw [List.length_take] at this
  omega
theorem ix0 : ∀ {l : List Int}, isBy l → Go.Lib.indexByte (txt l) 0 = if (l.takeWhile (· != 0)).length = l.length then -1 else (((l.takeWhile (· != 0)).length : Nat) : Int)
  | [], _ => rfl
  | x :: l, h => by
    have hx := h x List.mem_cons_self
    have ih := ix0 (l := l) fun y hy => h y (List.mem_cons_of_mem _ hy)
    have hu : UInt8.ofNat x.toNat = 0 ↔ x = 0 := by
      constructor
      · intro e
        have := congrArg UInt8.toNat e
        rw [UInt8.toNat_ofNat'] at this
        have e0 : (0 : UInt8).toNat = 0 := rfl
        omega
      · rintro rfl; rfl
    show (if (UInt8.ofNat x.toNat == 0) = true then (0 : Int) else if (Go.Lib.indexByte (txt l) 0 == -1) = true then -1 else Go.Lib.indexByte (txt l) 0 + 1) = _
    by_cases h0 : x = 0
    · rw [if_pos (by rw [beq_iff_eq]; exact hu.2 h0), List.takeWhile_cons_of_neg (by rw [h0]; decide), if_neg (by simp)]
      rfl
    · rw [if_neg (by rw [beq_iff_eq]; exact fun e => h0 (hu.1 e)), List.takeWhile_cons_of_pos (by simpa using h0), List.length_cons, List.length_cons, ih]
      by_cases hk : (l.takeWhile (· != 0)).length = l.length
      · rw [if_pos hk, if_pos (by rfl), if_pos (by omega)]
      · rw [if_neg hk, if_neg (by rw [beq_iff_eq]; omega), if_neg (by omega)]
        omega
theorem ibyte_spec {H : Heap} {q o n c : Nat} {l : List Int} (hr : Row H (some ⟨q, o, none⟩) (by8 l)) (hn : n = l.length) :
    ACalls Tryd.prog 49 [Value.slice (some ⟨q, o, none⟩) n c, .int .u8 0].toArray H fun e H' => e = .returned (.int .i64 (Go.Lib.indexByte (txt l) 0)) ∧ H' = H := by
  subst hn
  exact acalls_of fun w hw => (Tryd.bytes_IndexByte q o l.length c l 0 w rfl (fun i hi => by
    obtain ⟨b, e, h⟩ := by_at hr hi
    cases e
    have := hw.cell h
    rw [add_mk] at this
    rwa [List.getD_eq_getElem?_getD, List.getElem?_eq_getElem hi])).mono fun e w' h => h
set_option maxHeartbeats 2000000 in
theorem text_spec {H : Heap} {p q o c : Nat} {b : List Int} {t : Nat} (g : GAt H p q o c b t) :
    ACalls Tryd.prog 40 [Value.pointer (some ⟨p, 0, none⟩)].toArray H fun e H' => match mtext b t with
      | .ok x => e = .returned (.string ⟨(txt x.1).toArray⟩) ∧ GAt H' p q o c b x.2 ∧ Only (· = p) H H'
      | .error er => e = pnc er ∧ er ≠ 0 ∧ H' = H := by
  refine call40 (Nat.le_of_ble_eq_true rfl) ?_
  unfold L40 env0
  have hle := g.le
  have hsm := g.small
  have hcap := g.cap
  have hin : (0 : Int) ≤ (t : Int) ∧ (t : Int) ≤ (b.length : Nat) := by omega
  obtain ⟨o', ho'⟩ := cut_at (q := q) (o := o) (c := c) (t := t)
  have hrow := row_drop (k := t) g.row hcap
  rw [ho'] at hrow
  have hix := ix0 (g.byt.drop t)
  have htl := tw_le (p := (· != 0)) (b.drop t)
  have htk := tw_take (p := (· != 0)) (b.drop t)
  have hdl : (b.drop t).length = b.length - t := List.length_drop
  obtain ⟨L, hL⟩ : ∃ L, L = b.drop t := ⟨_, rfl⟩
  have hmt : mtext b t = if 65535 < (L.takeWhile (· != 0)).length then .error 2 else if (L.takeWhile (· != 0)).length = L.length then .error 4 else .ok (L.takeWhile (· != 0), t + (L.takeWhile (· != 0)).length + 1) := by rw [hL]; rfl
  rw [hmt]
  rw [← hL] at hrow hix htl htk hdl
  obtain ⟨w, hw⟩ : ∃ w, w = L.takeWhile (· != 0) := ⟨_, rfl⟩
  rw [← hw] at hix htl htk ⊢
  obtain ⟨z, hz⟩ : ∃ z, z = Go.Lib.indexByte (txt L) 0 := ⟨_, rfl⟩
  have hib := ibyte_spec (c := c - t) hrow hdl.symm
  rw [← hz] at hix hib
  clear hz hmt
  simp -implicitDefEqProofs (maxSteps := 1000000) (disch := first | omega | assumption) only [cell_of g.blk, ev_nilc, ev_slc_lo, ho', Sx, reduceIte, Nat.reduceEqDiff, reduceCtorEq, Nat.reduceAdd, Nat.reduceSub, Nat.reduceLT, Zx, endK]
  refine a_call hib ?_
  rintro e H1 ⟨rfl, rfl⟩
  have bff : (false && false) = false := rfl
  by_cases hlong : 65535 < w.length
  · rw [if_pos hlong]
    by_cases hk : w.length = L.length
    · rw [if_pos hk] at hix
      have f1 : decide ((65535 : Int) < z) = false := decide_eq_false (by omega)
      have f2 : decide (z < 0) = true := decide_eq_true (by omega)
      have f3 : decide ((65535 : Int) < ((b.length - t : Nat) : Int)) = true := decide_eq_true (by omega)
      simp -implicitDefEqProofs (maxSteps := 1000000) (disch := first | omega | assumption) only [f1, f2, f3, Sx, reduceIte, Nat.reduceEqDiff, reduceCtorEq, Nat.reduceAdd, Nat.reduceSub, Nat.reduceLT, Zx, endK]
      refine a_pan ?_
      exact ⟨by (first | exact True.intro | rfl | assumption), by decide, by (first | exact True.intro | rfl | assumption)⟩
    · rw [if_neg hk] at hix
      have f1 : decide ((65535 : Int) < z) = true := decide_eq_true (by omega)
      simp -implicitDefEqProofs (maxSteps := 1000000) (disch := first | omega | assumption) only [f1, Sx, reduceIte, Nat.reduceEqDiff, reduceCtorEq, Nat.reduceAdd, Nat.reduceSub, Nat.reduceLT, Zx, endK]
      refine a_pan ?_
      exact ⟨by (first | exact True.intro | rfl | assumption), by decide, by (first | exact True.intro | rfl | assumption)⟩
  rw [if_neg hlong]
  have f1 : decide ((65535 : Int) < z) = false := decide_eq_false (by split at hix <;> omega)
  by_cases hk : w.length = L.length
  · rw [if_pos hk] at hix ⊢
    have f2 : decide (z < 0) = true := decide_eq_true (by omega)
    have f3 : decide ((65535 : Int) < ((b.length - t : Nat) : Int)) = false := decide_eq_false (by omega)
    simp -implicitDefEqProofs (maxSteps := 1000000) (disch := first | omega | assumption) only [f1, f2, f3, Sx, reduceIte, Nat.reduceEqDiff, reduceCtorEq, Nat.reduceAdd, Nat.reduceSub, Nat.reduceLT, Zx, endK]
    refine a_pan ?_
    exact ⟨by (first | exact True.intro | rfl | assumption), by decide, by (first | exact True.intro | rfl | assumption)⟩
  rw [if_neg hk] at hix ⊢
  have f2 : decide (z < 0) = false := decide_eq_false (by omega)
  subst hix
  have e1 : IntKind.i64.wrap ((w.length : Int) + 1) = ((w.length + 1 : Nat) : Int) := w_i64 (by omega)
  have e2 : IntKind.i64.wrap ((t : Int) + ((w.length + 1 : Nat) : Int)) = ((t + w.length + 1 : Nat) : Int) := by rw [w_i64 (by omega)]; omega
  obtain ⟨g2, ho⟩ := g.upd (t' := t + w.length + 1) (by omega) rfl
  have hrow2 := S05.Row.only hrow ho (fun x hx => by cases hx; exact g.ne)
  have hr3 := row_take (k := w.length) hrow2
  rw [htk] at hr3
  have b1 := ev_b2s_by (c := c - t) hr3
  have hin2 : (0 : Int) ≤ (w.length : Int) ∧ (w.length : Int) ≤ ((c - t : Nat) : Int) := by omega
  simp -implicitDefEqProofs (maxSteps := 1000000) (disch := first | omega | assumption) only [f1, f2, Sx, reduceIte, Nat.reduceEqDiff, reduceCtorEq, Nat.reduceAdd, Nat.reduceSub, Nat.reduceLT, Zx, endK]
  unfold L40_0
  simp -implicitDefEqProofs (maxSteps := 1000000) (disch := first | omega | assumption) only [cell_of g.blk, ev_nilc, e1, e2, Sx, reduceIte, Nat.reduceEqDiff, reduceCtorEq, Nat.reduceAdd, Nat.reduceSub, Nat.reduceLT, Zx, endK]
  refine st_one (o := 1) g.blk (by simp) rfl ?_
  try simp -implicitDefEqProofs (maxSteps := 1000000) (disch := first | omega | assumption) only [ev_slc_hi, b1, Sx, reduceIte, Nat.reduceEqDiff, reduceCtorEq, Nat.reduceAdd, Nat.reduceSub, Nat.reduceLT, Zx, endK]
  exact ⟨by (first | exact True.intro | rfl | assumption), g2, ho⟩
end Go.Proofs.YtgbhdpeibiglfaaDoor.S08

set_option linter.unusedVariables false
set_option linter.unusedSimpArgs false
namespace Go.Proofs.YtgbhdpeibiglfaaDoor.S08
open Go Go.RowKit Go.Proofs.YtgbhdpeibiglfaaDoor.Sep Go.Proofs.YtgbhdpeibiglfaaDoor.Low Go.Proofs.YtgbhdpeibiglfaaDoor.S05 Go.Proofs.YtgbhdpeibiglfaaDoor.S06
open Go.Proofs.YtgbhdpeibiglfaaDoor.Lib hiding by8 by8_scalar

abbrev memV (m : Mem) (ext : Value) : List Value := [.string ⟨(txt m.name).toArray⟩, .string ⟨(txt m.comment).toArray⟩, ext, .int .u32 (m.time : Nat), .int .u8 m.flags, .int .u8 m.system, .bool m.text, .bool m.sum]
def m0 : Mem := ⟨[], [], [], 0, 0, 0, false, false⟩
theorem memV_scalar {m : Mem} {ext : Value} (h : scalarV ext = true) : ∀ v ∈ memV m ext, scalarV v = true := by
  intro v hv
  simp only [List.mem_cons, List.not_mem_nil, or_false] at hv
  rcases hv with rfl | rfl | rfl | rfl | rfl | rfl | rfl | rfl
  all_goals first | exact h | rfl
theorem mem_load {H : Heap} {r : Nat} {m : Mem} {ext : Value} (h : H r = some (.cells (memV m ext).toArray 26 (0, 0))) : H.loadN ⟨r, 0, none⟩ 0 8 = some (memV m ext) :=
  (row_of_block (cs := memV m ext) (rest := []) (f := (0, 0)) (by rw [h]; rfl)).loadN
structure HS (H0 H : Heap) (p q o c : Nat) (b : List Int) (t r2 r4 : Nat) (m : Mem) (ext : Value) : Prop where
  g : GAt H p q o c b t
  b2 : H r2 = some (.cells (memV m0 (.slice none 0 0)).toArray 26 (0, 0))
  b4 : H r4 = some (.cells (memV m ext).toArray 26 (0, 0))
  ex : Bo H ext m.extra
  on : Only (· = p) H0 H
  n2 : H0 r2 = none
  n4 : H0 r4 = none
  fe : Fresh H0 ext
  nr : r2 ≠ r4
  q2 : q ≠ r2
  q4 : q ≠ r4
theorem HS.step {H0 H H' H2 : Heap} {p q o c : Nat} {b : List Int} {t t' r2 r4 : Nat} {m m' : Mem} {ext ext' : Value} (s : HS H0 H p q o c b t r2 r4 m ext) (g' : GAt H' p q o c b t') (ho : Only (· = p) H H') (hx : Bo H' ext' m'.extra) (hf : Fresh H0 ext')
    (h2 : H2 = H'.set r4 (.cells (memV m' ext').toArray 26 (0, 0))) : HS H0 H2 p q o c b t' r2 r4 m' ext' := by
  have hp4 : p ≠ r4 := blk_ne s.g.blk s.b4 (by decide)
  have hp2 : p ≠ r2 := blk_ne s.g.blk s.b2 (by decide)
  have b4' := ho.oth _ _ s.b4 (fun e => hp4 e.symm)
  have b2' := ho.oth _ _ s.b2 (fun e => hp2 e.symm)
  have h24 : Only (· = r4) H' H2 := by rw [h2]; exact (Only.refl _ _).set (.inl rfl)
  exact ⟨g'.other h24 hp4 s.q4, h24.oth _ _ b2' s.nr, by rw [h2]; exact set_same, hx.only h24 (fun x hx' e => hx.elem b4' (by decide) (e ▸ hx')), (s.on.trans ho fun x hx => .inl hx).trans h24 (fun x hx => .inr (hx ▸ s.n4)), s.n2, s.n4, hf, s.nr, s.q2, s.q4⟩
theorem HS.b4' {H0 H H' : Heap} {p q o c : Nat} {b : List Int} {t r2 r4 : Nat} {m : Mem} {ext : Value} (s : HS H0 H p q o c b t r2 r4 m ext) (ho : Only (· = p) H H') : H' r4 = some (.cells (memV m ext).toArray 26 (0, 0)) :=
  ho.oth _ _ s.b4 (fun e => blk_ne s.g.blk s.b4 (by decide) e.symm)
theorem HS.ex' {H0 H H' : Heap} {p q o c : Nat} {b : List Int} {t r2 r4 : Nat} {m : Mem} {ext : Value} (s : HS H0 H p q o c b t r2 r4 m ext) (ho : Only (· = p) H H') : Bo H' ext m.extra :=
  s.ex.only ho fun x hx e => s.ex.elem s.g.blk (by decide) (e ▸ hx)
theorem HS.adv {H0 H H' : Heap} {p q o c : Nat} {b : List Int} {t t' r2 r4 : Nat} {m : Mem} {ext : Value} (s : HS H0 H p q o c b t r2 r4 m ext) (g' : GAt H' p q o c b t') (ho : Only (· = p) H H') : HS H0 H' p q o c b t' r2 r4 m ext :=
  ⟨g', ho.oth _ _ s.b2 (fun e => blk_ne s.g.blk s.b2 (by decide) e.symm), s.b4' ho, s.ex' ho, s.on.trans ho fun x hx => .inl hx, s.n2, s.n4, s.fe, s.nr, s.q2, s.q4⟩
/-- how the reading of a head ends -/
def HdP (H0 : Heap) (p q o c : Nat) (b : List Int) (G : Ex (Mem × Nat)) (e : Ending) (H' : Heap) : Prop := match G with
  | .ok x => ∃ ext, e = .returned (.agg (memV x.1 ext).toArray) ∧ Bo H' ext x.1.extra ∧ Fresh H0 ext ∧ GAt H' p q o c b x.2 ∧ Only (· = p) H0 H'
  | .error er => e = pnc er ∧ er ≠ 0 ∧ Only (· = p) H0 H'
set_option maxHeartbeats 1000000 in
theorem head0 {H0 H : Heap} {p q o c : Nat} {b : List Int} {t r2 r4 : Nat} {m : Mem} {ext : Value} {G : Ex (Mem × Nat)} {env : Env} {QP : List PanicEntry → Heap → Prop} (s : HS H0 H p q o c b t r2 r4 m ext) (h2 : env 2 = .pointer (some ⟨r2, 0, none⟩)) (h4 : env 4 = .pointer (some ⟨r4, 0, none⟩)) (hG : G = .ok (m, t)) :
    awpC Tryd.prog L22_0 (retQ [RV.c 2 (some 8)] (HdP H0 p q o c b G)) QP env H := by
  unfold L22_0
  have hld := mem_load s.b4
  have hsx := s.ex.scalar
  obtain ⟨mv, hmv⟩ : ∃ mv, mv = memV m ext := ⟨_, rfl⟩
  rw [← hmv] at hld
  simp -implicitDefEqProofs (maxSteps := 1000000) (disch := first | omega | assumption) only [h2, h4, ev_ldn, hld, Sx, Nat.reduceEqDiff]
  refine st_all (old := memV m0 (.slice none 0 0)) (ci := mv) s.b2 (by rw [hmv]; rfl) (by rw [hmv]; rfl) (by rw [hmv]; exact memV_scalar hsx) ?_
  rw [hmv]
  try simp -implicitDefEqProofs (maxSteps := 1000000) (disch := first | omega | assumption) only [Sx]
  show match getAll _ _ _ with | some vs => _ | none => False
  rw [g_cn (by simp -implicitDefEqProofs (maxSteps := 1000000) (disch := first | omega | assumption) only [h2, Sx, Nat.reduceEqDiff]) (mem_load set_same)]
  have h22 : Only (· = r2) H (H.set r2 (.cells (memV m ext).toArray 26 (0, 0))) := (Only.refl _ _).set (.inl rfl)
  rw [hG]
  exact ⟨ext, rfl, s.ex.only h22 (fun x hx e => s.ex.elem s.b2 (by decide) (e ▸ hx)), s.fe, s.g.other h22 (blk_ne s.g.blk s.b2 (by decide)) s.q2, s.on.trans h22 fun x hx => .inr (hx ▸ s.n2)⟩
set_option maxHeartbeats 2000000 in
theorem head1 {H0 H : Heap} {p q o c : Nat} {b : List Int} {t r2 r4 : Nat} {m : Mem} {ext : Value} {G : Ex (Mem × Nat)} {env : Env} (s : HS H0 H p q o c b t r2 r4 m ext) (h0 : env 0 = .pointer (some ⟨p, 0, none⟩)) (h2 : env 2 = .pointer (some ⟨r2, 0, none⟩)) (h4 : env 4 = .pointer (some ⟨r4, 0, none⟩)) (hs : m.sum = (fl b / 2 % 2 == 1)) (hG : G = (msum b t).bind fun z => .ok (m, z)) :
    awpC Tryd.prog L22_1 (retQ [RV.c 2 (some 8)] (HdP H0 p q o c b G)) (fun ch H' => HdP H0 p q o c b G (.panicked ch) H') env H := by
  unfold L22_1
  have hle := s.g.le
  have hsm := s.g.small
  have hcap := s.g.cap
  have b4 := s.b4
  unfold msum at hG
  by_cases hf : fl b / 2 % 2 = 0
  · have hms : m.sum = false := by rw [hs, hf]; rfl
    rw [if_pos hf] at hG
    simp -implicitDefEqProofs (maxSteps := 1000000) (disch := first | omega | assumption) only [h4, cell_of b4, hms, Sx, Nat.reduceEqDiff]
    refine head0 s ?_ ?_ hG
    · simp -implicitDefEqProofs (maxSteps := 1000000) (disch := first | omega | assumption) only [h2, Sx, Nat.reduceEqDiff]
    · simp -implicitDefEqProofs (maxSteps := 1000000) (disch := first | omega | assumption) only [h4, Sx, Nat.reduceEqDiff]
  have hms : m.sum = true := by rw [hs, show fl b / 2 % 2 = 1 by omega]; rfl
  rw [if_neg hf] at hG
  have hin : (0 : Int) ≤ (t : Int) ∧ (t : Int) ≤ (c : Nat) := by omega
  simp -implicitDefEqProofs (maxSteps := 1000000) (disch := first | omega | assumption) only [h0, h4, cell_of b4, hms, cell_of s.g.blk, ev_nilc, ev_slc_hi, Sx, Nat.reduceEqDiff, reduceCtorEq]
  refine a_call (gsum_spec (row_take (k := t) s.g.row) (by rw [List.length_take]; omega) (s.g.byt.take t) (by rw [List.length_take]; omega)) ?_
  rintro e H1 ⟨rfl, rfl⟩
  have hcr := crc_lt (s.g.byt.take t)
  obtain ⟨cr, hcrd⟩ : ∃ cr, cr = crc (b.take t) := ⟨_, rfl⟩
  rw [← hcrd] at hcr hG ⊢
  have e16 : IntKind.u16.wrap (cr : Int) = ((cr % 65536 : Nat) : Int) := by
    show ((cr : Int) % (2 : Int) ^ 16) = _
    omega
  simp -implicitDefEqProofs (maxSteps := 1000000) (disch := first | omega | assumption) only [h0, e16, Sx, Nat.reduceEqDiff, reduceCtorEq, endK]
  refine a_call (take_spec (n := 2) s.g (by omega)) ?_
  rintro e H2 (⟨h, rfl, g2, ho⟩ | ⟨h, rfl, rfl⟩)
  rotate_left
  · rw [if_pos (by omega)] at hG
    simp -implicitDefEqProofs (maxSteps := 1000000) (disch := first | omega | assumption) only [endK]
    rw [hG]
    exact ⟨by (first | exact True.intro | rfl | assumption), by decide, s.on⟩
  rw [if_neg (by omega)] at hG
  have hsub := g2.sub t 2
  have hl2 : ((b.drop t).take 2).length = 2 := by rw [List.length_take, List.length_drop]; omega
  simp -implicitDefEqProofs (maxSteps := 1000000) (disch := first | omega | assumption) only [Sx, Nat.reduceEqDiff, endK]
  refine a_call (get16_spec hsub hl2.symm ((s.g.byt.drop t).take 2) (by omega)) ?_
  rintro e H3 ⟨rfl, rfl⟩
  rw [List.take_take, Nat.min_self]
  have s2 := s.adv g2 ho
  obtain ⟨z, hz⟩ : ∃ z, z = Go.Proofs.YtgbhdpeibiglfaaDoor.S08.le ((b.drop t).take 2) := ⟨_, rfl⟩
  rw [← hz] at hG ⊢
  by_cases hq : z = cr % 65536
  · have f1 : ((z : Int) != ((cr % 65536 : Nat) : Int)) = false := by rw [bne_eq_false_iff_eq]; omega
    rw [if_pos hq] at hG
    simp -implicitDefEqProofs (maxSteps := 1000000) (disch := first | omega | assumption) only [f1, Sx, Nat.reduceEqDiff, endK]
    refine head0 s2 ?_ ?_ hG
    · simp -implicitDefEqProofs (maxSteps := 1000000) (disch := first | omega | assumption) only [h2, Sx, Nat.reduceEqDiff]
    · simp -implicitDefEqProofs (maxSteps := 1000000) (disch := first | omega | assumption) only [h4, Sx, Nat.reduceEqDiff]
  · have f1 : ((z : Int) != ((cr % 65536 : Nat) : Int)) = true := by rw [bne_iff_ne]; omega
    rw [if_neg hq] at hG
    simp -implicitDefEqProofs (maxSteps := 1000000) (disch := first | omega | assumption) only [f1, Sx, Nat.reduceEqDiff, endK]
    refine a_pan ?_
    rw [hG]
    exact ⟨by (first | exact True.intro | rfl | assumption), by decide, s2.on⟩
theorem fb (k : Nat) (hk : k = 1 ∨ k = 2 ∨ k = 4 ∨ k = 8 ∨ k = 16) : ∀ f : Nat, f < 32 → (Go.bits .and .u8 (f : Int) (k : Int) != 0) = (f / k % 2 == 1) := by
  rcases hk with rfl | rfl | rfl | rfl | rfl <;> decide
set_option maxHeartbeats 2000000 in
theorem head2 {H0 H : Heap} {p q o c : Nat} {b : List Int} {t r2 r4 : Nat} {m : Mem} {ext : Value} {G : Ex (Mem × Nat)} {env : Env} (s : HS H0 H p q o c b t r2 r4 m ext) (h0 : env 0 = .pointer (some ⟨p, 0, none⟩)) (h2 : env 2 = .pointer (some ⟨r2, 0, none⟩)) (h3 : env 3 = .int .u8 (fl b : Nat)) (h4 : env 4 = .pointer (some ⟨r4, 0, none⟩)) (hfl : fl b < 32) (hs : m.sum = (fl b / 2 % 2 == 1)) (hc : m.comment = [])
    (hG : G = (mtextIf b 16 t).bind fun x => (msum b x.2).bind fun z => .ok ({ m with comment := x.1 }, z)) :
    awpC Tryd.prog L22_2 (retQ [RV.c 2 (some 8)] (HdP H0 p q o c b G)) (fun ch H' => HdP H0 p q o c b G (.panicked ch) H') env H := by
  unfold L22_2
  have f1 := fb 16 (by omega) (fl b) hfl
  unfold mtextIf at hG
  by_cases hf : fl b / 16 % 2 = 0
  · rw [if_pos hf] at hG
    have f2 : (Go.bits .and .u8 ((fl b : Nat) : Int) 16 != 0) = false := by have := f1; rw [hf] at this; exact this
    have hm : ({ m with comment := [] } : Mem) = m := by rw [← hc]
    simp -implicitDefEqProofs (maxSteps := 1000000) (disch := first | omega | assumption) only [h3, v_and, f2, Sx, Nat.reduceEqDiff]
    refine head1 s ?_ ?_ ?_ hs (by rw [hG]; show (msum b t).bind (fun z => Except.ok (({ m with comment := [] } : Mem), z)) = _; rw [hm])
    · simp -implicitDefEqProofs (maxSteps := 1000000) (disch := first | omega | assumption) only [h0, Sx, reduceCtorEq]
    · simp -implicitDefEqProofs (maxSteps := 1000000) (disch := first | omega | assumption) only [h2, Sx, Nat.reduceEqDiff]
    · simp -implicitDefEqProofs (maxSteps := 1000000) (disch := first | omega | assumption) only [h4, Sx, Nat.reduceEqDiff]
  rw [if_neg hf] at hG
  have f2 : (Go.bits .and .u8 ((fl b : Nat) : Int) 16 != 0) = true := by have := f1; rw [show fl b / 16 % 2 = 1 by omega] at this; exact this
  simp -implicitDefEqProofs (maxSteps := 1000000) (disch := first | omega | assumption) only [h0, h3, v_and, f2, Sx, Nat.reduceEqDiff, reduceCtorEq]
  refine a_call (text_spec s.g) ?_
  rintro e H1 hO
  cases hT : mtext b t with
  | error er =>
    rw [hT] at hO hG
    obtain ⟨rfl, hne, rfl⟩ := hO
    simp -implicitDefEqProofs (maxSteps := 1000000) (disch := first | omega | assumption) only [endK]
    rw [hG]
    exact ⟨by (first | exact True.intro | rfl | assumption), hne, s.on⟩
  | ok x =>
    rw [hT] at hO hG
    obtain ⟨rfl, g1, ho⟩ := hO
    have b41 := s.b4' ho
    have hsx := (s.ex' ho).scalar
    simp -implicitDefEqProofs (maxSteps := 1000000) (disch := first | omega | assumption) only [h4, Sx, Nat.reduceEqDiff, endK]
    refine st_one (o := 1) b41 (by simp) rfl ?_
    try simp -implicitDefEqProofs (maxSteps := 1000000) (disch := first | omega | assumption) only [Sx]
    have s2 := s.step (m' := { m with comment := x.1 }) g1 ho (s.ex' ho) s.fe rfl
    refine head1 s2 ?_ ?_ ?_ hs hG
    · simp -implicitDefEqProofs (maxSteps := 1000000) (disch := first | omega | assumption) only [h0, Sx, reduceCtorEq]
    · simp -implicitDefEqProofs (maxSteps := 1000000) (disch := first | omega | assumption) only [h2, Sx, Nat.reduceEqDiff]
    · simp -implicitDefEqProofs (maxSteps := 1000000) (disch := first | omega | assumption) only [h4, Sx, Nat.reduceEqDiff]
set_option maxHeartbeats 2000000 in
theorem head3 {H0 H : Heap} {p q o c : Nat} {b : List Int} {t r2 r4 : Nat} {m : Mem} {ext : Value} {G : Ex (Mem × Nat)} {env : Env} (s : HS H0 H p q o c b t r2 r4 m ext) (h0 : env 0 = .pointer (some ⟨p, 0, none⟩)) (h2 : env 2 = .pointer (some ⟨r2, 0, none⟩)) (h3 : env 3 = .int .u8 (fl b : Nat)) (h4 : env 4 = .pointer (some ⟨r4, 0, none⟩)) (hfl : fl b < 32) (hs : m.sum = (fl b / 2 % 2 == 1)) (hc : m.comment = []) (hn : m.name = [])
    (hG : G = (mtextIf b 8 t).bind fun n => (mtextIf b 16 n.2).bind fun x => (msum b x.2).bind fun z => .ok ({ m with name := n.1, comment := x.1 }, z)) :
    awpC Tryd.prog L22_3 (retQ [RV.c 2 (some 8)] (HdP H0 p q o c b G)) (fun ch H' => HdP H0 p q o c b G (.panicked ch) H') env H := by
  unfold L22_3
  have f1 := fb 8 (by omega) (fl b) hfl
  rw [mtextIf] at hG
  by_cases hf : fl b / 8 % 2 = 0
  · rw [if_pos hf] at hG
    have f2 : (Go.bits .and .u8 ((fl b : Nat) : Int) 8 != 0) = false := by have := f1; rw [hf] at this; exact this
    simp -implicitDefEqProofs (maxSteps := 1000000) (disch := first | omega | assumption) only [h3, v_and, f2, Sx, Nat.reduceEqDiff]
    refine head2 s ?_ ?_ ?_ ?_ hfl hs hc (by rw [hG]; show ((mtextIf b 16 t).bind fun x => (msum b x.2).bind fun z => Except.ok (({ m with name := [], comment := x.1 } : Mem), z)) = _; rw [← hn])
    · simp -implicitDefEqProofs (maxSteps := 1000000) (disch := first | omega | assumption) only [h0, Sx, reduceCtorEq]
    · simp -implicitDefEqProofs (maxSteps := 1000000) (disch := first | omega | assumption) only [h2, Sx, Nat.reduceEqDiff]
    · simp -implicitDefEqProofs (maxSteps := 1000000) (disch := first | omega | assumption) only [h3, Sx, Nat.reduceEqDiff]
    · simp -implicitDefEqProofs (maxSteps := 1000000) (disch := first | omega | assumption) only [h4, Sx, Nat.reduceEqDiff]
  rw [if_neg hf] at hG
  have f2 : (Go.bits .and .u8 ((fl b : Nat) : Int) 8 != 0) = true := by have := f1; rw [show fl b / 8 % 2 = 1 by omega] at this; exact this
  simp -implicitDefEqProofs (maxSteps := 1000000) (disch := first | omega | assumption) only [h0, h3, v_and, f2, Sx, Nat.reduceEqDiff, reduceCtorEq]
  refine a_call (text_spec s.g) ?_
  rintro e H1 hO
  cases hT : mtext b t with
  | error er =>
    rw [hT] at hO hG
    obtain ⟨rfl, hne, rfl⟩ := hO
    simp -implicitDefEqProofs (maxSteps := 1000000) (disch := first | omega | assumption) only [endK]
    rw [hG]
    exact ⟨by (first | exact True.intro | rfl | assumption), hne, s.on⟩
  | ok x =>
    rw [hT] at hO hG
    obtain ⟨rfl, g1, ho⟩ := hO
    have b41 := s.b4' ho
    simp -implicitDefEqProofs (maxSteps := 1000000) (disch := first | omega | assumption) only [h4, Sx, Nat.reduceEqDiff, endK]
    refine st_one (o := 0) b41 (by simp) rfl ?_
    try simp -implicitDefEqProofs (maxSteps := 1000000) (disch := first | omega | assumption) only [Sx]
    have s2 := s.step (m' := { m with name := x.1 }) g1 ho (s.ex' ho) s.fe rfl
    refine head2 s2 ?_ ?_ ?_ ?_ hfl hs hc hG
    · simp -implicitDefEqProofs (maxSteps := 1000000) (disch := first | omega | assumption) only [h0, Sx, reduceCtorEq]
    · simp -implicitDefEqProofs (maxSteps := 1000000) (disch := first | omega | assumption) only [h2, Sx, Nat.reduceEqDiff]
    · simp -implicitDefEqProofs (maxSteps := 1000000) (disch := first | omega | assumption) only [h3, Sx, Nat.reduceEqDiff]
    · simp -implicitDefEqProofs (maxSteps := 1000000) (disch := first | omega | assumption) only [h4, Sx, Nat.reduceEqDiff]
end Go.Proofs.YtgbhdpeibiglfaaDoor.S08

set_option linter.unusedVariables false
set_option linter.unusedSimpArgs false
namespace Go.Proofs.YtgbhdpeibiglfaaDoor.S08
open Go Go.RowKit Go.Proofs.YtgbhdpeibiglfaaDoor.Sep Go.Proofs.YtgbhdpeibiglfaaDoor.Low Go.Proofs.YtgbhdpeibiglfaaDoor.S05 Go.Proofs.YtgbhdpeibiglfaaDoor.S06
open Go.Proofs.YtgbhdpeibiglfaaDoor.Lib hiding by8 by8_scalar

theorem k1_spec {H : Heap} {x : Int} : ACalls Tryd.prog 34 [Value.int .u8 x].toArray H fun e H' => e = .returned (.bool (x == 31)) ∧ H' = H := by
  refine call34 (Nat.le_of_ble_eq_true rfl) ?_
  unfold L34 env0
  simp -implicitDefEqProofs (maxSteps := 1000000) (disch := first | omega | assumption) only [Sx, Nat.reduceEqDiff, reduceCtorEq]
  exact ⟨by (first | exact True.intro | rfl | assumption), by (first | exact True.intro | rfl | assumption)⟩
theorem k2_spec {H : Heap} {x : Int} : ACalls Tryd.prog 35 [Value.int .u8 x].toArray H fun e H' => e = .returned (.bool (x == 139)) ∧ H' = H := by
  refine call35 (Nat.le_of_ble_eq_true rfl) ?_
  unfold L35 env0
  simp -implicitDefEqProofs (maxSteps := 1000000) (disch := first | omega | assumption) only [Sx, Nat.reduceEqDiff, reduceCtorEq]
  exact ⟨by (first | exact True.intro | rfl | assumption), by (first | exact True.intro | rfl | assumption)⟩
theorem k3_spec {H : Heap} {x : Int} : ACalls Tryd.prog 36 [Value.int .u8 x].toArray H fun e H' => e = .returned (.bool (x == 8)) ∧ H' = H := by
  refine call36 (Nat.le_of_ble_eq_true rfl) ?_
  unfold L36 env0
  simp -implicitDefEqProofs (maxSteps := 1000000) (disch := first | omega | assumption) only [Sx, Nat.reduceEqDiff, reduceCtorEq]
  exact ⟨by (first | exact True.intro | rfl | assumption), by (first | exact True.intro | rfl | assumption)⟩
theorem k4_spec {H : Heap} {x : Int} : ACalls Tryd.prog 37 [Value.int .u8 x].toArray H fun e H' => e = .returned (.bool (decide (x ≤ 31))) ∧ H' = H := by
  refine call37 (Nat.le_of_ble_eq_true rfl) ?_
  unfold L37 env0
  simp -implicitDefEqProofs (maxSteps := 1000000) (disch := first | omega | assumption) only [Sx, Nat.reduceEqDiff, reduceCtorEq]
  exact ⟨by (first | exact True.intro | rfl | assumption), by (first | exact True.intro | rfl | assumption)⟩
theorem gd {b : List Int} {i : Nat} (h : i < b.length) : b.getD i 0 = b[i] := by
  rw [List.getD_eq_getElem?_getD, List.getElem?_eq_getElem h]
  rfl
theorem st_mem {P : Program} {H : Heap} {r o : Nat} {cs cs' : Array Value} {T : TypeId} {u : Value} {KV : Value → Heap → Prop} {KP : List PanicEntry → Heap → Prop} (hb : H r = some (.cells cs T (0, 0))) (ho : o < cs.size) (hu : scalarV u = true) (hc : cs.setIfInBounds o u = cs')
    (hk : ∀ H2, H2 = H.set r (.cells cs' T (0, 0)) → KV undef H2) : awpE P (.st 1) [.pointer (some ⟨r, o, none⟩), u] KV KP H := st_one hb ho hu (by rw [hc]; exact hk _ rfl)
theorem ml_set {H : Heap} {r : Nat} {x y : Obj} : (H.set r x).set r y = H.set r y := set_set
set_option maxHeartbeats 8000000 in
set_option maxRecDepth 4000 in
theorem head_spec {H : Heap} {p q o c : Nat} {b : List Int} (g : GAt H p q o c b 0) :
    ACalls Tryd.prog 22 [Value.pointer (some ⟨p, 0, none⟩)].toArray H fun e H' => HdP H p q o c b (mhead b) e H' := by
  refine call22 (Nat.le_of_ble_eq_true rfl) ?_
  unfold L22 env0
  have dead : ∀ er H', mten b = .error er → er ≠ 0 → Only (· = p) H H' → HdP H p q o c b (mhead b) (pnc er) H' := by
    intro er H' h1 h2 h3
    have : mhead b = .error er := by unfold mhead; rw [h1]; rfl
    rw [this]
    exact ⟨rfl, h2, h3⟩
  have hpH : H p ≠ none := by rw [g.blk]; simp
  simp -implicitDefEqProofs (maxSteps := 1000000) (disch := first | omega | assumption) only [Sx]
  refine a_new fun r2 hr2 => ?_
  obtain ⟨H1, hH1⟩ : ∃ H1, H1 = H.set r2 (.cells (memV m0 (.slice none 0 0)).toArray 26 (0, 0)) := ⟨_, rfl⟩
  have k1 : Keep H H1 := by rw [hH1]; exact (Keep.refl _).set_new hr2
  have b21 : H1 r2 = some (.cells (memV m0 (.slice none 0 0)).toArray 26 (0, 0)) := by rw [hH1]; exact set_same
  have hH1' : H.set r2 (.cells #[.string ⟨#[]⟩, .string ⟨#[]⟩, .slice none 0 0, .int .u32 0, .int .u8 0, .int .u8 0, .bool false, .bool false] 26 (0, 0)) = H1 := hH1.symm
  rw [hH1']
  clear hH1 hH1'
  have n2p : r2 ≠ p := fun e => hpH (e ▸ hr2)
  have g1 := g.keep k1
  have on1 : Only (· = p) H H1 := Only.of_keep k1
  try simp -implicitDefEqProofs (maxSteps := 1000000) (disch := first | omega | assumption) only [Sx, Nat.reduceEqDiff, reduceCtorEq]
  refine a_call (must_spec (f := 34) (why := 130) g1 (by kernel_rfl) fun H' x _ => k1_spec) ?_
  rintro e H2 (⟨l0, hP0, rfl, g2, ho⟩ | ⟨l0, hP0, rfl, ho⟩ | ⟨l0, rfl, rfl⟩)
  rotate_left
  · simp -implicitDefEqProofs (maxSteps := 1000000) (disch := first | omega | assumption) only [endK]
    exact dead _ _ (by unfold mten; rw [if_neg (by omega), if_pos (by rw [gd l0]; simpa using hP0)]) (by decide) (on1.trans ho fun x hx => .inl hx)
  · simp -implicitDefEqProofs (maxSteps := 1000000) (disch := first | omega | assumption) only [endK]
    exact dead _ _ (by unfold mten; rw [if_pos (by omega)]) (by decide) on1
  have d0 : ¬ b.getD 0 0 ≠ 31 := by rw [gd l0]; simpa using hP0
  have on2 : Only (· = p) H H2 := on1.trans ho fun x hx => .inl hx
  have b22 := ho.oth _ _ b21 n2p
  simp -implicitDefEqProofs (maxSteps := 1000000) (disch := first | omega | assumption) only [Sx, Nat.reduceEqDiff, reduceCtorEq, endK]
  refine a_call (must_spec (f := 35) (why := 130) g2 (by kernel_rfl) fun H' x _ => k2_spec) ?_
  clear ho
  rintro e H3 (⟨l1, hP1, rfl, g3, ho⟩ | ⟨l1, hP1, rfl, ho⟩ | ⟨l1, rfl, rfl⟩)
  rotate_left
  · simp -implicitDefEqProofs (maxSteps := 1000000) (disch := first | omega | assumption) only [endK]
    exact dead _ _ (by unfold mten; rw [if_neg (by omega), if_neg d0, if_neg (by omega), if_pos (by rw [gd l1]; simpa using hP1)]) (by decide) (on2.trans ho fun x hx => .inl hx)
  · simp -implicitDefEqProofs (maxSteps := 1000000) (disch := first | omega | assumption) only [endK]
    exact dead _ _ (by unfold mten; rw [if_neg (by omega), if_neg d0, if_pos (by omega)]) (by decide) on2
  have d1 : ¬ b.getD 1 0 ≠ 139 := by rw [gd l1]; simpa using hP1
  have on3 : Only (· = p) H H3 := on2.trans ho fun x hx => .inl hx
  have b23 := ho.oth _ _ b22 n2p
  simp -implicitDefEqProofs (maxSteps := 1000000) (disch := first | omega | assumption) only [Sx, Nat.reduceEqDiff, reduceCtorEq, endK]
  refine a_call (must_spec (f := 36) (why := 80) g3 (by kernel_rfl) fun H' x _ => k3_spec) ?_
  clear ho
  rintro e H4 (⟨l2, hP2, rfl, g4, ho⟩ | ⟨l2, hP2, rfl, ho⟩ | ⟨l2, rfl, rfl⟩)
  rotate_left
  · simp -implicitDefEqProofs (maxSteps := 1000000) (disch := first | omega | assumption) only [endK]
    exact dead _ _ (by unfold mten; rw [if_neg (by omega), if_neg d0, if_neg (by omega), if_neg d1, if_neg (by omega), if_pos (by rw [gd l2]; simpa using hP2)]) (by decide) (on3.trans ho fun x hx => .inl hx)
  · simp -implicitDefEqProofs (maxSteps := 1000000) (disch := first | omega | assumption) only [endK]
    exact dead _ _ (by unfold mten; rw [if_neg (by omega), if_neg d0, if_neg (by omega), if_neg d1, if_pos (by omega)]) (by decide) on3
  have d2 : ¬ b.getD 2 0 ≠ 8 := by rw [gd l2]; simpa using hP2
  have on4 : Only (· = p) H H4 := on3.trans ho fun x hx => .inl hx
  have b24 := ho.oth _ _ b23 n2p
  simp -implicitDefEqProofs (maxSteps := 1000000) (disch := first | omega | assumption) only [Sx, Nat.reduceEqDiff, reduceCtorEq, Nat.reduceAdd, endK]
  refine a_call (must_spec (f := 37) (why := 81) g4 (by kernel_rfl) fun H' x _ => k4_spec) ?_
  clear ho
  have hb3 : ∀ h : 3 < b.length, b[3] = ((fl b : Nat) : Int) := by
    intro h
    have := g.byt.at h
    unfold fl
    rw [gd h]
    omega
  rintro e H5 (⟨l3, hP3, rfl, g5, ho⟩ | ⟨l3, hP3, rfl, ho⟩ | ⟨l3, rfl, rfl⟩)
  rotate_left
  · have hp : 31 < fl b := by have := hb3 l3; have hq : decide (b[3] ≤ 31) = false := hP3; have := of_decide_eq_false hq; omega
    simp -implicitDefEqProofs (maxSteps := 1000000) (disch := first | omega | assumption) only [endK]
    exact dead _ _ (by unfold mten; rw [if_neg (by omega), if_neg d0, if_neg (by omega), if_neg d1, if_neg (by omega), if_neg d2, if_neg (by omega), if_pos hp]) (by decide) (on4.trans ho fun x hx => .inl hx)
  · simp -implicitDefEqProofs (maxSteps := 1000000) (disch := first | omega | assumption) only [endK]
    exact dead _ _ (by unfold mten; rw [if_neg (by omega), if_neg d0, if_neg (by omega), if_neg d1, if_neg (by omega), if_neg d2, if_pos (by omega)]) (by decide) on4
  have hfl : fl b < 32 := by have := hb3 l3; have hq : decide (b[3] ≤ 31) = true := hP3; have := of_decide_eq_true hq; omega
  have on5 : Only (· = p) H H5 := on4.trans ho fun x hx => .inl hx
  have b25 := ho.oth _ _ b24 n2p
  clear ho
  have hten : mten b = if b.length < 10 then .error 4 else .ok () := by
    unfold mten
    rw [if_neg (by omega), if_neg d0, if_neg (by omega), if_neg d1, if_neg (by omega), if_neg d2, if_neg (by omega), if_neg (by omega)]
  rw [hb3 l3]
  have x1 : (Go.bits .and .u8 ((fl b : Nat) : Int) 1 != 0) = (fl b % 2 == 1) := by have := fb 1 (by omega) (fl b) hfl; rw [Nat.div_one] at this; exact this
  have x2 : (Go.bits .and .u8 ((fl b : Nat) : Int) 2 != 0) = (fl b / 2 % 2 == 1) := fb 2 (by omega) (fl b) hfl
  obtain ⟨tx, htx⟩ : ∃ tx, tx = (fl b % 2 == 1) := ⟨_, rfl⟩
  obtain ⟨sx, hsx⟩ : ∃ sx, sx = (fl b / 2 % 2 == 1) := ⟨_, rfl⟩
  rw [← htx] at x1
  rw [← hsx] at x2
  simp -implicitDefEqProofs (maxSteps := 1000000) (disch := first | omega | assumption) only [v_and, x1, x2, Sx, Nat.reduceEqDiff, Nat.reduceAdd, Nat.reduceLT, endK]
  refine a_new fun r4 hr4 => ?_
  have nr : r2 ≠ r4 := fun e => by rw [e, hr4] at b25; cases b25
  try simp -implicitDefEqProofs (maxSteps := 1000000) (disch := first | omega | assumption) only [Sx, Nat.reduceEqDiff]
  refine st_all (old := memV m0 (.slice none 0 0)) (ci := memV ⟨[], [], [], 0, 0, 0, tx, sx⟩ (.slice none 0 0)) set_same rfl rfl (memV_scalar rfl) ?_
  rw [ml_set]
  obtain ⟨H6, hH6⟩ : ∃ H6, H6 = H5.set r4 (.cells (memV ⟨[], [], [], 0, 0, 0, tx, sx⟩ (.slice none 0 0)).toArray 26 (0, 0)) := ⟨_, rfl⟩
  have k6 : Keep H5 H6 := by rw [hH6]; exact (Keep.refl _).set_new hr4
  have s6 : HS H H6 p q o c b 4 r2 r4 ⟨[], [], [], 0, 0, 0, tx, sx⟩ (.slice none 0 0) := ⟨g5.keep k6, k6 _ _ b25, by rw [hH6]; exact set_same, .nil, on5.trans (Only.of_keep (S := fun _ => False) k6) (fun x hx => hx.elim), hr2, on5.none hr4, (fun x hx => by cases hx), nr, fun e => g.kn (e ▸ hr2), fun e => g5.kn (e ▸ hr4)⟩
  rw [← hH6]
  clear hH6
  try simp -implicitDefEqProofs (maxSteps := 1000000) (disch := first | omega | assumption) only [Sx, Nat.reduceEqDiff, reduceCtorEq]
  refine a_call (take_spec (n := 4) s6.g (by omega)) ?_
  rintro e H7 (⟨h, rfl, g7, ho⟩ | ⟨h, rfl, rfl⟩)
  rotate_left
  · simp -implicitDefEqProofs (maxSteps := 1000000) (disch := first | omega | assumption) only [endK]
    exact dead _ _ (by rw [hten, if_pos (by omega)]) (by decide) s6.on
  have hsub := g7.sub 4 4
  have hl4 : ((b.drop 4).take 4).length = 4 := by rw [List.length_take, List.length_drop]; omega
  simp -implicitDefEqProofs (maxSteps := 1000000) (disch := first | omega | assumption) only [Sx, Nat.reduceEqDiff, endK]
  refine a_call (get32_spec hsub hl4.symm ((g.byt.drop 4).take 4) (by omega)) ?_
  rintro e H8 ⟨rfl, rfl⟩
  rw [List.take_take, Nat.min_self]
  obtain ⟨tm, htm⟩ : ∃ tm, tm = Go.Proofs.YtgbhdpeibiglfaaDoor.S08.le ((b.drop 4).take 4) := ⟨_, rfl⟩
  rw [← htm]
  have b48 := s6.b4' ho
  simp -implicitDefEqProofs (maxSteps := 1000000) (disch := first | omega | assumption) only [Sx, Nat.reduceEqDiff, endK]
  refine st_one (o := 3) b48 (by simp) rfl ?_
  have s8 := s6.step (m' := ⟨[], [], [], tm, 0, 0, tx, sx⟩) g7 ho (s6.ex' ho) s6.fe rfl
  clear ho
  have s8g := s8.g
  try simp -implicitDefEqProofs (maxSteps := 1000000) (disch := first | omega | assumption) only [l_e, Sx, Nat.reduceEqDiff, reduceCtorEq]
  refine a_call (take_spec (n := 1) s8g (by omega)) ?_
  rintro e H9 (⟨h9, rfl, g9, ho⟩ | ⟨h9, rfl, rfl⟩)
  rotate_left
  · simp -implicitDefEqProofs (maxSteps := 1000000) (disch := first | omega | assumption) only [endK]
    exact dead _ _ (by rw [hten, if_pos (by omega)]) (by decide) s8.on
  have s9 := s8.adv g9 ho
  clear ho
  obtain ⟨o1, hcu1⟩ := cut_at (q := q) (o := o) (c := c) (t := 8)
  obtain ⟨o2, hcu2⟩ := cut_at (q := q) (o := o) (c := c) (t := 9)
  have l8 : 8 < b.length := by omega
  have c89 := s9.g.cell l8 hcu1
  rw [show (4 + 4 : Nat) = 8 from rfl, hcu1]
  have i0 : (0 : Int) ≤ 0 ∧ (0 : Int) < ((1 : Nat) : Int) := by omega
  obtain ⟨v8, hv8⟩ : ∃ v8, v8 = b[8] := ⟨_, rfl⟩
  rw [← hv8] at c89
  try simp -implicitDefEqProofs (maxSteps := 1000000) (disch := first | omega | assumption) only [endK]
  refine ⟨fun z hz h => by simp at h, ?_⟩
  try simp -implicitDefEqProofs (maxSteps := 1000000) (disch := first | omega | assumption) only [c89, l_qk, l_e, Sx, Nat.reduceEqDiff, Zx]
  refine a_call (take_spec (n := 1) s9.g (by omega)) ?_
  rintro e H10 (⟨h10, rfl, g10, ho⟩ | ⟨h10, rfl, rfl⟩)
  rotate_left
  · simp -implicitDefEqProofs (maxSteps := 1000000) (disch := first | omega | assumption) only [endK]
    exact dead _ _ (by rw [hten, if_pos (by omega)]) (by decide) s9.on
  have s10 := s9.adv g10 ho
  clear ho
  have l9 : 9 < b.length := by omega
  have c810 := s10.g.cell l8 hcu1
  have c910 := s10.g.cell l9 hcu2
  rw [show (4 + 4 + 1 : Nat) = 9 from rfl, hcu2]
  obtain ⟨v9, hv9⟩ : ∃ v9, v9 = b[9] := ⟨_, rfl⟩
  rw [← hv8] at c810
  rw [← hv9] at c910
  have b410 := s10.b4
  try simp -implicitDefEqProofs (maxSteps := 1000000) (disch := first | omega | assumption) only [endK]
  refine ⟨fun z hz _ => by simp only [List.mem_cons, List.not_mem_nil, or_false] at hz; subst hz; simp only [c810], ?_⟩
  try simp -implicitDefEqProofs (maxSteps := 1000000) (disch := first | omega | assumption) only [c910, l_qk, l_e, Sx, Nat.reduceEqDiff, Zx]
  refine st_mem (cs' := (memV ⟨[], [], [], tm, v8, 0, tx, sx⟩ (.slice none 0 0)).toArray) b410 (by simp) rfl rfl ?_
  intro H11 hH11
  have s11 := s10.step (m' := ⟨[], [], [], tm, v8, 0, tx, sx⟩) s10.g (Only.refl _ _) s10.ex s10.fe hH11
  clear hH11
  have c911 := s11.g.cell l9 hcu2
  rw [← hv9] at c911
  have b411 := s11.b4
  try simp -implicitDefEqProofs (maxSteps := 1000000) (disch := first | omega | assumption) only [endK]
  refine ⟨fun z hz h7 => by simp only [List.mem_cons, List.not_mem_nil, or_false] at hz; rcases hz with rfl | rfl; exact c911; exact absurd h7 (by simp), ?_⟩
  try simp -implicitDefEqProofs (maxSteps := 1000000) (disch := first | omega | assumption) only [l_qk, l_e, Sx, reduceIte, Nat.reduceEqDiff, reduceCtorEq, Nat.reduceAdd, Nat.reduceSub, Nat.reduceLT, Zx, endK]
  refine st_mem (cs' := (memV ⟨[], [], [], tm, v8, v9, tx, sx⟩ (.slice none 0 0)).toArray) b411 (by simp) rfl rfl ?_
  intro H12 hH12
  have s12 := s11.step (m' := ⟨[], [], [], tm, v8, v9, tx, sx⟩) s11.g (Only.refl _ _) s11.ex s11.fe hH12
  clear hH12 s11 s10 s9 s8 s8g s6 b411 b410 c911 c910 c810 c89
  try simp -implicitDefEqProofs (maxSteps := 1000000) (disch := first | omega | assumption) only [endK]
  refine ⟨fun z hz h => by simp at h, ?_⟩
  have l10 : ¬ b.length < 10 := by omega
  rw [if_neg l10] at hten
  obtain ⟨G, hG⟩ : ∃ G, G = mhead b := ⟨_, rfl⟩
  rw [← hG]
  unfold mhead at hG
  rw [hten] at hG
  rw [gd l8, gd l9, ← hv8, ← hv9, ← htm, ← htx, ← hsx] at hG
  have hG : G = (mextra b).bind fun x => (mtextIf b 8 x.2).bind fun n => (mtextIf b 16 n.2).bind fun c => (msum b c.2).bind fun z => .ok (⟨n.1, c.1, x.1, tm, v8, v9, tx, sx⟩, z) := hG
  have x4 : (Go.bits .and .u8 ((fl b : Nat) : Int) 4 != 0) = (fl b / 4 % 2 == 1) := fb 4 (by omega) (fl b) hfl
  rw [mextra] at hG
  by_cases hf : fl b / 4 % 2 = 0
  · rw [if_pos hf] at hG
    rw [hf] at x4
    have x4 : (Go.bits .and .u8 ((fl b : Nat) : Int) 4 != 0) = false := x4
    try simp -implicitDefEqProofs (maxSteps := 1000000) (disch := first | omega | assumption) only [x4, Sx]
    refine head3 s12 ?_ ?_ ?_ ?_ hfl hsx rfl rfl hG
    · simp -implicitDefEqProofs (maxSteps := 1000000) (disch := first | omega | assumption) only [Sx, reduceCtorEq]
    · simp -implicitDefEqProofs (maxSteps := 1000000) (disch := first | omega | assumption) only [Sx, Nat.reduceEqDiff]
    · simp -implicitDefEqProofs (maxSteps := 1000000) (disch := first | omega | assumption) only [Sx, Nat.reduceEqDiff]
    · simp -implicitDefEqProofs (maxSteps := 1000000) (disch := first | omega | assumption) only [Sx, Nat.reduceEqDiff]
  rw [if_neg hf] at hG
  rw [show fl b / 4 % 2 = 1 by omega] at x4
  have x4 : (Go.bits .and .u8 ((fl b : Nat) : Int) 4 != 0) = true := x4
  try simp -implicitDefEqProofs (maxSteps := 1000000) (disch := first | omega | assumption) only [x4, Sx, Nat.reduceEqDiff, reduceCtorEq]
  refine a_call (take_spec (n := 2) s12.g (by omega)) ?_
  rintro e H13 (⟨h13, rfl, g13, ho⟩ | ⟨h13, rfl, rfl⟩)
  rotate_left
  · rw [if_pos (by omega)] at hG
    simp -implicitDefEqProofs (maxSteps := 1000000) (disch := first | omega | assumption) only [endK]
    rw [hG]
    exact ⟨by (first | exact True.intro | rfl | assumption), by decide, s12.on⟩
  rw [if_neg (by omega)] at hG
  have s13 := s12.adv g13 ho
  clear ho g13
  rw [show (4 + 4 + 1 + 1 : Nat) = 10 from rfl]
  have hsub := s13.g.sub 10 2
  have hl2 : ((b.drop 10).take 2).length = 2 := by rw [List.length_take, List.length_drop]; omega
  simp -implicitDefEqProofs (maxSteps := 1000000) (disch := first | omega | assumption) only [Sx, Nat.reduceEqDiff, endK]
  refine a_call (get16_spec hsub hl2.symm ((g.byt.drop 10).take 2) (by omega)) ?_
  rintro e H14 ⟨rfl, rfl⟩
  rw [List.take_take, Nat.min_self]
  obtain ⟨n, hn⟩ : ∃ n, n = Go.Proofs.YtgbhdpeibiglfaaDoor.S08.le ((b.drop 10).take 2) := ⟨_, rfl⟩
  have hn2 : n < 65536 := by
    obtain ⟨y0, y1, r, hy⟩ := f2_of (l := b.drop 10) (by rw [List.length_drop]; omega)
    have hb0 := g.byt.drop 10 y0 (by rw [hy]; simp)
    have hb1 := g.byt.drop 10 y1 (by rw [hy]; simp)
    rw [hn, hy, le2]
    omega
  rw [← hn] at hG ⊢
  have en : IntKind.i64.wrap (n : Int) = (n : Int) := w_i64 (by omega)
  simp -implicitDefEqProofs (maxSteps := 1000000) (disch := first | omega | assumption) only [en, Sx, Nat.reduceEqDiff, endK]
  refine a_call (take_spec (n := n) s13.g (by omega)) ?_
  rintro e H15 (⟨h15, rfl, g15, ho⟩ | ⟨h15, rfl, rfl⟩)
  rotate_left
  · rw [if_pos (by omega)] at hG
    simp -implicitDefEqProofs (maxSteps := 1000000) (disch := first | omega | assumption) only [endK]
    rw [hG]
    exact ⟨by (first | exact True.intro | rfl | assumption), by decide, s13.on⟩
  rw [if_neg (by omega)] at hG
  have s15 := s13.adv g15 ho
  clear ho
  rw [show (4 + 4 + 1 + 1 + 2 : Nat) = 12 from rfl]
  have hsub2 := s15.g.sub 12 n
  have hln : ((b.drop 12).take n).length = n := by rw [List.length_take, List.length_drop]; omega
  obtain ⟨ex, hex⟩ : ∃ ex, ex = (b.drop 12).take n := ⟨_, rfl⟩
  rw [← hex] at hsub2 hln hG
  simp -implicitDefEqProofs (maxSteps := 1000000) (disch := first | omega | assumption) only [Sx, Nat.reduceEqDiff, endK]
  refine a_call (clone_spec hsub2 (by rw [List.length_map, hln]) (by8_scalar _) (by omega)) ?_
  rintro e H16 ⟨w, rfl, hO, hk, hf16⟩
  have hsw := hO.scalar
  have s16 : GAt H16 p q o c b (12 + n) := by have := g15.keep hk; rwa [show 4 + 4 + 1 + 1 + 2 + n = 12 + n by omega] at this
  have b416 := hk _ _ s15.b4
  simp -implicitDefEqProofs (maxSteps := 1000000) (disch := first | omega | assumption) only [Sx, Nat.reduceEqDiff, endK]
  refine st_mem (cs' := (memV ⟨[], [], ex, tm, v8, v9, tx, sx⟩ w).toArray) b416 (by simp) hsw rfl ?_
  intro H17 hH17
  have s16k : HS H H16 p q o c b (12 + n) r2 r4 ⟨[], [], [], tm, v8, v9, tx, sx⟩ (.slice none 0 0) := ⟨s16, hk _ _ s15.b2, b416, .nil, s15.on.trans (Only.of_keep (S := fun _ => False) hk) (fun x hx => hx.elim), s15.n2, s15.n4, (fun x hx => by cases hx), s15.nr, s15.q2, s15.q4⟩
  have s17 := s16k.step (m' := ⟨[], [], ex, tm, v8, v9, tx, sx⟩) (ext' := w) s16 (Only.refl _ _) hO (fun x hx => s15.on.none (hf16 x hx)) hH17
  clear hH17
  try simp -implicitDefEqProofs (maxSteps := 1000000) (disch := first | omega | assumption) only [Sx]
  refine head3 s17 ?_ ?_ ?_ ?_ hfl hsx rfl rfl hG
  · simp -implicitDefEqProofs (maxSteps := 1000000) (disch := first | omega | assumption) only [Sx, reduceCtorEq]
  · simp -implicitDefEqProofs (maxSteps := 1000000) (disch := first | omega | assumption) only [Sx, Nat.reduceEqDiff]
  · simp -implicitDefEqProofs (maxSteps := 1000000) (disch := first | omega | assumption) only [Sx, Nat.reduceEqDiff]
  · simp -implicitDefEqProofs (maxSteps := 1000000) (disch := first | omega | assumption) only [Sx, Nat.reduceEqDiff]
end Go.Proofs.YtgbhdpeibiglfaaDoor.S08

set_option linter.unusedVariables false
set_option linter.unusedSimpArgs false
namespace Go.Proofs.YtgbhdpeibiglfaaDoor.S08
open Go Go.RowKit Go.Proofs.YtgbhdpeibiglfaaDoor.Sep Go.Proofs.YtgbhdpeibiglfaaDoor.Low Go.Proofs.YtgbhdpeibiglfaaDoor.S05 Go.Proofs.YtgbhdpeibiglfaaDoor.S06
open Go.Proofs.YtgbhdpeibiglfaaDoor.Lib hiding by8 by8_scalar

def R1 : RFn := ⟨11, [], .skip, 5, [.q 1 .mv [.tmp 5] 4], (.seq (.reg [.q 0 .mv [.tmp 4] 6, .q 1 (.ein true) [.tmp 6, .const .nilIface] 7]) (.cond (.tmp 7) (.reg [.q 0 (.build #[(.string ⟨#[]⟩), (.string ⟨#[]⟩), (.slice none 0 0), (.int .u32 0), (.int .u8 0), (.int .u8 0), (.bool false), (.bool false)] []) [] 8, .q 1 .mv [.tmp 4] 9, .q 2 (.tas 27) [.tmp 9] 10, .n 3 (.st 1) [.tmp 0, .const (.slice none 0 0)], .n 4 (.st 8) [.tmp 1, .tmp 8], .n 5 (.st 1) [.tmp 2, .const (.int .i64 0)], .n 6 (.st 1) [.tmp 3, .tmp 10]]) .skip))⟩
theorem lowR1 : lowRFn0 Tryd.prog Tryd.f21 = some R1 := by kernel_rfl
theorem callR1 {args captured : List Value} {u : FrameMode} {H : Heap} {S : Ending → FrameMode → Heap → Prop} (hn : (args ++ captured).length ≤ R1.n) (h : awpL Tryd.prog R1.S [] (fun env H => awpC Tryd.prog R1.post (retQ R1.results fun e H => S e (recM u) H) (fun ch H => S (.panicked ch) (recM u) H) env H) (fun ch H => False) ((env0 (args ++ captured)).put (some R1.dst) (recV u)) H) :
    ADef Tryd.prog ⟨.fn (.func 21) captured.toArray, args.toArray⟩ u H S := adef_rec0 mixed Tryd.func21 lowR1 (by kernel_rfl) hn h
abbrev mz : Value := .agg (memV m0 (.slice none 0 0)).toArray
/-- the cells of what a member's reading tells -/
structure RO (H : Heap) (r4 r5 r6 r7 : Nat) (x : Value) (m : Mem) (ext : Value) (z : Int) (er : Int) : Prop where
  a : H r4 = some (.cells #[x] 22 (0, 0))
  b : H r5 = some (.cells (memV m ext).toArray 26 (0, 0))
  c : H r6 = some (.cells #[.int .i64 z] 3 (0, 0))
  d : H r7 = some (.cells #[.int .i64 er] 27 (0, 0))
abbrev clo1 (r4 r5 r6 r7 : Nat) : Deferred := ⟨.fn (.func 21) #[.pointer (some ⟨r4, 0, none⟩), .pointer (some ⟨r5, 0, none⟩), .pointer (some ⟨r6, 0, none⟩), .pointer (some ⟨r7, 0, none⟩)], #[]⟩
set_option maxHeartbeats 2000000 in
theorem dfr1_spec {H : Heap} {r4 r5 r6 r7 : Nat} {x : Value} {m : Mem} {ext : Value} {z er : Int} {u : FrameMode} (h : RO H r4 r5 r6 r7 x m ext z er) :
    (u = .returning → ADef Tryd.prog (clo1 r4 r5 r6 r7) u H fun e u' H' => e = .returned (.tuple #[]) ∧ u' = .returning ∧ H' = H) ∧
    (∀ e2 : Int, u = .panicking [{ v := .iface 27 (.int .i64 e2), recovered := false }] → ADef Tryd.prog (clo1 r4 r5 r6 r7) u H fun e u' H' => e = .returned (.tuple #[]) ∧ u' = .panicking [{ v := .iface 27 (.int .i64 e2), recovered := true }] ∧ RO H' r4 r5 r6 r7 (.slice none 0 0) m0 (.slice none 0 0) 0 e2 ∧ Only (fun r => r = r4 ∨ r = r5 ∨ r = r6 ∨ r = r7) H H') := by
  have n45 : r4 ≠ r5 := blk_ne h.a h.b (by decide)
  have n46 : r4 ≠ r6 := blk_ne h.a h.c (by decide)
  have n47 : r4 ≠ r7 := blk_ne h.a h.d (by decide)
  have n56 : r5 ≠ r6 := blk_ne h.b h.c (by decide)
  have n57 : r5 ≠ r7 := blk_ne h.b h.d (by decide)
  have n67 : r6 ≠ r7 := blk_ne h.c h.d (by decide)
  constructor
  · rintro rfl
    refine callR1 (args := []) (captured := [.pointer (some ⟨r4, 0, none⟩), .pointer (some ⟨r5, 0, none⟩), .pointer (some ⟨r6, 0, none⟩), .pointer (some ⟨r7, 0, none⟩)]) (Nat.le_of_ble_eq_true rfl) ?_
    unfold R1 env0
    have hr : recV .returning = .nilIface := rfl
    have hm : recM .returning = .returning := rfl
    have btt : (true != true) = false := rfl
    simp -implicitDefEqProofs (maxSteps := 1000000) (disch := first | omega | assumption) only [List.nil_append, hr, hm, ev_ein0, btt, Dx, pq_normal, rq_normal, dk_func, settle_ret, ev_nilc, Sx, reduceIte, Nat.reduceEqDiff, reduceCtorEq, Nat.reduceAdd, Nat.reduceSub, Nat.reduceLT, Zx, endK]
    exact ⟨by (first | exact True.intro | rfl | assumption), by (first | exact True.intro | rfl | assumption), by (first | exact True.intro | rfl | assumption)⟩
  · rintro e2 rfl
    refine callR1 (args := []) (captured := [.pointer (some ⟨r4, 0, none⟩), .pointer (some ⟨r5, 0, none⟩), .pointer (some ⟨r6, 0, none⟩), .pointer (some ⟨r7, 0, none⟩)]) (Nat.le_of_ble_eq_true rfl) ?_
    unfold R1 env0
    have hr : recV (.panicking [{ v := .iface 27 (.int .i64 e2), recovered := false }]) = .iface 27 (.int .i64 e2) := rfl
    have hm : recM (.panicking [{ v := .iface 27 (.int .i64 e2), recovered := false }]) = .panicking [{ v := .iface 27 (.int .i64 e2), recovered := true }] := rfl
    have bft : (false != true) = true := rfl
    have hbd : (QI.build #[(.string ⟨#[]⟩), (.string ⟨#[]⟩), (.slice none 0 0), (.int .u32 0), (.int .u8 0), (.int .u8 0), (.bool false), (.bool false)] []).ev [] H = some mz := rfl
    simp -implicitDefEqProofs (maxSteps := 1000000) (disch := first | omega | assumption) only [List.nil_append, hr, hm, ev_ein1, ev_tas, bft, hbd, Dx, pq_normal, rq_normal, dk_func, settle_ret, ev_nilc, Sx, reduceIte, Nat.reduceEqDiff, reduceCtorEq, Nat.reduceAdd, Nat.reduceSub, Nat.reduceLT, Zx, endK]
    refine st_one (o := 0) h.a (by simp) rfl ?_
    try simp -implicitDefEqProofs (maxSteps := 1000000) (disch := first | omega | assumption) only [Dx, pq_normal, rq_normal, dk_func, settle_ret, ev_nilc, Sx, reduceIte, Nat.reduceEqDiff, reduceCtorEq, Nat.reduceAdd, Nat.reduceSub, Nat.reduceLT, Zx, endK]
    refine st_all (old := memV m ext) (ci := memV m0 (.slice none 0 0)) (by rw [set_other (Ne.symm n45)]; exact h.b) rfl rfl (memV_scalar rfl) ?_
    try simp -implicitDefEqProofs (maxSteps := 1000000) (disch := first | omega | assumption) only [Dx, pq_normal, rq_normal, dk_func, settle_ret, ev_nilc, Sx, reduceIte, Nat.reduceEqDiff, reduceCtorEq, Nat.reduceAdd, Nat.reduceSub, Nat.reduceLT, Zx, endK]
    refine st_one (o := 0) (by rw [set_other (Ne.symm n56), set_other (Ne.symm n46)]; exact h.c) (by simp) rfl ?_
    try simp -implicitDefEqProofs (maxSteps := 1000000) (disch := first | omega | assumption) only [Dx, pq_normal, rq_normal, dk_func, settle_ret, ev_nilc, Sx, reduceIte, Nat.reduceEqDiff, reduceCtorEq, Nat.reduceAdd, Nat.reduceSub, Nat.reduceLT, Zx, endK]
    refine st_one (o := 0) (by rw [set_other (Ne.symm n67), set_other (Ne.symm n57), set_other (Ne.symm n47)]; exact h.d) (by simp) rfl ?_
    try simp -implicitDefEqProofs (maxSteps := 1000000) (disch := first | omega | assumption) only [hr, hm, Dx, pq_normal, rq_normal, dk_func, settle_ret, ev_nilc, Sx, reduceIte, Nat.reduceEqDiff, reduceCtorEq, Nat.reduceAdd, Nat.reduceSub, Nat.reduceLT, Zx, endK]
    refine ⟨by (first | exact True.intro | rfl | assumption), by (first | exact True.intro | rfl | assumption), ⟨?_, ?_, ?_, set_same⟩, (((((Only.refl _ _).set (.inl (.inl rfl))).set (.inl (.inr (.inl rfl)))).set (.inl (.inr (.inr (.inl rfl))))).set (.inl (.inr (.inr (.inr rfl)))))⟩
    · rw [set_other n47, set_other n46, set_other n45, set_same]
    · rw [set_other n57, set_other n56, set_same]
    · rw [set_other n67, set_same]
/-- what one tells -/
def OneP (H0 : Heap) (b : List Int) (most : Int) (e : Ending) (H' : Heap) : Prop := Keep H0 H' ∧ match mone b most with
  | .ok x => ∃ v ext, e = .returned (.tuple #[v, .agg (memV x.2.1 ext).toArray, .int .i64 (x.2.2 : Nat), .int .i64 0]) ∧ Bo H' v x.1 ∧ Bo H' ext x.2.1.extra ∧ Fresh H0 v ∧ Fresh H0 ext ∧ (∀ s, own v = some s → own ext ≠ some s) ∧ x.1.length ≤ 4194304
  | .error er => e = .returned (.tuple #[.slice none 0 0, mz, .int .i64 0, .int .i64 er]) ∧ er ≠ 0
theorem ro_get {H : Heap} {r4 r5 r6 r7 : Nat} {x : Value} {m : Mem} {ext : Value} {z er : Int} {env : Env} (h : RO H r4 r5 r6 r7 x m ext z er) (h4 : env 4 = .pointer (some ⟨r4, 0, none⟩)) (h5 : env 5 = .pointer (some ⟨r5, 0, none⟩)) (h6 : env 6 = .pointer (some ⟨r6, 0, none⟩)) (h7 : env 7 = .pointer (some ⟨r7, 0, none⟩)) :
    getAll env H [.c 4 none, .c 5 (some 8), .c 6 none, .c 7 none] = some [x, .agg (memV m ext).toArray, .int .i64 z, .int .i64 er] := by
  rw [g_c h4 (v := x) (by rw [cell_of h.a]; rfl), g_cn h5 (mem_load h.b), g_c h6 (v := .int .i64 z) (by rw [cell_of h.c]; rfl), g_c h7 (v := .int .i64 er) (by rw [cell_of h.d]; rfl), g_nil]
  rfl
theorem leave1_bad {H0 H : Heap} {r4 r5 r6 r7 : Nat} {x : Value} {m : Mem} {ext : Value} {z e0 er : Int} {b : List Int} {most : Int} {env : Env} (h : RO H r4 r5 r6 r7 x m ext z e0) (hk : Keep H0 H) (n4 : H0 r4 = none) (n5 : H0 r5 = none) (n6 : H0 r6 = none) (n7 : H0 r7 = none) (hG : mone b most = .error er) (hne : er ≠ 0)
    (h4 : env 4 = .pointer (some ⟨r4, 0, none⟩)) (h5 : env 5 = .pointer (some ⟨r5, 0, none⟩)) (h6 : env 6 = .pointer (some ⟨r6, 0, none⟩)) (h7 : env 7 = .pointer (some ⟨r7, 0, none⟩)) :
    ALeaves Tryd.prog [.c 4 none, .c 5 (some 8), .c 6 none, .c 7 none] env (OneP H0 b most) [clo1 r4 r5 r6 r7] (.panicking [{ v := .iface 27 (.int .i64 er), recovered := false }]) H := by
  refine al_cons (by simp) ((dfr1_spec h).2 er rfl) ?_
  rintro e' u' H' ⟨rfl, rfl, hR, ho⟩
  show ALeaves _ _ _ _ [] (settle _) _
  rw [settle_rec rfl, al_nil, ro_get hR h4 h5 h6 h7]
  refine ⟨ho.keep hk (fun r hr => by rcases hr with rfl | rfl | rfl | rfl; exact n4; exact n5; exact n6; exact n7), ?_⟩
  rw [hG]
  exact ⟨rfl, hne⟩
end Go.Proofs.YtgbhdpeibiglfaaDoor.S08

set_option linter.unusedVariables false
set_option linter.unusedSimpArgs false
namespace Go.Proofs.YtgbhdpeibiglfaaDoor.S08
open Go Go.RowKit Go.Proofs.YtgbhdpeibiglfaaDoor.Sep Go.Proofs.YtgbhdpeibiglfaaDoor.Low Go.Proofs.YtgbhdpeibiglfaaDoor.S05 Go.Proofs.YtgbhdpeibiglfaaDoor.S06
open Go.Proofs.YtgbhdpeibiglfaaDoor.Lib hiding by8 by8_scalar

theorem decV_le {bs : List Int} {most : Int} : (decV bs most).2.1 ≤ bs.length := by
  unfold decV
  split
  · exact Nat.zero_le _
  · split
    · rename_i u t o h
      obtain ⟨i1, i2, -, -, -⟩ := infl_ok h
      show (t + 7) / 8 ≤ bs.length
      omega
    · exact Nat.zero_le _
structure OS (H0 H : Heap) (r4 r5 r6 r7 p q o c : Nat) (b : List Int) (t : Nat) (x : Value) (xl : List Int) (m : Mem) (ext : Value) : Prop where
  ro : RO H r4 r5 r6 r7 x m ext 0 0
  g : GAt H p q o c b t
  k : Keep H0 H
  n4 : H0 r4 = none
  n5 : H0 r5 = none
  n6 : H0 r6 = none
  n7 : H0 r7 = none
  np : H0 p = none
  kq : H0 q ≠ none
  ox : Bo H x xl
  oe : Bo H ext m.extra
  fx : Fresh H0 x
  fe : Fresh H0 ext
  ne : ∀ s, own x = some s → own ext ≠ some s
theorem OS.adv {H0 H H' : Heap} {r4 r5 r6 r7 p q o c : Nat} {b : List Int} {t t' : Nat} {x : Value} {xl : List Int} {m : Mem} {ext : Value} (s : OS H0 H r4 r5 r6 r7 p q o c b t x xl m ext) (g' : GAt H' p q o c b t') (ho : Only (· = p) H H') : OS H0 H' r4 r5 r6 r7 p q o c b t' x xl m ext :=
  ⟨⟨ho.oth _ _ s.ro.a (fun e => blk_ne s.ro.a s.g.blk (by decide) e), ho.oth _ _ s.ro.b (fun e => blk_ne s.ro.b s.g.blk (by decide) e), ho.oth _ _ s.ro.c (fun e => blk_ne s.ro.c s.g.blk (by decide) e), ho.oth _ _ s.ro.d (fun e => blk_ne s.ro.d s.g.blk (by decide) e)⟩, g', ho.keep s.k (fun y hy => hy ▸ s.np), s.n4, s.n5, s.n6, s.n7, s.np, s.kq, s.ox.only ho (fun y hy e => s.ox.elem s.g.blk (by decide) (e ▸ hy)), s.oe.only ho (fun y hy e => s.oe.elem s.g.blk (by decide) (e ▸ hy)), s.fx, s.fe, s.ne⟩
theorem OS.more {H0 H H' : Heap} {r4 r5 r6 r7 p q o c : Nat} {b : List Int} {t : Nat} {x : Value} {xl : List Int} {m : Mem} {ext : Value} (s : OS H0 H r4 r5 r6 r7 p q o c b t x xl m ext) (hk : Keep H H') : OS H0 H' r4 r5 r6 r7 p q o c b t x xl m ext :=
  ⟨⟨hk _ _ s.ro.a, hk _ _ s.ro.b, hk _ _ s.ro.c, hk _ _ s.ro.d⟩, s.g.keep hk, s.k.trans hk, s.n4, s.n5, s.n6, s.n7, s.np, s.kq, s.ox.keep hk, s.oe.keep hk, s.fx, s.fe, s.ne⟩
theorem OS.setM {H0 H H2 : Heap} {r4 r5 r6 r7 p q o c : Nat} {b : List Int} {t : Nat} {x : Value} {xl : List Int} {m m' : Mem} {ext ext' : Value} (s : OS H0 H r4 r5 r6 r7 p q o c b t x xl m ext) (h2 : H2 = H.set r5 (.cells (memV m' ext').toArray 26 (0, 0))) (hx : Bo H ext' m'.extra) (hf : Fresh H0 ext') (hne : ∀ s, own x = some s → own ext' ≠ some s) : OS H0 H2 r4 r5 r6 r7 p q o c b t x xl m' ext' := by
  have ho : Only (· = r5) H H2 := by rw [h2]; exact (Only.refl _ _).set (.inl rfl)
  exact ⟨⟨ho.oth _ _ s.ro.a (blk_ne s.ro.a s.ro.b (by decide)), by rw [h2]; exact set_same, ho.oth _ _ s.ro.c (fun e => blk_ne s.ro.c s.ro.b (by decide) e), ho.oth _ _ s.ro.d (fun e => blk_ne s.ro.d s.ro.b (by decide) e)⟩, s.g.other ho (blk_ne s.g.blk s.ro.b (by decide)) (fun e => s.kq (e ▸ s.n5)), ho.keep s.k (fun y hy => hy ▸ s.n5), s.n4, s.n5, s.n6, s.n7, s.np, s.kq, s.ox.only ho (fun y hy e => s.ox.elem s.ro.b (by decide) (e ▸ hy)), hx.only ho (fun y hy e => hx.elem s.ro.b (by decide) (e ▸ hy)), s.fx, hf, hne⟩
theorem OS.setX {H0 H H2 : Heap} {r4 r5 r6 r7 p q o c : Nat} {b : List Int} {t : Nat} {x x' : Value} {xl xl' : List Int} {m : Mem} {ext : Value} (s : OS H0 H r4 r5 r6 r7 p q o c b t x xl m ext) (h2 : H2 = H.set r4 (.cells #[x'] 22 (0, 0))) (hx : Bo H x' xl') (hf : Fresh H0 x') (hne : ∀ s, own x' = some s → own ext ≠ some s) : OS H0 H2 r4 r5 r6 r7 p q o c b t x' xl' m ext := by
  have ho : Only (· = r4) H H2 := by rw [h2]; exact (Only.refl _ _).set (.inl rfl)
  exact ⟨⟨by rw [h2]; exact set_same, ho.oth _ _ s.ro.b (fun e => blk_ne s.ro.b s.ro.a (by decide) e), ho.oth _ _ s.ro.c (fun e => blk_ne s.ro.c s.ro.a (by decide) e), ho.oth _ _ s.ro.d (fun e => blk_ne s.ro.d s.ro.a (by decide) e)⟩, s.g.other ho (blk_ne s.g.blk s.ro.a (by decide)) (fun e => s.kq (e ▸ s.n4)), ho.keep s.k (fun y hy => hy ▸ s.n4), s.n4, s.n5, s.n6, s.n7, s.np, s.kq, hx.only ho (fun y hy e => hx.elem s.ro.a (by decide) (e ▸ hy)), s.oe.only ho (fun y hy e => s.oe.elem s.ro.a (by decide) (e ▸ hy)), hf, s.fe, hne⟩
set_option maxHeartbeats 8000000 in
set_option maxRecDepth 4000 in
theorem one_spec {H : Heap} {q o c n : Nat} {b : List Int} {most : Int} (hT : TabO H) (hr : Row H (some ⟨q, o, none⟩) (by8 b)) (hn : n = b.length) (hc : b.length ≤ c) (hq : H q ≠ none) (hb : isBy b) (hbl : b.length ≤ 137438953472) :
    ACalls Tryd.prog 14 [Value.slice (some ⟨q, o, none⟩) n c, .int .i64 most].toArray H fun e H' => OneP H b most e H' := by
  subst hn
  refine call14 (Nat.le_of_ble_eq_true rfl) ?_
  unfold L14 env0
  simp -implicitDefEqProofs (maxSteps := 1000000) (disch := first | omega | assumption) only [Sx]
  refine a_new fun r4 hr4 => ?_
  obtain ⟨H1, hH1⟩ : ∃ H1, H1 = H.set r4 (.cells #[.slice none 0 0] 22 (0, 0)) := ⟨_, rfl⟩
  have k1 : Keep H H1 := by rw [hH1]; exact (Keep.refl _).set_new hr4
  have a1 : H1 r4 = some (.cells #[.slice none 0 0] 22 (0, 0)) := by rw [hH1]; exact set_same
  rw [← hH1]
  clear hH1
  try simp -implicitDefEqProofs (maxSteps := 1000000) (disch := first | omega | assumption) only [Sx]
  refine a_new fun r5 hr5 => ?_
  obtain ⟨H2, hH2⟩ : ∃ H2, H2 = H1.set r5 (.cells (memV m0 (.slice none 0 0)).toArray 26 (0, 0)) := ⟨_, rfl⟩
  have k2 : Keep H1 H2 := by rw [hH2]; exact (Keep.refl _).set_new hr5
  have a2 : H2 r5 = some (.cells (memV m0 (.slice none 0 0)).toArray 26 (0, 0)) := by rw [hH2]; exact set_same
  have hH2' : H1.set r5 (.cells #[.string ⟨#[]⟩, .string ⟨#[]⟩, .slice none 0 0, .int .u32 0, .int .u8 0, .int .u8 0, .bool false, .bool false] 26 (0, 0)) = H2 := hH2.symm
  rw [hH2']
  clear hH2 hH2'
  try simp -implicitDefEqProofs (maxSteps := 1000000) (disch := first | omega | assumption) only [Sx]
  refine a_new fun r6 hr6 => ?_
  obtain ⟨H3, hH3⟩ : ∃ H3, H3 = H2.set r6 (.cells #[.int .i64 0] 3 (0, 0)) := ⟨_, rfl⟩
  have k3 : Keep H2 H3 := by rw [hH3]; exact (Keep.refl _).set_new hr6
  have a3 : H3 r6 = some (.cells #[.int .i64 0] 3 (0, 0)) := by rw [hH3]; exact set_same
  rw [← hH3]
  clear hH3
  try simp -implicitDefEqProofs (maxSteps := 1000000) (disch := first | omega | assumption) only [Sx]
  refine a_new fun r7 hr7 => ?_
  obtain ⟨H4, hH4⟩ : ∃ H4, H4 = H3.set r7 (.cells #[.int .i64 0] 27 (0, 0)) := ⟨_, rfl⟩
  have k4 : Keep H3 H4 := by rw [hH4]; exact (Keep.refl _).set_new hr7
  have a4 : H4 r7 = some (.cells #[.int .i64 0] 27 (0, 0)) := by rw [hH4]; exact set_same
  rw [← hH4]
  clear hH4
  have k34 := k3.trans k4
  have k24 := k2.trans k34
  have ro4 : RO H4 r4 r5 r6 r7 (.slice none 0 0) m0 (.slice none 0 0) 0 0 := ⟨k24 _ _ a1, k34 _ _ a2, k4 _ _ a3, a4⟩
  have k14 := k1.trans k24
  have n5 : H r5 = none := k1.none hr5
  have n6 : H r6 = none := k1.none (k2.none hr6)
  have n7 : H r7 = none := k1.none (k2.none (k3.none hr7))
  clear a1 a2 a3 a4 k34 k24 k1 k2 k3 k4 hr5 hr6 hr7
  obtain ⟨G, hG⟩ : ∃ G, G = mone b most := ⟨_, rfl⟩
  have hGm := hG
  unfold mone at hG
  by_cases hbad : most < 0 ∨ 4194304 < most
  · rw [if_pos hbad] at hG
    have n45 : r4 ≠ r5 := blk_ne ro4.a ro4.b (by decide)
    have n46 : r4 ≠ r6 := blk_ne ro4.a ro4.c (by decide)
    have n47 : r4 ≠ r7 := blk_ne ro4.a ro4.d (by decide)
    have n56 : r5 ≠ r6 := blk_ne ro4.b ro4.c (by decide)
    have n57 : r5 ≠ r7 := blk_ne ro4.b ro4.d (by decide)
    have n67 : r6 ≠ r7 := blk_ne ro4.c ro4.d (by decide)
    have hbd : (QI.build #[(.string ⟨#[]⟩), (.string ⟨#[]⟩), (.slice none 0 0), (.int .u32 0), (.int .u8 0), (.int .u8 0), (.bool false), (.bool false)] []).ev [] H4 = some mz := rfl
    have fin : ∀ H5, H5 = (((H4.set r4 (.cells #[.slice none 0 0] 22 (0, 0))).set r5 (.cells (memV m0 (.slice none 0 0)).toArray 26 (0, 0))).set r6 (.cells #[.int .i64 0] 3 (0, 0))).set r7 (.cells #[.int .i64 1] 27 (0, 0)) → RO H5 r4 r5 r6 r7 (.slice none 0 0) m0 (.slice none 0 0) 0 1 ∧ Keep H H5 := by
      rintro H5 rfl
      refine ⟨⟨?_, ?_, ?_, set_same⟩, ((((k14.set_fresh hr4).set_fresh n5).set_fresh n6).set_fresh n7)⟩
      · rw [set_other n47, set_other n46, set_other n45, set_same]
      · rw [set_other n57, set_other n56, set_same]
      · rw [set_other n67, set_same]
    have tail : ∀ env : Env, env 4 = .pointer (some ⟨r4, 0, none⟩) → env 5 = .pointer (some ⟨r5, 0, none⟩) → env 6 = .pointer (some ⟨r6, 0, none⟩) → env 7 = .pointer (some ⟨r7, 0, none⟩) → ∀ H5, RO H5 r4 r5 r6 r7 (.slice none 0 0) m0 (.slice none 0 0) 0 1 ∧ Keep H H5 → bindL (getAll env H5 [.c 4 none, .c 5 (some 8), .c 6 none, .c 7 none]) (fun vs => OneP H b most (.returned (oneOr vs)) H5) := by
      rintro env h4 h5 h6 h7 H5 ⟨hR5, k5⟩
      rw [ro_get hR5 h4 h5 h6 h7]
      refine ⟨k5, ?_⟩
      rw [← hGm, hG]
      exact ⟨rfl, by decide⟩
    by_cases h1 : most < 0
    · have f1 : decide (most < 0) = true := decide_eq_true h1
      simp -implicitDefEqProofs (maxSteps := 1000000) (disch := first | omega | assumption) only [f1, hbd, Dx, pq_normal, Sx, Nat.reduceEqDiff]
      refine st_one (o := 0) ro4.a (by simp) rfl ?_
      try simp -implicitDefEqProofs (maxSteps := 1000000) (disch := first | omega | assumption) only [Sx, Nat.reduceEqDiff]
      refine st_all (old := memV m0 (.slice none 0 0)) (ci := memV m0 (.slice none 0 0)) (by rw [set_other (Ne.symm n45)]; exact ro4.b) rfl rfl (memV_scalar rfl) ?_
      try simp -implicitDefEqProofs (maxSteps := 1000000) (disch := first | omega | assumption) only [Sx, Nat.reduceEqDiff]
      refine st_one (o := 0) (by rw [set_other (Ne.symm n56), set_other (Ne.symm n46)]; exact ro4.c) (by simp) rfl ?_
      try simp -implicitDefEqProofs (maxSteps := 1000000) (disch := first | omega | assumption) only [Sx, Nat.reduceEqDiff]
      refine st_one (o := 0) (by rw [set_other (Ne.symm n67), set_other (Ne.symm n57), set_other (Ne.symm n47)]; exact ro4.d) (by simp) rfl ?_
      try simp -implicitDefEqProofs (maxSteps := 1000000) (disch := first | omega | assumption) only [Dx, Sx]
      refine tail _ ?_ ?_ ?_ ?_ _ (fin _ rfl)
      · simp -implicitDefEqProofs (maxSteps := 1000000) (disch := first | omega | assumption) only [Sx, Nat.reduceEqDiff]
      · simp -implicitDefEqProofs (maxSteps := 1000000) (disch := first | omega | assumption) only [Sx, Nat.reduceEqDiff]
      · simp -implicitDefEqProofs (maxSteps := 1000000) (disch := first | omega | assumption) only [Sx, Nat.reduceEqDiff]
      · simp -implicitDefEqProofs (maxSteps := 1000000) (disch := first | omega | assumption) only [Sx, Nat.reduceEqDiff]
    · have f1 : decide (most < 0) = false := decide_eq_false h1
      have f2 : decide (4194304 < most) = true := decide_eq_true (by omega)
      simp -implicitDefEqProofs (maxSteps := 1000000) (disch := first | omega | assumption) only [f1, f2, hbd, Dx, pq_normal, Sx, Nat.reduceEqDiff]
      refine st_one (o := 0) ro4.a (by simp) rfl ?_
      try simp -implicitDefEqProofs (maxSteps := 1000000) (disch := first | omega | assumption) only [Sx, Nat.reduceEqDiff]
      refine st_all (old := memV m0 (.slice none 0 0)) (ci := memV m0 (.slice none 0 0)) (by rw [set_other (Ne.symm n45)]; exact ro4.b) rfl rfl (memV_scalar rfl) ?_
      try simp -implicitDefEqProofs (maxSteps := 1000000) (disch := first | omega | assumption) only [Sx, Nat.reduceEqDiff]
      refine st_one (o := 0) (by rw [set_other (Ne.symm n56), set_other (Ne.symm n46)]; exact ro4.c) (by simp) rfl ?_
      try simp -implicitDefEqProofs (maxSteps := 1000000) (disch := first | omega | assumption) only [Sx, Nat.reduceEqDiff]
      refine st_one (o := 0) (by rw [set_other (Ne.symm n67), set_other (Ne.symm n57), set_other (Ne.symm n47)]; exact ro4.d) (by simp) rfl ?_
      try simp -implicitDefEqProofs (maxSteps := 1000000) (disch := first | omega | assumption) only [Dx, Sx]
      refine tail _ ?_ ?_ ?_ ?_ _ (fin _ rfl)
      · simp -implicitDefEqProofs (maxSteps := 1000000) (disch := first | omega | assumption) only [Sx, Nat.reduceEqDiff]
      · simp -implicitDefEqProofs (maxSteps := 1000000) (disch := first | omega | assumption) only [Sx, Nat.reduceEqDiff]
      · simp -implicitDefEqProofs (maxSteps := 1000000) (disch := first | omega | assumption) only [Sx, Nat.reduceEqDiff]
      · simp -implicitDefEqProofs (maxSteps := 1000000) (disch := first | omega | assumption) only [Sx, Nat.reduceEqDiff]
  rw [if_neg hbad] at hG
  have f1 : decide (most < 0) = false := decide_eq_false (by omega)
  have f2 : decide (4194304 < most) = false := decide_eq_false (by omega)
  have emk : (QI.mkf (.func 21) 0).ev [.pointer (some ⟨r4, 0, none⟩), .pointer (some ⟨r5, 0, none⟩), .pointer (some ⟨r6, 0, none⟩), .pointer (some ⟨r7, 0, none⟩)] H4 = some (.func (.func 21) #[] #[.pointer (some ⟨r4, 0, none⟩), .pointer (some ⟨r5, 0, none⟩), .pointer (some ⟨r6, 0, none⟩), .pointer (some ⟨r7, 0, none⟩)]) := rfl
  simp -implicitDefEqProofs (maxSteps := 1000000) (disch := first | omega | assumption) only [f1, f2, emk, Dx, pq_normal, Sx, Nat.reduceEqDiff]
  rw [dk_tmp (g := 21) (cap := #[.pointer (some ⟨r4, 0, none⟩), .pointer (some ⟨r5, 0, none⟩), .pointer (some ⟨r6, 0, none⟩), .pointer (some ⟨r7, 0, none⟩)]) (by simp -implicitDefEqProofs (maxSteps := 1000000) (disch := first | omega | assumption) only [Sx, Nat.reduceEqDiff])]
  have hbad : ∀ {e0 : Env} {H' : Heap} {x : Value} {m : Mem} {ext : Value} {er : Int} (ds : List Deferred), ds = [clo1 r4 r5 r6 r7] → e0 4 = .pointer (some ⟨r4, 0, none⟩) → e0 5 = .pointer (some ⟨r5, 0, none⟩) → e0 6 = .pointer (some ⟨r6, 0, none⟩) → e0 7 = .pointer (some ⟨r7, 0, none⟩) → RO H' r4 r5 r6 r7 x m ext 0 0 → Keep H H' → G = .error er → er ≠ 0 → panD Tryd.prog [.c 4 none, .c 5 (some 8), .c 6 none, .c 7 none] (OneP H b most) e0 ds [{ v := .iface 27 (.int .i64 er), recovered := false }] H' := by
    rintro e0 H' x m ext er ds rfl h4 h5 h6 h7 hR hK hG' hne env hk
    exact leave1_bad hR hK hr4 n5 n6 n7 (by rw [← hGm]; exact hG') hne ((hk 4 rfl).trans h4) ((hk 5 rfl).trans h5) ((hk 6 rfl).trans h6) ((hk 7 rfl).trans h7)
  simp -implicitDefEqProofs (maxSteps := 1000000) (disch := first | omega | assumption) only [List.map_nil, Dx, Sx, Nat.reduceEqDiff, reduceCtorEq, Nat.reduceAdd, Nat.reduceLT]
  refine a_box fun p hp => ?_
  obtain ⟨H5, hH5⟩ : ∃ H5, H5 = H4.set p (.cells #[.slice (some ⟨q, o, none⟩) b.length c, .int .i64 ((0 : Nat) : Int)] 45 (0, 0)) := ⟨_, rfl⟩
  have k5 : Keep H4 H5 := by rw [hH5]; exact (Keep.refl _).set_new hp
  have k15 := k14.trans k5
  have g5 : GAt H5 p q o c b 0 := ⟨by rw [hH5]; exact set_same, k15.row hr, hc, Nat.zero_le _, hb, hbl, fun e => hq (e ▸ k14.none hp), fun h => hq (k15.none h)⟩
  try simp -implicitDefEqProofs (maxSteps := 1000000) (disch := first | omega | assumption) only [Value.cells, Dx, Sx, Nat.reduceEqDiff]
  rw [show H4.set p (.cells #[.slice (some ⟨q, o, none⟩) b.length c, .int .i64 0] 45 (0, 0)) = H5 from hH5.symm]
  clear hH5
  have s5 : OS H H5 r4 r5 r6 r7 p q o c b 0 (.slice none 0 0) [] m0 (.slice none 0 0) := ⟨⟨k5 _ _ ro4.a, k5 _ _ ro4.b, k5 _ _ ro4.c, k5 _ _ ro4.d⟩, g5, k15, hr4, n5, n6, n7, k14.none hp, hq, .nil, .nil, (fun s hs => by cases hs), (fun s hs => by cases hs), fun s hs => by cases hs⟩
  clear ro4 k14 k5 k15 g5 hp
  try simp -implicitDefEqProofs (maxSteps := 1000000) (disch := first | omega | assumption) only [Dx, pq_normal, rq_normal, dk_func, settle_ret, ev_nilc, Sx, reduceIte, Nat.reduceEqDiff, reduceCtorEq, Nat.reduceAdd, Nat.reduceSub, Nat.reduceLT, Zx, endK]
  refine a_call (head_spec s5.g) ?_
  rintro e H6 hO
  cases hM : mhead b with
  | error er =>
    rw [hM] at hO hG
    obtain ⟨rfl, hne, ho⟩ := hO
    simp -implicitDefEqProofs (maxSteps := 1000000) (disch := first | omega | assumption) only [endK]
    have k6 : Keep H H6 := ho.keep s5.k (fun y hy => hy ▸ s5.np)
    have a6 : RO H6 r4 r5 r6 r7 (.slice none 0 0) m0 (.slice none 0 0) 0 0 := ⟨ho.oth _ _ s5.ro.a (fun e => blk_ne s5.ro.a s5.g.blk (by decide) e), ho.oth _ _ s5.ro.b (fun e => blk_ne s5.ro.b s5.g.blk (by decide) e), ho.oth _ _ s5.ro.c (fun e => blk_ne s5.ro.c s5.g.blk (by decide) e), ho.oth _ _ s5.ro.d (fun e => blk_ne s5.ro.d s5.g.blk (by decide) e)⟩
    exact hbad _ rfl (by simp -implicitDefEqProofs (maxSteps := 1000000) (disch := first | omega | assumption) only [Sx, Nat.reduceEqDiff]) (by simp -implicitDefEqProofs (maxSteps := 1000000) (disch := first | omega | assumption) only [Sx, Nat.reduceEqDiff]) (by simp -implicitDefEqProofs (maxSteps := 1000000) (disch := first | omega | assumption) only [Sx, Nat.reduceEqDiff]) (by simp -implicitDefEqProofs (maxSteps := 1000000) (disch := first | omega | assumption) only [Sx, Nat.reduceEqDiff]) a6 k6 hG hne
  | ok hd =>
  rw [hM] at hO hG
  obtain ⟨ext, rfl, hE, fE, g6, ho⟩ := hO
  have s6 := s5.adv g6 ho
  have fE' : Fresh H ext := fun x hx => s5.k.none (fE x hx)
  clear ho g6 s5 fE
  have hsE := hE.scalar
  obtain ⟨m, t⟩ := hd
  simp -implicitDefEqProofs (maxSteps := 1000000) (disch := first | omega | assumption) only [Sx, Nat.reduceEqDiff, endK]
  obtain ⟨mv, hmv⟩ : ∃ mv, mv = memV m ext := ⟨_, rfl⟩
  refine st_all (old := memV m0 (.slice none 0 0)) (ci := memV m ext) s6.ro.b rfl rfl (memV_scalar hsE) ?_
  obtain ⟨H7, hH7⟩ : ∃ H7, H7 = H6.set r5 (.cells (memV m ext).toArray 26 (0, 0)) := ⟨_, rfl⟩
  have s7 : OS H H7 r4 r5 r6 r7 p q o c b t (.slice none 0 0) [] m ext := s6.setM hH7 hE fE' (fun s hs => by cases hs)
  rw [← hH7]
  clear hH7 s6 hE fE' hmv mv
  have hG : G = (mbody b most t).bind fun x => .ok (x.1, m, x.2) := hG
  have hle := s7.g.le
  have hin : (0 : Int) ≤ (t : Int) ∧ (t : Int) ≤ (b.length : Nat) := by omega
  have hDle := decV_le (bs := b.drop t) (most := most)
  rw [List.length_drop] at hDle
  unfold mbody at hG
  try simp -implicitDefEqProofs (maxSteps := 1000000) (disch := first | omega | assumption) only [cell_of s7.g.blk, ev_nilc, ev_slc_lo, Dx, ev_nilc, Sx, Nat.reduceEqDiff, reduceCtorEq]
  refine a_call (decode_spec (most := most) (hT.keep s7.k) (row_drop (k := t) s7.g.row hc) List.length_drop.symm (hb.drop t) (by rw [List.length_drop]; omega)) ?_
  obtain ⟨D, hD⟩ : ∃ D, D = decV (b.drop t) most := ⟨_, rfl⟩
  rw [← hD] at hG hDle ⊢
  clear hD
  rintro e H8 ⟨vp, rfl, hP, hPb, hPl, k8, f8⟩
  have s8 := s7.more k8
  have fP : Fresh H vp := fun x hx => s7.k.none (f8 x hx)
  have hne8 : ∀ s, own vp = some s → own ext ≠ some s := fun s hs e => s7.oe.known e (f8 s hs)
  have hsP := hP.scalar
  simp -implicitDefEqProofs (maxSteps := 1000000) (disch := first | omega | assumption) only [Sx, Nat.reduceEqDiff, endK]
  refine st_one (o := 0) s8.ro.a (by simp) hsP ?_
  obtain ⟨H9, hH9⟩ : ∃ H9, H9 = H8.set r4 (.cells #[vp] 22 (0, 0)) := ⟨_, rfl⟩
  have s9 := s8.setX (xl' := D.1) hH9 hP fP hne8
  have hH9' : H8.set r4 (.cells ((#[.slice none 0 0] : Array Value).setIfInBounds 0 vp) 22 (0, 0)) = H9 := hH9.symm
  try rw [hH9']
  try rw [← hH9]
  clear hH9 hH9' s8 s7 k8 f8 hP
  have hvp : ∃ Ap cp, vp = .slice Ap D.1.length cp := by
    obtain ⟨Ap, cp, e, -, -⟩ := Bo.row s9.ox
    exact ⟨Ap, cp, e⟩
  obtain ⟨Ap, cp, rfl⟩ := hvp
  by_cases he : D.2.2 = 0
  rotate_left
  · rw [if_pos he] at hG
    have f3 : (D.2.2 != 0) = true := bne_iff_ne.2 he
    try simp -implicitDefEqProofs (maxSteps := 1000000) (disch := first | omega | assumption) only [f3, Dx, Sx, Nat.reduceEqDiff]
    refine a_pan ?_
    exact hbad _ rfl (by simp -implicitDefEqProofs (maxSteps := 1000000) (disch := first | omega | assumption) only [Sx, Nat.reduceEqDiff]) (by simp -implicitDefEqProofs (maxSteps := 1000000) (disch := first | omega | assumption) only [Sx, Nat.reduceEqDiff]) (by simp -implicitDefEqProofs (maxSteps := 1000000) (disch := first | omega | assumption) only [Sx, Nat.reduceEqDiff]) (by simp -implicitDefEqProofs (maxSteps := 1000000) (disch := first | omega | assumption) only [Sx, Nat.reduceEqDiff]) s9.ro s9.k hG he
  rw [if_neg (by omega)] at hG
  have f3 : (D.2.2 != 0) = false := by rw [he]; rfl
  try simp -implicitDefEqProofs (maxSteps := 1000000) (disch := first | omega | assumption) only [f3, Dx, Sx, Nat.reduceEqDiff]
  refine a_call (take_spec (n := D.2.1) s9.g (by omega)) ?_
  rintro e H10 (⟨h10, rfl, g10, ho⟩ | ⟨h10, -, -⟩)
  rotate_left
  · omega
  have s10 := s9.adv g10 ho
  clear ho g10 s9
  simp -implicitDefEqProofs (maxSteps := 1000000) (disch := first | omega | assumption) only [Dx, Sx, Nat.reduceEqDiff, endK]
  refine a_call (take_spec (n := 8) s10.g (by omega)) ?_
  obtain ⟨u, hu⟩ : ∃ u, u = t + D.2.1 := ⟨_, rfl⟩
  rw [← hu] at s10 hG ⊢
  unfold mtail at hG
  rintro e H11 (⟨h11, rfl, g11, ho⟩ | ⟨h11, rfl, rfl⟩)
  rotate_left
  · rw [if_pos (by omega)] at hG
    simp -implicitDefEqProofs (maxSteps := 1000000) (disch := first | omega | assumption) only [endK]
    exact hbad _ rfl (by simp -implicitDefEqProofs (maxSteps := 1000000) (disch := first | omega | assumption) only [Sx, Nat.reduceEqDiff]) (by simp -implicitDefEqProofs (maxSteps := 1000000) (disch := first | omega | assumption) only [Sx, Nat.reduceEqDiff]) (by simp -implicitDefEqProofs (maxSteps := 1000000) (disch := first | omega | assumption) only [Sx, Nat.reduceEqDiff]) (by simp -implicitDefEqProofs (maxSteps := 1000000) (disch := first | omega | assumption) only [Sx, Nat.reduceEqDiff]) s10.ro s10.k hG (by decide)
  rw [if_neg (by omega)] at hG
  have s11 := s10.adv g11 ho
  clear ho g11 s10
  have hsub := s11.g.sub u 8
  have hl8 : ((b.drop u).take 8).length = 8 := by rw [List.length_take, List.length_drop]; omega
  have a11 := s11.ro.a
  simp -implicitDefEqProofs (maxSteps := 1000000) (disch := first | omega | assumption) only [cell_of a11, l_qk, l_e, Dx, Sx, Nat.reduceEqDiff, endK]
  refine a_call (get32_spec hsub hl8.symm ((hb.drop u).take 8) (by omega)) ?_
  rintro e H12 ⟨rfl, rfl⟩
  rw [List.take_take, show min 4 8 = 4 from rfl]
  obtain ⟨z1, hz1⟩ : ∃ z1, z1 = Go.Proofs.YtgbhdpeibiglfaaDoor.S08.le ((b.drop u).take 4) := ⟨_, rfl⟩
  rw [← hz1] at hG ⊢
  try simp -implicitDefEqProofs (maxSteps := 1000000) (disch := first | omega | assumption) only [endK]
  refine ⟨fun z hz _ => by simp only [List.mem_cons, List.not_mem_nil, or_false] at hz; subst hz; (simp only [cell_of a11]; rfl), ?_⟩
  obtain ⟨_, _, ee, -, wp⟩ := Bo.row s11.ox
  cases ee
  try simp -implicitDefEqProofs (maxSteps := 1000000) (disch := first | omega | assumption) only [l_qk, l_e, Dx, pq_normal, rq_normal, dk_func, settle_ret, ev_nilc, Sx, reduceIte, Nat.reduceEqDiff, reduceCtorEq, Nat.reduceAdd, Nat.reduceSub, Nat.reduceLT, Zx, endK]
  refine a_call (gsum_spec wp rfl hPb (by omega)) ?_
  rintro e H13 ⟨rfl, rfl⟩
  try simp -implicitDefEqProofs (maxSteps := 1000000) (disch := first | omega | assumption) only [endK]
  refine ⟨fun z hz h => by simp at h, ?_⟩
  by_cases hz : z1 = crc D.1
  rotate_left
  · rw [if_pos hz] at hG
    have f4 : ((z1 : Int) != ((crc D.1 : Nat) : Int)) = true := by rw [bne_iff_ne]; omega
    try simp -implicitDefEqProofs (maxSteps := 1000000) (disch := first | omega | assumption) only [f4, Sx, Nat.reduceEqDiff]
    refine a_pan ?_
    exact hbad _ rfl (by simp -implicitDefEqProofs (maxSteps := 1000000) (disch := first | omega | assumption) only [Sx, Nat.reduceEqDiff]) (by simp -implicitDefEqProofs (maxSteps := 1000000) (disch := first | omega | assumption) only [Sx, Nat.reduceEqDiff]) (by simp -implicitDefEqProofs (maxSteps := 1000000) (disch := first | omega | assumption) only [Sx, Nat.reduceEqDiff]) (by simp -implicitDefEqProofs (maxSteps := 1000000) (disch := first | omega | assumption) only [Sx, Nat.reduceEqDiff]) s11.ro s11.k hG (by decide)
  rw [if_neg (by omega)] at hG
  have f4 : ((z1 : Int) != ((crc D.1 : Nat) : Int)) = false := by rw [bne_eq_false_iff_eq]; omega
  have i4 : (0 : Int) ≤ 4 ∧ (4 : Int) ≤ ((8 : Nat) : Int) := by omega
  have t4 : (4 : Int).toNat = 4 := rfl
  have e32 : IntKind.u32.wrap (D.1.length : Int) = (D.1.length : Int) := w_u32' (by omega)
  try simp -implicitDefEqProofs (maxSteps := 1000000) (disch := first | omega | assumption) only [f4, ev_slc_lo, t4, cell_of a11, e32, l_qk, l_e, Dx, Sx, Nat.reduceEqDiff, Nat.reduceSub]
  have hcap := s11.g.cap
  have hsub2 : Row H13 (cutA (cutA (some ⟨q, o, none⟩) c u 1) (c - u) 4 1) (by8 ((b.drop (u + 4)).take 4)) := by
    have := row_drop (k := 4) hsub (c := c - u) (by omega)
    rwa [List.drop_take, List.drop_drop] at this
  have hl4 : ((b.drop (u + 4)).take 4).length = 4 := by rw [List.length_take, List.length_drop]; omega
  refine a_call (get32_spec hsub2 hl4.symm ((hb.drop (u + 4)).take 4) (by omega)) ?_
  rintro e H14 ⟨rfl, rfl⟩
  rw [List.take_take, Nat.min_self]
  obtain ⟨z2, hz2⟩ : ∃ z2, z2 = Go.Proofs.YtgbhdpeibiglfaaDoor.S08.le ((b.drop (u + 4)).take 4) := ⟨_, rfl⟩
  rw [← hz2] at hG ⊢
  try simp -implicitDefEqProofs (maxSteps := 1000000) (disch := first | omega | assumption) only [endK]
  refine ⟨fun z hz _ => by simp only [List.mem_cons, List.not_mem_nil, or_false] at hz; subst hz; (simp only [cell_of a11]; rfl), ?_⟩
  by_cases hz3 : z2 = D.1.length
  rotate_left
  · rw [if_pos hz3] at hG
    have f5 : ((z2 : Int) != (D.1.length : Int)) = true := by rw [bne_iff_ne]; omega
    try simp -implicitDefEqProofs (maxSteps := 1000000) (disch := first | omega | assumption) only [f5, Sx, Nat.reduceEqDiff]
    refine a_pan ?_
    exact hbad _ rfl (by simp -implicitDefEqProofs (maxSteps := 1000000) (disch := first | omega | assumption) only [Sx, Nat.reduceEqDiff]) (by simp -implicitDefEqProofs (maxSteps := 1000000) (disch := first | omega | assumption) only [Sx, Nat.reduceEqDiff]) (by simp -implicitDefEqProofs (maxSteps := 1000000) (disch := first | omega | assumption) only [Sx, Nat.reduceEqDiff]) (by simp -implicitDefEqProofs (maxSteps := 1000000) (disch := first | omega | assumption) only [Sx, Nat.reduceEqDiff]) s11.ro s11.k hG (by decide)
  rw [if_neg (by omega)] at hG
  have f5 : ((z2 : Int) != (D.1.length : Int)) = false := by rw [bne_eq_false_iff_eq]; omega
  have hG : G = .ok (D.1, m, u + 8) := hG
  have hbl5 := mem_load s11.ro.b
  have cp8 : ∀ {H' : Heap}, H' p = some (.cells #[.slice (some ⟨q, o, none⟩) b.length c, .int .i64 ((u + 8 : Nat) : Int)] 45 (0, 0)) → H'.cell? ⟨p, 1, none⟩ = some (.int .i64 ((u + 8 : Nat) : Int)) := fun h => by rw [cell_of h]; rfl
  obtain ⟨mv, hmv⟩ : ∃ mv, mv = memV m ext := ⟨_, rfl⟩
  rw [← hmv] at hbl5
  try simp -implicitDefEqProofs (maxSteps := 1000000) (disch := first | omega | assumption) only [f5, cell_of a11, ev_ldn, hbl5, cp8 s11.g.blk, ev_nilc, l_qk, l_e, Dx, ev_nilc, Sx, Nat.reduceEqDiff]
  refine st_one (o := 0) s11.ro.a (by simp) hsP ?_
  obtain ⟨H15, hH15⟩ : ∃ H15, H15 = H14.set r4 (.cells #[.slice Ap D.1.length cp] 22 (0, 0)) := ⟨_, rfl⟩
  have s15 := s11.setX (xl' := D.1) hH15 s11.ox s11.fx s11.ne
  have hH15' : H14.set r4 (.cells ((#[.slice Ap D.1.length cp] : Array Value).setIfInBounds 0 (.slice Ap D.1.length cp)) 22 (0, 0)) = H15 := hH15.symm
  try rw [hH15']
  try rw [← hH15]
  clear hH15 hH15'
  have hbl15 := mem_load s15.ro.b
  rw [← hmv] at hbl15
  try simp -implicitDefEqProofs (maxSteps := 1000000) (disch := first | omega | assumption) only [endK]
  refine ⟨fun z hz _ => by simp only [List.mem_cons, List.not_mem_nil, or_false] at hz; rcases hz with rfl | rfl <;> simp only [hbl15, cp8 s15.g.blk, Option.map_some], ?_⟩
  try simp -implicitDefEqProofs (maxSteps := 1000000) (disch := first | omega | assumption) only [l_qk, l_e, Dx, pq_normal, rq_normal, dk_func, settle_ret, ev_nilc, Sx, reduceIte, Nat.reduceEqDiff, reduceCtorEq, Nat.reduceAdd, Nat.reduceSub, Nat.reduceLT, Zx, endK]
  refine st_all (old := memV m ext) (ci := mv) s15.ro.b (by rw [hmv]) (by rw [hmv]; rfl) (by rw [hmv]; exact memV_scalar hsE) ?_
  rw [hmv]
  obtain ⟨H16, hH16⟩ : ∃ H16, H16 = H15.set r5 (.cells (memV m ext).toArray 26 (0, 0)) := ⟨_, rfl⟩
  have s16 := s15.setM hH16 s15.oe s15.fe s15.ne
  rw [← hH16]
  clear hH16
  try simp -implicitDefEqProofs (maxSteps := 1000000) (disch := first | omega | assumption) only [endK]
  refine ⟨fun z hz h5 => by simp only [List.mem_cons, List.not_mem_nil, or_false] at hz; rcases hz with rfl | rfl; exact cp8 s16.g.blk; exact absurd h5 (by simp), ?_⟩
  try simp -implicitDefEqProofs (maxSteps := 1000000) (disch := first | omega | assumption) only [l_qk, l_e, Dx, pq_normal, rq_normal, dk_func, settle_ret, ev_nilc, Sx, reduceIte, Nat.reduceEqDiff, reduceCtorEq, Nat.reduceAdd, Nat.reduceSub, Nat.reduceLT, Zx, endK]
  refine st_one (o := 0) s16.ro.c (by simp) rfl ?_
  try simp -implicitDefEqProofs (maxSteps := 1000000) (disch := first | omega | assumption) only [endK]
  refine ⟨fun z hz h => by simp at h, ?_⟩
  have n67 : r6 ≠ r7 := blk_ne s16.ro.c s16.ro.d (by decide)
  have n46 : r4 ≠ r6 := blk_ne s16.ro.a s16.ro.c (by decide)
  have n47 : r4 ≠ r7 := blk_ne s16.ro.a s16.ro.d (by decide)
  have n56 : r5 ≠ r6 := blk_ne s16.ro.b s16.ro.c (by decide)
  have n57 : r5 ≠ r7 := blk_ne s16.ro.b s16.ro.d (by decide)
  try simp -implicitDefEqProofs (maxSteps := 1000000) (disch := first | omega | assumption) only [Sx]
  refine st_one (o := 0) (by rw [set_other (Ne.symm n67)]; exact s16.ro.d) (by simp) rfl ?_
  try simp -implicitDefEqProofs (maxSteps := 1000000) (disch := first | omega | assumption) only [endK]
  refine ⟨fun z hz h => by simp at h, ?_⟩
  try simp -implicitDefEqProofs (maxSteps := 1000000) (disch := first | omega | assumption) only [Sx]
  obtain ⟨H17, hH17⟩ : ∃ H17, H17 = (H16.set r6 (.cells #[.int .i64 ((u + 8 : Nat) : Int)] 3 (0, 0))).set r7 (.cells #[.int .i64 0] 27 (0, 0)) := ⟨_, rfl⟩
  have ho17 : Only (fun r => r = r6 ∨ r = r7) H16 H17 := by rw [hH17]; exact ((Only.refl _ _).set (.inl (.inl rfl))).set (.inl (.inr rfl))
  have ro17 : RO H17 r4 r5 r6 r7 (.slice Ap D.1.length cp) m ext ((u + 8 : Nat) : Int) 0 := ⟨ho17.oth _ _ s16.ro.a (by rintro (e | e); exact n46 e; exact n47 e), ho17.oth _ _ s16.ro.b (by rintro (e | e); exact n56 e; exact n57 e), by rw [hH17, set_other n67, set_same], by rw [hH17, set_same]⟩
  have ox17 : Bo H17 (.slice Ap D.1.length cp) D.1 := s16.ox.only ho17 (by
    rintro x hx (rfl | rfl)
    · exact s16.ox.elem s16.ro.c (by decide) hx
    · exact s16.ox.elem s16.ro.d (by decide) hx)
  have oe17 : Bo H17 ext m.extra := s16.oe.only ho17 (by
    rintro x hx (rfl | rfl)
    · exact s16.oe.elem s16.ro.c (by decide) hx
    · exact s16.oe.elem s16.ro.d (by decide) hx)
  have k17 : Keep H H17 := ho17.keep s16.k (by rintro x (rfl | rfl); exact n6; exact n7)
  try rw [← hH17]
  have leave : ∀ env : Env, env 4 = .pointer (some ⟨r4, 0, none⟩) → env 5 = .pointer (some ⟨r5, 0, none⟩) → env 6 = .pointer (some ⟨r6, 0, none⟩) → env 7 = .pointer (some ⟨r7, 0, none⟩) → ALeaves Tryd.prog [.c 4 none, .c 5 (some 8), .c 6 none, .c 7 none] env (OneP H b most) [clo1 r4 r5 r6 r7] .returning H17 := by
    intro env h4 h5 h6 h7
    refine al_cons (by simp) ((dfr1_spec ro17).1 rfl) ?_
    rintro e' u' H' ⟨rfl, rfl, rfl⟩
    show ALeaves _ _ _ _ [] (settle _) _
    rw [settle_ret, al_nil, ro_get ro17 h4 h5 h6 h7]
    refine ⟨k17, ?_⟩
    rw [← hGm, hG]
    exact ⟨_, ext, rfl, ox17, oe17, s16.fx, s16.fe, s16.ne, by show D.1.length ≤ 4194304; omega⟩
  refine leave _ ?_ ?_ ?_ ?_
  · simp -implicitDefEqProofs (maxSteps := 1000000) (disch := first | omega | assumption) only [Sx, Nat.reduceEqDiff]
  · simp -implicitDefEqProofs (maxSteps := 1000000) (disch := first | omega | assumption) only [Sx, Nat.reduceEqDiff]
  · simp -implicitDefEqProofs (maxSteps := 1000000) (disch := first | omega | assumption) only [Sx, Nat.reduceEqDiff]
  · simp -implicitDefEqProofs (maxSteps := 1000000) (disch := first | omega | assumption) only [Sx, Nat.reduceEqDiff]
end Go.Proofs.YtgbhdpeibiglfaaDoor.S08

set_option linter.unusedVariables false
set_option linter.unusedSimpArgs false
namespace Go.Proofs.YtgbhdpeibiglfaaDoor.S08
open Go Go.RowKit Go.Proofs.YtgbhdpeibiglfaaDoor.Sep Go.Proofs.YtgbhdpeibiglfaaDoor.Low Go.Proofs.YtgbhdpeibiglfaaDoor.S05 Go.Proofs.YtgbhdpeibiglfaaDoor.S06
open Go.Proofs.YtgbhdpeibiglfaaDoor.Lib hiding by8 by8_scalar

theorem le_lt : ∀ {l : List Int}, isBy l → Go.Proofs.YtgbhdpeibiglfaaDoor.S08.le l < 256 ^ l.length
  | [], _ => by decide
  | x :: l, h => by
    have hx := h x List.mem_cons_self
    have ih := le_lt (l := l) fun y hy => h y (List.mem_cons_of_mem _ hy)
    rw [Go.Proofs.YtgbhdpeibiglfaaDoor.S08.le, List.length_cons, Nat.pow_succ]
    omega
set_option maxHeartbeats 1000000 in
theorem number_spec {H : Heap} {A : Option Addr} {n c : Nat} {l : List Int} (hr : Row H A (by8 l)) (hn : n = l.length) (hb : isBy l) (hl : l.length ≤ 4) :
    ACalls Tryd.prog 28 [Value.slice A n c].toArray H fun e H' => e = .returned (.int .i64 ((Go.Proofs.YtgbhdpeibiglfaaDoor.S08.le l : Nat) : Int)) ∧ H' = H := by
  subst hn
  refine call28 (Nat.le_of_ble_eq_true rfl) ?_
  unfold L28 env0
  have e0 : IntKind.i64.wrap ((l.length : Int) - 1) = (l.length : Int) - 1 := w_i64 (by omega)
  simp -implicitDefEqProofs (maxSteps := 1000000) (disch := first | omega | assumption) only [e0, Sx, Nat.reduceEqDiff, reduceCtorEq]
  refine c_loop (fun k env H' => k ≤ l.length ∧ env 0 = .slice A l.length c ∧ env 3 = .int .i64 ((Go.Proofs.YtgbhdpeibiglfaaDoor.S08.le (l.drop k) : Nat) : Int) ∧ env 4 = .int .i64 ((k : Int) - 1) ∧ H' = H) l.length ⟨Nat.le_refl _, by (first | exact True.intro | rfl | assumption), by rw [List.drop_length]; rfl, by (first | exact True.intro | rfl | assumption), rfl⟩ ?_
  rintro k env H1 ⟨hk, g0, g3, g4, rfl⟩
  unfold L28_0
  by_cases hi : 0 < k
  · obtain ⟨i, rfl⟩ : ∃ i, k = i + 1 := ⟨k - 1, by omega⟩
    have f0 : decide ((0 : Int) ≤ ((i + 1 : Nat) : Int) - 1) = true := decide_eq_true (by omega)
    have ei : ((i + 1 : Nat) : Int) - 1 = (i : Int) := by omega
    rw [ei] at g4 f0
    have hin : (0 : Int) ≤ (i : Int) ∧ (i : Int) < (l.length : Nat) := by omega
    obtain ⟨b, rfl, hcell⟩ := by_at hr (i := i) (by omega)
    have hx := hb.at (i := i) (by omega)
    have hd : l.drop i = l[i] :: l.drop (i + 1) := List.drop_eq_getElem_cons (by omega)
    have hlt := le_lt (hb.drop (i + 1))
    have hp : 256 ^ (l.drop (i + 1)).length ≤ 256 ^ 3 := Nat.pow_le_pow_right (by omega) (by rw [List.length_drop]; omega)
    obtain ⟨z, hz⟩ : ∃ z, z = Go.Proofs.YtgbhdpeibiglfaaDoor.S08.le (l.drop (i + 1)) := ⟨_, rfl⟩
    have hle : Go.Proofs.YtgbhdpeibiglfaaDoor.S08.le (l.drop i) = l[i].toNat + 256 * z := by rw [hd, Go.Proofs.YtgbhdpeibiglfaaDoor.S08.le, hz]
    rw [← hz] at g3 hlt
    obtain ⟨x, hxd⟩ : ∃ x, x = l[i] := ⟨_, rfl⟩
    rw [← hxd] at hcell hx hle
    have hz3 : z < 256 ^ 3 := by omega
    have hz4 : z < 16777216 := hz3
    have e1 : IntKind.i64.wrap ((z : Int) * 256) = (z : Int) * 256 := w_i64 (by omega)
    have e2 : IntKind.i64.wrap x = x := w_i64 (by omega)
    have e3 : IntKind.i64.wrap ((z : Int) * 256 + x) = ((Go.Proofs.YtgbhdpeibiglfaaDoor.S08.le (l.drop i) : Nat) : Int) := by rw [w_i64 (by omega), hle]; omega
    have e4 : IntKind.i64.wrap ((i : Int) - 1) = (i : Int) - 1 := w_i64 (by omega)
    simp -implicitDefEqProofs (maxSteps := 1000000) (disch := first | omega | assumption) only [g0, g3, g4, f0, hcell, e1, e2, e3, e4, Sx, Nat.reduceEqDiff, reduceCtorEq]
    exact ⟨i, by omega, by omega, by (first | exact True.intro | rfl | assumption), by (first | exact True.intro | rfl | assumption), by (first | exact True.intro | rfl | assumption), by (first | exact True.intro | rfl | assumption)⟩
  · obtain rfl : k = 0 := by omega
    have f0 : decide ((0 : Int) ≤ ((0 : Nat) : Int) - 1) = false := by decide
    simp -implicitDefEqProofs (maxSteps := 1000000) (disch := first | omega | assumption) only [g3, g4, f0, Sx, Nat.reduceEqDiff]
    exact ⟨by (first | exact True.intro | rfl | assumption), by (first | exact True.intro | rfl | assumption)⟩
theorem lowB_snoc : ∀ (k n : Nat), lowB (k + 1) n = lowB k n ++ [((n / 256 ^ k % 256 : Nat) : Int)]
  | 0, n => by simp [lowB]
  | k + 1, n => by
    rw [lowB, lowB_snoc k (n / 256), lowB, Nat.div_div_eq_div_mul, List.cons_append, Nat.pow_succ, Nat.mul_comm 256]
set_option maxHeartbeats 1000000 in
theorem low_spec {H : Heap} {n size : Nat} (hn : n < 4294967296) (hs : size ≤ 4) :
    ACalls Tryd.prog 32 [Value.int .u64 (n : Nat), .int .i64 (size : Nat)].toArray H fun e H' => ∃ v, e = .returned v ∧ Bo H' v (lowB size n) ∧ Keep H H' ∧ Fresh H v := by
  refine call32 (Nat.le_of_ble_eq_true rfl) ?_
  unfold L32 env0
  simp -implicitDefEqProofs (maxSteps := 1000000) (disch := first | omega | assumption) only [Sx, reduceCtorEq]
  refine c_loop (fun k env H' => ∃ i v, k + i = size ∧ env 0 = .int .u64 (n : Nat) ∧ env 1 = .int .i64 (size : Nat) ∧ env 5 = v ∧ env 6 = .int .i64 (i : Nat) ∧ Bo H' v (lowB i n) ∧ Keep H H' ∧ Fresh H v) size ⟨0, .slice none 0 0, by omega, by (first | exact True.intro | rfl | assumption), by (first | exact True.intro | rfl | assumption), by (first | exact True.intro | rfl | assumption), by (first | exact True.intro | rfl | assumption), .nil, Keep.refl _, fun q hq => by cases hq⟩ ?_
  rintro k env H1 ⟨i, v, hk, g0, g1, g5, g6, hO, hK, hF⟩
  unfold L32_0
  have hs1 := hO.scalar
  by_cases hi : i < size
  · have f0 : decide ((i : Int) < (size : Int)) = true := decide_eq_true (by omega)
    have e1 : IntKind.i64.wrap (8 * (i : Int)) = 8 * (i : Int) := w_i64 (by omega)
    have e2 : ((n : Nat) : Int).fdiv (2 ^ min (8 * (i : Int)).toNat 64) = ((n / 256 ^ i : Nat) : Int) := by
      rw [show min (8 * (i : Int)).toNat 64 = 8 * i by omega]
      have : (2 : Int) ^ (8 * i) = ((256 ^ i : Nat) : Int) := by
        rw [show (256 : Nat) = 2 ^ 8 from rfl, ← Nat.pow_mul]
        norm_cast
      rw [this, f_div (Int.natCast_nonneg _)]
      norm_cast
    have e3 : IntKind.u8.wrap ((n / 256 ^ i : Nat) : Int) = ((n / 256 ^ i % 256 : Nat) : Int) := by
      rw [w_u8m]; omega
    have eb : IntKind.u64.bits = 64 := rfl
    simp -implicitDefEqProofs (maxSteps := 1000000) (disch := first | omega | assumption) only [g0, g1, g5, g6, f0, e1, e2, e3, eb, v_shr, Sx, Nat.reduceEqDiff, reduceCtorEq]
    refine a_lit8 ?_
    intro r H4 hO4 k4 hr4
    obtain ⟨_, _, _, ee, _, _, hrow4⟩ := hO4.view
    cases ee
    try simp -implicitDefEqProofs (maxSteps := 1000000) (disch := first | omega | assumption) only [Sx, Nat.reduceEqDiff]
    refine app_b (x := [((n / 256 ^ i % 256 : Nat) : Int)]) (hO.keep k4) rfl rfl hrow4 (by rw [lowB_len]; show i + 1 ≤ _; omega) ?_
    intro v7 H7 hO7 ho7 hm7
    obtain ⟨k7, f7⟩ := grown2 (hK.trans k4) hF ho7 hm7
    rw [← lowB_snoc] at hO7
    have hs7 := hO7.scalar
    try simp -implicitDefEqProofs (maxSteps := 1000000) (disch := first | omega | assumption) only [g0, g1, g6, Sx, Nat.reduceEqDiff, reduceCtorEq]
    exact ⟨k - 1, by omega, i + 1, v7, by omega, by (first | exact True.intro | rfl | assumption), by (first | exact True.intro | rfl | assumption), by (first | exact True.intro | rfl | assumption), by simp, hO7, k7, f7⟩
  · have f0 : decide ((i : Int) < (size : Int)) = false := decide_eq_false (by omega)
    obtain rfl : i = size := by omega
    simp -implicitDefEqProofs (maxSteps := 1000000) (disch := first | omega | assumption) only [g1, g5, g6, f0, Sx, Nat.reduceEqDiff]
    exact ⟨v, by (first | exact True.intro | rfl | assumption), hO, hK, hF⟩
def tailB (p : List Int) : List Int := lowB 4 (crc p) ++ lowB 4 p.length
set_option maxHeartbeats 1000000 in
theorem tail_spec {H : Heap} {A : Option Addr} {n c : Nat} {p : List Int} (hr : Row H A (by8 p)) (hn : n = p.length) (hb : isBy p) (hl : p.length ≤ 4194304) :
    ACalls Tryd.prog 19 [Value.slice A n c].toArray H fun e H' => ∃ v, e = .returned v ∧ Bo H' v (tailB p) ∧ Keep H H' ∧ Fresh H v := by
  subst hn
  refine call19 (Nat.le_of_ble_eq_true rfl) ?_
  unfold L19 env0
  have hcr := crc_lt hb
  have w64 : ∀ {z : Int}, 0 ≤ z ∧ z < 18446744073709551616 → IntKind.u64.wrap z = z := fun {z} h => by
    show (z % (2 : Int) ^ 64) = z
    omega
  have e1 : IntKind.u64.wrap ((crc p : Nat) : Int) = ((crc p : Nat) : Int) := w64 (by omega)
  have e2 : IntKind.u64.wrap (p.length : Int) = (p.length : Int) := w64 (by omega)
  simp -implicitDefEqProofs (maxSteps := 1000000) (disch := first | omega | assumption) only [Sx, Nat.reduceEqDiff, reduceCtorEq]
  refine a_call (dsum_spec hr rfl hb (by omega)) ?_
  rintro e H1 ⟨rfl, rfl⟩
  simp -implicitDefEqProofs (maxSteps := 1000000) (disch := first | omega | assumption) only [e1, Sx, Nat.reduceEqDiff, endK]
  refine a_call (low_spec (n := crc p) (size := 4) hcr (by omega)) ?_
  rintro e H2 ⟨v2, rfl, hO2, k2, f2⟩
  have hs2 := hO2.scalar
  simp -implicitDefEqProofs (maxSteps := 1000000) (disch := first | omega | assumption) only [e2, Sx, Nat.reduceEqDiff, reduceCtorEq, endK]
  refine a_call (low_spec (n := p.length) (size := 4) (by omega) (by omega)) ?_
  rintro e H3 ⟨v3, rfl, hO3, k3, f3⟩
  obtain ⟨A3, c3, rfl, -, w3⟩ := Bo.row hO3
  simp -implicitDefEqProofs (maxSteps := 1000000) (disch := first | omega | assumption) only [Sx, Nat.reduceEqDiff, endK]
  refine app_b (hO2.keep k3) rfl rfl w3 (by rw [lowB_len, lowB_len]; omega) ?_
  intro v4 H4 hO4 ho4 hm4
  obtain ⟨k4, f4⟩ := grown2 (k2.trans k3) f2 ho4 hm4
  have hs4 := hO4.scalar
  try simp -implicitDefEqProofs (maxSteps := 1000000) (disch := first | omega | assumption) only [Sx, Nat.reduceEqDiff]
  exact ⟨v4, by (first | exact True.intro | rfl | assumption), hO4, k4, f4⟩
theorem tw_pos {L : List Int} {j : Nat} (h : ∀ x ∈ L.take j, x ≠ 0) : L.takeWhile (· != 0) = L.take j ++ (L.drop j).takeWhile (· != 0) := by
  conv => lhs; rw [← List.take_append_drop j L]
  exact List.takeWhile_append_of_pos fun x hx => by simpa using h x hx
set_option maxHeartbeats 1000000 in
theorem dtext_spec {H : Heap} {A : Option Addr} {n c : Nat} {b : List Int} {t : Nat} (hr : Row H A (by8 b)) (hn : n = b.length) (hc : b.length ≤ c) (ht : t ≤ b.length) (hl : b.length ≤ 137438953472) :
    ACalls Tryd.prog 29 [Value.slice A n c, .int .i64 (t : Nat)].toArray H fun e H' => H' = H ∧ match mtext b t with
      | .ok x => e = .returned (.tuple #[.string ⟨(txt x.1).toArray⟩, .int .i64 (x.2 : Nat), .int .i64 0])
      | .error er => e = .returned (.tuple #[.string ⟨#[]⟩, .int .i64 0, .int .i64 er]) ∧ er ≠ 0 := by
  subst hn
  refine call29 (Nat.le_of_ble_eq_true rfl) ?_
  unfold L29 env0
  have hdl : (b.drop t).length = b.length - t := List.length_drop
  obtain ⟨L, hL⟩ : ∃ L, L = b.drop t := ⟨_, rfl⟩
  have hmt : mtext b t = if 65535 < (L.takeWhile (· != 0)).length then .error 2 else if (L.takeWhile (· != 0)).length = L.length then .error 4 else .ok (L.takeWhile (· != 0), t + (L.takeWhile (· != 0)).length + 1) := by rw [hL]; rfl
  rw [hmt]
  clear hmt
  rw [← hL] at hdl
  simp -implicitDefEqProofs (maxSteps := 1000000) (disch := first | omega | assumption) only [Sx, Nat.reduceEqDiff, reduceCtorEq]
  refine c_loop (fun k env H' => ∃ j, k + j = L.length ∧ j ≤ 65535 ∧ (∀ x ∈ L.take j, x ≠ 0) ∧ env 0 = .slice A b.length c ∧ env 1 = .int .i64 (t : Nat) ∧ env 7 = .int .i64 ((t + j : Nat) : Int) ∧ H' = H) L.length ⟨0, by omega, by omega, (fun x hx => by simp at hx), by (first | exact True.intro | rfl | assumption), by (first | exact True.intro | rfl | assumption), by (first | exact True.intro | rfl | assumption), rfl⟩ ?_
  rintro k env H1 ⟨j, hk, hj, hnz, g0, g1, g7, rfl⟩
  unfold L29_0
  have htw := tw_pos hnz
  by_cases hi : j < L.length
  · have f0 : decide (((t + j : Nat) : Int) < (b.length : Int)) = true := decide_eq_true (by omega)
    have hin : (0 : Int) ≤ ((t + j : Nat) : Int) ∧ ((t + j : Nat) : Int) < (b.length : Nat) := by omega
    obtain ⟨a, rfl, hcell⟩ := by_at hr (i := t + j) (by omega)
    have hLj : L[j] = b[t + j] := by subst hL; rw [List.getElem_drop]
    obtain ⟨x, hx⟩ : ∃ x, x = b[t + j] := ⟨_, rfl⟩
    rw [← hx] at hcell hLj
    by_cases h0 : x = 0
    · have f1 : (x == 0) = true := beq_iff_eq.2 h0
      have hd : L.takeWhile (· != 0) = L.take j := by
        rw [htw, List.drop_eq_getElem_cons hi, List.takeWhile_cons_of_neg (by rw [hLj, h0]; decide), List.append_nil]
      have hlen : (L.take j).length = j := by rw [List.length_take]; omega
      rw [hd, hlen, if_neg (by omega), if_neg (by omega)]
      have hin2 : (0 : Int) ≤ (t : Int) ∧ (t : Int) ≤ ((t + j : Nat) : Int) ∧ ((t + j : Nat) : Int) ≤ (c : Nat) := by omega
      have hr2 := row_take (k := j) (row_drop (k := t) hr hc)
      rw [← hL] at hr2
      have b1 := ev_b2s_by (c := c - t) hr2
      rw [hlen] at b1
      have e1 : t + j - t = j := by omega
      have e2 : IntKind.i64.wrap (((t + j : Nat) : Int) + 1) = ((t + j + 1 : Nat) : Int) := w_i64 (by omega)
      simp -implicitDefEqProofs (maxSteps := 1000000) (disch := first | omega | assumption) only [g0, g1, g7, f0, hcell, f1, ev_slc_lohi, e1, b1, e2, Sx, Nat.reduceEqDiff, reduceCtorEq]
      exact ⟨by (first | exact True.intro | rfl | assumption), by (first | exact True.intro | rfl | assumption)⟩
    · have f1 : (x == 0) = false := beq_eq_false_iff_ne.2 h0
      have hnz2 : ∀ y ∈ L.take (j + 1), y ≠ 0 := by
        intro y hy
        rw [List.take_succ_eq_append_getElem hi] at hy
        rcases List.mem_append.1 hy with hy | hy
        · exact hnz y hy
        · rw [List.mem_singleton.1 hy, hLj]; exact h0
      by_cases hlong : 65535 ≤ j
      · have f2 : decide ((65535 : Int) ≤ ((t + j : Nat) : Int) - (t : Int)) = true := decide_eq_true (by omega)
        have hd := congrArg List.length (tw_pos hnz2)
        rw [List.length_append, List.length_take] at hd
        rw [if_pos (by omega)]
        simp -implicitDefEqProofs (maxSteps := 1000000) (disch := first | omega | assumption) only [g0, g1, g7, f0, hcell, f1, f2, Sx, Nat.reduceEqDiff, reduceCtorEq]
        exact ⟨by (first | exact True.intro | rfl | assumption), by (first | exact True.intro | rfl | assumption), by decide⟩
      · have f2 : decide ((65535 : Int) ≤ ((t + j : Nat) : Int) - (t : Int)) = false := decide_eq_false (by omega)
        have e2 : IntKind.i64.wrap (((t + j : Nat) : Int) + 1) = ((t + (j + 1) : Nat) : Int) := by rw [w_i64 (by omega)]; omega
        simp -implicitDefEqProofs (maxSteps := 1000000) (disch := first | omega | assumption) only [g0, g1, g7, f0, hcell, f1, f2, e2, Sx, Nat.reduceEqDiff, reduceCtorEq]
        exact ⟨k - 1, by omega, j + 1, by omega, by omega, hnz2, by (first | exact True.intro | rfl | assumption), by (first | exact True.intro | rfl | assumption), by (first | exact True.intro | rfl | assumption), by (first | exact True.intro | rfl | assumption)⟩
  · have f0 : decide (((t + j : Nat) : Int) < (b.length : Int)) = false := decide_eq_false (by omega)
    have hjl : j = L.length := by omega
    have hd : L.takeWhile (· != 0) = L := by
      rw [htw, hjl, List.drop_length, List.take_length]
      simp
    rw [hd, if_neg (by omega), if_pos rfl]
    simp -implicitDefEqProofs (maxSteps := 1000000) (disch := first | omega | assumption) only [g0, g7, f0, Sx, Nat.reduceEqDiff, reduceCtorEq]
    exact ⟨by (first | exact True.intro | rfl | assumption), by (first | exact True.intro | rfl | assumption), by decide⟩
set_option maxHeartbeats 1000000 in
theorem dzeros_spec {H : Heap} {A : Option Addr} {n c : Nat} {b : List Int} (hr : Row H A (by8 b)) (hn : n = b.length) (hl : b.length ≤ 137438953472) :
    ACalls Tryd.prog 20 [Value.slice A n c].toArray H fun e H' => e = .returned (.bool (zerosB b)) ∧ H' = H := by
  subst hn
  refine call20 (Nat.le_of_ble_eq_true rfl) ?_
  unfold L20 env0
  simp -implicitDefEqProofs (maxSteps := 1000000) (disch := first | omega | assumption) only [Sx, reduceCtorEq]
  refine c_loop (fun k env H' => ∃ i, k + i = b.length ∧ zerosB b = zerosB (b.drop i) ∧ env 0 = .slice A b.length c ∧ env 3 = .int .i64 (i : Nat) ∧ H' = H) b.length ⟨0, by omega, rfl, by (first | exact True.intro | rfl | assumption), by (first | exact True.intro | rfl | assumption), rfl⟩ ?_
  rintro k env H1 ⟨i, hk, hz, g0, g3, rfl⟩
  unfold L20_0
  by_cases hi : i < b.length
  · have f0 : decide ((i : Int) < (b.length : Int)) = true := decide_eq_true (by omega)
    have hin : (0 : Int) ≤ (i : Int) ∧ (i : Int) < (b.length : Nat) := by omega
    obtain ⟨a, rfl, hcell⟩ := by_at hr hi
    have hd : zerosB (b.drop i) = (b[i] == 0 && zerosB (b.drop (i + 1))) := by rw [List.drop_eq_getElem_cons hi]; rfl
    rw [hd] at hz
    obtain ⟨x, hx⟩ : ∃ x, x = b[i] := ⟨_, rfl⟩
    rw [← hx] at hcell hz
    by_cases h0 : x = 0
    · have f1 : (x != 0) = false := by rw [h0]; rfl
      simp -implicitDefEqProofs (maxSteps := 1000000) (disch := first | omega | assumption) only [g0, g3, f0, hcell, f1, Sx, Nat.reduceEqDiff, reduceCtorEq]
      exact ⟨k - 1, by omega, i + 1, by omega, by rw [hz, h0]; rfl, by (first | exact True.intro | rfl | assumption), by simp, by (first | exact True.intro | rfl | assumption)⟩
    · have f1 : (x != 0) = true := bne_iff_ne.2 h0
      have f2 : (x == 0) = false := beq_eq_false_iff_ne.2 h0
      simp -implicitDefEqProofs (maxSteps := 1000000) (disch := first | omega | assumption) only [g0, g3, f0, hcell, f1, Sx, Nat.reduceEqDiff, reduceCtorEq]
      exact ⟨by rw [hz, f2]; rfl, by (first | exact True.intro | rfl | assumption)⟩
  · have f0 : decide ((i : Int) < (b.length : Int)) = false := decide_eq_false (by omega)
    rw [List.drop_of_length_le (by omega)] at hz
    simp -implicitDefEqProofs (maxSteps := 1000000) (disch := first | omega | assumption) only [g0, g3, f0, Sx, Nat.reduceEqDiff, reduceCtorEq]
    exact ⟨by rw [hz]; rfl, by (first | exact True.intro | rfl | assumption)⟩
end Go.Proofs.YtgbhdpeibiglfaaDoor.S08

set_option linter.unusedVariables false
set_option linter.unusedSimpArgs false
namespace Go.Proofs.YtgbhdpeibiglfaaDoor.S08
open Go Go.RowKit Go.Proofs.YtgbhdpeibiglfaaDoor.Sep Go.Proofs.YtgbhdpeibiglfaaDoor.Low Go.Proofs.YtgbhdpeibiglfaaDoor.S05 Go.Proofs.YtgbhdpeibiglfaaDoor.S06
open Go.Proofs.YtgbhdpeibiglfaaDoor.Lib hiding by8 by8_scalar

theorem set_id {H : Heap} {r : Nat} {o : Obj} (h : H r = some o) : H.set r o = H := by
  funext q
  by_cases e : q = r
  · rw [e, set_same, h]
  · exact set_other e
theorem st_same {P : Program} {H : Heap} {r n : Nat} {T : TypeId} {ci : List Value} {KV : Value → Heap → Prop} {KP : List PanicEntry → Heap → Prop} (hb : H r = some (.cells ci.toArray T (0, 0))) (hn : ci.length = n) (hs : ∀ v ∈ ci, scalarV v = true)
    (hk : KV undef H) : awpE P (.st n) [.pointer (some ⟨r, 0, none⟩), .agg ci.toArray] KV KP H := st_all hb rfl hn hs (by rw [set_id hb]; exact hk)
structure DS (H0 H : Heap) (r2 : Nat) (m : Mem) (ext : Value) : Prop where
  b2 : H r2 = some (.cells (memV m ext).toArray 26 (0, 0))
  k : Keep H0 H
  n2 : H0 r2 = none
  oe : Bo H ext m.extra
  fe : Fresh H0 ext
theorem DS.set {H0 H H2 : Heap} {r2 : Nat} {m m' : Mem} {ext ext' : Value} (s : DS H0 H r2 m ext) (h2 : H2 = H.set r2 (.cells (memV m' ext').toArray 26 (0, 0))) (hx : Bo H ext' m'.extra) (hf : Fresh H0 ext') : DS H0 H2 r2 m' ext' := by
  have ho : Only (· = r2) H H2 := by rw [h2]; exact (Only.refl _ _).set (.inl rfl)
  exact ⟨by rw [h2]; exact set_same, ho.keep s.k (fun y hy => hy ▸ s.n2), s.n2, hx.only ho (fun y hy e => hx.elem s.b2 (by decide) (e ▸ hy)), hf⟩
theorem DS.more {H0 H H2 : Heap} {r2 : Nat} {m : Mem} {ext : Value} (s : DS H0 H r2 m ext) (hk : Keep H H2) : DS H0 H2 r2 m ext := ⟨hk _ _ s.b2, s.k.trans hk, s.n2, s.oe.keep hk, s.fe⟩
/-- how the document's reading of a head ends -/
def DhP (H0 : Heap) (b : List Int) (e : Ending) (H' : Heap) : Prop := Keep H0 H' ∧ match mhead b with
  | .ok x => ∃ ext, e = .returned (.tuple #[.agg (memV x.1 ext).toArray, .int .i64 (x.2 : Nat), .int .i64 0]) ∧ Bo H' ext x.1.extra ∧ Fresh H0 ext ∧ x.2 ≤ b.length
  | .error er => ∃ m' ext' z, e = .returned (.tuple #[.agg (memV m' ext').toArray, .int .i64 z, .int .i64 er]) ∧ er ≠ 0 ∧ scalarV ext' = true
theorem dh_err {H0 H : Heap} {b : List Int} {r2 : Nat} {m : Mem} {ext : Value} {z er : Int} {env : Env} (s : DS H0 H r2 m ext) (hM : mhead b = .error er) (hne : er ≠ 0) (h2 : env 2 = .pointer (some ⟨r2, 0, none⟩)) (h3 : env 3 = .int .i64 z) (h4 : env 4 = .int .i64 er) :
    bindL (getAll env H [RV.c 2 (some 8), RV.t 3, RV.t 4]) fun vs => DhP H0 b (.returned (oneOr vs)) H := by
  rw [g_cn h2 (mem_load s.b2), g_t, g_t, g_nil, h3, h4]
  refine ⟨s.k, ?_⟩
  rw [hM]
  exact ⟨m, ext, z, rfl, hne, s.oe.scalar⟩
theorem dh_ok {H0 H : Heap} {b : List Int} {r2 t : Nat} {m : Mem} {ext : Value} {env : Env} (s : DS H0 H r2 m ext) (hM : mhead b = .ok (m, t)) (ht : t ≤ b.length) (h2 : env 2 = .pointer (some ⟨r2, 0, none⟩)) (h3 : env 3 = .int .i64 (t : Nat)) (h4 : env 4 = .int .i64 0) :
    bindL (getAll env H [RV.c 2 (some 8), RV.t 3, RV.t 4]) fun vs => DhP H0 b (.returned (oneOr vs)) H := by
  rw [g_cn h2 (mem_load s.b2), g_t, g_t, g_nil, h3, h4]
  refine ⟨s.k, ?_⟩
  rw [hM]
  exact ⟨ext, rfl, s.oe, s.fe, ht⟩
set_option maxHeartbeats 1000000 in
theorem dh1_err {H0 H : Heap} {b : List Int} {r2 : Nat} {m : Mem} {ext : Value} {z er : Int} {env : Env} {QP : List PanicEntry → Heap → Prop} (s : DS H0 H r2 m ext) (hM : mhead b = .error er) (hne : er ≠ 0) (h2 : env 2 = .pointer (some ⟨r2, 0, none⟩)) (h3 : env 3 = .int .i64 z) (h4 : env 4 = .int .i64 er) :
    awpC Tryd.prog L17_1 (retQ [RV.c 2 (some 8), RV.t 3, RV.t 4] (DhP H0 b)) QP env H := by
  unfold L17_1
  have f1 : (er != 0) = true := bne_iff_ne.2 hne
  obtain ⟨mv, hmv⟩ : ∃ mv, mv = memV m ext := ⟨_, rfl⟩
  have hb := s.b2
  have hld := mem_load hb
  have hsc := memV_scalar (m := m) s.oe.scalar
  rw [← hmv] at hld hb hsc
  simp -implicitDefEqProofs (maxSteps := 1000000) (disch := first | omega | assumption) only [h2, h3, h4, f1, ev_ldn, hld, Sx, Nat.reduceEqDiff]
  refine st_same hb (by rw [hmv]; rfl) hsc ?_
  try simp -implicitDefEqProofs (maxSteps := 1000000) (disch := first | omega | assumption) only [Sx, Nat.reduceEqDiff]
  refine dh_err (z := z) s hM hne ?_ ?_ ?_
  · simp -implicitDefEqProofs (maxSteps := 1000000) (disch := first | omega | assumption) only [h2, Sx, Nat.reduceEqDiff]
  · simp -implicitDefEqProofs (maxSteps := 1000000) (disch := first | omega | assumption) only [h3, Sx, Nat.reduceEqDiff]
  · simp -implicitDefEqProofs (maxSteps := 1000000) (disch := first | omega | assumption) only [h4, Sx, Nat.reduceEqDiff]
set_option maxHeartbeats 2000000 in
theorem dh1 {H0 H : Heap} {b : List Int} {A : Option Addr} {c r2 t : Nat} {m : Mem} {ext : Value} {env : Env} {QP : List PanicEntry → Heap → Prop} (hr : Row H0 A (by8 b)) (hc : b.length ≤ c) (hby : isBy b) (hbl : b.length ≤ 137438953472) (hfl : fl b < 32) (s : DS H0 H r2 m ext) (ht : t ≤ b.length)
    (hM : mhead b = (msum b t).bind fun z => .ok (m, z)) (h0 : env 0 = .slice A b.length c) (h2 : env 2 = .pointer (some ⟨r2, 0, none⟩)) (h3 : env 3 = .int .i64 (t : Nat)) (h4 : env 4 = .int .i64 0) (h7 : env 7 = .int .u8 (fl b : Nat)) :
    awpC Tryd.prog L17_1 (retQ [RV.c 2 (some 8), RV.t 3, RV.t 4] (DhP H0 b)) QP env H := by
  unfold L17_1
  have f1 : ((0 : Int) != 0) = false := rfl
  have x2 : (Go.bits .and .u8 ((fl b : Nat) : Int) 2 != 0) = (fl b / 2 % 2 == 1) := fb 2 (by omega) (fl b) hfl
  have x2' : (Go.bits .and .u8 ((fl b : Nat) : Int) 2 == 0) = !(fl b / 2 % 2 == 1) := by rw [← x2]; cases h : (Go.bits .and .u8 ((fl b : Nat) : Int) 2 == 0) <;> simp [bne, h]
  obtain ⟨mv, hmv⟩ : ∃ mv, mv = memV m ext := ⟨_, rfl⟩
  have hb := s.b2
  have hld := mem_load hb
  have hsc := memV_scalar (m := m) s.oe.scalar
  rw [← hmv] at hld hb hsc
  unfold msum at hM
  have hrH := s.k.row hr
  by_cases hf : fl b / 2 % 2 = 0
  · rw [if_pos hf] at hM
    have f2 : (Go.bits .and .u8 ((fl b : Nat) : Int) 2 == 0) = true := by rw [x2', hf]; rfl
    simp -implicitDefEqProofs (maxSteps := 1000000) (disch := first | omega | assumption) only [h2, h3, h4, h7, f1, v_and, f2, ev_ldn, hld, Sx, Nat.reduceEqDiff]
    refine st_same hb (by rw [hmv]; rfl) hsc ?_
    try simp -implicitDefEqProofs (maxSteps := 1000000) (disch := first | omega | assumption) only [Sx, Nat.reduceEqDiff]
    refine dh_ok s hM ht ?_ ?_ ?_
    · simp -implicitDefEqProofs (maxSteps := 1000000) (disch := first | omega | assumption) only [h2, Sx, Nat.reduceEqDiff]
    · simp -implicitDefEqProofs (maxSteps := 1000000) (disch := first | omega | assumption) only [h3, Sx, Nat.reduceEqDiff]
    · simp -implicitDefEqProofs (maxSteps := 1000000) (disch := first | omega | assumption) only [h4, Sx, Nat.reduceEqDiff]
  rw [if_neg hf] at hM
  have f2 : (Go.bits .and .u8 ((fl b : Nat) : Int) 2 == 0) = false := by rw [x2', show fl b / 2 % 2 = 1 by omega]; rfl
  have e2 : IntKind.i64.wrap ((t : Int) + 2) = ((t + 2 : Nat) : Int) := w_i64 (by omega)
  by_cases hl : b.length < t + 2
  · rw [if_pos hl] at hM
    have f3 : decide ((b.length : Int) < ((t + 2 : Nat) : Int)) = true := decide_eq_true (by omega)
    simp -implicitDefEqProofs (maxSteps := 1000000) (disch := first | omega | assumption) only [h0, h2, h3, h4, h7, f1, v_and, f2, e2, f3, ev_ldn, hld, Sx, Nat.reduceEqDiff, reduceCtorEq]
    refine st_same hb (by rw [hmv]; rfl) hsc ?_
    try simp -implicitDefEqProofs (maxSteps := 1000000) (disch := first | omega | assumption) only [Sx]
    refine dh_err (z := 0) s hM (by decide) ?_ ?_ ?_
    · simp -implicitDefEqProofs (maxSteps := 1000000) (disch := first | omega | assumption) only [h2, Sx, Nat.reduceEqDiff]
    · simp -implicitDefEqProofs (maxSteps := 1000000) (disch := first | omega | assumption) only [Sx, Nat.reduceEqDiff]
    · simp -implicitDefEqProofs (maxSteps := 1000000) (disch := first | omega | assumption) only [Sx, Nat.reduceEqDiff]
  rw [if_neg hl] at hM
  have f3 : decide ((b.length : Int) < ((t + 2 : Nat) : Int)) = false := decide_eq_false (by omega)
  have hin1 : (0 : Int) ≤ (t : Int) ∧ (t : Int) ≤ ((t + 2 : Nat) : Int) ∧ ((t + 2 : Nat) : Int) ≤ (c : Nat) := by omega
  have hin2 : (0 : Int) ≤ (t : Int) ∧ (t : Int) ≤ (c : Nat) := by omega
  have et : t + 2 - t = 2 := by omega
  have hl2 : ((b.drop t).take 2).length = 2 := by rw [List.length_take, List.length_drop]; omega
  simp -implicitDefEqProofs (maxSteps := 1000000) (disch := first | omega | assumption) only [h0, h3, h4, h7, f1, v_and, f2, e2, f3, ev_slc_lohi, ev_slc_hi, et, Sx, Nat.reduceEqDiff, reduceCtorEq]
  refine a_call (number_spec (row_take (k := 2) (row_drop (k := t) hrH hc)) hl2.symm ((hby.drop t).take 2) (by omega)) ?_
  rintro e H1 ⟨rfl, rfl⟩
  simp -implicitDefEqProofs (maxSteps := 1000000) (disch := first | omega | assumption) only [Sx, Nat.reduceEqDiff, endK]
  refine a_call (dsum_spec (row_take (k := t) hrH) (by rw [List.length_take]; omega) (hby.take t) (by rw [List.length_take]; omega)) ?_
  rintro e H2 ⟨rfl, rfl⟩
  obtain ⟨z, hz⟩ : ∃ z, z = Go.Proofs.YtgbhdpeibiglfaaDoor.S08.le ((b.drop t).take 2) := ⟨_, rfl⟩
  have hcr := crc_lt (hby.take t)
  obtain ⟨cr, hcrd⟩ : ∃ cr, cr = crc (b.take t) := ⟨_, rfl⟩
  rw [← hcrd] at hcr hM ⊢
  rw [← hz] at hM ⊢
  have em : IntKind.i64.wrap ((cr : Int) % 65536) = ((cr % 65536 : Nat) : Int) := by rw [w_i64 (by omega)]; omega
  by_cases hq : z = cr % 65536
  · rw [if_pos hq] at hM
    have f4 : ((z : Int) != ((cr % 65536 : Nat) : Int)) = false := by rw [bne_eq_false_iff_eq]; omega
    simp -implicitDefEqProofs (maxSteps := 1000000) (disch := first | omega | assumption) only [h2, h3, em, f4, e2, ev_ldn, hld, Sx, Nat.reduceEqDiff, endK]
    refine st_same hb (by rw [hmv]; rfl) hsc ?_
    try simp -implicitDefEqProofs (maxSteps := 1000000) (disch := first | omega | assumption) only [Sx, Nat.reduceEqDiff]
    refine dh_ok s hM (by omega) ?_ ?_ ?_
    · simp -implicitDefEqProofs (maxSteps := 1000000) (disch := first | omega | assumption) only [h2, Sx, Nat.reduceEqDiff]
    · simp -implicitDefEqProofs (maxSteps := 1000000) (disch := first | omega | assumption) only [Sx, Nat.reduceEqDiff]
    · simp -implicitDefEqProofs (maxSteps := 1000000) (disch := first | omega | assumption) only [Sx, Nat.reduceEqDiff]
  · rw [if_neg hq] at hM
    have f4 : ((z : Int) != ((cr % 65536 : Nat) : Int)) = true := by rw [bne_iff_ne]; omega
    simp -implicitDefEqProofs (maxSteps := 1000000) (disch := first | omega | assumption) only [h2, em, f4, ev_ldn, hld, Sx, Nat.reduceEqDiff, endK]
    refine st_same hb (by rw [hmv]; rfl) hsc ?_
    try simp -implicitDefEqProofs (maxSteps := 1000000) (disch := first | omega | assumption) only [Sx]
    refine dh_err (z := 0) s hM (by decide) ?_ ?_ ?_
    · simp -implicitDefEqProofs (maxSteps := 1000000) (disch := first | omega | assumption) only [h2, Sx, Nat.reduceEqDiff]
    · simp -implicitDefEqProofs (maxSteps := 1000000) (disch := first | omega | assumption) only [Sx, Nat.reduceEqDiff]
    · simp -implicitDefEqProofs (maxSteps := 1000000) (disch := first | omega | assumption) only [Sx, Nat.reduceEqDiff]
theorem mtext_le {b : List Int} {t : Nat} {x : List Int × Nat} (h : mtext b t = .ok x) (ht : t ≤ b.length) : x.2 ≤ b.length := by
  unfold mtext at h
  have hl := tw_le (p := (· != 0)) (b.drop t)
  have hd : (b.drop t).length = b.length - t := List.length_drop
  split at h
  · cases h
  split at h
  · cases h
  cases h
  show t + _ + 1 ≤ _
  omega
set_option maxHeartbeats 2000000 in
theorem dh2 {H0 H : Heap} {b : List Int} {A : Option Addr} {c r2 t : Nat} {m : Mem} {ext : Value} {env : Env} {QP : List PanicEntry → Heap → Prop} (hr : Row H0 A (by8 b)) (hc : b.length ≤ c) (hby : isBy b) (hbl : b.length ≤ 137438953472) (hfl : fl b < 32) (s : DS H0 H r2 m ext) (hcm : m.comment = []) (ht : t ≤ b.length)
    (hM : mhead b = (mtextIf b 16 t).bind fun x => (msum b x.2).bind fun z => .ok ({ m with comment := x.1 }, z)) (h0 : env 0 = .slice A b.length c) (h2 : env 2 = .pointer (some ⟨r2, 0, none⟩)) (h3 : env 3 = .int .i64 (t : Nat)) (h4 : env 4 = .int .i64 0) (h7 : env 7 = .int .u8 (fl b : Nat)) :
    awpC Tryd.prog L17_2 (retQ [RV.c 2 (some 8), RV.t 3, RV.t 4] (DhP H0 b)) QP env H := by
  unfold L17_2
  have f1 : ((0 : Int) == 0) = true := rfl
  have x2 := fb 16 (by omega) (fl b) hfl
  unfold mtextIf at hM
  by_cases hf : fl b / 16 % 2 = 0
  · rw [if_pos hf] at hM
    have f2 : (Go.bits .and .u8 ((fl b : Nat) : Int) 16 != 0) = false := by have := x2; rw [hf] at this; exact this
    have hm : ({ m with comment := [] } : Mem) = m := by rw [← hcm]
    simp -implicitDefEqProofs (maxSteps := 1000000) (disch := first | omega | assumption) only [h4, h7, f1, v_and, f2, Sx, Nat.reduceEqDiff]
    refine dh1 hr hc hby hbl hfl s ht (by rw [hM]; show (msum b t).bind (fun z => Except.ok (({ m with comment := [] } : Mem), z)) = _; rw [hm]) ?_ ?_ ?_ ?_ ?_
    · simp -implicitDefEqProofs (maxSteps := 1000000) (disch := first | omega | assumption) only [h0, Sx, reduceCtorEq]
    · simp -implicitDefEqProofs (maxSteps := 1000000) (disch := first | omega | assumption) only [h2, Sx, Nat.reduceEqDiff]
    · simp -implicitDefEqProofs (maxSteps := 1000000) (disch := first | omega | assumption) only [h3, Sx, Nat.reduceEqDiff]
    · simp -implicitDefEqProofs (maxSteps := 1000000) (disch := first | omega | assumption) only [h4, Sx, Nat.reduceEqDiff]
    · simp -implicitDefEqProofs (maxSteps := 1000000) (disch := first | omega | assumption) only [h7, Sx, Nat.reduceEqDiff]
  rw [if_neg hf] at hM
  have f2 : (Go.bits .and .u8 ((fl b : Nat) : Int) 16 != 0) = true := by have := x2; rw [show fl b / 16 % 2 = 1 by omega] at this; exact this
  simp -implicitDefEqProofs (maxSteps := 1000000) (disch := first | omega | assumption) only [h0, h3, h4, h7, f1, v_and, f2, Sx, Nat.reduceEqDiff, reduceCtorEq]
  refine a_call (dtext_spec (s.k.row hr) rfl hc ht hbl) ?_
  rintro e H1 ⟨rfl, hO⟩
  cases hT : mtext b t with
  | error er =>
    rw [hT] at hO hM
    obtain ⟨rfl, hne⟩ := hO
    simp -implicitDefEqProofs (maxSteps := 1000000) (disch := first | omega | assumption) only [h2, Sx, Nat.reduceEqDiff, endK]
    refine st_mem (cs' := (memV { m with comment := [] } ext).toArray) s.b2 (by simp) rfl rfl ?_
    intro H2 hH2
    have s2 := s.set (m' := { m with comment := [] }) hH2 s.oe s.fe
    try simp -implicitDefEqProofs (maxSteps := 1000000) (disch := first | omega | assumption) only [Sx, Nat.reduceEqDiff]
    refine dh1_err (z := 0) s2 hM hne ?_ ?_ ?_
    · simp -implicitDefEqProofs (maxSteps := 1000000) (disch := first | omega | assumption) only [h2, Sx, Nat.reduceEqDiff]
    · simp -implicitDefEqProofs (maxSteps := 1000000) (disch := first | omega | assumption) only [Sx, Nat.reduceEqDiff]
    · simp -implicitDefEqProofs (maxSteps := 1000000) (disch := first | omega | assumption) only [Sx, Nat.reduceEqDiff]
  | ok x =>
    rw [hT] at hO hM
    subst hO
    simp -implicitDefEqProofs (maxSteps := 1000000) (disch := first | omega | assumption) only [h2, Sx, Nat.reduceEqDiff, endK]
    refine st_mem (cs' := (memV { m with comment := x.1 } ext).toArray) s.b2 (by simp) rfl rfl ?_
    intro H2 hH2
    have s2 := s.set (m' := { m with comment := x.1 }) hH2 s.oe s.fe
    try simp -implicitDefEqProofs (maxSteps := 1000000) (disch := first | omega | assumption) only [Sx, Nat.reduceEqDiff]
    refine dh1 hr hc hby hbl hfl s2 (mtext_le hT ht) hM ?_ ?_ ?_ ?_ ?_
    · simp -implicitDefEqProofs (maxSteps := 1000000) (disch := first | omega | assumption) only [h0, Sx, reduceCtorEq]
    · simp -implicitDefEqProofs (maxSteps := 1000000) (disch := first | omega | assumption) only [h2, Sx, Nat.reduceEqDiff]
    · simp -implicitDefEqProofs (maxSteps := 1000000) (disch := first | omega | assumption) only [Sx, Nat.reduceEqDiff]
    · simp -implicitDefEqProofs (maxSteps := 1000000) (disch := first | omega | assumption) only [Sx, Nat.reduceEqDiff]
    · simp -implicitDefEqProofs (maxSteps := 1000000) (disch := first | omega | assumption) only [h7, Sx, Nat.reduceEqDiff]
set_option maxHeartbeats 1000000 in
theorem dh2_err {H0 H : Heap} {b : List Int} {r2 : Nat} {m : Mem} {ext : Value} {z er : Int} {env : Env} {QP : List PanicEntry → Heap → Prop} (s : DS H0 H r2 m ext) (hM : mhead b = .error er) (hne : er ≠ 0) (h2 : env 2 = .pointer (some ⟨r2, 0, none⟩)) (h3 : env 3 = .int .i64 z) (h4 : env 4 = .int .i64 er) :
    awpC Tryd.prog L17_2 (retQ [RV.c 2 (some 8), RV.t 3, RV.t 4] (DhP H0 b)) QP env H := by
  unfold L17_2
  have f1 : (er == 0) = false := beq_eq_false_iff_ne.2 hne
  simp -implicitDefEqProofs (maxSteps := 1000000) (disch := first | omega | assumption) only [h4, f1, Sx, Nat.reduceEqDiff]
  refine dh1_err (z := z) s hM hne ?_ ?_ ?_
  · simp -implicitDefEqProofs (maxSteps := 1000000) (disch := first | omega | assumption) only [h2, Sx, Nat.reduceEqDiff]
  · simp -implicitDefEqProofs (maxSteps := 1000000) (disch := first | omega | assumption) only [h3, Sx, Nat.reduceEqDiff]
  · simp -implicitDefEqProofs (maxSteps := 1000000) (disch := first | omega | assumption) only [h4, Sx, Nat.reduceEqDiff]
set_option maxHeartbeats 2000000 in
theorem dh3 {H0 H : Heap} {b : List Int} {A : Option Addr} {c r2 t : Nat} {m : Mem} {ext : Value} {env : Env} {QP : List PanicEntry → Heap → Prop} (hr : Row H0 A (by8 b)) (hc : b.length ≤ c) (hby : isBy b) (hbl : b.length ≤ 137438953472) (hfl : fl b < 32) (s : DS H0 H r2 m ext) (hcm : m.comment = []) (hnm : m.name = []) (ht : t ≤ b.length)
    (hM : mhead b = (mtextIf b 8 t).bind fun n => (mtextIf b 16 n.2).bind fun x => (msum b x.2).bind fun z => .ok ({ m with name := n.1, comment := x.1 }, z)) (h0 : env 0 = .slice A b.length c) (h2 : env 2 = .pointer (some ⟨r2, 0, none⟩)) (h3 : env 3 = .int .i64 (t : Nat)) (h4 : env 4 = .int .i64 0) (h7 : env 7 = .int .u8 (fl b : Nat)) :
    awpC Tryd.prog L17_3 (retQ [RV.c 2 (some 8), RV.t 3, RV.t 4] (DhP H0 b)) QP env H := by
  unfold L17_3
  have x2 := fb 8 (by omega) (fl b) hfl
  rw [mtextIf] at hM
  by_cases hf : fl b / 8 % 2 = 0
  · rw [if_pos hf] at hM
    have f2 : (Go.bits .and .u8 ((fl b : Nat) : Int) 8 != 0) = false := by have := x2; rw [hf] at this; exact this
    simp -implicitDefEqProofs (maxSteps := 1000000) (disch := first | omega | assumption) only [h7, v_and, f2, Sx, Nat.reduceEqDiff]
    refine dh2 hr hc hby hbl hfl s hcm ht (by rw [hM]; show ((mtextIf b 16 t).bind fun x => (msum b x.2).bind fun z => Except.ok (({ m with name := [], comment := x.1 } : Mem), z)) = _; rw [← hnm]) ?_ ?_ ?_ ?_ ?_
    · simp -implicitDefEqProofs (maxSteps := 1000000) (disch := first | omega | assumption) only [h0, Sx, reduceCtorEq]
    · simp -implicitDefEqProofs (maxSteps := 1000000) (disch := first | omega | assumption) only [h2, Sx, Nat.reduceEqDiff]
    · simp -implicitDefEqProofs (maxSteps := 1000000) (disch := first | omega | assumption) only [h3, Sx, Nat.reduceEqDiff]
    · simp -implicitDefEqProofs (maxSteps := 1000000) (disch := first | omega | assumption) only [h4, Sx, Nat.reduceEqDiff]
    · simp -implicitDefEqProofs (maxSteps := 1000000) (disch := first | omega | assumption) only [h7, Sx, Nat.reduceEqDiff]
  rw [if_neg hf] at hM
  have f2 : (Go.bits .and .u8 ((fl b : Nat) : Int) 8 != 0) = true := by have := x2; rw [show fl b / 8 % 2 = 1 by omega] at this; exact this
  simp -implicitDefEqProofs (maxSteps := 1000000) (disch := first | omega | assumption) only [h0, h3, h7, v_and, f2, Sx, Nat.reduceEqDiff, reduceCtorEq]
  refine a_call (dtext_spec (s.k.row hr) rfl hc ht hbl) ?_
  rintro e H1 ⟨rfl, hO⟩
  cases hT : mtext b t with
  | error er =>
    rw [hT] at hO hM
    obtain ⟨rfl, hne⟩ := hO
    simp -implicitDefEqProofs (maxSteps := 1000000) (disch := first | omega | assumption) only [h2, Sx, Nat.reduceEqDiff, endK]
    refine st_mem (cs' := (memV { m with name := [] } ext).toArray) s.b2 (by simp) rfl rfl ?_
    intro H2 hH2
    have s2 := s.set (m' := { m with name := [] }) hH2 s.oe s.fe
    try simp -implicitDefEqProofs (maxSteps := 1000000) (disch := first | omega | assumption) only [Sx, Nat.reduceEqDiff]
    refine dh2_err (z := 0) s2 hM hne ?_ ?_ ?_
    · simp -implicitDefEqProofs (maxSteps := 1000000) (disch := first | omega | assumption) only [h2, Sx, Nat.reduceEqDiff]
    · simp -implicitDefEqProofs (maxSteps := 1000000) (disch := first | omega | assumption) only [Sx, Nat.reduceEqDiff]
    · simp -implicitDefEqProofs (maxSteps := 1000000) (disch := first | omega | assumption) only [Sx, Nat.reduceEqDiff]
  | ok x =>
    rw [hT] at hO hM
    subst hO
    simp -implicitDefEqProofs (maxSteps := 1000000) (disch := first | omega | assumption) only [h2, Sx, Nat.reduceEqDiff, endK]
    refine st_mem (cs' := (memV { m with name := x.1 } ext).toArray) s.b2 (by simp) rfl rfl ?_
    intro H2 hH2
    have s2 := s.set (m' := { m with name := x.1 }) hH2 s.oe s.fe
    try simp -implicitDefEqProofs (maxSteps := 1000000) (disch := first | omega | assumption) only [Sx, Nat.reduceEqDiff]
    refine dh2 hr hc hby hbl hfl s2 hcm (mtext_le hT ht) hM ?_ ?_ ?_ ?_ ?_
    · simp -implicitDefEqProofs (maxSteps := 1000000) (disch := first | omega | assumption) only [h0, Sx, reduceCtorEq]
    · simp -implicitDefEqProofs (maxSteps := 1000000) (disch := first | omega | assumption) only [h2, Sx, Nat.reduceEqDiff]
    · simp -implicitDefEqProofs (maxSteps := 1000000) (disch := first | omega | assumption) only [Sx, Nat.reduceEqDiff]
    · simp -implicitDefEqProofs (maxSteps := 1000000) (disch := first | omega | assumption) only [Sx, Nat.reduceEqDiff]
    · simp -implicitDefEqProofs (maxSteps := 1000000) (disch := first | omega | assumption) only [h7, Sx, Nat.reduceEqDiff]
end Go.Proofs.YtgbhdpeibiglfaaDoor.S08

set_option linter.unusedVariables false
set_option linter.unusedSimpArgs false
namespace Go.Proofs.YtgbhdpeibiglfaaDoor.S08
open Go Go.RowKit Go.Proofs.YtgbhdpeibiglfaaDoor.Sep Go.Proofs.YtgbhdpeibiglfaaDoor.Low Go.Proofs.YtgbhdpeibiglfaaDoor.S05 Go.Proofs.YtgbhdpeibiglfaaDoor.S06
open Go.Proofs.YtgbhdpeibiglfaaDoor.Lib hiding by8 by8_scalar

def K3 : List Int := [31, 139, 8]
theorem mten_short {b : List Int} {i : Nat} (hi : i < 3) (hl : b.length = i) (hm : ∀ j < i, b.getD j 0 = K3.getD j 0) : mten b = .error 4 := by
  unfold mten
  by_cases h0 : i = 0
  · rw [if_pos (by omega)]
  have m0 : ¬ b.getD 0 0 ≠ 31 := fun h => h (hm 0 (by omega))
  by_cases h1 : i = 1
  · rw [if_neg (by omega), if_neg m0, if_pos (by omega)]
  have m1 : ¬ b.getD 1 0 ≠ 139 := fun h => h (hm 1 (by omega))
  rw [if_neg (by omega), if_neg m0, if_neg (by omega), if_neg m1, if_pos (by omega)]
theorem mten_bad {b : List Int} {i : Nat} (hi : i < 3) (hl : i < b.length) (hm : ∀ j < i, b.getD j 0 = K3.getD j 0) (hb : b.getD i 0 ≠ K3.getD i 0) : mten b = .error (if i < 2 then 130 else 80) := by
  unfold mten
  by_cases h0 : i = 0
  · subst h0
    rw [if_neg (by omega), if_pos (show b.getD 0 0 ≠ 31 from hb)]; rfl
  have m0 : ¬ b.getD 0 0 ≠ 31 := fun h => h (hm 0 (by omega))
  by_cases h1 : i = 1
  · subst h1
    rw [if_neg (by omega), if_neg m0, if_neg (by omega), if_pos (show b.getD 1 0 ≠ 139 from hb)]; rfl
  have m1 : ¬ b.getD 1 0 ≠ 139 := fun h => h (hm 1 (by omega))
  obtain rfl : i = 2 := by omega
  rw [if_neg (by omega), if_neg m0, if_neg (by omega), if_neg m1, if_neg (by omega), if_pos (show b.getD 2 0 ≠ 8 from hb)]; rfl
theorem mten_on {b : List Int} (hl : 3 ≤ b.length) (hm : ∀ j < 3, b.getD j 0 = K3.getD j 0) : mten b = if b.length < 4 then .error 4 else if 31 < fl b then .error 81 else if b.length < 10 then .error 4 else .ok () := by
  unfold mten
  have m0 : ¬ b.getD 0 0 ≠ 31 := fun h => h (hm 0 (by omega))
  have m1 : ¬ b.getD 1 0 ≠ 139 := fun h => h (hm 1 (by omega))
  have m2 : ¬ b.getD 2 0 ≠ 8 := fun h => h (hm 2 (by omega))
  rw [if_neg (by omega), if_neg m0, if_neg (by omega), if_neg m1, if_neg (by omega), if_neg m2]
theorem mhead_err {b : List Int} {er : Int} (h : mten b = .error er) : mhead b = .error er := by unfold mhead; rw [h]; rfl
set_option maxHeartbeats 8000000 in
set_option maxRecDepth 4000 in
theorem headed_spec {H : Heap} {A : Option Addr} {n c : Nat} {b : List Int} (hr : Row H A (by8 b)) (hn : n = b.length) (hc : b.length ≤ c) (hb : isBy b) (hbl : b.length ≤ 137438953472) :
    ACalls Tryd.prog 17 [Value.slice A n c].toArray H fun e H' => DhP H b e H' := by
  subst hn
  refine call17 (Nat.le_of_ble_eq_true rfl) ?_
  unfold L17 env0
  simp -implicitDefEqProofs (maxSteps := 1000000) (disch := first | omega | assumption) only [Sx]
  refine a_new fun r2 hr2 => ?_
  obtain ⟨H1, hH1⟩ : ∃ H1, H1 = H.set r2 (.cells (memV m0 (.slice none 0 0)).toArray 26 (0, 0)) := ⟨_, rfl⟩
  have k1 : Keep H H1 := by rw [hH1]; exact (Keep.refl _).set_new hr2
  have b21 : H1 r2 = some (.cells (memV m0 (.slice none 0 0)).toArray 26 (0, 0)) := by rw [hH1]; exact set_same
  have hH1' : H.set r2 (.cells #[.string ⟨#[]⟩, .string ⟨#[]⟩, .slice none 0 0, .int .u32 0, .int .u8 0, .int .u8 0, .bool false, .bool false] 26 (0, 0)) = H1 := hH1.symm
  rw [hH1']
  clear hH1 hH1'
  try simp -implicitDefEqProofs (maxSteps := 1000000) (disch := first | omega | assumption) only [Sx]
  refine a_lits (sz := 1) (cells := #[.int .u8 31, .int .u8 139, .int .u8 8]) rfl rfl ?_
  intro r5 H2 hO5 k2 hr5
  have hO5b : Bo H2 (.slice (some ⟨r5, 0, none⟩) 3 3) K3 := hO5
  obtain ⟨_, _, ee, -, w5⟩ := Bo.row hO5b
  cases ee
  have s2 : DS H H2 r2 m0 (.slice none 0 0) := ⟨k2 _ _ b21, k1.trans k2, hr2, .nil, fun x hx => by cases hx⟩
  clear b21 k1 k2 hO5 hO5b
  obtain ⟨mv, hmv⟩ : ∃ mv, mv = memV m0 (.slice none 0 0) := ⟨_, rfl⟩
  have hb2 := s2.b2
  have hld := mem_load hb2
  have hsc := memV_scalar (m := m0) (ext := .slice none 0 0) rfl
  rw [← hmv] at hld hb2 hsc
  have hrH := s2.k.row hr
  try simp -implicitDefEqProofs (maxSteps := 1000000) (disch := first | omega | assumption) only [Sx, Nat.reduceEqDiff]
  refine c_loop (fun k env H' => ∃ i, k + i = 3 ∧ i ≤ b.length ∧ (∀ j < i, b.getD j 0 = K3.getD j 0) ∧ env 0 = .slice A b.length c ∧ env 2 = .pointer (some ⟨r2, 0, none⟩) ∧ env 4 = .int .i64 0 ∧ env 5 = .slice (some ⟨r5, 0, none⟩) 3 3 ∧ env 6 = .int .i64 (i : Nat) ∧ H' = H2) 3
    ⟨0, by omega, by omega, (fun j hj => by omega), by (first | exact True.intro | rfl | assumption), by (first | exact True.intro | rfl | assumption), by (first | exact True.intro | rfl | assumption), by (first | exact True.intro | rfl | assumption), by (first | exact True.intro | rfl | assumption), rfl⟩ ?_
  rintro k env H3 ⟨i, hk, hib, hm, g0, g2, g4, g5, g6, rfl⟩
  unfold L17_0
  by_cases hi : i < 3
  · have f0 : decide ((i : Int) < 3) = true := decide_eq_true (by omega)
    by_cases hl : b.length ≤ i
    · have hM := mhead_err (mten_short hi (by omega) hm)
      have f1 : decide ((b.length : Int) ≤ (i : Int)) = true := decide_eq_true (by omega)
      simp -implicitDefEqProofs (maxSteps := 1000000) (disch := first | omega | assumption) only [g0, g2, g6, f0, f1, ev_ldn, hld, Sx, Nat.reduceEqDiff, reduceCtorEq]
      refine st_same hb2 (by rw [hmv]; rfl) hsc ?_
      try simp -implicitDefEqProofs (maxSteps := 1000000) (disch := first | omega | assumption) only [Sx]
      refine dh_err (z := 0) s2 hM (by decide) ?_ ?_ ?_
      · simp -implicitDefEqProofs (maxSteps := 1000000) (disch := first | omega | assumption) only [g2, Sx, Nat.reduceEqDiff]
      · simp -implicitDefEqProofs (maxSteps := 1000000) (disch := first | omega | assumption) only [Sx, Nat.reduceEqDiff]
      · simp -implicitDefEqProofs (maxSteps := 1000000) (disch := first | omega | assumption) only [Sx, Nat.reduceEqDiff]
    have f1 : decide ((b.length : Int) ≤ (i : Int)) = false := decide_eq_false (by omega)
    have hin : (0 : Int) ≤ (i : Int) ∧ (i : Int) < (b.length : Nat) := by omega
    have hin3 : (0 : Int) ≤ (i : Int) ∧ (i : Int) < ((3 : Nat) : Int) := by omega
    obtain ⟨a, rfl, hcell⟩ := by_at hrH (i := i) (by omega)
    obtain ⟨a5, ee, hcell5⟩ := by_at w5 (i := i) (by show i < 3; omega)
    cases ee
    rw [add_mk, Nat.zero_add] at hcell5
    have hgb : b.getD i 0 = b[i] := gd (by omega)
    have hgk : K3.getD i 0 = K3[i]'(by show i < 3; omega) := gd _
    obtain ⟨x, hx⟩ : ∃ x, x = b[i] := ⟨_, rfl⟩
    obtain ⟨y, hy⟩ : ∃ y, y = K3[i]'(by show i < 3; omega) := ⟨_, rfl⟩
    rw [← hx] at hcell hgb
    rw [← hy] at hcell5 hgk
    by_cases hxy : x = y
    · have f2 : (x != y) = false := by rw [hxy]; simp
      simp -implicitDefEqProofs (maxSteps := 1000000) (disch := first | omega | assumption) only [g0, g2, g5, g6, f0, f1, hcell, hcell5, f2, Sx, Nat.reduceEqDiff, reduceCtorEq]
      refine ⟨k - 1, by omega, i + 1, by omega, by omega, (fun j hj => ?_), by (first | exact True.intro | rfl | assumption), by (first | exact True.intro | rfl | assumption), by (first | exact True.intro | rfl | assumption), by (first | exact True.intro | rfl | assumption), by simp, by (first | exact True.intro | rfl | assumption)⟩
      by_cases hji : j = i
      · rw [hji, hgb, hgk, hxy]
      · exact hm j (by omega)
    have f2 : (x != y) = true := bne_iff_ne.2 hxy
    have hM := mhead_err (mten_bad hi (by omega) hm (by rw [hgb, hgk]; exact hxy))
    by_cases h2 : i < 2
    · rw [if_pos h2] at hM
      have f3 : decide ((i : Int) < 2) = true := decide_eq_true (by omega)
      simp -implicitDefEqProofs (maxSteps := 1000000) (disch := first | omega | assumption) only [g0, g2, g5, g6, f0, f1, hcell, hcell5, f2, f3, ev_ldn, hld, Sx, Nat.reduceEqDiff, reduceCtorEq]
      refine st_same hb2 (by rw [hmv]; rfl) hsc ?_
      try simp -implicitDefEqProofs (maxSteps := 1000000) (disch := first | omega | assumption) only [Sx]
      refine dh_err (z := 0) s2 hM (by decide) ?_ ?_ ?_
      · simp -implicitDefEqProofs (maxSteps := 1000000) (disch := first | omega | assumption) only [g2, Sx, Nat.reduceEqDiff]
      · simp -implicitDefEqProofs (maxSteps := 1000000) (disch := first | omega | assumption) only [Sx, Nat.reduceEqDiff]
      · simp -implicitDefEqProofs (maxSteps := 1000000) (disch := first | omega | assumption) only [Sx, Nat.reduceEqDiff]
    · rw [if_neg h2] at hM
      have f3 : decide ((i : Int) < 2) = false := decide_eq_false (by omega)
      simp -implicitDefEqProofs (maxSteps := 1000000) (disch := first | omega | assumption) only [g0, g2, g5, g6, f0, f1, hcell, hcell5, f2, f3, ev_ldn, hld, Sx, Nat.reduceEqDiff, reduceCtorEq]
      refine st_same hb2 (by rw [hmv]; rfl) hsc ?_
      try simp -implicitDefEqProofs (maxSteps := 1000000) (disch := first | omega | assumption) only [Sx]
      refine dh_err (z := 0) s2 hM (by decide) ?_ ?_ ?_
      · simp -implicitDefEqProofs (maxSteps := 1000000) (disch := first | omega | assumption) only [g2, Sx, Nat.reduceEqDiff]
      · simp -implicitDefEqProofs (maxSteps := 1000000) (disch := first | omega | assumption) only [Sx, Nat.reduceEqDiff]
      · simp -implicitDefEqProofs (maxSteps := 1000000) (disch := first | omega | assumption) only [Sx, Nat.reduceEqDiff]
  have f0 : decide ((i : Int) < 3) = false := decide_eq_false (by omega)
  obtain rfl : i = 3 := by omega
  have hten := mten_on hib hm
  clear w5
  by_cases l4 : b.length < 4
  · rw [if_pos l4] at hten
    have hM := mhead_err hten
    have f1 : decide ((b.length : Int) < 4) = true := decide_eq_true (by omega)
    simp -implicitDefEqProofs (maxSteps := 1000000) (disch := first | omega | assumption) only [g0, g2, g6, f0, f1, ev_ldn, hld, Sx, Nat.reduceEqDiff, reduceCtorEq]
    refine st_same hb2 (by rw [hmv]; rfl) hsc ?_
    try simp -implicitDefEqProofs (maxSteps := 1000000) (disch := first | omega | assumption) only [Sx]
    refine dh_err (z := 0) s2 hM (by decide) ?_ ?_ ?_
    · simp -implicitDefEqProofs (maxSteps := 1000000) (disch := first | omega | assumption) only [g2, Sx, Nat.reduceEqDiff]
    · simp -implicitDefEqProofs (maxSteps := 1000000) (disch := first | omega | assumption) only [Sx, Nat.reduceEqDiff]
    · simp -implicitDefEqProofs (maxSteps := 1000000) (disch := first | omega | assumption) only [Sx, Nat.reduceEqDiff]
  rw [if_neg l4] at hten
  have f1 : decide ((b.length : Int) < 4) = false := decide_eq_false (by omega)
  have i3 : (0 : Int) ≤ 3 ∧ (3 : Int) < (b.length : Nat) := by omega
  have t3 : (3 : Int).toNat = 3 := rfl
  obtain ⟨a, rfl, c3⟩ := by_at hrH (i := 3) (by omega)
  have hb3 : b[3] = ((fl b : Nat) : Int) := by
    have := hb.at (i := 3) (by omega)
    unfold fl
    rw [gd (by omega)]
    omega
  rw [hb3] at c3
  by_cases l31 : 31 < fl b
  · rw [if_pos l31] at hten
    have hM := mhead_err hten
    have f2 : decide ((32 : Int) ≤ ((fl b : Nat) : Int)) = true := decide_eq_true (by omega)
    simp -implicitDefEqProofs (maxSteps := 1000000) (disch := first | omega | assumption) only [g0, g2, g6, f0, f1, t3, c3, f2, ev_ldn, hld, Sx, Nat.reduceEqDiff, reduceCtorEq]
    refine st_same hb2 (by rw [hmv]; rfl) hsc ?_
    try simp -implicitDefEqProofs (maxSteps := 1000000) (disch := first | omega | assumption) only [Sx]
    refine dh_err (z := 0) s2 hM (by decide) ?_ ?_ ?_
    · simp -implicitDefEqProofs (maxSteps := 1000000) (disch := first | omega | assumption) only [g2, Sx, Nat.reduceEqDiff]
    · simp -implicitDefEqProofs (maxSteps := 1000000) (disch := first | omega | assumption) only [Sx, Nat.reduceEqDiff]
    · simp -implicitDefEqProofs (maxSteps := 1000000) (disch := first | omega | assumption) only [Sx, Nat.reduceEqDiff]
  rw [if_neg l31] at hten
  have f2 : decide ((32 : Int) ≤ ((fl b : Nat) : Int)) = false := decide_eq_false (by omega)
  by_cases l10 : b.length < 10
  · rw [if_pos l10] at hten
    have hM := mhead_err hten
    have f3 : decide ((b.length : Int) < 10) = true := decide_eq_true (by omega)
    simp -implicitDefEqProofs (maxSteps := 1000000) (disch := first | omega | assumption) only [g0, g2, g6, f0, f1, t3, c3, f2, f3, ev_ldn, hld, Sx, Nat.reduceEqDiff, reduceCtorEq]
    refine st_same hb2 (by rw [hmv]; rfl) hsc ?_
    try simp -implicitDefEqProofs (maxSteps := 1000000) (disch := first | omega | assumption) only [Sx]
    refine dh_err (z := 0) s2 hM (by decide) ?_ ?_ ?_
    · simp -implicitDefEqProofs (maxSteps := 1000000) (disch := first | omega | assumption) only [g2, Sx, Nat.reduceEqDiff]
    · simp -implicitDefEqProofs (maxSteps := 1000000) (disch := first | omega | assumption) only [Sx, Nat.reduceEqDiff]
    · simp -implicitDefEqProofs (maxSteps := 1000000) (disch := first | omega | assumption) only [Sx, Nat.reduceEqDiff]
  rw [if_neg l10] at hten
  have f3 : decide ((b.length : Int) < 10) = false := decide_eq_false (by omega)
  have hfl : fl b < 32 := by omega
  have i8 : (0 : Int) ≤ 8 ∧ (8 : Int) < (b.length : Nat) := by omega
  have i9 : (0 : Int) ≤ 9 ∧ (9 : Int) < (b.length : Nat) := by omega
  have t8 : (8 : Int).toNat = 8 := rfl
  have t9 : (9 : Int).toNat = 9 := rfl
  have t4 : (4 : Int).toNat = 4 := rfl
  obtain ⟨_, ee, c8⟩ := by_at hrH (i := 8) (by omega)
  cases ee
  obtain ⟨_, ee, c9⟩ := by_at hrH (i := 9) (by omega)
  cases ee
  obtain ⟨v8, hv8⟩ : ∃ v8, v8 = b[8] := ⟨_, rfl⟩
  obtain ⟨v9, hv9⟩ : ∃ v9, v9 = b[9] := ⟨_, rfl⟩
  rw [← hv8] at c8
  rw [← hv9] at c9
  have x1 : (Go.bits .and .u8 ((fl b : Nat) : Int) 1 != 0) = (fl b % 2 == 1) := by have := fb 1 (by omega) (fl b) hfl; rw [Nat.div_one] at this; exact this
  have x2 : (Go.bits .and .u8 ((fl b : Nat) : Int) 2 != 0) = (fl b / 2 % 2 == 1) := fb 2 (by omega) (fl b) hfl
  obtain ⟨tx, htx⟩ : ∃ tx, tx = (fl b % 2 == 1) := ⟨_, rfl⟩
  obtain ⟨sx, hsx⟩ : ∃ sx, sx = (fl b / 2 % 2 == 1) := ⟨_, rfl⟩
  rw [← htx] at x1
  rw [← hsx] at x2
  have i48 : (0 : Int) ≤ 4 ∧ (4 : Int) ≤ 8 ∧ (8 : Int) ≤ (c : Nat) := by omega
  have hl4 : ((b.drop 4).take 4).length = 4 := by rw [List.length_take, List.length_drop]; omega
  simp -implicitDefEqProofs (maxSteps := 1000000) (disch := first | omega | assumption) only [g0, g6, f0, f1, t3, c3, f2, f3, t8, t9, t4, c8, c9, ev_slc_lohi, v_and, x1, x2, l_qk, l_e, Sx, Nat.reduceEqDiff, reduceCtorEq, Nat.reduceSub]
  refine a_call (number_spec (row_take (k := 4) (row_drop (k := 4) hrH hc)) hl4.symm ((hb.drop 4).take 4) (by omega)) ?_
  rintro e H4 ⟨rfl, rfl⟩
  obtain ⟨tm, htm⟩ : ∃ tm, tm = Go.Proofs.YtgbhdpeibiglfaaDoor.S08.le ((b.drop 4).take 4) := ⟨_, rfl⟩
  have htl : tm < 4294967296 := by
    have := le_lt ((hb.drop 4).take 4)
    rw [hl4, ← htm] at this
    exact this
  rw [← htm]
  have et : IntKind.u32.wrap (tm : Int) = (tm : Int) := w_u32' (by omega)
  try simp -implicitDefEqProofs (maxSteps := 1000000) (disch := first | omega | assumption) only [endK]
  refine ⟨fun z hz _ => by simp only [List.mem_cons, List.not_mem_nil, or_false] at hz; rcases hz with rfl | rfl <;> simp only [c8, c9], ?_⟩
  try simp -implicitDefEqProofs (maxSteps := 1000000) (disch := first | omega | assumption) only [g2, et, l_e, Sx, Nat.reduceEqDiff, Nat.reduceAdd, Nat.reduceLT]
  refine st_all (old := mv) (ci := memV ⟨[], [], [], tm, v8, v9, tx, sx⟩ (.slice none 0 0)) hb2 (by rw [hmv]; rfl) rfl (memV_scalar rfl) ?_
  obtain ⟨H5, hH5⟩ : ∃ H5, H5 = H4.set r2 (.cells (memV ⟨[], [], [], tm, v8, v9, tx, sx⟩ (.slice none 0 0)).toArray 26 (0, 0)) := ⟨_, rfl⟩
  have s5 : DS H H5 r2 ⟨[], [], [], tm, v8, v9, tx, sx⟩ (.slice none 0 0) := s2.set hH5 .nil (fun x hx => by cases hx)
  rw [← hH5]
  clear hH5
  try simp -implicitDefEqProofs (maxSteps := 1000000) (disch := first | omega | assumption) only [endK]
  refine ⟨fun z hz h => by simp at h, ?_⟩
  have hM : mhead b = (mextra b).bind fun x => (mtextIf b 8 x.2).bind fun n => (mtextIf b 16 n.2).bind fun c => (msum b c.2).bind fun z => .ok (⟨n.1, c.1, x.1, tm, v8, v9, tx, sx⟩, z) := by
    have h : mhead b = (mextra b).bind fun x => (mtextIf b 8 x.2).bind fun n => (mtextIf b 16 n.2).bind fun c => (msum b c.2).bind fun z => .ok (⟨n.1, c.1, x.1, Go.Proofs.YtgbhdpeibiglfaaDoor.S08.le ((b.drop 4).take 4), b.getD 8 0, b.getD 9 0, fl b % 2 == 1, fl b / 2 % 2 == 1⟩, z) := by
      unfold mhead
      rw [hten]
      rfl
    rw [h, gd (i := 8) (by omega), gd (i := 9) (by omega), ← hv8, ← hv9, ← htm, ← htx, ← hsx]
  have x4 : (Go.bits .and .u8 ((fl b : Nat) : Int) 4 != 0) = (fl b / 4 % 2 == 1) := fb 4 (by omega) (fl b) hfl
  rw [mextra] at hM
  by_cases hf : fl b / 4 % 2 = 0
  · rw [if_pos hf] at hM
    rw [hf] at x4
    have x4 : (Go.bits .and .u8 ((fl b : Nat) : Int) 4 != 0) = false := x4
    try simp -implicitDefEqProofs (maxSteps := 1000000) (disch := first | omega | assumption) only [x4, Sx]
    refine dh3 (t := 10) hr hc hb hbl hfl s5 rfl rfl (by omega) hM ?_ ?_ ?_ ?_ ?_
    · simp -implicitDefEqProofs (maxSteps := 1000000) (disch := first | omega | assumption) only [g0, Sx, reduceCtorEq]
    · simp -implicitDefEqProofs (maxSteps := 1000000) (disch := first | omega | assumption) only [g2, Sx, Nat.reduceEqDiff]
    · simp -implicitDefEqProofs (maxSteps := 1000000) (disch := first | omega | assumption) only [Sx, Nat.reduceEqDiff]; rfl
    · simp -implicitDefEqProofs (maxSteps := 1000000) (disch := first | omega | assumption) only [g4, Sx, Nat.reduceEqDiff]
    · simp -implicitDefEqProofs (maxSteps := 1000000) (disch := first | omega | assumption) only [Sx, Nat.reduceEqDiff]
  rw [if_neg hf] at hM
  rw [show fl b / 4 % 2 = 1 by omega] at x4
  have x4 : (Go.bits .and .u8 ((fl b : Nat) : Int) 4 != 0) = true := x4
  obtain ⟨mv5, hmv5⟩ : ∃ mv5, mv5 = memV ⟨[], [], [], tm, v8, v9, tx, sx⟩ (.slice none 0 0) := ⟨_, rfl⟩
  have hb5 := s5.b2
  have hld5 := mem_load hb5
  have hsc5 := memV_scalar (m := ⟨[], [], [], tm, v8, v9, tx, sx⟩) (ext := .slice none 0 0) rfl
  rw [← hmv5] at hld5 hb5 hsc5
  have hrH5 := s5.k.row hr
  have e12 : IntKind.i64.wrap ((10 : Int) + 2) = 12 := by decide
  by_cases l12 : b.length < 12
  · rw [if_pos l12] at hM
    have f4 : decide ((b.length : Int) < 12) = true := decide_eq_true (by omega)
    try simp -implicitDefEqProofs (maxSteps := 1000000) (disch := first | omega | assumption) only [g0, g2, x4, e12, f4, ev_ldn, hld5, Sx, Nat.reduceEqDiff, reduceCtorEq]
    refine st_same hb5 (by rw [hmv5]; rfl) hsc5 ?_
    try simp -implicitDefEqProofs (maxSteps := 1000000) (disch := first | omega | assumption) only [Sx]
    refine dh_err (z := 0) s5 hM (by decide) ?_ ?_ ?_
    · simp -implicitDefEqProofs (maxSteps := 1000000) (disch := first | omega | assumption) only [g2, Sx, Nat.reduceEqDiff]
    · simp -implicitDefEqProofs (maxSteps := 1000000) (disch := first | omega | assumption) only [Sx, Nat.reduceEqDiff]
    · simp -implicitDefEqProofs (maxSteps := 1000000) (disch := first | omega | assumption) only [Sx, Nat.reduceEqDiff]
  rw [if_neg l12] at hM
  have f4 : decide ((b.length : Int) < 12) = false := decide_eq_false (by omega)
  have i1012 : (0 : Int) ≤ 10 ∧ (10 : Int) ≤ 12 ∧ (12 : Int) ≤ (c : Nat) := by omega
  have t10 : (10 : Int).toNat = 10 := rfl
  have t12 : (12 : Int).toNat = 12 := rfl
  have hl2 : ((b.drop 10).take 2).length = 2 := by rw [List.length_take, List.length_drop]; omega
  try simp -implicitDefEqProofs (maxSteps := 1000000) (disch := first | omega | assumption) only [g0, x4, e12, f4, t10, t12, ev_slc_lohi, Sx, Nat.reduceEqDiff, reduceCtorEq, Nat.reduceSub]
  refine a_call (number_spec (row_take (k := 2) (row_drop (k := 10) hrH5 hc)) hl2.symm ((hb.drop 10).take 2) (by omega)) ?_
  rintro e H6 ⟨rfl, rfl⟩
  obtain ⟨n, hn⟩ : ∃ n, n = Go.Proofs.YtgbhdpeibiglfaaDoor.S08.le ((b.drop 10).take 2) := ⟨_, rfl⟩
  have hn2 : n < 65536 := by
    have := le_lt ((hb.drop 10).take 2)
    rw [hl2, ← hn] at this
    exact this
  rw [← hn] at hM ⊢
  have en : IntKind.i64.wrap ((12 : Int) + (n : Int)) = ((12 + n : Nat) : Int) := by rw [w_i64 (by omega)]; omega
  by_cases l12n : b.length < 12 + n
  · rw [if_pos l12n] at hM
    have f5 : decide ((b.length : Int) < ((12 + n : Nat) : Int)) = true := decide_eq_true (by omega)
    simp -implicitDefEqProofs (maxSteps := 1000000) (disch := first | omega | assumption) only [g0, g2, e12, en, f5, ev_ldn, hld5, Sx, Nat.reduceEqDiff, reduceCtorEq, endK]
    refine st_same hb5 (by rw [hmv5]; rfl) hsc5 ?_
    try simp -implicitDefEqProofs (maxSteps := 1000000) (disch := first | omega | assumption) only [Sx]
    refine dh_err (z := 0) s5 hM (by decide) ?_ ?_ ?_
    · simp -implicitDefEqProofs (maxSteps := 1000000) (disch := first | omega | assumption) only [g2, Sx, Nat.reduceEqDiff]
    · simp -implicitDefEqProofs (maxSteps := 1000000) (disch := first | omega | assumption) only [Sx, Nat.reduceEqDiff]
    · simp -implicitDefEqProofs (maxSteps := 1000000) (disch := first | omega | assumption) only [Sx, Nat.reduceEqDiff]
  rw [if_neg l12n] at hM
  have f5 : decide ((b.length : Int) < ((12 + n : Nat) : Int)) = false := decide_eq_false (by omega)
  simp -implicitDefEqProofs (maxSteps := 1000000) (disch := first | omega | assumption) only [g0, e12, en, f5, Sx, Nat.reduceEqDiff, reduceCtorEq, endK]
  refine a_lits (sz := 1) (cells := #[]) rfl rfl ?_
  intro r7 H7 hO7 k7 hr7
  have s7 := s5.more k7
  have i12n : (0 : Int) ≤ 12 ∧ (12 : Int) ≤ ((12 + n : Nat) : Int) ∧ ((12 + n : Nat) : Int) ≤ (c : Nat) := by omega
  have e12n : 12 + n - 12 = n := by omega
  have hln : ((b.drop 12).take n).length = n := by rw [List.length_take, List.length_drop]; omega
  obtain ⟨ex, hex⟩ : ∃ ex, ex = (b.drop 12).take n := ⟨_, rfl⟩
  have hrx := row_take (k := n) (row_drop (k := 12) (k7.row hrH5) hc)
  rw [← hex] at hrx hln hM
  try simp -implicitDefEqProofs (maxSteps := 1000000) (disch := first | omega | assumption) only [g0, e12, en, t12, ev_slc_lohi, e12n, Sx, Nat.reduceEqDiff, reduceCtorEq]
  refine app_b (l := []) (x := ex) hO7 rfl hln.symm hrx (by rw [hln]; show 0 + n ≤ _; omega) ?_
  intro v8' H8 hO8 ho8 hm8
  obtain ⟨k8, f8⟩ := grown2 (s5.k.trans k7) (v := .slice (some ⟨r7, 0, none⟩) 0 0) (by rintro q ⟨⟩; exact s5.k.none hr7) ho8 hm8
  rw [List.nil_append] at hO8
  have hs8 := hO8.scalar
  have b28 := ho8.oth _ _ s7.b2 (fun e => hO7.elem s7.b2 (by decide) e)
  have s8 : DS H H8 r2 ⟨[], [], [], tm, v8, v9, tx, sx⟩ (.slice none 0 0) := ⟨b28, k8, hr2, .nil, fun x hx => by cases hx⟩
  try simp -implicitDefEqProofs (maxSteps := 1000000) (disch := first | omega | assumption) only [g2, Sx, Nat.reduceEqDiff]
  refine st_mem (cs' := (memV ⟨[], [], ex, tm, v8, v9, tx, sx⟩ v8').toArray) s8.b2 (by simp) hs8 rfl ?_
  intro H9 hH9
  have s9 := s8.set (m' := ⟨[], [], ex, tm, v8, v9, tx, sx⟩) hH9 hO8 f8
  clear hH9
  try simp -implicitDefEqProofs (maxSteps := 1000000) (disch := first | omega | assumption) only [e12, en, Sx, Nat.reduceEqDiff]
  refine dh3 (t := 12 + n) hr hc hb hbl hfl s9 rfl rfl (by omega) hM ?_ ?_ ?_ ?_ ?_
  · simp -implicitDefEqProofs (maxSteps := 1000000) (disch := first | omega | assumption) only [g0, Sx, reduceCtorEq]
  · simp -implicitDefEqProofs (maxSteps := 1000000) (disch := first | omega | assumption) only [g2, Sx, Nat.reduceEqDiff]
  · simp -implicitDefEqProofs (maxSteps := 1000000) (disch := first | omega | assumption) only [Sx, Nat.reduceEqDiff]
  · simp -implicitDefEqProofs (maxSteps := 1000000) (disch := first | omega | assumption) only [g4, Sx, Nat.reduceEqDiff]
  · simp -implicitDefEqProofs (maxSteps := 1000000) (disch := first | omega | assumption) only [Sx, Nat.reduceEqDiff]
end Go.Proofs.YtgbhdpeibiglfaaDoor.S08

set_option linter.unusedVariables false
set_option linter.unusedSimpArgs false
namespace Go.Proofs.YtgbhdpeibiglfaaDoor.S08
open Go Go.RowKit Go.Proofs.YtgbhdpeibiglfaaDoor.Sep Go.Proofs.YtgbhdpeibiglfaaDoor.Low Go.Proofs.YtgbhdpeibiglfaaDoor.S05 Go.Proofs.YtgbhdpeibiglfaaDoor.S06
open Go.Proofs.YtgbhdpeibiglfaaDoor.Lib hiding by8 by8_scalar

theorem txt_low {l : List Int} {n : Nat} (hb : isBy l) (hl : l.length = 4) (hn : n < 4294967296) : (txt l == txt (lowB 4 n)) = decide (Go.Proofs.YtgbhdpeibiglfaaDoor.S08.le l = n) := by
  by_cases h : Go.Proofs.YtgbhdpeibiglfaaDoor.S08.le l = n
  · rw [decide_eq_true h]
    have e := lowB_le hb
    rw [hl, h] at e
    rw [e]
    simp
  · rw [decide_eq_false h]
    rw [beq_eq_false_iff_ne]
    intro e
    have := txt_inj hb (lowB_by 4 n) e
    exact h (by rw [this, le_lowB 4 n (by exact hn)])
theorem d1_err {H0 H : Heap} {b : List Int} {most : Int} {r5 : Nat} {er : Int} {env : Env} (hk : Keep H0 H) (hb : H r5 = some (.cells (memV m0 (.slice none 0 0)).toArray 26 (0, 0))) (hG : mone b most = .error er) (hne : er ≠ 0) (h4 : env 4 = .slice none 0 0) (h5 : env 5 = .pointer (some ⟨r5, 0, none⟩)) (h6 : env 6 = .int .i64 0) (h7 : env 7 = .int .i64 er) :
    bindL (getAll env H [RV.t 4, RV.c 5 (some 8), RV.t 6, RV.t 7]) fun vs => OneP H0 b most (.returned (oneOr vs)) H := by
  rw [g_t, g_cn h5 (mem_load hb), g_t, g_t, g_nil, h4, h6, h7]
  refine ⟨hk, ?_⟩
  rw [hG]
  exact ⟨rfl, hne⟩
set_option maxHeartbeats 8000000 in
set_option maxRecDepth 4000 in
theorem done1_spec {H : Heap} {A : Option Addr} {n c : Nat} {b : List Int} {most : Int} (hr : Row H A (by8 b)) (hn : n = b.length) (hc : b.length ≤ c) (hb : isBy b) (hbl : b.length ≤ 137438953472) :
    ACalls Tryd.prog 10 [Value.slice A n c, .int .i64 most].toArray H fun e H' => OneP H b most e H' := by
  subst hn
  refine call10 (Nat.le_of_ble_eq_true rfl) ?_
  unfold L10 env0
  have hbd : ∀ H', (QI.build #[(.string ⟨#[]⟩), (.string ⟨#[]⟩), (.slice none 0 0), (.int .u32 0), (.int .u8 0), (.int .u8 0), (.bool false), (.bool false)] []).ev [] H' = some (.agg (memV m0 (.slice none 0 0)).toArray) := fun H' => rfl
  have hsc := memV_scalar (m := m0) (ext := .slice none 0 0) rfl
  obtain ⟨mv, hmv⟩ : ∃ mv, mv = memV m0 (.slice none 0 0) := ⟨_, rfl⟩
  rw [← hmv] at hbd hsc
  simp -implicitDefEqProofs (maxSteps := 1000000) (disch := first | omega | assumption) only [Sx]
  refine a_new fun r5 hr5 => ?_
  obtain ⟨H1, hH1⟩ : ∃ H1, H1 = H.set r5 (.cells (memV m0 (.slice none 0 0)).toArray 26 (0, 0)) := ⟨_, rfl⟩
  have k1 : Keep H H1 := by rw [hH1]; exact (Keep.refl _).set_new hr5
  have b1 : H1 r5 = some (.cells (memV m0 (.slice none 0 0)).toArray 26 (0, 0)) := by rw [hH1]; exact set_same
  have hH1' : H.set r5 (.cells #[.string ⟨#[]⟩, .string ⟨#[]⟩, .slice none 0 0, .int .u32 0, .int .u8 0, .int .u8 0, .bool false, .bool false] 26 (0, 0)) = H1 := hH1.symm
  rw [hH1']
  clear hH1 hH1'
  obtain ⟨G, hG⟩ : ∃ G, G = mone b most := ⟨_, rfl⟩
  have hGm := hG
  unfold mone at hG
  by_cases hbad : most < 0 ∨ 4194304 < most
  · rw [if_pos hbad] at hG
    have b1m := b1
    rw [← hmv] at b1m
    by_cases h1 : most < 0
    · have f1 : decide (most < 0) = true := decide_eq_true h1
      try simp -implicitDefEqProofs (maxSteps := 1000000) (disch := first | omega | assumption) only [f1, hbd, Sx, Nat.reduceEqDiff]
      refine st_same b1m (by rw [hmv]; rfl) hsc ?_
      try simp -implicitDefEqProofs (maxSteps := 1000000) (disch := first | omega | assumption) only [Sx, Nat.reduceEqDiff]
      refine d1_err k1 b1 (by rw [← hGm, hG]) (by decide) ?_ ?_ ?_ ?_
      · simp -implicitDefEqProofs (maxSteps := 1000000) (disch := first | omega | assumption) only [Sx, Nat.reduceEqDiff]
      · simp -implicitDefEqProofs (maxSteps := 1000000) (disch := first | omega | assumption) only [Sx, Nat.reduceEqDiff]
      · simp -implicitDefEqProofs (maxSteps := 1000000) (disch := first | omega | assumption) only [Sx, Nat.reduceEqDiff]
      · simp -implicitDefEqProofs (maxSteps := 1000000) (disch := first | omega | assumption) only [Sx, Nat.reduceEqDiff]
    · have f1 : decide (most < 0) = false := decide_eq_false h1
      have f2 : decide (4194304 < most) = true := decide_eq_true (by omega)
      try simp -implicitDefEqProofs (maxSteps := 1000000) (disch := first | omega | assumption) only [f1, f2, hbd, Sx, Nat.reduceEqDiff]
      refine st_same b1m (by rw [hmv]; rfl) hsc ?_
      try simp -implicitDefEqProofs (maxSteps := 1000000) (disch := first | omega | assumption) only [Sx, Nat.reduceEqDiff]
      refine d1_err k1 b1 (by rw [← hGm, hG]) (by decide) ?_ ?_ ?_ ?_
      · simp -implicitDefEqProofs (maxSteps := 1000000) (disch := first | omega | assumption) only [Sx, Nat.reduceEqDiff]
      · simp -implicitDefEqProofs (maxSteps := 1000000) (disch := first | omega | assumption) only [Sx, Nat.reduceEqDiff]
      · simp -implicitDefEqProofs (maxSteps := 1000000) (disch := first | omega | assumption) only [Sx, Nat.reduceEqDiff]
      · simp -implicitDefEqProofs (maxSteps := 1000000) (disch := first | omega | assumption) only [Sx, Nat.reduceEqDiff]
  rw [if_neg hbad] at hG
  have f1 : decide (most < 0) = false := decide_eq_false (by omega)
  have f2 : decide (4194304 < most) = false := decide_eq_false (by omega)
  try simp -implicitDefEqProofs (maxSteps := 1000000) (disch := first | omega | assumption) only [f1, f2, Sx, Nat.reduceEqDiff, reduceCtorEq]
  refine a_call (headed_spec (k1.row hr) rfl hc hb hbl) ?_
  rintro e H2 ⟨k2, hO⟩
  have k2' := k1.trans k2
  have b2 := k2 _ _ b1
  cases hM : mhead b with
  | error er =>
    rw [hM] at hO hG
    obtain ⟨m', ext', z, rfl, hne, hse⟩ := hO
    simp -implicitDefEqProofs (maxSteps := 1000000) (disch := first | omega | assumption) only [Sx, Nat.reduceEqDiff, endK]
    refine a_new fun r8 hr8 => ?_
    try simp -implicitDefEqProofs (maxSteps := 1000000) (disch := first | omega | assumption) only [Sx, Nat.reduceEqDiff]
    refine st_all (old := memV m0 (.slice none 0 0)) (ci := memV m' ext') set_same rfl rfl (memV_scalar hse) ?_
    rw [ml_set]
    obtain ⟨H3, hH3⟩ : ∃ H3, H3 = H2.set r8 (.cells (memV m' ext').toArray 26 (0, 0)) := ⟨_, rfl⟩
    have k3 : Keep H2 H3 := by rw [hH3]; exact (Keep.refl _).set_new hr8
    rw [← hH3]
    clear hH3
    have b3 := k3 _ _ b2
    have b3m := b3
    rw [← hmv] at b3m
    have f3 : (er != 0) = true := bne_iff_ne.2 hne
    try simp -implicitDefEqProofs (maxSteps := 1000000) (disch := first | omega | assumption) only [f3, hbd, Sx, Nat.reduceEqDiff]
    refine st_same b3m (by rw [hmv]; rfl) hsc ?_
    try simp -implicitDefEqProofs (maxSteps := 1000000) (disch := first | omega | assumption) only [Sx, Nat.reduceEqDiff]
    refine d1_err (k2'.trans k3) b3 (by rw [← hGm, hG]; rfl) hne ?_ ?_ ?_ ?_
    · simp -implicitDefEqProofs (maxSteps := 1000000) (disch := first | omega | assumption) only [Sx, Nat.reduceEqDiff]
    · simp -implicitDefEqProofs (maxSteps := 1000000) (disch := first | omega | assumption) only [Sx, Nat.reduceEqDiff]
    · simp -implicitDefEqProofs (maxSteps := 1000000) (disch := first | omega | assumption) only [Sx, Nat.reduceEqDiff]
    · simp -implicitDefEqProofs (maxSteps := 1000000) (disch := first | omega | assumption) only [Sx, Nat.reduceEqDiff]
  | ok hd =>
  rw [hM] at hO hG
  obtain ⟨ext, rfl, hE, fE, htl⟩ := hO
  obtain ⟨m, t⟩ := hd
  have fE' : Fresh H ext := fun x hx => k1.none (fE x hx)
  have hsE := hE.scalar
  have hG : G = (mbody b most t).bind fun x => .ok (x.1, m, x.2) := hG
  have htl : t ≤ b.length := htl
  have hE : Bo H2 ext m.extra := hE
  simp -implicitDefEqProofs (maxSteps := 1000000) (disch := first | omega | assumption) only [Sx, Nat.reduceEqDiff, endK]
  refine a_new fun r8 hr8 => ?_
  try simp -implicitDefEqProofs (maxSteps := 1000000) (disch := first | omega | assumption) only [Sx, Nat.reduceEqDiff]
  refine st_all (old := memV m0 (.slice none 0 0)) (ci := memV m ext) set_same rfl rfl (memV_scalar hsE) ?_
  rw [ml_set]
  obtain ⟨H3, hH3⟩ : ∃ H3, H3 = H2.set r8 (.cells (memV m ext).toArray 26 (0, 0)) := ⟨_, rfl⟩
  have k3 : Keep H2 H3 := by rw [hH3]; exact (Keep.refl _).set_new hr8
  have b83 : H3 r8 = some (.cells (memV m ext).toArray 26 (0, 0)) := by rw [hH3]; exact set_same
  rw [← hH3]
  clear hH3
  have k3' := k2'.trans k3
  have b3 := k3 _ _ b2
  have f0 : ((0 : Int) != 0) = false := rfl
  have hin : (0 : Int) ≤ (t : Int) ∧ (t : Int) ≤ (b.length : Nat) := by omega
  have hDle := decV_le (bs := b.drop t) (most := most)
  rw [List.length_drop] at hDle
  unfold mbody at hG
  try simp -implicitDefEqProofs (maxSteps := 1000000) (disch := first | omega | assumption) only [f0, ev_slc_lo, Sx, Nat.reduceEqDiff, reduceCtorEq]
  refine a_call (ddecode_spec (most := most) (row_drop (k := t) (k3'.row hr) hc) List.length_drop.symm (hb.drop t) (by rw [List.length_drop]; omega)) ?_
  obtain ⟨D, hD⟩ : ∃ D, D = decV (b.drop t) most := ⟨_, rfl⟩
  rw [← hD] at hG hDle ⊢
  clear hD
  rintro e H4 ⟨vp, rfl, hP, k4, fp, hDb, hDl⟩
  have k4' := k3'.trans k4
  have b4 := k4 _ _ b3
  have b84 := k4 _ _ b83
  have b4m := b4
  rw [← hmv] at b4m
  have hsP := hP.scalar
  have hne4 : ∀ s, own vp = some s → own ext ≠ some s := fun s hs e => (hE.keep k3).known e (fp s hs)
  have fP : Fresh H vp := fun x hx => k3'.none (fp x hx)
  by_cases he : D.2.2 = 0
  rotate_left
  · rw [if_pos he] at hG
    have f3 : (D.2.2 != 0) = true := bne_iff_ne.2 he
    simp -implicitDefEqProofs (maxSteps := 1000000) (disch := first | omega | assumption) only [f3, hbd, Sx, Nat.reduceEqDiff, endK]
    refine st_same b4m (by rw [hmv]; rfl) hsc ?_
    try simp -implicitDefEqProofs (maxSteps := 1000000) (disch := first | omega | assumption) only [Sx, Nat.reduceEqDiff]
    refine d1_err k4' b4 (by rw [← hGm, hG]; rfl) he ?_ ?_ ?_ ?_
    · simp -implicitDefEqProofs (maxSteps := 1000000) (disch := first | omega | assumption) only [Sx, Nat.reduceEqDiff]
    · simp -implicitDefEqProofs (maxSteps := 1000000) (disch := first | omega | assumption) only [Sx, Nat.reduceEqDiff]
    · simp -implicitDefEqProofs (maxSteps := 1000000) (disch := first | omega | assumption) only [Sx, Nat.reduceEqDiff]
    · simp -implicitDefEqProofs (maxSteps := 1000000) (disch := first | omega | assumption) only [Sx, Nat.reduceEqDiff]
  rw [if_neg (by omega)] at hG
  have f3 : (D.2.2 != 0) = false := by rw [he]; rfl
  obtain ⟨u, hu⟩ : ∃ u, u = t + D.2.1 := ⟨_, rfl⟩
  have eu : IntKind.i64.wrap ((t : Int) + (D.2.1 : Int)) = (u : Int) := by rw [w_i64 (by omega)]; omega
  have eu8 : IntKind.i64.wrap ((u : Int) + 8) = ((u + 8 : Nat) : Int) := w_i64 (by omega)
  have eu4 : IntKind.i64.wrap ((u : Int) + 4) = ((u + 4 : Nat) : Int) := w_i64 (by omega)
  rw [← hu] at hG
  unfold mtail at hG
  by_cases hl8 : b.length < u + 8
  · rw [if_pos hl8] at hG
    have f4 : decide ((b.length : Int) < ((u + 8 : Nat) : Int)) = true := decide_eq_true (by omega)
    simp -implicitDefEqProofs (maxSteps := 1000000) (disch := first | omega | assumption) only [f3, eu, eu8, f4, hbd, Sx, Nat.reduceEqDiff, reduceCtorEq, endK]
    refine st_same b4m (by rw [hmv]; rfl) hsc ?_
    try simp -implicitDefEqProofs (maxSteps := 1000000) (disch := first | omega | assumption) only [Sx, Nat.reduceEqDiff]
    refine d1_err k4' b4 (by rw [← hGm, hG]; rfl) (by decide) ?_ ?_ ?_ ?_
    · simp -implicitDefEqProofs (maxSteps := 1000000) (disch := first | omega | assumption) only [Sx, Nat.reduceEqDiff]
    · simp -implicitDefEqProofs (maxSteps := 1000000) (disch := first | omega | assumption) only [Sx, Nat.reduceEqDiff]
    · simp -implicitDefEqProofs (maxSteps := 1000000) (disch := first | omega | assumption) only [Sx, Nat.reduceEqDiff]
    · simp -implicitDefEqProofs (maxSteps := 1000000) (disch := first | omega | assumption) only [Sx, Nat.reduceEqDiff]
  rw [if_neg hl8] at hG
  have f4 : decide ((b.length : Int) < ((u + 8 : Nat) : Int)) = false := decide_eq_false (by omega)
  obtain ⟨Ap, cp, rfl, hcp, wp⟩ := Bo.row hP
  simp -implicitDefEqProofs (maxSteps := 1000000) (disch := first | omega | assumption) only [f3, eu, eu8, f4, Sx, Nat.reduceEqDiff, reduceCtorEq, endK]
  refine a_call (tail_spec wp rfl hDb hDl) ?_
  rintro e H5 ⟨vt, rfl, hTl, k5, ft⟩
  have k5' := k4'.trans k5
  have b5 := k5 _ _ b4
  have b85 := k5 _ _ b84
  have b5m := b5
  rw [← hmv] at b5m
  obtain ⟨At, ct, rfl, hct, wt⟩ := Bo.row hTl
  have htl8 : (tailB D.1).length = 8 := by unfold tailB; rw [List.length_append, lowB_len, lowB_len]
  have hrow := k5'.row hr
  have in1 : (0 : Int) ≤ (u : Int) ∧ (u : Int) ≤ ((u + 4 : Nat) : Int) ∧ ((u + 4 : Nat) : Int) ≤ (c : Nat) := by omega
  have in2 : (0 : Int) ≤ ((u + 4 : Nat) : Int) ∧ ((u + 4 : Nat) : Int) ≤ ((u + 8 : Nat) : Int) ∧ ((u + 8 : Nat) : Int) ≤ (c : Nat) := by omega
  have in3 : (0 : Int) ≤ 4 ∧ (4 : Int) ≤ (ct : Nat) := by omega
  have in4 : (0 : Int) ≤ 4 ∧ (4 : Int) ≤ ((8 : Nat) : Int) := by omega
  have s1 : u + 4 - u = 4 := by omega
  have s2 : u + 8 - (u + 4) = 4 := by omega
  have t4 : (4 : Int).toNat = 4 := rfl
  have hq1 : ((b.drop u).take 4).length = 4 := by rw [List.length_take, List.length_drop]; omega
  have hq2 : ((b.drop (u + 4)).take 4).length = 4 := by rw [List.length_take, List.length_drop]; omega
  have hw1 : (tailB D.1).take 4 = lowB 4 (crc D.1) := by unfold tailB; rw [List.take_left' (lowB_len 4 _)]
  have hw2 : (tailB D.1).drop 4 = lowB 4 D.1.length := by unfold tailB; rw [List.drop_left' (lowB_len 4 _)]
  have r1 := row_take (k := 4) (row_drop (k := u) hrow hc)
  have r2 := row_take (k := 4) (row_drop (k := u + 4) hrow hc)
  have r3 := row_take (k := 4) wt
  have r4 := row_drop (k := 4) wt hct
  rw [hw1] at r3
  rw [hw2] at r4
  have g1 := ev_b2s_by (c := c - u) r1
  have g2 := ev_b2s_by (c := c - (u + 4)) r2
  have g3 := ev_b2s_by (c := ct) r3
  have g4 := ev_b2s_by (c := ct - 4) r4
  rw [hq1] at g1
  rw [hq2] at g2
  rw [lowB_len] at g3 g4
  have x1 := txt_low ((hb.drop u).take 4) hq1 (crc_lt hDb)
  have x2 := txt_low ((hb.drop (u + 4)).take 4) hq2 (n := D.1.length) (by omega)
  rw [htl8]
  by_cases hz : Go.Proofs.YtgbhdpeibiglfaaDoor.S08.le ((b.drop u).take 4) = crc D.1
  rotate_left
  · rw [if_pos hz] at hG
    rw [decide_eq_false hz] at x1
    simp -implicitDefEqProofs (maxSteps := 1000000) (disch := first | omega | assumption) only [eu4, ev_slc_lohi, ev_slc_hi, s1, t4, g1, g3, t_list, x1, hbd, Sx, Nat.reduceEqDiff, reduceCtorEq, Zx, endK]
    refine st_same b5m (by rw [hmv]; rfl) hsc ?_
    try simp -implicitDefEqProofs (maxSteps := 1000000) (disch := first | omega | assumption) only [Sx, Nat.reduceEqDiff]
    refine d1_err k5' b5 (by rw [← hGm, hG]; rfl) (by decide) ?_ ?_ ?_ ?_
    · simp -implicitDefEqProofs (maxSteps := 1000000) (disch := first | omega | assumption) only [Sx, Nat.reduceEqDiff]
    · simp -implicitDefEqProofs (maxSteps := 1000000) (disch := first | omega | assumption) only [Sx, Nat.reduceEqDiff]
    · simp -implicitDefEqProofs (maxSteps := 1000000) (disch := first | omega | assumption) only [Sx, Nat.reduceEqDiff]
    · simp -implicitDefEqProofs (maxSteps := 1000000) (disch := first | omega | assumption) only [Sx, Nat.reduceEqDiff]
  rw [if_neg (by omega)] at hG
  rw [decide_eq_true hz] at x1
  by_cases hz2 : Go.Proofs.YtgbhdpeibiglfaaDoor.S08.le ((b.drop (u + 4)).take 4) = D.1.length
  rotate_left
  · rw [if_pos hz2] at hG
    rw [decide_eq_false hz2] at x2
    simp -implicitDefEqProofs (maxSteps := 1000000) (disch := first | omega | assumption) only [eu4, eu8, ev_slc_lohi, ev_slc_hi, ev_slc_lo, s1, s2, t4, g1, g2, g3, g4, t_list, x1, x2, hbd, Sx, Nat.reduceEqDiff, reduceCtorEq, Nat.reduceSub, Zx, endK]
    refine st_same b5m (by rw [hmv]; rfl) hsc ?_
    try simp -implicitDefEqProofs (maxSteps := 1000000) (disch := first | omega | assumption) only [Sx, Nat.reduceEqDiff]
    refine d1_err k5' b5 (by rw [← hGm, hG]; rfl) (by decide) ?_ ?_ ?_ ?_
    · simp -implicitDefEqProofs (maxSteps := 1000000) (disch := first | omega | assumption) only [Sx, Nat.reduceEqDiff]
    · simp -implicitDefEqProofs (maxSteps := 1000000) (disch := first | omega | assumption) only [Sx, Nat.reduceEqDiff]
    · simp -implicitDefEqProofs (maxSteps := 1000000) (disch := first | omega | assumption) only [Sx, Nat.reduceEqDiff]
    · simp -implicitDefEqProofs (maxSteps := 1000000) (disch := first | omega | assumption) only [Sx, Nat.reduceEqDiff]
  rw [if_neg (by omega)] at hG
  rw [decide_eq_true hz2] at x2
  have hG : G = .ok (D.1, m, u + 8) := hG
  obtain ⟨me, hme⟩ : ∃ me, me = memV m ext := ⟨_, rfl⟩
  have hld := mem_load b85
  rw [← hme] at hld
  simp -implicitDefEqProofs (maxSteps := 1000000) (disch := first | omega | assumption) only [eu4, eu8, ev_slc_lohi, ev_slc_hi, ev_slc_lo, s1, s2, t4, g1, g2, g3, g4, t_list, x1, x2, ev_ldn, hld, Sx, Nat.reduceEqDiff, reduceCtorEq, Nat.reduceSub, Zx, endK]
  refine st_all (old := memV m0 (.slice none 0 0)) (ci := me) b5 (by rw [hme]; rfl) (by rw [hme]; rfl) (by rw [hme]; exact memV_scalar hsE) ?_
  rw [hme]
  obtain ⟨H6, hH6⟩ : ∃ H6, H6 = H5.set r5 (.cells (memV m ext).toArray 26 (0, 0)) := ⟨_, rfl⟩
  have ho6 : Only (· = r5) H5 H6 := by rw [hH6]; exact (Only.refl _ _).set (.inl rfl)
  have b6 : H6 r5 = some (.cells (memV m ext).toArray 26 (0, 0)) := by rw [hH6]; exact set_same
  rw [← hH6]
  clear hH6
  have k6' : Keep H H6 := ho6.keep k5' fun x hx => hx ▸ hr5
  have hP6 : Bo H6 (.slice Ap D.1.length cp) D.1 := (hP.keep k5).only ho6 fun x hx e => (hP.keep k5).elem b5 (by decide) (e ▸ hx)
  have hE5 := hE.keep (k3.trans (k4.trans k5))
  have hE6 : Bo H6 ext m.extra := hE5.only ho6 fun x hx e => hE5.elem b5 (by decide) (e ▸ hx)
  have fin : ∀ env : Env, env 4 = .slice Ap D.1.length cp → env 5 = .pointer (some ⟨r5, 0, none⟩) → env 6 = .int .i64 ((u + 8 : Nat) : Int) → env 7 = .int .i64 0 → bindL (getAll env H6 [RV.t 4, RV.c 5 (some 8), RV.t 6, RV.t 7]) fun vs => OneP H b most (.returned (oneOr vs)) H6 := by
    intro env h4 h5 h6 h7
    rw [g_t, g_cn h5 (mem_load b6), g_t, g_t, g_nil, h4, h6, h7]
    refine ⟨k6', ?_⟩
    rw [← hGm, hG]
    exact ⟨_, ext, rfl, hP6, hE6, fP, fE', hne4, hDl⟩
  try simp -implicitDefEqProofs (maxSteps := 1000000) (disch := first | omega | assumption) only [Sx, Nat.reduceEqDiff]
  refine fin _ ?_ ?_ ?_ ?_
  · simp -implicitDefEqProofs (maxSteps := 1000000) (disch := first | omega | assumption) only [Sx, Nat.reduceEqDiff]
  · simp -implicitDefEqProofs (maxSteps := 1000000) (disch := first | omega | assumption) only [Sx, Nat.reduceEqDiff]
  · simp -implicitDefEqProofs (maxSteps := 1000000) (disch := first | omega | assumption) only [Sx, Nat.reduceEqDiff]
  · simp -implicitDefEqProofs (maxSteps := 1000000) (disch := first | omega | assumption) only [Sx, Nat.reduceEqDiff]
end Go.Proofs.YtgbhdpeibiglfaaDoor.S08
