/-
  A stream, plainly: stored blocks come out.
-/
import Derived.Test.YtphojebganlbnaaDoorInfP
set_option linter.unusedVariables false
set_option linter.unusedSimpArgs false
namespace Go.Proofs.YtphojebganlbnaaDoor.S06
open Go Go.RowKit Go.Proofs.YtphojebganlbnaaDoor.Sep Go.Proofs.YtphojebganlbnaaDoor.S05 Go.Proofs.YtphojebganlbnaaDoor.CodeLaw Go.Proofs.YtphojebganlbnaaDoor.Pack Go.Proofs.YtphojebganlbnaaDoor.BitLaw
open Go.Proofs.YtphojebganlbnaaDoor.Lib hiding by8 by8_scalar

def lenB (n : Nat) : List Int := [((n % 256 : Nat) : Int), ((n / 256 : Nat) : Int), ((255 - n % 256 : Nat) : Int), ((255 - n / 256 : Nat) : Int)]
def stb (p : List Int) : List Int := 0 :: (lenB p.length ++ p)
def stB (ps : List (List Int)) : List Int := (ps.map stb).flatten
theorem unpack_drop : ∀ (bs : List Int) (j : Nat), (unpack bs).drop (8 * j) = unpack (bs.drop j)
  | bs, 0 => by simp
  | [], j + 1 => by simp [unpack]
  | x :: bs, j + 1 => by
    rw [unpack, show 8 * (j + 1) = (low 8 x).length + 8 * j by rw [low_length]; omega, ← List.drop_drop, List.drop_left, unpack_drop bs j, List.drop_succ_cons]
theorem num16 {a b : Int} {r : List Int} (ha : 0 ≤ a ∧ a < 256) (hb : 0 ≤ b ∧ b < 256) : numOf ((unpack (a :: b :: r)).take 16) = a + 256 * b := by
  have e : (unpack (a :: b :: r)).take 16 = low 8 a ++ low 8 b := by
    rw [unpack, unpack, ← List.append_assoc, List.take_append_of_le_length (by rw [List.length_append, low_length, low_length]; omega), List.take_of_length_le (by rw [List.length_append, low_length, low_length]; omega)]
  rw [e, numOf_append, numOf_low 8 a ha.1 (by omega), numOf_low 8 b hb.1 (by omega), low_length]
  rfl
theorem tk16 {bs : List Int} {j mo : Nat} {o : List Int} {a b : Int} {r : List Int} (h : bs.drop j = a :: b :: r) (ha : 0 ≤ a ∧ a < 256) (hb : 0 ≤ b ∧ b < 256) : tk 16 (unpack bs) mo (8 * j) o = .ok (a + 256 * b).toNat (8 * (j + 2)) o := by
  have hl := congrArg List.length h
  rw [List.length_drop, List.length_cons, List.length_cons] at hl
  rw [tk_ok (by rw [unpack_length]; omega), unpack_drop, h, num16 ha hb, show 8 * j + 16 = 8 * (j + 2) by omega]
theorem stored_ok {bs p r : List Int} {j mo : Nat} {o : List Int} (hb : isBy bs) (h : bs.drop (j + 1) = lenB p.length ++ (p ++ r)) (hp : p.length ≤ 65535) (hmo : o.length + p.length ≤ mo) : stored (unpack bs) mo (8 * j + 3) o = .ok () (8 * (j + 5 + p.length)) (o ++ p) := by
  have hl := congrArg List.length h
  rw [List.length_drop, List.length_append, List.length_append] at hl
  have hl4 : (lenB p.length).length = 4 := rfl
  rw [hl4] at hl
  have h2 : bs.drop (j + 3) = ((255 - p.length % 256 : Nat) : Int) :: ((255 - p.length / 256 : Nat) : Int) :: (p ++ r) := by
    rw [show j + 3 = (j + 1) + 2 by omega, ← List.drop_drop, h]; rfl
  have h3 : bs.drop (j + 5) = p ++ r := by
    rw [show j + 5 = (j + 1) + 4 by omega, ← List.drop_drop, h]; rfl
  unfold stored
  rw [bind_ok (m := align) rfl, show (8 * j + 3 + 7) / 8 * 8 = 8 * (j + 1) by omega, bind_ok (tk16 (h.trans rfl) (by omega) (by omega)), bind_ok (tk16 h2 (by omega) (by omega))]
  have e1 : (((p.length % 256 : Nat) : Int) + 256 * ((p.length / 256 : Nat) : Int)).toNat = p.length := by omega
  have e2 : (((255 - p.length % 256 : Nat) : Int) + 256 * ((255 - p.length / 256 : Nat) : Int)).toNat = 65535 - p.length := by omega
  rw [e1, e2, if_neg (by omega), bind_ok (m := room p.length) (if_neg (by omega)), show j + 1 + 2 + 2 = j + 5 by omega, gets_eq hb _ _ _ (by omega), if_pos (by omega), h3, List.take_left]
  congr 1
  omega
theorem head0 {bs r : List Int} {j mo : Nat} {o : List Int} {x : Int} (h : bs.drop j = x :: r) (hx : x = 0 ∨ x = 1) : tk 1 (unpack bs) mo (8 * j) o = .ok x.toNat (8 * j + 1) o ∧ tk 2 (unpack bs) mo (8 * j + 1) o = .ok 0 (8 * j + 1 + 2) o := by
  have hl := congrArg List.length h
  rw [List.length_drop, List.length_cons] at hl
  have hd := unpack_drop bs j
  rw [h] at hd
  have hul := unpack_length bs
  have hd1 : (unpack bs).drop (8 * j + 1) = (unpack (x :: r)).drop 1 := by rw [← List.drop_drop, hd]
  refine ⟨?_, ?_⟩
  · rw [tk_ok (by omega), hd]
    rcases hx with rfl | rfl <;> rfl
  · rw [tk_ok (by omega), hd1]
    rcases hx with rfl | rfl <;> rfl
theorem block0 : block 0 = stored := by unfold block; rw [if_pos rfl]
theorem step_sto {bs p r : List Int} {j mo f : Nat} {o : List Int} (hb : isBy bs) (h : bs.drop j = stb p ++ r) (hp : p.length ≤ 65535) (hmo : o.length + p.length ≤ mo) : blocks (f + 1) (unpack bs) mo (8 * j) o = blocks f (unpack bs) mo (8 * (j + 5 + p.length)) (o ++ p) := by
  have h0 : bs.drop j = 0 :: (lenB p.length ++ (p ++ r)) := by rw [h, stb]; simp
  have h1 : bs.drop (j + 1) = lenB p.length ++ (p ++ r) := by rw [← List.drop_drop, h0]; rfl
  obtain ⟨a1, a2⟩ := head0 (mo := mo) (o := o) h0 (.inl rfl)
  rw [blocks, bind_ok a1, bind_ok a2, bind_ok (m := block 0) (by rw [block0]; exact stored_ok hb h1 hp hmo), if_pos (show Int.toNat 0 = 0 from rfl)]
theorem last_sto {bs r : List Int} {j mo f : Nat} {o : List Int} (hb : isBy bs) (h : bs.drop j = [1, 0, 0, 255, 255] ++ r) (hmo : o.length ≤ mo) : blocks (f + 1) (unpack bs) mo (8 * j) o = .ok () (8 * (j + 5)) o := by
  have h0 : bs.drop j = 1 :: (lenB ([] : List Int).length ++ ([] ++ r)) := by rw [h]; rfl
  have h1 : bs.drop (j + 1) = lenB ([] : List Int).length ++ ([] ++ r) := by rw [← List.drop_drop, h0]; rfl
  obtain ⟨a1, a2⟩ := head0 (mo := mo) (o := o) h0 (.inr rfl)
  have hs := stored_ok (p := []) hb h1 (by simp) (by simpa using hmo)
  rw [List.append_nil] at hs
  rw [blocks, bind_ok a1, bind_ok a2, bind_ok (m := block 0) (by rw [block0]; exact hs), if_neg (show ¬ Int.toNat 1 = 0 by decide)]
  rfl
theorem all_sto {bs z : List Int} {mo : Nat} (hb : isBy bs) : ∀ (ps : List (List Int)) (j f : Nat) (o : List Int), bs.drop j = stB ps ++ ([1, 0, 0, 255, 255] ++ z) → (∀ p ∈ ps, p.length ≤ 65535) → o.length + ps.flatten.length ≤ mo → ps.length < f → blocks f (unpack bs) mo (8 * j) o = .ok () (8 * (j + (stB ps).length + 5)) (o ++ ps.flatten)
  | [], j, f, o, h, hp, hm, hf => by
    obtain ⟨f, rfl⟩ : ∃ g, f = g + 1 := ⟨f - 1, by simp at hf; omega⟩
    rw [last_sto hb h (by simpa using hm)]
    simp [stB]
  | p :: ps, j, f, o, h, hp, hm, hf => by
    obtain ⟨f, rfl⟩ : ∃ g, f = g + 1 := ⟨f - 1, by simp at hf; omega⟩
    have hst : stB (p :: ps) = stb p ++ stB ps := rfl
    have hsl : (stb p).length = 5 + p.length := by simp [stb, lenB]; omega
    rw [List.flatten_cons, List.length_append] at hm
    have h1 : bs.drop j = stb p ++ (stB ps ++ ([1, 0, 0, 255, 255] ++ z)) := by rw [h, hst, List.append_assoc]
    have h2 : bs.drop (j + 5 + p.length) = stB ps ++ ([1, 0, 0, 255, 255] ++ z) := by
      rw [show j + 5 + p.length = j + (stb p).length by omega, ← List.drop_drop, h1, List.drop_left]
    rw [step_sto hb h1 (hp p (.head _)) (by omega), all_sto hb ps _ f (o ++ p) h2 (fun q hq => hp q (.tail _ hq)) (by rw [List.length_append]; omega) (by simp at hf; omega), hst, List.length_append, List.flatten_cons, List.append_assoc]
    congr 1
    omega
theorem infl_sto {ps : List (List Int)} {z : List Int} {mo : Nat} (hb : isBy (stB ps ++ ([1, 0, 0, 255, 255] ++ z))) (hp : ∀ p ∈ ps, p.length ≤ 65535) (hm : ps.flatten.length ≤ mo) (hn : ps.length < 1000000000000000) : infl (stB ps ++ ([1, 0, 0, 255, 255] ++ z)) mo = .ok () (8 * ((stB ps).length + 5)) ps.flatten := by
  have := all_sto (z := z) (mo := mo) hb ps 0 Fu [] rfl hp (by simpa using hm) (by unfold Fu; omega)
  unfold infl
  rw [Nat.mul_zero, Nat.zero_add, List.nil_append] at this
  exact this
end Go.Proofs.YtphojebganlbnaaDoor.S06
