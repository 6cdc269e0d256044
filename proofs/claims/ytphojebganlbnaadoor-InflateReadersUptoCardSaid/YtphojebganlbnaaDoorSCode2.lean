/-
  bits.Code in memory.
-/
import Derived.Test.YtphojebganlbnaaDoorSCode
set_option linter.unusedVariables false
set_option linter.unusedSimpArgs false
namespace Go.Proofs.YtphojebganlbnaaDoor.S05
open Go Go.RowKit Go.Proofs.YtphojebganlbnaaDoor.Sep Go.Proofs.YtphojebganlbnaaDoor.Low Go.Proofs.YtphojebganlbnaaDoor.CodeLaw
open Go.Proofs.YtphojebganlbnaaDoor.Lib (by64 by64_scalar encs encs_len)

def codeCells (wv ov : Value) (cs fs : List Int) (wh : Bool) (lo : Int) : List Value := wv :: ov :: (by64 cs ++ (by64 fs ++ [.bool wh, .int .i64 lo]))
theorem cc_cnt {wv ov : Value} {cs fs : List Int} {wh : Bool} {lo : Int} {n : Nat} (hc : cs.length = 16) (hn : n < 16) : (codeCells wv ov cs fs wh lo).toArray[2 + n]? = some (.int .i64 (cs.getD n 0)) := by
  unfold codeCells
  rw [List.getElem?_toArray, show 2 + n = n + 1 + 1 by omega, List.getElem?_cons_succ, List.getElem?_cons_succ, List.getElem?_append_left (by simp; omega)]
  simp [show n < cs.length by omega]
theorem cc_fst {wv ov : Value} {cs fs : List Int} {wh : Bool} {lo : Int} {n : Nat} (hc : cs.length = 16) (hf : fs.length = 16) (hn : n < 16) : (codeCells wv ov cs fs wh lo).toArray[18 + n]? = some (.int .i64 (fs.getD n 0)) := by
  unfold codeCells
  rw [List.getElem?_toArray, show 18 + n = (16 + n) + 1 + 1 by omega, List.getElem?_cons_succ, List.getElem?_cons_succ, List.getElem?_append_right (by simp; omega), List.length_map, hc, show 16 + n - 16 = n by omega, List.getElem?_append_left (by simp; omega)]
  simp [show n < fs.length by omega]
theorem cc_wh {wv ov : Value} {cs fs : List Int} {wh : Bool} {lo : Int} (hc : cs.length = 16) (hf : fs.length = 16) : (codeCells wv ov cs fs wh lo).toArray[34]? = some (.bool wh) ∧ (codeCells wv ov cs fs wh lo).toArray[35]? = some (.int .i64 lo) := by
  unfold codeCells
  constructor
  · rw [List.getElem?_toArray, show 34 = 32 + 1 + 1 by omega, List.getElem?_cons_succ, List.getElem?_cons_succ, List.getElem?_append_right (by simp; omega), List.getElem?_append_right (by simp; omega)]
    simp [hc, hf]
  · rw [List.getElem?_toArray, show 35 = 33 + 1 + 1 by omega, List.getElem?_cons_succ, List.getElem?_cons_succ, List.getElem?_append_right (by simp; omega), List.getElem?_append_right (by simp; omega)]
    simp [hc, hf]
theorem cc_size {wv ov : Value} {cs fs : List Int} {wh : Bool} {lo : Int} (hc : cs.length = 16) (hf : fs.length = 16) : (codeCells wv ov cs fs wh lo).toArray.size = 36 := by simp [codeCells, hc, hf]
theorem cc_set_cnt {wv ov : Value} {cs fs : List Int} {wh : Bool} {lo v : Int} {n : Nat} (hc : cs.length = 16) (hn : n < 16) : (codeCells wv ov cs fs wh lo).toArray.setIfInBounds (2 + n) (.int .i64 v) = (codeCells wv ov (cs.set n v) fs wh lo).toArray := by
  unfold codeCells
  rw [List.setIfInBounds_toArray, show 2 + n = n + 1 + 1 by omega, List.set_cons_succ, List.set_cons_succ, List.set_append_left _ _ (by simp; omega)]
  simp [by64, List.map_set]
theorem cc_set_fst {wv ov : Value} {cs fs : List Int} {wh : Bool} {lo v : Int} {n : Nat} (hc : cs.length = 16) (hf : fs.length = 16) (hn : n < 16) : (codeCells wv ov cs fs wh lo).toArray.setIfInBounds (18 + n) (.int .i64 v) = (codeCells wv ov cs (fs.set n v) wh lo).toArray := by
  unfold codeCells
  rw [List.setIfInBounds_toArray, show 18 + n = (16 + n) + 1 + 1 by omega, List.set_cons_succ, List.set_cons_succ, List.set_append_right _ _ (by simp; omega), List.length_map, hc, show 16 + n - 16 = n by omega, List.set_append_left _ _ (by simp; omega)]
  simp [by64, List.map_set]
theorem cc_set_wh {wv ov : Value} {cs fs : List Int} {wh b : Bool} {lo : Int} (hc : cs.length = 16) (hf : fs.length = 16) : (codeCells wv ov cs fs wh lo).toArray.setIfInBounds 34 (.bool b) = (codeCells wv ov cs fs b lo).toArray := by
  unfold codeCells
  rw [List.setIfInBounds_toArray, show 34 = 32 + 1 + 1 by omega, List.set_cons_succ, List.set_cons_succ, List.set_append_right _ _ (by simp; omega), List.set_append_right _ _ (by simp; omega)]
  simp [hc, hf]
theorem cc_set_lo {wv ov : Value} {cs fs : List Int} {wh : Bool} {lo v : Int} (hc : cs.length = 16) (hf : fs.length = 16) : (codeCells wv ov cs fs wh lo).toArray.setIfInBounds 35 (.int .i64 v) = (codeCells wv ov cs fs wh v).toArray := by
  unfold codeCells
  rw [List.setIfInBounds_toArray, show 35 = 33 + 1 + 1 by omega, List.set_cons_succ, List.set_cons_succ, List.set_append_right _ _ (by simp; omega), List.set_append_right _ _ (by simp; omega)]
  simp [hc, hf]
theorem cc_hd {wv ov : Value} {cs fs : List Int} {wh : Bool} {lo : Int} : (codeCells wv ov cs fs wh lo).toArray[0]? = some wv ∧ (codeCells wv ov cs fs wh lo).toArray[1]? = some ov := ⟨rfl, rfl⟩
theorem cc_set_ov {wv ov v : Value} {cs fs : List Int} {wh : Bool} {lo : Int} : (codeCells wv ov cs fs wh lo).toArray.setIfInBounds 1 v = (codeCells wv v cs fs wh lo).toArray := by
  unfold codeCells
  rw [List.setIfInBounds_toArray]
  rfl
end Go.Proofs.YtphojebganlbnaaDoor.S05
