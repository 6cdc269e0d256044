/-
  Texts as lists of bytes.
-/
import Derived.Laws.Strings
import Derived.Test.YtphojebganlbnaaDoorBase
set_option linter.unusedVariables false
set_option linter.unusedSimpArgs false
namespace Go.Proofs.YtphojebganlbnaaDoor.Lib
open Go Go.RowKit Go.Proofs.YtphojebganlbnaaDoor.Sep

theorem t_surj (s : ByteArray) : ∃ l : List UInt8, s = ⟨l.toArray⟩ := ⟨s.data.toList, by simp⟩
theorem t_list (l : List UInt8) : (⟨l.toArray⟩ : ByteArray).toList = l := by simp [ByteArray.toList_eq]
theorem t_eq {a b : List UInt8} : ((⟨a.toArray⟩ : ByteArray).toList == (⟨b.toArray⟩ : ByteArray).toList) = decide (a = b) := by
  rw [t_list, t_list]
  by_cases h : a = b
  · simp [h]
  · simp [h]
theorem t_size {l : List UInt8} : (⟨l.toArray⟩ : ByteArray).size = l.length := by simp [ByteArray.size]
theorem t_ext {l : List UInt8} {i j : Nat} : (⟨l.toArray⟩ : ByteArray).extract i j = ⟨((l.take j).drop i).toArray⟩ := by
  apply ByteArray.ext
  apply Array.ext'
  simp [List.extract, List.drop_take]
theorem e_lens {l : List UInt8} {H : Heap} : QI.lens.ev [.string ⟨l.toArray⟩] H = some (.int .i64 l.length) := by rw [ev_lens, t_size]
theorem e_ixs {l : List UInt8} {z : Int} {k : IntKind} {H : Heap} (h : 0 ≤ z) : QI.ixs.ev [.string ⟨l.toArray⟩, .int k z] H = (l[z.toNat]?).map fun b => .int .u8 b.toNat := by
  simp only [QI.ev, if_pos h]
  congr 1
  show (⟨l.toArray⟩ : ByteArray)[z.toNat]? = _
  by_cases hz : z.toNat < l.length
  · rw [List.getElem?_eq_getElem hz, getElem?_pos _ _ (by rw [t_size]; exact hz)]
    rfl
  · rw [List.getElem?_eq_none (by omega), getElem?_neg _ _ (by rw [t_size]; exact hz)]
theorem e_sls_hi {l : List UInt8} {z : Int} {k : IntKind} {H : Heap} (h : 0 ≤ z ∧ z ≤ l.length) : (QI.sls false true).ev [.string ⟨l.toArray⟩, .int k z] H = some (.string ⟨(l.take z.toNat).toArray⟩) := by
  rw [ev_sls_hi (by rw [t_size]; exact h), t_ext]
  simp
theorem e_sls_lo {l : List UInt8} {z : Int} {k : IntKind} {H : Heap} (h : 0 ≤ z ∧ z ≤ l.length) : (QI.sls true false).ev [.string ⟨l.toArray⟩, .int k z] H = some (.string ⟨(l.drop z.toNat).toArray⟩) := by
  rw [ev_sls_lo (by rw [t_size]; exact h), t_ext, t_size, List.take_length]
theorem e_sls {l : List UInt8} {z z' : Int} {k k' : IntKind} {H : Heap} (h : 0 ≤ z ∧ z ≤ z' ∧ z' ≤ l.length) : (QI.sls true true).ev [.string ⟨l.toArray⟩, .int k z, .int k' z'] H = some (.string ⟨((l.take z'.toNat).drop z.toNat).toArray⟩) := by
  rw [ev_sls_lohi (by rw [t_size]; exact h), t_ext]
theorem t_cat {a b : List UInt8} : (⟨a.toArray⟩ : ByteArray) ++ ⟨b.toArray⟩ = ⟨(a ++ b).toArray⟩ := by
  apply ByteArray.ext
  apply Array.ext'
  simp
theorem v_cat {a b : List UInt8} (h : a.length + b.length ≤ 9223372036854775807) : binV .add (.string ⟨a.toArray⟩) (.string ⟨b.toArray⟩) = some (.string ⟨(a ++ b).toArray⟩) := by
  simp only [binV, strV, t_size, t_cat]
  rw [if_neg]
  simp only [IntKind.max, IntKind.bits, IntKind.signed]
  omega
end Go.Proofs.YtphojebganlbnaaDoor.Lib
