/-
  Texts as lists of bytes.
-/
import Derived.Laws.Strings
import Derived.Test.YtgbhdpeibiglfaaDoorBase
set_option linter.unusedVariables false
set_option linter.unusedSimpArgs false
namespace Go.Proofs.YtgbhdpeibiglfaaDoor.Lib
open Go Go.RowKit Go.Proofs.YtgbhdpeibiglfaaDoor.Sep

theorem t_list (l : List UInt8) : (⟨l.toArray⟩ : ByteArray).toList = l := by simp [ByteArray.toList_eq]
theorem t_size {l : List UInt8} : (⟨l.toArray⟩ : ByteArray).size = l.length := by simp [ByteArray.size]
theorem t_cat {a b : List UInt8} : (⟨a.toArray⟩ : ByteArray) ++ ⟨b.toArray⟩ = ⟨(a ++ b).toArray⟩ := by
  apply ByteArray.ext
  apply Array.ext'
  simp
theorem v_cat {a b : List UInt8} (h : a.length + b.length ≤ 9223372036854775807) : binV .add (.string ⟨a.toArray⟩) (.string ⟨b.toArray⟩) = some (.string ⟨(a ++ b).toArray⟩) := by
  simp only [binV, strV, t_size, t_cat]
  rw [if_neg]
  simp only [IntKind.max, IntKind.bits, IntKind.signed]
  omega
end Go.Proofs.YtgbhdpeibiglfaaDoor.Lib
