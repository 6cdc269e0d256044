/-
  The numbers under which this dump holds the locks.
-/
import Derived.Test.YtmgpfdfbcnlocaaDoorProg
import Derived.Conc.RwLib
import Derived.Conc.MuData
import Derived.KernelRfl
namespace Go.Proofs
abbrev Tryd.muLink : Go.Conc.Locks.MuLink := { lock := 20, unlock := 21, ilock := 30, iunlock := 31, lockSlow := 43, unlockSlow := 46, disable := 39, enable := 41, acquire := 42, relMerge := 44, cas32 := 40, add32 := 45, tMutex := 62, tIMutex := 60, tPMutex := 73, tPIMutex := 82, tPI32 := 84, tUP := 86, tNoCopy := 58, tU32 := 34 }
theorem Tryd.muLib : Go.Conc.Locks.MuLib Tryd.prog Tryd.muLink :=
  ⟨Tryd.func20, Tryd.func21, Tryd.func30, Tryd.func31, Tryd.func39, Tryd.func41, Tryd.func42, Tryd.func44, Tryd.func40, Tryd.func45, Tryd.underlying60, Tryd.runUnderlying60, Tryd.sizeOf60, Tryd.isAgg60, Tryd.zeroValue60, Tryd.underlying62, Tryd.runUnderlying62, Tryd.sizeOf62, Tryd.isAgg62, Tryd.zeroValue62, Tryd.underlying73, Tryd.runUnderlying73, Tryd.sizeOf73, Tryd.isAgg73, Tryd.zeroValue73, Tryd.underlying82, Tryd.runUnderlying82, Tryd.sizeOf82, Tryd.isAgg82, Tryd.zeroValue82, Tryd.underlying84, Tryd.runUnderlying84, Tryd.sizeOf84, Tryd.isAgg84, Tryd.zeroValue84, Tryd.underlying86, Tryd.runUnderlying86, Tryd.sizeOf86, Tryd.isAgg86, Tryd.zeroValue86, Tryd.underlying58, Tryd.runUnderlying58, Tryd.sizeOf58, Tryd.isAgg58, Tryd.zeroValue58, Tryd.underlying21, Tryd.runUnderlying21, Tryd.sizeOf21, Tryd.isAgg21, Tryd.zeroValue21, (by kernel_rfl)⟩
theorem Tryd.muData : Go.Conc.Locks.MuData Tryd.prog Tryd.muLink := ⟨Tryd.underlying34, by kernel_rfl, by kernel_rfl, by kernel_rfl, by kernel_rfl, by kernel_rfl⟩
end Go.Proofs
