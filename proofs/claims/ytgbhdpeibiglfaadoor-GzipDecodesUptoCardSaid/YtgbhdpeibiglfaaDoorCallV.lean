/-
  A call of a value that is a function.
-/
import Derived.Test.YtgbhdpeibiglfaaDoorSepTy
namespace Go.Proofs.YtgbhdpeibiglfaaDoor.Lib
open Go Go.RowKit Go.Proofs.YtgbhdpeibiglfaaDoor.Sep
theorem a_callv {P : Program} {H : Heap} {f : Nat} {xs : List Value} {S : Ending → Heap → Prop} {KV : Value → Heap → Prop} {KP : List PanicEntry → Heap → Prop} (hc : callable P f = true) (h : ACalls P f xs.toArray H S) (hk : ∀ e H', S e H' → endK KV KP e H') : awpE P .callv (.func (.func f) #[] #[] :: xs) KV KP H :=
  ⟨hc, S, by simpa using h, hk⟩
end Go.Proofs.YtgbhdpeibiglfaaDoor.Lib
