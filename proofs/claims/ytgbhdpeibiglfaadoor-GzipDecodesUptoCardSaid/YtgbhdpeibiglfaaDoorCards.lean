/-
  DERIVED. GIVEN WITH THE SEED: THE CARDS: each row of YtgbhdpeibiglfaaDoorRows.lean that lists a variable, with what it lists TIED to the program's text (the seventh form; the later family's looks); each row that meets fmt, with fmt's text TOLD by the authors' own Lean function (tested against real Go, not proved from fmt's source: count such statements apart). THE CARD IS WHAT COUNTS. Prove the row's statement (the work); the ties are given (YtgbhdpeibiglfaaDoorTie.lean); close each card by the builder's one call (the guide's Derived/Test/ToyasCard.lean, 'card_holds'). Laid BY PROGRAM, IN A SANDBOX (cutbox-door.mjs). By AI agents, Wed Nov 11 2026. No macro, syntax, notation, axiom, sorry.
-/
import Derived.Test.YtgbhdpeibiglfaaDoorRows
import GoSem.ClaimSeven
namespace Go.Proofs.YtgbhdpeibiglfaaDoor
namespace Rows

/-- THE TIED CARD OF 'satchellaw08.GzipDecodes'. -/
def gzipDecodesCard : Claim7 := { stood := { row := gzipDecodesRow, standIns := [], harness := (true, "f18b97dc0dbc34e4e24710e205c3430ed145fadb02cf96291dfc0b72b45dacf5"), looks := true }, kinds := [], alts := [], laidByText := true, laidKinds := [.widerDeep], laidTests := true, laidLooks := .later }
def GzipDecodesCardSaid : Prop := Claim7.holds Tryd.pinned (.plain (OpenSpec.ofChange gzipDecodesSpec)) gzipDecodesCard

/-- THE SECOND FORM's CARD OF 'satchellaw08.GzipDecodes'. -/
def gzipDecodesUptoCard : Claim7 := { stood := { row := gzipDecodesUptoRow, standIns := [], harness := (true, "f18b97dc0dbc34e4e24710e205c3430ed145fadb02cf96291dfc0b72b45dacf5"), looks := true }, kinds := [], alts := [], laidByText := true, laidKinds := [.widerDeep], laidTests := true, laidLooks := .later }
def GzipDecodesUptoCardSaid : Prop := Claim7.holds Tryd.pinned (.plain (OpenSpec.upto gzipDecodesSpec)) gzipDecodesUptoCard
end Rows
end Go.Proofs.YtgbhdpeibiglfaaDoor
