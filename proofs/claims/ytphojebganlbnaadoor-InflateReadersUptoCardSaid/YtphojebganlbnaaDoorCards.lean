/-
  DERIVED. GIVEN WITH THE SEED: THE CARDS: each row of YtphojebganlbnaaDoorRows.lean that lists a variable, with what it lists TIED to the program's text (the seventh form; the later family's looks); each row that meets fmt, with fmt's text TOLD by the authors' own Lean function (tested against real Go, not proved from fmt's source: count such statements apart). THE CARD IS WHAT COUNTS. Prove the row's statement (the work); the ties are given (YtphojebganlbnaaDoorTie.lean); close each card by the builder's one call (the guide's Derived/Test/ToyasCard.lean, 'card_holds'). Laid BY PROGRAM, IN A SANDBOX (cutbox-door.mjs). By AI agents, Wed Nov 11 2026. No macro, syntax, notation, axiom, sorry.
-/
import Derived.Test.YtphojebganlbnaaDoorRows
import GoSem.ClaimSeven
namespace Go.Proofs.YtphojebganlbnaaDoor
namespace Rows

/-- THE TIED CARD OF 'satchellaw06.InflateDecodes'. -/
def inflateDecodesCard : Claim7 := { stood := { row := inflateDecodesRow, standIns := [], harness := (true, "ed6b5313f5b80d83e267f631c48ac12a75e7ca39eee5a589622313fc7bfc6d10"), looks := true }, kinds := [], alts := [], laidByText := true, laidKinds := [.widerDeep], laidTests := true, laidLooks := .later }
def InflateDecodesCardSaid : Prop := Claim7.holds Tryd.pinned (.plain (OpenSpec.ofChange inflateDecodesSpec)) inflateDecodesCard

/-- THE TIED CARD OF 'satchellaw06.InflateBounded'. -/
def inflateBoundedCard : Claim7 := { stood := { row := inflateBoundedRow, standIns := [], harness := (true, "ed6b5313f5b80d83e267f631c48ac12a75e7ca39eee5a589622313fc7bfc6d10"), looks := true }, kinds := [], alts := [], laidByText := true, laidKinds := [.widerDeep], laidTests := true, laidLooks := .later }
def InflateBoundedCardSaid : Prop := Claim7.holds Tryd.pinned (.plain (OpenSpec.ofChange inflateBoundedSpec)) inflateBoundedCard

/-- THE TIED CARD OF 'satchellaw06.InflateStored'. -/
def inflateStoredCard : Claim7 := { stood := { row := inflateStoredRow, standIns := [], harness := (true, "ed6b5313f5b80d83e267f631c48ac12a75e7ca39eee5a589622313fc7bfc6d10"), looks := true }, kinds := [], alts := [], laidByText := true, laidKinds := [.widerDeep], laidTests := true, laidLooks := .later }
def InflateStoredCardSaid : Prop := Claim7.holds Tryd.pinned (.plain (OpenSpec.ofChange inflateStoredSpec)) inflateStoredCard

/-- THE TIED CARD OF 'satchellaw06.InflateBegins'. -/
def inflateBeginsCard : Claim7 := { stood := { row := inflateBeginsRow, standIns := [], harness := (true, "ed6b5313f5b80d83e267f631c48ac12a75e7ca39eee5a589622313fc7bfc6d10"), looks := true }, kinds := [], alts := [], laidByText := true, laidKinds := [.widerDeep], laidTests := true, laidLooks := .later }
def InflateBeginsCardSaid : Prop := Claim7.holds Tryd.pinned (.plain (OpenSpec.ofChange inflateBeginsSpec)) inflateBeginsCard

/-- THE TIED CARD OF 'satchellaw06.InflateReaders'. -/
def inflateReadersCard : Claim7 := { stood := { row := inflateReadersRow, standIns := [], harness := (true, "ed6b5313f5b80d83e267f631c48ac12a75e7ca39eee5a589622313fc7bfc6d10"), looks := true }, kinds := [], alts := [], laidByText := true, laidKinds := [.widerDeep], laidTests := true, laidLooks := .later }
def InflateReadersCardSaid : Prop := Claim7.holds Tryd.pinned (.plain (OpenSpec.ofChange inflateReadersSpec)) inflateReadersCard

/-- THE TIED CARD OF 'satchellaw06.InflatePieces'. -/
def inflatePiecesCard : Claim7 := { stood := { row := inflatePiecesRow, standIns := [], harness := (true, "ed6b5313f5b80d83e267f631c48ac12a75e7ca39eee5a589622313fc7bfc6d10"), looks := true }, kinds := [], alts := [], laidByText := true, laidKinds := [.widerDeep], laidTests := true, laidLooks := .later }
def InflatePiecesCardSaid : Prop := Claim7.holds Tryd.pinned (.plain (OpenSpec.ofChange inflatePiecesSpec)) inflatePiecesCard

/-- THE SECOND FORM's CARD OF 'satchellaw06.InflateDecodes'. -/
def inflateDecodesUptoCard : Claim7 := { stood := { row := inflateDecodesUptoRow, standIns := [], harness := (true, "ed6b5313f5b80d83e267f631c48ac12a75e7ca39eee5a589622313fc7bfc6d10"), looks := true }, kinds := [], alts := [], laidByText := true, laidKinds := [.widerDeep], laidTests := true, laidLooks := .later }
def InflateDecodesUptoCardSaid : Prop := Claim7.holds Tryd.pinned (.plain (OpenSpec.upto inflateDecodesSpec)) inflateDecodesUptoCard

/-- THE SECOND FORM's CARD OF 'satchellaw06.InflateBounded'. -/
def inflateBoundedUptoCard : Claim7 := { stood := { row := inflateBoundedUptoRow, standIns := [], harness := (true, "ed6b5313f5b80d83e267f631c48ac12a75e7ca39eee5a589622313fc7bfc6d10"), looks := true }, kinds := [], alts := [], laidByText := true, laidKinds := [.widerDeep], laidTests := true, laidLooks := .later }
def InflateBoundedUptoCardSaid : Prop := Claim7.holds Tryd.pinned (.plain (OpenSpec.upto inflateBoundedSpec)) inflateBoundedUptoCard

/-- THE SECOND FORM's CARD OF 'satchellaw06.InflateStored'. -/
def inflateStoredUptoCard : Claim7 := { stood := { row := inflateStoredUptoRow, standIns := [], harness := (true, "ed6b5313f5b80d83e267f631c48ac12a75e7ca39eee5a589622313fc7bfc6d10"), looks := true }, kinds := [], alts := [], laidByText := true, laidKinds := [.widerDeep], laidTests := true, laidLooks := .later }
def InflateStoredUptoCardSaid : Prop := Claim7.holds Tryd.pinned (.plain (OpenSpec.upto inflateStoredSpec)) inflateStoredUptoCard

/-- THE SECOND FORM's CARD OF 'satchellaw06.InflateBegins'. -/
def inflateBeginsUptoCard : Claim7 := { stood := { row := inflateBeginsUptoRow, standIns := [], harness := (true, "ed6b5313f5b80d83e267f631c48ac12a75e7ca39eee5a589622313fc7bfc6d10"), looks := true }, kinds := [], alts := [], laidByText := true, laidKinds := [.widerDeep], laidTests := true, laidLooks := .later }
def InflateBeginsUptoCardSaid : Prop := Claim7.holds Tryd.pinned (.plain (OpenSpec.upto inflateBeginsSpec)) inflateBeginsUptoCard

/-- THE SECOND FORM's CARD OF 'satchellaw06.InflateReaders'. -/
def inflateReadersUptoCard : Claim7 := { stood := { row := inflateReadersUptoRow, standIns := [], harness := (true, "ed6b5313f5b80d83e267f631c48ac12a75e7ca39eee5a589622313fc7bfc6d10"), looks := true }, kinds := [], alts := [], laidByText := true, laidKinds := [.widerDeep], laidTests := true, laidLooks := .later }
def InflateReadersUptoCardSaid : Prop := Claim7.holds Tryd.pinned (.plain (OpenSpec.upto inflateReadersSpec)) inflateReadersUptoCard

/-- THE SECOND FORM's CARD OF 'satchellaw06.InflatePieces'. -/
def inflatePiecesUptoCard : Claim7 := { stood := { row := inflatePiecesUptoRow, standIns := [], harness := (true, "ed6b5313f5b80d83e267f631c48ac12a75e7ca39eee5a589622313fc7bfc6d10"), looks := true }, kinds := [], alts := [], laidByText := true, laidKinds := [.widerDeep], laidTests := true, laidLooks := .later }
def InflatePiecesUptoCardSaid : Prop := Claim7.holds Tryd.pinned (.plain (OpenSpec.upto inflatePiecesSpec)) inflatePiecesUptoCard
end Rows
end Go.Proofs.YtphojebganlbnaaDoor
