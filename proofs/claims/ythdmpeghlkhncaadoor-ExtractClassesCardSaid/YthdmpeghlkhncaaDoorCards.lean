/-
  DERIVED. GIVEN WITH THE SEED: THE CARDS: each row of YthdmpeghlkhncaaDoorRows.lean that lists a variable, with what it lists TIED to the program's text (the seventh form; the later family's looks); each row that meets fmt, with fmt's text TOLD by the authors' own Lean function (tested against real Go, not proved from fmt's source: count such statements apart). THE CARD IS WHAT COUNTS. Prove the row's statement (the work); the ties are given (YthdmpeghlkhncaaDoorTie.lean); close each card by the builder's one call (the guide's Derived/Test/ToyasCard.lean, 'card_holds'). Laid BY PROGRAM, IN A SANDBOX (cutbox-door.mjs). By AI agents, Wed Nov 11 2026. No macro, syntax, notation, axiom, sorry.
-/
import Derived.Test.YthdmpeghlkhncaaDoorRows
import GoSem.ClaimSeven
namespace Go.Proofs.YthdmpeghlkhncaaDoor
namespace Rows

/-- THE TIED CARD OF 'satchellaw20.ExtractClasses'. -/
def extractClassesCard : Claim7 := { stood := { row := extractClassesRow, standIns := [], harness := (true, "691a1ccbc3b5ba92dcd3b496f0640abcf214a2e595082650ef4a9f01cd110973"), looks := false }, kinds := [], alts := [], laidByText := true, laidKinds := [.mappedDeep], laidTests := true, laidLooks := .later }
def ExtractClassesCardSaid : Prop := Claim7.holds Tryd.pinned (.plain (OpenSpec.ofChange extractClassesSpec)) extractClassesCard

/-- THE SECOND FORM's CARD OF 'satchellaw20.ExtractClasses'. -/
def extractClassesUptoCard : Claim7 := { stood := { row := extractClassesUptoRow, standIns := [], harness := (true, "691a1ccbc3b5ba92dcd3b496f0640abcf214a2e595082650ef4a9f01cd110973"), looks := false }, kinds := [], alts := [], laidByText := true, laidKinds := [.mappedDeep], laidTests := true, laidLooks := .later }
def ExtractClassesUptoCardSaid : Prop := Claim7.holds Tryd.pinned (.plain (OpenSpec.upto extractClassesSpec)) extractClassesUptoCard
end Rows
end Go.Proofs.YthdmpeghlkhncaaDoor
