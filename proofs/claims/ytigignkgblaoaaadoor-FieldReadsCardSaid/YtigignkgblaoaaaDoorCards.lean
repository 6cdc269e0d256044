/-
  DERIVED. GIVEN WITH THE SEED: THE CARDS: each row of YtigignkgblaoaaaDoorRows.lean that lists a variable, with what it lists TIED to the program's text (the seventh form; the later family's looks); each row that meets fmt, with fmt's text TOLD by the authors' own Lean function (tested against real Go, not proved from fmt's source: count such statements apart). THE CARD IS WHAT COUNTS. Prove the row's statement (the work); the ties are given (YtigignkgblaoaaaDoorTie.lean); close each card by the builder's one call (the guide's Derived/Test/ToyasCard.lean, 'card_holds'). Laid BY PROGRAM, IN A SANDBOX (cutbox-door.mjs). By AI agents, Wed Nov 11 2026. No macro, syntax, notation, axiom, sorry.
-/
import Derived.Test.YtigignkgblaoaaaDoorRows
import GoSem.ClaimSeven
namespace Go.Proofs.YtigignkgblaoaaaDoor
namespace Rows

/-- THE TIED CARD OF 'satchellaw12.FieldReads'. -/
def fieldReadsCard : Claim7 := { stood := { row := fieldReadsRow, standIns := [], harness := (true, "5a0352cd9fd52df58034b76e1c98cd3573b502aea280e829d54f6ef85b49b6b0"), looks := false }, kinds := [], alts := [], laidByText := true, laidKinds := [.data, .pinned], laidTests := true, laidLooks := .later }
def FieldReadsCardSaid : Prop := Claim7.holds Tryd.pinned (.plain (OpenSpec.ofChange fieldReadsSpec)) fieldReadsCard

/-- THE TIED CARD OF 'satchellaw12.FieldPuts'. -/
def fieldPutsCard : Claim7 := { stood := { row := fieldPutsRow, standIns := [], harness := (true, "5a0352cd9fd52df58034b76e1c98cd3573b502aea280e829d54f6ef85b49b6b0"), looks := false }, kinds := [], alts := [], laidByText := true, laidKinds := [.data, .data, .data], laidTests := true, laidLooks := .later }
def FieldPutsCardSaid : Prop := Claim7.holds Tryd.pinned (.plain (OpenSpec.ofChange fieldPutsSpec)) fieldPutsCard

/-- THE TIED CARD OF 'satchellaw12.FieldRecords'. -/
def fieldRecordsCard : Claim7 := { stood := { row := fieldRecordsRow, standIns := [], harness := (true, "5a0352cd9fd52df58034b76e1c98cd3573b502aea280e829d54f6ef85b49b6b0"), looks := false }, kinds := [], alts := [], laidByText := true, laidKinds := [.data, .data, .data, .data, .pinned], laidTests := true, laidLooks := .later }
def FieldRecordsCardSaid : Prop := Claim7.holds Tryd.pinned (.plain (OpenSpec.ofChange fieldRecordsSpec)) fieldRecordsCard

/-- THE TIED CARD OF 'satchellaw12.FieldForm'. -/
def fieldFormCard : Claim7 := { stood := { row := fieldFormRow, standIns := [], harness := (true, "5a0352cd9fd52df58034b76e1c98cd3573b502aea280e829d54f6ef85b49b6b0"), looks := false }, kinds := [], alts := [], laidByText := true, laidKinds := [.data, .data, .data, .data, .pinned], laidTests := true, laidLooks := .later }
def FieldFormCardSaid : Prop := Claim7.holds Tryd.pinned (.plain (OpenSpec.ofChange fieldFormSpec)) fieldFormCard

/-- THE TIED CARD OF 'satchellaw12.FieldRise'. -/
def fieldRiseCard : Claim7 := { stood := { row := fieldRiseRow, standIns := [], harness := (true, "5a0352cd9fd52df58034b76e1c98cd3573b502aea280e829d54f6ef85b49b6b0"), looks := false }, kinds := [], alts := [], laidByText := true, laidKinds := [.data, .data, .data, .data, .pinned], laidTests := true, laidLooks := .later }
def FieldRiseCardSaid : Prop := Claim7.holds Tryd.pinned (.plain (OpenSpec.ofChange fieldRiseSpec)) fieldRiseCard

/-- THE TIED CARD OF 'satchellaw12.FieldSum'. -/
def fieldSumCard : Claim7 := { stood := { row := fieldSumRow, standIns := [], harness := (true, "5a0352cd9fd52df58034b76e1c98cd3573b502aea280e829d54f6ef85b49b6b0"), looks := false }, kinds := [], alts := [], laidByText := true, laidKinds := [.data, .data, .data, .data, .pinned], laidTests := true, laidLooks := .later }
def FieldSumCardSaid : Prop := Claim7.holds Tryd.pinned (.plain (OpenSpec.ofChange fieldSumSpec)) fieldSumCard

/-- THE TIED CARD OF 'satchellaw12.FieldBack'. -/
def fieldBackCard : Claim7 := { stood := { row := fieldBackRow, standIns := [], harness := (true, "5a0352cd9fd52df58034b76e1c98cd3573b502aea280e829d54f6ef85b49b6b0"), looks := false }, kinds := [], alts := [], laidByText := true, laidKinds := [.data, .data, .data, .data, .pinned], laidTests := true, laidLooks := .later }
def FieldBackCardSaid : Prop := Claim7.holds Tryd.pinned (.plain (OpenSpec.ofChange fieldBackSpec)) fieldBackCard

/-- THE SECOND FORM's CARD OF 'satchellaw12.FieldReads'. -/
def fieldReadsUptoCard : Claim7 := { stood := { row := fieldReadsUptoRow, standIns := [], harness := (true, "5a0352cd9fd52df58034b76e1c98cd3573b502aea280e829d54f6ef85b49b6b0"), looks := false }, kinds := [], alts := [], laidByText := true, laidKinds := [.data, .pinned], laidTests := true, laidLooks := .later }
def FieldReadsUptoCardSaid : Prop := Claim7.holds Tryd.pinned (.plain (OpenSpec.upto fieldReadsSpec)) fieldReadsUptoCard

/-- THE SECOND FORM's CARD OF 'satchellaw12.FieldPuts'. -/
def fieldPutsUptoCard : Claim7 := { stood := { row := fieldPutsUptoRow, standIns := [], harness := (true, "5a0352cd9fd52df58034b76e1c98cd3573b502aea280e829d54f6ef85b49b6b0"), looks := false }, kinds := [], alts := [], laidByText := true, laidKinds := [.data, .data, .data], laidTests := true, laidLooks := .later }
def FieldPutsUptoCardSaid : Prop := Claim7.holds Tryd.pinned (.plain (OpenSpec.upto fieldPutsSpec)) fieldPutsUptoCard

/-- THE SECOND FORM's CARD OF 'satchellaw12.FieldRecords'. -/
def fieldRecordsUptoCard : Claim7 := { stood := { row := fieldRecordsUptoRow, standIns := [], harness := (true, "5a0352cd9fd52df58034b76e1c98cd3573b502aea280e829d54f6ef85b49b6b0"), looks := false }, kinds := [], alts := [], laidByText := true, laidKinds := [.data, .data, .data, .data, .pinned], laidTests := true, laidLooks := .later }
def FieldRecordsUptoCardSaid : Prop := Claim7.holds Tryd.pinned (.plain (OpenSpec.upto fieldRecordsSpec)) fieldRecordsUptoCard

/-- THE SECOND FORM's CARD OF 'satchellaw12.FieldForm'. -/
def fieldFormUptoCard : Claim7 := { stood := { row := fieldFormUptoRow, standIns := [], harness := (true, "5a0352cd9fd52df58034b76e1c98cd3573b502aea280e829d54f6ef85b49b6b0"), looks := false }, kinds := [], alts := [], laidByText := true, laidKinds := [.data, .data, .data, .data, .pinned], laidTests := true, laidLooks := .later }
def FieldFormUptoCardSaid : Prop := Claim7.holds Tryd.pinned (.plain (OpenSpec.upto fieldFormSpec)) fieldFormUptoCard

/-- THE SECOND FORM's CARD OF 'satchellaw12.FieldRise'. -/
def fieldRiseUptoCard : Claim7 := { stood := { row := fieldRiseUptoRow, standIns := [], harness := (true, "5a0352cd9fd52df58034b76e1c98cd3573b502aea280e829d54f6ef85b49b6b0"), looks := false }, kinds := [], alts := [], laidByText := true, laidKinds := [.data, .data, .data, .data, .pinned], laidTests := true, laidLooks := .later }
def FieldRiseUptoCardSaid : Prop := Claim7.holds Tryd.pinned (.plain (OpenSpec.upto fieldRiseSpec)) fieldRiseUptoCard

/-- THE SECOND FORM's CARD OF 'satchellaw12.FieldSum'. -/
def fieldSumUptoCard : Claim7 := { stood := { row := fieldSumUptoRow, standIns := [], harness := (true, "5a0352cd9fd52df58034b76e1c98cd3573b502aea280e829d54f6ef85b49b6b0"), looks := false }, kinds := [], alts := [], laidByText := true, laidKinds := [.data, .data, .data, .data, .pinned], laidTests := true, laidLooks := .later }
def FieldSumUptoCardSaid : Prop := Claim7.holds Tryd.pinned (.plain (OpenSpec.upto fieldSumSpec)) fieldSumUptoCard

/-- THE SECOND FORM's CARD OF 'satchellaw12.FieldBack'. -/
def fieldBackUptoCard : Claim7 := { stood := { row := fieldBackUptoRow, standIns := [], harness := (true, "5a0352cd9fd52df58034b76e1c98cd3573b502aea280e829d54f6ef85b49b6b0"), looks := false }, kinds := [], alts := [], laidByText := true, laidKinds := [.data, .data, .data, .data, .pinned], laidTests := true, laidLooks := .later }
def FieldBackUptoCardSaid : Prop := Claim7.holds Tryd.pinned (.plain (OpenSpec.upto fieldBackSpec)) fieldBackUptoCard
end Rows
end Go.Proofs.YtigignkgblaoaaaDoor
