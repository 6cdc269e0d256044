/-
  DERIVED. GIVEN WITH THE SEED: THE CARDS: each row of YthflafgijfbpnaaDoorRows.lean that lists a variable, with what it lists TIED to the program's text (the seventh form; the later family's looks); each row that meets fmt, with fmt's text TOLD by the authors' own Lean function (tested against real Go, not proved from fmt's source: count such statements apart). THE CARD IS WHAT COUNTS. Prove the row's statement (the work); the ties are given (YthflafgijfbpnaaDoorTie.lean); close each card by the builder's one call (the guide's Derived/Test/ToyasCard.lean, 'card_holds'). Laid BY PROGRAM, IN A SANDBOX (cutbox-door.mjs). By AI agents, Wed Nov 11 2026. No macro, syntax, notation, axiom, sorry.
-/
import Derived.Test.YthflafgijfbpnaaDoorRows
import GoSem.ClaimSeven
namespace Go.Proofs.YthflafgijfbpnaaDoor
namespace Rows

/-- THE TIED CARD OF 'satchellaw15.SparseTexts'. -/
def sparseTextsCard : Claim7 := { stood := { row := sparseTextsRow, standIns := [], harness := (true, "2ecc5ffe7d49516ee2df4f09170e8a0a3496fb28248dc40d1e88fd6ee2f76374"), looks := false }, kinds := [], alts := [], laidByText := true, laidKinds := [.data, .data, .data], laidTests := true, laidLooks := .later }
def SparseTextsCardSaid : Prop := Claim7.holds Tryd.pinned (.plain (OpenSpec.ofChange sparseTextsSpec)) sparseTextsCard

/-- THE TIED CARD OF 'satchellaw15.SparseOlds'. -/
def sparseOldsCard : Claim7 := { stood := { row := sparseOldsRow, standIns := [], harness := (true, "2ecc5ffe7d49516ee2df4f09170e8a0a3496fb28248dc40d1e88fd6ee2f76374"), looks := false }, kinds := [], alts := [], laidByText := true, laidKinds := [.data, .data, .data, .data, .pinned], laidTests := true, laidLooks := .later }
def SparseOldsCardSaid : Prop := Claim7.holds Tryd.pinned (.plain (OpenSpec.ofChange sparseOldsSpec)) sparseOldsCard

/-- THE TIED CARD OF 'satchellaw15.SparseForms'. -/
def sparseFormsCard : Claim7 := { stood := { row := sparseFormsRow, standIns := [], harness := (true, "2ecc5ffe7d49516ee2df4f09170e8a0a3496fb28248dc40d1e88fd6ee2f76374"), looks := false }, kinds := [], alts := [], laidByText := true, laidKinds := [.data, .data, .data, .data, .pinned], laidTests := true, laidLooks := .later }
def SparseFormsCardSaid : Prop := Claim7.holds Tryd.pinned (.plain (OpenSpec.ofChange sparseFormsSpec)) sparseFormsCard

/-- THE SECOND FORM's CARD OF 'satchellaw15.SparseTexts'. -/
def sparseTextsUptoCard : Claim7 := { stood := { row := sparseTextsUptoRow, standIns := [], harness := (true, "2ecc5ffe7d49516ee2df4f09170e8a0a3496fb28248dc40d1e88fd6ee2f76374"), looks := false }, kinds := [], alts := [], laidByText := true, laidKinds := [.data, .data, .data], laidTests := true, laidLooks := .later }
def SparseTextsUptoCardSaid : Prop := Claim7.holds Tryd.pinned (.plain (OpenSpec.upto sparseTextsSpec)) sparseTextsUptoCard

/-- THE SECOND FORM's CARD OF 'satchellaw15.SparseOlds'. -/
def sparseOldsUptoCard : Claim7 := { stood := { row := sparseOldsUptoRow, standIns := [], harness := (true, "2ecc5ffe7d49516ee2df4f09170e8a0a3496fb28248dc40d1e88fd6ee2f76374"), looks := false }, kinds := [], alts := [], laidByText := true, laidKinds := [.data, .data, .data, .data, .pinned], laidTests := true, laidLooks := .later }
def SparseOldsUptoCardSaid : Prop := Claim7.holds Tryd.pinned (.plain (OpenSpec.upto sparseOldsSpec)) sparseOldsUptoCard

/-- THE SECOND FORM's CARD OF 'satchellaw15.SparseForms'. -/
def sparseFormsUptoCard : Claim7 := { stood := { row := sparseFormsUptoRow, standIns := [], harness := (true, "2ecc5ffe7d49516ee2df4f09170e8a0a3496fb28248dc40d1e88fd6ee2f76374"), looks := false }, kinds := [], alts := [], laidByText := true, laidKinds := [.data, .data, .data, .data, .pinned], laidTests := true, laidLooks := .later }
def SparseFormsUptoCardSaid : Prop := Claim7.holds Tryd.pinned (.plain (OpenSpec.upto sparseFormsSpec)) sparseFormsUptoCard
end Rows
end Go.Proofs.YthflafgijfbpnaaDoor
