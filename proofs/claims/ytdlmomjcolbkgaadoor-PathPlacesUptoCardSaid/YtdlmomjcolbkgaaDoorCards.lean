/-
  DERIVED. GIVEN WITH THE SEED: THE CARDS: each row of YtdlmomjcolbkgaaDoorRows.lean that lists a variable, with what it lists TIED to the program's text (the seventh form; the later family's looks); each row that meets fmt, with fmt's text TOLD by the authors' own Lean function (tested against real Go, not proved from fmt's source: count such statements apart). THE CARD IS WHAT COUNTS. Prove the row's statement (the work); the ties are given (YtdlmomjcolbkgaaDoorTie.lean); close each card by the builder's one call (the guide's Derived/Test/ToyasCard.lean, 'card_holds'). Laid BY PROGRAM, IN A SANDBOX (cutbox-door.mjs). By AI agents, Wed Nov 11 2026. No macro, syntax, notation, axiom, sorry.
-/
import Derived.Test.YtdlmomjcolbkgaaDoorRows
import GoSem.ClaimSeven
namespace Go.Proofs.YtdlmomjcolbkgaaDoor
namespace Rows

/-- THE TIED CARD OF 'satchellaw09.PathLeaves'. -/
def pathLeavesCard : Claim7 := { stood := { row := pathLeavesRow, standIns := [], harness := (true, "f074bea152ea58d69b131d510ce5e312ce9fb7fb1daa88318ab575e053b0a0c0"), looks := false }, kinds := [], alts := [], laidByText := true, laidKinds := [.data, .pinned], laidTests := true, laidLooks := .later }
def PathLeavesCardSaid : Prop := Claim7.holds Tryd.pinned (.plain (OpenSpec.ofChange pathLeavesSpec)) pathLeavesCard

/-- THE TIED CARD OF 'satchellaw09.PathNames'. -/
def pathNamesCard : Claim7 := { stood := { row := pathNamesRow, standIns := [], harness := (true, "f074bea152ea58d69b131d510ce5e312ce9fb7fb1daa88318ab575e053b0a0c0"), looks := false }, kinds := [], alts := [], laidByText := true, laidKinds := [.data, .pinned], laidTests := true, laidLooks := .later }
def PathNamesCardSaid : Prop := Claim7.holds Tryd.pinned (.plain (OpenSpec.ofChange pathNamesSpec)) pathNamesCard

/-- THE TIED CARD OF 'satchellaw09.PathForm'. -/
def pathFormCard : Claim7 := { stood := { row := pathFormRow, standIns := [], harness := (true, "f074bea152ea58d69b131d510ce5e312ce9fb7fb1daa88318ab575e053b0a0c0"), looks := false }, kinds := [], alts := [], laidByText := true, laidKinds := [.data, .pinned], laidTests := true, laidLooks := .later }
def PathFormCardSaid : Prop := Claim7.holds Tryd.pinned (.plain (OpenSpec.ofChange pathFormSpec)) pathFormCard

/-- THE TIED CARD OF 'satchellaw09.PathSafe'. -/
def pathSafeCard : Claim7 := { stood := { row := pathSafeRow, standIns := [], harness := (true, "f074bea152ea58d69b131d510ce5e312ce9fb7fb1daa88318ab575e053b0a0c0"), looks := false }, kinds := [], alts := [], laidByText := true, laidKinds := [.data, .pinned], laidTests := true, laidLooks := .later }
def PathSafeCardSaid : Prop := Claim7.holds Tryd.pinned (.plain (OpenSpec.ofChange pathSafeSpec)) pathSafeCard

/-- THE TIED CARD OF 'satchellaw09.PathPlaces'. -/
def pathPlacesCard : Claim7 := { stood := { row := pathPlacesRow, standIns := [], harness := (true, "f074bea152ea58d69b131d510ce5e312ce9fb7fb1daa88318ab575e053b0a0c0"), looks := false }, kinds := [], alts := [], laidByText := true, laidKinds := [.data, .pinned], laidTests := true, laidLooks := .later }
def PathPlacesCardSaid : Prop := Claim7.holds Tryd.pinned (.plain (OpenSpec.ofChange pathPlacesSpec)) pathPlacesCard

/-- THE SECOND FORM's CARD OF 'satchellaw09.PathLeaves'. -/
def pathLeavesUptoCard : Claim7 := { stood := { row := pathLeavesUptoRow, standIns := [], harness := (true, "f074bea152ea58d69b131d510ce5e312ce9fb7fb1daa88318ab575e053b0a0c0"), looks := false }, kinds := [], alts := [], laidByText := true, laidKinds := [.data, .pinned], laidTests := true, laidLooks := .later }
def PathLeavesUptoCardSaid : Prop := Claim7.holds Tryd.pinned (.plain (OpenSpec.upto pathLeavesSpec)) pathLeavesUptoCard

/-- THE SECOND FORM's CARD OF 'satchellaw09.PathNames'. -/
def pathNamesUptoCard : Claim7 := { stood := { row := pathNamesUptoRow, standIns := [], harness := (true, "f074bea152ea58d69b131d510ce5e312ce9fb7fb1daa88318ab575e053b0a0c0"), looks := false }, kinds := [], alts := [], laidByText := true, laidKinds := [.data, .pinned], laidTests := true, laidLooks := .later }
def PathNamesUptoCardSaid : Prop := Claim7.holds Tryd.pinned (.plain (OpenSpec.upto pathNamesSpec)) pathNamesUptoCard

/-- THE SECOND FORM's CARD OF 'satchellaw09.PathForm'. -/
def pathFormUptoCard : Claim7 := { stood := { row := pathFormUptoRow, standIns := [], harness := (true, "f074bea152ea58d69b131d510ce5e312ce9fb7fb1daa88318ab575e053b0a0c0"), looks := false }, kinds := [], alts := [], laidByText := true, laidKinds := [.data, .pinned], laidTests := true, laidLooks := .later }
def PathFormUptoCardSaid : Prop := Claim7.holds Tryd.pinned (.plain (OpenSpec.upto pathFormSpec)) pathFormUptoCard

/-- THE SECOND FORM's CARD OF 'satchellaw09.PathSafe'. -/
def pathSafeUptoCard : Claim7 := { stood := { row := pathSafeUptoRow, standIns := [], harness := (true, "f074bea152ea58d69b131d510ce5e312ce9fb7fb1daa88318ab575e053b0a0c0"), looks := false }, kinds := [], alts := [], laidByText := true, laidKinds := [.data, .pinned], laidTests := true, laidLooks := .later }
def PathSafeUptoCardSaid : Prop := Claim7.holds Tryd.pinned (.plain (OpenSpec.upto pathSafeSpec)) pathSafeUptoCard

/-- THE SECOND FORM's CARD OF 'satchellaw09.PathPlaces'. -/
def pathPlacesUptoCard : Claim7 := { stood := { row := pathPlacesUptoRow, standIns := [], harness := (true, "f074bea152ea58d69b131d510ce5e312ce9fb7fb1daa88318ab575e053b0a0c0"), looks := false }, kinds := [], alts := [], laidByText := true, laidKinds := [.data, .pinned], laidTests := true, laidLooks := .later }
def PathPlacesUptoCardSaid : Prop := Claim7.holds Tryd.pinned (.plain (OpenSpec.upto pathPlacesSpec)) pathPlacesUptoCard
end Rows
end Go.Proofs.YtdlmomjcolbkgaaDoor
