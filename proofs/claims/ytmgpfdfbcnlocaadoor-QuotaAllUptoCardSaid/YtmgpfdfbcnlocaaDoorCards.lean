/-
  DERIVED. GIVEN WITH THE SEED: THE CARDS: each row of YtmgpfdfbcnlocaaDoorRows.lean that lists a variable, with what it lists TIED to the program's text (the seventh form; the later family's looks); each row that meets fmt, with fmt's text TOLD by the authors' own Lean function (tested against real Go, not proved from fmt's source: count such statements apart). THE CARD IS WHAT COUNTS. Prove the row's statement (the work); the ties are given (YtmgpfdfbcnlocaaDoorTie.lean); close each card by the builder's one call (the guide's Derived/Test/ToyasCard.lean, 'card_holds'). Laid BY PROGRAM, IN A SANDBOX (cutbox-door.mjs). By AI agents, Wed Nov 11 2026. No macro, syntax, notation, axiom, sorry.
-/
import Derived.Test.YtmgpfdfbcnlocaaDoorRows
import GoSem.ClaimSeven
namespace Go.Proofs.YtmgpfdfbcnlocaaDoor
namespace Rows

/-- THE TIED CARD OF 'satchellaw18.QuotaMany'. -/
def quotaManyCard : Claim7 := { stood := { row := quotaManyRow, standIns := [], harness := (true, "c8ba33eba80f0eb431f29a3a96798d01f3f6ba93bc63c4fb3e0fe74f3a0f7305"), looks := false }, kinds := [], alts := [], laidByText := true, laidKinds := [.data, .pinned], laidTests := true, laidLooks := .later }
def QuotaManyCardSaid : Prop := Claim7.holds Tryd.pinned (.plain (OpenSpec.ofChange quotaManySpec)) quotaManyCard

/-- THE TIED CARD OF 'satchellaw18.QuotaAlone'. -/
def quotaAloneCard : Claim7 := { stood := { row := quotaAloneRow, standIns := [], harness := (true, "c8ba33eba80f0eb431f29a3a96798d01f3f6ba93bc63c4fb3e0fe74f3a0f7305"), looks := false }, kinds := [], alts := [], laidByText := true, laidKinds := [.data, .pinned], laidTests := true, laidLooks := .later }
def QuotaAloneCardSaid : Prop := Claim7.holds Tryd.pinned (.plain (OpenSpec.ofChange quotaAloneSpec)) quotaAloneCard

/-- THE TIED CARD OF 'satchellaw18.QuotaOrder'. -/
def quotaOrderCard : Claim7 := { stood := { row := quotaOrderRow, standIns := [], harness := (true, "c8ba33eba80f0eb431f29a3a96798d01f3f6ba93bc63c4fb3e0fe74f3a0f7305"), looks := false }, kinds := [], alts := [], laidByText := true, laidKinds := [.data, .pinned], laidTests := true, laidLooks := .later }
def QuotaOrderCardSaid : Prop := Claim7.holds Tryd.pinned (.plain (OpenSpec.ofChange quotaOrderSpec)) quotaOrderCard

/-- THE TIED CARD OF 'satchellaw18.QuotaAll'. -/
def quotaAllCard : Claim7 := { stood := { row := quotaAllRow, standIns := [], harness := (true, "c8ba33eba80f0eb431f29a3a96798d01f3f6ba93bc63c4fb3e0fe74f3a0f7305"), looks := false }, kinds := [], alts := [], laidByText := true, laidKinds := [.data, .pinned], laidTests := true, laidLooks := .later }
def QuotaAllCardSaid : Prop := Claim7.holds Tryd.pinned (.plain (OpenSpec.ofChange quotaAllSpec)) quotaAllCard

/-- THE SECOND FORM's CARD OF 'satchellaw18.QuotaMany'. -/
def quotaManyUptoCard : Claim7 := { stood := { row := quotaManyUptoRow, standIns := [], harness := (true, "c8ba33eba80f0eb431f29a3a96798d01f3f6ba93bc63c4fb3e0fe74f3a0f7305"), looks := false }, kinds := [], alts := [], laidByText := true, laidKinds := [.data, .pinned], laidTests := true, laidLooks := .later }
def QuotaManyUptoCardSaid : Prop := Claim7.holds Tryd.pinned (.plain (OpenSpec.upto quotaManySpec)) quotaManyUptoCard

/-- THE SECOND FORM's CARD OF 'satchellaw18.QuotaAlone'. -/
def quotaAloneUptoCard : Claim7 := { stood := { row := quotaAloneUptoRow, standIns := [], harness := (true, "c8ba33eba80f0eb431f29a3a96798d01f3f6ba93bc63c4fb3e0fe74f3a0f7305"), looks := false }, kinds := [], alts := [], laidByText := true, laidKinds := [.data, .pinned], laidTests := true, laidLooks := .later }
def QuotaAloneUptoCardSaid : Prop := Claim7.holds Tryd.pinned (.plain (OpenSpec.upto quotaAloneSpec)) quotaAloneUptoCard

/-- THE SECOND FORM's CARD OF 'satchellaw18.QuotaOrder'. -/
def quotaOrderUptoCard : Claim7 := { stood := { row := quotaOrderUptoRow, standIns := [], harness := (true, "c8ba33eba80f0eb431f29a3a96798d01f3f6ba93bc63c4fb3e0fe74f3a0f7305"), looks := false }, kinds := [], alts := [], laidByText := true, laidKinds := [.data, .pinned], laidTests := true, laidLooks := .later }
def QuotaOrderUptoCardSaid : Prop := Claim7.holds Tryd.pinned (.plain (OpenSpec.upto quotaOrderSpec)) quotaOrderUptoCard

/-- THE SECOND FORM's CARD OF 'satchellaw18.QuotaAll'. -/
def quotaAllUptoCard : Claim7 := { stood := { row := quotaAllUptoRow, standIns := [], harness := (true, "c8ba33eba80f0eb431f29a3a96798d01f3f6ba93bc63c4fb3e0fe74f3a0f7305"), looks := false }, kinds := [], alts := [], laidByText := true, laidKinds := [.data, .pinned], laidTests := true, laidLooks := .later }
def QuotaAllUptoCardSaid : Prop := Claim7.holds Tryd.pinned (.plain (OpenSpec.upto quotaAllSpec)) quotaAllUptoCard
end Rows
end Go.Proofs.YtmgpfdfbcnlocaaDoor
