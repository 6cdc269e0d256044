/-
  NARROWER THAN 'FOR EVERY INPUT', by the rows' own cells (each row's printed sentence says how): ExtractClasses: laid.
  DERIVED. THE GIVEN ROWS OF THIS SEAT. 1 by the template 'for every input the law returns true; each argument reads behind the call as it read before'; 0 by the template 'total and deterministic' (their statements: YthdmpeghlkhncaaDoorTotals.lean).
  GIVEN WITH THE SEED: the statements are not yours to turn. If you find one false, say at which input.
  Laid BY PROGRAM, IN A SANDBOX (cutbox-rows.mjs): the forced cells as the released guide's own fill.sh prints them over the translation 76b059266ff70f0f… (all of the seat's roots in one cut). By AI agents, Wed Nov 11 2026. No macro, syntax, notation, axiom, sorry.
-/
import Derived.Test.YthdmpeghlkhncaaDoorChecked
import GoSem.Claim
import GoSem.ClaimJoined
import GoSem.ClaimMapViews
import Derived.JoinedTies
import Derived.KernelRfl
namespace Go.Proofs.YthdmpeghlkhncaaDoor
/- THE CELL 'sum', in the pinned program and in every row, IS THE sha256 OF THE DUMP (.gsa) THAT YthdmpeghlkhncaaDoorProg.lean LOADS. Nothing in Lean hashes anything: it is a label: what it is worth is what the hold of that sum in a sandbox is worth. -/
noncomputable def Tryd.pinned : Pinned := { name := "ythdmpeghlkhncaadoor", sum := "76b059266ff70f0f299999e3a1d63e3d5d6e6cfc3886e556c8b38d323aed7413", checked := Tryd.checked }
namespace Rows
def none {H : Type} : Left H := { results := [], args := [] }

/- WHAT THE LISTED PACKAGE-LEVEL VARIABLES READ AS WHEN THE CALL BEGINS. Each datum BY PROGRAM (the guide's laid-datum.mjs) off the statement by which the dump's own 'gosem.cut.vars' lays the variable. In a bare row this is a premise. The card (YthdmpeghlkhncaaDoorCards.lean) ties it to the program's text. -/
def laid_satchel_extract_classes {H : Type} : DataW H := .map [(.int .i64 200, .slice [.lit (.int .i64 4), .lit (.int .i64 2), .lit (.int .i64 120), .lit (.int .i64 121), .lit (.int .i64 130), .lit (.int .i64 131), .lit (.int .i64 132), .lit (.int .i64 140), .lit (.int .i64 141), .lit (.int .i64 142), .lit (.int .i64 160), .lit (.int .i64 161), .lit (.int .i64 3), .lit (.int .i64 192)] []), (.int .i64 201, .slice [.lit (.int .i64 90), .lit (.int .i64 91), .lit (.int .i64 92), .lit (.int .i64 93), .lit (.int .i64 94), .lit (.int .i64 95), .lit (.int .i64 190), .lit (.int .i64 107)] []), (.int .i64 202, .slice [.lit (.int .i64 103), .lit (.int .i64 110), .lit (.int .i64 111), .lit (.int .i64 112), .lit (.int .i64 114), .lit (.int .i64 104), .lit (.int .i64 106), .lit (.int .i64 191)] []), (.int .i64 203, .slice [.lit (.int .i64 180), .lit (.int .i64 181), .lit (.int .i64 182)] []), (.int .i64 204, .slice [.lit (.int .i64 193)] []), (.int .i64 205, .slice [.lit (.int .i64 105)] [])]

/-- 'satchellaw20.ExtractClasses': WHATEVER THE INPUT: true; the input reads as it did. -/
def extractClassesSpec : ChangeSpec := { name := "extractClasses", fn := fun _ => fun
  | [d] => { results := [.lit (.bool true)], args := [d] }
  | _ => none }
def extractClassesRow : OpenClaim := { program := "ythdmpeghlkhncaadoor", sum := "76b059266ff70f0f299999e3a1d63e3d5d6e6cfc3886e556c8b38d323aed7413", func := "satchel/satchellaw20.ExtractClasses", spec := "extractClasses", named := ["satchel/extract.classes"], apart := false, laid := [("satchel/extract.classes", laid_satchel_extract_classes)] }
def ExtractClassesSaid : Prop := extractClassesRow.holds Tryd.pinned (OpenSpec.ofChange extractClassesSpec)

/-- ITS FALSE NEIGHBOUR: 'it returns false'. Refute it at one input. -/
def extractClassesWrong : ChangeSpec := { name := "extractClasses", fn := fun _ => fun
  | [d] => { results := [.lit (.bool false)], args := [d] }
  | _ => none }
def ExtractClassesWrongFalsely : Prop := extractClassesRow.holds Tryd.pinned (OpenSpec.ofChange extractClassesWrong)

/- THE SECOND FORM. 'bulk': how many values and letters a reading holds, each counted each time it is reached (what is shared counts as often as it is met; a slice's spare places count too). A statement '..UptoSaid' is the law's where the arguments, and the package variables that the reading takes, are together of bulk at most 1048576: NARROWER than '..Said'. Prove '..Said' where nothing that the law and all that it calls make is longer than what came in: it says more and counts as full. Else prove '..UptoSaid'. A law counts once. -/
mutual
def uptoBulk {H : Type} : DataW H → Nat
  | .lit (.string bytes) => bytes.length + 1
  | .lit _ => 1
  | .nil => 1
  | .ptr d => uptoBulk d + 1
  | .slice elems spare => uptoBulkAll elems + uptoBulkAll spare + 1
  | .agg parts => uptoBulkAll parts + 1
  | .iface _ d => uptoBulk d + 1
  | .map entries => uptoBulkEntries entries + 1
  | .held _ => 1
def uptoBulkAll {H : Type} : List (DataW H) → Nat
  | [] => 0
  | d :: r => uptoBulk d + uptoBulkAll r
def uptoBulkEntries {H : Type} : List (Lit × DataW H) → Nat
  | [] => 0
  | x :: r => uptoBulkEntry x + uptoBulkEntries r
def uptoBulkEntry {H : Type} : Lit × DataW H → Nat
  | (.string bytes, d) => bytes.length + uptoBulk d + 1
  | (_, d) => uptoBulk d + 1
 end
def uptoSmall : (H : Type) → List (DataW H) → Bool := fun _ ds => decide (uptoBulkAll ds ≤ 1048576)
def OpenSpec.upto (s : _root_.Go.ChangeSpec) : _root_.Go.OpenSpec := { _root_.Go.OpenSpec.ofChange s with cond := some uptoSmall }

/-- 'satchellaw20.ExtractClasses', WHERE WHAT IT READS IS OF BULK AT MOST 1048576: true; the input reads as it did. -/
def extractClassesUptoRow : OpenClaim := { program := "ythdmpeghlkhncaadoor", sum := "76b059266ff70f0f299999e3a1d63e3d5d6e6cfc3886e556c8b38d323aed7413", func := "satchel/satchellaw20.ExtractClasses", spec := "extractClasses", named := ["satchel/extract.classes"], apart := false, laid := [("satchel/extract.classes", laid_satchel_extract_classes)], narrowed := true }
def ExtractClassesUptoSaid : Prop := extractClassesUptoRow.holds Tryd.pinned (OpenSpec.upto extractClassesSpec)

end Rows
end Go.Proofs.YthdmpeghlkhncaaDoor
