/-
  NARROWER THAN 'FOR EVERY INPUT', by the rows' own cells (each row's printed sentence says how): InflateDecodes: laid · InflateBounded: laid · InflateStored: laid · InflateBegins: laid · InflateReaders: laid · InflatePieces: laid.
  DERIVED. THE GIVEN ROWS OF THIS SEAT. 6 by the template 'for every input the law returns true; each argument reads behind the call as it read before'; 0 by the template 'total and deterministic' (their statements: YtphojebganlbnaaDoorTotals.lean).
  GIVEN WITH THE SEED: the statements are not yours to turn. If you find one false, say at which input.
  Laid BY PROGRAM, IN A SANDBOX (cutbox-rows.mjs): the forced cells as the released guide's own fill.sh prints them over the translation f9b5b14f5fa3890b… (all of the seat's roots in one cut). By AI agents, Wed Nov 11 2026. No macro, syntax, notation, axiom, sorry.
-/
import Derived.Test.YtphojebganlbnaaDoorChecked
import GoSem.Claim
import GoSem.ClaimJoined
import GoSem.ClaimMapViews
import Derived.JoinedTies
import Derived.KernelRfl
namespace Go.Proofs.YtphojebganlbnaaDoor
/- THE CELL 'sum', in the pinned program and in every row, IS THE sha256 OF THE DUMP (.gsa) THAT YtphojebganlbnaaDoorProg.lean LOADS. Nothing in Lean hashes anything: it is a label: what it is worth is what the hold of that sum in a sandbox is worth. -/
noncomputable def Tryd.pinned : Pinned := { name := "ytphojebganlbnaadoor", sum := "f9b5b14f5fa3890b5bce4d88a81de329ed7ea219e84964f357ab8c45701799cb", checked := Tryd.checked }
namespace Rows
def none {H : Type} : Left H := { results := [], args := [] }

/- WHAT THE LISTED PACKAGE-LEVEL VARIABLES READ AS WHEN THE CALL BEGINS. Each datum BY PROGRAM (the guide's laid-datum.mjs) off the statement by which the dump's own 'gosem.cut.vars' lays the variable. In a bare row this is a premise. The card (YtphojebganlbnaaDoorCards.lean) ties it to the program's text. -/
def laid_satchel_inflate_order {H : Type} : DataW H := .agg [.lit (.int .i64 16), .lit (.int .i64 17), .lit (.int .i64 18), .lit (.int .i64 0), .lit (.int .i64 8), .lit (.int .i64 7), .lit (.int .i64 9), .lit (.int .i64 6), .lit (.int .i64 10), .lit (.int .i64 5), .lit (.int .i64 11), .lit (.int .i64 4), .lit (.int .i64 12), .lit (.int .i64 3), .lit (.int .i64 13), .lit (.int .i64 2), .lit (.int .i64 14), .lit (.int .i64 1), .lit (.int .i64 15)]

/-- 'satchellaw06.InflateDecodes': WHATEVER THE INPUT: true; the input reads as it did. -/
def inflateDecodesSpec : ChangeSpec := { name := "inflateDecodes", fn := fun _ => fun
  | [d1, d2] => { results := [.lit (.bool true)], args := [d1, d2] }
  | _ => none }
def inflateDecodesRow : OpenClaim := { program := "ytphojebganlbnaadoor", sum := "f9b5b14f5fa3890b5bce4d88a81de329ed7ea219e84964f357ab8c45701799cb", func := "satchel/satchellaw06.InflateDecodes", spec := "inflateDecodes", unfollowed := true, recurses := true, named := ["satchel/inflate.order"], apart := false, laid := [("satchel/inflate.order", laid_satchel_inflate_order)] }
def InflateDecodesSaid : Prop := inflateDecodesRow.holds Tryd.pinned (OpenSpec.ofChange inflateDecodesSpec)

/-- ITS FALSE NEIGHBOUR: 'it returns false'. Refute it at one input. -/
def inflateDecodesWrong : ChangeSpec := { name := "inflateDecodes", fn := fun _ => fun
  | [d1, d2] => { results := [.lit (.bool false)], args := [d1, d2] }
  | _ => none }
def InflateDecodesWrongFalsely : Prop := inflateDecodesRow.holds Tryd.pinned (OpenSpec.ofChange inflateDecodesWrong)

/-- 'satchellaw06.InflateBounded': WHATEVER THE INPUT: true; the input reads as it did. -/
def inflateBoundedSpec : ChangeSpec := { name := "inflateBounded", fn := fun _ => fun
  | [d1, d2] => { results := [.lit (.bool true)], args := [d1, d2] }
  | _ => none }
def inflateBoundedRow : OpenClaim := { program := "ytphojebganlbnaadoor", sum := "f9b5b14f5fa3890b5bce4d88a81de329ed7ea219e84964f357ab8c45701799cb", func := "satchel/satchellaw06.InflateBounded", spec := "inflateBounded", unfollowed := true, recurses := true, named := ["satchel/inflate.order"], apart := false, laid := [("satchel/inflate.order", laid_satchel_inflate_order)] }
def InflateBoundedSaid : Prop := inflateBoundedRow.holds Tryd.pinned (OpenSpec.ofChange inflateBoundedSpec)

/-- ITS FALSE NEIGHBOUR: 'it returns false'. Refute it at one input. -/
def inflateBoundedWrong : ChangeSpec := { name := "inflateBounded", fn := fun _ => fun
  | [d1, d2] => { results := [.lit (.bool false)], args := [d1, d2] }
  | _ => none }
def InflateBoundedWrongFalsely : Prop := inflateBoundedRow.holds Tryd.pinned (OpenSpec.ofChange inflateBoundedWrong)

/-- 'satchellaw06.InflateStored': WHATEVER THE INPUT: true; the input reads as it did. -/
def inflateStoredSpec : ChangeSpec := { name := "inflateStored", fn := fun _ => fun
  | [d1, d2] => { results := [.lit (.bool true)], args := [d1, d2] }
  | _ => none }
def inflateStoredRow : OpenClaim := { program := "ytphojebganlbnaadoor", sum := "f9b5b14f5fa3890b5bce4d88a81de329ed7ea219e84964f357ab8c45701799cb", func := "satchel/satchellaw06.InflateStored", spec := "inflateStored", unfollowed := true, recurses := true, named := ["satchel/inflate.order"], apart := false, laid := [("satchel/inflate.order", laid_satchel_inflate_order)] }
def InflateStoredSaid : Prop := inflateStoredRow.holds Tryd.pinned (OpenSpec.ofChange inflateStoredSpec)

/-- ITS FALSE NEIGHBOUR: 'it returns false'. Refute it at one input. -/
def inflateStoredWrong : ChangeSpec := { name := "inflateStored", fn := fun _ => fun
  | [d1, d2] => { results := [.lit (.bool false)], args := [d1, d2] }
  | _ => none }
def InflateStoredWrongFalsely : Prop := inflateStoredRow.holds Tryd.pinned (OpenSpec.ofChange inflateStoredWrong)

/-- 'satchellaw06.InflateBegins': WHATEVER THE INPUT: true; the input reads as it did. -/
def inflateBeginsSpec : ChangeSpec := { name := "inflateBegins", fn := fun _ => fun
  | [d1, d2, d3] => { results := [.lit (.bool true)], args := [d1, d2, d3] }
  | _ => none }
def inflateBeginsRow : OpenClaim := { program := "ytphojebganlbnaadoor", sum := "f9b5b14f5fa3890b5bce4d88a81de329ed7ea219e84964f357ab8c45701799cb", func := "satchel/satchellaw06.InflateBegins", spec := "inflateBegins", unfollowed := true, recurses := true, named := ["satchel/inflate.order"], apart := false, laid := [("satchel/inflate.order", laid_satchel_inflate_order)] }
def InflateBeginsSaid : Prop := inflateBeginsRow.holds Tryd.pinned (OpenSpec.ofChange inflateBeginsSpec)

/-- ITS FALSE NEIGHBOUR: 'it returns false'. Refute it at one input. -/
def inflateBeginsWrong : ChangeSpec := { name := "inflateBegins", fn := fun _ => fun
  | [d1, d2, d3] => { results := [.lit (.bool false)], args := [d1, d2, d3] }
  | _ => none }
def InflateBeginsWrongFalsely : Prop := inflateBeginsRow.holds Tryd.pinned (OpenSpec.ofChange inflateBeginsWrong)

/-- 'satchellaw06.InflateReaders': WHATEVER THE INPUT: true; the input reads as it did. -/
def inflateReadersSpec : ChangeSpec := { name := "inflateReaders", fn := fun _ => fun
  | [d1, d2, d3] => { results := [.lit (.bool true)], args := [d1, d2, d3] }
  | _ => none }
def inflateReadersRow : OpenClaim := { program := "ytphojebganlbnaadoor", sum := "f9b5b14f5fa3890b5bce4d88a81de329ed7ea219e84964f357ab8c45701799cb", func := "satchel/satchellaw06.InflateReaders", spec := "inflateReaders", unfollowed := true, recurses := true, named := ["satchel/inflate.order"], apart := false, laid := [("satchel/inflate.order", laid_satchel_inflate_order)] }
def InflateReadersSaid : Prop := inflateReadersRow.holds Tryd.pinned (OpenSpec.ofChange inflateReadersSpec)

/-- ITS FALSE NEIGHBOUR: 'it returns false'. Refute it at one input. -/
def inflateReadersWrong : ChangeSpec := { name := "inflateReaders", fn := fun _ => fun
  | [d1, d2, d3] => { results := [.lit (.bool false)], args := [d1, d2, d3] }
  | _ => none }
def InflateReadersWrongFalsely : Prop := inflateReadersRow.holds Tryd.pinned (OpenSpec.ofChange inflateReadersWrong)

/-- 'satchellaw06.InflatePieces': WHATEVER THE INPUT: true; the input reads as it did. -/
def inflatePiecesSpec : ChangeSpec := { name := "inflatePieces", fn := fun _ => fun
  | [d1, d2, d3] => { results := [.lit (.bool true)], args := [d1, d2, d3] }
  | _ => none }
def inflatePiecesRow : OpenClaim := { program := "ytphojebganlbnaadoor", sum := "f9b5b14f5fa3890b5bce4d88a81de329ed7ea219e84964f357ab8c45701799cb", func := "satchel/satchellaw06.InflatePieces", spec := "inflatePieces", unfollowed := true, recurses := true, named := ["satchel/inflate.order"], apart := false, laid := [("satchel/inflate.order", laid_satchel_inflate_order)] }
def InflatePiecesSaid : Prop := inflatePiecesRow.holds Tryd.pinned (OpenSpec.ofChange inflatePiecesSpec)

/-- ITS FALSE NEIGHBOUR: 'it returns false'. Refute it at one input. -/
def inflatePiecesWrong : ChangeSpec := { name := "inflatePieces", fn := fun _ => fun
  | [d1, d2, d3] => { results := [.lit (.bool false)], args := [d1, d2, d3] }
  | _ => none }
def InflatePiecesWrongFalsely : Prop := inflatePiecesRow.holds Tryd.pinned (OpenSpec.ofChange inflatePiecesWrong)

/- THE SECOND FORM. 'bulk': how many values and letters a reading holds, each counted each time it is reached (what is shared counts as often as it is met; a slice's spare places count too). A statement '..UptoSaid' is the law's where the arguments, and the package variables that the reading takes, are together of bulk at most 1048576: NARROWER than '..Said'. Prove '..Said' where nothing that the law and all that it calls make is longer than what came in: it says more and counts as full. Else prove '..UptoSaid'. A law counts once. -/
mutual
def uptoBulk {H : Type} : DataW H → Nat
  | .lit (.string bytes) => bytes.length + 1
  | .lit _ => 1
  | .nil => 1
  | .ptr d => uptoBulk d + 1
  | .slice elems spare => uptoBulkAll elems + uptoBulkAll spare + 1
  | .agg parts => uptoBulkAll parts + 1
  | .iface _ d => uptoBulk d + 1
  | .map entries => uptoBulkEntries entries + 1
  | .held _ => 1
def uptoBulkAll {H : Type} : List (DataW H) → Nat
  | [] => 0
  | d :: r => uptoBulk d + uptoBulkAll r
def uptoBulkEntries {H : Type} : List (Lit × DataW H) → Nat
  | [] => 0
  | x :: r => uptoBulkEntry x + uptoBulkEntries r
def uptoBulkEntry {H : Type} : Lit × DataW H → Nat
  | (.string bytes, d) => bytes.length + uptoBulk d + 1
  | (_, d) => uptoBulk d + 1
 end
def uptoSmall : (H : Type) → List (DataW H) → Bool := fun _ ds => decide (uptoBulkAll ds ≤ 1048576)
def OpenSpec.upto (s : _root_.Go.ChangeSpec) : _root_.Go.OpenSpec := { _root_.Go.OpenSpec.ofChange s with cond := some uptoSmall }

/-- 'satchellaw06.InflateDecodes', WHERE WHAT IT READS IS OF BULK AT MOST 1048576: true; the input reads as it did. -/
def inflateDecodesUptoRow : OpenClaim := { program := "ytphojebganlbnaadoor", sum := "f9b5b14f5fa3890b5bce4d88a81de329ed7ea219e84964f357ab8c45701799cb", func := "satchel/satchellaw06.InflateDecodes", spec := "inflateDecodes", unfollowed := true, recurses := true, named := ["satchel/inflate.order"], apart := false, laid := [("satchel/inflate.order", laid_satchel_inflate_order)], narrowed := true }
def InflateDecodesUptoSaid : Prop := inflateDecodesUptoRow.holds Tryd.pinned (OpenSpec.upto inflateDecodesSpec)

/-- 'satchellaw06.InflateBounded', WHERE WHAT IT READS IS OF BULK AT MOST 1048576: true; the input reads as it did. -/
def inflateBoundedUptoRow : OpenClaim := { program := "ytphojebganlbnaadoor", sum := "f9b5b14f5fa3890b5bce4d88a81de329ed7ea219e84964f357ab8c45701799cb", func := "satchel/satchellaw06.InflateBounded", spec := "inflateBounded", unfollowed := true, recurses := true, named := ["satchel/inflate.order"], apart := false, laid := [("satchel/inflate.order", laid_satchel_inflate_order)], narrowed := true }
def InflateBoundedUptoSaid : Prop := inflateBoundedUptoRow.holds Tryd.pinned (OpenSpec.upto inflateBoundedSpec)

/-- 'satchellaw06.InflateStored', WHERE WHAT IT READS IS OF BULK AT MOST 1048576: true; the input reads as it did. -/
def inflateStoredUptoRow : OpenClaim := { program := "ytphojebganlbnaadoor", sum := "f9b5b14f5fa3890b5bce4d88a81de329ed7ea219e84964f357ab8c45701799cb", func := "satchel/satchellaw06.InflateStored", spec := "inflateStored", unfollowed := true, recurses := true, named := ["satchel/inflate.order"], apart := false, laid := [("satchel/inflate.order", laid_satchel_inflate_order)], narrowed := true }
def InflateStoredUptoSaid : Prop := inflateStoredUptoRow.holds Tryd.pinned (OpenSpec.upto inflateStoredSpec)

/-- 'satchellaw06.InflateBegins', WHERE WHAT IT READS IS OF BULK AT MOST 1048576: true; the input reads as it did. -/
def inflateBeginsUptoRow : OpenClaim := { program := "ytphojebganlbnaadoor", sum := "f9b5b14f5fa3890b5bce4d88a81de329ed7ea219e84964f357ab8c45701799cb", func := "satchel/satchellaw06.InflateBegins", spec := "inflateBegins", unfollowed := true, recurses := true, named := ["satchel/inflate.order"], apart := false, laid := [("satchel/inflate.order", laid_satchel_inflate_order)], narrowed := true }
def InflateBeginsUptoSaid : Prop := inflateBeginsUptoRow.holds Tryd.pinned (OpenSpec.upto inflateBeginsSpec)

/-- 'satchellaw06.InflateReaders', WHERE WHAT IT READS IS OF BULK AT MOST 1048576: true; the input reads as it did. -/
def inflateReadersUptoRow : OpenClaim := { program := "ytphojebganlbnaadoor", sum := "f9b5b14f5fa3890b5bce4d88a81de329ed7ea219e84964f357ab8c45701799cb", func := "satchel/satchellaw06.InflateReaders", spec := "inflateReaders", unfollowed := true, recurses := true, named := ["satchel/inflate.order"], apart := false, laid := [("satchel/inflate.order", laid_satchel_inflate_order)], narrowed := true }
def InflateReadersUptoSaid : Prop := inflateReadersUptoRow.holds Tryd.pinned (OpenSpec.upto inflateReadersSpec)

/-- 'satchellaw06.InflatePieces', WHERE WHAT IT READS IS OF BULK AT MOST 1048576: true; the input reads as it did. -/
def inflatePiecesUptoRow : OpenClaim := { program := "ytphojebganlbnaadoor", sum := "f9b5b14f5fa3890b5bce4d88a81de329ed7ea219e84964f357ab8c45701799cb", func := "satchel/satchellaw06.InflatePieces", spec := "inflatePieces", unfollowed := true, recurses := true, named := ["satchel/inflate.order"], apart := false, laid := [("satchel/inflate.order", laid_satchel_inflate_order)], narrowed := true }
def InflatePiecesUptoSaid : Prop := inflatePiecesUptoRow.holds Tryd.pinned (OpenSpec.upto inflatePiecesSpec)

end Rows
end Go.Proofs.YtphojebganlbnaaDoor
