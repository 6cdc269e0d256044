/-
  No cell of these rows narrows 'for every input' (looked for: loops, veiled, ifaces, maps, wideKeys, modest, calm, conditions, laid).
  DERIVED. THE GIVEN ROWS OF THIS SEAT. 7 by the template 'for every input the law returns true; each argument reads behind the call as it read before'; 0 by the template 'total and deterministic' (their statements: YtfdcolicpfellaaTotals.lean).
  GIVEN WITH THE SEED: the statements are not yours to turn. If you find one false, say at which input.
  Laid BY PROGRAM, IN A SANDBOX (cutbox-rows.mjs): the forced cells as the released guide's own fill.sh prints them over the translation b4f107ebdf3b6f8a… (all of the seat's roots in one cut). By AI agents, Wed Nov 11 2026. No macro, syntax, notation, axiom, sorry.
-/
import Derived.Test.YtfdcolicpfellaaChecked
import GoSem.Claim
import GoSem.ClaimJoined
import GoSem.ClaimMapViews
import Derived.JoinedTies
import Derived.KernelRfl
namespace Go.Proofs.Ytfdcolicpfellaa
/- THE CELL 'sum', in the pinned program and in every row, IS THE sha256 OF THE DUMP (.gsa) THAT YtfdcolicpfellaaProg.lean LOADS. Nothing in Lean hashes anything: it is a label: what it is worth is what the hold of that sum in a sandbox is worth. -/
noncomputable def Try.pinned : Pinned := { name := "ytfdcolicpfellaa", sum := "b4f107ebdf3b6f8aea096f259888ad623e1659d6bf20facd564eebfc49ad295f", checked := Try.checked }
namespace Rows
def none {H : Type} : Left H := { results := [], args := [] }

/-- 'satchellaw05.BitsWrites': WHATEVER THE INPUT: true; the input reads as it did. -/
def bitsWritesSpec : ChangeSpec := { name := "bitsWrites", fn := fun _ => fun
  | [d] => { results := [.lit (.bool true)], args := [d] }
  | _ => none }
def bitsWritesRow : OpenClaim := { program := "ytfdcolicpfellaa", sum := "b4f107ebdf3b6f8aea096f259888ad623e1659d6bf20facd564eebfc49ad295f", func := "satchel/satchellaw05.BitsWrites", spec := "bitsWrites", apart := false }
def BitsWritesSaid : Prop := bitsWritesRow.holds Try.pinned (OpenSpec.ofChange bitsWritesSpec)

/-- ITS FALSE NEIGHBOUR: 'it returns false'. Refute it at one input. -/
def bitsWritesWrong : ChangeSpec := { name := "bitsWrites", fn := fun _ => fun
  | [d] => { results := [.lit (.bool false)], args := [d] }
  | _ => none }
def BitsWritesWrongFalsely : Prop := bitsWritesRow.holds Try.pinned (OpenSpec.ofChange bitsWritesWrong)

/-- 'satchellaw05.BitsReads': WHATEVER THE INPUT: true; the input reads as it did. -/
def bitsReadsSpec : ChangeSpec := { name := "bitsReads", fn := fun _ => fun
  | [d1, d2] => { results := [.lit (.bool true)], args := [d1, d2] }
  | _ => none }
def bitsReadsRow : OpenClaim := { program := "ytfdcolicpfellaa", sum := "b4f107ebdf3b6f8aea096f259888ad623e1659d6bf20facd564eebfc49ad295f", func := "satchel/satchellaw05.BitsReads", spec := "bitsReads", apart := false }
def BitsReadsSaid : Prop := bitsReadsRow.holds Try.pinned (OpenSpec.ofChange bitsReadsSpec)

/-- ITS FALSE NEIGHBOUR: 'it returns false'. Refute it at one input. -/
def bitsReadsWrong : ChangeSpec := { name := "bitsReads", fn := fun _ => fun
  | [d1, d2] => { results := [.lit (.bool false)], args := [d1, d2] }
  | _ => none }
def BitsReadsWrongFalsely : Prop := bitsReadsRow.holds Try.pinned (OpenSpec.ofChange bitsReadsWrong)

/-- 'satchellaw05.BitsBack': WHATEVER THE INPUT: true; the input reads as it did. -/
def bitsBackSpec : ChangeSpec := { name := "bitsBack", fn := fun _ => fun
  | [d] => { results := [.lit (.bool true)], args := [d] }
  | _ => none }
def bitsBackRow : OpenClaim := { program := "ytfdcolicpfellaa", sum := "b4f107ebdf3b6f8aea096f259888ad623e1659d6bf20facd564eebfc49ad295f", func := "satchel/satchellaw05.BitsBack", spec := "bitsBack", apart := false }
def BitsBackSaid : Prop := bitsBackRow.holds Try.pinned (OpenSpec.ofChange bitsBackSpec)

/-- ITS FALSE NEIGHBOUR: 'it returns false'. Refute it at one input. -/
def bitsBackWrong : ChangeSpec := { name := "bitsBack", fn := fun _ => fun
  | [d] => { results := [.lit (.bool false)], args := [d] }
  | _ => none }
def BitsBackWrongFalsely : Prop := bitsBackRow.holds Try.pinned (OpenSpec.ofChange bitsBackWrong)

/-- 'satchellaw05.BitsCodes': WHATEVER THE INPUT: true; the input reads as it did. -/
def bitsCodesSpec : ChangeSpec := { name := "bitsCodes", fn := fun _ => fun
  | [d1, d2, d3] => { results := [.lit (.bool true)], args := [d1, d2, d3] }
  | _ => none }
def bitsCodesRow : OpenClaim := { program := "ytfdcolicpfellaa", sum := "b4f107ebdf3b6f8aea096f259888ad623e1659d6bf20facd564eebfc49ad295f", func := "satchel/satchellaw05.BitsCodes", spec := "bitsCodes", apart := false }
def BitsCodesSaid : Prop := bitsCodesRow.holds Try.pinned (OpenSpec.ofChange bitsCodesSpec)

/-- ITS FALSE NEIGHBOUR: 'it returns false'. Refute it at one input. -/
def bitsCodesWrong : ChangeSpec := { name := "bitsCodes", fn := fun _ => fun
  | [d1, d2, d3] => { results := [.lit (.bool false)], args := [d1, d2, d3] }
  | _ => none }
def BitsCodesWrongFalsely : Prop := bitsCodesRow.holds Try.pinned (OpenSpec.ofChange bitsCodesWrong)

/-- 'satchellaw05.BitsKraft': WHATEVER THE INPUT: true; the input reads as it did. -/
def bitsKraftSpec : ChangeSpec := { name := "bitsKraft", fn := fun _ => fun
  | [d1, d2] => { results := [.lit (.bool true)], args := [d1, d2] }
  | _ => none }
def bitsKraftRow : OpenClaim := { program := "ytfdcolicpfellaa", sum := "b4f107ebdf3b6f8aea096f259888ad623e1659d6bf20facd564eebfc49ad295f", func := "satchel/satchellaw05.BitsKraft", spec := "bitsKraft", apart := false }
def BitsKraftSaid : Prop := bitsKraftRow.holds Try.pinned (OpenSpec.ofChange bitsKraftSpec)

/-- ITS FALSE NEIGHBOUR: 'it returns false'. Refute it at one input. -/
def bitsKraftWrong : ChangeSpec := { name := "bitsKraft", fn := fun _ => fun
  | [d1, d2] => { results := [.lit (.bool false)], args := [d1, d2] }
  | _ => none }
def BitsKraftWrongFalsely : Prop := bitsKraftRow.holds Try.pinned (OpenSpec.ofChange bitsKraftWrong)

/-- 'satchellaw05.BitsPrefix': WHATEVER THE INPUT: true; the input reads as it did. -/
def bitsPrefixSpec : ChangeSpec := { name := "bitsPrefix", fn := fun _ => fun
  | [d1, d2] => { results := [.lit (.bool true)], args := [d1, d2] }
  | _ => none }
def bitsPrefixRow : OpenClaim := { program := "ytfdcolicpfellaa", sum := "b4f107ebdf3b6f8aea096f259888ad623e1659d6bf20facd564eebfc49ad295f", func := "satchel/satchellaw05.BitsPrefix", spec := "bitsPrefix", apart := false }
def BitsPrefixSaid : Prop := bitsPrefixRow.holds Try.pinned (OpenSpec.ofChange bitsPrefixSpec)

/-- ITS FALSE NEIGHBOUR: 'it returns false'. Refute it at one input. -/
def bitsPrefixWrong : ChangeSpec := { name := "bitsPrefix", fn := fun _ => fun
  | [d1, d2] => { results := [.lit (.bool false)], args := [d1, d2] }
  | _ => none }
def BitsPrefixWrongFalsely : Prop := bitsPrefixRow.holds Try.pinned (OpenSpec.ofChange bitsPrefixWrong)

/-- 'satchellaw05.BitsLengths': WHATEVER THE INPUT: true; the input reads as it did. -/
def bitsLengthsSpec : ChangeSpec := { name := "bitsLengths", fn := fun _ => fun
  | [d1, d2] => { results := [.lit (.bool true)], args := [d1, d2] }
  | _ => none }
def bitsLengthsRow : OpenClaim := { program := "ytfdcolicpfellaa", sum := "b4f107ebdf3b6f8aea096f259888ad623e1659d6bf20facd564eebfc49ad295f", func := "satchel/satchellaw05.BitsLengths", spec := "bitsLengths", unfollowed := true, recurses := true, apart := false }
def BitsLengthsSaid : Prop := bitsLengthsRow.holds Try.pinned (OpenSpec.ofChange bitsLengthsSpec)

/-- ITS FALSE NEIGHBOUR: 'it returns false'. Refute it at one input. -/
def bitsLengthsWrong : ChangeSpec := { name := "bitsLengths", fn := fun _ => fun
  | [d1, d2] => { results := [.lit (.bool false)], args := [d1, d2] }
  | _ => none }
def BitsLengthsWrongFalsely : Prop := bitsLengthsRow.holds Try.pinned (OpenSpec.ofChange bitsLengthsWrong)

/- THE SECOND FORM. 'bulk': how many values and letters a reading holds, each counted each time it is reached (what is shared counts as often as it is met; a slice's spare places count too). A statement '..UptoSaid' is the law's where the arguments, and the package variables that the reading takes, are together of bulk at most 1048576: NARROWER than '..Said'. Prove '..Said' where nothing that the law and all that it calls make is longer than what came in: it says more and counts as full. Else prove '..UptoSaid'. A law counts once. -/
mutual
def uptoBulk {H : Type} : DataW H → Nat
  | .lit (.string bytes) => bytes.length + 1
  | .lit _ => 1
  | .nil => 1
  | .ptr d => uptoBulk d + 1
  | .slice elems spare => uptoBulkAll elems + uptoBulkAll spare + 1
  | .agg parts => uptoBulkAll parts + 1
  | .iface _ d => uptoBulk d + 1
  | .map entries => uptoBulkEntries entries + 1
  | .held _ => 1
def uptoBulkAll {H : Type} : List (DataW H) → Nat
  | [] => 0
  | d :: r => uptoBulk d + uptoBulkAll r
def uptoBulkEntries {H : Type} : List (Lit × DataW H) → Nat
  | [] => 0
  | x :: r => uptoBulkEntry x + uptoBulkEntries r
def uptoBulkEntry {H : Type} : Lit × DataW H → Nat
  | (.string bytes, d) => bytes.length + uptoBulk d + 1
  | (_, d) => uptoBulk d + 1
 end
def uptoSmall : (H : Type) → List (DataW H) → Bool := fun _ ds => decide (uptoBulkAll ds ≤ 1048576)
def OpenSpec.upto (s : _root_.Go.ChangeSpec) : _root_.Go.OpenSpec := { _root_.Go.OpenSpec.ofChange s with cond := some uptoSmall }

/-- 'satchellaw05.BitsWrites', WHERE WHAT IT READS IS OF BULK AT MOST 1048576: true; the input reads as it did. -/
def bitsWritesUptoRow : OpenClaim := { program := "ytfdcolicpfellaa", sum := "b4f107ebdf3b6f8aea096f259888ad623e1659d6bf20facd564eebfc49ad295f", func := "satchel/satchellaw05.BitsWrites", spec := "bitsWrites", apart := false, narrowed := true }
def BitsWritesUptoSaid : Prop := bitsWritesUptoRow.holds Try.pinned (OpenSpec.upto bitsWritesSpec)

/-- 'satchellaw05.BitsReads', WHERE WHAT IT READS IS OF BULK AT MOST 1048576: true; the input reads as it did. -/
def bitsReadsUptoRow : OpenClaim := { program := "ytfdcolicpfellaa", sum := "b4f107ebdf3b6f8aea096f259888ad623e1659d6bf20facd564eebfc49ad295f", func := "satchel/satchellaw05.BitsReads", spec := "bitsReads", apart := false, narrowed := true }
def BitsReadsUptoSaid : Prop := bitsReadsUptoRow.holds Try.pinned (OpenSpec.upto bitsReadsSpec)

/-- 'satchellaw05.BitsBack', WHERE WHAT IT READS IS OF BULK AT MOST 1048576: true; the input reads as it did. -/
def bitsBackUptoRow : OpenClaim := { program := "ytfdcolicpfellaa", sum := "b4f107ebdf3b6f8aea096f259888ad623e1659d6bf20facd564eebfc49ad295f", func := "satchel/satchellaw05.BitsBack", spec := "bitsBack", apart := false, narrowed := true }
def BitsBackUptoSaid : Prop := bitsBackUptoRow.holds Try.pinned (OpenSpec.upto bitsBackSpec)

/-- 'satchellaw05.BitsCodes', WHERE WHAT IT READS IS OF BULK AT MOST 1048576: true; the input reads as it did. -/
def bitsCodesUptoRow : OpenClaim := { program := "ytfdcolicpfellaa", sum := "b4f107ebdf3b6f8aea096f259888ad623e1659d6bf20facd564eebfc49ad295f", func := "satchel/satchellaw05.BitsCodes", spec := "bitsCodes", apart := false, narrowed := true }
def BitsCodesUptoSaid : Prop := bitsCodesUptoRow.holds Try.pinned (OpenSpec.upto bitsCodesSpec)

/-- 'satchellaw05.BitsKraft', WHERE WHAT IT READS IS OF BULK AT MOST 1048576: true; the input reads as it did. -/
def bitsKraftUptoRow : OpenClaim := { program := "ytfdcolicpfellaa", sum := "b4f107ebdf3b6f8aea096f259888ad623e1659d6bf20facd564eebfc49ad295f", func := "satchel/satchellaw05.BitsKraft", spec := "bitsKraft", apart := false, narrowed := true }
def BitsKraftUptoSaid : Prop := bitsKraftUptoRow.holds Try.pinned (OpenSpec.upto bitsKraftSpec)

/-- 'satchellaw05.BitsPrefix', WHERE WHAT IT READS IS OF BULK AT MOST 1048576: true; the input reads as it did. -/
def bitsPrefixUptoRow : OpenClaim := { program := "ytfdcolicpfellaa", sum := "b4f107ebdf3b6f8aea096f259888ad623e1659d6bf20facd564eebfc49ad295f", func := "satchel/satchellaw05.BitsPrefix", spec := "bitsPrefix", apart := false, narrowed := true }
def BitsPrefixUptoSaid : Prop := bitsPrefixUptoRow.holds Try.pinned (OpenSpec.upto bitsPrefixSpec)

/-- 'satchellaw05.BitsLengths', WHERE WHAT IT READS IS OF BULK AT MOST 1048576: true; the input reads as it did. -/
def bitsLengthsUptoRow : OpenClaim := { program := "ytfdcolicpfellaa", sum := "b4f107ebdf3b6f8aea096f259888ad623e1659d6bf20facd564eebfc49ad295f", func := "satchel/satchellaw05.BitsLengths", spec := "bitsLengths", unfollowed := true, recurses := true, apart := false, narrowed := true }
def BitsLengthsUptoSaid : Prop := bitsLengthsUptoRow.holds Try.pinned (OpenSpec.upto bitsLengthsSpec)

end Rows
end Go.Proofs.Ytfdcolicpfellaa
