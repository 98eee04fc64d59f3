/-
  No cell of these rows narrows 'for every input' (looked for: loops, veiled, ifaces, maps, wideKeys, modest, calm, conditions, laid).
  DERIVED. THE GIVEN ROWS OF THIS SEAT. 4 by the template 'for every input the law returns true; each argument reads behind the call as it read before'; 0 by the template 'total and deterministic' (their statements: YtdkdefbaekcahaaTotals.lean).
  GIVEN WITH THE SEED: the statements are not yours to turn. If you find one false, say at which input.
  Laid BY PROGRAM, IN A SANDBOX (cutbox-rows.mjs): the forced cells as the released guide's own fill.sh prints them over the translation b668e25c041566f8… (all of the seat's roots in one cut). By AI agents, Wed Nov 11 2026. No macro, syntax, notation, axiom, sorry.
-/
import Derived.Test.YtdkdefbaekcahaaChecked
import GoSem.Claim
import GoSem.ClaimJoined
import GoSem.ClaimMapViews
import Derived.JoinedTies
import Derived.KernelRfl
namespace Go.Proofs.Ytdkdefbaekcahaa
/- THE CELL 'sum', in the pinned program and in every row, IS THE sha256 OF THE DUMP (.gsa) THAT YtdkdefbaekcahaaProg.lean LOADS. Nothing in Lean hashes anything: it is a label: what it is worth is what the hold of that sum in a sandbox is worth. -/
noncomputable def Try.pinned : Pinned := { name := "ytdkdefbaekcahaa", sum := "b668e25c041566f8d0a0da3b1eae66a147dc0690319369b2eb08649d4097ef63", checked := Try.checked }
namespace Rows
def none {H : Type} : Left H := { results := [], args := [] }

/-- 'larumlaw03.NumParse': WHATEVER THE INPUT: true; the input reads as it did. -/
def numParseSpec : ChangeSpec := { name := "numParse", fn := fun _ => fun
  | [d] => { results := [.lit (.bool true)], args := [d] }
  | _ => none }
def numParseRow : OpenClaim := { program := "ytdkdefbaekcahaa", sum := "b668e25c041566f8d0a0da3b1eae66a147dc0690319369b2eb08649d4097ef63", func := "larum/larumlaw03.NumParse", spec := "numParse", unfollowed := true, recurses := true, apart := false }
def NumParseSaid : Prop := numParseRow.holds Try.pinned (OpenSpec.ofChange numParseSpec)

/-- ITS FALSE NEIGHBOUR: 'it returns false'. Refute it at one input. -/
def numParseWrong : ChangeSpec := { name := "numParse", fn := fun _ => fun
  | [d] => { results := [.lit (.bool false)], args := [d] }
  | _ => none }
def NumParseWrongFalsely : Prop := numParseRow.holds Try.pinned (OpenSpec.ofChange numParseWrong)

/-- 'larumlaw03.NumPrint': WHATEVER THE INPUT: true; the input reads as it did. -/
def numPrintSpec : ChangeSpec := { name := "numPrint", fn := fun _ => fun
  | [d] => { results := [.lit (.bool true)], args := [d] }
  | _ => none }
def numPrintRow : OpenClaim := { program := "ytdkdefbaekcahaa", sum := "b668e25c041566f8d0a0da3b1eae66a147dc0690319369b2eb08649d4097ef63", func := "larum/larumlaw03.NumPrint", spec := "numPrint", unfollowed := true, recurses := true, apart := false }
def NumPrintSaid : Prop := numPrintRow.holds Try.pinned (OpenSpec.ofChange numPrintSpec)

/-- ITS FALSE NEIGHBOUR: 'it returns false'. Refute it at one input. -/
def numPrintWrong : ChangeSpec := { name := "numPrint", fn := fun _ => fun
  | [d] => { results := [.lit (.bool false)], args := [d] }
  | _ => none }
def NumPrintWrongFalsely : Prop := numPrintRow.holds Try.pinned (OpenSpec.ofChange numPrintWrong)

/-- 'larumlaw03.NumHex': WHATEVER THE INPUT: true; the input reads as it did. -/
def numHexSpec : ChangeSpec := { name := "numHex", fn := fun _ => fun
  | [d] => { results := [.lit (.bool true)], args := [d] }
  | _ => none }
def numHexRow : OpenClaim := { program := "ytdkdefbaekcahaa", sum := "b668e25c041566f8d0a0da3b1eae66a147dc0690319369b2eb08649d4097ef63", func := "larum/larumlaw03.NumHex", spec := "numHex", unfollowed := true, recurses := true, apart := false }
def NumHexSaid : Prop := numHexRow.holds Try.pinned (OpenSpec.ofChange numHexSpec)

/-- ITS FALSE NEIGHBOUR: 'it returns false'. Refute it at one input. -/
def numHexWrong : ChangeSpec := { name := "numHex", fn := fun _ => fun
  | [d] => { results := [.lit (.bool false)], args := [d] }
  | _ => none }
def NumHexWrongFalsely : Prop := numHexRow.holds Try.pinned (OpenSpec.ofChange numHexWrong)

/-- 'larumlaw03.NumSize': WHATEVER THE INPUT: true; the input reads as it did. -/
def numSizeSpec : ChangeSpec := { name := "numSize", fn := fun _ => fun
  | [d] => { results := [.lit (.bool true)], args := [d] }
  | _ => none }
def numSizeRow : OpenClaim := { program := "ytdkdefbaekcahaa", sum := "b668e25c041566f8d0a0da3b1eae66a147dc0690319369b2eb08649d4097ef63", func := "larum/larumlaw03.NumSize", spec := "numSize", unfollowed := true, recurses := true, apart := false }
def NumSizeSaid : Prop := numSizeRow.holds Try.pinned (OpenSpec.ofChange numSizeSpec)

/-- ITS FALSE NEIGHBOUR: 'it returns false'. Refute it at one input. -/
def numSizeWrong : ChangeSpec := { name := "numSize", fn := fun _ => fun
  | [d] => { results := [.lit (.bool false)], args := [d] }
  | _ => none }
def NumSizeWrongFalsely : Prop := numSizeRow.holds Try.pinned (OpenSpec.ofChange numSizeWrong)

/- THE SECOND FORM. 'bulk': how many values and letters a reading holds, each counted each time it is reached (what is shared counts as often as it is met; a slice's spare places count too). A statement '..UptoSaid' is the law's where the arguments, and the package variables that the reading takes, are together of bulk at most 1048576: NARROWER than '..Said'. Prove '..Said' where nothing that the law and all that it calls make is longer than what came in: it says more and counts as full. Else prove '..UptoSaid'. A law counts once. -/
mutual
def uptoBulk {H : Type} : DataW H → Nat
  | .lit (.string bytes) => bytes.length + 1
  | .lit _ => 1
  | .nil => 1
  | .ptr d => uptoBulk d + 1
  | .slice elems spare => uptoBulkAll elems + uptoBulkAll spare + 1
  | .agg parts => uptoBulkAll parts + 1
  | .iface _ d => uptoBulk d + 1
  | .map entries => uptoBulkEntries entries + 1
  | .held _ => 1
def uptoBulkAll {H : Type} : List (DataW H) → Nat
  | [] => 0
  | d :: r => uptoBulk d + uptoBulkAll r
def uptoBulkEntries {H : Type} : List (Lit × DataW H) → Nat
  | [] => 0
  | x :: r => uptoBulkEntry x + uptoBulkEntries r
def uptoBulkEntry {H : Type} : Lit × DataW H → Nat
  | (.string bytes, d) => bytes.length + uptoBulk d + 1
  | (_, d) => uptoBulk d + 1
 end
def uptoSmall : (H : Type) → List (DataW H) → Bool := fun _ ds => decide (uptoBulkAll ds ≤ 1048576)
def OpenSpec.upto (s : _root_.Go.ChangeSpec) : _root_.Go.OpenSpec := { _root_.Go.OpenSpec.ofChange s with cond := some uptoSmall }

/-- 'larumlaw03.NumParse', WHERE WHAT IT READS IS OF BULK AT MOST 1048576: true; the input reads as it did. -/
def numParseUptoRow : OpenClaim := { program := "ytdkdefbaekcahaa", sum := "b668e25c041566f8d0a0da3b1eae66a147dc0690319369b2eb08649d4097ef63", func := "larum/larumlaw03.NumParse", spec := "numParse", unfollowed := true, recurses := true, apart := false, narrowed := true }
def NumParseUptoSaid : Prop := numParseUptoRow.holds Try.pinned (OpenSpec.upto numParseSpec)

/-- 'larumlaw03.NumPrint', WHERE WHAT IT READS IS OF BULK AT MOST 1048576: true; the input reads as it did. -/
def numPrintUptoRow : OpenClaim := { program := "ytdkdefbaekcahaa", sum := "b668e25c041566f8d0a0da3b1eae66a147dc0690319369b2eb08649d4097ef63", func := "larum/larumlaw03.NumPrint", spec := "numPrint", unfollowed := true, recurses := true, apart := false, narrowed := true }
def NumPrintUptoSaid : Prop := numPrintUptoRow.holds Try.pinned (OpenSpec.upto numPrintSpec)

/-- 'larumlaw03.NumHex', WHERE WHAT IT READS IS OF BULK AT MOST 1048576: true; the input reads as it did. -/
def numHexUptoRow : OpenClaim := { program := "ytdkdefbaekcahaa", sum := "b668e25c041566f8d0a0da3b1eae66a147dc0690319369b2eb08649d4097ef63", func := "larum/larumlaw03.NumHex", spec := "numHex", unfollowed := true, recurses := true, apart := false, narrowed := true }
def NumHexUptoSaid : Prop := numHexUptoRow.holds Try.pinned (OpenSpec.upto numHexSpec)

/-- 'larumlaw03.NumSize', WHERE WHAT IT READS IS OF BULK AT MOST 1048576: true; the input reads as it did. -/
def numSizeUptoRow : OpenClaim := { program := "ytdkdefbaekcahaa", sum := "b668e25c041566f8d0a0da3b1eae66a147dc0690319369b2eb08649d4097ef63", func := "larum/larumlaw03.NumSize", spec := "numSize", unfollowed := true, recurses := true, apart := false, narrowed := true }
def NumSizeUptoSaid : Prop := numSizeUptoRow.holds Try.pinned (OpenSpec.upto numSizeSpec)

end Rows
end Go.Proofs.Ytdkdefbaekcahaa
