/-
  NARROWER THAN 'FOR EVERY INPUT', by the rows' own cells (each row's printed sentence says how): EtagHas: laid · EtagJoined: laid · EtagParse: laid · EtagPrint: laid · EtagNumber: laid.
  DERIVED. THE GIVEN ROWS OF THIS SEAT. 5 by the template 'for every input the law returns true; each argument reads behind the call as it read before'; 0 by the template 'total and deterministic' (their statements: YteoicfgjijmigaaDoorTotals.lean).
  GIVEN WITH THE SEED: the statements are not yours to turn. If you find one false, say at which input.
  Laid BY PROGRAM, IN A SANDBOX (cutbox-rows.mjs): the forced cells as the released guide's own fill.sh prints them over the translation aa41aeffa3bdda41… (all of the seat's roots in one cut). By AI agents, Wed Nov 11 2026. No macro, syntax, notation, axiom, sorry.
-/
import Derived.Test.YteoicfgjijmigaaDoorChecked
import GoSem.PinnedTables
import GoSem.Claim
import GoSem.ClaimJoined
import GoSem.ClaimMapViews
import Derived.JoinedTies
import Derived.KernelRfl
namespace Go.Proofs.YteoicfgjijmigaaDoor
/- THE CELL 'sum', in the pinned program and in every row, IS THE sha256 OF THE DUMP (.gsa) THAT YteoicfgjijmigaaDoorProg.lean LOADS. Nothing in Lean hashes anything: it is a label: what it is worth is what the hold of that sum in a sandbox is worth. -/
noncomputable def Tryd.pinned : Pinned := { name := "yteoicfgjijmigaadoor", sum := "aa41aeffa3bdda41255ec04adb4c80a9ae1315b9809e5c0ed38e9746eebdefcf", checked := Tryd.checked }
namespace Rows
def none {H : Type} : Left H := { results := [], args := [] }

/- WHAT THE LISTED PACKAGE-LEVEL VARIABLES READ AS WHEN THE CALL BEGINS. Each datum BY PROGRAM (the guide's laid-datum.mjs) off the statement by which the dump's own 'gosem.cut.vars' lays the variable. In a bare row this is a premise. The card (YteoicfgjijmigaaDoorCards.lean) ties it to the program's text. -/
def laid_unicode_utf8_acceptRanges {H : Type} : DataW H := .agg [.agg [.lit (.int .u8 128), .lit (.int .u8 191)], .agg [.lit (.int .u8 160), .lit (.int .u8 191)], .agg [.lit (.int .u8 128), .lit (.int .u8 159)], .agg [.lit (.int .u8 144), .lit (.int .u8 191)], .agg [.lit (.int .u8 128), .lit (.int .u8 143)], .agg [.lit (.int .u8 0), .lit (.int .u8 0)], .agg [.lit (.int .u8 0), .lit (.int .u8 0)], .agg [.lit (.int .u8 0), .lit (.int .u8 0)], .agg [.lit (.int .u8 0), .lit (.int .u8 0)], .agg [.lit (.int .u8 0), .lit (.int .u8 0)], .agg [.lit (.int .u8 0), .lit (.int .u8 0)], .agg [.lit (.int .u8 0), .lit (.int .u8 0)], .agg [.lit (.int .u8 0), .lit (.int .u8 0)], .agg [.lit (.int .u8 0), .lit (.int .u8 0)], .agg [.lit (.int .u8 0), .lit (.int .u8 0)], .agg [.lit (.int .u8 0), .lit (.int .u8 0)]]
/-- One of Go's own tables, pinned by name: the form's constant. -/
def laid_unicode_utf8_first : DataW Unit := Go.Pinned.utf8First

/-- 'larumlaw09.EtagHas': WHATEVER THE INPUT: true; the input reads as it did. -/
def etagHasSpec : ChangeSpec := { name := "etagHas", fn := fun _ => fun
  | [d1, d2, d3] => { results := [.lit (.bool true)], args := [d1, d2, d3] }
  | _ => none }
def etagHasRow : OpenClaim := { program := "yteoicfgjijmigaadoor", sum := "aa41aeffa3bdda41255ec04adb4c80a9ae1315b9809e5c0ed38e9746eebdefcf", func := "larum/larumlaw09.EtagHas", spec := "etagHas", inPlace := ["internal/bytealg.IndexByteString", "internal/bytealg.IndexString"], unfollowed := true, recurses := true, named := ["unicode/utf8.first", "unicode/utf8.acceptRanges", "internal/bytealg.MaxLen"], apart := false, laid := [("unicode/utf8.acceptRanges", laid_unicode_utf8_acceptRanges), ("unicode/utf8.first", laid_unicode_utf8_first)] }
def EtagHasSaid : Prop := etagHasRow.holds Tryd.pinned (OpenSpec.ofChange etagHasSpec)

/-- ITS FALSE NEIGHBOUR: 'it returns false'. Refute it at one input. -/
def etagHasWrong : ChangeSpec := { name := "etagHas", fn := fun _ => fun
  | [d1, d2, d3] => { results := [.lit (.bool false)], args := [d1, d2, d3] }
  | _ => none }
def EtagHasWrongFalsely : Prop := etagHasRow.holds Tryd.pinned (OpenSpec.ofChange etagHasWrong)

/-- 'larumlaw09.EtagJoined': WHATEVER THE INPUT: true; the input reads as it did. -/
def etagJoinedSpec : ChangeSpec := { name := "etagJoined", fn := fun _ => fun
  | [d] => { results := [.lit (.bool true)], args := [d] }
  | _ => none }
def etagJoinedRow : OpenClaim := { program := "yteoicfgjijmigaadoor", sum := "aa41aeffa3bdda41255ec04adb4c80a9ae1315b9809e5c0ed38e9746eebdefcf", func := "larum/larumlaw09.EtagJoined", spec := "etagJoined", inPlace := ["internal/bytealg.IndexByteString", "internal/bytealg.IndexString"], unfollowed := true, recurses := true, named := ["unicode/utf8.first", "unicode/utf8.acceptRanges", "internal/bytealg.MaxLen"], apart := false, laid := [("unicode/utf8.acceptRanges", laid_unicode_utf8_acceptRanges), ("unicode/utf8.first", laid_unicode_utf8_first)] }
def EtagJoinedSaid : Prop := etagJoinedRow.holds Tryd.pinned (OpenSpec.ofChange etagJoinedSpec)

/-- ITS FALSE NEIGHBOUR: 'it returns false'. Refute it at one input. -/
def etagJoinedWrong : ChangeSpec := { name := "etagJoined", fn := fun _ => fun
  | [d] => { results := [.lit (.bool false)], args := [d] }
  | _ => none }
def EtagJoinedWrongFalsely : Prop := etagJoinedRow.holds Tryd.pinned (OpenSpec.ofChange etagJoinedWrong)

/-- 'larumlaw09.EtagParse': WHATEVER THE INPUT: true; the input reads as it did. -/
def etagParseSpec : ChangeSpec := { name := "etagParse", fn := fun _ => fun
  | [d] => { results := [.lit (.bool true)], args := [d] }
  | _ => none }
def etagParseRow : OpenClaim := { program := "yteoicfgjijmigaadoor", sum := "aa41aeffa3bdda41255ec04adb4c80a9ae1315b9809e5c0ed38e9746eebdefcf", func := "larum/larumlaw09.EtagParse", spec := "etagParse", inPlace := ["internal/bytealg.IndexByteString", "internal/bytealg.IndexString"], unfollowed := true, recurses := true, named := ["internal/bytealg.MaxLen", "unicode/utf8.first", "unicode/utf8.acceptRanges"], apart := false, laid := [("unicode/utf8.acceptRanges", laid_unicode_utf8_acceptRanges), ("unicode/utf8.first", laid_unicode_utf8_first)] }
def EtagParseSaid : Prop := etagParseRow.holds Tryd.pinned (OpenSpec.ofChange etagParseSpec)

/-- ITS FALSE NEIGHBOUR: 'it returns false'. Refute it at one input. -/
def etagParseWrong : ChangeSpec := { name := "etagParse", fn := fun _ => fun
  | [d] => { results := [.lit (.bool false)], args := [d] }
  | _ => none }
def EtagParseWrongFalsely : Prop := etagParseRow.holds Tryd.pinned (OpenSpec.ofChange etagParseWrong)

/-- 'larumlaw09.EtagPrint': WHATEVER THE INPUT: true; the input reads as it did. -/
def etagPrintSpec : ChangeSpec := { name := "etagPrint", fn := fun _ => fun
  | [d] => { results := [.lit (.bool true)], args := [d] }
  | _ => none }
def etagPrintRow : OpenClaim := { program := "yteoicfgjijmigaadoor", sum := "aa41aeffa3bdda41255ec04adb4c80a9ae1315b9809e5c0ed38e9746eebdefcf", func := "larum/larumlaw09.EtagPrint", spec := "etagPrint", inPlace := ["internal/bytealg.IndexByteString", "internal/bytealg.IndexString"], unfollowed := true, recurses := true, named := ["unicode/utf8.first", "unicode/utf8.acceptRanges", "internal/bytealg.MaxLen"], apart := false, laid := [("unicode/utf8.acceptRanges", laid_unicode_utf8_acceptRanges), ("unicode/utf8.first", laid_unicode_utf8_first)] }
def EtagPrintSaid : Prop := etagPrintRow.holds Tryd.pinned (OpenSpec.ofChange etagPrintSpec)

/-- ITS FALSE NEIGHBOUR: 'it returns false'. Refute it at one input. -/
def etagPrintWrong : ChangeSpec := { name := "etagPrint", fn := fun _ => fun
  | [d] => { results := [.lit (.bool false)], args := [d] }
  | _ => none }
def EtagPrintWrongFalsely : Prop := etagPrintRow.holds Tryd.pinned (OpenSpec.ofChange etagPrintWrong)

/-- 'larumlaw09.EtagNumber': WHATEVER THE INPUT: true; the input reads as it did. -/
def etagNumberSpec : ChangeSpec := { name := "etagNumber", fn := fun _ => fun
  | [d1, d2] => { results := [.lit (.bool true)], args := [d1, d2] }
  | _ => none }
def etagNumberRow : OpenClaim := { program := "yteoicfgjijmigaadoor", sum := "aa41aeffa3bdda41255ec04adb4c80a9ae1315b9809e5c0ed38e9746eebdefcf", func := "larum/larumlaw09.EtagNumber", spec := "etagNumber", inPlace := ["internal/bytealg.IndexByteString", "internal/bytealg.IndexString"], unfollowed := true, recurses := true, named := ["unicode/utf8.first", "unicode/utf8.acceptRanges", "internal/bytealg.MaxLen"], apart := false, laid := [("unicode/utf8.acceptRanges", laid_unicode_utf8_acceptRanges), ("unicode/utf8.first", laid_unicode_utf8_first)] }
def EtagNumberSaid : Prop := etagNumberRow.holds Tryd.pinned (OpenSpec.ofChange etagNumberSpec)

/-- ITS FALSE NEIGHBOUR: 'it returns false'. Refute it at one input. -/
def etagNumberWrong : ChangeSpec := { name := "etagNumber", fn := fun _ => fun
  | [d1, d2] => { results := [.lit (.bool false)], args := [d1, d2] }
  | _ => none }
def EtagNumberWrongFalsely : Prop := etagNumberRow.holds Tryd.pinned (OpenSpec.ofChange etagNumberWrong)

/- THE SECOND FORM. 'bulk': how many values and letters a reading holds, each counted each time it is reached (what is shared counts as often as it is met; a slice's spare places count too). A statement '..UptoSaid' is the law's where the arguments, and the package variables that the reading takes, are together of bulk at most 1048576: NARROWER than '..Said'. Prove '..Said' where nothing that the law and all that it calls make is longer than what came in: it says more and counts as full. Else prove '..UptoSaid'. A law counts once. -/
mutual
def uptoBulk {H : Type} : DataW H → Nat
  | .lit (.string bytes) => bytes.length + 1
  | .lit _ => 1
  | .nil => 1
  | .ptr d => uptoBulk d + 1
  | .slice elems spare => uptoBulkAll elems + uptoBulkAll spare + 1
  | .agg parts => uptoBulkAll parts + 1
  | .iface _ d => uptoBulk d + 1
  | .map entries => uptoBulkEntries entries + 1
  | .held _ => 1
def uptoBulkAll {H : Type} : List (DataW H) → Nat
  | [] => 0
  | d :: r => uptoBulk d + uptoBulkAll r
def uptoBulkEntries {H : Type} : List (Lit × DataW H) → Nat
  | [] => 0
  | x :: r => uptoBulkEntry x + uptoBulkEntries r
def uptoBulkEntry {H : Type} : Lit × DataW H → Nat
  | (.string bytes, d) => bytes.length + uptoBulk d + 1
  | (_, d) => uptoBulk d + 1
 end
def uptoSmall : (H : Type) → List (DataW H) → Bool := fun _ ds => decide (uptoBulkAll ds ≤ 1048576)
def OpenSpec.upto (s : _root_.Go.ChangeSpec) : _root_.Go.OpenSpec := { _root_.Go.OpenSpec.ofChange s with cond := some uptoSmall }

/-- 'larumlaw09.EtagHas', WHERE WHAT IT READS IS OF BULK AT MOST 1048576: true; the input reads as it did. -/
def etagHasUptoRow : OpenClaim := { program := "yteoicfgjijmigaadoor", sum := "aa41aeffa3bdda41255ec04adb4c80a9ae1315b9809e5c0ed38e9746eebdefcf", func := "larum/larumlaw09.EtagHas", spec := "etagHas", inPlace := ["internal/bytealg.IndexByteString", "internal/bytealg.IndexString"], unfollowed := true, recurses := true, named := ["unicode/utf8.first", "unicode/utf8.acceptRanges", "internal/bytealg.MaxLen"], apart := false, laid := [("unicode/utf8.acceptRanges", laid_unicode_utf8_acceptRanges), ("unicode/utf8.first", laid_unicode_utf8_first)], narrowed := true }
def EtagHasUptoSaid : Prop := etagHasUptoRow.holds Tryd.pinned (OpenSpec.upto etagHasSpec)

/-- 'larumlaw09.EtagJoined', WHERE WHAT IT READS IS OF BULK AT MOST 1048576: true; the input reads as it did. -/
def etagJoinedUptoRow : OpenClaim := { program := "yteoicfgjijmigaadoor", sum := "aa41aeffa3bdda41255ec04adb4c80a9ae1315b9809e5c0ed38e9746eebdefcf", func := "larum/larumlaw09.EtagJoined", spec := "etagJoined", inPlace := ["internal/bytealg.IndexByteString", "internal/bytealg.IndexString"], unfollowed := true, recurses := true, named := ["unicode/utf8.first", "unicode/utf8.acceptRanges", "internal/bytealg.MaxLen"], apart := false, laid := [("unicode/utf8.acceptRanges", laid_unicode_utf8_acceptRanges), ("unicode/utf8.first", laid_unicode_utf8_first)], narrowed := true }
def EtagJoinedUptoSaid : Prop := etagJoinedUptoRow.holds Tryd.pinned (OpenSpec.upto etagJoinedSpec)

/-- 'larumlaw09.EtagParse', WHERE WHAT IT READS IS OF BULK AT MOST 1048576: true; the input reads as it did. -/
def etagParseUptoRow : OpenClaim := { program := "yteoicfgjijmigaadoor", sum := "aa41aeffa3bdda41255ec04adb4c80a9ae1315b9809e5c0ed38e9746eebdefcf", func := "larum/larumlaw09.EtagParse", spec := "etagParse", inPlace := ["internal/bytealg.IndexByteString", "internal/bytealg.IndexString"], unfollowed := true, recurses := true, named := ["internal/bytealg.MaxLen", "unicode/utf8.first", "unicode/utf8.acceptRanges"], apart := false, laid := [("unicode/utf8.acceptRanges", laid_unicode_utf8_acceptRanges), ("unicode/utf8.first", laid_unicode_utf8_first)], narrowed := true }
def EtagParseUptoSaid : Prop := etagParseUptoRow.holds Tryd.pinned (OpenSpec.upto etagParseSpec)

/-- 'larumlaw09.EtagPrint', WHERE WHAT IT READS IS OF BULK AT MOST 1048576: true; the input reads as it did. -/
def etagPrintUptoRow : OpenClaim := { program := "yteoicfgjijmigaadoor", sum := "aa41aeffa3bdda41255ec04adb4c80a9ae1315b9809e5c0ed38e9746eebdefcf", func := "larum/larumlaw09.EtagPrint", spec := "etagPrint", inPlace := ["internal/bytealg.IndexByteString", "internal/bytealg.IndexString"], unfollowed := true, recurses := true, named := ["unicode/utf8.first", "unicode/utf8.acceptRanges", "internal/bytealg.MaxLen"], apart := false, laid := [("unicode/utf8.acceptRanges", laid_unicode_utf8_acceptRanges), ("unicode/utf8.first", laid_unicode_utf8_first)], narrowed := true }
def EtagPrintUptoSaid : Prop := etagPrintUptoRow.holds Tryd.pinned (OpenSpec.upto etagPrintSpec)

/-- 'larumlaw09.EtagNumber', WHERE WHAT IT READS IS OF BULK AT MOST 1048576: true; the input reads as it did. -/
def etagNumberUptoRow : OpenClaim := { program := "yteoicfgjijmigaadoor", sum := "aa41aeffa3bdda41255ec04adb4c80a9ae1315b9809e5c0ed38e9746eebdefcf", func := "larum/larumlaw09.EtagNumber", spec := "etagNumber", inPlace := ["internal/bytealg.IndexByteString", "internal/bytealg.IndexString"], unfollowed := true, recurses := true, named := ["unicode/utf8.first", "unicode/utf8.acceptRanges", "internal/bytealg.MaxLen"], apart := false, laid := [("unicode/utf8.acceptRanges", laid_unicode_utf8_acceptRanges), ("unicode/utf8.first", laid_unicode_utf8_first)], narrowed := true }
def EtagNumberUptoSaid : Prop := etagNumberUptoRow.holds Tryd.pinned (OpenSpec.upto etagNumberSpec)

end Rows
end Go.Proofs.YteoicfgjijmigaaDoor
