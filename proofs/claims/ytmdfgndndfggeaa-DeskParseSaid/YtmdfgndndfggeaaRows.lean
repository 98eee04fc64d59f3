/-
  No cell of these rows narrows 'for every input' (looked for: loops, veiled, ifaces, maps, wideKeys, modest, calm, conditions, laid).
  DERIVED. THE GIVEN ROWS OF THIS SEAT. 3 by the template 'for every input the law returns true; each argument reads behind the call as it read before'; 0 by the template 'total and deterministic' (their statements: YtmdfgndndfggeaaTotals.lean).
  GIVEN WITH THE SEED: the statements are not yours to turn. If you find one false, say at which input.
  Laid BY PROGRAM, IN A SANDBOX (cutbox-rows.mjs): the forced cells as the released guide's own fill.sh prints them over the translation af7c5a65756b8770… (all of the seat's roots in one cut). By AI agents, Wed Nov 11 2026. No macro, syntax, notation, axiom, sorry.
-/
import Derived.Test.YtmdfgndndfggeaaChecked
import GoSem.Claim
import GoSem.ClaimJoined
import GoSem.ClaimMapViews
import Derived.JoinedTies
import Derived.KernelRfl
namespace Go.Proofs.Ytmdfgndndfggeaa
/- THE CELL 'sum', in the pinned program and in every row, IS THE sha256 OF THE DUMP (.gsa) THAT YtmdfgndndfggeaaProg.lean LOADS. Nothing in Lean hashes anything: it is a label: what it is worth is what the hold of that sum in a sandbox is worth. -/
noncomputable def Try.pinned : Pinned := { name := "ytmdfgndndfggeaa", sum := "af7c5a65756b8770108348f8be05bc30eb1676503ef65fab6e5b510aff5aa22d", checked := Try.checked }
namespace Rows
def none {H : Type} : Left H := { results := [], args := [] }

/-- 'larumlaw33.DeskQuotes': WHATEVER THE INPUT: true; the input reads as it did. -/
def deskQuotesSpec : ChangeSpec := { name := "deskQuotes", fn := fun _ => fun
  | [d1, d2] => { results := [.lit (.bool true)], args := [d1, d2] }
  | _ => none }
def deskQuotesRow : OpenClaim := { program := "ytmdfgndndfggeaa", sum := "af7c5a65756b8770108348f8be05bc30eb1676503ef65fab6e5b510aff5aa22d", func := "larum/larumlaw33.DeskQuotes", spec := "deskQuotes", inPlace := ["internal/abi.NoEscape", "internal/bytealg.IndexByteString", "internal/bytealg.IndexString"], unfollowed := true, recurses := true, named := ["internal/bytealg.MaxLen"], apart := false }
def DeskQuotesSaid : Prop := deskQuotesRow.holds Try.pinned (OpenSpec.ofChange deskQuotesSpec)

/-- ITS FALSE NEIGHBOUR: 'it returns false'. Refute it at one input. -/
def deskQuotesWrong : ChangeSpec := { name := "deskQuotes", fn := fun _ => fun
  | [d1, d2] => { results := [.lit (.bool false)], args := [d1, d2] }
  | _ => none }
def DeskQuotesWrongFalsely : Prop := deskQuotesRow.holds Try.pinned (OpenSpec.ofChange deskQuotesWrong)

/-- 'larumlaw33.DeskLines': WHATEVER THE INPUT: true; the input reads as it did. -/
def deskLinesSpec : ChangeSpec := { name := "deskLines", fn := fun _ => fun
  | [d] => { results := [.lit (.bool true)], args := [d] }
  | _ => none }
def deskLinesRow : OpenClaim := { program := "ytmdfgndndfggeaa", sum := "af7c5a65756b8770108348f8be05bc30eb1676503ef65fab6e5b510aff5aa22d", func := "larum/larumlaw33.DeskLines", spec := "deskLines", inPlace := ["internal/bytealg.IndexByteString", "internal/bytealg.IndexString", "internal/abi.NoEscape"], unfollowed := true, recurses := true, named := ["internal/bytealg.MaxLen"], apart := false }
def DeskLinesSaid : Prop := deskLinesRow.holds Try.pinned (OpenSpec.ofChange deskLinesSpec)

/-- ITS FALSE NEIGHBOUR: 'it returns false'. Refute it at one input. -/
def deskLinesWrong : ChangeSpec := { name := "deskLines", fn := fun _ => fun
  | [d] => { results := [.lit (.bool false)], args := [d] }
  | _ => none }
def DeskLinesWrongFalsely : Prop := deskLinesRow.holds Try.pinned (OpenSpec.ofChange deskLinesWrong)

/-- 'larumlaw33.DeskParse': WHATEVER THE INPUT: true; the input reads as it did. -/
def deskParseSpec : ChangeSpec := { name := "deskParse", fn := fun _ => fun
  | [d] => { results := [.lit (.bool true)], args := [d] }
  | _ => none }
def deskParseRow : OpenClaim := { program := "ytmdfgndndfggeaa", sum := "af7c5a65756b8770108348f8be05bc30eb1676503ef65fab6e5b510aff5aa22d", func := "larum/larumlaw33.DeskParse", spec := "deskParse", inPlace := ["internal/bytealg.IndexByteString", "internal/bytealg.IndexString", "internal/abi.NoEscape"], unfollowed := true, recurses := true, named := ["internal/bytealg.MaxLen"], apart := false }
def DeskParseSaid : Prop := deskParseRow.holds Try.pinned (OpenSpec.ofChange deskParseSpec)

/-- ITS FALSE NEIGHBOUR: 'it returns false'. Refute it at one input. -/
def deskParseWrong : ChangeSpec := { name := "deskParse", fn := fun _ => fun
  | [d] => { results := [.lit (.bool false)], args := [d] }
  | _ => none }
def DeskParseWrongFalsely : Prop := deskParseRow.holds Try.pinned (OpenSpec.ofChange deskParseWrong)

/- THE SECOND FORM. 'bulk': how many values and letters a reading holds, each counted each time it is reached (what is shared counts as often as it is met; a slice's spare places count too). A statement '..UptoSaid' is the law's where the arguments, and the package variables that the reading takes, are together of bulk at most 1048576: NARROWER than '..Said'. Prove '..Said' where nothing that the law and all that it calls make is longer than what came in: it says more and counts as full. Else prove '..UptoSaid'. A law counts once. -/
mutual
def uptoBulk {H : Type} : DataW H → Nat
  | .lit (.string bytes) => bytes.length + 1
  | .lit _ => 1
  | .nil => 1
  | .ptr d => uptoBulk d + 1
  | .slice elems spare => uptoBulkAll elems + uptoBulkAll spare + 1
  | .agg parts => uptoBulkAll parts + 1
  | .iface _ d => uptoBulk d + 1
  | .map entries => uptoBulkEntries entries + 1
  | .held _ => 1
def uptoBulkAll {H : Type} : List (DataW H) → Nat
  | [] => 0
  | d :: r => uptoBulk d + uptoBulkAll r
def uptoBulkEntries {H : Type} : List (Lit × DataW H) → Nat
  | [] => 0
  | x :: r => uptoBulkEntry x + uptoBulkEntries r
def uptoBulkEntry {H : Type} : Lit × DataW H → Nat
  | (.string bytes, d) => bytes.length + uptoBulk d + 1
  | (_, d) => uptoBulk d + 1
 end
def uptoSmall : (H : Type) → List (DataW H) → Bool := fun _ ds => decide (uptoBulkAll ds ≤ 1048576)
def OpenSpec.upto (s : _root_.Go.ChangeSpec) : _root_.Go.OpenSpec := { _root_.Go.OpenSpec.ofChange s with cond := some uptoSmall }

/-- 'larumlaw33.DeskQuotes', WHERE WHAT IT READS IS OF BULK AT MOST 1048576: true; the input reads as it did. -/
def deskQuotesUptoRow : OpenClaim := { program := "ytmdfgndndfggeaa", sum := "af7c5a65756b8770108348f8be05bc30eb1676503ef65fab6e5b510aff5aa22d", func := "larum/larumlaw33.DeskQuotes", spec := "deskQuotes", inPlace := ["internal/abi.NoEscape", "internal/bytealg.IndexByteString", "internal/bytealg.IndexString"], unfollowed := true, recurses := true, named := ["internal/bytealg.MaxLen"], apart := false, narrowed := true }
def DeskQuotesUptoSaid : Prop := deskQuotesUptoRow.holds Try.pinned (OpenSpec.upto deskQuotesSpec)

/-- 'larumlaw33.DeskLines', WHERE WHAT IT READS IS OF BULK AT MOST 1048576: true; the input reads as it did. -/
def deskLinesUptoRow : OpenClaim := { program := "ytmdfgndndfggeaa", sum := "af7c5a65756b8770108348f8be05bc30eb1676503ef65fab6e5b510aff5aa22d", func := "larum/larumlaw33.DeskLines", spec := "deskLines", inPlace := ["internal/bytealg.IndexByteString", "internal/bytealg.IndexString", "internal/abi.NoEscape"], unfollowed := true, recurses := true, named := ["internal/bytealg.MaxLen"], apart := false, narrowed := true }
def DeskLinesUptoSaid : Prop := deskLinesUptoRow.holds Try.pinned (OpenSpec.upto deskLinesSpec)

/-- 'larumlaw33.DeskParse', WHERE WHAT IT READS IS OF BULK AT MOST 1048576: true; the input reads as it did. -/
def deskParseUptoRow : OpenClaim := { program := "ytmdfgndndfggeaa", sum := "af7c5a65756b8770108348f8be05bc30eb1676503ef65fab6e5b510aff5aa22d", func := "larum/larumlaw33.DeskParse", spec := "deskParse", inPlace := ["internal/bytealg.IndexByteString", "internal/bytealg.IndexString", "internal/abi.NoEscape"], unfollowed := true, recurses := true, named := ["internal/bytealg.MaxLen"], apart := false, narrowed := true }
def DeskParseUptoSaid : Prop := deskParseUptoRow.holds Try.pinned (OpenSpec.upto deskParseSpec)

end Rows
end Go.Proofs.Ytmdfgndndfggeaa
