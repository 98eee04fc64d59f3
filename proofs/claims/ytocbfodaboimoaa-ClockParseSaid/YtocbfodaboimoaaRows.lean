/-
  No cell of these rows narrows 'for every input' (looked for: loops, veiled, ifaces, maps, wideKeys, modest, calm, conditions, laid).
  DERIVED. THE GIVEN ROWS OF THIS SEAT. 5 by the template 'for every input the law returns true; each argument reads behind the call as it read before'; 0 by the template 'total and deterministic' (their statements: YtocbfodaboimoaaTotals.lean).
  GIVEN WITH THE SEED: the statements are not yours to turn. If you find one false, say at which input.
  Laid BY PROGRAM, IN A SANDBOX (cutbox-rows.mjs): the forced cells as the released guide's own fill.sh prints them over the translation 6d5fceb608f301e0… (all of the seat's roots in one cut). By AI agents, Wed Nov 11 2026. No macro, syntax, notation, axiom, sorry.
-/
import Derived.Test.YtocbfodaboimoaaChecked
import GoSem.Claim
import GoSem.ClaimJoined
import GoSem.ClaimMapViews
import Derived.JoinedTies
import Derived.KernelRfl
namespace Go.Proofs.Ytocbfodaboimoaa
/- THE CELL 'sum', in the pinned program and in every row, IS THE sha256 OF THE DUMP (.gsa) THAT YtocbfodaboimoaaProg.lean LOADS. Nothing in Lean hashes anything: it is a label: what it is worth is what the hold of that sum in a sandbox is worth. -/
noncomputable def Try.pinned : Pinned := { name := "ytocbfodaboimoaa", sum := "6d5fceb608f301e05fd7b6491876347841a2a25e0b1de0dbd0e520d01c713cb8", checked := Try.checked }
namespace Rows
def none {H : Type} : Left H := { results := [], args := [] }

/-- 'larumlaw04.ClockDays': WHATEVER THE INPUT: true; the input reads as it did. -/
def clockDaysSpec : ChangeSpec := { name := "clockDays", fn := fun _ => fun
  | [d1, d2, d3] => { results := [.lit (.bool true)], args := [d1, d2, d3] }
  | _ => none }
def clockDaysRow : OpenClaim := { program := "ytocbfodaboimoaa", sum := "6d5fceb608f301e05fd7b6491876347841a2a25e0b1de0dbd0e520d01c713cb8", func := "larum/larumlaw04.ClockDays", spec := "clockDays", apart := false }
def ClockDaysSaid : Prop := clockDaysRow.holds Try.pinned (OpenSpec.ofChange clockDaysSpec)

/-- ITS FALSE NEIGHBOUR: 'it returns false'. Refute it at one input. -/
def clockDaysWrong : ChangeSpec := { name := "clockDays", fn := fun _ => fun
  | [d1, d2, d3] => { results := [.lit (.bool false)], args := [d1, d2, d3] }
  | _ => none }
def ClockDaysWrongFalsely : Prop := clockDaysRow.holds Try.pinned (OpenSpec.ofChange clockDaysWrong)

/-- 'larumlaw04.ClockDate': WHATEVER THE INPUT: true; the input reads as it did. -/
def clockDateSpec : ChangeSpec := { name := "clockDate", fn := fun _ => fun
  | [d] => { results := [.lit (.bool true)], args := [d] }
  | _ => none }
def clockDateRow : OpenClaim := { program := "ytocbfodaboimoaa", sum := "6d5fceb608f301e05fd7b6491876347841a2a25e0b1de0dbd0e520d01c713cb8", func := "larum/larumlaw04.ClockDate", spec := "clockDate", apart := false }
def ClockDateSaid : Prop := clockDateRow.holds Try.pinned (OpenSpec.ofChange clockDateSpec)

/-- ITS FALSE NEIGHBOUR: 'it returns false'. Refute it at one input. -/
def clockDateWrong : ChangeSpec := { name := "clockDate", fn := fun _ => fun
  | [d] => { results := [.lit (.bool false)], args := [d] }
  | _ => none }
def ClockDateWrongFalsely : Prop := clockDateRow.holds Try.pinned (OpenSpec.ofChange clockDateWrong)

/-- 'larumlaw04.ClockPrint': WHATEVER THE INPUT: true; the input reads as it did. -/
def clockPrintSpec : ChangeSpec := { name := "clockPrint", fn := fun _ => fun
  | [d] => { results := [.lit (.bool true)], args := [d] }
  | _ => none }
def clockPrintRow : OpenClaim := { program := "ytocbfodaboimoaa", sum := "6d5fceb608f301e05fd7b6491876347841a2a25e0b1de0dbd0e520d01c713cb8", func := "larum/larumlaw04.ClockPrint", spec := "clockPrint", apart := false }
def ClockPrintSaid : Prop := clockPrintRow.holds Try.pinned (OpenSpec.ofChange clockPrintSpec)

/-- ITS FALSE NEIGHBOUR: 'it returns false'. Refute it at one input. -/
def clockPrintWrong : ChangeSpec := { name := "clockPrint", fn := fun _ => fun
  | [d] => { results := [.lit (.bool false)], args := [d] }
  | _ => none }
def ClockPrintWrongFalsely : Prop := clockPrintRow.holds Try.pinned (OpenSpec.ofChange clockPrintWrong)

/-- 'larumlaw04.ClockParse': WHATEVER THE INPUT: true; the input reads as it did. -/
def clockParseSpec : ChangeSpec := { name := "clockParse", fn := fun _ => fun
  | [d] => { results := [.lit (.bool true)], args := [d] }
  | _ => none }
def clockParseRow : OpenClaim := { program := "ytocbfodaboimoaa", sum := "6d5fceb608f301e05fd7b6491876347841a2a25e0b1de0dbd0e520d01c713cb8", func := "larum/larumlaw04.ClockParse", spec := "clockParse", apart := false }
def ClockParseSaid : Prop := clockParseRow.holds Try.pinned (OpenSpec.ofChange clockParseSpec)

/-- ITS FALSE NEIGHBOUR: 'it returns false'. Refute it at one input. -/
def clockParseWrong : ChangeSpec := { name := "clockParse", fn := fun _ => fun
  | [d] => { results := [.lit (.bool false)], args := [d] }
  | _ => none }
def ClockParseWrongFalsely : Prop := clockParseRow.holds Try.pinned (OpenSpec.ofChange clockParseWrong)

/-- 'larumlaw04.ClockOrder': WHATEVER THE INPUT: true; the input reads as it did. -/
def clockOrderSpec : ChangeSpec := { name := "clockOrder", fn := fun _ => fun
  | [d1, d2] => { results := [.lit (.bool true)], args := [d1, d2] }
  | _ => none }
def clockOrderRow : OpenClaim := { program := "ytocbfodaboimoaa", sum := "6d5fceb608f301e05fd7b6491876347841a2a25e0b1de0dbd0e520d01c713cb8", func := "larum/larumlaw04.ClockOrder", spec := "clockOrder", apart := false }
def ClockOrderSaid : Prop := clockOrderRow.holds Try.pinned (OpenSpec.ofChange clockOrderSpec)

/-- ITS FALSE NEIGHBOUR: 'it returns false'. Refute it at one input. -/
def clockOrderWrong : ChangeSpec := { name := "clockOrder", fn := fun _ => fun
  | [d1, d2] => { results := [.lit (.bool false)], args := [d1, d2] }
  | _ => none }
def ClockOrderWrongFalsely : Prop := clockOrderRow.holds Try.pinned (OpenSpec.ofChange clockOrderWrong)

/- THE SECOND FORM. 'bulk': how many values and letters a reading holds, each counted each time it is reached (what is shared counts as often as it is met; a slice's spare places count too). A statement '..UptoSaid' is the law's where the arguments, and the package variables that the reading takes, are together of bulk at most 1048576: NARROWER than '..Said'. Prove '..Said' where nothing that the law and all that it calls make is longer than what came in: it says more and counts as full. Else prove '..UptoSaid'. A law counts once. -/
mutual
def uptoBulk {H : Type} : DataW H → Nat
  | .lit (.string bytes) => bytes.length + 1
  | .lit _ => 1
  | .nil => 1
  | .ptr d => uptoBulk d + 1
  | .slice elems spare => uptoBulkAll elems + uptoBulkAll spare + 1
  | .agg parts => uptoBulkAll parts + 1
  | .iface _ d => uptoBulk d + 1
  | .map entries => uptoBulkEntries entries + 1
  | .held _ => 1
def uptoBulkAll {H : Type} : List (DataW H) → Nat
  | [] => 0
  | d :: r => uptoBulk d + uptoBulkAll r
def uptoBulkEntries {H : Type} : List (Lit × DataW H) → Nat
  | [] => 0
  | x :: r => uptoBulkEntry x + uptoBulkEntries r
def uptoBulkEntry {H : Type} : Lit × DataW H → Nat
  | (.string bytes, d) => bytes.length + uptoBulk d + 1
  | (_, d) => uptoBulk d + 1
 end
def uptoSmall : (H : Type) → List (DataW H) → Bool := fun _ ds => decide (uptoBulkAll ds ≤ 1048576)
def OpenSpec.upto (s : _root_.Go.ChangeSpec) : _root_.Go.OpenSpec := { _root_.Go.OpenSpec.ofChange s with cond := some uptoSmall }

/-- 'larumlaw04.ClockDays', WHERE WHAT IT READS IS OF BULK AT MOST 1048576: true; the input reads as it did. -/
def clockDaysUptoRow : OpenClaim := { program := "ytocbfodaboimoaa", sum := "6d5fceb608f301e05fd7b6491876347841a2a25e0b1de0dbd0e520d01c713cb8", func := "larum/larumlaw04.ClockDays", spec := "clockDays", apart := false, narrowed := true }
def ClockDaysUptoSaid : Prop := clockDaysUptoRow.holds Try.pinned (OpenSpec.upto clockDaysSpec)

/-- 'larumlaw04.ClockDate', WHERE WHAT IT READS IS OF BULK AT MOST 1048576: true; the input reads as it did. -/
def clockDateUptoRow : OpenClaim := { program := "ytocbfodaboimoaa", sum := "6d5fceb608f301e05fd7b6491876347841a2a25e0b1de0dbd0e520d01c713cb8", func := "larum/larumlaw04.ClockDate", spec := "clockDate", apart := false, narrowed := true }
def ClockDateUptoSaid : Prop := clockDateUptoRow.holds Try.pinned (OpenSpec.upto clockDateSpec)

/-- 'larumlaw04.ClockPrint', WHERE WHAT IT READS IS OF BULK AT MOST 1048576: true; the input reads as it did. -/
def clockPrintUptoRow : OpenClaim := { program := "ytocbfodaboimoaa", sum := "6d5fceb608f301e05fd7b6491876347841a2a25e0b1de0dbd0e520d01c713cb8", func := "larum/larumlaw04.ClockPrint", spec := "clockPrint", apart := false, narrowed := true }
def ClockPrintUptoSaid : Prop := clockPrintUptoRow.holds Try.pinned (OpenSpec.upto clockPrintSpec)

/-- 'larumlaw04.ClockParse', WHERE WHAT IT READS IS OF BULK AT MOST 1048576: true; the input reads as it did. -/
def clockParseUptoRow : OpenClaim := { program := "ytocbfodaboimoaa", sum := "6d5fceb608f301e05fd7b6491876347841a2a25e0b1de0dbd0e520d01c713cb8", func := "larum/larumlaw04.ClockParse", spec := "clockParse", apart := false, narrowed := true }
def ClockParseUptoSaid : Prop := clockParseUptoRow.holds Try.pinned (OpenSpec.upto clockParseSpec)

/-- 'larumlaw04.ClockOrder', WHERE WHAT IT READS IS OF BULK AT MOST 1048576: true; the input reads as it did. -/
def clockOrderUptoRow : OpenClaim := { program := "ytocbfodaboimoaa", sum := "6d5fceb608f301e05fd7b6491876347841a2a25e0b1de0dbd0e520d01c713cb8", func := "larum/larumlaw04.ClockOrder", spec := "clockOrder", apart := false, narrowed := true }
def ClockOrderUptoSaid : Prop := clockOrderUptoRow.holds Try.pinned (OpenSpec.upto clockOrderSpec)

end Rows
end Go.Proofs.Ytocbfodaboimoaa
