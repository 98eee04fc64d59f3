/-
  No cell of these rows narrows 'for every input' (looked for: loops, veiled, ifaces, maps, wideKeys, modest, calm, conditions, laid).
  DERIVED. THE GIVEN ROWS OF THIS SEAT. 4 by the template 'for every input the law returns true; each argument reads behind the call as it read before'; 0 by the template 'total and deterministic' (their statements: YtdeggcnccciapaaTotals.lean).
  GIVEN WITH THE SEED: the statements are not yours to turn. If you find one false, say at which input.
  Laid BY PROGRAM, IN A SANDBOX (cutbox-rows.mjs): the forced cells as the released guide's own fill.sh prints them over the translation ed88344e5fa26663… (all of the seat's roots in one cut). By AI agents, Wed Nov 11 2026. No macro, syntax, notation, axiom, sorry.
-/
import Derived.Test.YtdeggcnccciapaaChecked
import GoSem.Claim
import GoSem.ClaimJoined
import GoSem.ClaimMapViews
import Derived.JoinedTies
import Derived.KernelRfl
namespace Go.Proofs.Ytdeggcnccciapaa
/- THE CELL 'sum', in the pinned program and in every row, IS THE sha256 OF THE DUMP (.gsa) THAT YtdeggcnccciapaaProg.lean LOADS. Nothing in Lean hashes anything: it is a label: what it is worth is what the hold of that sum in a sandbox is worth. -/
noncomputable def Try.pinned : Pinned := { name := "ytdeggcnccciapaa", sum := "ed88344e5fa266639d1e37d9dc00e380db694247c689988407ed1153e81ef5d8", checked := Try.checked }
namespace Rows
def none {H : Type} : Left H := { results := [], args := [] }

/-- 'larumlaw02.UtfNext': WHATEVER THE INPUT: true; the input reads as it did. -/
def utfNextSpec : ChangeSpec := { name := "utfNext", fn := fun _ => fun
  | [d] => { results := [.lit (.bool true)], args := [d] }
  | _ => none }
def utfNextRow : OpenClaim := { program := "ytdeggcnccciapaa", sum := "ed88344e5fa266639d1e37d9dc00e380db694247c689988407ed1153e81ef5d8", func := "larum/larumlaw02.UtfNext", spec := "utfNext", apart := false }
def UtfNextSaid : Prop := utfNextRow.holds Try.pinned (OpenSpec.ofChange utfNextSpec)

/-- ITS FALSE NEIGHBOUR: 'it returns false'. Refute it at one input. -/
def utfNextWrong : ChangeSpec := { name := "utfNext", fn := fun _ => fun
  | [d] => { results := [.lit (.bool false)], args := [d] }
  | _ => none }
def UtfNextWrongFalsely : Prop := utfNextRow.holds Try.pinned (OpenSpec.ofChange utfNextWrong)

/-- 'larumlaw02.UtfPairs': WHATEVER THE INPUT: true; the input reads as it did. -/
def utfPairsSpec : ChangeSpec := { name := "utfPairs", fn := fun _ => fun
  | [d1, d2, d3] => { results := [.lit (.bool true)], args := [d1, d2, d3] }
  | _ => none }
def utfPairsRow : OpenClaim := { program := "ytdeggcnccciapaa", sum := "ed88344e5fa266639d1e37d9dc00e380db694247c689988407ed1153e81ef5d8", func := "larum/larumlaw02.UtfPairs", spec := "utfPairs", apart := false }
def UtfPairsSaid : Prop := utfPairsRow.holds Try.pinned (OpenSpec.ofChange utfPairsSpec)

/-- ITS FALSE NEIGHBOUR: 'it returns false'. Refute it at one input. -/
def utfPairsWrong : ChangeSpec := { name := "utfPairs", fn := fun _ => fun
  | [d1, d2, d3] => { results := [.lit (.bool false)], args := [d1, d2, d3] }
  | _ => none }
def UtfPairsWrongFalsely : Prop := utfPairsRow.holds Try.pinned (OpenSpec.ofChange utfPairsWrong)

/-- 'larumlaw02.UtfPut': WHATEVER THE INPUT: true; the input reads as it did. -/
def utfPutSpec : ChangeSpec := { name := "utfPut", fn := fun _ => fun
  | [d] => { results := [.lit (.bool true)], args := [d] }
  | _ => none }
def utfPutRow : OpenClaim := { program := "ytdeggcnccciapaa", sum := "ed88344e5fa266639d1e37d9dc00e380db694247c689988407ed1153e81ef5d8", func := "larum/larumlaw02.UtfPut", spec := "utfPut", apart := false }
def UtfPutSaid : Prop := utfPutRow.holds Try.pinned (OpenSpec.ofChange utfPutSpec)

/-- ITS FALSE NEIGHBOUR: 'it returns false'. Refute it at one input. -/
def utfPutWrong : ChangeSpec := { name := "utfPut", fn := fun _ => fun
  | [d] => { results := [.lit (.bool false)], args := [d] }
  | _ => none }
def UtfPutWrongFalsely : Prop := utfPutRow.holds Try.pinned (OpenSpec.ofChange utfPutWrong)

/-- 'larumlaw02.UtfWalks': WHATEVER THE INPUT: true; the input reads as it did. -/
def utfWalksSpec : ChangeSpec := { name := "utfWalks", fn := fun _ => fun
  | [d] => { results := [.lit (.bool true)], args := [d] }
  | _ => none }
def utfWalksRow : OpenClaim := { program := "ytdeggcnccciapaa", sum := "ed88344e5fa266639d1e37d9dc00e380db694247c689988407ed1153e81ef5d8", func := "larum/larumlaw02.UtfWalks", spec := "utfWalks", apart := false }
def UtfWalksSaid : Prop := utfWalksRow.holds Try.pinned (OpenSpec.ofChange utfWalksSpec)

/-- ITS FALSE NEIGHBOUR: 'it returns false'. Refute it at one input. -/
def utfWalksWrong : ChangeSpec := { name := "utfWalks", fn := fun _ => fun
  | [d] => { results := [.lit (.bool false)], args := [d] }
  | _ => none }
def UtfWalksWrongFalsely : Prop := utfWalksRow.holds Try.pinned (OpenSpec.ofChange utfWalksWrong)

/- THE SECOND FORM. 'bulk': how many values and letters a reading holds, each counted each time it is reached (what is shared counts as often as it is met; a slice's spare places count too). A statement '..UptoSaid' is the law's where the arguments, and the package variables that the reading takes, are together of bulk at most 1048576: NARROWER than '..Said'. Prove '..Said' where nothing that the law and all that it calls make is longer than what came in: it says more and counts as full. Else prove '..UptoSaid'. A law counts once. -/
mutual
def uptoBulk {H : Type} : DataW H → Nat
  | .lit (.string bytes) => bytes.length + 1
  | .lit _ => 1
  | .nil => 1
  | .ptr d => uptoBulk d + 1
  | .slice elems spare => uptoBulkAll elems + uptoBulkAll spare + 1
  | .agg parts => uptoBulkAll parts + 1
  | .iface _ d => uptoBulk d + 1
  | .map entries => uptoBulkEntries entries + 1
  | .held _ => 1
def uptoBulkAll {H : Type} : List (DataW H) → Nat
  | [] => 0
  | d :: r => uptoBulk d + uptoBulkAll r
def uptoBulkEntries {H : Type} : List (Lit × DataW H) → Nat
  | [] => 0
  | x :: r => uptoBulkEntry x + uptoBulkEntries r
def uptoBulkEntry {H : Type} : Lit × DataW H → Nat
  | (.string bytes, d) => bytes.length + uptoBulk d + 1
  | (_, d) => uptoBulk d + 1
 end
def uptoSmall : (H : Type) → List (DataW H) → Bool := fun _ ds => decide (uptoBulkAll ds ≤ 1048576)
def OpenSpec.upto (s : _root_.Go.ChangeSpec) : _root_.Go.OpenSpec := { _root_.Go.OpenSpec.ofChange s with cond := some uptoSmall }

/-- 'larumlaw02.UtfNext', WHERE WHAT IT READS IS OF BULK AT MOST 1048576: true; the input reads as it did. -/
def utfNextUptoRow : OpenClaim := { program := "ytdeggcnccciapaa", sum := "ed88344e5fa266639d1e37d9dc00e380db694247c689988407ed1153e81ef5d8", func := "larum/larumlaw02.UtfNext", spec := "utfNext", apart := false, narrowed := true }
def UtfNextUptoSaid : Prop := utfNextUptoRow.holds Try.pinned (OpenSpec.upto utfNextSpec)

/-- 'larumlaw02.UtfPairs', WHERE WHAT IT READS IS OF BULK AT MOST 1048576: true; the input reads as it did. -/
def utfPairsUptoRow : OpenClaim := { program := "ytdeggcnccciapaa", sum := "ed88344e5fa266639d1e37d9dc00e380db694247c689988407ed1153e81ef5d8", func := "larum/larumlaw02.UtfPairs", spec := "utfPairs", apart := false, narrowed := true }
def UtfPairsUptoSaid : Prop := utfPairsUptoRow.holds Try.pinned (OpenSpec.upto utfPairsSpec)

/-- 'larumlaw02.UtfPut', WHERE WHAT IT READS IS OF BULK AT MOST 1048576: true; the input reads as it did. -/
def utfPutUptoRow : OpenClaim := { program := "ytdeggcnccciapaa", sum := "ed88344e5fa266639d1e37d9dc00e380db694247c689988407ed1153e81ef5d8", func := "larum/larumlaw02.UtfPut", spec := "utfPut", apart := false, narrowed := true }
def UtfPutUptoSaid : Prop := utfPutUptoRow.holds Try.pinned (OpenSpec.upto utfPutSpec)

/-- 'larumlaw02.UtfWalks', WHERE WHAT IT READS IS OF BULK AT MOST 1048576: true; the input reads as it did. -/
def utfWalksUptoRow : OpenClaim := { program := "ytdeggcnccciapaa", sum := "ed88344e5fa266639d1e37d9dc00e380db694247c689988407ed1153e81ef5d8", func := "larum/larumlaw02.UtfWalks", spec := "utfWalks", apart := false, narrowed := true }
def UtfWalksUptoSaid : Prop := utfWalksUptoRow.holds Try.pinned (OpenSpec.upto utfWalksSpec)

end Rows
end Go.Proofs.Ytdeggcnccciapaa
