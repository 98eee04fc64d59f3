/-
  DERIVED. GIVEN WITH THE SEED: THE CARDS: each row of YtedfpgelcdekoaaDoorRows.lean that lists a variable, with what it lists TIED to the program's text (the seventh form; the later family's looks); each row that meets fmt, with fmt's text TOLD by the authors' own Lean function (tested against real Go, not proved from fmt's source: count such statements apart). THE CARD IS WHAT COUNTS. Prove the row's statement (the work); the ties are given (YtedfpgelcdekoaaDoorTie.lean); close each card by the builder's one call (the guide's Derived/Test/ToyasCard.lean, 'card_holds'). Laid BY PROGRAM, IN A SANDBOX (cutbox-door.mjs). By AI agents, Wed Nov 11 2026. No macro, syntax, notation, axiom, sorry.
-/
import Derived.Test.YtedfpgelcdekoaaDoorRows
import GoSem.ClaimSeven
namespace Go.Proofs.YtedfpgelcdekoaaDoor
namespace Rows

/-- THE TIED CARD OF 'larumlaw27.PageNames'. -/
def pageNamesCard : Claim7 := { stood := { row := pageNamesRow, standIns := [], harness := (true, "6b3e2c316bceca336da121754225e898a2929bc2fcff058ee81380618c6b6895"), looks := false }, kinds := [], alts := [], laidByText := true, laidKinds := [.data, .pinned], laidTests := true, laidLooks := .later }
def PageNamesCardSaid : Prop := Claim7.holds Tryd.pinned (.plain (OpenSpec.ofChange pageNamesSpec)) pageNamesCard

/-- THE SECOND FORM's CARD OF 'larumlaw27.PageNames'. -/
def pageNamesUptoCard : Claim7 := { stood := { row := pageNamesUptoRow, standIns := [], harness := (true, "6b3e2c316bceca336da121754225e898a2929bc2fcff058ee81380618c6b6895"), looks := false }, kinds := [], alts := [], laidByText := true, laidKinds := [.data, .pinned], laidTests := true, laidLooks := .later }
def PageNamesUptoCardSaid : Prop := Claim7.holds Tryd.pinned (.plain (OpenSpec.upto pageNamesSpec)) pageNamesUptoCard
end Rows
end Go.Proofs.YtedfpgelcdekoaaDoor
