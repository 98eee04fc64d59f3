/-
  DERIVED. GIVEN WITH THE SEED: THE CARDS: each row of YtpincmjianpmmaaGreatDoorRows.lean that lists a variable, with what it lists TIED to the program's text (the seventh form; the later family's looks); each row that meets fmt, with fmt's text TOLD by the authors' own Lean function (tested against real Go, not proved from fmt's source: count such statements apart). THE CARD IS WHAT COUNTS. Prove the row's statement (the work); the ties are given (YtpincmjianpmmaaGreatDoorTie.lean); close each card by the builder's one call (the guide's Derived/Test/ToyasCard.lean, 'card_holds'). Laid BY PROGRAM, IN A SANDBOX (cutbox-door.mjs). By AI agents, Wed Nov 11 2026. No macro, syntax, notation, axiom, sorry.
-/
import Derived.Test.YtpincmjianpmmaaGreatDoorRows
import GoSem.ClaimSeven
namespace Go.Proofs.YtpincmjianpmmaaGreatDoor
namespace Rows

/-- THE TIED CARD OF 'larumlaw10.HeadLine'. -/
def headLineCard : Claim7 := { stood := { row := headLineRow, standIns := [], harness := (true, "e673018e7375fe3aadfd57da70f4e76f1d4ae8954dc8af12d2f1247d0d0db213"), looks := true }, kinds := [], alts := [], laidByText := true, laidKinds := [.data, .handle, .pinned], laidTests := true, laidLooks := .later }
def HeadLineCardSaid : Prop := Claim7.holds Tryz.pinned (.plain (OpenSpec.ofChange headLineSpec)) headLineCard

/-- THE SECOND FORM's CARD OF 'larumlaw10.HeadLine'. -/
def headLineUptoCard : Claim7 := { stood := { row := headLineUptoRow, standIns := [], harness := (true, "e673018e7375fe3aadfd57da70f4e76f1d4ae8954dc8af12d2f1247d0d0db213"), looks := true }, kinds := [], alts := [], laidByText := true, laidKinds := [.data, .handle, .pinned], laidTests := true, laidLooks := .later }
def HeadLineUptoCardSaid : Prop := Claim7.holds Tryz.pinned (.plain (OpenSpec.upto headLineSpec)) headLineUptoCard
end Rows
end Go.Proofs.YtpincmjianpmmaaGreatDoor
