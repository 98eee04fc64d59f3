/-
  DERIVED. GIVEN WITH THE SEED: THE CARDS: each row of YteoicfgjijmigaaDoorRows.lean that lists a variable, with what it lists TIED to the program's text (the seventh form; the later family's looks); each row that meets fmt, with fmt's text TOLD by the authors' own Lean function (tested against real Go, not proved from fmt's source: count such statements apart). THE CARD IS WHAT COUNTS. Prove the row's statement (the work); the ties are given (YteoicfgjijmigaaDoorTie.lean); close each card by the builder's one call (the guide's Derived/Test/ToyasCard.lean, 'card_holds'). Laid BY PROGRAM, IN A SANDBOX (cutbox-door.mjs). By AI agents, Wed Nov 11 2026. No macro, syntax, notation, axiom, sorry.
-/
import Derived.Test.YteoicfgjijmigaaDoorRows
import GoSem.ClaimSeven
namespace Go.Proofs.YteoicfgjijmigaaDoor
namespace Rows

/-- THE TIED CARD OF 'larumlaw09.EtagHas'. -/
def etagHasCard : Claim7 := { stood := { row := etagHasRow, standIns := [], harness := (true, "55f8f68daf9a60f81d783ab3e74adfc217a8e4810482e4b7233a11f5695ac734"), looks := false }, kinds := [], alts := [], laidByText := true, laidKinds := [.data, .pinned], laidTests := true, laidLooks := .later }
def EtagHasCardSaid : Prop := Claim7.holds Tryd.pinned (.plain (OpenSpec.ofChange etagHasSpec)) etagHasCard

/-- THE TIED CARD OF 'larumlaw09.EtagJoined'. -/
def etagJoinedCard : Claim7 := { stood := { row := etagJoinedRow, standIns := [], harness := (true, "55f8f68daf9a60f81d783ab3e74adfc217a8e4810482e4b7233a11f5695ac734"), looks := false }, kinds := [], alts := [], laidByText := true, laidKinds := [.data, .pinned], laidTests := true, laidLooks := .later }
def EtagJoinedCardSaid : Prop := Claim7.holds Tryd.pinned (.plain (OpenSpec.ofChange etagJoinedSpec)) etagJoinedCard

/-- THE TIED CARD OF 'larumlaw09.EtagParse'. -/
def etagParseCard : Claim7 := { stood := { row := etagParseRow, standIns := [], harness := (true, "55f8f68daf9a60f81d783ab3e74adfc217a8e4810482e4b7233a11f5695ac734"), looks := false }, kinds := [], alts := [], laidByText := true, laidKinds := [.data, .pinned], laidTests := true, laidLooks := .later }
def EtagParseCardSaid : Prop := Claim7.holds Tryd.pinned (.plain (OpenSpec.ofChange etagParseSpec)) etagParseCard

/-- THE TIED CARD OF 'larumlaw09.EtagPrint'. -/
def etagPrintCard : Claim7 := { stood := { row := etagPrintRow, standIns := [], harness := (true, "55f8f68daf9a60f81d783ab3e74adfc217a8e4810482e4b7233a11f5695ac734"), looks := false }, kinds := [], alts := [], laidByText := true, laidKinds := [.data, .pinned], laidTests := true, laidLooks := .later }
def EtagPrintCardSaid : Prop := Claim7.holds Tryd.pinned (.plain (OpenSpec.ofChange etagPrintSpec)) etagPrintCard

/-- THE TIED CARD OF 'larumlaw09.EtagNumber'. -/
def etagNumberCard : Claim7 := { stood := { row := etagNumberRow, standIns := [], harness := (true, "55f8f68daf9a60f81d783ab3e74adfc217a8e4810482e4b7233a11f5695ac734"), looks := false }, kinds := [], alts := [], laidByText := true, laidKinds := [.data, .pinned], laidTests := true, laidLooks := .later }
def EtagNumberCardSaid : Prop := Claim7.holds Tryd.pinned (.plain (OpenSpec.ofChange etagNumberSpec)) etagNumberCard

/-- THE SECOND FORM's CARD OF 'larumlaw09.EtagHas'. -/
def etagHasUptoCard : Claim7 := { stood := { row := etagHasUptoRow, standIns := [], harness := (true, "55f8f68daf9a60f81d783ab3e74adfc217a8e4810482e4b7233a11f5695ac734"), looks := false }, kinds := [], alts := [], laidByText := true, laidKinds := [.data, .pinned], laidTests := true, laidLooks := .later }
def EtagHasUptoCardSaid : Prop := Claim7.holds Tryd.pinned (.plain (OpenSpec.upto etagHasSpec)) etagHasUptoCard

/-- THE SECOND FORM's CARD OF 'larumlaw09.EtagJoined'. -/
def etagJoinedUptoCard : Claim7 := { stood := { row := etagJoinedUptoRow, standIns := [], harness := (true, "55f8f68daf9a60f81d783ab3e74adfc217a8e4810482e4b7233a11f5695ac734"), looks := false }, kinds := [], alts := [], laidByText := true, laidKinds := [.data, .pinned], laidTests := true, laidLooks := .later }
def EtagJoinedUptoCardSaid : Prop := Claim7.holds Tryd.pinned (.plain (OpenSpec.upto etagJoinedSpec)) etagJoinedUptoCard

/-- THE SECOND FORM's CARD OF 'larumlaw09.EtagParse'. -/
def etagParseUptoCard : Claim7 := { stood := { row := etagParseUptoRow, standIns := [], harness := (true, "55f8f68daf9a60f81d783ab3e74adfc217a8e4810482e4b7233a11f5695ac734"), looks := false }, kinds := [], alts := [], laidByText := true, laidKinds := [.data, .pinned], laidTests := true, laidLooks := .later }
def EtagParseUptoCardSaid : Prop := Claim7.holds Tryd.pinned (.plain (OpenSpec.upto etagParseSpec)) etagParseUptoCard

/-- THE SECOND FORM's CARD OF 'larumlaw09.EtagPrint'. -/
def etagPrintUptoCard : Claim7 := { stood := { row := etagPrintUptoRow, standIns := [], harness := (true, "55f8f68daf9a60f81d783ab3e74adfc217a8e4810482e4b7233a11f5695ac734"), looks := false }, kinds := [], alts := [], laidByText := true, laidKinds := [.data, .pinned], laidTests := true, laidLooks := .later }
def EtagPrintUptoCardSaid : Prop := Claim7.holds Tryd.pinned (.plain (OpenSpec.upto etagPrintSpec)) etagPrintUptoCard

/-- THE SECOND FORM's CARD OF 'larumlaw09.EtagNumber'. -/
def etagNumberUptoCard : Claim7 := { stood := { row := etagNumberUptoRow, standIns := [], harness := (true, "55f8f68daf9a60f81d783ab3e74adfc217a8e4810482e4b7233a11f5695ac734"), looks := false }, kinds := [], alts := [], laidByText := true, laidKinds := [.data, .pinned], laidTests := true, laidLooks := .later }
def EtagNumberUptoCardSaid : Prop := Claim7.holds Tryd.pinned (.plain (OpenSpec.upto etagNumberSpec)) etagNumberUptoCard
end Rows
end Go.Proofs.YteoicfgjijmigaaDoor
