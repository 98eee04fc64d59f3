/-
  DERIVED. GIVEN WITH THE SEED: THE CARDS: each row of YtahhanmoonjgbaaDoorRows.lean that lists a variable, with what it lists TIED to the program's text (the seventh form; the later family's looks); each row that meets fmt, with fmt's text TOLD by the authors' own Lean function (tested against real Go, not proved from fmt's source: count such statements apart). THE CARD IS WHAT COUNTS. Prove the row's statement (the work); the ties are given (YtahhanmoonjgbaaDoorTie.lean); close each card by the builder's one call (the guide's Derived/Test/ToyasCard.lean, 'card_holds'). Laid BY PROGRAM, IN A SANDBOX (cutbox-door.mjs). By AI agents, Wed Nov 11 2026. No macro, syntax, notation, axiom, sorry.
-/
import Derived.Test.YtahhanmoonjgbaaDoorRows
import GoSem.ClaimSeven
namespace Go.Proofs.YtahhanmoonjgbaaDoor
namespace Rows

/-- THE TIED CARD OF 'larumlaw01.CharsFields'. -/
def charsFieldsCard : Claim7 := { stood := { row := charsFieldsRow, standIns := [], harness := (true, "70ba94e92d50cb51e9a07aaeb2f41dea0b69fc0e729d94ec9ade9b87f45b90ba"), looks := false }, kinds := [], alts := [], laidByText := true, laidKinds := [.data, .pinned], laidTests := true, laidLooks := .later }
def CharsFieldsCardSaid : Prop := Claim7.holds Tryd.pinned (.plain (OpenSpec.ofChange charsFieldsSpec)) charsFieldsCard

/-- THE TIED CARD OF 'larumlaw01.CharsAll'. -/
def charsAllCard : Claim7 := { stood := { row := charsAllRow, standIns := [], harness := (true, "70ba94e92d50cb51e9a07aaeb2f41dea0b69fc0e729d94ec9ade9b87f45b90ba"), looks := false }, kinds := [], alts := [], laidByText := true, laidKinds := [.data, .pinned], laidTests := true, laidLooks := .later }
def CharsAllCardSaid : Prop := Claim7.holds Tryd.pinned (.plain (OpenSpec.ofChange charsAllSpec)) charsAllCard

/-- THE TIED CARD OF 'larumlaw01.CharsAre'. -/
def charsAreCard : Claim7 := { stood := { row := charsAreRow, standIns := [], harness := (true, "70ba94e92d50cb51e9a07aaeb2f41dea0b69fc0e729d94ec9ade9b87f45b90ba"), looks := false }, kinds := [], alts := [], laidByText := true, laidKinds := [.data, .pinned], laidTests := true, laidLooks := .later }
def CharsAreCardSaid : Prop := Claim7.holds Tryd.pinned (.plain (OpenSpec.ofChange charsAreSpec)) charsAreCard

/-- THE TIED CARD OF 'larumlaw01.CharsLower'. -/
def charsLowerCard : Claim7 := { stood := { row := charsLowerRow, standIns := [], harness := (true, "70ba94e92d50cb51e9a07aaeb2f41dea0b69fc0e729d94ec9ade9b87f45b90ba"), looks := false }, kinds := [], alts := [], laidByText := true, laidKinds := [.data, .pinned], laidTests := true, laidLooks := .later }
def CharsLowerCardSaid : Prop := Claim7.holds Tryd.pinned (.plain (OpenSpec.ofChange charsLowerSpec)) charsLowerCard

/-- THE SECOND FORM's CARD OF 'larumlaw01.CharsFields'. -/
def charsFieldsUptoCard : Claim7 := { stood := { row := charsFieldsUptoRow, standIns := [], harness := (true, "70ba94e92d50cb51e9a07aaeb2f41dea0b69fc0e729d94ec9ade9b87f45b90ba"), looks := false }, kinds := [], alts := [], laidByText := true, laidKinds := [.data, .pinned], laidTests := true, laidLooks := .later }
def CharsFieldsUptoCardSaid : Prop := Claim7.holds Tryd.pinned (.plain (OpenSpec.upto charsFieldsSpec)) charsFieldsUptoCard

/-- THE SECOND FORM's CARD OF 'larumlaw01.CharsAll'. -/
def charsAllUptoCard : Claim7 := { stood := { row := charsAllUptoRow, standIns := [], harness := (true, "70ba94e92d50cb51e9a07aaeb2f41dea0b69fc0e729d94ec9ade9b87f45b90ba"), looks := false }, kinds := [], alts := [], laidByText := true, laidKinds := [.data, .pinned], laidTests := true, laidLooks := .later }
def CharsAllUptoCardSaid : Prop := Claim7.holds Tryd.pinned (.plain (OpenSpec.upto charsAllSpec)) charsAllUptoCard

/-- THE SECOND FORM's CARD OF 'larumlaw01.CharsAre'. -/
def charsAreUptoCard : Claim7 := { stood := { row := charsAreUptoRow, standIns := [], harness := (true, "70ba94e92d50cb51e9a07aaeb2f41dea0b69fc0e729d94ec9ade9b87f45b90ba"), looks := false }, kinds := [], alts := [], laidByText := true, laidKinds := [.data, .pinned], laidTests := true, laidLooks := .later }
def CharsAreUptoCardSaid : Prop := Claim7.holds Tryd.pinned (.plain (OpenSpec.upto charsAreSpec)) charsAreUptoCard

/-- THE SECOND FORM's CARD OF 'larumlaw01.CharsLower'. -/
def charsLowerUptoCard : Claim7 := { stood := { row := charsLowerUptoRow, standIns := [], harness := (true, "70ba94e92d50cb51e9a07aaeb2f41dea0b69fc0e729d94ec9ade9b87f45b90ba"), looks := false }, kinds := [], alts := [], laidByText := true, laidKinds := [.data, .pinned], laidTests := true, laidLooks := .later }
def CharsLowerUptoCardSaid : Prop := Claim7.holds Tryd.pinned (.plain (OpenSpec.upto charsLowerSpec)) charsLowerUptoCard
end Rows
end Go.Proofs.YtahhanmoonjgbaaDoor
