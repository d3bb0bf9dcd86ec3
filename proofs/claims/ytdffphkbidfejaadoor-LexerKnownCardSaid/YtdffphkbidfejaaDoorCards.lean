/-
  DERIVED. GIVEN WITH THE SEED: THE CARDS: each row of YtdffphkbidfejaaDoorRows.lean that lists a variable, with what it lists TIED to the program's text (the seventh form; the later family's looks); each row that meets fmt, with fmt's text TOLD by the authors' own Lean function (tested against real Go, not proved from fmt's source: count such statements apart). THE CARD IS WHAT COUNTS. Prove the row's statement (the work); the ties are given (YtdffphkbidfejaaDoorTie.lean); close each card by the builder's one call (the guide's Derived/Test/ToyasCard.lean, 'card_holds'). Laid BY PROGRAM, IN A SANDBOX (cutbox-door.mjs). By AI agents, Wed Nov 11 2026. No macro, syntax, notation, axiom, sorry.
-/
import Derived.Test.YtdffphkbidfejaaDoorRows
import GoSem.ClaimSeven
namespace Go.Proofs.YtdffphkbidfejaaDoor
namespace Rows

/-- THE TIED CARD OF 'mummerlaw05.LexerBack'. -/
def lexerBackCard : Claim7 := { stood := { row := lexerBackRow, standIns := [], harness := (true, "a28f413f24d9af801aa5e7006b802e0d71db48eaf34dee49c6ac62b7f1ab624c"), looks := true }, kinds := [], alts := [], laidByText := true, laidKinds := [.data, .data, .data, .data, .sentinel, .sentinel, .pinned], laidTests := true, laidLooks := .later }
def LexerBackCardSaid : Prop := Claim7.holds Tryd.pinned (.plain (OpenSpec.ofChange lexerBackSpec)) lexerBackCard

/-- THE TIED CARD OF 'mummerlaw05.LexerJoins'. -/
def lexerJoinsCard : Claim7 := { stood := { row := lexerJoinsRow, standIns := [], harness := (true, "a28f413f24d9af801aa5e7006b802e0d71db48eaf34dee49c6ac62b7f1ab624c"), looks := true }, kinds := [], alts := [], laidByText := true, laidKinds := [.data, .data, .data, .data, .sentinel, .sentinel, .pinned], laidTests := true, laidLooks := .later }
def LexerJoinsCardSaid : Prop := Claim7.holds Tryd.pinned (.plain (OpenSpec.ofChange lexerJoinsSpec)) lexerJoinsCard

/-- THE TIED CARD OF 'mummerlaw05.LexerTotal'. -/
def lexerTotalCard : Claim7 := { stood := { row := lexerTotalRow, standIns := [], harness := (true, "a28f413f24d9af801aa5e7006b802e0d71db48eaf34dee49c6ac62b7f1ab624c"), looks := true }, kinds := [], alts := [], laidByText := true, laidKinds := [.data, .data, .data, .data, .sentinel, .sentinel, .pinned], laidTests := true, laidLooks := .later }
def LexerTotalCardSaid : Prop := Claim7.holds Tryd.pinned (.plain (OpenSpec.ofChange lexerTotalSpec)) lexerTotalCard

/-- THE TIED CARD OF 'mummerlaw05.LexerSpaces'. -/
def lexerSpacesCard : Claim7 := { stood := { row := lexerSpacesRow, standIns := [], harness := (true, "a28f413f24d9af801aa5e7006b802e0d71db48eaf34dee49c6ac62b7f1ab624c"), looks := true }, kinds := [], alts := [], laidByText := true, laidKinds := [.data, .data, .data, .data, .sentinel, .sentinel, .pinned], laidTests := true, laidLooks := .later }
def LexerSpacesCardSaid : Prop := Claim7.holds Tryd.pinned (.plain (OpenSpec.ofChange lexerSpacesSpec)) lexerSpacesCard

/-- THE TIED CARD OF 'mummerlaw05.LexerKnown'. -/
def lexerKnownCard : Claim7 := { stood := { row := lexerKnownRow, standIns := [], harness := (true, "a28f413f24d9af801aa5e7006b802e0d71db48eaf34dee49c6ac62b7f1ab624c"), looks := true }, kinds := [], alts := [], laidByText := true, laidKinds := [.data, .data, .data, .data, .sentinel, .sentinel, .pinned], laidTests := true, laidLooks := .later }
def LexerKnownCardSaid : Prop := Claim7.holds Tryd.pinned (.plain (OpenSpec.ofChange lexerKnownSpec)) lexerKnownCard

/-- THE SECOND FORM's CARD OF 'mummerlaw05.LexerBack'. -/
def lexerBackUptoCard : Claim7 := { stood := { row := lexerBackUptoRow, standIns := [], harness := (true, "a28f413f24d9af801aa5e7006b802e0d71db48eaf34dee49c6ac62b7f1ab624c"), looks := true }, kinds := [], alts := [], laidByText := true, laidKinds := [.data, .data, .data, .data, .sentinel, .sentinel, .pinned], laidTests := true, laidLooks := .later }
def LexerBackUptoCardSaid : Prop := Claim7.holds Tryd.pinned (.plain (OpenSpec.upto lexerBackSpec)) lexerBackUptoCard

/-- THE SECOND FORM's CARD OF 'mummerlaw05.LexerJoins'. -/
def lexerJoinsUptoCard : Claim7 := { stood := { row := lexerJoinsUptoRow, standIns := [], harness := (true, "a28f413f24d9af801aa5e7006b802e0d71db48eaf34dee49c6ac62b7f1ab624c"), looks := true }, kinds := [], alts := [], laidByText := true, laidKinds := [.data, .data, .data, .data, .sentinel, .sentinel, .pinned], laidTests := true, laidLooks := .later }
def LexerJoinsUptoCardSaid : Prop := Claim7.holds Tryd.pinned (.plain (OpenSpec.upto lexerJoinsSpec)) lexerJoinsUptoCard

/-- THE SECOND FORM's CARD OF 'mummerlaw05.LexerTotal'. -/
def lexerTotalUptoCard : Claim7 := { stood := { row := lexerTotalUptoRow, standIns := [], harness := (true, "a28f413f24d9af801aa5e7006b802e0d71db48eaf34dee49c6ac62b7f1ab624c"), looks := true }, kinds := [], alts := [], laidByText := true, laidKinds := [.data, .data, .data, .data, .sentinel, .sentinel, .pinned], laidTests := true, laidLooks := .later }
def LexerTotalUptoCardSaid : Prop := Claim7.holds Tryd.pinned (.plain (OpenSpec.upto lexerTotalSpec)) lexerTotalUptoCard

/-- THE SECOND FORM's CARD OF 'mummerlaw05.LexerSpaces'. -/
def lexerSpacesUptoCard : Claim7 := { stood := { row := lexerSpacesUptoRow, standIns := [], harness := (true, "a28f413f24d9af801aa5e7006b802e0d71db48eaf34dee49c6ac62b7f1ab624c"), looks := true }, kinds := [], alts := [], laidByText := true, laidKinds := [.data, .data, .data, .data, .sentinel, .sentinel, .pinned], laidTests := true, laidLooks := .later }
def LexerSpacesUptoCardSaid : Prop := Claim7.holds Tryd.pinned (.plain (OpenSpec.upto lexerSpacesSpec)) lexerSpacesUptoCard

/-- THE SECOND FORM's CARD OF 'mummerlaw05.LexerKnown'. -/
def lexerKnownUptoCard : Claim7 := { stood := { row := lexerKnownUptoRow, standIns := [], harness := (true, "a28f413f24d9af801aa5e7006b802e0d71db48eaf34dee49c6ac62b7f1ab624c"), looks := true }, kinds := [], alts := [], laidByText := true, laidKinds := [.data, .data, .data, .data, .sentinel, .sentinel, .pinned], laidTests := true, laidLooks := .later }
def LexerKnownUptoCardSaid : Prop := Claim7.holds Tryd.pinned (.plain (OpenSpec.upto lexerKnownSpec)) lexerKnownUptoCard
end Rows
end Go.Proofs.YtdffphkbidfejaaDoor
