/-
  DERIVED. GIVEN WITH THE SEED: THE CARDS: each row of YtgmiekggdgmhkaaDoorRows.lean that lists a variable, with what it lists TIED to the program's text (the seventh form; the later family's looks); each row that meets fmt, with fmt's text TOLD by the authors' own Lean function (tested against real Go, not proved from fmt's source: count such statements apart). THE CARD IS WHAT COUNTS. Prove the row's statement (the work); the ties are given (YtgmiekggdgmhkaaDoorTie.lean); close each card by the builder's one call (the guide's Derived/Test/ToyasCard.lean, 'card_holds'). Laid BY PROGRAM, IN A SANDBOX (cutbox-door.mjs). By AI agents, Wed Nov 11 2026. No macro, syntax, notation, axiom, sorry.
-/
import Derived.Test.YtgmiekggdgmhkaaDoorRows
import GoSem.ClaimSeven
namespace Go.Proofs.YtgmiekggdgmhkaaDoor
namespace Rows

/-- THE TIED CARD OF 'mummerlaw04.DataChecks'. -/
def dataChecksCard : Claim7 := { stood := { row := dataChecksRow, standIns := [], harness := (true, "9d8f0f30e22eb5f04fc30855d8b196caa4bb375cf14a6056afa246f0d0f9a8da"), looks := false }, kinds := [], alts := [], laidByText := true, laidKinds := [.data, .pinned], laidTests := true, laidLooks := .later }
def DataChecksCardSaid : Prop := Claim7.holds Tryd.pinned (.plain (OpenSpec.ofChange dataChecksSpec)) dataChecksCard

/-- THE TIED CARD OF 'mummerlaw04.DataShapes'. -/
def dataShapesCard : Claim7 := { stood := { row := dataShapesRow, standIns := [], harness := (true, "9d8f0f30e22eb5f04fc30855d8b196caa4bb375cf14a6056afa246f0d0f9a8da"), looks := false }, kinds := [], alts := [], laidByText := true, laidKinds := [.data, .pinned], laidTests := true, laidLooks := .later }
def DataShapesCardSaid : Prop := Claim7.holds Tryd.pinned (.plain (OpenSpec.ofChange dataShapesSpec)) dataShapesCard

/-- THE TIED CARD OF 'mummerlaw04.DataPuts'. -/
def dataPutsCard : Claim7 := { stood := { row := dataPutsRow, standIns := [], harness := (true, "9d8f0f30e22eb5f04fc30855d8b196caa4bb375cf14a6056afa246f0d0f9a8da"), looks := false }, kinds := [], alts := [], laidByText := true, laidKinds := [.data, .pinned], laidTests := true, laidLooks := .later }
def DataPutsCardSaid : Prop := Claim7.holds Tryd.pinned (.plain (OpenSpec.ofChange dataPutsSpec)) dataPutsCard

/-- THE TIED CARD OF 'mummerlaw04.DataParts'. -/
def dataPartsCard : Claim7 := { stood := { row := dataPartsRow, standIns := [], harness := (true, "9d8f0f30e22eb5f04fc30855d8b196caa4bb375cf14a6056afa246f0d0f9a8da"), looks := false }, kinds := [], alts := [], laidByText := true, laidKinds := [.data, .pinned], laidTests := true, laidLooks := .later }
def DataPartsCardSaid : Prop := Claim7.holds Tryd.pinned (.plain (OpenSpec.ofChange dataPartsSpec)) dataPartsCard

/-- THE TIED CARD OF 'mummerlaw04.DataOrder'. -/
def dataOrderCard : Claim7 := { stood := { row := dataOrderRow, standIns := [], harness := (true, "9d8f0f30e22eb5f04fc30855d8b196caa4bb375cf14a6056afa246f0d0f9a8da"), looks := false }, kinds := [], alts := [], laidByText := true, laidKinds := [.data, .pinned], laidTests := true, laidLooks := .later }
def DataOrderCardSaid : Prop := Claim7.holds Tryd.pinned (.plain (OpenSpec.ofChange dataOrderSpec)) dataOrderCard

/-- THE TIED CARD OF 'mummerlaw04.DataAsks'. -/
def dataAsksCard : Claim7 := { stood := { row := dataAsksRow, standIns := [], harness := (true, "9d8f0f30e22eb5f04fc30855d8b196caa4bb375cf14a6056afa246f0d0f9a8da"), looks := false }, kinds := [], alts := [], laidByText := true, laidKinds := [.data, .pinned], laidTests := true, laidLooks := .later }
def DataAsksCardSaid : Prop := Claim7.holds Tryd.pinned (.plain (OpenSpec.ofChange dataAsksSpec)) dataAsksCard

/-- THE TIED CARD OF 'mummerlaw04.DataRound'. -/
def dataRoundCard : Claim7 := { stood := { row := dataRoundRow, standIns := [], harness := (true, "9d8f0f30e22eb5f04fc30855d8b196caa4bb375cf14a6056afa246f0d0f9a8da"), looks := false }, kinds := [], alts := [], laidByText := true, laidKinds := [.data, .pinned], laidTests := true, laidLooks := .later }
def DataRoundCardSaid : Prop := Claim7.holds Tryd.pinned (.plain (OpenSpec.ofChange dataRoundSpec)) dataRoundCard

/-- THE TIED CARD OF 'mummerlaw04.DataBack'. -/
def dataBackCard : Claim7 := { stood := { row := dataBackRow, standIns := [], harness := (true, "9d8f0f30e22eb5f04fc30855d8b196caa4bb375cf14a6056afa246f0d0f9a8da"), looks := false }, kinds := [], alts := [], laidByText := true, laidKinds := [.data, .pinned], laidTests := true, laidLooks := .later }
def DataBackCardSaid : Prop := Claim7.holds Tryd.pinned (.plain (OpenSpec.ofChange dataBackSpec)) dataBackCard

/-- THE TIED CARD OF 'mummerlaw04.DataKnown'. -/
def dataKnownCard : Claim7 := { stood := { row := dataKnownRow, standIns := [], harness := (true, "9d8f0f30e22eb5f04fc30855d8b196caa4bb375cf14a6056afa246f0d0f9a8da"), looks := false }, kinds := [], alts := [], laidByText := true, laidKinds := [.data, .pinned], laidTests := true, laidLooks := .later }
def DataKnownCardSaid : Prop := Claim7.holds Tryd.pinned (.plain (OpenSpec.ofChange dataKnownSpec)) dataKnownCard

/-- THE SECOND FORM's CARD OF 'mummerlaw04.DataChecks'. -/
def dataChecksUptoCard : Claim7 := { stood := { row := dataChecksUptoRow, standIns := [], harness := (true, "9d8f0f30e22eb5f04fc30855d8b196caa4bb375cf14a6056afa246f0d0f9a8da"), looks := false }, kinds := [], alts := [], laidByText := true, laidKinds := [.data, .pinned], laidTests := true, laidLooks := .later }
def DataChecksUptoCardSaid : Prop := Claim7.holds Tryd.pinned (.plain (OpenSpec.upto dataChecksSpec)) dataChecksUptoCard

/-- THE SECOND FORM's CARD OF 'mummerlaw04.DataShapes'. -/
def dataShapesUptoCard : Claim7 := { stood := { row := dataShapesUptoRow, standIns := [], harness := (true, "9d8f0f30e22eb5f04fc30855d8b196caa4bb375cf14a6056afa246f0d0f9a8da"), looks := false }, kinds := [], alts := [], laidByText := true, laidKinds := [.data, .pinned], laidTests := true, laidLooks := .later }
def DataShapesUptoCardSaid : Prop := Claim7.holds Tryd.pinned (.plain (OpenSpec.upto dataShapesSpec)) dataShapesUptoCard

/-- THE SECOND FORM's CARD OF 'mummerlaw04.DataPuts'. -/
def dataPutsUptoCard : Claim7 := { stood := { row := dataPutsUptoRow, standIns := [], harness := (true, "9d8f0f30e22eb5f04fc30855d8b196caa4bb375cf14a6056afa246f0d0f9a8da"), looks := false }, kinds := [], alts := [], laidByText := true, laidKinds := [.data, .pinned], laidTests := true, laidLooks := .later }
def DataPutsUptoCardSaid : Prop := Claim7.holds Tryd.pinned (.plain (OpenSpec.upto dataPutsSpec)) dataPutsUptoCard

/-- THE SECOND FORM's CARD OF 'mummerlaw04.DataParts'. -/
def dataPartsUptoCard : Claim7 := { stood := { row := dataPartsUptoRow, standIns := [], harness := (true, "9d8f0f30e22eb5f04fc30855d8b196caa4bb375cf14a6056afa246f0d0f9a8da"), looks := false }, kinds := [], alts := [], laidByText := true, laidKinds := [.data, .pinned], laidTests := true, laidLooks := .later }
def DataPartsUptoCardSaid : Prop := Claim7.holds Tryd.pinned (.plain (OpenSpec.upto dataPartsSpec)) dataPartsUptoCard

/-- THE SECOND FORM's CARD OF 'mummerlaw04.DataOrder'. -/
def dataOrderUptoCard : Claim7 := { stood := { row := dataOrderUptoRow, standIns := [], harness := (true, "9d8f0f30e22eb5f04fc30855d8b196caa4bb375cf14a6056afa246f0d0f9a8da"), looks := false }, kinds := [], alts := [], laidByText := true, laidKinds := [.data, .pinned], laidTests := true, laidLooks := .later }
def DataOrderUptoCardSaid : Prop := Claim7.holds Tryd.pinned (.plain (OpenSpec.upto dataOrderSpec)) dataOrderUptoCard

/-- THE SECOND FORM's CARD OF 'mummerlaw04.DataAsks'. -/
def dataAsksUptoCard : Claim7 := { stood := { row := dataAsksUptoRow, standIns := [], harness := (true, "9d8f0f30e22eb5f04fc30855d8b196caa4bb375cf14a6056afa246f0d0f9a8da"), looks := false }, kinds := [], alts := [], laidByText := true, laidKinds := [.data, .pinned], laidTests := true, laidLooks := .later }
def DataAsksUptoCardSaid : Prop := Claim7.holds Tryd.pinned (.plain (OpenSpec.upto dataAsksSpec)) dataAsksUptoCard

/-- THE SECOND FORM's CARD OF 'mummerlaw04.DataRound'. -/
def dataRoundUptoCard : Claim7 := { stood := { row := dataRoundUptoRow, standIns := [], harness := (true, "9d8f0f30e22eb5f04fc30855d8b196caa4bb375cf14a6056afa246f0d0f9a8da"), looks := false }, kinds := [], alts := [], laidByText := true, laidKinds := [.data, .pinned], laidTests := true, laidLooks := .later }
def DataRoundUptoCardSaid : Prop := Claim7.holds Tryd.pinned (.plain (OpenSpec.upto dataRoundSpec)) dataRoundUptoCard

/-- THE SECOND FORM's CARD OF 'mummerlaw04.DataBack'. -/
def dataBackUptoCard : Claim7 := { stood := { row := dataBackUptoRow, standIns := [], harness := (true, "9d8f0f30e22eb5f04fc30855d8b196caa4bb375cf14a6056afa246f0d0f9a8da"), looks := false }, kinds := [], alts := [], laidByText := true, laidKinds := [.data, .pinned], laidTests := true, laidLooks := .later }
def DataBackUptoCardSaid : Prop := Claim7.holds Tryd.pinned (.plain (OpenSpec.upto dataBackSpec)) dataBackUptoCard

/-- THE SECOND FORM's CARD OF 'mummerlaw04.DataKnown'. -/
def dataKnownUptoCard : Claim7 := { stood := { row := dataKnownUptoRow, standIns := [], harness := (true, "9d8f0f30e22eb5f04fc30855d8b196caa4bb375cf14a6056afa246f0d0f9a8da"), looks := false }, kinds := [], alts := [], laidByText := true, laidKinds := [.data, .pinned], laidTests := true, laidLooks := .later }
def DataKnownUptoCardSaid : Prop := Claim7.holds Tryd.pinned (.plain (OpenSpec.upto dataKnownSpec)) dataKnownUptoCard
end Rows
end Go.Proofs.YtgmiekggdgmhkaaDoor
