/-
  DERIVED. GIVEN WITH THE SEED: THE CARDS: each row of YtgmiekggdgmhkaaGreatDoorRows.lean that lists a variable, with what it lists TIED to the program's text (the seventh form; the later family's looks); each row that meets fmt, with fmt's text TOLD by the authors' own Lean function (tested against real Go, not proved from fmt's source: count such statements apart). THE CARD IS WHAT COUNTS. Prove the row's statement (the work); the ties are given (YtgmiekggdgmhkaaGreatDoorTie.lean); close each card by the builder's one call (the guide's Derived/Test/ToyasCard.lean, 'card_holds'). Laid BY PROGRAM, IN A SANDBOX (cutbox-door.mjs). By AI agents, Wed Nov 11 2026. No macro, syntax, notation, axiom, sorry.
-/
import Derived.Test.YtgmiekggdgmhkaaGreatDoorRows
import GoSem.ClaimSeven
namespace Go.Proofs.YtgmiekggdgmhkaaGreatDoor
namespace Rows

/-- THE TIED CARD OF 'mummerlaw04.DataNames'. -/
def dataNamesCard : Claim7 := { stood := { row := dataNamesRow, standIns := [], harness := (true, "99c3f162c4cddac7999326a59b86e4455b1cfdbbf30d7fd90ea702c7271fb952"), looks := false }, kinds := [], alts := [], laidByText := true, laidKinds := [.data, .pinned], laidTests := true, laidLooks := .later }
def DataNamesCardSaid : Prop := Claim7.holds Tryz.pinned (.plain (OpenSpec.ofChange dataNamesSpec)) dataNamesCard

/-- THE SECOND FORM's CARD OF 'mummerlaw04.DataNames'. -/
def dataNamesUptoCard : Claim7 := { stood := { row := dataNamesUptoRow, standIns := [], harness := (true, "99c3f162c4cddac7999326a59b86e4455b1cfdbbf30d7fd90ea702c7271fb952"), looks := false }, kinds := [], alts := [], laidByText := true, laidKinds := [.data, .pinned], laidTests := true, laidLooks := .later }
def DataNamesUptoCardSaid : Prop := Claim7.holds Tryz.pinned (.plain (OpenSpec.upto dataNamesSpec)) dataNamesUptoCard
end Rows
end Go.Proofs.YtgmiekggdgmhkaaGreatDoor
