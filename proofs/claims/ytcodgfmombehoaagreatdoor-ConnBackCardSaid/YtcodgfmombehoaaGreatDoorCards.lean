/-
  DERIVED. GIVEN WITH THE SEED: THE CARDS: each row of YtcodgfmombehoaaGreatDoorRows.lean that lists a variable, with what it lists TIED to the program's text (the seventh form; the later family's looks); each row that meets fmt, with fmt's text TOLD by the authors' own Lean function (tested against real Go, not proved from fmt's source: count such statements apart). THE CARD IS WHAT COUNTS. Prove the row's statement (the work); the ties are given (YtcodgfmombehoaaGreatDoorTie.lean); close each card by the builder's one call (the guide's Derived/Test/ToyasCard.lean, 'card_holds'). Laid BY PROGRAM, IN A SANDBOX (cutbox-door.mjs). By AI agents, Wed Nov 11 2026. No macro, syntax, notation, axiom, sorry.
-/
import Derived.Test.YtcodgfmombehoaaGreatDoorRows
import GoSem.ClaimSeven
namespace Go.Proofs.YtcodgfmombehoaaGreatDoor
namespace Rows

/-- THE TIED CARD OF 'drawbridgelaw22.ConnBack'. -/
def connBackCard : Claim7 := { stood := { row := connBackRow, standIns := [], harness := (true, "4fae746f3fa17de18381e4edee3bcbb8719c62692bd68da7ad4f184574ad2b31"), looks := true }, kinds := [], alts := [], laidByText := true, laidKinds := [.data, .pinned], laidTests := true, laidLooks := .later }
def ConnBackCardSaid : Prop := Claim7.holds Tryz.pinned (.plain (OpenSpec.ofChange connBackSpec)) connBackCard

/-- THE SECOND FORM's CARD OF 'drawbridgelaw22.ConnBack'. -/
def connBackUptoCard : Claim7 := { stood := { row := connBackUptoRow, standIns := [], harness := (true, "4fae746f3fa17de18381e4edee3bcbb8719c62692bd68da7ad4f184574ad2b31"), looks := true }, kinds := [], alts := [], laidByText := true, laidKinds := [.data, .pinned], laidTests := true, laidLooks := .later }
def ConnBackUptoCardSaid : Prop := Claim7.holds Tryz.pinned (.plain (OpenSpec.upto connBackSpec)) connBackUptoCard
end Rows
end Go.Proofs.YtcodgfmombehoaaGreatDoor
