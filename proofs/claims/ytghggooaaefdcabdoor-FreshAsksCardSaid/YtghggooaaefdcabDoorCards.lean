/-
  DERIVED. GIVEN WITH THE SEED: THE CARDS: each row of YtghggooaaefdcabDoorRows.lean that lists a variable, with what it lists TIED to the program's text (the seventh form; the later family's looks); each row that meets fmt, with fmt's text TOLD by the authors' own Lean function (tested against real Go, not proved from fmt's source: count such statements apart). THE CARD IS WHAT COUNTS. Prove the row's statement (the work); the ties are given (YtghggooaaefdcabDoorTie.lean); close each card by the builder's one call (the guide's Derived/Test/ToyasCard.lean, 'card_holds'). Laid BY PROGRAM, IN A SANDBOX (cutbox-door.mjs). By AI agents, Wed Nov 11 2026. No macro, syntax, notation, axiom, sorry.
-/
import Derived.Test.YtghggooaaefdcabDoorRows
import GoSem.ClaimSeven
namespace Go.Proofs.YtghggooaaefdcabDoor
namespace Rows

/-- THE TIED CARD OF 'drawbridgelaw18.FreshAsks'. -/
def freshAsksCard : Claim7 := { stood := { row := freshAsksRow, standIns := [], harness := (true, "1fddc1188d28f07f8294703e0d3306a4f8cfa6e8e37c57933f12de7c04638e17"), looks := false }, kinds := [], alts := [], laidByText := true, laidKinds := [.data, .pinned], laidTests := true, laidLooks := .later }
def FreshAsksCardSaid : Prop := Claim7.holds Tryd.pinned (.plain (OpenSpec.ofChange freshAsksSpec)) freshAsksCard

/-- THE SECOND FORM's CARD OF 'drawbridgelaw18.FreshAsks'. -/
def freshAsksUptoCard : Claim7 := { stood := { row := freshAsksUptoRow, standIns := [], harness := (true, "1fddc1188d28f07f8294703e0d3306a4f8cfa6e8e37c57933f12de7c04638e17"), looks := false }, kinds := [], alts := [], laidByText := true, laidKinds := [.data, .pinned], laidTests := true, laidLooks := .later }
def FreshAsksUptoCardSaid : Prop := Claim7.holds Tryd.pinned (.plain (OpenSpec.upto freshAsksSpec)) freshAsksUptoCard
end Rows
end Go.Proofs.YtghggooaaefdcabDoor
