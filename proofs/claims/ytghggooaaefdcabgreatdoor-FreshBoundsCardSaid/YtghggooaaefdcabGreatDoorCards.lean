/-
  DERIVED. GIVEN WITH THE SEED: THE CARDS: each row of YtghggooaaefdcabGreatDoorRows.lean that lists a variable, with what it lists TIED to the program's text (the seventh form; the later family's looks); each row that meets fmt, with fmt's text TOLD by the authors' own Lean function (tested against real Go, not proved from fmt's source: count such statements apart). THE CARD IS WHAT COUNTS. Prove the row's statement (the work); the ties are given (YtghggooaaefdcabGreatDoorTie.lean); close each card by the builder's one call (the guide's Derived/Test/ToyasCard.lean, 'card_holds'). Laid BY PROGRAM, IN A SANDBOX (cutbox-door.mjs). By AI agents, Wed Nov 11 2026. No macro, syntax, notation, axiom, sorry.
-/
import Derived.Test.YtghggooaaefdcabGreatDoorRows
import GoSem.ClaimSeven
namespace Go.Proofs.YtghggooaaefdcabGreatDoor
namespace Rows

/-- THE TIED CARD OF 'drawbridgelaw18.FreshStores'. -/
def freshStoresCard : Claim7 := { stood := { row := freshStoresRow, standIns := [], harness := (true, "f701a4c62ecb1cc5e50ab9e121251755b3c6ace80c5a096b3414f721a83df22e"), looks := false }, kinds := [], alts := [], laidByText := true, laidKinds := [.data, .pinned], laidTests := true, laidLooks := .later }
def FreshStoresCardSaid : Prop := Claim7.holds Tryz.pinned (.plain (OpenSpec.ofChange freshStoresSpec)) freshStoresCard

/-- THE TIED CARD OF 'drawbridgelaw18.FreshBounds'. -/
def freshBoundsCard : Claim7 := { stood := { row := freshBoundsRow, standIns := [], harness := (true, "f701a4c62ecb1cc5e50ab9e121251755b3c6ace80c5a096b3414f721a83df22e"), looks := false }, kinds := [], alts := [], laidByText := true, laidKinds := [.data, .pinned], laidTests := true, laidLooks := .later }
def FreshBoundsCardSaid : Prop := Claim7.holds Tryz.pinned (.plain (OpenSpec.ofChange freshBoundsSpec)) freshBoundsCard

/-- THE SECOND FORM's CARD OF 'drawbridgelaw18.FreshStores'. -/
def freshStoresUptoCard : Claim7 := { stood := { row := freshStoresUptoRow, standIns := [], harness := (true, "f701a4c62ecb1cc5e50ab9e121251755b3c6ace80c5a096b3414f721a83df22e"), looks := false }, kinds := [], alts := [], laidByText := true, laidKinds := [.data, .pinned], laidTests := true, laidLooks := .later }
def FreshStoresUptoCardSaid : Prop := Claim7.holds Tryz.pinned (.plain (OpenSpec.upto freshStoresSpec)) freshStoresUptoCard

/-- THE SECOND FORM's CARD OF 'drawbridgelaw18.FreshBounds'. -/
def freshBoundsUptoCard : Claim7 := { stood := { row := freshBoundsUptoRow, standIns := [], harness := (true, "f701a4c62ecb1cc5e50ab9e121251755b3c6ace80c5a096b3414f721a83df22e"), looks := false }, kinds := [], alts := [], laidByText := true, laidKinds := [.data, .pinned], laidTests := true, laidLooks := .later }
def FreshBoundsUptoCardSaid : Prop := Claim7.holds Tryz.pinned (.plain (OpenSpec.upto freshBoundsSpec)) freshBoundsUptoCard
end Rows
end Go.Proofs.YtghggooaaefdcabGreatDoor
