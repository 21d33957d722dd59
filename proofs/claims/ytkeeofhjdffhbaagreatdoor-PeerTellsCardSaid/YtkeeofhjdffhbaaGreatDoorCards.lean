/-
  DERIVED. GIVEN WITH THE SEED: THE CARDS: each row of YtkeeofhjdffhbaaGreatDoorRows.lean that lists a variable, with what it lists TIED to the program's text (the seventh form; the later family's looks); each row that meets fmt, with fmt's text TOLD by the authors' own Lean function (tested against real Go, not proved from fmt's source: count such statements apart). THE CARD IS WHAT COUNTS. Prove the row's statement (the work); the ties are given (YtkeeofhjdffhbaaGreatDoorTie.lean); close each card by the builder's one call (the guide's Derived/Test/ToyasCard.lean, 'card_holds'). Laid BY PROGRAM, IN A SANDBOX (cutbox-door.mjs). By AI agents, Wed Nov 11 2026. No macro, syntax, notation, axiom, sorry.
-/
import Derived.Test.YtkeeofhjdffhbaaGreatDoorRows
import GoSem.ClaimSeven
namespace Go.Proofs.YtkeeofhjdffhbaaGreatDoor
namespace Rows

/-- THE TIED CARD OF 'drawbridgelaw24.PeerTells'. -/
def peerTellsCard : Claim7 := { stood := { row := peerTellsRow, standIns := [], harness := (true, "1bdce3b7b0d3ee114b61890f10a1e16b3d84ed9dc4507469affea770ab85e920"), looks := true }, kinds := [], alts := [], laidByText := true, laidKinds := [.data, .pinned], laidTests := true, laidLooks := .later }
def PeerTellsCardSaid : Prop := Claim7.holds Tryz.pinned (.plain (OpenSpec.ofChange peerTellsSpec)) peerTellsCard

/-- THE TIED CARD OF 'drawbridgelaw22.ConnBack'. -/
def connBackCard : Claim7 := { stood := { row := connBackRow, standIns := [], harness := (true, "1bdce3b7b0d3ee114b61890f10a1e16b3d84ed9dc4507469affea770ab85e920"), looks := true }, kinds := [], alts := [], laidByText := true, laidKinds := [.data, .pinned], laidTests := true, laidLooks := .later }
def ConnBackCardSaid : Prop := Claim7.holds Tryz.pinned (.plain (OpenSpec.ofChange connBackSpec)) connBackCard

/-- THE TIED CARD OF 'drawbridgelaw22.ConnWrong'. -/
def connWrongCard : Claim7 := { stood := { row := connWrongRow, standIns := [], harness := (true, "1bdce3b7b0d3ee114b61890f10a1e16b3d84ed9dc4507469affea770ab85e920"), looks := true }, kinds := [], alts := [], laidByText := true, laidKinds := [.data, .pinned], laidTests := true, laidLooks := .later }
def ConnWrongCardSaid : Prop := Claim7.holds Tryz.pinned (.plain (OpenSpec.ofChange connWrongSpec)) connWrongCard

/-- THE SECOND FORM's CARD OF 'drawbridgelaw24.PeerTells'. -/
def peerTellsUptoCard : Claim7 := { stood := { row := peerTellsUptoRow, standIns := [], harness := (true, "1bdce3b7b0d3ee114b61890f10a1e16b3d84ed9dc4507469affea770ab85e920"), looks := true }, kinds := [], alts := [], laidByText := true, laidKinds := [.data, .pinned], laidTests := true, laidLooks := .later }
def PeerTellsUptoCardSaid : Prop := Claim7.holds Tryz.pinned (.plain (OpenSpec.upto peerTellsSpec)) peerTellsUptoCard

/-- THE SECOND FORM's CARD OF 'drawbridgelaw22.ConnBack'. -/
def connBackUptoCard : Claim7 := { stood := { row := connBackUptoRow, standIns := [], harness := (true, "1bdce3b7b0d3ee114b61890f10a1e16b3d84ed9dc4507469affea770ab85e920"), looks := true }, kinds := [], alts := [], laidByText := true, laidKinds := [.data, .pinned], laidTests := true, laidLooks := .later }
def ConnBackUptoCardSaid : Prop := Claim7.holds Tryz.pinned (.plain (OpenSpec.upto connBackSpec)) connBackUptoCard

/-- THE SECOND FORM's CARD OF 'drawbridgelaw22.ConnWrong'. -/
def connWrongUptoCard : Claim7 := { stood := { row := connWrongUptoRow, standIns := [], harness := (true, "1bdce3b7b0d3ee114b61890f10a1e16b3d84ed9dc4507469affea770ab85e920"), looks := true }, kinds := [], alts := [], laidByText := true, laidKinds := [.data, .pinned], laidTests := true, laidLooks := .later }
def ConnWrongUptoCardSaid : Prop := Claim7.holds Tryz.pinned (.plain (OpenSpec.upto connWrongSpec)) connWrongUptoCard
end Rows
end Go.Proofs.YtkeeofhjdffhbaaGreatDoor
