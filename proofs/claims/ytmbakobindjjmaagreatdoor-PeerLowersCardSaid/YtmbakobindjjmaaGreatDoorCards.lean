/-
  DERIVED. GIVEN WITH THE SEED: THE CARDS: each row of YtmbakobindjjmaaGreatDoorRows.lean that lists a variable, with what it lists TIED to the program's text (the seventh form; the later family's looks); each row that meets fmt, with fmt's text TOLD by the authors' own Lean function (tested against real Go, not proved from fmt's source: count such statements apart). THE CARD IS WHAT COUNTS. Prove the row's statement (the work); the ties are given (YtmbakobindjjmaaGreatDoorTie.lean); close each card by the builder's one call (the guide's Derived/Test/ToyasCard.lean, 'card_holds'). Laid BY PROGRAM, IN A SANDBOX (cutbox-door.mjs). By AI agents, Wed Nov 11 2026. No macro, syntax, notation, axiom, sorry.
-/
import Derived.Test.YtmbakobindjjmaaGreatDoorRows
import GoSem.ClaimSeven
namespace Go.Proofs.YtmbakobindjjmaaGreatDoor
namespace Rows

/-- THE TIED CARD OF 'drawbridgelaw24.PeerLowers'. -/
def peerLowersCard : Claim7 := { stood := { row := peerLowersRow, standIns := [], harness := (true, "6540d9b13d69659d6c6369720df31b6423e8fd94fec93a12ced73319704a1884"), looks := true }, kinds := [], alts := [], laidByText := true, laidKinds := [.data, .pinned], laidTests := true, laidLooks := .later }
def PeerLowersCardSaid : Prop := Claim7.holds Tryz.pinned (.plain (OpenSpec.ofChange peerLowersSpec)) peerLowersCard

/-- THE TIED CARD OF 'drawbridgelaw24.PeerCuts'. -/
def peerCutsCard : Claim7 := { stood := { row := peerCutsRow, standIns := [], harness := (true, "6540d9b13d69659d6c6369720df31b6423e8fd94fec93a12ced73319704a1884"), looks := true }, kinds := [], alts := [], laidByText := true, laidKinds := [.data, .pinned], laidTests := true, laidLooks := .later }
def PeerCutsCardSaid : Prop := Claim7.holds Tryz.pinned (.plain (OpenSpec.ofChange peerCutsSpec)) peerCutsCard

/-- THE TIED CARD OF 'drawbridgelaw24.PeerTells'. -/
def peerTellsCard : Claim7 := { stood := { row := peerTellsRow, standIns := [], harness := (true, "6540d9b13d69659d6c6369720df31b6423e8fd94fec93a12ced73319704a1884"), looks := true }, kinds := [], alts := [], laidByText := true, laidKinds := [.data, .pinned], laidTests := true, laidLooks := .later }
def PeerTellsCardSaid : Prop := Claim7.holds Tryz.pinned (.plain (OpenSpec.ofChange peerTellsSpec)) peerTellsCard

/-- THE TIED CARD OF 'drawbridgelaw24.PeerNone'. -/
def peerNoneCard : Claim7 := { stood := { row := peerNoneRow, standIns := [], harness := (true, "6540d9b13d69659d6c6369720df31b6423e8fd94fec93a12ced73319704a1884"), looks := true }, kinds := [], alts := [], laidByText := true, laidKinds := [.data, .pinned], laidTests := true, laidLooks := .later }
def PeerNoneCardSaid : Prop := Claim7.holds Tryz.pinned (.plain (OpenSpec.ofChange peerNoneSpec)) peerNoneCard

/-- THE SECOND FORM's CARD OF 'drawbridgelaw24.PeerLowers'. -/
def peerLowersUptoCard : Claim7 := { stood := { row := peerLowersUptoRow, standIns := [], harness := (true, "6540d9b13d69659d6c6369720df31b6423e8fd94fec93a12ced73319704a1884"), looks := true }, kinds := [], alts := [], laidByText := true, laidKinds := [.data, .pinned], laidTests := true, laidLooks := .later }
def PeerLowersUptoCardSaid : Prop := Claim7.holds Tryz.pinned (.plain (OpenSpec.upto peerLowersSpec)) peerLowersUptoCard

/-- THE SECOND FORM's CARD OF 'drawbridgelaw24.PeerCuts'. -/
def peerCutsUptoCard : Claim7 := { stood := { row := peerCutsUptoRow, standIns := [], harness := (true, "6540d9b13d69659d6c6369720df31b6423e8fd94fec93a12ced73319704a1884"), looks := true }, kinds := [], alts := [], laidByText := true, laidKinds := [.data, .pinned], laidTests := true, laidLooks := .later }
def PeerCutsUptoCardSaid : Prop := Claim7.holds Tryz.pinned (.plain (OpenSpec.upto peerCutsSpec)) peerCutsUptoCard

/-- THE SECOND FORM's CARD OF 'drawbridgelaw24.PeerTells'. -/
def peerTellsUptoCard : Claim7 := { stood := { row := peerTellsUptoRow, standIns := [], harness := (true, "6540d9b13d69659d6c6369720df31b6423e8fd94fec93a12ced73319704a1884"), looks := true }, kinds := [], alts := [], laidByText := true, laidKinds := [.data, .pinned], laidTests := true, laidLooks := .later }
def PeerTellsUptoCardSaid : Prop := Claim7.holds Tryz.pinned (.plain (OpenSpec.upto peerTellsSpec)) peerTellsUptoCard

/-- THE SECOND FORM's CARD OF 'drawbridgelaw24.PeerNone'. -/
def peerNoneUptoCard : Claim7 := { stood := { row := peerNoneUptoRow, standIns := [], harness := (true, "6540d9b13d69659d6c6369720df31b6423e8fd94fec93a12ced73319704a1884"), looks := true }, kinds := [], alts := [], laidByText := true, laidKinds := [.data, .pinned], laidTests := true, laidLooks := .later }
def PeerNoneUptoCardSaid : Prop := Claim7.holds Tryz.pinned (.plain (OpenSpec.upto peerNoneSpec)) peerNoneUptoCard
end Rows
end Go.Proofs.YtmbakobindjjmaaGreatDoor
