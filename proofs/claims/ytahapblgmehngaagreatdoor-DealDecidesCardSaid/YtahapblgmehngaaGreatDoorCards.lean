/-
  DERIVED. GIVEN WITH THE SEED: THE CARDS: each row of YtahapblgmehngaaGreatDoorRows.lean that lists a variable, with what it lists TIED to the program's text (the seventh form; the later family's looks); each row that meets fmt, with fmt's text TOLD by the authors' own Lean function (tested against real Go, not proved from fmt's source: count such statements apart). THE CARD IS WHAT COUNTS. Prove the row's statement (the work); the ties are given (YtahapblgmehngaaGreatDoorTie.lean); close each card by the builder's one call (the guide's Derived/Test/ToyasCard.lean, 'card_holds'). Laid BY PROGRAM, IN A SANDBOX (cutbox-door.mjs). By AI agents, Wed Nov 11 2026. No macro, syntax, notation, axiom, sorry.
-/
import Derived.Test.YtahapblgmehngaaGreatDoorRows
import GoSem.ClaimSeven
namespace Go.Proofs.YtahapblgmehngaaGreatDoor
namespace Rows

/-- THE TIED CARD OF 'drawbridgelaw21.DealDecides'. -/
def dealDecidesCard : Claim7 := { stood := { row := dealDecidesRow, standIns := [], harness := (true, "63bc7d934a6d4c1ac14a0f9805eb40acd9c84981ee0c9ebd38bca2ab03d90da8"), looks := false }, kinds := [], alts := [], laidByText := true, laidKinds := [.data, .pinned], laidTests := true, laidLooks := .later }
def DealDecidesCardSaid : Prop := Claim7.holds Tryz.pinned (.plain (OpenSpec.ofChange dealDecidesSpec)) dealDecidesCard

/-- THE TIED CARD OF 'drawbridgelaw21.DealServes'. -/
def dealServesCard : Claim7 := { stood := { row := dealServesRow, standIns := [], harness := (true, "63bc7d934a6d4c1ac14a0f9805eb40acd9c84981ee0c9ebd38bca2ab03d90da8"), looks := false }, kinds := [], alts := [], laidByText := true, laidKinds := [.data, .pinned], laidTests := true, laidLooks := .later }
def DealServesCardSaid : Prop := Claim7.holds Tryz.pinned (.plain (OpenSpec.ofChange dealServesSpec)) dealServesCard

/-- THE TIED CARD OF 'drawbridgelaw21.DealAgain'. -/
def dealAgainCard : Claim7 := { stood := { row := dealAgainRow, standIns := [], harness := (true, "63bc7d934a6d4c1ac14a0f9805eb40acd9c84981ee0c9ebd38bca2ab03d90da8"), looks := false }, kinds := [], alts := [], laidByText := true, laidKinds := [.data, .pinned], laidTests := true, laidLooks := .later }
def DealAgainCardSaid : Prop := Claim7.holds Tryz.pinned (.plain (OpenSpec.ofChange dealAgainSpec)) dealAgainCard

/-- THE TIED CARD OF 'drawbridgelaw21.DealLacks'. -/
def dealLacksCard : Claim7 := { stood := { row := dealLacksRow, standIns := [], harness := (true, "63bc7d934a6d4c1ac14a0f9805eb40acd9c84981ee0c9ebd38bca2ab03d90da8"), looks := false }, kinds := [], alts := [], laidByText := true, laidKinds := [.data, .pinned], laidTests := true, laidLooks := .later }
def DealLacksCardSaid : Prop := Claim7.holds Tryz.pinned (.plain (OpenSpec.ofChange dealLacksSpec)) dealLacksCard

/-- THE TIED CARD OF 'drawbridgelaw21.DealAsks'. -/
def dealAsksCard : Claim7 := { stood := { row := dealAsksRow, standIns := [], harness := (true, "63bc7d934a6d4c1ac14a0f9805eb40acd9c84981ee0c9ebd38bca2ab03d90da8"), looks := false }, kinds := [], alts := [], laidByText := true, laidKinds := [.data, .pinned], laidTests := true, laidLooks := .later }
def DealAsksCardSaid : Prop := Claim7.holds Tryz.pinned (.plain (OpenSpec.ofChange dealAsksSpec)) dealAsksCard

/-- THE SECOND FORM's CARD OF 'drawbridgelaw21.DealDecides'. -/
def dealDecidesUptoCard : Claim7 := { stood := { row := dealDecidesUptoRow, standIns := [], harness := (true, "63bc7d934a6d4c1ac14a0f9805eb40acd9c84981ee0c9ebd38bca2ab03d90da8"), looks := false }, kinds := [], alts := [], laidByText := true, laidKinds := [.data, .pinned], laidTests := true, laidLooks := .later }
def DealDecidesUptoCardSaid : Prop := Claim7.holds Tryz.pinned (.plain (OpenSpec.upto dealDecidesSpec)) dealDecidesUptoCard

/-- THE SECOND FORM's CARD OF 'drawbridgelaw21.DealServes'. -/
def dealServesUptoCard : Claim7 := { stood := { row := dealServesUptoRow, standIns := [], harness := (true, "63bc7d934a6d4c1ac14a0f9805eb40acd9c84981ee0c9ebd38bca2ab03d90da8"), looks := false }, kinds := [], alts := [], laidByText := true, laidKinds := [.data, .pinned], laidTests := true, laidLooks := .later }
def DealServesUptoCardSaid : Prop := Claim7.holds Tryz.pinned (.plain (OpenSpec.upto dealServesSpec)) dealServesUptoCard

/-- THE SECOND FORM's CARD OF 'drawbridgelaw21.DealAgain'. -/
def dealAgainUptoCard : Claim7 := { stood := { row := dealAgainUptoRow, standIns := [], harness := (true, "63bc7d934a6d4c1ac14a0f9805eb40acd9c84981ee0c9ebd38bca2ab03d90da8"), looks := false }, kinds := [], alts := [], laidByText := true, laidKinds := [.data, .pinned], laidTests := true, laidLooks := .later }
def DealAgainUptoCardSaid : Prop := Claim7.holds Tryz.pinned (.plain (OpenSpec.upto dealAgainSpec)) dealAgainUptoCard

/-- THE SECOND FORM's CARD OF 'drawbridgelaw21.DealLacks'. -/
def dealLacksUptoCard : Claim7 := { stood := { row := dealLacksUptoRow, standIns := [], harness := (true, "63bc7d934a6d4c1ac14a0f9805eb40acd9c84981ee0c9ebd38bca2ab03d90da8"), looks := false }, kinds := [], alts := [], laidByText := true, laidKinds := [.data, .pinned], laidTests := true, laidLooks := .later }
def DealLacksUptoCardSaid : Prop := Claim7.holds Tryz.pinned (.plain (OpenSpec.upto dealLacksSpec)) dealLacksUptoCard

/-- THE SECOND FORM's CARD OF 'drawbridgelaw21.DealAsks'. -/
def dealAsksUptoCard : Claim7 := { stood := { row := dealAsksUptoRow, standIns := [], harness := (true, "63bc7d934a6d4c1ac14a0f9805eb40acd9c84981ee0c9ebd38bca2ab03d90da8"), looks := false }, kinds := [], alts := [], laidByText := true, laidKinds := [.data, .pinned], laidTests := true, laidLooks := .later }
def DealAsksUptoCardSaid : Prop := Claim7.holds Tryz.pinned (.plain (OpenSpec.upto dealAsksSpec)) dealAsksUptoCard
end Rows
end Go.Proofs.YtahapblgmehngaaGreatDoor
