/-
  DERIVED. GIVEN WITH THE SEED: THE CARDS: each row of YtpbmmkonlboegaaDoorRows.lean that lists a variable, with what it lists TIED to the program's text (the seventh form; the later family's looks); each row that meets fmt, with fmt's text TOLD by the authors' own Lean function (tested against real Go, not proved from fmt's source: count such statements apart). THE CARD IS WHAT COUNTS. Prove the row's statement (the work); the ties are given (YtpbmmkonlboegaaDoorTie.lean); close each card by the builder's one call (the guide's Derived/Test/ToyasCard.lean, 'card_holds'). Laid BY PROGRAM, IN A SANDBOX (cutbox-door.mjs). By AI agents, Wed Nov 11 2026. No macro, syntax, notation, axiom, sorry.
-/
import Derived.Test.YtpbmmkonlboegaaDoorRows
import GoSem.ClaimSeven
namespace Go.Proofs.YtpbmmkonlboegaaDoor
namespace Rows

/-- THE TIED CARD OF 'drawbridgelaw20.RenewAsks'. -/
def renewAsksCard : Claim7 := { stood := { row := renewAsksRow, standIns := [], harness := (true, "69a4c971f1588f91c2ec6f07b1dd4b75b290b606469ec507cc672335f68cd736"), looks := false }, kinds := [], alts := [], laidByText := true, laidKinds := [.data, .pinned], laidTests := true, laidLooks := .later }
def RenewAsksCardSaid : Prop := Claim7.holds Tryd.pinned (.plain (OpenSpec.ofChange renewAsksSpec)) renewAsksCard

/-- THE TIED CARD OF 'drawbridgelaw20.RenewHas'. -/
def renewHasCard : Claim7 := { stood := { row := renewHasRow, standIns := [], harness := (true, "69a4c971f1588f91c2ec6f07b1dd4b75b290b606469ec507cc672335f68cd736"), looks := false }, kinds := [], alts := [], laidByText := true, laidKinds := [.data, .pinned], laidTests := true, laidLooks := .later }
def RenewHasCardSaid : Prop := Claim7.holds Tryd.pinned (.plain (OpenSpec.ofChange renewHasSpec)) renewHasCard

/-- THE TIED CARD OF 'drawbridgelaw17.VaryNames'. -/
def varyNamesCard : Claim7 := { stood := { row := varyNamesRow, standIns := [], harness := (true, "69a4c971f1588f91c2ec6f07b1dd4b75b290b606469ec507cc672335f68cd736"), looks := false }, kinds := [], alts := [], laidByText := true, laidKinds := [.data, .pinned], laidTests := true, laidLooks := .later }
def VaryNamesCardSaid : Prop := Claim7.holds Tryd.pinned (.plain (OpenSpec.ofChange varyNamesSpec)) varyNamesCard

/-- THE TIED CARD OF 'drawbridgelaw17.VaryStars'. -/
def varyStarsCard : Claim7 := { stood := { row := varyStarsRow, standIns := [], harness := (true, "69a4c971f1588f91c2ec6f07b1dd4b75b290b606469ec507cc672335f68cd736"), looks := false }, kinds := [], alts := [], laidByText := true, laidKinds := [.data, .pinned], laidTests := true, laidLooks := .later }
def VaryStarsCardSaid : Prop := Claim7.holds Tryd.pinned (.plain (OpenSpec.ofChange varyStarsSpec)) varyStarsCard

/-- THE TIED CARD OF 'drawbridgelaw20.RenewTakes'. -/
def renewTakesCard : Claim7 := { stood := { row := renewTakesRow, standIns := [], harness := (true, "69a4c971f1588f91c2ec6f07b1dd4b75b290b606469ec507cc672335f68cd736"), looks := false }, kinds := [], alts := [], laidByText := true, laidKinds := [.data, .pinned], laidTests := true, laidLooks := .later }
def RenewTakesCardSaid : Prop := Claim7.holds Tryd.pinned (.plain (OpenSpec.ofChange renewTakesSpec)) renewTakesCard

/-- THE TIED CARD OF 'drawbridgelaw17.VaryPicks'. -/
def varyPicksCard : Claim7 := { stood := { row := varyPicksRow, standIns := [], harness := (true, "69a4c971f1588f91c2ec6f07b1dd4b75b290b606469ec507cc672335f68cd736"), looks := false }, kinds := [], alts := [], laidByText := true, laidKinds := [.data, .pinned], laidTests := true, laidLooks := .later }
def VaryPicksCardSaid : Prop := Claim7.holds Tryd.pinned (.plain (OpenSpec.ofChange varyPicksSpec)) varyPicksCard

/-- THE TIED CARD OF 'drawbridgelaw17.VaryOdd'. -/
def varyOddCard : Claim7 := { stood := { row := varyOddRow, standIns := [], harness := (true, "69a4c971f1588f91c2ec6f07b1dd4b75b290b606469ec507cc672335f68cd736"), looks := false }, kinds := [], alts := [], laidByText := true, laidKinds := [.data, .pinned], laidTests := true, laidLooks := .later }
def VaryOddCardSaid : Prop := Claim7.holds Tryd.pinned (.plain (OpenSpec.ofChange varyOddSpec)) varyOddCard

/-- THE TIED CARD OF 'drawbridgelaw17.VarySpread'. -/
def varySpreadCard : Claim7 := { stood := { row := varySpreadRow, standIns := [], harness := (true, "69a4c971f1588f91c2ec6f07b1dd4b75b290b606469ec507cc672335f68cd736"), looks := false }, kinds := [], alts := [], laidByText := true, laidKinds := [.data, .pinned], laidTests := true, laidLooks := .later }
def VarySpreadCardSaid : Prop := Claim7.holds Tryd.pinned (.plain (OpenSpec.ofChange varySpreadSpec)) varySpreadCard

/-- THE SECOND FORM's CARD OF 'drawbridgelaw20.RenewAsks'. -/
def renewAsksUptoCard : Claim7 := { stood := { row := renewAsksUptoRow, standIns := [], harness := (true, "69a4c971f1588f91c2ec6f07b1dd4b75b290b606469ec507cc672335f68cd736"), looks := false }, kinds := [], alts := [], laidByText := true, laidKinds := [.data, .pinned], laidTests := true, laidLooks := .later }
def RenewAsksUptoCardSaid : Prop := Claim7.holds Tryd.pinned (.plain (OpenSpec.upto renewAsksSpec)) renewAsksUptoCard

/-- THE SECOND FORM's CARD OF 'drawbridgelaw20.RenewHas'. -/
def renewHasUptoCard : Claim7 := { stood := { row := renewHasUptoRow, standIns := [], harness := (true, "69a4c971f1588f91c2ec6f07b1dd4b75b290b606469ec507cc672335f68cd736"), looks := false }, kinds := [], alts := [], laidByText := true, laidKinds := [.data, .pinned], laidTests := true, laidLooks := .later }
def RenewHasUptoCardSaid : Prop := Claim7.holds Tryd.pinned (.plain (OpenSpec.upto renewHasSpec)) renewHasUptoCard

/-- THE SECOND FORM's CARD OF 'drawbridgelaw17.VaryNames'. -/
def varyNamesUptoCard : Claim7 := { stood := { row := varyNamesUptoRow, standIns := [], harness := (true, "69a4c971f1588f91c2ec6f07b1dd4b75b290b606469ec507cc672335f68cd736"), looks := false }, kinds := [], alts := [], laidByText := true, laidKinds := [.data, .pinned], laidTests := true, laidLooks := .later }
def VaryNamesUptoCardSaid : Prop := Claim7.holds Tryd.pinned (.plain (OpenSpec.upto varyNamesSpec)) varyNamesUptoCard

/-- THE SECOND FORM's CARD OF 'drawbridgelaw17.VaryStars'. -/
def varyStarsUptoCard : Claim7 := { stood := { row := varyStarsUptoRow, standIns := [], harness := (true, "69a4c971f1588f91c2ec6f07b1dd4b75b290b606469ec507cc672335f68cd736"), looks := false }, kinds := [], alts := [], laidByText := true, laidKinds := [.data, .pinned], laidTests := true, laidLooks := .later }
def VaryStarsUptoCardSaid : Prop := Claim7.holds Tryd.pinned (.plain (OpenSpec.upto varyStarsSpec)) varyStarsUptoCard

/-- THE SECOND FORM's CARD OF 'drawbridgelaw20.RenewTakes'. -/
def renewTakesUptoCard : Claim7 := { stood := { row := renewTakesUptoRow, standIns := [], harness := (true, "69a4c971f1588f91c2ec6f07b1dd4b75b290b606469ec507cc672335f68cd736"), looks := false }, kinds := [], alts := [], laidByText := true, laidKinds := [.data, .pinned], laidTests := true, laidLooks := .later }
def RenewTakesUptoCardSaid : Prop := Claim7.holds Tryd.pinned (.plain (OpenSpec.upto renewTakesSpec)) renewTakesUptoCard

/-- THE SECOND FORM's CARD OF 'drawbridgelaw17.VaryPicks'. -/
def varyPicksUptoCard : Claim7 := { stood := { row := varyPicksUptoRow, standIns := [], harness := (true, "69a4c971f1588f91c2ec6f07b1dd4b75b290b606469ec507cc672335f68cd736"), looks := false }, kinds := [], alts := [], laidByText := true, laidKinds := [.data, .pinned], laidTests := true, laidLooks := .later }
def VaryPicksUptoCardSaid : Prop := Claim7.holds Tryd.pinned (.plain (OpenSpec.upto varyPicksSpec)) varyPicksUptoCard

/-- THE SECOND FORM's CARD OF 'drawbridgelaw17.VaryOdd'. -/
def varyOddUptoCard : Claim7 := { stood := { row := varyOddUptoRow, standIns := [], harness := (true, "69a4c971f1588f91c2ec6f07b1dd4b75b290b606469ec507cc672335f68cd736"), looks := false }, kinds := [], alts := [], laidByText := true, laidKinds := [.data, .pinned], laidTests := true, laidLooks := .later }
def VaryOddUptoCardSaid : Prop := Claim7.holds Tryd.pinned (.plain (OpenSpec.upto varyOddSpec)) varyOddUptoCard

/-- THE SECOND FORM's CARD OF 'drawbridgelaw17.VarySpread'. -/
def varySpreadUptoCard : Claim7 := { stood := { row := varySpreadUptoRow, standIns := [], harness := (true, "69a4c971f1588f91c2ec6f07b1dd4b75b290b606469ec507cc672335f68cd736"), looks := false }, kinds := [], alts := [], laidByText := true, laidKinds := [.data, .pinned], laidTests := true, laidLooks := .later }
def VarySpreadUptoCardSaid : Prop := Claim7.holds Tryd.pinned (.plain (OpenSpec.upto varySpreadSpec)) varySpreadUptoCard
end Rows
end Go.Proofs.YtpbmmkonlboegaaDoor
