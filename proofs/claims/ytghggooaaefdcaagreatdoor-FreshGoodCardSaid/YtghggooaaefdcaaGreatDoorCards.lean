/-
  DERIVED. GIVEN WITH THE SEED: THE CARDS: each row of YtghggooaaefdcaaGreatDoorRows.lean that lists a variable, with what it lists TIED to the program's text (the seventh form; the later family's looks); each row that meets fmt, with fmt's text TOLD by the authors' own Lean function (tested against real Go, not proved from fmt's source: count such statements apart). THE CARD IS WHAT COUNTS. Prove the row's statement (the work); the ties are given (YtghggooaaefdcaaGreatDoorTie.lean); close each card by the builder's one call (the guide's Derived/Test/ToyasCard.lean, 'card_holds'). Laid BY PROGRAM, IN A SANDBOX (cutbox-door.mjs). By AI agents, Wed Nov 11 2026. No macro, syntax, notation, axiom, sorry.
-/
import Derived.Test.YtghggooaaefdcaaGreatDoorRows
import GoSem.ClaimSeven
namespace Go.Proofs.YtghggooaaefdcaaGreatDoor
namespace Rows

/-- THE TIED CARD OF 'drawbridgelaw20.RenewMet'. -/
def renewMetCard : Claim7 := { stood := { row := renewMetRow, standIns := [], harness := (true, "13d497c1e2c6d43b49a1c2bfc4ef3006bba747c8a60092072969fb8bd1fa8fff"), looks := false }, kinds := [], alts := [], laidByText := true, laidKinds := [.data, .pinned], laidTests := true, laidLooks := .later }
def RenewMetCardSaid : Prop := Claim7.holds Tryz.pinned (.plain (OpenSpec.ofChange renewMetSpec)) renewMetCard

/-- THE TIED CARD OF 'drawbridgelaw20.RenewAnswers'. -/
def renewAnswersCard : Claim7 := { stood := { row := renewAnswersRow, standIns := [], harness := (true, "13d497c1e2c6d43b49a1c2bfc4ef3006bba747c8a60092072969fb8bd1fa8fff"), looks := false }, kinds := [], alts := [], laidByText := true, laidKinds := [.data, .pinned], laidTests := true, laidLooks := .later }
def RenewAnswersCardSaid : Prop := Claim7.holds Tryz.pinned (.plain (OpenSpec.ofChange renewAnswersSpec)) renewAnswersCard

/-- THE TIED CARD OF 'drawbridgelaw20.RenewGives'. -/
def renewGivesCard : Claim7 := { stood := { row := renewGivesRow, standIns := [], harness := (true, "13d497c1e2c6d43b49a1c2bfc4ef3006bba747c8a60092072969fb8bd1fa8fff"), looks := false }, kinds := [], alts := [], laidByText := true, laidKinds := [.data, .pinned], laidTests := true, laidLooks := .later }
def RenewGivesCardSaid : Prop := Claim7.holds Tryz.pinned (.plain (OpenSpec.ofChange renewGivesSpec)) renewGivesCard

/-- THE TIED CARD OF 'drawbridgelaw18.FreshLives'. -/
def freshLivesCard : Claim7 := { stood := { row := freshLivesRow, standIns := [], harness := (true, "13d497c1e2c6d43b49a1c2bfc4ef3006bba747c8a60092072969fb8bd1fa8fff"), looks := false }, kinds := [], alts := [], laidByText := true, laidKinds := [.data, .pinned], laidTests := true, laidLooks := .later }
def FreshLivesCardSaid : Prop := Claim7.holds Tryz.pinned (.plain (OpenSpec.ofChange freshLivesSpec)) freshLivesCard

/-- THE TIED CARD OF 'drawbridgelaw18.FreshGood'. -/
def freshGoodCard : Claim7 := { stood := { row := freshGoodRow, standIns := [], harness := (true, "13d497c1e2c6d43b49a1c2bfc4ef3006bba747c8a60092072969fb8bd1fa8fff"), looks := false }, kinds := [], alts := [], laidByText := true, laidKinds := [.data, .pinned], laidTests := true, laidLooks := .later }
def FreshGoodCardSaid : Prop := Claim7.holds Tryz.pinned (.plain (OpenSpec.ofChange freshGoodSpec)) freshGoodCard

/-- THE SECOND FORM's CARD OF 'drawbridgelaw20.RenewMet'. -/
def renewMetUptoCard : Claim7 := { stood := { row := renewMetUptoRow, standIns := [], harness := (true, "13d497c1e2c6d43b49a1c2bfc4ef3006bba747c8a60092072969fb8bd1fa8fff"), looks := false }, kinds := [], alts := [], laidByText := true, laidKinds := [.data, .pinned], laidTests := true, laidLooks := .later }
def RenewMetUptoCardSaid : Prop := Claim7.holds Tryz.pinned (.plain (OpenSpec.upto renewMetSpec)) renewMetUptoCard

/-- THE SECOND FORM's CARD OF 'drawbridgelaw20.RenewAnswers'. -/
def renewAnswersUptoCard : Claim7 := { stood := { row := renewAnswersUptoRow, standIns := [], harness := (true, "13d497c1e2c6d43b49a1c2bfc4ef3006bba747c8a60092072969fb8bd1fa8fff"), looks := false }, kinds := [], alts := [], laidByText := true, laidKinds := [.data, .pinned], laidTests := true, laidLooks := .later }
def RenewAnswersUptoCardSaid : Prop := Claim7.holds Tryz.pinned (.plain (OpenSpec.upto renewAnswersSpec)) renewAnswersUptoCard

/-- THE SECOND FORM's CARD OF 'drawbridgelaw20.RenewGives'. -/
def renewGivesUptoCard : Claim7 := { stood := { row := renewGivesUptoRow, standIns := [], harness := (true, "13d497c1e2c6d43b49a1c2bfc4ef3006bba747c8a60092072969fb8bd1fa8fff"), looks := false }, kinds := [], alts := [], laidByText := true, laidKinds := [.data, .pinned], laidTests := true, laidLooks := .later }
def RenewGivesUptoCardSaid : Prop := Claim7.holds Tryz.pinned (.plain (OpenSpec.upto renewGivesSpec)) renewGivesUptoCard

/-- THE SECOND FORM's CARD OF 'drawbridgelaw18.FreshLives'. -/
def freshLivesUptoCard : Claim7 := { stood := { row := freshLivesUptoRow, standIns := [], harness := (true, "13d497c1e2c6d43b49a1c2bfc4ef3006bba747c8a60092072969fb8bd1fa8fff"), looks := false }, kinds := [], alts := [], laidByText := true, laidKinds := [.data, .pinned], laidTests := true, laidLooks := .later }
def FreshLivesUptoCardSaid : Prop := Claim7.holds Tryz.pinned (.plain (OpenSpec.upto freshLivesSpec)) freshLivesUptoCard

/-- THE SECOND FORM's CARD OF 'drawbridgelaw18.FreshGood'. -/
def freshGoodUptoCard : Claim7 := { stood := { row := freshGoodUptoRow, standIns := [], harness := (true, "13d497c1e2c6d43b49a1c2bfc4ef3006bba747c8a60092072969fb8bd1fa8fff"), looks := false }, kinds := [], alts := [], laidByText := true, laidKinds := [.data, .pinned], laidTests := true, laidLooks := .later }
def FreshGoodUptoCardSaid : Prop := Claim7.holds Tryz.pinned (.plain (OpenSpec.upto freshGoodSpec)) freshGoodUptoCard
end Rows
end Go.Proofs.YtghggooaaefdcaaGreatDoor
