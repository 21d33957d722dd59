/-
  DERIVED. GIVEN WITH THE SEED: THE CARDS: each row of YtpbmmkonlboegaaGreatDoorRows.lean that lists a variable, with what it lists TIED to the program's text (the seventh form; the later family's looks); each row that meets fmt, with fmt's text TOLD by the authors' own Lean function (tested against real Go, not proved from fmt's source: count such statements apart). THE CARD IS WHAT COUNTS. Prove the row's statement (the work); the ties are given (YtpbmmkonlboegaaGreatDoorTie.lean); close each card by the builder's one call (the guide's Derived/Test/ToyasCard.lean, 'card_holds'). Laid BY PROGRAM, IN A SANDBOX (cutbox-door.mjs). By AI agents, Wed Nov 11 2026. No macro, syntax, notation, axiom, sorry.
-/
import Derived.Test.YtpbmmkonlboegaaGreatDoorRows
import GoSem.ClaimSeven
namespace Go.Proofs.YtpbmmkonlboegaaGreatDoor
namespace Rows

/-- THE TIED CARD OF 'drawbridgelaw20.RenewMet'. -/
def renewMetCard : Claim7 := { stood := { row := renewMetRow, standIns := [], harness := (true, "134d857b76bb1362db9ddce0358c58fc13ce0299a7fccae2eb3186e402893230"), looks := false }, kinds := [], alts := [], laidByText := true, laidKinds := [.data, .pinned], laidTests := true, laidLooks := .later }
def RenewMetCardSaid : Prop := Claim7.holds Tryz.pinned (.plain (OpenSpec.ofChange renewMetSpec)) renewMetCard

/-- THE TIED CARD OF 'drawbridgelaw20.RenewAnswers'. -/
def renewAnswersCard : Claim7 := { stood := { row := renewAnswersRow, standIns := [], harness := (true, "134d857b76bb1362db9ddce0358c58fc13ce0299a7fccae2eb3186e402893230"), looks := false }, kinds := [], alts := [], laidByText := true, laidKinds := [.data, .pinned], laidTests := true, laidLooks := .later }
def RenewAnswersCardSaid : Prop := Claim7.holds Tryz.pinned (.plain (OpenSpec.ofChange renewAnswersSpec)) renewAnswersCard

/-- THE TIED CARD OF 'drawbridgelaw20.RenewGives'. -/
def renewGivesCard : Claim7 := { stood := { row := renewGivesRow, standIns := [], harness := (true, "134d857b76bb1362db9ddce0358c58fc13ce0299a7fccae2eb3186e402893230"), looks := false }, kinds := [], alts := [], laidByText := true, laidKinds := [.data, .pinned], laidTests := true, laidLooks := .later }
def RenewGivesCardSaid : Prop := Claim7.holds Tryz.pinned (.plain (OpenSpec.ofChange renewGivesSpec)) renewGivesCard

/-- THE TIED CARD OF 'drawbridgelaw20.RenewTwice'. -/
def renewTwiceCard : Claim7 := { stood := { row := renewTwiceRow, standIns := [], harness := (true, "134d857b76bb1362db9ddce0358c58fc13ce0299a7fccae2eb3186e402893230"), looks := false }, kinds := [], alts := [], laidByText := true, laidKinds := [.data, .pinned], laidTests := true, laidLooks := .later }
def RenewTwiceCardSaid : Prop := Claim7.holds Tryz.pinned (.plain (OpenSpec.ofChange renewTwiceSpec)) renewTwiceCard

/-- THE SECOND FORM's CARD OF 'drawbridgelaw20.RenewMet'. -/
def renewMetUptoCard : Claim7 := { stood := { row := renewMetUptoRow, standIns := [], harness := (true, "134d857b76bb1362db9ddce0358c58fc13ce0299a7fccae2eb3186e402893230"), looks := false }, kinds := [], alts := [], laidByText := true, laidKinds := [.data, .pinned], laidTests := true, laidLooks := .later }
def RenewMetUptoCardSaid : Prop := Claim7.holds Tryz.pinned (.plain (OpenSpec.upto renewMetSpec)) renewMetUptoCard

/-- THE SECOND FORM's CARD OF 'drawbridgelaw20.RenewAnswers'. -/
def renewAnswersUptoCard : Claim7 := { stood := { row := renewAnswersUptoRow, standIns := [], harness := (true, "134d857b76bb1362db9ddce0358c58fc13ce0299a7fccae2eb3186e402893230"), looks := false }, kinds := [], alts := [], laidByText := true, laidKinds := [.data, .pinned], laidTests := true, laidLooks := .later }
def RenewAnswersUptoCardSaid : Prop := Claim7.holds Tryz.pinned (.plain (OpenSpec.upto renewAnswersSpec)) renewAnswersUptoCard

/-- THE SECOND FORM's CARD OF 'drawbridgelaw20.RenewGives'. -/
def renewGivesUptoCard : Claim7 := { stood := { row := renewGivesUptoRow, standIns := [], harness := (true, "134d857b76bb1362db9ddce0358c58fc13ce0299a7fccae2eb3186e402893230"), looks := false }, kinds := [], alts := [], laidByText := true, laidKinds := [.data, .pinned], laidTests := true, laidLooks := .later }
def RenewGivesUptoCardSaid : Prop := Claim7.holds Tryz.pinned (.plain (OpenSpec.upto renewGivesSpec)) renewGivesUptoCard

/-- THE SECOND FORM's CARD OF 'drawbridgelaw20.RenewTwice'. -/
def renewTwiceUptoCard : Claim7 := { stood := { row := renewTwiceUptoRow, standIns := [], harness := (true, "134d857b76bb1362db9ddce0358c58fc13ce0299a7fccae2eb3186e402893230"), looks := false }, kinds := [], alts := [], laidByText := true, laidKinds := [.data, .pinned], laidTests := true, laidLooks := .later }
def RenewTwiceUptoCardSaid : Prop := Claim7.holds Tryz.pinned (.plain (OpenSpec.upto renewTwiceSpec)) renewTwiceUptoCard
end Rows
end Go.Proofs.YtpbmmkonlboegaaGreatDoor
