/-
  DERIVED. GIVEN WITH THE SEED: THE CARDS: each row of YtjheelboadklhaaDoorRows.lean that lists a variable, with what it lists TIED to the program's text (the seventh form; the later family's looks); each row that meets fmt, with fmt's text TOLD by the authors' own Lean function (tested against real Go, not proved from fmt's source: count such statements apart). THE CARD IS WHAT COUNTS. Prove the row's statement (the work); the ties are given (YtjheelboadklhaaDoorTie.lean); close each card by the builder's one call (the guide's Derived/Test/ToyasCard.lean, 'card_holds'). Laid BY PROGRAM, IN A SANDBOX (cutbox-door.mjs). By AI agents, Wed Nov 11 2026. No macro, syntax, notation, axiom, sorry.
-/
import Derived.Test.YtjheelboadklhaaDoorRows
import GoSem.ClaimSeven
namespace Go.Proofs.YtjheelboadklhaaDoor
namespace Rows

/-- THE TIED CARD OF 'drawbridgelaw11.HopElements'. -/
def hopElementsCard : Claim7 := { stood := { row := hopElementsRow, standIns := [], harness := (true, "cc9993786e1e08fae50e43564833a9795966235d923dbb04050675fe9e2fb1c3"), looks := false }, kinds := [], alts := [], laidByText := true, laidKinds := [.data, .pinned], laidTests := true, laidLooks := .later }
def HopElementsCardSaid : Prop := Claim7.holds Tryd.pinned (.plain (OpenSpec.ofChange hopElementsSpec)) hopElementsCard

/-- THE TIED CARD OF 'drawbridgelaw11.HopTwice'. -/
def hopTwiceCard : Claim7 := { stood := { row := hopTwiceRow, standIns := [], harness := (true, "cc9993786e1e08fae50e43564833a9795966235d923dbb04050675fe9e2fb1c3"), looks := false }, kinds := [], alts := [], laidByText := true, laidKinds := [.data, .pinned], laidTests := true, laidLooks := .later }
def HopTwiceCardSaid : Prop := Claim7.holds Tryd.pinned (.plain (OpenSpec.ofChange hopTwiceSpec)) hopTwiceCard

/-- THE TIED CARD OF 'drawbridgelaw11.HopStrips'. -/
def hopStripsCard : Claim7 := { stood := { row := hopStripsRow, standIns := [], harness := (true, "cc9993786e1e08fae50e43564833a9795966235d923dbb04050675fe9e2fb1c3"), looks := false }, kinds := [], alts := [], laidByText := true, laidKinds := [.data, .pinned], laidTests := true, laidLooks := .later }
def HopStripsCardSaid : Prop := Claim7.holds Tryd.pinned (.plain (OpenSpec.ofChange hopStripsSpec)) hopStripsCard

/-- THE TIED CARD OF 'drawbridgelaw11.HopJoins'. -/
def hopJoinsCard : Claim7 := { stood := { row := hopJoinsRow, standIns := [], harness := (true, "cc9993786e1e08fae50e43564833a9795966235d923dbb04050675fe9e2fb1c3"), looks := false }, kinds := [], alts := [], laidByText := true, laidKinds := [.data, .pinned], laidTests := true, laidLooks := .later }
def HopJoinsCardSaid : Prop := Claim7.holds Tryd.pinned (.plain (OpenSpec.ofChange hopJoinsSpec)) hopJoinsCard

/-- THE TIED CARD OF 'drawbridgelaw11.HopValues'. -/
def hopValuesCard : Claim7 := { stood := { row := hopValuesRow, standIns := [], harness := (true, "cc9993786e1e08fae50e43564833a9795966235d923dbb04050675fe9e2fb1c3"), looks := false }, kinds := [], alts := [], laidByText := true, laidKinds := [.data, .pinned], laidTests := true, laidLooks := .later }
def HopValuesCardSaid : Prop := Claim7.holds Tryd.pinned (.plain (OpenSpec.ofChange hopValuesSpec)) hopValuesCard

/-- THE SECOND FORM's CARD OF 'drawbridgelaw11.HopElements'. -/
def hopElementsUptoCard : Claim7 := { stood := { row := hopElementsUptoRow, standIns := [], harness := (true, "cc9993786e1e08fae50e43564833a9795966235d923dbb04050675fe9e2fb1c3"), looks := false }, kinds := [], alts := [], laidByText := true, laidKinds := [.data, .pinned], laidTests := true, laidLooks := .later }
def HopElementsUptoCardSaid : Prop := Claim7.holds Tryd.pinned (.plain (OpenSpec.upto hopElementsSpec)) hopElementsUptoCard

/-- THE SECOND FORM's CARD OF 'drawbridgelaw11.HopTwice'. -/
def hopTwiceUptoCard : Claim7 := { stood := { row := hopTwiceUptoRow, standIns := [], harness := (true, "cc9993786e1e08fae50e43564833a9795966235d923dbb04050675fe9e2fb1c3"), looks := false }, kinds := [], alts := [], laidByText := true, laidKinds := [.data, .pinned], laidTests := true, laidLooks := .later }
def HopTwiceUptoCardSaid : Prop := Claim7.holds Tryd.pinned (.plain (OpenSpec.upto hopTwiceSpec)) hopTwiceUptoCard

/-- THE SECOND FORM's CARD OF 'drawbridgelaw11.HopStrips'. -/
def hopStripsUptoCard : Claim7 := { stood := { row := hopStripsUptoRow, standIns := [], harness := (true, "cc9993786e1e08fae50e43564833a9795966235d923dbb04050675fe9e2fb1c3"), looks := false }, kinds := [], alts := [], laidByText := true, laidKinds := [.data, .pinned], laidTests := true, laidLooks := .later }
def HopStripsUptoCardSaid : Prop := Claim7.holds Tryd.pinned (.plain (OpenSpec.upto hopStripsSpec)) hopStripsUptoCard

/-- THE SECOND FORM's CARD OF 'drawbridgelaw11.HopJoins'. -/
def hopJoinsUptoCard : Claim7 := { stood := { row := hopJoinsUptoRow, standIns := [], harness := (true, "cc9993786e1e08fae50e43564833a9795966235d923dbb04050675fe9e2fb1c3"), looks := false }, kinds := [], alts := [], laidByText := true, laidKinds := [.data, .pinned], laidTests := true, laidLooks := .later }
def HopJoinsUptoCardSaid : Prop := Claim7.holds Tryd.pinned (.plain (OpenSpec.upto hopJoinsSpec)) hopJoinsUptoCard

/-- THE SECOND FORM's CARD OF 'drawbridgelaw11.HopValues'. -/
def hopValuesUptoCard : Claim7 := { stood := { row := hopValuesUptoRow, standIns := [], harness := (true, "cc9993786e1e08fae50e43564833a9795966235d923dbb04050675fe9e2fb1c3"), looks := false }, kinds := [], alts := [], laidByText := true, laidKinds := [.data, .pinned], laidTests := true, laidLooks := .later }
def HopValuesUptoCardSaid : Prop := Claim7.holds Tryd.pinned (.plain (OpenSpec.upto hopValuesSpec)) hopValuesUptoCard
end Rows
end Go.Proofs.YtjheelboadklhaaDoor
