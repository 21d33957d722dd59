/-
  DERIVED. GIVEN WITH THE SEED: THE CARDS: each row of YthjkbempgnihmaaDoorRows.lean that lists a variable, with what it lists TIED to the program's text (the seventh form; the later family's looks); each row that meets fmt, with fmt's text TOLD by the authors' own Lean function (tested against real Go, not proved from fmt's source: count such statements apart). THE CARD IS WHAT COUNTS. Prove the row's statement (the work); the ties are given (YthjkbempgnihmaaDoorTie.lean); close each card by the builder's one call (the guide's Derived/Test/ToyasCard.lean, 'card_holds'). Laid BY PROGRAM, IN A SANDBOX (cutbox-door.mjs). By AI agents, Wed Nov 11 2026. No macro, syntax, notation, axiom, sorry.
-/
import Derived.Test.YthjkbempgnihmaaDoorRows
import GoSem.ClaimSeven
namespace Go.Proofs.YthjkbempgnihmaaDoor
namespace Rows

/-- THE TIED CARD OF 'drawbridgelaw19.ShelfBounds'. -/
def shelfBoundsCard : Claim7 := { stood := { row := shelfBoundsRow, standIns := [], harness := (true, "6517c4393f5fef3167336c1f1bd5a7a211845f5c7113427e9d1e736c82f1535e"), looks := false }, kinds := [], alts := [], laidByText := true, laidKinds := [.data, .pinned], laidTests := true, laidLooks := .later }
def ShelfBoundsCardSaid : Prop := Claim7.holds Tryd.pinned (.plain (OpenSpec.ofChange shelfBoundsSpec)) shelfBoundsCard

/-- THE TIED CARD OF 'drawbridgelaw19.ShelfOwn'. -/
def shelfOwnCard : Claim7 := { stood := { row := shelfOwnRow, standIns := [], harness := (true, "6517c4393f5fef3167336c1f1bd5a7a211845f5c7113427e9d1e736c82f1535e"), looks := false }, kinds := [], alts := [], laidByText := true, laidKinds := [.data, .pinned], laidTests := true, laidLooks := .later }
def ShelfOwnCardSaid : Prop := Claim7.holds Tryd.pinned (.plain (OpenSpec.ofChange shelfOwnSpec)) shelfOwnCard

/-- THE TIED CARD OF 'drawbridgelaw19.ShelfKeeps'. -/
def shelfKeepsCard : Claim7 := { stood := { row := shelfKeepsRow, standIns := [], harness := (true, "6517c4393f5fef3167336c1f1bd5a7a211845f5c7113427e9d1e736c82f1535e"), looks := false }, kinds := [], alts := [], laidByText := true, laidKinds := [.data, .pinned], laidTests := true, laidLooks := .later }
def ShelfKeepsCardSaid : Prop := Claim7.holds Tryd.pinned (.plain (OpenSpec.ofChange shelfKeepsSpec)) shelfKeepsCard

/-- THE TIED CARD OF 'drawbridgelaw19.ShelfPlays'. -/
def shelfPlaysCard : Claim7 := { stood := { row := shelfPlaysRow, standIns := [], harness := (true, "6517c4393f5fef3167336c1f1bd5a7a211845f5c7113427e9d1e736c82f1535e"), looks := false }, kinds := [], alts := [], laidByText := true, laidKinds := [.data, .pinned], laidTests := true, laidLooks := .later }
def ShelfPlaysCardSaid : Prop := Claim7.holds Tryd.pinned (.plain (OpenSpec.ofChange shelfPlaysSpec)) shelfPlaysCard

/-- THE TIED CARD OF 'drawbridgelaw19.ShelfNone'. -/
def shelfNoneCard : Claim7 := { stood := { row := shelfNoneRow, standIns := [], harness := (true, "6517c4393f5fef3167336c1f1bd5a7a211845f5c7113427e9d1e736c82f1535e"), looks := false }, kinds := [], alts := [], laidByText := true, laidKinds := [.data, .pinned], laidTests := true, laidLooks := .later }
def ShelfNoneCardSaid : Prop := Claim7.holds Tryd.pinned (.plain (OpenSpec.ofChange shelfNoneSpec)) shelfNoneCard

/-- THE SECOND FORM's CARD OF 'drawbridgelaw19.ShelfBounds'. -/
def shelfBoundsUptoCard : Claim7 := { stood := { row := shelfBoundsUptoRow, standIns := [], harness := (true, "6517c4393f5fef3167336c1f1bd5a7a211845f5c7113427e9d1e736c82f1535e"), looks := false }, kinds := [], alts := [], laidByText := true, laidKinds := [.data, .pinned], laidTests := true, laidLooks := .later }
def ShelfBoundsUptoCardSaid : Prop := Claim7.holds Tryd.pinned (.plain (OpenSpec.upto shelfBoundsSpec)) shelfBoundsUptoCard

/-- THE SECOND FORM's CARD OF 'drawbridgelaw19.ShelfOwn'. -/
def shelfOwnUptoCard : Claim7 := { stood := { row := shelfOwnUptoRow, standIns := [], harness := (true, "6517c4393f5fef3167336c1f1bd5a7a211845f5c7113427e9d1e736c82f1535e"), looks := false }, kinds := [], alts := [], laidByText := true, laidKinds := [.data, .pinned], laidTests := true, laidLooks := .later }
def ShelfOwnUptoCardSaid : Prop := Claim7.holds Tryd.pinned (.plain (OpenSpec.upto shelfOwnSpec)) shelfOwnUptoCard

/-- THE SECOND FORM's CARD OF 'drawbridgelaw19.ShelfKeeps'. -/
def shelfKeepsUptoCard : Claim7 := { stood := { row := shelfKeepsUptoRow, standIns := [], harness := (true, "6517c4393f5fef3167336c1f1bd5a7a211845f5c7113427e9d1e736c82f1535e"), looks := false }, kinds := [], alts := [], laidByText := true, laidKinds := [.data, .pinned], laidTests := true, laidLooks := .later }
def ShelfKeepsUptoCardSaid : Prop := Claim7.holds Tryd.pinned (.plain (OpenSpec.upto shelfKeepsSpec)) shelfKeepsUptoCard

/-- THE SECOND FORM's CARD OF 'drawbridgelaw19.ShelfPlays'. -/
def shelfPlaysUptoCard : Claim7 := { stood := { row := shelfPlaysUptoRow, standIns := [], harness := (true, "6517c4393f5fef3167336c1f1bd5a7a211845f5c7113427e9d1e736c82f1535e"), looks := false }, kinds := [], alts := [], laidByText := true, laidKinds := [.data, .pinned], laidTests := true, laidLooks := .later }
def ShelfPlaysUptoCardSaid : Prop := Claim7.holds Tryd.pinned (.plain (OpenSpec.upto shelfPlaysSpec)) shelfPlaysUptoCard

/-- THE SECOND FORM's CARD OF 'drawbridgelaw19.ShelfNone'. -/
def shelfNoneUptoCard : Claim7 := { stood := { row := shelfNoneUptoRow, standIns := [], harness := (true, "6517c4393f5fef3167336c1f1bd5a7a211845f5c7113427e9d1e736c82f1535e"), looks := false }, kinds := [], alts := [], laidByText := true, laidKinds := [.data, .pinned], laidTests := true, laidLooks := .later }
def ShelfNoneUptoCardSaid : Prop := Claim7.holds Tryd.pinned (.plain (OpenSpec.upto shelfNoneSpec)) shelfNoneUptoCard
end Rows
end Go.Proofs.YthjkbempgnihmaaDoor
