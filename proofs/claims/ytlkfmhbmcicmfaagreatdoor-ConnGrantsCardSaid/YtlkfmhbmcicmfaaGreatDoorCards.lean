/-
  DERIVED. GIVEN WITH THE SEED: THE CARDS: each row of YtlkfmhbmcicmfaaGreatDoorRows.lean that lists a variable, with what it lists TIED to the program's text (the seventh form; the later family's looks); each row that meets fmt, with fmt's text TOLD by the authors' own Lean function (tested against real Go, not proved from fmt's source: count such statements apart). THE CARD IS WHAT COUNTS. Prove the row's statement (the work); the ties are given (YtlkfmhbmcicmfaaGreatDoorTie.lean); close each card by the builder's one call (the guide's Derived/Test/ToyasCard.lean, 'card_holds'). Laid BY PROGRAM, IN A SANDBOX (cutbox-door.mjs). By AI agents, Wed Nov 11 2026. No macro, syntax, notation, axiom, sorry.
-/
import Derived.Test.YtlkfmhbmcicmfaaGreatDoorRows
import GoSem.ClaimSeven
namespace Go.Proofs.YtlkfmhbmcicmfaaGreatDoor
namespace Rows

/-- THE TIED CARD OF 'drawbridgelaw24.PeerTells'. -/
def peerTellsCard : Claim7 := { stood := { row := peerTellsRow, standIns := [], harness := (true, "da6107c496139b8310fbe96e101f7cb7e4d567997f7f53c819de4530e71386e3"), looks := true }, kinds := [], alts := [], laidByText := true, laidKinds := [.data, .pinned], laidTests := true, laidLooks := .later }
def PeerTellsCardSaid : Prop := Claim7.holds Tryz.pinned (.plain (OpenSpec.ofChange peerTellsSpec)) peerTellsCard

/-- THE TIED CARD OF 'drawbridgelaw22.ConnGrants'. -/
def connGrantsCard : Claim7 := { stood := { row := connGrantsRow, standIns := [], harness := (true, "da6107c496139b8310fbe96e101f7cb7e4d567997f7f53c819de4530e71386e3"), looks := true }, kinds := [], alts := [], laidByText := true, laidKinds := [.data, .pinned], laidTests := true, laidLooks := .later }
def ConnGrantsCardSaid : Prop := Claim7.holds Tryz.pinned (.plain (OpenSpec.ofChange connGrantsSpec)) connGrantsCard

/-- THE TIED CARD OF 'drawbridgelaw22.ConnPings'. -/
def connPingsCard : Claim7 := { stood := { row := connPingsRow, standIns := [], harness := (true, "da6107c496139b8310fbe96e101f7cb7e4d567997f7f53c819de4530e71386e3"), looks := true }, kinds := [], alts := [], laidByText := true, laidKinds := [.data, .pinned], laidTests := true, laidLooks := .later }
def ConnPingsCardSaid : Prop := Claim7.holds Tryz.pinned (.plain (OpenSpec.ofChange connPingsSpec)) connPingsCard

/-- THE TIED CARD OF 'drawbridgelaw22.ConnDrains'. -/
def connDrainsCard : Claim7 := { stood := { row := connDrainsRow, standIns := [], harness := (true, "da6107c496139b8310fbe96e101f7cb7e4d567997f7f53c819de4530e71386e3"), looks := true }, kinds := [], alts := [], laidByText := true, laidKinds := [.data, .pinned], laidTests := true, laidLooks := .later }
def ConnDrainsCardSaid : Prop := Claim7.holds Tryz.pinned (.plain (OpenSpec.ofChange connDrainsSpec)) connDrainsCard

/-- THE TIED CARD OF 'drawbridgelaw22.ConnBack'. -/
def connBackCard : Claim7 := { stood := { row := connBackRow, standIns := [], harness := (true, "da6107c496139b8310fbe96e101f7cb7e4d567997f7f53c819de4530e71386e3"), looks := true }, kinds := [], alts := [], laidByText := true, laidKinds := [.data, .pinned], laidTests := true, laidLooks := .later }
def ConnBackCardSaid : Prop := Claim7.holds Tryz.pinned (.plain (OpenSpec.ofChange connBackSpec)) connBackCard

/-- THE TIED CARD OF 'drawbridgelaw22.ConnWrong'. -/
def connWrongCard : Claim7 := { stood := { row := connWrongRow, standIns := [], harness := (true, "da6107c496139b8310fbe96e101f7cb7e4d567997f7f53c819de4530e71386e3"), looks := true }, kinds := [], alts := [], laidByText := true, laidKinds := [.data, .pinned], laidTests := true, laidLooks := .later }
def ConnWrongCardSaid : Prop := Claim7.holds Tryz.pinned (.plain (OpenSpec.ofChange connWrongSpec)) connWrongCard

/-- THE TIED CARD OF 'drawbridgelaw22.ConnNone'. -/
def connNoneCard : Claim7 := { stood := { row := connNoneRow, standIns := [], harness := (true, "da6107c496139b8310fbe96e101f7cb7e4d567997f7f53c819de4530e71386e3"), looks := true }, kinds := [], alts := [], laidByText := true, laidKinds := [.data, .pinned], laidTests := true, laidLooks := .later }
def ConnNoneCardSaid : Prop := Claim7.holds Tryz.pinned (.plain (OpenSpec.ofChange connNoneSpec)) connNoneCard

/-- THE SECOND FORM's CARD OF 'drawbridgelaw24.PeerTells'. -/
def peerTellsUptoCard : Claim7 := { stood := { row := peerTellsUptoRow, standIns := [], harness := (true, "da6107c496139b8310fbe96e101f7cb7e4d567997f7f53c819de4530e71386e3"), looks := true }, kinds := [], alts := [], laidByText := true, laidKinds := [.data, .pinned], laidTests := true, laidLooks := .later }
def PeerTellsUptoCardSaid : Prop := Claim7.holds Tryz.pinned (.plain (OpenSpec.upto peerTellsSpec)) peerTellsUptoCard

/-- THE SECOND FORM's CARD OF 'drawbridgelaw22.ConnGrants'. -/
def connGrantsUptoCard : Claim7 := { stood := { row := connGrantsUptoRow, standIns := [], harness := (true, "da6107c496139b8310fbe96e101f7cb7e4d567997f7f53c819de4530e71386e3"), looks := true }, kinds := [], alts := [], laidByText := true, laidKinds := [.data, .pinned], laidTests := true, laidLooks := .later }
def ConnGrantsUptoCardSaid : Prop := Claim7.holds Tryz.pinned (.plain (OpenSpec.upto connGrantsSpec)) connGrantsUptoCard

/-- THE SECOND FORM's CARD OF 'drawbridgelaw22.ConnPings'. -/
def connPingsUptoCard : Claim7 := { stood := { row := connPingsUptoRow, standIns := [], harness := (true, "da6107c496139b8310fbe96e101f7cb7e4d567997f7f53c819de4530e71386e3"), looks := true }, kinds := [], alts := [], laidByText := true, laidKinds := [.data, .pinned], laidTests := true, laidLooks := .later }
def ConnPingsUptoCardSaid : Prop := Claim7.holds Tryz.pinned (.plain (OpenSpec.upto connPingsSpec)) connPingsUptoCard

/-- THE SECOND FORM's CARD OF 'drawbridgelaw22.ConnDrains'. -/
def connDrainsUptoCard : Claim7 := { stood := { row := connDrainsUptoRow, standIns := [], harness := (true, "da6107c496139b8310fbe96e101f7cb7e4d567997f7f53c819de4530e71386e3"), looks := true }, kinds := [], alts := [], laidByText := true, laidKinds := [.data, .pinned], laidTests := true, laidLooks := .later }
def ConnDrainsUptoCardSaid : Prop := Claim7.holds Tryz.pinned (.plain (OpenSpec.upto connDrainsSpec)) connDrainsUptoCard

/-- THE SECOND FORM's CARD OF 'drawbridgelaw22.ConnBack'. -/
def connBackUptoCard : Claim7 := { stood := { row := connBackUptoRow, standIns := [], harness := (true, "da6107c496139b8310fbe96e101f7cb7e4d567997f7f53c819de4530e71386e3"), looks := true }, kinds := [], alts := [], laidByText := true, laidKinds := [.data, .pinned], laidTests := true, laidLooks := .later }
def ConnBackUptoCardSaid : Prop := Claim7.holds Tryz.pinned (.plain (OpenSpec.upto connBackSpec)) connBackUptoCard

/-- THE SECOND FORM's CARD OF 'drawbridgelaw22.ConnWrong'. -/
def connWrongUptoCard : Claim7 := { stood := { row := connWrongUptoRow, standIns := [], harness := (true, "da6107c496139b8310fbe96e101f7cb7e4d567997f7f53c819de4530e71386e3"), looks := true }, kinds := [], alts := [], laidByText := true, laidKinds := [.data, .pinned], laidTests := true, laidLooks := .later }
def ConnWrongUptoCardSaid : Prop := Claim7.holds Tryz.pinned (.plain (OpenSpec.upto connWrongSpec)) connWrongUptoCard

/-- THE SECOND FORM's CARD OF 'drawbridgelaw22.ConnNone'. -/
def connNoneUptoCard : Claim7 := { stood := { row := connNoneUptoRow, standIns := [], harness := (true, "da6107c496139b8310fbe96e101f7cb7e4d567997f7f53c819de4530e71386e3"), looks := true }, kinds := [], alts := [], laidByText := true, laidKinds := [.data, .pinned], laidTests := true, laidLooks := .later }
def ConnNoneUptoCardSaid : Prop := Claim7.holds Tryz.pinned (.plain (OpenSpec.upto connNoneSpec)) connNoneUptoCard
end Rows
end Go.Proofs.YtlkfmhbmcicmfaaGreatDoor
