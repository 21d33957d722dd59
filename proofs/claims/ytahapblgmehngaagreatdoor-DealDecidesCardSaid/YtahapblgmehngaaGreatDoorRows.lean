/-
  NARROWER THAN 'FOR EVERY INPUT', by the rows' own cells (each row's printed sentence says how): DealDecides: laid · DealServes: laid · DealAgain: laid · DealLacks: laid · DealAsks: laid.
  DERIVED. THE GIVEN ROWS OF THIS SEAT. 5 by the template 'for every input the law returns true; each argument reads behind the call as it read before'; 0 by the template 'total and deterministic' (their statements: YtahapblgmehngaaGreatDoorTotals.lean).
  GIVEN WITH THE SEED: the statements are not yours to turn. If you find one false, say at which input.
  Laid BY PROGRAM, IN A SANDBOX (cutbox-rows.mjs): the forced cells as the released guide's own fill.sh prints them over the translation 8e3d13a9b2b43857… (all of the seat's roots in one cut). By AI agents, Wed Nov 11 2026. No macro, syntax, notation, axiom, sorry.
-/
import Derived.Test.YtahapblgmehngaaGreatDoorChecked
import GoSem.PinnedTables
import GoSem.Claim
import GoSem.ClaimJoined
import GoSem.ClaimMapViews
import Derived.JoinedTies
import Derived.KernelRfl
namespace Go.Proofs.YtahapblgmehngaaGreatDoor
/- THE CELL 'sum', in the pinned program and in every row, IS THE sha256 OF THE DUMP (.gsa) THAT YtahapblgmehngaaGreatDoorProg.lean LOADS. Nothing in Lean hashes anything: it is a label: what it is worth is what the hold of that sum in a sandbox is worth. -/
noncomputable def Tryz.pinned : Pinned := { name := "ytahapblgmehngaagreatdoor", sum := "8e3d13a9b2b43857d71a4a5e5c5266e66c93f4bed57eeb728fd3375c841a1244", checked := Tryz.checked }
namespace Rows
def none {H : Type} : Left H := { results := [], args := [] }

/- WHAT THE LISTED PACKAGE-LEVEL VARIABLES READ AS WHEN THE CALL BEGINS. Each datum BY PROGRAM (the guide's laid-datum.mjs) off the statement by which the dump's own 'gosem.cut.vars' lays the variable. In a bare row this is a premise. The card (YtahapblgmehngaaGreatDoorCards.lean) ties it to the program's text. -/
def laid_unicode_utf8_acceptRanges {H : Type} : DataW H := .agg [.agg [.lit (.int .u8 128), .lit (.int .u8 191)], .agg [.lit (.int .u8 160), .lit (.int .u8 191)], .agg [.lit (.int .u8 128), .lit (.int .u8 159)], .agg [.lit (.int .u8 144), .lit (.int .u8 191)], .agg [.lit (.int .u8 128), .lit (.int .u8 143)], .agg [.lit (.int .u8 0), .lit (.int .u8 0)], .agg [.lit (.int .u8 0), .lit (.int .u8 0)], .agg [.lit (.int .u8 0), .lit (.int .u8 0)], .agg [.lit (.int .u8 0), .lit (.int .u8 0)], .agg [.lit (.int .u8 0), .lit (.int .u8 0)], .agg [.lit (.int .u8 0), .lit (.int .u8 0)], .agg [.lit (.int .u8 0), .lit (.int .u8 0)], .agg [.lit (.int .u8 0), .lit (.int .u8 0)], .agg [.lit (.int .u8 0), .lit (.int .u8 0)], .agg [.lit (.int .u8 0), .lit (.int .u8 0)], .agg [.lit (.int .u8 0), .lit (.int .u8 0)]]
/-- One of Go's own tables, pinned by name: the form's constant. -/
def laid_unicode_utf8_first : DataW Unit := Go.Pinned.utf8First

/-- 'drawbridgelaw21.DealDecides': WHATEVER THE INPUT: true; the input reads as it did. -/
def dealDecidesSpec : ChangeSpec := { name := "dealDecides", fn := fun _ => fun
  | [d1, d2, d3] => { results := [.lit (.bool true)], args := [d1, d2, d3] }
  | _ => none }
def dealDecidesRow : OpenClaim := { program := "ytahapblgmehngaagreatdoor", sum := "8e3d13a9b2b43857d71a4a5e5c5266e66c93f4bed57eeb728fd3375c841a1244", func := "drawbridge/drawbridgelaw21.DealDecides", spec := "dealDecides", inPlace := ["internal/bytealg.IndexByteString", "internal/bytealg.IndexString", "internal/abi.NoEscape", "internal/bytealg.MakeNoZero"], unfollowed := true, recurses := true, named := ["unicode/utf8.first", "unicode/utf8.acceptRanges", "internal/bytealg.MaxLen"], apart := false, laid := [("unicode/utf8.acceptRanges", laid_unicode_utf8_acceptRanges), ("unicode/utf8.first", laid_unicode_utf8_first)] }
def DealDecidesSaid : Prop := dealDecidesRow.holds Tryz.pinned (OpenSpec.ofChange dealDecidesSpec)

/-- ITS FALSE NEIGHBOUR: 'it returns false'. Refute it at one input. -/
def dealDecidesWrong : ChangeSpec := { name := "dealDecides", fn := fun _ => fun
  | [d1, d2, d3] => { results := [.lit (.bool false)], args := [d1, d2, d3] }
  | _ => none }
def DealDecidesWrongFalsely : Prop := dealDecidesRow.holds Tryz.pinned (OpenSpec.ofChange dealDecidesWrong)

/-- 'drawbridgelaw21.DealServes': WHATEVER THE INPUT: true; the input reads as it did. -/
def dealServesSpec : ChangeSpec := { name := "dealServes", fn := fun _ => fun
  | [d1, d2, d3] => { results := [.lit (.bool true)], args := [d1, d2, d3] }
  | _ => none }
def dealServesRow : OpenClaim := { program := "ytahapblgmehngaagreatdoor", sum := "8e3d13a9b2b43857d71a4a5e5c5266e66c93f4bed57eeb728fd3375c841a1244", func := "drawbridge/drawbridgelaw21.DealServes", spec := "dealServes", inPlace := ["internal/bytealg.IndexByteString", "internal/bytealg.IndexString", "internal/abi.NoEscape", "internal/bytealg.MakeNoZero"], unfollowed := true, recurses := true, named := ["unicode/utf8.first", "unicode/utf8.acceptRanges", "internal/bytealg.MaxLen"], apart := false, laid := [("unicode/utf8.acceptRanges", laid_unicode_utf8_acceptRanges), ("unicode/utf8.first", laid_unicode_utf8_first)] }
def DealServesSaid : Prop := dealServesRow.holds Tryz.pinned (OpenSpec.ofChange dealServesSpec)

/-- ITS FALSE NEIGHBOUR: 'it returns false'. Refute it at one input. -/
def dealServesWrong : ChangeSpec := { name := "dealServes", fn := fun _ => fun
  | [d1, d2, d3] => { results := [.lit (.bool false)], args := [d1, d2, d3] }
  | _ => none }
def DealServesWrongFalsely : Prop := dealServesRow.holds Tryz.pinned (OpenSpec.ofChange dealServesWrong)

/-- 'drawbridgelaw21.DealAgain': WHATEVER THE INPUT: true; the input reads as it did. -/
def dealAgainSpec : ChangeSpec := { name := "dealAgain", fn := fun _ => fun
  | [d1, d2] => { results := [.lit (.bool true)], args := [d1, d2] }
  | _ => none }
def dealAgainRow : OpenClaim := { program := "ytahapblgmehngaagreatdoor", sum := "8e3d13a9b2b43857d71a4a5e5c5266e66c93f4bed57eeb728fd3375c841a1244", func := "drawbridge/drawbridgelaw21.DealAgain", spec := "dealAgain", inPlace := ["internal/bytealg.IndexByteString", "internal/bytealg.IndexString", "internal/abi.NoEscape", "internal/bytealg.MakeNoZero"], unfollowed := true, recurses := true, named := ["unicode/utf8.first", "unicode/utf8.acceptRanges", "internal/bytealg.MaxLen"], apart := false, laid := [("unicode/utf8.acceptRanges", laid_unicode_utf8_acceptRanges), ("unicode/utf8.first", laid_unicode_utf8_first)] }
def DealAgainSaid : Prop := dealAgainRow.holds Tryz.pinned (OpenSpec.ofChange dealAgainSpec)

/-- ITS FALSE NEIGHBOUR: 'it returns false'. Refute it at one input. -/
def dealAgainWrong : ChangeSpec := { name := "dealAgain", fn := fun _ => fun
  | [d1, d2] => { results := [.lit (.bool false)], args := [d1, d2] }
  | _ => none }
def DealAgainWrongFalsely : Prop := dealAgainRow.holds Tryz.pinned (OpenSpec.ofChange dealAgainWrong)

/-- 'drawbridgelaw21.DealLacks': WHATEVER THE INPUT: true; the input reads as it did. -/
def dealLacksSpec : ChangeSpec := { name := "dealLacks", fn := fun _ => fun
  | [d1, d2, d3] => { results := [.lit (.bool true)], args := [d1, d2, d3] }
  | _ => none }
def dealLacksRow : OpenClaim := { program := "ytahapblgmehngaagreatdoor", sum := "8e3d13a9b2b43857d71a4a5e5c5266e66c93f4bed57eeb728fd3375c841a1244", func := "drawbridge/drawbridgelaw21.DealLacks", spec := "dealLacks", inPlace := ["internal/bytealg.IndexByteString", "internal/bytealg.IndexString", "internal/abi.NoEscape", "internal/bytealg.MakeNoZero"], unfollowed := true, recurses := true, named := ["unicode/utf8.first", "unicode/utf8.acceptRanges", "internal/bytealg.MaxLen"], apart := false, laid := [("unicode/utf8.acceptRanges", laid_unicode_utf8_acceptRanges), ("unicode/utf8.first", laid_unicode_utf8_first)] }
def DealLacksSaid : Prop := dealLacksRow.holds Tryz.pinned (OpenSpec.ofChange dealLacksSpec)

/-- ITS FALSE NEIGHBOUR: 'it returns false'. Refute it at one input. -/
def dealLacksWrong : ChangeSpec := { name := "dealLacks", fn := fun _ => fun
  | [d1, d2, d3] => { results := [.lit (.bool false)], args := [d1, d2, d3] }
  | _ => none }
def DealLacksWrongFalsely : Prop := dealLacksRow.holds Tryz.pinned (OpenSpec.ofChange dealLacksWrong)

/-- 'drawbridgelaw21.DealAsks': WHATEVER THE INPUT: true; the input reads as it did. -/
def dealAsksSpec : ChangeSpec := { name := "dealAsks", fn := fun _ => fun
  | [d1, d2] => { results := [.lit (.bool true)], args := [d1, d2] }
  | _ => none }
def dealAsksRow : OpenClaim := { program := "ytahapblgmehngaagreatdoor", sum := "8e3d13a9b2b43857d71a4a5e5c5266e66c93f4bed57eeb728fd3375c841a1244", func := "drawbridge/drawbridgelaw21.DealAsks", spec := "dealAsks", inPlace := ["internal/bytealg.IndexByteString", "internal/bytealg.IndexString", "internal/abi.NoEscape", "internal/bytealg.MakeNoZero"], unfollowed := true, recurses := true, named := ["unicode/utf8.first", "unicode/utf8.acceptRanges", "internal/bytealg.MaxLen"], apart := false, laid := [("unicode/utf8.acceptRanges", laid_unicode_utf8_acceptRanges), ("unicode/utf8.first", laid_unicode_utf8_first)] }
def DealAsksSaid : Prop := dealAsksRow.holds Tryz.pinned (OpenSpec.ofChange dealAsksSpec)

/-- ITS FALSE NEIGHBOUR: 'it returns false'. Refute it at one input. -/
def dealAsksWrong : ChangeSpec := { name := "dealAsks", fn := fun _ => fun
  | [d1, d2] => { results := [.lit (.bool false)], args := [d1, d2] }
  | _ => none }
def DealAsksWrongFalsely : Prop := dealAsksRow.holds Tryz.pinned (OpenSpec.ofChange dealAsksWrong)

/- THE SECOND FORM. 'bulk': how many values and letters a reading holds, each counted each time it is reached (what is shared counts as often as it is met; a slice's spare places count too). A statement '..UptoSaid' is the law's where the arguments, and the package variables that the reading takes, are together of bulk at most 1048576: NARROWER than '..Said'. Prove '..Said' where nothing that the law and all that it calls make is longer than what came in: it says more and counts as full. Else prove '..UptoSaid'. A law counts once. -/
mutual
def uptoBulk {H : Type} : DataW H → Nat
  | .lit (.string bytes) => bytes.length + 1
  | .lit _ => 1
  | .nil => 1
  | .ptr d => uptoBulk d + 1
  | .slice elems spare => uptoBulkAll elems + uptoBulkAll spare + 1
  | .agg parts => uptoBulkAll parts + 1
  | .iface _ d => uptoBulk d + 1
  | .map entries => uptoBulkEntries entries + 1
  | .held _ => 1
def uptoBulkAll {H : Type} : List (DataW H) → Nat
  | [] => 0
  | d :: r => uptoBulk d + uptoBulkAll r
def uptoBulkEntries {H : Type} : List (Lit × DataW H) → Nat
  | [] => 0
  | x :: r => uptoBulkEntry x + uptoBulkEntries r
def uptoBulkEntry {H : Type} : Lit × DataW H → Nat
  | (.string bytes, d) => bytes.length + uptoBulk d + 1
  | (_, d) => uptoBulk d + 1
 end
def uptoSmall : (H : Type) → List (DataW H) → Bool := fun _ ds => decide (uptoBulkAll ds ≤ 1048576)
def OpenSpec.upto (s : _root_.Go.ChangeSpec) : _root_.Go.OpenSpec := { _root_.Go.OpenSpec.ofChange s with cond := some uptoSmall }

/-- 'drawbridgelaw21.DealDecides', WHERE WHAT IT READS IS OF BULK AT MOST 1048576: true; the input reads as it did. -/
def dealDecidesUptoRow : OpenClaim := { program := "ytahapblgmehngaagreatdoor", sum := "8e3d13a9b2b43857d71a4a5e5c5266e66c93f4bed57eeb728fd3375c841a1244", func := "drawbridge/drawbridgelaw21.DealDecides", spec := "dealDecides", inPlace := ["internal/bytealg.IndexByteString", "internal/bytealg.IndexString", "internal/abi.NoEscape", "internal/bytealg.MakeNoZero"], unfollowed := true, recurses := true, named := ["unicode/utf8.first", "unicode/utf8.acceptRanges", "internal/bytealg.MaxLen"], apart := false, laid := [("unicode/utf8.acceptRanges", laid_unicode_utf8_acceptRanges), ("unicode/utf8.first", laid_unicode_utf8_first)], narrowed := true }
def DealDecidesUptoSaid : Prop := dealDecidesUptoRow.holds Tryz.pinned (OpenSpec.upto dealDecidesSpec)

/-- 'drawbridgelaw21.DealServes', WHERE WHAT IT READS IS OF BULK AT MOST 1048576: true; the input reads as it did. -/
def dealServesUptoRow : OpenClaim := { program := "ytahapblgmehngaagreatdoor", sum := "8e3d13a9b2b43857d71a4a5e5c5266e66c93f4bed57eeb728fd3375c841a1244", func := "drawbridge/drawbridgelaw21.DealServes", spec := "dealServes", inPlace := ["internal/bytealg.IndexByteString", "internal/bytealg.IndexString", "internal/abi.NoEscape", "internal/bytealg.MakeNoZero"], unfollowed := true, recurses := true, named := ["unicode/utf8.first", "unicode/utf8.acceptRanges", "internal/bytealg.MaxLen"], apart := false, laid := [("unicode/utf8.acceptRanges", laid_unicode_utf8_acceptRanges), ("unicode/utf8.first", laid_unicode_utf8_first)], narrowed := true }
def DealServesUptoSaid : Prop := dealServesUptoRow.holds Tryz.pinned (OpenSpec.upto dealServesSpec)

/-- 'drawbridgelaw21.DealAgain', WHERE WHAT IT READS IS OF BULK AT MOST 1048576: true; the input reads as it did. -/
def dealAgainUptoRow : OpenClaim := { program := "ytahapblgmehngaagreatdoor", sum := "8e3d13a9b2b43857d71a4a5e5c5266e66c93f4bed57eeb728fd3375c841a1244", func := "drawbridge/drawbridgelaw21.DealAgain", spec := "dealAgain", inPlace := ["internal/bytealg.IndexByteString", "internal/bytealg.IndexString", "internal/abi.NoEscape", "internal/bytealg.MakeNoZero"], unfollowed := true, recurses := true, named := ["unicode/utf8.first", "unicode/utf8.acceptRanges", "internal/bytealg.MaxLen"], apart := false, laid := [("unicode/utf8.acceptRanges", laid_unicode_utf8_acceptRanges), ("unicode/utf8.first", laid_unicode_utf8_first)], narrowed := true }
def DealAgainUptoSaid : Prop := dealAgainUptoRow.holds Tryz.pinned (OpenSpec.upto dealAgainSpec)

/-- 'drawbridgelaw21.DealLacks', WHERE WHAT IT READS IS OF BULK AT MOST 1048576: true; the input reads as it did. -/
def dealLacksUptoRow : OpenClaim := { program := "ytahapblgmehngaagreatdoor", sum := "8e3d13a9b2b43857d71a4a5e5c5266e66c93f4bed57eeb728fd3375c841a1244", func := "drawbridge/drawbridgelaw21.DealLacks", spec := "dealLacks", inPlace := ["internal/bytealg.IndexByteString", "internal/bytealg.IndexString", "internal/abi.NoEscape", "internal/bytealg.MakeNoZero"], unfollowed := true, recurses := true, named := ["unicode/utf8.first", "unicode/utf8.acceptRanges", "internal/bytealg.MaxLen"], apart := false, laid := [("unicode/utf8.acceptRanges", laid_unicode_utf8_acceptRanges), ("unicode/utf8.first", laid_unicode_utf8_first)], narrowed := true }
def DealLacksUptoSaid : Prop := dealLacksUptoRow.holds Tryz.pinned (OpenSpec.upto dealLacksSpec)

/-- 'drawbridgelaw21.DealAsks', WHERE WHAT IT READS IS OF BULK AT MOST 1048576: true; the input reads as it did. -/
def dealAsksUptoRow : OpenClaim := { program := "ytahapblgmehngaagreatdoor", sum := "8e3d13a9b2b43857d71a4a5e5c5266e66c93f4bed57eeb728fd3375c841a1244", func := "drawbridge/drawbridgelaw21.DealAsks", spec := "dealAsks", inPlace := ["internal/bytealg.IndexByteString", "internal/bytealg.IndexString", "internal/abi.NoEscape", "internal/bytealg.MakeNoZero"], unfollowed := true, recurses := true, named := ["unicode/utf8.first", "unicode/utf8.acceptRanges", "internal/bytealg.MaxLen"], apart := false, laid := [("unicode/utf8.acceptRanges", laid_unicode_utf8_acceptRanges), ("unicode/utf8.first", laid_unicode_utf8_first)], narrowed := true }
def DealAsksUptoSaid : Prop := dealAsksUptoRow.holds Tryz.pinned (OpenSpec.upto dealAsksSpec)

end Rows
end Go.Proofs.YtahapblgmehngaaGreatDoor
