/-
  NARROWER THAN 'FOR EVERY INPUT', by the rows' own cells (each row's printed sentence says how): HopElements: laid · HopTwice: laid · HopStrips: laid · HopJoins: laid · HopValues: laid.
  DERIVED. THE GIVEN ROWS OF THIS SEAT. 5 by the template 'for every input the law returns true; each argument reads behind the call as it read before'; 0 by the template 'total and deterministic' (their statements: YtjheelboadklhaaDoorTotals.lean).
  GIVEN WITH THE SEED: the statements are not yours to turn. If you find one false, say at which input.
  Laid BY PROGRAM, IN A SANDBOX (cutbox-rows.mjs): the forced cells as the released guide's own fill.sh prints them over the translation dc7926d6438b0c05… (all of the seat's roots in one cut). By AI agents, Wed Nov 11 2026. No macro, syntax, notation, axiom, sorry.
-/
import Derived.Test.YtjheelboadklhaaDoorChecked
import GoSem.PinnedTables
import GoSem.Claim
import GoSem.ClaimJoined
import GoSem.ClaimMapViews
import Derived.JoinedTies
import Derived.KernelRfl
namespace Go.Proofs.YtjheelboadklhaaDoor
/- THE CELL 'sum', in the pinned program and in every row, IS THE sha256 OF THE DUMP (.gsa) THAT YtjheelboadklhaaDoorProg.lean LOADS. Nothing in Lean hashes anything: it is a label: what it is worth is what the hold of that sum in a sandbox is worth. -/
noncomputable def Tryd.pinned : Pinned := { name := "ytjheelboadklhaadoor", sum := "dc7926d6438b0c05d015a78319d02bf365a2cc693cdf193565fb2f615bec9060", checked := Tryd.checked }
namespace Rows
def none {H : Type} : Left H := { results := [], args := [] }

/- WHAT THE LISTED PACKAGE-LEVEL VARIABLES READ AS WHEN THE CALL BEGINS. Each datum BY PROGRAM (the guide's laid-datum.mjs) off the statement by which the dump's own 'gosem.cut.vars' lays the variable. In a bare row this is a premise. The card (YtjheelboadklhaaDoorCards.lean) ties it to the program's text. -/
def laid_unicode_utf8_acceptRanges {H : Type} : DataW H := .agg [.agg [.lit (.int .u8 128), .lit (.int .u8 191)], .agg [.lit (.int .u8 160), .lit (.int .u8 191)], .agg [.lit (.int .u8 128), .lit (.int .u8 159)], .agg [.lit (.int .u8 144), .lit (.int .u8 191)], .agg [.lit (.int .u8 128), .lit (.int .u8 143)], .agg [.lit (.int .u8 0), .lit (.int .u8 0)], .agg [.lit (.int .u8 0), .lit (.int .u8 0)], .agg [.lit (.int .u8 0), .lit (.int .u8 0)], .agg [.lit (.int .u8 0), .lit (.int .u8 0)], .agg [.lit (.int .u8 0), .lit (.int .u8 0)], .agg [.lit (.int .u8 0), .lit (.int .u8 0)], .agg [.lit (.int .u8 0), .lit (.int .u8 0)], .agg [.lit (.int .u8 0), .lit (.int .u8 0)], .agg [.lit (.int .u8 0), .lit (.int .u8 0)], .agg [.lit (.int .u8 0), .lit (.int .u8 0)], .agg [.lit (.int .u8 0), .lit (.int .u8 0)]]
/-- One of Go's own tables, pinned by name: the form's constant. -/
def laid_unicode_utf8_first : DataW Unit := Go.Pinned.utf8First

/-- 'drawbridgelaw11.HopElements': WHATEVER THE INPUT: true; the input reads as it did. -/
def hopElementsSpec : ChangeSpec := { name := "hopElements", fn := fun _ => fun
  | [d] => { results := [.lit (.bool true)], args := [d] }
  | _ => none }
def hopElementsRow : OpenClaim := { program := "ytjheelboadklhaadoor", sum := "dc7926d6438b0c05d015a78319d02bf365a2cc693cdf193565fb2f615bec9060", func := "drawbridge/drawbridgelaw11.HopElements", spec := "hopElements", inPlace := ["internal/bytealg.IndexByteString", "internal/bytealg.IndexString"], unfollowed := true, recurses := true, named := ["unicode/utf8.first", "unicode/utf8.acceptRanges", "internal/bytealg.MaxLen"], apart := false, laid := [("unicode/utf8.acceptRanges", laid_unicode_utf8_acceptRanges), ("unicode/utf8.first", laid_unicode_utf8_first)] }
def HopElementsSaid : Prop := hopElementsRow.holds Tryd.pinned (OpenSpec.ofChange hopElementsSpec)

/-- ITS FALSE NEIGHBOUR: 'it returns false'. Refute it at one input. -/
def hopElementsWrong : ChangeSpec := { name := "hopElements", fn := fun _ => fun
  | [d] => { results := [.lit (.bool false)], args := [d] }
  | _ => none }
def HopElementsWrongFalsely : Prop := hopElementsRow.holds Tryd.pinned (OpenSpec.ofChange hopElementsWrong)

/-- 'drawbridgelaw11.HopTwice': WHATEVER THE INPUT: true; the input reads as it did. -/
def hopTwiceSpec : ChangeSpec := { name := "hopTwice", fn := fun _ => fun
  | [d] => { results := [.lit (.bool true)], args := [d] }
  | _ => none }
def hopTwiceRow : OpenClaim := { program := "ytjheelboadklhaadoor", sum := "dc7926d6438b0c05d015a78319d02bf365a2cc693cdf193565fb2f615bec9060", func := "drawbridge/drawbridgelaw11.HopTwice", spec := "hopTwice", inPlace := ["internal/bytealg.IndexByteString", "internal/bytealg.IndexString"], unfollowed := true, recurses := true, named := ["unicode/utf8.first", "unicode/utf8.acceptRanges", "internal/bytealg.MaxLen"], apart := false, laid := [("unicode/utf8.acceptRanges", laid_unicode_utf8_acceptRanges), ("unicode/utf8.first", laid_unicode_utf8_first)] }
def HopTwiceSaid : Prop := hopTwiceRow.holds Tryd.pinned (OpenSpec.ofChange hopTwiceSpec)

/-- ITS FALSE NEIGHBOUR: 'it returns false'. Refute it at one input. -/
def hopTwiceWrong : ChangeSpec := { name := "hopTwice", fn := fun _ => fun
  | [d] => { results := [.lit (.bool false)], args := [d] }
  | _ => none }
def HopTwiceWrongFalsely : Prop := hopTwiceRow.holds Tryd.pinned (OpenSpec.ofChange hopTwiceWrong)

/-- 'drawbridgelaw11.HopStrips': WHATEVER THE INPUT: true; the input reads as it did. -/
def hopStripsSpec : ChangeSpec := { name := "hopStrips", fn := fun _ => fun
  | [d1, d2, d3] => { results := [.lit (.bool true)], args := [d1, d2, d3] }
  | _ => none }
def hopStripsRow : OpenClaim := { program := "ytjheelboadklhaadoor", sum := "dc7926d6438b0c05d015a78319d02bf365a2cc693cdf193565fb2f615bec9060", func := "drawbridge/drawbridgelaw11.HopStrips", spec := "hopStrips", inPlace := ["internal/bytealg.IndexByteString", "internal/bytealg.IndexString"], unfollowed := true, recurses := true, named := ["unicode/utf8.first", "unicode/utf8.acceptRanges", "internal/bytealg.MaxLen"], apart := false, laid := [("unicode/utf8.acceptRanges", laid_unicode_utf8_acceptRanges), ("unicode/utf8.first", laid_unicode_utf8_first)] }
def HopStripsSaid : Prop := hopStripsRow.holds Tryd.pinned (OpenSpec.ofChange hopStripsSpec)

/-- ITS FALSE NEIGHBOUR: 'it returns false'. Refute it at one input. -/
def hopStripsWrong : ChangeSpec := { name := "hopStrips", fn := fun _ => fun
  | [d1, d2, d3] => { results := [.lit (.bool false)], args := [d1, d2, d3] }
  | _ => none }
def HopStripsWrongFalsely : Prop := hopStripsRow.holds Tryd.pinned (OpenSpec.ofChange hopStripsWrong)

/-- 'drawbridgelaw11.HopJoins': WHATEVER THE INPUT: true; the input reads as it did. -/
def hopJoinsSpec : ChangeSpec := { name := "hopJoins", fn := fun _ => fun
  | [d] => { results := [.lit (.bool true)], args := [d] }
  | _ => none }
def hopJoinsRow : OpenClaim := { program := "ytjheelboadklhaadoor", sum := "dc7926d6438b0c05d015a78319d02bf365a2cc693cdf193565fb2f615bec9060", func := "drawbridge/drawbridgelaw11.HopJoins", spec := "hopJoins", inPlace := ["internal/bytealg.IndexByteString", "internal/bytealg.IndexString", "internal/abi.NoEscape", "internal/bytealg.MakeNoZero"], unfollowed := true, recurses := true, named := ["unicode/utf8.first", "unicode/utf8.acceptRanges", "internal/bytealg.MaxLen"], apart := false, laid := [("unicode/utf8.acceptRanges", laid_unicode_utf8_acceptRanges), ("unicode/utf8.first", laid_unicode_utf8_first)] }
def HopJoinsSaid : Prop := hopJoinsRow.holds Tryd.pinned (OpenSpec.ofChange hopJoinsSpec)

/-- ITS FALSE NEIGHBOUR: 'it returns false'. Refute it at one input. -/
def hopJoinsWrong : ChangeSpec := { name := "hopJoins", fn := fun _ => fun
  | [d] => { results := [.lit (.bool false)], args := [d] }
  | _ => none }
def HopJoinsWrongFalsely : Prop := hopJoinsRow.holds Tryd.pinned (OpenSpec.ofChange hopJoinsWrong)

/-- 'drawbridgelaw11.HopValues': WHATEVER THE INPUT: true; the input reads as it did. -/
def hopValuesSpec : ChangeSpec := { name := "hopValues", fn := fun _ => fun
  | [d1, d2, d3] => { results := [.lit (.bool true)], args := [d1, d2, d3] }
  | _ => none }
def hopValuesRow : OpenClaim := { program := "ytjheelboadklhaadoor", sum := "dc7926d6438b0c05d015a78319d02bf365a2cc693cdf193565fb2f615bec9060", func := "drawbridge/drawbridgelaw11.HopValues", spec := "hopValues", inPlace := ["internal/bytealg.IndexByteString", "internal/bytealg.IndexString", "internal/abi.NoEscape", "internal/bytealg.MakeNoZero"], unfollowed := true, recurses := true, named := ["unicode/utf8.first", "unicode/utf8.acceptRanges", "internal/bytealg.MaxLen"], apart := false, laid := [("unicode/utf8.acceptRanges", laid_unicode_utf8_acceptRanges), ("unicode/utf8.first", laid_unicode_utf8_first)] }
def HopValuesSaid : Prop := hopValuesRow.holds Tryd.pinned (OpenSpec.ofChange hopValuesSpec)

/-- ITS FALSE NEIGHBOUR: 'it returns false'. Refute it at one input. -/
def hopValuesWrong : ChangeSpec := { name := "hopValues", fn := fun _ => fun
  | [d1, d2, d3] => { results := [.lit (.bool false)], args := [d1, d2, d3] }
  | _ => none }
def HopValuesWrongFalsely : Prop := hopValuesRow.holds Tryd.pinned (OpenSpec.ofChange hopValuesWrong)

/- THE SECOND FORM. 'bulk': how many values and letters a reading holds, each counted each time it is reached (what is shared counts as often as it is met; a slice's spare places count too). A statement '..UptoSaid' is the law's where the arguments, and the package variables that the reading takes, are together of bulk at most 1048576: NARROWER than '..Said'. Prove '..Said' where nothing that the law and all that it calls make is longer than what came in: it says more and counts as full. Else prove '..UptoSaid'. A law counts once. -/
mutual
def uptoBulk {H : Type} : DataW H → Nat
  | .lit (.string bytes) => bytes.length + 1
  | .lit _ => 1
  | .nil => 1
  | .ptr d => uptoBulk d + 1
  | .slice elems spare => uptoBulkAll elems + uptoBulkAll spare + 1
  | .agg parts => uptoBulkAll parts + 1
  | .iface _ d => uptoBulk d + 1
  | .map entries => uptoBulkEntries entries + 1
  | .held _ => 1
def uptoBulkAll {H : Type} : List (DataW H) → Nat
  | [] => 0
  | d :: r => uptoBulk d + uptoBulkAll r
def uptoBulkEntries {H : Type} : List (Lit × DataW H) → Nat
  | [] => 0
  | x :: r => uptoBulkEntry x + uptoBulkEntries r
def uptoBulkEntry {H : Type} : Lit × DataW H → Nat
  | (.string bytes, d) => bytes.length + uptoBulk d + 1
  | (_, d) => uptoBulk d + 1
 end
def uptoSmall : (H : Type) → List (DataW H) → Bool := fun _ ds => decide (uptoBulkAll ds ≤ 1048576)
def OpenSpec.upto (s : _root_.Go.ChangeSpec) : _root_.Go.OpenSpec := { _root_.Go.OpenSpec.ofChange s with cond := some uptoSmall }

/-- 'drawbridgelaw11.HopElements', WHERE WHAT IT READS IS OF BULK AT MOST 1048576: true; the input reads as it did. -/
def hopElementsUptoRow : OpenClaim := { program := "ytjheelboadklhaadoor", sum := "dc7926d6438b0c05d015a78319d02bf365a2cc693cdf193565fb2f615bec9060", func := "drawbridge/drawbridgelaw11.HopElements", spec := "hopElements", inPlace := ["internal/bytealg.IndexByteString", "internal/bytealg.IndexString"], unfollowed := true, recurses := true, named := ["unicode/utf8.first", "unicode/utf8.acceptRanges", "internal/bytealg.MaxLen"], apart := false, laid := [("unicode/utf8.acceptRanges", laid_unicode_utf8_acceptRanges), ("unicode/utf8.first", laid_unicode_utf8_first)], narrowed := true }
def HopElementsUptoSaid : Prop := hopElementsUptoRow.holds Tryd.pinned (OpenSpec.upto hopElementsSpec)

/-- 'drawbridgelaw11.HopTwice', WHERE WHAT IT READS IS OF BULK AT MOST 1048576: true; the input reads as it did. -/
def hopTwiceUptoRow : OpenClaim := { program := "ytjheelboadklhaadoor", sum := "dc7926d6438b0c05d015a78319d02bf365a2cc693cdf193565fb2f615bec9060", func := "drawbridge/drawbridgelaw11.HopTwice", spec := "hopTwice", inPlace := ["internal/bytealg.IndexByteString", "internal/bytealg.IndexString"], unfollowed := true, recurses := true, named := ["unicode/utf8.first", "unicode/utf8.acceptRanges", "internal/bytealg.MaxLen"], apart := false, laid := [("unicode/utf8.acceptRanges", laid_unicode_utf8_acceptRanges), ("unicode/utf8.first", laid_unicode_utf8_first)], narrowed := true }
def HopTwiceUptoSaid : Prop := hopTwiceUptoRow.holds Tryd.pinned (OpenSpec.upto hopTwiceSpec)

/-- 'drawbridgelaw11.HopStrips', WHERE WHAT IT READS IS OF BULK AT MOST 1048576: true; the input reads as it did. -/
def hopStripsUptoRow : OpenClaim := { program := "ytjheelboadklhaadoor", sum := "dc7926d6438b0c05d015a78319d02bf365a2cc693cdf193565fb2f615bec9060", func := "drawbridge/drawbridgelaw11.HopStrips", spec := "hopStrips", inPlace := ["internal/bytealg.IndexByteString", "internal/bytealg.IndexString"], unfollowed := true, recurses := true, named := ["unicode/utf8.first", "unicode/utf8.acceptRanges", "internal/bytealg.MaxLen"], apart := false, laid := [("unicode/utf8.acceptRanges", laid_unicode_utf8_acceptRanges), ("unicode/utf8.first", laid_unicode_utf8_first)], narrowed := true }
def HopStripsUptoSaid : Prop := hopStripsUptoRow.holds Tryd.pinned (OpenSpec.upto hopStripsSpec)

/-- 'drawbridgelaw11.HopJoins', WHERE WHAT IT READS IS OF BULK AT MOST 1048576: true; the input reads as it did. -/
def hopJoinsUptoRow : OpenClaim := { program := "ytjheelboadklhaadoor", sum := "dc7926d6438b0c05d015a78319d02bf365a2cc693cdf193565fb2f615bec9060", func := "drawbridge/drawbridgelaw11.HopJoins", spec := "hopJoins", inPlace := ["internal/bytealg.IndexByteString", "internal/bytealg.IndexString", "internal/abi.NoEscape", "internal/bytealg.MakeNoZero"], unfollowed := true, recurses := true, named := ["unicode/utf8.first", "unicode/utf8.acceptRanges", "internal/bytealg.MaxLen"], apart := false, laid := [("unicode/utf8.acceptRanges", laid_unicode_utf8_acceptRanges), ("unicode/utf8.first", laid_unicode_utf8_first)], narrowed := true }
def HopJoinsUptoSaid : Prop := hopJoinsUptoRow.holds Tryd.pinned (OpenSpec.upto hopJoinsSpec)

/-- 'drawbridgelaw11.HopValues', WHERE WHAT IT READS IS OF BULK AT MOST 1048576: true; the input reads as it did. -/
def hopValuesUptoRow : OpenClaim := { program := "ytjheelboadklhaadoor", sum := "dc7926d6438b0c05d015a78319d02bf365a2cc693cdf193565fb2f615bec9060", func := "drawbridge/drawbridgelaw11.HopValues", spec := "hopValues", inPlace := ["internal/bytealg.IndexByteString", "internal/bytealg.IndexString", "internal/abi.NoEscape", "internal/bytealg.MakeNoZero"], unfollowed := true, recurses := true, named := ["unicode/utf8.first", "unicode/utf8.acceptRanges", "internal/bytealg.MaxLen"], apart := false, laid := [("unicode/utf8.acceptRanges", laid_unicode_utf8_acceptRanges), ("unicode/utf8.first", laid_unicode_utf8_first)], narrowed := true }
def HopValuesUptoSaid : Prop := hopValuesUptoRow.holds Tryd.pinned (OpenSpec.upto hopValuesSpec)

end Rows
end Go.Proofs.YtjheelboadklhaaDoor
