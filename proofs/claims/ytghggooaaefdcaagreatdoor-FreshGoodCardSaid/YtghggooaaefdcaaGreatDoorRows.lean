/-
  NARROWER THAN 'FOR EVERY INPUT', by the rows' own cells (each row's printed sentence says how): RenewMet: laid · RenewAnswers: laid · RenewGives: laid · FreshLives: laid · FreshGood: laid.
  DERIVED. THE GIVEN ROWS OF THIS SEAT. 5 by the template 'for every input the law returns true; each argument reads behind the call as it read before'; 0 by the template 'total and deterministic' (their statements: YtghggooaaefdcaaGreatDoorTotals.lean).
  GIVEN WITH THE SEED: the statements are not yours to turn. If you find one false, say at which input.
  Laid BY PROGRAM, IN A SANDBOX (cutbox-rows.mjs): the forced cells as the released guide's own fill.sh prints them over the translation 3c2313efb1ad63b0… (all of the seat's roots in one cut). By AI agents, Wed Nov 11 2026. No macro, syntax, notation, axiom, sorry.
-/
import Derived.Test.YtghggooaaefdcaaGreatDoorChecked
import GoSem.PinnedTables
import GoSem.Claim
import GoSem.ClaimJoined
import GoSem.ClaimMapViews
import Derived.JoinedTies
import Derived.KernelRfl
namespace Go.Proofs.YtghggooaaefdcaaGreatDoor
/- THE CELL 'sum', in the pinned program and in every row, IS THE sha256 OF THE DUMP (.gsa) THAT YtghggooaaefdcaaGreatDoorProg.lean LOADS. Nothing in Lean hashes anything: it is a label: what it is worth is what the hold of that sum in a sandbox is worth. -/
noncomputable def Tryz.pinned : Pinned := { name := "ytghggooaaefdcaagreatdoor", sum := "3c2313efb1ad63b0d596fb99c25b084737a99758861812187afa04110f82265f", checked := Tryz.checked }
namespace Rows
def none {H : Type} : Left H := { results := [], args := [] }

/- WHAT THE LISTED PACKAGE-LEVEL VARIABLES READ AS WHEN THE CALL BEGINS. Each datum BY PROGRAM (the guide's laid-datum.mjs) off the statement by which the dump's own 'gosem.cut.vars' lays the variable. In a bare row this is a premise. The card (YtghggooaaefdcaaGreatDoorCards.lean) ties it to the program's text. -/
def laid_unicode_utf8_acceptRanges {H : Type} : DataW H := .agg [.agg [.lit (.int .u8 128), .lit (.int .u8 191)], .agg [.lit (.int .u8 160), .lit (.int .u8 191)], .agg [.lit (.int .u8 128), .lit (.int .u8 159)], .agg [.lit (.int .u8 144), .lit (.int .u8 191)], .agg [.lit (.int .u8 128), .lit (.int .u8 143)], .agg [.lit (.int .u8 0), .lit (.int .u8 0)], .agg [.lit (.int .u8 0), .lit (.int .u8 0)], .agg [.lit (.int .u8 0), .lit (.int .u8 0)], .agg [.lit (.int .u8 0), .lit (.int .u8 0)], .agg [.lit (.int .u8 0), .lit (.int .u8 0)], .agg [.lit (.int .u8 0), .lit (.int .u8 0)], .agg [.lit (.int .u8 0), .lit (.int .u8 0)], .agg [.lit (.int .u8 0), .lit (.int .u8 0)], .agg [.lit (.int .u8 0), .lit (.int .u8 0)], .agg [.lit (.int .u8 0), .lit (.int .u8 0)], .agg [.lit (.int .u8 0), .lit (.int .u8 0)]]
/-- One of Go's own tables, pinned by name: the form's constant. -/
def laid_unicode_utf8_first : DataW Unit := Go.Pinned.utf8First

/-- 'drawbridgelaw20.RenewMet': WHATEVER THE INPUT: true; the input reads as it did. -/
def renewMetSpec : ChangeSpec := { name := "renewMet", fn := fun _ => fun
  | [d1, d2] => { results := [.lit (.bool true)], args := [d1, d2] }
  | _ => none }
def renewMetRow : OpenClaim := { program := "ytghggooaaefdcaagreatdoor", sum := "3c2313efb1ad63b0d596fb99c25b084737a99758861812187afa04110f82265f", func := "drawbridge/drawbridgelaw20.RenewMet", spec := "renewMet", inPlace := ["internal/bytealg.IndexByteString", "internal/bytealg.IndexString"], unfollowed := true, recurses := true, named := ["unicode/utf8.first", "unicode/utf8.acceptRanges", "internal/bytealg.MaxLen"], apart := false, laid := [("unicode/utf8.acceptRanges", laid_unicode_utf8_acceptRanges), ("unicode/utf8.first", laid_unicode_utf8_first)] }
def RenewMetSaid : Prop := renewMetRow.holds Tryz.pinned (OpenSpec.ofChange renewMetSpec)

/-- ITS FALSE NEIGHBOUR: 'it returns false'. Refute it at one input. -/
def renewMetWrong : ChangeSpec := { name := "renewMet", fn := fun _ => fun
  | [d1, d2] => { results := [.lit (.bool false)], args := [d1, d2] }
  | _ => none }
def RenewMetWrongFalsely : Prop := renewMetRow.holds Tryz.pinned (OpenSpec.ofChange renewMetWrong)

/-- 'drawbridgelaw20.RenewAnswers': WHATEVER THE INPUT: true; the input reads as it did. -/
def renewAnswersSpec : ChangeSpec := { name := "renewAnswers", fn := fun _ => fun
  | [d1, d2, d3] => { results := [.lit (.bool true)], args := [d1, d2, d3] }
  | _ => none }
def renewAnswersRow : OpenClaim := { program := "ytghggooaaefdcaagreatdoor", sum := "3c2313efb1ad63b0d596fb99c25b084737a99758861812187afa04110f82265f", func := "drawbridge/drawbridgelaw20.RenewAnswers", spec := "renewAnswers", inPlace := ["internal/bytealg.IndexByteString", "internal/bytealg.IndexString"], unfollowed := true, recurses := true, named := ["unicode/utf8.first", "unicode/utf8.acceptRanges", "internal/bytealg.MaxLen"], apart := false, laid := [("unicode/utf8.acceptRanges", laid_unicode_utf8_acceptRanges), ("unicode/utf8.first", laid_unicode_utf8_first)] }
def RenewAnswersSaid : Prop := renewAnswersRow.holds Tryz.pinned (OpenSpec.ofChange renewAnswersSpec)

/-- ITS FALSE NEIGHBOUR: 'it returns false'. Refute it at one input. -/
def renewAnswersWrong : ChangeSpec := { name := "renewAnswers", fn := fun _ => fun
  | [d1, d2, d3] => { results := [.lit (.bool false)], args := [d1, d2, d3] }
  | _ => none }
def RenewAnswersWrongFalsely : Prop := renewAnswersRow.holds Tryz.pinned (OpenSpec.ofChange renewAnswersWrong)

/-- 'drawbridgelaw20.RenewGives': WHATEVER THE INPUT: true; the input reads as it did. -/
def renewGivesSpec : ChangeSpec := { name := "renewGives", fn := fun _ => fun
  | [d1, d2, d3] => { results := [.lit (.bool true)], args := [d1, d2, d3] }
  | _ => none }
def renewGivesRow : OpenClaim := { program := "ytghggooaaefdcaagreatdoor", sum := "3c2313efb1ad63b0d596fb99c25b084737a99758861812187afa04110f82265f", func := "drawbridge/drawbridgelaw20.RenewGives", spec := "renewGives", inPlace := ["internal/bytealg.IndexByteString", "internal/bytealg.IndexString"], unfollowed := true, recurses := true, named := ["unicode/utf8.first", "unicode/utf8.acceptRanges", "internal/bytealg.MaxLen"], apart := false, laid := [("unicode/utf8.acceptRanges", laid_unicode_utf8_acceptRanges), ("unicode/utf8.first", laid_unicode_utf8_first)] }
def RenewGivesSaid : Prop := renewGivesRow.holds Tryz.pinned (OpenSpec.ofChange renewGivesSpec)

/-- ITS FALSE NEIGHBOUR: 'it returns false'. Refute it at one input. -/
def renewGivesWrong : ChangeSpec := { name := "renewGives", fn := fun _ => fun
  | [d1, d2, d3] => { results := [.lit (.bool false)], args := [d1, d2, d3] }
  | _ => none }
def RenewGivesWrongFalsely : Prop := renewGivesRow.holds Tryz.pinned (OpenSpec.ofChange renewGivesWrong)

/-- 'drawbridgelaw18.FreshLives': WHATEVER THE INPUT: true; the input reads as it did. -/
def freshLivesSpec : ChangeSpec := { name := "freshLives", fn := fun _ => fun
  | [d1, d2] => { results := [.lit (.bool true)], args := [d1, d2] }
  | _ => none }
def freshLivesRow : OpenClaim := { program := "ytghggooaaefdcaagreatdoor", sum := "3c2313efb1ad63b0d596fb99c25b084737a99758861812187afa04110f82265f", func := "drawbridge/drawbridgelaw18.FreshLives", spec := "freshLives", inPlace := ["internal/bytealg.IndexByteString", "internal/bytealg.IndexString"], unfollowed := true, recurses := true, named := ["unicode/utf8.first", "unicode/utf8.acceptRanges", "internal/bytealg.MaxLen"], apart := false, laid := [("unicode/utf8.acceptRanges", laid_unicode_utf8_acceptRanges), ("unicode/utf8.first", laid_unicode_utf8_first)] }
def FreshLivesSaid : Prop := freshLivesRow.holds Tryz.pinned (OpenSpec.ofChange freshLivesSpec)

/-- ITS FALSE NEIGHBOUR: 'it returns false'. Refute it at one input. -/
def freshLivesWrong : ChangeSpec := { name := "freshLives", fn := fun _ => fun
  | [d1, d2] => { results := [.lit (.bool false)], args := [d1, d2] }
  | _ => none }
def FreshLivesWrongFalsely : Prop := freshLivesRow.holds Tryz.pinned (OpenSpec.ofChange freshLivesWrong)

/-- 'drawbridgelaw18.FreshGood': WHATEVER THE INPUT: true; the input reads as it did. -/
def freshGoodSpec : ChangeSpec := { name := "freshGood", fn := fun _ => fun
  | [d1, d2, d3] => { results := [.lit (.bool true)], args := [d1, d2, d3] }
  | _ => none }
def freshGoodRow : OpenClaim := { program := "ytghggooaaefdcaagreatdoor", sum := "3c2313efb1ad63b0d596fb99c25b084737a99758861812187afa04110f82265f", func := "drawbridge/drawbridgelaw18.FreshGood", spec := "freshGood", inPlace := ["internal/bytealg.IndexByteString", "internal/bytealg.IndexString"], unfollowed := true, recurses := true, named := ["unicode/utf8.first", "unicode/utf8.acceptRanges", "internal/bytealg.MaxLen"], apart := false, laid := [("unicode/utf8.acceptRanges", laid_unicode_utf8_acceptRanges), ("unicode/utf8.first", laid_unicode_utf8_first)] }
def FreshGoodSaid : Prop := freshGoodRow.holds Tryz.pinned (OpenSpec.ofChange freshGoodSpec)

/-- ITS FALSE NEIGHBOUR: 'it returns false'. Refute it at one input. -/
def freshGoodWrong : ChangeSpec := { name := "freshGood", fn := fun _ => fun
  | [d1, d2, d3] => { results := [.lit (.bool false)], args := [d1, d2, d3] }
  | _ => none }
def FreshGoodWrongFalsely : Prop := freshGoodRow.holds Tryz.pinned (OpenSpec.ofChange freshGoodWrong)

/- THE SECOND FORM. 'bulk': how many values and letters a reading holds, each counted each time it is reached (what is shared counts as often as it is met; a slice's spare places count too). A statement '..UptoSaid' is the law's where the arguments, and the package variables that the reading takes, are together of bulk at most 1048576: NARROWER than '..Said'. Prove '..Said' where nothing that the law and all that it calls make is longer than what came in: it says more and counts as full. Else prove '..UptoSaid'. A law counts once. -/
mutual
def uptoBulk {H : Type} : DataW H → Nat
  | .lit (.string bytes) => bytes.length + 1
  | .lit _ => 1
  | .nil => 1
  | .ptr d => uptoBulk d + 1
  | .slice elems spare => uptoBulkAll elems + uptoBulkAll spare + 1
  | .agg parts => uptoBulkAll parts + 1
  | .iface _ d => uptoBulk d + 1
  | .map entries => uptoBulkEntries entries + 1
  | .held _ => 1
def uptoBulkAll {H : Type} : List (DataW H) → Nat
  | [] => 0
  | d :: r => uptoBulk d + uptoBulkAll r
def uptoBulkEntries {H : Type} : List (Lit × DataW H) → Nat
  | [] => 0
  | x :: r => uptoBulkEntry x + uptoBulkEntries r
def uptoBulkEntry {H : Type} : Lit × DataW H → Nat
  | (.string bytes, d) => bytes.length + uptoBulk d + 1
  | (_, d) => uptoBulk d + 1
 end
def uptoSmall : (H : Type) → List (DataW H) → Bool := fun _ ds => decide (uptoBulkAll ds ≤ 1048576)
def OpenSpec.upto (s : _root_.Go.ChangeSpec) : _root_.Go.OpenSpec := { _root_.Go.OpenSpec.ofChange s with cond := some uptoSmall }

/-- 'drawbridgelaw20.RenewMet', WHERE WHAT IT READS IS OF BULK AT MOST 1048576: true; the input reads as it did. -/
def renewMetUptoRow : OpenClaim := { program := "ytghggooaaefdcaagreatdoor", sum := "3c2313efb1ad63b0d596fb99c25b084737a99758861812187afa04110f82265f", func := "drawbridge/drawbridgelaw20.RenewMet", spec := "renewMet", inPlace := ["internal/bytealg.IndexByteString", "internal/bytealg.IndexString"], unfollowed := true, recurses := true, named := ["unicode/utf8.first", "unicode/utf8.acceptRanges", "internal/bytealg.MaxLen"], apart := false, laid := [("unicode/utf8.acceptRanges", laid_unicode_utf8_acceptRanges), ("unicode/utf8.first", laid_unicode_utf8_first)], narrowed := true }
def RenewMetUptoSaid : Prop := renewMetUptoRow.holds Tryz.pinned (OpenSpec.upto renewMetSpec)

/-- 'drawbridgelaw20.RenewAnswers', WHERE WHAT IT READS IS OF BULK AT MOST 1048576: true; the input reads as it did. -/
def renewAnswersUptoRow : OpenClaim := { program := "ytghggooaaefdcaagreatdoor", sum := "3c2313efb1ad63b0d596fb99c25b084737a99758861812187afa04110f82265f", func := "drawbridge/drawbridgelaw20.RenewAnswers", spec := "renewAnswers", inPlace := ["internal/bytealg.IndexByteString", "internal/bytealg.IndexString"], unfollowed := true, recurses := true, named := ["unicode/utf8.first", "unicode/utf8.acceptRanges", "internal/bytealg.MaxLen"], apart := false, laid := [("unicode/utf8.acceptRanges", laid_unicode_utf8_acceptRanges), ("unicode/utf8.first", laid_unicode_utf8_first)], narrowed := true }
def RenewAnswersUptoSaid : Prop := renewAnswersUptoRow.holds Tryz.pinned (OpenSpec.upto renewAnswersSpec)

/-- 'drawbridgelaw20.RenewGives', WHERE WHAT IT READS IS OF BULK AT MOST 1048576: true; the input reads as it did. -/
def renewGivesUptoRow : OpenClaim := { program := "ytghggooaaefdcaagreatdoor", sum := "3c2313efb1ad63b0d596fb99c25b084737a99758861812187afa04110f82265f", func := "drawbridge/drawbridgelaw20.RenewGives", spec := "renewGives", inPlace := ["internal/bytealg.IndexByteString", "internal/bytealg.IndexString"], unfollowed := true, recurses := true, named := ["unicode/utf8.first", "unicode/utf8.acceptRanges", "internal/bytealg.MaxLen"], apart := false, laid := [("unicode/utf8.acceptRanges", laid_unicode_utf8_acceptRanges), ("unicode/utf8.first", laid_unicode_utf8_first)], narrowed := true }
def RenewGivesUptoSaid : Prop := renewGivesUptoRow.holds Tryz.pinned (OpenSpec.upto renewGivesSpec)

/-- 'drawbridgelaw18.FreshLives', WHERE WHAT IT READS IS OF BULK AT MOST 1048576: true; the input reads as it did. -/
def freshLivesUptoRow : OpenClaim := { program := "ytghggooaaefdcaagreatdoor", sum := "3c2313efb1ad63b0d596fb99c25b084737a99758861812187afa04110f82265f", func := "drawbridge/drawbridgelaw18.FreshLives", spec := "freshLives", inPlace := ["internal/bytealg.IndexByteString", "internal/bytealg.IndexString"], unfollowed := true, recurses := true, named := ["unicode/utf8.first", "unicode/utf8.acceptRanges", "internal/bytealg.MaxLen"], apart := false, laid := [("unicode/utf8.acceptRanges", laid_unicode_utf8_acceptRanges), ("unicode/utf8.first", laid_unicode_utf8_first)], narrowed := true }
def FreshLivesUptoSaid : Prop := freshLivesUptoRow.holds Tryz.pinned (OpenSpec.upto freshLivesSpec)

/-- 'drawbridgelaw18.FreshGood', WHERE WHAT IT READS IS OF BULK AT MOST 1048576: true; the input reads as it did. -/
def freshGoodUptoRow : OpenClaim := { program := "ytghggooaaefdcaagreatdoor", sum := "3c2313efb1ad63b0d596fb99c25b084737a99758861812187afa04110f82265f", func := "drawbridge/drawbridgelaw18.FreshGood", spec := "freshGood", inPlace := ["internal/bytealg.IndexByteString", "internal/bytealg.IndexString"], unfollowed := true, recurses := true, named := ["unicode/utf8.first", "unicode/utf8.acceptRanges", "internal/bytealg.MaxLen"], apart := false, laid := [("unicode/utf8.acceptRanges", laid_unicode_utf8_acceptRanges), ("unicode/utf8.first", laid_unicode_utf8_first)], narrowed := true }
def FreshGoodUptoSaid : Prop := freshGoodUptoRow.holds Tryz.pinned (OpenSpec.upto freshGoodSpec)

end Rows
end Go.Proofs.YtghggooaaefdcaaGreatDoor
