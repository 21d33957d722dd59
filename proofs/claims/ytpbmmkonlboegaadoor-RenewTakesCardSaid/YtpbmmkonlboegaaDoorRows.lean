/-
  NARROWER THAN 'FOR EVERY INPUT', by the rows' own cells (each row's printed sentence says how): RenewAsks: laid · RenewHas: laid · VaryNames: laid · VaryStars: laid · RenewTakes: laid · VaryPicks: laid · VaryOdd: laid · VarySpread: laid.
  DERIVED. THE GIVEN ROWS OF THIS SEAT. 8 by the template 'for every input the law returns true; each argument reads behind the call as it read before'; 0 by the template 'total and deterministic' (their statements: YtpbmmkonlboegaaDoorTotals.lean).
  GIVEN WITH THE SEED: the statements are not yours to turn. If you find one false, say at which input.
  Laid BY PROGRAM, IN A SANDBOX (cutbox-rows.mjs): the forced cells as the released guide's own fill.sh prints them over the translation c7a0b41e7893465f… (all of the seat's roots in one cut). By AI agents, Wed Nov 11 2026. No macro, syntax, notation, axiom, sorry.
-/
import Derived.Test.YtpbmmkonlboegaaDoorChecked
import GoSem.PinnedTables
import GoSem.Claim
import GoSem.ClaimJoined
import GoSem.ClaimMapViews
import Derived.JoinedTies
import Derived.KernelRfl
namespace Go.Proofs.YtpbmmkonlboegaaDoor
/- THE CELL 'sum', in the pinned program and in every row, IS THE sha256 OF THE DUMP (.gsa) THAT YtpbmmkonlboegaaDoorProg.lean LOADS. Nothing in Lean hashes anything: it is a label: what it is worth is what the hold of that sum in a sandbox is worth. -/
noncomputable def Tryd.pinned : Pinned := { name := "ytpbmmkonlboegaadoor", sum := "c7a0b41e7893465f3763c8bb769ca56db7e6b1ef20193efe3c8b9f4f7a3b9d24", checked := Tryd.checked }
namespace Rows
def none {H : Type} : Left H := { results := [], args := [] }

/- WHAT THE LISTED PACKAGE-LEVEL VARIABLES READ AS WHEN THE CALL BEGINS. Each datum BY PROGRAM (the guide's laid-datum.mjs) off the statement by which the dump's own 'gosem.cut.vars' lays the variable. In a bare row this is a premise. The card (YtpbmmkonlboegaaDoorCards.lean) ties it to the program's text. -/
def laid_unicode_utf8_acceptRanges {H : Type} : DataW H := .agg [.agg [.lit (.int .u8 128), .lit (.int .u8 191)], .agg [.lit (.int .u8 160), .lit (.int .u8 191)], .agg [.lit (.int .u8 128), .lit (.int .u8 159)], .agg [.lit (.int .u8 144), .lit (.int .u8 191)], .agg [.lit (.int .u8 128), .lit (.int .u8 143)], .agg [.lit (.int .u8 0), .lit (.int .u8 0)], .agg [.lit (.int .u8 0), .lit (.int .u8 0)], .agg [.lit (.int .u8 0), .lit (.int .u8 0)], .agg [.lit (.int .u8 0), .lit (.int .u8 0)], .agg [.lit (.int .u8 0), .lit (.int .u8 0)], .agg [.lit (.int .u8 0), .lit (.int .u8 0)], .agg [.lit (.int .u8 0), .lit (.int .u8 0)], .agg [.lit (.int .u8 0), .lit (.int .u8 0)], .agg [.lit (.int .u8 0), .lit (.int .u8 0)], .agg [.lit (.int .u8 0), .lit (.int .u8 0)], .agg [.lit (.int .u8 0), .lit (.int .u8 0)]]
/-- One of Go's own tables, pinned by name: the form's constant. -/
def laid_unicode_utf8_first : DataW Unit := Go.Pinned.utf8First

/-- 'drawbridgelaw20.RenewAsks': WHATEVER THE INPUT: true; the input reads as it did. -/
def renewAsksSpec : ChangeSpec := { name := "renewAsks", fn := fun _ => fun
  | [d1, d2] => { results := [.lit (.bool true)], args := [d1, d2] }
  | _ => none }
def renewAsksRow : OpenClaim := { program := "ytpbmmkonlboegaadoor", sum := "c7a0b41e7893465f3763c8bb769ca56db7e6b1ef20193efe3c8b9f4f7a3b9d24", func := "drawbridge/drawbridgelaw20.RenewAsks", spec := "renewAsks", inPlace := ["internal/bytealg.IndexByteString", "internal/bytealg.IndexString"], unfollowed := true, recurses := true, named := ["unicode/utf8.first", "unicode/utf8.acceptRanges", "internal/bytealg.MaxLen"], apart := false, laid := [("unicode/utf8.acceptRanges", laid_unicode_utf8_acceptRanges), ("unicode/utf8.first", laid_unicode_utf8_first)] }
def RenewAsksSaid : Prop := renewAsksRow.holds Tryd.pinned (OpenSpec.ofChange renewAsksSpec)

/-- ITS FALSE NEIGHBOUR: 'it returns false'. Refute it at one input. -/
def renewAsksWrong : ChangeSpec := { name := "renewAsks", fn := fun _ => fun
  | [d1, d2] => { results := [.lit (.bool false)], args := [d1, d2] }
  | _ => none }
def RenewAsksWrongFalsely : Prop := renewAsksRow.holds Tryd.pinned (OpenSpec.ofChange renewAsksWrong)

/-- 'drawbridgelaw20.RenewHas': WHATEVER THE INPUT: true; the input reads as it did. -/
def renewHasSpec : ChangeSpec := { name := "renewHas", fn := fun _ => fun
  | [d1, d2, d3] => { results := [.lit (.bool true)], args := [d1, d2, d3] }
  | _ => none }
def renewHasRow : OpenClaim := { program := "ytpbmmkonlboegaadoor", sum := "c7a0b41e7893465f3763c8bb769ca56db7e6b1ef20193efe3c8b9f4f7a3b9d24", func := "drawbridge/drawbridgelaw20.RenewHas", spec := "renewHas", inPlace := ["internal/bytealg.IndexByteString", "internal/bytealg.IndexString"], unfollowed := true, recurses := true, named := ["unicode/utf8.first", "unicode/utf8.acceptRanges", "internal/bytealg.MaxLen"], apart := false, laid := [("unicode/utf8.acceptRanges", laid_unicode_utf8_acceptRanges), ("unicode/utf8.first", laid_unicode_utf8_first)] }
def RenewHasSaid : Prop := renewHasRow.holds Tryd.pinned (OpenSpec.ofChange renewHasSpec)

/-- ITS FALSE NEIGHBOUR: 'it returns false'. Refute it at one input. -/
def renewHasWrong : ChangeSpec := { name := "renewHas", fn := fun _ => fun
  | [d1, d2, d3] => { results := [.lit (.bool false)], args := [d1, d2, d3] }
  | _ => none }
def RenewHasWrongFalsely : Prop := renewHasRow.holds Tryd.pinned (OpenSpec.ofChange renewHasWrong)

/-- 'drawbridgelaw17.VaryNames': WHATEVER THE INPUT: true; the input reads as it did. -/
def varyNamesSpec : ChangeSpec := { name := "varyNames", fn := fun _ => fun
  | [d1, d2] => { results := [.lit (.bool true)], args := [d1, d2] }
  | _ => none }
def varyNamesRow : OpenClaim := { program := "ytpbmmkonlboegaadoor", sum := "c7a0b41e7893465f3763c8bb769ca56db7e6b1ef20193efe3c8b9f4f7a3b9d24", func := "drawbridge/drawbridgelaw17.VaryNames", spec := "varyNames", inPlace := ["internal/bytealg.IndexByteString", "internal/bytealg.IndexString"], unfollowed := true, recurses := true, named := ["unicode/utf8.first", "unicode/utf8.acceptRanges", "internal/bytealg.MaxLen"], apart := false, laid := [("unicode/utf8.acceptRanges", laid_unicode_utf8_acceptRanges), ("unicode/utf8.first", laid_unicode_utf8_first)] }
def VaryNamesSaid : Prop := varyNamesRow.holds Tryd.pinned (OpenSpec.ofChange varyNamesSpec)

/-- ITS FALSE NEIGHBOUR: 'it returns false'. Refute it at one input. -/
def varyNamesWrong : ChangeSpec := { name := "varyNames", fn := fun _ => fun
  | [d1, d2] => { results := [.lit (.bool false)], args := [d1, d2] }
  | _ => none }
def VaryNamesWrongFalsely : Prop := varyNamesRow.holds Tryd.pinned (OpenSpec.ofChange varyNamesWrong)

/-- 'drawbridgelaw17.VaryStars': WHATEVER THE INPUT: true; the input reads as it did. -/
def varyStarsSpec : ChangeSpec := { name := "varyStars", fn := fun _ => fun
  | [d1, d2] => { results := [.lit (.bool true)], args := [d1, d2] }
  | _ => none }
def varyStarsRow : OpenClaim := { program := "ytpbmmkonlboegaadoor", sum := "c7a0b41e7893465f3763c8bb769ca56db7e6b1ef20193efe3c8b9f4f7a3b9d24", func := "drawbridge/drawbridgelaw17.VaryStars", spec := "varyStars", inPlace := ["internal/bytealg.IndexByteString", "internal/bytealg.IndexString"], unfollowed := true, recurses := true, named := ["unicode/utf8.first", "unicode/utf8.acceptRanges", "internal/bytealg.MaxLen"], apart := false, laid := [("unicode/utf8.acceptRanges", laid_unicode_utf8_acceptRanges), ("unicode/utf8.first", laid_unicode_utf8_first)] }
def VaryStarsSaid : Prop := varyStarsRow.holds Tryd.pinned (OpenSpec.ofChange varyStarsSpec)

/-- ITS FALSE NEIGHBOUR: 'it returns false'. Refute it at one input. -/
def varyStarsWrong : ChangeSpec := { name := "varyStars", fn := fun _ => fun
  | [d1, d2] => { results := [.lit (.bool false)], args := [d1, d2] }
  | _ => none }
def VaryStarsWrongFalsely : Prop := varyStarsRow.holds Tryd.pinned (OpenSpec.ofChange varyStarsWrong)

/-- 'drawbridgelaw20.RenewTakes': WHATEVER THE INPUT: true; the input reads as it did. -/
def renewTakesSpec : ChangeSpec := { name := "renewTakes", fn := fun _ => fun
  | [d1, d2, d3] => { results := [.lit (.bool true)], args := [d1, d2, d3] }
  | _ => none }
def renewTakesRow : OpenClaim := { program := "ytpbmmkonlboegaadoor", sum := "c7a0b41e7893465f3763c8bb769ca56db7e6b1ef20193efe3c8b9f4f7a3b9d24", func := "drawbridge/drawbridgelaw20.RenewTakes", spec := "renewTakes", inPlace := ["internal/bytealg.IndexByteString", "internal/bytealg.IndexString"], unfollowed := true, recurses := true, named := ["unicode/utf8.first", "unicode/utf8.acceptRanges", "internal/bytealg.MaxLen"], apart := false, laid := [("unicode/utf8.acceptRanges", laid_unicode_utf8_acceptRanges), ("unicode/utf8.first", laid_unicode_utf8_first)] }
def RenewTakesSaid : Prop := renewTakesRow.holds Tryd.pinned (OpenSpec.ofChange renewTakesSpec)

/-- ITS FALSE NEIGHBOUR: 'it returns false'. Refute it at one input. -/
def renewTakesWrong : ChangeSpec := { name := "renewTakes", fn := fun _ => fun
  | [d1, d2, d3] => { results := [.lit (.bool false)], args := [d1, d2, d3] }
  | _ => none }
def RenewTakesWrongFalsely : Prop := renewTakesRow.holds Tryd.pinned (OpenSpec.ofChange renewTakesWrong)

/-- 'drawbridgelaw17.VaryPicks': WHATEVER THE INPUT: true; the input reads as it did. -/
def varyPicksSpec : ChangeSpec := { name := "varyPicks", fn := fun _ => fun
  | [d1, d2, d3] => { results := [.lit (.bool true)], args := [d1, d2, d3] }
  | _ => none }
def varyPicksRow : OpenClaim := { program := "ytpbmmkonlboegaadoor", sum := "c7a0b41e7893465f3763c8bb769ca56db7e6b1ef20193efe3c8b9f4f7a3b9d24", func := "drawbridge/drawbridgelaw17.VaryPicks", spec := "varyPicks", inPlace := ["internal/bytealg.IndexByteString", "internal/bytealg.IndexString", "internal/abi.NoEscape", "internal/bytealg.MakeNoZero"], unfollowed := true, recurses := true, named := ["unicode/utf8.first", "unicode/utf8.acceptRanges", "internal/bytealg.MaxLen"], apart := false, laid := [("unicode/utf8.acceptRanges", laid_unicode_utf8_acceptRanges), ("unicode/utf8.first", laid_unicode_utf8_first)] }
def VaryPicksSaid : Prop := varyPicksRow.holds Tryd.pinned (OpenSpec.ofChange varyPicksSpec)

/-- ITS FALSE NEIGHBOUR: 'it returns false'. Refute it at one input. -/
def varyPicksWrong : ChangeSpec := { name := "varyPicks", fn := fun _ => fun
  | [d1, d2, d3] => { results := [.lit (.bool false)], args := [d1, d2, d3] }
  | _ => none }
def VaryPicksWrongFalsely : Prop := varyPicksRow.holds Tryd.pinned (OpenSpec.ofChange varyPicksWrong)

/-- 'drawbridgelaw17.VaryOdd': WHATEVER THE INPUT: true; the input reads as it did. -/
def varyOddSpec : ChangeSpec := { name := "varyOdd", fn := fun _ => fun
  | [d1, d2] => { results := [.lit (.bool true)], args := [d1, d2] }
  | _ => none }
def varyOddRow : OpenClaim := { program := "ytpbmmkonlboegaadoor", sum := "c7a0b41e7893465f3763c8bb769ca56db7e6b1ef20193efe3c8b9f4f7a3b9d24", func := "drawbridge/drawbridgelaw17.VaryOdd", spec := "varyOdd", inPlace := ["internal/bytealg.IndexByteString", "internal/bytealg.IndexString", "internal/abi.NoEscape", "internal/bytealg.MakeNoZero"], unfollowed := true, recurses := true, named := ["unicode/utf8.first", "unicode/utf8.acceptRanges", "internal/bytealg.MaxLen"], apart := false, laid := [("unicode/utf8.acceptRanges", laid_unicode_utf8_acceptRanges), ("unicode/utf8.first", laid_unicode_utf8_first)] }
def VaryOddSaid : Prop := varyOddRow.holds Tryd.pinned (OpenSpec.ofChange varyOddSpec)

/-- ITS FALSE NEIGHBOUR: 'it returns false'. Refute it at one input. -/
def varyOddWrong : ChangeSpec := { name := "varyOdd", fn := fun _ => fun
  | [d1, d2] => { results := [.lit (.bool false)], args := [d1, d2] }
  | _ => none }
def VaryOddWrongFalsely : Prop := varyOddRow.holds Tryd.pinned (OpenSpec.ofChange varyOddWrong)

/-- 'drawbridgelaw17.VarySpread': WHATEVER THE INPUT: true; the input reads as it did. -/
def varySpreadSpec : ChangeSpec := { name := "varySpread", fn := fun _ => fun
  | [d1, d2, d3] => { results := [.lit (.bool true)], args := [d1, d2, d3] }
  | _ => none }
def varySpreadRow : OpenClaim := { program := "ytpbmmkonlboegaadoor", sum := "c7a0b41e7893465f3763c8bb769ca56db7e6b1ef20193efe3c8b9f4f7a3b9d24", func := "drawbridge/drawbridgelaw17.VarySpread", spec := "varySpread", inPlace := ["internal/bytealg.IndexByteString", "internal/bytealg.IndexString", "internal/abi.NoEscape", "internal/bytealg.MakeNoZero"], unfollowed := true, recurses := true, named := ["unicode/utf8.first", "unicode/utf8.acceptRanges", "internal/bytealg.MaxLen"], apart := false, laid := [("unicode/utf8.acceptRanges", laid_unicode_utf8_acceptRanges), ("unicode/utf8.first", laid_unicode_utf8_first)] }
def VarySpreadSaid : Prop := varySpreadRow.holds Tryd.pinned (OpenSpec.ofChange varySpreadSpec)

/-- ITS FALSE NEIGHBOUR: 'it returns false'. Refute it at one input. -/
def varySpreadWrong : ChangeSpec := { name := "varySpread", fn := fun _ => fun
  | [d1, d2, d3] => { results := [.lit (.bool false)], args := [d1, d2, d3] }
  | _ => none }
def VarySpreadWrongFalsely : Prop := varySpreadRow.holds Tryd.pinned (OpenSpec.ofChange varySpreadWrong)

/- THE SECOND FORM. 'bulk': how many values and letters a reading holds, each counted each time it is reached (what is shared counts as often as it is met; a slice's spare places count too). A statement '..UptoSaid' is the law's where the arguments, and the package variables that the reading takes, are together of bulk at most 1048576: NARROWER than '..Said'. Prove '..Said' where nothing that the law and all that it calls make is longer than what came in: it says more and counts as full. Else prove '..UptoSaid'. A law counts once. -/
mutual
def uptoBulk {H : Type} : DataW H → Nat
  | .lit (.string bytes) => bytes.length + 1
  | .lit _ => 1
  | .nil => 1
  | .ptr d => uptoBulk d + 1
  | .slice elems spare => uptoBulkAll elems + uptoBulkAll spare + 1
  | .agg parts => uptoBulkAll parts + 1
  | .iface _ d => uptoBulk d + 1
  | .map entries => uptoBulkEntries entries + 1
  | .held _ => 1
def uptoBulkAll {H : Type} : List (DataW H) → Nat
  | [] => 0
  | d :: r => uptoBulk d + uptoBulkAll r
def uptoBulkEntries {H : Type} : List (Lit × DataW H) → Nat
  | [] => 0
  | x :: r => uptoBulkEntry x + uptoBulkEntries r
def uptoBulkEntry {H : Type} : Lit × DataW H → Nat
  | (.string bytes, d) => bytes.length + uptoBulk d + 1
  | (_, d) => uptoBulk d + 1
 end
def uptoSmall : (H : Type) → List (DataW H) → Bool := fun _ ds => decide (uptoBulkAll ds ≤ 1048576)
def OpenSpec.upto (s : _root_.Go.ChangeSpec) : _root_.Go.OpenSpec := { _root_.Go.OpenSpec.ofChange s with cond := some uptoSmall }

/-- 'drawbridgelaw20.RenewAsks', WHERE WHAT IT READS IS OF BULK AT MOST 1048576: true; the input reads as it did. -/
def renewAsksUptoRow : OpenClaim := { program := "ytpbmmkonlboegaadoor", sum := "c7a0b41e7893465f3763c8bb769ca56db7e6b1ef20193efe3c8b9f4f7a3b9d24", func := "drawbridge/drawbridgelaw20.RenewAsks", spec := "renewAsks", inPlace := ["internal/bytealg.IndexByteString", "internal/bytealg.IndexString"], unfollowed := true, recurses := true, named := ["unicode/utf8.first", "unicode/utf8.acceptRanges", "internal/bytealg.MaxLen"], apart := false, laid := [("unicode/utf8.acceptRanges", laid_unicode_utf8_acceptRanges), ("unicode/utf8.first", laid_unicode_utf8_first)], narrowed := true }
def RenewAsksUptoSaid : Prop := renewAsksUptoRow.holds Tryd.pinned (OpenSpec.upto renewAsksSpec)

/-- 'drawbridgelaw20.RenewHas', WHERE WHAT IT READS IS OF BULK AT MOST 1048576: true; the input reads as it did. -/
def renewHasUptoRow : OpenClaim := { program := "ytpbmmkonlboegaadoor", sum := "c7a0b41e7893465f3763c8bb769ca56db7e6b1ef20193efe3c8b9f4f7a3b9d24", func := "drawbridge/drawbridgelaw20.RenewHas", spec := "renewHas", inPlace := ["internal/bytealg.IndexByteString", "internal/bytealg.IndexString"], unfollowed := true, recurses := true, named := ["unicode/utf8.first", "unicode/utf8.acceptRanges", "internal/bytealg.MaxLen"], apart := false, laid := [("unicode/utf8.acceptRanges", laid_unicode_utf8_acceptRanges), ("unicode/utf8.first", laid_unicode_utf8_first)], narrowed := true }
def RenewHasUptoSaid : Prop := renewHasUptoRow.holds Tryd.pinned (OpenSpec.upto renewHasSpec)

/-- 'drawbridgelaw17.VaryNames', WHERE WHAT IT READS IS OF BULK AT MOST 1048576: true; the input reads as it did. -/
def varyNamesUptoRow : OpenClaim := { program := "ytpbmmkonlboegaadoor", sum := "c7a0b41e7893465f3763c8bb769ca56db7e6b1ef20193efe3c8b9f4f7a3b9d24", func := "drawbridge/drawbridgelaw17.VaryNames", spec := "varyNames", inPlace := ["internal/bytealg.IndexByteString", "internal/bytealg.IndexString"], unfollowed := true, recurses := true, named := ["unicode/utf8.first", "unicode/utf8.acceptRanges", "internal/bytealg.MaxLen"], apart := false, laid := [("unicode/utf8.acceptRanges", laid_unicode_utf8_acceptRanges), ("unicode/utf8.first", laid_unicode_utf8_first)], narrowed := true }
def VaryNamesUptoSaid : Prop := varyNamesUptoRow.holds Tryd.pinned (OpenSpec.upto varyNamesSpec)

/-- 'drawbridgelaw17.VaryStars', WHERE WHAT IT READS IS OF BULK AT MOST 1048576: true; the input reads as it did. -/
def varyStarsUptoRow : OpenClaim := { program := "ytpbmmkonlboegaadoor", sum := "c7a0b41e7893465f3763c8bb769ca56db7e6b1ef20193efe3c8b9f4f7a3b9d24", func := "drawbridge/drawbridgelaw17.VaryStars", spec := "varyStars", inPlace := ["internal/bytealg.IndexByteString", "internal/bytealg.IndexString"], unfollowed := true, recurses := true, named := ["unicode/utf8.first", "unicode/utf8.acceptRanges", "internal/bytealg.MaxLen"], apart := false, laid := [("unicode/utf8.acceptRanges", laid_unicode_utf8_acceptRanges), ("unicode/utf8.first", laid_unicode_utf8_first)], narrowed := true }
def VaryStarsUptoSaid : Prop := varyStarsUptoRow.holds Tryd.pinned (OpenSpec.upto varyStarsSpec)

/-- 'drawbridgelaw20.RenewTakes', WHERE WHAT IT READS IS OF BULK AT MOST 1048576: true; the input reads as it did. -/
def renewTakesUptoRow : OpenClaim := { program := "ytpbmmkonlboegaadoor", sum := "c7a0b41e7893465f3763c8bb769ca56db7e6b1ef20193efe3c8b9f4f7a3b9d24", func := "drawbridge/drawbridgelaw20.RenewTakes", spec := "renewTakes", inPlace := ["internal/bytealg.IndexByteString", "internal/bytealg.IndexString"], unfollowed := true, recurses := true, named := ["unicode/utf8.first", "unicode/utf8.acceptRanges", "internal/bytealg.MaxLen"], apart := false, laid := [("unicode/utf8.acceptRanges", laid_unicode_utf8_acceptRanges), ("unicode/utf8.first", laid_unicode_utf8_first)], narrowed := true }
def RenewTakesUptoSaid : Prop := renewTakesUptoRow.holds Tryd.pinned (OpenSpec.upto renewTakesSpec)

/-- 'drawbridgelaw17.VaryPicks', WHERE WHAT IT READS IS OF BULK AT MOST 1048576: true; the input reads as it did. -/
def varyPicksUptoRow : OpenClaim := { program := "ytpbmmkonlboegaadoor", sum := "c7a0b41e7893465f3763c8bb769ca56db7e6b1ef20193efe3c8b9f4f7a3b9d24", func := "drawbridge/drawbridgelaw17.VaryPicks", spec := "varyPicks", inPlace := ["internal/bytealg.IndexByteString", "internal/bytealg.IndexString", "internal/abi.NoEscape", "internal/bytealg.MakeNoZero"], unfollowed := true, recurses := true, named := ["unicode/utf8.first", "unicode/utf8.acceptRanges", "internal/bytealg.MaxLen"], apart := false, laid := [("unicode/utf8.acceptRanges", laid_unicode_utf8_acceptRanges), ("unicode/utf8.first", laid_unicode_utf8_first)], narrowed := true }
def VaryPicksUptoSaid : Prop := varyPicksUptoRow.holds Tryd.pinned (OpenSpec.upto varyPicksSpec)

/-- 'drawbridgelaw17.VaryOdd', WHERE WHAT IT READS IS OF BULK AT MOST 1048576: true; the input reads as it did. -/
def varyOddUptoRow : OpenClaim := { program := "ytpbmmkonlboegaadoor", sum := "c7a0b41e7893465f3763c8bb769ca56db7e6b1ef20193efe3c8b9f4f7a3b9d24", func := "drawbridge/drawbridgelaw17.VaryOdd", spec := "varyOdd", inPlace := ["internal/bytealg.IndexByteString", "internal/bytealg.IndexString", "internal/abi.NoEscape", "internal/bytealg.MakeNoZero"], unfollowed := true, recurses := true, named := ["unicode/utf8.first", "unicode/utf8.acceptRanges", "internal/bytealg.MaxLen"], apart := false, laid := [("unicode/utf8.acceptRanges", laid_unicode_utf8_acceptRanges), ("unicode/utf8.first", laid_unicode_utf8_first)], narrowed := true }
def VaryOddUptoSaid : Prop := varyOddUptoRow.holds Tryd.pinned (OpenSpec.upto varyOddSpec)

/-- 'drawbridgelaw17.VarySpread', WHERE WHAT IT READS IS OF BULK AT MOST 1048576: true; the input reads as it did. -/
def varySpreadUptoRow : OpenClaim := { program := "ytpbmmkonlboegaadoor", sum := "c7a0b41e7893465f3763c8bb769ca56db7e6b1ef20193efe3c8b9f4f7a3b9d24", func := "drawbridge/drawbridgelaw17.VarySpread", spec := "varySpread", inPlace := ["internal/bytealg.IndexByteString", "internal/bytealg.IndexString", "internal/abi.NoEscape", "internal/bytealg.MakeNoZero"], unfollowed := true, recurses := true, named := ["unicode/utf8.first", "unicode/utf8.acceptRanges", "internal/bytealg.MaxLen"], apart := false, laid := [("unicode/utf8.acceptRanges", laid_unicode_utf8_acceptRanges), ("unicode/utf8.first", laid_unicode_utf8_first)], narrowed := true }
def VarySpreadUptoSaid : Prop := varySpreadUptoRow.holds Tryd.pinned (OpenSpec.upto varySpreadSpec)

end Rows
end Go.Proofs.YtpbmmkonlboegaaDoor
