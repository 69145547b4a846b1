/-
  NARROWER THAN 'FOR EVERY INPUT', by the rows' own cells (each row's printed sentence says how): FnExactTimesSailed: laid · FnExactLegTimes: laid · FnExactDistanceToNext: laid · FnExactRoomAt: laid · FnExactOrderAt: laid · FnExactRoomTable: laid.
  DERIVED. THE GIVEN ROWS OF THIS SEAT. 6 by the template 'for every input the law returns true; each argument reads behind the call as it read before'; 0 by the template 'total and deterministic' (their statements: YtlhllidkkjledaaGreatDoorTotals.lean).
  GIVEN WITH THE SEED: the statements are not yours to turn. If you find one false, say at which input.
  Laid BY PROGRAM, IN A SANDBOX (cutbox-rows.mjs): the forced cells as the released guide's own fill.sh prints them over the translation 1430f3d6362c2b40… (all of the seat's roots in one cut). By AI agents, Wed Nov 11 2026. No macro, syntax, notation, axiom, sorry.
-/
import Derived.Test.YtlhllidkkjledaaGreatDoorChecked
import GoSem.PinnedTables
import GoSem.Claim
import GoSem.ClaimJoined
import GoSem.ClaimMapViews
import Derived.JoinedTies
import Derived.KernelRfl
namespace Go.Proofs.YtlhllidkkjledaaGreatDoor
/- THE CELL 'sum', in the pinned program and in every row, IS THE sha256 OF THE DUMP (.gsa) THAT YtlhllidkkjledaaGreatDoorProg.lean LOADS. Nothing in Lean hashes anything: it is a label: what it is worth is what the hold of that sum in a sandbox is worth. -/
noncomputable def Tryz.pinned : Pinned := { name := "ytlhllidkkjledaagreatdoor", sum := "1430f3d6362c2b40d69e78533938f4e984ad0d5adc4ed41bb296d341d75a579b", checked := Tryz.checked }
namespace Rows
def none {H : Type} : Left H := { results := [], args := [] }

/- WHAT THE LISTED PACKAGE-LEVEL VARIABLES READ AS WHEN THE CALL BEGINS. Each datum BY PROGRAM (the guide's laid-datum.mjs) off the statement by which the dump's own 'gosem.cut.vars' lays the variable. In a bare row this is a premise. The card (YtlhllidkkjledaaGreatDoorCards.lean) ties it to the program's text. -/
def laid_unicode_utf8_acceptRanges {H : Type} : DataW H := .agg [.agg [.lit (.int .u8 128), .lit (.int .u8 191)], .agg [.lit (.int .u8 160), .lit (.int .u8 191)], .agg [.lit (.int .u8 128), .lit (.int .u8 159)], .agg [.lit (.int .u8 144), .lit (.int .u8 191)], .agg [.lit (.int .u8 128), .lit (.int .u8 143)], .agg [.lit (.int .u8 0), .lit (.int .u8 0)], .agg [.lit (.int .u8 0), .lit (.int .u8 0)], .agg [.lit (.int .u8 0), .lit (.int .u8 0)], .agg [.lit (.int .u8 0), .lit (.int .u8 0)], .agg [.lit (.int .u8 0), .lit (.int .u8 0)], .agg [.lit (.int .u8 0), .lit (.int .u8 0)], .agg [.lit (.int .u8 0), .lit (.int .u8 0)], .agg [.lit (.int .u8 0), .lit (.int .u8 0)], .agg [.lit (.int .u8 0), .lit (.int .u8 0)], .agg [.lit (.int .u8 0), .lit (.int .u8 0)], .agg [.lit (.int .u8 0), .lit (.int .u8 0)]]
/-- One of Go's own tables, pinned by name: the form's constant. -/
def laid_unicode_utf8_first : DataW Unit := Go.Pinned.utf8First

/-- 'laws.FnExactTimesSailed': WHATEVER THE INPUT: true; the input reads as it did. -/
def fnExactTimesSailedSpec : ChangeSpec := { name := "fnExactTimesSailed", fn := fun _ => fun
  | [d1, d2] => { results := [.lit (.bool true)], args := [d1, d2] }
  | _ => none }
def fnExactTimesSailedRow : OpenClaim := { program := "ytlhllidkkjledaagreatdoor", sum := "1430f3d6362c2b40d69e78533938f4e984ad0d5adc4ed41bb296d341d75a579b", func := "loop.example/g00887/laws.FnExactTimesSailed", spec := "fnExactTimesSailed", inPlace := ["internal/bytealg.IndexByteString", "internal/bytealg.IndexString", "math.sqrt"], unfollowed := true, recurses := true, named := ["unicode/utf8.first", "unicode/utf8.acceptRanges", "math/bits.divideError", "math/bits.overflowError", "internal/bytealg.MaxLen"], apart := false, laid := [("unicode/utf8.acceptRanges", laid_unicode_utf8_acceptRanges), ("unicode/utf8.first", laid_unicode_utf8_first)] }
def FnExactTimesSailedSaid : Prop := fnExactTimesSailedRow.holds Tryz.pinned (OpenSpec.ofChange fnExactTimesSailedSpec)

/-- ITS FALSE NEIGHBOUR: 'it returns false'. Refute it at one input. -/
def fnExactTimesSailedWrong : ChangeSpec := { name := "fnExactTimesSailed", fn := fun _ => fun
  | [d1, d2] => { results := [.lit (.bool false)], args := [d1, d2] }
  | _ => none }
def FnExactTimesSailedWrongFalsely : Prop := fnExactTimesSailedRow.holds Tryz.pinned (OpenSpec.ofChange fnExactTimesSailedWrong)

/-- 'laws.FnExactLegTimes': WHATEVER THE INPUT: true; the input reads as it did. -/
def fnExactLegTimesSpec : ChangeSpec := { name := "fnExactLegTimes", fn := fun _ => fun
  | [d1, d2] => { results := [.lit (.bool true)], args := [d1, d2] }
  | _ => none }
def fnExactLegTimesRow : OpenClaim := { program := "ytlhllidkkjledaagreatdoor", sum := "1430f3d6362c2b40d69e78533938f4e984ad0d5adc4ed41bb296d341d75a579b", func := "loop.example/g00887/laws.FnExactLegTimes", spec := "fnExactLegTimes", inPlace := ["internal/bytealg.IndexByteString", "internal/bytealg.IndexString", "math.sqrt"], unfollowed := true, recurses := true, named := ["unicode/utf8.first", "unicode/utf8.acceptRanges", "math/bits.divideError", "math/bits.overflowError", "internal/bytealg.MaxLen"], apart := false, laid := [("unicode/utf8.acceptRanges", laid_unicode_utf8_acceptRanges), ("unicode/utf8.first", laid_unicode_utf8_first)] }
def FnExactLegTimesSaid : Prop := fnExactLegTimesRow.holds Tryz.pinned (OpenSpec.ofChange fnExactLegTimesSpec)

/-- ITS FALSE NEIGHBOUR: 'it returns false'. Refute it at one input. -/
def fnExactLegTimesWrong : ChangeSpec := { name := "fnExactLegTimes", fn := fun _ => fun
  | [d1, d2] => { results := [.lit (.bool false)], args := [d1, d2] }
  | _ => none }
def FnExactLegTimesWrongFalsely : Prop := fnExactLegTimesRow.holds Tryz.pinned (OpenSpec.ofChange fnExactLegTimesWrong)

/-- 'laws.FnExactDistanceToNext': WHATEVER THE INPUT: true; the input reads as it did. -/
def fnExactDistanceToNextSpec : ChangeSpec := { name := "fnExactDistanceToNext", fn := fun _ => fun
  | [d1, d2, d3] => { results := [.lit (.bool true)], args := [d1, d2, d3] }
  | _ => none }
def fnExactDistanceToNextRow : OpenClaim := { program := "ytlhllidkkjledaagreatdoor", sum := "1430f3d6362c2b40d69e78533938f4e984ad0d5adc4ed41bb296d341d75a579b", func := "loop.example/g00887/laws.FnExactDistanceToNext", spec := "fnExactDistanceToNext", inPlace := ["internal/bytealg.IndexByteString", "internal/bytealg.IndexString", "math.sqrt"], unfollowed := true, recurses := true, named := ["unicode/utf8.first", "unicode/utf8.acceptRanges", "math/bits.divideError", "math/bits.overflowError", "internal/bytealg.MaxLen"], apart := false, laid := [("unicode/utf8.acceptRanges", laid_unicode_utf8_acceptRanges), ("unicode/utf8.first", laid_unicode_utf8_first)] }
def FnExactDistanceToNextSaid : Prop := fnExactDistanceToNextRow.holds Tryz.pinned (OpenSpec.ofChange fnExactDistanceToNextSpec)

/-- ITS FALSE NEIGHBOUR: 'it returns false'. Refute it at one input. -/
def fnExactDistanceToNextWrong : ChangeSpec := { name := "fnExactDistanceToNext", fn := fun _ => fun
  | [d1, d2, d3] => { results := [.lit (.bool false)], args := [d1, d2, d3] }
  | _ => none }
def FnExactDistanceToNextWrongFalsely : Prop := fnExactDistanceToNextRow.holds Tryz.pinned (OpenSpec.ofChange fnExactDistanceToNextWrong)

/-- 'laws.FnExactRoomAt': WHATEVER THE INPUT: true; the input reads as it did. -/
def fnExactRoomAtSpec : ChangeSpec := { name := "fnExactRoomAt", fn := fun _ => fun
  | [d1, d2, d3, d4, d5, d6] => { results := [.lit (.bool true)], args := [d1, d2, d3, d4, d5, d6] }
  | _ => none }
def fnExactRoomAtRow : OpenClaim := { program := "ytlhllidkkjledaagreatdoor", sum := "1430f3d6362c2b40d69e78533938f4e984ad0d5adc4ed41bb296d341d75a579b", func := "loop.example/g00887/laws.FnExactRoomAt", spec := "fnExactRoomAt", inPlace := ["internal/bytealg.IndexByteString", "internal/bytealg.IndexString"], unfollowed := true, recurses := true, named := ["unicode/utf8.first", "unicode/utf8.acceptRanges", "internal/bytealg.MaxLen"], apart := false, laid := [("unicode/utf8.acceptRanges", laid_unicode_utf8_acceptRanges), ("unicode/utf8.first", laid_unicode_utf8_first)] }
def FnExactRoomAtSaid : Prop := fnExactRoomAtRow.holds Tryz.pinned (OpenSpec.ofChange fnExactRoomAtSpec)

/-- ITS FALSE NEIGHBOUR: 'it returns false'. Refute it at one input. -/
def fnExactRoomAtWrong : ChangeSpec := { name := "fnExactRoomAt", fn := fun _ => fun
  | [d1, d2, d3, d4, d5, d6] => { results := [.lit (.bool false)], args := [d1, d2, d3, d4, d5, d6] }
  | _ => none }
def FnExactRoomAtWrongFalsely : Prop := fnExactRoomAtRow.holds Tryz.pinned (OpenSpec.ofChange fnExactRoomAtWrong)

/-- 'laws.FnExactOrderAt': WHATEVER THE INPUT: true; the input reads as it did. -/
def fnExactOrderAtSpec : ChangeSpec := { name := "fnExactOrderAt", fn := fun _ => fun
  | [d1, d2, d3] => { results := [.lit (.bool true)], args := [d1, d2, d3] }
  | _ => none }
def fnExactOrderAtRow : OpenClaim := { program := "ytlhllidkkjledaagreatdoor", sum := "1430f3d6362c2b40d69e78533938f4e984ad0d5adc4ed41bb296d341d75a579b", func := "loop.example/g00887/laws.FnExactOrderAt", spec := "fnExactOrderAt", inPlace := ["internal/bytealg.IndexByteString", "internal/bytealg.IndexString", "math.sqrt"], unfollowed := true, recurses := true, named := ["unicode/utf8.first", "unicode/utf8.acceptRanges", "math/bits.divideError", "math/bits.overflowError", "internal/bytealg.MaxLen"], apart := false, laid := [("unicode/utf8.acceptRanges", laid_unicode_utf8_acceptRanges), ("unicode/utf8.first", laid_unicode_utf8_first)] }
def FnExactOrderAtSaid : Prop := fnExactOrderAtRow.holds Tryz.pinned (OpenSpec.ofChange fnExactOrderAtSpec)

/-- ITS FALSE NEIGHBOUR: 'it returns false'. Refute it at one input. -/
def fnExactOrderAtWrong : ChangeSpec := { name := "fnExactOrderAt", fn := fun _ => fun
  | [d1, d2, d3] => { results := [.lit (.bool false)], args := [d1, d2, d3] }
  | _ => none }
def FnExactOrderAtWrongFalsely : Prop := fnExactOrderAtRow.holds Tryz.pinned (OpenSpec.ofChange fnExactOrderAtWrong)

/-- 'laws.FnExactRoomTable': WHATEVER THE INPUT: true; the input reads as it did. -/
def fnExactRoomTableSpec : ChangeSpec := { name := "fnExactRoomTable", fn := fun _ => fun
  | [d1, d2, d3, d4, d5] => { results := [.lit (.bool true)], args := [d1, d2, d3, d4, d5] }
  | _ => none }
def fnExactRoomTableRow : OpenClaim := { program := "ytlhllidkkjledaagreatdoor", sum := "1430f3d6362c2b40d69e78533938f4e984ad0d5adc4ed41bb296d341d75a579b", func := "loop.example/g00887/laws.FnExactRoomTable", spec := "fnExactRoomTable", inPlace := ["internal/bytealg.IndexByteString", "internal/bytealg.IndexString"], unfollowed := true, recurses := true, named := ["unicode/utf8.first", "unicode/utf8.acceptRanges", "internal/bytealg.MaxLen"], apart := false, laid := [("unicode/utf8.acceptRanges", laid_unicode_utf8_acceptRanges), ("unicode/utf8.first", laid_unicode_utf8_first)] }
def FnExactRoomTableSaid : Prop := fnExactRoomTableRow.holds Tryz.pinned (OpenSpec.ofChange fnExactRoomTableSpec)

/-- ITS FALSE NEIGHBOUR: 'it returns false'. Refute it at one input. -/
def fnExactRoomTableWrong : ChangeSpec := { name := "fnExactRoomTable", fn := fun _ => fun
  | [d1, d2, d3, d4, d5] => { results := [.lit (.bool false)], args := [d1, d2, d3, d4, d5] }
  | _ => none }
def FnExactRoomTableWrongFalsely : Prop := fnExactRoomTableRow.holds Tryz.pinned (OpenSpec.ofChange fnExactRoomTableWrong)

/- THE SECOND FORM. 'bulk': how many values and letters a reading holds, each counted each time it is reached (what is shared counts as often as it is met; a slice's spare places count too). A statement '..UptoSaid' is the law's where the arguments, and the package variables that the reading takes, are together of bulk at most 1048576: NARROWER than '..Said'. Prove '..Said' where nothing that the law and all that it calls make is longer than what came in: it says more and counts as full. Else prove '..UptoSaid'. A law counts once. -/
mutual
def uptoBulk {H : Type} : DataW H → Nat
  | .lit (.string bytes) => bytes.length + 1
  | .lit _ => 1
  | .nil => 1
  | .ptr d => uptoBulk d + 1
  | .slice elems spare => uptoBulkAll elems + uptoBulkAll spare + 1
  | .agg parts => uptoBulkAll parts + 1
  | .iface _ d => uptoBulk d + 1
  | .map entries => uptoBulkEntries entries + 1
  | .held _ => 1
def uptoBulkAll {H : Type} : List (DataW H) → Nat
  | [] => 0
  | d :: r => uptoBulk d + uptoBulkAll r
def uptoBulkEntries {H : Type} : List (Lit × DataW H) → Nat
  | [] => 0
  | x :: r => uptoBulkEntry x + uptoBulkEntries r
def uptoBulkEntry {H : Type} : Lit × DataW H → Nat
  | (.string bytes, d) => bytes.length + uptoBulk d + 1
  | (_, d) => uptoBulk d + 1
 end
def uptoSmall : (H : Type) → List (DataW H) → Bool := fun _ ds => decide (uptoBulkAll ds ≤ 1048576)
def OpenSpec.upto (s : _root_.Go.ChangeSpec) : _root_.Go.OpenSpec := { _root_.Go.OpenSpec.ofChange s with cond := some uptoSmall }

/-- 'laws.FnExactTimesSailed', WHERE WHAT IT READS IS OF BULK AT MOST 1048576: true; the input reads as it did. -/
def fnExactTimesSailedUptoRow : OpenClaim := { program := "ytlhllidkkjledaagreatdoor", sum := "1430f3d6362c2b40d69e78533938f4e984ad0d5adc4ed41bb296d341d75a579b", func := "loop.example/g00887/laws.FnExactTimesSailed", spec := "fnExactTimesSailed", inPlace := ["internal/bytealg.IndexByteString", "internal/bytealg.IndexString", "math.sqrt"], unfollowed := true, recurses := true, named := ["unicode/utf8.first", "unicode/utf8.acceptRanges", "math/bits.divideError", "math/bits.overflowError", "internal/bytealg.MaxLen"], apart := false, laid := [("unicode/utf8.acceptRanges", laid_unicode_utf8_acceptRanges), ("unicode/utf8.first", laid_unicode_utf8_first)], narrowed := true }
def FnExactTimesSailedUptoSaid : Prop := fnExactTimesSailedUptoRow.holds Tryz.pinned (OpenSpec.upto fnExactTimesSailedSpec)

/-- 'laws.FnExactLegTimes', WHERE WHAT IT READS IS OF BULK AT MOST 1048576: true; the input reads as it did. -/
def fnExactLegTimesUptoRow : OpenClaim := { program := "ytlhllidkkjledaagreatdoor", sum := "1430f3d6362c2b40d69e78533938f4e984ad0d5adc4ed41bb296d341d75a579b", func := "loop.example/g00887/laws.FnExactLegTimes", spec := "fnExactLegTimes", inPlace := ["internal/bytealg.IndexByteString", "internal/bytealg.IndexString", "math.sqrt"], unfollowed := true, recurses := true, named := ["unicode/utf8.first", "unicode/utf8.acceptRanges", "math/bits.divideError", "math/bits.overflowError", "internal/bytealg.MaxLen"], apart := false, laid := [("unicode/utf8.acceptRanges", laid_unicode_utf8_acceptRanges), ("unicode/utf8.first", laid_unicode_utf8_first)], narrowed := true }
def FnExactLegTimesUptoSaid : Prop := fnExactLegTimesUptoRow.holds Tryz.pinned (OpenSpec.upto fnExactLegTimesSpec)

/-- 'laws.FnExactDistanceToNext', WHERE WHAT IT READS IS OF BULK AT MOST 1048576: true; the input reads as it did. -/
def fnExactDistanceToNextUptoRow : OpenClaim := { program := "ytlhllidkkjledaagreatdoor", sum := "1430f3d6362c2b40d69e78533938f4e984ad0d5adc4ed41bb296d341d75a579b", func := "loop.example/g00887/laws.FnExactDistanceToNext", spec := "fnExactDistanceToNext", inPlace := ["internal/bytealg.IndexByteString", "internal/bytealg.IndexString", "math.sqrt"], unfollowed := true, recurses := true, named := ["unicode/utf8.first", "unicode/utf8.acceptRanges", "math/bits.divideError", "math/bits.overflowError", "internal/bytealg.MaxLen"], apart := false, laid := [("unicode/utf8.acceptRanges", laid_unicode_utf8_acceptRanges), ("unicode/utf8.first", laid_unicode_utf8_first)], narrowed := true }
def FnExactDistanceToNextUptoSaid : Prop := fnExactDistanceToNextUptoRow.holds Tryz.pinned (OpenSpec.upto fnExactDistanceToNextSpec)

/-- 'laws.FnExactRoomAt', WHERE WHAT IT READS IS OF BULK AT MOST 1048576: true; the input reads as it did. -/
def fnExactRoomAtUptoRow : OpenClaim := { program := "ytlhllidkkjledaagreatdoor", sum := "1430f3d6362c2b40d69e78533938f4e984ad0d5adc4ed41bb296d341d75a579b", func := "loop.example/g00887/laws.FnExactRoomAt", spec := "fnExactRoomAt", inPlace := ["internal/bytealg.IndexByteString", "internal/bytealg.IndexString"], unfollowed := true, recurses := true, named := ["unicode/utf8.first", "unicode/utf8.acceptRanges", "internal/bytealg.MaxLen"], apart := false, laid := [("unicode/utf8.acceptRanges", laid_unicode_utf8_acceptRanges), ("unicode/utf8.first", laid_unicode_utf8_first)], narrowed := true }
def FnExactRoomAtUptoSaid : Prop := fnExactRoomAtUptoRow.holds Tryz.pinned (OpenSpec.upto fnExactRoomAtSpec)

/-- 'laws.FnExactOrderAt', WHERE WHAT IT READS IS OF BULK AT MOST 1048576: true; the input reads as it did. -/
def fnExactOrderAtUptoRow : OpenClaim := { program := "ytlhllidkkjledaagreatdoor", sum := "1430f3d6362c2b40d69e78533938f4e984ad0d5adc4ed41bb296d341d75a579b", func := "loop.example/g00887/laws.FnExactOrderAt", spec := "fnExactOrderAt", inPlace := ["internal/bytealg.IndexByteString", "internal/bytealg.IndexString", "math.sqrt"], unfollowed := true, recurses := true, named := ["unicode/utf8.first", "unicode/utf8.acceptRanges", "math/bits.divideError", "math/bits.overflowError", "internal/bytealg.MaxLen"], apart := false, laid := [("unicode/utf8.acceptRanges", laid_unicode_utf8_acceptRanges), ("unicode/utf8.first", laid_unicode_utf8_first)], narrowed := true }
def FnExactOrderAtUptoSaid : Prop := fnExactOrderAtUptoRow.holds Tryz.pinned (OpenSpec.upto fnExactOrderAtSpec)

/-- 'laws.FnExactRoomTable', WHERE WHAT IT READS IS OF BULK AT MOST 1048576: true; the input reads as it did. -/
def fnExactRoomTableUptoRow : OpenClaim := { program := "ytlhllidkkjledaagreatdoor", sum := "1430f3d6362c2b40d69e78533938f4e984ad0d5adc4ed41bb296d341d75a579b", func := "loop.example/g00887/laws.FnExactRoomTable", spec := "fnExactRoomTable", inPlace := ["internal/bytealg.IndexByteString", "internal/bytealg.IndexString"], unfollowed := true, recurses := true, named := ["unicode/utf8.first", "unicode/utf8.acceptRanges", "internal/bytealg.MaxLen"], apart := false, laid := [("unicode/utf8.acceptRanges", laid_unicode_utf8_acceptRanges), ("unicode/utf8.first", laid_unicode_utf8_first)], narrowed := true }
def FnExactRoomTableUptoSaid : Prop := fnExactRoomTableUptoRow.holds Tryz.pinned (OpenSpec.upto fnExactRoomTableSpec)

end Rows
end Go.Proofs.YtlhllidkkjledaaGreatDoor
