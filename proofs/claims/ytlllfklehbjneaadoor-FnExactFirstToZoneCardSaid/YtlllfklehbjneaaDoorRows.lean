/-
  NARROWER THAN 'FOR EVERY INPUT', by the rows' own cells (each row's printed sentence says how): FnExactInZoneAt: laid · FnExactDistanceToMark: laid · FnExactLengthsToMark: laid · FnExactNearestOnTrack: laid · FnExactComesAt: laid · FnExactRoomTime: laid · FnExactFirstToZone: laid.
  DERIVED. THE GIVEN ROWS OF THIS SEAT. 7 by the template 'for every input the law returns true; each argument reads behind the call as it read before'; 0 by the template 'total and deterministic' (their statements: YtlllfklehbjneaaDoorTotals.lean).
  GIVEN WITH THE SEED: the statements are not yours to turn. If you find one false, say at which input.
  Laid BY PROGRAM, IN A SANDBOX (cutbox-rows.mjs): the forced cells as the released guide's own fill.sh prints them over the translation a47c450e361b83a9… (all of the seat's roots in one cut). By AI agents, Wed Nov 11 2026. No macro, syntax, notation, axiom, sorry.
-/
import Derived.Test.YtlllfklehbjneaaDoorChecked
import GoSem.PinnedTables
import GoSem.Claim
import GoSem.ClaimJoined
import GoSem.ClaimMapViews
import Derived.JoinedTies
import Derived.KernelRfl
namespace Go.Proofs.YtlllfklehbjneaaDoor
/- THE CELL 'sum', in the pinned program and in every row, IS THE sha256 OF THE DUMP (.gsa) THAT YtlllfklehbjneaaDoorProg.lean LOADS. Nothing in Lean hashes anything: it is a label: what it is worth is what the hold of that sum in a sandbox is worth. -/
noncomputable def Tryd.pinned : Pinned := { name := "ytlllfklehbjneaadoor", sum := "a47c450e361b83a936896d9248d8f3f93fda2bc33c5fe8b9bffa1914fc4bed7b", checked := Tryd.checked }
namespace Rows
def none {H : Type} : Left H := { results := [], args := [] }

/- WHAT THE LISTED PACKAGE-LEVEL VARIABLES READ AS WHEN THE CALL BEGINS. Each datum BY PROGRAM (the guide's laid-datum.mjs) off the statement by which the dump's own 'gosem.cut.vars' lays the variable. In a bare row this is a premise. The card (YtlllfklehbjneaaDoorCards.lean) ties it to the program's text. -/
def laid_unicode_utf8_acceptRanges {H : Type} : DataW H := .agg [.agg [.lit (.int .u8 128), .lit (.int .u8 191)], .agg [.lit (.int .u8 160), .lit (.int .u8 191)], .agg [.lit (.int .u8 128), .lit (.int .u8 159)], .agg [.lit (.int .u8 144), .lit (.int .u8 191)], .agg [.lit (.int .u8 128), .lit (.int .u8 143)], .agg [.lit (.int .u8 0), .lit (.int .u8 0)], .agg [.lit (.int .u8 0), .lit (.int .u8 0)], .agg [.lit (.int .u8 0), .lit (.int .u8 0)], .agg [.lit (.int .u8 0), .lit (.int .u8 0)], .agg [.lit (.int .u8 0), .lit (.int .u8 0)], .agg [.lit (.int .u8 0), .lit (.int .u8 0)], .agg [.lit (.int .u8 0), .lit (.int .u8 0)], .agg [.lit (.int .u8 0), .lit (.int .u8 0)], .agg [.lit (.int .u8 0), .lit (.int .u8 0)], .agg [.lit (.int .u8 0), .lit (.int .u8 0)], .agg [.lit (.int .u8 0), .lit (.int .u8 0)]]
/-- One of Go's own tables, pinned by name: the form's constant. -/
def laid_unicode_utf8_first : DataW Unit := Go.Pinned.utf8First

/-- 'laws.FnExactInZoneAt': WHATEVER THE INPUT: true; the input reads as it did. -/
def fnExactInZoneAtSpec : ChangeSpec := { name := "fnExactInZoneAt", fn := fun _ => fun
  | [d1, d2, d3, d4] => { results := [.lit (.bool true)], args := [d1, d2, d3, d4] }
  | _ => none }
def fnExactInZoneAtRow : OpenClaim := { program := "ytlllfklehbjneaadoor", sum := "a47c450e361b83a936896d9248d8f3f93fda2bc33c5fe8b9bffa1914fc4bed7b", func := "loop.example/g00887/laws.FnExactInZoneAt", spec := "fnExactInZoneAt", inPlace := ["internal/bytealg.IndexByteString", "internal/bytealg.IndexString"], unfollowed := true, recurses := true, named := ["unicode/utf8.first", "unicode/utf8.acceptRanges", "internal/bytealg.MaxLen"], apart := false, laid := [("unicode/utf8.acceptRanges", laid_unicode_utf8_acceptRanges), ("unicode/utf8.first", laid_unicode_utf8_first)] }
def FnExactInZoneAtSaid : Prop := fnExactInZoneAtRow.holds Tryd.pinned (OpenSpec.ofChange fnExactInZoneAtSpec)

/-- ITS FALSE NEIGHBOUR: 'it returns false'. Refute it at one input. -/
def fnExactInZoneAtWrong : ChangeSpec := { name := "fnExactInZoneAt", fn := fun _ => fun
  | [d1, d2, d3, d4] => { results := [.lit (.bool false)], args := [d1, d2, d3, d4] }
  | _ => none }
def FnExactInZoneAtWrongFalsely : Prop := fnExactInZoneAtRow.holds Tryd.pinned (OpenSpec.ofChange fnExactInZoneAtWrong)

/-- 'laws.FnExactDistanceToMark': WHATEVER THE INPUT: true; the input reads as it did. -/
def fnExactDistanceToMarkSpec : ChangeSpec := { name := "fnExactDistanceToMark", fn := fun _ => fun
  | [d1, d2, d3, d4] => { results := [.lit (.bool true)], args := [d1, d2, d3, d4] }
  | _ => none }
def fnExactDistanceToMarkRow : OpenClaim := { program := "ytlllfklehbjneaadoor", sum := "a47c450e361b83a936896d9248d8f3f93fda2bc33c5fe8b9bffa1914fc4bed7b", func := "loop.example/g00887/laws.FnExactDistanceToMark", spec := "fnExactDistanceToMark", inPlace := ["internal/bytealg.IndexByteString", "internal/bytealg.IndexString", "math.sqrt"], unfollowed := true, recurses := true, named := ["unicode/utf8.first", "unicode/utf8.acceptRanges", "internal/bytealg.MaxLen"], apart := false, laid := [("unicode/utf8.acceptRanges", laid_unicode_utf8_acceptRanges), ("unicode/utf8.first", laid_unicode_utf8_first)] }
def FnExactDistanceToMarkSaid : Prop := fnExactDistanceToMarkRow.holds Tryd.pinned (OpenSpec.ofChange fnExactDistanceToMarkSpec)

/-- ITS FALSE NEIGHBOUR: 'it returns false'. Refute it at one input. -/
def fnExactDistanceToMarkWrong : ChangeSpec := { name := "fnExactDistanceToMark", fn := fun _ => fun
  | [d1, d2, d3, d4] => { results := [.lit (.bool false)], args := [d1, d2, d3, d4] }
  | _ => none }
def FnExactDistanceToMarkWrongFalsely : Prop := fnExactDistanceToMarkRow.holds Tryd.pinned (OpenSpec.ofChange fnExactDistanceToMarkWrong)

/-- 'laws.FnExactLengthsToMark': WHATEVER THE INPUT: true; the input reads as it did. -/
def fnExactLengthsToMarkSpec : ChangeSpec := { name := "fnExactLengthsToMark", fn := fun _ => fun
  | [d1, d2, d3, d4, d5] => { results := [.lit (.bool true)], args := [d1, d2, d3, d4, d5] }
  | _ => none }
def fnExactLengthsToMarkRow : OpenClaim := { program := "ytlllfklehbjneaadoor", sum := "a47c450e361b83a936896d9248d8f3f93fda2bc33c5fe8b9bffa1914fc4bed7b", func := "loop.example/g00887/laws.FnExactLengthsToMark", spec := "fnExactLengthsToMark", inPlace := ["internal/bytealg.IndexByteString", "internal/bytealg.IndexString", "math.sqrt"], unfollowed := true, recurses := true, named := ["unicode/utf8.first", "unicode/utf8.acceptRanges", "internal/bytealg.MaxLen"], apart := false, laid := [("unicode/utf8.acceptRanges", laid_unicode_utf8_acceptRanges), ("unicode/utf8.first", laid_unicode_utf8_first)] }
def FnExactLengthsToMarkSaid : Prop := fnExactLengthsToMarkRow.holds Tryd.pinned (OpenSpec.ofChange fnExactLengthsToMarkSpec)

/-- ITS FALSE NEIGHBOUR: 'it returns false'. Refute it at one input. -/
def fnExactLengthsToMarkWrong : ChangeSpec := { name := "fnExactLengthsToMark", fn := fun _ => fun
  | [d1, d2, d3, d4, d5] => { results := [.lit (.bool false)], args := [d1, d2, d3, d4, d5] }
  | _ => none }
def FnExactLengthsToMarkWrongFalsely : Prop := fnExactLengthsToMarkRow.holds Tryd.pinned (OpenSpec.ofChange fnExactLengthsToMarkWrong)

/-- 'laws.FnExactNearestOnTrack': WHATEVER THE INPUT: true; the input reads as it did. -/
def fnExactNearestOnTrackSpec : ChangeSpec := { name := "fnExactNearestOnTrack", fn := fun _ => fun
  | [d1, d2, d3] => { results := [.lit (.bool true)], args := [d1, d2, d3] }
  | _ => none }
def fnExactNearestOnTrackRow : OpenClaim := { program := "ytlllfklehbjneaadoor", sum := "a47c450e361b83a936896d9248d8f3f93fda2bc33c5fe8b9bffa1914fc4bed7b", func := "loop.example/g00887/laws.FnExactNearestOnTrack", spec := "fnExactNearestOnTrack", inPlace := ["internal/bytealg.IndexByteString", "internal/bytealg.IndexString"], unfollowed := true, recurses := true, named := ["unicode/utf8.first", "unicode/utf8.acceptRanges", "math/bits.divideError", "math/bits.overflowError", "internal/bytealg.MaxLen"], apart := false, laid := [("unicode/utf8.acceptRanges", laid_unicode_utf8_acceptRanges), ("unicode/utf8.first", laid_unicode_utf8_first)] }
def FnExactNearestOnTrackSaid : Prop := fnExactNearestOnTrackRow.holds Tryd.pinned (OpenSpec.ofChange fnExactNearestOnTrackSpec)

/-- ITS FALSE NEIGHBOUR: 'it returns false'. Refute it at one input. -/
def fnExactNearestOnTrackWrong : ChangeSpec := { name := "fnExactNearestOnTrack", fn := fun _ => fun
  | [d1, d2, d3] => { results := [.lit (.bool false)], args := [d1, d2, d3] }
  | _ => none }
def FnExactNearestOnTrackWrongFalsely : Prop := fnExactNearestOnTrackRow.holds Tryd.pinned (OpenSpec.ofChange fnExactNearestOnTrackWrong)

/-- 'laws.FnExactComesAt': WHATEVER THE INPUT: true; the input reads as it did. -/
def fnExactComesAtSpec : ChangeSpec := { name := "fnExactComesAt", fn := fun _ => fun
  | [d1, d2, d3] => { results := [.lit (.bool true)], args := [d1, d2, d3] }
  | _ => none }
def fnExactComesAtRow : OpenClaim := { program := "ytlllfklehbjneaadoor", sum := "a47c450e361b83a936896d9248d8f3f93fda2bc33c5fe8b9bffa1914fc4bed7b", func := "loop.example/g00887/laws.FnExactComesAt", spec := "fnExactComesAt", inPlace := ["internal/bytealg.IndexByteString", "internal/bytealg.IndexString"], unfollowed := true, recurses := true, named := ["unicode/utf8.first", "unicode/utf8.acceptRanges", "internal/bytealg.MaxLen"], apart := false, laid := [("unicode/utf8.acceptRanges", laid_unicode_utf8_acceptRanges), ("unicode/utf8.first", laid_unicode_utf8_first)] }
def FnExactComesAtSaid : Prop := fnExactComesAtRow.holds Tryd.pinned (OpenSpec.ofChange fnExactComesAtSpec)

/-- ITS FALSE NEIGHBOUR: 'it returns false'. Refute it at one input. -/
def fnExactComesAtWrong : ChangeSpec := { name := "fnExactComesAt", fn := fun _ => fun
  | [d1, d2, d3] => { results := [.lit (.bool false)], args := [d1, d2, d3] }
  | _ => none }
def FnExactComesAtWrongFalsely : Prop := fnExactComesAtRow.holds Tryd.pinned (OpenSpec.ofChange fnExactComesAtWrong)

/-- 'laws.FnExactRoomTime': WHATEVER THE INPUT: true; the input reads as it did. -/
def fnExactRoomTimeSpec : ChangeSpec := { name := "fnExactRoomTime", fn := fun _ => fun
  | [d1, d2, d3, d4] => { results := [.lit (.bool true)], args := [d1, d2, d3, d4] }
  | _ => none }
def fnExactRoomTimeRow : OpenClaim := { program := "ytlllfklehbjneaadoor", sum := "a47c450e361b83a936896d9248d8f3f93fda2bc33c5fe8b9bffa1914fc4bed7b", func := "loop.example/g00887/laws.FnExactRoomTime", spec := "fnExactRoomTime", inPlace := ["internal/bytealg.IndexByteString", "internal/bytealg.IndexString"], unfollowed := true, recurses := true, named := ["unicode/utf8.first", "unicode/utf8.acceptRanges", "internal/bytealg.MaxLen"], apart := false, laid := [("unicode/utf8.acceptRanges", laid_unicode_utf8_acceptRanges), ("unicode/utf8.first", laid_unicode_utf8_first)] }
def FnExactRoomTimeSaid : Prop := fnExactRoomTimeRow.holds Tryd.pinned (OpenSpec.ofChange fnExactRoomTimeSpec)

/-- ITS FALSE NEIGHBOUR: 'it returns false'. Refute it at one input. -/
def fnExactRoomTimeWrong : ChangeSpec := { name := "fnExactRoomTime", fn := fun _ => fun
  | [d1, d2, d3, d4] => { results := [.lit (.bool false)], args := [d1, d2, d3, d4] }
  | _ => none }
def FnExactRoomTimeWrongFalsely : Prop := fnExactRoomTimeRow.holds Tryd.pinned (OpenSpec.ofChange fnExactRoomTimeWrong)

/-- 'laws.FnExactFirstToZone': WHATEVER THE INPUT: true; the input reads as it did. -/
def fnExactFirstToZoneSpec : ChangeSpec := { name := "fnExactFirstToZone", fn := fun _ => fun
  | [d1, d2, d3] => { results := [.lit (.bool true)], args := [d1, d2, d3] }
  | _ => none }
def fnExactFirstToZoneRow : OpenClaim := { program := "ytlllfklehbjneaadoor", sum := "a47c450e361b83a936896d9248d8f3f93fda2bc33c5fe8b9bffa1914fc4bed7b", func := "loop.example/g00887/laws.FnExactFirstToZone", spec := "fnExactFirstToZone", inPlace := ["internal/bytealg.IndexByteString", "internal/bytealg.IndexString"], unfollowed := true, recurses := true, named := ["unicode/utf8.first", "unicode/utf8.acceptRanges", "internal/bytealg.MaxLen"], apart := false, laid := [("unicode/utf8.acceptRanges", laid_unicode_utf8_acceptRanges), ("unicode/utf8.first", laid_unicode_utf8_first)] }
def FnExactFirstToZoneSaid : Prop := fnExactFirstToZoneRow.holds Tryd.pinned (OpenSpec.ofChange fnExactFirstToZoneSpec)

/-- ITS FALSE NEIGHBOUR: 'it returns false'. Refute it at one input. -/
def fnExactFirstToZoneWrong : ChangeSpec := { name := "fnExactFirstToZone", fn := fun _ => fun
  | [d1, d2, d3] => { results := [.lit (.bool false)], args := [d1, d2, d3] }
  | _ => none }
def FnExactFirstToZoneWrongFalsely : Prop := fnExactFirstToZoneRow.holds Tryd.pinned (OpenSpec.ofChange fnExactFirstToZoneWrong)

/- THE SECOND FORM. 'bulk': how many values and letters a reading holds, each counted each time it is reached (what is shared counts as often as it is met; a slice's spare places count too). A statement '..UptoSaid' is the law's where the arguments, and the package variables that the reading takes, are together of bulk at most 1048576: NARROWER than '..Said'. Prove '..Said' where nothing that the law and all that it calls make is longer than what came in: it says more and counts as full. Else prove '..UptoSaid'. A law counts once. -/
mutual
def uptoBulk {H : Type} : DataW H → Nat
  | .lit (.string bytes) => bytes.length + 1
  | .lit _ => 1
  | .nil => 1
  | .ptr d => uptoBulk d + 1
  | .slice elems spare => uptoBulkAll elems + uptoBulkAll spare + 1
  | .agg parts => uptoBulkAll parts + 1
  | .iface _ d => uptoBulk d + 1
  | .map entries => uptoBulkEntries entries + 1
  | .held _ => 1
def uptoBulkAll {H : Type} : List (DataW H) → Nat
  | [] => 0
  | d :: r => uptoBulk d + uptoBulkAll r
def uptoBulkEntries {H : Type} : List (Lit × DataW H) → Nat
  | [] => 0
  | x :: r => uptoBulkEntry x + uptoBulkEntries r
def uptoBulkEntry {H : Type} : Lit × DataW H → Nat
  | (.string bytes, d) => bytes.length + uptoBulk d + 1
  | (_, d) => uptoBulk d + 1
 end
def uptoSmall : (H : Type) → List (DataW H) → Bool := fun _ ds => decide (uptoBulkAll ds ≤ 1048576)
def OpenSpec.upto (s : _root_.Go.ChangeSpec) : _root_.Go.OpenSpec := { _root_.Go.OpenSpec.ofChange s with cond := some uptoSmall }

/-- 'laws.FnExactInZoneAt', WHERE WHAT IT READS IS OF BULK AT MOST 1048576: true; the input reads as it did. -/
def fnExactInZoneAtUptoRow : OpenClaim := { program := "ytlllfklehbjneaadoor", sum := "a47c450e361b83a936896d9248d8f3f93fda2bc33c5fe8b9bffa1914fc4bed7b", func := "loop.example/g00887/laws.FnExactInZoneAt", spec := "fnExactInZoneAt", inPlace := ["internal/bytealg.IndexByteString", "internal/bytealg.IndexString"], unfollowed := true, recurses := true, named := ["unicode/utf8.first", "unicode/utf8.acceptRanges", "internal/bytealg.MaxLen"], apart := false, laid := [("unicode/utf8.acceptRanges", laid_unicode_utf8_acceptRanges), ("unicode/utf8.first", laid_unicode_utf8_first)], narrowed := true }
def FnExactInZoneAtUptoSaid : Prop := fnExactInZoneAtUptoRow.holds Tryd.pinned (OpenSpec.upto fnExactInZoneAtSpec)

/-- 'laws.FnExactDistanceToMark', WHERE WHAT IT READS IS OF BULK AT MOST 1048576: true; the input reads as it did. -/
def fnExactDistanceToMarkUptoRow : OpenClaim := { program := "ytlllfklehbjneaadoor", sum := "a47c450e361b83a936896d9248d8f3f93fda2bc33c5fe8b9bffa1914fc4bed7b", func := "loop.example/g00887/laws.FnExactDistanceToMark", spec := "fnExactDistanceToMark", inPlace := ["internal/bytealg.IndexByteString", "internal/bytealg.IndexString", "math.sqrt"], unfollowed := true, recurses := true, named := ["unicode/utf8.first", "unicode/utf8.acceptRanges", "internal/bytealg.MaxLen"], apart := false, laid := [("unicode/utf8.acceptRanges", laid_unicode_utf8_acceptRanges), ("unicode/utf8.first", laid_unicode_utf8_first)], narrowed := true }
def FnExactDistanceToMarkUptoSaid : Prop := fnExactDistanceToMarkUptoRow.holds Tryd.pinned (OpenSpec.upto fnExactDistanceToMarkSpec)

/-- 'laws.FnExactLengthsToMark', WHERE WHAT IT READS IS OF BULK AT MOST 1048576: true; the input reads as it did. -/
def fnExactLengthsToMarkUptoRow : OpenClaim := { program := "ytlllfklehbjneaadoor", sum := "a47c450e361b83a936896d9248d8f3f93fda2bc33c5fe8b9bffa1914fc4bed7b", func := "loop.example/g00887/laws.FnExactLengthsToMark", spec := "fnExactLengthsToMark", inPlace := ["internal/bytealg.IndexByteString", "internal/bytealg.IndexString", "math.sqrt"], unfollowed := true, recurses := true, named := ["unicode/utf8.first", "unicode/utf8.acceptRanges", "internal/bytealg.MaxLen"], apart := false, laid := [("unicode/utf8.acceptRanges", laid_unicode_utf8_acceptRanges), ("unicode/utf8.first", laid_unicode_utf8_first)], narrowed := true }
def FnExactLengthsToMarkUptoSaid : Prop := fnExactLengthsToMarkUptoRow.holds Tryd.pinned (OpenSpec.upto fnExactLengthsToMarkSpec)

/-- 'laws.FnExactNearestOnTrack', WHERE WHAT IT READS IS OF BULK AT MOST 1048576: true; the input reads as it did. -/
def fnExactNearestOnTrackUptoRow : OpenClaim := { program := "ytlllfklehbjneaadoor", sum := "a47c450e361b83a936896d9248d8f3f93fda2bc33c5fe8b9bffa1914fc4bed7b", func := "loop.example/g00887/laws.FnExactNearestOnTrack", spec := "fnExactNearestOnTrack", inPlace := ["internal/bytealg.IndexByteString", "internal/bytealg.IndexString"], unfollowed := true, recurses := true, named := ["unicode/utf8.first", "unicode/utf8.acceptRanges", "math/bits.divideError", "math/bits.overflowError", "internal/bytealg.MaxLen"], apart := false, laid := [("unicode/utf8.acceptRanges", laid_unicode_utf8_acceptRanges), ("unicode/utf8.first", laid_unicode_utf8_first)], narrowed := true }
def FnExactNearestOnTrackUptoSaid : Prop := fnExactNearestOnTrackUptoRow.holds Tryd.pinned (OpenSpec.upto fnExactNearestOnTrackSpec)

/-- 'laws.FnExactComesAt', WHERE WHAT IT READS IS OF BULK AT MOST 1048576: true; the input reads as it did. -/
def fnExactComesAtUptoRow : OpenClaim := { program := "ytlllfklehbjneaadoor", sum := "a47c450e361b83a936896d9248d8f3f93fda2bc33c5fe8b9bffa1914fc4bed7b", func := "loop.example/g00887/laws.FnExactComesAt", spec := "fnExactComesAt", inPlace := ["internal/bytealg.IndexByteString", "internal/bytealg.IndexString"], unfollowed := true, recurses := true, named := ["unicode/utf8.first", "unicode/utf8.acceptRanges", "internal/bytealg.MaxLen"], apart := false, laid := [("unicode/utf8.acceptRanges", laid_unicode_utf8_acceptRanges), ("unicode/utf8.first", laid_unicode_utf8_first)], narrowed := true }
def FnExactComesAtUptoSaid : Prop := fnExactComesAtUptoRow.holds Tryd.pinned (OpenSpec.upto fnExactComesAtSpec)

/-- 'laws.FnExactRoomTime', WHERE WHAT IT READS IS OF BULK AT MOST 1048576: true; the input reads as it did. -/
def fnExactRoomTimeUptoRow : OpenClaim := { program := "ytlllfklehbjneaadoor", sum := "a47c450e361b83a936896d9248d8f3f93fda2bc33c5fe8b9bffa1914fc4bed7b", func := "loop.example/g00887/laws.FnExactRoomTime", spec := "fnExactRoomTime", inPlace := ["internal/bytealg.IndexByteString", "internal/bytealg.IndexString"], unfollowed := true, recurses := true, named := ["unicode/utf8.first", "unicode/utf8.acceptRanges", "internal/bytealg.MaxLen"], apart := false, laid := [("unicode/utf8.acceptRanges", laid_unicode_utf8_acceptRanges), ("unicode/utf8.first", laid_unicode_utf8_first)], narrowed := true }
def FnExactRoomTimeUptoSaid : Prop := fnExactRoomTimeUptoRow.holds Tryd.pinned (OpenSpec.upto fnExactRoomTimeSpec)

/-- 'laws.FnExactFirstToZone', WHERE WHAT IT READS IS OF BULK AT MOST 1048576: true; the input reads as it did. -/
def fnExactFirstToZoneUptoRow : OpenClaim := { program := "ytlllfklehbjneaadoor", sum := "a47c450e361b83a936896d9248d8f3f93fda2bc33c5fe8b9bffa1914fc4bed7b", func := "loop.example/g00887/laws.FnExactFirstToZone", spec := "fnExactFirstToZone", inPlace := ["internal/bytealg.IndexByteString", "internal/bytealg.IndexString"], unfollowed := true, recurses := true, named := ["unicode/utf8.first", "unicode/utf8.acceptRanges", "internal/bytealg.MaxLen"], apart := false, laid := [("unicode/utf8.acceptRanges", laid_unicode_utf8_acceptRanges), ("unicode/utf8.first", laid_unicode_utf8_first)], narrowed := true }
def FnExactFirstToZoneUptoSaid : Prop := fnExactFirstToZoneUptoRow.holds Tryd.pinned (OpenSpec.upto fnExactFirstToZoneSpec)

end Rows
end Go.Proofs.YtlllfklehbjneaaDoor
