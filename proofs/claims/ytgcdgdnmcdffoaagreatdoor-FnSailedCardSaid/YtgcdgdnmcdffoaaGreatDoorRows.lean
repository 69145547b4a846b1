/-
  NARROWER THAN 'FOR EVERY INPUT', by the rows' own cells (each row's printed sentence says how): FnZone: laid · FnNearest: laid · FnRoomTable: laid · FnSailed: laid · FnOrder: laid.
  DERIVED. THE GIVEN ROWS OF THIS SEAT. 5 by the template 'for every input the law returns true; each argument reads behind the call as it read before'; 0 by the template 'total and deterministic' (their statements: YtgcdgdnmcdffoaaGreatDoorTotals.lean).
  GIVEN WITH THE SEED: the statements are not yours to turn. If you find one false, say at which input.
  Laid BY PROGRAM, IN A SANDBOX (cutbox-rows.mjs): the forced cells as the released guide's own fill.sh prints them over the translation 99c386d0ae3ad4fd… (all of the seat's roots in one cut). By AI agents, Wed Nov 11 2026. No macro, syntax, notation, axiom, sorry.
-/
import Derived.Test.YtgcdgdnmcdffoaaGreatDoorChecked
import GoSem.PinnedTables
import GoSem.Claim
import GoSem.ClaimJoined
import GoSem.ClaimMapViews
import Derived.JoinedTies
import Derived.KernelRfl
namespace Go.Proofs.YtgcdgdnmcdffoaaGreatDoor
/- THE CELL 'sum', in the pinned program and in every row, IS THE sha256 OF THE DUMP (.gsa) THAT YtgcdgdnmcdffoaaGreatDoorProg.lean LOADS. Nothing in Lean hashes anything: it is a label: what it is worth is what the hold of that sum in a sandbox is worth. -/
noncomputable def Tryz.pinned : Pinned := { name := "ytgcdgdnmcdffoaagreatdoor", sum := "99c386d0ae3ad4fd7dfa30bcd452ebd11f905c19548394a15f4718e15d2ac831", checked := Tryz.checked }
namespace Rows
def none {H : Type} : Left H := { results := [], args := [] }

/- WHAT THE LISTED PACKAGE-LEVEL VARIABLES READ AS WHEN THE CALL BEGINS. Each datum BY PROGRAM (the guide's laid-datum.mjs) off the statement by which the dump's own 'gosem.cut.vars' lays the variable. In a bare row this is a premise. The card (YtgcdgdnmcdffoaaGreatDoorCards.lean) ties it to the program's text. -/
def laid_unicode_utf8_acceptRanges {H : Type} : DataW H := .agg [.agg [.lit (.int .u8 128), .lit (.int .u8 191)], .agg [.lit (.int .u8 160), .lit (.int .u8 191)], .agg [.lit (.int .u8 128), .lit (.int .u8 159)], .agg [.lit (.int .u8 144), .lit (.int .u8 191)], .agg [.lit (.int .u8 128), .lit (.int .u8 143)], .agg [.lit (.int .u8 0), .lit (.int .u8 0)], .agg [.lit (.int .u8 0), .lit (.int .u8 0)], .agg [.lit (.int .u8 0), .lit (.int .u8 0)], .agg [.lit (.int .u8 0), .lit (.int .u8 0)], .agg [.lit (.int .u8 0), .lit (.int .u8 0)], .agg [.lit (.int .u8 0), .lit (.int .u8 0)], .agg [.lit (.int .u8 0), .lit (.int .u8 0)], .agg [.lit (.int .u8 0), .lit (.int .u8 0)], .agg [.lit (.int .u8 0), .lit (.int .u8 0)], .agg [.lit (.int .u8 0), .lit (.int .u8 0)], .agg [.lit (.int .u8 0), .lit (.int .u8 0)]]
/-- One of Go's own tables, pinned by name: the form's constant. -/
def laid_unicode_utf8_first : DataW Unit := Go.Pinned.utf8First

/-- 'laws.FnZone': WHATEVER THE INPUT: true; the input reads as it did. -/
def fnZoneSpec : ChangeSpec := { name := "fnZone", fn := fun _ => fun
  | [d] => { results := [.lit (.bool true)], args := [d] }
  | _ => none }
def fnZoneRow : OpenClaim := { program := "ytgcdgdnmcdffoaagreatdoor", sum := "99c386d0ae3ad4fd7dfa30bcd452ebd11f905c19548394a15f4718e15d2ac831", func := "loop.example/g00887/laws.FnZone", spec := "fnZone", inPlace := ["internal/bytealg.IndexByteString", "internal/bytealg.IndexString", "math.sqrt"], unfollowed := true, recurses := true, named := ["unicode/utf8.first", "unicode/utf8.acceptRanges", "internal/bytealg.MaxLen"], apart := false, laid := [("unicode/utf8.acceptRanges", laid_unicode_utf8_acceptRanges), ("unicode/utf8.first", laid_unicode_utf8_first)] }
def FnZoneSaid : Prop := fnZoneRow.holds Tryz.pinned (OpenSpec.ofChange fnZoneSpec)

/-- ITS FALSE NEIGHBOUR: 'it returns false'. Refute it at one input. -/
def fnZoneWrong : ChangeSpec := { name := "fnZone", fn := fun _ => fun
  | [d] => { results := [.lit (.bool false)], args := [d] }
  | _ => none }
def FnZoneWrongFalsely : Prop := fnZoneRow.holds Tryz.pinned (OpenSpec.ofChange fnZoneWrong)

/-- 'laws.FnNearest': WHATEVER THE INPUT: true; the input reads as it did. -/
def fnNearestSpec : ChangeSpec := { name := "fnNearest", fn := fun _ => fun
  | [d] => { results := [.lit (.bool true)], args := [d] }
  | _ => none }
def fnNearestRow : OpenClaim := { program := "ytgcdgdnmcdffoaagreatdoor", sum := "99c386d0ae3ad4fd7dfa30bcd452ebd11f905c19548394a15f4718e15d2ac831", func := "loop.example/g00887/laws.FnNearest", spec := "fnNearest", inPlace := ["internal/bytealg.IndexByteString", "internal/bytealg.IndexString", "math.sqrt"], unfollowed := true, recurses := true, named := ["unicode/utf8.first", "unicode/utf8.acceptRanges", "math/bits.divideError", "math/bits.overflowError", "internal/bytealg.MaxLen"], apart := false, laid := [("unicode/utf8.acceptRanges", laid_unicode_utf8_acceptRanges), ("unicode/utf8.first", laid_unicode_utf8_first)] }
def FnNearestSaid : Prop := fnNearestRow.holds Tryz.pinned (OpenSpec.ofChange fnNearestSpec)

/-- ITS FALSE NEIGHBOUR: 'it returns false'. Refute it at one input. -/
def fnNearestWrong : ChangeSpec := { name := "fnNearest", fn := fun _ => fun
  | [d] => { results := [.lit (.bool false)], args := [d] }
  | _ => none }
def FnNearestWrongFalsely : Prop := fnNearestRow.holds Tryz.pinned (OpenSpec.ofChange fnNearestWrong)

/-- 'laws.FnRoomTable': WHATEVER THE INPUT: true; the input reads as it did. -/
def fnRoomTableSpec : ChangeSpec := { name := "fnRoomTable", fn := fun _ => fun
  | [d] => { results := [.lit (.bool true)], args := [d] }
  | _ => none }
def fnRoomTableRow : OpenClaim := { program := "ytgcdgdnmcdffoaagreatdoor", sum := "99c386d0ae3ad4fd7dfa30bcd452ebd11f905c19548394a15f4718e15d2ac831", func := "loop.example/g00887/laws.FnRoomTable", spec := "fnRoomTable", inPlace := ["internal/bytealg.IndexByteString", "internal/bytealg.IndexString"], unfollowed := true, recurses := true, named := ["unicode/utf8.first", "unicode/utf8.acceptRanges", "internal/bytealg.MaxLen"], apart := false, laid := [("unicode/utf8.acceptRanges", laid_unicode_utf8_acceptRanges), ("unicode/utf8.first", laid_unicode_utf8_first)] }
def FnRoomTableSaid : Prop := fnRoomTableRow.holds Tryz.pinned (OpenSpec.ofChange fnRoomTableSpec)

/-- ITS FALSE NEIGHBOUR: 'it returns false'. Refute it at one input. -/
def fnRoomTableWrong : ChangeSpec := { name := "fnRoomTable", fn := fun _ => fun
  | [d] => { results := [.lit (.bool false)], args := [d] }
  | _ => none }
def FnRoomTableWrongFalsely : Prop := fnRoomTableRow.holds Tryz.pinned (OpenSpec.ofChange fnRoomTableWrong)

/-- 'laws.FnSailed': WHATEVER THE INPUT: true; the input reads as it did. -/
def fnSailedSpec : ChangeSpec := { name := "fnSailed", fn := fun _ => fun
  | [d] => { results := [.lit (.bool true)], args := [d] }
  | _ => none }
def fnSailedRow : OpenClaim := { program := "ytgcdgdnmcdffoaagreatdoor", sum := "99c386d0ae3ad4fd7dfa30bcd452ebd11f905c19548394a15f4718e15d2ac831", func := "loop.example/g00887/laws.FnSailed", spec := "fnSailed", inPlace := ["internal/bytealg.IndexByteString", "internal/bytealg.IndexString", "math.sqrt"], unfollowed := true, recurses := true, named := ["unicode/utf8.first", "unicode/utf8.acceptRanges", "math/bits.divideError", "math/bits.overflowError", "internal/bytealg.MaxLen"], apart := false, laid := [("unicode/utf8.acceptRanges", laid_unicode_utf8_acceptRanges), ("unicode/utf8.first", laid_unicode_utf8_first)] }
def FnSailedSaid : Prop := fnSailedRow.holds Tryz.pinned (OpenSpec.ofChange fnSailedSpec)

/-- ITS FALSE NEIGHBOUR: 'it returns false'. Refute it at one input. -/
def fnSailedWrong : ChangeSpec := { name := "fnSailed", fn := fun _ => fun
  | [d] => { results := [.lit (.bool false)], args := [d] }
  | _ => none }
def FnSailedWrongFalsely : Prop := fnSailedRow.holds Tryz.pinned (OpenSpec.ofChange fnSailedWrong)

/-- 'laws.FnOrder': WHATEVER THE INPUT: true; the input reads as it did. -/
def fnOrderSpec : ChangeSpec := { name := "fnOrder", fn := fun _ => fun
  | [d] => { results := [.lit (.bool true)], args := [d] }
  | _ => none }
def fnOrderRow : OpenClaim := { program := "ytgcdgdnmcdffoaagreatdoor", sum := "99c386d0ae3ad4fd7dfa30bcd452ebd11f905c19548394a15f4718e15d2ac831", func := "loop.example/g00887/laws.FnOrder", spec := "fnOrder", inPlace := ["internal/bytealg.IndexByteString", "internal/bytealg.IndexString", "math.sqrt"], unfollowed := true, recurses := true, named := ["unicode/utf8.first", "unicode/utf8.acceptRanges", "math/bits.divideError", "math/bits.overflowError", "internal/bytealg.MaxLen"], apart := false, laid := [("unicode/utf8.acceptRanges", laid_unicode_utf8_acceptRanges), ("unicode/utf8.first", laid_unicode_utf8_first)] }
def FnOrderSaid : Prop := fnOrderRow.holds Tryz.pinned (OpenSpec.ofChange fnOrderSpec)

/-- ITS FALSE NEIGHBOUR: 'it returns false'. Refute it at one input. -/
def fnOrderWrong : ChangeSpec := { name := "fnOrder", fn := fun _ => fun
  | [d] => { results := [.lit (.bool false)], args := [d] }
  | _ => none }
def FnOrderWrongFalsely : Prop := fnOrderRow.holds Tryz.pinned (OpenSpec.ofChange fnOrderWrong)

/- THE SECOND FORM. 'bulk': how many values and letters a reading holds, each counted each time it is reached (what is shared counts as often as it is met; a slice's spare places count too). A statement '..UptoSaid' is the law's where the arguments, and the package variables that the reading takes, are together of bulk at most 1048576: NARROWER than '..Said'. Prove '..Said' where nothing that the law and all that it calls make is longer than what came in: it says more and counts as full. Else prove '..UptoSaid'. A law counts once. -/
mutual
def uptoBulk {H : Type} : DataW H → Nat
  | .lit (.string bytes) => bytes.length + 1
  | .lit _ => 1
  | .nil => 1
  | .ptr d => uptoBulk d + 1
  | .slice elems spare => uptoBulkAll elems + uptoBulkAll spare + 1
  | .agg parts => uptoBulkAll parts + 1
  | .iface _ d => uptoBulk d + 1
  | .map entries => uptoBulkEntries entries + 1
  | .held _ => 1
def uptoBulkAll {H : Type} : List (DataW H) → Nat
  | [] => 0
  | d :: r => uptoBulk d + uptoBulkAll r
def uptoBulkEntries {H : Type} : List (Lit × DataW H) → Nat
  | [] => 0
  | x :: r => uptoBulkEntry x + uptoBulkEntries r
def uptoBulkEntry {H : Type} : Lit × DataW H → Nat
  | (.string bytes, d) => bytes.length + uptoBulk d + 1
  | (_, d) => uptoBulk d + 1
 end
def uptoSmall : (H : Type) → List (DataW H) → Bool := fun _ ds => decide (uptoBulkAll ds ≤ 1048576)
def OpenSpec.upto (s : _root_.Go.ChangeSpec) : _root_.Go.OpenSpec := { _root_.Go.OpenSpec.ofChange s with cond := some uptoSmall }

/-- 'laws.FnZone', WHERE WHAT IT READS IS OF BULK AT MOST 1048576: true; the input reads as it did. -/
def fnZoneUptoRow : OpenClaim := { program := "ytgcdgdnmcdffoaagreatdoor", sum := "99c386d0ae3ad4fd7dfa30bcd452ebd11f905c19548394a15f4718e15d2ac831", func := "loop.example/g00887/laws.FnZone", spec := "fnZone", inPlace := ["internal/bytealg.IndexByteString", "internal/bytealg.IndexString", "math.sqrt"], unfollowed := true, recurses := true, named := ["unicode/utf8.first", "unicode/utf8.acceptRanges", "internal/bytealg.MaxLen"], apart := false, laid := [("unicode/utf8.acceptRanges", laid_unicode_utf8_acceptRanges), ("unicode/utf8.first", laid_unicode_utf8_first)], narrowed := true }
def FnZoneUptoSaid : Prop := fnZoneUptoRow.holds Tryz.pinned (OpenSpec.upto fnZoneSpec)

/-- 'laws.FnNearest', WHERE WHAT IT READS IS OF BULK AT MOST 1048576: true; the input reads as it did. -/
def fnNearestUptoRow : OpenClaim := { program := "ytgcdgdnmcdffoaagreatdoor", sum := "99c386d0ae3ad4fd7dfa30bcd452ebd11f905c19548394a15f4718e15d2ac831", func := "loop.example/g00887/laws.FnNearest", spec := "fnNearest", inPlace := ["internal/bytealg.IndexByteString", "internal/bytealg.IndexString", "math.sqrt"], unfollowed := true, recurses := true, named := ["unicode/utf8.first", "unicode/utf8.acceptRanges", "math/bits.divideError", "math/bits.overflowError", "internal/bytealg.MaxLen"], apart := false, laid := [("unicode/utf8.acceptRanges", laid_unicode_utf8_acceptRanges), ("unicode/utf8.first", laid_unicode_utf8_first)], narrowed := true }
def FnNearestUptoSaid : Prop := fnNearestUptoRow.holds Tryz.pinned (OpenSpec.upto fnNearestSpec)

/-- 'laws.FnRoomTable', WHERE WHAT IT READS IS OF BULK AT MOST 1048576: true; the input reads as it did. -/
def fnRoomTableUptoRow : OpenClaim := { program := "ytgcdgdnmcdffoaagreatdoor", sum := "99c386d0ae3ad4fd7dfa30bcd452ebd11f905c19548394a15f4718e15d2ac831", func := "loop.example/g00887/laws.FnRoomTable", spec := "fnRoomTable", inPlace := ["internal/bytealg.IndexByteString", "internal/bytealg.IndexString"], unfollowed := true, recurses := true, named := ["unicode/utf8.first", "unicode/utf8.acceptRanges", "internal/bytealg.MaxLen"], apart := false, laid := [("unicode/utf8.acceptRanges", laid_unicode_utf8_acceptRanges), ("unicode/utf8.first", laid_unicode_utf8_first)], narrowed := true }
def FnRoomTableUptoSaid : Prop := fnRoomTableUptoRow.holds Tryz.pinned (OpenSpec.upto fnRoomTableSpec)

/-- 'laws.FnSailed', WHERE WHAT IT READS IS OF BULK AT MOST 1048576: true; the input reads as it did. -/
def fnSailedUptoRow : OpenClaim := { program := "ytgcdgdnmcdffoaagreatdoor", sum := "99c386d0ae3ad4fd7dfa30bcd452ebd11f905c19548394a15f4718e15d2ac831", func := "loop.example/g00887/laws.FnSailed", spec := "fnSailed", inPlace := ["internal/bytealg.IndexByteString", "internal/bytealg.IndexString", "math.sqrt"], unfollowed := true, recurses := true, named := ["unicode/utf8.first", "unicode/utf8.acceptRanges", "math/bits.divideError", "math/bits.overflowError", "internal/bytealg.MaxLen"], apart := false, laid := [("unicode/utf8.acceptRanges", laid_unicode_utf8_acceptRanges), ("unicode/utf8.first", laid_unicode_utf8_first)], narrowed := true }
def FnSailedUptoSaid : Prop := fnSailedUptoRow.holds Tryz.pinned (OpenSpec.upto fnSailedSpec)

/-- 'laws.FnOrder', WHERE WHAT IT READS IS OF BULK AT MOST 1048576: true; the input reads as it did. -/
def fnOrderUptoRow : OpenClaim := { program := "ytgcdgdnmcdffoaagreatdoor", sum := "99c386d0ae3ad4fd7dfa30bcd452ebd11f905c19548394a15f4718e15d2ac831", func := "loop.example/g00887/laws.FnOrder", spec := "fnOrder", inPlace := ["internal/bytealg.IndexByteString", "internal/bytealg.IndexString", "math.sqrt"], unfollowed := true, recurses := true, named := ["unicode/utf8.first", "unicode/utf8.acceptRanges", "math/bits.divideError", "math/bits.overflowError", "internal/bytealg.MaxLen"], apart := false, laid := [("unicode/utf8.acceptRanges", laid_unicode_utf8_acceptRanges), ("unicode/utf8.first", laid_unicode_utf8_first)], narrowed := true }
def FnOrderUptoSaid : Prop := fnOrderUptoRow.holds Tryz.pinned (OpenSpec.upto fnOrderSpec)

end Rows
end Go.Proofs.YtgcdgdnmcdffoaaGreatDoor
