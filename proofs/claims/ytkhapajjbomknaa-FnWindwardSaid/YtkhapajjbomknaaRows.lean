/-
  No cell of these rows narrows 'for every input' (looked for: loops, veiled, ifaces, maps, wideKeys, modest, calm, conditions, laid).
  DERIVED. THE GIVEN ROWS OF THIS SEAT. 7 by the template 'for every input the law returns true; each argument reads behind the call as it read before'; 0 by the template 'total and deterministic' (their statements: YtkhapajjbomknaaTotals.lean).
  GIVEN WITH THE SEED: the statements are not yours to turn. If you find one false, say at which input.
  Laid BY PROGRAM, IN A SANDBOX (cutbox-rows.mjs): the forced cells as the released guide's own fill.sh prints them over the translation dc7b3ce022f2110b… (all of the seat's roots in one cut). By AI agents, Wed Nov 11 2026. No macro, syntax, notation, axiom, sorry.
-/
import Derived.Test.YtkhapajjbomknaaChecked
import GoSem.Claim
import GoSem.ClaimJoined
import GoSem.ClaimMapViews
import Derived.JoinedTies
import Derived.KernelRfl
namespace Go.Proofs.Ytkhapajjbomknaa
/- THE CELL 'sum', in the pinned program and in every row, IS THE sha256 OF THE DUMP (.gsa) THAT YtkhapajjbomknaaProg.lean LOADS. Nothing in Lean hashes anything: it is a label: what it is worth is what the hold of that sum in a sandbox is worth. -/
noncomputable def Try.pinned : Pinned := { name := "ytkhapajjbomknaa", sum := "dc7b3ce022f2110bf5c1f9ba20682c90d63e4bef5b2b6d4665fda358d70efa98", checked := Try.checked }
namespace Rows
def none {H : Type} : Left H := { results := [], args := [] }

/-- 'laws.FnTack': WHATEVER THE INPUT: true; the input reads as it did. -/
def fnTackSpec : ChangeSpec := { name := "fnTack", fn := fun _ => fun
  | [d] => { results := [.lit (.bool true)], args := [d] }
  | _ => none }
def fnTackRow : OpenClaim := { program := "ytkhapajjbomknaa", sum := "dc7b3ce022f2110bf5c1f9ba20682c90d63e4bef5b2b6d4665fda358d70efa98", func := "loop.example/g00887/laws.FnTack", spec := "fnTack", apart := false }
def FnTackSaid : Prop := fnTackRow.holds Try.pinned (OpenSpec.ofChange fnTackSpec)

/-- ITS FALSE NEIGHBOUR: 'it returns false'. Refute it at one input. -/
def fnTackWrong : ChangeSpec := { name := "fnTack", fn := fun _ => fun
  | [d] => { results := [.lit (.bool false)], args := [d] }
  | _ => none }
def FnTackWrongFalsely : Prop := fnTackRow.holds Try.pinned (OpenSpec.ofChange fnTackWrong)

/-- 'laws.FnOverlap': WHATEVER THE INPUT: true; the input reads as it did. -/
def fnOverlapSpec : ChangeSpec := { name := "fnOverlap", fn := fun _ => fun
  | [d] => { results := [.lit (.bool true)], args := [d] }
  | _ => none }
def fnOverlapRow : OpenClaim := { program := "ytkhapajjbomknaa", sum := "dc7b3ce022f2110bf5c1f9ba20682c90d63e4bef5b2b6d4665fda358d70efa98", func := "loop.example/g00887/laws.FnOverlap", spec := "fnOverlap", apart := false }
def FnOverlapSaid : Prop := fnOverlapRow.holds Try.pinned (OpenSpec.ofChange fnOverlapSpec)

/-- ITS FALSE NEIGHBOUR: 'it returns false'. Refute it at one input. -/
def fnOverlapWrong : ChangeSpec := { name := "fnOverlap", fn := fun _ => fun
  | [d] => { results := [.lit (.bool false)], args := [d] }
  | _ => none }
def FnOverlapWrongFalsely : Prop := fnOverlapRow.holds Try.pinned (OpenSpec.ofChange fnOverlapWrong)

/-- 'laws.FnInside': WHATEVER THE INPUT: true; the input reads as it did. -/
def fnInsideSpec : ChangeSpec := { name := "fnInside", fn := fun _ => fun
  | [d] => { results := [.lit (.bool true)], args := [d] }
  | _ => none }
def fnInsideRow : OpenClaim := { program := "ytkhapajjbomknaa", sum := "dc7b3ce022f2110bf5c1f9ba20682c90d63e4bef5b2b6d4665fda358d70efa98", func := "loop.example/g00887/laws.FnInside", spec := "fnInside", apart := false }
def FnInsideSaid : Prop := fnInsideRow.holds Try.pinned (OpenSpec.ofChange fnInsideSpec)

/-- ITS FALSE NEIGHBOUR: 'it returns false'. Refute it at one input. -/
def fnInsideWrong : ChangeSpec := { name := "fnInside", fn := fun _ => fun
  | [d] => { results := [.lit (.bool false)], args := [d] }
  | _ => none }
def FnInsideWrongFalsely : Prop := fnInsideRow.holds Try.pinned (OpenSpec.ofChange fnInsideWrong)

/-- 'laws.FnWindward': WHATEVER THE INPUT: true; the input reads as it did. -/
def fnWindwardSpec : ChangeSpec := { name := "fnWindward", fn := fun _ => fun
  | [d] => { results := [.lit (.bool true)], args := [d] }
  | _ => none }
def fnWindwardRow : OpenClaim := { program := "ytkhapajjbomknaa", sum := "dc7b3ce022f2110bf5c1f9ba20682c90d63e4bef5b2b6d4665fda358d70efa98", func := "loop.example/g00887/laws.FnWindward", spec := "fnWindward", inPlace := ["math.sqrt"], apart := false }
def FnWindwardSaid : Prop := fnWindwardRow.holds Try.pinned (OpenSpec.ofChange fnWindwardSpec)

/-- ITS FALSE NEIGHBOUR: 'it returns false'. Refute it at one input. -/
def fnWindwardWrong : ChangeSpec := { name := "fnWindward", fn := fun _ => fun
  | [d] => { results := [.lit (.bool false)], args := [d] }
  | _ => none }
def FnWindwardWrongFalsely : Prop := fnWindwardRow.holds Try.pinned (OpenSpec.ofChange fnWindwardWrong)

/-- 'laws.FnGap': WHATEVER THE INPUT: true; the input reads as it did. -/
def fnGapSpec : ChangeSpec := { name := "fnGap", fn := fun _ => fun
  | [d] => { results := [.lit (.bool true)], args := [d] }
  | _ => none }
def fnGapRow : OpenClaim := { program := "ytkhapajjbomknaa", sum := "dc7b3ce022f2110bf5c1f9ba20682c90d63e4bef5b2b6d4665fda358d70efa98", func := "loop.example/g00887/laws.FnGap", spec := "fnGap", inPlace := ["math.sqrt"], apart := false }
def FnGapSaid : Prop := fnGapRow.holds Try.pinned (OpenSpec.ofChange fnGapSpec)

/-- ITS FALSE NEIGHBOUR: 'it returns false'. Refute it at one input. -/
def fnGapWrong : ChangeSpec := { name := "fnGap", fn := fun _ => fun
  | [d] => { results := [.lit (.bool false)], args := [d] }
  | _ => none }
def FnGapWrongFalsely : Prop := fnGapRow.holds Try.pinned (OpenSpec.ofChange fnGapWrong)

/-- 'laws.FnRoomOrder': WHATEVER THE INPUT: true; the input reads as it did. -/
def fnRoomOrderSpec : ChangeSpec := { name := "fnRoomOrder", fn := fun _ => fun
  | [d] => { results := [.lit (.bool true)], args := [d] }
  | _ => none }
def fnRoomOrderRow : OpenClaim := { program := "ytkhapajjbomknaa", sum := "dc7b3ce022f2110bf5c1f9ba20682c90d63e4bef5b2b6d4665fda358d70efa98", func := "loop.example/g00887/laws.FnRoomOrder", spec := "fnRoomOrder", apart := false }
def FnRoomOrderSaid : Prop := fnRoomOrderRow.holds Try.pinned (OpenSpec.ofChange fnRoomOrderSpec)

/-- ITS FALSE NEIGHBOUR: 'it returns false'. Refute it at one input. -/
def fnRoomOrderWrong : ChangeSpec := { name := "fnRoomOrder", fn := fun _ => fun
  | [d] => { results := [.lit (.bool false)], args := [d] }
  | _ => none }
def FnRoomOrderWrongFalsely : Prop := fnRoomOrderRow.holds Try.pinned (OpenSpec.ofChange fnRoomOrderWrong)

/-- 'laws.FnNear': WHATEVER THE INPUT: true; the input reads as it did. -/
def fnNearSpec : ChangeSpec := { name := "fnNear", fn := fun _ => fun
  | [d] => { results := [.lit (.bool true)], args := [d] }
  | _ => none }
def fnNearRow : OpenClaim := { program := "ytkhapajjbomknaa", sum := "dc7b3ce022f2110bf5c1f9ba20682c90d63e4bef5b2b6d4665fda358d70efa98", func := "loop.example/g00887/laws.FnNear", spec := "fnNear", inPlace := ["math.sqrt"], apart := false }
def FnNearSaid : Prop := fnNearRow.holds Try.pinned (OpenSpec.ofChange fnNearSpec)

/-- ITS FALSE NEIGHBOUR: 'it returns false'. Refute it at one input. -/
def fnNearWrong : ChangeSpec := { name := "fnNear", fn := fun _ => fun
  | [d] => { results := [.lit (.bool false)], args := [d] }
  | _ => none }
def FnNearWrongFalsely : Prop := fnNearRow.holds Try.pinned (OpenSpec.ofChange fnNearWrong)

/- THE SECOND FORM. 'bulk': how many values and letters a reading holds, each counted each time it is reached (what is shared counts as often as it is met; a slice's spare places count too). A statement '..UptoSaid' is the law's where the arguments, and the package variables that the reading takes, are together of bulk at most 1048576: NARROWER than '..Said'. Prove '..Said' where nothing that the law and all that it calls make is longer than what came in: it says more and counts as full. Else prove '..UptoSaid'. A law counts once. -/
mutual
def uptoBulk {H : Type} : DataW H → Nat
  | .lit (.string bytes) => bytes.length + 1
  | .lit _ => 1
  | .nil => 1
  | .ptr d => uptoBulk d + 1
  | .slice elems spare => uptoBulkAll elems + uptoBulkAll spare + 1
  | .agg parts => uptoBulkAll parts + 1
  | .iface _ d => uptoBulk d + 1
  | .map entries => uptoBulkEntries entries + 1
  | .held _ => 1
def uptoBulkAll {H : Type} : List (DataW H) → Nat
  | [] => 0
  | d :: r => uptoBulk d + uptoBulkAll r
def uptoBulkEntries {H : Type} : List (Lit × DataW H) → Nat
  | [] => 0
  | x :: r => uptoBulkEntry x + uptoBulkEntries r
def uptoBulkEntry {H : Type} : Lit × DataW H → Nat
  | (.string bytes, d) => bytes.length + uptoBulk d + 1
  | (_, d) => uptoBulk d + 1
 end
def uptoSmall : (H : Type) → List (DataW H) → Bool := fun _ ds => decide (uptoBulkAll ds ≤ 1048576)
def OpenSpec.upto (s : _root_.Go.ChangeSpec) : _root_.Go.OpenSpec := { _root_.Go.OpenSpec.ofChange s with cond := some uptoSmall }

/-- 'laws.FnTack', WHERE WHAT IT READS IS OF BULK AT MOST 1048576: true; the input reads as it did. -/
def fnTackUptoRow : OpenClaim := { program := "ytkhapajjbomknaa", sum := "dc7b3ce022f2110bf5c1f9ba20682c90d63e4bef5b2b6d4665fda358d70efa98", func := "loop.example/g00887/laws.FnTack", spec := "fnTack", apart := false, narrowed := true }
def FnTackUptoSaid : Prop := fnTackUptoRow.holds Try.pinned (OpenSpec.upto fnTackSpec)

/-- 'laws.FnOverlap', WHERE WHAT IT READS IS OF BULK AT MOST 1048576: true; the input reads as it did. -/
def fnOverlapUptoRow : OpenClaim := { program := "ytkhapajjbomknaa", sum := "dc7b3ce022f2110bf5c1f9ba20682c90d63e4bef5b2b6d4665fda358d70efa98", func := "loop.example/g00887/laws.FnOverlap", spec := "fnOverlap", apart := false, narrowed := true }
def FnOverlapUptoSaid : Prop := fnOverlapUptoRow.holds Try.pinned (OpenSpec.upto fnOverlapSpec)

/-- 'laws.FnInside', WHERE WHAT IT READS IS OF BULK AT MOST 1048576: true; the input reads as it did. -/
def fnInsideUptoRow : OpenClaim := { program := "ytkhapajjbomknaa", sum := "dc7b3ce022f2110bf5c1f9ba20682c90d63e4bef5b2b6d4665fda358d70efa98", func := "loop.example/g00887/laws.FnInside", spec := "fnInside", apart := false, narrowed := true }
def FnInsideUptoSaid : Prop := fnInsideUptoRow.holds Try.pinned (OpenSpec.upto fnInsideSpec)

/-- 'laws.FnWindward', WHERE WHAT IT READS IS OF BULK AT MOST 1048576: true; the input reads as it did. -/
def fnWindwardUptoRow : OpenClaim := { program := "ytkhapajjbomknaa", sum := "dc7b3ce022f2110bf5c1f9ba20682c90d63e4bef5b2b6d4665fda358d70efa98", func := "loop.example/g00887/laws.FnWindward", spec := "fnWindward", inPlace := ["math.sqrt"], apart := false, narrowed := true }
def FnWindwardUptoSaid : Prop := fnWindwardUptoRow.holds Try.pinned (OpenSpec.upto fnWindwardSpec)

/-- 'laws.FnGap', WHERE WHAT IT READS IS OF BULK AT MOST 1048576: true; the input reads as it did. -/
def fnGapUptoRow : OpenClaim := { program := "ytkhapajjbomknaa", sum := "dc7b3ce022f2110bf5c1f9ba20682c90d63e4bef5b2b6d4665fda358d70efa98", func := "loop.example/g00887/laws.FnGap", spec := "fnGap", inPlace := ["math.sqrt"], apart := false, narrowed := true }
def FnGapUptoSaid : Prop := fnGapUptoRow.holds Try.pinned (OpenSpec.upto fnGapSpec)

/-- 'laws.FnRoomOrder', WHERE WHAT IT READS IS OF BULK AT MOST 1048576: true; the input reads as it did. -/
def fnRoomOrderUptoRow : OpenClaim := { program := "ytkhapajjbomknaa", sum := "dc7b3ce022f2110bf5c1f9ba20682c90d63e4bef5b2b6d4665fda358d70efa98", func := "loop.example/g00887/laws.FnRoomOrder", spec := "fnRoomOrder", apart := false, narrowed := true }
def FnRoomOrderUptoSaid : Prop := fnRoomOrderUptoRow.holds Try.pinned (OpenSpec.upto fnRoomOrderSpec)

/-- 'laws.FnNear', WHERE WHAT IT READS IS OF BULK AT MOST 1048576: true; the input reads as it did. -/
def fnNearUptoRow : OpenClaim := { program := "ytkhapajjbomknaa", sum := "dc7b3ce022f2110bf5c1f9ba20682c90d63e4bef5b2b6d4665fda358d70efa98", func := "loop.example/g00887/laws.FnNear", spec := "fnNear", inPlace := ["math.sqrt"], apart := false, narrowed := true }
def FnNearUptoSaid : Prop := fnNearUptoRow.holds Try.pinned (OpenSpec.upto fnNearSpec)

end Rows
end Go.Proofs.Ytkhapajjbomknaa
