/-
  No cell of these rows narrows 'for every input' (looked for: loops, veiled, ifaces, maps, wideKeys, modest, calm, conditions, laid).
  DERIVED. THE GIVEN ROWS OF THIS SEAT. 28 by the template 'for every input the law returns true; each argument reads behind the call as it read before'; 0 by the template 'total and deterministic' (their statements: YtlnbieedgjmgnaaTotals.lean).
  GIVEN WITH THE SEED: the statements are not yours to turn. If you find one false, say at which input.
  Laid BY PROGRAM, IN A SANDBOX (cutbox-rows.mjs): the forced cells as the released guide's own fill.sh prints them over the translation 9e743bf8ab63c054… (all of the seat's roots in one cut). By AI agents, Wed Nov 11 2026. No macro, syntax, notation, axiom, sorry.
-/
import Derived.Test.YtlnbieedgjmgnaaChecked
import GoSem.Claim
import GoSem.ClaimJoined
import GoSem.ClaimMapViews
import Derived.JoinedTies
import Derived.KernelRfl
namespace Go.Proofs.Ytlnbieedgjmgnaa
/- THE CELL 'sum', in the pinned program and in every row, IS THE sha256 OF THE DUMP (.gsa) THAT YtlnbieedgjmgnaaProg.lean LOADS. Nothing in Lean hashes anything: it is a label: what it is worth is what the hold of that sum in a sandbox is worth. -/
noncomputable def Try.pinned : Pinned := { name := "ytlnbieedgjmgnaa", sum := "9e743bf8ab63c0541fff9830e8e21dbb346403f9e402c116b850aa692e33fe3f", checked := Try.checked }
namespace Rows
def none {H : Type} : Left H := { results := [], args := [] }

/-- 'laws.FnExactInsideBoat': WHATEVER THE INPUT: true; the input reads as it did. -/
def fnExactInsideBoatSpec : ChangeSpec := { name := "fnExactInsideBoat", fn := fun _ => fun
  | [d1, d2, d3] => { results := [.lit (.bool true)], args := [d1, d2, d3] }
  | _ => none }
def fnExactInsideBoatRow : OpenClaim := { program := "ytlnbieedgjmgnaa", sum := "9e743bf8ab63c0541fff9830e8e21dbb346403f9e402c116b850aa692e33fe3f", func := "loop.example/g00887/laws.FnExactInsideBoat", spec := "fnExactInsideBoat", apart := false }
def FnExactInsideBoatSaid : Prop := fnExactInsideBoatRow.holds Try.pinned (OpenSpec.ofChange fnExactInsideBoatSpec)

/-- ITS FALSE NEIGHBOUR: 'it returns false'. Refute it at one input. -/
def fnExactInsideBoatWrong : ChangeSpec := { name := "fnExactInsideBoat", fn := fun _ => fun
  | [d1, d2, d3] => { results := [.lit (.bool false)], args := [d1, d2, d3] }
  | _ => none }
def FnExactInsideBoatWrongFalsely : Prop := fnExactInsideBoatRow.holds Try.pinned (OpenSpec.ofChange fnExactInsideBoatWrong)

/-- 'laws.FnExactWindwardBoat': WHATEVER THE INPUT: true; the input reads as it did. -/
def fnExactWindwardBoatSpec : ChangeSpec := { name := "fnExactWindwardBoat", fn := fun _ => fun
  | [d1, d2] => { results := [.lit (.bool true)], args := [d1, d2] }
  | _ => none }
def fnExactWindwardBoatRow : OpenClaim := { program := "ytlnbieedgjmgnaa", sum := "9e743bf8ab63c0541fff9830e8e21dbb346403f9e402c116b850aa692e33fe3f", func := "loop.example/g00887/laws.FnExactWindwardBoat", spec := "fnExactWindwardBoat", apart := false }
def FnExactWindwardBoatSaid : Prop := fnExactWindwardBoatRow.holds Try.pinned (OpenSpec.ofChange fnExactWindwardBoatSpec)

/-- ITS FALSE NEIGHBOUR: 'it returns false'. Refute it at one input. -/
def fnExactWindwardBoatWrong : ChangeSpec := { name := "fnExactWindwardBoat", fn := fun _ => fun
  | [d1, d2] => { results := [.lit (.bool false)], args := [d1, d2] }
  | _ => none }
def FnExactWindwardBoatWrongFalsely : Prop := fnExactWindwardBoatRow.holds Try.pinned (OpenSpec.ofChange fnExactWindwardBoatWrong)

/-- 'laws.FnTack': WHATEVER THE INPUT: true; the input reads as it did. -/
def fnTackSpec : ChangeSpec := { name := "fnTack", fn := fun _ => fun
  | [d] => { results := [.lit (.bool true)], args := [d] }
  | _ => none }
def fnTackRow : OpenClaim := { program := "ytlnbieedgjmgnaa", sum := "9e743bf8ab63c0541fff9830e8e21dbb346403f9e402c116b850aa692e33fe3f", func := "loop.example/g00887/laws.FnTack", spec := "fnTack", apart := false }
def FnTackSaid : Prop := fnTackRow.holds Try.pinned (OpenSpec.ofChange fnTackSpec)

/-- ITS FALSE NEIGHBOUR: 'it returns false'. Refute it at one input. -/
def fnTackWrong : ChangeSpec := { name := "fnTack", fn := fun _ => fun
  | [d] => { results := [.lit (.bool false)], args := [d] }
  | _ => none }
def FnTackWrongFalsely : Prop := fnTackRow.holds Try.pinned (OpenSpec.ofChange fnTackWrong)

/-- 'laws.FnExactClearAstern': WHATEVER THE INPUT: true; the input reads as it did. -/
def fnExactClearAsternSpec : ChangeSpec := { name := "fnExactClearAstern", fn := fun _ => fun
  | [d1, d2] => { results := [.lit (.bool true)], args := [d1, d2] }
  | _ => none }
def fnExactClearAsternRow : OpenClaim := { program := "ytlnbieedgjmgnaa", sum := "9e743bf8ab63c0541fff9830e8e21dbb346403f9e402c116b850aa692e33fe3f", func := "loop.example/g00887/laws.FnExactClearAstern", spec := "fnExactClearAstern", apart := false }
def FnExactClearAsternSaid : Prop := fnExactClearAsternRow.holds Try.pinned (OpenSpec.ofChange fnExactClearAsternSpec)

/-- ITS FALSE NEIGHBOUR: 'it returns false'. Refute it at one input. -/
def fnExactClearAsternWrong : ChangeSpec := { name := "fnExactClearAstern", fn := fun _ => fun
  | [d1, d2] => { results := [.lit (.bool false)], args := [d1, d2] }
  | _ => none }
def FnExactClearAsternWrongFalsely : Prop := fnExactClearAsternRow.holds Try.pinned (OpenSpec.ofChange fnExactClearAsternWrong)

/-- 'laws.FnExactOverlapOf': WHATEVER THE INPUT: true; the input reads as it did. -/
def fnExactOverlapOfSpec : ChangeSpec := { name := "fnExactOverlapOf", fn := fun _ => fun
  | [d1, d2] => { results := [.lit (.bool true)], args := [d1, d2] }
  | _ => none }
def fnExactOverlapOfRow : OpenClaim := { program := "ytlnbieedgjmgnaa", sum := "9e743bf8ab63c0541fff9830e8e21dbb346403f9e402c116b850aa692e33fe3f", func := "loop.example/g00887/laws.FnExactOverlapOf", spec := "fnExactOverlapOf", apart := false }
def FnExactOverlapOfSaid : Prop := fnExactOverlapOfRow.holds Try.pinned (OpenSpec.ofChange fnExactOverlapOfSpec)

/-- ITS FALSE NEIGHBOUR: 'it returns false'. Refute it at one input. -/
def fnExactOverlapOfWrong : ChangeSpec := { name := "fnExactOverlapOf", fn := fun _ => fun
  | [d1, d2] => { results := [.lit (.bool false)], args := [d1, d2] }
  | _ => none }
def FnExactOverlapOfWrongFalsely : Prop := fnExactOverlapOfRow.holds Try.pinned (OpenSpec.ofChange fnExactOverlapOfWrong)

/-- 'laws.FnExactWindwardGain': WHATEVER THE INPUT: true; the input reads as it did. -/
def fnExactWindwardGainSpec : ChangeSpec := { name := "fnExactWindwardGain", fn := fun _ => fun
  | [d1, d2, d3] => { results := [.lit (.bool true)], args := [d1, d2, d3] }
  | _ => none }
def fnExactWindwardGainRow : OpenClaim := { program := "ytlnbieedgjmgnaa", sum := "9e743bf8ab63c0541fff9830e8e21dbb346403f9e402c116b850aa692e33fe3f", func := "loop.example/g00887/laws.FnExactWindwardGain", spec := "fnExactWindwardGain", inPlace := ["math.sqrt"], apart := false }
def FnExactWindwardGainSaid : Prop := fnExactWindwardGainRow.holds Try.pinned (OpenSpec.ofChange fnExactWindwardGainSpec)

/-- ITS FALSE NEIGHBOUR: 'it returns false'. Refute it at one input. -/
def fnExactWindwardGainWrong : ChangeSpec := { name := "fnExactWindwardGain", fn := fun _ => fun
  | [d1, d2, d3] => { results := [.lit (.bool false)], args := [d1, d2, d3] }
  | _ => none }
def FnExactWindwardGainWrongFalsely : Prop := fnExactWindwardGainRow.holds Try.pinned (OpenSpec.ofChange fnExactWindwardGainWrong)

/-- 'laws.FnExactGapBehind': WHATEVER THE INPUT: true; the input reads as it did. -/
def fnExactGapBehindSpec : ChangeSpec := { name := "fnExactGapBehind", fn := fun _ => fun
  | [d1, d2] => { results := [.lit (.bool true)], args := [d1, d2] }
  | _ => none }
def fnExactGapBehindRow : OpenClaim := { program := "ytlnbieedgjmgnaa", sum := "9e743bf8ab63c0541fff9830e8e21dbb346403f9e402c116b850aa692e33fe3f", func := "loop.example/g00887/laws.FnExactGapBehind", spec := "fnExactGapBehind", inPlace := ["math.sqrt"], apart := false }
def FnExactGapBehindSaid : Prop := fnExactGapBehindRow.holds Try.pinned (OpenSpec.ofChange fnExactGapBehindSpec)

/-- ITS FALSE NEIGHBOUR: 'it returns false'. Refute it at one input. -/
def fnExactGapBehindWrong : ChangeSpec := { name := "fnExactGapBehind", fn := fun _ => fun
  | [d1, d2] => { results := [.lit (.bool false)], args := [d1, d2] }
  | _ => none }
def FnExactGapBehindWrongFalsely : Prop := fnExactGapBehindRow.holds Try.pinned (OpenSpec.ofChange fnExactGapBehindWrong)

/-- 'laws.FnExactSternOf': WHATEVER THE INPUT: true; the input reads as it did. -/
def fnExactSternOfSpec : ChangeSpec := { name := "fnExactSternOf", fn := fun _ => fun
  | [d] => { results := [.lit (.bool true)], args := [d] }
  | _ => none }
def fnExactSternOfRow : OpenClaim := { program := "ytlnbieedgjmgnaa", sum := "9e743bf8ab63c0541fff9830e8e21dbb346403f9e402c116b850aa692e33fe3f", func := "loop.example/g00887/laws.FnExactSternOf", spec := "fnExactSternOf", inPlace := ["math.sqrt"], apart := false }
def FnExactSternOfSaid : Prop := fnExactSternOfRow.holds Try.pinned (OpenSpec.ofChange fnExactSternOfSpec)

/-- ITS FALSE NEIGHBOUR: 'it returns false'. Refute it at one input. -/
def fnExactSternOfWrong : ChangeSpec := { name := "fnExactSternOf", fn := fun _ => fun
  | [d] => { results := [.lit (.bool false)], args := [d] }
  | _ => none }
def FnExactSternOfWrongFalsely : Prop := fnExactSternOfRow.holds Try.pinned (OpenSpec.ofChange fnExactSternOfWrong)

/-- 'laws.FnOverlap': WHATEVER THE INPUT: true; the input reads as it did. -/
def fnOverlapSpec : ChangeSpec := { name := "fnOverlap", fn := fun _ => fun
  | [d] => { results := [.lit (.bool true)], args := [d] }
  | _ => none }
def fnOverlapRow : OpenClaim := { program := "ytlnbieedgjmgnaa", sum := "9e743bf8ab63c0541fff9830e8e21dbb346403f9e402c116b850aa692e33fe3f", func := "loop.example/g00887/laws.FnOverlap", spec := "fnOverlap", apart := false }
def FnOverlapSaid : Prop := fnOverlapRow.holds Try.pinned (OpenSpec.ofChange fnOverlapSpec)

/-- ITS FALSE NEIGHBOUR: 'it returns false'. Refute it at one input. -/
def fnOverlapWrong : ChangeSpec := { name := "fnOverlap", fn := fun _ => fun
  | [d] => { results := [.lit (.bool false)], args := [d] }
  | _ => none }
def FnOverlapWrongFalsely : Prop := fnOverlapRow.holds Try.pinned (OpenSpec.ofChange fnOverlapWrong)

/-- 'laws.FnExactTackAt': WHATEVER THE INPUT: true; the input reads as it did. -/
def fnExactTackAtSpec : ChangeSpec := { name := "fnExactTackAt", fn := fun _ => fun
  | [d1, d2, d3] => { results := [.lit (.bool true)], args := [d1, d2, d3] }
  | _ => none }
def fnExactTackAtRow : OpenClaim := { program := "ytlnbieedgjmgnaa", sum := "9e743bf8ab63c0541fff9830e8e21dbb346403f9e402c116b850aa692e33fe3f", func := "loop.example/g00887/laws.FnExactTackAt", spec := "fnExactTackAt", apart := false }
def FnExactTackAtSaid : Prop := fnExactTackAtRow.holds Try.pinned (OpenSpec.ofChange fnExactTackAtSpec)

/-- ITS FALSE NEIGHBOUR: 'it returns false'. Refute it at one input. -/
def fnExactTackAtWrong : ChangeSpec := { name := "fnExactTackAt", fn := fun _ => fun
  | [d1, d2, d3] => { results := [.lit (.bool false)], args := [d1, d2, d3] }
  | _ => none }
def FnExactTackAtWrongFalsely : Prop := fnExactTackAtRow.holds Try.pinned (OpenSpec.ofChange fnExactTackAtWrong)

/-- 'laws.FnInside': WHATEVER THE INPUT: true; the input reads as it did. -/
def fnInsideSpec : ChangeSpec := { name := "fnInside", fn := fun _ => fun
  | [d] => { results := [.lit (.bool true)], args := [d] }
  | _ => none }
def fnInsideRow : OpenClaim := { program := "ytlnbieedgjmgnaa", sum := "9e743bf8ab63c0541fff9830e8e21dbb346403f9e402c116b850aa692e33fe3f", func := "loop.example/g00887/laws.FnInside", spec := "fnInside", apart := false }
def FnInsideSaid : Prop := fnInsideRow.holds Try.pinned (OpenSpec.ofChange fnInsideSpec)

/-- ITS FALSE NEIGHBOUR: 'it returns false'. Refute it at one input. -/
def fnInsideWrong : ChangeSpec := { name := "fnInside", fn := fun _ => fun
  | [d] => { results := [.lit (.bool false)], args := [d] }
  | _ => none }
def FnInsideWrongFalsely : Prop := fnInsideRow.holds Try.pinned (OpenSpec.ofChange fnInsideWrong)

/-- 'laws.FnExactHullAt': WHATEVER THE INPUT: true; the input reads as it did. -/
def fnExactHullAtSpec : ChangeSpec := { name := "fnExactHullAt", fn := fun _ => fun
  | [d1, d2, d3] => { results := [.lit (.bool true)], args := [d1, d2, d3] }
  | _ => none }
def fnExactHullAtRow : OpenClaim := { program := "ytlnbieedgjmgnaa", sum := "9e743bf8ab63c0541fff9830e8e21dbb346403f9e402c116b850aa692e33fe3f", func := "loop.example/g00887/laws.FnExactHullAt", spec := "fnExactHullAt", apart := false }
def FnExactHullAtSaid : Prop := fnExactHullAtRow.holds Try.pinned (OpenSpec.ofChange fnExactHullAtSpec)

/-- ITS FALSE NEIGHBOUR: 'it returns false'. Refute it at one input. -/
def fnExactHullAtWrong : ChangeSpec := { name := "fnExactHullAt", fn := fun _ => fun
  | [d1, d2, d3] => { results := [.lit (.bool false)], args := [d1, d2, d3] }
  | _ => none }
def FnExactHullAtWrongFalsely : Prop := fnExactHullAtRow.holds Try.pinned (OpenSpec.ofChange fnExactHullAtWrong)

/-- 'laws.FnWindward': WHATEVER THE INPUT: true; the input reads as it did. -/
def fnWindwardSpec : ChangeSpec := { name := "fnWindward", fn := fun _ => fun
  | [d] => { results := [.lit (.bool true)], args := [d] }
  | _ => none }
def fnWindwardRow : OpenClaim := { program := "ytlnbieedgjmgnaa", sum := "9e743bf8ab63c0541fff9830e8e21dbb346403f9e402c116b850aa692e33fe3f", func := "loop.example/g00887/laws.FnWindward", spec := "fnWindward", inPlace := ["math.sqrt"], apart := false }
def FnWindwardSaid : Prop := fnWindwardRow.holds Try.pinned (OpenSpec.ofChange fnWindwardSpec)

/-- ITS FALSE NEIGHBOUR: 'it returns false'. Refute it at one input. -/
def fnWindwardWrong : ChangeSpec := { name := "fnWindward", fn := fun _ => fun
  | [d] => { results := [.lit (.bool false)], args := [d] }
  | _ => none }
def FnWindwardWrongFalsely : Prop := fnWindwardRow.holds Try.pinned (OpenSpec.ofChange fnWindwardWrong)

/-- 'laws.FnGap': WHATEVER THE INPUT: true; the input reads as it did. -/
def fnGapSpec : ChangeSpec := { name := "fnGap", fn := fun _ => fun
  | [d] => { results := [.lit (.bool true)], args := [d] }
  | _ => none }
def fnGapRow : OpenClaim := { program := "ytlnbieedgjmgnaa", sum := "9e743bf8ab63c0541fff9830e8e21dbb346403f9e402c116b850aa692e33fe3f", func := "loop.example/g00887/laws.FnGap", spec := "fnGap", inPlace := ["math.sqrt"], apart := false }
def FnGapSaid : Prop := fnGapRow.holds Try.pinned (OpenSpec.ofChange fnGapSpec)

/-- ITS FALSE NEIGHBOUR: 'it returns false'. Refute it at one input. -/
def fnGapWrong : ChangeSpec := { name := "fnGap", fn := fun _ => fun
  | [d] => { results := [.lit (.bool false)], args := [d] }
  | _ => none }
def FnGapWrongFalsely : Prop := fnGapRow.holds Try.pinned (OpenSpec.ofChange fnGapWrong)

/-- 'laws.FnExactRuleOn': WHATEVER THE INPUT: true; the input reads as it did. -/
def fnExactRuleOnSpec : ChangeSpec := { name := "fnExactRuleOn", fn := fun _ => fun
  | [d1, d2, d3] => { results := [.lit (.bool true)], args := [d1, d2, d3] }
  | _ => none }
def fnExactRuleOnRow : OpenClaim := { program := "ytlnbieedgjmgnaa", sum := "9e743bf8ab63c0541fff9830e8e21dbb346403f9e402c116b850aa692e33fe3f", func := "loop.example/g00887/laws.FnExactRuleOn", spec := "fnExactRuleOn", apart := false }
def FnExactRuleOnSaid : Prop := fnExactRuleOnRow.holds Try.pinned (OpenSpec.ofChange fnExactRuleOnSpec)

/-- ITS FALSE NEIGHBOUR: 'it returns false'. Refute it at one input. -/
def fnExactRuleOnWrong : ChangeSpec := { name := "fnExactRuleOn", fn := fun _ => fun
  | [d1, d2, d3] => { results := [.lit (.bool false)], args := [d1, d2, d3] }
  | _ => none }
def FnExactRuleOnWrongFalsely : Prop := fnExactRuleOnRow.holds Try.pinned (OpenSpec.ofChange fnExactRuleOnWrong)

/-- 'laws.FnExactRoomBetween': WHATEVER THE INPUT: true; the input reads as it did. -/
def fnExactRoomBetweenSpec : ChangeSpec := { name := "fnExactRoomBetween", fn := fun _ => fun
  | [d1, d2, d3, d4] => { results := [.lit (.bool true)], args := [d1, d2, d3, d4] }
  | _ => none }
def fnExactRoomBetweenRow : OpenClaim := { program := "ytlnbieedgjmgnaa", sum := "9e743bf8ab63c0541fff9830e8e21dbb346403f9e402c116b850aa692e33fe3f", func := "loop.example/g00887/laws.FnExactRoomBetween", spec := "fnExactRoomBetween", apart := false }
def FnExactRoomBetweenSaid : Prop := fnExactRoomBetweenRow.holds Try.pinned (OpenSpec.ofChange fnExactRoomBetweenSpec)

/-- ITS FALSE NEIGHBOUR: 'it returns false'. Refute it at one input. -/
def fnExactRoomBetweenWrong : ChangeSpec := { name := "fnExactRoomBetween", fn := fun _ => fun
  | [d1, d2, d3, d4] => { results := [.lit (.bool false)], args := [d1, d2, d3, d4] }
  | _ => none }
def FnExactRoomBetweenWrongFalsely : Prop := fnExactRoomBetweenRow.holds Try.pinned (OpenSpec.ofChange fnExactRoomBetweenWrong)

/-- 'laws.FnExactHullsNear': WHATEVER THE INPUT: true; the input reads as it did. -/
def fnExactHullsNearSpec : ChangeSpec := { name := "fnExactHullsNear", fn := fun _ => fun
  | [d1, d2, d3] => { results := [.lit (.bool true)], args := [d1, d2, d3] }
  | _ => none }
def fnExactHullsNearRow : OpenClaim := { program := "ytlnbieedgjmgnaa", sum := "9e743bf8ab63c0541fff9830e8e21dbb346403f9e402c116b850aa692e33fe3f", func := "loop.example/g00887/laws.FnExactHullsNear", spec := "fnExactHullsNear", inPlace := ["math.sqrt"], apart := false }
def FnExactHullsNearSaid : Prop := fnExactHullsNearRow.holds Try.pinned (OpenSpec.ofChange fnExactHullsNearSpec)

/-- ITS FALSE NEIGHBOUR: 'it returns false'. Refute it at one input. -/
def fnExactHullsNearWrong : ChangeSpec := { name := "fnExactHullsNear", fn := fun _ => fun
  | [d1, d2, d3] => { results := [.lit (.bool false)], args := [d1, d2, d3] }
  | _ => none }
def FnExactHullsNearWrongFalsely : Prop := fnExactHullsNearRow.holds Try.pinned (OpenSpec.ofChange fnExactHullsNearWrong)

/-- 'laws.FnExactTurningAt': WHATEVER THE INPUT: true; the input reads as it did. -/
def fnExactTurningAtSpec : ChangeSpec := { name := "fnExactTurningAt", fn := fun _ => fun
  | [d1, d2, d3, d4] => { results := [.lit (.bool true)], args := [d1, d2, d3, d4] }
  | _ => none }
def fnExactTurningAtRow : OpenClaim := { program := "ytlnbieedgjmgnaa", sum := "9e743bf8ab63c0541fff9830e8e21dbb346403f9e402c116b850aa692e33fe3f", func := "loop.example/g00887/laws.FnExactTurningAt", spec := "fnExactTurningAt", inPlace := ["math.sqrt"], apart := false }
def FnExactTurningAtSaid : Prop := fnExactTurningAtRow.holds Try.pinned (OpenSpec.ofChange fnExactTurningAtSpec)

/-- ITS FALSE NEIGHBOUR: 'it returns false'. Refute it at one input. -/
def fnExactTurningAtWrong : ChangeSpec := { name := "fnExactTurningAt", fn := fun _ => fun
  | [d1, d2, d3, d4] => { results := [.lit (.bool false)], args := [d1, d2, d3, d4] }
  | _ => none }
def FnExactTurningAtWrongFalsely : Prop := fnExactTurningAtRow.holds Try.pinned (OpenSpec.ofChange fnExactTurningAtWrong)

/-- 'laws.FnRoomOrder': WHATEVER THE INPUT: true; the input reads as it did. -/
def fnRoomOrderSpec : ChangeSpec := { name := "fnRoomOrder", fn := fun _ => fun
  | [d] => { results := [.lit (.bool true)], args := [d] }
  | _ => none }
def fnRoomOrderRow : OpenClaim := { program := "ytlnbieedgjmgnaa", sum := "9e743bf8ab63c0541fff9830e8e21dbb346403f9e402c116b850aa692e33fe3f", func := "loop.example/g00887/laws.FnRoomOrder", spec := "fnRoomOrder", apart := false }
def FnRoomOrderSaid : Prop := fnRoomOrderRow.holds Try.pinned (OpenSpec.ofChange fnRoomOrderSpec)

/-- ITS FALSE NEIGHBOUR: 'it returns false'. Refute it at one input. -/
def fnRoomOrderWrong : ChangeSpec := { name := "fnRoomOrder", fn := fun _ => fun
  | [d] => { results := [.lit (.bool false)], args := [d] }
  | _ => none }
def FnRoomOrderWrongFalsely : Prop := fnRoomOrderRow.holds Try.pinned (OpenSpec.ofChange fnRoomOrderWrong)

/-- 'laws.FnManoeuvres': WHATEVER THE INPUT: true; the input reads as it did. -/
def fnManoeuvresSpec : ChangeSpec := { name := "fnManoeuvres", fn := fun _ => fun
  | [d] => { results := [.lit (.bool true)], args := [d] }
  | _ => none }
def fnManoeuvresRow : OpenClaim := { program := "ytlnbieedgjmgnaa", sum := "9e743bf8ab63c0541fff9830e8e21dbb346403f9e402c116b850aa692e33fe3f", func := "loop.example/g00887/laws.FnManoeuvres", spec := "fnManoeuvres", inPlace := ["math.sqrt"], apart := false }
def FnManoeuvresSaid : Prop := fnManoeuvresRow.holds Try.pinned (OpenSpec.ofChange fnManoeuvresSpec)

/-- ITS FALSE NEIGHBOUR: 'it returns false'. Refute it at one input. -/
def fnManoeuvresWrong : ChangeSpec := { name := "fnManoeuvres", fn := fun _ => fun
  | [d] => { results := [.lit (.bool false)], args := [d] }
  | _ => none }
def FnManoeuvresWrongFalsely : Prop := fnManoeuvresRow.holds Try.pinned (OpenSpec.ofChange fnManoeuvresWrong)

/-- 'laws.FnExactManoeuvresOf': WHATEVER THE INPUT: true; the input reads as it did. -/
def fnExactManoeuvresOfSpec : ChangeSpec := { name := "fnExactManoeuvresOf", fn := fun _ => fun
  | [d1, d2] => { results := [.lit (.bool true)], args := [d1, d2] }
  | _ => none }
def fnExactManoeuvresOfRow : OpenClaim := { program := "ytlnbieedgjmgnaa", sum := "9e743bf8ab63c0541fff9830e8e21dbb346403f9e402c116b850aa692e33fe3f", func := "loop.example/g00887/laws.FnExactManoeuvresOf", spec := "fnExactManoeuvresOf", inPlace := ["math.sqrt"], apart := false }
def FnExactManoeuvresOfSaid : Prop := fnExactManoeuvresOfRow.holds Try.pinned (OpenSpec.ofChange fnExactManoeuvresOfSpec)

/-- ITS FALSE NEIGHBOUR: 'it returns false'. Refute it at one input. -/
def fnExactManoeuvresOfWrong : ChangeSpec := { name := "fnExactManoeuvresOf", fn := fun _ => fun
  | [d1, d2] => { results := [.lit (.bool false)], args := [d1, d2] }
  | _ => none }
def FnExactManoeuvresOfWrongFalsely : Prop := fnExactManoeuvresOfRow.holds Try.pinned (OpenSpec.ofChange fnExactManoeuvresOfWrong)

/-- 'laws.FnTurning': WHATEVER THE INPUT: true; the input reads as it did. -/
def fnTurningSpec : ChangeSpec := { name := "fnTurning", fn := fun _ => fun
  | [d] => { results := [.lit (.bool true)], args := [d] }
  | _ => none }
def fnTurningRow : OpenClaim := { program := "ytlnbieedgjmgnaa", sum := "9e743bf8ab63c0541fff9830e8e21dbb346403f9e402c116b850aa692e33fe3f", func := "loop.example/g00887/laws.FnTurning", spec := "fnTurning", inPlace := ["math.sqrt"], apart := false }
def FnTurningSaid : Prop := fnTurningRow.holds Try.pinned (OpenSpec.ofChange fnTurningSpec)

/-- ITS FALSE NEIGHBOUR: 'it returns false'. Refute it at one input. -/
def fnTurningWrong : ChangeSpec := { name := "fnTurning", fn := fun _ => fun
  | [d] => { results := [.lit (.bool false)], args := [d] }
  | _ => none }
def FnTurningWrongFalsely : Prop := fnTurningRow.holds Try.pinned (OpenSpec.ofChange fnTurningWrong)

/-- 'laws.FnNear': WHATEVER THE INPUT: true; the input reads as it did. -/
def fnNearSpec : ChangeSpec := { name := "fnNear", fn := fun _ => fun
  | [d] => { results := [.lit (.bool true)], args := [d] }
  | _ => none }
def fnNearRow : OpenClaim := { program := "ytlnbieedgjmgnaa", sum := "9e743bf8ab63c0541fff9830e8e21dbb346403f9e402c116b850aa692e33fe3f", func := "loop.example/g00887/laws.FnNear", spec := "fnNear", inPlace := ["math.sqrt"], apart := false }
def FnNearSaid : Prop := fnNearRow.holds Try.pinned (OpenSpec.ofChange fnNearSpec)

/-- ITS FALSE NEIGHBOUR: 'it returns false'. Refute it at one input. -/
def fnNearWrong : ChangeSpec := { name := "fnNear", fn := fun _ => fun
  | [d] => { results := [.lit (.bool false)], args := [d] }
  | _ => none }
def FnNearWrongFalsely : Prop := fnNearRow.holds Try.pinned (OpenSpec.ofChange fnNearWrong)

/-- 'laws.FnKeepClear': WHATEVER THE INPUT: true; the input reads as it did. -/
def fnKeepClearSpec : ChangeSpec := { name := "fnKeepClear", fn := fun _ => fun
  | [d] => { results := [.lit (.bool true)], args := [d] }
  | _ => none }
def fnKeepClearRow : OpenClaim := { program := "ytlnbieedgjmgnaa", sum := "9e743bf8ab63c0541fff9830e8e21dbb346403f9e402c116b850aa692e33fe3f", func := "loop.example/g00887/laws.FnKeepClear", spec := "fnKeepClear", apart := false }
def FnKeepClearSaid : Prop := fnKeepClearRow.holds Try.pinned (OpenSpec.ofChange fnKeepClearSpec)

/-- ITS FALSE NEIGHBOUR: 'it returns false'. Refute it at one input. -/
def fnKeepClearWrong : ChangeSpec := { name := "fnKeepClear", fn := fun _ => fun
  | [d] => { results := [.lit (.bool false)], args := [d] }
  | _ => none }
def FnKeepClearWrongFalsely : Prop := fnKeepClearRow.holds Try.pinned (OpenSpec.ofChange fnKeepClearWrong)

/-- 'laws.FnExactKeepClearTable': WHATEVER THE INPUT: true; the input reads as it did. -/
def fnExactKeepClearTableSpec : ChangeSpec := { name := "fnExactKeepClearTable", fn := fun _ => fun
  | [d1, d2] => { results := [.lit (.bool true)], args := [d1, d2] }
  | _ => none }
def fnExactKeepClearTableRow : OpenClaim := { program := "ytlnbieedgjmgnaa", sum := "9e743bf8ab63c0541fff9830e8e21dbb346403f9e402c116b850aa692e33fe3f", func := "loop.example/g00887/laws.FnExactKeepClearTable", spec := "fnExactKeepClearTable", apart := false }
def FnExactKeepClearTableSaid : Prop := fnExactKeepClearTableRow.holds Try.pinned (OpenSpec.ofChange fnExactKeepClearTableSpec)

/-- ITS FALSE NEIGHBOUR: 'it returns false'. Refute it at one input. -/
def fnExactKeepClearTableWrong : ChangeSpec := { name := "fnExactKeepClearTable", fn := fun _ => fun
  | [d1, d2] => { results := [.lit (.bool false)], args := [d1, d2] }
  | _ => none }
def FnExactKeepClearTableWrongFalsely : Prop := fnExactKeepClearTableRow.holds Try.pinned (OpenSpec.ofChange fnExactKeepClearTableWrong)

/-- 'laws.FnExactBoatAt': WHATEVER THE INPUT: true; the input reads as it did. -/
def fnExactBoatAtSpec : ChangeSpec := { name := "fnExactBoatAt", fn := fun _ => fun
  | [d1, d2, d3, d4, d5] => { results := [.lit (.bool true)], args := [d1, d2, d3, d4, d5] }
  | _ => none }
def fnExactBoatAtRow : OpenClaim := { program := "ytlnbieedgjmgnaa", sum := "9e743bf8ab63c0541fff9830e8e21dbb346403f9e402c116b850aa692e33fe3f", func := "loop.example/g00887/laws.FnExactBoatAt", spec := "fnExactBoatAt", inPlace := ["math.sqrt"], apart := false }
def FnExactBoatAtSaid : Prop := fnExactBoatAtRow.holds Try.pinned (OpenSpec.ofChange fnExactBoatAtSpec)

/-- ITS FALSE NEIGHBOUR: 'it returns false'. Refute it at one input. -/
def fnExactBoatAtWrong : ChangeSpec := { name := "fnExactBoatAt", fn := fun _ => fun
  | [d1, d2, d3, d4, d5] => { results := [.lit (.bool false)], args := [d1, d2, d3, d4, d5] }
  | _ => none }
def FnExactBoatAtWrongFalsely : Prop := fnExactBoatAtRow.holds Try.pinned (OpenSpec.ofChange fnExactBoatAtWrong)

/-- 'laws.FnExactRuleAt': WHATEVER THE INPUT: true; the input reads as it did. -/
def fnExactRuleAtSpec : ChangeSpec := { name := "fnExactRuleAt", fn := fun _ => fun
  | [d1, d2, d3, d4, d5, d6] => { results := [.lit (.bool true)], args := [d1, d2, d3, d4, d5, d6] }
  | _ => none }
def fnExactRuleAtRow : OpenClaim := { program := "ytlnbieedgjmgnaa", sum := "9e743bf8ab63c0541fff9830e8e21dbb346403f9e402c116b850aa692e33fe3f", func := "loop.example/g00887/laws.FnExactRuleAt", spec := "fnExactRuleAt", inPlace := ["math.sqrt"], apart := false }
def FnExactRuleAtSaid : Prop := fnExactRuleAtRow.holds Try.pinned (OpenSpec.ofChange fnExactRuleAtSpec)

/-- ITS FALSE NEIGHBOUR: 'it returns false'. Refute it at one input. -/
def fnExactRuleAtWrong : ChangeSpec := { name := "fnExactRuleAt", fn := fun _ => fun
  | [d1, d2, d3, d4, d5, d6] => { results := [.lit (.bool false)], args := [d1, d2, d3, d4, d5, d6] }
  | _ => none }
def FnExactRuleAtWrongFalsely : Prop := fnExactRuleAtRow.holds Try.pinned (OpenSpec.ofChange fnExactRuleAtWrong)

/-- 'laws.FnRuleAt': WHATEVER THE INPUT: true; the input reads as it did. -/
def fnRuleAtSpec : ChangeSpec := { name := "fnRuleAt", fn := fun _ => fun
  | [d] => { results := [.lit (.bool true)], args := [d] }
  | _ => none }
def fnRuleAtRow : OpenClaim := { program := "ytlnbieedgjmgnaa", sum := "9e743bf8ab63c0541fff9830e8e21dbb346403f9e402c116b850aa692e33fe3f", func := "loop.example/g00887/laws.FnRuleAt", spec := "fnRuleAt", inPlace := ["math.sqrt"], apart := false }
def FnRuleAtSaid : Prop := fnRuleAtRow.holds Try.pinned (OpenSpec.ofChange fnRuleAtSpec)

/-- ITS FALSE NEIGHBOUR: 'it returns false'. Refute it at one input. -/
def fnRuleAtWrong : ChangeSpec := { name := "fnRuleAt", fn := fun _ => fun
  | [d] => { results := [.lit (.bool false)], args := [d] }
  | _ => none }
def FnRuleAtWrongFalsely : Prop := fnRuleAtRow.holds Try.pinned (OpenSpec.ofChange fnRuleAtWrong)

/- THE SECOND FORM. 'bulk': how many values and letters a reading holds, each counted each time it is reached (what is shared counts as often as it is met; a slice's spare places count too). A statement '..UptoSaid' is the law's where the arguments, and the package variables that the reading takes, are together of bulk at most 1048576: NARROWER than '..Said'. Prove '..Said' where nothing that the law and all that it calls make is longer than what came in: it says more and counts as full. Else prove '..UptoSaid'. A law counts once. -/
mutual
def uptoBulk {H : Type} : DataW H → Nat
  | .lit (.string bytes) => bytes.length + 1
  | .lit _ => 1
  | .nil => 1
  | .ptr d => uptoBulk d + 1
  | .slice elems spare => uptoBulkAll elems + uptoBulkAll spare + 1
  | .agg parts => uptoBulkAll parts + 1
  | .iface _ d => uptoBulk d + 1
  | .map entries => uptoBulkEntries entries + 1
  | .held _ => 1
def uptoBulkAll {H : Type} : List (DataW H) → Nat
  | [] => 0
  | d :: r => uptoBulk d + uptoBulkAll r
def uptoBulkEntries {H : Type} : List (Lit × DataW H) → Nat
  | [] => 0
  | x :: r => uptoBulkEntry x + uptoBulkEntries r
def uptoBulkEntry {H : Type} : Lit × DataW H → Nat
  | (.string bytes, d) => bytes.length + uptoBulk d + 1
  | (_, d) => uptoBulk d + 1
 end
def uptoSmall : (H : Type) → List (DataW H) → Bool := fun _ ds => decide (uptoBulkAll ds ≤ 1048576)
def OpenSpec.upto (s : _root_.Go.ChangeSpec) : _root_.Go.OpenSpec := { _root_.Go.OpenSpec.ofChange s with cond := some uptoSmall }

/-- 'laws.FnExactInsideBoat', WHERE WHAT IT READS IS OF BULK AT MOST 1048576: true; the input reads as it did. -/
def fnExactInsideBoatUptoRow : OpenClaim := { program := "ytlnbieedgjmgnaa", sum := "9e743bf8ab63c0541fff9830e8e21dbb346403f9e402c116b850aa692e33fe3f", func := "loop.example/g00887/laws.FnExactInsideBoat", spec := "fnExactInsideBoat", apart := false, narrowed := true }
def FnExactInsideBoatUptoSaid : Prop := fnExactInsideBoatUptoRow.holds Try.pinned (OpenSpec.upto fnExactInsideBoatSpec)

/-- 'laws.FnExactWindwardBoat', WHERE WHAT IT READS IS OF BULK AT MOST 1048576: true; the input reads as it did. -/
def fnExactWindwardBoatUptoRow : OpenClaim := { program := "ytlnbieedgjmgnaa", sum := "9e743bf8ab63c0541fff9830e8e21dbb346403f9e402c116b850aa692e33fe3f", func := "loop.example/g00887/laws.FnExactWindwardBoat", spec := "fnExactWindwardBoat", apart := false, narrowed := true }
def FnExactWindwardBoatUptoSaid : Prop := fnExactWindwardBoatUptoRow.holds Try.pinned (OpenSpec.upto fnExactWindwardBoatSpec)

/-- 'laws.FnTack', WHERE WHAT IT READS IS OF BULK AT MOST 1048576: true; the input reads as it did. -/
def fnTackUptoRow : OpenClaim := { program := "ytlnbieedgjmgnaa", sum := "9e743bf8ab63c0541fff9830e8e21dbb346403f9e402c116b850aa692e33fe3f", func := "loop.example/g00887/laws.FnTack", spec := "fnTack", apart := false, narrowed := true }
def FnTackUptoSaid : Prop := fnTackUptoRow.holds Try.pinned (OpenSpec.upto fnTackSpec)

/-- 'laws.FnExactClearAstern', WHERE WHAT IT READS IS OF BULK AT MOST 1048576: true; the input reads as it did. -/
def fnExactClearAsternUptoRow : OpenClaim := { program := "ytlnbieedgjmgnaa", sum := "9e743bf8ab63c0541fff9830e8e21dbb346403f9e402c116b850aa692e33fe3f", func := "loop.example/g00887/laws.FnExactClearAstern", spec := "fnExactClearAstern", apart := false, narrowed := true }
def FnExactClearAsternUptoSaid : Prop := fnExactClearAsternUptoRow.holds Try.pinned (OpenSpec.upto fnExactClearAsternSpec)

/-- 'laws.FnExactOverlapOf', WHERE WHAT IT READS IS OF BULK AT MOST 1048576: true; the input reads as it did. -/
def fnExactOverlapOfUptoRow : OpenClaim := { program := "ytlnbieedgjmgnaa", sum := "9e743bf8ab63c0541fff9830e8e21dbb346403f9e402c116b850aa692e33fe3f", func := "loop.example/g00887/laws.FnExactOverlapOf", spec := "fnExactOverlapOf", apart := false, narrowed := true }
def FnExactOverlapOfUptoSaid : Prop := fnExactOverlapOfUptoRow.holds Try.pinned (OpenSpec.upto fnExactOverlapOfSpec)

/-- 'laws.FnExactWindwardGain', WHERE WHAT IT READS IS OF BULK AT MOST 1048576: true; the input reads as it did. -/
def fnExactWindwardGainUptoRow : OpenClaim := { program := "ytlnbieedgjmgnaa", sum := "9e743bf8ab63c0541fff9830e8e21dbb346403f9e402c116b850aa692e33fe3f", func := "loop.example/g00887/laws.FnExactWindwardGain", spec := "fnExactWindwardGain", inPlace := ["math.sqrt"], apart := false, narrowed := true }
def FnExactWindwardGainUptoSaid : Prop := fnExactWindwardGainUptoRow.holds Try.pinned (OpenSpec.upto fnExactWindwardGainSpec)

/-- 'laws.FnExactGapBehind', WHERE WHAT IT READS IS OF BULK AT MOST 1048576: true; the input reads as it did. -/
def fnExactGapBehindUptoRow : OpenClaim := { program := "ytlnbieedgjmgnaa", sum := "9e743bf8ab63c0541fff9830e8e21dbb346403f9e402c116b850aa692e33fe3f", func := "loop.example/g00887/laws.FnExactGapBehind", spec := "fnExactGapBehind", inPlace := ["math.sqrt"], apart := false, narrowed := true }
def FnExactGapBehindUptoSaid : Prop := fnExactGapBehindUptoRow.holds Try.pinned (OpenSpec.upto fnExactGapBehindSpec)

/-- 'laws.FnExactSternOf', WHERE WHAT IT READS IS OF BULK AT MOST 1048576: true; the input reads as it did. -/
def fnExactSternOfUptoRow : OpenClaim := { program := "ytlnbieedgjmgnaa", sum := "9e743bf8ab63c0541fff9830e8e21dbb346403f9e402c116b850aa692e33fe3f", func := "loop.example/g00887/laws.FnExactSternOf", spec := "fnExactSternOf", inPlace := ["math.sqrt"], apart := false, narrowed := true }
def FnExactSternOfUptoSaid : Prop := fnExactSternOfUptoRow.holds Try.pinned (OpenSpec.upto fnExactSternOfSpec)

/-- 'laws.FnOverlap', WHERE WHAT IT READS IS OF BULK AT MOST 1048576: true; the input reads as it did. -/
def fnOverlapUptoRow : OpenClaim := { program := "ytlnbieedgjmgnaa", sum := "9e743bf8ab63c0541fff9830e8e21dbb346403f9e402c116b850aa692e33fe3f", func := "loop.example/g00887/laws.FnOverlap", spec := "fnOverlap", apart := false, narrowed := true }
def FnOverlapUptoSaid : Prop := fnOverlapUptoRow.holds Try.pinned (OpenSpec.upto fnOverlapSpec)

/-- 'laws.FnExactTackAt', WHERE WHAT IT READS IS OF BULK AT MOST 1048576: true; the input reads as it did. -/
def fnExactTackAtUptoRow : OpenClaim := { program := "ytlnbieedgjmgnaa", sum := "9e743bf8ab63c0541fff9830e8e21dbb346403f9e402c116b850aa692e33fe3f", func := "loop.example/g00887/laws.FnExactTackAt", spec := "fnExactTackAt", apart := false, narrowed := true }
def FnExactTackAtUptoSaid : Prop := fnExactTackAtUptoRow.holds Try.pinned (OpenSpec.upto fnExactTackAtSpec)

/-- 'laws.FnInside', WHERE WHAT IT READS IS OF BULK AT MOST 1048576: true; the input reads as it did. -/
def fnInsideUptoRow : OpenClaim := { program := "ytlnbieedgjmgnaa", sum := "9e743bf8ab63c0541fff9830e8e21dbb346403f9e402c116b850aa692e33fe3f", func := "loop.example/g00887/laws.FnInside", spec := "fnInside", apart := false, narrowed := true }
def FnInsideUptoSaid : Prop := fnInsideUptoRow.holds Try.pinned (OpenSpec.upto fnInsideSpec)

/-- 'laws.FnExactHullAt', WHERE WHAT IT READS IS OF BULK AT MOST 1048576: true; the input reads as it did. -/
def fnExactHullAtUptoRow : OpenClaim := { program := "ytlnbieedgjmgnaa", sum := "9e743bf8ab63c0541fff9830e8e21dbb346403f9e402c116b850aa692e33fe3f", func := "loop.example/g00887/laws.FnExactHullAt", spec := "fnExactHullAt", apart := false, narrowed := true }
def FnExactHullAtUptoSaid : Prop := fnExactHullAtUptoRow.holds Try.pinned (OpenSpec.upto fnExactHullAtSpec)

/-- 'laws.FnWindward', WHERE WHAT IT READS IS OF BULK AT MOST 1048576: true; the input reads as it did. -/
def fnWindwardUptoRow : OpenClaim := { program := "ytlnbieedgjmgnaa", sum := "9e743bf8ab63c0541fff9830e8e21dbb346403f9e402c116b850aa692e33fe3f", func := "loop.example/g00887/laws.FnWindward", spec := "fnWindward", inPlace := ["math.sqrt"], apart := false, narrowed := true }
def FnWindwardUptoSaid : Prop := fnWindwardUptoRow.holds Try.pinned (OpenSpec.upto fnWindwardSpec)

/-- 'laws.FnGap', WHERE WHAT IT READS IS OF BULK AT MOST 1048576: true; the input reads as it did. -/
def fnGapUptoRow : OpenClaim := { program := "ytlnbieedgjmgnaa", sum := "9e743bf8ab63c0541fff9830e8e21dbb346403f9e402c116b850aa692e33fe3f", func := "loop.example/g00887/laws.FnGap", spec := "fnGap", inPlace := ["math.sqrt"], apart := false, narrowed := true }
def FnGapUptoSaid : Prop := fnGapUptoRow.holds Try.pinned (OpenSpec.upto fnGapSpec)

/-- 'laws.FnExactRuleOn', WHERE WHAT IT READS IS OF BULK AT MOST 1048576: true; the input reads as it did. -/
def fnExactRuleOnUptoRow : OpenClaim := { program := "ytlnbieedgjmgnaa", sum := "9e743bf8ab63c0541fff9830e8e21dbb346403f9e402c116b850aa692e33fe3f", func := "loop.example/g00887/laws.FnExactRuleOn", spec := "fnExactRuleOn", apart := false, narrowed := true }
def FnExactRuleOnUptoSaid : Prop := fnExactRuleOnUptoRow.holds Try.pinned (OpenSpec.upto fnExactRuleOnSpec)

/-- 'laws.FnExactRoomBetween', WHERE WHAT IT READS IS OF BULK AT MOST 1048576: true; the input reads as it did. -/
def fnExactRoomBetweenUptoRow : OpenClaim := { program := "ytlnbieedgjmgnaa", sum := "9e743bf8ab63c0541fff9830e8e21dbb346403f9e402c116b850aa692e33fe3f", func := "loop.example/g00887/laws.FnExactRoomBetween", spec := "fnExactRoomBetween", apart := false, narrowed := true }
def FnExactRoomBetweenUptoSaid : Prop := fnExactRoomBetweenUptoRow.holds Try.pinned (OpenSpec.upto fnExactRoomBetweenSpec)

/-- 'laws.FnExactHullsNear', WHERE WHAT IT READS IS OF BULK AT MOST 1048576: true; the input reads as it did. -/
def fnExactHullsNearUptoRow : OpenClaim := { program := "ytlnbieedgjmgnaa", sum := "9e743bf8ab63c0541fff9830e8e21dbb346403f9e402c116b850aa692e33fe3f", func := "loop.example/g00887/laws.FnExactHullsNear", spec := "fnExactHullsNear", inPlace := ["math.sqrt"], apart := false, narrowed := true }
def FnExactHullsNearUptoSaid : Prop := fnExactHullsNearUptoRow.holds Try.pinned (OpenSpec.upto fnExactHullsNearSpec)

/-- 'laws.FnExactTurningAt', WHERE WHAT IT READS IS OF BULK AT MOST 1048576: true; the input reads as it did. -/
def fnExactTurningAtUptoRow : OpenClaim := { program := "ytlnbieedgjmgnaa", sum := "9e743bf8ab63c0541fff9830e8e21dbb346403f9e402c116b850aa692e33fe3f", func := "loop.example/g00887/laws.FnExactTurningAt", spec := "fnExactTurningAt", inPlace := ["math.sqrt"], apart := false, narrowed := true }
def FnExactTurningAtUptoSaid : Prop := fnExactTurningAtUptoRow.holds Try.pinned (OpenSpec.upto fnExactTurningAtSpec)

/-- 'laws.FnRoomOrder', WHERE WHAT IT READS IS OF BULK AT MOST 1048576: true; the input reads as it did. -/
def fnRoomOrderUptoRow : OpenClaim := { program := "ytlnbieedgjmgnaa", sum := "9e743bf8ab63c0541fff9830e8e21dbb346403f9e402c116b850aa692e33fe3f", func := "loop.example/g00887/laws.FnRoomOrder", spec := "fnRoomOrder", apart := false, narrowed := true }
def FnRoomOrderUptoSaid : Prop := fnRoomOrderUptoRow.holds Try.pinned (OpenSpec.upto fnRoomOrderSpec)

/-- 'laws.FnManoeuvres', WHERE WHAT IT READS IS OF BULK AT MOST 1048576: true; the input reads as it did. -/
def fnManoeuvresUptoRow : OpenClaim := { program := "ytlnbieedgjmgnaa", sum := "9e743bf8ab63c0541fff9830e8e21dbb346403f9e402c116b850aa692e33fe3f", func := "loop.example/g00887/laws.FnManoeuvres", spec := "fnManoeuvres", inPlace := ["math.sqrt"], apart := false, narrowed := true }
def FnManoeuvresUptoSaid : Prop := fnManoeuvresUptoRow.holds Try.pinned (OpenSpec.upto fnManoeuvresSpec)

/-- 'laws.FnExactManoeuvresOf', WHERE WHAT IT READS IS OF BULK AT MOST 1048576: true; the input reads as it did. -/
def fnExactManoeuvresOfUptoRow : OpenClaim := { program := "ytlnbieedgjmgnaa", sum := "9e743bf8ab63c0541fff9830e8e21dbb346403f9e402c116b850aa692e33fe3f", func := "loop.example/g00887/laws.FnExactManoeuvresOf", spec := "fnExactManoeuvresOf", inPlace := ["math.sqrt"], apart := false, narrowed := true }
def FnExactManoeuvresOfUptoSaid : Prop := fnExactManoeuvresOfUptoRow.holds Try.pinned (OpenSpec.upto fnExactManoeuvresOfSpec)

/-- 'laws.FnTurning', WHERE WHAT IT READS IS OF BULK AT MOST 1048576: true; the input reads as it did. -/
def fnTurningUptoRow : OpenClaim := { program := "ytlnbieedgjmgnaa", sum := "9e743bf8ab63c0541fff9830e8e21dbb346403f9e402c116b850aa692e33fe3f", func := "loop.example/g00887/laws.FnTurning", spec := "fnTurning", inPlace := ["math.sqrt"], apart := false, narrowed := true }
def FnTurningUptoSaid : Prop := fnTurningUptoRow.holds Try.pinned (OpenSpec.upto fnTurningSpec)

/-- 'laws.FnNear', WHERE WHAT IT READS IS OF BULK AT MOST 1048576: true; the input reads as it did. -/
def fnNearUptoRow : OpenClaim := { program := "ytlnbieedgjmgnaa", sum := "9e743bf8ab63c0541fff9830e8e21dbb346403f9e402c116b850aa692e33fe3f", func := "loop.example/g00887/laws.FnNear", spec := "fnNear", inPlace := ["math.sqrt"], apart := false, narrowed := true }
def FnNearUptoSaid : Prop := fnNearUptoRow.holds Try.pinned (OpenSpec.upto fnNearSpec)

/-- 'laws.FnKeepClear', WHERE WHAT IT READS IS OF BULK AT MOST 1048576: true; the input reads as it did. -/
def fnKeepClearUptoRow : OpenClaim := { program := "ytlnbieedgjmgnaa", sum := "9e743bf8ab63c0541fff9830e8e21dbb346403f9e402c116b850aa692e33fe3f", func := "loop.example/g00887/laws.FnKeepClear", spec := "fnKeepClear", apart := false, narrowed := true }
def FnKeepClearUptoSaid : Prop := fnKeepClearUptoRow.holds Try.pinned (OpenSpec.upto fnKeepClearSpec)

/-- 'laws.FnExactKeepClearTable', WHERE WHAT IT READS IS OF BULK AT MOST 1048576: true; the input reads as it did. -/
def fnExactKeepClearTableUptoRow : OpenClaim := { program := "ytlnbieedgjmgnaa", sum := "9e743bf8ab63c0541fff9830e8e21dbb346403f9e402c116b850aa692e33fe3f", func := "loop.example/g00887/laws.FnExactKeepClearTable", spec := "fnExactKeepClearTable", apart := false, narrowed := true }
def FnExactKeepClearTableUptoSaid : Prop := fnExactKeepClearTableUptoRow.holds Try.pinned (OpenSpec.upto fnExactKeepClearTableSpec)

/-- 'laws.FnExactBoatAt', WHERE WHAT IT READS IS OF BULK AT MOST 1048576: true; the input reads as it did. -/
def fnExactBoatAtUptoRow : OpenClaim := { program := "ytlnbieedgjmgnaa", sum := "9e743bf8ab63c0541fff9830e8e21dbb346403f9e402c116b850aa692e33fe3f", func := "loop.example/g00887/laws.FnExactBoatAt", spec := "fnExactBoatAt", inPlace := ["math.sqrt"], apart := false, narrowed := true }
def FnExactBoatAtUptoSaid : Prop := fnExactBoatAtUptoRow.holds Try.pinned (OpenSpec.upto fnExactBoatAtSpec)

/-- 'laws.FnExactRuleAt', WHERE WHAT IT READS IS OF BULK AT MOST 1048576: true; the input reads as it did. -/
def fnExactRuleAtUptoRow : OpenClaim := { program := "ytlnbieedgjmgnaa", sum := "9e743bf8ab63c0541fff9830e8e21dbb346403f9e402c116b850aa692e33fe3f", func := "loop.example/g00887/laws.FnExactRuleAt", spec := "fnExactRuleAt", inPlace := ["math.sqrt"], apart := false, narrowed := true }
def FnExactRuleAtUptoSaid : Prop := fnExactRuleAtUptoRow.holds Try.pinned (OpenSpec.upto fnExactRuleAtSpec)

/-- 'laws.FnRuleAt', WHERE WHAT IT READS IS OF BULK AT MOST 1048576: true; the input reads as it did. -/
def fnRuleAtUptoRow : OpenClaim := { program := "ytlnbieedgjmgnaa", sum := "9e743bf8ab63c0541fff9830e8e21dbb346403f9e402c116b850aa692e33fe3f", func := "loop.example/g00887/laws.FnRuleAt", spec := "fnRuleAt", inPlace := ["math.sqrt"], apart := false, narrowed := true }
def FnRuleAtUptoSaid : Prop := fnRuleAtUptoRow.holds Try.pinned (OpenSpec.upto fnRuleAtSpec)

end Rows
end Go.Proofs.Ytlnbieedgjmgnaa
