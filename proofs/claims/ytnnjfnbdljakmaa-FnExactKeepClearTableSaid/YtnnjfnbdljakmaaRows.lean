/-
  No cell of these rows narrows 'for every input' (looked for: loops, veiled, ifaces, maps, wideKeys, modest, calm, conditions, laid).
  DERIVED. THE GIVEN ROWS OF THIS SEAT. 11 by the template 'for every input the law returns true; each argument reads behind the call as it read before'; 0 by the template 'total and deterministic' (their statements: YtnnjfnbdljakmaaTotals.lean).
  GIVEN WITH THE SEED: the statements are not yours to turn. If you find one false, say at which input.
  Laid BY PROGRAM, IN A SANDBOX (cutbox-rows.mjs): the forced cells as the released guide's own fill.sh prints them over the translation 24dd0d872638eaab… (all of the seat's roots in one cut). By AI agents, Wed Nov 11 2026. No macro, syntax, notation, axiom, sorry.
-/
import Derived.Test.YtnnjfnbdljakmaaChecked
import GoSem.Claim
import GoSem.ClaimJoined
import GoSem.ClaimMapViews
import Derived.JoinedTies
import Derived.KernelRfl
namespace Go.Proofs.Ytnnjfnbdljakmaa
/- THE CELL 'sum', in the pinned program and in every row, IS THE sha256 OF THE DUMP (.gsa) THAT YtnnjfnbdljakmaaProg.lean LOADS. Nothing in Lean hashes anything: it is a label: what it is worth is what the hold of that sum in a sandbox is worth. -/
noncomputable def Try.pinned : Pinned := { name := "ytnnjfnbdljakmaa", sum := "24dd0d872638eaab61d2500518533b809ba9bbfb8e9b46ee15db5b34da7b2e7e", checked := Try.checked }
namespace Rows
def none {H : Type} : Left H := { results := [], args := [] }

/-- 'laws.FnExactWindwardBoat': WHATEVER THE INPUT: true; the input reads as it did. -/
def fnExactWindwardBoatSpec : ChangeSpec := { name := "fnExactWindwardBoat", fn := fun _ => fun
  | [d1, d2] => { results := [.lit (.bool true)], args := [d1, d2] }
  | _ => none }
def fnExactWindwardBoatRow : OpenClaim := { program := "ytnnjfnbdljakmaa", sum := "24dd0d872638eaab61d2500518533b809ba9bbfb8e9b46ee15db5b34da7b2e7e", func := "loop.example/g00887/laws.FnExactWindwardBoat", spec := "fnExactWindwardBoat", apart := false }
def FnExactWindwardBoatSaid : Prop := fnExactWindwardBoatRow.holds Try.pinned (OpenSpec.ofChange fnExactWindwardBoatSpec)

/-- ITS FALSE NEIGHBOUR: 'it returns false'. Refute it at one input. -/
def fnExactWindwardBoatWrong : ChangeSpec := { name := "fnExactWindwardBoat", fn := fun _ => fun
  | [d1, d2] => { results := [.lit (.bool false)], args := [d1, d2] }
  | _ => none }
def FnExactWindwardBoatWrongFalsely : Prop := fnExactWindwardBoatRow.holds Try.pinned (OpenSpec.ofChange fnExactWindwardBoatWrong)

/-- 'laws.FnExactTackAt': WHATEVER THE INPUT: true; the input reads as it did. -/
def fnExactTackAtSpec : ChangeSpec := { name := "fnExactTackAt", fn := fun _ => fun
  | [d1, d2, d3] => { results := [.lit (.bool true)], args := [d1, d2, d3] }
  | _ => none }
def fnExactTackAtRow : OpenClaim := { program := "ytnnjfnbdljakmaa", sum := "24dd0d872638eaab61d2500518533b809ba9bbfb8e9b46ee15db5b34da7b2e7e", func := "loop.example/g00887/laws.FnExactTackAt", spec := "fnExactTackAt", apart := false }
def FnExactTackAtSaid : Prop := fnExactTackAtRow.holds Try.pinned (OpenSpec.ofChange fnExactTackAtSpec)

/-- ITS FALSE NEIGHBOUR: 'it returns false'. Refute it at one input. -/
def fnExactTackAtWrong : ChangeSpec := { name := "fnExactTackAt", fn := fun _ => fun
  | [d1, d2, d3] => { results := [.lit (.bool false)], args := [d1, d2, d3] }
  | _ => none }
def FnExactTackAtWrongFalsely : Prop := fnExactTackAtRow.holds Try.pinned (OpenSpec.ofChange fnExactTackAtWrong)

/-- 'laws.FnExactHullAt': WHATEVER THE INPUT: true; the input reads as it did. -/
def fnExactHullAtSpec : ChangeSpec := { name := "fnExactHullAt", fn := fun _ => fun
  | [d1, d2, d3] => { results := [.lit (.bool true)], args := [d1, d2, d3] }
  | _ => none }
def fnExactHullAtRow : OpenClaim := { program := "ytnnjfnbdljakmaa", sum := "24dd0d872638eaab61d2500518533b809ba9bbfb8e9b46ee15db5b34da7b2e7e", func := "loop.example/g00887/laws.FnExactHullAt", spec := "fnExactHullAt", apart := false }
def FnExactHullAtSaid : Prop := fnExactHullAtRow.holds Try.pinned (OpenSpec.ofChange fnExactHullAtSpec)

/-- ITS FALSE NEIGHBOUR: 'it returns false'. Refute it at one input. -/
def fnExactHullAtWrong : ChangeSpec := { name := "fnExactHullAt", fn := fun _ => fun
  | [d1, d2, d3] => { results := [.lit (.bool false)], args := [d1, d2, d3] }
  | _ => none }
def FnExactHullAtWrongFalsely : Prop := fnExactHullAtRow.holds Try.pinned (OpenSpec.ofChange fnExactHullAtWrong)

/-- 'laws.FnExactRuleOn': WHATEVER THE INPUT: true; the input reads as it did. -/
def fnExactRuleOnSpec : ChangeSpec := { name := "fnExactRuleOn", fn := fun _ => fun
  | [d1, d2, d3] => { results := [.lit (.bool true)], args := [d1, d2, d3] }
  | _ => none }
def fnExactRuleOnRow : OpenClaim := { program := "ytnnjfnbdljakmaa", sum := "24dd0d872638eaab61d2500518533b809ba9bbfb8e9b46ee15db5b34da7b2e7e", func := "loop.example/g00887/laws.FnExactRuleOn", spec := "fnExactRuleOn", apart := false }
def FnExactRuleOnSaid : Prop := fnExactRuleOnRow.holds Try.pinned (OpenSpec.ofChange fnExactRuleOnSpec)

/-- ITS FALSE NEIGHBOUR: 'it returns false'. Refute it at one input. -/
def fnExactRuleOnWrong : ChangeSpec := { name := "fnExactRuleOn", fn := fun _ => fun
  | [d1, d2, d3] => { results := [.lit (.bool false)], args := [d1, d2, d3] }
  | _ => none }
def FnExactRuleOnWrongFalsely : Prop := fnExactRuleOnRow.holds Try.pinned (OpenSpec.ofChange fnExactRuleOnWrong)

/-- 'laws.FnExactRoomBetween': WHATEVER THE INPUT: true; the input reads as it did. -/
def fnExactRoomBetweenSpec : ChangeSpec := { name := "fnExactRoomBetween", fn := fun _ => fun
  | [d1, d2, d3, d4] => { results := [.lit (.bool true)], args := [d1, d2, d3, d4] }
  | _ => none }
def fnExactRoomBetweenRow : OpenClaim := { program := "ytnnjfnbdljakmaa", sum := "24dd0d872638eaab61d2500518533b809ba9bbfb8e9b46ee15db5b34da7b2e7e", func := "loop.example/g00887/laws.FnExactRoomBetween", spec := "fnExactRoomBetween", apart := false }
def FnExactRoomBetweenSaid : Prop := fnExactRoomBetweenRow.holds Try.pinned (OpenSpec.ofChange fnExactRoomBetweenSpec)

/-- ITS FALSE NEIGHBOUR: 'it returns false'. Refute it at one input. -/
def fnExactRoomBetweenWrong : ChangeSpec := { name := "fnExactRoomBetween", fn := fun _ => fun
  | [d1, d2, d3, d4] => { results := [.lit (.bool false)], args := [d1, d2, d3, d4] }
  | _ => none }
def FnExactRoomBetweenWrongFalsely : Prop := fnExactRoomBetweenRow.holds Try.pinned (OpenSpec.ofChange fnExactRoomBetweenWrong)

/-- 'laws.FnExactHullsNear': WHATEVER THE INPUT: true; the input reads as it did. -/
def fnExactHullsNearSpec : ChangeSpec := { name := "fnExactHullsNear", fn := fun _ => fun
  | [d1, d2, d3] => { results := [.lit (.bool true)], args := [d1, d2, d3] }
  | _ => none }
def fnExactHullsNearRow : OpenClaim := { program := "ytnnjfnbdljakmaa", sum := "24dd0d872638eaab61d2500518533b809ba9bbfb8e9b46ee15db5b34da7b2e7e", func := "loop.example/g00887/laws.FnExactHullsNear", spec := "fnExactHullsNear", inPlace := ["math.sqrt"], apart := false }
def FnExactHullsNearSaid : Prop := fnExactHullsNearRow.holds Try.pinned (OpenSpec.ofChange fnExactHullsNearSpec)

/-- ITS FALSE NEIGHBOUR: 'it returns false'. Refute it at one input. -/
def fnExactHullsNearWrong : ChangeSpec := { name := "fnExactHullsNear", fn := fun _ => fun
  | [d1, d2, d3] => { results := [.lit (.bool false)], args := [d1, d2, d3] }
  | _ => none }
def FnExactHullsNearWrongFalsely : Prop := fnExactHullsNearRow.holds Try.pinned (OpenSpec.ofChange fnExactHullsNearWrong)

/-- 'laws.FnExactTurningAt': WHATEVER THE INPUT: true; the input reads as it did. -/
def fnExactTurningAtSpec : ChangeSpec := { name := "fnExactTurningAt", fn := fun _ => fun
  | [d1, d2, d3, d4] => { results := [.lit (.bool true)], args := [d1, d2, d3, d4] }
  | _ => none }
def fnExactTurningAtRow : OpenClaim := { program := "ytnnjfnbdljakmaa", sum := "24dd0d872638eaab61d2500518533b809ba9bbfb8e9b46ee15db5b34da7b2e7e", func := "loop.example/g00887/laws.FnExactTurningAt", spec := "fnExactTurningAt", inPlace := ["math.sqrt"], apart := false }
def FnExactTurningAtSaid : Prop := fnExactTurningAtRow.holds Try.pinned (OpenSpec.ofChange fnExactTurningAtSpec)

/-- ITS FALSE NEIGHBOUR: 'it returns false'. Refute it at one input. -/
def fnExactTurningAtWrong : ChangeSpec := { name := "fnExactTurningAt", fn := fun _ => fun
  | [d1, d2, d3, d4] => { results := [.lit (.bool false)], args := [d1, d2, d3, d4] }
  | _ => none }
def FnExactTurningAtWrongFalsely : Prop := fnExactTurningAtRow.holds Try.pinned (OpenSpec.ofChange fnExactTurningAtWrong)

/-- 'laws.FnExactManoeuvresOf': WHATEVER THE INPUT: true; the input reads as it did. -/
def fnExactManoeuvresOfSpec : ChangeSpec := { name := "fnExactManoeuvresOf", fn := fun _ => fun
  | [d1, d2] => { results := [.lit (.bool true)], args := [d1, d2] }
  | _ => none }
def fnExactManoeuvresOfRow : OpenClaim := { program := "ytnnjfnbdljakmaa", sum := "24dd0d872638eaab61d2500518533b809ba9bbfb8e9b46ee15db5b34da7b2e7e", func := "loop.example/g00887/laws.FnExactManoeuvresOf", spec := "fnExactManoeuvresOf", inPlace := ["math.sqrt"], apart := false }
def FnExactManoeuvresOfSaid : Prop := fnExactManoeuvresOfRow.holds Try.pinned (OpenSpec.ofChange fnExactManoeuvresOfSpec)

/-- ITS FALSE NEIGHBOUR: 'it returns false'. Refute it at one input. -/
def fnExactManoeuvresOfWrong : ChangeSpec := { name := "fnExactManoeuvresOf", fn := fun _ => fun
  | [d1, d2] => { results := [.lit (.bool false)], args := [d1, d2] }
  | _ => none }
def FnExactManoeuvresOfWrongFalsely : Prop := fnExactManoeuvresOfRow.holds Try.pinned (OpenSpec.ofChange fnExactManoeuvresOfWrong)

/-- 'laws.FnExactKeepClearTable': WHATEVER THE INPUT: true; the input reads as it did. -/
def fnExactKeepClearTableSpec : ChangeSpec := { name := "fnExactKeepClearTable", fn := fun _ => fun
  | [d1, d2] => { results := [.lit (.bool true)], args := [d1, d2] }
  | _ => none }
def fnExactKeepClearTableRow : OpenClaim := { program := "ytnnjfnbdljakmaa", sum := "24dd0d872638eaab61d2500518533b809ba9bbfb8e9b46ee15db5b34da7b2e7e", func := "loop.example/g00887/laws.FnExactKeepClearTable", spec := "fnExactKeepClearTable", apart := false }
def FnExactKeepClearTableSaid : Prop := fnExactKeepClearTableRow.holds Try.pinned (OpenSpec.ofChange fnExactKeepClearTableSpec)

/-- ITS FALSE NEIGHBOUR: 'it returns false'. Refute it at one input. -/
def fnExactKeepClearTableWrong : ChangeSpec := { name := "fnExactKeepClearTable", fn := fun _ => fun
  | [d1, d2] => { results := [.lit (.bool false)], args := [d1, d2] }
  | _ => none }
def FnExactKeepClearTableWrongFalsely : Prop := fnExactKeepClearTableRow.holds Try.pinned (OpenSpec.ofChange fnExactKeepClearTableWrong)

/-- 'laws.FnExactBoatAt': WHATEVER THE INPUT: true; the input reads as it did. -/
def fnExactBoatAtSpec : ChangeSpec := { name := "fnExactBoatAt", fn := fun _ => fun
  | [d1, d2, d3, d4, d5] => { results := [.lit (.bool true)], args := [d1, d2, d3, d4, d5] }
  | _ => none }
def fnExactBoatAtRow : OpenClaim := { program := "ytnnjfnbdljakmaa", sum := "24dd0d872638eaab61d2500518533b809ba9bbfb8e9b46ee15db5b34da7b2e7e", func := "loop.example/g00887/laws.FnExactBoatAt", spec := "fnExactBoatAt", inPlace := ["math.sqrt"], apart := false }
def FnExactBoatAtSaid : Prop := fnExactBoatAtRow.holds Try.pinned (OpenSpec.ofChange fnExactBoatAtSpec)

/-- ITS FALSE NEIGHBOUR: 'it returns false'. Refute it at one input. -/
def fnExactBoatAtWrong : ChangeSpec := { name := "fnExactBoatAt", fn := fun _ => fun
  | [d1, d2, d3, d4, d5] => { results := [.lit (.bool false)], args := [d1, d2, d3, d4, d5] }
  | _ => none }
def FnExactBoatAtWrongFalsely : Prop := fnExactBoatAtRow.holds Try.pinned (OpenSpec.ofChange fnExactBoatAtWrong)

/-- 'laws.FnExactRuleAt': WHATEVER THE INPUT: true; the input reads as it did. -/
def fnExactRuleAtSpec : ChangeSpec := { name := "fnExactRuleAt", fn := fun _ => fun
  | [d1, d2, d3, d4, d5, d6] => { results := [.lit (.bool true)], args := [d1, d2, d3, d4, d5, d6] }
  | _ => none }
def fnExactRuleAtRow : OpenClaim := { program := "ytnnjfnbdljakmaa", sum := "24dd0d872638eaab61d2500518533b809ba9bbfb8e9b46ee15db5b34da7b2e7e", func := "loop.example/g00887/laws.FnExactRuleAt", spec := "fnExactRuleAt", inPlace := ["math.sqrt"], apart := false }
def FnExactRuleAtSaid : Prop := fnExactRuleAtRow.holds Try.pinned (OpenSpec.ofChange fnExactRuleAtSpec)

/-- ITS FALSE NEIGHBOUR: 'it returns false'. Refute it at one input. -/
def fnExactRuleAtWrong : ChangeSpec := { name := "fnExactRuleAt", fn := fun _ => fun
  | [d1, d2, d3, d4, d5, d6] => { results := [.lit (.bool false)], args := [d1, d2, d3, d4, d5, d6] }
  | _ => none }
def FnExactRuleAtWrongFalsely : Prop := fnExactRuleAtRow.holds Try.pinned (OpenSpec.ofChange fnExactRuleAtWrong)

/- THE SECOND FORM. 'bulk': how many values and letters a reading holds, each counted each time it is reached (what is shared counts as often as it is met; a slice's spare places count too). A statement '..UptoSaid' is the law's where the arguments, and the package variables that the reading takes, are together of bulk at most 1048576: NARROWER than '..Said'. Prove '..Said' where nothing that the law and all that it calls make is longer than what came in: it says more and counts as full. Else prove '..UptoSaid'. A law counts once. -/
mutual
def uptoBulk {H : Type} : DataW H → Nat
  | .lit (.string bytes) => bytes.length + 1
  | .lit _ => 1
  | .nil => 1
  | .ptr d => uptoBulk d + 1
  | .slice elems spare => uptoBulkAll elems + uptoBulkAll spare + 1
  | .agg parts => uptoBulkAll parts + 1
  | .iface _ d => uptoBulk d + 1
  | .map entries => uptoBulkEntries entries + 1
  | .held _ => 1
def uptoBulkAll {H : Type} : List (DataW H) → Nat
  | [] => 0
  | d :: r => uptoBulk d + uptoBulkAll r
def uptoBulkEntries {H : Type} : List (Lit × DataW H) → Nat
  | [] => 0
  | x :: r => uptoBulkEntry x + uptoBulkEntries r
def uptoBulkEntry {H : Type} : Lit × DataW H → Nat
  | (.string bytes, d) => bytes.length + uptoBulk d + 1
  | (_, d) => uptoBulk d + 1
 end
def uptoSmall : (H : Type) → List (DataW H) → Bool := fun _ ds => decide (uptoBulkAll ds ≤ 1048576)
def OpenSpec.upto (s : _root_.Go.ChangeSpec) : _root_.Go.OpenSpec := { _root_.Go.OpenSpec.ofChange s with cond := some uptoSmall }

/-- 'laws.FnExactWindwardBoat', WHERE WHAT IT READS IS OF BULK AT MOST 1048576: true; the input reads as it did. -/
def fnExactWindwardBoatUptoRow : OpenClaim := { program := "ytnnjfnbdljakmaa", sum := "24dd0d872638eaab61d2500518533b809ba9bbfb8e9b46ee15db5b34da7b2e7e", func := "loop.example/g00887/laws.FnExactWindwardBoat", spec := "fnExactWindwardBoat", apart := false, narrowed := true }
def FnExactWindwardBoatUptoSaid : Prop := fnExactWindwardBoatUptoRow.holds Try.pinned (OpenSpec.upto fnExactWindwardBoatSpec)

/-- 'laws.FnExactTackAt', WHERE WHAT IT READS IS OF BULK AT MOST 1048576: true; the input reads as it did. -/
def fnExactTackAtUptoRow : OpenClaim := { program := "ytnnjfnbdljakmaa", sum := "24dd0d872638eaab61d2500518533b809ba9bbfb8e9b46ee15db5b34da7b2e7e", func := "loop.example/g00887/laws.FnExactTackAt", spec := "fnExactTackAt", apart := false, narrowed := true }
def FnExactTackAtUptoSaid : Prop := fnExactTackAtUptoRow.holds Try.pinned (OpenSpec.upto fnExactTackAtSpec)

/-- 'laws.FnExactHullAt', WHERE WHAT IT READS IS OF BULK AT MOST 1048576: true; the input reads as it did. -/
def fnExactHullAtUptoRow : OpenClaim := { program := "ytnnjfnbdljakmaa", sum := "24dd0d872638eaab61d2500518533b809ba9bbfb8e9b46ee15db5b34da7b2e7e", func := "loop.example/g00887/laws.FnExactHullAt", spec := "fnExactHullAt", apart := false, narrowed := true }
def FnExactHullAtUptoSaid : Prop := fnExactHullAtUptoRow.holds Try.pinned (OpenSpec.upto fnExactHullAtSpec)

/-- 'laws.FnExactRuleOn', WHERE WHAT IT READS IS OF BULK AT MOST 1048576: true; the input reads as it did. -/
def fnExactRuleOnUptoRow : OpenClaim := { program := "ytnnjfnbdljakmaa", sum := "24dd0d872638eaab61d2500518533b809ba9bbfb8e9b46ee15db5b34da7b2e7e", func := "loop.example/g00887/laws.FnExactRuleOn", spec := "fnExactRuleOn", apart := false, narrowed := true }
def FnExactRuleOnUptoSaid : Prop := fnExactRuleOnUptoRow.holds Try.pinned (OpenSpec.upto fnExactRuleOnSpec)

/-- 'laws.FnExactRoomBetween', WHERE WHAT IT READS IS OF BULK AT MOST 1048576: true; the input reads as it did. -/
def fnExactRoomBetweenUptoRow : OpenClaim := { program := "ytnnjfnbdljakmaa", sum := "24dd0d872638eaab61d2500518533b809ba9bbfb8e9b46ee15db5b34da7b2e7e", func := "loop.example/g00887/laws.FnExactRoomBetween", spec := "fnExactRoomBetween", apart := false, narrowed := true }
def FnExactRoomBetweenUptoSaid : Prop := fnExactRoomBetweenUptoRow.holds Try.pinned (OpenSpec.upto fnExactRoomBetweenSpec)

/-- 'laws.FnExactHullsNear', WHERE WHAT IT READS IS OF BULK AT MOST 1048576: true; the input reads as it did. -/
def fnExactHullsNearUptoRow : OpenClaim := { program := "ytnnjfnbdljakmaa", sum := "24dd0d872638eaab61d2500518533b809ba9bbfb8e9b46ee15db5b34da7b2e7e", func := "loop.example/g00887/laws.FnExactHullsNear", spec := "fnExactHullsNear", inPlace := ["math.sqrt"], apart := false, narrowed := true }
def FnExactHullsNearUptoSaid : Prop := fnExactHullsNearUptoRow.holds Try.pinned (OpenSpec.upto fnExactHullsNearSpec)

/-- 'laws.FnExactTurningAt', WHERE WHAT IT READS IS OF BULK AT MOST 1048576: true; the input reads as it did. -/
def fnExactTurningAtUptoRow : OpenClaim := { program := "ytnnjfnbdljakmaa", sum := "24dd0d872638eaab61d2500518533b809ba9bbfb8e9b46ee15db5b34da7b2e7e", func := "loop.example/g00887/laws.FnExactTurningAt", spec := "fnExactTurningAt", inPlace := ["math.sqrt"], apart := false, narrowed := true }
def FnExactTurningAtUptoSaid : Prop := fnExactTurningAtUptoRow.holds Try.pinned (OpenSpec.upto fnExactTurningAtSpec)

/-- 'laws.FnExactManoeuvresOf', WHERE WHAT IT READS IS OF BULK AT MOST 1048576: true; the input reads as it did. -/
def fnExactManoeuvresOfUptoRow : OpenClaim := { program := "ytnnjfnbdljakmaa", sum := "24dd0d872638eaab61d2500518533b809ba9bbfb8e9b46ee15db5b34da7b2e7e", func := "loop.example/g00887/laws.FnExactManoeuvresOf", spec := "fnExactManoeuvresOf", inPlace := ["math.sqrt"], apart := false, narrowed := true }
def FnExactManoeuvresOfUptoSaid : Prop := fnExactManoeuvresOfUptoRow.holds Try.pinned (OpenSpec.upto fnExactManoeuvresOfSpec)

/-- 'laws.FnExactKeepClearTable', WHERE WHAT IT READS IS OF BULK AT MOST 1048576: true; the input reads as it did. -/
def fnExactKeepClearTableUptoRow : OpenClaim := { program := "ytnnjfnbdljakmaa", sum := "24dd0d872638eaab61d2500518533b809ba9bbfb8e9b46ee15db5b34da7b2e7e", func := "loop.example/g00887/laws.FnExactKeepClearTable", spec := "fnExactKeepClearTable", apart := false, narrowed := true }
def FnExactKeepClearTableUptoSaid : Prop := fnExactKeepClearTableUptoRow.holds Try.pinned (OpenSpec.upto fnExactKeepClearTableSpec)

/-- 'laws.FnExactBoatAt', WHERE WHAT IT READS IS OF BULK AT MOST 1048576: true; the input reads as it did. -/
def fnExactBoatAtUptoRow : OpenClaim := { program := "ytnnjfnbdljakmaa", sum := "24dd0d872638eaab61d2500518533b809ba9bbfb8e9b46ee15db5b34da7b2e7e", func := "loop.example/g00887/laws.FnExactBoatAt", spec := "fnExactBoatAt", inPlace := ["math.sqrt"], apart := false, narrowed := true }
def FnExactBoatAtUptoSaid : Prop := fnExactBoatAtUptoRow.holds Try.pinned (OpenSpec.upto fnExactBoatAtSpec)

/-- 'laws.FnExactRuleAt', WHERE WHAT IT READS IS OF BULK AT MOST 1048576: true; the input reads as it did. -/
def fnExactRuleAtUptoRow : OpenClaim := { program := "ytnnjfnbdljakmaa", sum := "24dd0d872638eaab61d2500518533b809ba9bbfb8e9b46ee15db5b34da7b2e7e", func := "loop.example/g00887/laws.FnExactRuleAt", spec := "fnExactRuleAt", inPlace := ["math.sqrt"], apart := false, narrowed := true }
def FnExactRuleAtUptoSaid : Prop := fnExactRuleAtUptoRow.holds Try.pinned (OpenSpec.upto fnExactRuleAtSpec)

end Rows
end Go.Proofs.Ytnnjfnbdljakmaa
