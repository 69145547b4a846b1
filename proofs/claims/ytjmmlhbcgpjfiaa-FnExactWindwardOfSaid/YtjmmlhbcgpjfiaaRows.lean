/-
  No cell of these rows narrows 'for every input' (looked for: loops, veiled, ifaces, maps, wideKeys, modest, calm, conditions, laid).
  DERIVED. THE GIVEN ROWS OF THIS SEAT. 6 by the template 'for every input the law returns true; each argument reads behind the call as it read before'; 0 by the template 'total and deterministic' (their statements: YtjmmlhbcgpjfiaaTotals.lean).
  GIVEN WITH THE SEED: the statements are not yours to turn. If you find one false, say at which input.
  Laid BY PROGRAM, IN A SANDBOX (cutbox-rows.mjs): the forced cells as the released guide's own fill.sh prints them over the translation dbe0e0df19356a84… (all of the seat's roots in one cut). By AI agents, Wed Nov 11 2026. No macro, syntax, notation, axiom, sorry.
-/
import Derived.Test.YtjmmlhbcgpjfiaaChecked
import GoSem.Claim
import GoSem.ClaimJoined
import GoSem.ClaimMapViews
import Derived.JoinedTies
import Derived.KernelRfl
namespace Go.Proofs.Ytjmmlhbcgpjfiaa
/- THE CELL 'sum', in the pinned program and in every row, IS THE sha256 OF THE DUMP (.gsa) THAT YtjmmlhbcgpjfiaaProg.lean LOADS. Nothing in Lean hashes anything: it is a label: what it is worth is what the hold of that sum in a sandbox is worth. -/
noncomputable def Try.pinned : Pinned := { name := "ytjmmlhbcgpjfiaa", sum := "dbe0e0df19356a84d0fa2fdf180be6f26fa65ce1339c857b2ba0db02d58a0037", checked := Try.checked }
namespace Rows
def none {H : Type} : Left H := { results := [], args := [] }

/-- 'laws.FnExactIsWind': WHATEVER THE INPUT: true; the input reads as it did. -/
def fnExactIsWindSpec : ChangeSpec := { name := "fnExactIsWind", fn := fun _ => fun
  | [d] => { results := [.lit (.bool true)], args := [d] }
  | _ => none }
def fnExactIsWindRow : OpenClaim := { program := "ytjmmlhbcgpjfiaa", sum := "dbe0e0df19356a84d0fa2fdf180be6f26fa65ce1339c857b2ba0db02d58a0037", func := "loop.example/g00887/laws.FnExactIsWind", spec := "fnExactIsWind", apart := false }
def FnExactIsWindSaid : Prop := fnExactIsWindRow.holds Try.pinned (OpenSpec.ofChange fnExactIsWindSpec)

/-- ITS FALSE NEIGHBOUR: 'it returns false'. Refute it at one input. -/
def fnExactIsWindWrong : ChangeSpec := { name := "fnExactIsWind", fn := fun _ => fun
  | [d] => { results := [.lit (.bool false)], args := [d] }
  | _ => none }
def FnExactIsWindWrongFalsely : Prop := fnExactIsWindRow.holds Try.pinned (OpenSpec.ofChange fnExactIsWindWrong)

/-- 'laws.FnExactIsRoom': WHATEVER THE INPUT: true; the input reads as it did. -/
def fnExactIsRoomSpec : ChangeSpec := { name := "fnExactIsRoom", fn := fun _ => fun
  | [d] => { results := [.lit (.bool true)], args := [d] }
  | _ => none }
def fnExactIsRoomRow : OpenClaim := { program := "ytjmmlhbcgpjfiaa", sum := "dbe0e0df19356a84d0fa2fdf180be6f26fa65ce1339c857b2ba0db02d58a0037", func := "loop.example/g00887/laws.FnExactIsRoom", spec := "fnExactIsRoom", apart := false }
def FnExactIsRoomSaid : Prop := fnExactIsRoomRow.holds Try.pinned (OpenSpec.ofChange fnExactIsRoomSpec)

/-- ITS FALSE NEIGHBOUR: 'it returns false'. Refute it at one input. -/
def fnExactIsRoomWrong : ChangeSpec := { name := "fnExactIsRoom", fn := fun _ => fun
  | [d] => { results := [.lit (.bool false)], args := [d] }
  | _ => none }
def FnExactIsRoomWrongFalsely : Prop := fnExactIsRoomRow.holds Try.pinned (OpenSpec.ofChange fnExactIsRoomWrong)

/-- 'laws.FnExactIsHull': WHATEVER THE INPUT: true; the input reads as it did. -/
def fnExactIsHullSpec : ChangeSpec := { name := "fnExactIsHull", fn := fun _ => fun
  | [d] => { results := [.lit (.bool true)], args := [d] }
  | _ => none }
def fnExactIsHullRow : OpenClaim := { program := "ytjmmlhbcgpjfiaa", sum := "dbe0e0df19356a84d0fa2fdf180be6f26fa65ce1339c857b2ba0db02d58a0037", func := "loop.example/g00887/laws.FnExactIsHull", spec := "fnExactIsHull", apart := false }
def FnExactIsHullSaid : Prop := fnExactIsHullRow.holds Try.pinned (OpenSpec.ofChange fnExactIsHullSpec)

/-- ITS FALSE NEIGHBOUR: 'it returns false'. Refute it at one input. -/
def fnExactIsHullWrong : ChangeSpec := { name := "fnExactIsHull", fn := fun _ => fun
  | [d] => { results := [.lit (.bool false)], args := [d] }
  | _ => none }
def FnExactIsHullWrongFalsely : Prop := fnExactIsHullRow.holds Try.pinned (OpenSpec.ofChange fnExactIsHullWrong)

/-- 'laws.FnExactSailOf': WHATEVER THE INPUT: true; the input reads as it did. -/
def fnExactSailOfSpec : ChangeSpec := { name := "fnExactSailOf", fn := fun _ => fun
  | [d1, d2] => { results := [.lit (.bool true)], args := [d1, d2] }
  | _ => none }
def fnExactSailOfRow : OpenClaim := { program := "ytjmmlhbcgpjfiaa", sum := "dbe0e0df19356a84d0fa2fdf180be6f26fa65ce1339c857b2ba0db02d58a0037", func := "loop.example/g00887/laws.FnExactSailOf", spec := "fnExactSailOf", apart := false }
def FnExactSailOfSaid : Prop := fnExactSailOfRow.holds Try.pinned (OpenSpec.ofChange fnExactSailOfSpec)

/-- ITS FALSE NEIGHBOUR: 'it returns false'. Refute it at one input. -/
def fnExactSailOfWrong : ChangeSpec := { name := "fnExactSailOf", fn := fun _ => fun
  | [d1, d2] => { results := [.lit (.bool false)], args := [d1, d2] }
  | _ => none }
def FnExactSailOfWrongFalsely : Prop := fnExactSailOfRow.holds Try.pinned (OpenSpec.ofChange fnExactSailOfWrong)

/-- 'laws.FnExactTackOf': WHATEVER THE INPUT: true; the input reads as it did. -/
def fnExactTackOfSpec : ChangeSpec := { name := "fnExactTackOf", fn := fun _ => fun
  | [d1, d2] => { results := [.lit (.bool true)], args := [d1, d2] }
  | _ => none }
def fnExactTackOfRow : OpenClaim := { program := "ytjmmlhbcgpjfiaa", sum := "dbe0e0df19356a84d0fa2fdf180be6f26fa65ce1339c857b2ba0db02d58a0037", func := "loop.example/g00887/laws.FnExactTackOf", spec := "fnExactTackOf", apart := false }
def FnExactTackOfSaid : Prop := fnExactTackOfRow.holds Try.pinned (OpenSpec.ofChange fnExactTackOfSpec)

/-- ITS FALSE NEIGHBOUR: 'it returns false'. Refute it at one input. -/
def fnExactTackOfWrong : ChangeSpec := { name := "fnExactTackOf", fn := fun _ => fun
  | [d1, d2] => { results := [.lit (.bool false)], args := [d1, d2] }
  | _ => none }
def FnExactTackOfWrongFalsely : Prop := fnExactTackOfRow.holds Try.pinned (OpenSpec.ofChange fnExactTackOfWrong)

/-- 'laws.FnExactWindwardOf': WHATEVER THE INPUT: true; the input reads as it did. -/
def fnExactWindwardOfSpec : ChangeSpec := { name := "fnExactWindwardOf", fn := fun _ => fun
  | [d1, d2, d3] => { results := [.lit (.bool true)], args := [d1, d2, d3] }
  | _ => none }
def fnExactWindwardOfRow : OpenClaim := { program := "ytjmmlhbcgpjfiaa", sum := "dbe0e0df19356a84d0fa2fdf180be6f26fa65ce1339c857b2ba0db02d58a0037", func := "loop.example/g00887/laws.FnExactWindwardOf", spec := "fnExactWindwardOf", apart := false }
def FnExactWindwardOfSaid : Prop := fnExactWindwardOfRow.holds Try.pinned (OpenSpec.ofChange fnExactWindwardOfSpec)

/-- ITS FALSE NEIGHBOUR: 'it returns false'. Refute it at one input. -/
def fnExactWindwardOfWrong : ChangeSpec := { name := "fnExactWindwardOf", fn := fun _ => fun
  | [d1, d2, d3] => { results := [.lit (.bool false)], args := [d1, d2, d3] }
  | _ => none }
def FnExactWindwardOfWrongFalsely : Prop := fnExactWindwardOfRow.holds Try.pinned (OpenSpec.ofChange fnExactWindwardOfWrong)

/- THE SECOND FORM. 'bulk': how many values and letters a reading holds, each counted each time it is reached (what is shared counts as often as it is met; a slice's spare places count too). A statement '..UptoSaid' is the law's where the arguments, and the package variables that the reading takes, are together of bulk at most 1048576: NARROWER than '..Said'. Prove '..Said' where nothing that the law and all that it calls make is longer than what came in: it says more and counts as full. Else prove '..UptoSaid'. A law counts once. -/
mutual
def uptoBulk {H : Type} : DataW H → Nat
  | .lit (.string bytes) => bytes.length + 1
  | .lit _ => 1
  | .nil => 1
  | .ptr d => uptoBulk d + 1
  | .slice elems spare => uptoBulkAll elems + uptoBulkAll spare + 1
  | .agg parts => uptoBulkAll parts + 1
  | .iface _ d => uptoBulk d + 1
  | .map entries => uptoBulkEntries entries + 1
  | .held _ => 1
def uptoBulkAll {H : Type} : List (DataW H) → Nat
  | [] => 0
  | d :: r => uptoBulk d + uptoBulkAll r
def uptoBulkEntries {H : Type} : List (Lit × DataW H) → Nat
  | [] => 0
  | x :: r => uptoBulkEntry x + uptoBulkEntries r
def uptoBulkEntry {H : Type} : Lit × DataW H → Nat
  | (.string bytes, d) => bytes.length + uptoBulk d + 1
  | (_, d) => uptoBulk d + 1
 end
def uptoSmall : (H : Type) → List (DataW H) → Bool := fun _ ds => decide (uptoBulkAll ds ≤ 1048576)
def OpenSpec.upto (s : _root_.Go.ChangeSpec) : _root_.Go.OpenSpec := { _root_.Go.OpenSpec.ofChange s with cond := some uptoSmall }

/-- 'laws.FnExactIsWind', WHERE WHAT IT READS IS OF BULK AT MOST 1048576: true; the input reads as it did. -/
def fnExactIsWindUptoRow : OpenClaim := { program := "ytjmmlhbcgpjfiaa", sum := "dbe0e0df19356a84d0fa2fdf180be6f26fa65ce1339c857b2ba0db02d58a0037", func := "loop.example/g00887/laws.FnExactIsWind", spec := "fnExactIsWind", apart := false, narrowed := true }
def FnExactIsWindUptoSaid : Prop := fnExactIsWindUptoRow.holds Try.pinned (OpenSpec.upto fnExactIsWindSpec)

/-- 'laws.FnExactIsRoom', WHERE WHAT IT READS IS OF BULK AT MOST 1048576: true; the input reads as it did. -/
def fnExactIsRoomUptoRow : OpenClaim := { program := "ytjmmlhbcgpjfiaa", sum := "dbe0e0df19356a84d0fa2fdf180be6f26fa65ce1339c857b2ba0db02d58a0037", func := "loop.example/g00887/laws.FnExactIsRoom", spec := "fnExactIsRoom", apart := false, narrowed := true }
def FnExactIsRoomUptoSaid : Prop := fnExactIsRoomUptoRow.holds Try.pinned (OpenSpec.upto fnExactIsRoomSpec)

/-- 'laws.FnExactIsHull', WHERE WHAT IT READS IS OF BULK AT MOST 1048576: true; the input reads as it did. -/
def fnExactIsHullUptoRow : OpenClaim := { program := "ytjmmlhbcgpjfiaa", sum := "dbe0e0df19356a84d0fa2fdf180be6f26fa65ce1339c857b2ba0db02d58a0037", func := "loop.example/g00887/laws.FnExactIsHull", spec := "fnExactIsHull", apart := false, narrowed := true }
def FnExactIsHullUptoSaid : Prop := fnExactIsHullUptoRow.holds Try.pinned (OpenSpec.upto fnExactIsHullSpec)

/-- 'laws.FnExactSailOf', WHERE WHAT IT READS IS OF BULK AT MOST 1048576: true; the input reads as it did. -/
def fnExactSailOfUptoRow : OpenClaim := { program := "ytjmmlhbcgpjfiaa", sum := "dbe0e0df19356a84d0fa2fdf180be6f26fa65ce1339c857b2ba0db02d58a0037", func := "loop.example/g00887/laws.FnExactSailOf", spec := "fnExactSailOf", apart := false, narrowed := true }
def FnExactSailOfUptoSaid : Prop := fnExactSailOfUptoRow.holds Try.pinned (OpenSpec.upto fnExactSailOfSpec)

/-- 'laws.FnExactTackOf', WHERE WHAT IT READS IS OF BULK AT MOST 1048576: true; the input reads as it did. -/
def fnExactTackOfUptoRow : OpenClaim := { program := "ytjmmlhbcgpjfiaa", sum := "dbe0e0df19356a84d0fa2fdf180be6f26fa65ce1339c857b2ba0db02d58a0037", func := "loop.example/g00887/laws.FnExactTackOf", spec := "fnExactTackOf", apart := false, narrowed := true }
def FnExactTackOfUptoSaid : Prop := fnExactTackOfUptoRow.holds Try.pinned (OpenSpec.upto fnExactTackOfSpec)

/-- 'laws.FnExactWindwardOf', WHERE WHAT IT READS IS OF BULK AT MOST 1048576: true; the input reads as it did. -/
def fnExactWindwardOfUptoRow : OpenClaim := { program := "ytjmmlhbcgpjfiaa", sum := "dbe0e0df19356a84d0fa2fdf180be6f26fa65ce1339c857b2ba0db02d58a0037", func := "loop.example/g00887/laws.FnExactWindwardOf", spec := "fnExactWindwardOf", apart := false, narrowed := true }
def FnExactWindwardOfUptoSaid : Prop := fnExactWindwardOfUptoRow.holds Try.pinned (OpenSpec.upto fnExactWindwardOfSpec)

end Rows
end Go.Proofs.Ytjmmlhbcgpjfiaa
