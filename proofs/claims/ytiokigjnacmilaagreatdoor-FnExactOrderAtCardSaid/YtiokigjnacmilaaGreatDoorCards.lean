/-
  DERIVED. GIVEN WITH THE SEED: THE CARDS: each row of YtiokigjnacmilaaGreatDoorRows.lean that lists a variable, with what it lists TIED to the program's text (the seventh form; the later family's looks); each row that meets fmt, with fmt's text TOLD by the authors' own Lean function (tested against real Go, not proved from fmt's source: count such statements apart). THE CARD IS WHAT COUNTS. Prove the row's statement (the work); the ties are given (YtiokigjnacmilaaGreatDoorTie.lean); close each card by the builder's one call (the guide's Derived/Test/ToyasCard.lean, 'card_holds'). Laid BY PROGRAM, IN A SANDBOX (cutbox-door.mjs). By AI agents, Wed Nov 11 2026. No macro, syntax, notation, axiom, sorry.
-/
import Derived.Test.YtiokigjnacmilaaGreatDoorRows
import GoSem.ClaimSeven
namespace Go.Proofs.YtiokigjnacmilaaGreatDoor
namespace Rows

/-- THE TIED CARD OF 'laws.FnExactOrderAt'. -/
def fnExactOrderAtCard : Claim7 := { stood := { row := fnExactOrderAtRow, standIns := [], harness := (true, "b9bb044dec7e87fd7a3752e2366363e48dc18224f3fd9d6513a6e862d574c5b1"), looks := false }, kinds := [], alts := [], laidByText := true, laidKinds := [.data, .pinned], laidTests := true, laidLooks := .later }
def FnExactOrderAtCardSaid : Prop := Claim7.holds Tryz.pinned (.plain (OpenSpec.ofChange fnExactOrderAtSpec)) fnExactOrderAtCard

/-- THE SECOND FORM's CARD OF 'laws.FnExactOrderAt'. -/
def fnExactOrderAtUptoCard : Claim7 := { stood := { row := fnExactOrderAtUptoRow, standIns := [], harness := (true, "b9bb044dec7e87fd7a3752e2366363e48dc18224f3fd9d6513a6e862d574c5b1"), looks := false }, kinds := [], alts := [], laidByText := true, laidKinds := [.data, .pinned], laidTests := true, laidLooks := .later }
def FnExactOrderAtUptoCardSaid : Prop := Claim7.holds Tryz.pinned (.plain (OpenSpec.upto fnExactOrderAtSpec)) fnExactOrderAtUptoCard
end Rows
end Go.Proofs.YtiokigjnacmilaaGreatDoor
