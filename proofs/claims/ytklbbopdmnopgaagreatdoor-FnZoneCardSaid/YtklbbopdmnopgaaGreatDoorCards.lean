/-
  DERIVED. GIVEN WITH THE SEED: THE CARDS: each row of YtklbbopdmnopgaaGreatDoorRows.lean that lists a variable, with what it lists TIED to the program's text (the seventh form; the later family's looks); each row that meets fmt, with fmt's text TOLD by the authors' own Lean function (tested against real Go, not proved from fmt's source: count such statements apart). THE CARD IS WHAT COUNTS. Prove the row's statement (the work); the ties are given (YtklbbopdmnopgaaGreatDoorTie.lean); close each card by the builder's one call (the guide's Derived/Test/ToyasCard.lean, 'card_holds'). Laid BY PROGRAM, IN A SANDBOX (cutbox-door.mjs). By AI agents, Wed Nov 11 2026. No macro, syntax, notation, axiom, sorry.
-/
import Derived.Test.YtklbbopdmnopgaaGreatDoorRows
import GoSem.ClaimSeven
namespace Go.Proofs.YtklbbopdmnopgaaGreatDoor
namespace Rows

/-- THE TIED CARD OF 'laws.FnZone'. -/
def fnZoneCard : Claim7 := { stood := { row := fnZoneRow, standIns := [], harness := (true, "4d1be6c5bc556833807f6a5ed5237b221b01ab357ceb882db2e6d3382263a6a0"), looks := false }, kinds := [], alts := [], laidByText := true, laidKinds := [.data, .pinned], laidTests := true, laidLooks := .later }
def FnZoneCardSaid : Prop := Claim7.holds Tryz.pinned (.plain (OpenSpec.ofChange fnZoneSpec)) fnZoneCard

/-- THE SECOND FORM's CARD OF 'laws.FnZone'. -/
def fnZoneUptoCard : Claim7 := { stood := { row := fnZoneUptoRow, standIns := [], harness := (true, "4d1be6c5bc556833807f6a5ed5237b221b01ab357ceb882db2e6d3382263a6a0"), looks := false }, kinds := [], alts := [], laidByText := true, laidKinds := [.data, .pinned], laidTests := true, laidLooks := .later }
def FnZoneUptoCardSaid : Prop := Claim7.holds Tryz.pinned (.plain (OpenSpec.upto fnZoneSpec)) fnZoneUptoCard
end Rows
end Go.Proofs.YtklbbopdmnopgaaGreatDoor
