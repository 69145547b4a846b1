/-
  DERIVED. GIVEN WITH THE SEED: THE CARDS: each row of YthlnpcneicmblaaGreatDoorRows.lean that lists a variable, with what it lists TIED to the program's text (the seventh form; the later family's looks); each row that meets fmt, with fmt's text TOLD by the authors' own Lean function (tested against real Go, not proved from fmt's source: count such statements apart). THE CARD IS WHAT COUNTS. Prove the row's statement (the work); the ties are given (YthlnpcneicmblaaGreatDoorTie.lean); close each card by the builder's one call (the guide's Derived/Test/ToyasCard.lean, 'card_holds'). Laid BY PROGRAM, IN A SANDBOX (cutbox-door.mjs). By AI agents, Wed Nov 11 2026. No macro, syntax, notation, axiom, sorry.
-/
import Derived.Test.YthlnpcneicmblaaGreatDoorRows
import GoSem.ClaimSeven
namespace Go.Proofs.YthlnpcneicmblaaGreatDoor
namespace Rows

/-- THE TIED CARD OF 'laws.FnRoomTable'. -/
def fnRoomTableCard : Claim7 := { stood := { row := fnRoomTableRow, standIns := [], harness := (true, "f0f9648bd39a753d7c42a71272e2b9aef7c4444779ab019e4df17509ee776089"), looks := false }, kinds := [], alts := [], laidByText := true, laidKinds := [.data, .pinned], laidTests := true, laidLooks := .later }
def FnRoomTableCardSaid : Prop := Claim7.holds Tryz.pinned (.plain (OpenSpec.ofChange fnRoomTableSpec)) fnRoomTableCard

/-- THE SECOND FORM's CARD OF 'laws.FnRoomTable'. -/
def fnRoomTableUptoCard : Claim7 := { stood := { row := fnRoomTableUptoRow, standIns := [], harness := (true, "f0f9648bd39a753d7c42a71272e2b9aef7c4444779ab019e4df17509ee776089"), looks := false }, kinds := [], alts := [], laidByText := true, laidKinds := [.data, .pinned], laidTests := true, laidLooks := .later }
def FnRoomTableUptoCardSaid : Prop := Claim7.holds Tryz.pinned (.plain (OpenSpec.upto fnRoomTableSpec)) fnRoomTableUptoCard
end Rows
end Go.Proofs.YthlnpcneicmblaaGreatDoor
