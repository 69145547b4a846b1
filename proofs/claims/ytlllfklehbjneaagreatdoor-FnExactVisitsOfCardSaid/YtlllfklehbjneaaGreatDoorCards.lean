/-
  DERIVED. GIVEN WITH THE SEED: THE CARDS: each row of YtlllfklehbjneaaGreatDoorRows.lean that lists a variable, with what it lists TIED to the program's text (the seventh form; the later family's looks); each row that meets fmt, with fmt's text TOLD by the authors' own Lean function (tested against real Go, not proved from fmt's source: count such statements apart). THE CARD IS WHAT COUNTS. Prove the row's statement (the work); the ties are given (YtlllfklehbjneaaGreatDoorTie.lean); close each card by the builder's one call (the guide's Derived/Test/ToyasCard.lean, 'card_holds'). Laid BY PROGRAM, IN A SANDBOX (cutbox-door.mjs). By AI agents, Wed Nov 11 2026. No macro, syntax, notation, axiom, sorry.
-/
import Derived.Test.YtlllfklehbjneaaGreatDoorRows
import GoSem.ClaimSeven
namespace Go.Proofs.YtlllfklehbjneaaGreatDoor
namespace Rows

/-- THE TIED CARD OF 'laws.FnExactLegsInZone'. -/
def fnExactLegsInZoneCard : Claim7 := { stood := { row := fnExactLegsInZoneRow, standIns := [], harness := (true, "2c85d9e096807729dcd5a48d077d1edfb216943c3146f809c5673c9429e23103"), looks := false }, kinds := [], alts := [], laidByText := true, laidKinds := [.data, .pinned], laidTests := true, laidLooks := .later }
def FnExactLegsInZoneCardSaid : Prop := Claim7.holds Tryz.pinned (.plain (OpenSpec.ofChange fnExactLegsInZoneSpec)) fnExactLegsInZoneCard

/-- THE TIED CARD OF 'laws.FnExactVisitsOf'. -/
def fnExactVisitsOfCard : Claim7 := { stood := { row := fnExactVisitsOfRow, standIns := [], harness := (true, "2c85d9e096807729dcd5a48d077d1edfb216943c3146f809c5673c9429e23103"), looks := false }, kinds := [], alts := [], laidByText := true, laidKinds := [.data, .pinned], laidTests := true, laidLooks := .later }
def FnExactVisitsOfCardSaid : Prop := Claim7.holds Tryz.pinned (.plain (OpenSpec.ofChange fnExactVisitsOfSpec)) fnExactVisitsOfCard

/-- THE SECOND FORM's CARD OF 'laws.FnExactLegsInZone'. -/
def fnExactLegsInZoneUptoCard : Claim7 := { stood := { row := fnExactLegsInZoneUptoRow, standIns := [], harness := (true, "2c85d9e096807729dcd5a48d077d1edfb216943c3146f809c5673c9429e23103"), looks := false }, kinds := [], alts := [], laidByText := true, laidKinds := [.data, .pinned], laidTests := true, laidLooks := .later }
def FnExactLegsInZoneUptoCardSaid : Prop := Claim7.holds Tryz.pinned (.plain (OpenSpec.upto fnExactLegsInZoneSpec)) fnExactLegsInZoneUptoCard

/-- THE SECOND FORM's CARD OF 'laws.FnExactVisitsOf'. -/
def fnExactVisitsOfUptoCard : Claim7 := { stood := { row := fnExactVisitsOfUptoRow, standIns := [], harness := (true, "2c85d9e096807729dcd5a48d077d1edfb216943c3146f809c5673c9429e23103"), looks := false }, kinds := [], alts := [], laidByText := true, laidKinds := [.data, .pinned], laidTests := true, laidLooks := .later }
def FnExactVisitsOfUptoCardSaid : Prop := Claim7.holds Tryz.pinned (.plain (OpenSpec.upto fnExactVisitsOfSpec)) fnExactVisitsOfUptoCard
end Rows
end Go.Proofs.YtlllfklehbjneaaGreatDoor
