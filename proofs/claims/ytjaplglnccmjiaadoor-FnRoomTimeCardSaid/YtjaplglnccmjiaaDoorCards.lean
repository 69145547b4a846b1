/-
  DERIVED. GIVEN WITH THE SEED: THE CARDS: each row of YtjaplglnccmjiaaDoorRows.lean that lists a variable, with what it lists TIED to the program's text (the seventh form; the later family's looks); each row that meets fmt, with fmt's text TOLD by the authors' own Lean function (tested against real Go, not proved from fmt's source: count such statements apart). THE CARD IS WHAT COUNTS. Prove the row's statement (the work); the ties are given (YtjaplglnccmjiaaDoorTie.lean); close each card by the builder's one call (the guide's Derived/Test/ToyasCard.lean, 'card_holds'). Laid BY PROGRAM, IN A SANDBOX (cutbox-door.mjs). By AI agents, Wed Nov 11 2026. No macro, syntax, notation, axiom, sorry.
-/
import Derived.Test.YtjaplglnccmjiaaDoorRows
import GoSem.ClaimSeven
namespace Go.Proofs.YtjaplglnccmjiaaDoor
namespace Rows

/-- THE TIED CARD OF 'laws.FnVisits'. -/
def fnVisitsCard : Claim7 := { stood := { row := fnVisitsRow, standIns := [], harness := (true, "ea413e7f247a4600454711ac733897b11d6410e5f0be8d7defa03a0cf2566ad9"), looks := false }, kinds := [], alts := [], laidByText := true, laidKinds := [.data, .pinned], laidTests := true, laidLooks := .later }
def FnVisitsCardSaid : Prop := Claim7.holds Tryd.pinned (.plain (OpenSpec.ofChange fnVisitsSpec)) fnVisitsCard

/-- THE TIED CARD OF 'laws.FnRoomTime'. -/
def fnRoomTimeCard : Claim7 := { stood := { row := fnRoomTimeRow, standIns := [], harness := (true, "ea413e7f247a4600454711ac733897b11d6410e5f0be8d7defa03a0cf2566ad9"), looks := false }, kinds := [], alts := [], laidByText := true, laidKinds := [.data, .pinned], laidTests := true, laidLooks := .later }
def FnRoomTimeCardSaid : Prop := Claim7.holds Tryd.pinned (.plain (OpenSpec.ofChange fnRoomTimeSpec)) fnRoomTimeCard

/-- THE TIED CARD OF 'laws.FnFirstToZone'. -/
def fnFirstToZoneCard : Claim7 := { stood := { row := fnFirstToZoneRow, standIns := [], harness := (true, "ea413e7f247a4600454711ac733897b11d6410e5f0be8d7defa03a0cf2566ad9"), looks := false }, kinds := [], alts := [], laidByText := true, laidKinds := [.data, .pinned], laidTests := true, laidLooks := .later }
def FnFirstToZoneCardSaid : Prop := Claim7.holds Tryd.pinned (.plain (OpenSpec.ofChange fnFirstToZoneSpec)) fnFirstToZoneCard

/-- THE SECOND FORM's CARD OF 'laws.FnVisits'. -/
def fnVisitsUptoCard : Claim7 := { stood := { row := fnVisitsUptoRow, standIns := [], harness := (true, "ea413e7f247a4600454711ac733897b11d6410e5f0be8d7defa03a0cf2566ad9"), looks := false }, kinds := [], alts := [], laidByText := true, laidKinds := [.data, .pinned], laidTests := true, laidLooks := .later }
def FnVisitsUptoCardSaid : Prop := Claim7.holds Tryd.pinned (.plain (OpenSpec.upto fnVisitsSpec)) fnVisitsUptoCard

/-- THE SECOND FORM's CARD OF 'laws.FnRoomTime'. -/
def fnRoomTimeUptoCard : Claim7 := { stood := { row := fnRoomTimeUptoRow, standIns := [], harness := (true, "ea413e7f247a4600454711ac733897b11d6410e5f0be8d7defa03a0cf2566ad9"), looks := false }, kinds := [], alts := [], laidByText := true, laidKinds := [.data, .pinned], laidTests := true, laidLooks := .later }
def FnRoomTimeUptoCardSaid : Prop := Claim7.holds Tryd.pinned (.plain (OpenSpec.upto fnRoomTimeSpec)) fnRoomTimeUptoCard

/-- THE SECOND FORM's CARD OF 'laws.FnFirstToZone'. -/
def fnFirstToZoneUptoCard : Claim7 := { stood := { row := fnFirstToZoneUptoRow, standIns := [], harness := (true, "ea413e7f247a4600454711ac733897b11d6410e5f0be8d7defa03a0cf2566ad9"), looks := false }, kinds := [], alts := [], laidByText := true, laidKinds := [.data, .pinned], laidTests := true, laidLooks := .later }
def FnFirstToZoneUptoCardSaid : Prop := Claim7.holds Tryd.pinned (.plain (OpenSpec.upto fnFirstToZoneSpec)) fnFirstToZoneUptoCard
end Rows
end Go.Proofs.YtjaplglnccmjiaaDoor
