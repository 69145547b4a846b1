/-
  DERIVED. GIVEN WITH THE SEED: THE CARDS: each row of YtgcdgdnmcdffoaaDoorRows.lean that lists a variable, with what it lists TIED to the program's text (the seventh form; the later family's looks); each row that meets fmt, with fmt's text TOLD by the authors' own Lean function (tested against real Go, not proved from fmt's source: count such statements apart). THE CARD IS WHAT COUNTS. Prove the row's statement (the work); the ties are given (YtgcdgdnmcdffoaaDoorTie.lean); close each card by the builder's one call (the guide's Derived/Test/ToyasCard.lean, 'card_holds'). Laid BY PROGRAM, IN A SANDBOX (cutbox-door.mjs). By AI agents, Wed Nov 11 2026. No macro, syntax, notation, axiom, sorry.
-/
import Derived.Test.YtgcdgdnmcdffoaaDoorRows
import GoSem.ClaimSeven
namespace Go.Proofs.YtgcdgdnmcdffoaaDoor
namespace Rows

/-- THE TIED CARD OF 'laws.FnVisits'. -/
def fnVisitsCard : Claim7 := { stood := { row := fnVisitsRow, standIns := [], harness := (true, "a474a57ef87f4e7ea7ebc13e416415b00c3e81731f1ca5f477a84b0ab1c79253"), looks := false }, kinds := [], alts := [], laidByText := true, laidKinds := [.data, .pinned], laidTests := true, laidLooks := .later }
def FnVisitsCardSaid : Prop := Claim7.holds Tryd.pinned (.plain (OpenSpec.ofChange fnVisitsSpec)) fnVisitsCard

/-- THE TIED CARD OF 'laws.FnFirstToZone'. -/
def fnFirstToZoneCard : Claim7 := { stood := { row := fnFirstToZoneRow, standIns := [], harness := (true, "a474a57ef87f4e7ea7ebc13e416415b00c3e81731f1ca5f477a84b0ab1c79253"), looks := false }, kinds := [], alts := [], laidByText := true, laidKinds := [.data, .pinned], laidTests := true, laidLooks := .later }
def FnFirstToZoneCardSaid : Prop := Claim7.holds Tryd.pinned (.plain (OpenSpec.ofChange fnFirstToZoneSpec)) fnFirstToZoneCard

/-- THE SECOND FORM's CARD OF 'laws.FnVisits'. -/
def fnVisitsUptoCard : Claim7 := { stood := { row := fnVisitsUptoRow, standIns := [], harness := (true, "a474a57ef87f4e7ea7ebc13e416415b00c3e81731f1ca5f477a84b0ab1c79253"), looks := false }, kinds := [], alts := [], laidByText := true, laidKinds := [.data, .pinned], laidTests := true, laidLooks := .later }
def FnVisitsUptoCardSaid : Prop := Claim7.holds Tryd.pinned (.plain (OpenSpec.upto fnVisitsSpec)) fnVisitsUptoCard

/-- THE SECOND FORM's CARD OF 'laws.FnFirstToZone'. -/
def fnFirstToZoneUptoCard : Claim7 := { stood := { row := fnFirstToZoneUptoRow, standIns := [], harness := (true, "a474a57ef87f4e7ea7ebc13e416415b00c3e81731f1ca5f477a84b0ab1c79253"), looks := false }, kinds := [], alts := [], laidByText := true, laidKinds := [.data, .pinned], laidTests := true, laidLooks := .later }
def FnFirstToZoneUptoCardSaid : Prop := Claim7.holds Tryd.pinned (.plain (OpenSpec.upto fnFirstToZoneSpec)) fnFirstToZoneUptoCard
end Rows
end Go.Proofs.YtgcdgdnmcdffoaaDoor
