/-
  DERIVED. GIVEN WITH THE SEED: THE CARDS: each row of YtgcdgdnmcdffoaaGreatDoorRows.lean that lists a variable, with what it lists TIED to the program's text (the seventh form; the later family's looks); each row that meets fmt, with fmt's text TOLD by the authors' own Lean function (tested against real Go, not proved from fmt's source: count such statements apart). THE CARD IS WHAT COUNTS. Prove the row's statement (the work); the ties are given (YtgcdgdnmcdffoaaGreatDoorTie.lean); close each card by the builder's one call (the guide's Derived/Test/ToyasCard.lean, 'card_holds'). Laid BY PROGRAM, IN A SANDBOX (cutbox-door.mjs). By AI agents, Wed Nov 11 2026. No macro, syntax, notation, axiom, sorry.
-/
import Derived.Test.YtgcdgdnmcdffoaaGreatDoorRows
import GoSem.ClaimSeven
namespace Go.Proofs.YtgcdgdnmcdffoaaGreatDoor
namespace Rows

/-- THE TIED CARD OF 'laws.FnZone'. -/
def fnZoneCard : Claim7 := { stood := { row := fnZoneRow, standIns := [], harness := (true, "ecc344695a176d2d207475dfdbbdb0fec1d7efab3067b4dfaa0c36aeb15b4ba9"), looks := false }, kinds := [], alts := [], laidByText := true, laidKinds := [.data, .pinned], laidTests := true, laidLooks := .later }
def FnZoneCardSaid : Prop := Claim7.holds Tryz.pinned (.plain (OpenSpec.ofChange fnZoneSpec)) fnZoneCard

/-- THE TIED CARD OF 'laws.FnNearest'. -/
def fnNearestCard : Claim7 := { stood := { row := fnNearestRow, standIns := [], harness := (true, "ecc344695a176d2d207475dfdbbdb0fec1d7efab3067b4dfaa0c36aeb15b4ba9"), looks := false }, kinds := [], alts := [], laidByText := true, laidKinds := [.data, .pinned], laidTests := true, laidLooks := .later }
def FnNearestCardSaid : Prop := Claim7.holds Tryz.pinned (.plain (OpenSpec.ofChange fnNearestSpec)) fnNearestCard

/-- THE TIED CARD OF 'laws.FnRoomTable'. -/
def fnRoomTableCard : Claim7 := { stood := { row := fnRoomTableRow, standIns := [], harness := (true, "ecc344695a176d2d207475dfdbbdb0fec1d7efab3067b4dfaa0c36aeb15b4ba9"), looks := false }, kinds := [], alts := [], laidByText := true, laidKinds := [.data, .pinned], laidTests := true, laidLooks := .later }
def FnRoomTableCardSaid : Prop := Claim7.holds Tryz.pinned (.plain (OpenSpec.ofChange fnRoomTableSpec)) fnRoomTableCard

/-- THE TIED CARD OF 'laws.FnSailed'. -/
def fnSailedCard : Claim7 := { stood := { row := fnSailedRow, standIns := [], harness := (true, "ecc344695a176d2d207475dfdbbdb0fec1d7efab3067b4dfaa0c36aeb15b4ba9"), looks := false }, kinds := [], alts := [], laidByText := true, laidKinds := [.data, .pinned], laidTests := true, laidLooks := .later }
def FnSailedCardSaid : Prop := Claim7.holds Tryz.pinned (.plain (OpenSpec.ofChange fnSailedSpec)) fnSailedCard

/-- THE TIED CARD OF 'laws.FnOrder'. -/
def fnOrderCard : Claim7 := { stood := { row := fnOrderRow, standIns := [], harness := (true, "ecc344695a176d2d207475dfdbbdb0fec1d7efab3067b4dfaa0c36aeb15b4ba9"), looks := false }, kinds := [], alts := [], laidByText := true, laidKinds := [.data, .pinned], laidTests := true, laidLooks := .later }
def FnOrderCardSaid : Prop := Claim7.holds Tryz.pinned (.plain (OpenSpec.ofChange fnOrderSpec)) fnOrderCard

/-- THE SECOND FORM's CARD OF 'laws.FnZone'. -/
def fnZoneUptoCard : Claim7 := { stood := { row := fnZoneUptoRow, standIns := [], harness := (true, "ecc344695a176d2d207475dfdbbdb0fec1d7efab3067b4dfaa0c36aeb15b4ba9"), looks := false }, kinds := [], alts := [], laidByText := true, laidKinds := [.data, .pinned], laidTests := true, laidLooks := .later }
def FnZoneUptoCardSaid : Prop := Claim7.holds Tryz.pinned (.plain (OpenSpec.upto fnZoneSpec)) fnZoneUptoCard

/-- THE SECOND FORM's CARD OF 'laws.FnNearest'. -/
def fnNearestUptoCard : Claim7 := { stood := { row := fnNearestUptoRow, standIns := [], harness := (true, "ecc344695a176d2d207475dfdbbdb0fec1d7efab3067b4dfaa0c36aeb15b4ba9"), looks := false }, kinds := [], alts := [], laidByText := true, laidKinds := [.data, .pinned], laidTests := true, laidLooks := .later }
def FnNearestUptoCardSaid : Prop := Claim7.holds Tryz.pinned (.plain (OpenSpec.upto fnNearestSpec)) fnNearestUptoCard

/-- THE SECOND FORM's CARD OF 'laws.FnRoomTable'. -/
def fnRoomTableUptoCard : Claim7 := { stood := { row := fnRoomTableUptoRow, standIns := [], harness := (true, "ecc344695a176d2d207475dfdbbdb0fec1d7efab3067b4dfaa0c36aeb15b4ba9"), looks := false }, kinds := [], alts := [], laidByText := true, laidKinds := [.data, .pinned], laidTests := true, laidLooks := .later }
def FnRoomTableUptoCardSaid : Prop := Claim7.holds Tryz.pinned (.plain (OpenSpec.upto fnRoomTableSpec)) fnRoomTableUptoCard

/-- THE SECOND FORM's CARD OF 'laws.FnSailed'. -/
def fnSailedUptoCard : Claim7 := { stood := { row := fnSailedUptoRow, standIns := [], harness := (true, "ecc344695a176d2d207475dfdbbdb0fec1d7efab3067b4dfaa0c36aeb15b4ba9"), looks := false }, kinds := [], alts := [], laidByText := true, laidKinds := [.data, .pinned], laidTests := true, laidLooks := .later }
def FnSailedUptoCardSaid : Prop := Claim7.holds Tryz.pinned (.plain (OpenSpec.upto fnSailedSpec)) fnSailedUptoCard

/-- THE SECOND FORM's CARD OF 'laws.FnOrder'. -/
def fnOrderUptoCard : Claim7 := { stood := { row := fnOrderUptoRow, standIns := [], harness := (true, "ecc344695a176d2d207475dfdbbdb0fec1d7efab3067b4dfaa0c36aeb15b4ba9"), looks := false }, kinds := [], alts := [], laidByText := true, laidKinds := [.data, .pinned], laidTests := true, laidLooks := .later }
def FnOrderUptoCardSaid : Prop := Claim7.holds Tryz.pinned (.plain (OpenSpec.upto fnOrderSpec)) fnOrderUptoCard
end Rows
end Go.Proofs.YtgcdgdnmcdffoaaGreatDoor
