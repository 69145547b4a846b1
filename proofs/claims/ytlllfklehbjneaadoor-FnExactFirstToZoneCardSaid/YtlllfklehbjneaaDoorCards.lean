/-
  DERIVED. GIVEN WITH THE SEED: THE CARDS: each row of YtlllfklehbjneaaDoorRows.lean that lists a variable, with what it lists TIED to the program's text (the seventh form; the later family's looks); each row that meets fmt, with fmt's text TOLD by the authors' own Lean function (tested against real Go, not proved from fmt's source: count such statements apart). THE CARD IS WHAT COUNTS. Prove the row's statement (the work); the ties are given (YtlllfklehbjneaaDoorTie.lean); close each card by the builder's one call (the guide's Derived/Test/ToyasCard.lean, 'card_holds'). Laid BY PROGRAM, IN A SANDBOX (cutbox-door.mjs). By AI agents, Wed Nov 11 2026. No macro, syntax, notation, axiom, sorry.
-/
import Derived.Test.YtlllfklehbjneaaDoorRows
import GoSem.ClaimSeven
namespace Go.Proofs.YtlllfklehbjneaaDoor
namespace Rows

/-- THE TIED CARD OF 'laws.FnExactInZoneAt'. -/
def fnExactInZoneAtCard : Claim7 := { stood := { row := fnExactInZoneAtRow, standIns := [], harness := (true, "ca9a4e23d7f36c513275cf82dd97f656732b604b2576d0f00648b839f14d2e02"), looks := false }, kinds := [], alts := [], laidByText := true, laidKinds := [.data, .pinned], laidTests := true, laidLooks := .later }
def FnExactInZoneAtCardSaid : Prop := Claim7.holds Tryd.pinned (.plain (OpenSpec.ofChange fnExactInZoneAtSpec)) fnExactInZoneAtCard

/-- THE TIED CARD OF 'laws.FnExactDistanceToMark'. -/
def fnExactDistanceToMarkCard : Claim7 := { stood := { row := fnExactDistanceToMarkRow, standIns := [], harness := (true, "ca9a4e23d7f36c513275cf82dd97f656732b604b2576d0f00648b839f14d2e02"), looks := false }, kinds := [], alts := [], laidByText := true, laidKinds := [.data, .pinned], laidTests := true, laidLooks := .later }
def FnExactDistanceToMarkCardSaid : Prop := Claim7.holds Tryd.pinned (.plain (OpenSpec.ofChange fnExactDistanceToMarkSpec)) fnExactDistanceToMarkCard

/-- THE TIED CARD OF 'laws.FnExactLengthsToMark'. -/
def fnExactLengthsToMarkCard : Claim7 := { stood := { row := fnExactLengthsToMarkRow, standIns := [], harness := (true, "ca9a4e23d7f36c513275cf82dd97f656732b604b2576d0f00648b839f14d2e02"), looks := false }, kinds := [], alts := [], laidByText := true, laidKinds := [.data, .pinned], laidTests := true, laidLooks := .later }
def FnExactLengthsToMarkCardSaid : Prop := Claim7.holds Tryd.pinned (.plain (OpenSpec.ofChange fnExactLengthsToMarkSpec)) fnExactLengthsToMarkCard

/-- THE TIED CARD OF 'laws.FnExactNearestOnTrack'. -/
def fnExactNearestOnTrackCard : Claim7 := { stood := { row := fnExactNearestOnTrackRow, standIns := [], harness := (true, "ca9a4e23d7f36c513275cf82dd97f656732b604b2576d0f00648b839f14d2e02"), looks := false }, kinds := [], alts := [], laidByText := true, laidKinds := [.data, .pinned], laidTests := true, laidLooks := .later }
def FnExactNearestOnTrackCardSaid : Prop := Claim7.holds Tryd.pinned (.plain (OpenSpec.ofChange fnExactNearestOnTrackSpec)) fnExactNearestOnTrackCard

/-- THE TIED CARD OF 'laws.FnExactComesAt'. -/
def fnExactComesAtCard : Claim7 := { stood := { row := fnExactComesAtRow, standIns := [], harness := (true, "ca9a4e23d7f36c513275cf82dd97f656732b604b2576d0f00648b839f14d2e02"), looks := false }, kinds := [], alts := [], laidByText := true, laidKinds := [.data, .pinned], laidTests := true, laidLooks := .later }
def FnExactComesAtCardSaid : Prop := Claim7.holds Tryd.pinned (.plain (OpenSpec.ofChange fnExactComesAtSpec)) fnExactComesAtCard

/-- THE TIED CARD OF 'laws.FnExactRoomTime'. -/
def fnExactRoomTimeCard : Claim7 := { stood := { row := fnExactRoomTimeRow, standIns := [], harness := (true, "ca9a4e23d7f36c513275cf82dd97f656732b604b2576d0f00648b839f14d2e02"), looks := false }, kinds := [], alts := [], laidByText := true, laidKinds := [.data, .pinned], laidTests := true, laidLooks := .later }
def FnExactRoomTimeCardSaid : Prop := Claim7.holds Tryd.pinned (.plain (OpenSpec.ofChange fnExactRoomTimeSpec)) fnExactRoomTimeCard

/-- THE TIED CARD OF 'laws.FnExactFirstToZone'. -/
def fnExactFirstToZoneCard : Claim7 := { stood := { row := fnExactFirstToZoneRow, standIns := [], harness := (true, "ca9a4e23d7f36c513275cf82dd97f656732b604b2576d0f00648b839f14d2e02"), looks := false }, kinds := [], alts := [], laidByText := true, laidKinds := [.data, .pinned], laidTests := true, laidLooks := .later }
def FnExactFirstToZoneCardSaid : Prop := Claim7.holds Tryd.pinned (.plain (OpenSpec.ofChange fnExactFirstToZoneSpec)) fnExactFirstToZoneCard

/-- THE SECOND FORM's CARD OF 'laws.FnExactInZoneAt'. -/
def fnExactInZoneAtUptoCard : Claim7 := { stood := { row := fnExactInZoneAtUptoRow, standIns := [], harness := (true, "ca9a4e23d7f36c513275cf82dd97f656732b604b2576d0f00648b839f14d2e02"), looks := false }, kinds := [], alts := [], laidByText := true, laidKinds := [.data, .pinned], laidTests := true, laidLooks := .later }
def FnExactInZoneAtUptoCardSaid : Prop := Claim7.holds Tryd.pinned (.plain (OpenSpec.upto fnExactInZoneAtSpec)) fnExactInZoneAtUptoCard

/-- THE SECOND FORM's CARD OF 'laws.FnExactDistanceToMark'. -/
def fnExactDistanceToMarkUptoCard : Claim7 := { stood := { row := fnExactDistanceToMarkUptoRow, standIns := [], harness := (true, "ca9a4e23d7f36c513275cf82dd97f656732b604b2576d0f00648b839f14d2e02"), looks := false }, kinds := [], alts := [], laidByText := true, laidKinds := [.data, .pinned], laidTests := true, laidLooks := .later }
def FnExactDistanceToMarkUptoCardSaid : Prop := Claim7.holds Tryd.pinned (.plain (OpenSpec.upto fnExactDistanceToMarkSpec)) fnExactDistanceToMarkUptoCard

/-- THE SECOND FORM's CARD OF 'laws.FnExactLengthsToMark'. -/
def fnExactLengthsToMarkUptoCard : Claim7 := { stood := { row := fnExactLengthsToMarkUptoRow, standIns := [], harness := (true, "ca9a4e23d7f36c513275cf82dd97f656732b604b2576d0f00648b839f14d2e02"), looks := false }, kinds := [], alts := [], laidByText := true, laidKinds := [.data, .pinned], laidTests := true, laidLooks := .later }
def FnExactLengthsToMarkUptoCardSaid : Prop := Claim7.holds Tryd.pinned (.plain (OpenSpec.upto fnExactLengthsToMarkSpec)) fnExactLengthsToMarkUptoCard

/-- THE SECOND FORM's CARD OF 'laws.FnExactNearestOnTrack'. -/
def fnExactNearestOnTrackUptoCard : Claim7 := { stood := { row := fnExactNearestOnTrackUptoRow, standIns := [], harness := (true, "ca9a4e23d7f36c513275cf82dd97f656732b604b2576d0f00648b839f14d2e02"), looks := false }, kinds := [], alts := [], laidByText := true, laidKinds := [.data, .pinned], laidTests := true, laidLooks := .later }
def FnExactNearestOnTrackUptoCardSaid : Prop := Claim7.holds Tryd.pinned (.plain (OpenSpec.upto fnExactNearestOnTrackSpec)) fnExactNearestOnTrackUptoCard

/-- THE SECOND FORM's CARD OF 'laws.FnExactComesAt'. -/
def fnExactComesAtUptoCard : Claim7 := { stood := { row := fnExactComesAtUptoRow, standIns := [], harness := (true, "ca9a4e23d7f36c513275cf82dd97f656732b604b2576d0f00648b839f14d2e02"), looks := false }, kinds := [], alts := [], laidByText := true, laidKinds := [.data, .pinned], laidTests := true, laidLooks := .later }
def FnExactComesAtUptoCardSaid : Prop := Claim7.holds Tryd.pinned (.plain (OpenSpec.upto fnExactComesAtSpec)) fnExactComesAtUptoCard

/-- THE SECOND FORM's CARD OF 'laws.FnExactRoomTime'. -/
def fnExactRoomTimeUptoCard : Claim7 := { stood := { row := fnExactRoomTimeUptoRow, standIns := [], harness := (true, "ca9a4e23d7f36c513275cf82dd97f656732b604b2576d0f00648b839f14d2e02"), looks := false }, kinds := [], alts := [], laidByText := true, laidKinds := [.data, .pinned], laidTests := true, laidLooks := .later }
def FnExactRoomTimeUptoCardSaid : Prop := Claim7.holds Tryd.pinned (.plain (OpenSpec.upto fnExactRoomTimeSpec)) fnExactRoomTimeUptoCard

/-- THE SECOND FORM's CARD OF 'laws.FnExactFirstToZone'. -/
def fnExactFirstToZoneUptoCard : Claim7 := { stood := { row := fnExactFirstToZoneUptoRow, standIns := [], harness := (true, "ca9a4e23d7f36c513275cf82dd97f656732b604b2576d0f00648b839f14d2e02"), looks := false }, kinds := [], alts := [], laidByText := true, laidKinds := [.data, .pinned], laidTests := true, laidLooks := .later }
def FnExactFirstToZoneUptoCardSaid : Prop := Claim7.holds Tryd.pinned (.plain (OpenSpec.upto fnExactFirstToZoneSpec)) fnExactFirstToZoneUptoCard
end Rows
end Go.Proofs.YtlllfklehbjneaaDoor
