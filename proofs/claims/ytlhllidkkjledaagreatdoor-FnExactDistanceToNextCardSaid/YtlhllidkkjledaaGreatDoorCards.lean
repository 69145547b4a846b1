/-
  DERIVED. GIVEN WITH THE SEED: THE CARDS: each row of YtlhllidkkjledaaGreatDoorRows.lean that lists a variable, with what it lists TIED to the program's text (the seventh form; the later family's looks); each row that meets fmt, with fmt's text TOLD by the authors' own Lean function (tested against real Go, not proved from fmt's source: count such statements apart). THE CARD IS WHAT COUNTS. Prove the row's statement (the work); the ties are given (YtlhllidkkjledaaGreatDoorTie.lean); close each card by the builder's one call (the guide's Derived/Test/ToyasCard.lean, 'card_holds'). Laid BY PROGRAM, IN A SANDBOX (cutbox-door.mjs). By AI agents, Wed Nov 11 2026. No macro, syntax, notation, axiom, sorry.
-/
import Derived.Test.YtlhllidkkjledaaGreatDoorRows
import GoSem.ClaimSeven
namespace Go.Proofs.YtlhllidkkjledaaGreatDoor
namespace Rows

/-- THE TIED CARD OF 'laws.FnExactTimesSailed'. -/
def fnExactTimesSailedCard : Claim7 := { stood := { row := fnExactTimesSailedRow, standIns := [], harness := (true, "9a2dcc0a57a5abead947a61da1be33c7cfa3b5f2fdefc6b895eb063848c4a931"), looks := false }, kinds := [], alts := [], laidByText := true, laidKinds := [.data, .pinned], laidTests := true, laidLooks := .later }
def FnExactTimesSailedCardSaid : Prop := Claim7.holds Tryz.pinned (.plain (OpenSpec.ofChange fnExactTimesSailedSpec)) fnExactTimesSailedCard

/-- THE TIED CARD OF 'laws.FnExactLegTimes'. -/
def fnExactLegTimesCard : Claim7 := { stood := { row := fnExactLegTimesRow, standIns := [], harness := (true, "9a2dcc0a57a5abead947a61da1be33c7cfa3b5f2fdefc6b895eb063848c4a931"), looks := false }, kinds := [], alts := [], laidByText := true, laidKinds := [.data, .pinned], laidTests := true, laidLooks := .later }
def FnExactLegTimesCardSaid : Prop := Claim7.holds Tryz.pinned (.plain (OpenSpec.ofChange fnExactLegTimesSpec)) fnExactLegTimesCard

/-- THE TIED CARD OF 'laws.FnExactDistanceToNext'. -/
def fnExactDistanceToNextCard : Claim7 := { stood := { row := fnExactDistanceToNextRow, standIns := [], harness := (true, "9a2dcc0a57a5abead947a61da1be33c7cfa3b5f2fdefc6b895eb063848c4a931"), looks := false }, kinds := [], alts := [], laidByText := true, laidKinds := [.data, .pinned], laidTests := true, laidLooks := .later }
def FnExactDistanceToNextCardSaid : Prop := Claim7.holds Tryz.pinned (.plain (OpenSpec.ofChange fnExactDistanceToNextSpec)) fnExactDistanceToNextCard

/-- THE TIED CARD OF 'laws.FnExactRoomAt'. -/
def fnExactRoomAtCard : Claim7 := { stood := { row := fnExactRoomAtRow, standIns := [], harness := (true, "9a2dcc0a57a5abead947a61da1be33c7cfa3b5f2fdefc6b895eb063848c4a931"), looks := false }, kinds := [], alts := [], laidByText := true, laidKinds := [.data, .pinned], laidTests := true, laidLooks := .later }
def FnExactRoomAtCardSaid : Prop := Claim7.holds Tryz.pinned (.plain (OpenSpec.ofChange fnExactRoomAtSpec)) fnExactRoomAtCard

/-- THE TIED CARD OF 'laws.FnExactOrderAt'. -/
def fnExactOrderAtCard : Claim7 := { stood := { row := fnExactOrderAtRow, standIns := [], harness := (true, "9a2dcc0a57a5abead947a61da1be33c7cfa3b5f2fdefc6b895eb063848c4a931"), looks := false }, kinds := [], alts := [], laidByText := true, laidKinds := [.data, .pinned], laidTests := true, laidLooks := .later }
def FnExactOrderAtCardSaid : Prop := Claim7.holds Tryz.pinned (.plain (OpenSpec.ofChange fnExactOrderAtSpec)) fnExactOrderAtCard

/-- THE TIED CARD OF 'laws.FnExactRoomTable'. -/
def fnExactRoomTableCard : Claim7 := { stood := { row := fnExactRoomTableRow, standIns := [], harness := (true, "9a2dcc0a57a5abead947a61da1be33c7cfa3b5f2fdefc6b895eb063848c4a931"), looks := false }, kinds := [], alts := [], laidByText := true, laidKinds := [.data, .pinned], laidTests := true, laidLooks := .later }
def FnExactRoomTableCardSaid : Prop := Claim7.holds Tryz.pinned (.plain (OpenSpec.ofChange fnExactRoomTableSpec)) fnExactRoomTableCard

/-- THE SECOND FORM's CARD OF 'laws.FnExactTimesSailed'. -/
def fnExactTimesSailedUptoCard : Claim7 := { stood := { row := fnExactTimesSailedUptoRow, standIns := [], harness := (true, "9a2dcc0a57a5abead947a61da1be33c7cfa3b5f2fdefc6b895eb063848c4a931"), looks := false }, kinds := [], alts := [], laidByText := true, laidKinds := [.data, .pinned], laidTests := true, laidLooks := .later }
def FnExactTimesSailedUptoCardSaid : Prop := Claim7.holds Tryz.pinned (.plain (OpenSpec.upto fnExactTimesSailedSpec)) fnExactTimesSailedUptoCard

/-- THE SECOND FORM's CARD OF 'laws.FnExactLegTimes'. -/
def fnExactLegTimesUptoCard : Claim7 := { stood := { row := fnExactLegTimesUptoRow, standIns := [], harness := (true, "9a2dcc0a57a5abead947a61da1be33c7cfa3b5f2fdefc6b895eb063848c4a931"), looks := false }, kinds := [], alts := [], laidByText := true, laidKinds := [.data, .pinned], laidTests := true, laidLooks := .later }
def FnExactLegTimesUptoCardSaid : Prop := Claim7.holds Tryz.pinned (.plain (OpenSpec.upto fnExactLegTimesSpec)) fnExactLegTimesUptoCard

/-- THE SECOND FORM's CARD OF 'laws.FnExactDistanceToNext'. -/
def fnExactDistanceToNextUptoCard : Claim7 := { stood := { row := fnExactDistanceToNextUptoRow, standIns := [], harness := (true, "9a2dcc0a57a5abead947a61da1be33c7cfa3b5f2fdefc6b895eb063848c4a931"), looks := false }, kinds := [], alts := [], laidByText := true, laidKinds := [.data, .pinned], laidTests := true, laidLooks := .later }
def FnExactDistanceToNextUptoCardSaid : Prop := Claim7.holds Tryz.pinned (.plain (OpenSpec.upto fnExactDistanceToNextSpec)) fnExactDistanceToNextUptoCard

/-- THE SECOND FORM's CARD OF 'laws.FnExactRoomAt'. -/
def fnExactRoomAtUptoCard : Claim7 := { stood := { row := fnExactRoomAtUptoRow, standIns := [], harness := (true, "9a2dcc0a57a5abead947a61da1be33c7cfa3b5f2fdefc6b895eb063848c4a931"), looks := false }, kinds := [], alts := [], laidByText := true, laidKinds := [.data, .pinned], laidTests := true, laidLooks := .later }
def FnExactRoomAtUptoCardSaid : Prop := Claim7.holds Tryz.pinned (.plain (OpenSpec.upto fnExactRoomAtSpec)) fnExactRoomAtUptoCard

/-- THE SECOND FORM's CARD OF 'laws.FnExactOrderAt'. -/
def fnExactOrderAtUptoCard : Claim7 := { stood := { row := fnExactOrderAtUptoRow, standIns := [], harness := (true, "9a2dcc0a57a5abead947a61da1be33c7cfa3b5f2fdefc6b895eb063848c4a931"), looks := false }, kinds := [], alts := [], laidByText := true, laidKinds := [.data, .pinned], laidTests := true, laidLooks := .later }
def FnExactOrderAtUptoCardSaid : Prop := Claim7.holds Tryz.pinned (.plain (OpenSpec.upto fnExactOrderAtSpec)) fnExactOrderAtUptoCard

/-- THE SECOND FORM's CARD OF 'laws.FnExactRoomTable'. -/
def fnExactRoomTableUptoCard : Claim7 := { stood := { row := fnExactRoomTableUptoRow, standIns := [], harness := (true, "9a2dcc0a57a5abead947a61da1be33c7cfa3b5f2fdefc6b895eb063848c4a931"), looks := false }, kinds := [], alts := [], laidByText := true, laidKinds := [.data, .pinned], laidTests := true, laidLooks := .later }
def FnExactRoomTableUptoCardSaid : Prop := Claim7.holds Tryz.pinned (.plain (OpenSpec.upto fnExactRoomTableSpec)) fnExactRoomTableUptoCard
end Rows
end Go.Proofs.YtlhllidkkjledaaGreatDoor
