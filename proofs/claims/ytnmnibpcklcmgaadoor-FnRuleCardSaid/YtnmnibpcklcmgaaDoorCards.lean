/-
  DERIVED. GIVEN WITH THE SEED: THE CARDS: each row of YtnmnibpcklcmgaaDoorRows.lean that lists a variable, with what it lists TIED to the program's text (the seventh form; the later family's looks); each row that meets fmt, with fmt's text TOLD by the authors' own Lean function (tested against real Go, not proved from fmt's source: count such statements apart). THE CARD IS WHAT COUNTS. Prove the row's statement (the work); the ties are given (YtnmnibpcklcmgaaDoorTie.lean); close each card by the builder's one call (the guide's Derived/Test/ToyasCard.lean, 'card_holds'). Laid BY PROGRAM, IN A SANDBOX (cutbox-door.mjs). By AI agents, Wed Nov 11 2026. No macro, syntax, notation, axiom, sorry.
-/
import Derived.Test.YtnmnibpcklcmgaaDoorRows
import GoSem.ClaimSeven
namespace Go.Proofs.YtnmnibpcklcmgaaDoor
namespace Rows

/-- THE TIED CARD OF 'laws.FnExactRulingText'. -/
def fnExactRulingTextCard : Claim7 := { stood := { row := fnExactRulingTextRow, standIns := [], harness := (true, "396906f403540a969622ff25758568b741ef9fce264be4e8998a05020f2d808e"), looks := false }, kinds := [], alts := [], laidByText := true, laidKinds := [.data, .data, .data], laidTests := true, laidLooks := .later }
def FnExactRulingTextCardSaid : Prop := Claim7.holds Tryd.pinned (.plain (OpenSpec.ofChange fnExactRulingTextSpec)) fnExactRulingTextCard

/-- THE TIED CARD OF 'laws.FnExactRoomText'. -/
def fnExactRoomTextCard : Claim7 := { stood := { row := fnExactRoomTextRow, standIns := [], harness := (true, "396906f403540a969622ff25758568b741ef9fce264be4e8998a05020f2d808e"), looks := false }, kinds := [], alts := [], laidByText := true, laidKinds := [.data, .data, .data], laidTests := true, laidLooks := .later }
def FnExactRoomTextCardSaid : Prop := Claim7.holds Tryd.pinned (.plain (OpenSpec.ofChange fnExactRoomTextSpec)) fnExactRoomTextCard

/-- THE TIED CARD OF 'laws.FnExactReadRuling'. -/
def fnExactReadRulingCard : Claim7 := { stood := { row := fnExactReadRulingRow, standIns := [], harness := (true, "396906f403540a969622ff25758568b741ef9fce264be4e8998a05020f2d808e"), looks := false }, kinds := [], alts := [], laidByText := true, laidKinds := [.data, .data, .data], laidTests := true, laidLooks := .later }
def FnExactReadRulingCardSaid : Prop := Claim7.holds Tryd.pinned (.plain (OpenSpec.ofChange fnExactReadRulingSpec)) fnExactReadRulingCard

/-- THE TIED CARD OF 'laws.FnExactReadRoom'. -/
def fnExactReadRoomCard : Claim7 := { stood := { row := fnExactReadRoomRow, standIns := [], harness := (true, "396906f403540a969622ff25758568b741ef9fce264be4e8998a05020f2d808e"), looks := false }, kinds := [], alts := [], laidByText := true, laidKinds := [.data, .data, .data], laidTests := true, laidLooks := .later }
def FnExactReadRoomCardSaid : Prop := Claim7.holds Tryd.pinned (.plain (OpenSpec.ofChange fnExactReadRoomSpec)) fnExactReadRoomCard

/-- THE TIED CARD OF 'laws.FnRoomText'. -/
def fnRoomTextCard : Claim7 := { stood := { row := fnRoomTextRow, standIns := [], harness := (true, "396906f403540a969622ff25758568b741ef9fce264be4e8998a05020f2d808e"), looks := false }, kinds := [], alts := [], laidByText := true, laidKinds := [.data, .data, .data], laidTests := true, laidLooks := .later }
def FnRoomTextCardSaid : Prop := Claim7.holds Tryd.pinned (.plain (OpenSpec.ofChange fnRoomTextSpec)) fnRoomTextCard

/-- THE TIED CARD OF 'laws.FnRule'. -/
def fnRuleCard : Claim7 := { stood := { row := fnRuleRow, standIns := [], harness := (true, "396906f403540a969622ff25758568b741ef9fce264be4e8998a05020f2d808e"), looks := false }, kinds := [], alts := [], laidByText := true, laidKinds := [.data, .data, .data], laidTests := true, laidLooks := .later }
def FnRuleCardSaid : Prop := Claim7.holds Tryd.pinned (.plain (OpenSpec.ofChange fnRuleSpec)) fnRuleCard

/-- THE SECOND FORM's CARD OF 'laws.FnExactRulingText'. -/
def fnExactRulingTextUptoCard : Claim7 := { stood := { row := fnExactRulingTextUptoRow, standIns := [], harness := (true, "396906f403540a969622ff25758568b741ef9fce264be4e8998a05020f2d808e"), looks := false }, kinds := [], alts := [], laidByText := true, laidKinds := [.data, .data, .data], laidTests := true, laidLooks := .later }
def FnExactRulingTextUptoCardSaid : Prop := Claim7.holds Tryd.pinned (.plain (OpenSpec.upto fnExactRulingTextSpec)) fnExactRulingTextUptoCard

/-- THE SECOND FORM's CARD OF 'laws.FnExactRoomText'. -/
def fnExactRoomTextUptoCard : Claim7 := { stood := { row := fnExactRoomTextUptoRow, standIns := [], harness := (true, "396906f403540a969622ff25758568b741ef9fce264be4e8998a05020f2d808e"), looks := false }, kinds := [], alts := [], laidByText := true, laidKinds := [.data, .data, .data], laidTests := true, laidLooks := .later }
def FnExactRoomTextUptoCardSaid : Prop := Claim7.holds Tryd.pinned (.plain (OpenSpec.upto fnExactRoomTextSpec)) fnExactRoomTextUptoCard

/-- THE SECOND FORM's CARD OF 'laws.FnExactReadRuling'. -/
def fnExactReadRulingUptoCard : Claim7 := { stood := { row := fnExactReadRulingUptoRow, standIns := [], harness := (true, "396906f403540a969622ff25758568b741ef9fce264be4e8998a05020f2d808e"), looks := false }, kinds := [], alts := [], laidByText := true, laidKinds := [.data, .data, .data], laidTests := true, laidLooks := .later }
def FnExactReadRulingUptoCardSaid : Prop := Claim7.holds Tryd.pinned (.plain (OpenSpec.upto fnExactReadRulingSpec)) fnExactReadRulingUptoCard

/-- THE SECOND FORM's CARD OF 'laws.FnExactReadRoom'. -/
def fnExactReadRoomUptoCard : Claim7 := { stood := { row := fnExactReadRoomUptoRow, standIns := [], harness := (true, "396906f403540a969622ff25758568b741ef9fce264be4e8998a05020f2d808e"), looks := false }, kinds := [], alts := [], laidByText := true, laidKinds := [.data, .data, .data], laidTests := true, laidLooks := .later }
def FnExactReadRoomUptoCardSaid : Prop := Claim7.holds Tryd.pinned (.plain (OpenSpec.upto fnExactReadRoomSpec)) fnExactReadRoomUptoCard

/-- THE SECOND FORM's CARD OF 'laws.FnRoomText'. -/
def fnRoomTextUptoCard : Claim7 := { stood := { row := fnRoomTextUptoRow, standIns := [], harness := (true, "396906f403540a969622ff25758568b741ef9fce264be4e8998a05020f2d808e"), looks := false }, kinds := [], alts := [], laidByText := true, laidKinds := [.data, .data, .data], laidTests := true, laidLooks := .later }
def FnRoomTextUptoCardSaid : Prop := Claim7.holds Tryd.pinned (.plain (OpenSpec.upto fnRoomTextSpec)) fnRoomTextUptoCard

/-- THE SECOND FORM's CARD OF 'laws.FnRule'. -/
def fnRuleUptoCard : Claim7 := { stood := { row := fnRuleUptoRow, standIns := [], harness := (true, "396906f403540a969622ff25758568b741ef9fce264be4e8998a05020f2d808e"), looks := false }, kinds := [], alts := [], laidByText := true, laidKinds := [.data, .data, .data], laidTests := true, laidLooks := .later }
def FnRuleUptoCardSaid : Prop := Claim7.holds Tryd.pinned (.plain (OpenSpec.upto fnRuleSpec)) fnRuleUptoCard
end Rows
end Go.Proofs.YtnmnibpcklcmgaaDoor
