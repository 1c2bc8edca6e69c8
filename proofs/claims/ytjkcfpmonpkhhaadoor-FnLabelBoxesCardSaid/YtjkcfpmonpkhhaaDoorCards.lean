/-
  DERIVED. GIVEN WITH THE SEED: THE CARDS: each row of YtjkcfpmonpkhhaaDoorRows.lean that lists a variable, with what it lists TIED to the program's text (the seventh form; the later family's looks); each row that meets fmt, with fmt's text TOLD by the authors' own Lean function (tested against real Go, not proved from fmt's source: count such statements apart). THE CARD IS WHAT COUNTS. Prove the row's statement (the work); the ties are given (YtjkcfpmonpkhhaaDoorTie.lean); close each card by the builder's one call (the guide's Derived/Test/ToyasCard.lean, 'card_holds'). Laid BY PROGRAM, IN A SANDBOX (cutbox-door.mjs). By AI agents, Wed Nov 11 2026. No macro, syntax, notation, axiom, sorry.
-/
import Derived.Test.YtjkcfpmonpkhhaaDoorRows
import GoSem.ClaimSeven
namespace Go.Proofs.YtjkcfpmonpkhhaaDoor
namespace Rows

/-- THE TIED CARD OF 'laws.FnExactBoxFor'. -/
def fnExactBoxForCard : Claim7 := { stood := { row := fnExactBoxForRow, standIns := [], harness := (true, "9dad550c7f9a9903e942dbf243e493b2d353217c454ab6b66ead4da222d76093"), looks := false }, kinds := [], alts := [], laidByText := true, laidKinds := [.data, .pinned], laidTests := true, laidLooks := .later }
def FnExactBoxForCardSaid : Prop := Claim7.holds Tryd.pinned (.plain (OpenSpec.ofChange fnExactBoxForSpec)) fnExactBoxForCard

/-- THE TIED CARD OF 'laws.FnExactAreLabels'. -/
def fnExactAreLabelsCard : Claim7 := { stood := { row := fnExactAreLabelsRow, standIns := [], harness := (true, "9dad550c7f9a9903e942dbf243e493b2d353217c454ab6b66ead4da222d76093"), looks := false }, kinds := [], alts := [], laidByText := true, laidKinds := [.data, .pinned], laidTests := true, laidLooks := .later }
def FnExactAreLabelsCardSaid : Prop := Claim7.holds Tryd.pinned (.plain (OpenSpec.ofChange fnExactAreLabelsSpec)) fnExactAreLabelsCard

/-- THE TIED CARD OF 'laws.FnExactIsPlacing'. -/
def fnExactIsPlacingCard : Claim7 := { stood := { row := fnExactIsPlacingRow, standIns := [], harness := (true, "9dad550c7f9a9903e942dbf243e493b2d353217c454ab6b66ead4da222d76093"), looks := false }, kinds := [], alts := [], laidByText := true, laidKinds := [.data, .pinned], laidTests := true, laidLooks := .later }
def FnExactIsPlacingCardSaid : Prop := Claim7.holds Tryd.pinned (.plain (OpenSpec.ofChange fnExactIsPlacingSpec)) fnExactIsPlacingCard

/-- THE TIED CARD OF 'laws.FnExactWaysOf'. -/
def fnExactWaysOfCard : Claim7 := { stood := { row := fnExactWaysOfRow, standIns := [], harness := (true, "9dad550c7f9a9903e942dbf243e493b2d353217c454ab6b66ead4da222d76093"), looks := false }, kinds := [], alts := [], laidByText := true, laidKinds := [.data, .pinned], laidTests := true, laidLooks := .later }
def FnExactWaysOfCardSaid : Prop := Claim7.holds Tryd.pinned (.plain (OpenSpec.ofChange fnExactWaysOfSpec)) fnExactWaysOfCard

/-- THE TIED CARD OF 'laws.FnExactStuckLabels'. -/
def fnExactStuckLabelsCard : Claim7 := { stood := { row := fnExactStuckLabelsRow, standIns := [], harness := (true, "9dad550c7f9a9903e942dbf243e493b2d353217c454ab6b66ead4da222d76093"), looks := false }, kinds := [], alts := [], laidByText := true, laidKinds := [.data, .pinned], laidTests := true, laidLooks := .later }
def FnExactStuckLabelsCardSaid : Prop := Claim7.holds Tryd.pinned (.plain (OpenSpec.ofChange fnExactStuckLabelsSpec)) fnExactStuckLabelsCard

/-- THE TIED CARD OF 'laws.FnExactCountPlacings'. -/
def fnExactCountPlacingsCard : Claim7 := { stood := { row := fnExactCountPlacingsRow, standIns := [], harness := (true, "9dad550c7f9a9903e942dbf243e493b2d353217c454ab6b66ead4da222d76093"), looks := false }, kinds := [], alts := [], laidByText := true, laidKinds := [.data, .pinned], laidTests := true, laidLooks := .later }
def FnExactCountPlacingsCardSaid : Prop := Claim7.holds Tryd.pinned (.plain (OpenSpec.ofChange fnExactCountPlacingsSpec)) fnExactCountPlacingsCard

/-- THE TIED CARD OF 'laws.FnExactFirstPlacing'. -/
def fnExactFirstPlacingCard : Claim7 := { stood := { row := fnExactFirstPlacingRow, standIns := [], harness := (true, "9dad550c7f9a9903e942dbf243e493b2d353217c454ab6b66ead4da222d76093"), looks := false }, kinds := [], alts := [], laidByText := true, laidKinds := [.data, .pinned], laidTests := true, laidLooks := .later }
def FnExactFirstPlacingCardSaid : Prop := Claim7.holds Tryd.pinned (.plain (OpenSpec.ofChange fnExactFirstPlacingSpec)) fnExactFirstPlacingCard

/-- THE TIED CARD OF 'laws.FnExactMostPlaced'. -/
def fnExactMostPlacedCard : Claim7 := { stood := { row := fnExactMostPlacedRow, standIns := [], harness := (true, "9dad550c7f9a9903e942dbf243e493b2d353217c454ab6b66ead4da222d76093"), looks := false }, kinds := [], alts := [], laidByText := true, laidKinds := [.data, .pinned], laidTests := true, laidLooks := .later }
def FnExactMostPlacedCardSaid : Prop := Claim7.holds Tryd.pinned (.plain (OpenSpec.ofChange fnExactMostPlacedSpec)) fnExactMostPlacedCard

/-- THE TIED CARD OF 'laws.FnLabels'. -/
def fnLabelsCard : Claim7 := { stood := { row := fnLabelsRow, standIns := [], harness := (true, "9dad550c7f9a9903e942dbf243e493b2d353217c454ab6b66ead4da222d76093"), looks := false }, kinds := [], alts := [], laidByText := true, laidKinds := [.data, .pinned], laidTests := true, laidLooks := .later }
def FnLabelsCardSaid : Prop := Claim7.holds Tryd.pinned (.plain (OpenSpec.ofChange fnLabelsSpec)) fnLabelsCard

/-- THE TIED CARD OF 'laws.FnLabelBoxes'. -/
def fnLabelBoxesCard : Claim7 := { stood := { row := fnLabelBoxesRow, standIns := [], harness := (true, "9dad550c7f9a9903e942dbf243e493b2d353217c454ab6b66ead4da222d76093"), looks := false }, kinds := [], alts := [], laidByText := true, laidKinds := [.data, .pinned], laidTests := true, laidLooks := .later }
def FnLabelBoxesCardSaid : Prop := Claim7.holds Tryd.pinned (.plain (OpenSpec.ofChange fnLabelBoxesSpec)) fnLabelBoxesCard

/-- THE SECOND FORM's CARD OF 'laws.FnExactBoxFor'. -/
def fnExactBoxForUptoCard : Claim7 := { stood := { row := fnExactBoxForUptoRow, standIns := [], harness := (true, "9dad550c7f9a9903e942dbf243e493b2d353217c454ab6b66ead4da222d76093"), looks := false }, kinds := [], alts := [], laidByText := true, laidKinds := [.data, .pinned], laidTests := true, laidLooks := .later }
def FnExactBoxForUptoCardSaid : Prop := Claim7.holds Tryd.pinned (.plain (OpenSpec.upto fnExactBoxForSpec)) fnExactBoxForUptoCard

/-- THE SECOND FORM's CARD OF 'laws.FnExactAreLabels'. -/
def fnExactAreLabelsUptoCard : Claim7 := { stood := { row := fnExactAreLabelsUptoRow, standIns := [], harness := (true, "9dad550c7f9a9903e942dbf243e493b2d353217c454ab6b66ead4da222d76093"), looks := false }, kinds := [], alts := [], laidByText := true, laidKinds := [.data, .pinned], laidTests := true, laidLooks := .later }
def FnExactAreLabelsUptoCardSaid : Prop := Claim7.holds Tryd.pinned (.plain (OpenSpec.upto fnExactAreLabelsSpec)) fnExactAreLabelsUptoCard

/-- THE SECOND FORM's CARD OF 'laws.FnExactIsPlacing'. -/
def fnExactIsPlacingUptoCard : Claim7 := { stood := { row := fnExactIsPlacingUptoRow, standIns := [], harness := (true, "9dad550c7f9a9903e942dbf243e493b2d353217c454ab6b66ead4da222d76093"), looks := false }, kinds := [], alts := [], laidByText := true, laidKinds := [.data, .pinned], laidTests := true, laidLooks := .later }
def FnExactIsPlacingUptoCardSaid : Prop := Claim7.holds Tryd.pinned (.plain (OpenSpec.upto fnExactIsPlacingSpec)) fnExactIsPlacingUptoCard

/-- THE SECOND FORM's CARD OF 'laws.FnExactWaysOf'. -/
def fnExactWaysOfUptoCard : Claim7 := { stood := { row := fnExactWaysOfUptoRow, standIns := [], harness := (true, "9dad550c7f9a9903e942dbf243e493b2d353217c454ab6b66ead4da222d76093"), looks := false }, kinds := [], alts := [], laidByText := true, laidKinds := [.data, .pinned], laidTests := true, laidLooks := .later }
def FnExactWaysOfUptoCardSaid : Prop := Claim7.holds Tryd.pinned (.plain (OpenSpec.upto fnExactWaysOfSpec)) fnExactWaysOfUptoCard

/-- THE SECOND FORM's CARD OF 'laws.FnExactStuckLabels'. -/
def fnExactStuckLabelsUptoCard : Claim7 := { stood := { row := fnExactStuckLabelsUptoRow, standIns := [], harness := (true, "9dad550c7f9a9903e942dbf243e493b2d353217c454ab6b66ead4da222d76093"), looks := false }, kinds := [], alts := [], laidByText := true, laidKinds := [.data, .pinned], laidTests := true, laidLooks := .later }
def FnExactStuckLabelsUptoCardSaid : Prop := Claim7.holds Tryd.pinned (.plain (OpenSpec.upto fnExactStuckLabelsSpec)) fnExactStuckLabelsUptoCard

/-- THE SECOND FORM's CARD OF 'laws.FnExactCountPlacings'. -/
def fnExactCountPlacingsUptoCard : Claim7 := { stood := { row := fnExactCountPlacingsUptoRow, standIns := [], harness := (true, "9dad550c7f9a9903e942dbf243e493b2d353217c454ab6b66ead4da222d76093"), looks := false }, kinds := [], alts := [], laidByText := true, laidKinds := [.data, .pinned], laidTests := true, laidLooks := .later }
def FnExactCountPlacingsUptoCardSaid : Prop := Claim7.holds Tryd.pinned (.plain (OpenSpec.upto fnExactCountPlacingsSpec)) fnExactCountPlacingsUptoCard

/-- THE SECOND FORM's CARD OF 'laws.FnExactFirstPlacing'. -/
def fnExactFirstPlacingUptoCard : Claim7 := { stood := { row := fnExactFirstPlacingUptoRow, standIns := [], harness := (true, "9dad550c7f9a9903e942dbf243e493b2d353217c454ab6b66ead4da222d76093"), looks := false }, kinds := [], alts := [], laidByText := true, laidKinds := [.data, .pinned], laidTests := true, laidLooks := .later }
def FnExactFirstPlacingUptoCardSaid : Prop := Claim7.holds Tryd.pinned (.plain (OpenSpec.upto fnExactFirstPlacingSpec)) fnExactFirstPlacingUptoCard

/-- THE SECOND FORM's CARD OF 'laws.FnExactMostPlaced'. -/
def fnExactMostPlacedUptoCard : Claim7 := { stood := { row := fnExactMostPlacedUptoRow, standIns := [], harness := (true, "9dad550c7f9a9903e942dbf243e493b2d353217c454ab6b66ead4da222d76093"), looks := false }, kinds := [], alts := [], laidByText := true, laidKinds := [.data, .pinned], laidTests := true, laidLooks := .later }
def FnExactMostPlacedUptoCardSaid : Prop := Claim7.holds Tryd.pinned (.plain (OpenSpec.upto fnExactMostPlacedSpec)) fnExactMostPlacedUptoCard

/-- THE SECOND FORM's CARD OF 'laws.FnLabels'. -/
def fnLabelsUptoCard : Claim7 := { stood := { row := fnLabelsUptoRow, standIns := [], harness := (true, "9dad550c7f9a9903e942dbf243e493b2d353217c454ab6b66ead4da222d76093"), looks := false }, kinds := [], alts := [], laidByText := true, laidKinds := [.data, .pinned], laidTests := true, laidLooks := .later }
def FnLabelsUptoCardSaid : Prop := Claim7.holds Tryd.pinned (.plain (OpenSpec.upto fnLabelsSpec)) fnLabelsUptoCard

/-- THE SECOND FORM's CARD OF 'laws.FnLabelBoxes'. -/
def fnLabelBoxesUptoCard : Claim7 := { stood := { row := fnLabelBoxesUptoRow, standIns := [], harness := (true, "9dad550c7f9a9903e942dbf243e493b2d353217c454ab6b66ead4da222d76093"), looks := false }, kinds := [], alts := [], laidByText := true, laidKinds := [.data, .pinned], laidTests := true, laidLooks := .later }
def FnLabelBoxesUptoCardSaid : Prop := Claim7.holds Tryd.pinned (.plain (OpenSpec.upto fnLabelBoxesSpec)) fnLabelBoxesUptoCard
end Rows
end Go.Proofs.YtjkcfpmonpkhhaaDoor
