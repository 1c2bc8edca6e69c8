/-
  DERIVED. GIVEN WITH THE SEED: THE CARDS: each row of YteepnlofbfccgaaDoorRows.lean that lists a variable, with what it lists TIED to the program's text (the seventh form; the later family's looks); each row that meets fmt, with fmt's text TOLD by the authors' own Lean function (tested against real Go, not proved from fmt's source: count such statements apart). THE CARD IS WHAT COUNTS. Prove the row's statement (the work); the ties are given (YteepnlofbfccgaaDoorTie.lean); close each card by the builder's one call (the guide's Derived/Test/ToyasCard.lean, 'card_holds'). Laid BY PROGRAM, IN A SANDBOX (cutbox-door.mjs). By AI agents, Wed Nov 11 2026. No macro, syntax, notation, axiom, sorry.
-/
import Derived.Test.YteepnlofbfccgaaDoorRows
import GoSem.ClaimSeven
namespace Go.Proofs.YteepnlofbfccgaaDoor
namespace Rows

/-- THE TIED CARD OF 'laws.FnExactIsCaveRow'. -/
def fnExactIsCaveRowCard : Claim7 := { stood := { row := fnExactIsCaveRowRow, standIns := [], harness := (true, "e30597226145becfda93eb022d362cfd77fed404229b68e18b80505c7d3cd62d"), looks := false }, kinds := [], alts := [], laidByText := true, laidKinds := [.data, .pinned], laidTests := true, laidLooks := .later }
def FnExactIsCaveRowCardSaid : Prop := Claim7.holds Tryd.pinned (.plain (OpenSpec.ofChange fnExactIsCaveRowSpec)) fnExactIsCaveRowCard

/-- THE TIED CARD OF 'laws.FnExactAreCaves'. -/
def fnExactAreCavesCard : Claim7 := { stood := { row := fnExactAreCavesRow, standIns := [], harness := (true, "e30597226145becfda93eb022d362cfd77fed404229b68e18b80505c7d3cd62d"), looks := false }, kinds := [], alts := [], laidByText := true, laidKinds := [.data, .pinned], laidTests := true, laidLooks := .later }
def FnExactAreCavesCardSaid : Prop := Claim7.holds Tryd.pinned (.plain (OpenSpec.ofChange fnExactAreCavesSpec)) fnExactAreCavesCard

/-- THE TIED CARD OF 'laws.FnExactMeanLeg'. -/
def fnExactMeanLegCard : Claim7 := { stood := { row := fnExactMeanLegRow, standIns := [], harness := (true, "e30597226145becfda93eb022d362cfd77fed404229b68e18b80505c7d3cd62d"), looks := false }, kinds := [], alts := [], laidByText := true, laidKinds := [.data, .pinned], laidTests := true, laidLooks := .later }
def FnExactMeanLegCardSaid : Prop := Claim7.holds Tryd.pinned (.plain (OpenSpec.ofChange fnExactMeanLegSpec)) fnExactMeanLegCard

/-- THE TIED CARD OF 'laws.FnExactCavesLongerThan'. -/
def fnExactCavesLongerThanCard : Claim7 := { stood := { row := fnExactCavesLongerThanRow, standIns := [], harness := (true, "e30597226145becfda93eb022d362cfd77fed404229b68e18b80505c7d3cd62d"), looks := false }, kinds := [], alts := [], laidByText := true, laidKinds := [.data, .pinned], laidTests := true, laidLooks := .later }
def FnExactCavesLongerThanCardSaid : Prop := Claim7.holds Tryd.pinned (.plain (OpenSpec.ofChange fnExactCavesLongerThanSpec)) fnExactCavesLongerThanCard

/-- THE TIED CARD OF 'laws.FnExactAddSurvey'. -/
def fnExactAddSurveyCard : Claim7 := { stood := { row := fnExactAddSurveyRow, standIns := [], harness := (true, "e30597226145becfda93eb022d362cfd77fed404229b68e18b80505c7d3cd62d"), looks := false }, kinds := [], alts := [], laidByText := true, laidKinds := [.data, .pinned], laidTests := true, laidLooks := .later }
def FnExactAddSurveyCardSaid : Prop := Claim7.holds Tryd.pinned (.plain (OpenSpec.ofChange fnExactAddSurveySpec)) fnExactAddSurveyCard

/-- THE TIED CARD OF 'laws.FnExactConnectCaves'. -/
def fnExactConnectCavesCard : Claim7 := { stood := { row := fnExactConnectCavesRow, standIns := [], harness := (true, "e30597226145becfda93eb022d362cfd77fed404229b68e18b80505c7d3cd62d"), looks := false }, kinds := [], alts := [], laidByText := true, laidKinds := [.data, .pinned], laidTests := true, laidLooks := .later }
def FnExactConnectCavesCardSaid : Prop := Claim7.holds Tryd.pinned (.plain (OpenSpec.ofChange fnExactConnectCavesSpec)) fnExactConnectCavesCard

/-- THE TIED CARD OF 'laws.FnExactCaveLine'. -/
def fnExactCaveLineCard : Claim7 := { stood := { row := fnExactCaveLineRow, standIns := [], harness := (true, "e30597226145becfda93eb022d362cfd77fed404229b68e18b80505c7d3cd62d"), looks := false }, kinds := [], alts := [], laidByText := true, laidKinds := [.data, .data, .data, .data, .pinned], laidTests := true, laidLooks := .later }
def FnExactCaveLineCardSaid : Prop := Claim7.holds Tryd.pinned (.plain (OpenSpec.ofChange fnExactCaveLineSpec)) fnExactCaveLineCard

/-- THE TIED CARD OF 'laws.FnExactRankByLength'. -/
def fnExactRankByLengthCard : Claim7 := { stood := { row := fnExactRankByLengthRow, standIns := [], harness := (true, "e30597226145becfda93eb022d362cfd77fed404229b68e18b80505c7d3cd62d"), looks := false }, kinds := [], alts := [], laidByText := true, laidKinds := [.data, .pinned], laidTests := true, laidLooks := .later }
def FnExactRankByLengthCardSaid : Prop := Claim7.holds Tryd.pinned (.plain (OpenSpec.ofChange fnExactRankByLengthSpec)) fnExactRankByLengthCard

/-- THE TIED CARD OF 'laws.FnExactCavesText'. -/
def fnExactCavesTextCard : Claim7 := { stood := { row := fnExactCavesTextRow, standIns := [], harness := (true, "e30597226145becfda93eb022d362cfd77fed404229b68e18b80505c7d3cd62d"), looks := false }, kinds := [], alts := [], laidByText := true, laidKinds := [.data, .data, .data, .data, .pinned], laidTests := true, laidLooks := .later }
def FnExactCavesTextCardSaid : Prop := Claim7.holds Tryd.pinned (.plain (OpenSpec.ofChange fnExactCavesTextSpec)) fnExactCavesTextCard

/-- THE TIED CARD OF 'laws.FnExactRankByDepth'. -/
def fnExactRankByDepthCard : Claim7 := { stood := { row := fnExactRankByDepthRow, standIns := [], harness := (true, "e30597226145becfda93eb022d362cfd77fed404229b68e18b80505c7d3cd62d"), looks := false }, kinds := [], alts := [], laidByText := true, laidKinds := [.data, .pinned], laidTests := true, laidLooks := .later }
def FnExactRankByDepthCardSaid : Prop := Claim7.holds Tryd.pinned (.plain (OpenSpec.ofChange fnExactRankByDepthSpec)) fnExactRankByDepthCard

/-- THE TIED CARD OF 'laws.FnCaveRanks'. -/
def fnCaveRanksCard : Claim7 := { stood := { row := fnCaveRanksRow, standIns := [], harness := (true, "e30597226145becfda93eb022d362cfd77fed404229b68e18b80505c7d3cd62d"), looks := false }, kinds := [], alts := [], laidByText := true, laidKinds := [.data, .pinned], laidTests := true, laidLooks := .later }
def FnCaveRanksCardSaid : Prop := Claim7.holds Tryd.pinned (.plain (OpenSpec.ofChange fnCaveRanksSpec)) fnCaveRanksCard

/-- THE TIED CARD OF 'laws.FnCaveLines'. -/
def fnCaveLinesCard : Claim7 := { stood := { row := fnCaveLinesRow, standIns := [], harness := (true, "e30597226145becfda93eb022d362cfd77fed404229b68e18b80505c7d3cd62d"), looks := false }, kinds := [], alts := [], laidByText := true, laidKinds := [.data, .data, .data, .data, .pinned], laidTests := true, laidLooks := .later }
def FnCaveLinesCardSaid : Prop := Claim7.holds Tryd.pinned (.plain (OpenSpec.ofChange fnCaveLinesSpec)) fnCaveLinesCard

/-- THE SECOND FORM's CARD OF 'laws.FnExactIsCaveRow'. -/
def fnExactIsCaveRowUptoCard : Claim7 := { stood := { row := fnExactIsCaveRowUptoRow, standIns := [], harness := (true, "e30597226145becfda93eb022d362cfd77fed404229b68e18b80505c7d3cd62d"), looks := false }, kinds := [], alts := [], laidByText := true, laidKinds := [.data, .pinned], laidTests := true, laidLooks := .later }
def FnExactIsCaveRowUptoCardSaid : Prop := Claim7.holds Tryd.pinned (.plain (OpenSpec.upto fnExactIsCaveRowSpec)) fnExactIsCaveRowUptoCard

/-- THE SECOND FORM's CARD OF 'laws.FnExactAreCaves'. -/
def fnExactAreCavesUptoCard : Claim7 := { stood := { row := fnExactAreCavesUptoRow, standIns := [], harness := (true, "e30597226145becfda93eb022d362cfd77fed404229b68e18b80505c7d3cd62d"), looks := false }, kinds := [], alts := [], laidByText := true, laidKinds := [.data, .pinned], laidTests := true, laidLooks := .later }
def FnExactAreCavesUptoCardSaid : Prop := Claim7.holds Tryd.pinned (.plain (OpenSpec.upto fnExactAreCavesSpec)) fnExactAreCavesUptoCard

/-- THE SECOND FORM's CARD OF 'laws.FnExactMeanLeg'. -/
def fnExactMeanLegUptoCard : Claim7 := { stood := { row := fnExactMeanLegUptoRow, standIns := [], harness := (true, "e30597226145becfda93eb022d362cfd77fed404229b68e18b80505c7d3cd62d"), looks := false }, kinds := [], alts := [], laidByText := true, laidKinds := [.data, .pinned], laidTests := true, laidLooks := .later }
def FnExactMeanLegUptoCardSaid : Prop := Claim7.holds Tryd.pinned (.plain (OpenSpec.upto fnExactMeanLegSpec)) fnExactMeanLegUptoCard

/-- THE SECOND FORM's CARD OF 'laws.FnExactCavesLongerThan'. -/
def fnExactCavesLongerThanUptoCard : Claim7 := { stood := { row := fnExactCavesLongerThanUptoRow, standIns := [], harness := (true, "e30597226145becfda93eb022d362cfd77fed404229b68e18b80505c7d3cd62d"), looks := false }, kinds := [], alts := [], laidByText := true, laidKinds := [.data, .pinned], laidTests := true, laidLooks := .later }
def FnExactCavesLongerThanUptoCardSaid : Prop := Claim7.holds Tryd.pinned (.plain (OpenSpec.upto fnExactCavesLongerThanSpec)) fnExactCavesLongerThanUptoCard

/-- THE SECOND FORM's CARD OF 'laws.FnExactAddSurvey'. -/
def fnExactAddSurveyUptoCard : Claim7 := { stood := { row := fnExactAddSurveyUptoRow, standIns := [], harness := (true, "e30597226145becfda93eb022d362cfd77fed404229b68e18b80505c7d3cd62d"), looks := false }, kinds := [], alts := [], laidByText := true, laidKinds := [.data, .pinned], laidTests := true, laidLooks := .later }
def FnExactAddSurveyUptoCardSaid : Prop := Claim7.holds Tryd.pinned (.plain (OpenSpec.upto fnExactAddSurveySpec)) fnExactAddSurveyUptoCard

/-- THE SECOND FORM's CARD OF 'laws.FnExactConnectCaves'. -/
def fnExactConnectCavesUptoCard : Claim7 := { stood := { row := fnExactConnectCavesUptoRow, standIns := [], harness := (true, "e30597226145becfda93eb022d362cfd77fed404229b68e18b80505c7d3cd62d"), looks := false }, kinds := [], alts := [], laidByText := true, laidKinds := [.data, .pinned], laidTests := true, laidLooks := .later }
def FnExactConnectCavesUptoCardSaid : Prop := Claim7.holds Tryd.pinned (.plain (OpenSpec.upto fnExactConnectCavesSpec)) fnExactConnectCavesUptoCard

/-- THE SECOND FORM's CARD OF 'laws.FnExactCaveLine'. -/
def fnExactCaveLineUptoCard : Claim7 := { stood := { row := fnExactCaveLineUptoRow, standIns := [], harness := (true, "e30597226145becfda93eb022d362cfd77fed404229b68e18b80505c7d3cd62d"), looks := false }, kinds := [], alts := [], laidByText := true, laidKinds := [.data, .data, .data, .data, .pinned], laidTests := true, laidLooks := .later }
def FnExactCaveLineUptoCardSaid : Prop := Claim7.holds Tryd.pinned (.plain (OpenSpec.upto fnExactCaveLineSpec)) fnExactCaveLineUptoCard

/-- THE SECOND FORM's CARD OF 'laws.FnExactRankByLength'. -/
def fnExactRankByLengthUptoCard : Claim7 := { stood := { row := fnExactRankByLengthUptoRow, standIns := [], harness := (true, "e30597226145becfda93eb022d362cfd77fed404229b68e18b80505c7d3cd62d"), looks := false }, kinds := [], alts := [], laidByText := true, laidKinds := [.data, .pinned], laidTests := true, laidLooks := .later }
def FnExactRankByLengthUptoCardSaid : Prop := Claim7.holds Tryd.pinned (.plain (OpenSpec.upto fnExactRankByLengthSpec)) fnExactRankByLengthUptoCard

/-- THE SECOND FORM's CARD OF 'laws.FnExactCavesText'. -/
def fnExactCavesTextUptoCard : Claim7 := { stood := { row := fnExactCavesTextUptoRow, standIns := [], harness := (true, "e30597226145becfda93eb022d362cfd77fed404229b68e18b80505c7d3cd62d"), looks := false }, kinds := [], alts := [], laidByText := true, laidKinds := [.data, .data, .data, .data, .pinned], laidTests := true, laidLooks := .later }
def FnExactCavesTextUptoCardSaid : Prop := Claim7.holds Tryd.pinned (.plain (OpenSpec.upto fnExactCavesTextSpec)) fnExactCavesTextUptoCard

/-- THE SECOND FORM's CARD OF 'laws.FnExactRankByDepth'. -/
def fnExactRankByDepthUptoCard : Claim7 := { stood := { row := fnExactRankByDepthUptoRow, standIns := [], harness := (true, "e30597226145becfda93eb022d362cfd77fed404229b68e18b80505c7d3cd62d"), looks := false }, kinds := [], alts := [], laidByText := true, laidKinds := [.data, .pinned], laidTests := true, laidLooks := .later }
def FnExactRankByDepthUptoCardSaid : Prop := Claim7.holds Tryd.pinned (.plain (OpenSpec.upto fnExactRankByDepthSpec)) fnExactRankByDepthUptoCard

/-- THE SECOND FORM's CARD OF 'laws.FnCaveRanks'. -/
def fnCaveRanksUptoCard : Claim7 := { stood := { row := fnCaveRanksUptoRow, standIns := [], harness := (true, "e30597226145becfda93eb022d362cfd77fed404229b68e18b80505c7d3cd62d"), looks := false }, kinds := [], alts := [], laidByText := true, laidKinds := [.data, .pinned], laidTests := true, laidLooks := .later }
def FnCaveRanksUptoCardSaid : Prop := Claim7.holds Tryd.pinned (.plain (OpenSpec.upto fnCaveRanksSpec)) fnCaveRanksUptoCard

/-- THE SECOND FORM's CARD OF 'laws.FnCaveLines'. -/
def fnCaveLinesUptoCard : Claim7 := { stood := { row := fnCaveLinesUptoRow, standIns := [], harness := (true, "e30597226145becfda93eb022d362cfd77fed404229b68e18b80505c7d3cd62d"), looks := false }, kinds := [], alts := [], laidByText := true, laidKinds := [.data, .data, .data, .data, .pinned], laidTests := true, laidLooks := .later }
def FnCaveLinesUptoCardSaid : Prop := Claim7.holds Tryd.pinned (.plain (OpenSpec.upto fnCaveLinesSpec)) fnCaveLinesUptoCard
end Rows
end Go.Proofs.YteepnlofbfccgaaDoor
