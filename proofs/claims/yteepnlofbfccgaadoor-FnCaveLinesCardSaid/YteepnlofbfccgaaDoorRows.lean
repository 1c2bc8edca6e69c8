/-
  NARROWER THAN 'FOR EVERY INPUT', by the rows' own cells (each row's printed sentence says how): FnExactIsCaveRow: laid · FnExactAreCaves: laid · FnExactMeanLeg: laid · FnExactCavesLongerThan: laid · FnExactAddSurvey: laid · FnExactConnectCaves: laid · FnExactCaveLine: laid · FnExactRankByLength: laid · FnExactCavesText: laid · FnExactRankByDepth: laid · FnCaveRanks: laid · FnCaveLines: laid.
  DERIVED. THE GIVEN ROWS OF THIS SEAT. 12 by the template 'for every input the law returns true; each argument reads behind the call as it read before'; 0 by the template 'total and deterministic' (their statements: YteepnlofbfccgaaDoorTotals.lean).
  GIVEN WITH THE SEED: the statements are not yours to turn. If you find one false, say at which input.
  Laid BY PROGRAM, IN A SANDBOX (cutbox-rows.mjs): the forced cells as the released guide's own fill.sh prints them over the translation c2318f9c9bb4f0af… (all of the seat's roots in one cut). By AI agents, Wed Nov 11 2026. No macro, syntax, notation, axiom, sorry.
-/
import Derived.Test.YteepnlofbfccgaaDoorChecked
import GoSem.PinnedTables
import GoSem.Claim
import GoSem.ClaimJoined
import GoSem.ClaimMapViews
import Derived.JoinedTies
import Derived.KernelRfl
namespace Go.Proofs.YteepnlofbfccgaaDoor
/- THE CELL 'sum', in the pinned program and in every row, IS THE sha256 OF THE DUMP (.gsa) THAT YteepnlofbfccgaaDoorProg.lean LOADS. Nothing in Lean hashes anything: it is a label: what it is worth is what the hold of that sum in a sandbox is worth. -/
noncomputable def Tryd.pinned : Pinned := { name := "yteepnlofbfccgaadoor", sum := "c2318f9c9bb4f0af3a814269cb0f6717abc71e81bce525b3e3ccd5f0447386c8", checked := Tryd.checked }
namespace Rows
def none {H : Type} : Left H := { results := [], args := [] }

/- WHAT THE LISTED PACKAGE-LEVEL VARIABLES READ AS WHEN THE CALL BEGINS. Each datum BY PROGRAM (the guide's laid-datum.mjs) off the statement by which the dump's own 'gosem.cut.vars' lays the variable. In a bare row this is a premise. The card (YteepnlofbfccgaaDoorCards.lean) ties it to the program's text. -/
def laid_unicode_utf8_acceptRanges {H : Type} : DataW H := .agg [.agg [.lit (.int .u8 128), .lit (.int .u8 191)], .agg [.lit (.int .u8 160), .lit (.int .u8 191)], .agg [.lit (.int .u8 128), .lit (.int .u8 159)], .agg [.lit (.int .u8 144), .lit (.int .u8 191)], .agg [.lit (.int .u8 128), .lit (.int .u8 143)], .agg [.lit (.int .u8 0), .lit (.int .u8 0)], .agg [.lit (.int .u8 0), .lit (.int .u8 0)], .agg [.lit (.int .u8 0), .lit (.int .u8 0)], .agg [.lit (.int .u8 0), .lit (.int .u8 0)], .agg [.lit (.int .u8 0), .lit (.int .u8 0)], .agg [.lit (.int .u8 0), .lit (.int .u8 0)], .agg [.lit (.int .u8 0), .lit (.int .u8 0)], .agg [.lit (.int .u8 0), .lit (.int .u8 0)], .agg [.lit (.int .u8 0), .lit (.int .u8 0)], .agg [.lit (.int .u8 0), .lit (.int .u8 0)], .agg [.lit (.int .u8 0), .lit (.int .u8 0)]]
/-- One of Go's own tables, pinned by name: the form's constant. -/
def laid_unicode_utf8_first : DataW Unit := Go.Pinned.utf8First
def laid_math_bits_deBruijn32tab {H : Type} : DataW H := .agg [.lit (.int .u8 0), .lit (.int .u8 1), .lit (.int .u8 28), .lit (.int .u8 2), .lit (.int .u8 29), .lit (.int .u8 14), .lit (.int .u8 24), .lit (.int .u8 3), .lit (.int .u8 30), .lit (.int .u8 22), .lit (.int .u8 20), .lit (.int .u8 15), .lit (.int .u8 25), .lit (.int .u8 17), .lit (.int .u8 4), .lit (.int .u8 8), .lit (.int .u8 31), .lit (.int .u8 27), .lit (.int .u8 13), .lit (.int .u8 23), .lit (.int .u8 21), .lit (.int .u8 19), .lit (.int .u8 16), .lit (.int .u8 7), .lit (.int .u8 26), .lit (.int .u8 12), .lit (.int .u8 18), .lit (.int .u8 6), .lit (.int .u8 11), .lit (.int .u8 5), .lit (.int .u8 10), .lit (.int .u8 9)]
def laid_math_bits_deBruijn64tab {H : Type} : DataW H := .agg [.lit (.int .u8 0), .lit (.int .u8 1), .lit (.int .u8 56), .lit (.int .u8 2), .lit (.int .u8 57), .lit (.int .u8 49), .lit (.int .u8 28), .lit (.int .u8 3), .lit (.int .u8 61), .lit (.int .u8 58), .lit (.int .u8 42), .lit (.int .u8 50), .lit (.int .u8 38), .lit (.int .u8 29), .lit (.int .u8 17), .lit (.int .u8 4), .lit (.int .u8 62), .lit (.int .u8 47), .lit (.int .u8 59), .lit (.int .u8 36), .lit (.int .u8 45), .lit (.int .u8 43), .lit (.int .u8 51), .lit (.int .u8 22), .lit (.int .u8 53), .lit (.int .u8 39), .lit (.int .u8 33), .lit (.int .u8 30), .lit (.int .u8 24), .lit (.int .u8 18), .lit (.int .u8 12), .lit (.int .u8 5), .lit (.int .u8 63), .lit (.int .u8 55), .lit (.int .u8 48), .lit (.int .u8 27), .lit (.int .u8 60), .lit (.int .u8 41), .lit (.int .u8 37), .lit (.int .u8 16), .lit (.int .u8 46), .lit (.int .u8 35), .lit (.int .u8 44), .lit (.int .u8 21), .lit (.int .u8 52), .lit (.int .u8 32), .lit (.int .u8 23), .lit (.int .u8 11), .lit (.int .u8 54), .lit (.int .u8 26), .lit (.int .u8 40), .lit (.int .u8 15), .lit (.int .u8 34), .lit (.int .u8 20), .lit (.int .u8 31), .lit (.int .u8 10), .lit (.int .u8 25), .lit (.int .u8 14), .lit (.int .u8 19), .lit (.int .u8 9), .lit (.int .u8 13), .lit (.int .u8 8), .lit (.int .u8 7), .lit (.int .u8 6)]
def laid_internal_strconv_uint64pow10 {H : Type} : DataW H := .agg [.lit (.int .u64 1), .lit (.int .u64 10), .lit (.int .u64 100), .lit (.int .u64 1000), .lit (.int .u64 10000), .lit (.int .u64 100000), .lit (.int .u64 1000000), .lit (.int .u64 10000000), .lit (.int .u64 100000000), .lit (.int .u64 1000000000), .lit (.int .u64 10000000000), .lit (.int .u64 100000000000), .lit (.int .u64 1000000000000), .lit (.int .u64 10000000000000), .lit (.int .u64 100000000000000), .lit (.int .u64 1000000000000000), .lit (.int .u64 10000000000000000), .lit (.int .u64 100000000000000000), .lit (.int .u64 1000000000000000000), .lit (.int .u64 10000000000000000000)]

/-- 'laws.FnExactIsCaveRow': WHATEVER THE INPUT: true; the input reads as it did. -/
def fnExactIsCaveRowSpec : ChangeSpec := { name := "fnExactIsCaveRow", fn := fun _ => fun
  | [d] => { results := [.lit (.bool true)], args := [d] }
  | _ => none }
def fnExactIsCaveRowRow : OpenClaim := { program := "yteepnlofbfccgaadoor", sum := "c2318f9c9bb4f0af3a814269cb0f6717abc71e81bce525b3e3ccd5f0447386c8", func := "loop.example/g00933/laws.FnExactIsCaveRow", spec := "fnExactIsCaveRow", inPlace := ["internal/bytealg.IndexByteString", "internal/bytealg.IndexString"], named := ["unicode/utf8.first", "unicode/utf8.acceptRanges", "internal/bytealg.MaxLen"], apart := false, laid := [("unicode/utf8.acceptRanges", laid_unicode_utf8_acceptRanges), ("unicode/utf8.first", laid_unicode_utf8_first)] }
def FnExactIsCaveRowSaid : Prop := fnExactIsCaveRowRow.holds Tryd.pinned (OpenSpec.ofChange fnExactIsCaveRowSpec)

/-- ITS FALSE NEIGHBOUR: 'it returns false'. Refute it at one input. -/
def fnExactIsCaveRowWrong : ChangeSpec := { name := "fnExactIsCaveRow", fn := fun _ => fun
  | [d] => { results := [.lit (.bool false)], args := [d] }
  | _ => none }
def FnExactIsCaveRowWrongFalsely : Prop := fnExactIsCaveRowRow.holds Tryd.pinned (OpenSpec.ofChange fnExactIsCaveRowWrong)

/-- 'laws.FnExactAreCaves': WHATEVER THE INPUT: true; the input reads as it did. -/
def fnExactAreCavesSpec : ChangeSpec := { name := "fnExactAreCaves", fn := fun _ => fun
  | [d] => { results := [.lit (.bool true)], args := [d] }
  | _ => none }
def fnExactAreCavesRow : OpenClaim := { program := "yteepnlofbfccgaadoor", sum := "c2318f9c9bb4f0af3a814269cb0f6717abc71e81bce525b3e3ccd5f0447386c8", func := "loop.example/g00933/laws.FnExactAreCaves", spec := "fnExactAreCaves", inPlace := ["internal/bytealg.IndexByteString", "internal/bytealg.IndexString"], named := ["unicode/utf8.first", "unicode/utf8.acceptRanges", "internal/bytealg.MaxLen"], apart := false, laid := [("unicode/utf8.acceptRanges", laid_unicode_utf8_acceptRanges), ("unicode/utf8.first", laid_unicode_utf8_first)] }
def FnExactAreCavesSaid : Prop := fnExactAreCavesRow.holds Tryd.pinned (OpenSpec.ofChange fnExactAreCavesSpec)

/-- ITS FALSE NEIGHBOUR: 'it returns false'. Refute it at one input. -/
def fnExactAreCavesWrong : ChangeSpec := { name := "fnExactAreCaves", fn := fun _ => fun
  | [d] => { results := [.lit (.bool false)], args := [d] }
  | _ => none }
def FnExactAreCavesWrongFalsely : Prop := fnExactAreCavesRow.holds Tryd.pinned (OpenSpec.ofChange fnExactAreCavesWrong)

/-- 'laws.FnExactMeanLeg': WHATEVER THE INPUT: true; the input reads as it did. -/
def fnExactMeanLegSpec : ChangeSpec := { name := "fnExactMeanLeg", fn := fun _ => fun
  | [d] => { results := [.lit (.bool true)], args := [d] }
  | _ => none }
def fnExactMeanLegRow : OpenClaim := { program := "yteepnlofbfccgaadoor", sum := "c2318f9c9bb4f0af3a814269cb0f6717abc71e81bce525b3e3ccd5f0447386c8", func := "loop.example/g00933/laws.FnExactMeanLeg", spec := "fnExactMeanLeg", inPlace := ["internal/bytealg.IndexByteString", "internal/bytealg.IndexString"], named := ["unicode/utf8.first", "unicode/utf8.acceptRanges", "internal/bytealg.MaxLen"], apart := false, laid := [("unicode/utf8.acceptRanges", laid_unicode_utf8_acceptRanges), ("unicode/utf8.first", laid_unicode_utf8_first)] }
def FnExactMeanLegSaid : Prop := fnExactMeanLegRow.holds Tryd.pinned (OpenSpec.ofChange fnExactMeanLegSpec)

/-- ITS FALSE NEIGHBOUR: 'it returns false'. Refute it at one input. -/
def fnExactMeanLegWrong : ChangeSpec := { name := "fnExactMeanLeg", fn := fun _ => fun
  | [d] => { results := [.lit (.bool false)], args := [d] }
  | _ => none }
def FnExactMeanLegWrongFalsely : Prop := fnExactMeanLegRow.holds Tryd.pinned (OpenSpec.ofChange fnExactMeanLegWrong)

/-- 'laws.FnExactCavesLongerThan': WHATEVER THE INPUT: true; the input reads as it did. -/
def fnExactCavesLongerThanSpec : ChangeSpec := { name := "fnExactCavesLongerThan", fn := fun _ => fun
  | [d1, d2] => { results := [.lit (.bool true)], args := [d1, d2] }
  | _ => none }
def fnExactCavesLongerThanRow : OpenClaim := { program := "yteepnlofbfccgaadoor", sum := "c2318f9c9bb4f0af3a814269cb0f6717abc71e81bce525b3e3ccd5f0447386c8", func := "loop.example/g00933/laws.FnExactCavesLongerThan", spec := "fnExactCavesLongerThan", inPlace := ["internal/bytealg.IndexByteString", "internal/bytealg.IndexString"], named := ["unicode/utf8.first", "unicode/utf8.acceptRanges", "internal/bytealg.MaxLen"], apart := false, laid := [("unicode/utf8.acceptRanges", laid_unicode_utf8_acceptRanges), ("unicode/utf8.first", laid_unicode_utf8_first)] }
def FnExactCavesLongerThanSaid : Prop := fnExactCavesLongerThanRow.holds Tryd.pinned (OpenSpec.ofChange fnExactCavesLongerThanSpec)

/-- ITS FALSE NEIGHBOUR: 'it returns false'. Refute it at one input. -/
def fnExactCavesLongerThanWrong : ChangeSpec := { name := "fnExactCavesLongerThan", fn := fun _ => fun
  | [d1, d2] => { results := [.lit (.bool false)], args := [d1, d2] }
  | _ => none }
def FnExactCavesLongerThanWrongFalsely : Prop := fnExactCavesLongerThanRow.holds Tryd.pinned (OpenSpec.ofChange fnExactCavesLongerThanWrong)

/-- 'laws.FnExactAddSurvey': WHATEVER THE INPUT: true; the input reads as it did. -/
def fnExactAddSurveySpec : ChangeSpec := { name := "fnExactAddSurvey", fn := fun _ => fun
  | [d1, d2, d3, d4, d5] => { results := [.lit (.bool true)], args := [d1, d2, d3, d4, d5] }
  | _ => none }
def fnExactAddSurveyRow : OpenClaim := { program := "yteepnlofbfccgaadoor", sum := "c2318f9c9bb4f0af3a814269cb0f6717abc71e81bce525b3e3ccd5f0447386c8", func := "loop.example/g00933/laws.FnExactAddSurvey", spec := "fnExactAddSurvey", inPlace := ["internal/bytealg.IndexByteString", "internal/bytealg.IndexString"], unfollowed := true, recurses := true, named := ["unicode/utf8.first", "unicode/utf8.acceptRanges", "internal/bytealg.MaxLen"], apart := false, laid := [("unicode/utf8.acceptRanges", laid_unicode_utf8_acceptRanges), ("unicode/utf8.first", laid_unicode_utf8_first)] }
def FnExactAddSurveySaid : Prop := fnExactAddSurveyRow.holds Tryd.pinned (OpenSpec.ofChange fnExactAddSurveySpec)

/-- ITS FALSE NEIGHBOUR: 'it returns false'. Refute it at one input. -/
def fnExactAddSurveyWrong : ChangeSpec := { name := "fnExactAddSurvey", fn := fun _ => fun
  | [d1, d2, d3, d4, d5] => { results := [.lit (.bool false)], args := [d1, d2, d3, d4, d5] }
  | _ => none }
def FnExactAddSurveyWrongFalsely : Prop := fnExactAddSurveyRow.holds Tryd.pinned (OpenSpec.ofChange fnExactAddSurveyWrong)

/-- 'laws.FnExactConnectCaves': WHATEVER THE INPUT: true; the input reads as it did. -/
def fnExactConnectCavesSpec : ChangeSpec := { name := "fnExactConnectCaves", fn := fun _ => fun
  | [d1, d2, d3, d4] => { results := [.lit (.bool true)], args := [d1, d2, d3, d4] }
  | _ => none }
def fnExactConnectCavesRow : OpenClaim := { program := "yteepnlofbfccgaadoor", sum := "c2318f9c9bb4f0af3a814269cb0f6717abc71e81bce525b3e3ccd5f0447386c8", func := "loop.example/g00933/laws.FnExactConnectCaves", spec := "fnExactConnectCaves", inPlace := ["internal/bytealg.IndexByteString", "internal/bytealg.IndexString"], unfollowed := true, recurses := true, named := ["unicode/utf8.first", "unicode/utf8.acceptRanges", "internal/bytealg.MaxLen"], apart := false, laid := [("unicode/utf8.acceptRanges", laid_unicode_utf8_acceptRanges), ("unicode/utf8.first", laid_unicode_utf8_first)] }
def FnExactConnectCavesSaid : Prop := fnExactConnectCavesRow.holds Tryd.pinned (OpenSpec.ofChange fnExactConnectCavesSpec)

/-- ITS FALSE NEIGHBOUR: 'it returns false'. Refute it at one input. -/
def fnExactConnectCavesWrong : ChangeSpec := { name := "fnExactConnectCaves", fn := fun _ => fun
  | [d1, d2, d3, d4] => { results := [.lit (.bool false)], args := [d1, d2, d3, d4] }
  | _ => none }
def FnExactConnectCavesWrongFalsely : Prop := fnExactConnectCavesRow.holds Tryd.pinned (OpenSpec.ofChange fnExactConnectCavesWrong)

/-- 'laws.FnExactCaveLine': WHATEVER THE INPUT: true; the input reads as it did. -/
def fnExactCaveLineSpec : ChangeSpec := { name := "fnExactCaveLine", fn := fun _ => fun
  | [d] => { results := [.lit (.bool true)], args := [d] }
  | _ => none }
def fnExactCaveLineRow : OpenClaim := { program := "yteepnlofbfccgaadoor", sum := "c2318f9c9bb4f0af3a814269cb0f6717abc71e81bce525b3e3ccd5f0447386c8", func := "loop.example/g00933/laws.FnExactCaveLine", spec := "fnExactCaveLine", inPlace := ["internal/bytealg.IndexByteString", "internal/bytealg.IndexString"], recurses := true, named := ["unicode/utf8.first", "unicode/utf8.acceptRanges", "internal/strconv.uint64pow10", "math/bits.deBruijn32tab", "math/bits.deBruijn64tab", "internal/bytealg.MaxLen"], apart := false, laid := [("math/bits.deBruijn32tab", laid_math_bits_deBruijn32tab), ("math/bits.deBruijn64tab", laid_math_bits_deBruijn64tab), ("internal/strconv.uint64pow10", laid_internal_strconv_uint64pow10), ("unicode/utf8.acceptRanges", laid_unicode_utf8_acceptRanges), ("unicode/utf8.first", laid_unicode_utf8_first)] }
def FnExactCaveLineSaid : Prop := fnExactCaveLineRow.holds Tryd.pinned (OpenSpec.ofChange fnExactCaveLineSpec)

/-- ITS FALSE NEIGHBOUR: 'it returns false'. Refute it at one input. -/
def fnExactCaveLineWrong : ChangeSpec := { name := "fnExactCaveLine", fn := fun _ => fun
  | [d] => { results := [.lit (.bool false)], args := [d] }
  | _ => none }
def FnExactCaveLineWrongFalsely : Prop := fnExactCaveLineRow.holds Tryd.pinned (OpenSpec.ofChange fnExactCaveLineWrong)

/-- 'laws.FnExactRankByLength': WHATEVER THE INPUT: true; the input reads as it did. -/
def fnExactRankByLengthSpec : ChangeSpec := { name := "fnExactRankByLength", fn := fun _ => fun
  | [d] => { results := [.lit (.bool true)], args := [d] }
  | _ => none }
def fnExactRankByLengthRow : OpenClaim := { program := "yteepnlofbfccgaadoor", sum := "c2318f9c9bb4f0af3a814269cb0f6717abc71e81bce525b3e3ccd5f0447386c8", func := "loop.example/g00933/laws.FnExactRankByLength", spec := "fnExactRankByLength", inPlace := ["internal/bytealg.IndexByteString", "internal/bytealg.IndexString"], unfollowed := true, recurses := true, named := ["unicode/utf8.first", "unicode/utf8.acceptRanges", "internal/bytealg.MaxLen"], apart := false, laid := [("unicode/utf8.acceptRanges", laid_unicode_utf8_acceptRanges), ("unicode/utf8.first", laid_unicode_utf8_first)] }
def FnExactRankByLengthSaid : Prop := fnExactRankByLengthRow.holds Tryd.pinned (OpenSpec.ofChange fnExactRankByLengthSpec)

/-- ITS FALSE NEIGHBOUR: 'it returns false'. Refute it at one input. -/
def fnExactRankByLengthWrong : ChangeSpec := { name := "fnExactRankByLength", fn := fun _ => fun
  | [d] => { results := [.lit (.bool false)], args := [d] }
  | _ => none }
def FnExactRankByLengthWrongFalsely : Prop := fnExactRankByLengthRow.holds Tryd.pinned (OpenSpec.ofChange fnExactRankByLengthWrong)

/-- 'laws.FnExactCavesText': WHATEVER THE INPUT: true; the input reads as it did. -/
def fnExactCavesTextSpec : ChangeSpec := { name := "fnExactCavesText", fn := fun _ => fun
  | [d] => { results := [.lit (.bool true)], args := [d] }
  | _ => none }
def fnExactCavesTextRow : OpenClaim := { program := "yteepnlofbfccgaadoor", sum := "c2318f9c9bb4f0af3a814269cb0f6717abc71e81bce525b3e3ccd5f0447386c8", func := "loop.example/g00933/laws.FnExactCavesText", spec := "fnExactCavesText", inPlace := ["internal/bytealg.IndexByteString", "internal/bytealg.IndexString", "internal/abi.NoEscape"], recurses := true, named := ["unicode/utf8.first", "unicode/utf8.acceptRanges", "internal/strconv.uint64pow10", "math/bits.deBruijn32tab", "math/bits.deBruijn64tab", "internal/bytealg.MaxLen"], apart := false, laid := [("math/bits.deBruijn32tab", laid_math_bits_deBruijn32tab), ("math/bits.deBruijn64tab", laid_math_bits_deBruijn64tab), ("internal/strconv.uint64pow10", laid_internal_strconv_uint64pow10), ("unicode/utf8.acceptRanges", laid_unicode_utf8_acceptRanges), ("unicode/utf8.first", laid_unicode_utf8_first)] }
def FnExactCavesTextSaid : Prop := fnExactCavesTextRow.holds Tryd.pinned (OpenSpec.ofChange fnExactCavesTextSpec)

/-- ITS FALSE NEIGHBOUR: 'it returns false'. Refute it at one input. -/
def fnExactCavesTextWrong : ChangeSpec := { name := "fnExactCavesText", fn := fun _ => fun
  | [d] => { results := [.lit (.bool false)], args := [d] }
  | _ => none }
def FnExactCavesTextWrongFalsely : Prop := fnExactCavesTextRow.holds Tryd.pinned (OpenSpec.ofChange fnExactCavesTextWrong)

/-- 'laws.FnExactRankByDepth': WHATEVER THE INPUT: true; the input reads as it did. -/
def fnExactRankByDepthSpec : ChangeSpec := { name := "fnExactRankByDepth", fn := fun _ => fun
  | [d] => { results := [.lit (.bool true)], args := [d] }
  | _ => none }
def fnExactRankByDepthRow : OpenClaim := { program := "yteepnlofbfccgaadoor", sum := "c2318f9c9bb4f0af3a814269cb0f6717abc71e81bce525b3e3ccd5f0447386c8", func := "loop.example/g00933/laws.FnExactRankByDepth", spec := "fnExactRankByDepth", inPlace := ["internal/bytealg.IndexByteString", "internal/bytealg.IndexString"], unfollowed := true, recurses := true, named := ["unicode/utf8.first", "unicode/utf8.acceptRanges", "internal/bytealg.MaxLen"], apart := false, laid := [("unicode/utf8.acceptRanges", laid_unicode_utf8_acceptRanges), ("unicode/utf8.first", laid_unicode_utf8_first)] }
def FnExactRankByDepthSaid : Prop := fnExactRankByDepthRow.holds Tryd.pinned (OpenSpec.ofChange fnExactRankByDepthSpec)

/-- ITS FALSE NEIGHBOUR: 'it returns false'. Refute it at one input. -/
def fnExactRankByDepthWrong : ChangeSpec := { name := "fnExactRankByDepth", fn := fun _ => fun
  | [d] => { results := [.lit (.bool false)], args := [d] }
  | _ => none }
def FnExactRankByDepthWrongFalsely : Prop := fnExactRankByDepthRow.holds Tryd.pinned (OpenSpec.ofChange fnExactRankByDepthWrong)

/-- 'laws.FnCaveRanks': WHATEVER THE INPUT: true; the input reads as it did. -/
def fnCaveRanksSpec : ChangeSpec := { name := "fnCaveRanks", fn := fun _ => fun
  | [d] => { results := [.lit (.bool true)], args := [d] }
  | _ => none }
def fnCaveRanksRow : OpenClaim := { program := "yteepnlofbfccgaadoor", sum := "c2318f9c9bb4f0af3a814269cb0f6717abc71e81bce525b3e3ccd5f0447386c8", func := "loop.example/g00933/laws.FnCaveRanks", spec := "fnCaveRanks", inPlace := ["internal/bytealg.IndexByteString", "internal/bytealg.IndexString"], unfollowed := true, recurses := true, named := ["unicode/utf8.first", "unicode/utf8.acceptRanges", "internal/bytealg.MaxLen"], apart := false, laid := [("unicode/utf8.acceptRanges", laid_unicode_utf8_acceptRanges), ("unicode/utf8.first", laid_unicode_utf8_first)] }
def FnCaveRanksSaid : Prop := fnCaveRanksRow.holds Tryd.pinned (OpenSpec.ofChange fnCaveRanksSpec)

/-- ITS FALSE NEIGHBOUR: 'it returns false'. Refute it at one input. -/
def fnCaveRanksWrong : ChangeSpec := { name := "fnCaveRanks", fn := fun _ => fun
  | [d] => { results := [.lit (.bool false)], args := [d] }
  | _ => none }
def FnCaveRanksWrongFalsely : Prop := fnCaveRanksRow.holds Tryd.pinned (OpenSpec.ofChange fnCaveRanksWrong)

/-- 'laws.FnCaveLines': WHATEVER THE INPUT: true; the input reads as it did. -/
def fnCaveLinesSpec : ChangeSpec := { name := "fnCaveLines", fn := fun _ => fun
  | [d] => { results := [.lit (.bool true)], args := [d] }
  | _ => none }
def fnCaveLinesRow : OpenClaim := { program := "yteepnlofbfccgaadoor", sum := "c2318f9c9bb4f0af3a814269cb0f6717abc71e81bce525b3e3ccd5f0447386c8", func := "loop.example/g00933/laws.FnCaveLines", spec := "fnCaveLines", inPlace := ["internal/bytealg.IndexByteString", "internal/bytealg.IndexString", "internal/abi.NoEscape"], recurses := true, named := ["unicode/utf8.first", "unicode/utf8.acceptRanges", "internal/strconv.uint64pow10", "math/bits.deBruijn32tab", "math/bits.deBruijn64tab", "internal/bytealg.MaxLen"], apart := false, laid := [("math/bits.deBruijn32tab", laid_math_bits_deBruijn32tab), ("math/bits.deBruijn64tab", laid_math_bits_deBruijn64tab), ("internal/strconv.uint64pow10", laid_internal_strconv_uint64pow10), ("unicode/utf8.acceptRanges", laid_unicode_utf8_acceptRanges), ("unicode/utf8.first", laid_unicode_utf8_first)] }
def FnCaveLinesSaid : Prop := fnCaveLinesRow.holds Tryd.pinned (OpenSpec.ofChange fnCaveLinesSpec)

/-- ITS FALSE NEIGHBOUR: 'it returns false'. Refute it at one input. -/
def fnCaveLinesWrong : ChangeSpec := { name := "fnCaveLines", fn := fun _ => fun
  | [d] => { results := [.lit (.bool false)], args := [d] }
  | _ => none }
def FnCaveLinesWrongFalsely : Prop := fnCaveLinesRow.holds Tryd.pinned (OpenSpec.ofChange fnCaveLinesWrong)

/- THE SECOND FORM. 'bulk': how many values and letters a reading holds, each counted each time it is reached (what is shared counts as often as it is met; a slice's spare places count too). A statement '..UptoSaid' is the law's where the arguments, and the package variables that the reading takes, are together of bulk at most 1048576: NARROWER than '..Said'. Prove '..Said' where nothing that the law and all that it calls make is longer than what came in: it says more and counts as full. Else prove '..UptoSaid'. A law counts once. -/
mutual
def uptoBulk {H : Type} : DataW H → Nat
  | .lit (.string bytes) => bytes.length + 1
  | .lit _ => 1
  | .nil => 1
  | .ptr d => uptoBulk d + 1
  | .slice elems spare => uptoBulkAll elems + uptoBulkAll spare + 1
  | .agg parts => uptoBulkAll parts + 1
  | .iface _ d => uptoBulk d + 1
  | .map entries => uptoBulkEntries entries + 1
  | .held _ => 1
def uptoBulkAll {H : Type} : List (DataW H) → Nat
  | [] => 0
  | d :: r => uptoBulk d + uptoBulkAll r
def uptoBulkEntries {H : Type} : List (Lit × DataW H) → Nat
  | [] => 0
  | x :: r => uptoBulkEntry x + uptoBulkEntries r
def uptoBulkEntry {H : Type} : Lit × DataW H → Nat
  | (.string bytes, d) => bytes.length + uptoBulk d + 1
  | (_, d) => uptoBulk d + 1
 end
def uptoSmall : (H : Type) → List (DataW H) → Bool := fun _ ds => decide (uptoBulkAll ds ≤ 1048576)
def OpenSpec.upto (s : _root_.Go.ChangeSpec) : _root_.Go.OpenSpec := { _root_.Go.OpenSpec.ofChange s with cond := some uptoSmall }

/-- 'laws.FnExactIsCaveRow', WHERE WHAT IT READS IS OF BULK AT MOST 1048576: true; the input reads as it did. -/
def fnExactIsCaveRowUptoRow : OpenClaim := { program := "yteepnlofbfccgaadoor", sum := "c2318f9c9bb4f0af3a814269cb0f6717abc71e81bce525b3e3ccd5f0447386c8", func := "loop.example/g00933/laws.FnExactIsCaveRow", spec := "fnExactIsCaveRow", inPlace := ["internal/bytealg.IndexByteString", "internal/bytealg.IndexString"], named := ["unicode/utf8.first", "unicode/utf8.acceptRanges", "internal/bytealg.MaxLen"], apart := false, laid := [("unicode/utf8.acceptRanges", laid_unicode_utf8_acceptRanges), ("unicode/utf8.first", laid_unicode_utf8_first)], narrowed := true }
def FnExactIsCaveRowUptoSaid : Prop := fnExactIsCaveRowUptoRow.holds Tryd.pinned (OpenSpec.upto fnExactIsCaveRowSpec)

/-- 'laws.FnExactAreCaves', WHERE WHAT IT READS IS OF BULK AT MOST 1048576: true; the input reads as it did. -/
def fnExactAreCavesUptoRow : OpenClaim := { program := "yteepnlofbfccgaadoor", sum := "c2318f9c9bb4f0af3a814269cb0f6717abc71e81bce525b3e3ccd5f0447386c8", func := "loop.example/g00933/laws.FnExactAreCaves", spec := "fnExactAreCaves", inPlace := ["internal/bytealg.IndexByteString", "internal/bytealg.IndexString"], named := ["unicode/utf8.first", "unicode/utf8.acceptRanges", "internal/bytealg.MaxLen"], apart := false, laid := [("unicode/utf8.acceptRanges", laid_unicode_utf8_acceptRanges), ("unicode/utf8.first", laid_unicode_utf8_first)], narrowed := true }
def FnExactAreCavesUptoSaid : Prop := fnExactAreCavesUptoRow.holds Tryd.pinned (OpenSpec.upto fnExactAreCavesSpec)

/-- 'laws.FnExactMeanLeg', WHERE WHAT IT READS IS OF BULK AT MOST 1048576: true; the input reads as it did. -/
def fnExactMeanLegUptoRow : OpenClaim := { program := "yteepnlofbfccgaadoor", sum := "c2318f9c9bb4f0af3a814269cb0f6717abc71e81bce525b3e3ccd5f0447386c8", func := "loop.example/g00933/laws.FnExactMeanLeg", spec := "fnExactMeanLeg", inPlace := ["internal/bytealg.IndexByteString", "internal/bytealg.IndexString"], named := ["unicode/utf8.first", "unicode/utf8.acceptRanges", "internal/bytealg.MaxLen"], apart := false, laid := [("unicode/utf8.acceptRanges", laid_unicode_utf8_acceptRanges), ("unicode/utf8.first", laid_unicode_utf8_first)], narrowed := true }
def FnExactMeanLegUptoSaid : Prop := fnExactMeanLegUptoRow.holds Tryd.pinned (OpenSpec.upto fnExactMeanLegSpec)

/-- 'laws.FnExactCavesLongerThan', WHERE WHAT IT READS IS OF BULK AT MOST 1048576: true; the input reads as it did. -/
def fnExactCavesLongerThanUptoRow : OpenClaim := { program := "yteepnlofbfccgaadoor", sum := "c2318f9c9bb4f0af3a814269cb0f6717abc71e81bce525b3e3ccd5f0447386c8", func := "loop.example/g00933/laws.FnExactCavesLongerThan", spec := "fnExactCavesLongerThan", inPlace := ["internal/bytealg.IndexByteString", "internal/bytealg.IndexString"], named := ["unicode/utf8.first", "unicode/utf8.acceptRanges", "internal/bytealg.MaxLen"], apart := false, laid := [("unicode/utf8.acceptRanges", laid_unicode_utf8_acceptRanges), ("unicode/utf8.first", laid_unicode_utf8_first)], narrowed := true }
def FnExactCavesLongerThanUptoSaid : Prop := fnExactCavesLongerThanUptoRow.holds Tryd.pinned (OpenSpec.upto fnExactCavesLongerThanSpec)

/-- 'laws.FnExactAddSurvey', WHERE WHAT IT READS IS OF BULK AT MOST 1048576: true; the input reads as it did. -/
def fnExactAddSurveyUptoRow : OpenClaim := { program := "yteepnlofbfccgaadoor", sum := "c2318f9c9bb4f0af3a814269cb0f6717abc71e81bce525b3e3ccd5f0447386c8", func := "loop.example/g00933/laws.FnExactAddSurvey", spec := "fnExactAddSurvey", inPlace := ["internal/bytealg.IndexByteString", "internal/bytealg.IndexString"], unfollowed := true, recurses := true, named := ["unicode/utf8.first", "unicode/utf8.acceptRanges", "internal/bytealg.MaxLen"], apart := false, laid := [("unicode/utf8.acceptRanges", laid_unicode_utf8_acceptRanges), ("unicode/utf8.first", laid_unicode_utf8_first)], narrowed := true }
def FnExactAddSurveyUptoSaid : Prop := fnExactAddSurveyUptoRow.holds Tryd.pinned (OpenSpec.upto fnExactAddSurveySpec)

/-- 'laws.FnExactConnectCaves', WHERE WHAT IT READS IS OF BULK AT MOST 1048576: true; the input reads as it did. -/
def fnExactConnectCavesUptoRow : OpenClaim := { program := "yteepnlofbfccgaadoor", sum := "c2318f9c9bb4f0af3a814269cb0f6717abc71e81bce525b3e3ccd5f0447386c8", func := "loop.example/g00933/laws.FnExactConnectCaves", spec := "fnExactConnectCaves", inPlace := ["internal/bytealg.IndexByteString", "internal/bytealg.IndexString"], unfollowed := true, recurses := true, named := ["unicode/utf8.first", "unicode/utf8.acceptRanges", "internal/bytealg.MaxLen"], apart := false, laid := [("unicode/utf8.acceptRanges", laid_unicode_utf8_acceptRanges), ("unicode/utf8.first", laid_unicode_utf8_first)], narrowed := true }
def FnExactConnectCavesUptoSaid : Prop := fnExactConnectCavesUptoRow.holds Tryd.pinned (OpenSpec.upto fnExactConnectCavesSpec)

/-- 'laws.FnExactCaveLine', WHERE WHAT IT READS IS OF BULK AT MOST 1048576: true; the input reads as it did. -/
def fnExactCaveLineUptoRow : OpenClaim := { program := "yteepnlofbfccgaadoor", sum := "c2318f9c9bb4f0af3a814269cb0f6717abc71e81bce525b3e3ccd5f0447386c8", func := "loop.example/g00933/laws.FnExactCaveLine", spec := "fnExactCaveLine", inPlace := ["internal/bytealg.IndexByteString", "internal/bytealg.IndexString"], recurses := true, named := ["unicode/utf8.first", "unicode/utf8.acceptRanges", "internal/strconv.uint64pow10", "math/bits.deBruijn32tab", "math/bits.deBruijn64tab", "internal/bytealg.MaxLen"], apart := false, laid := [("math/bits.deBruijn32tab", laid_math_bits_deBruijn32tab), ("math/bits.deBruijn64tab", laid_math_bits_deBruijn64tab), ("internal/strconv.uint64pow10", laid_internal_strconv_uint64pow10), ("unicode/utf8.acceptRanges", laid_unicode_utf8_acceptRanges), ("unicode/utf8.first", laid_unicode_utf8_first)], narrowed := true }
def FnExactCaveLineUptoSaid : Prop := fnExactCaveLineUptoRow.holds Tryd.pinned (OpenSpec.upto fnExactCaveLineSpec)

/-- 'laws.FnExactRankByLength', WHERE WHAT IT READS IS OF BULK AT MOST 1048576: true; the input reads as it did. -/
def fnExactRankByLengthUptoRow : OpenClaim := { program := "yteepnlofbfccgaadoor", sum := "c2318f9c9bb4f0af3a814269cb0f6717abc71e81bce525b3e3ccd5f0447386c8", func := "loop.example/g00933/laws.FnExactRankByLength", spec := "fnExactRankByLength", inPlace := ["internal/bytealg.IndexByteString", "internal/bytealg.IndexString"], unfollowed := true, recurses := true, named := ["unicode/utf8.first", "unicode/utf8.acceptRanges", "internal/bytealg.MaxLen"], apart := false, laid := [("unicode/utf8.acceptRanges", laid_unicode_utf8_acceptRanges), ("unicode/utf8.first", laid_unicode_utf8_first)], narrowed := true }
def FnExactRankByLengthUptoSaid : Prop := fnExactRankByLengthUptoRow.holds Tryd.pinned (OpenSpec.upto fnExactRankByLengthSpec)

/-- 'laws.FnExactCavesText', WHERE WHAT IT READS IS OF BULK AT MOST 1048576: true; the input reads as it did. -/
def fnExactCavesTextUptoRow : OpenClaim := { program := "yteepnlofbfccgaadoor", sum := "c2318f9c9bb4f0af3a814269cb0f6717abc71e81bce525b3e3ccd5f0447386c8", func := "loop.example/g00933/laws.FnExactCavesText", spec := "fnExactCavesText", inPlace := ["internal/bytealg.IndexByteString", "internal/bytealg.IndexString", "internal/abi.NoEscape"], recurses := true, named := ["unicode/utf8.first", "unicode/utf8.acceptRanges", "internal/strconv.uint64pow10", "math/bits.deBruijn32tab", "math/bits.deBruijn64tab", "internal/bytealg.MaxLen"], apart := false, laid := [("math/bits.deBruijn32tab", laid_math_bits_deBruijn32tab), ("math/bits.deBruijn64tab", laid_math_bits_deBruijn64tab), ("internal/strconv.uint64pow10", laid_internal_strconv_uint64pow10), ("unicode/utf8.acceptRanges", laid_unicode_utf8_acceptRanges), ("unicode/utf8.first", laid_unicode_utf8_first)], narrowed := true }
def FnExactCavesTextUptoSaid : Prop := fnExactCavesTextUptoRow.holds Tryd.pinned (OpenSpec.upto fnExactCavesTextSpec)

/-- 'laws.FnExactRankByDepth', WHERE WHAT IT READS IS OF BULK AT MOST 1048576: true; the input reads as it did. -/
def fnExactRankByDepthUptoRow : OpenClaim := { program := "yteepnlofbfccgaadoor", sum := "c2318f9c9bb4f0af3a814269cb0f6717abc71e81bce525b3e3ccd5f0447386c8", func := "loop.example/g00933/laws.FnExactRankByDepth", spec := "fnExactRankByDepth", inPlace := ["internal/bytealg.IndexByteString", "internal/bytealg.IndexString"], unfollowed := true, recurses := true, named := ["unicode/utf8.first", "unicode/utf8.acceptRanges", "internal/bytealg.MaxLen"], apart := false, laid := [("unicode/utf8.acceptRanges", laid_unicode_utf8_acceptRanges), ("unicode/utf8.first", laid_unicode_utf8_first)], narrowed := true }
def FnExactRankByDepthUptoSaid : Prop := fnExactRankByDepthUptoRow.holds Tryd.pinned (OpenSpec.upto fnExactRankByDepthSpec)

/-- 'laws.FnCaveRanks', WHERE WHAT IT READS IS OF BULK AT MOST 1048576: true; the input reads as it did. -/
def fnCaveRanksUptoRow : OpenClaim := { program := "yteepnlofbfccgaadoor", sum := "c2318f9c9bb4f0af3a814269cb0f6717abc71e81bce525b3e3ccd5f0447386c8", func := "loop.example/g00933/laws.FnCaveRanks", spec := "fnCaveRanks", inPlace := ["internal/bytealg.IndexByteString", "internal/bytealg.IndexString"], unfollowed := true, recurses := true, named := ["unicode/utf8.first", "unicode/utf8.acceptRanges", "internal/bytealg.MaxLen"], apart := false, laid := [("unicode/utf8.acceptRanges", laid_unicode_utf8_acceptRanges), ("unicode/utf8.first", laid_unicode_utf8_first)], narrowed := true }
def FnCaveRanksUptoSaid : Prop := fnCaveRanksUptoRow.holds Tryd.pinned (OpenSpec.upto fnCaveRanksSpec)

/-- 'laws.FnCaveLines', WHERE WHAT IT READS IS OF BULK AT MOST 1048576: true; the input reads as it did. -/
def fnCaveLinesUptoRow : OpenClaim := { program := "yteepnlofbfccgaadoor", sum := "c2318f9c9bb4f0af3a814269cb0f6717abc71e81bce525b3e3ccd5f0447386c8", func := "loop.example/g00933/laws.FnCaveLines", spec := "fnCaveLines", inPlace := ["internal/bytealg.IndexByteString", "internal/bytealg.IndexString", "internal/abi.NoEscape"], recurses := true, named := ["unicode/utf8.first", "unicode/utf8.acceptRanges", "internal/strconv.uint64pow10", "math/bits.deBruijn32tab", "math/bits.deBruijn64tab", "internal/bytealg.MaxLen"], apart := false, laid := [("math/bits.deBruijn32tab", laid_math_bits_deBruijn32tab), ("math/bits.deBruijn64tab", laid_math_bits_deBruijn64tab), ("internal/strconv.uint64pow10", laid_internal_strconv_uint64pow10), ("unicode/utf8.acceptRanges", laid_unicode_utf8_acceptRanges), ("unicode/utf8.first", laid_unicode_utf8_first)], narrowed := true }
def FnCaveLinesUptoSaid : Prop := fnCaveLinesUptoRow.holds Tryd.pinned (OpenSpec.upto fnCaveLinesSpec)

end Rows
end Go.Proofs.YteepnlofbfccgaaDoor
