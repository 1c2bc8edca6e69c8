/-
  NARROWER THAN 'FOR EVERY INPUT', by the rows' own cells (each row's printed sentence says how): FnExactBoxFor: laid · FnExactAreLabels: laid · FnExactIsPlacing: laid · FnExactWaysOf: laid · FnExactStuckLabels: laid · FnExactCountPlacings: laid · FnExactFirstPlacing: laid · FnExactMostPlaced: laid · FnLabels: laid · FnLabelBoxes: laid.
  DERIVED. THE GIVEN ROWS OF THIS SEAT. 10 by the template 'for every input the law returns true; each argument reads behind the call as it read before'; 0 by the template 'total and deterministic' (their statements: YtjkcfpmonpkhhaaDoorTotals.lean).
  GIVEN WITH THE SEED: the statements are not yours to turn. If you find one false, say at which input.
  Laid BY PROGRAM, IN A SANDBOX (cutbox-rows.mjs): the forced cells as the released guide's own fill.sh prints them over the translation c1e9a39c1a889ae8… (all of the seat's roots in one cut). By AI agents, Wed Nov 11 2026. No macro, syntax, notation, axiom, sorry.
-/
import Derived.Test.YtjkcfpmonpkhhaaDoorChecked
import GoSem.PinnedTables
import GoSem.Claim
import GoSem.ClaimJoined
import GoSem.ClaimMapViews
import Derived.JoinedTies
import Derived.KernelRfl
namespace Go.Proofs.YtjkcfpmonpkhhaaDoor
/- THE CELL 'sum', in the pinned program and in every row, IS THE sha256 OF THE DUMP (.gsa) THAT YtjkcfpmonpkhhaaDoorProg.lean LOADS. Nothing in Lean hashes anything: it is a label: what it is worth is what the hold of that sum in a sandbox is worth. -/
noncomputable def Tryd.pinned : Pinned := { name := "ytjkcfpmonpkhhaadoor", sum := "c1e9a39c1a889ae82c0515b8b7ff3cf32a164caba749a535eb55274471bbd332", checked := Tryd.checked }
namespace Rows
def none {H : Type} : Left H := { results := [], args := [] }

/- WHAT THE LISTED PACKAGE-LEVEL VARIABLES READ AS WHEN THE CALL BEGINS. Each datum BY PROGRAM (the guide's laid-datum.mjs) off the statement by which the dump's own 'gosem.cut.vars' lays the variable. In a bare row this is a premise. The card (YtjkcfpmonpkhhaaDoorCards.lean) ties it to the program's text. -/
def laid_unicode_utf8_acceptRanges {H : Type} : DataW H := .agg [.agg [.lit (.int .u8 128), .lit (.int .u8 191)], .agg [.lit (.int .u8 160), .lit (.int .u8 191)], .agg [.lit (.int .u8 128), .lit (.int .u8 159)], .agg [.lit (.int .u8 144), .lit (.int .u8 191)], .agg [.lit (.int .u8 128), .lit (.int .u8 143)], .agg [.lit (.int .u8 0), .lit (.int .u8 0)], .agg [.lit (.int .u8 0), .lit (.int .u8 0)], .agg [.lit (.int .u8 0), .lit (.int .u8 0)], .agg [.lit (.int .u8 0), .lit (.int .u8 0)], .agg [.lit (.int .u8 0), .lit (.int .u8 0)], .agg [.lit (.int .u8 0), .lit (.int .u8 0)], .agg [.lit (.int .u8 0), .lit (.int .u8 0)], .agg [.lit (.int .u8 0), .lit (.int .u8 0)], .agg [.lit (.int .u8 0), .lit (.int .u8 0)], .agg [.lit (.int .u8 0), .lit (.int .u8 0)], .agg [.lit (.int .u8 0), .lit (.int .u8 0)]]
/-- One of Go's own tables, pinned by name: the form's constant. -/
def laid_unicode_utf8_first : DataW Unit := Go.Pinned.utf8First

/-- 'laws.FnExactBoxFor': WHATEVER THE INPUT: true; the input reads as it did. -/
def fnExactBoxForSpec : ChangeSpec := { name := "fnExactBoxFor", fn := fun _ => fun
  | [d1, d2] => { results := [.lit (.bool true)], args := [d1, d2] }
  | _ => none }
def fnExactBoxForRow : OpenClaim := { program := "ytjkcfpmonpkhhaadoor", sum := "c1e9a39c1a889ae82c0515b8b7ff3cf32a164caba749a535eb55274471bbd332", func := "loop.example/g00933/laws.FnExactBoxFor", spec := "fnExactBoxFor", inPlace := ["internal/bytealg.IndexByteString", "internal/bytealg.IndexString"], named := ["unicode/utf8.first", "unicode/utf8.acceptRanges", "internal/bytealg.MaxLen"], apart := false, laid := [("unicode/utf8.acceptRanges", laid_unicode_utf8_acceptRanges), ("unicode/utf8.first", laid_unicode_utf8_first)] }
def FnExactBoxForSaid : Prop := fnExactBoxForRow.holds Tryd.pinned (OpenSpec.ofChange fnExactBoxForSpec)

/-- ITS FALSE NEIGHBOUR: 'it returns false'. Refute it at one input. -/
def fnExactBoxForWrong : ChangeSpec := { name := "fnExactBoxFor", fn := fun _ => fun
  | [d1, d2] => { results := [.lit (.bool false)], args := [d1, d2] }
  | _ => none }
def FnExactBoxForWrongFalsely : Prop := fnExactBoxForRow.holds Tryd.pinned (OpenSpec.ofChange fnExactBoxForWrong)

/-- 'laws.FnExactAreLabels': WHATEVER THE INPUT: true; the input reads as it did. -/
def fnExactAreLabelsSpec : ChangeSpec := { name := "fnExactAreLabels", fn := fun _ => fun
  | [d] => { results := [.lit (.bool true)], args := [d] }
  | _ => none }
def fnExactAreLabelsRow : OpenClaim := { program := "ytjkcfpmonpkhhaadoor", sum := "c1e9a39c1a889ae82c0515b8b7ff3cf32a164caba749a535eb55274471bbd332", func := "loop.example/g00933/laws.FnExactAreLabels", spec := "fnExactAreLabels", inPlace := ["internal/bytealg.IndexByteString", "internal/bytealg.IndexString"], unfollowed := true, recurses := true, named := ["unicode/utf8.first", "unicode/utf8.acceptRanges", "internal/bytealg.MaxLen"], apart := false, laid := [("unicode/utf8.acceptRanges", laid_unicode_utf8_acceptRanges), ("unicode/utf8.first", laid_unicode_utf8_first)] }
def FnExactAreLabelsSaid : Prop := fnExactAreLabelsRow.holds Tryd.pinned (OpenSpec.ofChange fnExactAreLabelsSpec)

/-- ITS FALSE NEIGHBOUR: 'it returns false'. Refute it at one input. -/
def fnExactAreLabelsWrong : ChangeSpec := { name := "fnExactAreLabels", fn := fun _ => fun
  | [d] => { results := [.lit (.bool false)], args := [d] }
  | _ => none }
def FnExactAreLabelsWrongFalsely : Prop := fnExactAreLabelsRow.holds Tryd.pinned (OpenSpec.ofChange fnExactAreLabelsWrong)

/-- 'laws.FnExactIsPlacing': WHATEVER THE INPUT: true; the input reads as it did. -/
def fnExactIsPlacingSpec : ChangeSpec := { name := "fnExactIsPlacing", fn := fun _ => fun
  | [d1, d2] => { results := [.lit (.bool true)], args := [d1, d2] }
  | _ => none }
def fnExactIsPlacingRow : OpenClaim := { program := "ytjkcfpmonpkhhaadoor", sum := "c1e9a39c1a889ae82c0515b8b7ff3cf32a164caba749a535eb55274471bbd332", func := "loop.example/g00933/laws.FnExactIsPlacing", spec := "fnExactIsPlacing", inPlace := ["internal/bytealg.IndexByteString", "internal/bytealg.IndexString"], unfollowed := true, recurses := true, named := ["unicode/utf8.first", "unicode/utf8.acceptRanges", "internal/bytealg.MaxLen"], apart := false, laid := [("unicode/utf8.acceptRanges", laid_unicode_utf8_acceptRanges), ("unicode/utf8.first", laid_unicode_utf8_first)] }
def FnExactIsPlacingSaid : Prop := fnExactIsPlacingRow.holds Tryd.pinned (OpenSpec.ofChange fnExactIsPlacingSpec)

/-- ITS FALSE NEIGHBOUR: 'it returns false'. Refute it at one input. -/
def fnExactIsPlacingWrong : ChangeSpec := { name := "fnExactIsPlacing", fn := fun _ => fun
  | [d1, d2] => { results := [.lit (.bool false)], args := [d1, d2] }
  | _ => none }
def FnExactIsPlacingWrongFalsely : Prop := fnExactIsPlacingRow.holds Tryd.pinned (OpenSpec.ofChange fnExactIsPlacingWrong)

/-- 'laws.FnExactWaysOf': WHATEVER THE INPUT: true; the input reads as it did. -/
def fnExactWaysOfSpec : ChangeSpec := { name := "fnExactWaysOf", fn := fun _ => fun
  | [d1, d2] => { results := [.lit (.bool true)], args := [d1, d2] }
  | _ => none }
def fnExactWaysOfRow : OpenClaim := { program := "ytjkcfpmonpkhhaadoor", sum := "c1e9a39c1a889ae82c0515b8b7ff3cf32a164caba749a535eb55274471bbd332", func := "loop.example/g00933/laws.FnExactWaysOf", spec := "fnExactWaysOf", inPlace := ["internal/bytealg.IndexByteString", "internal/bytealg.IndexString"], unfollowed := true, recurses := true, named := ["unicode/utf8.first", "unicode/utf8.acceptRanges", "internal/bytealg.MaxLen"], apart := false, laid := [("unicode/utf8.acceptRanges", laid_unicode_utf8_acceptRanges), ("unicode/utf8.first", laid_unicode_utf8_first)] }
def FnExactWaysOfSaid : Prop := fnExactWaysOfRow.holds Tryd.pinned (OpenSpec.ofChange fnExactWaysOfSpec)

/-- ITS FALSE NEIGHBOUR: 'it returns false'. Refute it at one input. -/
def fnExactWaysOfWrong : ChangeSpec := { name := "fnExactWaysOf", fn := fun _ => fun
  | [d1, d2] => { results := [.lit (.bool false)], args := [d1, d2] }
  | _ => none }
def FnExactWaysOfWrongFalsely : Prop := fnExactWaysOfRow.holds Tryd.pinned (OpenSpec.ofChange fnExactWaysOfWrong)

/-- 'laws.FnExactStuckLabels': WHATEVER THE INPUT: true; the input reads as it did. -/
def fnExactStuckLabelsSpec : ChangeSpec := { name := "fnExactStuckLabels", fn := fun _ => fun
  | [d] => { results := [.lit (.bool true)], args := [d] }
  | _ => none }
def fnExactStuckLabelsRow : OpenClaim := { program := "ytjkcfpmonpkhhaadoor", sum := "c1e9a39c1a889ae82c0515b8b7ff3cf32a164caba749a535eb55274471bbd332", func := "loop.example/g00933/laws.FnExactStuckLabels", spec := "fnExactStuckLabels", inPlace := ["internal/bytealg.IndexByteString", "internal/bytealg.IndexString"], unfollowed := true, recurses := true, named := ["unicode/utf8.first", "unicode/utf8.acceptRanges", "internal/bytealg.MaxLen"], apart := false, laid := [("unicode/utf8.acceptRanges", laid_unicode_utf8_acceptRanges), ("unicode/utf8.first", laid_unicode_utf8_first)] }
def FnExactStuckLabelsSaid : Prop := fnExactStuckLabelsRow.holds Tryd.pinned (OpenSpec.ofChange fnExactStuckLabelsSpec)

/-- ITS FALSE NEIGHBOUR: 'it returns false'. Refute it at one input. -/
def fnExactStuckLabelsWrong : ChangeSpec := { name := "fnExactStuckLabels", fn := fun _ => fun
  | [d] => { results := [.lit (.bool false)], args := [d] }
  | _ => none }
def FnExactStuckLabelsWrongFalsely : Prop := fnExactStuckLabelsRow.holds Tryd.pinned (OpenSpec.ofChange fnExactStuckLabelsWrong)

/-- 'laws.FnExactCountPlacings': WHATEVER THE INPUT: true; the input reads as it did. -/
def fnExactCountPlacingsSpec : ChangeSpec := { name := "fnExactCountPlacings", fn := fun _ => fun
  | [d] => { results := [.lit (.bool true)], args := [d] }
  | _ => none }
def fnExactCountPlacingsRow : OpenClaim := { program := "ytjkcfpmonpkhhaadoor", sum := "c1e9a39c1a889ae82c0515b8b7ff3cf32a164caba749a535eb55274471bbd332", func := "loop.example/g00933/laws.FnExactCountPlacings", spec := "fnExactCountPlacings", inPlace := ["internal/bytealg.IndexByteString", "internal/bytealg.IndexString"], unfollowed := true, recurses := true, named := ["unicode/utf8.first", "unicode/utf8.acceptRanges", "internal/bytealg.MaxLen"], apart := false, laid := [("unicode/utf8.acceptRanges", laid_unicode_utf8_acceptRanges), ("unicode/utf8.first", laid_unicode_utf8_first)] }
def FnExactCountPlacingsSaid : Prop := fnExactCountPlacingsRow.holds Tryd.pinned (OpenSpec.ofChange fnExactCountPlacingsSpec)

/-- ITS FALSE NEIGHBOUR: 'it returns false'. Refute it at one input. -/
def fnExactCountPlacingsWrong : ChangeSpec := { name := "fnExactCountPlacings", fn := fun _ => fun
  | [d] => { results := [.lit (.bool false)], args := [d] }
  | _ => none }
def FnExactCountPlacingsWrongFalsely : Prop := fnExactCountPlacingsRow.holds Tryd.pinned (OpenSpec.ofChange fnExactCountPlacingsWrong)

/-- 'laws.FnExactFirstPlacing': WHATEVER THE INPUT: true; the input reads as it did. -/
def fnExactFirstPlacingSpec : ChangeSpec := { name := "fnExactFirstPlacing", fn := fun _ => fun
  | [d] => { results := [.lit (.bool true)], args := [d] }
  | _ => none }
def fnExactFirstPlacingRow : OpenClaim := { program := "ytjkcfpmonpkhhaadoor", sum := "c1e9a39c1a889ae82c0515b8b7ff3cf32a164caba749a535eb55274471bbd332", func := "loop.example/g00933/laws.FnExactFirstPlacing", spec := "fnExactFirstPlacing", inPlace := ["internal/bytealg.IndexByteString", "internal/bytealg.IndexString"], unfollowed := true, recurses := true, named := ["unicode/utf8.first", "unicode/utf8.acceptRanges", "internal/bytealg.MaxLen"], apart := false, laid := [("unicode/utf8.acceptRanges", laid_unicode_utf8_acceptRanges), ("unicode/utf8.first", laid_unicode_utf8_first)] }
def FnExactFirstPlacingSaid : Prop := fnExactFirstPlacingRow.holds Tryd.pinned (OpenSpec.ofChange fnExactFirstPlacingSpec)

/-- ITS FALSE NEIGHBOUR: 'it returns false'. Refute it at one input. -/
def fnExactFirstPlacingWrong : ChangeSpec := { name := "fnExactFirstPlacing", fn := fun _ => fun
  | [d] => { results := [.lit (.bool false)], args := [d] }
  | _ => none }
def FnExactFirstPlacingWrongFalsely : Prop := fnExactFirstPlacingRow.holds Tryd.pinned (OpenSpec.ofChange fnExactFirstPlacingWrong)

/-- 'laws.FnExactMostPlaced': WHATEVER THE INPUT: true; the input reads as it did. -/
def fnExactMostPlacedSpec : ChangeSpec := { name := "fnExactMostPlaced", fn := fun _ => fun
  | [d] => { results := [.lit (.bool true)], args := [d] }
  | _ => none }
def fnExactMostPlacedRow : OpenClaim := { program := "ytjkcfpmonpkhhaadoor", sum := "c1e9a39c1a889ae82c0515b8b7ff3cf32a164caba749a535eb55274471bbd332", func := "loop.example/g00933/laws.FnExactMostPlaced", spec := "fnExactMostPlaced", inPlace := ["internal/bytealg.IndexByteString", "internal/bytealg.IndexString"], unfollowed := true, recurses := true, named := ["unicode/utf8.first", "unicode/utf8.acceptRanges", "internal/bytealg.MaxLen"], apart := false, laid := [("unicode/utf8.acceptRanges", laid_unicode_utf8_acceptRanges), ("unicode/utf8.first", laid_unicode_utf8_first)] }
def FnExactMostPlacedSaid : Prop := fnExactMostPlacedRow.holds Tryd.pinned (OpenSpec.ofChange fnExactMostPlacedSpec)

/-- ITS FALSE NEIGHBOUR: 'it returns false'. Refute it at one input. -/
def fnExactMostPlacedWrong : ChangeSpec := { name := "fnExactMostPlaced", fn := fun _ => fun
  | [d] => { results := [.lit (.bool false)], args := [d] }
  | _ => none }
def FnExactMostPlacedWrongFalsely : Prop := fnExactMostPlacedRow.holds Tryd.pinned (OpenSpec.ofChange fnExactMostPlacedWrong)

/-- 'laws.FnLabels': WHATEVER THE INPUT: true; the input reads as it did. -/
def fnLabelsSpec : ChangeSpec := { name := "fnLabels", fn := fun _ => fun
  | [d] => { results := [.lit (.bool true)], args := [d] }
  | _ => none }
def fnLabelsRow : OpenClaim := { program := "ytjkcfpmonpkhhaadoor", sum := "c1e9a39c1a889ae82c0515b8b7ff3cf32a164caba749a535eb55274471bbd332", func := "loop.example/g00933/laws.FnLabels", spec := "fnLabels", inPlace := ["internal/bytealg.IndexByteString", "internal/bytealg.IndexString"], unfollowed := true, recurses := true, named := ["unicode/utf8.first", "unicode/utf8.acceptRanges", "internal/bytealg.MaxLen"], apart := false, laid := [("unicode/utf8.acceptRanges", laid_unicode_utf8_acceptRanges), ("unicode/utf8.first", laid_unicode_utf8_first)] }
def FnLabelsSaid : Prop := fnLabelsRow.holds Tryd.pinned (OpenSpec.ofChange fnLabelsSpec)

/-- ITS FALSE NEIGHBOUR: 'it returns false'. Refute it at one input. -/
def fnLabelsWrong : ChangeSpec := { name := "fnLabels", fn := fun _ => fun
  | [d] => { results := [.lit (.bool false)], args := [d] }
  | _ => none }
def FnLabelsWrongFalsely : Prop := fnLabelsRow.holds Tryd.pinned (OpenSpec.ofChange fnLabelsWrong)

/-- 'laws.FnLabelBoxes': WHATEVER THE INPUT: true; the input reads as it did. -/
def fnLabelBoxesSpec : ChangeSpec := { name := "fnLabelBoxes", fn := fun _ => fun
  | [d] => { results := [.lit (.bool true)], args := [d] }
  | _ => none }
def fnLabelBoxesRow : OpenClaim := { program := "ytjkcfpmonpkhhaadoor", sum := "c1e9a39c1a889ae82c0515b8b7ff3cf32a164caba749a535eb55274471bbd332", func := "loop.example/g00933/laws.FnLabelBoxes", spec := "fnLabelBoxes", inPlace := ["internal/bytealg.IndexByteString", "internal/bytealg.IndexString"], unfollowed := true, recurses := true, named := ["unicode/utf8.first", "unicode/utf8.acceptRanges", "internal/bytealg.MaxLen"], apart := false, laid := [("unicode/utf8.acceptRanges", laid_unicode_utf8_acceptRanges), ("unicode/utf8.first", laid_unicode_utf8_first)] }
def FnLabelBoxesSaid : Prop := fnLabelBoxesRow.holds Tryd.pinned (OpenSpec.ofChange fnLabelBoxesSpec)

/-- ITS FALSE NEIGHBOUR: 'it returns false'. Refute it at one input. -/
def fnLabelBoxesWrong : ChangeSpec := { name := "fnLabelBoxes", fn := fun _ => fun
  | [d] => { results := [.lit (.bool false)], args := [d] }
  | _ => none }
def FnLabelBoxesWrongFalsely : Prop := fnLabelBoxesRow.holds Tryd.pinned (OpenSpec.ofChange fnLabelBoxesWrong)

/- THE SECOND FORM. 'bulk': how many values and letters a reading holds, each counted each time it is reached (what is shared counts as often as it is met; a slice's spare places count too). A statement '..UptoSaid' is the law's where the arguments, and the package variables that the reading takes, are together of bulk at most 1048576: NARROWER than '..Said'. Prove '..Said' where nothing that the law and all that it calls make is longer than what came in: it says more and counts as full. Else prove '..UptoSaid'. A law counts once. -/
mutual
def uptoBulk {H : Type} : DataW H → Nat
  | .lit (.string bytes) => bytes.length + 1
  | .lit _ => 1
  | .nil => 1
  | .ptr d => uptoBulk d + 1
  | .slice elems spare => uptoBulkAll elems + uptoBulkAll spare + 1
  | .agg parts => uptoBulkAll parts + 1
  | .iface _ d => uptoBulk d + 1
  | .map entries => uptoBulkEntries entries + 1
  | .held _ => 1
def uptoBulkAll {H : Type} : List (DataW H) → Nat
  | [] => 0
  | d :: r => uptoBulk d + uptoBulkAll r
def uptoBulkEntries {H : Type} : List (Lit × DataW H) → Nat
  | [] => 0
  | x :: r => uptoBulkEntry x + uptoBulkEntries r
def uptoBulkEntry {H : Type} : Lit × DataW H → Nat
  | (.string bytes, d) => bytes.length + uptoBulk d + 1
  | (_, d) => uptoBulk d + 1
 end
def uptoSmall : (H : Type) → List (DataW H) → Bool := fun _ ds => decide (uptoBulkAll ds ≤ 1048576)
def OpenSpec.upto (s : _root_.Go.ChangeSpec) : _root_.Go.OpenSpec := { _root_.Go.OpenSpec.ofChange s with cond := some uptoSmall }

/-- 'laws.FnExactBoxFor', WHERE WHAT IT READS IS OF BULK AT MOST 1048576: true; the input reads as it did. -/
def fnExactBoxForUptoRow : OpenClaim := { program := "ytjkcfpmonpkhhaadoor", sum := "c1e9a39c1a889ae82c0515b8b7ff3cf32a164caba749a535eb55274471bbd332", func := "loop.example/g00933/laws.FnExactBoxFor", spec := "fnExactBoxFor", inPlace := ["internal/bytealg.IndexByteString", "internal/bytealg.IndexString"], named := ["unicode/utf8.first", "unicode/utf8.acceptRanges", "internal/bytealg.MaxLen"], apart := false, laid := [("unicode/utf8.acceptRanges", laid_unicode_utf8_acceptRanges), ("unicode/utf8.first", laid_unicode_utf8_first)], narrowed := true }
def FnExactBoxForUptoSaid : Prop := fnExactBoxForUptoRow.holds Tryd.pinned (OpenSpec.upto fnExactBoxForSpec)

/-- 'laws.FnExactAreLabels', WHERE WHAT IT READS IS OF BULK AT MOST 1048576: true; the input reads as it did. -/
def fnExactAreLabelsUptoRow : OpenClaim := { program := "ytjkcfpmonpkhhaadoor", sum := "c1e9a39c1a889ae82c0515b8b7ff3cf32a164caba749a535eb55274471bbd332", func := "loop.example/g00933/laws.FnExactAreLabels", spec := "fnExactAreLabels", inPlace := ["internal/bytealg.IndexByteString", "internal/bytealg.IndexString"], unfollowed := true, recurses := true, named := ["unicode/utf8.first", "unicode/utf8.acceptRanges", "internal/bytealg.MaxLen"], apart := false, laid := [("unicode/utf8.acceptRanges", laid_unicode_utf8_acceptRanges), ("unicode/utf8.first", laid_unicode_utf8_first)], narrowed := true }
def FnExactAreLabelsUptoSaid : Prop := fnExactAreLabelsUptoRow.holds Tryd.pinned (OpenSpec.upto fnExactAreLabelsSpec)

/-- 'laws.FnExactIsPlacing', WHERE WHAT IT READS IS OF BULK AT MOST 1048576: true; the input reads as it did. -/
def fnExactIsPlacingUptoRow : OpenClaim := { program := "ytjkcfpmonpkhhaadoor", sum := "c1e9a39c1a889ae82c0515b8b7ff3cf32a164caba749a535eb55274471bbd332", func := "loop.example/g00933/laws.FnExactIsPlacing", spec := "fnExactIsPlacing", inPlace := ["internal/bytealg.IndexByteString", "internal/bytealg.IndexString"], unfollowed := true, recurses := true, named := ["unicode/utf8.first", "unicode/utf8.acceptRanges", "internal/bytealg.MaxLen"], apart := false, laid := [("unicode/utf8.acceptRanges", laid_unicode_utf8_acceptRanges), ("unicode/utf8.first", laid_unicode_utf8_first)], narrowed := true }
def FnExactIsPlacingUptoSaid : Prop := fnExactIsPlacingUptoRow.holds Tryd.pinned (OpenSpec.upto fnExactIsPlacingSpec)

/-- 'laws.FnExactWaysOf', WHERE WHAT IT READS IS OF BULK AT MOST 1048576: true; the input reads as it did. -/
def fnExactWaysOfUptoRow : OpenClaim := { program := "ytjkcfpmonpkhhaadoor", sum := "c1e9a39c1a889ae82c0515b8b7ff3cf32a164caba749a535eb55274471bbd332", func := "loop.example/g00933/laws.FnExactWaysOf", spec := "fnExactWaysOf", inPlace := ["internal/bytealg.IndexByteString", "internal/bytealg.IndexString"], unfollowed := true, recurses := true, named := ["unicode/utf8.first", "unicode/utf8.acceptRanges", "internal/bytealg.MaxLen"], apart := false, laid := [("unicode/utf8.acceptRanges", laid_unicode_utf8_acceptRanges), ("unicode/utf8.first", laid_unicode_utf8_first)], narrowed := true }
def FnExactWaysOfUptoSaid : Prop := fnExactWaysOfUptoRow.holds Tryd.pinned (OpenSpec.upto fnExactWaysOfSpec)

/-- 'laws.FnExactStuckLabels', WHERE WHAT IT READS IS OF BULK AT MOST 1048576: true; the input reads as it did. -/
def fnExactStuckLabelsUptoRow : OpenClaim := { program := "ytjkcfpmonpkhhaadoor", sum := "c1e9a39c1a889ae82c0515b8b7ff3cf32a164caba749a535eb55274471bbd332", func := "loop.example/g00933/laws.FnExactStuckLabels", spec := "fnExactStuckLabels", inPlace := ["internal/bytealg.IndexByteString", "internal/bytealg.IndexString"], unfollowed := true, recurses := true, named := ["unicode/utf8.first", "unicode/utf8.acceptRanges", "internal/bytealg.MaxLen"], apart := false, laid := [("unicode/utf8.acceptRanges", laid_unicode_utf8_acceptRanges), ("unicode/utf8.first", laid_unicode_utf8_first)], narrowed := true }
def FnExactStuckLabelsUptoSaid : Prop := fnExactStuckLabelsUptoRow.holds Tryd.pinned (OpenSpec.upto fnExactStuckLabelsSpec)

/-- 'laws.FnExactCountPlacings', WHERE WHAT IT READS IS OF BULK AT MOST 1048576: true; the input reads as it did. -/
def fnExactCountPlacingsUptoRow : OpenClaim := { program := "ytjkcfpmonpkhhaadoor", sum := "c1e9a39c1a889ae82c0515b8b7ff3cf32a164caba749a535eb55274471bbd332", func := "loop.example/g00933/laws.FnExactCountPlacings", spec := "fnExactCountPlacings", inPlace := ["internal/bytealg.IndexByteString", "internal/bytealg.IndexString"], unfollowed := true, recurses := true, named := ["unicode/utf8.first", "unicode/utf8.acceptRanges", "internal/bytealg.MaxLen"], apart := false, laid := [("unicode/utf8.acceptRanges", laid_unicode_utf8_acceptRanges), ("unicode/utf8.first", laid_unicode_utf8_first)], narrowed := true }
def FnExactCountPlacingsUptoSaid : Prop := fnExactCountPlacingsUptoRow.holds Tryd.pinned (OpenSpec.upto fnExactCountPlacingsSpec)

/-- 'laws.FnExactFirstPlacing', WHERE WHAT IT READS IS OF BULK AT MOST 1048576: true; the input reads as it did. -/
def fnExactFirstPlacingUptoRow : OpenClaim := { program := "ytjkcfpmonpkhhaadoor", sum := "c1e9a39c1a889ae82c0515b8b7ff3cf32a164caba749a535eb55274471bbd332", func := "loop.example/g00933/laws.FnExactFirstPlacing", spec := "fnExactFirstPlacing", inPlace := ["internal/bytealg.IndexByteString", "internal/bytealg.IndexString"], unfollowed := true, recurses := true, named := ["unicode/utf8.first", "unicode/utf8.acceptRanges", "internal/bytealg.MaxLen"], apart := false, laid := [("unicode/utf8.acceptRanges", laid_unicode_utf8_acceptRanges), ("unicode/utf8.first", laid_unicode_utf8_first)], narrowed := true }
def FnExactFirstPlacingUptoSaid : Prop := fnExactFirstPlacingUptoRow.holds Tryd.pinned (OpenSpec.upto fnExactFirstPlacingSpec)

/-- 'laws.FnExactMostPlaced', WHERE WHAT IT READS IS OF BULK AT MOST 1048576: true; the input reads as it did. -/
def fnExactMostPlacedUptoRow : OpenClaim := { program := "ytjkcfpmonpkhhaadoor", sum := "c1e9a39c1a889ae82c0515b8b7ff3cf32a164caba749a535eb55274471bbd332", func := "loop.example/g00933/laws.FnExactMostPlaced", spec := "fnExactMostPlaced", inPlace := ["internal/bytealg.IndexByteString", "internal/bytealg.IndexString"], unfollowed := true, recurses := true, named := ["unicode/utf8.first", "unicode/utf8.acceptRanges", "internal/bytealg.MaxLen"], apart := false, laid := [("unicode/utf8.acceptRanges", laid_unicode_utf8_acceptRanges), ("unicode/utf8.first", laid_unicode_utf8_first)], narrowed := true }
def FnExactMostPlacedUptoSaid : Prop := fnExactMostPlacedUptoRow.holds Tryd.pinned (OpenSpec.upto fnExactMostPlacedSpec)

/-- 'laws.FnLabels', WHERE WHAT IT READS IS OF BULK AT MOST 1048576: true; the input reads as it did. -/
def fnLabelsUptoRow : OpenClaim := { program := "ytjkcfpmonpkhhaadoor", sum := "c1e9a39c1a889ae82c0515b8b7ff3cf32a164caba749a535eb55274471bbd332", func := "loop.example/g00933/laws.FnLabels", spec := "fnLabels", inPlace := ["internal/bytealg.IndexByteString", "internal/bytealg.IndexString"], unfollowed := true, recurses := true, named := ["unicode/utf8.first", "unicode/utf8.acceptRanges", "internal/bytealg.MaxLen"], apart := false, laid := [("unicode/utf8.acceptRanges", laid_unicode_utf8_acceptRanges), ("unicode/utf8.first", laid_unicode_utf8_first)], narrowed := true }
def FnLabelsUptoSaid : Prop := fnLabelsUptoRow.holds Tryd.pinned (OpenSpec.upto fnLabelsSpec)

/-- 'laws.FnLabelBoxes', WHERE WHAT IT READS IS OF BULK AT MOST 1048576: true; the input reads as it did. -/
def fnLabelBoxesUptoRow : OpenClaim := { program := "ytjkcfpmonpkhhaadoor", sum := "c1e9a39c1a889ae82c0515b8b7ff3cf32a164caba749a535eb55274471bbd332", func := "loop.example/g00933/laws.FnLabelBoxes", spec := "fnLabelBoxes", inPlace := ["internal/bytealg.IndexByteString", "internal/bytealg.IndexString"], unfollowed := true, recurses := true, named := ["unicode/utf8.first", "unicode/utf8.acceptRanges", "internal/bytealg.MaxLen"], apart := false, laid := [("unicode/utf8.acceptRanges", laid_unicode_utf8_acceptRanges), ("unicode/utf8.first", laid_unicode_utf8_first)], narrowed := true }
def FnLabelBoxesUptoSaid : Prop := fnLabelBoxesUptoRow.holds Tryd.pinned (OpenSpec.upto fnLabelBoxesSpec)

end Rows
end Go.Proofs.YtjkcfpmonpkhhaaDoor
