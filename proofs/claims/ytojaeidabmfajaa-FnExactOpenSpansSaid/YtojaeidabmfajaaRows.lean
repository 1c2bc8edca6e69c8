/-
  No cell of these rows narrows 'for every input' (looked for: loops, veiled, ifaces, maps, wideKeys, modest, calm, conditions, laid).
  DERIVED. THE GIVEN ROWS OF THIS SEAT. 7 by the template 'for every input the law returns true; each argument reads behind the call as it read before'; 0 by the template 'total and deterministic' (their statements: YtojaeidabmfajaaTotals.lean).
  GIVEN WITH THE SEED: the statements are not yours to turn. If you find one false, say at which input.
  Laid BY PROGRAM, IN A SANDBOX (cutbox-rows.mjs): the forced cells as the released guide's own fill.sh prints them over the translation b45c0d048fab9d55… (all of the seat's roots in one cut). By AI agents, Wed Nov 11 2026. No macro, syntax, notation, axiom, sorry.
-/
import Derived.Test.YtojaeidabmfajaaChecked
import GoSem.Claim
import GoSem.ClaimJoined
import GoSem.ClaimMapViews
import Derived.JoinedTies
import Derived.KernelRfl
namespace Go.Proofs.Ytojaeidabmfajaa
/- THE CELL 'sum', in the pinned program and in every row, IS THE sha256 OF THE DUMP (.gsa) THAT YtojaeidabmfajaaProg.lean LOADS. Nothing in Lean hashes anything: it is a label: what it is worth is what the hold of that sum in a sandbox is worth. -/
noncomputable def Try.pinned : Pinned := { name := "ytojaeidabmfajaa", sum := "b45c0d048fab9d55f625055f5600897abc7aad224dbf948f889996ca33a8562c", checked := Try.checked }
namespace Rows
def none {H : Type} : Left H := { results := [], args := [] }

/-- 'laws.FnExactIsOpen': WHATEVER THE INPUT: true; the input reads as it did. -/
def fnExactIsOpenSpec : ChangeSpec := { name := "fnExactIsOpen", fn := fun _ => fun
  | [d1, d2, d3] => { results := [.lit (.bool true)], args := [d1, d2, d3] }
  | _ => none }
def fnExactIsOpenRow : OpenClaim := { program := "ytojaeidabmfajaa", sum := "b45c0d048fab9d55f625055f5600897abc7aad224dbf948f889996ca33a8562c", func := "loop.example/g00933/laws.FnExactIsOpen", spec := "fnExactIsOpen", apart := false }
def FnExactIsOpenSaid : Prop := fnExactIsOpenRow.holds Try.pinned (OpenSpec.ofChange fnExactIsOpenSpec)

/-- ITS FALSE NEIGHBOUR: 'it returns false'. Refute it at one input. -/
def fnExactIsOpenWrong : ChangeSpec := { name := "fnExactIsOpen", fn := fun _ => fun
  | [d1, d2, d3] => { results := [.lit (.bool false)], args := [d1, d2, d3] }
  | _ => none }
def FnExactIsOpenWrongFalsely : Prop := fnExactIsOpenRow.holds Try.pinned (OpenSpec.ofChange fnExactIsOpenWrong)

/-- 'laws.FnExactDrownedSumps': WHATEVER THE INPUT: true; the input reads as it did. -/
def fnExactDrownedSumpsSpec : ChangeSpec := { name := "fnExactDrownedSumps", fn := fun _ => fun
  | [d1, d2] => { results := [.lit (.bool true)], args := [d1, d2] }
  | _ => none }
def fnExactDrownedSumpsRow : OpenClaim := { program := "ytojaeidabmfajaa", sum := "b45c0d048fab9d55f625055f5600897abc7aad224dbf948f889996ca33a8562c", func := "loop.example/g00933/laws.FnExactDrownedSumps", spec := "fnExactDrownedSumps", unfollowed := true, recurses := true, apart := false }
def FnExactDrownedSumpsSaid : Prop := fnExactDrownedSumpsRow.holds Try.pinned (OpenSpec.ofChange fnExactDrownedSumpsSpec)

/-- ITS FALSE NEIGHBOUR: 'it returns false'. Refute it at one input. -/
def fnExactDrownedSumpsWrong : ChangeSpec := { name := "fnExactDrownedSumps", fn := fun _ => fun
  | [d1, d2] => { results := [.lit (.bool false)], args := [d1, d2] }
  | _ => none }
def FnExactDrownedSumpsWrongFalsely : Prop := fnExactDrownedSumpsRow.holds Try.pinned (OpenSpec.ofChange fnExactDrownedSumpsWrong)

/-- 'laws.FnLevels': WHATEVER THE INPUT: true; the input reads as it did. -/
def fnLevelsSpec : ChangeSpec := { name := "fnLevels", fn := fun _ => fun
  | [d] => { results := [.lit (.bool true)], args := [d] }
  | _ => none }
def fnLevelsRow : OpenClaim := { program := "ytojaeidabmfajaa", sum := "b45c0d048fab9d55f625055f5600897abc7aad224dbf948f889996ca33a8562c", func := "loop.example/g00933/laws.FnLevels", spec := "fnLevels", apart := false }
def FnLevelsSaid : Prop := fnLevelsRow.holds Try.pinned (OpenSpec.ofChange fnLevelsSpec)

/-- ITS FALSE NEIGHBOUR: 'it returns false'. Refute it at one input. -/
def fnLevelsWrong : ChangeSpec := { name := "fnLevels", fn := fun _ => fun
  | [d] => { results := [.lit (.bool false)], args := [d] }
  | _ => none }
def FnLevelsWrongFalsely : Prop := fnLevelsRow.holds Try.pinned (OpenSpec.ofChange fnLevelsWrong)

/-- 'laws.FnExactOpenSpans': WHATEVER THE INPUT: true; the input reads as it did. -/
def fnExactOpenSpansSpec : ChangeSpec := { name := "fnExactOpenSpans", fn := fun _ => fun
  | [d1, d2] => { results := [.lit (.bool true)], args := [d1, d2] }
  | _ => none }
def fnExactOpenSpansRow : OpenClaim := { program := "ytojaeidabmfajaa", sum := "b45c0d048fab9d55f625055f5600897abc7aad224dbf948f889996ca33a8562c", func := "loop.example/g00933/laws.FnExactOpenSpans", spec := "fnExactOpenSpans", unfollowed := true, recurses := true, apart := false }
def FnExactOpenSpansSaid : Prop := fnExactOpenSpansRow.holds Try.pinned (OpenSpec.ofChange fnExactOpenSpansSpec)

/-- ITS FALSE NEIGHBOUR: 'it returns false'. Refute it at one input. -/
def fnExactOpenSpansWrong : ChangeSpec := { name := "fnExactOpenSpans", fn := fun _ => fun
  | [d1, d2] => { results := [.lit (.bool false)], args := [d1, d2] }
  | _ => none }
def FnExactOpenSpansWrongFalsely : Prop := fnExactOpenSpansRow.holds Try.pinned (OpenSpec.ofChange fnExactOpenSpansWrong)

/-- 'laws.FnExactOpenFor': WHATEVER THE INPUT: true; the input reads as it did. -/
def fnExactOpenForSpec : ChangeSpec := { name := "fnExactOpenFor", fn := fun _ => fun
  | [d1, d2, d3] => { results := [.lit (.bool true)], args := [d1, d2, d3] }
  | _ => none }
def fnExactOpenForRow : OpenClaim := { program := "ytojaeidabmfajaa", sum := "b45c0d048fab9d55f625055f5600897abc7aad224dbf948f889996ca33a8562c", func := "loop.example/g00933/laws.FnExactOpenFor", spec := "fnExactOpenFor", unfollowed := true, recurses := true, apart := false }
def FnExactOpenForSaid : Prop := fnExactOpenForRow.holds Try.pinned (OpenSpec.ofChange fnExactOpenForSpec)

/-- ITS FALSE NEIGHBOUR: 'it returns false'. Refute it at one input. -/
def fnExactOpenForWrong : ChangeSpec := { name := "fnExactOpenFor", fn := fun _ => fun
  | [d1, d2, d3] => { results := [.lit (.bool false)], args := [d1, d2, d3] }
  | _ => none }
def FnExactOpenForWrongFalsely : Prop := fnExactOpenForRow.holds Try.pinned (OpenSpec.ofChange fnExactOpenForWrong)

/-- 'laws.FnExactClosedSumps': WHATEVER THE INPUT: true; the input reads as it did. -/
def fnExactClosedSumpsSpec : ChangeSpec := { name := "fnExactClosedSumps", fn := fun _ => fun
  | [d1, d2, d3] => { results := [.lit (.bool true)], args := [d1, d2, d3] }
  | _ => none }
def fnExactClosedSumpsRow : OpenClaim := { program := "ytojaeidabmfajaa", sum := "b45c0d048fab9d55f625055f5600897abc7aad224dbf948f889996ca33a8562c", func := "loop.example/g00933/laws.FnExactClosedSumps", spec := "fnExactClosedSumps", apart := false }
def FnExactClosedSumpsSaid : Prop := fnExactClosedSumpsRow.holds Try.pinned (OpenSpec.ofChange fnExactClosedSumpsSpec)

/-- ITS FALSE NEIGHBOUR: 'it returns false'. Refute it at one input. -/
def fnExactClosedSumpsWrong : ChangeSpec := { name := "fnExactClosedSumps", fn := fun _ => fun
  | [d1, d2, d3] => { results := [.lit (.bool false)], args := [d1, d2, d3] }
  | _ => none }
def FnExactClosedSumpsWrongFalsely : Prop := fnExactClosedSumpsRow.holds Try.pinned (OpenSpec.ofChange fnExactClosedSumpsWrong)

/-- 'laws.FnSumps': WHATEVER THE INPUT: true; the input reads as it did. -/
def fnSumpsSpec : ChangeSpec := { name := "fnSumps", fn := fun _ => fun
  | [d] => { results := [.lit (.bool true)], args := [d] }
  | _ => none }
def fnSumpsRow : OpenClaim := { program := "ytojaeidabmfajaa", sum := "b45c0d048fab9d55f625055f5600897abc7aad224dbf948f889996ca33a8562c", func := "loop.example/g00933/laws.FnSumps", spec := "fnSumps", unfollowed := true, recurses := true, apart := false }
def FnSumpsSaid : Prop := fnSumpsRow.holds Try.pinned (OpenSpec.ofChange fnSumpsSpec)

/-- ITS FALSE NEIGHBOUR: 'it returns false'. Refute it at one input. -/
def fnSumpsWrong : ChangeSpec := { name := "fnSumps", fn := fun _ => fun
  | [d] => { results := [.lit (.bool false)], args := [d] }
  | _ => none }
def FnSumpsWrongFalsely : Prop := fnSumpsRow.holds Try.pinned (OpenSpec.ofChange fnSumpsWrong)

/- THE SECOND FORM. 'bulk': how many values and letters a reading holds, each counted each time it is reached (what is shared counts as often as it is met; a slice's spare places count too). A statement '..UptoSaid' is the law's where the arguments, and the package variables that the reading takes, are together of bulk at most 1048576: NARROWER than '..Said'. Prove '..Said' where nothing that the law and all that it calls make is longer than what came in: it says more and counts as full. Else prove '..UptoSaid'. A law counts once. -/
mutual
def uptoBulk {H : Type} : DataW H → Nat
  | .lit (.string bytes) => bytes.length + 1
  | .lit _ => 1
  | .nil => 1
  | .ptr d => uptoBulk d + 1
  | .slice elems spare => uptoBulkAll elems + uptoBulkAll spare + 1
  | .agg parts => uptoBulkAll parts + 1
  | .iface _ d => uptoBulk d + 1
  | .map entries => uptoBulkEntries entries + 1
  | .held _ => 1
def uptoBulkAll {H : Type} : List (DataW H) → Nat
  | [] => 0
  | d :: r => uptoBulk d + uptoBulkAll r
def uptoBulkEntries {H : Type} : List (Lit × DataW H) → Nat
  | [] => 0
  | x :: r => uptoBulkEntry x + uptoBulkEntries r
def uptoBulkEntry {H : Type} : Lit × DataW H → Nat
  | (.string bytes, d) => bytes.length + uptoBulk d + 1
  | (_, d) => uptoBulk d + 1
 end
def uptoSmall : (H : Type) → List (DataW H) → Bool := fun _ ds => decide (uptoBulkAll ds ≤ 1048576)
def OpenSpec.upto (s : _root_.Go.ChangeSpec) : _root_.Go.OpenSpec := { _root_.Go.OpenSpec.ofChange s with cond := some uptoSmall }

/-- 'laws.FnExactIsOpen', WHERE WHAT IT READS IS OF BULK AT MOST 1048576: true; the input reads as it did. -/
def fnExactIsOpenUptoRow : OpenClaim := { program := "ytojaeidabmfajaa", sum := "b45c0d048fab9d55f625055f5600897abc7aad224dbf948f889996ca33a8562c", func := "loop.example/g00933/laws.FnExactIsOpen", spec := "fnExactIsOpen", apart := false, narrowed := true }
def FnExactIsOpenUptoSaid : Prop := fnExactIsOpenUptoRow.holds Try.pinned (OpenSpec.upto fnExactIsOpenSpec)

/-- 'laws.FnExactDrownedSumps', WHERE WHAT IT READS IS OF BULK AT MOST 1048576: true; the input reads as it did. -/
def fnExactDrownedSumpsUptoRow : OpenClaim := { program := "ytojaeidabmfajaa", sum := "b45c0d048fab9d55f625055f5600897abc7aad224dbf948f889996ca33a8562c", func := "loop.example/g00933/laws.FnExactDrownedSumps", spec := "fnExactDrownedSumps", unfollowed := true, recurses := true, apart := false, narrowed := true }
def FnExactDrownedSumpsUptoSaid : Prop := fnExactDrownedSumpsUptoRow.holds Try.pinned (OpenSpec.upto fnExactDrownedSumpsSpec)

/-- 'laws.FnLevels', WHERE WHAT IT READS IS OF BULK AT MOST 1048576: true; the input reads as it did. -/
def fnLevelsUptoRow : OpenClaim := { program := "ytojaeidabmfajaa", sum := "b45c0d048fab9d55f625055f5600897abc7aad224dbf948f889996ca33a8562c", func := "loop.example/g00933/laws.FnLevels", spec := "fnLevels", apart := false, narrowed := true }
def FnLevelsUptoSaid : Prop := fnLevelsUptoRow.holds Try.pinned (OpenSpec.upto fnLevelsSpec)

/-- 'laws.FnExactOpenSpans', WHERE WHAT IT READS IS OF BULK AT MOST 1048576: true; the input reads as it did. -/
def fnExactOpenSpansUptoRow : OpenClaim := { program := "ytojaeidabmfajaa", sum := "b45c0d048fab9d55f625055f5600897abc7aad224dbf948f889996ca33a8562c", func := "loop.example/g00933/laws.FnExactOpenSpans", spec := "fnExactOpenSpans", unfollowed := true, recurses := true, apart := false, narrowed := true }
def FnExactOpenSpansUptoSaid : Prop := fnExactOpenSpansUptoRow.holds Try.pinned (OpenSpec.upto fnExactOpenSpansSpec)

/-- 'laws.FnExactOpenFor', WHERE WHAT IT READS IS OF BULK AT MOST 1048576: true; the input reads as it did. -/
def fnExactOpenForUptoRow : OpenClaim := { program := "ytojaeidabmfajaa", sum := "b45c0d048fab9d55f625055f5600897abc7aad224dbf948f889996ca33a8562c", func := "loop.example/g00933/laws.FnExactOpenFor", spec := "fnExactOpenFor", unfollowed := true, recurses := true, apart := false, narrowed := true }
def FnExactOpenForUptoSaid : Prop := fnExactOpenForUptoRow.holds Try.pinned (OpenSpec.upto fnExactOpenForSpec)

/-- 'laws.FnExactClosedSumps', WHERE WHAT IT READS IS OF BULK AT MOST 1048576: true; the input reads as it did. -/
def fnExactClosedSumpsUptoRow : OpenClaim := { program := "ytojaeidabmfajaa", sum := "b45c0d048fab9d55f625055f5600897abc7aad224dbf948f889996ca33a8562c", func := "loop.example/g00933/laws.FnExactClosedSumps", spec := "fnExactClosedSumps", apart := false, narrowed := true }
def FnExactClosedSumpsUptoSaid : Prop := fnExactClosedSumpsUptoRow.holds Try.pinned (OpenSpec.upto fnExactClosedSumpsSpec)

/-- 'laws.FnSumps', WHERE WHAT IT READS IS OF BULK AT MOST 1048576: true; the input reads as it did. -/
def fnSumpsUptoRow : OpenClaim := { program := "ytojaeidabmfajaa", sum := "b45c0d048fab9d55f625055f5600897abc7aad224dbf948f889996ca33a8562c", func := "loop.example/g00933/laws.FnSumps", spec := "fnSumps", unfollowed := true, recurses := true, apart := false, narrowed := true }
def FnSumpsUptoSaid : Prop := fnSumpsUptoRow.holds Try.pinned (OpenSpec.upto fnSumpsSpec)

end Rows
end Go.Proofs.Ytojaeidabmfajaa
