/-
  No cell of these rows narrows 'for every input' (looked for: loops, veiled, ifaces, maps, wideKeys, modest, calm, conditions, laid).
  DERIVED. THE GIVEN ROWS OF THIS SEAT. 12 by the template 'for every input the law returns true; each argument reads behind the call as it read before'; 0 by the template 'total and deterministic' (their statements: YthmjimboajmhmaaTotals.lean).
  GIVEN WITH THE SEED: the statements are not yours to turn. If you find one false, say at which input.
  Laid BY PROGRAM, IN A SANDBOX (cutbox-rows.mjs): the forced cells as the released guide's own fill.sh prints them over the translation ad446a30818aad93… (all of the seat's roots in one cut). By AI agents, Wed Nov 11 2026. No macro, syntax, notation, axiom, sorry.
-/
import Derived.Test.YthmjimboajmhmaaChecked
import GoSem.Claim
import GoSem.ClaimJoined
import GoSem.ClaimMapViews
import Derived.JoinedTies
import Derived.KernelRfl
namespace Go.Proofs.Ythmjimboajmhmaa
/- THE CELL 'sum', in the pinned program and in every row, IS THE sha256 OF THE DUMP (.gsa) THAT YthmjimboajmhmaaProg.lean LOADS. Nothing in Lean hashes anything: it is a label: what it is worth is what the hold of that sum in a sandbox is worth. -/
noncomputable def Try.pinned : Pinned := { name := "ythmjimboajmhmaa", sum := "ad446a30818aad934488dc7ea1f7167fe7bd8b5f67619aa50941673d4029919b", checked := Try.checked }
namespace Rows
def none {H : Type} : Left H := { results := [], args := [] }

/-- 'laws.FnExactIsExploration': WHATEVER THE INPUT: true; the input reads as it did. -/
def fnExactIsExplorationSpec : ChangeSpec := { name := "fnExactIsExploration", fn := fun _ => fun
  | [d] => { results := [.lit (.bool true)], args := [d] }
  | _ => none }
def fnExactIsExplorationRow : OpenClaim := { program := "ythmjimboajmhmaa", sum := "ad446a30818aad934488dc7ea1f7167fe7bd8b5f67619aa50941673d4029919b", func := "loop.example/g00933/laws.FnExactIsExploration", spec := "fnExactIsExploration", apart := false }
def FnExactIsExplorationSaid : Prop := fnExactIsExplorationRow.holds Try.pinned (OpenSpec.ofChange fnExactIsExplorationSpec)

/-- ITS FALSE NEIGHBOUR: 'it returns false'. Refute it at one input. -/
def fnExactIsExplorationWrong : ChangeSpec := { name := "fnExactIsExploration", fn := fun _ => fun
  | [d] => { results := [.lit (.bool false)], args := [d] }
  | _ => none }
def FnExactIsExplorationWrongFalsely : Prop := fnExactIsExplorationRow.holds Try.pinned (OpenSpec.ofChange fnExactIsExplorationWrong)

/-- 'laws.FnExplorations': WHATEVER THE INPUT: true; the input reads as it did. -/
def fnExplorationsSpec : ChangeSpec := { name := "fnExplorations", fn := fun _ => fun
  | [d] => { results := [.lit (.bool true)], args := [d] }
  | _ => none }
def fnExplorationsRow : OpenClaim := { program := "ythmjimboajmhmaa", sum := "ad446a30818aad934488dc7ea1f7167fe7bd8b5f67619aa50941673d4029919b", func := "loop.example/g00933/laws.FnExplorations", spec := "fnExplorations", apart := false }
def FnExplorationsSaid : Prop := fnExplorationsRow.holds Try.pinned (OpenSpec.ofChange fnExplorationsSpec)

/-- ITS FALSE NEIGHBOUR: 'it returns false'. Refute it at one input. -/
def fnExplorationsWrong : ChangeSpec := { name := "fnExplorations", fn := fun _ => fun
  | [d] => { results := [.lit (.bool false)], args := [d] }
  | _ => none }
def FnExplorationsWrongFalsely : Prop := fnExplorationsRow.holds Try.pinned (OpenSpec.ofChange fnExplorationsWrong)

/-- 'laws.FnExactWayOut': WHATEVER THE INPUT: true; the input reads as it did. -/
def fnExactWayOutSpec : ChangeSpec := { name := "fnExactWayOut", fn := fun _ => fun
  | [d] => { results := [.lit (.bool true)], args := [d] }
  | _ => none }
def fnExactWayOutRow : OpenClaim := { program := "ythmjimboajmhmaa", sum := "ad446a30818aad934488dc7ea1f7167fe7bd8b5f67619aa50941673d4029919b", func := "loop.example/g00933/laws.FnExactWayOut", spec := "fnExactWayOut", apart := false }
def FnExactWayOutSaid : Prop := fnExactWayOutRow.holds Try.pinned (OpenSpec.ofChange fnExactWayOutSpec)

/-- ITS FALSE NEIGHBOUR: 'it returns false'. Refute it at one input. -/
def fnExactWayOutWrong : ChangeSpec := { name := "fnExactWayOut", fn := fun _ => fun
  | [d] => { results := [.lit (.bool false)], args := [d] }
  | _ => none }
def FnExactWayOutWrongFalsely : Prop := fnExactWayOutRow.holds Try.pinned (OpenSpec.ofChange fnExactWayOutWrong)

/-- 'laws.FnExactSpareLight': WHATEVER THE INPUT: true; the input reads as it did. -/
def fnExactSpareLightSpec : ChangeSpec := { name := "fnExactSpareLight", fn := fun _ => fun
  | [d] => { results := [.lit (.bool true)], args := [d] }
  | _ => none }
def fnExactSpareLightRow : OpenClaim := { program := "ythmjimboajmhmaa", sum := "ad446a30818aad934488dc7ea1f7167fe7bd8b5f67619aa50941673d4029919b", func := "loop.example/g00933/laws.FnExactSpareLight", spec := "fnExactSpareLight", apart := false }
def FnExactSpareLightSaid : Prop := fnExactSpareLightRow.holds Try.pinned (OpenSpec.ofChange fnExactSpareLightSpec)

/-- ITS FALSE NEIGHBOUR: 'it returns false'. Refute it at one input. -/
def fnExactSpareLightWrong : ChangeSpec := { name := "fnExactSpareLight", fn := fun _ => fun
  | [d] => { results := [.lit (.bool false)], args := [d] }
  | _ => none }
def FnExactSpareLightWrongFalsely : Prop := fnExactSpareLightRow.holds Try.pinned (OpenSpec.ofChange fnExactSpareLightWrong)

/-- 'laws.FnExactVisitedLength': WHATEVER THE INPUT: true; the input reads as it did. -/
def fnExactVisitedLengthSpec : ChangeSpec := { name := "fnExactVisitedLength", fn := fun _ => fun
  | [d] => { results := [.lit (.bool true)], args := [d] }
  | _ => none }
def fnExactVisitedLengthRow : OpenClaim := { program := "ythmjimboajmhmaa", sum := "ad446a30818aad934488dc7ea1f7167fe7bd8b5f67619aa50941673d4029919b", func := "loop.example/g00933/laws.FnExactVisitedLength", spec := "fnExactVisitedLength", apart := false }
def FnExactVisitedLengthSaid : Prop := fnExactVisitedLengthRow.holds Try.pinned (OpenSpec.ofChange fnExactVisitedLengthSpec)

/-- ITS FALSE NEIGHBOUR: 'it returns false'. Refute it at one input. -/
def fnExactVisitedLengthWrong : ChangeSpec := { name := "fnExactVisitedLength", fn := fun _ => fun
  | [d] => { results := [.lit (.bool false)], args := [d] }
  | _ => none }
def FnExactVisitedLengthWrongFalsely : Prop := fnExactVisitedLengthRow.holds Try.pinned (OpenSpec.ofChange fnExactVisitedLengthWrong)

/-- 'laws.FnExactStartExploration': WHATEVER THE INPUT: true; the input reads as it did. -/
def fnExactStartExplorationSpec : ChangeSpec := { name := "fnExactStartExploration", fn := fun _ => fun
  | [d1, d2] => { results := [.lit (.bool true)], args := [d1, d2] }
  | _ => none }
def fnExactStartExplorationRow : OpenClaim := { program := "ythmjimboajmhmaa", sum := "ad446a30818aad934488dc7ea1f7167fe7bd8b5f67619aa50941673d4029919b", func := "loop.example/g00933/laws.FnExactStartExploration", spec := "fnExactStartExploration", apart := false }
def FnExactStartExplorationSaid : Prop := fnExactStartExplorationRow.holds Try.pinned (OpenSpec.ofChange fnExactStartExplorationSpec)

/-- ITS FALSE NEIGHBOUR: 'it returns false'. Refute it at one input. -/
def fnExactStartExplorationWrong : ChangeSpec := { name := "fnExactStartExploration", fn := fun _ => fun
  | [d1, d2] => { results := [.lit (.bool false)], args := [d1, d2] }
  | _ => none }
def FnExactStartExplorationWrongFalsely : Prop := fnExactStartExplorationRow.holds Try.pinned (OpenSpec.ofChange fnExactStartExplorationWrong)

/-- 'laws.FnExactOpenLeads': WHATEVER THE INPUT: true; the input reads as it did. -/
def fnExactOpenLeadsSpec : ChangeSpec := { name := "fnExactOpenLeads", fn := fun _ => fun
  | [d] => { results := [.lit (.bool true)], args := [d] }
  | _ => none }
def fnExactOpenLeadsRow : OpenClaim := { program := "ythmjimboajmhmaa", sum := "ad446a30818aad934488dc7ea1f7167fe7bd8b5f67619aa50941673d4029919b", func := "loop.example/g00933/laws.FnExactOpenLeads", spec := "fnExactOpenLeads", unfollowed := true, recurses := true, apart := false }
def FnExactOpenLeadsSaid : Prop := fnExactOpenLeadsRow.holds Try.pinned (OpenSpec.ofChange fnExactOpenLeadsSpec)

/-- ITS FALSE NEIGHBOUR: 'it returns false'. Refute it at one input. -/
def fnExactOpenLeadsWrong : ChangeSpec := { name := "fnExactOpenLeads", fn := fun _ => fun
  | [d] => { results := [.lit (.bool false)], args := [d] }
  | _ => none }
def FnExactOpenLeadsWrongFalsely : Prop := fnExactOpenLeadsRow.holds Try.pinned (OpenSpec.ofChange fnExactOpenLeadsWrong)

/-- 'laws.FnExactNextLegs': WHATEVER THE INPUT: true; the input reads as it did. -/
def fnExactNextLegsSpec : ChangeSpec := { name := "fnExactNextLegs", fn := fun _ => fun
  | [d] => { results := [.lit (.bool true)], args := [d] }
  | _ => none }
def fnExactNextLegsRow : OpenClaim := { program := "ythmjimboajmhmaa", sum := "ad446a30818aad934488dc7ea1f7167fe7bd8b5f67619aa50941673d4029919b", func := "loop.example/g00933/laws.FnExactNextLegs", spec := "fnExactNextLegs", apart := false }
def FnExactNextLegsSaid : Prop := fnExactNextLegsRow.holds Try.pinned (OpenSpec.ofChange fnExactNextLegsSpec)

/-- ITS FALSE NEIGHBOUR: 'it returns false'. Refute it at one input. -/
def fnExactNextLegsWrong : ChangeSpec := { name := "fnExactNextLegs", fn := fun _ => fun
  | [d] => { results := [.lit (.bool false)], args := [d] }
  | _ => none }
def FnExactNextLegsWrongFalsely : Prop := fnExactNextLegsRow.holds Try.pinned (OpenSpec.ofChange fnExactNextLegsWrong)

/-- 'laws.FnExactWalkOn': WHATEVER THE INPUT: true; the input reads as it did. -/
def fnExactWalkOnSpec : ChangeSpec := { name := "fnExactWalkOn", fn := fun _ => fun
  | [d1, d2] => { results := [.lit (.bool true)], args := [d1, d2] }
  | _ => none }
def fnExactWalkOnRow : OpenClaim := { program := "ythmjimboajmhmaa", sum := "ad446a30818aad934488dc7ea1f7167fe7bd8b5f67619aa50941673d4029919b", func := "loop.example/g00933/laws.FnExactWalkOn", spec := "fnExactWalkOn", apart := false }
def FnExactWalkOnSaid : Prop := fnExactWalkOnRow.holds Try.pinned (OpenSpec.ofChange fnExactWalkOnSpec)

/-- ITS FALSE NEIGHBOUR: 'it returns false'. Refute it at one input. -/
def fnExactWalkOnWrong : ChangeSpec := { name := "fnExactWalkOn", fn := fun _ => fun
  | [d1, d2] => { results := [.lit (.bool false)], args := [d1, d2] }
  | _ => none }
def FnExactWalkOnWrongFalsely : Prop := fnExactWalkOnRow.holds Try.pinned (OpenSpec.ofChange fnExactWalkOnWrong)

/-- 'laws.FnExactWalkAll': WHATEVER THE INPUT: true; the input reads as it did. -/
def fnExactWalkAllSpec : ChangeSpec := { name := "fnExactWalkAll", fn := fun _ => fun
  | [d1, d2] => { results := [.lit (.bool true)], args := [d1, d2] }
  | _ => none }
def fnExactWalkAllRow : OpenClaim := { program := "ythmjimboajmhmaa", sum := "ad446a30818aad934488dc7ea1f7167fe7bd8b5f67619aa50941673d4029919b", func := "loop.example/g00933/laws.FnExactWalkAll", spec := "fnExactWalkAll", apart := false }
def FnExactWalkAllSaid : Prop := fnExactWalkAllRow.holds Try.pinned (OpenSpec.ofChange fnExactWalkAllSpec)

/-- ITS FALSE NEIGHBOUR: 'it returns false'. Refute it at one input. -/
def fnExactWalkAllWrong : ChangeSpec := { name := "fnExactWalkAll", fn := fun _ => fun
  | [d1, d2] => { results := [.lit (.bool false)], args := [d1, d2] }
  | _ => none }
def FnExactWalkAllWrongFalsely : Prop := fnExactWalkAllRow.holds Try.pinned (OpenSpec.ofChange fnExactWalkAllWrong)

/-- 'laws.FnExplorers': WHATEVER THE INPUT: true; the input reads as it did. -/
def fnExplorersSpec : ChangeSpec := { name := "fnExplorers", fn := fun _ => fun
  | [d] => { results := [.lit (.bool true)], args := [d] }
  | _ => none }
def fnExplorersRow : OpenClaim := { program := "ythmjimboajmhmaa", sum := "ad446a30818aad934488dc7ea1f7167fe7bd8b5f67619aa50941673d4029919b", func := "loop.example/g00933/laws.FnExplorers", spec := "fnExplorers", unfollowed := true, recurses := true, apart := false }
def FnExplorersSaid : Prop := fnExplorersRow.holds Try.pinned (OpenSpec.ofChange fnExplorersSpec)

/-- ITS FALSE NEIGHBOUR: 'it returns false'. Refute it at one input. -/
def fnExplorersWrong : ChangeSpec := { name := "fnExplorers", fn := fun _ => fun
  | [d] => { results := [.lit (.bool false)], args := [d] }
  | _ => none }
def FnExplorersWrongFalsely : Prop := fnExplorersRow.holds Try.pinned (OpenSpec.ofChange fnExplorersWrong)

/-- 'laws.FnExactNewConsole': WHATEVER THE INPUT: true; the input reads as it did. -/
def fnExactNewConsoleSpec : ChangeSpec := { name := "fnExactNewConsole", fn := fun _ => fun
  | [d1, d2] => { results := [.lit (.bool true)], args := [d1, d2] }
  | _ => none }
def fnExactNewConsoleRow : OpenClaim := { program := "ythmjimboajmhmaa", sum := "ad446a30818aad934488dc7ea1f7167fe7bd8b5f67619aa50941673d4029919b", func := "loop.example/g00933/laws.FnExactNewConsole", spec := "fnExactNewConsole", apart := false }
def FnExactNewConsoleSaid : Prop := fnExactNewConsoleRow.holds Try.pinned (OpenSpec.ofChange fnExactNewConsoleSpec)

/-- ITS FALSE NEIGHBOUR: 'it returns false'. Refute it at one input. -/
def fnExactNewConsoleWrong : ChangeSpec := { name := "fnExactNewConsole", fn := fun _ => fun
  | [d1, d2] => { results := [.lit (.bool false)], args := [d1, d2] }
  | _ => none }
def FnExactNewConsoleWrongFalsely : Prop := fnExactNewConsoleRow.holds Try.pinned (OpenSpec.ofChange fnExactNewConsoleWrong)

/- THE SECOND FORM. 'bulk': how many values and letters a reading holds, each counted each time it is reached (what is shared counts as often as it is met; a slice's spare places count too). A statement '..UptoSaid' is the law's where the arguments, and the package variables that the reading takes, are together of bulk at most 1048576: NARROWER than '..Said'. Prove '..Said' where nothing that the law and all that it calls make is longer than what came in: it says more and counts as full. Else prove '..UptoSaid'. A law counts once. -/
mutual
def uptoBulk {H : Type} : DataW H → Nat
  | .lit (.string bytes) => bytes.length + 1
  | .lit _ => 1
  | .nil => 1
  | .ptr d => uptoBulk d + 1
  | .slice elems spare => uptoBulkAll elems + uptoBulkAll spare + 1
  | .agg parts => uptoBulkAll parts + 1
  | .iface _ d => uptoBulk d + 1
  | .map entries => uptoBulkEntries entries + 1
  | .held _ => 1
def uptoBulkAll {H : Type} : List (DataW H) → Nat
  | [] => 0
  | d :: r => uptoBulk d + uptoBulkAll r
def uptoBulkEntries {H : Type} : List (Lit × DataW H) → Nat
  | [] => 0
  | x :: r => uptoBulkEntry x + uptoBulkEntries r
def uptoBulkEntry {H : Type} : Lit × DataW H → Nat
  | (.string bytes, d) => bytes.length + uptoBulk d + 1
  | (_, d) => uptoBulk d + 1
 end
def uptoSmall : (H : Type) → List (DataW H) → Bool := fun _ ds => decide (uptoBulkAll ds ≤ 1048576)
def OpenSpec.upto (s : _root_.Go.ChangeSpec) : _root_.Go.OpenSpec := { _root_.Go.OpenSpec.ofChange s with cond := some uptoSmall }

/-- 'laws.FnExactIsExploration', WHERE WHAT IT READS IS OF BULK AT MOST 1048576: true; the input reads as it did. -/
def fnExactIsExplorationUptoRow : OpenClaim := { program := "ythmjimboajmhmaa", sum := "ad446a30818aad934488dc7ea1f7167fe7bd8b5f67619aa50941673d4029919b", func := "loop.example/g00933/laws.FnExactIsExploration", spec := "fnExactIsExploration", apart := false, narrowed := true }
def FnExactIsExplorationUptoSaid : Prop := fnExactIsExplorationUptoRow.holds Try.pinned (OpenSpec.upto fnExactIsExplorationSpec)

/-- 'laws.FnExplorations', WHERE WHAT IT READS IS OF BULK AT MOST 1048576: true; the input reads as it did. -/
def fnExplorationsUptoRow : OpenClaim := { program := "ythmjimboajmhmaa", sum := "ad446a30818aad934488dc7ea1f7167fe7bd8b5f67619aa50941673d4029919b", func := "loop.example/g00933/laws.FnExplorations", spec := "fnExplorations", apart := false, narrowed := true }
def FnExplorationsUptoSaid : Prop := fnExplorationsUptoRow.holds Try.pinned (OpenSpec.upto fnExplorationsSpec)

/-- 'laws.FnExactWayOut', WHERE WHAT IT READS IS OF BULK AT MOST 1048576: true; the input reads as it did. -/
def fnExactWayOutUptoRow : OpenClaim := { program := "ythmjimboajmhmaa", sum := "ad446a30818aad934488dc7ea1f7167fe7bd8b5f67619aa50941673d4029919b", func := "loop.example/g00933/laws.FnExactWayOut", spec := "fnExactWayOut", apart := false, narrowed := true }
def FnExactWayOutUptoSaid : Prop := fnExactWayOutUptoRow.holds Try.pinned (OpenSpec.upto fnExactWayOutSpec)

/-- 'laws.FnExactSpareLight', WHERE WHAT IT READS IS OF BULK AT MOST 1048576: true; the input reads as it did. -/
def fnExactSpareLightUptoRow : OpenClaim := { program := "ythmjimboajmhmaa", sum := "ad446a30818aad934488dc7ea1f7167fe7bd8b5f67619aa50941673d4029919b", func := "loop.example/g00933/laws.FnExactSpareLight", spec := "fnExactSpareLight", apart := false, narrowed := true }
def FnExactSpareLightUptoSaid : Prop := fnExactSpareLightUptoRow.holds Try.pinned (OpenSpec.upto fnExactSpareLightSpec)

/-- 'laws.FnExactVisitedLength', WHERE WHAT IT READS IS OF BULK AT MOST 1048576: true; the input reads as it did. -/
def fnExactVisitedLengthUptoRow : OpenClaim := { program := "ythmjimboajmhmaa", sum := "ad446a30818aad934488dc7ea1f7167fe7bd8b5f67619aa50941673d4029919b", func := "loop.example/g00933/laws.FnExactVisitedLength", spec := "fnExactVisitedLength", apart := false, narrowed := true }
def FnExactVisitedLengthUptoSaid : Prop := fnExactVisitedLengthUptoRow.holds Try.pinned (OpenSpec.upto fnExactVisitedLengthSpec)

/-- 'laws.FnExactStartExploration', WHERE WHAT IT READS IS OF BULK AT MOST 1048576: true; the input reads as it did. -/
def fnExactStartExplorationUptoRow : OpenClaim := { program := "ythmjimboajmhmaa", sum := "ad446a30818aad934488dc7ea1f7167fe7bd8b5f67619aa50941673d4029919b", func := "loop.example/g00933/laws.FnExactStartExploration", spec := "fnExactStartExploration", apart := false, narrowed := true }
def FnExactStartExplorationUptoSaid : Prop := fnExactStartExplorationUptoRow.holds Try.pinned (OpenSpec.upto fnExactStartExplorationSpec)

/-- 'laws.FnExactOpenLeads', WHERE WHAT IT READS IS OF BULK AT MOST 1048576: true; the input reads as it did. -/
def fnExactOpenLeadsUptoRow : OpenClaim := { program := "ythmjimboajmhmaa", sum := "ad446a30818aad934488dc7ea1f7167fe7bd8b5f67619aa50941673d4029919b", func := "loop.example/g00933/laws.FnExactOpenLeads", spec := "fnExactOpenLeads", unfollowed := true, recurses := true, apart := false, narrowed := true }
def FnExactOpenLeadsUptoSaid : Prop := fnExactOpenLeadsUptoRow.holds Try.pinned (OpenSpec.upto fnExactOpenLeadsSpec)

/-- 'laws.FnExactNextLegs', WHERE WHAT IT READS IS OF BULK AT MOST 1048576: true; the input reads as it did. -/
def fnExactNextLegsUptoRow : OpenClaim := { program := "ythmjimboajmhmaa", sum := "ad446a30818aad934488dc7ea1f7167fe7bd8b5f67619aa50941673d4029919b", func := "loop.example/g00933/laws.FnExactNextLegs", spec := "fnExactNextLegs", apart := false, narrowed := true }
def FnExactNextLegsUptoSaid : Prop := fnExactNextLegsUptoRow.holds Try.pinned (OpenSpec.upto fnExactNextLegsSpec)

/-- 'laws.FnExactWalkOn', WHERE WHAT IT READS IS OF BULK AT MOST 1048576: true; the input reads as it did. -/
def fnExactWalkOnUptoRow : OpenClaim := { program := "ythmjimboajmhmaa", sum := "ad446a30818aad934488dc7ea1f7167fe7bd8b5f67619aa50941673d4029919b", func := "loop.example/g00933/laws.FnExactWalkOn", spec := "fnExactWalkOn", apart := false, narrowed := true }
def FnExactWalkOnUptoSaid : Prop := fnExactWalkOnUptoRow.holds Try.pinned (OpenSpec.upto fnExactWalkOnSpec)

/-- 'laws.FnExactWalkAll', WHERE WHAT IT READS IS OF BULK AT MOST 1048576: true; the input reads as it did. -/
def fnExactWalkAllUptoRow : OpenClaim := { program := "ythmjimboajmhmaa", sum := "ad446a30818aad934488dc7ea1f7167fe7bd8b5f67619aa50941673d4029919b", func := "loop.example/g00933/laws.FnExactWalkAll", spec := "fnExactWalkAll", apart := false, narrowed := true }
def FnExactWalkAllUptoSaid : Prop := fnExactWalkAllUptoRow.holds Try.pinned (OpenSpec.upto fnExactWalkAllSpec)

/-- 'laws.FnExplorers', WHERE WHAT IT READS IS OF BULK AT MOST 1048576: true; the input reads as it did. -/
def fnExplorersUptoRow : OpenClaim := { program := "ythmjimboajmhmaa", sum := "ad446a30818aad934488dc7ea1f7167fe7bd8b5f67619aa50941673d4029919b", func := "loop.example/g00933/laws.FnExplorers", spec := "fnExplorers", unfollowed := true, recurses := true, apart := false, narrowed := true }
def FnExplorersUptoSaid : Prop := fnExplorersUptoRow.holds Try.pinned (OpenSpec.upto fnExplorersSpec)

/-- 'laws.FnExactNewConsole', WHERE WHAT IT READS IS OF BULK AT MOST 1048576: true; the input reads as it did. -/
def fnExactNewConsoleUptoRow : OpenClaim := { program := "ythmjimboajmhmaa", sum := "ad446a30818aad934488dc7ea1f7167fe7bd8b5f67619aa50941673d4029919b", func := "loop.example/g00933/laws.FnExactNewConsole", spec := "fnExactNewConsole", apart := false, narrowed := true }
def FnExactNewConsoleUptoSaid : Prop := fnExactNewConsoleUptoRow.holds Try.pinned (OpenSpec.upto fnExactNewConsoleSpec)

end Rows
end Go.Proofs.Ythmjimboajmhmaa
