/-
What is proved: parts of the law FnLog: what the functions that it reaches compute, and the plain law.
Conditions: those of each theorem.
-/
import Derived.ChangeArms
import Derived.ChangeSlices
import Derived.Deep.Slices
import Derived.Lib.Bytealg
import Derived.Lib.ItoaNum
import Derived.RowKit
import Derived.SizedLaws
import Derived.WideShapes
import Derived.Test.YtdpinnhgkocjhaaDoorCFnLog3
namespace Go.Proofs.YtdpinnhgkocjhaaDoor.Pr
open Go.RowKit Go.Proofs.YtdpinnhgkocjhaaDoorW.PrintWords Go.Proofs.YtdpinnhgkocjhaaDoorW.PrintLast Go.Proofs.YtdpinnhgkocjhaaDoorW.PrintMore
attribute [local go_sem] max2_int min2_int max_two min_two max_three min_three max_four min_four sc_in sx_in   -- for this text's walks alone
set_option linter.unusedVariables false
set_option linter.unusedSimpArgs false
attribute [local go_sem high] eqA27 eqA31
mutual
def laws_FnLog.j0 : Nat → Int → Bool → ByteArray → ByteArray → Int → ByteArray → ByteArray → ByteArray → ByteArray → Int → Option (Bool)
 | 0, _, _, _, _, _, _, _, _, _, _ => none
 | k + 1, x6, x59, x572000, x572001, x572002, x573000, x573001, x578000, x578001, x578002 => if x59 = true then (none) else (if x6 = 0 then ((impl_LogRecords.f k x578000 x578001 x578002).bind fun bt587 => ((impl_LogRecords.f k x572000 x572001 x572002).bind fun bt591 => (if x578000.size + x578001.size ≤ 9223372036854775807 then ((impl_RecoverLog.f k (sc x578000 x578001)).bind fun bt595 => ((impl_SyncLog.f k x578000 x578001 x578002).bind fun bt601 => (if bt587.2 = true then (if (bt587.1.length : Int) = (wrap64 ((bt591.1.length : Int) + 1)) then (laws_FnLog.j1 k bt587.1 bt591.1 bt595.2.2.2.1 bt595.2.2.2.2 bt601.2.2.2 (x578002 != (bt587.1.length : Int)) x573000 x573001 x578000 x578001 x578002 bt595.1 bt595.2.1 bt595.2.2.1 bt601.1 bt601.2.1 bt601.2.2.1) else (laws_FnLog.j1 k bt587.1 bt591.1 bt595.2.2.2.1 bt595.2.2.2.2 bt601.2.2.2 true x573000 x573001 x578000 x578001 x578002 bt595.1 bt595.2.1 bt595.2.2.1 bt601.1 bt601.2.1 bt601.2.2.1)) else (laws_FnLog.j1 k bt587.1 bt591.1 bt595.2.2.2.1 bt595.2.2.2.2 bt601.2.2.2 true x573000 x573001 x578000 x578001 x578002 bt595.1 bt595.2.1 bt595.2.2.1 bt601.1 bt601.2.1 bt601.2.2.1)))) else (none)))) else (some (x578000.toList == x572000.toList && (x578001.toList == x572001.toList && (x578002 == x572002)))))
def laws_FnLog.j1 : Nat → List (S27) → List (S27) → Int → Bool → Bool → Bool → ByteArray → ByteArray → ByteArray → ByteArray → Int → ByteArray → ByteArray → Int → ByteArray → ByteArray → Int → Option (Bool)
 | 0, _, _, _, _, _, _, _, _, _, _, _, _, _, _, _, _, _ => none
 | k + 1, x9, x11, x14, x15, x17, x106, x573000, x573001, x578000, x578001, x578002, x601000, x601001, x601002, x606000, x606001, x606002 => if x106 = true then (none) else (laws_FnLog.l0 k x9 x11 x14 x15 x17 0 x573000 x573001 x578000 x578001 x578002 x601000 x601001 x601002 x606000 x606001 x606002)
def laws_FnLog.l0 : Nat → List (S27) → List (S27) → Int → Bool → Bool → Int → ByteArray → ByteArray → ByteArray → ByteArray → Int → ByteArray → ByteArray → Int → ByteArray → ByteArray → Int → Option (Bool)
 | 0, _, _, _, _, _, _, _, _, _, _, _, _, _, _, _, _, _ => none
 | k + 1, x9, x11, x14, x15, x17, x18, x573000, x573001, x578000, x578001, x578002, x601000, x601001, x601002, x606000, x606001, x606002 => if x18 < (x11.length : Int) then (if 0 ≤ x18 then (if x18 < (x9.length : Int) then (if (!((((rd_T27 x9 x18).f0).toList) == (((rd_T27 x11 x18).f0).toList)) || (!((((rd_T27 x9 x18).f1).toList) == (((rd_T27 x11 x18).f1).toList)))) = true then (none) else (laws_FnLog.l0 k x9 x11 x14 x15 x17 (wrap64 (x18 + 1)) x573000 x573001 x578000 x578001 x578002 x601000 x601001 x601002 x606000 x606001 x606002)) else (none)) else (none)) else (if 0 ≤ (x11.length : Int) then (if (x11.length : Int) < (x9.length : Int) then (if ((((rd_T27 x9 (x11.length : Int)).f0).toList) == x573000.toList && ((((rd_T27 x9 (x11.length : Int)).f1).toList) == x573001.toList)) = true then (if x15 = true then (if x578000.size + x578001.size ≤ 9223372036854775807 then (if x14 = ((sc x578000 x578001).size : Int) then (if x17 = true then (if (x606000.toList == x601000.toList && (x606001.toList == x601001.toList && (x606002 == x601002))) = true then ((impl_IsValidLog.f k x578000 x578001 x578002).bind fun t609 => (some t609)) else (none)) else (none)) else (none)) else (none)) else (none)) else (none)) else (none)) else (none))
end
def laws_FnLog.f (k : Nat) (l0 : List Int) : Option (Bool) := (laws_vBig.f l0).bind fun t565 => (if t565 = true then (some true) else ((spec_DrawAppendRecord.f k l0).bind fun bt566 => ((impl_AppendRecord.f k bt566.1 bt566.2.1 bt566.2.2.1 bt566.2.2.2.1 bt566.2.2.2.2).bind fun bt573 => ((spec_AppendRecord.f k bt566.1 bt566.2.1 bt566.2.2.1 bt566.2.2.2.1 bt566.2.2.2.2).bind fun bt578 => (if (!(bt573.1.toList == bt578.1.toList) || (!(bt573.2.1.toList == bt578.2.1.toList) || (!(bt573.2.2.1 == bt578.2.2.1)))) = true then (laws_FnLog.j0 k bt573.2.2.2 true bt566.1 bt566.2.1 bt566.2.2.1 bt566.2.2.2.1 bt566.2.2.2.2 bt573.1 bt573.2.1 bt573.2.2.1) else (if bt573.2.2.2 = bt578.2.2.2 then ((impl_IsValidLog.f k bt566.1 bt566.2.1 bt566.2.2.1).bind fun t583 => ((spec_IsValidLog.f k bt566.1 bt566.2.1 bt566.2.2.1).bind fun t584 => (if (t583 != t584) = true then (laws_FnLog.j0 k bt573.2.2.2 true bt566.1 bt566.2.1 bt566.2.2.1 bt566.2.2.2.1 bt566.2.2.2.2 bt573.1 bt573.2.1 bt573.2.2.1) else ((impl_IsValidRecord.f k bt566.2.2.2.1 bt566.2.2.2.2).bind fun t585 => ((spec_IsValidRecord.f k bt566.2.2.2.1 bt566.2.2.2.2).bind fun t586 => (laws_FnLog.j0 k bt573.2.2.2 (t585 != t586) bt566.1 bt566.2.1 bt566.2.2.1 bt566.2.2.2.1 bt566.2.2.2.2 bt573.1 bt573.2.1 bt573.2.2.1)))))) else (laws_FnLog.j0 k bt573.2.2.2 true bt566.1 bt566.2.1 bt566.2.2.1 bt566.2.2.2.1 bt566.2.2.2.2 bt573.1 bt573.2.1 bt573.2.2.1)))))))
def laws_FnLog.T6 : Bool × List (List Nat × List Nat) := (true, [([], []), ([], []), ([0, 1], [0, 1]), ([2], [2]), ([3], [3]), ([3], [3]), ([4, 5, 3], [3, 4, 5]), ([3, 6], [3, 6]), ([7, 3], [7]), ([8], [8]), ([9, 8, 8], [8, 9]), ([8], [8]), ([11, 10, 8], [8, 11]), ([10, 12, 8], [8, 10, 12]), ([8, 13], [8, 13]), ([14, 12], [14]), ([15], [15]), ([16, 15, 15], [15, 16]), ([15], [15]), ([18, 17, 15], [15, 18]), ([17, 19, 15], [15, 17, 19]), ([15, 20], [15, 20])])
def laws_FnLog.B6 : List Nat := [0, 0, 3, 7, 15, 15, 63, 127, 255, 511, 1023, 511, 4095, 8191, 16383, 32767, 65535, 131071, 65535, 524287, 1048575, 2097151]
theorem laws_FnLog.tab6 : rtab .any (opsOf Tryd.f10 6) = laws_FnLog.T6 := by kernel_rfl
theorem laws_FnLog.bits6 : waitsOk laws_FnLog.T6.2 laws_FnLog.B6 = true := by kernel_rfl
def laws_FnLog.T19 : Bool × List (List Nat × List Nat) := (true, [([], []), ([], []), ([0, 1], [0, 1]), ([2], [2]), ([], []), ([], []), ([4, 5], [4, 5]), ([6], [6]), ([3, 7], [3, 7])])
def laws_FnLog.B19 : List Nat := [0, 0, 3, 7, 0, 0, 48, 112, 255]
theorem laws_FnLog.tab19 : rtab .any (opsOf Tryd.f10 19) = laws_FnLog.T19 := by kernel_rfl
theorem laws_FnLog.bits19 : waitsOk laws_FnLog.T19.2 laws_FnLog.B19 = true := by kernel_rfl
def laws_FnLog.T21 : Bool × List (List Nat × List Nat) := (true, [([], []), ([], []), ([1], [1]), ([0, 2], [0, 2]), ([3], [3]), ([], []), ([4, 5], [4, 5]), ([6], [6]), ([7], [7]), ([7, 8], [7, 8]), ([9, 7], [9]), ([10], [10]), ([10], [10]), ([12, 10], [10, 12]), ([10], [10]), ([14, 10], [10, 14]), ([13, 15, 10], [10, 13, 15]), ([16, 10], [10, 16]), ([11, 17, 10], [10, 11, 17]), ([10, 18], [10, 18]), ([19, 10], [19]), ([20], [20]), ([20, 21], [20, 21]), ([22, 20], [22]), ([23], [23]), ([23], [23]), ([24, 25, 23], [23, 24, 25]), ([23, 26], [23, 26]), ([27, 23], [27]), ([28], [28]), ([29, 28, 28], [28, 29]), ([28, 30], [28, 30]), ([31, 30, 0, 1, 2, 3, 4, 5, 6, 7, 8, 9, 10, 11, 12, 13, 14, 15, 16, 17, 18, 19, 20, 21, 22, 23, 24, 25, 26, 27, 28, 29, 30, 31], [31])])
def laws_FnLog.B21 : List Nat := [0, 0, 2, 7, 15, 0, 63, 127, 255, 511, 1023, 2047, 2047, 6143, 2047, 18431, 63487, 129023, 262143, 524287, 1048575, 2097151, 4194303, 8388607, 16777215, 16777215, 67108863, 134217727, 268435455, 536870911, 1073741823, 2147483647, 4294967295]
theorem laws_FnLog.tab21 : rtab .any (opsOf Tryd.f10 21) = laws_FnLog.T21 := by kernel_rfl
theorem laws_FnLog.bits21 : waitsOk laws_FnLog.T21.2 laws_FnLog.B21 = true := by kernel_rfl
abbrev laws_FnLog.mk0 : Array Bool := #[false, false, false, false, false, false, false, false, false, false, false, false, false, false, false, false, false, false, false, false, false, false]
abbrev laws_FnLog.mk1 : Array Bool := #[true, false, false, false, false, false, false, false, false, false, false, false, false, false, false, false, false, false, false, false, false, false]
abbrev laws_FnLog.mk2 : Array Bool := #[true, true, false, false, false, false, false, false, false, false, false, false, false, false, false, false, false, false, false, false, false, false]
abbrev laws_FnLog.mk3 : Array Bool := #[true, true, true, false, false, false, false, false, false, false, false, false, false, false, false, false, false, false, false, false, false, false]
abbrev laws_FnLog.mk4 : Array Bool := #[true, true, true, true, false, false, false, false, false, false, false, false, false, false, false, false, false, false, false, false, false, false]
abbrev laws_FnLog.mk5 : Array Bool := #[true, true, true, true, true, false, false, false, false, false, false, false, false, false, false, false, false, false, false, false, false, false]
abbrev laws_FnLog.mk6 : Array Bool := #[true, true, true, true, true, true, false, false, false, false, false, false, false, false, false, false, false, false, false, false, false, false]
abbrev laws_FnLog.mk7 : Array Bool := #[true, true, true, true, true, true, true, false, false, false, false, false, false, false, false, false, false, false, false, false, false, false]
abbrev laws_FnLog.mk8 : Array Bool := #[true, true, true, true, true, true, true, true, false, false, false, false, false, false, false, false, false, false, false, false, false, false]
abbrev laws_FnLog.mk9 : Array Bool := #[true, true, true, true, true, true, true, true, true, false, false, false, false, false, false, false, false, false, false, false, false, false]
abbrev laws_FnLog.mk10 : Array Bool := #[true, true, true, true, true, true, true, true, true, true, false, false, false, false, false, false, false, false, false, false, false, false]
abbrev laws_FnLog.mk11 : Array Bool := #[true, true, true, true, true, true, true, true, true, true, true, false, false, false, false, false, false, false, false, false, false, false]
abbrev laws_FnLog.mk12 : Array Bool := #[true, true, true, true, true, true, true, true, true, true, true, true, false, false, false, false, false, false, false, false, false, false]
abbrev laws_FnLog.mk13 : Array Bool := #[true, true, true, true, true, true, true, true, true, true, true, true, true, false, false, false, false, false, false, false, false, false]
abbrev laws_FnLog.mk14 : Array Bool := #[true, true, true, true, true, true, true, true, true, true, true, true, true, true, false, false, false, false, false, false, false, false]
abbrev laws_FnLog.mk15 : Array Bool := #[true, true, true, true, true, true, true, true, true, true, true, true, true, true, true, false, false, false, false, false, false, false]
abbrev laws_FnLog.mk16 : Array Bool := #[true, true, true, true, true, true, true, true, true, true, true, true, true, true, true, true, false, false, false, false, false, false]
abbrev laws_FnLog.mk17 : Array Bool := #[true, true, true, true, true, true, true, true, true, true, true, true, true, true, true, true, true, false, false, false, false, false]
abbrev laws_FnLog.mk18 : Array Bool := #[true, true, true, true, true, true, true, true, true, true, true, true, true, true, true, true, true, true, false, false, false, false]
abbrev laws_FnLog.mk19 : Array Bool := #[true, true, true, true, true, true, true, true, true, true, true, true, true, true, true, true, true, true, true, false, false, false]
abbrev laws_FnLog.mk20 : Array Bool := #[true, true, true, true, true, true, true, true, true, true, true, true, true, true, true, true, true, true, true, true, false, false]
abbrev laws_FnLog.mk21 : Array Bool := #[true, true, true, true, true, true, true, true, true, true, true, true, true, true, true, true, true, true, true, true, true, false]
abbrev laws_FnLog.mk22 : Array Bool := #[true, true, true, true, true, true, true, true, true, true, true, true, true, true, true, true, true, true, true, true, true, true]
abbrev laws_FnLog.mk23 : Array Bool := #[true, true, true, true, true, true, true, true, true, true, false, true, false, false, false, false, false, false, false, false, false, false]
abbrev laws_FnLog.mk24 : Array Bool := #[true, true, true, true, true, true, true, true, true, true, true, true, true, true, true, true, true, false, true, false, false, false]
abbrev laws_FnLog.mk25 : Array Bool := #[false, false, false, false, false, false, false, false, false]
abbrev laws_FnLog.mk26 : Array Bool := #[true, false, false, false, false, false, false, false, false]
abbrev laws_FnLog.mk27 : Array Bool := #[true, true, false, false, false, false, false, false, false]
abbrev laws_FnLog.mk28 : Array Bool := #[true, true, true, false, false, false, false, false, false]
abbrev laws_FnLog.mk29 : Array Bool := #[true, true, true, false, true, false, false, false, false]
abbrev laws_FnLog.mk30 : Array Bool := #[true, true, true, false, true, true, false, false, false]
abbrev laws_FnLog.mk31 : Array Bool := #[true, true, true, false, true, true, true, false, false]
abbrev laws_FnLog.mk32 : Array Bool := #[true, true, true, true, true, true, true, false, false]
abbrev laws_FnLog.mk33 : Array Bool := #[true, true, true, true, true, true, true, true, false]
abbrev laws_FnLog.mk34 : Array Bool := #[true, true, true, true, true, true, true, true, true]
abbrev laws_FnLog.mk35 : Array Bool := #[false, false, false, false, false, false, false, false, false, false, false, false, false, false, false, false, false, false, false, false, false, false, false, false, false, false, false, false, false, false, false, false, false]
abbrev laws_FnLog.mk36 : Array Bool := #[true, false, false, false, false, false, false, false, false, false, false, false, false, false, false, false, false, false, false, false, false, false, false, false, false, false, false, false, false, false, false, false, false]
abbrev laws_FnLog.mk37 : Array Bool := #[true, true, false, false, false, false, false, false, false, false, false, false, false, false, false, false, false, false, false, false, false, false, false, false, false, false, false, false, false, false, false, false, false]
abbrev laws_FnLog.mk38 : Array Bool := #[true, true, true, false, false, false, false, false, false, false, false, false, false, false, false, false, false, false, false, false, false, false, false, false, false, false, false, false, false, false, false, false, false]
abbrev laws_FnLog.mk39 : Array Bool := #[true, true, true, true, false, false, false, false, false, false, false, false, false, false, false, false, false, false, false, false, false, false, false, false, false, false, false, false, false, false, false, false, false]
abbrev laws_FnLog.mk40 : Array Bool := #[true, true, true, true, true, false, false, false, false, false, false, false, false, false, false, false, false, false, false, false, false, false, false, false, false, false, false, false, false, false, false, false, false]
abbrev laws_FnLog.mk41 : Array Bool := #[true, true, true, true, true, true, false, false, false, false, false, false, false, false, false, false, false, false, false, false, false, false, false, false, false, false, false, false, false, false, false, false, false]
abbrev laws_FnLog.mk42 : Array Bool := #[true, true, true, true, true, true, true, false, false, false, false, false, false, false, false, false, false, false, false, false, false, false, false, false, false, false, false, false, false, false, false, false, false]
abbrev laws_FnLog.mk43 : Array Bool := #[true, true, true, true, true, true, true, true, false, false, false, false, false, false, false, false, false, false, false, false, false, false, false, false, false, false, false, false, false, false, false, false, false]
abbrev laws_FnLog.mk44 : Array Bool := #[true, true, true, true, true, true, true, true, true, false, false, false, false, false, false, false, false, false, false, false, false, false, false, false, false, false, false, false, false, false, false, false, false]
abbrev laws_FnLog.mk45 : Array Bool := #[true, true, true, true, true, true, true, true, true, true, false, false, false, false, false, false, false, false, false, false, false, false, false, false, false, false, false, false, false, false, false, false, false]
abbrev laws_FnLog.mk46 : Array Bool := #[true, true, true, true, true, true, true, true, true, true, true, false, false, false, false, false, false, false, false, false, false, false, false, false, false, false, false, false, false, false, false, false, false]
abbrev laws_FnLog.mk47 : Array Bool := #[true, true, true, true, true, true, true, true, true, true, true, true, false, false, false, false, false, false, false, false, false, false, false, false, false, false, false, false, false, false, false, false, false]
abbrev laws_FnLog.mk48 : Array Bool := #[true, true, true, true, true, true, true, true, true, true, true, true, true, false, false, false, false, false, false, false, false, false, false, false, false, false, false, false, false, false, false, false, false]
abbrev laws_FnLog.mk49 : Array Bool := #[true, true, true, true, true, true, true, true, true, true, true, true, true, false, true, false, false, false, false, false, false, false, false, false, false, false, false, false, false, false, false, false, false]
abbrev laws_FnLog.mk50 : Array Bool := #[true, true, true, true, true, true, true, true, true, true, true, true, true, true, true, false, false, false, false, false, false, false, false, false, false, false, false, false, false, false, false, false, false]
abbrev laws_FnLog.mk51 : Array Bool := #[true, true, true, true, true, true, true, true, true, true, true, true, true, true, true, true, false, false, false, false, false, false, false, false, false, false, false, false, false, false, false, false, false]
abbrev laws_FnLog.mk52 : Array Bool := #[true, true, true, true, true, true, true, true, true, true, true, true, true, true, true, true, true, false, false, false, false, false, false, false, false, false, false, false, false, false, false, false, false]
abbrev laws_FnLog.mk53 : Array Bool := #[true, true, true, true, true, true, true, true, true, true, true, true, true, true, true, true, true, true, false, false, false, false, false, false, false, false, false, false, false, false, false, false, false]
abbrev laws_FnLog.mk54 : Array Bool := #[true, true, true, true, true, true, true, true, true, true, true, true, true, true, true, true, true, true, true, false, false, false, false, false, false, false, false, false, false, false, false, false, false]
abbrev laws_FnLog.mk55 : Array Bool := #[true, true, true, true, true, true, true, true, true, true, true, true, true, true, true, true, true, true, true, true, false, false, false, false, false, false, false, false, false, false, false, false, false]
abbrev laws_FnLog.mk56 : Array Bool := #[true, true, true, true, true, true, true, true, true, true, true, true, true, true, true, true, true, true, true, true, true, false, false, false, false, false, false, false, false, false, false, false, false]
abbrev laws_FnLog.mk57 : Array Bool := #[true, true, true, true, true, true, true, true, true, true, true, true, true, true, true, true, true, true, true, true, true, true, false, false, false, false, false, false, false, false, false, false, false]
abbrev laws_FnLog.mk58 : Array Bool := #[true, true, true, true, true, true, true, true, true, true, true, true, true, true, true, true, true, true, true, true, true, true, true, false, false, false, false, false, false, false, false, false, false]
abbrev laws_FnLog.mk59 : Array Bool := #[true, true, true, true, true, true, true, true, true, true, true, true, true, true, true, true, true, true, true, true, true, true, true, true, false, false, false, false, false, false, false, false, false]
abbrev laws_FnLog.mk60 : Array Bool := #[true, true, true, true, true, true, true, true, true, true, true, true, true, true, true, true, true, true, true, true, true, true, true, true, true, false, false, false, false, false, false, false, false]
abbrev laws_FnLog.mk61 : Array Bool := #[true, true, true, true, true, true, true, true, true, true, true, true, true, true, true, true, true, true, true, true, true, true, true, true, true, true, false, false, false, false, false, false, false]
abbrev laws_FnLog.mk62 : Array Bool := #[true, true, true, true, true, true, true, true, true, true, true, true, true, true, true, true, true, true, true, true, true, true, true, true, true, true, true, false, false, false, false, false, false]
abbrev laws_FnLog.mk63 : Array Bool := #[true, true, true, true, true, true, true, true, true, true, true, true, true, true, true, true, true, true, true, true, true, true, true, true, true, true, true, true, false, false, false, false, false]
abbrev laws_FnLog.mk64 : Array Bool := #[true, true, true, true, true, true, true, true, true, true, true, true, true, true, true, true, true, true, true, true, true, true, true, true, true, true, true, true, true, false, false, false, false]
abbrev laws_FnLog.mk65 : Array Bool := #[true, true, true, true, true, true, true, true, true, true, true, true, true, true, true, true, true, true, true, true, true, true, true, true, true, true, true, true, true, true, false, false, false]
abbrev laws_FnLog.mk66 : Array Bool := #[true, true, true, true, true, true, true, true, true, true, true, true, true, true, true, true, true, true, true, true, true, true, true, true, true, true, true, true, true, true, true, false, false]
abbrev laws_FnLog.mk67 : Array Bool := #[true, true, true, true, true, true, true, true, true, true, true, true, true, true, true, true, true, true, true, true, true, true, true, true, true, true, true, true, true, true, true, true, false]
abbrev laws_FnLog.mk68 : Array Bool := #[true, true, true, true, true, true, true, true, true, true, true, true, true, true, true, true, true, true, true, true, true, true, true, true, true, true, true, true, true, true, true, true, true]
set_option maxHeartbeats 64000000 in
set_option maxRecDepth 100000 in
theorem laws_FnLog.calls (k : Nat) (A0 : Option Addr) (c0 : Nat) (l0 : List Int) (r : Bool) (w : World) (hr0 : Kd.C (Kd.int .u8) w A0 l0.length l0) (hc0 : l0.length ≤ c0) (h : laws_FnLog.f k l0 = some r) (hT : Tb w) :
  Calls Tryd.prog 10 #[.slice A0 l0.length c0] w fun e w' => e = .returned (.bool r) ∧ Below w.heap.size w w' := by
 have HT := Aside0.mk hT
 clear hT
 have hu31 := Tryd.underlying31
 have hu27 := Tryd.underlying27
 have HR0 := Aside0.mk hr0
 have HC0 := Aside0.mk hc0
 clear hr0 hc0
 have HB := Aside0.mk (Below.refl w.heap.size w)
 have H : ((laws_vBig.f l0).bind fun t565 => (if t565 = true then (some true) else ((spec_DrawAppendRecord.f k l0).bind fun bt566 => ((impl_AppendRecord.f k bt566.1 bt566.2.1 bt566.2.2.1 bt566.2.2.2.1 bt566.2.2.2.2).bind fun bt573 => ((spec_AppendRecord.f k bt566.1 bt566.2.1 bt566.2.2.1 bt566.2.2.2.1 bt566.2.2.2.2).bind fun bt578 => (if (!(bt573.1.toList == bt578.1.toList) || (!(bt573.2.1.toList == bt578.2.1.toList) || (!(bt573.2.2.1 == bt578.2.2.1)))) = true then (laws_FnLog.j0 k bt573.2.2.2 true bt566.1 bt566.2.1 bt566.2.2.1 bt566.2.2.2.1 bt566.2.2.2.2 bt573.1 bt573.2.1 bt573.2.2.1) else (if bt573.2.2.2 = bt578.2.2.2 then ((impl_IsValidLog.f k bt566.1 bt566.2.1 bt566.2.2.1).bind fun t583 => ((spec_IsValidLog.f k bt566.1 bt566.2.1 bt566.2.2.1).bind fun t584 => (if (t583 != t584) = true then (laws_FnLog.j0 k bt573.2.2.2 true bt566.1 bt566.2.1 bt566.2.2.1 bt566.2.2.2.1 bt566.2.2.2.2 bt573.1 bt573.2.1 bt573.2.2.1) else ((impl_IsValidRecord.f k bt566.2.2.2.1 bt566.2.2.2.2).bind fun t585 => ((spec_IsValidRecord.f k bt566.2.2.2.1 bt566.2.2.2.2).bind fun t586 => (laws_FnLog.j0 k bt573.2.2.2 (t585 != t586) bt566.1 bt566.2.1 bt566.2.2.1 bt566.2.2.2.1 bt566.2.2.2.2 bt573.1 bt573.2.1 bt573.2.2.1)))))) else (laws_FnLog.j0 k bt573.2.2.2 true bt566.1 bt566.2.1 bt566.2.2.1 bt566.2.2.2.1 bt566.2.2.2.2 bt573.1 bt573.2.1 bt573.2.2.1)))))))) = some r := h
 clear h
 replace H := Option.bind_eq_some_iff.mp H
 obtain ⟨t565, A20, H⟩ := H
 replace H : (if t565 = true then (some true) else ((spec_DrawAppendRecord.f k l0).bind fun bt566 => ((impl_AppendRecord.f k bt566.1 bt566.2.1 bt566.2.2.1 bt566.2.2.2.1 bt566.2.2.2.2).bind fun bt573 => ((spec_AppendRecord.f k bt566.1 bt566.2.1 bt566.2.2.1 bt566.2.2.2.1 bt566.2.2.2.2).bind fun bt578 => (if (!(bt573.1.toList == bt578.1.toList) || (!(bt573.2.1.toList == bt578.2.1.toList) || (!(bt573.2.2.1 == bt578.2.2.1)))) = true then (laws_FnLog.j0 k bt573.2.2.2 true bt566.1 bt566.2.1 bt566.2.2.1 bt566.2.2.2.1 bt566.2.2.2.2 bt573.1 bt573.2.1 bt573.2.2.1) else (if bt573.2.2.2 = bt578.2.2.2 then ((impl_IsValidLog.f k bt566.1 bt566.2.1 bt566.2.2.1).bind fun t583 => ((spec_IsValidLog.f k bt566.1 bt566.2.1 bt566.2.2.1).bind fun t584 => (if (t583 != t584) = true then (laws_FnLog.j0 k bt573.2.2.2 true bt566.1 bt566.2.1 bt566.2.2.1 bt566.2.2.2.1 bt566.2.2.2.2 bt573.1 bt573.2.1 bt573.2.2.1) else ((impl_IsValidRecord.f k bt566.2.2.2.1 bt566.2.2.2.2).bind fun t585 => ((spec_IsValidRecord.f k bt566.2.2.2.1 bt566.2.2.2.2).bind fun t586 => (laws_FnLog.j0 k bt573.2.2.2 (t585 != t586) bt566.1 bt566.2.1 bt566.2.2.1 bt566.2.2.2.1 bt566.2.2.2.2 bt573.1 bt573.2.1 bt573.2.2.1)))))) else (laws_FnLog.j0 k bt573.2.2.2 true bt566.1 bt566.2.1 bt566.2.2.1 bt566.2.2.2.1 bt566.2.2.2.2 bt573.1 bt573.2.1 bt573.2.2.1))))))) = some r := H
 have A2 := Aside0.mk A20
 clear A20
 by_cases c3 : t565 = true
 ·
  subst c3
  have H1 : (some true) = some r := by rw [if_pos rfl] at H; exact H
  clear H
  have H := H1
  clear H1
  obtain rfl := Option.some.inj H
  go_enter Tryd.func10, Tryd.ntmps10
  go_wp2_with (first | ((with_reducible refine gate_callee (f := 35) rfl ?_); refine ga_ (some 20) Tryd.func35 #[.slice A0 l0.length c0] ?_; (with_reducible refine (laws_vBig.calls _ _ l0 true _ ?side1 ?side2 A2.out).mono ?_); (case side1 => exact kc_ HR0.out); (case side2 => exact HC0.out); rintro e w' ⟨rfl, ⟨nd, rfl⟩⟩; refine ⟨_, rfl, ?_⟩))
  go_ret
  exact ⟨rr_, lb0_ HB.out⟩
 ·
  replace c3 := Bool.eq_false_iff.mpr c3
  subst c3
  have H1 : ((spec_DrawAppendRecord.f k l0).bind fun bt566 => ((impl_AppendRecord.f k bt566.1 bt566.2.1 bt566.2.2.1 bt566.2.2.2.1 bt566.2.2.2.2).bind fun bt573 => ((spec_AppendRecord.f k bt566.1 bt566.2.1 bt566.2.2.1 bt566.2.2.2.1 bt566.2.2.2.2).bind fun bt578 => (if (!(bt573.1.toList == bt578.1.toList) || (!(bt573.2.1.toList == bt578.2.1.toList) || (!(bt573.2.2.1 == bt578.2.2.1)))) = true then (laws_FnLog.j0 k bt573.2.2.2 true bt566.1 bt566.2.1 bt566.2.2.1 bt566.2.2.2.1 bt566.2.2.2.2 bt573.1 bt573.2.1 bt573.2.2.1) else (if bt573.2.2.2 = bt578.2.2.2 then ((impl_IsValidLog.f k bt566.1 bt566.2.1 bt566.2.2.1).bind fun t583 => ((spec_IsValidLog.f k bt566.1 bt566.2.1 bt566.2.2.1).bind fun t584 => (if (t583 != t584) = true then (laws_FnLog.j0 k bt573.2.2.2 true bt566.1 bt566.2.1 bt566.2.2.1 bt566.2.2.2.1 bt566.2.2.2.2 bt573.1 bt573.2.1 bt573.2.2.1) else ((impl_IsValidRecord.f k bt566.2.2.2.1 bt566.2.2.2.2).bind fun t585 => ((spec_IsValidRecord.f k bt566.2.2.2.1 bt566.2.2.2.2).bind fun t586 => (laws_FnLog.j0 k bt573.2.2.2 (t585 != t586) bt566.1 bt566.2.1 bt566.2.2.1 bt566.2.2.2.1 bt566.2.2.2.2 bt573.1 bt573.2.1 bt573.2.2.1)))))) else (laws_FnLog.j0 k bt573.2.2.2 true bt566.1 bt566.2.1 bt566.2.2.1 bt566.2.2.2.1 bt566.2.2.2.2 bt573.1 bt573.2.1 bt573.2.2.1)))))) = some r := by rw [if_neg (show ¬ (false = true) by decide)] at H; exact H
  clear H
  have H := H1
  clear H1
  replace H := Option.bind_eq_some_iff.mp H
  obtain ⟨⟨t566, t567, t568, t569, t570⟩, A40, H⟩ := H
  replace H : ((impl_AppendRecord.f k t566 t567 t568 t569 t570).bind fun bt573 => ((spec_AppendRecord.f k t566 t567 t568 t569 t570).bind fun bt578 => (if (!(bt573.1.toList == bt578.1.toList) || (!(bt573.2.1.toList == bt578.2.1.toList) || (!(bt573.2.2.1 == bt578.2.2.1)))) = true then (laws_FnLog.j0 k bt573.2.2.2 true t566 t567 t568 t569 t570 bt573.1 bt573.2.1 bt573.2.2.1) else (if bt573.2.2.2 = bt578.2.2.2 then ((impl_IsValidLog.f k t566 t567 t568).bind fun t583 => ((spec_IsValidLog.f k t566 t567 t568).bind fun t584 => (if (t583 != t584) = true then (laws_FnLog.j0 k bt573.2.2.2 true t566 t567 t568 t569 t570 bt573.1 bt573.2.1 bt573.2.2.1) else ((impl_IsValidRecord.f k t569 t570).bind fun t585 => ((spec_IsValidRecord.f k t569 t570).bind fun t586 => (laws_FnLog.j0 k bt573.2.2.2 (t585 != t586) t566 t567 t568 t569 t570 bt573.1 bt573.2.1 bt573.2.2.1)))))) else (laws_FnLog.j0 k bt573.2.2.2 true t566 t567 t568 t569 t570 bt573.1 bt573.2.1 bt573.2.2.1))))) = some r := H
  have A4 := Aside0.mk A40
  clear A40
  replace H := Option.bind_eq_some_iff.mp H
  obtain ⟨⟨t573, t574, t575, t576⟩, A50, H⟩ := H
  replace H : ((spec_AppendRecord.f k t566 t567 t568 t569 t570).bind fun bt578 => (if (!(t573.toList == bt578.1.toList) || (!(t574.toList == bt578.2.1.toList) || (!(t575 == bt578.2.2.1)))) = true then (laws_FnLog.j0 k t576 true t566 t567 t568 t569 t570 t573 t574 t575) else (if t576 = bt578.2.2.2 then ((impl_IsValidLog.f k t566 t567 t568).bind fun t583 => ((spec_IsValidLog.f k t566 t567 t568).bind fun t584 => (if (t583 != t584) = true then (laws_FnLog.j0 k t576 true t566 t567 t568 t569 t570 t573 t574 t575) else ((impl_IsValidRecord.f k t569 t570).bind fun t585 => ((spec_IsValidRecord.f k t569 t570).bind fun t586 => (laws_FnLog.j0 k t576 (t585 != t586) t566 t567 t568 t569 t570 t573 t574 t575)))))) else (laws_FnLog.j0 k t576 true t566 t567 t568 t569 t570 t573 t574 t575)))) = some r := H
  have A5 := Aside0.mk A50
  clear A50
  replace H := Option.bind_eq_some_iff.mp H
  obtain ⟨⟨t578, t579, t580, t581⟩, A60, H⟩ := H
  replace H : (if (!(t573.toList == t578.toList) || (!(t574.toList == t579.toList) || (!(t575 == t580)))) = true then (laws_FnLog.j0 k t576 true t566 t567 t568 t569 t570 t573 t574 t575) else (if t576 = t581 then ((impl_IsValidLog.f k t566 t567 t568).bind fun t583 => ((spec_IsValidLog.f k t566 t567 t568).bind fun t584 => (if (t583 != t584) = true then (laws_FnLog.j0 k t576 true t566 t567 t568 t569 t570 t573 t574 t575) else ((impl_IsValidRecord.f k t569 t570).bind fun t585 => ((spec_IsValidRecord.f k t569 t570).bind fun t586 => (laws_FnLog.j0 k t576 (t585 != t586) t566 t567 t568 t569 t570 t573 t574 t575)))))) else (laws_FnLog.j0 k t576 true t566 t567 t568 t569 t570 t573 t574 t575))) = some r := H
  have A6 := Aside0.mk A60
  clear A60
  have HC7 := Aside0.mk H
  clear H
  go_enter Tryd.func10, Tryd.ntmps10
  go_upto_region 6 with (first | ((with_reducible refine gate_callee (f := 35) rfl ?_); refine ga_ (some 20) Tryd.func35 #[.slice A0 l0.length c0] ?_; (with_reducible refine (laws_vBig.calls _ _ l0 false _ ?side1 ?side2 A2.out).mono ?_); (case side1 => exact kc_ HR0.out); (case side2 => exact HC0.out); rintro e w' ⟨rfl, ⟨nd, rfl⟩⟩; refine ⟨_, rfl, ?_⟩) | ((with_reducible refine gate_callee (f := 36) rfl ?_); refine ga_ (some 23) Tryd.func36 #[.slice A0 l0.length c0] ?_; (with_reducible refine (spec_DrawAppendRecord.calls k _ _ l0 t566 t567 t568 t569 t570 _ ?side1 ?side2 A4.out).mono ?_); (case side1 => exact kc_ HR0.out); (case side2 => exact HC0.out); rintro e w8 ⟨rfl, hb⟩; refine ⟨_, rfl, ?_⟩; replace HB := Aside0.mk (below_step (lb0_ HB.out) hb); (try clear hb); (try clear hb2); (try clear hk); (try clear hi)) | ((with_reducible refine gate_dst (N := 3) rfl ?_); (try (refine gate_guard (by rfl) ?_; dsimp only)); refine box_event ?hg (N := 3) ?hd (cs := #[.string (⟨#[]⟩ : ByteArray), .string (⟨#[]⟩ : ByteArray), .int .i64 0]) (t := 31) ?hr ?_; (case hd => rfl); (case hg => rfl); (case hr => first | (go_simp; done) | (go_simp; rfl)); intro gb571 hg w9 hbox hb; have BK571 := Aside0.mk (hbox); have GW571 := Aside0.mk ((bz_ hg (lb0_ HB.out))); have GE571 := Aside0.mk ((bz_ hg (lb0_ HB.out))); replace HB := Aside0.mk (below_step (lb0_ HB.out) hb); clear hb hbox hg) | ((with_reducible refine gate_dst (N := 4) rfl ?_); (try (refine gate_guard (by rfl) ?_; dsimp only)); refine box_event ?hg (N := 4) ?hd (cs := #[.string (⟨#[]⟩ : ByteArray), .string (⟨#[]⟩ : ByteArray)]) (t := 27) ?hr ?_; (case hd => rfl); (case hg => rfl); (case hr => first | (go_simp; done) | (go_simp; rfl)); intro gb572 hg w10 hbox hb; have BK572 := Aside0.mk (hbox); have GW572 := Aside0.mk ((bz_ hg (lb1_ HB.out GE571.out))); have GE572 := Aside0.mk ((bz_ hg (lb1_ HB.out GE571.out))); replace HB := Aside0.mk (below_step (lb1_ HB.out GE571.out) hb); have NB571_572 := Aside0.mk ((by rw [hg]; exact Nat.ne_of_lt (blk_lt (g := gb571) (o := .cells #[.string (⟨#[]⟩ : ByteArray), .string (⟨#[]⟩ : ByteArray), .int .i64 0] 31 (0, 0)) (bk_ BK571.out)) : gb571 ≠ gb572)); have NB572_571 := Aside0.mk ((by rw [hg]; exact Nat.ne_of_gt (blk_lt (g := gb571) (o := .cells #[.string (⟨#[]⟩ : ByteArray), .string (⟨#[]⟩ : ByteArray), .int .i64 0] 31 (0, 0)) (bk_ BK571.out)) : gb572 ≠ gb571)); replace BK571 := Aside0.mk (bb_ (bk_ BK571.out) hb); clear hb hbox hg; have hnb11 := NB571_572.out; have hnc11 := NB572_571.out; obtain ⟨hcz12_0, hcz12_1, hcz12_2⟩ := cz3_ BK571.out; obtain ⟨hfz12_0, hfz12_1, hfz12_2⟩ := fz3_ BK571.out; obtain ⟨hcz13_0, hcz13_1⟩ := cz2_ BK572.out; obtain ⟨hfz13_0, hfz13_1⟩ := fz2_ BK572.out) | ((with_reducible refine gate_callee (f := 29) rfl ?_); refine ga_ (some 29) Tryd.func29 #[.agg #[.string t566, .string t567, .int .i64 t568], .agg #[.string t569, .string t570]] ?_; (with_reducible refine (impl_AppendRecord.calls k t566 t567 t568 t569 t570 t573 t574 t575 t576 _ A5.out ?sideT).mono ?_); (case sideT => first | exact HT.out | exact Tb.step HT.out HB.out | exact Tb.step HT.out (by repeat (first | (with_reducible first | exact HB.out | apply below_alloc | apply pw_below_drewN | apply below_drew1 | refine below_set ?_ GE571.out | refine below_set ?_ GE572.out | refine below_set ?_ GE577.out | refine below_set ?_ GE582.out | refine below_set ?_ GE600.out | refine below_set ?_ GE605.out) | exact HB.out | exact Below.refl _ _))); rintro e w14 ⟨rfl, hb⟩; refine ⟨_, rfl, ?_⟩; replace BK571 := Aside0.mk (blk_below (g := gb571) (o := .cells #[.string t566, .string t567, .int .i64 t568] 31 (0, 0)) (by (with_reducible repeat (first | refine blk_drewN ?_ _ | refine blk_drew ?_ | refine blk_alloc ?_ _)); refine blk_far ?_ NB571_572.out _; (with_reducible repeat (first | refine blk_drewN ?_ _ | refine blk_drew ?_ | refine blk_alloc ?_ _)); refine blk_far ?_ NB571_572.out _; (with_reducible repeat (first | refine blk_drewN ?_ _ | refine blk_drew ?_ | refine blk_alloc ?_ _)); refine blk_put (cs := #[.string t566, .string t567, .int .i64 0]) ?_ 2 _ rfl; (with_reducible repeat (first | refine blk_drewN ?_ _ | refine blk_drew ?_ | refine blk_alloc ?_ _)); refine blk_put (cs := #[.string t566, .string (⟨#[]⟩ : ByteArray), .int .i64 0]) ?_ 1 _ rfl; (with_reducible repeat (first | refine blk_drewN ?_ _ | refine blk_drew ?_ | refine blk_alloc ?_ _)); refine blk_put (cs := #[.string (⟨#[]⟩ : ByteArray), .string (⟨#[]⟩ : ByteArray), .int .i64 0]) ?_ 0 _ rfl; (with_reducible repeat (first | refine blk_drewN ?_ _ | refine blk_drew ?_ | refine blk_alloc ?_ _)); exact BK571.out) hb); replace BK572 := Aside0.mk (blk_below (g := gb572) (o := .cells #[.string t569, .string t570] 27 (0, 0)) (by (with_reducible repeat (first | refine blk_drewN ?_ _ | refine blk_drew ?_ | refine blk_alloc ?_ _)); refine blk_put (cs := #[.string t569, .string (⟨#[]⟩ : ByteArray)]) ?_ 1 _ rfl; (with_reducible repeat (first | refine blk_drewN ?_ _ | refine blk_drew ?_ | refine blk_alloc ?_ _)); refine blk_put (cs := #[.string (⟨#[]⟩ : ByteArray), .string (⟨#[]⟩ : ByteArray)]) ?_ 0 _ rfl; (with_reducible repeat (first | refine blk_drewN ?_ _ | refine blk_drew ?_ | refine blk_alloc ?_ _)); refine blk_far ?_ NB572_571.out _; (with_reducible repeat (first | refine blk_drewN ?_ _ | refine blk_drew ?_ | refine blk_alloc ?_ _)); refine blk_far ?_ NB572_571.out _; (with_reducible repeat (first | refine blk_drewN ?_ _ | refine blk_drew ?_ | refine blk_alloc ?_ _)); refine blk_far ?_ NB572_571.out _; (with_reducible repeat (first | refine blk_drewN ?_ _ | refine blk_drew ?_ | refine blk_alloc ?_ _)); exact BK572.out) hb); replace HB := Aside0.mk (below_step (lb2_ HB.out GE571.out GE572.out) hb); (try clear hb); (try clear hb2); (try clear hk); (try clear hi)) | ((with_reducible refine gate_dst (N := 5) rfl ?_); (try (refine gate_guard (by rfl) ?_; dsimp only)); refine box_event ?hg (N := 5) ?hd (cs := #[.string (⟨#[]⟩ : ByteArray), .string (⟨#[]⟩ : ByteArray), .int .i64 0]) (t := 31) ?hr ?_; (case hd => rfl); (case hg => rfl); (case hr => first | (go_simp; done) | (go_simp; rfl)); intro gb577 hg w15 hbox hb; have BK577 := Aside0.mk (hbox); have GW577 := Aside0.mk ((bz_ hg (lb2_ HB.out GE571.out GE572.out))); have GE577 := Aside0.mk ((bz_ hg (lb2_ HB.out GE571.out GE572.out))); replace HB := Aside0.mk (below_step (lb2_ HB.out GE571.out GE572.out) hb); have NB571_577 := Aside0.mk ((by rw [hg]; exact Nat.ne_of_lt (blk_lt (g := gb571) (o := .cells #[.string t566, .string t567, .int .i64 t568] 31 (0, 0)) (bk_ BK571.out)) : gb571 ≠ gb577)); have NB577_571 := Aside0.mk ((by rw [hg]; exact Nat.ne_of_gt (blk_lt (g := gb571) (o := .cells #[.string t566, .string t567, .int .i64 t568] 31 (0, 0)) (bk_ BK571.out)) : gb577 ≠ gb571)); replace BK571 := Aside0.mk (bb_ (bk_ BK571.out) hb); have NB572_577 := Aside0.mk ((by rw [hg]; exact Nat.ne_of_lt (blk_lt (g := gb572) (o := .cells #[.string t569, .string t570] 27 (0, 0)) (bk_ BK572.out)) : gb572 ≠ gb577)); have NB577_572 := Aside0.mk ((by rw [hg]; exact Nat.ne_of_gt (blk_lt (g := gb572) (o := .cells #[.string t569, .string t570] 27 (0, 0)) (bk_ BK572.out)) : gb577 ≠ gb572)); replace BK572 := Aside0.mk (bb_ (bk_ BK572.out) hb); clear hb hbox hg; have hnb16 := NB577_571.out; have hnc16 := NB571_577.out; have hnb17 := NB577_572.out; have hnc17 := NB572_577.out; obtain ⟨hcz18_0, hcz18_1, hcz18_2⟩ := cz3_ BK577.out; obtain ⟨hfz18_0, hfz18_1, hfz18_2⟩ := fz3_ BK577.out; obtain ⟨hcz19_0, hcz19_1, hcz19_2⟩ := cz3_ BK571.out; obtain ⟨hfz19_0, hfz19_1, hfz19_2⟩ := fz3_ BK571.out; obtain ⟨hcz20_0, hcz20_1⟩ := cz2_ BK572.out; obtain ⟨hfz20_0, hfz20_1⟩ := fz2_ BK572.out) | ((with_reducible refine gate_callee (f := 28) rfl ?_); refine ga_ (some 35) Tryd.func28 #[.agg #[.string t566, .string t567, .int .i64 t568], .agg #[.string t569, .string t570]] ?_; (with_reducible refine (spec_AppendRecord.calls k t566 t567 t568 t569 t570 t578 t579 t580 t581 _ A6.out).mono ?_); rintro e w21 ⟨rfl, hb⟩; refine ⟨_, rfl, ?_⟩; replace BK571 := Aside0.mk (blk_below (g := gb571) (o := .cells #[.string t566, .string t567, .int .i64 t568] 31 (0, 0)) (by (with_reducible repeat (first | refine blk_drewN ?_ _ | refine blk_drew ?_ | refine blk_alloc ?_ _)); refine blk_far ?_ NB571_577.out _; (with_reducible repeat (first | refine blk_drewN ?_ _ | refine blk_drew ?_ | refine blk_alloc ?_ _)); refine blk_far ?_ NB571_577.out _; (with_reducible repeat (first | refine blk_drewN ?_ _ | refine blk_drew ?_ | refine blk_alloc ?_ _)); refine blk_far ?_ NB571_577.out _; (with_reducible repeat (first | refine blk_drewN ?_ _ | refine blk_drew ?_ | refine blk_alloc ?_ _)); exact BK571.out) hb); replace BK572 := Aside0.mk (blk_below (g := gb572) (o := .cells #[.string t569, .string t570] 27 (0, 0)) (by (with_reducible repeat (first | refine blk_drewN ?_ _ | refine blk_drew ?_ | refine blk_alloc ?_ _)); refine blk_far ?_ NB572_577.out _; (with_reducible repeat (first | refine blk_drewN ?_ _ | refine blk_drew ?_ | refine blk_alloc ?_ _)); refine blk_far ?_ NB572_577.out _; (with_reducible repeat (first | refine blk_drewN ?_ _ | refine blk_drew ?_ | refine blk_alloc ?_ _)); refine blk_far ?_ NB572_577.out _; (with_reducible repeat (first | refine blk_drewN ?_ _ | refine blk_drew ?_ | refine blk_alloc ?_ _)); exact BK572.out) hb); replace BK577 := Aside0.mk (blk_below (g := gb577) (o := .cells #[.string t573, .string t574, .int .i64 t575] 31 (0, 0)) (by (with_reducible repeat (first | refine blk_drewN ?_ _ | refine blk_drew ?_ | refine blk_alloc ?_ _)); refine blk_put (cs := #[.string t573, .string t574, .int .i64 0]) ?_ 2 _ rfl; (with_reducible repeat (first | refine blk_drewN ?_ _ | refine blk_drew ?_ | refine blk_alloc ?_ _)); refine blk_put (cs := #[.string t573, .string (⟨#[]⟩ : ByteArray), .int .i64 0]) ?_ 1 _ rfl; (with_reducible repeat (first | refine blk_drewN ?_ _ | refine blk_drew ?_ | refine blk_alloc ?_ _)); refine blk_put (cs := #[.string (⟨#[]⟩ : ByteArray), .string (⟨#[]⟩ : ByteArray), .int .i64 0]) ?_ 0 _ rfl; (with_reducible repeat (first | refine blk_drewN ?_ _ | refine blk_drew ?_ | refine blk_alloc ?_ _)); exact BK577.out) hb); replace HB := Aside0.mk (below_step (lb3_ HB.out GE571.out GE572.out GE577.out) hb); (try clear hb); (try clear hb2); (try clear hk); (try clear hi)) | ((with_reducible refine gate_dst (N := 7) rfl ?_); (try (refine gate_guard (by rfl) ?_; dsimp only)); refine box_event ?hg (N := 7) ?hd (cs := #[.string (⟨#[]⟩ : ByteArray), .string (⟨#[]⟩ : ByteArray), .int .i64 0]) (t := 31) ?hr ?_; (case hd => rfl); (case hg => rfl); (case hr => first | (go_simp; done) | (go_simp; rfl)); intro gb582 hg w22 hbox hb; have BK582 := Aside0.mk (hbox); have GW582 := Aside0.mk ((by rw [hg]; exact (below_size (lb3_ HB.out GE571.out GE572.out GE577.out)) : w.heap.size ≤ gb582)); have GE582 := Aside0.mk ((by rw [hg]; exact (below_size (lb3_ HB.out GE571.out GE572.out GE577.out)) : w.heap.size ≤ gb582)); replace HB := Aside0.mk (below_step (lb3_ HB.out GE571.out GE572.out GE577.out) hb); have NB571_582 := Aside0.mk ((by rw [hg]; exact Nat.ne_of_lt (blk_lt (g := gb571) (o := .cells #[.string t566, .string t567, .int .i64 t568] 31 (0, 0)) (bk_ BK571.out)) : gb571 ≠ gb582)); have NB582_571 := Aside0.mk ((by rw [hg]; exact Nat.ne_of_gt (blk_lt (g := gb571) (o := .cells #[.string t566, .string t567, .int .i64 t568] 31 (0, 0)) (bk_ BK571.out)) : gb582 ≠ gb571)); replace BK571 := Aside0.mk (bb_ (bk_ BK571.out) hb); have NB572_582 := Aside0.mk ((by rw [hg]; exact Nat.ne_of_lt (blk_lt (g := gb572) (o := .cells #[.string t569, .string t570] 27 (0, 0)) (bk_ BK572.out)) : gb572 ≠ gb582)); have NB582_572 := Aside0.mk ((by rw [hg]; exact Nat.ne_of_gt (blk_lt (g := gb572) (o := .cells #[.string t569, .string t570] 27 (0, 0)) (bk_ BK572.out)) : gb582 ≠ gb572)); replace BK572 := Aside0.mk (bb_ (bk_ BK572.out) hb); have NB577_582 := Aside0.mk ((by rw [hg]; exact Nat.ne_of_lt (blk_lt (g := gb577) (o := .cells #[.string t573, .string t574, .int .i64 t575] 31 (0, 0)) (bk_ BK577.out)) : gb577 ≠ gb582)); have NB582_577 := Aside0.mk ((by rw [hg]; exact Nat.ne_of_gt (blk_lt (g := gb577) (o := .cells #[.string t573, .string t574, .int .i64 t575] 31 (0, 0)) (bk_ BK577.out)) : gb582 ≠ gb577)); replace BK577 := Aside0.mk (bb_ (bk_ BK577.out) hb); clear hb hbox hg; have hnb23 := NB582_571.out; have hnc23 := NB571_582.out; have hnb24 := NB582_572.out; have hnc24 := NB572_582.out; have hnb25 := NB582_577.out; have hnc25 := NB577_582.out; obtain ⟨hcz26_0, hcz26_1, hcz26_2⟩ := cz3_ BK582.out; obtain ⟨hfz26_0, hfz26_1, hfz26_2⟩ := fz3_ BK582.out))
  (try simp only [Act.put, List.setIfInBounds_toArray, List.set_cons_zero, List.set_cons_succ])
  go_cut [59] (fun v59 wc => ∃ (kq : Nat) (x59_6 : Bool), v59 = .bool x59_6 ∧ Aside0 (laws_FnLog.j0 kq t576 x59_6 t566 t567 t568 t569 t570 t573 t574 t575 = some r) ∧ Aside0 (kq ≤ k) ∧ Aside0 (wc.heap[gb571]? = some (.cells #[.string t566, .string t567, .int .i64 t568] 31 (0, 0))) ∧ Aside0 (wc.heap[gb572]? = some (.cells #[.string t569, .string t570] 27 (0, 0))) ∧ Aside0 (wc.heap[gb577]? = some (.cells #[.string t573, .string t574, .int .i64 t575] 31 (0, 0))) ∧ Aside0 (wc.heap[gb582]? = some (.cells #[.string t578, .string t579, .int .i64 t580] 31 (0, 0))) ∧ Aside0 (Below w.heap.size w wc))
  case first =>
   as_aux_lemma =>
    have H := HC7.out
    clear HC7
    by_cases c27 : (!(t573.toList == t578.toList) || (!(t574.toList == t579.toList) || (!(t575 == t580)))) = true
    ·
     rw [if_pos c27] at H
     have c27b0 : (!(t573.toList == t578.toList) || (!(t574.toList == t579.toList) || (!(t575 == t580)))) = true := c27
     clear c27
     (first | rw [c27b0] | (simp only [i64_w, i32_w]; rw [c27b0]) | skip)
     have H' := Aside0.mk H
     clear H
     try go_wp2
     have n0_ : Aside0 ((((w22.setCell ⟨gb582, 0, none⟩ (.string t578)).setCell ⟨gb582, 1, none⟩ (.string t579)).setCell ⟨gb582, 2, none⟩ (.int .i64 t580)).heap[gb571]? = some (.cells #[.string t566, .string t567, .int .i64 t568] 31 (0, 0))) := ⟨by (with_reducible repeat (first | refine blk_drewN ?_ _ | refine blk_drew ?_ | refine blk_alloc ?_ _)); refine blk_far ?_ NB571_582.out _; (with_reducible repeat (first | refine blk_drewN ?_ _ | refine blk_drew ?_ | refine blk_alloc ?_ _)); refine blk_far ?_ NB571_582.out _; (with_reducible repeat (first | refine blk_drewN ?_ _ | refine blk_drew ?_ | refine blk_alloc ?_ _)); refine blk_far ?_ NB571_582.out _; (with_reducible repeat (first | refine blk_drewN ?_ _ | refine blk_drew ?_ | refine blk_alloc ?_ _)); exact BK571.out⟩
     have n1_ : Aside0 ((((w22.setCell ⟨gb582, 0, none⟩ (.string t578)).setCell ⟨gb582, 1, none⟩ (.string t579)).setCell ⟨gb582, 2, none⟩ (.int .i64 t580)).heap[gb572]? = some (.cells #[.string t569, .string t570] 27 (0, 0))) := ⟨by (with_reducible repeat (first | refine blk_drewN ?_ _ | refine blk_drew ?_ | refine blk_alloc ?_ _)); refine blk_far ?_ NB572_582.out _; (with_reducible repeat (first | refine blk_drewN ?_ _ | refine blk_drew ?_ | refine blk_alloc ?_ _)); refine blk_far ?_ NB572_582.out _; (with_reducible repeat (first | refine blk_drewN ?_ _ | refine blk_drew ?_ | refine blk_alloc ?_ _)); refine blk_far ?_ NB572_582.out _; (with_reducible repeat (first | refine blk_drewN ?_ _ | refine blk_drew ?_ | refine blk_alloc ?_ _)); exact BK572.out⟩
     have n2_ : Aside0 ((((w22.setCell ⟨gb582, 0, none⟩ (.string t578)).setCell ⟨gb582, 1, none⟩ (.string t579)).setCell ⟨gb582, 2, none⟩ (.int .i64 t580)).heap[gb577]? = some (.cells #[.string t573, .string t574, .int .i64 t575] 31 (0, 0))) := ⟨by (with_reducible repeat (first | refine blk_drewN ?_ _ | refine blk_drew ?_ | refine blk_alloc ?_ _)); refine blk_far ?_ NB577_582.out _; (with_reducible repeat (first | refine blk_drewN ?_ _ | refine blk_drew ?_ | refine blk_alloc ?_ _)); refine blk_far ?_ NB577_582.out _; (with_reducible repeat (first | refine blk_drewN ?_ _ | refine blk_drew ?_ | refine blk_alloc ?_ _)); refine blk_far ?_ NB577_582.out _; (with_reducible repeat (first | refine blk_drewN ?_ _ | refine blk_drew ?_ | refine blk_alloc ?_ _)); exact BK577.out⟩
     have n3_ : Aside0 ((((w22.setCell ⟨gb582, 0, none⟩ (.string t578)).setCell ⟨gb582, 1, none⟩ (.string t579)).setCell ⟨gb582, 2, none⟩ (.int .i64 t580)).heap[gb582]? = some (.cells #[.string t578, .string t579, .int .i64 t580] 31 (0, 0))) := ⟨by (with_reducible repeat (first | refine blk_drewN ?_ _ | refine blk_drew ?_ | refine blk_alloc ?_ _)); refine blk_put (cs := #[.string t578, .string t579, .int .i64 0]) ?_ 2 _ rfl; (with_reducible repeat (first | refine blk_drewN ?_ _ | refine blk_drew ?_ | refine blk_alloc ?_ _)); refine blk_put (cs := #[.string t578, .string (⟨#[]⟩ : ByteArray), .int .i64 0]) ?_ 1 _ rfl; (with_reducible repeat (first | refine blk_drewN ?_ _ | refine blk_drew ?_ | refine blk_alloc ?_ _)); refine blk_put (cs := #[.string (⟨#[]⟩ : ByteArray), .string (⟨#[]⟩ : ByteArray), .int .i64 0]) ?_ 0 _ rfl; (with_reducible repeat (first | refine blk_drewN ?_ _ | refine blk_drew ?_ | refine blk_alloc ?_ _)); exact BK582.out⟩
     have n4_ : Aside0 (Below w.heap.size w (((w22.setCell ⟨gb582, 0, none⟩ (.string t578)).setCell ⟨gb582, 1, none⟩ (.string t579)).setCell ⟨gb582, 2, none⟩ (.int .i64 t580))) := ⟨by repeat (first | (with_reducible first | exact HB.out | apply below_alloc | apply pw_below_drewN | apply below_drew1 | refine below_set ?_ GE571.out | refine below_set ?_ GE572.out | refine below_set ?_ GE577.out | refine below_set ?_ GE582.out) | exact HB.out)⟩
     (try clear BK571)
     (try clear BK572)
     (try clear BK577)
     (try clear BK582)
     (try clear HB)
     generalize (((w22.setCell ⟨gb582, 0, none⟩ (.string t578)).setCell ⟨gb582, 1, none⟩ (.string t579)).setCell ⟨gb582, 2, none⟩ (.int .i64 t580)) = w28 at n0_ n1_ n2_ n3_ n4_ ⊢
     have BK571 := n0_
     have BK572 := n1_
     have BK577 := n2_
     have BK582 := n3_
     have HB := n4_
     clear n0_ n1_ n2_ n3_ n4_
     replace BK571 := Aside0.mk (blk_drew BK571.out)
     replace BK572 := Aside0.mk (blk_drew BK572.out)
     replace BK577 := Aside0.mk (blk_drew BK577.out)
     replace BK582 := Aside0.mk (blk_drew BK582.out)
     replace HB := Aside0.mk (below_drew1 HB.out)
     refine start_ (n := 22) (S := fun w' => w'.cell? ⟨gb577, 0, none⟩ = some (.string t573) ∧ w'.cell? ⟨gb577, 1, none⟩ = some (.string t574) ∧ w'.cell? ⟨gb577, 2, none⟩ = some (.int .i64 t575) ∧ w'.cell? ⟨gb582, 0, none⟩ = some (.string t578) ∧ w'.cell? ⟨gb582, 1, none⟩ = some (.string t579) ∧ w'.cell? ⟨gb582, 2, none⟩ = some (.int .i64 t580)) (ds := []) laws_FnLog.mk0 (by kernel_rfl) rfl rfl ⟨(blk_cell BK577.out 0).trans rfl, (blk_cell BK577.out 1).trans rfl, (blk_cell BK577.out 2).trans rfl, (blk_cell BK582.out 0).trans rfl, (blk_cell BK582.out 1).trans rfl, (blk_cell BK582.out 2).trans rfl⟩ (fun hHeld => ?_); refine with_tabW laws_FnLog.tab6 laws_FnLog.bits6 (fun HT_ HW_ => ?_)
     generalize w28.drew = w29 at BK571 BK572 BK577 BK582 HB hHeld ⊢
     refine take_ (i := 0) (N := some 38) (v := ?_) (a' := ?_) laws_FnLog.mk1 rfl rfl (take_ofW HT_.out HW_.out (by kernel_rfl)) (fun _ _ _ h => h) (Or.inl ⟨by rfl, ?_⟩) hHeld ?_ ?_
     rotate_left
     ·
      rintro w' ⟨s0, s1, s2, s3, s4, s5⟩
      (try simp only [Go.IntWalk.toNatUp] at s0 s1 s2 s3 s4 s5)
      go_simp
      with_reducible rfl
     rotate_left
     ·
      simp only [Act.put, List.setIfInBounds_toArray, List.set_cons_zero, List.set_cons_succ, i64_w, i32_w]
      rfl
     refine take_ (i := 1) (N := some 39) (v := ?_) (a' := ?_) laws_FnLog.mk2 rfl rfl (take_ofW HT_.out HW_.out (by kernel_rfl)) (fun _ _ _ h => h) (Or.inl ⟨by rfl, ?_⟩) hHeld ?_ ?_
     rotate_left
     ·
      rintro w' ⟨s0, s1, s2, s3, s4, s5⟩
      (try simp only [Go.IntWalk.toNatUp] at s0 s1 s2 s3 s4 s5)
      go_simp
      with_reducible rfl
     rotate_left
     ·
      simp only [Act.put, List.setIfInBounds_toArray, List.set_cons_zero, List.set_cons_succ, i64_w, i32_w]
      rfl
     refine pz_ HT_ 2 (some 40) laws_FnLog.mk3 ?_
     refine pz_ HT_ 3 (some 41) laws_FnLog.mk4 ?_
     refine pure_ (i := 4) (N := some 42) (v := undef) (a' := ?_) laws_FnLog.mk5 rfl rfl (any_of HT_.out (by kernel_rfl)) (fun _ _ _ h => h) (Or.inr ⟨by rfl, rfl⟩) ?_ ?_
     rotate_left
     ·
      simp only [Act.put, List.setIfInBounds_toArray, List.set_cons_zero, List.set_cons_succ, i64_w, i32_w]
      rfl
     refine pure_ (i := 5) (N := some 43) (v := undef) (a' := ?_) laws_FnLog.mk6 rfl rfl (any_of HT_.out (by kernel_rfl)) (fun _ _ _ h => h) (Or.inr ⟨by rfl, rfl⟩) ?_ ?_
     rotate_left
     ·
      simp only [Act.put, List.setIfInBounds_toArray, List.set_cons_zero, List.set_cons_succ, i64_w, i32_w]
      rfl
     refine pure_ (i := 6) (N := some 44) (v := undef) (a' := ?_) laws_FnLog.mk7 rfl rfl (any_of HT_.out (by kernel_rfl)) (fun _ _ _ h => h) (Or.inr ⟨by rfl, rfl⟩) ?_ ?_
     rotate_left
     ·
      simp only [Act.put, List.setIfInBounds_toArray, List.set_cons_zero, List.set_cons_succ, i64_w, i32_w]
      rfl
     refine pz_ HT_ 7 (some 45) laws_FnLog.mk8 ?_
     refine pz_ HT_ 8 (some 46) laws_FnLog.mk9 ?_
     refine pure_ (i := 9) (N := some 47) (v := undef) (a' := ?_) laws_FnLog.mk10 rfl rfl (any_of HT_.out (by kernel_rfl)) (fun _ _ _ h => h) (Or.inr ⟨by rfl, rfl⟩) ?_ ?_
     rotate_left
     ·
      simp only [Act.put, List.setIfInBounds_toArray, List.set_cons_zero, List.set_cons_succ, i64_w, i32_w]
      rfl
     refine pure_ (i := 10) (N := some 48) (v := undef) (a' := ?_) laws_FnLog.mk11 rfl rfl (any_of HT_.out (by kernel_rfl)) (fun _ _ _ h => h) (Or.inr ⟨by rfl, rfl⟩) ?_ ?_
     rotate_left
     ·
      simp only [Act.put, List.setIfInBounds_toArray, List.set_cons_zero, List.set_cons_succ, i64_w, i32_w]
      rfl
     refine pure_ (i := 11) (N := some 49) (v := undef) (a' := ?_) laws_FnLog.mk12 rfl rfl (any_of HT_.out (by kernel_rfl)) (fun _ _ _ h => h) (Or.inr ⟨by rfl, rfl⟩) ?_ ?_
     rotate_left
     ·
      simp only [Act.put, List.setIfInBounds_toArray, List.set_cons_zero, List.set_cons_succ, i64_w, i32_w]
      rfl
     refine pure_ (i := 12) (N := some 50) (v := undef) (a' := ?_) laws_FnLog.mk13 rfl rfl (any_of HT_.out (by kernel_rfl)) (fun _ _ _ h => h) (Or.inr ⟨by rfl, rfl⟩) ?_ ?_
     rotate_left
     ·
      simp only [Act.put, List.setIfInBounds_toArray, List.set_cons_zero, List.set_cons_succ, i64_w, i32_w]
      rfl
     refine pure_ (i := 13) (N := some 51) (v := undef) (a' := ?_) laws_FnLog.mk14 rfl rfl (any_of HT_.out (by kernel_rfl)) (fun _ _ _ h => h) (Or.inr ⟨by rfl, rfl⟩) ?_ ?_
     rotate_left
     ·
      simp only [Act.put, List.setIfInBounds_toArray, List.set_cons_zero, List.set_cons_succ, i64_w, i32_w]
      rfl
     refine pz_ HT_ 14 (some 52) laws_FnLog.mk15 ?_
     refine pz_ HT_ 15 (some 53) laws_FnLog.mk16 ?_
     refine pure_ (i := 16) (N := some 54) (v := undef) (a' := ?_) laws_FnLog.mk17 rfl rfl (any_of HT_.out (by kernel_rfl)) (fun _ _ _ h => h) (Or.inr ⟨by rfl, rfl⟩) ?_ ?_
     rotate_left
     ·
      simp only [Act.put, List.setIfInBounds_toArray, List.set_cons_zero, List.set_cons_succ, i64_w, i32_w]
      rfl
     refine pure_ (i := 17) (N := some 55) (v := undef) (a' := ?_) laws_FnLog.mk18 rfl rfl (any_of HT_.out (by kernel_rfl)) (fun _ _ _ h => h) (Or.inr ⟨by rfl, rfl⟩) ?_ ?_
     rotate_left
     ·
      simp only [Act.put, List.setIfInBounds_toArray, List.set_cons_zero, List.set_cons_succ, i64_w, i32_w]
      rfl
     refine pure_ (i := 18) (N := some 56) (v := undef) (a' := ?_) laws_FnLog.mk19 rfl rfl (any_of HT_.out (by kernel_rfl)) (fun _ _ _ h => h) (Or.inr ⟨by rfl, rfl⟩) ?_ ?_
     rotate_left
     ·
      simp only [Act.put, List.setIfInBounds_toArray, List.set_cons_zero, List.set_cons_succ, i64_w, i32_w]
      rfl
     refine pure_ (i := 19) (N := some 57) (v := undef) (a' := ?_) laws_FnLog.mk20 rfl rfl (any_of HT_.out (by kernel_rfl)) (fun _ _ _ h => h) (Or.inr ⟨by rfl, rfl⟩) ?_ ?_
     rotate_left
     ·
      simp only [Act.put, List.setIfInBounds_toArray, List.set_cons_zero, List.set_cons_succ, i64_w, i32_w]
      rfl
     refine pure_ (i := 20) (N := some 58) (v := undef) (a' := ?_) laws_FnLog.mk21 rfl rfl (any_of HT_.out (by kernel_rfl)) (fun _ _ _ h => h) (Or.inr ⟨by rfl, rfl⟩) ?_ ?_
     rotate_left
     ·
      simp only [Act.put, List.setIfInBounds_toArray, List.set_cons_zero, List.set_cons_succ, i64_w, i32_w]
      rfl
     refine pz_ HT_ 21 (some 59) laws_FnLog.mk22 ?_
     refine done_ (done_of HT_.out (by kernel_rfl)) ?_
     try go_wp2
     go_meet
     case rel => exact ⟨_, (true), (by first | rfl | (simp; done) | (simp [*]; done)), H', ⟨by first | omega | exact Nat.le_refl _⟩, ⟨bk_ BK571.out⟩, ⟨bk_ BK572.out⟩, ⟨bk_ BK577.out⟩, ⟨bk_ BK582.out⟩, ⟨by repeat (first | (with_reducible first | exact HB.out | apply below_alloc | apply pw_below_drewN | apply below_drew1 | refine below_set ?_ GE571.out | refine below_set ?_ GE572.out | refine below_set ?_ GE577.out | refine below_set ?_ GE582.out) | exact HB.out)⟩⟩
    ·
     rw [if_neg c27] at H
     have c27b0 : (!(t573.toList == t578.toList) || (!(t574.toList == t579.toList) || (!(t575 == t580)))) = false := by simpa using c27
     clear c27
     (first | rw [c27b0] | (simp only [i64_w, i32_w]; rw [c27b0]) | skip)
     by_cases c30 : t576 = t581
     ·
      rw [if_pos c30] at H
      have c30b0 : (t576 == t581) = true := beq_iff_eq.mpr c30
      have c30b1 : (t576 != t581) = false := bne_eq_false_iff_eq.mpr c30
      clear c30
      replace H := Option.bind_eq_some_iff.mp H
      obtain ⟨t583, A310, H⟩ := H
      replace H : ((spec_IsValidLog.f k t566 t567 t568).bind fun t584 => (if (t583 != t584) = true then (laws_FnLog.j0 k t576 true t566 t567 t568 t569 t570 t573 t574 t575) else ((impl_IsValidRecord.f k t569 t570).bind fun t585 => ((spec_IsValidRecord.f k t569 t570).bind fun t586 => (laws_FnLog.j0 k t576 (t585 != t586) t566 t567 t568 t569 t570 t573 t574 t575))))) = some r := H
      have A31 := Aside0.mk A310
      clear A310
      replace H := Option.bind_eq_some_iff.mp H
      obtain ⟨t584, A320, H⟩ := H
      replace H : (if (t583 != t584) = true then (laws_FnLog.j0 k t576 true t566 t567 t568 t569 t570 t573 t574 t575) else ((impl_IsValidRecord.f k t569 t570).bind fun t585 => ((spec_IsValidRecord.f k t569 t570).bind fun t586 => (laws_FnLog.j0 k t576 (t585 != t586) t566 t567 t568 t569 t570 t573 t574 t575)))) = some r := H
      have A32 := Aside0.mk A320
      clear A320
      by_cases c33 : (t583 != t584) = true
      ·
       rw [if_pos c33] at H
       have c33b0 : (t583 != t584) = true := c33
       (try (have c33b1 : decide (t583 = t584) = false := by simpa using c33))
       (try (have c33b2 : (t583 == t584) = false := by simpa using c33))
       (try (have c33b3 : ¬ (t583 = t584) := by simpa using c33))
       clear c33
       have H' := Aside0.mk H
       clear H
       try go_wp2
       have n0_ : Aside0 ((((w22.setCell ⟨gb582, 0, none⟩ (.string t578)).setCell ⟨gb582, 1, none⟩ (.string t579)).setCell ⟨gb582, 2, none⟩ (.int .i64 t580)).heap[gb571]? = some (.cells #[.string t566, .string t567, .int .i64 t568] 31 (0, 0))) := ⟨by (with_reducible repeat (first | refine blk_drewN ?_ _ | refine blk_drew ?_ | refine blk_alloc ?_ _)); refine blk_far ?_ NB571_582.out _; (with_reducible repeat (first | refine blk_drewN ?_ _ | refine blk_drew ?_ | refine blk_alloc ?_ _)); refine blk_far ?_ NB571_582.out _; (with_reducible repeat (first | refine blk_drewN ?_ _ | refine blk_drew ?_ | refine blk_alloc ?_ _)); refine blk_far ?_ NB571_582.out _; (with_reducible repeat (first | refine blk_drewN ?_ _ | refine blk_drew ?_ | refine blk_alloc ?_ _)); exact BK571.out⟩
       have n1_ : Aside0 ((((w22.setCell ⟨gb582, 0, none⟩ (.string t578)).setCell ⟨gb582, 1, none⟩ (.string t579)).setCell ⟨gb582, 2, none⟩ (.int .i64 t580)).heap[gb572]? = some (.cells #[.string t569, .string t570] 27 (0, 0))) := ⟨by (with_reducible repeat (first | refine blk_drewN ?_ _ | refine blk_drew ?_ | refine blk_alloc ?_ _)); refine blk_far ?_ NB572_582.out _; (with_reducible repeat (first | refine blk_drewN ?_ _ | refine blk_drew ?_ | refine blk_alloc ?_ _)); refine blk_far ?_ NB572_582.out _; (with_reducible repeat (first | refine blk_drewN ?_ _ | refine blk_drew ?_ | refine blk_alloc ?_ _)); refine blk_far ?_ NB572_582.out _; (with_reducible repeat (first | refine blk_drewN ?_ _ | refine blk_drew ?_ | refine blk_alloc ?_ _)); exact BK572.out⟩
       have n2_ : Aside0 ((((w22.setCell ⟨gb582, 0, none⟩ (.string t578)).setCell ⟨gb582, 1, none⟩ (.string t579)).setCell ⟨gb582, 2, none⟩ (.int .i64 t580)).heap[gb577]? = some (.cells #[.string t573, .string t574, .int .i64 t575] 31 (0, 0))) := ⟨by (with_reducible repeat (first | refine blk_drewN ?_ _ | refine blk_drew ?_ | refine blk_alloc ?_ _)); refine blk_far ?_ NB577_582.out _; (with_reducible repeat (first | refine blk_drewN ?_ _ | refine blk_drew ?_ | refine blk_alloc ?_ _)); refine blk_far ?_ NB577_582.out _; (with_reducible repeat (first | refine blk_drewN ?_ _ | refine blk_drew ?_ | refine blk_alloc ?_ _)); refine blk_far ?_ NB577_582.out _; (with_reducible repeat (first | refine blk_drewN ?_ _ | refine blk_drew ?_ | refine blk_alloc ?_ _)); exact BK577.out⟩
       have n3_ : Aside0 ((((w22.setCell ⟨gb582, 0, none⟩ (.string t578)).setCell ⟨gb582, 1, none⟩ (.string t579)).setCell ⟨gb582, 2, none⟩ (.int .i64 t580)).heap[gb582]? = some (.cells #[.string t578, .string t579, .int .i64 t580] 31 (0, 0))) := ⟨by (with_reducible repeat (first | refine blk_drewN ?_ _ | refine blk_drew ?_ | refine blk_alloc ?_ _)); refine blk_put (cs := #[.string t578, .string t579, .int .i64 0]) ?_ 2 _ rfl; (with_reducible repeat (first | refine blk_drewN ?_ _ | refine blk_drew ?_ | refine blk_alloc ?_ _)); refine blk_put (cs := #[.string t578, .string (⟨#[]⟩ : ByteArray), .int .i64 0]) ?_ 1 _ rfl; (with_reducible repeat (first | refine blk_drewN ?_ _ | refine blk_drew ?_ | refine blk_alloc ?_ _)); refine blk_put (cs := #[.string (⟨#[]⟩ : ByteArray), .string (⟨#[]⟩ : ByteArray), .int .i64 0]) ?_ 0 _ rfl; (with_reducible repeat (first | refine blk_drewN ?_ _ | refine blk_drew ?_ | refine blk_alloc ?_ _)); exact BK582.out⟩
       have n4_ : Aside0 (Below w.heap.size w (((w22.setCell ⟨gb582, 0, none⟩ (.string t578)).setCell ⟨gb582, 1, none⟩ (.string t579)).setCell ⟨gb582, 2, none⟩ (.int .i64 t580))) := ⟨by repeat (first | (with_reducible first | exact HB.out | apply below_alloc | apply pw_below_drewN | apply below_drew1 | refine below_set ?_ GE571.out | refine below_set ?_ GE572.out | refine below_set ?_ GE577.out | refine below_set ?_ GE582.out) | exact HB.out)⟩
       (try clear BK571)
       (try clear BK572)
       (try clear BK577)
       (try clear BK582)
       (try clear HB)
       generalize (((w22.setCell ⟨gb582, 0, none⟩ (.string t578)).setCell ⟨gb582, 1, none⟩ (.string t579)).setCell ⟨gb582, 2, none⟩ (.int .i64 t580)) = w34 at n0_ n1_ n2_ n3_ n4_ ⊢
       have BK571 := n0_
       have BK572 := n1_
       have BK577 := n2_
       have BK582 := n3_
       have HB := n4_
       clear n0_ n1_ n2_ n3_ n4_
       replace BK571 := Aside0.mk (blk_drew BK571.out)
       replace BK572 := Aside0.mk (blk_drew BK572.out)
       replace BK577 := Aside0.mk (blk_drew BK577.out)
       replace BK582 := Aside0.mk (blk_drew BK582.out)
       replace HB := Aside0.mk (below_drew1 HB.out)
       refine start_ (n := 22) (S := fun w' => w'.cell? ⟨gb577, 0, none⟩ = some (.string t573) ∧ w'.cell? ⟨gb577, 1, none⟩ = some (.string t574) ∧ w'.cell? ⟨gb577, 2, none⟩ = some (.int .i64 t575) ∧ w'.cell? ⟨gb582, 0, none⟩ = some (.string t578) ∧ w'.cell? ⟨gb582, 1, none⟩ = some (.string t579) ∧ w'.cell? ⟨gb582, 2, none⟩ = some (.int .i64 t580) ∧ w'.cell? ⟨gb571, 0, none⟩ = some (.string t566) ∧ w'.cell? ⟨gb571, 1, none⟩ = some (.string t567) ∧ w'.cell? ⟨gb571, 2, none⟩ = some (.int .i64 t568)) (ds := []) laws_FnLog.mk0 (by kernel_rfl) rfl rfl ⟨(blk_cell BK577.out 0).trans rfl, (blk_cell BK577.out 1).trans rfl, (blk_cell BK577.out 2).trans rfl, (blk_cell BK582.out 0).trans rfl, (blk_cell BK582.out 1).trans rfl, (blk_cell BK582.out 2).trans rfl, (blk_cell BK571.out 0).trans rfl, (blk_cell BK571.out 1).trans rfl, (blk_cell BK571.out 2).trans rfl⟩ (fun hHeld => ?_); refine with_tabW laws_FnLog.tab6 laws_FnLog.bits6 (fun HT_ HW_ => ?_)
       generalize w34.drew = w35 at BK571 BK572 BK577 BK582 HB hHeld ⊢
       refine take_ (i := 0) (N := some 38) (v := ?_) (a' := ?_) laws_FnLog.mk1 rfl rfl (take_ofW HT_.out HW_.out (by kernel_rfl)) (fun _ _ _ h => h) (Or.inl ⟨by rfl, ?_⟩) hHeld ?_ ?_
       rotate_left
       ·
        rintro w' ⟨s0, s1, s2, s3, s4, s5, s6, s7, s8⟩; (try simp only [Go.IntWalk.toNatUp] at s0 s1 s2 s3 s4 s5 s6 s7 s8); go_simp; (with_reducible rfl)
       rotate_left
       ·
        simp only [Act.put, List.setIfInBounds_toArray, List.set_cons_zero, List.set_cons_succ, i64_w, i32_w]; rfl
       refine take_ (i := 1) (N := some 39) (v := ?_) (a' := ?_) laws_FnLog.mk2 rfl rfl (take_ofW HT_.out HW_.out (by kernel_rfl)) (fun _ _ _ h => h) (Or.inl ⟨by rfl, ?_⟩) hHeld ?_ ?_
       rotate_left
       ·
        rintro w' ⟨s0, s1, s2, s3, s4, s5, s6, s7, s8⟩; (try simp only [Go.IntWalk.toNatUp] at s0 s1 s2 s3 s4 s5 s6 s7 s8); go_simp; (with_reducible rfl)
       rotate_left
       ·
        simp only [Act.put, List.setIfInBounds_toArray, List.set_cons_zero, List.set_cons_succ, i64_w, i32_w]; rfl
       refine pz_ HT_ 2 (some 40) laws_FnLog.mk3 ?_
       refine pz_ HT_ 3 (some 41) laws_FnLog.mk4 ?_
       refine pz_ HT_ 4 (some 42) laws_FnLog.mk5 ?_
       refine pz_ HT_ 5 (some 43) laws_FnLog.mk6 ?_
       refine pz_ HT_ 6 (some 44) laws_FnLog.mk7 ?_
       refine pz_ HT_ 7 (some 45) laws_FnLog.mk8 ?_
       refine pz_ HT_ 8 (some 46) laws_FnLog.mk9 ?_
       refine take_ (i := 9) (N := some 47) (v := ?_) (a' := ?_) laws_FnLog.mk10 rfl rfl (take_ofW HT_.out HW_.out (by kernel_rfl)) (fun _ _ _ h => h) (Or.inl ⟨by rfl, ?_⟩) hHeld ?_ ?_
       rotate_left
       ·
        rintro w' ⟨s0, s1, s2, s3, s4, s5, s6, s7, s8⟩; (try simp only [Go.IntWalk.toNatUp] at s0 s1 s2 s3 s4 s5 s6 s7 s8); go_simp; (with_reducible rfl)
       rotate_left
       ·
        simp only [Act.put, List.setIfInBounds_toArray, List.set_cons_zero, List.set_cons_succ, i64_w, i32_w]; rfl
       refine take_ (i := 11) (N := some 49) (v := ?_) (a' := ?_) laws_FnLog.mk23 rfl rfl (take_ofW HT_.out HW_.out (by kernel_rfl)) (fun _ _ _ h => h) (Or.inl ⟨by rfl, ?_⟩) hHeld ?_ ?_
       rotate_left
       ·
        rintro w' ⟨s0, s1, s2, s3, s4, s5, s6, s7, s8⟩; (try simp only [Go.IntWalk.toNatUp] at s0 s1 s2 s3 s4 s5 s6 s7 s8); go_simp; (with_reducible rfl)
       rotate_left
       ·
        simp only [Act.put, List.setIfInBounds_toArray, List.set_cons_zero, List.set_cons_succ, i64_w, i32_w]; rfl
       refine one_ (i := 10) (N := some 48) laws_FnLog.mk12 rfl rfl (one_of HT_.out (by kernel_rfl)) (by decide) (fun K hK => ?_)
       refine gs_ Tryd.func23 #[.agg #[.string t566, .string t567, .int .i64 t568]] ?_
       with_reducible refine (impl_IsValidLog.calls k t566 t567 t568 t583 _ A31.out ?sideT).mono ?_
       case sideT => first | exact HT.out | exact Tb.step HT.out HB.out | exact Tb.step HT.out (by repeat (first | (with_reducible first | exact HB.out | apply below_alloc | apply pw_below_drewN | apply below_drew1 | refine below_set ?_ GE571.out | refine below_set ?_ GE572.out | refine below_set ?_ GE577.out | refine below_set ?_ GE582.out | refine below_set ?_ GE600.out | refine below_set ?_ GE605.out) | exact HB.out | exact Below.refl _ _))
       rintro e w36 ⟨rfl, hb⟩
       refine ⟨_, rfl, ?_⟩
       replace BK571 := Aside0.mk (bb_ (bk_ BK571.out) hb)
       replace BK572 := Aside0.mk (bb_ (bk_ BK572.out) hb)
       replace BK577 := Aside0.mk (bb_ (bk_ BK577.out) hb)
       replace BK582 := Aside0.mk (bb_ (bk_ BK582.out) hb)
       replace HB := Aside0.mk (below_step (by repeat (first | (with_reducible first | exact HB.out | apply below_alloc | apply pw_below_drewN | apply below_drew1 | refine below_set ?_ GE571.out | refine below_set ?_ GE572.out | refine below_set ?_ GE577.out | refine below_set ?_ GE582.out) | exact HB.out)) hb)
       (try clear hb)
       (try clear hb2)
       (try clear hk)
       (try clear hi)
       refine hK.out _ _ ⟨(blk_cell BK577.out 0).trans rfl, (blk_cell BK577.out 1).trans rfl, (blk_cell BK577.out 2).trans rfl, (blk_cell BK582.out 0).trans rfl, (blk_cell BK582.out 1).trans rfl, (blk_cell BK582.out 2).trans rfl, (blk_cell BK571.out 0).trans rfl, (blk_cell BK571.out 1).trans rfl, (blk_cell BK571.out 2).trans rfl⟩ (fun hHeld => ?_)
       clear hK K
       refine na_ ?_
       refine one_ (i := 12) (N := some 50) laws_FnLog.mk13 rfl rfl (one_of HT_.out (by kernel_rfl)) (by decide) (fun K hK => ?_)
       refine gs_ Tryd.func21 #[.agg #[.string t566, .string t567, .int .i64 t568]] ?_
       with_reducible refine (spec_IsValidLog.calls k t566 t567 t568 t584 _ A32.out).mono ?_
       rintro e w37 ⟨rfl, hb⟩
       refine ⟨_, rfl, ?_⟩
       replace BK571 := Aside0.mk (bb_ (bk_ BK571.out) hb)
       replace BK572 := Aside0.mk (bb_ (bk_ BK572.out) hb)
       replace BK577 := Aside0.mk (bb_ (bk_ BK577.out) hb)
       replace BK582 := Aside0.mk (bb_ (bk_ BK582.out) hb)
       replace HB := Aside0.mk (below_step (by repeat (first | (with_reducible first | exact HB.out | apply below_alloc | apply pw_below_drewN | apply below_drew1 | refine below_set ?_ GE571.out | refine below_set ?_ GE572.out | refine below_set ?_ GE577.out | refine below_set ?_ GE582.out) | exact HB.out)) hb)
       (try clear hb)
       (try clear hb2)
       (try clear hk)
       (try clear hi)
       refine hK.out _ _ ⟨(blk_cell BK577.out 0).trans rfl, (blk_cell BK577.out 1).trans rfl, (blk_cell BK577.out 2).trans rfl, (blk_cell BK582.out 0).trans rfl, (blk_cell BK582.out 1).trans rfl, (blk_cell BK582.out 2).trans rfl, (blk_cell BK571.out 0).trans rfl, (blk_cell BK571.out 1).trans rfl, (blk_cell BK571.out 2).trans rfl⟩ (fun hHeld => ?_)
       clear hK K
       refine na_ ?_
       refine pz_ HT_ 13 (some 51) laws_FnLog.mk14 ?_
       refine pz_ HT_ 14 (some 52) laws_FnLog.mk15 ?_
       refine pz_ HT_ 15 (some 53) laws_FnLog.mk16 ?_
       refine pure_ (i := 16) (N := some 54) (v := undef) (a' := ?_) laws_FnLog.mk17 rfl rfl (any_of HT_.out (by kernel_rfl)) (fun _ _ _ h => h) (Or.inr ⟨by rfl, rfl⟩) ?_ ?_
       rotate_left
       ·
        simp only [Act.put, List.setIfInBounds_toArray, List.set_cons_zero, List.set_cons_succ, i64_w, i32_w]; rfl
       refine pure_ (i := 17) (N := some 55) (v := undef) (a' := ?_) laws_FnLog.mk18 rfl rfl (any_of HT_.out (by kernel_rfl)) (fun _ _ _ h => h) (Or.inr ⟨by rfl, rfl⟩) ?_ ?_
       rotate_left
       ·
        simp only [Act.put, List.setIfInBounds_toArray, List.set_cons_zero, List.set_cons_succ, i64_w, i32_w]; rfl
       refine pure_ (i := 18) (N := some 56) (v := undef) (a' := ?_) laws_FnLog.mk19 rfl rfl (any_of HT_.out (by kernel_rfl)) (fun _ _ _ h => h) (Or.inr ⟨by rfl, rfl⟩) ?_ ?_
       rotate_left
       ·
        simp only [Act.put, List.setIfInBounds_toArray, List.set_cons_zero, List.set_cons_succ, i64_w, i32_w]; rfl
       refine pure_ (i := 19) (N := some 57) (v := undef) (a' := ?_) laws_FnLog.mk20 rfl rfl (any_of HT_.out (by kernel_rfl)) (fun _ _ _ h => h) (Or.inr ⟨by rfl, rfl⟩) ?_ ?_
       rotate_left
       ·
        simp only [Act.put, List.setIfInBounds_toArray, List.set_cons_zero, List.set_cons_succ, i64_w, i32_w]; rfl
       refine pure_ (i := 20) (N := some 58) (v := undef) (a' := ?_) laws_FnLog.mk21 rfl rfl (any_of HT_.out (by kernel_rfl)) (fun _ _ _ h => h) (Or.inr ⟨by rfl, rfl⟩) ?_ ?_
       rotate_left
       ·
        simp only [Act.put, List.setIfInBounds_toArray, List.set_cons_zero, List.set_cons_succ, i64_w, i32_w]; rfl
       refine pz_ HT_ 21 (some 59) laws_FnLog.mk22 ?_
       refine done_ (done_of HT_.out (by kernel_rfl)) ?_
       try go_wp2
       go_meet
       case rel => exact ⟨_, (true), (by first | rfl | (simp; done) | (simp [*]; done)), H', ⟨by first | omega | exact Nat.le_refl _⟩, ⟨bk_ BK571.out⟩, ⟨bk_ BK572.out⟩, ⟨bk_ BK577.out⟩, ⟨bk_ BK582.out⟩, ⟨by repeat (first | (with_reducible first | exact HB.out | apply below_alloc | apply pw_below_drewN | apply below_drew1 | refine below_set ?_ GE571.out | refine below_set ?_ GE572.out | refine below_set ?_ GE577.out | refine below_set ?_ GE582.out) | exact HB.out)⟩⟩
      ·
       rw [if_neg c33] at H
       have c33b0 : (t583 != t584) = false := by simpa using c33
       (try (have c33b1 : decide (t583 = t584) = true := by simpa using c33))
       (try (have c33b2 : (t583 == t584) = true := by simpa using c33))
       clear c33
       replace H := Option.bind_eq_some_iff.mp H
       obtain ⟨t585, A380, H⟩ := H
       replace H : ((spec_IsValidRecord.f k t569 t570).bind fun t586 => (laws_FnLog.j0 k t576 (t585 != t586) t566 t567 t568 t569 t570 t573 t574 t575)) = some r := H
       have A38 := Aside0.mk A380
       clear A380
       replace H := Option.bind_eq_some_iff.mp H
       obtain ⟨t586, A390, H⟩ := H
       replace H : (laws_FnLog.j0 k t576 (t585 != t586) t566 t567 t568 t569 t570 t573 t574 t575) = some r := H
       have A39 := Aside0.mk A390
       clear A390
       have H' := Aside0.mk H
       clear H
       try go_wp2
       have n0_ : Aside0 ((((w22.setCell ⟨gb582, 0, none⟩ (.string t578)).setCell ⟨gb582, 1, none⟩ (.string t579)).setCell ⟨gb582, 2, none⟩ (.int .i64 t580)).heap[gb571]? = some (.cells #[.string t566, .string t567, .int .i64 t568] 31 (0, 0))) := ⟨by (with_reducible repeat (first | refine blk_drewN ?_ _ | refine blk_drew ?_ | refine blk_alloc ?_ _)); refine blk_far ?_ NB571_582.out _; (with_reducible repeat (first | refine blk_drewN ?_ _ | refine blk_drew ?_ | refine blk_alloc ?_ _)); refine blk_far ?_ NB571_582.out _; (with_reducible repeat (first | refine blk_drewN ?_ _ | refine blk_drew ?_ | refine blk_alloc ?_ _)); refine blk_far ?_ NB571_582.out _; (with_reducible repeat (first | refine blk_drewN ?_ _ | refine blk_drew ?_ | refine blk_alloc ?_ _)); exact BK571.out⟩
       have n1_ : Aside0 ((((w22.setCell ⟨gb582, 0, none⟩ (.string t578)).setCell ⟨gb582, 1, none⟩ (.string t579)).setCell ⟨gb582, 2, none⟩ (.int .i64 t580)).heap[gb572]? = some (.cells #[.string t569, .string t570] 27 (0, 0))) := ⟨by (with_reducible repeat (first | refine blk_drewN ?_ _ | refine blk_drew ?_ | refine blk_alloc ?_ _)); refine blk_far ?_ NB572_582.out _; (with_reducible repeat (first | refine blk_drewN ?_ _ | refine blk_drew ?_ | refine blk_alloc ?_ _)); refine blk_far ?_ NB572_582.out _; (with_reducible repeat (first | refine blk_drewN ?_ _ | refine blk_drew ?_ | refine blk_alloc ?_ _)); refine blk_far ?_ NB572_582.out _; (with_reducible repeat (first | refine blk_drewN ?_ _ | refine blk_drew ?_ | refine blk_alloc ?_ _)); exact BK572.out⟩
       have n2_ : Aside0 ((((w22.setCell ⟨gb582, 0, none⟩ (.string t578)).setCell ⟨gb582, 1, none⟩ (.string t579)).setCell ⟨gb582, 2, none⟩ (.int .i64 t580)).heap[gb577]? = some (.cells #[.string t573, .string t574, .int .i64 t575] 31 (0, 0))) := ⟨by (with_reducible repeat (first | refine blk_drewN ?_ _ | refine blk_drew ?_ | refine blk_alloc ?_ _)); refine blk_far ?_ NB577_582.out _; (with_reducible repeat (first | refine blk_drewN ?_ _ | refine blk_drew ?_ | refine blk_alloc ?_ _)); refine blk_far ?_ NB577_582.out _; (with_reducible repeat (first | refine blk_drewN ?_ _ | refine blk_drew ?_ | refine blk_alloc ?_ _)); refine blk_far ?_ NB577_582.out _; (with_reducible repeat (first | refine blk_drewN ?_ _ | refine blk_drew ?_ | refine blk_alloc ?_ _)); exact BK577.out⟩
       have n3_ : Aside0 ((((w22.setCell ⟨gb582, 0, none⟩ (.string t578)).setCell ⟨gb582, 1, none⟩ (.string t579)).setCell ⟨gb582, 2, none⟩ (.int .i64 t580)).heap[gb582]? = some (.cells #[.string t578, .string t579, .int .i64 t580] 31 (0, 0))) := ⟨by (with_reducible repeat (first | refine blk_drewN ?_ _ | refine blk_drew ?_ | refine blk_alloc ?_ _)); refine blk_put (cs := #[.string t578, .string t579, .int .i64 0]) ?_ 2 _ rfl; (with_reducible repeat (first | refine blk_drewN ?_ _ | refine blk_drew ?_ | refine blk_alloc ?_ _)); refine blk_put (cs := #[.string t578, .string (⟨#[]⟩ : ByteArray), .int .i64 0]) ?_ 1 _ rfl; (with_reducible repeat (first | refine blk_drewN ?_ _ | refine blk_drew ?_ | refine blk_alloc ?_ _)); refine blk_put (cs := #[.string (⟨#[]⟩ : ByteArray), .string (⟨#[]⟩ : ByteArray), .int .i64 0]) ?_ 0 _ rfl; (with_reducible repeat (first | refine blk_drewN ?_ _ | refine blk_drew ?_ | refine blk_alloc ?_ _)); exact BK582.out⟩
       have n4_ : Aside0 (Below w.heap.size w (((w22.setCell ⟨gb582, 0, none⟩ (.string t578)).setCell ⟨gb582, 1, none⟩ (.string t579)).setCell ⟨gb582, 2, none⟩ (.int .i64 t580))) := ⟨by repeat (first | (with_reducible first | exact HB.out | apply below_alloc | apply pw_below_drewN | apply below_drew1 | refine below_set ?_ GE571.out | refine below_set ?_ GE572.out | refine below_set ?_ GE577.out | refine below_set ?_ GE582.out) | exact HB.out)⟩
       (try clear BK571)
       (try clear BK572)
       (try clear BK577)
       (try clear BK582)
       (try clear HB)
       generalize (((w22.setCell ⟨gb582, 0, none⟩ (.string t578)).setCell ⟨gb582, 1, none⟩ (.string t579)).setCell ⟨gb582, 2, none⟩ (.int .i64 t580)) = w40 at n0_ n1_ n2_ n3_ n4_ ⊢
       have BK571 := n0_
       have BK572 := n1_
       have BK577 := n2_
       have BK582 := n3_
       have HB := n4_
       clear n0_ n1_ n2_ n3_ n4_
       replace BK571 := Aside0.mk (blk_drew BK571.out)
       replace BK572 := Aside0.mk (blk_drew BK572.out)
       replace BK577 := Aside0.mk (blk_drew BK577.out)
       replace BK582 := Aside0.mk (blk_drew BK582.out)
       replace HB := Aside0.mk (below_drew1 HB.out)
       refine start_ (n := 22) (S := fun w' => w'.cell? ⟨gb577, 0, none⟩ = some (.string t573) ∧ w'.cell? ⟨gb577, 1, none⟩ = some (.string t574) ∧ w'.cell? ⟨gb577, 2, none⟩ = some (.int .i64 t575) ∧ w'.cell? ⟨gb582, 0, none⟩ = some (.string t578) ∧ w'.cell? ⟨gb582, 1, none⟩ = some (.string t579) ∧ w'.cell? ⟨gb582, 2, none⟩ = some (.int .i64 t580) ∧ w'.cell? ⟨gb571, 0, none⟩ = some (.string t566) ∧ w'.cell? ⟨gb571, 1, none⟩ = some (.string t567) ∧ w'.cell? ⟨gb571, 2, none⟩ = some (.int .i64 t568) ∧ w'.cell? ⟨gb572, 0, none⟩ = some (.string t569) ∧ w'.cell? ⟨gb572, 1, none⟩ = some (.string t570)) (ds := []) laws_FnLog.mk0 (by kernel_rfl) rfl rfl ⟨(blk_cell BK577.out 0).trans rfl, (blk_cell BK577.out 1).trans rfl, (blk_cell BK577.out 2).trans rfl, (blk_cell BK582.out 0).trans rfl, (blk_cell BK582.out 1).trans rfl, (blk_cell BK582.out 2).trans rfl, (blk_cell BK571.out 0).trans rfl, (blk_cell BK571.out 1).trans rfl, (blk_cell BK571.out 2).trans rfl, (blk_cell BK572.out 0).trans rfl, (blk_cell BK572.out 1).trans rfl⟩ (fun hHeld => ?_); refine with_tabW laws_FnLog.tab6 laws_FnLog.bits6 (fun HT_ HW_ => ?_)
       generalize w40.drew = w41 at BK571 BK572 BK577 BK582 HB hHeld ⊢
       refine take_ (i := 0) (N := some 38) (v := ?_) (a' := ?_) laws_FnLog.mk1 rfl rfl (take_ofW HT_.out HW_.out (by kernel_rfl)) (fun _ _ _ h => h) (Or.inl ⟨by rfl, ?_⟩) hHeld ?_ ?_
       rotate_left
       ·
        rintro w' ⟨s0, s1, s2, s3, s4, s5, s6, s7, s8, s9, s10⟩; (try simp only [Go.IntWalk.toNatUp] at s0 s1 s2 s3 s4 s5 s6 s7 s8 s9 s10); go_simp; (with_reducible rfl)
       rotate_left
       ·
        simp only [Act.put, List.setIfInBounds_toArray, List.set_cons_zero, List.set_cons_succ, i64_w, i32_w]; rfl
       refine take_ (i := 1) (N := some 39) (v := ?_) (a' := ?_) laws_FnLog.mk2 rfl rfl (take_ofW HT_.out HW_.out (by kernel_rfl)) (fun _ _ _ h => h) (Or.inl ⟨by rfl, ?_⟩) hHeld ?_ ?_
       rotate_left
       ·
        rintro w' ⟨s0, s1, s2, s3, s4, s5, s6, s7, s8, s9, s10⟩; (try simp only [Go.IntWalk.toNatUp] at s0 s1 s2 s3 s4 s5 s6 s7 s8 s9 s10); go_simp; (with_reducible rfl)
       rotate_left
       ·
        simp only [Act.put, List.setIfInBounds_toArray, List.set_cons_zero, List.set_cons_succ, i64_w, i32_w]; rfl
       refine pz_ HT_ 2 (some 40) laws_FnLog.mk3 ?_
       refine pz_ HT_ 3 (some 41) laws_FnLog.mk4 ?_
       refine pz_ HT_ 4 (some 42) laws_FnLog.mk5 ?_
       refine pz_ HT_ 5 (some 43) laws_FnLog.mk6 ?_
       refine pz_ HT_ 6 (some 44) laws_FnLog.mk7 ?_
       refine pz_ HT_ 7 (some 45) laws_FnLog.mk8 ?_
       refine pz_ HT_ 8 (some 46) laws_FnLog.mk9 ?_
       refine take_ (i := 9) (N := some 47) (v := ?_) (a' := ?_) laws_FnLog.mk10 rfl rfl (take_ofW HT_.out HW_.out (by kernel_rfl)) (fun _ _ _ h => h) (Or.inl ⟨by rfl, ?_⟩) hHeld ?_ ?_
       rotate_left
       ·
        rintro w' ⟨s0, s1, s2, s3, s4, s5, s6, s7, s8, s9, s10⟩; (try simp only [Go.IntWalk.toNatUp] at s0 s1 s2 s3 s4 s5 s6 s7 s8 s9 s10); go_simp; (with_reducible rfl)
       rotate_left
       ·
        simp only [Act.put, List.setIfInBounds_toArray, List.set_cons_zero, List.set_cons_succ, i64_w, i32_w]; rfl
       refine take_ (i := 11) (N := some 49) (v := ?_) (a' := ?_) laws_FnLog.mk23 rfl rfl (take_ofW HT_.out HW_.out (by kernel_rfl)) (fun _ _ _ h => h) (Or.inl ⟨by rfl, ?_⟩) hHeld ?_ ?_
       rotate_left
       ·
        rintro w' ⟨s0, s1, s2, s3, s4, s5, s6, s7, s8, s9, s10⟩; (try simp only [Go.IntWalk.toNatUp] at s0 s1 s2 s3 s4 s5 s6 s7 s8 s9 s10); go_simp; (with_reducible rfl)
       rotate_left
       ·
        simp only [Act.put, List.setIfInBounds_toArray, List.set_cons_zero, List.set_cons_succ, i64_w, i32_w]; rfl
       refine one_ (i := 10) (N := some 48) laws_FnLog.mk12 rfl rfl (one_of HT_.out (by kernel_rfl)) (by decide) (fun K hK => ?_)
       refine gs_ Tryd.func23 #[.agg #[.string t566, .string t567, .int .i64 t568]] ?_
       with_reducible refine (impl_IsValidLog.calls k t566 t567 t568 t583 _ A31.out ?sideT).mono ?_
       case sideT => first | exact HT.out | exact Tb.step HT.out HB.out | exact Tb.step HT.out (by repeat (first | (with_reducible first | exact HB.out | apply below_alloc | apply pw_below_drewN | apply below_drew1 | refine below_set ?_ GE571.out | refine below_set ?_ GE572.out | refine below_set ?_ GE577.out | refine below_set ?_ GE582.out | refine below_set ?_ GE600.out | refine below_set ?_ GE605.out) | exact HB.out | exact Below.refl _ _))
       rintro e w42 ⟨rfl, hb⟩
       refine ⟨_, rfl, ?_⟩
       replace BK571 := Aside0.mk (bb_ (bk_ BK571.out) hb)
       replace BK572 := Aside0.mk (bb_ (bk_ BK572.out) hb)
       replace BK577 := Aside0.mk (bb_ (bk_ BK577.out) hb)
       replace BK582 := Aside0.mk (bb_ (bk_ BK582.out) hb)
       replace HB := Aside0.mk (below_step (by repeat (first | (with_reducible first | exact HB.out | apply below_alloc | apply pw_below_drewN | apply below_drew1 | refine below_set ?_ GE571.out | refine below_set ?_ GE572.out | refine below_set ?_ GE577.out | refine below_set ?_ GE582.out) | exact HB.out)) hb)
       (try clear hb)
       (try clear hb2)
       (try clear hk)
       (try clear hi)
       refine hK.out _ _ ⟨(blk_cell BK577.out 0).trans rfl, (blk_cell BK577.out 1).trans rfl, (blk_cell BK577.out 2).trans rfl, (blk_cell BK582.out 0).trans rfl, (blk_cell BK582.out 1).trans rfl, (blk_cell BK582.out 2).trans rfl, (blk_cell BK571.out 0).trans rfl, (blk_cell BK571.out 1).trans rfl, (blk_cell BK571.out 2).trans rfl, (blk_cell BK572.out 0).trans rfl, (blk_cell BK572.out 1).trans rfl⟩ (fun hHeld => ?_)
       clear hK K
       refine na_ ?_
       refine one_ (i := 12) (N := some 50) laws_FnLog.mk13 rfl rfl (one_of HT_.out (by kernel_rfl)) (by decide) (fun K hK => ?_)
       refine gs_ Tryd.func21 #[.agg #[.string t566, .string t567, .int .i64 t568]] ?_
       with_reducible refine (spec_IsValidLog.calls k t566 t567 t568 t584 _ A32.out).mono ?_
       rintro e w43 ⟨rfl, hb⟩
       refine ⟨_, rfl, ?_⟩
       replace BK571 := Aside0.mk (bb_ (bk_ BK571.out) hb)
       replace BK572 := Aside0.mk (bb_ (bk_ BK572.out) hb)
       replace BK577 := Aside0.mk (bb_ (bk_ BK577.out) hb)
       replace BK582 := Aside0.mk (bb_ (bk_ BK582.out) hb)
       replace HB := Aside0.mk (below_step (by repeat (first | (with_reducible first | exact HB.out | apply below_alloc | apply pw_below_drewN | apply below_drew1 | refine below_set ?_ GE571.out | refine below_set ?_ GE572.out | refine below_set ?_ GE577.out | refine below_set ?_ GE582.out) | exact HB.out)) hb)
       (try clear hb)
       (try clear hb2)
       (try clear hk)
       (try clear hi)
       refine hK.out _ _ ⟨(blk_cell BK577.out 0).trans rfl, (blk_cell BK577.out 1).trans rfl, (blk_cell BK577.out 2).trans rfl, (blk_cell BK582.out 0).trans rfl, (blk_cell BK582.out 1).trans rfl, (blk_cell BK582.out 2).trans rfl, (blk_cell BK571.out 0).trans rfl, (blk_cell BK571.out 1).trans rfl, (blk_cell BK571.out 2).trans rfl, (blk_cell BK572.out 0).trans rfl, (blk_cell BK572.out 1).trans rfl⟩ (fun hHeld => ?_)
       clear hK K
       refine na_ ?_
       refine pz_ HT_ 13 (some 51) laws_FnLog.mk14 ?_
       refine pz_ HT_ 14 (some 52) laws_FnLog.mk15 ?_
       refine pz_ HT_ 15 (some 53) laws_FnLog.mk16 ?_
       refine take_ (i := 16) (N := some 54) (v := ?_) (a' := ?_) laws_FnLog.mk17 rfl rfl (take_ofW HT_.out HW_.out (by kernel_rfl)) (fun _ _ _ h => h) (Or.inl ⟨by rfl, ?_⟩) hHeld ?_ ?_
       rotate_left
       ·
        rintro w' ⟨s0, s1, s2, s3, s4, s5, s6, s7, s8, s9, s10⟩; (try simp only [Go.IntWalk.toNatUp] at s0 s1 s2 s3 s4 s5 s6 s7 s8 s9 s10); go_simp; (with_reducible rfl)
       rotate_left
       ·
        simp only [Act.put, List.setIfInBounds_toArray, List.set_cons_zero, List.set_cons_succ, i64_w, i32_w]; rfl
       refine take_ (i := 18) (N := some 56) (v := ?_) (a' := ?_) laws_FnLog.mk24 rfl rfl (take_ofW HT_.out HW_.out (by kernel_rfl)) (fun _ _ _ h => h) (Or.inl ⟨by rfl, ?_⟩) hHeld ?_ ?_
       rotate_left
       ·
        rintro w' ⟨s0, s1, s2, s3, s4, s5, s6, s7, s8, s9, s10⟩; (try simp only [Go.IntWalk.toNatUp] at s0 s1 s2 s3 s4 s5 s6 s7 s8 s9 s10); go_simp; (with_reducible rfl)
       rotate_left
       ·
        simp only [Act.put, List.setIfInBounds_toArray, List.set_cons_zero, List.set_cons_succ, i64_w, i32_w]; rfl
       refine one_ (i := 17) (N := some 55) laws_FnLog.mk19 rfl rfl (one_of HT_.out (by kernel_rfl)) (by decide) (fun K hK => ?_)
       refine gs_ Tryd.func37 #[.agg #[.string t569, .string t570]] ?_
       with_reducible refine (impl_IsValidRecord.calls k t569 t570 t585 _ A38.out).mono ?_
       rintro e w44 ⟨rfl, hb⟩
       refine ⟨_, rfl, ?_⟩
       replace BK571 := Aside0.mk (bb_ (bk_ BK571.out) hb)
       replace BK572 := Aside0.mk (bb_ (bk_ BK572.out) hb)
       replace BK577 := Aside0.mk (bb_ (bk_ BK577.out) hb)
       replace BK582 := Aside0.mk (bb_ (bk_ BK582.out) hb)
       replace HB := Aside0.mk (below_step (by repeat (first | (with_reducible first | exact HB.out | apply below_alloc | apply pw_below_drewN | apply below_drew1 | refine below_set ?_ GE571.out | refine below_set ?_ GE572.out | refine below_set ?_ GE577.out | refine below_set ?_ GE582.out) | exact HB.out)) hb)
       (try clear hb)
       (try clear hb2)
       (try clear hk)
       (try clear hi)
       refine hK.out _ _ ⟨(blk_cell BK577.out 0).trans rfl, (blk_cell BK577.out 1).trans rfl, (blk_cell BK577.out 2).trans rfl, (blk_cell BK582.out 0).trans rfl, (blk_cell BK582.out 1).trans rfl, (blk_cell BK582.out 2).trans rfl, (blk_cell BK571.out 0).trans rfl, (blk_cell BK571.out 1).trans rfl, (blk_cell BK571.out 2).trans rfl, (blk_cell BK572.out 0).trans rfl, (blk_cell BK572.out 1).trans rfl⟩ (fun hHeld => ?_)
       clear hK K
       refine na_ ?_
       refine one_ (i := 19) (N := some 57) laws_FnLog.mk20 rfl rfl (one_of HT_.out (by kernel_rfl)) (by decide) (fun K hK => ?_)
       refine gs_ Tryd.func38 #[.agg #[.string t569, .string t570]] ?_
       with_reducible refine (spec_IsValidRecord.calls k t569 t570 t586 _ A39.out).mono ?_
       rintro e w45 ⟨rfl, hb⟩
       refine ⟨_, rfl, ?_⟩
       replace BK571 := Aside0.mk (bb_ (bk_ BK571.out) hb)
       replace BK572 := Aside0.mk (bb_ (bk_ BK572.out) hb)
       replace BK577 := Aside0.mk (bb_ (bk_ BK577.out) hb)
       replace BK582 := Aside0.mk (bb_ (bk_ BK582.out) hb)
       replace HB := Aside0.mk (below_step (by repeat (first | (with_reducible first | exact HB.out | apply below_alloc | apply pw_below_drewN | apply below_drew1 | refine below_set ?_ GE571.out | refine below_set ?_ GE572.out | refine below_set ?_ GE577.out | refine below_set ?_ GE582.out) | exact HB.out)) hb)
       (try clear hb)
       (try clear hb2)
       (try clear hk)
       (try clear hi)
       refine hK.out _ _ ⟨(blk_cell BK577.out 0).trans rfl, (blk_cell BK577.out 1).trans rfl, (blk_cell BK577.out 2).trans rfl, (blk_cell BK582.out 0).trans rfl, (blk_cell BK582.out 1).trans rfl, (blk_cell BK582.out 2).trans rfl, (blk_cell BK571.out 0).trans rfl, (blk_cell BK571.out 1).trans rfl, (blk_cell BK571.out 2).trans rfl, (blk_cell BK572.out 0).trans rfl, (blk_cell BK572.out 1).trans rfl⟩ (fun hHeld => ?_)
       clear hK K
       refine na_ ?_
       refine pz_ HT_ 20 (some 58) laws_FnLog.mk21 ?_
       refine pz_ HT_ 21 (some 59) laws_FnLog.mk22 ?_
       refine done_ (done_of HT_.out (by kernel_rfl)) ?_
       try go_wp2
       go_meet
       case rel => exact ⟨_, ((t585 != t586)), (by first | rfl | (simp; done) | (simp [*]; done)), H', ⟨by first | omega | exact Nat.le_refl _⟩, ⟨bk_ BK571.out⟩, ⟨bk_ BK572.out⟩, ⟨bk_ BK577.out⟩, ⟨bk_ BK582.out⟩, ⟨by repeat (first | (with_reducible first | exact HB.out | apply below_alloc | apply pw_below_drewN | apply below_drew1 | refine below_set ?_ GE571.out | refine below_set ?_ GE572.out | refine below_set ?_ GE577.out | refine below_set ?_ GE582.out) | exact HB.out)⟩⟩
     ·
      rw [if_neg c30] at H
      have c30b0 : (t576 == t581) = false := beq_eq_false_iff_ne.mpr c30
      have c30b1 : (t576 != t581) = true := bne_iff_ne.mpr c30
      have H' := Aside0.mk H
      clear H
      try go_wp2
      have n0_ : Aside0 ((((w22.setCell ⟨gb582, 0, none⟩ (.string t578)).setCell ⟨gb582, 1, none⟩ (.string t579)).setCell ⟨gb582, 2, none⟩ (.int .i64 t580)).heap[gb571]? = some (.cells #[.string t566, .string t567, .int .i64 t568] 31 (0, 0))) := ⟨by (with_reducible repeat (first | refine blk_drewN ?_ _ | refine blk_drew ?_ | refine blk_alloc ?_ _)); refine blk_far ?_ NB571_582.out _; (with_reducible repeat (first | refine blk_drewN ?_ _ | refine blk_drew ?_ | refine blk_alloc ?_ _)); refine blk_far ?_ NB571_582.out _; (with_reducible repeat (first | refine blk_drewN ?_ _ | refine blk_drew ?_ | refine blk_alloc ?_ _)); refine blk_far ?_ NB571_582.out _; (with_reducible repeat (first | refine blk_drewN ?_ _ | refine blk_drew ?_ | refine blk_alloc ?_ _)); exact BK571.out⟩
      have n1_ : Aside0 ((((w22.setCell ⟨gb582, 0, none⟩ (.string t578)).setCell ⟨gb582, 1, none⟩ (.string t579)).setCell ⟨gb582, 2, none⟩ (.int .i64 t580)).heap[gb572]? = some (.cells #[.string t569, .string t570] 27 (0, 0))) := ⟨by (with_reducible repeat (first | refine blk_drewN ?_ _ | refine blk_drew ?_ | refine blk_alloc ?_ _)); refine blk_far ?_ NB572_582.out _; (with_reducible repeat (first | refine blk_drewN ?_ _ | refine blk_drew ?_ | refine blk_alloc ?_ _)); refine blk_far ?_ NB572_582.out _; (with_reducible repeat (first | refine blk_drewN ?_ _ | refine blk_drew ?_ | refine blk_alloc ?_ _)); refine blk_far ?_ NB572_582.out _; (with_reducible repeat (first | refine blk_drewN ?_ _ | refine blk_drew ?_ | refine blk_alloc ?_ _)); exact BK572.out⟩
      have n2_ : Aside0 ((((w22.setCell ⟨gb582, 0, none⟩ (.string t578)).setCell ⟨gb582, 1, none⟩ (.string t579)).setCell ⟨gb582, 2, none⟩ (.int .i64 t580)).heap[gb577]? = some (.cells #[.string t573, .string t574, .int .i64 t575] 31 (0, 0))) := ⟨by (with_reducible repeat (first | refine blk_drewN ?_ _ | refine blk_drew ?_ | refine blk_alloc ?_ _)); refine blk_far ?_ NB577_582.out _; (with_reducible repeat (first | refine blk_drewN ?_ _ | refine blk_drew ?_ | refine blk_alloc ?_ _)); refine blk_far ?_ NB577_582.out _; (with_reducible repeat (first | refine blk_drewN ?_ _ | refine blk_drew ?_ | refine blk_alloc ?_ _)); refine blk_far ?_ NB577_582.out _; (with_reducible repeat (first | refine blk_drewN ?_ _ | refine blk_drew ?_ | refine blk_alloc ?_ _)); exact BK577.out⟩
      have n3_ : Aside0 ((((w22.setCell ⟨gb582, 0, none⟩ (.string t578)).setCell ⟨gb582, 1, none⟩ (.string t579)).setCell ⟨gb582, 2, none⟩ (.int .i64 t580)).heap[gb582]? = some (.cells #[.string t578, .string t579, .int .i64 t580] 31 (0, 0))) := ⟨by (with_reducible repeat (first | refine blk_drewN ?_ _ | refine blk_drew ?_ | refine blk_alloc ?_ _)); refine blk_put (cs := #[.string t578, .string t579, .int .i64 0]) ?_ 2 _ rfl; (with_reducible repeat (first | refine blk_drewN ?_ _ | refine blk_drew ?_ | refine blk_alloc ?_ _)); refine blk_put (cs := #[.string t578, .string (⟨#[]⟩ : ByteArray), .int .i64 0]) ?_ 1 _ rfl; (with_reducible repeat (first | refine blk_drewN ?_ _ | refine blk_drew ?_ | refine blk_alloc ?_ _)); refine blk_put (cs := #[.string (⟨#[]⟩ : ByteArray), .string (⟨#[]⟩ : ByteArray), .int .i64 0]) ?_ 0 _ rfl; (with_reducible repeat (first | refine blk_drewN ?_ _ | refine blk_drew ?_ | refine blk_alloc ?_ _)); exact BK582.out⟩
      have n4_ : Aside0 (Below w.heap.size w (((w22.setCell ⟨gb582, 0, none⟩ (.string t578)).setCell ⟨gb582, 1, none⟩ (.string t579)).setCell ⟨gb582, 2, none⟩ (.int .i64 t580))) := ⟨by repeat (first | (with_reducible first | exact HB.out | apply below_alloc | apply pw_below_drewN | apply below_drew1 | refine below_set ?_ GE571.out | refine below_set ?_ GE572.out | refine below_set ?_ GE577.out | refine below_set ?_ GE582.out) | exact HB.out)⟩
      (try clear BK571)
      (try clear BK572)
      (try clear BK577)
      (try clear BK582)
      (try clear HB)
      generalize (((w22.setCell ⟨gb582, 0, none⟩ (.string t578)).setCell ⟨gb582, 1, none⟩ (.string t579)).setCell ⟨gb582, 2, none⟩ (.int .i64 t580)) = w46 at n0_ n1_ n2_ n3_ n4_ ⊢
      have BK571 := n0_
      have BK572 := n1_
      have BK577 := n2_
      have BK582 := n3_
      have HB := n4_
      clear n0_ n1_ n2_ n3_ n4_
      replace BK571 := Aside0.mk (blk_drew BK571.out)
      replace BK572 := Aside0.mk (blk_drew BK572.out)
      replace BK577 := Aside0.mk (blk_drew BK577.out)
      replace BK582 := Aside0.mk (blk_drew BK582.out)
      replace HB := Aside0.mk (below_drew1 HB.out)
      refine start_ (n := 22) (S := fun w' => w'.cell? ⟨gb577, 0, none⟩ = some (.string t573) ∧ w'.cell? ⟨gb577, 1, none⟩ = some (.string t574) ∧ w'.cell? ⟨gb577, 2, none⟩ = some (.int .i64 t575) ∧ w'.cell? ⟨gb582, 0, none⟩ = some (.string t578) ∧ w'.cell? ⟨gb582, 1, none⟩ = some (.string t579) ∧ w'.cell? ⟨gb582, 2, none⟩ = some (.int .i64 t580)) (ds := []) laws_FnLog.mk0 (by kernel_rfl) rfl rfl ⟨(blk_cell BK577.out 0).trans rfl, (blk_cell BK577.out 1).trans rfl, (blk_cell BK577.out 2).trans rfl, (blk_cell BK582.out 0).trans rfl, (blk_cell BK582.out 1).trans rfl, (blk_cell BK582.out 2).trans rfl⟩ (fun hHeld => ?_); refine with_tabW laws_FnLog.tab6 laws_FnLog.bits6 (fun HT_ HW_ => ?_)
      generalize w46.drew = w47 at BK571 BK572 BK577 BK582 HB hHeld ⊢
      refine take_ (i := 0) (N := some 38) (v := ?_) (a' := ?_) laws_FnLog.mk1 rfl rfl (take_ofW HT_.out HW_.out (by kernel_rfl)) (fun _ _ _ h => h) (Or.inl ⟨by rfl, ?_⟩) hHeld ?_ ?_
      rotate_left
      ·
       rintro w' ⟨s0, s1, s2, s3, s4, s5⟩
       (try simp only [Go.IntWalk.toNatUp] at s0 s1 s2 s3 s4 s5)
       go_simp
       with_reducible rfl
      rotate_left
      ·
       simp only [Act.put, List.setIfInBounds_toArray, List.set_cons_zero, List.set_cons_succ, i64_w, i32_w]
       rfl
      refine take_ (i := 1) (N := some 39) (v := ?_) (a' := ?_) laws_FnLog.mk2 rfl rfl (take_ofW HT_.out HW_.out (by kernel_rfl)) (fun _ _ _ h => h) (Or.inl ⟨by rfl, ?_⟩) hHeld ?_ ?_
      rotate_left
      ·
       rintro w' ⟨s0, s1, s2, s3, s4, s5⟩
       (try simp only [Go.IntWalk.toNatUp] at s0 s1 s2 s3 s4 s5)
       go_simp
       with_reducible rfl
      rotate_left
      ·
       simp only [Act.put, List.setIfInBounds_toArray, List.set_cons_zero, List.set_cons_succ, i64_w, i32_w]
       rfl
      refine pz_ HT_ 2 (some 40) laws_FnLog.mk3 ?_
      refine pz_ HT_ 3 (some 41) laws_FnLog.mk4 ?_
      refine pz_ HT_ 4 (some 42) laws_FnLog.mk5 ?_
      refine pz_ HT_ 5 (some 43) laws_FnLog.mk6 ?_
      refine pz_ HT_ 6 (some 44) laws_FnLog.mk7 ?_
      refine pz_ HT_ 7 (some 45) laws_FnLog.mk8 ?_
      refine pz_ HT_ 8 (some 46) laws_FnLog.mk9 ?_
      refine pure_ (i := 9) (N := some 47) (v := undef) (a' := ?_) laws_FnLog.mk10 rfl rfl (any_of HT_.out (by kernel_rfl)) (fun _ _ _ h => h) (Or.inr ⟨by rfl, rfl⟩) ?_ ?_
      rotate_left
      ·
       simp only [Act.put, List.setIfInBounds_toArray, List.set_cons_zero, List.set_cons_succ, i64_w, i32_w]
       rfl
      refine pure_ (i := 10) (N := some 48) (v := undef) (a' := ?_) laws_FnLog.mk11 rfl rfl (any_of HT_.out (by kernel_rfl)) (fun _ _ _ h => h) (Or.inr ⟨by rfl, rfl⟩) ?_ ?_
      rotate_left
      ·
       simp only [Act.put, List.setIfInBounds_toArray, List.set_cons_zero, List.set_cons_succ, i64_w, i32_w]
       rfl
      refine pure_ (i := 11) (N := some 49) (v := undef) (a' := ?_) laws_FnLog.mk12 rfl rfl (any_of HT_.out (by kernel_rfl)) (fun _ _ _ h => h) (Or.inr ⟨by rfl, rfl⟩) ?_ ?_
      rotate_left
      ·
       simp only [Act.put, List.setIfInBounds_toArray, List.set_cons_zero, List.set_cons_succ, i64_w, i32_w]
       rfl
      refine pure_ (i := 12) (N := some 50) (v := undef) (a' := ?_) laws_FnLog.mk13 rfl rfl (any_of HT_.out (by kernel_rfl)) (fun _ _ _ h => h) (Or.inr ⟨by rfl, rfl⟩) ?_ ?_
      rotate_left
      ·
       simp only [Act.put, List.setIfInBounds_toArray, List.set_cons_zero, List.set_cons_succ, i64_w, i32_w]
       rfl
      refine pure_ (i := 13) (N := some 51) (v := undef) (a' := ?_) laws_FnLog.mk14 rfl rfl (any_of HT_.out (by kernel_rfl)) (fun _ _ _ h => h) (Or.inr ⟨by rfl, rfl⟩) ?_ ?_
      rotate_left
      ·
       simp only [Act.put, List.setIfInBounds_toArray, List.set_cons_zero, List.set_cons_succ, i64_w, i32_w]
       rfl
      refine pz_ HT_ 14 (some 52) laws_FnLog.mk15 ?_
      refine pz_ HT_ 15 (some 53) laws_FnLog.mk16 ?_
      refine pure_ (i := 16) (N := some 54) (v := undef) (a' := ?_) laws_FnLog.mk17 rfl rfl (any_of HT_.out (by kernel_rfl)) (fun _ _ _ h => h) (Or.inr ⟨by rfl, rfl⟩) ?_ ?_
      rotate_left
      ·
       simp only [Act.put, List.setIfInBounds_toArray, List.set_cons_zero, List.set_cons_succ, i64_w, i32_w]
       rfl
      refine pure_ (i := 17) (N := some 55) (v := undef) (a' := ?_) laws_FnLog.mk18 rfl rfl (any_of HT_.out (by kernel_rfl)) (fun _ _ _ h => h) (Or.inr ⟨by rfl, rfl⟩) ?_ ?_
      rotate_left
      ·
       simp only [Act.put, List.setIfInBounds_toArray, List.set_cons_zero, List.set_cons_succ, i64_w, i32_w]
       rfl
      refine pure_ (i := 18) (N := some 56) (v := undef) (a' := ?_) laws_FnLog.mk19 rfl rfl (any_of HT_.out (by kernel_rfl)) (fun _ _ _ h => h) (Or.inr ⟨by rfl, rfl⟩) ?_ ?_
      rotate_left
      ·
       simp only [Act.put, List.setIfInBounds_toArray, List.set_cons_zero, List.set_cons_succ, i64_w, i32_w]
       rfl
      refine pure_ (i := 19) (N := some 57) (v := undef) (a' := ?_) laws_FnLog.mk20 rfl rfl (any_of HT_.out (by kernel_rfl)) (fun _ _ _ h => h) (Or.inr ⟨by rfl, rfl⟩) ?_ ?_
      rotate_left
      ·
       simp only [Act.put, List.setIfInBounds_toArray, List.set_cons_zero, List.set_cons_succ, i64_w, i32_w]
       rfl
      refine pure_ (i := 20) (N := some 58) (v := undef) (a' := ?_) laws_FnLog.mk21 rfl rfl (any_of HT_.out (by kernel_rfl)) (fun _ _ _ h => h) (Or.inr ⟨by rfl, rfl⟩) ?_ ?_
      rotate_left
      ·
       simp only [Act.put, List.setIfInBounds_toArray, List.set_cons_zero, List.set_cons_succ, i64_w, i32_w]
       rfl
      refine pz_ HT_ 21 (some 59) laws_FnLog.mk22 ?_
      refine done_ (done_of HT_.out (by kernel_rfl)) ?_
      try go_wp2
      go_meet
      case rel => exact ⟨_, (true), (by first | rfl | (simp; done) | (simp [*]; done)), H', ⟨by first | omega | exact Nat.le_refl _⟩, ⟨bk_ BK571.out⟩, ⟨bk_ BK572.out⟩, ⟨bk_ BK577.out⟩, ⟨bk_ BK582.out⟩, ⟨by repeat (first | (with_reducible first | exact HB.out | apply below_alloc | apply pw_below_drewN | apply below_drew1 | refine below_set ?_ GE571.out | refine below_set ?_ GE572.out | refine below_set ?_ GE577.out | refine below_set ?_ GE582.out) | exact HB.out)⟩⟩
  case rest =>
   as_aux_lemma =>
    clear HC7
    try clear c2
    try clear p2
    try clear c3
    try clear c21
    try clear c23
    try clear c30
    try clear c30b0
    try clear c30b1
    try clear c33
    try clear c33b0
    try clear c33b1
    try clear c33b2
    try clear c37
    try clear c38
    obtain ⟨kq, x59_6, rfl, HA, HJ6, BK571, BK572, BK577, BK582, HB⟩ := hcut
    cases kq with
    | zero => exact absurd HA.out (by simp [laws_FnLog.j0])
    | succ kj6 =>
     have H := HA.out
     clear HA
     simp only [laws_FnLog.j0] at H
     by_cases c48 : x59_6 = true
     ·
      subst c48
      have H1 : (none) = some r := by rw [if_pos rfl] at H; exact H
      clear H
      have H := H1
      clear H1
      exact absurd H (by simp)
     ·
      replace c48 := Bool.eq_false_iff.mpr c48
      subst c48
      have H1 : (if t576 = 0 then ((impl_LogRecords.f kj6 t573 t574 t575).bind fun bt587 => ((impl_LogRecords.f kj6 t566 t567 t568).bind fun bt591 => (if t573.size + t574.size ≤ 9223372036854775807 then ((impl_RecoverLog.f kj6 (sc t573 t574)).bind fun bt595 => ((impl_SyncLog.f kj6 t573 t574 t575).bind fun bt601 => (if bt587.2 = true then (if (bt587.1.length : Int) = (wrap64 ((bt591.1.length : Int) + 1)) then (laws_FnLog.j1 kj6 bt587.1 bt591.1 bt595.2.2.2.1 bt595.2.2.2.2 bt601.2.2.2 (t575 != (bt587.1.length : Int)) t569 t570 t573 t574 t575 bt595.1 bt595.2.1 bt595.2.2.1 bt601.1 bt601.2.1 bt601.2.2.1) else (laws_FnLog.j1 kj6 bt587.1 bt591.1 bt595.2.2.2.1 bt595.2.2.2.2 bt601.2.2.2 true t569 t570 t573 t574 t575 bt595.1 bt595.2.1 bt595.2.2.1 bt601.1 bt601.2.1 bt601.2.2.1)) else (laws_FnLog.j1 kj6 bt587.1 bt591.1 bt595.2.2.2.1 bt595.2.2.2.2 bt601.2.2.2 true t569 t570 t573 t574 t575 bt595.1 bt595.2.1 bt595.2.2.1 bt601.1 bt601.2.1 bt601.2.2.1)))) else (none)))) else (some (t573.toList == t566.toList && (t574.toList == t567.toList && (t575 == t568))))) = some r := by rw [if_neg (show ¬ (false = true) by decide)] at H; exact H
      clear H
      have H := H1
      clear H1
      by_cases c49 : t576 = 0
      ·
       rw [if_pos c49] at H
       have c49b0 : (t576 == 0) = true := beq_iff_eq.mpr c49
       have c49b1 : (t576 != 0) = false := bne_eq_false_iff_eq.mpr c49
       clear c49
       replace H := Option.bind_eq_some_iff.mp H
       obtain ⟨⟨t587, t590⟩, A500, H⟩ := H
       replace H : ((impl_LogRecords.f kj6 t566 t567 t568).bind fun bt591 => (if t573.size + t574.size ≤ 9223372036854775807 then ((impl_RecoverLog.f kj6 (sc t573 t574)).bind fun bt595 => ((impl_SyncLog.f kj6 t573 t574 t575).bind fun bt601 => (if t590 = true then (if (t587.length : Int) = (wrap64 ((bt591.1.length : Int) + 1)) then (laws_FnLog.j1 kj6 t587 bt591.1 bt595.2.2.2.1 bt595.2.2.2.2 bt601.2.2.2 (t575 != (t587.length : Int)) t569 t570 t573 t574 t575 bt595.1 bt595.2.1 bt595.2.2.1 bt601.1 bt601.2.1 bt601.2.2.1) else (laws_FnLog.j1 kj6 t587 bt591.1 bt595.2.2.2.1 bt595.2.2.2.2 bt601.2.2.2 true t569 t570 t573 t574 t575 bt595.1 bt595.2.1 bt595.2.2.1 bt601.1 bt601.2.1 bt601.2.2.1)) else (laws_FnLog.j1 kj6 t587 bt591.1 bt595.2.2.2.1 bt595.2.2.2.2 bt601.2.2.2 true t569 t570 t573 t574 t575 bt595.1 bt595.2.1 bt595.2.2.1 bt601.1 bt601.2.1 bt601.2.2.1)))) else (none))) = some r := H
       have A50 := Aside0.mk A500
       clear A500
       replace H := Option.bind_eq_some_iff.mp H
       obtain ⟨⟨t591, t594⟩, A510, H⟩ := H
       replace H : (if t573.size + t574.size ≤ 9223372036854775807 then ((impl_RecoverLog.f kj6 (sc t573 t574)).bind fun bt595 => ((impl_SyncLog.f kj6 t573 t574 t575).bind fun bt601 => (if t590 = true then (if (t587.length : Int) = (wrap64 ((t591.length : Int) + 1)) then (laws_FnLog.j1 kj6 t587 t591 bt595.2.2.2.1 bt595.2.2.2.2 bt601.2.2.2 (t575 != (t587.length : Int)) t569 t570 t573 t574 t575 bt595.1 bt595.2.1 bt595.2.2.1 bt601.1 bt601.2.1 bt601.2.2.1) else (laws_FnLog.j1 kj6 t587 t591 bt595.2.2.2.1 bt595.2.2.2.2 bt601.2.2.2 true t569 t570 t573 t574 t575 bt595.1 bt595.2.1 bt595.2.2.1 bt601.1 bt601.2.1 bt601.2.2.1)) else (laws_FnLog.j1 kj6 t587 t591 bt595.2.2.2.1 bt595.2.2.2.2 bt601.2.2.2 true t569 t570 t573 t574 t575 bt595.1 bt595.2.1 bt595.2.2.1 bt601.1 bt601.2.1 bt601.2.2.1)))) else (none)) = some r := H
       have A51 := Aside0.mk A510
       clear A510
       by_cases c52 : t573.size + t574.size ≤ 9223372036854775807
       ·
        rw [if_pos c52] at H
        have c52b0 := eq_true c52; have c52b1 : decide (t573.size + t574.size ≤ 9223372036854775807) = true := decide_eq_true c52
        try have c52b2 : (9223372036854775807 < t573.size + t574.size) = False := eq_false (Nat.not_lt.2 c52)
        replace H := Option.bind_eq_some_iff.mp H; obtain ⟨⟨t595, t596, t597, t598, t599⟩, A530, H⟩ := H; replace H : ((impl_SyncLog.f kj6 t573 t574 t575).bind fun bt601 => (if t590 = true then (if (t587.length : Int) = (wrap64 ((t591.length : Int) + 1)) then (laws_FnLog.j1 kj6 t587 t591 t598 t599 bt601.2.2.2 (t575 != (t587.length : Int)) t569 t570 t573 t574 t575 t595 t596 t597 bt601.1 bt601.2.1 bt601.2.2.1) else (laws_FnLog.j1 kj6 t587 t591 t598 t599 bt601.2.2.2 true t569 t570 t573 t574 t575 t595 t596 t597 bt601.1 bt601.2.1 bt601.2.2.1)) else (laws_FnLog.j1 kj6 t587 t591 t598 t599 bt601.2.2.2 true t569 t570 t573 t574 t575 t595 t596 t597 bt601.1 bt601.2.1 bt601.2.2.1))) = some r := H; have A53 := Aside0.mk A530; clear A530; replace H := Option.bind_eq_some_iff.mp H; obtain ⟨⟨t601, t602, t603, t604⟩, A540, H⟩ := H; replace H : (if t590 = true then (if (t587.length : Int) = (wrap64 ((t591.length : Int) + 1)) then (laws_FnLog.j1 kj6 t587 t591 t598 t599 t604 (t575 != (t587.length : Int)) t569 t570 t573 t574 t575 t595 t596 t597 t601 t602 t603) else (laws_FnLog.j1 kj6 t587 t591 t598 t599 t604 true t569 t570 t573 t574 t575 t595 t596 t597 t601 t602 t603)) else (laws_FnLog.j1 kj6 t587 t591 t598 t599 t604 true t569 t570 t573 t574 t575 t595 t596 t597 t601 t602 t603)) = some r := H; have A54 := Aside0.mk A540; clear A540; have HC55 := Aside0.mk H; clear H; have hnb56 := NB577_571.out; have hnc56 := NB571_577.out; have hnb57 := NB577_572.out; have hnc57 := NB572_577.out; have hnb58 := NB577_582.out; have hnc58 := NB582_577.out; obtain ⟨hcz59_0, hcz59_1, hcz59_2⟩ := cz3_ BK577.out; obtain ⟨hfz59_0, hfz59_1, hfz59_2⟩ := fz3_ BK577.out
        go_upto_region 14 with (first | ((with_reducible refine gate_callee (f := 31) rfl ?_); refine ga_ (some 67) Tryd.func31 #[.agg #[.string t573, .string t574, .int .i64 t575]] ?_; (with_reducible refine (impl_LogRecords.calls kj6 t573 t574 t575 t587 t590 _ A50.out ?sideT).mono ?_); (case sideT => first | exact HT.out | exact Tb.step HT.out HB.out | exact Tb.step HT.out (by repeat (first | (with_reducible first | exact HB.out | apply below_alloc | apply pw_below_drewN | apply below_drew1 | refine below_set ?_ GE571.out | refine below_set ?_ GE572.out | refine below_set ?_ GE577.out | refine below_set ?_ GE582.out | refine below_set ?_ GE600.out | refine below_set ?_ GE605.out) | exact HB.out | exact Below.refl _ _))); rintro e w60 ⟨v588, rfl, ho0, hb⟩; refine ⟨_, rfl, ?_⟩; have HO589 := Aside0.mk (Kd.R_lower (Kd.R_newB ho0 (g := gb572) (o := .cells #[.string t569, .string t570] 27 (0, 0)) (bk_ BK572.out)) (below_size (by repeat (first | (with_reducible first | exact HB.out | apply below_alloc | apply pw_below_drewN | apply below_drew1 | refine below_set ?_ GE571.out | refine below_set ?_ GE572.out | refine below_set ?_ GE577.out | refine below_set ?_ GE582.out) | exact HB.out)))); replace BK571 := Aside0.mk (bb_ (bk_ BK571.out) hb); replace BK572 := Aside0.mk (bb_ (bk_ BK572.out) hb); replace BK577 := Aside0.mk (bb_ (bk_ BK577.out) hb); replace BK582 := Aside0.mk (bb_ (bk_ BK582.out) hb); replace HB := Aside0.mk (below_step (by repeat (first | (with_reducible first | exact HB.out | apply below_alloc | apply pw_below_drewN | apply below_drew1 | refine below_set ?_ GE571.out | refine below_set ?_ GE572.out | refine below_set ?_ GE577.out | refine below_set ?_ GE582.out) | exact HB.out)) hb); (try clear hb); (try clear hb2); (try clear hk); (try clear hi); (try clear ho0); have hnb61 := NB571_572.out; have hnc61 := NB572_571.out; have hnb62 := NB571_582.out; have hnc62 := NB582_571.out; obtain ⟨hcz63_0, hcz63_1, hcz63_2⟩ := cz3_ BK571.out; obtain ⟨hfz63_0, hfz63_1, hfz63_2⟩ := fz3_ BK571.out) | ((with_reducible refine gate_callee (f := 31) rfl ?_); refine ga_ (some 72) Tryd.func31 #[.agg #[.string t566, .string t567, .int .i64 t568]] ?_; (with_reducible refine (impl_LogRecords.calls kj6 t566 t567 t568 t591 t594 _ A51.out ?sideT).mono ?_); (case sideT => first | exact HT.out | exact Tb.step HT.out HB.out | exact Tb.step HT.out (by repeat (first | (with_reducible first | exact HB.out | apply below_alloc | apply pw_below_drewN | apply below_drew1 | refine below_set ?_ GE571.out | refine below_set ?_ GE572.out | refine below_set ?_ GE577.out | refine below_set ?_ GE582.out | refine below_set ?_ GE600.out | refine below_set ?_ GE605.out) | exact HB.out | exact Below.refl _ _))); rintro e w64 ⟨v592, rfl, ho0, hb⟩; refine ⟨_, rfl, ?_⟩; have HO593 := Aside0.mk (Kd.R_lower (Kd.R_newB (Kd.R_new' ho0 (Kd.R_lt (kr_ HO589.out))) (g := gb572) (o := .cells #[.string t569, .string t570] 27 (0, 0)) (bk_ BK572.out)) (below_size (by repeat (first | (with_reducible first | exact HB.out | apply below_alloc | apply pw_below_drewN | apply below_drew1 | refine below_set ?_ GE571.out | refine below_set ?_ GE572.out | refine below_set ?_ GE577.out | refine below_set ?_ GE582.out) | exact HB.out)))); replace HO589 := Aside0.mk (Kd.R_elder' (kr_ HO589.out) (Kd.R_base ho0) hb); replace BK571 := Aside0.mk (bb_ (bk_ BK571.out) hb); replace BK572 := Aside0.mk (bb_ (bk_ BK572.out) hb); replace BK577 := Aside0.mk (bb_ (bk_ BK577.out) hb); replace BK582 := Aside0.mk (bb_ (bk_ BK582.out) hb); replace HB := Aside0.mk (below_step (by repeat (first | (with_reducible first | exact HB.out | apply below_alloc | apply pw_below_drewN | apply below_drew1 | refine below_set ?_ GE571.out | refine below_set ?_ GE572.out | refine below_set ?_ GE577.out | refine below_set ?_ GE582.out) | exact HB.out)) hb); (try clear hb); (try clear hb2); (try clear hk); (try clear hi); (try clear ho0); obtain ⟨hcz65_0, hcz65_1, hcz65_2⟩ := cz3_ BK577.out; obtain ⟨hfz65_0, hfz65_1, hfz65_2⟩ := fz3_ BK577.out) | ((with_reducible refine gate_callee (f := 18) rfl ?_); refine ga_ (some 81) Tryd.func18 #[.string (sc t573 t574)] ?_; (with_reducible refine (impl_RecoverLog.calls kj6 (sc t573 t574) t595 t596 t597 t598 t599 _ A53.out ?sideT).mono ?_); (case sideT => first | exact HT.out | exact Tb.step HT.out HB.out | exact Tb.step HT.out (by repeat (first | (with_reducible first | exact HB.out | apply below_alloc | apply pw_below_drewN | apply below_drew1 | refine below_set ?_ GE571.out | refine below_set ?_ GE572.out | refine below_set ?_ GE577.out | refine below_set ?_ GE582.out | refine below_set ?_ GE600.out | refine below_set ?_ GE605.out) | exact HB.out | exact Below.refl _ _))); rintro e w66 ⟨rfl, hb⟩; refine ⟨_, rfl, ?_⟩; replace HO589 := Aside0.mk (Kd.R_below (kr_ HO589.out) hb); replace HO593 := Aside0.mk (Kd.R_below (kr_ HO593.out) hb); replace BK571 := Aside0.mk (bb_ (bk_ BK571.out) hb); replace BK572 := Aside0.mk (bb_ (bk_ BK572.out) hb); replace BK577 := Aside0.mk (bb_ (bk_ BK577.out) hb); replace BK582 := Aside0.mk (bb_ (bk_ BK582.out) hb); replace HB := Aside0.mk (below_step (by repeat (first | (with_reducible first | exact HB.out | apply below_alloc | apply pw_below_drewN | apply below_drew1 | refine below_set ?_ GE571.out | refine below_set ?_ GE572.out | refine below_set ?_ GE577.out | refine below_set ?_ GE582.out) | exact HB.out)) hb); (try clear hb); (try clear hb2); (try clear hk); (try clear hi)) | ((with_reducible refine gate_dst (N := 13) rfl ?_); (try (refine gate_guard (by rfl) ?_; dsimp only)); refine box_event ?hg (N := 13) ?hd (cs := #[.string (⟨#[]⟩ : ByteArray), .string (⟨#[]⟩ : ByteArray), .int .i64 0]) (t := 31) ?hr ?_; (case hd => rfl); (case hg => rfl); (case hr => first | (go_simp; done) | (go_simp; rfl)); intro gb600 hg w67 hbox hb; replace HO589 := Aside0.mk (Kd.R_below (kr_ HO589.out) hb); replace HO593 := Aside0.mk (Kd.R_below (kr_ HO593.out) hb); have BK600 := Aside0.mk (hbox); have GW600 := Aside0.mk ((by rw [hg]; exact (below_size (by repeat (first | (with_reducible first | exact HB.out | apply below_alloc | apply pw_below_drewN | apply below_drew1 | refine below_set ?_ GE571.out | refine below_set ?_ GE572.out | refine below_set ?_ GE577.out | refine below_set ?_ GE582.out) | exact HB.out))) : w.heap.size ≤ gb600)); have GE600 := Aside0.mk ((by rw [hg]; exact (below_size (by repeat (first | (with_reducible first | exact HB.out | apply below_alloc | apply pw_below_drewN | apply below_drew1 | refine below_set ?_ GE571.out | refine below_set ?_ GE572.out | refine below_set ?_ GE577.out | refine below_set ?_ GE582.out) | exact HB.out))) : w.heap.size ≤ gb600)); replace HB := Aside0.mk (below_step (by repeat (first | (with_reducible first | exact HB.out | apply below_alloc | apply pw_below_drewN | apply below_drew1 | refine below_set ?_ GE571.out | refine below_set ?_ GE572.out | refine below_set ?_ GE577.out | refine below_set ?_ GE582.out) | exact HB.out)) hb); have NB571_600 := Aside0.mk ((by rw [hg]; exact Nat.ne_of_lt (blk_lt (g := gb571) (o := .cells #[.string t566, .string t567, .int .i64 t568] 31 (0, 0)) (bk_ BK571.out)) : gb571 ≠ gb600)); have NB600_571 := Aside0.mk ((by rw [hg]; exact Nat.ne_of_gt (blk_lt (g := gb571) (o := .cells #[.string t566, .string t567, .int .i64 t568] 31 (0, 0)) (bk_ BK571.out)) : gb600 ≠ gb571)); replace BK571 := Aside0.mk (bb_ (bk_ BK571.out) hb); have NB572_600 := Aside0.mk ((by rw [hg]; exact Nat.ne_of_lt (blk_lt (g := gb572) (o := .cells #[.string t569, .string t570] 27 (0, 0)) (bk_ BK572.out)) : gb572 ≠ gb600)); have NB600_572 := Aside0.mk ((by rw [hg]; exact Nat.ne_of_gt (blk_lt (g := gb572) (o := .cells #[.string t569, .string t570] 27 (0, 0)) (bk_ BK572.out)) : gb600 ≠ gb572)); replace BK572 := Aside0.mk (bb_ (bk_ BK572.out) hb); have NB577_600 := Aside0.mk ((by rw [hg]; exact Nat.ne_of_lt (blk_lt (g := gb577) (o := .cells #[.string t573, .string t574, .int .i64 t575] 31 (0, 0)) (bk_ BK577.out)) : gb577 ≠ gb600)); have NB600_577 := Aside0.mk ((by rw [hg]; exact Nat.ne_of_gt (blk_lt (g := gb577) (o := .cells #[.string t573, .string t574, .int .i64 t575] 31 (0, 0)) (bk_ BK577.out)) : gb600 ≠ gb577)); replace BK577 := Aside0.mk (bb_ (bk_ BK577.out) hb); have NB582_600 := Aside0.mk ((by rw [hg]; exact Nat.ne_of_lt (blk_lt (g := gb582) (o := .cells #[.string t578, .string t579, .int .i64 t580] 31 (0, 0)) (bk_ BK582.out)) : gb582 ≠ gb600)); have NB600_582 := Aside0.mk ((by rw [hg]; exact Nat.ne_of_gt (blk_lt (g := gb582) (o := .cells #[.string t578, .string t579, .int .i64 t580] 31 (0, 0)) (bk_ BK582.out)) : gb600 ≠ gb582)); replace BK582 := Aside0.mk (bb_ (bk_ BK582.out) hb); clear hb hbox hg; have hnb68 := NB600_571.out; have hnc68 := NB571_600.out; have hnb69 := NB600_572.out; have hnc69 := NB572_600.out; have hnb70 := NB600_577.out; have hnc70 := NB577_600.out; have hnb71 := NB600_582.out; have hnc71 := NB582_600.out; obtain ⟨hcz72_0, hcz72_1, hcz72_2⟩ := cz3_ BK600.out; obtain ⟨hfz72_0, hfz72_1, hfz72_2⟩ := fz3_ BK600.out; obtain ⟨hcz73_0, hcz73_1, hcz73_2⟩ := cz3_ BK577.out; obtain ⟨hfz73_0, hfz73_1, hfz73_2⟩ := fz3_ BK577.out) | ((with_reducible refine gate_callee (f := 27) rfl ?_); refine ga_ (some 87) Tryd.func27 #[.agg #[.string t573, .string t574, .int .i64 t575]] ?_; (with_reducible refine (impl_SyncLog.calls kj6 t573 t574 t575 t601 t602 t603 t604 _ A54.out ?sideT).mono ?_); (case sideT => first | exact HT.out | exact Tb.step HT.out HB.out | exact Tb.step HT.out (by repeat (first | (with_reducible first | exact HB.out | apply below_alloc | apply pw_below_drewN | apply below_drew1 | refine below_set ?_ GE571.out | refine below_set ?_ GE572.out | refine below_set ?_ GE577.out | refine below_set ?_ GE582.out | refine below_set ?_ GE600.out | refine below_set ?_ GE605.out) | exact HB.out | exact Below.refl _ _))); rintro e w74 ⟨rfl, hb⟩; refine ⟨_, rfl, ?_⟩; replace HO589 := Aside0.mk (Kd.R_below (kg_ HO589.out BK600.out) hb); replace HO593 := Aside0.mk (Kd.R_below (kg_ HO593.out BK600.out) hb); replace BK571 := Aside0.mk (blk_below (g := gb571) (o := .cells #[.string t566, .string t567, .int .i64 t568] 31 (0, 0)) (by (with_reducible repeat (first | refine blk_drewN ?_ _ | refine blk_drew ?_ | refine blk_alloc ?_ _)); refine blk_far ?_ NB571_600.out _; (with_reducible repeat (first | refine blk_drewN ?_ _ | refine blk_drew ?_ | refine blk_alloc ?_ _)); refine blk_far ?_ NB571_600.out _; (with_reducible repeat (first | refine blk_drewN ?_ _ | refine blk_drew ?_ | refine blk_alloc ?_ _)); refine blk_far ?_ NB571_600.out _; (with_reducible repeat (first | refine blk_drewN ?_ _ | refine blk_drew ?_ | refine blk_alloc ?_ _)); exact BK571.out) hb); replace BK572 := Aside0.mk (blk_below (g := gb572) (o := .cells #[.string t569, .string t570] 27 (0, 0)) (by (with_reducible repeat (first | refine blk_drewN ?_ _ | refine blk_drew ?_ | refine blk_alloc ?_ _)); refine blk_far ?_ NB572_600.out _; (with_reducible repeat (first | refine blk_drewN ?_ _ | refine blk_drew ?_ | refine blk_alloc ?_ _)); refine blk_far ?_ NB572_600.out _; (with_reducible repeat (first | refine blk_drewN ?_ _ | refine blk_drew ?_ | refine blk_alloc ?_ _)); refine blk_far ?_ NB572_600.out _; (with_reducible repeat (first | refine blk_drewN ?_ _ | refine blk_drew ?_ | refine blk_alloc ?_ _)); exact BK572.out) hb); replace BK577 := Aside0.mk (blk_below (g := gb577) (o := .cells #[.string t573, .string t574, .int .i64 t575] 31 (0, 0)) (by (with_reducible repeat (first | refine blk_drewN ?_ _ | refine blk_drew ?_ | refine blk_alloc ?_ _)); refine blk_far ?_ NB577_600.out _; (with_reducible repeat (first | refine blk_drewN ?_ _ | refine blk_drew ?_ | refine blk_alloc ?_ _)); refine blk_far ?_ NB577_600.out _; (with_reducible repeat (first | refine blk_drewN ?_ _ | refine blk_drew ?_ | refine blk_alloc ?_ _)); refine blk_far ?_ NB577_600.out _; (with_reducible repeat (first | refine blk_drewN ?_ _ | refine blk_drew ?_ | refine blk_alloc ?_ _)); exact BK577.out) hb); replace BK582 := Aside0.mk (blk_below (g := gb582) (o := .cells #[.string t578, .string t579, .int .i64 t580] 31 (0, 0)) (by (with_reducible repeat (first | refine blk_drewN ?_ _ | refine blk_drew ?_ | refine blk_alloc ?_ _)); refine blk_far ?_ NB582_600.out _; (with_reducible repeat (first | refine blk_drewN ?_ _ | refine blk_drew ?_ | refine blk_alloc ?_ _)); refine blk_far ?_ NB582_600.out _; (with_reducible repeat (first | refine blk_drewN ?_ _ | refine blk_drew ?_ | refine blk_alloc ?_ _)); refine blk_far ?_ NB582_600.out _; (with_reducible repeat (first | refine blk_drewN ?_ _ | refine blk_drew ?_ | refine blk_alloc ?_ _)); exact BK582.out) hb); replace BK600 := Aside0.mk (blk_below (g := gb600) (o := .cells #[.string t595, .string t596, .int .i64 t597] 31 (0, 0)) (by (with_reducible repeat (first | refine blk_drewN ?_ _ | refine blk_drew ?_ | refine blk_alloc ?_ _)); refine blk_put (cs := #[.string t595, .string t596, .int .i64 0]) ?_ 2 _ rfl; (with_reducible repeat (first | refine blk_drewN ?_ _ | refine blk_drew ?_ | refine blk_alloc ?_ _)); refine blk_put (cs := #[.string t595, .string (⟨#[]⟩ : ByteArray), .int .i64 0]) ?_ 1 _ rfl; (with_reducible repeat (first | refine blk_drewN ?_ _ | refine blk_drew ?_ | refine blk_alloc ?_ _)); refine blk_put (cs := #[.string (⟨#[]⟩ : ByteArray), .string (⟨#[]⟩ : ByteArray), .int .i64 0]) ?_ 0 _ rfl; (with_reducible repeat (first | refine blk_drewN ?_ _ | refine blk_drew ?_ | refine blk_alloc ?_ _)); exact BK600.out) hb); replace HB := Aside0.mk (below_step (by repeat (first | (with_reducible first | exact HB.out | apply below_alloc | apply pw_below_drewN | apply below_drew1 | refine below_set ?_ GE571.out | refine below_set ?_ GE572.out | refine below_set ?_ GE577.out | refine below_set ?_ GE582.out | refine below_set ?_ GE600.out) | exact HB.out)) hb); (try clear hb); (try clear hb2); (try clear hk); (try clear hi)) | ((with_reducible refine gate_dst (N := 16) rfl ?_); (try (refine gate_guard (by rfl) ?_; dsimp only)); refine box_event ?hg (N := 16) ?hd (cs := #[.string (⟨#[]⟩ : ByteArray), .string (⟨#[]⟩ : ByteArray), .int .i64 0]) (t := 31) ?hr ?_; (case hd => rfl); (case hg => rfl); (case hr => first | (go_simp; done) | (go_simp; rfl)); intro gb605 hg w75 hbox hb; replace HO589 := Aside0.mk (Kd.R_below (kr_ HO589.out) hb); replace HO593 := Aside0.mk (Kd.R_below (kr_ HO593.out) hb); have BK605 := Aside0.mk (hbox); have GW605 := Aside0.mk ((by rw [hg]; exact (below_size (by repeat (first | (with_reducible first | exact HB.out | apply below_alloc | apply pw_below_drewN | apply below_drew1 | refine below_set ?_ GE571.out | refine below_set ?_ GE572.out | refine below_set ?_ GE577.out | refine below_set ?_ GE582.out | refine below_set ?_ GE600.out) | exact HB.out))) : w.heap.size ≤ gb605)); have GE605 := Aside0.mk ((by rw [hg]; exact (below_size (by repeat (first | (with_reducible first | exact HB.out | apply below_alloc | apply pw_below_drewN | apply below_drew1 | refine below_set ?_ GE571.out | refine below_set ?_ GE572.out | refine below_set ?_ GE577.out | refine below_set ?_ GE582.out | refine below_set ?_ GE600.out) | exact HB.out))) : w.heap.size ≤ gb605)); replace HB := Aside0.mk (below_step (by repeat (first | (with_reducible first | exact HB.out | apply below_alloc | apply pw_below_drewN | apply below_drew1 | refine below_set ?_ GE571.out | refine below_set ?_ GE572.out | refine below_set ?_ GE577.out | refine below_set ?_ GE582.out | refine below_set ?_ GE600.out) | exact HB.out)) hb); have NB571_605 := Aside0.mk ((by rw [hg]; exact Nat.ne_of_lt (blk_lt (g := gb571) (o := .cells #[.string t566, .string t567, .int .i64 t568] 31 (0, 0)) (bk_ BK571.out)) : gb571 ≠ gb605)); have NB605_571 := Aside0.mk ((by rw [hg]; exact Nat.ne_of_gt (blk_lt (g := gb571) (o := .cells #[.string t566, .string t567, .int .i64 t568] 31 (0, 0)) (bk_ BK571.out)) : gb605 ≠ gb571)); replace BK571 := Aside0.mk (bb_ (bk_ BK571.out) hb); have NB572_605 := Aside0.mk ((by rw [hg]; exact Nat.ne_of_lt (blk_lt (g := gb572) (o := .cells #[.string t569, .string t570] 27 (0, 0)) (bk_ BK572.out)) : gb572 ≠ gb605)); have NB605_572 := Aside0.mk ((by rw [hg]; exact Nat.ne_of_gt (blk_lt (g := gb572) (o := .cells #[.string t569, .string t570] 27 (0, 0)) (bk_ BK572.out)) : gb605 ≠ gb572)); replace BK572 := Aside0.mk (bb_ (bk_ BK572.out) hb); have NB577_605 := Aside0.mk ((by rw [hg]; exact Nat.ne_of_lt (blk_lt (g := gb577) (o := .cells #[.string t573, .string t574, .int .i64 t575] 31 (0, 0)) (bk_ BK577.out)) : gb577 ≠ gb605)); have NB605_577 := Aside0.mk ((by rw [hg]; exact Nat.ne_of_gt (blk_lt (g := gb577) (o := .cells #[.string t573, .string t574, .int .i64 t575] 31 (0, 0)) (bk_ BK577.out)) : gb605 ≠ gb577)); replace BK577 := Aside0.mk (bb_ (bk_ BK577.out) hb); have NB582_605 := Aside0.mk ((by rw [hg]; exact Nat.ne_of_lt (blk_lt (g := gb582) (o := .cells #[.string t578, .string t579, .int .i64 t580] 31 (0, 0)) (bk_ BK582.out)) : gb582 ≠ gb605)); have NB605_582 := Aside0.mk ((by rw [hg]; exact Nat.ne_of_gt (blk_lt (g := gb582) (o := .cells #[.string t578, .string t579, .int .i64 t580] 31 (0, 0)) (bk_ BK582.out)) : gb605 ≠ gb582)); replace BK582 := Aside0.mk (bb_ (bk_ BK582.out) hb); have NB600_605 := Aside0.mk ((by rw [hg]; exact Nat.ne_of_lt (blk_lt (g := gb600) (o := .cells #[.string t595, .string t596, .int .i64 t597] 31 (0, 0)) (bk_ BK600.out)) : gb600 ≠ gb605)); have NB605_600 := Aside0.mk ((by rw [hg]; exact Nat.ne_of_gt (blk_lt (g := gb600) (o := .cells #[.string t595, .string t596, .int .i64 t597] 31 (0, 0)) (bk_ BK600.out)) : gb605 ≠ gb600)); replace BK600 := Aside0.mk (bb_ (bk_ BK600.out) hb); clear hb hbox hg; have hnb76 := NB605_571.out; have hnc76 := NB571_605.out; have hnb77 := NB605_572.out; have hnc77 := NB572_605.out; have hnb78 := NB605_577.out; have hnc78 := NB577_605.out; have hnb79 := NB605_582.out; have hnc79 := NB582_605.out; have hnb80 := NB605_600.out; have hnc80 := NB600_605.out; obtain ⟨hcz81_0, hcz81_1, hcz81_2⟩ := cz3_ BK605.out; obtain ⟨hfz81_0, hfz81_1, hfz81_2⟩ := fz3_ BK605.out))
        (try simp only [Act.put, List.setIfInBounds_toArray, List.set_cons_zero, List.set_cons_succ])
        go_cut [106] (fun v106 wc => ∃ (kq : Nat) (x106_54 : Bool), v106 = .bool x106_54 ∧ Aside0 (laws_FnLog.j1 kq t587 t591 t598 t599 t604 x106_54 t569 t570 t573 t574 t575 t595 t596 t597 t601 t602 t603 = some r) ∧ Aside0 (kq ≤ kj6) ∧ Aside0 (Kd.R k27 27 wc w.heap.size (fun k_ => some k_ ≠ (v592 : Value).ownBlock ∧ k_ ≠ gb572) v588 t587) ∧ Aside0 (Kd.R k27 27 wc w.heap.size (fun k_ => some k_ ≠ (v588 : Value).ownBlock ∧ k_ ≠ gb572) v592 t591) ∧ Aside0 (wc.heap[gb571]? = some (.cells #[.string t566, .string t567, .int .i64 t568] 31 (0, 0))) ∧ Aside0 (wc.heap[gb572]? = some (.cells #[.string t569, .string t570] 27 (0, 0))) ∧ Aside0 (wc.heap[gb577]? = some (.cells #[.string t573, .string t574, .int .i64 t575] 31 (0, 0))) ∧ Aside0 (wc.heap[gb582]? = some (.cells #[.string t578, .string t579, .int .i64 t580] 31 (0, 0))) ∧ Aside0 (wc.heap[gb600]? = some (.cells #[.string t595, .string t596, .int .i64 t597] 31 (0, 0))) ∧ Aside0 (wc.heap[gb605]? = some (.cells #[.string t601, .string t602, .int .i64 t603] 31 (0, 0))) ∧ Aside0 (Below w.heap.size w wc))
        case first =>
         as_aux_lemma =>
          have H := HC55.out; clear HC55
          by_cases c82 : t590 = true
          ·
           subst c82
           have H1 : (if (t587.length : Int) = (wrap64 ((t591.length : Int) + 1)) then (laws_FnLog.j1 kj6 t587 t591 t598 t599 t604 (t575 != (t587.length : Int)) t569 t570 t573 t574 t575 t595 t596 t597 t601 t602 t603) else (laws_FnLog.j1 kj6 t587 t591 t598 t599 t604 true t569 t570 t573 t574 t575 t595 t596 t597 t601 t602 t603)) = some r := by rw [if_pos rfl] at H; exact H
           clear H; have H := H1; clear H1
           by_cases c83 : (t587.length : Int) = (wrap64 ((t591.length : Int) + 1))
           ·
            rw [if_pos c83] at H
            have c83b0 : ((t587.length : Int) == (wrap64 ((t591.length : Int) + 1))) = true := beq_iff_eq.mpr c83; have c83b1 : ((t587.length : Int) != (wrap64 ((t591.length : Int) + 1))) = false := bne_eq_false_iff_eq.mpr c83; clear c83
            (first | rw [c83b0] | (simp only [i64_w, i32_w]; rw [c83b0]) | skip)
            have H' := Aside0.mk H; clear H; obtain ⟨Ao84, co84, eo84⟩ := Kd.R_slice HO589.out; subst eo84; obtain ⟨Ao85, co85, eo85⟩ := Kd.R_slice HO593.out; subst eo85; have hnb86 := NB577_571.out; have hnc86 := NB571_577.out; have hnb87 := NB577_572.out; have hnc87 := NB572_577.out; have hnb88 := NB577_582.out; have hnc88 := NB582_577.out; have hnb89 := NB577_600.out; have hnc89 := NB600_577.out; have hnb90 := NB577_605.out; have hnc90 := NB605_577.out; obtain ⟨hcz91_0, hcz91_1, hcz91_2⟩ := cz3_ BK577.out; obtain ⟨hfz91_0, hfz91_1, hfz91_2⟩ := fz3_ BK577.out
            go_wp2
            go_meet
            case rel => exact ⟨_, ((t575 != (t587.length : Int))), (by first | rfl | (simp; done) | (simp [*]; done)), H', ⟨by have := HJ6.out; first | omega | exact Nat.le_refl _⟩, ⟨by (with_reducible repeat (first | apply Kd.R_alloc | apply Kd.R_drewN | apply Kd.R_drew)); exact Kd.R_mono (Kd.R_far (p := ⟨gb605, 2, none⟩) (Kd.R_far (p := ⟨gb605, 1, none⟩) (Kd.R_far (p := ⟨gb605, 0, none⟩) (Kd.R_types HO589.out BK605.out (by decide)) (fun _ hk => hk.2) (.string t601)) (fun _ hk => hk.2) (.string t602)) (fun _ hk => hk.2) (.int .i64 t603)) (fun _ hk => ⟨hk.1.2, hk.1.1.2⟩)⟩, ⟨by (with_reducible repeat (first | apply Kd.R_alloc | apply Kd.R_drewN | apply Kd.R_drew)); exact Kd.R_mono (Kd.R_far (p := ⟨gb605, 2, none⟩) (Kd.R_far (p := ⟨gb605, 1, none⟩) (Kd.R_far (p := ⟨gb605, 0, none⟩) (Kd.R_types HO593.out BK605.out (by decide)) (fun _ hk => hk.2) (.string t601)) (fun _ hk => hk.2) (.string t602)) (fun _ hk => hk.2) (.int .i64 t603)) (fun _ hk => ⟨hk.1.1.2, hk.1.2⟩)⟩, ⟨by (with_reducible repeat (first | refine blk_drewN ?_ _ | refine blk_drew ?_ | refine blk_alloc ?_ _)); refine blk_far ?_ NB571_605.out _; (with_reducible repeat (first | refine blk_drewN ?_ _ | refine blk_drew ?_ | refine blk_alloc ?_ _)); refine blk_far ?_ NB571_605.out _; (with_reducible repeat (first | refine blk_drewN ?_ _ | refine blk_drew ?_ | refine blk_alloc ?_ _)); refine blk_far ?_ NB571_605.out _; (with_reducible repeat (first | refine blk_drewN ?_ _ | refine blk_drew ?_ | refine blk_alloc ?_ _)); exact BK571.out⟩, ⟨by (with_reducible repeat (first | refine blk_drewN ?_ _ | refine blk_drew ?_ | refine blk_alloc ?_ _)); refine blk_far ?_ NB572_605.out _; (with_reducible repeat (first | refine blk_drewN ?_ _ | refine blk_drew ?_ | refine blk_alloc ?_ _)); refine blk_far ?_ NB572_605.out _; (with_reducible repeat (first | refine blk_drewN ?_ _ | refine blk_drew ?_ | refine blk_alloc ?_ _)); refine blk_far ?_ NB572_605.out _; (with_reducible repeat (first | refine blk_drewN ?_ _ | refine blk_drew ?_ | refine blk_alloc ?_ _)); exact BK572.out⟩, ⟨by (with_reducible repeat (first | refine blk_drewN ?_ _ | refine blk_drew ?_ | refine blk_alloc ?_ _)); refine blk_far ?_ NB577_605.out _; (with_reducible repeat (first | refine blk_drewN ?_ _ | refine blk_drew ?_ | refine blk_alloc ?_ _)); refine blk_far ?_ NB577_605.out _; (with_reducible repeat (first | refine blk_drewN ?_ _ | refine blk_drew ?_ | refine blk_alloc ?_ _)); refine blk_far ?_ NB577_605.out _; (with_reducible repeat (first | refine blk_drewN ?_ _ | refine blk_drew ?_ | refine blk_alloc ?_ _)); exact BK577.out⟩, ⟨by (with_reducible repeat (first | refine blk_drewN ?_ _ | refine blk_drew ?_ | refine blk_alloc ?_ _)); refine blk_far ?_ NB582_605.out _; (with_reducible repeat (first | refine blk_drewN ?_ _ | refine blk_drew ?_ | refine blk_alloc ?_ _)); refine blk_far ?_ NB582_605.out _; (with_reducible repeat (first | refine blk_drewN ?_ _ | refine blk_drew ?_ | refine blk_alloc ?_ _)); refine blk_far ?_ NB582_605.out _; (with_reducible repeat (first | refine blk_drewN ?_ _ | refine blk_drew ?_ | refine blk_alloc ?_ _)); exact BK582.out⟩, ⟨by (with_reducible repeat (first | refine blk_drewN ?_ _ | refine blk_drew ?_ | refine blk_alloc ?_ _)); refine blk_far ?_ NB600_605.out _; (with_reducible repeat (first | refine blk_drewN ?_ _ | refine blk_drew ?_ | refine blk_alloc ?_ _)); refine blk_far ?_ NB600_605.out _; (with_reducible repeat (first | refine blk_drewN ?_ _ | refine blk_drew ?_ | refine blk_alloc ?_ _)); refine blk_far ?_ NB600_605.out _; (with_reducible repeat (first | refine blk_drewN ?_ _ | refine blk_drew ?_ | refine blk_alloc ?_ _)); exact BK600.out⟩, ⟨by (with_reducible repeat (first | refine blk_drewN ?_ _ | refine blk_drew ?_ | refine blk_alloc ?_ _)); refine blk_put (cs := #[.string t601, .string t602, .int .i64 0]) ?_ 2 _ rfl; (with_reducible repeat (first | refine blk_drewN ?_ _ | refine blk_drew ?_ | refine blk_alloc ?_ _)); refine blk_put (cs := #[.string t601, .string (⟨#[]⟩ : ByteArray), .int .i64 0]) ?_ 1 _ rfl; (with_reducible repeat (first | refine blk_drewN ?_ _ | refine blk_drew ?_ | refine blk_alloc ?_ _)); refine blk_put (cs := #[.string (⟨#[]⟩ : ByteArray), .string (⟨#[]⟩ : ByteArray), .int .i64 0]) ?_ 0 _ rfl; (with_reducible repeat (first | refine blk_drewN ?_ _ | refine blk_drew ?_ | refine blk_alloc ?_ _)); exact BK605.out⟩, ⟨by repeat (first | (with_reducible first | exact HB.out | apply below_alloc | apply pw_below_drewN | apply below_drew1 | refine below_set ?_ GE571.out | refine below_set ?_ GE572.out | refine below_set ?_ GE577.out | refine below_set ?_ GE582.out | refine below_set ?_ GE600.out | refine below_set ?_ GE605.out) | exact HB.out)⟩⟩
           ·
            rw [if_neg c83] at H
            have c83b0 : ((t587.length : Int) == (wrap64 ((t591.length : Int) + 1))) = false := beq_eq_false_iff_ne.mpr c83; have c83b1 : ((t587.length : Int) != (wrap64 ((t591.length : Int) + 1))) = true := bne_iff_ne.mpr c83
            (first | rw [c83b0] | (simp only [i64_w, i32_w]; rw [c83b0]) | skip)
            have H' := Aside0.mk H; clear H; obtain ⟨Ao92, co92, eo92⟩ := Kd.R_slice HO589.out; subst eo92; obtain ⟨Ao93, co93, eo93⟩ := Kd.R_slice HO593.out; subst eo93
            go_wp2
            go_meet
            case rel => exact ⟨_, (true), (by first | rfl | (simp; done) | (simp [*]; done)), H', ⟨by have := HJ6.out; first | omega | exact Nat.le_refl _⟩, ⟨by (with_reducible repeat (first | apply Kd.R_alloc | apply Kd.R_drewN | apply Kd.R_drew)); exact Kd.R_mono (Kd.R_far (p := ⟨gb605, 2, none⟩) (Kd.R_far (p := ⟨gb605, 1, none⟩) (Kd.R_far (p := ⟨gb605, 0, none⟩) (Kd.R_types HO589.out BK605.out (by decide)) (fun _ hk => hk.2) (.string t601)) (fun _ hk => hk.2) (.string t602)) (fun _ hk => hk.2) (.int .i64 t603)) (fun _ hk => ⟨hk.1.2, hk.1.1.2⟩)⟩, ⟨by (with_reducible repeat (first | apply Kd.R_alloc | apply Kd.R_drewN | apply Kd.R_drew)); exact Kd.R_mono (Kd.R_far (p := ⟨gb605, 2, none⟩) (Kd.R_far (p := ⟨gb605, 1, none⟩) (Kd.R_far (p := ⟨gb605, 0, none⟩) (Kd.R_types HO593.out BK605.out (by decide)) (fun _ hk => hk.2) (.string t601)) (fun _ hk => hk.2) (.string t602)) (fun _ hk => hk.2) (.int .i64 t603)) (fun _ hk => ⟨hk.1.1.2, hk.1.2⟩)⟩, ⟨by (with_reducible repeat (first | refine blk_drewN ?_ _ | refine blk_drew ?_ | refine blk_alloc ?_ _)); refine blk_far ?_ NB571_605.out _; (with_reducible repeat (first | refine blk_drewN ?_ _ | refine blk_drew ?_ | refine blk_alloc ?_ _)); refine blk_far ?_ NB571_605.out _; (with_reducible repeat (first | refine blk_drewN ?_ _ | refine blk_drew ?_ | refine blk_alloc ?_ _)); refine blk_far ?_ NB571_605.out _; (with_reducible repeat (first | refine blk_drewN ?_ _ | refine blk_drew ?_ | refine blk_alloc ?_ _)); exact BK571.out⟩, ⟨by (with_reducible repeat (first | refine blk_drewN ?_ _ | refine blk_drew ?_ | refine blk_alloc ?_ _)); refine blk_far ?_ NB572_605.out _; (with_reducible repeat (first | refine blk_drewN ?_ _ | refine blk_drew ?_ | refine blk_alloc ?_ _)); refine blk_far ?_ NB572_605.out _; (with_reducible repeat (first | refine blk_drewN ?_ _ | refine blk_drew ?_ | refine blk_alloc ?_ _)); refine blk_far ?_ NB572_605.out _; (with_reducible repeat (first | refine blk_drewN ?_ _ | refine blk_drew ?_ | refine blk_alloc ?_ _)); exact BK572.out⟩, ⟨by (with_reducible repeat (first | refine blk_drewN ?_ _ | refine blk_drew ?_ | refine blk_alloc ?_ _)); refine blk_far ?_ NB577_605.out _; (with_reducible repeat (first | refine blk_drewN ?_ _ | refine blk_drew ?_ | refine blk_alloc ?_ _)); refine blk_far ?_ NB577_605.out _; (with_reducible repeat (first | refine blk_drewN ?_ _ | refine blk_drew ?_ | refine blk_alloc ?_ _)); refine blk_far ?_ NB577_605.out _; (with_reducible repeat (first | refine blk_drewN ?_ _ | refine blk_drew ?_ | refine blk_alloc ?_ _)); exact BK577.out⟩, ⟨by (with_reducible repeat (first | refine blk_drewN ?_ _ | refine blk_drew ?_ | refine blk_alloc ?_ _)); refine blk_far ?_ NB582_605.out _; (with_reducible repeat (first | refine blk_drewN ?_ _ | refine blk_drew ?_ | refine blk_alloc ?_ _)); refine blk_far ?_ NB582_605.out _; (with_reducible repeat (first | refine blk_drewN ?_ _ | refine blk_drew ?_ | refine blk_alloc ?_ _)); refine blk_far ?_ NB582_605.out _; (with_reducible repeat (first | refine blk_drewN ?_ _ | refine blk_drew ?_ | refine blk_alloc ?_ _)); exact BK582.out⟩, ⟨by (with_reducible repeat (first | refine blk_drewN ?_ _ | refine blk_drew ?_ | refine blk_alloc ?_ _)); refine blk_far ?_ NB600_605.out _; (with_reducible repeat (first | refine blk_drewN ?_ _ | refine blk_drew ?_ | refine blk_alloc ?_ _)); refine blk_far ?_ NB600_605.out _; (with_reducible repeat (first | refine blk_drewN ?_ _ | refine blk_drew ?_ | refine blk_alloc ?_ _)); refine blk_far ?_ NB600_605.out _; (with_reducible repeat (first | refine blk_drewN ?_ _ | refine blk_drew ?_ | refine blk_alloc ?_ _)); exact BK600.out⟩, ⟨by (with_reducible repeat (first | refine blk_drewN ?_ _ | refine blk_drew ?_ | refine blk_alloc ?_ _)); refine blk_put (cs := #[.string t601, .string t602, .int .i64 0]) ?_ 2 _ rfl; (with_reducible repeat (first | refine blk_drewN ?_ _ | refine blk_drew ?_ | refine blk_alloc ?_ _)); refine blk_put (cs := #[.string t601, .string (⟨#[]⟩ : ByteArray), .int .i64 0]) ?_ 1 _ rfl; (with_reducible repeat (first | refine blk_drewN ?_ _ | refine blk_drew ?_ | refine blk_alloc ?_ _)); refine blk_put (cs := #[.string (⟨#[]⟩ : ByteArray), .string (⟨#[]⟩ : ByteArray), .int .i64 0]) ?_ 0 _ rfl; (with_reducible repeat (first | refine blk_drewN ?_ _ | refine blk_drew ?_ | refine blk_alloc ?_ _)); exact BK605.out⟩, ⟨by repeat (first | (with_reducible first | exact HB.out | apply below_alloc | apply pw_below_drewN | apply below_drew1 | refine below_set ?_ GE571.out | refine below_set ?_ GE572.out | refine below_set ?_ GE577.out | refine below_set ?_ GE582.out | refine below_set ?_ GE600.out | refine below_set ?_ GE605.out) | exact HB.out)⟩⟩
          ·
           replace c82 := Bool.eq_false_iff.mpr c82; subst c82
           have H1 : (laws_FnLog.j1 kj6 t587 t591 t598 t599 t604 true t569 t570 t573 t574 t575 t595 t596 t597 t601 t602 t603) = some r := by rw [if_neg (show ¬ (false = true) by decide)] at H; exact H
           clear H; have H := H1; clear H1; have H' := Aside0.mk H; clear H
           go_wp2
           go_meet
           case rel => exact ⟨_, (true), (by first | rfl | (simp; done) | (simp [*]; done)), H', ⟨by have := HJ6.out; first | omega | exact Nat.le_refl _⟩, ⟨by (with_reducible repeat (first | apply Kd.R_alloc | apply Kd.R_drewN | apply Kd.R_drew)); exact Kd.R_mono (Kd.R_far (p := ⟨gb605, 2, none⟩) (Kd.R_far (p := ⟨gb605, 1, none⟩) (Kd.R_far (p := ⟨gb605, 0, none⟩) (Kd.R_types HO589.out BK605.out (by decide)) (fun _ hk => hk.2) (.string t601)) (fun _ hk => hk.2) (.string t602)) (fun _ hk => hk.2) (.int .i64 t603)) (fun _ hk => ⟨hk.1.2, hk.1.1.2⟩)⟩, ⟨by (with_reducible repeat (first | apply Kd.R_alloc | apply Kd.R_drewN | apply Kd.R_drew)); exact Kd.R_mono (Kd.R_far (p := ⟨gb605, 2, none⟩) (Kd.R_far (p := ⟨gb605, 1, none⟩) (Kd.R_far (p := ⟨gb605, 0, none⟩) (Kd.R_types HO593.out BK605.out (by decide)) (fun _ hk => hk.2) (.string t601)) (fun _ hk => hk.2) (.string t602)) (fun _ hk => hk.2) (.int .i64 t603)) (fun _ hk => ⟨hk.1.1.2, hk.1.2⟩)⟩, ⟨by (with_reducible repeat (first | refine blk_drewN ?_ _ | refine blk_drew ?_ | refine blk_alloc ?_ _)); refine blk_far ?_ NB571_605.out _; (with_reducible repeat (first | refine blk_drewN ?_ _ | refine blk_drew ?_ | refine blk_alloc ?_ _)); refine blk_far ?_ NB571_605.out _; (with_reducible repeat (first | refine blk_drewN ?_ _ | refine blk_drew ?_ | refine blk_alloc ?_ _)); refine blk_far ?_ NB571_605.out _; (with_reducible repeat (first | refine blk_drewN ?_ _ | refine blk_drew ?_ | refine blk_alloc ?_ _)); exact BK571.out⟩, ⟨by (with_reducible repeat (first | refine blk_drewN ?_ _ | refine blk_drew ?_ | refine blk_alloc ?_ _)); refine blk_far ?_ NB572_605.out _; (with_reducible repeat (first | refine blk_drewN ?_ _ | refine blk_drew ?_ | refine blk_alloc ?_ _)); refine blk_far ?_ NB572_605.out _; (with_reducible repeat (first | refine blk_drewN ?_ _ | refine blk_drew ?_ | refine blk_alloc ?_ _)); refine blk_far ?_ NB572_605.out _; (with_reducible repeat (first | refine blk_drewN ?_ _ | refine blk_drew ?_ | refine blk_alloc ?_ _)); exact BK572.out⟩, ⟨by (with_reducible repeat (first | refine blk_drewN ?_ _ | refine blk_drew ?_ | refine blk_alloc ?_ _)); refine blk_far ?_ NB577_605.out _; (with_reducible repeat (first | refine blk_drewN ?_ _ | refine blk_drew ?_ | refine blk_alloc ?_ _)); refine blk_far ?_ NB577_605.out _; (with_reducible repeat (first | refine blk_drewN ?_ _ | refine blk_drew ?_ | refine blk_alloc ?_ _)); refine blk_far ?_ NB577_605.out _; (with_reducible repeat (first | refine blk_drewN ?_ _ | refine blk_drew ?_ | refine blk_alloc ?_ _)); exact BK577.out⟩, ⟨by (with_reducible repeat (first | refine blk_drewN ?_ _ | refine blk_drew ?_ | refine blk_alloc ?_ _)); refine blk_far ?_ NB582_605.out _; (with_reducible repeat (first | refine blk_drewN ?_ _ | refine blk_drew ?_ | refine blk_alloc ?_ _)); refine blk_far ?_ NB582_605.out _; (with_reducible repeat (first | refine blk_drewN ?_ _ | refine blk_drew ?_ | refine blk_alloc ?_ _)); refine blk_far ?_ NB582_605.out _; (with_reducible repeat (first | refine blk_drewN ?_ _ | refine blk_drew ?_ | refine blk_alloc ?_ _)); exact BK582.out⟩, ⟨by (with_reducible repeat (first | refine blk_drewN ?_ _ | refine blk_drew ?_ | refine blk_alloc ?_ _)); refine blk_far ?_ NB600_605.out _; (with_reducible repeat (first | refine blk_drewN ?_ _ | refine blk_drew ?_ | refine blk_alloc ?_ _)); refine blk_far ?_ NB600_605.out _; (with_reducible repeat (first | refine blk_drewN ?_ _ | refine blk_drew ?_ | refine blk_alloc ?_ _)); refine blk_far ?_ NB600_605.out _; (with_reducible repeat (first | refine blk_drewN ?_ _ | refine blk_drew ?_ | refine blk_alloc ?_ _)); exact BK600.out⟩, ⟨by (with_reducible repeat (first | refine blk_drewN ?_ _ | refine blk_drew ?_ | refine blk_alloc ?_ _)); refine blk_put (cs := #[.string t601, .string t602, .int .i64 0]) ?_ 2 _ rfl; (with_reducible repeat (first | refine blk_drewN ?_ _ | refine blk_drew ?_ | refine blk_alloc ?_ _)); refine blk_put (cs := #[.string t601, .string (⟨#[]⟩ : ByteArray), .int .i64 0]) ?_ 1 _ rfl; (with_reducible repeat (first | refine blk_drewN ?_ _ | refine blk_drew ?_ | refine blk_alloc ?_ _)); refine blk_put (cs := #[.string (⟨#[]⟩ : ByteArray), .string (⟨#[]⟩ : ByteArray), .int .i64 0]) ?_ 0 _ rfl; (with_reducible repeat (first | refine blk_drewN ?_ _ | refine blk_drew ?_ | refine blk_alloc ?_ _)); exact BK605.out⟩, ⟨by repeat (first | (with_reducible first | exact HB.out | apply below_alloc | apply pw_below_drewN | apply below_drew1 | refine below_set ?_ GE571.out | refine below_set ?_ GE572.out | refine below_set ?_ GE577.out | refine below_set ?_ GE582.out | refine below_set ?_ GE600.out | refine below_set ?_ GE605.out) | exact HB.out)⟩⟩
        case rest =>
         as_aux_lemma =>
          clear HC55
          try clear c1
          try clear c2
          try clear p2
          try clear c3
          try clear c4
          try clear c5
          try clear c6
          try clear p6
          try clear c7
          try clear c8
          try clear c9
          try clear c18
          try clear c21
          try clear c23
          try clear c27
          try clear c30
          try clear c30b0
          try clear c30b1
          try clear c31
          try clear c33
          try clear c33b0
          try clear c33b1
          try clear c33b2
          try clear c37
          try clear c38
          try clear c48
          try clear c49
          try clear c49b0
          try clear c49b1
          try clear c52
          try clear c52b0
          try clear c52b1
          try clear c52b2
          try clear c56
          try clear c57
          try clear c58
          try clear c61
          try clear c62
          try clear p64
          try clear c68
          try clear c69
          try clear c70
          try clear c71
          try clear c76
          try clear c77
          try clear c78
          try clear c79
          try clear c80
          try clear c82
          try clear c83
          try clear c83b0
          try clear c83b1
          try clear c86
          try clear c87
          try clear c88
          try clear c89
          try clear c90
          try clear hcz59_0 hcz59_1 hcz59_2
          try clear hcz63_0 hcz63_1 hcz63_2
          try clear hcz65_0 hcz65_1 hcz65_2
          try clear hcz72_0 hcz72_1 hcz72_2
          try clear hcz73_0 hcz73_1 hcz73_2
          try clear hcz81_0 hcz81_1 hcz81_2
          try clear hcz91_0 hcz91_1 hcz91_2
          try clear hfz59_0 hfz59_1 hfz59_2
          try clear hfz63_0 hfz63_1 hfz63_2
          try clear hfz65_0 hfz65_1 hfz65_2
          try clear hfz72_0 hfz72_1 hfz72_2
          try clear hfz73_0 hfz73_1 hfz73_2
          try clear hfz81_0 hfz81_1 hfz81_2
          try clear hfz91_0 hfz91_1 hfz91_2
          try clear p2
          obtain ⟨kq, x106_54, rfl, HA, HJ54, HO_9, HO_11, BK571, BK572, BK577, BK582, BK600, BK605, HB⟩ := hcut
          cases kq with
          | zero => exact absurd HA.out (by simp [laws_FnLog.j1])
          | succ kj54 =>
           have H := HA.out; clear HA; simp only [laws_FnLog.j1] at H
           by_cases c94 : x106_54 = true
           ·
            subst c94
            have H1 : (none) = some r := by rw [if_pos rfl] at H; exact H
            clear H; have H := H1; clear H1; exact absurd H (by simp)
           ·
            replace c94 := Bool.eq_false_iff.mpr c94; subst c94
            have H1 : (laws_FnLog.l0 kj54 t587 t591 t598 t599 t604 0 t569 t570 t573 t574 t575 t595 t596 t597 t601 t602 t603) = some r := by rw [if_neg (show ¬ (false = true) by decide)] at H; exact H
            clear H; have H := H1; clear H1; have H' := Aside0.mk H; clear H
            go_wp2
            go_loopg [18] kj54 (fun kq v18 w' => ∃ (x18_3 : Int), v18 = .int .i64 x18_3 ∧ Aside0 (laws_FnLog.l0 kq t587 t591 t598 t599 t604 x18_3 t569 t570 t573 t574 t575 t595 t596 t597 t601 t602 t603 = some r) ∧ Aside0 (kq ≤ kj54) ∧ Aside0 (Kd.R k27 27 w' w.heap.size (fun k_ => some k_ ≠ (v592 : Value).ownBlock ∧ k_ ≠ gb572) v588 t587) ∧ Aside0 (Kd.R k27 27 w' w.heap.size (fun k_ => some k_ ≠ (v588 : Value).ownBlock ∧ k_ ≠ gb572) v592 t591) ∧ Aside0 (w'.heap[gb571]? = some (.cells #[.string t566, .string t567, .int .i64 t568] 31 (0, 0))) ∧ Aside0 (w'.heap[gb572]? = some (.cells #[.string t569, .string t570] 27 (0, 0))) ∧ Aside0 (w'.heap[gb577]? = some (.cells #[.string t573, .string t574, .int .i64 t575] 31 (0, 0))) ∧ Aside0 (w'.heap[gb582]? = some (.cells #[.string t578, .string t579, .int .i64 t580] 31 (0, 0))) ∧ Aside0 (w'.heap[gb600]? = some (.cells #[.string t595, .string t596, .int .i64 t597] 31 (0, 0))) ∧ Aside0 (w'.heap[gb605]? = some (.cells #[.string t601, .string t602, .int .i64 t603] 31 (0, 0))) ∧ Aside0 (Below w.heap.size w w'))
            case atStart => exact ⟨(0), (by first | rfl | (simp; done) | (simp [*]; done)), H', ⟨Nat.le_refl _⟩, ⟨kr_ HO_9.out⟩, ⟨kr_ HO_11.out⟩, ⟨bk_ BK571.out⟩, ⟨bk_ BK572.out⟩, ⟨bk_ BK577.out⟩, ⟨bk_ BK582.out⟩, ⟨bk_ BK600.out⟩, ⟨bk_ BK605.out⟩, ⟨by repeat (first | (with_reducible first | exact HB.out | apply below_alloc | apply pw_below_drewN | apply below_drew1 | refine below_set ?_ GE571.out | refine below_set ?_ GE572.out | refine below_set ?_ GE577.out | refine below_set ?_ GE582.out | refine below_set ?_ GE600.out | refine below_set ?_ GE605.out) | exact HB.out)⟩⟩
            case round =>
             as_aux_lemma =>
              clear H'
              try clear c1
              try clear c2
              try clear p2
              try clear c3
              try clear c4
              try clear c5
              try clear c6
              try clear p6
              try clear c7
              try clear c8
              try clear c9
              try clear c18
              try clear c21
              try clear c23
              try clear c27
              try clear c30
              try clear c30b0
              try clear c30b1
              try clear c31
              try clear c33
              try clear c33b0
              try clear c33b1
              try clear c33b2
              try clear c37
              try clear c38
              try clear c48
              try clear c49
              try clear c49b0
              try clear c49b1
              try clear c52
              try clear c52b0
              try clear c52b1
              try clear c52b2
              try clear c56
              try clear c57
              try clear c58
              try clear c61
              try clear c62
              try clear p64
              try clear c68
              try clear c69
              try clear c70
              try clear c71
              try clear c76
              try clear c77
              try clear c78
              try clear c79
              try clear c80
              try clear c82
              try clear c83
              try clear c83b0
              try clear c83b1
              try clear c86
              try clear c87
              try clear c88
              try clear c89
              try clear c90
              try clear c94
              try clear hcz59_0 hcz59_1 hcz59_2
              try clear hcz63_0 hcz63_1 hcz63_2
              try clear hcz65_0 hcz65_1 hcz65_2
              try clear hcz72_0 hcz72_1 hcz72_2
              try clear hcz73_0 hcz73_1 hcz73_2
              try clear hcz81_0 hcz81_1 hcz81_2
              try clear hcz91_0 hcz91_1 hcz91_2
              try clear hfz59_0 hfz59_1 hfz59_2
              try clear hfz63_0 hfz63_1 hfz63_2
              try clear hfz65_0 hfz65_1 hfz65_2
              try clear hfz72_0 hfz72_1 hfz72_2
              try clear hfz73_0 hfz73_1 hfz73_2
              try clear hfz81_0 hfz81_1 hfz81_2
              try clear hfz91_0 hfz91_1 hfz91_2
              try clear p2
              try clear p6
              try clear p64
              obtain ⟨x18_3, rfl, HA, HK3, HO_9, HO_11, BK571, BK572, BK577, BK582, BK600, BK605, HB⟩ := hrel
              cases gk with
              | zero => exact absurd HA.out (by simp [laws_FnLog.l0])
              | succ k3 =>
               have H := HA.out; clear HA; simp only [laws_FnLog.l0] at H
               by_cases c95 : x18_3 < (t591.length : Int)
               ·
                rw [if_pos c95] at H
                have c95b0 : decide (x18_3 < (t591.length : Int)) = true := decide_eq_true c95; clear c95
                by_cases c96 : 0 ≤ x18_3
                ·
                 rw [if_pos c96] at H
                 have c96b0 : decide (0 ≤ x18_3) = true := decide_eq_true c96; clear c96
                 by_cases c97 : x18_3 < (t587.length : Int)
                 ·
                  rw [if_pos c97] at H
                  have c97b0 : decide (x18_3 < (t587.length : Int)) = true := decide_eq_true c97; clear c97
                  by_cases c98 : (!((((rd_T27 t587 x18_3).f0).toList) == (((rd_T27 t591 x18_3).f0).toList)) || (!((((rd_T27 t587 x18_3).f1).toList) == (((rd_T27 t591 x18_3).f1).toList)))) = true
                  ·
                   rw [if_pos c98] at H
                   exact absurd H (by simp)
                  ·
                   rw [if_neg c98] at H
                   have c98b0 : (!((((rd_T27 t587 x18_3).f0).toList) == (((rd_T27 t591 x18_3).f0).toList)) || (!((((rd_T27 t587 x18_3).f1).toList) == (((rd_T27 t591 x18_3).f1).toList)))) = false := by simpa using c98
                   clear c98; have H' := Aside0.mk H; clear H; obtain ⟨Ao99, co99, eo99⟩ := Kd.R_slice HO_11.out; subst eo99
                   try go_wp2
                   replace HO_9 := Aside0.mk (Kd.R_drew HO_9.out); replace HO_11 := Aside0.mk (Kd.R_drew HO_11.out); replace BK571 := Aside0.mk (blk_drew BK571.out); replace BK572 := Aside0.mk (blk_drew BK572.out); replace BK577 := Aside0.mk (blk_drew BK577.out); replace BK582 := Aside0.mk (blk_drew BK582.out); replace BK600 := Aside0.mk (blk_drew BK600.out); replace BK605 := Aside0.mk (blk_drew BK605.out); replace HB := Aside0.mk (below_drew1 HB.out); obtain ⟨Ao101, co101, eo101⟩ := Kd.R_slice HO_9.out
                   (first | subst eo101 | (injection eo101 with f1_ f2_ f3_; have f4_ := f1_.symm; have f5_ := f3_.symm; clear f1_ f2_ f3_; subst f4_; subst f5_))
                   have p606 : 0 ≤ (x18_3 : Int) := dt_; have q606 : x18_3 < (t587.length : Int) := dt_; obtain ⟨ad606, e606, hx606_0, hx606_1⟩ := at_T27 (Kd.R_reads' HO_9.out).2.2 x18_3 p606 q606
                   cases e606
                   replace p606 := eq_true p606; replace q606 := eq_true q606; have p607 : 0 ≤ (x18_3 : Int) := dt_; have q607 : x18_3 < (t591.length : Int) := dt_; obtain ⟨ad607, e607, hx607_0, hx607_1⟩ := at_T27 (Kd.R_reads' HO_11.out).2.2 x18_3 p607 q607
                   cases e607
                   replace p607 := eq_true p607; replace q607 := eq_true q607; refine start_ (n := 9) (S := fun w' => w'.cell? (ad606.add ((x18_3).toNat * 2)) = some (.string ((rd_T27 t587 x18_3).f0)) ∧ w'.cell? ⟨(ad606.add ((x18_3).toNat * 2)).block, (ad606.add ((x18_3).toNat * 2)).off + 1, none⟩ = some (.string ((rd_T27 t587 x18_3).f1)) ∧ w'.cell? (ad607.add ((x18_3).toNat * 2)) = some (.string ((rd_T27 t591 x18_3).f0)) ∧ w'.cell? ⟨(ad607.add ((x18_3).toNat * 2)).block, (ad607.add ((x18_3).toNat * 2)).off + 1, none⟩ = some (.string ((rd_T27 t591 x18_3).f1))) (ds := []) laws_FnLog.mk25 (by kernel_rfl) rfl rfl ⟨hx606_0, hx606_1, hx607_0, hx607_1⟩ (fun hHeld => ?_); refine with_tabW laws_FnLog.tab19 laws_FnLog.bits19 (fun HT_ HW_ => ?_); generalize wr.drew = w100 at HO_9 HO_11 BK571 BK572 BK577 BK582 BK600 BK605 HB hx606_0 hx606_1 hx607_0 hx607_1 hHeld ⊢; refine pz_ HT_ 0 (some 113) laws_FnLog.mk26 ?_; refine pz_ HT_ 1 (some 114) laws_FnLog.mk27 ?_; refine pz_ HT_ 2 (some 115) laws_FnLog.mk28 ?_; refine pz_ HT_ 4 (some 117) laws_FnLog.mk29 ?_; refine pz_ HT_ 5 (some 118) laws_FnLog.mk30 ?_; refine pz_ HT_ 6 (some 119) laws_FnLog.mk31 ?_; refine take_ (i := 3) (N := some 116) (v := ?_) (a' := ?_) laws_FnLog.mk32 rfl rfl (take_ofW HT_.out HW_.out (by kernel_rfl)) (fun _ _ _ h => h) (Or.inl ⟨by rfl, ?_⟩) hHeld ?_ ?_; rotate_left
                   ·
                    rintro w' ⟨s0, s1, s2, s3⟩; (try simp only [Go.IntWalk.toNatUp] at s0 s1 s2 s3); go_simp; (with_reducible rfl)
                   rotate_left
                   ·
                    simp only [Act.put, List.setIfInBounds_toArray, List.set_cons_zero, List.set_cons_succ, i64_w, i32_w]; rfl
                   refine take_ (i := 7) (N := some 120) (v := ?_) (a' := ?_) laws_FnLog.mk33 rfl rfl (take_ofW HT_.out HW_.out (by kernel_rfl)) (fun _ _ _ h => h) (Or.inl ⟨by rfl, ?_⟩) hHeld ?_ ?_; rotate_left
                   ·
                    rintro w' ⟨s0, s1, s2, s3⟩; (try simp only [Go.IntWalk.toNatUp] at s0 s1 s2 s3); go_simp; (with_reducible rfl)
                   rotate_left
                   ·
                    simp only [Act.put, List.setIfInBounds_toArray, List.set_cons_zero, List.set_cons_succ, i64_w, i32_w]; rfl
                   refine pz_ HT_ 8 (some 121) laws_FnLog.mk34 ?_; refine done_ (done_of HT_.out (by kernel_rfl)) ?_
                   try go_wp2
                   go_roundg k3
                   case measure => have := HJ6.out; have := HJ54.out; have := HK3.out; omega
                   case rel => exact ⟨(wrap64 (x18_3 + 1)), (by first | rfl | (simp; done) | (simp [*]; done)), H', ⟨by have := HJ6.out; have := HJ54.out; have := HK3.out; omega⟩, ⟨kr_ HO_9.out⟩, ⟨kr_ HO_11.out⟩, ⟨bk_ BK571.out⟩, ⟨bk_ BK572.out⟩, ⟨bk_ BK577.out⟩, ⟨bk_ BK582.out⟩, ⟨bk_ BK600.out⟩, ⟨bk_ BK605.out⟩, ⟨by repeat (first | (with_reducible first | exact HB.out | apply below_alloc | apply pw_below_drewN | apply below_drew1 | refine below_set ?_ GE571.out | refine below_set ?_ GE572.out | refine below_set ?_ GE577.out | refine below_set ?_ GE582.out | refine below_set ?_ GE600.out | refine below_set ?_ GE605.out) | exact HB.out)⟩⟩
                 ·
                  rw [if_neg c97] at H
                  exact absurd H (by simp)
                ·
                 rw [if_neg c96] at H
                 exact absurd H (by simp)
               ·
                rw [if_neg c95] at H
                have c95b0 : decide (x18_3 < (t591.length : Int)) = false := decide_eq_false c95; clear c95
                by_cases c102 : 0 ≤ (t591.length : Int)
                ·
                 rw [if_pos c102] at H
                 have c102b0 : decide (0 ≤ (t591.length : Int)) = true := decide_eq_true c102; have c102b1 : decide (0 ≤ t591.length) = true := decide_eq_true (by omega); clear c102
                 by_cases c103 : (t591.length : Int) < (t587.length : Int)
                 ·
                  rw [if_pos c103] at H
                  have c103b0 : decide ((t591.length : Int) < (t587.length : Int)) = true := decide_eq_true c103; have c103b1 : decide (t591.length < t587.length) = true := decide_eq_true (Int.ofNat_lt.mp c103); clear c103
                  by_cases c104 : ((((rd_T27 t587 (t591.length : Int)).f0).toList) == t569.toList && ((((rd_T27 t587 (t591.length : Int)).f1).toList) == t570.toList)) = true
                  ·
                   rw [if_pos c104] at H
                   have c104b0 : ((((rd_T27 t587 (t591.length : Int)).f0).toList) == t569.toList && ((((rd_T27 t587 (t591.length : Int)).f1).toList) == t570.toList)) = true := c104; (try (have c104b1 : decide ((((rd_T27 t587 (t591.length : Int)).f0).toList) = t569.toList && ((((rd_T27 t587 (t591.length : Int)).f1).toList) == t570.toList)) = true := by simpa using c104)); (try (have c104b2 : ((((rd_T27 t587 (t591.length : Int)).f0).toList) == t569.toList && ((((rd_T27 t587 (t591.length : Int)).f1).toList) == t570.toList)) = true := by simpa using c104)); clear c104
                   by_cases c105 : t599 = true
                   ·
                    subst c105
                    have H1 : (if t573.size + t574.size ≤ 9223372036854775807 then (if t598 = ((sc t573 t574).size : Int) then (if t604 = true then (if (t601.toList == t595.toList && (t602.toList == t596.toList && (t603 == t597))) = true then ((impl_IsValidLog.f k3 t573 t574 t575).bind fun t609 => (some t609)) else (none)) else (none)) else (none)) else (none)) = some r := by rw [if_pos rfl] at H; exact H
                    clear H; have H := H1; clear H1
                    by_cases c106 : t573.size + t574.size ≤ 9223372036854775807
                    ·
                     rw [if_pos c106] at H
                     have c106b0 := eq_true c106; have c106b1 : decide (t573.size + t574.size ≤ 9223372036854775807) = true := decide_eq_true c106
                     try have c106b2 : (9223372036854775807 < t573.size + t574.size) = False := eq_false (Nat.not_lt.2 c106)
                     by_cases c107 : t598 = ((sc t573 t574).size : Int)
                     ·
                      rw [if_pos c107] at H
                      have c107b0 : (t598 == ((sc t573 t574).size : Int)) = true := beq_iff_eq.mpr c107; have c107b1 : (t598 != ((sc t573 t574).size : Int)) = false := bne_eq_false_iff_eq.mpr c107; clear c107
                      by_cases c108 : t604 = true
                      ·
                       subst c108
                       have H1 : (if (t601.toList == t595.toList && (t602.toList == t596.toList && (t603 == t597))) = true then ((impl_IsValidLog.f k3 t573 t574 t575).bind fun t609 => (some t609)) else (none)) = some r := by rw [if_pos rfl] at H; exact H
                       clear H; have H := H1; clear H1
                       by_cases c109 : (t601.toList == t595.toList && (t602.toList == t596.toList && (t603 == t597))) = true
                       ·
                        rw [if_pos c109] at H
                        have c109b0 : (t601.toList == t595.toList && (t602.toList == t596.toList && (t603 == t597))) = true := c109; (try (have c109b1 : decide (t601.toList = t595.toList && (t602.toList == t596.toList && (t603 == t597))) = true := by simpa using c109)); (try (have c109b2 : (t601.toList == t595.toList && (t602.toList == t596.toList && (t603 == t597))) = true := by simpa using c109)); clear c109; replace H := Option.bind_eq_some_iff.mp H; obtain ⟨t609, A1100, H⟩ := H; replace H : (some t609) = some r := H; have A110 := Aside0.mk A1100; clear A1100; obtain rfl := Option.some.inj H; obtain ⟨Ao111, co111, eo111⟩ := Kd.R_slice HO_11.out; subst eo111
                        try go_wp2
                        replace HO_9 := Aside0.mk (Kd.R_drew HO_9.out); replace HO_11 := Aside0.mk (Kd.R_drew HO_11.out); replace BK571 := Aside0.mk (blk_drew BK571.out); replace BK572 := Aside0.mk (blk_drew BK572.out); replace BK577 := Aside0.mk (blk_drew BK577.out); replace BK582 := Aside0.mk (blk_drew BK582.out); replace BK600 := Aside0.mk (blk_drew BK600.out); replace BK605 := Aside0.mk (blk_drew BK605.out); replace HB := Aside0.mk (below_drew1 HB.out); obtain ⟨Ao113, co113, eo113⟩ := Kd.R_slice HO_9.out
                        (first | subst eo113 | (injection eo113 with f1_ f2_ f3_; have f4_ := f1_.symm; have f5_ := f3_.symm; clear f1_ f2_ f3_; subst f4_; subst f5_))
                        have p608 : 0 ≤ ((t591.length : Int) : Int) := dt_; have q608 : (t591.length : Int) < (t587.length : Int) := dt_; obtain ⟨ad608, e608, hx608_0, hx608_1⟩ := at_T27 (Kd.R_reads' HO_9.out).2.2 (t591.length : Int) p608 q608
                        cases e608
                        (try simp only [Go.IntWalk.toNatUp] at hx608_0); (try simp only [Go.IntWalk.toNatUp] at hx608_1); replace p608 := eq_true p608; replace q608 := eq_true q608; refine start_ (n := 33) (S := fun w' => w'.cell? ⟨gb572, 0, none⟩ = some (.string t569) ∧ w'.cell? ⟨gb572, 1, none⟩ = some (.string t570) ∧ w'.cell? ⟨gb577, 0, none⟩ = some (.string t573) ∧ w'.cell? ⟨gb577, 1, none⟩ = some (.string t574) ∧ w'.cell? ⟨gb577, 2, none⟩ = some (.int .i64 t575) ∧ w'.cell? ⟨gb605, 0, none⟩ = some (.string t601) ∧ w'.cell? ⟨gb605, 1, none⟩ = some (.string t602) ∧ w'.cell? ⟨gb605, 2, none⟩ = some (.int .i64 t603) ∧ w'.cell? ⟨gb600, 0, none⟩ = some (.string t595) ∧ w'.cell? ⟨gb600, 1, none⟩ = some (.string t596) ∧ w'.cell? ⟨gb600, 2, none⟩ = some (.int .i64 t597) ∧ w'.cell? (ad608.add (((t591.length : Int)).toNat * 2)) = some (.string ((rd_T27 t587 (t591.length : Int)).f0)) ∧ w'.cell? ⟨(ad608.add (((t591.length : Int)).toNat * 2)).block, (ad608.add (((t591.length : Int)).toNat * 2)).off + 1, none⟩ = some (.string ((rd_T27 t587 (t591.length : Int)).f1))) (ds := []) laws_FnLog.mk35 (by kernel_rfl) rfl rfl ⟨(blk_cell BK572.out 0).trans rfl, (blk_cell BK572.out 1).trans rfl, (blk_cell BK577.out 0).trans rfl, (blk_cell BK577.out 1).trans rfl, (blk_cell BK577.out 2).trans rfl, (blk_cell BK605.out 0).trans rfl, (blk_cell BK605.out 1).trans rfl, (blk_cell BK605.out 2).trans rfl, (blk_cell BK600.out 0).trans rfl, (blk_cell BK600.out 1).trans rfl, (blk_cell BK600.out 2).trans rfl, hx608_0, hx608_1⟩ (fun hHeld => ?_); refine with_tabW laws_FnLog.tab21 laws_FnLog.bits21 (fun HT_ HW_ => ?_); generalize wr.drew = w112 at HO_9 HO_11 BK571 BK572 BK577 BK582 BK600 BK605 HB hx608_0 hx608_1 hHeld ⊢; refine pz_ HT_ 0 (some 122) laws_FnLog.mk36 ?_; refine pz_ HT_ 1 (some 123) laws_FnLog.mk37 ?_; refine pz_ HT_ 2 (some 124) laws_FnLog.mk38 ?_; refine pz_ HT_ 3 (some 125) laws_FnLog.mk39 ?_; refine take_ (i := 4) (N := some 126) (v := ?_) (a' := ?_) laws_FnLog.mk40 rfl rfl (take_ofW HT_.out HW_.out (by kernel_rfl)) (fun _ _ _ h => h) (Or.inl ⟨by rfl, ?_⟩) hHeld ?_ ?_; rotate_left
                        ·
                         rintro w' ⟨s0, s1, s2, s3, s4, s5, s6, s7, s8, s9, s10, s11, s12⟩; (try simp only [Go.IntWalk.toNatUp] at s0 s1 s2 s3 s4 s5 s6 s7 s8 s9 s10 s11 s12); go_simp; (with_reducible rfl)
                        rotate_left
                        ·
                         simp only [Act.put, List.setIfInBounds_toArray, List.set_cons_zero, List.set_cons_succ, i64_w, i32_w]; rfl
                        refine take_ (i := 5) (N := some 127) (v := ?_) (a' := ?_) laws_FnLog.mk41 rfl rfl (take_ofW HT_.out HW_.out (by kernel_rfl)) (fun _ _ _ h => h) (Or.inl ⟨by rfl, ?_⟩) hHeld ?_ ?_; rotate_left
                        ·
                         rintro w' ⟨s0, s1, s2, s3, s4, s5, s6, s7, s8, s9, s10, s11, s12⟩; (try simp only [Go.IntWalk.toNatUp] at s0 s1 s2 s3 s4 s5 s6 s7 s8 s9 s10 s11 s12); go_simp; (with_reducible rfl)
                        rotate_left
                        ·
                         simp only [Act.put, List.setIfInBounds_toArray, List.set_cons_zero, List.set_cons_succ, i64_w, i32_w]; rfl
                        refine pz_ HT_ 6 (some 128) laws_FnLog.mk42 ?_; refine pz_ HT_ 7 (some 129) laws_FnLog.mk43 ?_; refine pz_ HT_ 8 (some 130) laws_FnLog.mk44 ?_; refine pz_ HT_ 9 (some 131) laws_FnLog.mk45 ?_; refine pz_ HT_ 10 (some 132) laws_FnLog.mk46 ?_; refine pz_ HT_ 11 (some 133) laws_FnLog.mk47 ?_; refine pz_ HT_ 12 (some 134) laws_FnLog.mk48 ?_; refine pz_ HT_ 14 (some 136) laws_FnLog.mk49 ?_; refine take_ (i := 13) (N := some 135) (v := ?_) (a' := ?_) laws_FnLog.mk50 rfl rfl (take_ofW HT_.out HW_.out (by kernel_rfl)) (fun _ _ _ h => h) (Or.inl ⟨by rfl, ?_⟩) hHeld ?_ ?_; rotate_left
                        ·
                         rintro w' ⟨s0, s1, s2, s3, s4, s5, s6, s7, s8, s9, s10, s11, s12⟩; (try simp only [Go.IntWalk.toNatUp] at s0 s1 s2 s3 s4 s5 s6 s7 s8 s9 s10 s11 s12); go_simp; (with_reducible rfl)
                        rotate_left
                        ·
                         simp only [Act.put, List.setIfInBounds_toArray, List.set_cons_zero, List.set_cons_succ, i64_w, i32_w]; rfl
                        refine take_ (i := 15) (N := some 137) (v := ?_) (a' := ?_) laws_FnLog.mk51 rfl rfl (take_ofW HT_.out HW_.out (by kernel_rfl)) (fun _ _ _ h => h) (Or.inl ⟨by rfl, ?_⟩) hHeld ?_ ?_; rotate_left
                        ·
                         rintro w' ⟨s0, s1, s2, s3, s4, s5, s6, s7, s8, s9, s10, s11, s12⟩; (try simp only [Go.IntWalk.toNatUp] at s0 s1 s2 s3 s4 s5 s6 s7 s8 s9 s10 s11 s12); go_simp; (with_reducible rfl)
                        rotate_left
                        ·
                         simp only [Act.put, List.setIfInBounds_toArray, List.set_cons_zero, List.set_cons_succ, i64_w, i32_w]; rfl
                        refine pz_ HT_ 16 (some 138) laws_FnLog.mk52 ?_; refine pz_ HT_ 17 (some 139) laws_FnLog.mk53 ?_; refine pz_ HT_ 18 (some 140) laws_FnLog.mk54 ?_; refine pz_ HT_ 19 (some 141) laws_FnLog.mk55 ?_; refine pz_ HT_ 20 (some 142) laws_FnLog.mk56 ?_; refine pz_ HT_ 21 (some 143) laws_FnLog.mk57 ?_; refine pz_ HT_ 22 (some 144) laws_FnLog.mk58 ?_; refine pz_ HT_ 23 (some 145) laws_FnLog.mk59 ?_; refine take_ (i := 24) (N := some 146) (v := ?_) (a' := ?_) laws_FnLog.mk60 rfl rfl (take_ofW HT_.out HW_.out (by kernel_rfl)) (fun _ _ _ h => h) (Or.inl ⟨by rfl, ?_⟩) hHeld ?_ ?_; rotate_left
                        ·
                         rintro w' ⟨s0, s1, s2, s3, s4, s5, s6, s7, s8, s9, s10, s11, s12⟩; (try simp only [Go.IntWalk.toNatUp] at s0 s1 s2 s3 s4 s5 s6 s7 s8 s9 s10 s11 s12); go_simp; (with_reducible rfl)
                        rotate_left
                        ·
                         simp only [Act.put, List.setIfInBounds_toArray, List.set_cons_zero, List.set_cons_succ, i64_w, i32_w]; rfl
                        refine take_ (i := 25) (N := some 147) (v := ?_) (a' := ?_) laws_FnLog.mk61 rfl rfl (take_ofW HT_.out HW_.out (by kernel_rfl)) (fun _ _ _ h => h) (Or.inl ⟨by rfl, ?_⟩) hHeld ?_ ?_; rotate_left
                        ·
                         rintro w' ⟨s0, s1, s2, s3, s4, s5, s6, s7, s8, s9, s10, s11, s12⟩; (try simp only [Go.IntWalk.toNatUp] at s0 s1 s2 s3 s4 s5 s6 s7 s8 s9 s10 s11 s12); go_simp; (with_reducible rfl)
                        rotate_left
                        ·
                         simp only [Act.put, List.setIfInBounds_toArray, List.set_cons_zero, List.set_cons_succ, i64_w, i32_w]; rfl
                        refine pz_ HT_ 26 (some 148) laws_FnLog.mk62 ?_; refine pz_ HT_ 27 (some 149) laws_FnLog.mk63 ?_; refine pz_ HT_ 28 (some 150) laws_FnLog.mk64 ?_; refine take_ (i := 29) (N := some 151) (v := ?_) (a' := ?_) laws_FnLog.mk65 rfl rfl (take_ofW HT_.out HW_.out (by kernel_rfl)) (fun _ _ _ h => h) (Or.inl ⟨by rfl, ?_⟩) hHeld ?_ ?_; rotate_left
                        ·
                         rintro w' ⟨s0, s1, s2, s3, s4, s5, s6, s7, s8, s9, s10, s11, s12⟩; (try simp only [Go.IntWalk.toNatUp] at s0 s1 s2 s3 s4 s5 s6 s7 s8 s9 s10 s11 s12); go_simp; (with_reducible rfl)
                        rotate_left
                        ·
                         simp only [Act.put, List.setIfInBounds_toArray, List.set_cons_zero, List.set_cons_succ, i64_w, i32_w]; rfl
                        refine one_ (i := 30) (N := some 152) laws_FnLog.mk66 rfl rfl (one_of HT_.out (by kernel_rfl)) (by decide) (fun K hK => ?_); refine gs_ Tryd.func23 #[.agg #[.string t573, .string t574, .int .i64 t575]] ?_; (with_reducible refine (impl_IsValidLog.calls k3 t573 t574 t575 t609 _ A110.out ?sideT).mono ?_)
                        case sideT => first | exact HT.out | exact Tb.step HT.out HB.out | exact Tb.step HT.out (by repeat (first | (with_reducible first | exact HB.out | apply below_alloc | apply pw_below_drewN | apply below_drew1 | refine below_set ?_ GE571.out | refine below_set ?_ GE572.out | refine below_set ?_ GE577.out | refine below_set ?_ GE582.out | refine below_set ?_ GE600.out | refine below_set ?_ GE605.out) | exact HB.out | exact Below.refl _ _))
                        rintro e w114 ⟨rfl, hb⟩; have HS11_ := (hb.cell (World.block_lt_of_cell? _ _ (hHeld.2.2.2.2.2.2.2.2.2.2.2.1))).trans (hHeld.2.2.2.2.2.2.2.2.2.2.2.1); have HS12_ := (hb.cell (World.block_lt_of_cell? _ _ (hHeld.2.2.2.2.2.2.2.2.2.2.2.2))).trans (hHeld.2.2.2.2.2.2.2.2.2.2.2.2); refine ⟨_, rfl, ?_⟩; replace HO_9 := Aside0.mk (Kd.R_below (kr_ HO_9.out) hb); replace HO_11 := Aside0.mk (Kd.R_below (kr_ HO_11.out) hb); replace BK571 := Aside0.mk (bb_ (bk_ BK571.out) hb); replace BK572 := Aside0.mk (bb_ (bk_ BK572.out) hb); replace BK577 := Aside0.mk (bb_ (bk_ BK577.out) hb); replace BK582 := Aside0.mk (bb_ (bk_ BK582.out) hb); replace BK600 := Aside0.mk (bb_ (bk_ BK600.out) hb); replace BK605 := Aside0.mk (bb_ (bk_ BK605.out) hb); replace HB := Aside0.mk (below_step (by repeat (first | (with_reducible first | exact HB.out | apply below_alloc | apply pw_below_drewN | apply below_drew1 | refine below_set ?_ GE571.out | refine below_set ?_ GE572.out | refine below_set ?_ GE577.out | refine below_set ?_ GE582.out | refine below_set ?_ GE600.out | refine below_set ?_ GE605.out) | exact HB.out)) hb); (try clear hb); (try clear hb2); (try clear hk); (try clear hi); refine hK.out _ _ ⟨(blk_cell BK572.out 0).trans rfl, (blk_cell BK572.out 1).trans rfl, (blk_cell BK577.out 0).trans rfl, (blk_cell BK577.out 1).trans rfl, (blk_cell BK577.out 2).trans rfl, (blk_cell BK605.out 0).trans rfl, (blk_cell BK605.out 1).trans rfl, (blk_cell BK605.out 2).trans rfl, (blk_cell BK600.out 0).trans rfl, (blk_cell BK600.out 1).trans rfl, (blk_cell BK600.out 2).trans rfl, HS11_, HS12_⟩ (fun hHeld => ?_); clear hK K; refine na_ ?_; refine pz_ HT_ 31 (some 153) laws_FnLog.mk67 ?_; refine pz_ HT_ 32 (some 2) laws_FnLog.mk68 ?_; refine done_ (done_of HT_.out (by kernel_rfl)) ?_
                        try go_wp2
                        go_ret
                        exact ⟨rr_, by repeat (first | (with_reducible first | exact HB.out | apply below_alloc | apply pw_below_drewN | apply below_drew1 | refine below_set ?_ GE571.out | refine below_set ?_ GE572.out | refine below_set ?_ GE577.out | refine below_set ?_ GE582.out | refine below_set ?_ GE600.out | refine below_set ?_ GE605.out) | exact HB.out)⟩
                       ·
                        rw [if_neg c109] at H
                        have c109b0 : (t601.toList == t595.toList && (t602.toList == t596.toList && (t603 == t597))) = false := by simpa using c109
                        (try (have c109b1 : decide (t601.toList = t595.toList && (t602.toList == t596.toList && (t603 == t597))) = false := by simpa using c109)); (try (have c109b2 : (t601.toList == t595.toList && (t602.toList == t596.toList && (t603 == t597))) = false := by simpa using c109)); (try (have c109b3 : ¬ (t601.toList = t595.toList && (t602.toList == t596.toList && (t603 == t597))) := by simpa using c109)); clear c109; exact absurd H (by simp)
                      ·
                       replace c108 := Bool.eq_false_iff.mpr c108; subst c108
                       have H1 : (none) = some r := by rw [if_neg (show ¬ (false = true) by decide)] at H; exact H
                       clear H; have H := H1; clear H1; exact absurd H (by simp)
                     ·
                      rw [if_neg c107] at H
                      have c107b0 : (t598 == ((sc t573 t574).size : Int)) = false := beq_eq_false_iff_ne.mpr c107; have c107b1 : (t598 != ((sc t573 t574).size : Int)) = true := bne_iff_ne.mpr c107; exact absurd H (by simp)
                    ·
                     rw [if_neg c106] at H
                     exact absurd H (by simp)
                   ·
                    replace c105 := Bool.eq_false_iff.mpr c105; subst c105
                    have H1 : (none) = some r := by rw [if_neg (show ¬ (false = true) by decide)] at H; exact H
                    clear H; have H := H1; clear H1; exact absurd H (by simp)
                  ·
                   rw [if_neg c104] at H
                   have c104b0 : ((((rd_T27 t587 (t591.length : Int)).f0).toList) == t569.toList && ((((rd_T27 t587 (t591.length : Int)).f1).toList) == t570.toList)) = false := by simpa using c104
                   (try (have c104b1 : decide ((((rd_T27 t587 (t591.length : Int)).f0).toList) = t569.toList && ((((rd_T27 t587 (t591.length : Int)).f1).toList) == t570.toList)) = false := by simpa using c104)); (try (have c104b2 : ((((rd_T27 t587 (t591.length : Int)).f0).toList) == t569.toList && ((((rd_T27 t587 (t591.length : Int)).f1).toList) == t570.toList)) = false := by simpa using c104)); (try (have c104b3 : ¬ ((((rd_T27 t587 (t591.length : Int)).f0).toList) = t569.toList && ((((rd_T27 t587 (t591.length : Int)).f1).toList) == t570.toList)) := by simpa using c104)); clear c104; exact absurd H (by simp)
                 ·
                  rw [if_neg c103] at H
                  exact absurd H (by simp)
                ·
                 rw [if_neg c102] at H
                 exact absurd H (by simp)
       ·
        rw [if_neg c52] at H
        exact absurd H (by simp)
      ·
       rw [if_neg c49] at H
       have c49b0 : (t576 == 0) = false := beq_eq_false_iff_ne.mpr c49
       have c49b1 : (t576 != 0) = true := bne_iff_ne.mpr c49
       obtain rfl := Option.some.inj H
       have hnb115 := NB577_571.out
       have hnc115 := NB571_577.out
       have hnb116 := NB577_572.out
       have hnc116 := NB572_577.out
       have hnb117 := NB577_582.out
       have hnc117 := NB582_577.out
       obtain ⟨hcz118_0, hcz118_1, hcz118_2⟩ := cz3_ BK577.out
       obtain ⟨hfz118_0, hfz118_1, hfz118_2⟩ := fz3_ BK577.out
       have hnb119 := NB571_572.out
       have hnc119 := NB572_571.out
       have hnb120 := NB571_582.out
       have hnc120 := NB582_571.out
       obtain ⟨hcz121_0, hcz121_1, hcz121_2⟩ := cz3_ BK571.out
       obtain ⟨hfz121_0, hfz121_1, hfz121_2⟩ := fz3_ BK571.out
       go_wp2
       go_ret
       exact ⟨rr_, by repeat (first | (with_reducible first | exact HB.out | apply below_alloc | apply pw_below_drewN | apply below_drew1 | refine below_set ?_ GE571.out | refine below_set ?_ GE572.out | refine below_set ?_ GE577.out | refine below_set ?_ GE582.out) | exact HB.out)⟩
end Go.Proofs.YtdpinnhgkocjhaaDoor.Pr

namespace Go.Proofs.YtdpinnhgkocjhaaDoorW.Opens
open Go.ChangeShapes Go.WideShapes Go.RowKit
open Go.Deep (open_slice choose_lt)
open Go.Proofs.YtdpinnhgkocjhaaDoorW.PrintWords
set_option linter.unusedVariables false
set_option linter.unusedSimpArgs false
def Opn {α : Type} (P : Program) (t : TypeId) (d : Kd α) (wf : α → Prop) : Prop :=
 P.cellsOf t = d.sz ∧ ∀ (H : Type) (enc : TypeId × Value → H) (W : World) (fuel : Nat) (cs : List Value) (x : DataW H × List MemPlace),
  DataW.trod enc P W 0 (fun _ => true) true fuel t cs = some x → (∀ n ∈ x.1.weights P t, n ≤ reachBytes) → ∃ y, d.K W y cs ∧ wf y
theorem Opn.int {P : Program} {t : TypeId} {k : IntKind} (hc : P.cellsOf t = 1) (ht : P.underlying t = some (.int k)) : Opn P t (Kd.int k) (fun n => (Lit.int k n).wf = true) :=
 ⟨hc, fun H enc W fuel cs x h _ => by
  obtain ⟨m, rfl, rfl, hw⟩ := DataW.trod_int ht h
  exact ⟨m, rfl, hw⟩⟩
theorem Opn.bool {P : Program} {t : TypeId} (hc : P.cellsOf t = 1) (ht : P.underlying t = some .bool) : Opn P t Kd.bool (fun _ => True) :=
 ⟨hc, fun H enc W fuel cs x h _ => by
  obtain ⟨m, rfl, rfl⟩ := DataW.trod_bool ht h
  exact ⟨m, rfl, trivial⟩⟩
theorem Opn.string {P : Program} {t : TypeId} (hc : P.cellsOf t = 1) (ht : P.underlying t = some .string) : Opn P t Kd.string (fun s => s.size ≤ 140737488351232) :=
 ⟨hc, fun H enc W fuel cs x h hw => by
  obtain ⟨m, rfl, rfl, hm⟩ := DataW.trod_string ht h
  have := hw m.data.toList.length (by simp [DataW.weights])
  rw [Array.length_toList] at this
  exact ⟨m, rfl, this⟩⟩
theorem weightsAll_mem {H : Type} {P : Program} {e : TypeId} : ∀ {l : List (DataW H)} {d : DataW H}, d ∈ l → ∀ n ∈ d.weights P e, n ∈ DataW.weightsAll P e l
 | _ :: r, d, h, n, hn => by
  simp only [DataW.weightsAll, List.mem_append]
  rcases List.mem_cons.1 h with rfl | h
  ·
   exact .inl hn
  ·
   exact .inr (weightsAll_mem h n hn)
theorem Opn.slice {α : Type} (z : α) {P : Program} {t e : TypeId} {d : Kd α} {wf : α → Prop} {B : Nat} (hc : P.cellsOf t = 1) (ht : P.underlying t = some (.slice e)) (hB : P.bytesOf e = B) (h : Opn P e d wf) :
  Opn P t (Kd.slice e d) (fun xs => xs.length ≤ maxLen ∧ xs.length * B ≤ 140737488351232 ∧ ∀ y ∈ xs, wf y) :=
 ⟨hc, fun H enc W fuel cs x hf hw => by
  haveI : Inhabited α := ⟨z⟩
  rcases open_slice ht hf with ⟨rfl, rfl⟩ | ⟨a, len, cap, m, n, D, Pl, rfl, _, hl, hm, hmm, rfl, each⟩
  ·
   exact ⟨[], ⟨none, 0, rfl, Nat.le_refl _, rfl, by simp, fun h => absurd h (Nat.lt_irrefl 0)⟩, by simp, by simp, by simp⟩
  ·
   rw [if_pos rfl] at hmm
   subst hmm
   have hw0 : ∀ n ∈ DataW.weights P t (DataW.slice (H := H) ((List.range len).map D) ((List.range (m - len)).map fun j => D (len + j))), n ≤ reachBytes := hw
   have hww : ∀ i, i < len → ∀ n ∈ (D i).weights P e, n ≤ reachBytes := by
    intro i hi n hn
    refine hw0 n ?_
    simp only [DataW.weights, ht, List.mem_cons, List.mem_append]
    exact .inr (.inl (weightsAll_mem (List.mem_map.2 ⟨i, List.mem_range.2 hi, rfl⟩) n hn))
   have hB2 : len * B ≤ 140737488351232 := by
    have := hw0 ((len + (m - len)) * B) (by simp [DataW.weights, ht, hB])
    refine Nat.le_trans (Nat.mul_le_mul_right _ (by omega)) this
   have hx : ∀ i, i < len → ∃ y, ∃ c : List Value, c.length = d.sz ∧ d.K W y c ∧ wf y ∧ ∀ j u, c[j]? = some u → W.cell? (a.add (i * d.sz + j)) = some u := by
    intro i hi
    obtain ⟨cs', h1, h2⟩ := each i (by omega)
    obtain ⟨y, hy, hwy⟩ := h.2 H enc W n cs' _ h2 (hww i hi)
    obtain ⟨_, hlen, hcell⟩ := World.cells?_some h1
    rw [h.1] at hlen hcell
    refine ⟨y, cs', hlen, hy, hwy, fun j u hu => ?_⟩
    have hj : j < d.sz := by
     have := (List.getElem?_eq_some_iff.1 hu).1
     omega
    have := hcell j hj
    rw [add_add] at this
    exact this.trans hu
   obtain ⟨f, hf'⟩ := choose_lt hx
   refine ⟨(List.range len).map f, ⟨some a, m, by simp, by simpa using hl, by simp, by simp only [maxLen] at hm; simp; omega, fun _ => ⟨a, rfl, fun j p hj => ?_⟩⟩, ?_, ?_, ?_⟩
   ·
    rw [List.getElem?_map] at hj
    have hj' : j < len := by
     by_cases hjl : j < len
     ·
      exact hjl
     ·
      rw [List.getElem?_eq_none (by simp; omega)] at hj
      cases hj
    rw [List.getElem?_range hj'] at hj
    obtain rfl := Option.some.inj hj
    obtain ⟨c, h1, h2, _, h3⟩ := hf' j hj'
    exact ⟨c, h1, h2, h3⟩
   ·
    simp; omega
   ·
    simpa using hB2
   ·
    intro y hy
    obtain ⟨i, hi, rfl⟩ := List.mem_map.1 hy
    obtain ⟨c, _, _, h2, _⟩ := hf' i (List.mem_range.1 hi)
    exact h2⟩
def FOpn {α : Type} (P : Program) (fs : List Field) (off : Nat) (d : Kd α) (wf : α → Prop) : Prop :=
 ∀ (H : Type) (enc : TypeId × Value → H) (W : World) (fuel : Nat) (cs : List Value) (xs : List (DataW H × List MemPlace)),
  xs.length = fs.length → (∀ (i : Nat) (f : Field), fs[i]? = some f → DataW.trod enc P W 0 (fun _ => true) true fuel f.type ((cs.drop f.offset).take (P.cellsOf f.type)) = xs[i]?) →
  (∀ n ∈ DataW.weightsEach P (fs.map (·.type)) (xs.map (·.1)), n ≤ reachBytes) → ∃ y, d.K W y ((cs.drop off).take d.sz) ∧ wf y
theorem FOpn.one {α : Type} {P : Program} {f : Field} {off : Nat} {d : Kd α} {wf : α → Prop} (ho : f.offset = off) (h : Opn P f.type d wf) : FOpn P [f] off d wf := by
 intro H enc W fuel cs xs hl hx hw
 match xs, hl with
 | [x], _ =>
  have h0 := hx 0 f rfl
  rw [ho, h.1] at h0
  exact h.2 H enc W fuel _ x h0 (fun n hn => hw n (by simp only [List.map, DataW.weightsEach, List.mem_append]; exact .inl hn))
theorem FOpn.cons {α β : Type} {P : Program} {f : Field} {fs : List Field} {off : Nat} {d : Kd α} {d' : Kd β} {wf : α → Prop} {wf' : β → Prop} (ho : f.offset = off) (h : Opn P f.type d wf) (h' : FOpn P fs (off + d.sz) d' wf') :
  FOpn P (f :: fs) off (Kd.pair d d') (fun x => wf x.1 ∧ wf' x.2) := by
 intro H enc W fuel cs xs hl hx hw
 match xs, hl with
 | x :: xs, hl =>
  have h0 := hx 0 f rfl
  rw [ho, h.1] at h0
  have hw' : ∀ n ∈ x.1.weights P f.type ++ DataW.weightsEach P (fs.map (·.type)) (xs.map (·.1)), n ≤ reachBytes := hw
  obtain ⟨y, hy, hwy⟩ := h.2 H enc W fuel _ x h0 (fun n hn => hw' n (List.mem_append_left _ hn))
  obtain ⟨y', hy', hwy'⟩ := h' H enc W fuel cs xs (by simpa using hl) (fun i f' hf' => hx (i + 1) f' (by simpa using hf')) (fun n hn => hw' n (List.mem_append_right _ hn))
  refine ⟨(y, y'), ⟨_, _, ?_, hy, hy'⟩, hwy, hwy'⟩
  show (cs.drop off).take (d.sz + d'.sz) = _
  rw [List.take_add, List.drop_drop]
theorem par_weights {H : Type} {P : Program} {ts : List TypeId} {ds : List (DataW H)} {j : Nat} {t : TypeId} {d : DataW H} (h : (DataW.weightsEach P ts ds).all (· ≤ reachBytes) = true) (ht : ts[j]? = some t) (hd : ds[j]? = some d) :
  ∀ n ∈ d.weights P t, n ≤ reachBytes := fun n hn => of_decide_eq_true (List.all_eq_true.1 h n (DataW.weights_mem_each ht hd n hn))
theorem par_slice {α : Type} {H : Type} {enc : TypeId × Value → H} {P : Program} {W : World} {r : Reach} {b0 : Nat} {t e : TypeId} {d : Kd α} {wf : List α → Prop} {v : Value} {D : DataW H} {ps : List MemPlace}
  (ht : P.underlying t = some (.slice e)) (ho : Opn P t (Kd.slice e d) wf) (hv : Value.okWide P W r b0 t v) (hd : DataW.Trod enc P W 0 (fun _ => true) true t v D ps) (hw : ∀ n ∈ D.weights P t, n ≤ reachBytes) :
  ∃ (A : Option Addr) (l : List α) (c : Nat), v = .slice A l.length c ∧ l.length ≤ c ∧ d.C W A l.length l ∧ wf l := by
 obtain ⟨A, len, cap, rfl⟩ := okWide_slice ht hv
 obtain ⟨fuel, hf⟩ := hd
 obtain ⟨l, ⟨A', c, he, hl, hC⟩, hwl⟩ := ho.2 H enc W fuel _ _ hf hw
 have he' : [Value.slice A len cap] = [.slice A' l.length c] := he
 simp only [List.cons.injEq, Value.slice.injEq, and_true] at he'
 obtain ⟨rfl, rfl, rfl⟩ := he'
 exact ⟨_, l, _, rfl, hl, hC, hwl⟩
end Go.Proofs.YtdpinnhgkocjhaaDoorW.Opens

namespace Go.Proofs.YtdpinnhgkocjhaaDoor.Pr
open Go.RowKit Go.Proofs.YtdpinnhgkocjhaaDoorW.PrintWords Go.Proofs.YtdpinnhgkocjhaaDoorW.PrintLast Go.Proofs.YtdpinnhgkocjhaaDoorW.Opens
set_option linter.unusedVariables false
def wfL5 (l : List Int) : Prop := l.length ≤ maxLen ∧ l.length * 1 ≤ 140737488351232 ∧ ∀ y ∈ l, (Lit.int .u8 y).wf = true
theorem opnL53 : Opn Tryd.prog 53 (Kd.slice 5 (Kd.int .u8)) wfL5 := Opn.slice (0 : Int) (by kernel_rfl) Tryd.underlying53 (by kernel_rfl) (Opn.int (by kernel_rfl) Tryd.underlying5)
def FnLog.Pure : Prop := ∀ (x0 : (List Int)), wfL5 x0 → ∃ k, laws_FnLog.f k x0 = some true
end Go.Proofs.YtdpinnhgkocjhaaDoor.Pr

namespace Go.Proofs.YtdpinnhgkocjhaaDoor.Pr.Pure
open Go.RowKit Go.Proofs.YtdpinnhgkocjhaaDoorW.PrintWords Go.Proofs.YtdpinnhgkocjhaaDoorW.PrintLast Go.Proofs.YtdpinnhgkocjhaaDoorW.PrintMore  Go.Lib
set_option linter.unusedVariables false
set_option linter.unusedSimpArgs false
theorem w64 {x : Int} (h1 : -9223372036854775808 ≤ x) (h2 : x ≤ 9223372036854775807) : wrap64 x = x := by
 unfold wrap64
 omega
theorem obs {α β : Type} (a : α) (f : α → Option β) : (some a).bind f = f a := id (Option.bind_some a f)
def M (l : List UInt8) : ByteArray := ⟨l.toArray⟩
theorem ex_M (b : ByteArray) : ∃ l, b = M l := ⟨b.data.toList, by unfold M; rw [Array.toArray_toList]⟩
theorem M_size (l : List UInt8) : (M l).size = l.length := by simp [M, ByteArray.size]
theorem M_data (l : List UInt8) : (M l).data.toList = l := by simp [M]
theorem M_inj {a b : List UInt8} : M a = M b ↔ a = b := ⟨fun h => by
 have := congrArg (fun x : ByteArray => x.data.toList) h
 simpa [M] using this, fun h => by rw [h]⟩
theorem M_toList (l : List UInt8) : (M l).toList = l := by rw [ByteArray.toList_eq, M_data]
theorem sc_M (a b : List UInt8) : sc (M a) (M b) = M (a ++ b) := by
 apply ByteArray.ext
 unfold sc M
 rw [ByteArray.data_append]
 simp
theorem sx_M (a : List UInt8) (i j : Nat) : sx (M a) i j = M ((a.drop i).take (j - i)) := by
 apply ByteArray.ext
 unfold sx M
 rw [ByteArray.data_extract]
 simp [List.extract_eq_take_drop]
theorem bt_M (l : List UInt8) (i : Nat) : bt (M l) (i : Int) = ((l.getD i 0).toNat : Int) := by
 have hb := rd_bytesOf (M l) (i : Int)
 rw [← hb]
 unfold rd bytesOf
 rw [M_data, Int.toNat_natCast, List.getD_eq_getElem?_getD, List.getD_eq_getElem?_getD, List.getElem?_map]
 cases l[i]? <;> rfl
theorem drop_at (l : List UInt8) (i : Nat) (h : i < l.length) : l.drop i = l.getD i 0 :: l.drop (i + 1) := by
 rw [List.drop_eq_getElem_cons h, List.getD_eq_getElem?_getD, List.getElem?_eq_getElem h]
 rfl
theorem byte_eq (x : UInt8) (c : Nat) (hc : c < 256) : ((x.toNat : Int) = (c : Int)) ↔ x = UInt8.ofNat c := by
 constructor
 ·
  intro h
  apply UInt8.toNat_inj.1
  rw [UInt8.toNat_ofNat']
  omega
 ·
  rintro rfl
  rw [UInt8.toNat_ofNat']
  omega
theorem byte_rng (x : UInt8) : 0 ≤ (x.toNat : Int) ∧ (x.toNat : Int) ≤ 255 := by
 have := x.toNat_lt
 omega
theorem l1In_eq (a b c : Int) : spec_l1In.f a b c = some (decide (b ≤ a ∧ a ≤ c)) := by
 unfold spec_l1In.f
 by_cases h : b ≤ a
 ·
  rw [if_pos h]; simp [h]
 ·
  rw [if_neg (by omega)]; simp [h]
theorem within_eq (a b c : Int) : impl_within.f a b c = some (decide (b ≤ a ∧ a ≤ c)) := by
 unfold impl_within.f
 by_cases h : b ≤ a
 ·
  rw [if_pos h]; simp [h]
 ·
  rw [if_neg (by omega)]; simp [h]
theorem dec_of {p : Prop} [Decidable p] {b : Bool} (h : b = true ↔ p) : some b = some (decide p) := by
 congr 1
 rw [Bool.eq_iff_iff, h, decide_eq_true_eq]
end Go.Proofs.YtdpinnhgkocjhaaDoor.Pr.Pure

namespace Go.Proofs.YtdpinnhgkocjhaaDoor.Pr.Pure
open Go.RowKit Go.Proofs.YtdpinnhgkocjhaaDoorW.PrintWords Go.Proofs.YtdpinnhgkocjhaaDoorW.PrintLast Go.Proofs.YtdpinnhgkocjhaaDoorW.PrintMore Go.Lib
set_option linter.unusedVariables false
theorem bits255 (x : Int) : 0 ≤ Go.bits .and .u64 x 255 ∧ Go.bits .and .u64 x 255 ≤ 255 := by
 have h : (BitVec.ofInt IntKind.u64.bits x &&& BitVec.ofInt IntKind.u64.bits 255).toNat ≤ 255 := by
  rw [BitVec.toNat_and]
  exact Nat.le_trans Nat.and_le_right (by decide)
 have e : Go.bits .and .u64 x 255 = IntKind.u64.wrap (((BitVec.ofInt IntKind.u64.bits x &&& BitVec.ofInt IntKind.u64.bits 255).toNat : Nat) : Int) := rfl
 rw [e]
 generalize (BitVec.ofInt IntKind.u64.bits x &&& BitVec.ofInt IntKind.u64.bits 255).toNat = n at h
 have e2 : IntKind.u64.wrap (n : Int) = (n : Int) := by
  have : IntKind.u64.wrap (n : Int) = (n : Int) % 18446744073709551616 := rfl
  omega
 rw [e2]
 omega
theorem rdI_mem (l : List Int) {i : Int} (h0 : 0 ≤ i) (h1 : i < l.length) : rd l i ∈ l := by
 unfold rd
 rw [List.getD_eq_getElem?_getD, List.getElem?_eq_getElem (by omega)]
 exact List.getElem_mem _
theorem rdB_mem (l : List ByteArray) {i : Int} (h0 : 0 ≤ i) (h1 : i < l.length) : rdOf ByteArray.empty l i ∈ l := by
 unfold rdOf
 rw [List.getD_eq_getElem?_getD, List.getElem?_eq_getElem (by omega)]
 exact List.getElem_mem _
theorem next_ok {c : List Int} (hc : ∀ x, x ∈ c → 0 ≤ x ∧ x ≤ 255) {p : Int} (h0 : 0 ≤ p) (h1 : p ≤ 1000000000) (s : Int) :
  ∃ r q, spec_l1Cur_next.f c p s = some (r, p + 1, q) ∧ 0 ≤ r ∧ r ≤ 255 := by
 have hw : wrap64 (p + 1) = p + 1 := w64 (by omega) (by omega)
 unfold spec_l1Cur_next.f
 rw [hw]
 by_cases a : p < (c.length : Int)
 ·
  have hb := hc _ (rdI_mem c h0 a)
  have hv : wrap64 (rd c p) = rd c p := w64 (by omega) (by omega)
  rw [if_pos a, if_pos h0]
  by_cases b : p + 1 ≤ (c.length : Int)
  ·
   rw [if_pos b, hv]
   exact ⟨_, _, rfl, hb.1, hb.2⟩
  ·
   rw [if_neg b]
   refine ⟨_, _, rfl, ?_⟩
   rw [w64 (by have := bits255; exact Int.le_trans (by decide) (this _).1) (Int.le_trans (bits255 _).2 (by decide))]
   exact bits255 _
 ·
  rw [if_neg a]
  by_cases b : p + 1 ≤ (c.length : Int)
  ·
   rw [if_pos b]
   exact ⟨_, _, rfl, by decide, by decide⟩
  ·
   rw [if_neg b]
   refine ⟨_, _, rfl, ?_⟩
   rw [w64 (by have := bits255; exact Int.le_trans (by decide) (this _).1) (Int.le_trans (bits255 _).2 (by decide))]
   exact bits255 _
theorem tmod_lt {a n : Int} (h : 0 ≤ a) (hn : 0 < n) : 0 ≤ Int.tmod a n ∧ Int.tmod a n < n :=
 ⟨Int.tmod_nonneg _ h, Int.tmod_lt_of_pos _ hn⟩
theorem pick_ok {c : List Int} (hc : ∀ x, x ∈ c → 0 ≤ x ∧ x ≤ 255) {p : Int} (h0 : 0 ≤ p) (h1 : p ≤ 900000000) (s : Int) {n : Int} (hn : 0 < n) :
  ∃ r p1 q, spec_l1Cur_pick.f c p s n = some (r, p1, q) ∧ (0 ≤ r ∧ r < n) ∧ p ≤ p1 ∧ p1 ≤ p + 2 := by
 unfold spec_l1Cur_pick.f
 by_cases a : n ≤ 1
 ·
  rw [if_pos a]
  exact ⟨0, p, s, rfl, ⟨by decide, hn⟩, by omega, by omega⟩
 ·
  obtain ⟨r, q, e, b1, b2⟩ := next_ok hc h0 (by omega) s
  have n0 : ¬ n = 0 := by omega
  rw [if_neg a, e, obs]
  by_cases d : n > 200
  ·
   obtain ⟨r2, q2, e2, d1, d2⟩ := next_ok hc (p := p + 1) (by omega) (by omega) q
   rw [if_pos d, e2, obs, if_neg n0]
   have hw : wrap64 (wrap64 (r * 256) + r2) = r * 256 + r2 := by
    rw [w64 (x := r * 256) (by omega) (by omega), w64 (by omega) (by omega)]
   refine ⟨_, p + 1 + 1, q2, rfl, ?_, by omega, by omega⟩
   simp only
   rw [hw]
   exact tmod_lt (by omega) hn
  ·
   rw [if_neg d, if_neg n0]
   exact ⟨_, p + 1, q, rfl, tmod_lt b1 hn, by omega, by omega⟩
theorem one_ok {c : List Int} (hc : ∀ x, x ∈ c → 0 ≤ x ∧ x ≤ 255) {p : Int} (h0 : 0 ≤ p) (h1 : p ≤ 900000000) (s : Int) {n : Int} (hn : 0 < n) :
  ∃ b p1 q, spec_l1Cur_one.f c p s n = some (b, p1, q) ∧ p ≤ p1 ∧ p1 ≤ p + 2 := by
 obtain ⟨r, p1, q, e, _, a1, a2⟩ := pick_ok hc h0 h1 s hn
 unfold spec_l1Cur_one.f
 rw [e, obs]
 exact ⟨_, p1, q, rfl, a1, a2⟩
theorem of_ok {c : List Int} (hc : ∀ x, x ∈ c → 0 ≤ x ∧ x ≤ 255) {p : Int} (h0 : 0 ≤ p) (h1 : p ≤ 900000000) (s : Int) {l : List ByteArray} (hl : 0 < l.length) :
  ∃ r p1 q, spec_l1Cur_of.f c p s l = some (r, p1, q) ∧ r ∈ l ∧ p ≤ p1 ∧ p1 ≤ p + 2 := by
 obtain ⟨r, p1, q, e, b, a1, a2⟩ := pick_ok hc h0 h1 s (n := (l.length : Int)) (by omega)
 unfold spec_l1Cur_of.f
 rw [e, obs, if_pos b.1, if_pos b.2]
 exact ⟨_, p1, q, rfl, rdB_mem l b.1 b.2, a1, a2⟩
end Go.Proofs.YtdpinnhgkocjhaaDoor.Pr.Pure

namespace Go.Proofs.YtdpinnhgkocjhaaDoor.Pr
open Go.RowKit Go.Proofs.YtdpinnhgkocjhaaDoorW.PrintWords Go.Proofs.YtdpinnhgkocjhaaDoorW.PrintLast Go.Proofs.YtdpinnhgkocjhaaDoorW.PrintMore
attribute [local go_sem] max2_int min2_int max_two min_two max_three min_three max_four min_four sc_in sx_in   -- for this text's walks alone
set_option linter.unusedVariables false
set_option linter.unusedSimpArgs false
def spec_RecoverLog.f (k : Nat) (a0 : ByteArray) : Option (ByteArray × ByteArray × Int × Int × Bool) := if (a0.size : Int) > 30000 then (some ((⟨#[]⟩ : ByteArray), (⟨#[]⟩ : ByteArray), 0, 0, false)) else ((spec_l27Open.f k a0).bind fun bt208 => (if 0 ≤ bt208.2 then (if bt208.2 ≤ (a0.size : Int) then (some (sx a0 (0) ((bt208.2 : Int).toNat), (⟨#[]⟩ : ByteArray), (bt208.1.length : Int), bt208.2, true)) else (none)) else (none)))
def spec_LogRecords.f (k : Nat) (a0_0 : ByteArray) (a0_1 : ByteArray) (a0_2 : Int) : Option ((List (S27)) × Bool) := (spec_l27Log.f k a0_0 a0_1 a0_2).bind fun t387 => (if t387 = true then (if a0_0.size + a0_1.size ≤ 9223372036854775807 then ((spec_l27Open.f k (sc a0_0 a0_1)).bind fun bt388 => (some (bt388.1, true))) else (none)) else (some ((([] : List (S27))), false)))
end Go.Proofs.YtdpinnhgkocjhaaDoor.Pr

namespace Go.Proofs.YtdpinnhgkocjhaaDoor.Log
open Go.Lib
set_option linter.unusedVariables false
theorem digit_mem (u : Nat) : ∀ b ∈ decDigits u, 48 ≤ b.toNat ∧ b.toNat ≤ 57 := by
 induction u using Nat.strongRecOn with
 | _ u ih =>
  intro b hb
  by_cases h : u < 10
  ·
   rw [decDigits, dif_pos h] at hb
   obtain rfl := List.mem_singleton.1 hb
   simp
   omega
  ·
   rw [decDigits, dif_neg h] at hb
   rcases List.mem_append.1 hb with hb | hb
   ·
    exact ih _ (by omega) b hb
   ·
    obtain rfl := List.mem_singleton.1 hb
    simp
    omega
theorem digits_len_aux (j : Nat) : ∀ u : Nat, u < 10 ^ (j + 1) → (decDigits u).length ≤ j + 1 := by
 induction j with
 | zero =>
  intro u h
  rw [decDigits, dif_pos (by omega)]
  simp
 | succ j ih =>
  intro u h
  by_cases h1 : u < 10
  ·
   rw [decDigits, dif_pos h1]
   simp
  ·
   rw [decDigits, dif_neg h1]
   have : u / 10 < 10 ^ (j + 1) := by
    rw [Nat.pow_succ] at h
    omega
   have := ih _ this
   simp
   omega
abbrev B := List UInt8
def upto (c : UInt8) : B → B
 | [] => []
 | x :: l => if x = c then [] else x :: upto c l
def after (c : UInt8) : B → B
 | [] => []
 | x :: l => if x = c then l else after c l
theorem upto_app {c : UInt8} : ∀ {l : B} (r : B), c ∉ l → upto c (l ++ c :: r) = l
 | [], r, _ => by simp [upto]
 | x :: l, r, h => by
  have h1 : x ≠ c := fun e => h (by simp [e])
  have h2 : c ∉ l := fun e => h (by simp [e])
  simp [upto, h1, upto_app r h2]
theorem after_app {c : UInt8} : ∀ {l : B} (r : B), c ∉ l → after c (l ++ c :: r) = r
 | [], r, _ => by simp [after]
 | x :: l, r, h => by
  have h1 : x ≠ c := fun e => h (by simp [e])
  have h2 : c ∉ l := fun e => h (by simp [e])
  simp [after, h1, after_app r h2]
theorem upto_none {c : UInt8} : ∀ {l : B}, c ∉ l → upto c l = l
 | [], _ => rfl
 | x :: l, h => by
  have h1 : x ≠ c := fun e => h (by simp [e])
  have h2 : c ∉ l := fun e => h (by simp [e])
  simp [upto, h1, upto_none h2]
theorem after_none {c : UInt8} : ∀ {l : B}, c ∉ l → after c l = []
 | [], _ => rfl
 | x :: l, h => by
  have h1 : x ≠ c := fun e => h (by simp [e])
  have h2 : c ∉ l := fun e => h (by simp [e])
  simp [after, h1, after_none h2]
theorem cut_at {c : UInt8} : ∀ {l : B}, c ∈ l → l = upto c l ++ c :: after c l
 | [], h => by simp at h
 | x :: l, h => by
  by_cases e : x = c
  ·
   simp [upto, after, e]
  ·
   have h2 : c ∈ l := by
    rcases List.mem_cons.1 h with h | h
    ·
     exact absurd h.symm e
    ·
     exact h
   have := cut_at h2
   simp only [upto, after, e, if_false, List.cons_append]
   rw [← this]
theorem upto_len {c : UInt8} : ∀ (l : B), (upto c l).length ≤ l.length
 | [] => by simp [upto]
 | x :: l => by
  by_cases e : x = c
  ·
   simp [upto, e]
  ·
   simp only [upto, e, if_false, List.length_cons]
   have := upto_len (c := c) l
   omega
theorem upto_lt {c : UInt8} {l : B} (h : c ∈ l) : (upto c l).length < l.length := by
 have := congrArg List.length (cut_at h)
 simp at this
 omega
theorem upto_take (c : UInt8) : ∀ (l : B), upto c l = l.take (upto c l).length
 | [] => by simp [upto]
 | x :: l => by
  by_cases e : x = c
  ·
   simp [upto, e]
  ·
   simp only [upto, e, if_false, List.length_cons, List.take_succ_cons]
   rw [← upto_take c l]
theorem after_drop (c : UInt8) {l : B} (h : c ∈ l) : after c l = l.drop ((upto c l).length + 1) := by
 have e := cut_at h
 generalize upto c l = u at e ⊢
 generalize after c l = v at e ⊢
 subst e
 simp
theorem index_some {c : UInt8} : ∀ {l : B}, c ∈ l → indexByte l c = ((upto c l).length : Int)
 | [], h => by simp at h
 | x :: l, h => by
  by_cases e : x = c
  ·
   simp [upto, e, indexByte]
  ·
   have h2 : c ∈ l := by
    rcases List.mem_cons.1 h with h | h
    ·
     exact absurd h.symm e
    ·
     exact h
   have ih := index_some h2
   have hb : (x == c) = false := by simpa using e
   have hn : (indexByte l c == -1) = false := by
    rw [ih, beq_eq_false_iff_ne]
    omega
   simp only [indexByte, hb, hn, upto, e, if_false, List.length_cons, Bool.false_eq_true]
   rw [ih]
   omega
theorem index_none {c : UInt8} : ∀ {l : B}, c ∉ l → indexByte l c = -1
 | [], _ => rfl
 | x :: l, h => by
  have h1 : x ≠ c := fun e => h (by simp [e])
  have h2 : c ∉ l := fun e => h (by simp [e])
  have hb : (x == c) = false := by simpa using h1
  simp [indexByte, hb, index_none h2]
def sum (l : B) : Nat := l.foldl (fun n b => (41 * n + b.toNat + 1) % 999979) 7
theorem sum_fold_lt (l : B) : ∀ n, n < 999979 → l.foldl (fun n b => (41 * n + b.toNat + 1) % 999979) n < 999979 := by
 induction l with
 | nil => intro n h; exact h
 | cons x l ih => intro n h; exact ih _ (Nat.mod_lt _ (by omega))
theorem sum_lt (l : B) : sum l < 999979 := sum_fold_lt l 7 (by omega)
def Plain (l : B) : Prop := ∀ b ∈ l, 32 ≤ b.toNat ∧ b.toNat ≤ 126 ∧ b ≠ 35
instance (l : B) : Decidable (Plain l) := inferInstanceAs (Decidable (∀ b ∈ l, 32 ≤ b.toNat ∧ b.toNat ≤ 126 ∧ b ≠ 35))
def Ok (c r : B) : Prop := 1 ≤ c.length ∧ c.length ≤ 160 ∧ Plain c ∧ (64 : UInt8) ∉ c ∧ r.length ≤ 200 ∧ Plain r
instance (c r : B) : Decidable (Ok c r) := inferInstanceAs (Decidable (_ ∧ _))
def body (k : Nat) (c r : B) : B := decDigits k ++ 32 :: (c ++ 64 :: r)
def line (k : Nat) (c r : B) : B := body k c r ++ 35 :: decDigits (sum (body k c r))
def enc (k : Nat) (c r : B) : B := line k c r ++ [10]
theorem body_no {k : Nat} {c r : B} (h : Ok c r) (x : UInt8) (hx : x = 10 ∨ x = 35) : x ∉ body k c r := by
 intro hm
 rcases List.mem_append.1 hm with hm | hm
 ·
  have := digit_mem k x hm
  rcases hx with rfl | rfl
  ·
   exact absurd this.1 (by decide)
  ·
   exact absurd this.1 (by decide)
 ·
  rcases List.mem_cons.1 hm with hm | hm
  ·
   rcases hx with rfl | rfl <;> exact absurd hm (by decide)
  ·
   rcases List.mem_append.1 hm with hm | hm
   ·
    have := h.2.2.1 x hm
    rcases hx with rfl | rfl
    ·
     exact absurd this.1 (by decide)
    ·
     exact this.2.2 rfl
   ·
    rcases List.mem_cons.1 hm with hm | hm
    ·
     rcases hx with rfl | rfl <;> exact absurd hm (by decide)
    ·
     have := h.2.2.2.2.2 x hm
     rcases hx with rfl | rfl
     ·
      exact absurd this.1 (by decide)
     ·
      exact this.2.2 rfl
theorem line_no {k : Nat} {c r : B} (h : Ok c r) : (10 : UInt8) ∉ line k c r := by
 intro hm
 rcases List.mem_append.1 hm with hm | hm
 ·
  exact body_no h 10 (.inl rfl) hm
 ·
  rcases List.mem_cons.1 hm with hm | hm
  ·
   exact absurd hm (by decide)
  ·
   exact absurd (digit_mem _ _ hm).1 (by decide)
theorem dig_no (k : Nat) (x : UInt8) (h : x.toNat < 48) : x ∉ decDigits k := fun hm => by
 have := (digit_mem _ _ hm).1
 omega
theorem line_text {k : Nat} {c r : B} (h : Ok c r) : upto 35 (line k c r) = body k c r := upto_app _ (body_no h 35 (.inr rfl))
theorem body_rest {k : Nat} {c r : B} : after 32 (body k c r) = c ++ 64 :: r := after_app _ (dig_no k 32 (by decide))
theorem rest_cmd {c r : B} (h : Ok c r) : upto 64 (c ++ 64 :: r) = c := upto_app _ h.2.2.2.1
theorem rest_rep {c r : B} (h : Ok c r) : after 64 (c ++ 64 :: r) = r := after_app _ h.2.2.2.1
theorem body_len (k : Nat) (c r : B) : (body k c r).length = (decDigits k).length + 2 + c.length + r.length := by
 simp [body]
 omega
theorem enc_len {k : Nat} {c r : B} (hk : k < 60) (h : Ok c r) : (enc k c r).length ≤ 372 ∧ 1 ≤ (enc k c r).length := by
 have h1 := digits_len_aux 1 k (by omega)
 have h2 := digits_len_aux 5 (sum (body k c r)) (by have := sum_lt (body k c r); omega)
 have h3 := h.2.1
 have h4 := h.2.2.2.2.1
 have := body_len k c r
 simp only [enc, line, List.length_append, List.length_cons, List.length_nil]
 omega
def dec (k : Nat) (s : B) : Option (B × B × Nat) :=
 if (10 : UInt8) ∈ s ∧ k < 60 ∧ Ok (upto 64 (after 32 (upto 35 (upto 10 s)))) (after 64 (after 32 (upto 35 (upto 10 s)))) ∧
   enc k (upto 64 (after 32 (upto 35 (upto 10 s)))) (after 64 (after 32 (upto 35 (upto 10 s)))) = upto 10 s ++ [10]
 then some (upto 64 (after 32 (upto 35 (upto 10 s))), after 64 (after 32 (upto 35 (upto 10 s))), (upto 10 s).length + 1) else none
theorem dec_some {k : Nat} {s c r : B} {n : Nat} : dec k s = some (c, r, n) ↔ k < 60 ∧ Ok c r ∧ enc k c r <+: s ∧ n = (enc k c r).length := by
 unfold dec
 constructor
 ·
  intro h
  split at h
  ·
   rename_i hc
   obtain ⟨h1, h2, h3, h4⟩ := hc
   simp only [Option.some.injEq, Prod.mk.injEq] at h
   obtain ⟨rfl, rfl, rfl⟩ := h
   refine ⟨h2, h3, ?_, ?_⟩
   ·
    rw [h4]
    refine ⟨after 10 s, ?_⟩
    rw [List.append_assoc, List.singleton_append, ← cut_at h1]
   ·
    rw [h4]
    simp
  ·
   cases h
 ·
  rintro ⟨h1, h2, ⟨t, ht⟩, rfl⟩
  have e : s = line k c r ++ 10 :: t := by rw [← ht]; simp [enc]
  have hu : upto 10 s = line k c r := by rw [e]; exact upto_app _ (line_no h2)
  have hm : (10 : UInt8) ∈ s := by rw [e]; simp
  rw [hu, line_text h2, body_rest, rest_cmd h2, rest_rep h2, if_pos ⟨hm, h1, h2, rfl⟩]
  simp [enc]
theorem dec_le {k : Nat} {s c r : B} {n : Nat} (h : dec k s = some (c, r, n)) : n ≤ s.length ∧ 1 ≤ n ∧ n ≤ 372 := by
 obtain ⟨h1, h2, h3, rfl⟩ := dec_some.1 h
 have := enc_len h1 h2
 exact ⟨h3.length_le, this.2, this.1⟩
theorem dec_app {k : Nat} {s : B} {x : B × B × Nat} (t : B) (h : dec k s = some x) : dec k (s ++ t) = some x := by
 obtain ⟨c, r, n⟩ := x
 obtain ⟨h1, h2, h3, h4⟩ := dec_some.1 h
 exact dec_some.2 ⟨h1, h2, h3.trans (List.prefix_append _ _), h4⟩
theorem dec_cut {k : Nat} {s : B} {x : B × B × Nat} {m : Nat} (h : dec k s = some x) (hm : x.2.2 ≤ m) : dec k (s.take m) = some x := by
 obtain ⟨c, r, n⟩ := x
 obtain ⟨h1, h2, h3, rfl⟩ := dec_some.1 h
 exact dec_some.2 ⟨h1, h2, List.prefix_take_iff.2 ⟨h3, hm⟩, rfl⟩
theorem dec_nil (k : Nat) : dec k [] = none := by simp [dec]
def all : Nat → Nat → B → List (B × B × Nat)
 | 0, _, _ => []
 | m + 1, k, s => match dec k s with
  | none => []
  | some x => x :: all m (k + 1) (s.drop x.2.2)
def tot (l : List (B × B × Nat)) : Nat := (l.map (·.2.2)).sum
theorem all_nil (m k : Nat) : all m k [] = [] := by
 cases m with
 | zero => rfl
 | succ m => simp [all, dec_nil]
theorem all_none {m k : Nat} {s : B} (h : dec k s = none) : all m k s = [] := by
 cases m with
 | zero => rfl
 | succ m => simp [all, h]
theorem all_some {m k : Nat} {s : B} {x : B × B × Nat} (h : dec k s = some x) : all (m + 1) k s = x :: all m (k + 1) (s.drop x.2.2) := by simp [all, h]
theorem tot_cons (x : B × B × Nat) (l : List (B × B × Nat)) : tot (x :: l) = x.2.2 + tot l := by simp [tot]
theorem tot_app (l r : List (B × B × Nat)) : tot (l ++ r) = tot l + tot r := by simp [tot]
theorem all_len (m : Nat) : ∀ (k : Nat) (s : B), (all m k s).length ≤ m := by
 induction m with
 | zero => intro k s; simp [all]
 | succ m ih =>
  intro k s
  cases h : dec k s with
  | none => rw [all_none h]; simp
  | some x => rw [all_some h]; simp; exact ih _ _
theorem all_tot (m : Nat) : ∀ (k : Nat) (s : B), tot (all m k s) ≤ s.length := by
 induction m with
 | zero => intro k s; simp [all, tot]
 | succ m ih =>
  intro k s
  cases h : dec k s with
  | none => rw [all_none h]; simp [tot]
  | some x =>
   obtain ⟨c, r, n⟩ := x
   have h1 := (dec_le h).1
   have := ih (k + 1) (s.drop n)
   rw [all_some h, tot_cons]
   rw [List.length_drop] at this
   simp only
   omega
theorem all_tot372 (m : Nat) : ∀ (k : Nat) (s : B), tot (all m k s) ≤ 372 * m := by
 induction m with
 | zero => intro k s; simp [all, tot]
 | succ m ih =>
  intro k s
  cases h : dec k s with
  | none => rw [all_none h]; simp [tot]
  | some x =>
   obtain ⟨c, r, n⟩ := x
   have h1 := (dec_le h).2.2
   have := ih (k + 1) (s.drop n)
   rw [all_some h, tot_cons]
   simp only
   omega
theorem all_app (m : Nat) : ∀ (k : Nat) (s t : B), tot (all m k s) = s.length → all m k (s ++ t) = all m k s ++ all (m - (all m k s).length) (k + (all m k s).length) t := by
 induction m with
 | zero => intro k s t h; simp [all]
 | succ m ih =>
  intro k s t h
  by_cases h0 : s = []
  ·
   subst h0
   simp [all_nil]
  ·
   cases hd : dec k s with
   | none =>
    rw [all_none hd] at h
    exact absurd (List.length_eq_zero_iff.1 h.symm) h0
   | some x =>
    obtain ⟨c, r, n⟩ := x
    have hn := dec_le hd
    rw [all_some hd, tot_cons] at h
    simp only at h
    have hl : tot (all m (k + 1) (s.drop n)) = (s.drop n).length := by
     rw [List.length_drop]
     omega
    have e := ih (k + 1) (s.drop n) t hl
    rw [all_some (dec_app t hd), all_some hd]
    simp only [List.length_cons, List.cons_append]
    rw [List.drop_append_of_le_length hn.1, e]
    congr 3
    ·
     omega
    ·
     omega
theorem all_one {m k : Nat} {c r : B} (hk : k < 60) (h : Ok c r) : all (m + 1) k (enc k c r) = [(c, r, (enc k c r).length)] := by
 have hd : dec k (enc k c r) = some (c, r, (enc k c r).length) := dec_some.2 ⟨hk, h, List.prefix_refl _, rfl⟩
 rw [all_some hd]
 simp [all_nil]
theorem ends_iff (m : Nat) : ∀ (k : Nat) (D P : B), (∃ j, j ≤ (all m k (D ++ P)).length ∧ tot ((all m k (D ++ P)).take j) = D.length) ↔ tot (all m k D) = D.length := by
 induction m with
 | zero => intro k D P; simp [all, tot]
 | succ m ih =>
  intro k D P
  by_cases h0 : D = []
  ·
   subst h0
   simp only [List.length_nil, all_nil]
   exact ⟨fun _ => rfl, fun _ => ⟨0, Nat.zero_le _, rfl⟩⟩
  have hD : 0 < D.length := List.length_pos_iff.2 h0
  have none_D : dec k D = none → ¬ tot (all (m + 1) k D) = D.length := fun h e => by
   rw [all_none h] at e
   simp [tot] at e
   omega
  cases hs : dec k (D ++ P) with
  | none =>
   have hd : dec k D = none := by
    cases hd : dec k D with
    | none => rfl
    | some x => rw [dec_app P hd] at hs; cases hs
   rw [all_none hs]
   refine ⟨?_, fun e => absurd e (none_D hd)⟩
   rintro ⟨j, hj, e⟩
   simp [tot] at e
   omega
  | some x =>
   obtain ⟨c, r, n⟩ := x
   have hn := dec_le hs
   rw [all_some hs]
   by_cases hc : n ≤ D.length
   ·
    have hd : dec k D = some (c, r, n) := by
     have := dec_cut (m := D.length) hs hc
     rwa [List.take_left] at this
    rw [all_some hd, tot_cons]
    simp only
    have e := ih (k + 1) (D.drop n) P
    rw [← List.drop_append_of_le_length hc] at e
    constructor
    ·
     rintro ⟨j, hj, h⟩
     cases j with
     | zero => simp [tot] at h; omega
     | succ j =>
      rw [List.take_succ_cons, tot_cons] at h
      simp only at h
      have := e.1 ⟨j, by simpa using hj, by rw [List.length_drop]; omega⟩
      rw [List.length_drop] at this
      omega
    ·
     intro h
     obtain ⟨j, hj, h'⟩ := e.2 (by rw [List.length_drop]; omega)
     rw [List.length_drop] at h'
     refine ⟨j + 1, by simpa using hj, ?_⟩
     rw [List.take_succ_cons, tot_cons]
     simp only
     omega
   ·
    have hd : dec k D = none := by
     cases hd : dec k D with
     | none => rfl
     | some x =>
      obtain ⟨c', r', n'⟩ := x
      rw [dec_app P hd] at hs
      have := dec_le hd
      simp only [Option.some.injEq, Prod.mk.injEq] at hs
      omega
    refine ⟨?_, fun e => absurd e (none_D hd)⟩
    rintro ⟨j, hj, h⟩
    cases j with
    | zero => simp [tot] at h; omega
    | succ j =>
     rw [List.take_succ_cons, tot_cons] at h
     simp only at h
     omega
end Go.Proofs.YtdpinnhgkocjhaaDoor.Log

namespace Go.Proofs.YtdpinnhgkocjhaaDoor.Pr.Pure
open Go.RowKit Go.Proofs.YtdpinnhgkocjhaaDoorW.PrintWords Go.Proofs.YtdpinnhgkocjhaaDoorW.PrintLast Go.Proofs.YtdpinnhgkocjhaaDoorW.PrintMore Go.Proofs.YtdpinnhgkocjhaaDoor.Log Go.Lib
set_option linter.unusedVariables false
set_option linter.unusedSimpArgs false
theorem plain_nil : Plain [] := fun b h => by simp at h
theorem plain_cons (x : UInt8) (l : List UInt8) : Plain (x :: l) ↔ (32 ≤ x.toNat ∧ x.toNat ≤ 126 ∧ x ≠ 35) ∧ Plain l := by simp [Plain]
theorem isPlain_l0 (l : List UInt8) (hl : l.length ≤ 4611686018427387904) (d : Nat) : ∀ (k i : Nat), i + d = l.length → d < k → impl_isPlain.l0 k (M l) l.length i = some (decide (Plain (l.drop i))) := by
 induction d with
 | zero =>
  intro k i hd hk
  obtain ⟨k, rfl⟩ : ∃ m, k = m + 1 := ⟨k - 1, by omega⟩
  simp only [impl_isPlain.l0]
  rw [if_neg (by omega), List.drop_of_length_le (by omega)]
  simp [plain_nil]
 | succ d ih =>
  intro k i hd hk
  obtain ⟨k, rfl⟩ : ∃ m, k = m + 1 := ⟨k - 1, by omega⟩
  simp only [impl_isPlain.l0]
  rw [if_pos (by omega), if_pos (by omega), if_pos (by rw [M_size]; omega), bt_M, drop_at l i (by omega)]
  generalize l.getD i 0 = x
  have hx := byte_rng x
  rw [w64 (by omega) (by omega), w64 (by omega) (by omega), within_eq]
  simp only [Option.bind_some, decide_eq_true_eq]
  have ih' := ih k (i + 1) (by omega) (by omega)
  rw [show ((i + 1 : Nat) : Int) = (i : Int) + 1 by omega] at ih'
  by_cases h1 : (32 : Int) ≤ x.toNat ∧ (x.toNat : Int) ≤ 126
  ·
   rw [if_pos h1]
   by_cases h2 : (x.toNat : Int) = 35
   ·
    rw [if_pos h2]
    have : x = 35 := (byte_eq x 35 (by omega)).1 h2
    subst this
    simp [plain_cons]
   ·
    rw [if_neg h2, ih']
    have h3 : x ≠ 35 := fun e => h2 (by rw [e]; rfl)
    have : (Plain (x :: l.drop (i + 1)) ↔ Plain (l.drop (i + 1))) := by
     rw [plain_cons]
     exact ⟨fun h => h.2, fun h => ⟨⟨by omega, by omega, h3⟩, h⟩⟩
    simp [this]
  ·
   rw [if_neg h1]
   have : ¬ Plain (x :: l.drop (i + 1)) := by
    rw [plain_cons]
    rintro ⟨⟨a, b, _⟩, _⟩
    exact h1 ⟨by omega, by omega⟩
   simp [this]
theorem isPlain_eq (l : List UInt8) (hl : l.length ≤ 4611686018427387904) {k : Nat} (hk : l.length < k) : impl_isPlain.f k (M l) = some (decide (Plain l)) := by
 unfold impl_isPlain.f
 rw [M_size]
 simpa using isPlain_l0 l hl l.length k 0 (by omega) hk
theorem plain_l0 (l : List UInt8) (m : Int) (hl : l.length ≤ 4611686018427387904) (d : Nat) : ∀ (k i : Nat), i + d = l.length → d < k → spec_l27Plain.l0 k (M l) m i = some (decide (Plain (l.drop i) ∧ (l.length : Int) ≤ m)) := by
 induction d with
 | zero =>
  intro k i hd hk
  obtain ⟨k, rfl⟩ : ∃ m, k = m + 1 := ⟨k - 1, by omega⟩
  simp only [spec_l27Plain.l0]
  rw [M_size, if_neg (by omega), List.drop_of_length_le (by omega)]
  simp [plain_nil]
 | succ d ih =>
  intro k i hd hk
  obtain ⟨k, rfl⟩ : ∃ m, k = m + 1 := ⟨k - 1, by omega⟩
  simp only [spec_l27Plain.l0]
  rw [M_size, if_pos (by omega), if_pos (by omega), bt_M, drop_at l i (by omega)]
  generalize l.getD i 0 = x
  have hx := byte_rng x
  rw [w64 (by omega) (by omega), w64 (by omega) (by omega), l1In_eq]
  simp only [Option.bind_some, decide_eq_true_eq]
  have ih' := ih k (i + 1) (by omega) (by omega)
  rw [show ((i + 1 : Nat) : Int) = (i : Int) + 1 by omega] at ih'
  by_cases h1 : (32 : Int) ≤ x.toNat ∧ (x.toNat : Int) ≤ 126
  ·
   rw [if_pos h1]
   by_cases h2 : (x.toNat : Int) = 35
   ·
    rw [if_pos h2]
    have : x = 35 := (byte_eq x 35 (by omega)).1 h2
    subst this
    simp [plain_cons]
   ·
    rw [if_neg h2, ih']
    have h3 : x ≠ 35 := fun e => h2 (by rw [e]; rfl)
    have : (Plain (x :: l.drop (i + 1)) ↔ Plain (l.drop (i + 1))) := by
     rw [plain_cons]
     exact ⟨fun h => h.2, fun h => ⟨⟨by omega, by omega, h3⟩, h⟩⟩
    simp [this]
  ·
   rw [if_neg h1]
   have : ¬ Plain (x :: l.drop (i + 1)) := by
    rw [plain_cons]
    rintro ⟨⟨a, b, _⟩, _⟩
    exact h1 ⟨by omega, by omega⟩
   simp [this]
theorem plain_eq (l : List UInt8) (m : Int) (hl : l.length ≤ 4611686018427387904) {k : Nat} (hk : l.length < k) : spec_l27Plain.f k (M l) m = some (decide (Plain l ∧ (l.length : Int) ≤ m)) := by
 unfold spec_l27Plain.f
 simpa using plain_l0 l m hl l.length k 0 (by omega) hk
theorem stands_l0 (l : List UInt8) (c : Nat) (hc : c < 256) (hl : l.length ≤ 4611686018427387904) (d : Nat) : ∀ (k i : Nat), i + d = l.length → d < k → spec_l1Stands.l0 k (M l) c i = some (decide (UInt8.ofNat c ∈ l.drop i)) := by
 induction d with
 | zero =>
  intro k i hd hk
  obtain ⟨k, rfl⟩ : ∃ m, k = m + 1 := ⟨k - 1, by omega⟩
  simp only [spec_l1Stands.l0]
  rw [M_size, if_neg (by omega), List.drop_of_length_le (by omega)]
  simp
 | succ d ih =>
  intro k i hd hk
  obtain ⟨k, rfl⟩ : ∃ m, k = m + 1 := ⟨k - 1, by omega⟩
  simp only [spec_l1Stands.l0]
  rw [M_size, if_pos (by omega), if_pos (by omega), bt_M, drop_at l i (by omega)]
  generalize l.getD i 0 = x
  rw [w64 (by omega) (by omega)]
  have ih' := ih k (i + 1) (by omega) (by omega)
  rw [show ((i + 1 : Nat) : Int) = (i : Int) + 1 by omega] at ih'
  by_cases h1 : (x.toNat : Int) = (c : Int)
  ·
   rw [if_pos h1]
   have : UInt8.ofNat c = x := ((byte_eq x c hc).1 h1).symm
   simp [this]
  ·
   rw [if_neg h1, ih']
   have : ¬ UInt8.ofNat c = x := fun e => h1 ((byte_eq x c hc).2 e.symm)
   simp [this]
theorem stands_eq (l : List UInt8) (c : Nat) (hc : c < 256) (hl : l.length ≤ 4611686018427387904) {k : Nat} (hk : l.length < k) : spec_l1Stands.f k (M l) c = some (decide (UInt8.ofNat c ∈ l)) := by
 unfold spec_l1Stands.f
 simpa using stands_l0 l c hc hl l.length k 0 (by omega) hk
theorem index_eq (l : List UInt8) (c : UInt8) : stringslite_Index.f (M l) (M [c]) = some (indexByte l c) := by
 unfold stringslite_Index.f
 rw [M_size, M_data, M_data]
 rfl
theorem contains_eq (l : List UInt8) (c : UInt8) : strings_Contains.f (M l) (M [c]) = some (decide (c ∈ l)) := by
 unfold strings_Contains.f strings_Index.f
 rw [index_eq]
 simp only [Option.bind_some]
 by_cases h : c ∈ l
 ·
  rw [index_some h]
  simp [h]
 ·
  rw [index_none h]
  simp [h]
theorem isRec_eq (c r : List UInt8) (hc : c.length ≤ 4611686018427387904) (hr : r.length ≤ 4611686018427387904) {k : Nat} (hk : c.length + r.length < k) : impl_IsValidRecord.f k (M c) (M r) = some (decide (Ok c r)) := by
 unfold impl_IsValidRecord.f impl_isCommand.f
 rw [within_eq, isPlain_eq c hc (by omega), isPlain_eq r hr (by omega), M_size, M_size, show (⟨#[64]⟩ : ByteArray) = M [64] from rfl, contains_eq]
 simp only [Option.bind_some, decide_eq_true_eq]
 by_cases h1 : (1 : Int) ≤ c.length ∧ (c.length : Int) ≤ 160
 ·
  rw [if_pos h1]
  have a1 : 1 ≤ c.length := by omega
  have a2 : c.length ≤ 160 := by omega
  by_cases h2 : Plain c
  ·
   rw [if_pos h2]
   simp only [Option.bind_some]
   by_cases h3 : (64 : UInt8) ∈ c
   ·
    rw [if_neg (by simp [h3])]
    exact dec_of ⟨fun h => by simp at h, fun h => absurd h3 h.2.2.2.1⟩
   ·
    rw [if_pos (by simp [h3])]
    by_cases h4 : (r.length : Int) ≤ 200
    ·
     rw [if_pos h4]
     exact dec_of ⟨fun h => ⟨a1, a2, h2, h3, by omega, of_decide_eq_true h⟩, fun h => decide_eq_true h.2.2.2.2.2⟩
    ·
     rw [if_neg h4]
     exact dec_of ⟨fun h => by simp at h, fun h => absurd h.2.2.2.2.1 (by omega)⟩
  ·
   rw [if_neg h2]
   simp only [Option.bind_some]
   rw [if_neg (by simp)]
   exact dec_of ⟨fun h => by simp at h, fun h => absurd h.2.2.1 h2⟩
 ·
  rw [if_neg h1]
  simp only [Option.bind_some]
  rw [if_neg (by simp)]
  exact dec_of ⟨fun h => by simp at h, fun h => absurd (And.intro h.1 h.2.1) (fun h => h1 ⟨by omega, by omega⟩)⟩
theorem good_eq (c r : List UInt8) (hc : c.length ≤ 4611686018427387904) (hr : r.length ≤ 4611686018427387904) {k : Nat} (hk : c.length + r.length < k) : spec_l27Good.f k (M c) (M r) = some (decide (Ok c r)) := by
 unfold spec_l27Good.f
 rw [M_toList, plain_eq c 160 hc (by omega), plain_eq r 200 hr (by omega), show (64 : Int) = ((64 : Nat) : Int) from rfl, stands_eq c 64 (by omega) hc (by omega)]
 simp only [Option.bind_some, decide_eq_true_eq]
 by_cases h1 : c = []
 ·
  rw [if_pos h1]
  exact dec_of ⟨fun h => by simp at h, fun h => absurd h.1 (by simp [h1])⟩
 ·
  rw [if_neg h1]
  have a1 : 1 ≤ c.length := by have := List.length_pos_iff.2 h1; omega
  by_cases h2 : Plain c ∧ (c.length : Int) ≤ 160
  ·
   rw [if_pos h2]
   have a2 : c.length ≤ 160 := by omega
   by_cases h3 : UInt8.ofNat 64 ∈ c
   ·
    rw [if_pos h3]
    exact dec_of ⟨fun h => by simp at h, fun h => absurd h3 h.2.2.2.1⟩
   ·
    rw [if_neg h3]
    refine dec_of ⟨fun h => ?_, fun h => decide_eq_true ⟨h.2.2.2.2.2, by have := h.2.2.2.2.1; omega⟩⟩
    have h := of_decide_eq_true h
    exact ⟨a1, a2, h2.1, h3, by omega, h.1⟩
  ·
   rw [if_neg h2]
   exact dec_of ⟨fun h => by simp at h, fun h => absurd (And.intro h.2.2.1 h.2.1) (fun h => h2 ⟨h.1, by omega⟩)⟩
theorem itoa_nat (n : Nat) : itoa (n : Int) = decDigits n := by
 unfold itoa
 rw [if_neg (by omega), Int.toNat_natCast]
theorem decimal_eq {a : Int} (h0 : -9223372036854775808 ≤ a) (h1 : a ≤ 9223372036854775807) : impl_decimal.f a = some (M (itoa a)) := by
 unfold impl_decimal.f strconv_Itoa_76.f
 rw [if_pos h0, if_pos h1]
 rfl
theorem dig_at (n : Nat) (h : n < 10) : (([48, 49, 50, 51, 52, 53, 54, 55, 56, 57] : List UInt8).drop n).take 1 = [UInt8.ofNat (48 + n)] := by
 match n, h with
 | 0, _ => rfl
 | 1, _ => rfl
 | 2, _ => rfl
 | 3, _ => rfl
 | 4, _ => rfl
 | 5, _ => rfl
 | 6, _ => rfl
 | 7, _ => rfl
 | 8, _ => rfl
 | 9, _ => rfl
theorem num_small (k n : Nat) (h : n < 10) : spec_l1Num.f (k + 1) (n : Int) = some (M (decDigits n)) := by
 rw [spec_l1Num.f, if_neg (by omega), if_pos (by omega), if_pos (by omega), w64 (by omega) (by omega), if_pos (by omega), if_pos (by omega), show (⟨#[48, 49, 50, 51, 52, 53, 54, 55, 56, 57]⟩ : ByteArray) = M [48, 49, 50, 51, 52, 53, 54, 55, 56, 57] from rfl, sx_M, show ((n : Int) + 1).toNat - (n : Int).toNat = 1 by omega, Int.toNat_natCast, dig_at n h, decDigits, dif_pos h]
theorem num_div (n : Nat) (hn : n ≤ 1000000000000000000) : wrap64 (Int.tdiv (n : Int) 10) = ((n / 10 : Nat) : Int) := by
  rw [Int.tdiv_eq_ediv_of_nonneg (by omega)]
  unfold wrap64
  omega
theorem num_mod (n : Nat) : Int.tmod (n : Int) 10 = ((n % 10 : Nat) : Int) := by
  rw [Int.tmod_eq_emod_of_nonneg (by omega)]
  omega
theorem num_app (n : Nat) (h10 : ¬ n < 10) : decDigits n = decDigits (n / 10) ++ [UInt8.ofNat (48 + n % 10)] := by
  conv => lhs; rw [decDigits, dif_neg h10]
theorem num_dig (q : Nat) (hm : q < 10) : sx (⟨#[48, 49, 50, 51, 52, 53, 54, 55, 56, 57]⟩ : ByteArray) ((q : Int).toNat) ((wrap64 ((q : Int) + 1) : Int).toNat) = M [UInt8.ofNat (48 + q)] := by
 rw [w64 (by omega) (by omega), show (⟨#[48, 49, 50, 51, 52, 53, 54, 55, 56, 57]⟩ : ByteArray) = M [48, 49, 50, 51, 52, 53, 54, 55, 56, 57] from rfl, sx_M, show ((q : Int) + 1).toNat - (q : Int).toNat = 1 by omega, Int.toNat_natCast, dig_at q hm]
theorem num_unf (k : Nat) (a0 : Int) (D d : ByteArray) (q : Int) (h : ¬ a0 < 0) (h2 : ¬ a0 < 10) (hq : Int.tmod a0 10 = q) (hb : spec_l1Num.f k (wrap64 (Int.tdiv a0 10)) = some D) (c1 : 0 ≤ q) (c2 : q ≤ wrap64 (q + 1)) (c3 : wrap64 (q + 1) ≤ 10)
  (hd : sx (⟨#[48, 49, 50, 51, 52, 53, 54, 55, 56, 57]⟩ : ByteArray) ((q : Int).toNat) ((wrap64 (q + 1) : Int).toNat) = d) (c4 : D.size + d.size ≤ 9223372036854775807) : spec_l1Num.f (k + 1) a0 = some (sc D d) := by
 subst hd
 subst hq
 rw [spec_l1Num.f, if_neg h, if_neg h2, hb, Option.bind_some, if_pos c1, if_pos c2, if_pos c3, if_pos c4]
theorem num_step (k n : Nat) (h10 : ¬ n < 10) (hn : n ≤ 1000000000000000000) (ih : spec_l1Num.f k ((n / 10 : Nat) : Int) = some (M (decDigits (n / 10)))) (hl : (decDigits (n / 10)).length ≤ 40) : spec_l1Num.f (k + 1) (n : Int) = some (M (decDigits n)) := by
 have hq : n % 10 < 10 := Nat.mod_lt _ (by omega)
 have hw : wrap64 (((n % 10 : Nat) : Int) + 1) = ((n % 10 : Nat) : Int) + 1 := w64 (by omega) (by omega)
 have := num_unf k n (M (decDigits (n / 10))) (M [UInt8.ofNat (48 + n % 10)]) ((n % 10 : Nat) : Int) (by omega) (by omega) (num_mod n) (by rw [num_div n hn]; exact ih) (by omega) (by rw [hw]; omega) (by rw [hw]; omega) (num_dig _ hq) (by rw [M_size, M_size]; simp only [List.length_cons, List.length_nil]; omega)
 rw [this, sc_M, ← num_app n h10]
theorem num_of {n k : Nat} (h : n ≤ 1000000000000000000) (hk : 20 ≤ k) : spec_l1Num.f k (n : Int) = some (M (decDigits n)) := by
 have all : ∀ (j k n : Nat), n ≤ 1000000000000000000 → n < 10 ^ (j + 1) → j ≤ 19 → j < k → spec_l1Num.f k (n : Int) = some (M (decDigits n)) := by
  intro j
  induction j with
  | zero =>
   intro k n h hj h19 hk
   obtain ⟨k, rfl⟩ : ∃ m, k = m + 1 := ⟨k - 1, by omega⟩
   exact num_small k n (by omega)
  | succ j ih =>
   intro k n h hj h19 hk
   obtain ⟨k, rfl⟩ : ∃ m, k = m + 1 := ⟨k - 1, by omega⟩
   by_cases h10 : n < 10
   ·
    exact num_small k n h10
   ·
    have hd : n / 10 < 10 ^ (j + 1) := by
     rw [Nat.pow_succ] at hj
     omega
    exact num_step k n h10 h (ih k (n / 10) (by omega) hd (by omega) (by omega)) (Nat.le_trans (digits_len_aux j (n / 10) hd) (by omega))
 exact all 19 k n h (Nat.lt_of_le_of_lt h (by decide)) (by omega) (by omega)
theorem cut_eq (l : List UInt8) (c : UInt8) (hl : l.length ≤ 4611686018427387904) : strings_Cut.f (M l) (M [c]) = some (M (upto c l), M (after c l), decide (c ∈ l)) := by
 unfold strings_Cut.f stringslite_Cut.f
 rw [index_eq]
 simp only [Option.bind_some]
 by_cases h : c ∈ l
 ·
  have hlt := upto_lt h
  rw [index_some h, M_size, M_size, w64 (by simp; omega) (by simp; omega), if_pos (by omega), if_pos (by omega), if_pos (by omega), if_pos (by first | omega | (simp; done) | (simp; omega)), if_pos (by first | omega | (simp; done) | (simp; omega))]
  simp only [Option.bind_some, sx_M, Option.some.injEq, Prod.mk.injEq, M_inj, h, decide_true, and_true]
  constructor
  ·
   rw [Int.toNat_natCast, List.drop_zero, Nat.sub_zero, ← upto_take]
  ·
   rw [after_drop c h, show (((upto c l).length : Int) + ([c].length : Nat)).toNat = (upto c l).length + 1 by (first | omega | (simp; done) | (simp; omega)), List.take_of_length_le (by first | omega | (simp; done) | (simp; omega))]
 ·
  rw [index_none h, if_neg (by omega)]
  simp only [Option.bind_some, Option.some.injEq, Prod.mk.injEq, h, decide_false, and_true, upto_none h, after_none h, true_and]
  rfl
theorem step_rng (n : Nat) (x : UInt8) (h : n < 999979) : Int.tmod (wrap64 (wrap64 (wrap64 (41 * (n : Int)) + wrap64 (x.toNat : Int)) + 1)) 999979 = (((41 * n + x.toNat + 1) % 999979 : Nat) : Int) := by
 have hx := byte_rng x
 rw [w64 (x := 41 * (n : Int)) (by omega) (by omega), w64 (x := (x.toNat : Int)) (by omega) (by omega), w64 (x := 41 * (n : Int) + x.toNat) (by omega) (by omega), w64 (by omega) (by omega)]
 rw [Int.tmod_eq_emod_of_nonneg (by omega)]
 omega
theorem checksum_l0 (l : List UInt8) (hl : l.length ≤ 4611686018427387904) (d : Nat) : ∀ (k i n : Nat), n < 999979 → i + d = l.length → d < k →
  impl_checksum.l0 k (M l) n l.length i = some (((l.drop i).foldl (fun n b => (41 * n + b.toNat + 1) % 999979) n : Nat) : Int) ∧
  spec_l1Sum.l0 k (M l) n i = some (((l.drop i).foldl (fun n b => (41 * n + b.toNat + 1) % 999979) n : Nat) : Int) := by
 induction d with
 | zero =>
  intro k i n hn hd hk
  obtain ⟨k, rfl⟩ : ∃ m, k = m + 1 := ⟨k - 1, by omega⟩
  simp only [impl_checksum.l0, spec_l1Sum.l0]
  rw [M_size, if_neg (by omega), if_neg (by omega), List.drop_of_length_le (by omega)]
  simp
 | succ d ih =>
  intro k i n hn hd hk
  obtain ⟨k, rfl⟩ : ∃ m, k = m + 1 := ⟨k - 1, by omega⟩
  simp only [impl_checksum.l0, spec_l1Sum.l0]
  rw [M_size, if_pos (by omega), if_pos (by omega), if_pos (by omega), if_pos (by omega), if_pos (by omega), bt_M, drop_at l i (by omega)]
  generalize l.getD i 0 = x
  rw [step_rng n x hn, w64 (x := (i : Int) + 1) (by omega) (by omega)]
  have := ih k (i + 1) ((41 * n + x.toNat + 1) % 999979) (Nat.mod_lt _ (by omega)) (by omega) (by omega)
  rw [show ((i + 1 : Nat) : Int) = (i : Int) + 1 by omega] at this
  exact this
theorem checksum_eq (l : List UInt8) (hl : l.length ≤ 4611686018427387904) {k : Nat} (hk : l.length < k) : impl_checksum.f k (M l) = some ((sum l : Nat) : Int) ∧ spec_l1Sum.f k (M l) = some ((sum l : Nat) : Int) := by
 unfold impl_checksum.f spec_l1Sum.f sum
 rw [M_size]
 simpa using checksum_l0 l hl l.length k 0 7 (by omega) (by omega) hk
theorem encode_eq {a k : Nat} (ha : a ≤ 1000000000000000000) (c r : List UInt8) (hc : c.length ≤ 1152921504606846976) (hr : r.length ≤ 1152921504606846976) (hk : c.length + r.length + 60 < k) : impl_encode.f k a (M c) (M r) = some (M (enc a c r)) := by
 have hd := digits_len_aux 19 a (by omega)
 have hb := body_len a c r
 have hs := sum_lt (body a c r)
 have hd2 := digits_len_aux 5 (sum (body a c r)) (by omega)
 unfold impl_encode.f
 rw [decimal_eq (by omega) (by omega), itoa_nat]
 simp only [Option.bind_some, show (⟨#[32]⟩ : ByteArray) = M [32] from rfl, show (⟨#[64]⟩ : ByteArray) = M [64] from rfl, show (⟨#[35]⟩ : ByteArray) = M [35] from rfl, show (⟨#[10]⟩ : ByteArray) = M [10] from rfl, sc_M, M_size]
 have e : decDigits a ++ [32] ++ c ++ [64] ++ r = body a c r := by simp [body]
 rw [e]
 have hks : (body a c r).length < k := by omega
 rw [(checksum_eq (body a c r) (by omega) hks).1]
 simp only [Option.bind_some]
 rw [decimal_eq (by omega) (by omega), itoa_nat]
 simp only [Option.bind_some, sc_M, M_size]
 rw [if_pos (by omega), if_pos (by simp; omega), if_pos (by simp; omega), if_pos (by simp; omega), if_pos (by omega), if_pos (by simp; omega), if_pos (by simp; omega)]
 simp [enc, line]
theorem line_eq {a k : Nat} (ha : a ≤ 1000000000000000000) (c r : List UInt8) (hc : c.length ≤ 1152921504606846976) (hr : r.length ≤ 1152921504606846976) (hk : c.length + r.length + 60 < k) : spec_l27Line.f k a (M c) (M r) = some (M (enc a c r)) := by
 have hd := digits_len_aux 19 a (by omega)
 have hb := body_len a c r
 have hs := sum_lt (body a c r)
 have hd2 := digits_len_aux 5 (sum (body a c r)) (by omega)
 unfold spec_l27Line.f
 rw [num_of ha (by omega)]
 simp only [Option.bind_some, show (⟨#[32]⟩ : ByteArray) = M [32] from rfl, show (⟨#[64]⟩ : ByteArray) = M [64] from rfl, show (⟨#[10]⟩ : ByteArray) = M [10] from rfl, sc_M, M_size]
 have e : decDigits a ++ [32] ++ c ++ [64] ++ r = body a c r := by simp [body]
 rw [e]
 have hks : (body a c r).length < k := by omega
 have hseal : spec_l1Seal.f k (M (body a c r)) = some (M (line a c r)) := by
  unfold spec_l1Seal.f
  rw [(checksum_eq (body a c r) (by omega) hks).2]
  simp only [Option.bind_some]
  rw [num_of (by omega) (by omega)]
  simp only [Option.bind_some, show (⟨#[35]⟩ : ByteArray) = M [35] from rfl, sc_M, M_size]
  rw [if_pos (by omega), if_pos (by simp; omega)]
  simp [line]
 rw [hseal]
 simp only [Option.bind_some, sc_M, M_size]
 have hll : (line a c r).length = (body a c r).length + 1 + (decDigits (sum (body a c r))).length := by simp [line]; omega
 rw [if_pos (by omega), if_pos (by simp; omega), if_pos (by simp; omega), if_pos (by simp; omega), if_pos (by omega)]
 rfl
def pieces (c : UInt8) : List UInt8 → List (List UInt8)
 | [] => [[]]
 | x :: l => if x = c then [] :: pieces c l else match pieces c l with
  | [] => [[x]]
  | p :: ps => (x :: p) :: ps
theorem pieces_ne (c : UInt8) : ∀ l, ∃ p ps, pieces c l = p :: ps
 | [] => ⟨[], [], rfl⟩
 | x :: l => by
  obtain ⟨p, ps, h⟩ := pieces_ne c l
  by_cases e : x = c
  ·
   exact ⟨_, _, by simp [pieces, e]; exact ⟨rfl, rfl⟩⟩
  ·
   exact ⟨_, _, by simp [pieces, e, h]; exact ⟨rfl, rfl⟩⟩
theorem pieces_len (c : UInt8) : ∀ l, (pieces c l).length ≤ l.length + 1
 | [] => by simp [pieces]
 | x :: l => by
  have := pieces_len c l
  by_cases e : x = c
  ·
   simp [pieces, e]; omega
  ·
   obtain ⟨p, ps, h⟩ := pieces_ne c l
   rw [h] at this
   simp [pieces, e, h] at this ⊢
   omega
theorem pieces_head (c : UInt8) : ∀ l, ∃ ps, pieces c l = upto c l :: ps ∧ (ps ≠ [] ↔ c ∈ l)
 | [] => ⟨[], rfl, by simp⟩
 | x :: l => by
  by_cases e : x = c
  ·
   obtain ⟨p, ps, h⟩ := pieces_ne c l
   refine ⟨pieces c l, by simp [pieces, upto, e], ?_⟩
   rw [h]
   simp [e]
  ·
   obtain ⟨ps, h, h2⟩ := pieces_head c l
   refine ⟨ps, by simp [pieces, upto, e, h], ?_⟩
   rw [h2]
   have : ¬ c = x := fun h => e h.symm
   simp [this]
def glue (p : List UInt8) : List (List UInt8) → List (List UInt8)
 | [] => [p]
 | q :: qs => (p ++ q) :: qs
theorem split_l0 (l : List UInt8) (c : Nat) (hc : c < 256) (hl : l.length ≤ 1099511627776) (d : Nat) : ∀ (k i j : Nat) (acc : List ByteArray), i + d = l.length → j ≤ i → d < k → acc.length + d ≤ 2199023255552 →
  spec_l1Split.l0 k (M l) c acc j i = some (acc ++ (glue ((l.drop j).take (i - j)) (pieces (UInt8.ofNat c) (l.drop i))).map M) := by
 induction d with
 | zero =>
  intro k i j acc hd hj hk ha
  obtain ⟨k, rfl⟩ : ∃ m, k = m + 1 := ⟨k - 1, by omega⟩
  simp only [spec_l1Split.l0]
  rw [M_size, if_neg (by omega), if_pos (by omega), if_pos (by omega), if_pos (by omega), List.drop_of_length_le (i := i) (by omega), sx_M, Int.toNat_natCast]
  simp only [pieces, glue, List.append_nil, List.map_cons, List.map_nil]
  rw [List.take_of_length_le (by simp), List.take_of_length_le (by first | omega | (simp; done) | (simp; omega))]
 | succ d ih =>
  intro k i j acc hd hj hk ha
  obtain ⟨k, rfl⟩ : ∃ m, k = m + 1 := ⟨k - 1, by omega⟩
  simp only [spec_l1Split.l0]
  rw [M_size, if_pos (by omega), if_pos (by omega), bt_M, drop_at l i (by omega)]
  have hx : (l.drop j).take (i + 1 - j) = (l.drop j).take (i - j) ++ [l.getD i 0] := by
   rw [show i + 1 - j = (i - j) + 1 by omega, List.take_add_one, List.getElem?_drop, show j + (i - j) = i by omega, List.getElem?_eq_getElem (by omega), List.getD_eq_getElem?_getD, List.getElem?_eq_getElem (by omega)]
   rfl
  generalize hxx : l.getD i 0 = x at hx ⊢
  rw [w64 (x := (i : Int) + 1) (by omega) (by omega)]
  by_cases h1 : (x.toNat : Int) = (c : Int)
  ·
   have he : x = UInt8.ofNat c := (byte_eq x c hc).1 h1
   rw [if_pos h1, if_pos (by omega), if_pos (by omega), if_pos (by omega), if_pos (by omega), sx_M, Int.toNat_natCast, Int.toNat_natCast]
   have := ih k (i + 1) (i + 1) (acc ++ [M ((l.drop j).take (i - j))]) (by omega) (by omega) (by omega) (by first | omega | (simp; done) | (simp; omega))
   rw [show ((i + 1 : Nat) : Int) = (i : Int) + 1 by omega] at this
   rw [this]
   obtain ⟨p, ps, hp⟩ := pieces_ne (UInt8.ofNat c) (l.drop (i + 1))
   simp [pieces, he, glue, hp]
  ·
   have he : ¬ x = UInt8.ofNat c := fun e => h1 ((byte_eq x c hc).2 e)
   rw [if_neg h1]
   have := ih k (i + 1) j acc (by omega) (by omega) (by omega) (by omega)
   rw [show ((i + 1 : Nat) : Int) = (i : Int) + 1 by omega] at this
   rw [this, hx]
   obtain ⟨p, ps, hp⟩ := pieces_ne (UInt8.ofNat c) (l.drop (i + 1))
   simp [pieces, he, glue, hp]
theorem split_eq (l : List UInt8) (c : Nat) (hc : c < 256) (hl : l.length ≤ 1099511627776) {k : Nat} (hk : l.length < k) : spec_l1Split.f k (M l) c = some ((pieces (UInt8.ofNat c) l).map M) := by
 unfold spec_l1Split.f
 have := split_l0 l c hc hl l.length k 0 0 [] (by omega) (by omega) hk (by first | omega | (simp; done) | (simp; omega))
 obtain ⟨p, ps, hp⟩ := pieces_ne (UInt8.ofNat c) l
 simpa [glue, hp] using this
theorem split_head (l : List UInt8) (c : Nat) (hc : c < 256) (hl : l.length ≤ 1099511627776) {k : Nat} (hk : l.length < k) :
  ∃ ps : List ByteArray, spec_l1Split.f k (M l) c = some (M (upto (UInt8.ofNat c) l) :: ps) ∧ (ps ≠ [] ↔ UInt8.ofNat c ∈ l) ∧ ps.length ≤ l.length := by
 obtain ⟨ps, h1, h2⟩ := pieces_head (UInt8.ofNat c) l
 refine ⟨ps.map M, by rw [split_eq l c hc hl hk, h1]; rfl, by rw [← h2]; simp, ?_⟩
 have := pieces_len (UInt8.ofNat c) l
 rw [h1] at this
 simpa using this
theorem rd_head (a : ByteArray) (ps : List ByteArray) : rdOf ByteArray.empty (a :: ps) 0 = a := rfl
theorem readRecord_eq {k K : Nat} (s : List UInt8) (hs : s.length ≤ 1099511627776) (hk : k ≤ 1000000) (hK : 2 * s.length + 100 < K) :
  impl_readRecord.f K k (M s) = some (match dec k s with | some (c, r, n) => (M c, M r, (n : Int), true) | none => (M [], M [], 0, false)) := by
 have l1 := upto_len (c := 10) s
 have l2 := upto_len (c := 35) (upto 10 s)
 have l3 : ∀ (c : UInt8) (l : List UInt8), (after c l).length ≤ l.length := fun c l => by
  by_cases h : c ∈ l
  ·
   rw [after_drop c h, List.length_drop]; omega
  ·
   rw [after_none h]; simp
 have l4 := l3 32 (upto 35 (upto 10 s))
 have l5 := upto_len (c := 64) (after 32 (upto 35 (upto 10 s)))
 have l6 := l3 64 (after 32 (upto 35 (upto 10 s)))
 unfold impl_readRecord.f
 rw [show (⟨#[10]⟩ : ByteArray) = M [10] from rfl, show (⟨#[35]⟩ : ByteArray) = M [35] from rfl, show (⟨#[32]⟩ : ByteArray) = M [32] from rfl, show (⟨#[64]⟩ : ByteArray) = M [64] from rfl, cut_eq s 10 (by omega)]
 simp only [Option.bind_some]
 rw [cut_eq _ 35 (by omega)]
 simp only [Option.bind_some]
 rw [cut_eq _ 32 (by omega)]
 simp only [Option.bind_some]
 rw [cut_eq _ 64 (by omega)]
 simp only [Option.bind_some]
 unfold dec
 generalize after 32 (upto 35 (upto 10 s)) = rest at l4 l5 l6 ⊢
 by_cases h1 : (10 : UInt8) ∈ s
 ·
  rw [if_pos (by simpa using h1)]
  by_cases h2 : 60 ≤ k
  ·
   rw [if_pos (by omega), if_neg (by omega)]
   rfl
  ·
   rw [if_neg (by omega), isRec_eq _ _ (by omega) (by omega) (by omega)]
   simp only [Option.bind_some, decide_eq_true_eq]
   by_cases h3 : Ok (upto 64 rest) (after 64 rest)
   ·
    rw [if_pos h3, encode_eq (by omega) _ _ (by omega) (by omega) (by omega)]
    simp only [Option.bind_some]
    rw [M_size, if_pos (by omega), sc_M, M_toList, M_toList]
    by_cases h4 : enc k (upto 64 rest) (after 64 rest) = upto 10 s ++ [10]
    ·
     rw [if_pos h4, if_pos ⟨h1, by omega, h3, h4⟩, w64 (by omega) (by omega)]
     simp
    ·
     rw [if_neg h4, if_neg (fun h => h4 h.2.2.2)]
     rfl
   ·
    rw [if_neg h3, if_neg (fun h => h3 h.2.2.1)]
    rfl
 ·
  rw [if_neg (by simpa using h1), if_neg (fun h => h1 h.1)]
  rfl
theorem read_eq {k K : Nat} (s : List UInt8) (hs : s.length ≤ 1099511627776) (hk : k ≤ 1000000) (hK : 4 * s.length + 200 < K) :
  ∃ (c r : List UInt8) (b : Bool), spec_l27Read.f K (M s) k = some (M c, M r, b) ∧ (b = true → Ok c r ∧ enc k c r = s ++ [10]) ∧ (∀ c' r', Ok c' r' → enc k c' r' = s ++ [10] → b = true ∧ c = c' ∧ r = r') := by
 have hd := digits_len_aux 7 k (by omega)
 obtain ⟨ps, hp, _, _⟩ := split_head s 35 (by omega) hs (k := K) (by omega)
 have l1 := upto_len (c := 35) s
 have hline : ∀ c' r', Ok c' r' → enc k c' r' = s ++ [10] → upto 35 s = decDigits k ++ 32 :: (c' ++ 64 :: r') := fun c' r' ho he => by
  have : s = line k c' r' := by
   have := congrArg List.dropLast he
   simpa [enc] using this.symm
  rw [this, line_text ho]
  rfl
 unfold spec_l27Read.f
 rw [num_of (by omega) (by omega)]
 simp only [Option.bind_some]
 rw [M_size, if_pos (by omega), show (35 : Int) = ((35 : Nat) : Int) from rfl, hp]
 simp only [Option.bind_some]
 rw [if_pos (by first | omega | (simp; done) | (simp; omega)), rd_head, show (⟨#[32]⟩ : ByteArray) = M [32] from rfl, sc_M, M_size, M_size, show UInt8.ofNat 35 = 35 from rfl]
 generalize htx : upto 35 s = text at l1 hline ⊢
 have hlen : (decDigits k ++ [32]).length = (decDigits k).length + 1 := by simp
 obtain ⟨K1, rfl⟩ : ∃ m, K = m + 1 := ⟨K - 1, by omega⟩
 have fail : spec_l27Read.j0 (K1 + 1) (M s) k (M (decDigits k ++ [32])) (M text) true = some (M [], M [], false) := by
  simp only [spec_l27Read.j0]
  rfl
 by_cases h1 : text.length < (decDigits k ++ [32]).length
 ·
  rw [if_pos (by omega), fail]
  refine ⟨[], [], false, rfl, by simp, fun c' r' ho he => ?_⟩
  have := hline c' r' ho he
  rw [this] at h1
  simp only [List.length_append, List.length_cons, List.length_nil] at h1
  omega
 ·
  rw [if_neg (by omega), if_pos (by omega), if_pos (by omega), sx_M, M_toList, M_toList, List.drop_zero, Nat.sub_zero]
  by_cases h2 : text.take (decDigits k ++ [32]).length = decDigits k ++ [32]
  ·
   have hb : (List.take (decDigits k ++ [32]).length text != decDigits k ++ [32]) = false := by simpa using h2
   rw [hb]
   simp only [spec_l27Read.j0]
   rw [if_neg (by simp), M_size, M_size, if_pos (by omega), if_pos (by omega), sx_M, List.take_of_length_le (by simp)]
   generalize hrest : text.drop (decDigits k ++ [32]).length = rest
   have hrl : rest.length = text.length - (decDigits k ++ [32]).length := by rw [← hrest, List.length_drop]
   obtain ⟨qs, hq, _, _⟩ := split_head rest 64 (by omega) (by omega) (k := K1) (by omega)
   rw [show (64 : Int) = ((64 : Nat) : Int) from rfl, hq]
   simp only [Option.bind_some]
   rw [if_pos (by first | omega | (simp; done) | (simp; omega)), rd_head, M_size, M_size, show UInt8.ofNat 64 = 64 from rfl]
   have hcr : ∀ c' r', Ok c' r' → enc k c' r' = s ++ [10] → rest = c' ++ 64 :: r' := fun c' r' ho he => by
    rw [← hrest, hline c' r' ho he, show decDigits k ++ 32 :: (c' ++ 64 :: r') = (decDigits k ++ [32]) ++ (c' ++ 64 :: r') by simp]
    exact List.drop_left
   by_cases h3 : (64 : UInt8) ∈ rest
   ·
    have hlt := upto_lt h3
    rw [if_neg (by omega), w64 (by omega) (by omega), if_pos (by omega), if_pos (by omega), sx_M, show (((upto 64 rest).length : Int) + 1).toNat = (upto 64 rest).length + 1 by omega, List.take_of_length_le (by simp), ← after_drop 64 h3]
    have l6 : (after 64 rest).length ≤ rest.length := by rw [after_drop 64 h3, List.length_drop]; omega
    rw [good_eq _ _ (by omega) (by omega) (by omega)]
    simp only [Option.bind_some, decide_eq_true_eq]
    have hun : ∀ c' r', Ok c' r' → enc k c' r' = s ++ [10] → upto 64 rest = c' ∧ after 64 rest = r' := fun c' r' ho he => by
     rw [hcr c' r' ho he, rest_cmd ho, rest_rep ho]
     exact ⟨rfl, rfl⟩
    by_cases h4 : Ok (upto 64 rest) (after 64 rest)
    ·
     rw [if_pos h4, line_eq (by omega) _ _ (by omega) (by omega) (by omega)]
     simp only [Option.bind_some]
     rw [M_size, if_pos (by omega), show (⟨#[10]⟩ : ByteArray) = M [10] from rfl, sc_M, M_toList, M_toList]
     refine ⟨_, _, _, rfl, fun h => ⟨h4, by simpa using h⟩, fun c' r' ho he => ?_⟩
     obtain ⟨e1, e2⟩ := hun c' r' ho he
     refine ⟨?_, e1, e2⟩
     rw [e1, e2, he]
     simp
    ·
     rw [if_neg h4]
     refine ⟨_, _, false, rfl, by simp, fun c' r' ho he => ?_⟩
     obtain ⟨e1, e2⟩ := hun c' r' ho he
     rw [e1, e2] at h4
     exact absurd ho h4
   ·
    rw [upto_none h3, if_pos rfl]
    refine ⟨[], [], false, rfl, by simp, fun c' r' ho he => ?_⟩
    rw [hcr c' r' ho he] at h3
    exact absurd h3 (by simp)
  ·
   have hb : (List.take (decDigits k ++ [32]).length text != decDigits k ++ [32]) = true := by simpa using h2
   rw [hb, fail]
   refine ⟨[], [], false, rfl, by simp, fun c' r' ho he => ?_⟩
   have h5 := hline c' r' ho he
   rw [show decDigits k ++ 32 :: (c' ++ 64 :: r') = (decDigits k ++ [32]) ++ (c' ++ 64 :: r') by simp] at h5
   rw [h5, List.take_left] at h2
   exact absurd rfl h2
theorem dec_iff {k : Nat} {s c r : B} {n : Nat} : dec k s = some (c, r, n) ↔ k < 60 ∧ (10 : UInt8) ∈ s ∧ Ok c r ∧ enc k c r = upto 10 s ++ [10] ∧ n = (upto 10 s).length + 1 := by
 constructor
 ·
  intro h
  unfold dec at h
  split at h
  ·
   rename_i hc
   simp only [Option.some.injEq, Prod.mk.injEq] at h
   obtain ⟨rfl, rfl, rfl⟩ := h
   exact ⟨hc.2.1, hc.1, hc.2.2.1, hc.2.2.2, rfl⟩
  ·
   cases h
 ·
  rintro ⟨h1, h2, h3, h4, rfl⟩
  refine dec_some.2 ⟨h1, h3, ?_, by rw [h4]; simp⟩
  rw [h4]
  refine ⟨after 10 s, ?_⟩
  rw [List.append_assoc, List.singleton_append, ← cut_at h2]
def R27 (x : B × B × Nat) : S27 := ⟨M x.1, M x.2.1⟩
theorem open_l0 (s : List UInt8) (hs : s.length ≤ 1099511627776) (m : Nat) : ∀ (K at_ : Nat) (acc : List S27), acc.length + m = 60 → at_ ≤ s.length → 2 * m + 4 * s.length + 300 < K →
  spec_l27Open.l0 K (M s) acc at_ = some (acc ++ (all m acc.length (s.drop at_)).map R27, ((at_ + tot (all m acc.length (s.drop at_)) : Nat) : Int)) := by
 induction m with
 | zero =>
  intro K at_ acc ha hat hK
  obtain ⟨K, rfl⟩ : ∃ m, K = m + 1 + 1 := ⟨K - 2, by omega⟩
  simp only [spec_l27Open.l0]
  have : decide ((acc.length : Int) < 60) = false := by simp; omega
  rw [this, ite_self]
  simp [spec_l27Open.j1, all, tot]
 | succ m ih =>
  intro K at_ acc ha hat hK
  obtain ⟨K, rfl⟩ : ∃ m, K = m + 1 + 1 := ⟨K - 2, by omega⟩
  simp only [spec_l27Open.l0]
  have hd : decide ((acc.length : Int) < 60) = true := by simp; omega
  rw [M_size, hd]
  by_cases hlt : at_ < s.length
  ·
   rw [if_pos (by omega)]
   have hrl : (s.drop at_).length = s.length - at_ := List.length_drop
   have hsx : sx (M s) (((at_ : Int) : Int).toNat) s.length = M (s.drop at_) := by
    rw [sx_M, Int.toNat_natCast, List.take_of_length_le (by simp)]
   generalize hrest : s.drop at_ = rest at hrl hsx ⊢
   have lu := upto_len (c := 10) rest
   obtain ⟨ps, hp, hpn, _⟩ := split_head rest 10 (by omega) (by omega) (k := K) (by omega)
   obtain ⟨c, r, b, hr, hb, hu⟩ := read_eq (k := acc.length) (K := K) (upto 10 rest) (by omega) (by omega) (by omega)
   simp only [spec_l27Open.j1]
   rw [if_pos trivial, if_pos (by omega), M_size, if_pos (by omega), hsx, show (10 : Int) = ((10 : Nat) : Int) from rfl, hp]
   simp only [Option.bind_some]
   rw [if_pos (by first | omega | (simp; done) | (simp; omega)), rd_head, show UInt8.ofNat 10 = 10 from rfl, hr]
   simp only [Option.bind_some]
   by_cases h2 : ps = []
   ·
    have h10 : (10 : UInt8) ∉ rest := fun h => absurd h2 (hpn.2 h)
    have hn : dec acc.length rest = none := by
     cases h : dec acc.length rest with
     | none => rfl
     | some x => obtain ⟨c', r', n'⟩ := x; exact absurd (dec_iff.1 h).2.1 h10
    rw [if_pos (by rw [h2]; simp), all_none hn]
    simp [tot]
   ·
    have h10 : (10 : UInt8) ∈ rest := hpn.1 h2
    have hpl : 0 < ps.length := List.length_pos_iff.2 h2
    rw [if_neg (by first | omega | (simp; omega))]
    cases hbb : b with
    | true =>
     subst hbb
     obtain ⟨ho, he⟩ := hb rfl
     have hdec : dec acc.length rest = some (c, r, (upto 10 rest).length + 1) := dec_iff.2 ⟨by omega, h10, ho, he, rfl⟩
     have hlt' := upto_lt h10
     rw [if_pos rfl, if_pos (by omega), M_size, w64 (x := (at_ : Int) + ((upto 10 rest).length : Nat)) (by omega) (by omega), w64 (by omega) (by omega)]
     have := ih K (at_ + ((upto 10 rest).length + 1)) (acc ++ [⟨M c, M r⟩]) (by simp; omega) (by omega) (by omega)
     rw [show ((at_ : Int) + ((upto 10 rest).length : Nat) + 1) = ((at_ + ((upto 10 rest).length + 1) : Nat) : Int) by omega, this, all_some hdec, tot_cons, ← List.drop_drop, hrest]
     simp [R27]
     omega
    | false =>
     subst hbb
     have hn : dec acc.length rest = none := by
      cases h : dec acc.length rest with
      | none => rfl
      | some x =>
       obtain ⟨c', r', n'⟩ := x
       obtain ⟨_, _, ho, he, _⟩ := dec_iff.1 h
       exact absurd (hu c' r' ho he).1 (by simp)
     rw [if_neg (by simp), all_none hn]
     simp [tot]
  ·
   rw [if_neg (by omega), List.drop_of_length_le (by omega), all_nil]
   simp [spec_l27Open.j1, tot]
theorem open_eq (s : List UInt8) (hs : s.length ≤ 1099511627776) {K : Nat} (hK : 4 * s.length + 500 < K) : spec_l27Open.f K (M s) = some ((all 60 0 s).map R27, ((tot (all 60 0 s) : Nat) : Int)) := by
 unfold spec_l27Open.f
 have := open_l0 s hs 60 K 0 [] rfl (Nat.zero_le _) (by omega)
 simpa using this
def sums (a : Nat) : List (B × B × Nat) → List Int
 | [] => []
 | x :: xs => ((a + x.2.2 : Nat) : Int) :: sums (a + x.2.2) xs
theorem rd_last (E : List Int) (a : Int) : rd (E ++ [a]) (((E ++ [a]).length : Int) - 1) = a := by
 unfold rd
 rw [List.length_append, show (((E.length + [a].length : Nat) : Int) - 1).toNat = E.length by simp, List.getD_eq_getElem?_getD, List.getElem?_append_right (Nat.le_refl _), Nat.sub_self]
 rfl
theorem reads_l0 (s : List UInt8) (hs : s.length ≤ 1099511627776) (m : Nat) : ∀ (K at_ : Nat) (acc : List S27) (E : List Int), acc.length + m = 60 → E.length ≤ acc.length → at_ ≤ s.length → m + 2 * s.length + 200 < K →
  impl_readRecords.l0 K (M s) acc (E ++ [(at_ : Int)]) = some (acc ++ (all m acc.length (s.drop at_)).map R27, E ++ [(at_ : Int)] ++ sums at_ (all m acc.length (s.drop at_))) := by
 induction m with
 | zero =>
  intro K at_ acc E ha hE hat hK
  obtain ⟨K, rfl⟩ : ∃ m, K = m + 1 := ⟨K - 1, by omega⟩
  have hl : (E ++ [(at_ : Int)]).length = E.length + 1 := by simp
  simp only [impl_readRecords.l0]
  rw [w64 (by omega) (by omega), if_pos (by omega), if_pos (by omega), rd_last, M_size, if_pos (by omega), if_pos (by omega), sx_M, Int.toNat_natCast, List.take_of_length_le (by simp), readRecord_eq _ (by simp; omega) (by omega) (by simp; omega)]
  have hn : dec acc.length (s.drop at_) = none := by
   cases h : dec acc.length (s.drop at_) with
   | none => rfl
   | some x => obtain ⟨c', r', n'⟩ := x; have := (dec_iff.1 h).1; omega
  rw [hn]
  simp [all, sums]
 | succ m ih =>
  intro K at_ acc E ha hE hat hK
  obtain ⟨K, rfl⟩ : ∃ m, K = m + 1 := ⟨K - 1, by omega⟩
  have hl : (E ++ [(at_ : Int)]).length = E.length + 1 := by simp
  have hdl : (s.drop at_).length = s.length - at_ := List.length_drop
  simp only [impl_readRecords.l0]
  rw [w64 (by omega) (by omega), if_pos (by omega), if_pos (by omega), rd_last, M_size, if_pos (by omega), if_pos (by omega), sx_M, Int.toNat_natCast, List.take_of_length_le (by simp), readRecord_eq _ (by omega) (by omega) (by omega)]
  cases h : dec acc.length (s.drop at_) with
  | none =>
   rw [all_none h]
   simp [sums]
  | some x =>
   obtain ⟨c, r, n⟩ := x
   have hn := dec_le h
   simp only [Option.bind_some]
   rw [if_pos trivial, if_pos (by omega), if_pos (by omega), w64 (by omega) (by omega)]
   have := ih K (at_ + n) (acc ++ [⟨M c, M r⟩]) (E ++ [(at_ : Int)]) (by simp; omega) (by simp; omega) (by omega) (by omega)
   rw [show ((at_ : Int) + (n : Int)) = ((at_ + n : Nat) : Int) by omega, this, all_some h, ← List.drop_drop]
   simp [sums, R27]
theorem reads_eq (s : List UInt8) (hs : s.length ≤ 1099511627776) {K : Nat} (hK : 2 * s.length + 300 < K) : impl_readRecords.f K (M s) = some ((all 60 0 s).map R27, 0 :: sums 0 (all 60 0 s)) := by
 unfold impl_readRecords.f
 have := reads_l0 s hs 60 K 0 [] [] rfl (Nat.le_refl _) (Nat.zero_le _) (by omega)
 simpa using this
theorem sums_len (l : List (B × B × Nat)) : ∀ a, (sums a l).length = l.length := by
 induction l with
 | nil => intro a; rfl
 | cons x l ih => intro a; simp [sums, ih]
theorem sums_last (l : List (B × B × Nat)) : ∀ a : Nat, ∃ E, (a : Int) :: sums a l = E ++ [((a + tot l : Nat) : Int)] := by
 induction l with
 | nil => intro a; exact ⟨[], by simp [sums, tot]⟩
 | cons x l ih =>
  intro a
  obtain ⟨E, h⟩ := ih (a + x.2.2)
  refine ⟨(a : Int) :: E, ?_⟩
  rw [sums, h, tot_cons]
  simp
  omega
theorem rd_sums (l : List (B × B × Nat)) : rd (0 :: sums 0 l) ((((0 : Int) :: sums 0 l).length : Int) - 1) = ((tot l : Nat) : Int) := by
 obtain ⟨E, h⟩ := sums_last l 0
 have h' : (0 : Int) :: sums 0 l = E ++ [((tot l : Nat) : Int)] := by simpa using h
 rw [h', rd_last]
theorem sums_mem (l : List (B × B × Nat)) : ∀ (a n : Nat), (n : Int) ∈ ((a : Int) :: sums a l) ↔ ∃ j, j ≤ l.length ∧ a + tot (l.take j) = n := by
 induction l with
 | nil =>
  intro a n
  constructor
  ·
   intro h
   simp [sums] at h
   exact ⟨0, Nat.le_refl _, by simp [tot]; omega⟩
  ·
   rintro ⟨j, _, h⟩
   simp [tot] at h
   simp [sums]
   omega
 | cons x l ih =>
  intro a n
  rw [sums, List.mem_cons, ih (a + x.2.2) n]
  constructor
  ·
   rintro (h | ⟨j, hj, h⟩)
   ·
    exact ⟨0, Nat.zero_le _, by simp [tot]; omega⟩
   ·
    exact ⟨j + 1, by simpa using hj, by rw [List.take_succ_cons, tot_cons]; omega⟩
  ·
   rintro ⟨j, hj, h⟩
   cases j with
   | zero => simp [tot] at h; exact .inl (by omega)
   | succ j => rw [List.take_succ_cons, tot_cons] at h; exact .inr ⟨j, by simpa using hj, by omega⟩
theorem has_l0 (l : List Int) (x : Int) (hl : l.length ≤ 4611686018427387904) (d : Nat) : ∀ (k i : Nat), i + d = l.length → d < k → ∃ r : Int, slices_Index_int_int.l0 k l x l.length i = some r ∧ (0 ≤ r ↔ x ∈ l.drop i) := by
 induction d with
 | zero =>
  intro k i hd hk
  obtain ⟨k, rfl⟩ : ∃ m, k = m + 1 := ⟨k - 1, by omega⟩
  refine ⟨-1, ?_, ?_⟩
  ·
   simp only [slices_Index_int_int.l0]
   rw [if_neg (by omega)]
  ·
   rw [List.drop_of_length_le (by omega)]
   simp
 | succ d ih =>
  intro k i hd hk
  obtain ⟨k, rfl⟩ : ∃ m, k = m + 1 := ⟨k - 1, by omega⟩
  have hx : l.drop i = rd l i :: l.drop (i + 1) := by
   unfold rd
   rw [Int.toNat_natCast, List.drop_eq_getElem_cons (by omega), List.getD_eq_getElem?_getD, List.getElem?_eq_getElem (by omega)]
   rfl
  simp only [slices_Index_int_int.l0]
  rw [if_pos (by omega), if_pos (by omega), if_pos (by omega), hx, w64 (by omega) (by omega)]
  by_cases h : x = rd l i
  ·
   rw [if_pos h]
   exact ⟨i, rfl, by simp [h]⟩
  ·
   rw [if_neg h]
   obtain ⟨r, h1, h2⟩ := ih k (i + 1) (by omega) (by omega)
   rw [show ((i + 1 : Nat) : Int) = (i : Int) + 1 by omega] at h1
   exact ⟨r, h1, by rw [h2]; simp [h]⟩
theorem has_eq (l : List Int) (x : Int) (hl : l.length ≤ 4611686018427387904) {k : Nat} (hk : l.length < k) : impl_has.f k l x = some (decide (x ∈ l)) := by
 unfold impl_has.f slices_Contains_int_int.f slices_Index_int_int.f
 obtain ⟨r, h1, h2⟩ := has_l0 l x hl l.length k 0 (by omega) hk
 rw [show ((0 : Nat) : Int) = 0 from rfl] at h1
 rw [h1]
 simp only [Option.bind_some]
 exact dec_of (by rw [decide_eq_true_eq]; simpa using h2)
def Good (D P : List UInt8) (C : Int) : Prop := tot (all 60 0 (D ++ P)) = (D ++ P).length ∧ tot (all 60 0 D) = D.length ∧ C = ((all 60 0 (D ++ P)).length : Int)
instance (D P : List UInt8) (C : Int) : Decidable (Good D P C) := inferInstanceAs (Decidable (_ ∧ _))
theorem Good.le {D P : List UInt8} {C : Int} (h : Good D P C) : (D ++ P).length ≤ 22320 := by
 have := all_tot372 60 0 (D ++ P)
 have := h.1
 omega
theorem records_eq (D P : List UInt8) (C : Int) (hs : (D ++ P).length ≤ 1099511627776) {K : Nat} (hK : 4 * (D ++ P).length + 600 < K) :
  impl_records.f K (M D) (M P) C = some (if Good D P C then ((all 60 0 (D ++ P)).map R27, true) else ([], false)) := by
 have hl : (D ++ P).length = D.length + P.length := List.length_append
 have h60 := all_len 60 0 (D ++ P)
 have hsl := sums_len (all 60 0 (D ++ P)) 0
 have hsl' : ((0 : Int) :: sums 0 (all 60 0 (D ++ P))).length = (all 60 0 (D ++ P)).length + 1 := by rw [List.length_cons, hsl]
 unfold impl_records.f
 rw [M_size, M_size, if_pos (by omega), sc_M, reads_eq _ hs (by omega)]
 simp only [Option.bind_some]
 rw [w64 (by omega) (by omega), if_pos (by omega), if_pos (by omega), rd_sums, M_size]
 by_cases h1 : tot (all 60 0 (D ++ P)) = (D ++ P).length
 ·
  rw [if_pos (by omega), has_eq _ _ (by omega) (by omega)]
  simp only [Option.bind_some, decide_eq_true_eq]
  have hm : ((D.length : Int) ∈ ((0 : Int) :: sums 0 (all 60 0 (D ++ P)))) ↔ tot (all 60 0 D) = D.length := by
   have := sums_mem (all 60 0 (D ++ P)) 0 D.length
   rw [show (((0 : Nat)) : Int) = 0 from rfl] at this
   rw [this]
   simpa using ends_iff 60 0 D P
  by_cases h2 : tot (all 60 0 D) = D.length
  ·
   rw [if_pos (hm.2 h2)]
   by_cases h3 : C = ((all 60 0 (D ++ P)).length : Int)
   ·
    have hg : Good D P C := ⟨h1, h2, h3⟩
    rw [if_pos (by rw [List.length_map]; exact h3), if_pos hg]
   ·
    rw [if_neg (by rw [List.length_map]; exact h3), if_neg (show ¬ Good D P C from fun h => h3 h.2.2)]
  ·
   rw [if_neg (fun h => h2 (hm.1 h)), if_neg (show ¬ Good D P C from fun h => h2 h.2.1)]
 ·
  rw [if_neg (by omega), if_neg (show ¬ Good D P C from fun h => h1 h.1)]
theorem log_eq (D P : List UInt8) (C : Int) (hD : D.length ≤ 549755813888) (hP : P.length ≤ 549755813888) {K : Nat} (hK : 4 * (D ++ P).length + 600 < K) : spec_l27Log.f K (M D) (M P) C = some (decide (Good D P C)) := by
 have hl : (D ++ P).length = D.length + P.length := List.length_append
 unfold spec_l27Log.f
 rw [M_size, M_size, w64 (by omega) (by omega), sc_M, open_eq _ (by omega) (by omega), open_eq _ (by omega) (by omega)]
 simp only [Option.bind_some]
 by_cases h0 : (30000 : Int) < (D.length : Int) + (P.length : Int)
 ·
  rw [if_pos h0]
  exact dec_of ⟨fun h => by simp at h, fun h => by have := Good.le h; omega⟩
 ·
  rw [if_neg h0, if_pos (by omega)]
  by_cases h1 : tot (all 60 0 (D ++ P)) = (D ++ P).length
  ·
   rw [if_pos (by omega)]
   by_cases h2 : tot (all 60 0 D) = D.length
   ·
    rw [if_pos (by omega)]
    refine dec_of ?_
    rw [beq_iff_eq, List.length_map]
    exact ⟨fun h => ⟨h1, h2, h.symm⟩, fun h => h.2.2.symm⟩
   ·
    rw [if_neg (by omega)]
    exact dec_of ⟨fun h => by simp at h, fun h => absurd h.2.1 h2⟩
  ·
   rw [if_neg (by omega)]
   exact dec_of ⟨fun h => by simp at h, fun h => absurd h.1 h1⟩
theorem valid_eq (D P : List UInt8) (C : Int) (hs : (D ++ P).length ≤ 1099511627776) {K : Nat} (hK : 4 * (D ++ P).length + 600 < K) : impl_IsValidLog.f K (M D) (M P) C = some (decide (Good D P C)) := by
 unfold impl_IsValidLog.f
 rw [records_eq D P C hs hK]
 simp only [Option.bind_some]
 by_cases h : Good D P C <;> simp [h]
def recov (s : List UInt8) : List UInt8 := s.take (tot (all 60 0 s))
theorem recover_both (s : List UInt8) (hs : s.length ≤ 1048576) {k : Nat} (hk : 4 * s.length + 600 < k) :
  spec_RecoverLog.f k (M s) = some (if s.length ≤ 30000 then (M (recov s), M [], ((all 60 0 s).length : Int), ((tot (all 60 0 s) : Nat) : Int), true) else (M [], M [], 0, 0, false)) ∧
  impl_RecoverLog.f k (M s) = some (if s.length ≤ 30000 then (M (recov s), M [], ((all 60 0 s).length : Int), ((tot (all 60 0 s) : Nat) : Int), true) else (M [], M [], 0, 0, false)) := by
 have h60 := all_len 60 0 s
 have htl := all_tot 60 0 s
 have hsl' : ((0 : Int) :: sums 0 (all 60 0 s)).length = (all 60 0 s).length + 1 := by rw [List.length_cons, sums_len]
 unfold spec_RecoverLog.f impl_RecoverLog.f recov
 rw [M_size]
 by_cases h : s.length ≤ 30000
 ·
  rw [if_pos h, if_neg (by omega), if_neg (by omega), open_eq s (by omega) (by omega), reads_eq s (by omega) (by omega)]
  simp only [Option.bind_some]
  rw [w64 (by omega) (by omega), rd_sums]
  repeat rw [if_pos (by omega)]
  rw [sx_M, Int.toNat_natCast, List.drop_zero, Nat.sub_zero, List.length_map]
  exact ⟨rfl, rfl⟩
 ·
  rw [if_neg h, if_pos (by omega), if_pos (by omega)]
  exact ⟨rfl, rfl⟩
theorem isLog_both (D P : List UInt8) (C : Int) (hs : D.length + P.length ≤ 1048576) {k : Nat} (hk : 4 * (D.length + P.length) + 600 < k) :
  spec_IsValidLog.f k (M D) (M P) C = some (decide (Good D P C)) ∧ impl_IsValidLog.f k (M D) (M P) C = some (decide (Good D P C)) := by
 have hl : (D ++ P).length = D.length + P.length := List.length_append
 unfold spec_IsValidLog.f
 rw [log_eq D P C (by omega) (by omega) (by omega), valid_eq D P C (by omega) (by omega)]
 exact ⟨rfl, rfl⟩
theorem sync_both (D P : List UInt8) (C : Int) (hs : D.length + P.length ≤ 1048576) {k : Nat} (hk : 4 * (D.length + P.length) + 600 < k) :
  spec_SyncLog.f k (M D) (M P) C = some (if Good D P C then (M (D ++ P), M [], C, true) else (M [], M [], 0, false)) ∧ impl_SyncLog.f k (M D) (M P) C = some (if Good D P C then (M (D ++ P), M [], C, true) else (M [], M [], 0, false)) := by
 have hl : (D ++ P).length = D.length + P.length := List.length_append
 unfold spec_SyncLog.f impl_SyncLog.f
 rw [log_eq D P C (by omega) (by omega) (by omega), valid_eq D P C (by omega) (by omega)]
 simp only [Option.bind_some]
 by_cases g : Good D P C
 ·
  rw [if_pos g, decide_eq_true g, if_pos rfl]
  try rw [if_pos rfl]
  rw [M_size, M_size]
  repeat rw [if_pos (by omega)]
  rw [sc_M]
  exact ⟨rfl, rfl⟩
 ·
  rw [if_neg g, decide_eq_false g, if_neg Bool.false_ne_true]
  try rw [if_neg Bool.false_ne_true]
  exact ⟨rfl, rfl⟩
theorem Good.count {D P : List UInt8} {C : Int} (h : Good D P C) : 0 ≤ C ∧ C ≤ 60 := by
 have := all_len 60 0 (D ++ P)
 have := h.2.2
 omega
def appended (D P : List UInt8) (C : Int) (c r : List UInt8) : ByteArray × ByteArray × Int × Int :=
 if Good D P C ∧ Ok c r then (if C = 60 then (M D, M P, C, 2) else (M D, M (P ++ enc C.toNat c r), C + 1, 0)) else (M D, M P, C, 1)
theorem append_both (D P : List UInt8) (C : Int) (c r : List UInt8) (hs : D.length + P.length ≤ 1048576) (hc : c.length ≤ 1048576) (hr : r.length ≤ 1048576) {k : Nat} (hk : 4 * (D.length + P.length) + c.length + r.length + 700 < k) :
  spec_AppendRecord.f k (M D) (M P) C (M c) (M r) = some (appended D P C c r) ∧ impl_AppendRecord.f k (M D) (M P) C (M c) (M r) = some (appended D P C c r) := by
 have hl : (D ++ P).length = D.length + P.length := List.length_append
 unfold spec_AppendRecord.f impl_AppendRecord.f appended
 obtain ⟨k, rfl⟩ : ∃ m, k = m + 1 := ⟨k - 1, by omega⟩
 rw [log_eq D P C (by omega) (by omega) (by omega), valid_eq D P C (by omega) (by omega), good_eq c r (by omega) (by omega) (by omega), isRec_eq c r (by omega) (by omega) (by omega)]
 simp only [Option.bind_some, spec_AppendRecord.j0, impl_AppendRecord.j0]
 by_cases g : Good D P C
 ·
  have hct := g.count
  rw [decide_eq_true g, if_pos rfl, if_pos rfl]
  by_cases o : Ok c r
  ·
   have hgo : Good D P C ∧ Ok c r := ⟨g, o⟩
   have hn : ¬ ((!true) = true) := by decide
   rw [if_pos hgo, decide_eq_true o, if_neg hn, if_neg hn]
   by_cases h60 : C = 60
   ·
    rw [if_pos h60, if_pos h60, if_pos h60]
    exact ⟨rfl, rfl⟩
   ·
    obtain ⟨n, rfl⟩ : ∃ n : Nat, C = n := ⟨C.toNat, by omega⟩
    have hel := (enc_len (k := n) (by omega) o).1
    rw [if_neg h60, if_neg h60, if_neg h60, line_eq (by omega) c r (by omega) (by omega) (by omega), encode_eq (by omega) c r (by omega) (by omega) (by omega)]
    simp only [Option.bind_some]
    rw [M_size, M_size, if_pos (by omega)]
    try rw [if_pos (by omega)]
    rw [sc_M, w64 (by omega) (by omega), Int.toNat_natCast]
    exact ⟨rfl, rfl⟩
  ·
   rw [if_neg (show ¬ (Good D P C ∧ Ok c r) from fun h => o h.2), decide_eq_false o, if_pos (show (!false) = true from rfl), if_pos (show (!false) = true from rfl)]
   exact ⟨rfl, rfl⟩
 ·
  rw [if_neg (show ¬ (Good D P C ∧ Ok c r) from fun h => g h.1), decide_eq_false g, if_neg Bool.false_ne_true]
  try rw [if_neg Bool.false_ne_true]
  repeat rw [if_pos rfl]
  exact ⟨rfl, rfl⟩
theorem records_both (D P : List UInt8) (C : Int) (hs : D.length + P.length ≤ 1048576) {k : Nat} (hk : 4 * (D.length + P.length) + 600 < k) :
  spec_LogRecords.f k (M D) (M P) C = some (if Good D P C then ((all 60 0 (D ++ P)).map R27, true) else ([], false)) ∧ impl_LogRecords.f k (M D) (M P) C = some (if Good D P C then ((all 60 0 (D ++ P)).map R27, true) else ([], false)) := by
 have hl : (D ++ P).length = D.length + P.length := List.length_append
 unfold spec_LogRecords.f impl_LogRecords.f
 rw [log_eq D P C (by omega) (by omega) (by omega), records_eq D P C (by omega) (by omega)]
 simp only [Option.bind_some]
 by_cases g : Good D P C
 ·
  rw [if_pos g, decide_eq_true g, if_pos rfl, M_size, M_size, if_pos (by omega), sc_M, open_eq _ (by omega) (by omega)]
  simp
 ·
  rw [if_neg g, decide_eq_false g, if_neg Bool.false_ne_true]
  simp
theorem rec_ok {c : List Int} (hc : ∀ x, x ∈ c → 0 ≤ x ∧ x ≤ 255) {p : Int} (h0 : 0 ≤ p) (h1 : p ≤ 700000000) (s : Int) :
  ∃ m r p1 q, spec_l1Cur_logRecord.f c p s = some (m, r, p1, q) ∧ m.size ≤ 16 ∧ r.size ≤ 16 ∧ p ≤ p1 ∧ p1 ≤ p + 8 := by
 unfold spec_l1Cur_logRecord.f
 obtain ⟨r1, p1, q1, e1, m1, a1, b1⟩ := of_ok hc h0 (by omega) s (l := [(⟨#[99, 111, 117, 110, 116]⟩ : ByteArray), (⟨#[115, 111, 114, 116, 32, 109, 101, 114, 103, 101]⟩ : ByteArray), (⟨#[120]⟩ : ByteArray), (⟨#[115, 101, 108, 101, 99, 116, 32, 50]⟩ : ByteArray), (⟨#[48, 32, 49]⟩ : ByteArray)]) (by decide)
 rw [e1, obs]
 simp only
 obtain ⟨r2, p2, q2, e2, m2, a2, b2⟩ := of_ok hc (p := p1) (by omega) (by omega) q1 (l := [(⟨#[]⟩ : ByteArray), (⟨#[51]⟩ : ByteArray), (⟨#[63]⟩ : ByteArray), (⟨#[97, 64, 98]⟩ : ByteArray), (⟨#[51, 32, 49, 32, 50]⟩ : ByteArray)]) (by decide)
 rw [e2, obs]
 simp only
 obtain ⟨r3, p3, q3, e3, m3, a3, b3⟩ := pick_ok hc (p := p2) (by omega) (by omega) q2 (n := 24) (by decide)
 rw [e3, obs]
 simp only
 have s1 : r1.size ≤ 16 := by
  simp only [List.mem_cons, List.not_mem_nil, or_false] at m1
  rcases m1 with rfl | rfl | rfl | rfl | rfl <;> decide
 have s2 : r2.size ≤ 16 := by
  simp only [List.mem_cons, List.not_mem_nil, or_false] at m2
  rcases m2 with rfl | rfl | rfl | rfl | rfl <;> decide
 by_cases c0 : r3 = 0
 ·
  rw [if_pos c0, if_pos (by decide)]
  obtain ⟨r4, p4, q4, e4, m4, a4, b4⟩ := of_ok hc (p := p3) (by omega) (by omega) q3 (l := [(⟨#[]⟩ : ByteArray), (⟨#[97, 64, 98]⟩ : ByteArray), (⟨#[97, 35]⟩ : ByteArray), (⟨#[10]⟩ : ByteArray), strOfNums (List.replicate 3 0)]) (by decide)
  rw [e4, obs]
  refine ⟨_, _, p4, _, rfl, ?_, s2, by omega, by omega⟩
  simp only [List.mem_cons, List.not_mem_nil, or_false] at m4
  have z : (strOfNums (List.replicate 3 0)).size = 3 := rfl
  show r4.size ≤ 16
  rcases m4 with rfl | rfl | rfl | rfl | rfl
  ·
   decide
  ·
   decide
  ·
   decide
  ·
   decide
  ·
   omega
 ·
  rw [if_neg c0]
  by_cases c1 : r3 = 1
  ·
   rw [if_pos c1]
   obtain ⟨r4, p4, q4, e4, m4, a4, b4⟩ := of_ok hc (p := p3) (by omega) (by omega) q3 (l := [(⟨#[35]⟩ : ByteArray), (⟨#[10]⟩ : ByteArray), (⟨#[127]⟩ : ByteArray)]) (by decide)
   rw [e4, obs]
   refine ⟨_, _, p4, _, rfl, s1, ?_, by omega, by omega⟩
   simp only [List.mem_cons, List.not_mem_nil, or_false] at m4
   show r4.size ≤ 16
   rcases m4 with rfl | rfl | rfl <;> decide
  ·
   rw [if_neg c1]
   exact ⟨_, _, p3, _, rfl, s1, s2, by omega, by omega⟩
theorem rec_okM {c : List Int} (hc : ∀ x, x ∈ c → 0 ≤ x ∧ x ≤ 255) {p : Int} (h0 : 0 ≤ p) (h1 : p ≤ 700000000) (s : Int) :
  ∃ m r p1 q, spec_l1Cur_logRecord.f c p s = some (M m, M r, p1, q) ∧ m.length ≤ 16 ∧ r.length ≤ 16 ∧ p ≤ p1 ∧ p1 ≤ p + 8 := by
 obtain ⟨m, r, p1, q, e, h2, h3, h4, h5⟩ := rec_ok hc h0 h1 s
 obtain ⟨m, rfl⟩ := ex_M m
 obtain ⟨r, rfl⟩ := ex_M r
 rw [M_size] at h2 h3
 exact ⟨m, r, p1, q, e, h2, h3, h4, h5⟩
theorem appended_ex (D P : List UInt8) (C : Int) (c r : List UInt8) : ∃ D' P' C' x, appended D P C c r = (M D', M P', C', x) ∧ D'.length + P'.length ≤ D.length + P.length + 372 := by
 unfold appended
 split
 ·
  rename_i h
  split
  ·
   exact ⟨_, _, _, _, rfl, by omega⟩
  ·
   rename_i h2
   have hct := h.1.count
   have := (enc_len (k := C.toNat) (by omega) h.2).1
   refine ⟨_, _, _, _, rfl, ?_⟩
   rw [List.length_append]
   omega
 ·
  exact ⟨_, _, _, _, rfl, by omega⟩
theorem log_l0 {c : List Int} (hc : ∀ x, x ∈ c → 0 ≤ x ∧ x ≤ 255) (d : Nat) : ∀ (D P : List UInt8) (C p s : Int) (k : Nat), D.length + P.length + 372 * d ≤ 30000 → 0 ≤ p → p + 20 * d ≤ 600000000 → 200000 + d < k →
  ∃ D' P' C' p1 q, spec_l1Cur_log.l0 k d c p s (M D) (M P) C = some (M D', M P', C', p1, q) ∧ D'.length + P'.length ≤ D.length + P.length + 372 * d ∧ p ≤ p1 ∧ p1 ≤ p + 20 * d := by
 induction d with
 | zero =>
  intro D P C p s k hl h0 h1 hk
  obtain ⟨k, rfl⟩ : ∃ m, k = m + 1 := ⟨k - 1, by omega⟩
  simp only [spec_l1Cur_log.l0]
  rw [if_neg (by omega)]
  exact ⟨_, _, _, _, _, rfl, by omega, by omega, by omega⟩
 | succ d ih =>
  intro D P C p s k hl h0 h1 hk
  obtain ⟨k, rfl⟩ : ∃ m, k = m + 1 := ⟨k - 1, by omega⟩
  simp only [spec_l1Cur_log.l0]
  rw [if_pos (by omega)]
  obtain ⟨m, r, p1, q1, e1, hm, hr, a1, b1⟩ := rec_okM hc h0 (by omega) s
  rw [e1, obs]
  simp only
  obtain ⟨D1, P1, C1, x1, e2, hl1⟩ := appended_ex D P C m r
  rw [(append_both D P C m r (by omega) (by omega) (by omega) (by omega)).1, e2, obs]
  simp only
  obtain ⟨b, p2, q2, e3, a2, b2⟩ := one_ok hc (p := p1) (by omega) (by omega) q1 (n := 4) (by decide)
  rw [e3, obs]
  simp only
  rw [w64 (x := ((d + 1 : Nat) : Int) - 1) (by omega) (by omega), show ((d + 1 : Nat) : Int) - 1 = (d : Int) by omega]
  cases b with
  | false =>
   rw [if_neg (by decide)]
   obtain ⟨D2, P2, C2, p3, q3, e4, h5, h6, h7⟩ := ih D1 P1 C1 p2 q2 k (by omega) (by omega) (by omega) (by omega)
   exact ⟨D2, P2, C2, p3, q3, e4, by omega, by omega, by omega⟩
  | true =>
   rw [if_pos rfl, (sync_both D1 P1 C1 (by omega) (by omega)).1, obs]
   by_cases g : Good D1 P1 C1
   ·
    rw [if_pos g]
    simp only
    have hx : (D1 ++ P1).length = D1.length + P1.length := List.length_append
    obtain ⟨D2, P2, C2, p3, q3, e4, h5, h6, h7⟩ := ih (D1 ++ P1) [] C1 p2 q2 k (by rw [List.length_nil]; omega) (by omega) (by omega) (by omega)
    rw [List.length_nil] at h5
    exact ⟨D2, P2, C2, p3, q3, e4, by omega, by omega, by omega⟩
   ·
    rw [if_neg g]
    simp only
    obtain ⟨D2, P2, C2, p3, q3, e4, h5, h6, h7⟩ := ih [] [] 0 p2 q2 k (by rw [List.length_nil]; omega) (by omega) (by omega) (by omega)
    rw [List.length_nil] at h5
    exact ⟨D2, P2, C2, p3, q3, e4, by omega, by omega, by omega⟩
theorem M_nil : (⟨#[]⟩ : ByteArray) = M [] := rfl
theorem log_ok {c : List Int} (hc : ∀ x, x ∈ c → 0 ≤ x ∧ x ≤ 255) {p : Int} (h0 : 0 ≤ p) (h1 : p ≤ 500000000) (s : Int) {k : Nat} (hk : 200010 < k) :
  ∃ D P C p1 q, spec_l1Cur_log.f k c p s = some (M D, M P, C, p1, q) ∧ D.length + P.length ≤ 2300 ∧ p ≤ p1 ∧ p1 ≤ p + 130 := by
 unfold spec_l1Cur_log.f
 obtain ⟨r, p1, q1, e1, hr, a1, b1⟩ := pick_ok hc h0 (by omega) s (n := 7) (by decide)
 rw [e1, obs]
 simp only
 obtain ⟨n, rfl⟩ : ∃ n : Nat, r = n := ⟨r.toNat, by omega⟩
 obtain ⟨D, P, C, p2, q2, e2, h2, h3, h4⟩ := log_l0 hc n [] [] 0 p1 q1 k (by rw [List.length_nil]; omega) (by omega) (by omega) (by omega)
 rw [List.length_nil] at h2
 exact ⟨D, P, C, p2, q2, e2, by omega, by omega, by omega⟩
theorem spoilt_ok {c : List Int} (hc : ∀ x, x ∈ c → 0 ≤ x ∧ x ≤ 255) {p : Int} (h0 : 0 ≤ p) (h1 : p ≤ 500000000) (s : Int) (l w : List UInt8) (hl : l.length ≤ 100000) (hw : w.length = 5) :
  ∃ r p1 q, spec_l1Cur_spoilt.f c p s (M l) (M w) = some (M r, p1, q) ∧ r.length ≤ l.length + 1 ∧ p ≤ p1 ∧ p1 ≤ p + 6 := by
 unfold spec_l1Cur_spoilt.f
 rw [M_toList, M_size, M_size]
 by_cases z : l = []
 ·
  rw [if_pos z, if_pos (by decide), if_pos (by omega), sx_M]
  refine ⟨_, p, s, rfl, ?_, by omega, by omega⟩
  rw [List.length_take]
  omega
 ·
  rw [if_neg z]
  have hp : 0 < l.length := List.length_pos_iff.2 z
  obtain ⟨i, p1, q1, e1, hi, a1, b1⟩ := pick_ok hc h0 (by omega) s (n := (l.length : Int)) (by omega)
  rw [e1, obs]
  simp only
  obtain ⟨j, p2, q2, e2, hj, a2, b2⟩ := pick_ok hc (p := p1) (by omega) (by omega) q1 (n := (w.length : Int)) (by omega)
  rw [e2, obs]
  simp only
  obtain ⟨i, rfl⟩ : ∃ n : Nat, i = n := ⟨i.toNat, by omega⟩
  obtain ⟨j, rfl⟩ : ∃ n : Nat, j = n := ⟨j.toNat, by omega⟩
  obtain ⟨t, p3, q3, e3, ht, a3, b3⟩ := pick_ok hc (p := p2) (by omega) (by omega) q2 (n := 3) (by decide)
  simp only [Int.toNat_natCast, sx_M]
  rw [w64 (x := (i : Int) + 1) (by omega) (by omega), show ((i : Int) + 1).toNat = i + 1 by omega]
  have l1 : ((w.drop j).take (w.length - j)).length = w.length - j := by rw [List.length_take, List.length_drop]; omega
  have l2 : ((((w.drop j).take (w.length - j)).drop 0).take (1 - 0)).length = 1 := by rw [List.length_take, List.length_drop]; omega
  have l3 : ((l.drop 0).take (i - 0)).length = i := by rw [List.length_take, List.length_drop]; omega
  have l4 : ((l.drop i).take (l.length - i)).length = l.length - i := by rw [List.length_take, List.length_drop]; omega
  have l5 : ((l.drop (i + 1)).take (l.length - (i + 1))).length = l.length - (i + 1) := by rw [List.length_take, List.length_drop]; omega
  generalize (w.drop j).take (w.length - j) = A at *
  generalize (A.drop 0).take (1 - 0) = B at *
  generalize (l.drop 0).take (i - 0) = E at *
  generalize (l.drop i).take (l.length - i) = F at *
  generalize (l.drop (i + 1)).take (l.length - (i + 1)) = G at *
  rw [M_size, if_pos (by omega), if_pos (by omega), if_pos (by decide), if_pos (by omega), e3, obs]
  simp only [sc_M, M_size]
  have l6 : (E ++ B).length = E.length + B.length := List.length_append
  have l7 : (E ++ B ++ F).length = E.length + B.length + F.length := by rw [List.length_append, List.length_append]
  have l8 : (E ++ B ++ G).length = E.length + B.length + G.length := by rw [List.length_append, List.length_append]
  have l9 : (E ++ G).length = E.length + G.length := List.length_append
  by_cases t0 : t = 0
  ·
   rw [if_pos t0, if_pos (by omega), if_pos (by omega), if_pos (by omega), if_pos (by omega)]
   exact ⟨_, p3, _, rfl, by omega, by omega, by omega⟩
  ·
   rw [if_neg t0]
   by_cases t1 : t = 1
   ·
    rw [if_pos t1, if_pos (by omega), if_pos (by omega), if_pos (by omega), if_pos (by omega), if_pos (by omega), if_pos (by omega)]
    exact ⟨_, p3, _, rfl, by omega, by omega, by omega⟩
   ·
    rw [if_neg t1, if_pos (by omega), if_pos (by omega), if_pos (by omega), if_pos (by omega), if_pos (by omega)]
    exact ⟨_, p3, _, rfl, by omega, by omega, by omega⟩
theorem M_with : (⟨#[35, 64, 10, 48, 49]⟩ : ByteArray) = M [35, 64, 10, 48, 49] := rfl
theorem anyLog_ok {c : List Int} (hc : ∀ x, x ∈ c → 0 ≤ x ∧ x ≤ 255) {p : Int} (h0 : 0 ≤ p) (h1 : p ≤ 400000000) (s : Int) {k : Nat} (hk : 200010 < k) :
  ∃ D P C p1 q, spec_l1Cur_anyLog.f k c p s = some (M D, M P, C, p1, q) ∧ D.length + P.length ≤ 5000 ∧ p ≤ p1 ∧ p1 ≤ p + 200 := by
 unfold spec_l1Cur_anyLog.f
 obtain ⟨D, P, C, p1, q1, e1, hl, a1, b1⟩ := log_ok hc h0 (by omega) s hk
 rw [e1, obs]
 simp only
 obtain ⟨r, p2, q2, e2, hr, a2, b2⟩ := pick_ok hc (p := p1) (by omega) (by omega) q1 (n := 24) (by decide)
 rw [e2, obs]
 simp only
 by_cases c0 : r = 0
 ·
  rw [if_pos c0]
  exact ⟨_, _, _, p2, _, rfl, by omega, by omega, by omega⟩
 ·
  rw [if_neg c0]
  by_cases c1 : r = 1
  ·
   rw [if_pos c1, M_with]
   obtain ⟨r2, p3, q3, e3, h3, a3, b3⟩ := spoilt_ok hc (p := p2) (by omega) (by omega) q2 P [35, 64, 10, 48, 49] (by omega) rfl
   rw [e3, obs]
   exact ⟨_, _, _, p3, _, rfl, by omega, by omega, by omega⟩
  ·
   rw [if_neg c1]
   by_cases c2 : r = 2
   ·
    rw [if_pos c2, M_size, M_size, if_pos (by omega), sc_M]
    refine ⟨_, _, _, p2, _, rfl, ?_, by omega, by omega⟩
    rw [List.length_append]
    omega
   ·
    rw [if_neg c2]
    exact ⟨_, _, _, p2, _, rfl, by omega, by omega, by omega⟩
theorem drawApp_l0 {c : List Int} (hc : ∀ x, x ∈ c → 0 ≤ x ∧ x ≤ 255) {p : Int} (h0 : 0 ≤ p) (h1 : p ≤ 400000000) (s : Int) (d : Nat) : ∀ (D P : List UInt8) (C : Int) (k : Nat), D.length + P.length + 372 * d ≤ 30000 → 200000 + d < k →
  ∃ D' P' C' m r, spec_DrawAppendRecord.l0 k d c p s (M D) (M P) C = some (M D', M P', C', M m, M r) ∧ D'.length + P'.length ≤ 30000 ∧ m.length ≤ 16 ∧ r.length ≤ 16 := by
 induction d with
 | zero =>
  intro D P C k hl hk
  obtain ⟨k, rfl⟩ : ∃ m, k = m + 1 := ⟨k - 1, by omega⟩
  simp only [spec_DrawAppendRecord.l0]
  rw [if_neg (by omega)]
  obtain ⟨m, r, p2, q2, e2, hm, hr, a2, b2⟩ := rec_okM hc h0 (by omega) s
  rw [e2, obs]
  exact ⟨_, _, _, _, _, rfl, by omega, hm, hr⟩
 | succ d ih =>
  intro D P C k hl hk
  obtain ⟨k, rfl⟩ : ∃ m, k = m + 1 := ⟨k - 1, by omega⟩
  simp only [spec_DrawAppendRecord.l0]
  rw [if_pos (by omega), show (⟨#[120]⟩ : ByteArray) = M [120] from rfl, M_nil]
  obtain ⟨D1, P1, C1, x1, e2, hl1⟩ := appended_ex D P C [120] []
  rw [(append_both D P C [120] [] (by omega) (by decide) (by decide) (by simp only [List.length_cons, List.length_nil]; omega)).1, e2, obs]
  simp only
  rw [w64 (x := ((d + 1 : Nat) : Int) - 1) (by omega) (by omega), show ((d + 1 : Nat) : Int) - 1 = (d : Int) by omega]
  exact ih D1 P1 C1 k (by omega) (by omega)
theorem drawApp_ok {c : List Int} (hc : ∀ x, x ∈ c → 0 ≤ x ∧ x ≤ 255) {k : Nat} (hk : 200100 < k) :
  ∃ D P C m r, spec_DrawAppendRecord.f k c = some (M D, M P, C, M m, M r) ∧ D.length + P.length ≤ 30000 ∧ m.length ≤ 16 ∧ r.length ≤ 16 := by
 unfold spec_DrawAppendRecord.f spec_newCur.f
 rw [obs]
 simp only
 obtain ⟨D, P, C, p1, q1, e1, hl, a1, b1⟩ := anyLog_ok hc (p := 0) (by omega) (by omega) 0 (k := k) (by omega)
 rw [e1, obs]
 simp only
 obtain ⟨b, p2, q2, e2, a2, b2⟩ := one_ok hc (p := p1) (by omega) (by omega) q1 (n := 40) (by decide)
 rw [e2, obs]
 simp only
 cases b with
 | false =>
  rw [if_neg (by decide)]
  obtain ⟨m, r, p3, q3, e3, hm, hr, a3, b3⟩ := rec_okM hc (p := p2) (by omega) (by omega) q2
  rw [e3, obs]
  exact ⟨_, _, _, _, _, rfl, by omega, hm, hr⟩
 | true =>
  rw [if_pos rfl]
  obtain ⟨r, p3, q3, e3, hr, a3, b3⟩ := pick_ok hc (p := p2) (by omega) (by omega) q2 (n := 2) (by decide)
  rw [e3, obs]
  simp only
  rw [w64 (x := 59 + r) (by omega) (by omega), M_nil]
  obtain ⟨n, hn⟩ : ∃ n : Nat, 59 + r = n := ⟨(59 + r).toNat, by omega⟩
  rw [hn]
  exact drawApp_l0 hc (p := p3) (by omega) (by omega) q3 n [] [] 0 k (by rw [List.length_nil]; omega) (by omega)
end Go.Proofs.YtdpinnhgkocjhaaDoor.Pr.Pure

namespace Go.Proofs.YtdpinnhgkocjhaaDoor.Pr.Pure
open Go.RowKit Go.Proofs.YtdpinnhgkocjhaaDoorW.PrintWords Go.Proofs.YtdpinnhgkocjhaaDoorW.PrintLast Go.Proofs.YtdpinnhgkocjhaaDoorW.PrintMore Go.Proofs.YtdpinnhgkocjhaaDoorW.Opens Go.Proofs.YtdpinnhgkocjhaaDoor.Log Go.Lib
set_option linter.unusedVariables false
set_option linter.unusedSimpArgs false
theorem rd_app (A B : List S27) {i : Nat} (h : i < A.length) : rd_T27 (A ++ B) (i : Int) = rd_T27 A (i : Int) := by
 show (A ++ B).getD ((i : Int)).toNat _ = A.getD ((i : Int)).toNat _
 rw [Int.toNat_natCast, List.getD_eq_getElem?_getD, List.getD_eq_getElem?_getD, List.getElem?_append_left h]
theorem rd_new (A : List S27) (x : S27) : rd_T27 (A ++ [x]) (A.length : Int) = x := by
 show (A ++ [x]).getD ((A.length : Int)).toNat _ = x
 rw [Int.toNat_natCast, List.getD_eq_getElem?_getD, List.getElem?_append_right (Nat.le_refl _), Nat.sub_self]
 rfl
theorem log_l0x (A B : List S27) (e : Int) (p q : Bool) (b1 b2 b3 b4 b6 b7 b9 b10 : ByteArray) (n5 n8 n11 : Int) (hl : (A ++ B).length ≤ 61) {k : Nat} (fin : laws_FnLog.l0 (k + 1) (A ++ B) A e p q A.length b1 b2 b3 b4 n5 b6 b7 n8 b9 b10 n11 = some true) (d : Nat) : ∀ (K i : Nat), i + d = A.length → K = k + d + 1 →
  laws_FnLog.l0 K (A ++ B) A e p q i b1 b2 b3 b4 n5 b6 b7 n8 b9 b10 n11 = some true := by
 rw [List.length_append] at hl
 induction d with
 | zero =>
  intro K i hd hK
  obtain rfl : K = k + 1 := by omega
  obtain rfl : i = A.length := by omega
  exact fin
 | succ d ih =>
  intro K i hd hK
  obtain ⟨K, rfl⟩ : ∃ m, K = m + 1 := ⟨k + d + 1, by omega⟩
  simp only [laws_FnLog.l0]
  rw [if_pos (by omega), if_pos (by omega), if_pos (by rw [List.length_append]; omega), rd_app A B (by omega), if_neg (by simp), w64 (x := (i : Int) + 1) (by omega) (by omega)]
  exact ih K (i + 1) (by omega) (by omega)
theorem good_append {D P : List UInt8} {n : Nat} {c r : List UInt8} (g : Good D P n) (o : Ok c r) (hn : n < 60) : all 60 0 (D ++ (P ++ enc n c r)) = all 60 0 (D ++ P) ++ [(c, r, (enc n c r).length)] ∧ Good D (P ++ enc n c r) ((n : Int) + 1) := by
 have hn2 : (all 60 0 (D ++ P)).length = n := by have := g.2.2; omega
 have e : all 60 0 (D ++ (P ++ enc n c r)) = all 60 0 (D ++ P) ++ [(c, r, (enc n c r).length)] := by
  rw [← List.append_assoc, all_app 60 0 _ _ g.1, hn2, Nat.zero_add]
  obtain ⟨m, hm⟩ : ∃ m, 60 - n = m + 1 := ⟨60 - n - 1, by omega⟩
  rw [hm, all_one hn o]
 refine ⟨e, ?_, g.2.1, ?_⟩
 ·
  rw [e, tot_app, g.1, ← List.append_assoc, List.length_append]
  simp [tot]
  try omega
 ·
  rw [e, List.length_append, hn2, List.length_singleton]
  omega
theorem FnLog : FnLog.Pure := by
 intro c hw
 have hc : ∀ x, x ∈ c → 0 ≤ x ∧ x ≤ 255 := fun x hx => by
  have h := hw.2.2 x hx
  simp [Lit.wf, IntKind.min, IntKind.max, IntKind.signed, IntKind.bits] at h
  omega
 refine ⟨300000, ?_⟩
 unfold laws_FnLog.f laws_vBig.f
 rw [obs]
 by_cases big : decide ((c.length : Int) > 65536) = true
 ·
  rw [if_pos big]
 rw [if_neg big]
 obtain ⟨D, P, C, m, r, e, hl, hm, hr⟩ := drawApp_ok hc (k := 300000) (by omega)
 obtain ⟨e1, e2⟩ := append_both D P C m r (by omega) (by omega) (by omega) (k := 300000) (by omega)
 obtain ⟨e3, e4⟩ := isLog_both D P C (by omega) (k := 300000) (by omega)
 have e5 : spec_IsValidRecord.f 300000 (M m) (M r) = some (decide (Ok m r)) := by
  unfold spec_IsValidRecord.f
  rw [good_eq m r (by omega) (by omega) (by omega)]
  rfl
 rw [e, obs]
 simp only
 rw [e2, obs, e1, obs, if_neg (by simp), if_pos rfl, e4, obs, e3, obs, if_neg (by simp), isRec_eq m r (by omega) (by omega) (by omega), obs, e5, obs, bne_self_eq_false]
 unfold appended
 by_cases g : Good D P C ∧ Ok m r
 ·
  rw [if_pos g]
  obtain ⟨g, o⟩ := g
  have hct := g.count
  have gle := g.le
  have hx : (D ++ P).length = D.length + P.length := List.length_append
  by_cases h60 : C = 60
  ·
   rw [if_pos h60]
   show laws_FnLog.j0 (299999 + 1) 2 false (M D) (M P) C (M m) (M r) (M D) (M P) C = some true
   simp only [laws_FnLog.j0, Bool.false_eq_true, if_false]
   rw [if_neg (by decide)]
   simp only [beq_self_eq_true, Bool.and_self]
  ·
   rw [if_neg h60]
   obtain ⟨n, rfl⟩ : ∃ n : Nat, C = n := ⟨C.toNat, by omega⟩
   rw [Int.toNat_natCast]
   have hn : n < 60 := by omega
   obtain ⟨ha, g2⟩ := good_append g o hn
   have hel := (enc_len (k := n) hn o).1
   have hpl : (P ++ enc n m r).length = P.length + (enc n m r).length := List.length_append
   generalize P ++ enc n m r = Q at *
   have hy : (D ++ Q).length = D.length + Q.length := List.length_append
   have hn2 : (all 60 0 (D ++ P)).length = n := by have := g.2.2; omega
   have hrec : recov (D ++ Q) = D ++ Q := by
    unfold recov
    rw [g2.1, List.take_length]
   have hlen : ((all 60 0 (D ++ Q)).length : Int) = (n : Int) + 1 := g2.2.2.symm
   show laws_FnLog.j0 (299999 + 1) 0 false (M D) (M P) n (M m) (M r) (M D) (M Q) ((n : Int) + 1) = some true
   simp only [laws_FnLog.j0, Bool.false_eq_true, if_false, if_true]
   rw [(records_both D Q _ (by omega) (k := 299999) (by omega)).2, obs, if_pos g2, (records_both D P _ (by omega) (k := 299999) (by omega)).2, obs, if_pos g]
   simp only
   rw [M_size, M_size, if_pos (by omega), sc_M, (recover_both (D ++ Q) (by omega) (k := 299999) (by omega)).2, obs, if_pos (show (D ++ Q).length ≤ 30000 by omega), (sync_both D Q _ (by omega) (k := 299999) (by omega)).2, obs, if_pos g2, hrec]
   simp only [if_true]
   rw [List.length_map, List.length_map, hn2, hlen, w64 (x := (n : Int) + 1) (by omega) (by omega), if_pos rfl, bne_self_eq_false, ha, List.map_append]
   show laws_FnLog.j1 (299998 + 1) _ _ _ _ _ false _ _ _ _ _ _ _ _ _ _ _ = some true
   simp only [laws_FnLog.j1, Bool.false_eq_true, if_false]
   have hAl : ((all 60 0 (D ++ P)).map R27).length = n := by rw [List.length_map, hn2]
   have hABl : ((all 60 0 (D ++ P)).map R27 ++ List.map R27 [(m, r, (enc n m r).length)]).length = n + 1 := by
    rw [List.length_append, hAl]
    rfl
   refine log_l0x _ _ _ _ _ _ _ _ _ _ _ _ _ _ _ _ (by omega) (k := 299997 - n) ?_ n 299998 0 (by omega) (by omega)
   simp only [laws_FnLog.l0]
   rw [if_neg (by omega), if_pos (by omega), if_pos (by omega)]
   rw [show List.map R27 [(m, r, (enc n m r).length)] = [R27 (m, r, (enc n m r).length)] from rfl, rd_new]
   show (if ((M m).toList == (M m).toList && (M r).toList == (M r).toList) = true then _ else none) = some true
   simp only [beq_self_eq_true, Bool.and_self, if_true]
   rw [if_pos (by rw [M_size, M_size]; omega), if_pos (by rw [← ha, g2.1, sc_M, M_size]), (isLog_both D Q _ (by omega) (by omega)).2, obs, decide_eq_true g2]
 ·
  rw [if_neg g]
  show laws_FnLog.j0 (299999 + 1) 1 false (M D) (M P) C (M m) (M r) (M D) (M P) C = some true
  simp only [laws_FnLog.j0, Bool.false_eq_true, if_false]
  rw [if_neg (by decide)]
  simp only [beq_self_eq_true, Bool.and_self]
end Go.Proofs.YtdpinnhgkocjhaaDoor.Pr.Pure

