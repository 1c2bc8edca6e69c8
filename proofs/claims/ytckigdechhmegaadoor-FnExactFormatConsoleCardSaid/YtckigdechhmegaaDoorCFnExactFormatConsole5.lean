/-
What is proved: parts of the law FnExactFormatConsole: what the functions that it reaches compute, and the plain law.
Conditions: those of each theorem.
-/
import Derived.ChangeArms
import Derived.ChangeSlices
import Derived.Deep.Slices
import Derived.Lib.Bytealg
import Derived.Lib.ItoaNum
import Derived.RowKit
import Derived.SizedLaws
import Derived.WideShapes
import Derived.Test.YtckigdechhmegaaDoorCFnExactFormatConsole4
set_option maxHeartbeats 8000000
set_option maxRecDepth 100000
namespace Go.Proofs.YtckigdechhmegaaDoor.Pr
open Go.RowKit Go.Proofs.YtckigdechhmegaaDoorW.PrintWords Go.Proofs.YtckigdechhmegaaDoorW.PrintLast Go.Proofs.YtckigdechhmegaaDoorW.PrintMore
attribute [local go_sem] max2_int min2_int max_two min_two max_three min_three max_four min_four sc_in sx_in   -- for this text's walks alone
set_option linter.unusedVariables false
set_option linter.unusedSimpArgs false
def impl_legText.f (a0_0 : Int) (a0_1 : Int) (a0_2 : Int) (a0_3 : Int) (a0_4 : Int) : Option (ByteArray) := (impl_decimal.f a0_0).bind fun t484 => (if 4 + t484.size ≤ 9223372036854775807 then (if (sc (⟨#[108, 101, 103, 32]⟩ : ByteArray) t484).size + 1 ≤ 9223372036854775807 then ((impl_decimal.f a0_1).bind fun t485 => (if (sc (sc (⟨#[108, 101, 103, 32]⟩ : ByteArray) t484) (⟨#[45]⟩ : ByteArray)).size + t485.size ≤ 9223372036854775807 then (if (sc (sc (sc (⟨#[108, 101, 103, 32]⟩ : ByteArray) t484) (⟨#[45]⟩ : ByteArray)) t485).size + 6 ≤ 9223372036854775807 then ((impl_decimal.f a0_2).bind fun t486 => (if (sc (sc (sc (sc (⟨#[108, 101, 103, 32]⟩ : ByteArray) t484) (⟨#[45]⟩ : ByteArray)) t485) (⟨#[32, 116, 97, 112, 101, 32]⟩ : ByteArray)).size + t486.size ≤ 9223372036854775807 then (if (sc (sc (sc (sc (sc (⟨#[108, 101, 103, 32]⟩ : ByteArray) t484) (⟨#[45]⟩ : ByteArray)) t485) (⟨#[32, 116, 97, 112, 101, 32]⟩ : ByteArray)) t486).size + 9 ≤ 9223372036854775807 then ((impl_decimal.f a0_3).bind fun t487 => (if (sc (sc (sc (sc (sc (sc (⟨#[108, 101, 103, 32]⟩ : ByteArray) t484) (⟨#[45]⟩ : ByteArray)) t485) (⟨#[32, 116, 97, 112, 101, 32]⟩ : ByteArray)) t486) (⟨#[32, 99, 111, 109, 112, 97, 115, 115, 32]⟩ : ByteArray)).size + t487.size ≤ 9223372036854775807 then (if (sc (sc (sc (sc (sc (sc (sc (⟨#[108, 101, 103, 32]⟩ : ByteArray) t484) (⟨#[45]⟩ : ByteArray)) t485) (⟨#[32, 116, 97, 112, 101, 32]⟩ : ByteArray)) t486) (⟨#[32, 99, 111, 109, 112, 97, 115, 115, 32]⟩ : ByteArray)) t487).size + 7 ≤ 9223372036854775807 then ((impl_decimal.f a0_4).bind fun t488 => (if (sc (sc (sc (sc (sc (sc (sc (sc (⟨#[108, 101, 103, 32]⟩ : ByteArray) t484) (⟨#[45]⟩ : ByteArray)) t485) (⟨#[32, 116, 97, 112, 101, 32]⟩ : ByteArray)) t486) (⟨#[32, 99, 111, 109, 112, 97, 115, 115, 32]⟩ : ByteArray)) t487) (⟨#[32, 115, 108, 111, 112, 101, 32]⟩ : ByteArray)).size + t488.size ≤ 9223372036854775807 then (some (sc (sc (sc (sc (sc (sc (sc (sc (sc (⟨#[108, 101, 103, 32]⟩ : ByteArray) t484) (⟨#[45]⟩ : ByteArray)) t485) (⟨#[32, 116, 97, 112, 101, 32]⟩ : ByteArray)) t486) (⟨#[32, 99, 111, 109, 112, 97, 115, 115, 32]⟩ : ByteArray)) t487) (⟨#[32, 115, 108, 111, 112, 101, 32]⟩ : ByteArray)) t488)) else (none))) else (none)) else (none))) else (none)) else (none))) else (none)) else (none))) else (none)) else (none))
def impl_legText.T1 : Bool × List (List Nat × List Nat) := (true, [([], []), ([0], [0]), ([1], [1]), ([2], [2]), ([3], [3]), ([], []), ([5], [5]), ([6, 2], [6]), ([4, 7], [4, 7]), ([8], [8]), ([], []), ([10], [10]), ([11, 7], [11]), ([9, 12], [9, 12]), ([13], [13]), ([], []), ([15], [15]), ([16, 12], [16]), ([14, 17], [14, 17]), ([18], [18]), ([], []), ([20], [20]), ([21, 17], [21]), ([19, 22], [19, 22]), ([23, 22, 0, 1, 2, 3, 4, 5, 6, 7, 8, 9, 10, 11, 12, 13, 14, 15, 16, 17, 18, 19, 20, 21, 22, 23], [23])])
def impl_legText.B1 : List Nat := [0, 1, 3, 7, 15, 0, 32, 103, 255, 511, 0, 1024, 3303, 8191, 16383, 0, 32768, 105703, 262143, 524287, 0, 1048576, 3382503, 8388607, 16777215]
theorem impl_legText.tab1 : rtab .any (opsOf Tryd.f24 1) = impl_legText.T1 := by kernel_rfl
theorem impl_legText.bits1 : waitsOk impl_legText.T1.2 impl_legText.B1 = true := by kernel_rfl
abbrev impl_legText.mk0 : Array Bool := #[false, false, false, false, false, false, false, false, false, false, false, false, false, false, false, false, false, false, false, false, false, false, false, false, false]
abbrev impl_legText.mk1 : Array Bool := #[true, false, false, false, false, false, false, false, false, false, false, false, false, false, false, false, false, false, false, false, false, false, false, false, false]
abbrev impl_legText.mk2 : Array Bool := #[true, false, false, false, false, true, false, false, false, false, false, false, false, false, false, false, false, false, false, false, false, false, false, false, false]
abbrev impl_legText.mk3 : Array Bool := #[true, false, false, false, false, true, false, false, false, false, true, false, false, false, false, false, false, false, false, false, false, false, false, false, false]
abbrev impl_legText.mk4 : Array Bool := #[true, false, false, false, false, true, false, false, false, false, true, false, false, false, false, true, false, false, false, false, false, false, false, false, false]
abbrev impl_legText.mk5 : Array Bool := #[true, false, false, false, false, true, false, false, false, false, true, false, false, false, false, true, false, false, false, false, true, false, false, false, false]
abbrev impl_legText.mk6 : Array Bool := #[true, true, false, false, false, true, false, false, false, false, true, false, false, false, false, true, false, false, false, false, true, false, false, false, false]
abbrev impl_legText.mk7 : Array Bool := #[true, true, false, false, false, true, true, false, false, false, true, false, false, false, false, true, false, false, false, false, true, false, false, false, false]
abbrev impl_legText.mk8 : Array Bool := #[true, true, false, false, false, true, true, false, false, false, true, true, false, false, false, true, false, false, false, false, true, false, false, false, false]
abbrev impl_legText.mk9 : Array Bool := #[true, true, false, false, false, true, true, false, false, false, true, true, false, false, false, true, true, false, false, false, true, false, false, false, false]
abbrev impl_legText.mk10 : Array Bool := #[true, true, false, false, false, true, true, false, false, false, true, true, false, false, false, true, true, false, false, false, true, true, false, false, false]
abbrev impl_legText.mk11 : Array Bool := #[true, true, true, false, false, true, true, false, false, false, true, true, false, false, false, true, true, false, false, false, true, true, false, false, false]
abbrev impl_legText.mk12 : Array Bool := #[true, true, true, true, false, true, true, false, false, false, true, true, false, false, false, true, true, false, false, false, true, true, false, false, false]
abbrev impl_legText.mk13 : Array Bool := #[true, true, true, true, true, true, true, false, false, false, true, true, false, false, false, true, true, false, false, false, true, true, false, false, false]
abbrev impl_legText.mk14 : Array Bool := #[true, true, true, true, true, true, true, true, false, false, true, true, false, false, false, true, true, false, false, false, true, true, false, false, false]
abbrev impl_legText.mk15 : Array Bool := #[true, true, true, true, true, true, true, true, true, false, true, true, false, false, false, true, true, false, false, false, true, true, false, false, false]
abbrev impl_legText.mk16 : Array Bool := #[true, true, true, true, true, true, true, true, true, true, true, true, false, false, false, true, true, false, false, false, true, true, false, false, false]
abbrev impl_legText.mk17 : Array Bool := #[true, true, true, true, true, true, true, true, true, true, true, true, true, false, false, true, true, false, false, false, true, true, false, false, false]
abbrev impl_legText.mk18 : Array Bool := #[true, true, true, true, true, true, true, true, true, true, true, true, true, true, false, true, true, false, false, false, true, true, false, false, false]
abbrev impl_legText.mk19 : Array Bool := #[true, true, true, true, true, true, true, true, true, true, true, true, true, true, true, true, true, false, false, false, true, true, false, false, false]
abbrev impl_legText.mk20 : Array Bool := #[true, true, true, true, true, true, true, true, true, true, true, true, true, true, true, true, true, true, false, false, true, true, false, false, false]
abbrev impl_legText.mk21 : Array Bool := #[true, true, true, true, true, true, true, true, true, true, true, true, true, true, true, true, true, true, true, false, true, true, false, false, false]
abbrev impl_legText.mk22 : Array Bool := #[true, true, true, true, true, true, true, true, true, true, true, true, true, true, true, true, true, true, true, true, true, true, false, false, false]
abbrev impl_legText.mk23 : Array Bool := #[true, true, true, true, true, true, true, true, true, true, true, true, true, true, true, true, true, true, true, true, true, true, true, false, false]
abbrev impl_legText.mk24 : Array Bool := #[true, true, true, true, true, true, true, true, true, true, true, true, true, true, true, true, true, true, true, true, true, true, true, true, false]
abbrev impl_legText.mk25 : Array Bool := #[true, true, true, true, true, true, true, true, true, true, true, true, true, true, true, true, true, true, true, true, true, true, true, true, true]
theorem impl_legText.calls (a0_0 : Int) (a0_1 : Int) (a0_2 : Int) (a0_3 : Int) (a0_4 : Int) (r : ByteArray) (w : World) (h : impl_legText.f a0_0 a0_1 a0_2 a0_3 a0_4 = some r) (hT : Tb w) :
  Calls Tryd.prog 24 #[.agg #[.int .i64 a0_0, .int .i64 a0_1, .int .i64 a0_2, .int .i64 a0_3, .int .i64 a0_4]] w fun e w' => e = .returned (.string r) ∧ Below w.heap.size w w' := by
 have HT := Aside0.mk hT
 clear hT
 have hu53 := Tryd.underlying53
 have HB := Aside0.mk (Below.refl w.heap.size w)
 have H : ((impl_decimal.f a0_0).bind fun t484 => (if 4 + t484.size ≤ 9223372036854775807 then (if (sc (⟨#[108, 101, 103, 32]⟩ : ByteArray) t484).size + 1 ≤ 9223372036854775807 then ((impl_decimal.f a0_1).bind fun t485 => (if (sc (sc (⟨#[108, 101, 103, 32]⟩ : ByteArray) t484) (⟨#[45]⟩ : ByteArray)).size + t485.size ≤ 9223372036854775807 then (if (sc (sc (sc (⟨#[108, 101, 103, 32]⟩ : ByteArray) t484) (⟨#[45]⟩ : ByteArray)) t485).size + 6 ≤ 9223372036854775807 then ((impl_decimal.f a0_2).bind fun t486 => (if (sc (sc (sc (sc (⟨#[108, 101, 103, 32]⟩ : ByteArray) t484) (⟨#[45]⟩ : ByteArray)) t485) (⟨#[32, 116, 97, 112, 101, 32]⟩ : ByteArray)).size + t486.size ≤ 9223372036854775807 then (if (sc (sc (sc (sc (sc (⟨#[108, 101, 103, 32]⟩ : ByteArray) t484) (⟨#[45]⟩ : ByteArray)) t485) (⟨#[32, 116, 97, 112, 101, 32]⟩ : ByteArray)) t486).size + 9 ≤ 9223372036854775807 then ((impl_decimal.f a0_3).bind fun t487 => (if (sc (sc (sc (sc (sc (sc (⟨#[108, 101, 103, 32]⟩ : ByteArray) t484) (⟨#[45]⟩ : ByteArray)) t485) (⟨#[32, 116, 97, 112, 101, 32]⟩ : ByteArray)) t486) (⟨#[32, 99, 111, 109, 112, 97, 115, 115, 32]⟩ : ByteArray)).size + t487.size ≤ 9223372036854775807 then (if (sc (sc (sc (sc (sc (sc (sc (⟨#[108, 101, 103, 32]⟩ : ByteArray) t484) (⟨#[45]⟩ : ByteArray)) t485) (⟨#[32, 116, 97, 112, 101, 32]⟩ : ByteArray)) t486) (⟨#[32, 99, 111, 109, 112, 97, 115, 115, 32]⟩ : ByteArray)) t487).size + 7 ≤ 9223372036854775807 then ((impl_decimal.f a0_4).bind fun t488 => (if (sc (sc (sc (sc (sc (sc (sc (sc (⟨#[108, 101, 103, 32]⟩ : ByteArray) t484) (⟨#[45]⟩ : ByteArray)) t485) (⟨#[32, 116, 97, 112, 101, 32]⟩ : ByteArray)) t486) (⟨#[32, 99, 111, 109, 112, 97, 115, 115, 32]⟩ : ByteArray)) t487) (⟨#[32, 115, 108, 111, 112, 101, 32]⟩ : ByteArray)).size + t488.size ≤ 9223372036854775807 then (some (sc (sc (sc (sc (sc (sc (sc (sc (sc (⟨#[108, 101, 103, 32]⟩ : ByteArray) t484) (⟨#[45]⟩ : ByteArray)) t485) (⟨#[32, 116, 97, 112, 101, 32]⟩ : ByteArray)) t486) (⟨#[32, 99, 111, 109, 112, 97, 115, 115, 32]⟩ : ByteArray)) t487) (⟨#[32, 115, 108, 111, 112, 101, 32]⟩ : ByteArray)) t488)) else (none))) else (none)) else (none))) else (none)) else (none))) else (none)) else (none))) else (none)) else (none))) = some r := h
 clear h
 replace H := Option.bind_eq_some_iff.mp H
 obtain ⟨t484, A20, H⟩ := H
 replace H : (if 4 + t484.size ≤ 9223372036854775807 then (if (sc (⟨#[108, 101, 103, 32]⟩ : ByteArray) t484).size + 1 ≤ 9223372036854775807 then ((impl_decimal.f a0_1).bind fun t485 => (if (sc (sc (⟨#[108, 101, 103, 32]⟩ : ByteArray) t484) (⟨#[45]⟩ : ByteArray)).size + t485.size ≤ 9223372036854775807 then (if (sc (sc (sc (⟨#[108, 101, 103, 32]⟩ : ByteArray) t484) (⟨#[45]⟩ : ByteArray)) t485).size + 6 ≤ 9223372036854775807 then ((impl_decimal.f a0_2).bind fun t486 => (if (sc (sc (sc (sc (⟨#[108, 101, 103, 32]⟩ : ByteArray) t484) (⟨#[45]⟩ : ByteArray)) t485) (⟨#[32, 116, 97, 112, 101, 32]⟩ : ByteArray)).size + t486.size ≤ 9223372036854775807 then (if (sc (sc (sc (sc (sc (⟨#[108, 101, 103, 32]⟩ : ByteArray) t484) (⟨#[45]⟩ : ByteArray)) t485) (⟨#[32, 116, 97, 112, 101, 32]⟩ : ByteArray)) t486).size + 9 ≤ 9223372036854775807 then ((impl_decimal.f a0_3).bind fun t487 => (if (sc (sc (sc (sc (sc (sc (⟨#[108, 101, 103, 32]⟩ : ByteArray) t484) (⟨#[45]⟩ : ByteArray)) t485) (⟨#[32, 116, 97, 112, 101, 32]⟩ : ByteArray)) t486) (⟨#[32, 99, 111, 109, 112, 97, 115, 115, 32]⟩ : ByteArray)).size + t487.size ≤ 9223372036854775807 then (if (sc (sc (sc (sc (sc (sc (sc (⟨#[108, 101, 103, 32]⟩ : ByteArray) t484) (⟨#[45]⟩ : ByteArray)) t485) (⟨#[32, 116, 97, 112, 101, 32]⟩ : ByteArray)) t486) (⟨#[32, 99, 111, 109, 112, 97, 115, 115, 32]⟩ : ByteArray)) t487).size + 7 ≤ 9223372036854775807 then ((impl_decimal.f a0_4).bind fun t488 => (if (sc (sc (sc (sc (sc (sc (sc (sc (⟨#[108, 101, 103, 32]⟩ : ByteArray) t484) (⟨#[45]⟩ : ByteArray)) t485) (⟨#[32, 116, 97, 112, 101, 32]⟩ : ByteArray)) t486) (⟨#[32, 99, 111, 109, 112, 97, 115, 115, 32]⟩ : ByteArray)) t487) (⟨#[32, 115, 108, 111, 112, 101, 32]⟩ : ByteArray)).size + t488.size ≤ 9223372036854775807 then (some (sc (sc (sc (sc (sc (sc (sc (sc (sc (⟨#[108, 101, 103, 32]⟩ : ByteArray) t484) (⟨#[45]⟩ : ByteArray)) t485) (⟨#[32, 116, 97, 112, 101, 32]⟩ : ByteArray)) t486) (⟨#[32, 99, 111, 109, 112, 97, 115, 115, 32]⟩ : ByteArray)) t487) (⟨#[32, 115, 108, 111, 112, 101, 32]⟩ : ByteArray)) t488)) else (none))) else (none)) else (none))) else (none)) else (none))) else (none)) else (none))) else (none)) else (none)) = some r := H
 have A2 := Aside0.mk A20
 clear A20
 by_cases c3 : 4 + t484.size ≤ 9223372036854775807
 ·
  rw [if_pos c3] at H
  have c3b0 := eq_true c3
  have c3b1 : decide (4 + t484.size ≤ 9223372036854775807) = true := decide_eq_true c3
  try have c3b2 : (9223372036854775807 < 4 + t484.size) = False := eq_false (Nat.not_lt.2 c3)
  by_cases c4 : (sc (⟨#[108, 101, 103, 32]⟩ : ByteArray) t484).size + 1 ≤ 9223372036854775807
  ·
   rw [if_pos c4] at H
   have c4b0 := eq_true c4
   have c4b1 : decide ((sc (⟨#[108, 101, 103, 32]⟩ : ByteArray) t484).size + 1 ≤ 9223372036854775807) = true := decide_eq_true c4
   try have c4b2 : (9223372036854775807 < (sc (⟨#[108, 101, 103, 32]⟩ : ByteArray) t484).size + 1) = False := eq_false (Nat.not_lt.2 c4)
   replace H := Option.bind_eq_some_iff.mp H
   obtain ⟨t485, A50, H⟩ := H
   replace H : (if (sc (sc (⟨#[108, 101, 103, 32]⟩ : ByteArray) t484) (⟨#[45]⟩ : ByteArray)).size + t485.size ≤ 9223372036854775807 then (if (sc (sc (sc (⟨#[108, 101, 103, 32]⟩ : ByteArray) t484) (⟨#[45]⟩ : ByteArray)) t485).size + 6 ≤ 9223372036854775807 then ((impl_decimal.f a0_2).bind fun t486 => (if (sc (sc (sc (sc (⟨#[108, 101, 103, 32]⟩ : ByteArray) t484) (⟨#[45]⟩ : ByteArray)) t485) (⟨#[32, 116, 97, 112, 101, 32]⟩ : ByteArray)).size + t486.size ≤ 9223372036854775807 then (if (sc (sc (sc (sc (sc (⟨#[108, 101, 103, 32]⟩ : ByteArray) t484) (⟨#[45]⟩ : ByteArray)) t485) (⟨#[32, 116, 97, 112, 101, 32]⟩ : ByteArray)) t486).size + 9 ≤ 9223372036854775807 then ((impl_decimal.f a0_3).bind fun t487 => (if (sc (sc (sc (sc (sc (sc (⟨#[108, 101, 103, 32]⟩ : ByteArray) t484) (⟨#[45]⟩ : ByteArray)) t485) (⟨#[32, 116, 97, 112, 101, 32]⟩ : ByteArray)) t486) (⟨#[32, 99, 111, 109, 112, 97, 115, 115, 32]⟩ : ByteArray)).size + t487.size ≤ 9223372036854775807 then (if (sc (sc (sc (sc (sc (sc (sc (⟨#[108, 101, 103, 32]⟩ : ByteArray) t484) (⟨#[45]⟩ : ByteArray)) t485) (⟨#[32, 116, 97, 112, 101, 32]⟩ : ByteArray)) t486) (⟨#[32, 99, 111, 109, 112, 97, 115, 115, 32]⟩ : ByteArray)) t487).size + 7 ≤ 9223372036854775807 then ((impl_decimal.f a0_4).bind fun t488 => (if (sc (sc (sc (sc (sc (sc (sc (sc (⟨#[108, 101, 103, 32]⟩ : ByteArray) t484) (⟨#[45]⟩ : ByteArray)) t485) (⟨#[32, 116, 97, 112, 101, 32]⟩ : ByteArray)) t486) (⟨#[32, 99, 111, 109, 112, 97, 115, 115, 32]⟩ : ByteArray)) t487) (⟨#[32, 115, 108, 111, 112, 101, 32]⟩ : ByteArray)).size + t488.size ≤ 9223372036854775807 then (some (sc (sc (sc (sc (sc (sc (sc (sc (sc (⟨#[108, 101, 103, 32]⟩ : ByteArray) t484) (⟨#[45]⟩ : ByteArray)) t485) (⟨#[32, 116, 97, 112, 101, 32]⟩ : ByteArray)) t486) (⟨#[32, 99, 111, 109, 112, 97, 115, 115, 32]⟩ : ByteArray)) t487) (⟨#[32, 115, 108, 111, 112, 101, 32]⟩ : ByteArray)) t488)) else (none))) else (none)) else (none))) else (none)) else (none))) else (none)) else (none)) = some r := H
   have A5 := Aside0.mk A50
   clear A50
   by_cases c6 : (sc (sc (⟨#[108, 101, 103, 32]⟩ : ByteArray) t484) (⟨#[45]⟩ : ByteArray)).size + t485.size ≤ 9223372036854775807
   ·
    rw [if_pos c6] at H
    have c6b0 := eq_true c6
    have c6b1 : decide ((sc (sc (⟨#[108, 101, 103, 32]⟩ : ByteArray) t484) (⟨#[45]⟩ : ByteArray)).size + t485.size ≤ 9223372036854775807) = true := decide_eq_true c6
    try have c6b2 : (9223372036854775807 < (sc (sc (⟨#[108, 101, 103, 32]⟩ : ByteArray) t484) (⟨#[45]⟩ : ByteArray)).size + t485.size) = False := eq_false (Nat.not_lt.2 c6)
    by_cases c7 : (sc (sc (sc (⟨#[108, 101, 103, 32]⟩ : ByteArray) t484) (⟨#[45]⟩ : ByteArray)) t485).size + 6 ≤ 9223372036854775807
    ·
     rw [if_pos c7] at H
     have c7b0 := eq_true c7
     have c7b1 : decide ((sc (sc (sc (⟨#[108, 101, 103, 32]⟩ : ByteArray) t484) (⟨#[45]⟩ : ByteArray)) t485).size + 6 ≤ 9223372036854775807) = true := decide_eq_true c7
     try have c7b2 : (9223372036854775807 < (sc (sc (sc (⟨#[108, 101, 103, 32]⟩ : ByteArray) t484) (⟨#[45]⟩ : ByteArray)) t485).size + 6) = False := eq_false (Nat.not_lt.2 c7)
     replace H := Option.bind_eq_some_iff.mp H
     obtain ⟨t486, A80, H⟩ := H
     replace H : (if (sc (sc (sc (sc (⟨#[108, 101, 103, 32]⟩ : ByteArray) t484) (⟨#[45]⟩ : ByteArray)) t485) (⟨#[32, 116, 97, 112, 101, 32]⟩ : ByteArray)).size + t486.size ≤ 9223372036854775807 then (if (sc (sc (sc (sc (sc (⟨#[108, 101, 103, 32]⟩ : ByteArray) t484) (⟨#[45]⟩ : ByteArray)) t485) (⟨#[32, 116, 97, 112, 101, 32]⟩ : ByteArray)) t486).size + 9 ≤ 9223372036854775807 then ((impl_decimal.f a0_3).bind fun t487 => (if (sc (sc (sc (sc (sc (sc (⟨#[108, 101, 103, 32]⟩ : ByteArray) t484) (⟨#[45]⟩ : ByteArray)) t485) (⟨#[32, 116, 97, 112, 101, 32]⟩ : ByteArray)) t486) (⟨#[32, 99, 111, 109, 112, 97, 115, 115, 32]⟩ : ByteArray)).size + t487.size ≤ 9223372036854775807 then (if (sc (sc (sc (sc (sc (sc (sc (⟨#[108, 101, 103, 32]⟩ : ByteArray) t484) (⟨#[45]⟩ : ByteArray)) t485) (⟨#[32, 116, 97, 112, 101, 32]⟩ : ByteArray)) t486) (⟨#[32, 99, 111, 109, 112, 97, 115, 115, 32]⟩ : ByteArray)) t487).size + 7 ≤ 9223372036854775807 then ((impl_decimal.f a0_4).bind fun t488 => (if (sc (sc (sc (sc (sc (sc (sc (sc (⟨#[108, 101, 103, 32]⟩ : ByteArray) t484) (⟨#[45]⟩ : ByteArray)) t485) (⟨#[32, 116, 97, 112, 101, 32]⟩ : ByteArray)) t486) (⟨#[32, 99, 111, 109, 112, 97, 115, 115, 32]⟩ : ByteArray)) t487) (⟨#[32, 115, 108, 111, 112, 101, 32]⟩ : ByteArray)).size + t488.size ≤ 9223372036854775807 then (some (sc (sc (sc (sc (sc (sc (sc (sc (sc (⟨#[108, 101, 103, 32]⟩ : ByteArray) t484) (⟨#[45]⟩ : ByteArray)) t485) (⟨#[32, 116, 97, 112, 101, 32]⟩ : ByteArray)) t486) (⟨#[32, 99, 111, 109, 112, 97, 115, 115, 32]⟩ : ByteArray)) t487) (⟨#[32, 115, 108, 111, 112, 101, 32]⟩ : ByteArray)) t488)) else (none))) else (none)) else (none))) else (none)) else (none)) = some r := H
     have A8 := Aside0.mk A80
     clear A80
     by_cases c9 : (sc (sc (sc (sc (⟨#[108, 101, 103, 32]⟩ : ByteArray) t484) (⟨#[45]⟩ : ByteArray)) t485) (⟨#[32, 116, 97, 112, 101, 32]⟩ : ByteArray)).size + t486.size ≤ 9223372036854775807
     ·
      rw [if_pos c9] at H
      have c9b0 := eq_true c9
      have c9b1 : decide ((sc (sc (sc (sc (⟨#[108, 101, 103, 32]⟩ : ByteArray) t484) (⟨#[45]⟩ : ByteArray)) t485) (⟨#[32, 116, 97, 112, 101, 32]⟩ : ByteArray)).size + t486.size ≤ 9223372036854775807) = true := decide_eq_true c9
      try have c9b2 : (9223372036854775807 < (sc (sc (sc (sc (⟨#[108, 101, 103, 32]⟩ : ByteArray) t484) (⟨#[45]⟩ : ByteArray)) t485) (⟨#[32, 116, 97, 112, 101, 32]⟩ : ByteArray)).size + t486.size) = False := eq_false (Nat.not_lt.2 c9)
      by_cases c10 : (sc (sc (sc (sc (sc (⟨#[108, 101, 103, 32]⟩ : ByteArray) t484) (⟨#[45]⟩ : ByteArray)) t485) (⟨#[32, 116, 97, 112, 101, 32]⟩ : ByteArray)) t486).size + 9 ≤ 9223372036854775807
      ·
       rw [if_pos c10] at H
       have c10b0 := eq_true c10
       have c10b1 : decide ((sc (sc (sc (sc (sc (⟨#[108, 101, 103, 32]⟩ : ByteArray) t484) (⟨#[45]⟩ : ByteArray)) t485) (⟨#[32, 116, 97, 112, 101, 32]⟩ : ByteArray)) t486).size + 9 ≤ 9223372036854775807) = true := decide_eq_true c10
       try have c10b2 : (9223372036854775807 < (sc (sc (sc (sc (sc (⟨#[108, 101, 103, 32]⟩ : ByteArray) t484) (⟨#[45]⟩ : ByteArray)) t485) (⟨#[32, 116, 97, 112, 101, 32]⟩ : ByteArray)) t486).size + 9) = False := eq_false (Nat.not_lt.2 c10)
       replace H := Option.bind_eq_some_iff.mp H
       obtain ⟨t487, A110, H⟩ := H
       replace H : (if (sc (sc (sc (sc (sc (sc (⟨#[108, 101, 103, 32]⟩ : ByteArray) t484) (⟨#[45]⟩ : ByteArray)) t485) (⟨#[32, 116, 97, 112, 101, 32]⟩ : ByteArray)) t486) (⟨#[32, 99, 111, 109, 112, 97, 115, 115, 32]⟩ : ByteArray)).size + t487.size ≤ 9223372036854775807 then (if (sc (sc (sc (sc (sc (sc (sc (⟨#[108, 101, 103, 32]⟩ : ByteArray) t484) (⟨#[45]⟩ : ByteArray)) t485) (⟨#[32, 116, 97, 112, 101, 32]⟩ : ByteArray)) t486) (⟨#[32, 99, 111, 109, 112, 97, 115, 115, 32]⟩ : ByteArray)) t487).size + 7 ≤ 9223372036854775807 then ((impl_decimal.f a0_4).bind fun t488 => (if (sc (sc (sc (sc (sc (sc (sc (sc (⟨#[108, 101, 103, 32]⟩ : ByteArray) t484) (⟨#[45]⟩ : ByteArray)) t485) (⟨#[32, 116, 97, 112, 101, 32]⟩ : ByteArray)) t486) (⟨#[32, 99, 111, 109, 112, 97, 115, 115, 32]⟩ : ByteArray)) t487) (⟨#[32, 115, 108, 111, 112, 101, 32]⟩ : ByteArray)).size + t488.size ≤ 9223372036854775807 then (some (sc (sc (sc (sc (sc (sc (sc (sc (sc (⟨#[108, 101, 103, 32]⟩ : ByteArray) t484) (⟨#[45]⟩ : ByteArray)) t485) (⟨#[32, 116, 97, 112, 101, 32]⟩ : ByteArray)) t486) (⟨#[32, 99, 111, 109, 112, 97, 115, 115, 32]⟩ : ByteArray)) t487) (⟨#[32, 115, 108, 111, 112, 101, 32]⟩ : ByteArray)) t488)) else (none))) else (none)) else (none)) = some r := H
       have A11 := Aside0.mk A110
       clear A110
       by_cases c12 : (sc (sc (sc (sc (sc (sc (⟨#[108, 101, 103, 32]⟩ : ByteArray) t484) (⟨#[45]⟩ : ByteArray)) t485) (⟨#[32, 116, 97, 112, 101, 32]⟩ : ByteArray)) t486) (⟨#[32, 99, 111, 109, 112, 97, 115, 115, 32]⟩ : ByteArray)).size + t487.size ≤ 9223372036854775807
       ·
        rw [if_pos c12] at H
        have c12b0 := eq_true c12; have c12b1 : decide ((sc (sc (sc (sc (sc (sc (⟨#[108, 101, 103, 32]⟩ : ByteArray) t484) (⟨#[45]⟩ : ByteArray)) t485) (⟨#[32, 116, 97, 112, 101, 32]⟩ : ByteArray)) t486) (⟨#[32, 99, 111, 109, 112, 97, 115, 115, 32]⟩ : ByteArray)).size + t487.size ≤ 9223372036854775807) = true := decide_eq_true c12
        try have c12b2 : (9223372036854775807 < (sc (sc (sc (sc (sc (sc (⟨#[108, 101, 103, 32]⟩ : ByteArray) t484) (⟨#[45]⟩ : ByteArray)) t485) (⟨#[32, 116, 97, 112, 101, 32]⟩ : ByteArray)) t486) (⟨#[32, 99, 111, 109, 112, 97, 115, 115, 32]⟩ : ByteArray)).size + t487.size) = False := eq_false (Nat.not_lt.2 c12)
        by_cases c13 : (sc (sc (sc (sc (sc (sc (sc (⟨#[108, 101, 103, 32]⟩ : ByteArray) t484) (⟨#[45]⟩ : ByteArray)) t485) (⟨#[32, 116, 97, 112, 101, 32]⟩ : ByteArray)) t486) (⟨#[32, 99, 111, 109, 112, 97, 115, 115, 32]⟩ : ByteArray)) t487).size + 7 ≤ 9223372036854775807
        ·
         rw [if_pos c13] at H
         have c13b0 := eq_true c13; have c13b1 : decide ((sc (sc (sc (sc (sc (sc (sc (⟨#[108, 101, 103, 32]⟩ : ByteArray) t484) (⟨#[45]⟩ : ByteArray)) t485) (⟨#[32, 116, 97, 112, 101, 32]⟩ : ByteArray)) t486) (⟨#[32, 99, 111, 109, 112, 97, 115, 115, 32]⟩ : ByteArray)) t487).size + 7 ≤ 9223372036854775807) = true := decide_eq_true c13
         try have c13b2 : (9223372036854775807 < (sc (sc (sc (sc (sc (sc (sc (⟨#[108, 101, 103, 32]⟩ : ByteArray) t484) (⟨#[45]⟩ : ByteArray)) t485) (⟨#[32, 116, 97, 112, 101, 32]⟩ : ByteArray)) t486) (⟨#[32, 99, 111, 109, 112, 97, 115, 115, 32]⟩ : ByteArray)) t487).size + 7) = False := eq_false (Nat.not_lt.2 c13)
         replace H := Option.bind_eq_some_iff.mp H; obtain ⟨t488, A140, H⟩ := H; replace H : (if (sc (sc (sc (sc (sc (sc (sc (sc (⟨#[108, 101, 103, 32]⟩ : ByteArray) t484) (⟨#[45]⟩ : ByteArray)) t485) (⟨#[32, 116, 97, 112, 101, 32]⟩ : ByteArray)) t486) (⟨#[32, 99, 111, 109, 112, 97, 115, 115, 32]⟩ : ByteArray)) t487) (⟨#[32, 115, 108, 111, 112, 101, 32]⟩ : ByteArray)).size + t488.size ≤ 9223372036854775807 then (some (sc (sc (sc (sc (sc (sc (sc (sc (sc (⟨#[108, 101, 103, 32]⟩ : ByteArray) t484) (⟨#[45]⟩ : ByteArray)) t485) (⟨#[32, 116, 97, 112, 101, 32]⟩ : ByteArray)) t486) (⟨#[32, 99, 111, 109, 112, 97, 115, 115, 32]⟩ : ByteArray)) t487) (⟨#[32, 115, 108, 111, 112, 101, 32]⟩ : ByteArray)) t488)) else (none)) = some r := H; have A14 := Aside0.mk A140; clear A140
         by_cases c15 : (sc (sc (sc (sc (sc (sc (sc (sc (⟨#[108, 101, 103, 32]⟩ : ByteArray) t484) (⟨#[45]⟩ : ByteArray)) t485) (⟨#[32, 116, 97, 112, 101, 32]⟩ : ByteArray)) t486) (⟨#[32, 99, 111, 109, 112, 97, 115, 115, 32]⟩ : ByteArray)) t487) (⟨#[32, 115, 108, 111, 112, 101, 32]⟩ : ByteArray)).size + t488.size ≤ 9223372036854775807
         ·
          rw [if_pos c15] at H
          have c15b0 := eq_true c15; have c15b1 : decide ((sc (sc (sc (sc (sc (sc (sc (sc (⟨#[108, 101, 103, 32]⟩ : ByteArray) t484) (⟨#[45]⟩ : ByteArray)) t485) (⟨#[32, 116, 97, 112, 101, 32]⟩ : ByteArray)) t486) (⟨#[32, 99, 111, 109, 112, 97, 115, 115, 32]⟩ : ByteArray)) t487) (⟨#[32, 115, 108, 111, 112, 101, 32]⟩ : ByteArray)).size + t488.size ≤ 9223372036854775807) = true := decide_eq_true c15
          try have c15b2 : (9223372036854775807 < (sc (sc (sc (sc (sc (sc (sc (sc (⟨#[108, 101, 103, 32]⟩ : ByteArray) t484) (⟨#[45]⟩ : ByteArray)) t485) (⟨#[32, 116, 97, 112, 101, 32]⟩ : ByteArray)) t486) (⟨#[32, 99, 111, 109, 112, 97, 115, 115, 32]⟩ : ByteArray)) t487) (⟨#[32, 115, 108, 111, 112, 101, 32]⟩ : ByteArray)).size + t488.size) = False := eq_false (Nat.not_lt.2 c15)
          obtain rfl := Option.some.inj H
          go_enter Tryd.func24, Tryd.ntmps24
          try go_wp2_with (first | ((with_reducible refine gate_dst (N := 1) rfl ?_); refine box_event ?hg (N := 1) ?hd (cs := #[.int .i64 a0_0, .int .i64 a0_1, .int .i64 a0_2, .int .i64 a0_3, .int .i64 a0_4]) (t := 53) ?hr ?_; (case hd => rfl); (case hg => rfl); (case hr => first | (go_simp; done) | (go_simp; rfl)); intro gb483 hg w16 hbox hb; have BK483 := Aside0.mk (hbox); have GW483 := Aside0.mk ((bz_ hg (lb0_ HB.out))); have GE483 := Aside0.mk ((bz_ hg (lb0_ HB.out))); replace HB := Aside0.mk (below_step (lb0_ HB.out) hb); clear hb hbox hg))
          replace BK483 := Aside0.mk (blk_drew BK483.out); replace HB := Aside0.mk (below_drew1 HB.out); refine start_ (n := 25) (S := fun w' => w'.cell? ⟨gb483, 0, none⟩ = some (.int .i64 a0_0) ∧ w'.cell? ⟨gb483, 1, none⟩ = some (.int .i64 a0_1) ∧ w'.cell? ⟨gb483, 2, none⟩ = some (.int .i64 a0_2) ∧ w'.cell? ⟨gb483, 3, none⟩ = some (.int .i64 a0_3) ∧ w'.cell? ⟨gb483, 4, none⟩ = some (.int .i64 a0_4)) (ds := []) impl_legText.mk0 (by kernel_rfl) rfl rfl ⟨(blk_cell BK483.out 0).trans rfl, (blk_cell BK483.out 1).trans rfl, (blk_cell BK483.out 2).trans rfl, (blk_cell BK483.out 3).trans rfl, (blk_cell BK483.out 4).trans rfl⟩ (fun hHeld => ?_); refine with_tabW impl_legText.tab1 impl_legText.bits1 (fun HT_ HW_ => ?_); generalize w16.drew = w17 at BK483 HB hHeld ⊢; refine pz_ HT_ 0 (some 3) impl_legText.mk1 ?_; refine pz_ HT_ 5 (some 8) impl_legText.mk2 ?_; refine pz_ HT_ 10 (some 13) impl_legText.mk3 ?_; refine pz_ HT_ 15 (some 18) impl_legText.mk4 ?_; refine pz_ HT_ 20 (some 23) impl_legText.mk5 ?_; refine take_ (i := 1) (N := some 4) (v := ?_) (a' := ?_) impl_legText.mk6 rfl rfl (take_ofW HT_.out HW_.out (by kernel_rfl)) (fun _ _ _ h => h) (Or.inl ⟨by rfl, ?_⟩) hHeld ?_ ?_; rotate_left
          ·
           rintro w' ⟨s0, s1, s2, s3, s4⟩; go_simp; (with_reducible rfl)
          rotate_left
          ·
           simp only [Act.put, List.setIfInBounds_toArray, List.set_cons_zero, List.set_cons_succ, i64_w, i32_w]; rfl
          refine take_ (i := 6) (N := some 9) (v := ?_) (a' := ?_) impl_legText.mk7 rfl rfl (take_ofW HT_.out HW_.out (by kernel_rfl)) (fun _ _ _ h => h) (Or.inl ⟨by rfl, ?_⟩) hHeld ?_ ?_; rotate_left
          ·
           rintro w' ⟨s0, s1, s2, s3, s4⟩; go_simp; (with_reducible rfl)
          rotate_left
          ·
           simp only [Act.put, List.setIfInBounds_toArray, List.set_cons_zero, List.set_cons_succ, i64_w, i32_w]; rfl
          refine take_ (i := 11) (N := some 14) (v := ?_) (a' := ?_) impl_legText.mk8 rfl rfl (take_ofW HT_.out HW_.out (by kernel_rfl)) (fun _ _ _ h => h) (Or.inl ⟨by rfl, ?_⟩) hHeld ?_ ?_; rotate_left
          ·
           rintro w' ⟨s0, s1, s2, s3, s4⟩; go_simp; (with_reducible rfl)
          rotate_left
          ·
           simp only [Act.put, List.setIfInBounds_toArray, List.set_cons_zero, List.set_cons_succ, i64_w, i32_w]; rfl
          refine take_ (i := 16) (N := some 19) (v := ?_) (a' := ?_) impl_legText.mk9 rfl rfl (take_ofW HT_.out HW_.out (by kernel_rfl)) (fun _ _ _ h => h) (Or.inl ⟨by rfl, ?_⟩) hHeld ?_ ?_; rotate_left
          ·
           rintro w' ⟨s0, s1, s2, s3, s4⟩; go_simp; (with_reducible rfl)
          rotate_left
          ·
           simp only [Act.put, List.setIfInBounds_toArray, List.set_cons_zero, List.set_cons_succ, i64_w, i32_w]; rfl
          refine take_ (i := 21) (N := some 24) (v := ?_) (a' := ?_) impl_legText.mk10 rfl rfl (take_ofW HT_.out HW_.out (by kernel_rfl)) (fun _ _ _ h => h) (Or.inl ⟨by rfl, ?_⟩) hHeld ?_ ?_; rotate_left
          ·
           rintro w' ⟨s0, s1, s2, s3, s4⟩; go_simp; (with_reducible rfl)
          rotate_left
          ·
           simp only [Act.put, List.setIfInBounds_toArray, List.set_cons_zero, List.set_cons_succ, i64_w, i32_w]; rfl
          refine one_ (i := 2) (N := some 5) impl_legText.mk11 rfl rfl (one_of HT_.out (by kernel_rfl)) (by decide) (fun K hK => ?_); refine gs_ Tryd.func27 #[.int .i64 a0_0] ?_; (with_reducible refine (impl_decimal.calls a0_0 t484 _ A2.out ?sideT).mono ?_)
          case sideT => first | (with_reducible exact HT.out) | (with_reducible exact Tb.step HT.out HB.out) | exact Tb.step HT.out (by repeat (first | (with_reducible first | exact HB.out | apply below_alloc | apply pw_below_drewN | apply below_drew1 | refine below_set ?_ GE483.out) | exact HB.out | exact Below.refl _ _))
          rintro e w18 ⟨rfl, hb⟩; refine ⟨_, rfl, ?_⟩; replace BK483 := Aside0.mk (bb_ (bk_ BK483.out) hb); replace HB := Aside0.mk (below_step (lb1_ HB.out GE483.out) hb); (try clear hb); (try clear hb2); (try clear hk); (try clear hi); refine hK.out _ _ ⟨(blk_cell BK483.out 0).trans rfl, (blk_cell BK483.out 1).trans rfl, (blk_cell BK483.out 2).trans rfl, (blk_cell BK483.out 3).trans rfl, (blk_cell BK483.out 4).trans rfl⟩ (fun hHeld => ?_); clear hK K; refine na_ ?_; refine pz_ HT_ 3 (some 6) impl_legText.mk12 ?_; refine pz_ HT_ 4 (some 7) impl_legText.mk13 ?_; refine one_ (i := 7) (N := some 10) impl_legText.mk14 rfl rfl (one_of HT_.out (by kernel_rfl)) (by decide) (fun K hK => ?_); refine gs_ Tryd.func27 #[.int .i64 a0_1] ?_; (with_reducible refine (impl_decimal.calls a0_1 t485 _ A5.out ?sideT).mono ?_)
          case sideT => first | (with_reducible exact HT.out) | (with_reducible exact Tb.step HT.out HB.out) | exact Tb.step HT.out (by repeat (first | (with_reducible first | exact HB.out | apply below_alloc | apply pw_below_drewN | apply below_drew1 | refine below_set ?_ GE483.out) | exact HB.out | exact Below.refl _ _))
          rintro e w19 ⟨rfl, hb⟩; refine ⟨_, rfl, ?_⟩; replace BK483 := Aside0.mk (bb_ (bk_ BK483.out) hb); replace HB := Aside0.mk (below_step (lb1_ HB.out GE483.out) hb); (try clear hb); (try clear hb2); (try clear hk); (try clear hi); refine hK.out _ _ ⟨(blk_cell BK483.out 0).trans rfl, (blk_cell BK483.out 1).trans rfl, (blk_cell BK483.out 2).trans rfl, (blk_cell BK483.out 3).trans rfl, (blk_cell BK483.out 4).trans rfl⟩ (fun hHeld => ?_); clear hK K; refine na_ ?_; refine pz_ HT_ 8 (some 11) impl_legText.mk15 ?_; refine pz_ HT_ 9 (some 12) impl_legText.mk16 ?_; refine one_ (i := 12) (N := some 15) impl_legText.mk17 rfl rfl (one_of HT_.out (by kernel_rfl)) (by decide) (fun K hK => ?_); refine gs_ Tryd.func27 #[.int .i64 a0_2] ?_; (with_reducible refine (impl_decimal.calls a0_2 t486 _ A8.out ?sideT).mono ?_)
          case sideT => first | (with_reducible exact HT.out) | (with_reducible exact Tb.step HT.out HB.out) | exact Tb.step HT.out (by repeat (first | (with_reducible first | exact HB.out | apply below_alloc | apply pw_below_drewN | apply below_drew1 | refine below_set ?_ GE483.out) | exact HB.out | exact Below.refl _ _))
          rintro e w20 ⟨rfl, hb⟩; refine ⟨_, rfl, ?_⟩; replace BK483 := Aside0.mk (bb_ (bk_ BK483.out) hb); replace HB := Aside0.mk (below_step (lb1_ HB.out GE483.out) hb); (try clear hb); (try clear hb2); (try clear hk); (try clear hi); refine hK.out _ _ ⟨(blk_cell BK483.out 0).trans rfl, (blk_cell BK483.out 1).trans rfl, (blk_cell BK483.out 2).trans rfl, (blk_cell BK483.out 3).trans rfl, (blk_cell BK483.out 4).trans rfl⟩ (fun hHeld => ?_); clear hK K; refine na_ ?_; refine pz_ HT_ 13 (some 16) impl_legText.mk18 ?_; refine pz_ HT_ 14 (some 17) impl_legText.mk19 ?_; refine one_ (i := 17) (N := some 20) impl_legText.mk20 rfl rfl (one_of HT_.out (by kernel_rfl)) (by decide) (fun K hK => ?_); refine gs_ Tryd.func27 #[.int .i64 a0_3] ?_; (with_reducible refine (impl_decimal.calls a0_3 t487 _ A11.out ?sideT).mono ?_)
          case sideT => first | (with_reducible exact HT.out) | (with_reducible exact Tb.step HT.out HB.out) | exact Tb.step HT.out (by repeat (first | (with_reducible first | exact HB.out | apply below_alloc | apply pw_below_drewN | apply below_drew1 | refine below_set ?_ GE483.out) | exact HB.out | exact Below.refl _ _))
          rintro e w21 ⟨rfl, hb⟩; refine ⟨_, rfl, ?_⟩; replace BK483 := Aside0.mk (bb_ (bk_ BK483.out) hb); replace HB := Aside0.mk (below_step (lb1_ HB.out GE483.out) hb); (try clear hb); (try clear hb2); (try clear hk); (try clear hi); refine hK.out _ _ ⟨(blk_cell BK483.out 0).trans rfl, (blk_cell BK483.out 1).trans rfl, (blk_cell BK483.out 2).trans rfl, (blk_cell BK483.out 3).trans rfl, (blk_cell BK483.out 4).trans rfl⟩ (fun hHeld => ?_); clear hK K; refine na_ ?_; refine pz_ HT_ 18 (some 21) impl_legText.mk21 ?_; refine pz_ HT_ 19 (some 22) impl_legText.mk22 ?_; refine one_ (i := 22) (N := some 25) impl_legText.mk23 rfl rfl (one_of HT_.out (by kernel_rfl)) (by decide) (fun K hK => ?_); refine gs_ Tryd.func27 #[.int .i64 a0_4] ?_; (with_reducible refine (impl_decimal.calls a0_4 t488 _ A14.out ?sideT).mono ?_)
          case sideT => first | (with_reducible exact HT.out) | (with_reducible exact Tb.step HT.out HB.out) | exact Tb.step HT.out (by repeat (first | (with_reducible first | exact HB.out | apply below_alloc | apply pw_below_drewN | apply below_drew1 | refine below_set ?_ GE483.out) | exact HB.out | exact Below.refl _ _))
          rintro e w22 ⟨rfl, hb⟩; refine ⟨_, rfl, ?_⟩; replace BK483 := Aside0.mk (bb_ (bk_ BK483.out) hb); replace HB := Aside0.mk (below_step (lb1_ HB.out GE483.out) hb); (try clear hb); (try clear hb2); (try clear hk); (try clear hi); refine hK.out _ _ ⟨(blk_cell BK483.out 0).trans rfl, (blk_cell BK483.out 1).trans rfl, (blk_cell BK483.out 2).trans rfl, (blk_cell BK483.out 3).trans rfl, (blk_cell BK483.out 4).trans rfl⟩ (fun hHeld => ?_); clear hK K; refine na_ ?_; refine pz_ HT_ 23 (some 26) impl_legText.mk24 ?_; refine pz_ HT_ 24 (some 2) impl_legText.mk25 ?_; refine done_ (done_of HT_.out (by kernel_rfl)) ?_
          try go_wp2
          go_ret
          exact ⟨rr_, lb1_ HB.out GE483.out⟩
         ·
          rw [if_neg c15] at H
          exact absurd H (by simp)
        ·
         rw [if_neg c13] at H
         exact absurd H (by simp)
       ·
        rw [if_neg c12] at H
        exact absurd H (by simp)
      ·
       rw [if_neg c10] at H
       exact absurd H (by simp)
     ·
      rw [if_neg c9] at H
      exact absurd H (by simp)
    ·
     rw [if_neg c7] at H
     exact absurd H (by simp)
   ·
    rw [if_neg c6] at H
    exact absurd H (by simp)
  ·
   rw [if_neg c4] at H
   exact absurd H (by simp)
 ·
  rw [if_neg c3] at H
  exact absurd H (by simp)
end Go.Proofs.YtckigdechhmegaaDoor.Pr

namespace Go.Proofs.YtckigdechhmegaaDoor.Pr
open Go.RowKit Go.Proofs.YtckigdechhmegaaDoorW.PrintWords Go.Proofs.YtckigdechhmegaaDoorW.PrintLast Go.Proofs.YtckigdechhmegaaDoorW.PrintMore
attribute [local go_sem] max2_int min2_int max_two min_two max_three min_three max_four min_four   -- for this text's walks alone
set_option linter.unusedVariables false
set_option linter.unusedSimpArgs false
def impl_at.f (l0_0 : List (S53)) (l0_1 : List Bool) (l0_2 : List Bool) (a0_3 : Int) (a0_4 : Int) : Option (ByteArray) := (impl_decimal.f a0_3).bind fun t490 => (some t490)
theorem impl_at.calls (A0_0 : Option Addr) (c0_0 : Nat) (l0_0 : List (S53)) (A0_1 : Option Addr) (c0_1 : Nat) (l0_1 : List Bool) (A0_2 : Option Addr) (c0_2 : Nat) (l0_2 : List Bool) (a0_3 : Int) (a0_4 : Int) (r : ByteArray) (w : World) (hr0_0 : Kd.C k53 w A0_0 l0_0.length l0_0) (hc0_0 : l0_0.length ≤ c0_0) (hr0_1 : Kd.C Kd.bool w A0_1 l0_1.length l0_1) (hc0_1 : l0_1.length ≤ c0_1) (hr0_2 : Kd.C Kd.bool w A0_2 l0_2.length l0_2) (hc0_2 : l0_2.length ≤ c0_2) (h : impl_at.f l0_0 l0_1 l0_2 a0_3 a0_4 = some r) (hT : Tb w) :
  Calls Tryd.prog 25 #[.agg #[.slice A0_0 l0_0.length c0_0, .slice A0_1 l0_1.length c0_1, .slice A0_2 l0_2.length c0_2, .int .i64 a0_3, .int .i64 a0_4]] w fun e w' => e = .returned (.string r) ∧ Below w.heap.size w w' := by
 have HT := Aside0.mk hT
 clear hT
 have hu34 := Tryd.underlying34
 have HR0_0 := Aside0.mk hr0_0
 have HC0_0 := Aside0.mk hc0_0
 clear hr0_0 hc0_0
 have HR0_1 := Aside0.mk hr0_1
 have HC0_1 := Aside0.mk hc0_1
 clear hr0_1 hc0_1
 have HR0_2 := Aside0.mk hr0_2
 have HC0_2 := Aside0.mk hc0_2
 clear hr0_2 hc0_2
 have HB := Aside0.mk (Below.refl w.heap.size w)
 have H : ((impl_decimal.f a0_3).bind fun t490 => (some t490)) = some r := h
 clear h
 replace H := Option.bind_eq_some_iff.mp H
 obtain ⟨t490, A20, H⟩ := H
 replace H : (some t490) = some r := H
 have A2 := Aside0.mk A20
 clear A20
 obtain rfl := Option.some.inj H
 go_enter Tryd.func25, Tryd.ntmps25
 go_wp2_with (first | ((with_reducible refine gate_dst (N := 1) rfl ?_); refine box_event ?hg (N := 1) ?hd (cs := #[.slice A0_0 l0_0.length c0_0, .slice A0_1 l0_1.length c0_1, .slice A0_2 l0_2.length c0_2, .int .i64 a0_3, .int .i64 a0_4]) (t := 34) ?hr ?_; (case hd => rfl); (case hg => rfl); (case hr => first | (go_simp; done) | (go_simp; rfl)); intro gb489 hg w3 hbox hb; have BK489 := Aside0.mk (hbox); have GW489 := Aside0.mk ((bz_ hg (lb0_ HB.out))); have GE489 := Aside0.mk ((bz_ hg (lb0_ HB.out))); replace HB := Aside0.mk (below_step (lb0_ HB.out) hb); clear hb hbox hg; obtain ⟨hcz4_0, hcz4_1, hcz4_2, hcz4_3, hcz4_4⟩ := cz5_ BK489.out; obtain ⟨hfz4_0, hfz4_1, hfz4_2, hfz4_3, hfz4_4⟩ := fz5_ BK489.out) | ((with_reducible refine gate_callee (f := 27) rfl ?_); refine ga_ (some 5) Tryd.func27 #[.int .i64 a0_3] ?_; (with_reducible refine (impl_decimal.calls a0_3 t490 _ A2.out ?sideT).mono ?_); (case sideT => first | (with_reducible exact HT.out) | (with_reducible exact Tb.step HT.out HB.out) | exact Tb.step HT.out (by repeat (first | (with_reducible first | exact HB.out | apply below_alloc | apply pw_below_drewN | apply below_drew1 | refine below_set ?_ GE489.out) | exact HB.out | exact Below.refl _ _))); rintro e w5 ⟨rfl, hb⟩; refine ⟨_, rfl, ?_⟩; replace BK489 := Aside0.mk (bb_ (bk_ BK489.out) hb); replace HB := Aside0.mk (below_step (lb1_ HB.out GE489.out) hb); (try clear hb); (try clear hb2); (try clear hk); (try clear hi)))
 go_ret
 exact ⟨rr_, lb1_ HB.out GE489.out⟩
def impl_light.f (l0_0 : List (S53)) (l0_1 : List Bool) (l0_2 : List Bool) (a0_3 : Int) (a0_4 : Int) : Option (ByteArray) := (impl_decimal.f a0_4).bind fun t492 => (some t492)
theorem impl_light.calls (A0_0 : Option Addr) (c0_0 : Nat) (l0_0 : List (S53)) (A0_1 : Option Addr) (c0_1 : Nat) (l0_1 : List Bool) (A0_2 : Option Addr) (c0_2 : Nat) (l0_2 : List Bool) (a0_3 : Int) (a0_4 : Int) (r : ByteArray) (w : World) (hr0_0 : Kd.C k53 w A0_0 l0_0.length l0_0) (hc0_0 : l0_0.length ≤ c0_0) (hr0_1 : Kd.C Kd.bool w A0_1 l0_1.length l0_1) (hc0_1 : l0_1.length ≤ c0_1) (hr0_2 : Kd.C Kd.bool w A0_2 l0_2.length l0_2) (hc0_2 : l0_2.length ≤ c0_2) (h : impl_light.f l0_0 l0_1 l0_2 a0_3 a0_4 = some r) (hT : Tb w) :
  Calls Tryd.prog 26 #[.agg #[.slice A0_0 l0_0.length c0_0, .slice A0_1 l0_1.length c0_1, .slice A0_2 l0_2.length c0_2, .int .i64 a0_3, .int .i64 a0_4]] w fun e w' => e = .returned (.string r) ∧ Below w.heap.size w w' := by
 have HT := Aside0.mk hT
 clear hT
 have hu34 := Tryd.underlying34
 have HR0_0 := Aside0.mk hr0_0
 have HC0_0 := Aside0.mk hc0_0
 clear hr0_0 hc0_0
 have HR0_1 := Aside0.mk hr0_1
 have HC0_1 := Aside0.mk hc0_1
 clear hr0_1 hc0_1
 have HR0_2 := Aside0.mk hr0_2
 have HC0_2 := Aside0.mk hc0_2
 clear hr0_2 hc0_2
 have HB := Aside0.mk (Below.refl w.heap.size w)
 have H : ((impl_decimal.f a0_4).bind fun t492 => (some t492)) = some r := h
 clear h
 replace H := Option.bind_eq_some_iff.mp H
 obtain ⟨t492, A20, H⟩ := H
 replace H : (some t492) = some r := H
 have A2 := Aside0.mk A20
 clear A20
 obtain rfl := Option.some.inj H
 go_enter Tryd.func26, Tryd.ntmps26
 go_wp2_with (first | ((with_reducible refine gate_dst (N := 1) rfl ?_); refine box_event ?hg (N := 1) ?hd (cs := #[.slice A0_0 l0_0.length c0_0, .slice A0_1 l0_1.length c0_1, .slice A0_2 l0_2.length c0_2, .int .i64 a0_3, .int .i64 a0_4]) (t := 34) ?hr ?_; (case hd => rfl); (case hg => rfl); (case hr => first | (go_simp; done) | (go_simp; rfl)); intro gb491 hg w3 hbox hb; have BK491 := Aside0.mk (hbox); have GW491 := Aside0.mk ((bz_ hg (lb0_ HB.out))); have GE491 := Aside0.mk ((bz_ hg (lb0_ HB.out))); replace HB := Aside0.mk (below_step (lb0_ HB.out) hb); clear hb hbox hg; obtain ⟨hcz4_0, hcz4_1, hcz4_2, hcz4_3, hcz4_4⟩ := cz5_ BK491.out; obtain ⟨hfz4_0, hfz4_1, hfz4_2, hfz4_3, hfz4_4⟩ := fz5_ BK491.out) | ((with_reducible refine gate_callee (f := 27) rfl ?_); refine ga_ (some 5) Tryd.func27 #[.int .i64 a0_4] ?_; (with_reducible refine (impl_decimal.calls a0_4 t492 _ A2.out ?sideT).mono ?_); (case sideT => first | (with_reducible exact HT.out) | (with_reducible exact Tb.step HT.out HB.out) | exact Tb.step HT.out (by repeat (first | (with_reducible first | exact HB.out | apply below_alloc | apply pw_below_drewN | apply below_drew1 | refine below_set ?_ GE491.out) | exact HB.out | exact Below.refl _ _))); rintro e w5 ⟨rfl, hb⟩; refine ⟨_, rfl, ?_⟩; replace BK491 := Aside0.mk (bb_ (bk_ BK491.out) hb); replace HB := Aside0.mk (below_step (lb1_ HB.out GE491.out) hb); (try clear hb); (try clear hb2); (try clear hk); (try clear hi)))
 go_ret
 exact ⟨rr_, lb1_ HB.out GE491.out⟩
end Go.Proofs.YtckigdechhmegaaDoor.Pr

namespace Go.Proofs.YtckigdechhmegaaDoor.Pr
open Go.RowKit Go.Proofs.YtckigdechhmegaaDoorW.PrintWords Go.Proofs.YtckigdechhmegaaDoorW.PrintLast Go.Proofs.YtckigdechhmegaaDoorW.PrintMore
attribute [local go_sem] max2_int min2_int max_two min_two max_three min_three max_four min_four sc_in sx_in   -- for this text's walks alone
set_option linter.unusedVariables false
set_option linter.unusedSimpArgs false
set_option maxRecDepth 100000 in
theorem bd_copy_used (b : Nat) (w : World) (h0 : w.cell? ⟨b, 0, none⟩ = some (.pointer (some ⟨b, 0, none⟩))) :
  Calls Tryd.prog 42 #[.pointer (some ⟨b, 0, none⟩)] w fun e w' => e = .returned (.tuple #[]) ∧ w' = w := by
 obtain ⟨j, hj, _⟩ := Option.map_eq_some_iff.1 (Tryd.Builder_Extra_169.sizeBuilder : (Tryd.prog.info? 58).map (·.size) = some 2)
 go_enter Tryd.func42, Tryd.ntmps42
 go_wp2
 rw [Lib.run_neq_ptr_same w _ Tryd.underlying55 hj]
 go_wp2
 go_end0
 exact ⟨rfl, rfl⟩
set_option maxRecDepth 100000 in
theorem bd_copy_fresh (b : Nat) (w : World) (h0 : w.cell? ⟨b, 0, none⟩ = some (.pointer none)) (hsh : w.shape? b = some (58, 2)) (hfz : w.frozen? ⟨b, 0, none⟩ = false) :
  Calls Tryd.prog 42 #[.pointer (some ⟨b, 0, none⟩)] w fun e w' => e = .returned (.tuple #[]) ∧ w' = w.setCell ⟨b, 0, none⟩ (.pointer (some ⟨b, 0, none⟩)) := by
 obtain ⟨j, hj, hjs⟩ := Option.map_eq_some_iff.1 (Tryd.Builder_Extra_169.sizeBuilder : (Tryd.prog.info? 58).map (·.size) = some 2)
 go_enter Tryd.func42, Tryd.ntmps42
 go_wp2
 rw [Lib.run_to_unsafe w ⟨b, 0, none⟩ Tryd.underlying55 Tryd.underlying92 hj (by rw [hjs]; decide) hsh (Nat.zero_lt_succ 1)]
 simp only [Result.andThen]
 rw [Oper.upon_value]
 go_wp2
 rw [run_callFunc_extern Tryd.func55 (by kernel_rfl) (by kernel_rfl) (by kernel_rfl) (e := Extern.AbiNoEscape.same) (by kernel_rfl)]
 rw [Lib.run_noEscape]
 simp only [Result.andThen]
 rw [Oper.upon_value]
 go_wp2
 rw [Lib.run_from_unsafe w ⟨b, 0, none⟩ Tryd.underlying92 Tryd.underlying55 hj hsh Tryd.Builder_Extra_169.liesBuilder]
 simp only [Result.andThen]
 rw [Oper.upon_value]
 go_wp2
 go_end0
 exact ⟨rfl, rfl⟩
theorem bd_copy (B b : Nat) (bs : List Value) (w : World) (h : Lib.IsBuilder 58 5 B b bs w) :
  Calls Tryd.prog 42 #[.pointer (some ⟨b, 0, none⟩)] w fun e w' => e = .returned (.tuple #[]) ∧ (Lib.BuilderAt 58 5 B b (.pointer (some ⟨b, 0, none⟩)) bs w' ∧ Below B w w') := by
 rcases h with h | h
 ·
  refine (bd_copy_fresh b w h.cell0 h.shape h.frozen0).mono ?_
  rintro e w' ⟨rfl, rfl⟩
  exact ⟨rfl, h.used _, (Below.refl B w).setCell (p := ⟨b, 0, none⟩) h.1 _⟩
 ·
  refine (bd_copy_used b w h.cell0).mono ?_
  rintro e w' ⟨rfl, rfl⟩
  exact ⟨rfl, h, Below.refl B _⟩
set_option maxHeartbeats 2000000 in
set_option maxRecDepth 100000 in
theorem bd_write (B b : Nat) (bs : List Value) (s : ByteArray) (w : World) (h : Lib.IsBuilder 58 5 B b bs w) (hlen : bs.length + s.size ≤ 140737488355328) (hBw : B ≤ w.heap.size) :
  Calls Tryd.prog 23 #[.pointer (some ⟨b, 0, none⟩), .string s] w fun e w' => e = .returned (.tuple #[.int .i64 s.size, .nilIface]) ∧ (Lib.BuilderAt 58 5 B b (.pointer (some ⟨b, 0, none⟩)) (bs ++ Lib.strCells s) w' ∧ Below B w w') := by
 obtain ⟨i0, hi, hz0, hz1, hz2⟩ := Go.info_parts Tryd.Builder_Extra_169.infoByte
 go_enter Tryd.func23, Tryd.ntmps23
 go_wp2_with (go_at_call 42; refine (bd_copy B b bs _ h).mono ?_)
 rintro e w1 ⟨rfl, h1, hb1⟩
 obtain ⟨hB, v, hbk, hown, hne⟩ := h1
 have c0 : w1.cell? ⟨b, 0, none⟩ = some (.pointer (some ⟨b, 0, none⟩)) := by rw [Lib.cell_of_heap hbk]; rfl
 have c1 : w1.cell? ⟨b, 1, none⟩ = some v := by rw [Lib.cell_of_heap hbk]; rfl
 go_wp2_with (at_builtin; refine Lib.wpList_append_own_string _ rfl _ _ 56 9 rfl B 5 i0 Tryd.underlying56 Tryd.underlying9 hi hz0 hz1 hz2 _ _ _ rfl hown s rfl ?c3 ?c4 ?c5 ?_)
 case c3 => unfold maxLen; omega
 case c4 => omega
 case c5 => have := hb1.size; omega
 intro v' w2 hown' hgrow _
 have hlt : b < w1.heap.size := by
  rcases Nat.lt_or_ge b w1.heap.size with h' | h'
  ·
   exact h'
  ·
   simp [Array.getElem?_eq_none h'] at hbk
 have hb2 : w2.heap[b]? = some (.cells #[.pointer (some ⟨b, 0, none⟩), v] 58 (0, 0)) := by
  rw [hgrow.block b hlt (fun e => hne e.symm)]
  exact hbk
 have d0 : w2.cell? ⟨b, 0, none⟩ = some (.pointer (some ⟨b, 0, none⟩)) := by rw [Lib.cell_of_heap hb2]; rfl
 have d1 : w2.cell? ⟨b, 1, none⟩ = some v := by rw [Lib.cell_of_heap hb2]; rfl
 have f1 : w2.frozen? ⟨b, 1, none⟩ = false := Lib.frozen_of_heap hb2 1
 obtain ⟨ao, n', cap, rfl⟩ : ∃ ao n' cap, v' = .slice ao n' cap := by
  rcases hown'.2 with ⟨hv, _⟩ | ⟨g, cap, cur, hv, _⟩
  ·
   exact ⟨_, _, _, hv⟩
  ·
   exact ⟨_, _, _, hv⟩
 go_wp2
 go_ret2
 refine ⟨rfl, ?_, ?_⟩
 ·
  exact Lib.BuilderAt.put (T := 58) (e := 5) hB hb2 (bs' := bs ++ Lib.strCells s) (by simpa [Lib.strCells_length] using hown') (by decide)
 ·
  exact (hb1.grown hgrow (by have := hb1.size; omega) (fun k hk => (hown.lt k hk).1)).setCell (p := ⟨b, 1, none⟩) hB _
theorem bd_below {B b : Nat} {p : Value} {bs : List Value} {w w1 : World} (h : Lib.BuilderAt 58 5 B b p bs w) (hb : Below w.heap.size w w1) : Lib.BuilderAt 58 5 B b p bs w1 := by
 have hlt := h.lt
 obtain ⟨hB, v, hbk, hown, hne⟩ := h
 refine ⟨hB, v, (hb.block b hlt).trans hbk, own_move hown (fun k hk => hb.block k (own_lt hown k hk)), hne⟩
def legsF_ : List S53 → List UInt8 → Option (List UInt8)
 | [], acc => some acc
 | x :: xs, acc => (impl_legText.f x.f0 x.f1 x.f2 x.f3 x.f4).bind fun s => if acc.length + (s.size + 1) ≤ 140737488355328 then legsF_ xs (acc ++ (sc s (⟨#[10]⟩ : ByteArray)).data.toList) else none
theorem strCells_bytes_ (l : List UInt8) (s : ByteArray) : Lib.byteCells l ++ Lib.strCells s = Lib.byteCells (l ++ s.data.toList) := by
 unfold Lib.byteCells Lib.strCells
 rw [List.map_append]
def stateF_ (ta tl td : ByteArray) : ByteArray := (sc (sc (sc (sc (sc (sc (⟨#[97, 116, 32]⟩ : ByteArray) ta) (⟨#[59, 32, 108, 105, 103, 104, 116, 32]⟩ : ByteArray)) tl) (⟨#[59, 32, 114, 101, 99, 111, 114, 100, 115, 32]⟩ : ByteArray)) td) (⟨#[10]⟩ : ByteArray))
theorem stateF_size_ (ta tl td : ByteArray) : (stateF_ ta tl td).size = ta.size + tl.size + td.size + 22 := by
 unfold stateF_ sc
 simp only [ByteArray.size_append]
 show 3 + ta.size + 8 + tl.size + 10 + td.size + 1 = _
 omega
def impl_FormatConsole.f (k : Nat) (l0_0 : List (S53)) (l0_1 : List Bool) (l0_2 : List Bool) (a0_3 : Int) (a0_4 : Int) (a0_5 : ByteArray) (a0_6 : ByteArray) (a0_7 : Int) : Option (ByteArray × Bool) :=
 (impl_IsValidConsole.f k l0_0 l0_1 l0_2 a0_3 a0_4 a0_5 a0_6 a0_7).bind fun t => if t = true then (legsF_ l0_0 []).bind fun r => (impl_at.f l0_0 l0_1 l0_2 a0_3 a0_4).bind fun ta => (impl_light.f l0_0 l0_1 l0_2 a0_3 a0_4).bind fun tl => (impl_decimal.f a0_7).bind fun td => if r.length + (ta.size + tl.size + td.size + 22) ≤ 140737488355328 then some (⟨(r ++ (stateF_ ta tl td).data.toList).toArray⟩, true) else none else some (⟨#[]⟩, false)
def impl_FormatConsole.B9 : List Nat := [0, 1, 3, 7, 15, 0, 32, 103, 255, 511, 0, 1024, 3072, 7399, 16383, 32767, 65535]
def impl_FormatConsole.T9 : Bool × List (List Nat × List Nat) := (true, [([], []), ([0], [0]), ([1], [1]), ([2], [2]), ([3], [3]), ([], []), ([5], [5]), ([6, 2], [6]), ([4, 7], [4, 7]), ([8], [8]), ([], []), ([10], [10]), ([11], [11]), ([12, 7], [12]), ([9, 13], [9, 13]), ([14], [14]), ([15, 13], [15])])
theorem impl_FormatConsole.tab9 : rtab .any (opsOf Tryd.f11 9) = impl_FormatConsole.T9 := by kernel_rfl
theorem impl_FormatConsole.bits9 : waitsOk impl_FormatConsole.T9.2 impl_FormatConsole.B9 = true := by kernel_rfl
abbrev impl_FormatConsole.mk0 : Array Bool := #[false, false, false, false, false, false, false, false, false, false, false, false, false, false, false, false, false]
abbrev impl_FormatConsole.mk1 : Array Bool := #[true, false, false, false, false, false, false, false, false, false, false, false, false, false, false, false, false]
abbrev impl_FormatConsole.mk2 : Array Bool := #[true, false, false, false, false, true, false, false, false, false, false, false, false, false, false, false, false]
abbrev impl_FormatConsole.mk3 : Array Bool := #[true, false, false, false, false, true, false, false, false, false, true, false, false, false, false, false, false]
abbrev impl_FormatConsole.mk4 : Array Bool := #[true, false, false, false, false, true, false, false, false, false, true, true, false, false, false, false, false]
abbrev impl_FormatConsole.mk5 : Array Bool := #[true, true, false, false, false, true, false, false, false, false, true, true, false, false, false, false, false]
abbrev impl_FormatConsole.mk6 : Array Bool := #[true, true, false, false, false, true, true, false, false, false, true, true, false, false, false, false, false]
abbrev impl_FormatConsole.mk7 : Array Bool := #[true, true, false, false, false, true, true, false, false, false, true, true, true, false, false, false, false]
abbrev impl_FormatConsole.mk8 : Array Bool := #[true, true, true, false, false, true, true, false, false, false, true, true, true, false, false, false, false]
abbrev impl_FormatConsole.mk9 : Array Bool := #[true, true, true, true, false, true, true, false, false, false, true, true, true, false, false, false, false]
abbrev impl_FormatConsole.mk10 : Array Bool := #[true, true, true, true, true, true, true, false, false, false, true, true, true, false, false, false, false]
abbrev impl_FormatConsole.mk11 : Array Bool := #[true, true, true, true, true, true, true, true, false, false, true, true, true, false, false, false, false]
abbrev impl_FormatConsole.mk12 : Array Bool := #[true, true, true, true, true, true, true, true, true, false, true, true, true, false, false, false, false]
abbrev impl_FormatConsole.mk13 : Array Bool := #[true, true, true, true, true, true, true, true, true, true, true, true, true, false, false, false, false]
abbrev impl_FormatConsole.mk14 : Array Bool := #[true, true, true, true, true, true, true, true, true, true, true, true, true, true, false, false, false]
abbrev impl_FormatConsole.mk15 : Array Bool := #[true, true, true, true, true, true, true, true, true, true, true, true, true, true, true, false, false]
abbrev impl_FormatConsole.mk16 : Array Bool := #[true, true, true, true, true, true, true, true, true, true, true, true, true, true, true, true, false]
abbrev impl_FormatConsole.mk17 : Array Bool := #[true, true, true, true, true, true, true, true, true, true, true, true, true, true, true, true, true]
theorem impl_FormatConsole.calls (k : Nat) (A0_0 : Option Addr) (c0_0 : Nat) (l0_0 : List (S53)) (A0_1 : Option Addr) (c0_1 : Nat) (l0_1 : List Bool) (A0_2 : Option Addr) (c0_2 : Nat) (l0_2 : List Bool) (a0_3 : Int) (a0_4 : Int) (a0_5 : ByteArray) (a0_6 : ByteArray) (a0_7 : Int) (r1 : ByteArray) (r2 : Bool) (w : World) (hr0_0 : Kd.C k53 w A0_0 l0_0.length l0_0) (hc0_0 : l0_0.length ≤ c0_0) (hr0_1 : Kd.C Kd.bool w A0_1 l0_1.length l0_1) (hc0_1 : l0_1.length ≤ c0_1) (hr0_2 : Kd.C Kd.bool w A0_2 l0_2.length l0_2) (hc0_2 : l0_2.length ≤ c0_2) (h : impl_FormatConsole.f k l0_0 l0_1 l0_2 a0_3 a0_4 a0_5 a0_6 a0_7 = some (r1, r2)) (hT : Tb w) :
  Calls Tryd.prog 11 #[.agg #[.slice A0_0 l0_0.length c0_0, .slice A0_1 l0_1.length c0_1, .slice A0_2 l0_2.length c0_2, .int .i64 a0_3, .int .i64 a0_4, .string a0_5, .string a0_6, .int .i64 a0_7]] w fun e w' => e = .returned (.tuple #[.string r1, .bool r2]) ∧ Below w.heap.size w w' := by
 unfold impl_FormatConsole.f at h
 have hu37 := Tryd.underlying37
 have hu34 := Tryd.underlying34
 have hu35 := Tryd.underlying35
 have hu53 := Tryd.underlying53
 obtain ⟨t, e1, h⟩ := Option.bind_eq_some_iff.mp h
 have hL : l0_0.length ≤ 9223372036854775807 := hr0_0.2.1
 have HR0_0 := Aside0.mk hr0_0
 have HC0_0 := Aside0.mk hc0_0
 have HR0_1 := Aside0.mk hr0_1
 have HC0_1 := Aside0.mk hc0_1
 have HR0_2 := Aside0.mk hr0_2
 have HC0_2 := Aside0.mk hc0_2
 have A2 := Aside0.mk e1
 have HT := Aside0.mk hT
 have HB := Aside0.mk (Below.refl w.heap.size w)
 clear hr0_0 hc0_0 hr0_1 hc0_1 hr0_2 hc0_2 e1 hT
 cases t with
 | false =>
  rw [if_neg (by decide)] at h
  simp only [Option.some.injEq, Prod.mk.injEq] at h
  obtain ⟨rfl, rfl⟩ := h
  go_enter Tryd.func11, Tryd.ntmps11
  go_wp2_with (first | ((with_reducible refine gate_dst (N := 1) rfl ?_); refine box_event ?hg (N := 1) ?hd (cs := #[.slice A0_0 l0_0.length c0_0, .slice A0_1 l0_1.length c0_1, .slice A0_2 l0_2.length c0_2, .int .i64 a0_3, .int .i64 a0_4, .string a0_5, .string a0_6, .int .i64 a0_7]) (t := 37) ?hr ?_; (case hd => rfl); (case hg => rfl); (case hr => first | (go_simp; done) | (go_simp; rfl)); intro gb hg w4 hbox hb; have BK := Aside0.mk (hbox); have GE := Aside0.mk ((bz_ hg (lb0_ HB.out))); replace HB := Aside0.mk (below_step (lb0_ HB.out) hb); clear hb hbox hg; obtain ⟨hcz0, hcz1, hcz2, hcz3, hcz4, hcz5, hcz6, hcz7⟩ := cz8_ BK.out; obtain ⟨hfz0, hfz1, hfz2, hfz3, hfz4, hfz5, hfz6, hfz7⟩ := fz8_ BK.out) | ((with_reducible refine gate_callee (f := 8) rfl ?_); refine ga_ (some 8) Tryd.func8 #[.agg #[.slice A0_0 l0_0.length c0_0, .slice A0_1 l0_1.length c0_1, .slice A0_2 l0_2.length c0_2, .int .i64 a0_3, .int .i64 a0_4, .string a0_5, .string a0_6, .int .i64 a0_7]] ?_; (with_reducible refine (impl_IsValidConsole.calls k _ _ l0_0 _ _ l0_1 _ _ l0_2 a0_3 a0_4 a0_5 a0_6 a0_7 false _ ?side1 ?side2 ?side3 ?side4 ?side5 ?side6 A2.out ?side7).mono ?_); (case side1 => exact kc_ (Kd.C_below HR0_0.out HB.out)); (case side2 => exact HC0_0.out); (case side3 => exact kc_ (Kd.C_below HR0_1.out HB.out)); (case side4 => exact HC0_1.out); (case side5 => exact kc_ (Kd.C_below HR0_2.out HB.out)); (case side6 => exact HC0_2.out); (case side7 => exact Tb.step HT.out HB.out); rintro e w6 ⟨rfl, hb⟩; refine ⟨_, rfl, ?_⟩; replace BK := Aside0.mk (bb_ (bk_ BK.out) hb); replace HB := Aside0.mk (below_step (lb1_ HB.out GE.out) hb); clear hb))
  go_ret2
  exact ⟨rr_, lb1_ HB.out GE.out⟩
 | true =>
  rw [if_pos rfl] at h
  obtain ⟨r, hr, h⟩ := Option.bind_eq_some_iff.mp h
  obtain ⟨ta, hta, h⟩ := Option.bind_eq_some_iff.mp h
  obtain ⟨tl, htl, h⟩ := Option.bind_eq_some_iff.mp h
  obtain ⟨td, htd, h⟩ := Option.bind_eq_some_iff.mp h
  have hz9 : r.length + (ta.size + tl.size + td.size + 22) ≤ 140737488355328 := by
   apply Decidable.byContradiction
   intro hn
   rw [if_neg hn] at h
   cases h
  rw [if_pos hz9] at h
  simp only [Option.some.injEq, Prod.mk.injEq] at h
  obtain ⟨rfl, rfl⟩ := h
  have HA0 := Aside0.mk hr
  have HTA := Aside0.mk hta
  have HTL := Aside0.mk htl
  have HTD := Aside0.mk htd
  have HZ9 := Aside0.mk hz9
  clear hr hta htl htd hz9
  go_enter Tryd.func11, Tryd.ntmps11
  go_wp2_with (first | ((with_reducible refine gate_dst (N := 1) rfl ?_); refine box_event ?hg (N := 1) ?hd (cs := #[.slice A0_0 l0_0.length c0_0, .slice A0_1 l0_1.length c0_1, .slice A0_2 l0_2.length c0_2, .int .i64 a0_3, .int .i64 a0_4, .string a0_5, .string a0_6, .int .i64 a0_7]) (t := 37) ?hr ?_; (case hd => rfl); (case hg => rfl); (case hr => first | (go_simp; done) | (go_simp; rfl)); intro gb hg w4 hbox hb; have BK := Aside0.mk (hbox); have GE := Aside0.mk ((bz_ hg (lb0_ HB.out))); replace HB := Aside0.mk (below_step (lb0_ HB.out) hb); clear hb hbox hg; obtain ⟨hcz0, hcz1, hcz2, hcz3, hcz4, hcz5, hcz6, hcz7⟩ := cz8_ BK.out; obtain ⟨hfz0, hfz1, hfz2, hfz3, hfz4, hfz5, hfz6, hfz7⟩ := fz8_ BK.out) | ((with_reducible refine gate_callee (f := 8) rfl ?_); refine ga_ (some 8) Tryd.func8 #[.agg #[.slice A0_0 l0_0.length c0_0, .slice A0_1 l0_1.length c0_1, .slice A0_2 l0_2.length c0_2, .int .i64 a0_3, .int .i64 a0_4, .string a0_5, .string a0_6, .int .i64 a0_7]] ?_; (with_reducible refine (impl_IsValidConsole.calls k _ _ l0_0 _ _ l0_1 _ _ l0_2 a0_3 a0_4 a0_5 a0_6 a0_7 true _ ?side1 ?side2 ?side3 ?side4 ?side5 ?side6 A2.out ?side7).mono ?_); (case side1 => exact kc_ (Kd.C_below HR0_0.out HB.out)); (case side2 => exact HC0_0.out); (case side3 => exact kc_ (Kd.C_below HR0_1.out HB.out)); (case side4 => exact HC0_1.out); (case side5 => exact kc_ (Kd.C_below HR0_2.out HB.out)); (case side6 => exact HC0_2.out); (case side7 => exact Tb.step HT.out HB.out); rintro e w6 ⟨rfl, hb⟩; refine ⟨_, rfl, ?_⟩; replace BK := Aside0.mk (bb_ (bk_ BK.out) hb); replace HB := Aside0.mk (below_step (lb1_ HB.out GE.out) hb); clear hb; obtain ⟨hcz0, hcz1, hcz2, hcz3, hcz4, hcz5, hcz6, hcz7⟩ := cz8_ (blk_alloc BK.out (.cells #[.pointer none, .slice none 0 0] 58 (0, 0))); obtain ⟨hfz0, hfz1, hfz2, hfz3, hfz4, hfz5, hfz6, hfz7⟩ := fz8_ (blk_alloc BK.out (.cells #[.pointer none, .slice none 0 0] 58 (0, 0)))))
  have GB : Aside0 (gb < w6.heap.size) := ⟨by have := BK.out; exact (Array.getElem?_eq_some_iff.1 this).1⟩
  clear hcz0 hcz1 hcz2 hcz3 hcz4 hcz5 hcz6 hcz7 hfz0 hfz1 hfz2 hfz3 hfz4 hfz5 hfz6 hfz7
  go_loopg [14] l0_0.length (fun gg v14 wr => ∃ (kk : Nat) (acc : List UInt8), kk ≤ l0_0.length ∧ l0_0.length - kk ≤ gg ∧ v14 = .int .i64 kk ∧ Aside0 (legsF_ (l0_0.drop kk) acc = some r) ∧ Aside0 (Lib.IsBuilder 58 5 w6.heap.size w6.heap.size (Lib.byteCells acc) wr) ∧ Aside0 (Below w6.heap.size w6 wr))
  case atStart =>
   refine ⟨0, [], Nat.zero_le _, by omega, rfl, HA0, ⟨.inl ⟨Nat.le_refl _, .slice none 0 0, heap_new_ w6 _ 58, ⟨rfl, .inl ⟨rfl, rfl⟩⟩, by simp [Value.ownBlock]⟩⟩, ⟨below_alloc (Below.refl _ _) _⟩⟩
  case round =>
   obtain ⟨kk, acc, hkk, hg, rfl, HA, IB, BW⟩ := hrel
   have BT := Aside0.mk (below_step HB.out BW.out)
   by_cases hlt : kk < l0_0.length
   ·
    have hltz : (kk : Int) < (l0_0.length : Int) := by omega
    have hk0 : (0 : Int) ≤ (kk : Int) := by omega
    have hA := HA.out
    rw [List.drop_eq_getElem_cons hlt] at hA
    have ex : rd_T53 l0_0 (kk : Int) = l0_0[kk] := by
     show l0_0.getD (kk : Int).toNat _ = _
     rw [Int.toNat_natCast, List.getD_eq_getElem?_getD, List.getElem?_eq_getElem hlt]
     rfl
    rw [← ex] at hA
    unfold legsF_ at hA
    obtain ⟨s, hs, hA⟩ := Option.bind_eq_some_iff.mp hA
    by_cases hz : acc.length + (s.size + 1) ≤ 140737488355328
    ·
     rw [if_pos hz] at hA
     obtain ⟨ad, e0, hx0, hx1, hx2, hx3, hx4⟩ := at_T53 HR0_0.out (kk : Int) hk0 hltz
     replace hx0 := (BT.out.cell (World.block_lt_of_cell? w _ hx0)).trans hx0
     replace hx1 := (BT.out.cell (World.block_lt_of_cell? w _ hx1)).trans hx1
     replace hx2 := (BT.out.cell (World.block_lt_of_cell? w _ hx2)).trans hx2
     replace hx3 := (BT.out.cell (World.block_lt_of_cell? w _ hx3)).trans hx3
     replace hx4 := (BT.out.cell (World.block_lt_of_cell? w _ hx4)).trans hx4
     have HS := Aside0.mk hs
     have HA' := Aside0.mk hA
     have HZ := Aside0.mk hz
     have HG := Aside0.mk hg
     clear HA hs hA hz ex hg
     generalize rd_T53 l0_0 (kk : Int) = y at hx0 hx1 hx2 hx3 hx4 HS
     subst e0
     rw [Int.toNat_natCast] at hx0 hx1 hx2 hx3 hx4
     have hz2 : s.size + 1 ≤ 9223372036854775807 := by have := HZ.out; omega
     go_wp2_with (first | (go_at_call 24; refine (impl_legText.calls y.f0 y.f1 y.f2 y.f3 y.f4 s _ HS.out (Tb.step HT.out (below_alloc BT.out _))).mono ?_; rintro e w2 ⟨rfl, hb2⟩; have HW := Aside0.mk (below_step (below_alloc (Below.refl wr.heap.size wr) _) hb2); have HW0 := Aside0.mk (below_step (below_alloc BW.out _) hb2); clear hb2) | (go_at_call 23; refine (bd_write w6.heap.size w6.heap.size (Lib.byteCells acc) (sc s (⟨#[10]⟩ : ByteArray)) _ (IB.out.elim (fun x => .inl (bd_below x HW.out)) (fun x => .inr (bd_below x HW.out))) ?hl (below_size HW0.out)).mono ?_; (case hl => (rw [Lib.byteCells_length]; unfold sc; rw [ByteArray.size_append]; exact HZ.out)); rintro e w3 ⟨rfl, hw3, hb3⟩))
     go_roundg (l0_0.length - (kk + 1))
     case measure => have := HG.out; omega
     case rel =>
      refine ⟨kk + 1, acc ++ (sc s (⟨#[10]⟩ : ByteArray)).data.toList, by omega, by omega, by go_num, HA', ⟨.inr ?_⟩, ⟨HW0.out.trans hb3⟩⟩
      rw [← strCells_bytes_]
      exact hw3
    ·
     rw [if_neg hz] at hA
     cases hA
   ·
    have hltz : ¬ (kk : Int) < (l0_0.length : Int) := by omega
    have hA := HA.out
    rw [List.drop_of_length_le (by omega)] at hA
    simp only [legsF_, Option.some.injEq] at hA
    subst hA
    clear HA HA0
    have q0 : 3 + ta.size ≤ 9223372036854775807 := by
     have := HZ9.out
     (try unfold sc)
     (try simp only [ByteArray.size_append])
     have z3 : (⟨#[97, 116, 32]⟩ : ByteArray).size = 3 := rfl
     have z8 : (⟨#[59, 32, 108, 105, 103, 104, 116, 32]⟩ : ByteArray).size = 8 := rfl
     have z10 : (⟨#[59, 32, 114, 101, 99, 111, 114, 100, 115, 32]⟩ : ByteArray).size = 10 := rfl
     omega
    have q1 : (sc (⟨#[97, 116, 32]⟩ : ByteArray) ta).size + 8 ≤ 9223372036854775807 := by
     have := HZ9.out
     (try unfold sc)
     (try simp only [ByteArray.size_append])
     have z3 : (⟨#[97, 116, 32]⟩ : ByteArray).size = 3 := rfl
     have z8 : (⟨#[59, 32, 108, 105, 103, 104, 116, 32]⟩ : ByteArray).size = 8 := rfl
     have z10 : (⟨#[59, 32, 114, 101, 99, 111, 114, 100, 115, 32]⟩ : ByteArray).size = 10 := rfl
     omega
    have q2 : (sc (sc (⟨#[97, 116, 32]⟩ : ByteArray) ta) (⟨#[59, 32, 108, 105, 103, 104, 116, 32]⟩ : ByteArray)).size + tl.size ≤ 9223372036854775807 := by
     have := HZ9.out
     (try unfold sc)
     (try simp only [ByteArray.size_append])
     have z3 : (⟨#[97, 116, 32]⟩ : ByteArray).size = 3 := rfl
     have z8 : (⟨#[59, 32, 108, 105, 103, 104, 116, 32]⟩ : ByteArray).size = 8 := rfl
     have z10 : (⟨#[59, 32, 114, 101, 99, 111, 114, 100, 115, 32]⟩ : ByteArray).size = 10 := rfl
     omega
    have q3 : (sc (sc (sc (⟨#[97, 116, 32]⟩ : ByteArray) ta) (⟨#[59, 32, 108, 105, 103, 104, 116, 32]⟩ : ByteArray)) tl).size + 10 ≤ 9223372036854775807 := by
     have := HZ9.out
     (try unfold sc)
     (try simp only [ByteArray.size_append])
     have z3 : (⟨#[97, 116, 32]⟩ : ByteArray).size = 3 := rfl
     have z8 : (⟨#[59, 32, 108, 105, 103, 104, 116, 32]⟩ : ByteArray).size = 8 := rfl
     have z10 : (⟨#[59, 32, 114, 101, 99, 111, 114, 100, 115, 32]⟩ : ByteArray).size = 10 := rfl
     omega
    have q4 : (sc (sc (sc (sc (⟨#[97, 116, 32]⟩ : ByteArray) ta) (⟨#[59, 32, 108, 105, 103, 104, 116, 32]⟩ : ByteArray)) tl) (⟨#[59, 32, 114, 101, 99, 111, 114, 100, 115, 32]⟩ : ByteArray)).size + td.size ≤ 9223372036854775807 := by
     have := HZ9.out
     (try unfold sc)
     (try simp only [ByteArray.size_append])
     have z3 : (⟨#[97, 116, 32]⟩ : ByteArray).size = 3 := rfl
     have z8 : (⟨#[59, 32, 108, 105, 103, 104, 116, 32]⟩ : ByteArray).size = 8 := rfl
     have z10 : (⟨#[59, 32, 114, 101, 99, 111, 114, 100, 115, 32]⟩ : ByteArray).size = 10 := rfl
     omega
    have q5 : (sc (sc (sc (sc (sc (⟨#[97, 116, 32]⟩ : ByteArray) ta) (⟨#[59, 32, 108, 105, 103, 104, 116, 32]⟩ : ByteArray)) tl) (⟨#[59, 32, 114, 101, 99, 111, 114, 100, 115, 32]⟩ : ByteArray)) td).size + 1 ≤ 9223372036854775807 := by
     have := HZ9.out
     (try unfold sc)
     (try simp only [ByteArray.size_append])
     have z3 : (⟨#[97, 116, 32]⟩ : ByteArray).size = 3 := rfl
     have z8 : (⟨#[59, 32, 108, 105, 103, 104, 116, 32]⟩ : ByteArray).size = 8 := rfl
     have z10 : (⟨#[59, 32, 114, 101, 99, 111, 114, 100, 115, 32]⟩ : ByteArray).size = 10 := rfl
     omega
    have q0b0 := eq_true q0
    have q0b1 : decide (3 + ta.size ≤ 9223372036854775807) = true := decide_eq_true q0
    have q0b2 : (9223372036854775807 < 3 + ta.size) = False := eq_false (Nat.not_lt.2 q0)
    have q1b0 := eq_true q1
    have q1b1 : decide ((sc (⟨#[97, 116, 32]⟩ : ByteArray) ta).size + 8 ≤ 9223372036854775807) = true := decide_eq_true q1
    have q1b2 : (9223372036854775807 < (sc (⟨#[97, 116, 32]⟩ : ByteArray) ta).size + 8) = False := eq_false (Nat.not_lt.2 q1)
    have q2b0 := eq_true q2
    have q2b1 : decide ((sc (sc (⟨#[97, 116, 32]⟩ : ByteArray) ta) (⟨#[59, 32, 108, 105, 103, 104, 116, 32]⟩ : ByteArray)).size + tl.size ≤ 9223372036854775807) = true := decide_eq_true q2
    have q2b2 : (9223372036854775807 < (sc (sc (⟨#[97, 116, 32]⟩ : ByteArray) ta) (⟨#[59, 32, 108, 105, 103, 104, 116, 32]⟩ : ByteArray)).size + tl.size) = False := eq_false (Nat.not_lt.2 q2)
    have q3b0 := eq_true q3
    have q3b1 : decide ((sc (sc (sc (⟨#[97, 116, 32]⟩ : ByteArray) ta) (⟨#[59, 32, 108, 105, 103, 104, 116, 32]⟩ : ByteArray)) tl).size + 10 ≤ 9223372036854775807) = true := decide_eq_true q3
    have q3b2 : (9223372036854775807 < (sc (sc (sc (⟨#[97, 116, 32]⟩ : ByteArray) ta) (⟨#[59, 32, 108, 105, 103, 104, 116, 32]⟩ : ByteArray)) tl).size + 10) = False := eq_false (Nat.not_lt.2 q3)
    have q4b0 := eq_true q4
    have q4b1 : decide ((sc (sc (sc (sc (⟨#[97, 116, 32]⟩ : ByteArray) ta) (⟨#[59, 32, 108, 105, 103, 104, 116, 32]⟩ : ByteArray)) tl) (⟨#[59, 32, 114, 101, 99, 111, 114, 100, 115, 32]⟩ : ByteArray)).size + td.size ≤ 9223372036854775807) = true := decide_eq_true q4
    have q4b2 : (9223372036854775807 < (sc (sc (sc (sc (⟨#[97, 116, 32]⟩ : ByteArray) ta) (⟨#[59, 32, 108, 105, 103, 104, 116, 32]⟩ : ByteArray)) tl) (⟨#[59, 32, 114, 101, 99, 111, 114, 100, 115, 32]⟩ : ByteArray)).size + td.size) = False := eq_false (Nat.not_lt.2 q4)
    have q5b0 := eq_true q5
    have q5b1 : decide ((sc (sc (sc (sc (sc (⟨#[97, 116, 32]⟩ : ByteArray) ta) (⟨#[59, 32, 108, 105, 103, 104, 116, 32]⟩ : ByteArray)) tl) (⟨#[59, 32, 114, 101, 99, 111, 114, 100, 115, 32]⟩ : ByteArray)) td).size + 1 ≤ 9223372036854775807) = true := decide_eq_true q5
    have q5b2 : (9223372036854775807 < (sc (sc (sc (sc (sc (⟨#[97, 116, 32]⟩ : ByteArray) ta) (⟨#[59, 32, 108, 105, 103, 104, 116, 32]⟩ : ByteArray)) tl) (⟨#[59, 32, 114, 101, 99, 111, 114, 100, 115, 32]⟩ : ByteArray)) td).size + 1) = False := eq_false (Nat.not_lt.2 q5)
    try go_wp2
    replace BK := Aside0.mk (blk_drew (blk_below BK.out BW.out))
    have ID := Aside0.mk (IB.out.elim (fun x => Or.inl (bd_below x (below_drew1 (Below.refl wr.heap.size wr)))) (fun x => Or.inr (bd_below x (below_drew1 (Below.refl wr.heap.size wr)))) : Lib.IsBuilder 58 5 w6.heap.size w6.heap.size (Lib.byteCells acc) wr.drew)
    clear IB
    replace BW := Aside0.mk (below_drew1 BW.out)
    replace BT := Aside0.mk (below_drew1 BT.out)
    refine start_ (n := 17) (S := fun w' => w'.cell? ⟨gb, 0, none⟩ = some (.slice A0_0 l0_0.length c0_0) ∧ w'.cell? ⟨gb, 1, none⟩ = some (.slice A0_1 l0_1.length c0_1) ∧ w'.cell? ⟨gb, 2, none⟩ = some (.slice A0_2 l0_2.length c0_2) ∧ w'.cell? ⟨gb, 3, none⟩ = some (.int .i64 a0_3) ∧ w'.cell? ⟨gb, 4, none⟩ = some (.int .i64 a0_4) ∧ w'.cell? ⟨gb, 5, none⟩ = some (.string a0_5) ∧ w'.cell? ⟨gb, 6, none⟩ = some (.string a0_6) ∧ w'.cell? ⟨gb, 7, none⟩ = some (.int .i64 a0_7)) (ds := []) impl_FormatConsole.mk0 (by kernel_rfl) rfl rfl ⟨(blk_cell BK.out 0).trans rfl, (blk_cell BK.out 1).trans rfl, (blk_cell BK.out 2).trans rfl, (blk_cell BK.out 3).trans rfl, (blk_cell BK.out 4).trans rfl, (blk_cell BK.out 5).trans rfl, (blk_cell BK.out 6).trans rfl, (blk_cell BK.out 7).trans rfl⟩ (fun hHeld => ?_); refine with_tabW impl_FormatConsole.tab9 impl_FormatConsole.bits9 (fun HT_ HW_ => ?_)
    generalize wr.drew = w7 at BK ID BW BT hHeld ⊢
    refine pz_ HT_ 0 (some 23) impl_FormatConsole.mk1 ?_
    refine pz_ HT_ 5 (some 28) impl_FormatConsole.mk2 ?_
    refine pz_ HT_ 10 (some 33) impl_FormatConsole.mk3 ?_
    refine pz_ HT_ 11 (some 34) impl_FormatConsole.mk4 ?_
    refine take_ (i := 1) (N := some 24) (v := ?_) (a' := ?_) impl_FormatConsole.mk5 rfl rfl (take_ofW HT_.out HW_.out (by kernel_rfl)) (fun _ _ _ h => h) (Or.inl ⟨by rfl, ?_⟩) hHeld ?_ ?_
    rotate_left
    ·
     rintro w' ⟨s0, s1, s2, s3, s4, s5, s6, s7⟩
     go_simp
     with_reducible rfl
    rotate_left
    ·
     simp only [Act.put, List.setIfInBounds_toArray, List.set_cons_zero, List.set_cons_succ, i64_w, i32_w]
     rfl
    refine take_ (i := 6) (N := some 29) (v := ?_) (a' := ?_) impl_FormatConsole.mk6 rfl rfl (take_ofW HT_.out HW_.out (by kernel_rfl)) (fun _ _ _ h => h) (Or.inl ⟨by rfl, ?_⟩) hHeld ?_ ?_
    rotate_left
    ·
     rintro w' ⟨s0, s1, s2, s3, s4, s5, s6, s7⟩
     go_simp
     with_reducible rfl
    rotate_left
    ·
     simp only [Act.put, List.setIfInBounds_toArray, List.set_cons_zero, List.set_cons_succ, i64_w, i32_w]
     rfl
    refine take_ (i := 12) (N := some 35) (v := ?_) (a' := ?_) impl_FormatConsole.mk7 rfl rfl (take_ofW HT_.out HW_.out (by kernel_rfl)) (fun _ _ _ h => h) (Or.inl ⟨by rfl, ?_⟩) hHeld ?_ ?_
    rotate_left
    ·
     rintro w' ⟨s0, s1, s2, s3, s4, s5, s6, s7⟩
     go_simp
     with_reducible rfl
    rotate_left
    ·
     simp only [Act.put, List.setIfInBounds_toArray, List.set_cons_zero, List.set_cons_succ, i64_w, i32_w]
     rfl
    refine one_ (i := 2) (N := some 25) impl_FormatConsole.mk8 rfl rfl (one_of HT_.out (by kernel_rfl)) (by decide) (fun K hK => ?_)
    refine gs_ Tryd.func25 #[.agg #[.slice A0_0 l0_0.length c0_0, .slice A0_1 l0_1.length c0_1, .slice A0_2 l0_2.length c0_2, .int .i64 a0_3, .int .i64 a0_4]] ?_
    refine (impl_at.calls _ _ l0_0 _ _ l0_1 _ _ l0_2 a0_3 a0_4 ta _ (Kd.C_below HR0_0.out BT.out) HC0_0.out (Kd.C_below HR0_1.out BT.out) HC0_1.out (Kd.C_below HR0_2.out BT.out) HC0_2.out HTA.out (Tb.step HT.out BT.out)).mono ?_
    rintro e w8 ⟨rfl, hb⟩
    refine ⟨_, rfl, ?_⟩
    replace BK := Aside0.mk (bb_ BK.out hb)
    replace ID := Aside0.mk (ID.out.elim (fun x => Or.inl (bd_below x hb)) (fun x => Or.inr (bd_below x hb)) : Lib.IsBuilder 58 5 w6.heap.size w6.heap.size (Lib.byteCells acc) w8)
    replace BW := Aside0.mk (below_step BW.out hb)
    replace BT := Aside0.mk (below_step BT.out hb)
    clear hb
    refine hK.out _ _ ⟨(blk_cell BK.out 0).trans rfl, (blk_cell BK.out 1).trans rfl, (blk_cell BK.out 2).trans rfl, (blk_cell BK.out 3).trans rfl, (blk_cell BK.out 4).trans rfl, (blk_cell BK.out 5).trans rfl, (blk_cell BK.out 6).trans rfl, (blk_cell BK.out 7).trans rfl⟩ (fun hHeld => ?_)
    clear hK K
    refine na_ ?_
    refine pz_ HT_ 3 (some 26) impl_FormatConsole.mk9 ?_
    refine pz_ HT_ 4 (some 27) impl_FormatConsole.mk10 ?_
    refine one_ (i := 7) (N := some 30) impl_FormatConsole.mk11 rfl rfl (one_of HT_.out (by kernel_rfl)) (by decide) (fun K hK => ?_)
    refine gs_ Tryd.func26 #[.agg #[.slice A0_0 l0_0.length c0_0, .slice A0_1 l0_1.length c0_1, .slice A0_2 l0_2.length c0_2, .int .i64 a0_3, .int .i64 a0_4]] ?_
    refine (impl_light.calls _ _ l0_0 _ _ l0_1 _ _ l0_2 a0_3 a0_4 tl _ (Kd.C_below HR0_0.out BT.out) HC0_0.out (Kd.C_below HR0_1.out BT.out) HC0_1.out (Kd.C_below HR0_2.out BT.out) HC0_2.out HTL.out (Tb.step HT.out BT.out)).mono ?_
    rintro e w9 ⟨rfl, hb⟩
    refine ⟨_, rfl, ?_⟩
    replace BK := Aside0.mk (bb_ BK.out hb)
    replace ID := Aside0.mk (ID.out.elim (fun x => Or.inl (bd_below x hb)) (fun x => Or.inr (bd_below x hb)) : Lib.IsBuilder 58 5 w6.heap.size w6.heap.size (Lib.byteCells acc) w9)
    replace BW := Aside0.mk (below_step BW.out hb)
    replace BT := Aside0.mk (below_step BT.out hb)
    clear hb
    refine hK.out _ _ ⟨(blk_cell BK.out 0).trans rfl, (blk_cell BK.out 1).trans rfl, (blk_cell BK.out 2).trans rfl, (blk_cell BK.out 3).trans rfl, (blk_cell BK.out 4).trans rfl, (blk_cell BK.out 5).trans rfl, (blk_cell BK.out 6).trans rfl, (blk_cell BK.out 7).trans rfl⟩ (fun hHeld => ?_)
    clear hK K
    refine na_ ?_
    refine pz_ HT_ 8 (some 31) impl_FormatConsole.mk12 ?_
    refine pz_ HT_ 9 (some 32) impl_FormatConsole.mk13 ?_
    refine one_ (i := 13) (N := some 36) impl_FormatConsole.mk14 rfl rfl (one_of HT_.out (by kernel_rfl)) (by decide) (fun K hK => ?_)
    refine gs_ Tryd.func27 #[.int .i64 a0_7] ?_
    refine (impl_decimal.calls a0_7 td _ HTD.out (Tb.step HT.out BT.out)).mono ?_
    rintro e w10 ⟨rfl, hb⟩
    refine ⟨_, rfl, ?_⟩
    replace BK := Aside0.mk (bb_ BK.out hb)
    replace ID := Aside0.mk (ID.out.elim (fun x => Or.inl (bd_below x hb)) (fun x => Or.inr (bd_below x hb)) : Lib.IsBuilder 58 5 w6.heap.size w6.heap.size (Lib.byteCells acc) w10)
    replace BW := Aside0.mk (below_step BW.out hb)
    replace BT := Aside0.mk (below_step BT.out hb)
    clear hb
    refine hK.out _ _ ⟨(blk_cell BK.out 0).trans rfl, (blk_cell BK.out 1).trans rfl, (blk_cell BK.out 2).trans rfl, (blk_cell BK.out 3).trans rfl, (blk_cell BK.out 4).trans rfl, (blk_cell BK.out 5).trans rfl, (blk_cell BK.out 6).trans rfl, (blk_cell BK.out 7).trans rfl⟩ (fun hHeld => ?_)
    clear hK K
    refine na_ ?_
    refine pz_ HT_ 14 (some 37) impl_FormatConsole.mk15 ?_
    refine pz_ HT_ 15 (some 38) impl_FormatConsole.mk16 ?_
    refine one_ (i := 16) (N := some 39) impl_FormatConsole.mk17 rfl rfl (one_of HT_.out (by kernel_rfl)) (by decide) (fun K hK => ?_)
    refine gs_ Tryd.func23 #[.pointer (some ⟨w6.heap.size, 0, none⟩), .string (sc (sc (sc (sc (sc (sc (⟨#[97, 116, 32]⟩ : ByteArray) ta) (⟨#[59, 32, 108, 105, 103, 104, 116, 32]⟩ : ByteArray)) tl) (⟨#[59, 32, 114, 101, 99, 111, 114, 100, 115, 32]⟩ : ByteArray)) td) (⟨#[10]⟩ : ByteArray))] ?_
    refine (bd_write w6.heap.size w6.heap.size (Lib.byteCells acc) (sc (sc (sc (sc (sc (sc (⟨#[97, 116, 32]⟩ : ByteArray) ta) (⟨#[59, 32, 108, 105, 103, 104, 116, 32]⟩ : ByteArray)) tl) (⟨#[59, 32, 114, 101, 99, 111, 114, 100, 115, 32]⟩ : ByteArray)) td) (⟨#[10]⟩ : ByteArray)) _ ID.out ?hl (below_size BW.out)).mono ?_
    case hl =>
     rw [Lib.byteCells_length]
     have := HZ9.out
     have := stateF_size_ ta tl td
     unfold stateF_ at this
     omega
    rintro e w11 ⟨rfl, hw3, hb⟩
    refine ⟨_, rfl, ?_⟩
    replace BK := Aside0.mk ((hb.block gb (GB.out)).trans BK.out)
    replace BW := Aside0.mk (BW.out.trans hb)
    clear hb
    refine hK.out _ _ ⟨(blk_cell BK.out 0).trans rfl, (blk_cell BK.out 1).trans rfl, (blk_cell BK.out 2).trans rfl, (blk_cell BK.out 3).trans rfl, (blk_cell BK.out 4).trans rfl, (blk_cell BK.out 5).trans rfl, (blk_cell BK.out 6).trans rfl, (blk_cell BK.out 7).trans rfl⟩ (fun hHeld => ?_)
    clear hK K
    refine na_ ?_
    refine done_ (done_of HT_.out (by kernel_rfl)) ?_
    rw [strCells_bytes_] at hw3
    go_wp2_with (go_at_call 28; refine (Tryd.Builder_String_any w6.heap.size w6.heap.size (acc ++ (sc (sc (sc (sc (sc (sc (⟨#[97, 116, 32]⟩ : ByteArray) ta) (⟨#[59, 32, 108, 105, 103, 104, 116, 32]⟩ : ByteArray)) tl) (⟨#[59, 32, 114, 101, 99, 111, 114, 100, 115, 32]⟩ : ByteArray)) td) (⟨#[10]⟩ : ByteArray)).data.toList) _ (.inr hw3) (below_size BW.out)).mono ?_; rintro e w19 ⟨rfl, hb9⟩)
    go_ret2
    exact ⟨rfl, below_step HB.out (BW.out.trans hb9)⟩
end Go.Proofs.YtckigdechhmegaaDoor.Pr

namespace Go.Proofs.YtckigdechhmegaaDoor.Pr
open Go.RowKit Go.Proofs.YtckigdechhmegaaDoorW.PrintWords Go.Proofs.YtckigdechhmegaaDoorW.PrintLast Go.Proofs.YtckigdechhmegaaDoorW.PrintMore
attribute [local go_sem] max2_int min2_int max_two min_two max_three min_three max_four min_four   -- for this text's walks alone
set_option linter.unusedVariables false
set_option linter.unusedSimpArgs false
def laws_FnExactFormatConsole.j0 : Nat → Bool → List (S84) → List Bool → List Bool → Int → Int → ByteArray → ByteArray → Int → List (S53) → List Bool → List Bool → Int → Int → ByteArray → ByteArray → Int → Option (Bool)
 | 0, _, _, _, _, _, _, _, _, _, _, _, _, _, _, _, _, _ => none
 | k + 1, x34, x494000, x494001, x494002, x494003, x494004, x494005, x494006, x494007, x526000, x526001, x526002, x526003, x526004, x526005, x526006, x526007 => if x34 = true then (none) else ((laws_toConsole.f k x494000 x494001 x494002 x494003 x494004 x494005 x494006 x494007).bind fun bt528 => ((laws_eqConsole.f k x526000 x526001 x526002 x526003 x526004 x526005 x526006 x526007 bt528.1 bt528.2.1 bt528.2.2.1 bt528.2.2.2.1 bt528.2.2.2.2.1 bt528.2.2.2.2.2.1 bt528.2.2.2.2.2.2.1 bt528.2.2.2.2.2.2.2).bind fun t542 => (if t542 = true then (some true) else (none))))
def laws_FnExactFormatConsole.f (k : Nat) (l0_0 : List (S84)) (l0_1 : List Bool) (l0_2 : List Bool) (a0_3 : Int) (a0_4 : Int) (a0_5 : ByteArray) (a0_6 : ByteArray) (a0_7 : Int) : Option (Bool) := (laws_szConsole.f l0_0 l0_1 l0_2 a0_3 a0_4 a0_5 a0_6 a0_7 1048576).bind fun t494 => (if t494 < 0 then (some true) else ((laws_toConsole.f k l0_0 l0_1 l0_2 a0_3 a0_4 a0_5 a0_6 a0_7).bind fun bt495 => ((spec_FormatConsole.f k bt495.1 bt495.2.1 bt495.2.2.1 bt495.2.2.2.1 bt495.2.2.2.2.1 bt495.2.2.2.2.2.1 bt495.2.2.2.2.2.2.1 bt495.2.2.2.2.2.2.2).bind fun bt509 => ((laws_toConsole.f k l0_0 l0_1 l0_2 a0_3 a0_4 a0_5 a0_6 a0_7).bind fun bt511 => ((impl_FormatConsole.f k bt511.1 bt511.2.1 bt511.2.2.1 bt511.2.2.2.1 bt511.2.2.2.2.1 bt511.2.2.2.2.2.1 bt511.2.2.2.2.2.2.1 bt511.2.2.2.2.2.2.2).bind fun bt526 => (if bt526.1.toList = bt509.1.toList then (laws_FnExactFormatConsole.j0 k (bt526.2 != bt509.2) l0_0 l0_1 l0_2 a0_3 a0_4 a0_5 a0_6 a0_7 bt511.1 bt511.2.1 bt511.2.2.1 bt511.2.2.2.1 bt511.2.2.2.2.1 bt511.2.2.2.2.2.1 bt511.2.2.2.2.2.2.1 bt511.2.2.2.2.2.2.2) else (laws_FnExactFormatConsole.j0 k true l0_0 l0_1 l0_2 a0_3 a0_4 a0_5 a0_6 a0_7 bt511.1 bt511.2.1 bt511.2.2.1 bt511.2.2.2.1 bt511.2.2.2.2.1 bt511.2.2.2.2.2.1 bt511.2.2.2.2.2.2.1 bt511.2.2.2.2.2.2.2)))))))
set_option maxHeartbeats 64000000 in
set_option maxRecDepth 100000 in
theorem laws_FnExactFormatConsole.calls (k : Nat) (A0_0 : Option Addr) (c0_0 : Nat) (l0_0 : List (S84)) (A0_1 : Option Addr) (c0_1 : Nat) (l0_1 : List Bool) (A0_2 : Option Addr) (c0_2 : Nat) (l0_2 : List Bool) (a0_3 : Int) (a0_4 : Int) (a0_5 : ByteArray) (a0_6 : ByteArray) (a0_7 : Int) (r : Bool) (w : World) (hr0_0 : Kd.C k84 w A0_0 l0_0.length l0_0) (hc0_0 : l0_0.length ≤ c0_0) (hr0_1 : Kd.C Kd.bool w A0_1 l0_1.length l0_1) (hc0_1 : l0_1.length ≤ c0_1) (hr0_2 : Kd.C Kd.bool w A0_2 l0_2.length l0_2) (hc0_2 : l0_2.length ≤ c0_2) (h : laws_FnExactFormatConsole.f k l0_0 l0_1 l0_2 a0_3 a0_4 a0_5 a0_6 a0_7 = some r) (hT : Tb w) :
  Calls Tryd.prog 4 #[.agg #[.slice A0_0 l0_0.length c0_0, .slice A0_1 l0_1.length c0_1, .slice A0_2 l0_2.length c0_2, .int .i64 a0_3, .int .i64 a0_4, .string a0_5, .string a0_6, .int .i64 a0_7]] w fun e w' => e = .returned (.bool r) ∧ Below w.heap.size w w' := by
 have HT := Aside0.mk hT
 clear hT
 have hu29 := Tryd.underlying29
 have hu37 := Tryd.underlying37
 have HR0_0 := Aside0.mk hr0_0
 have HC0_0 := Aside0.mk hc0_0
 clear hr0_0 hc0_0
 have HR0_1 := Aside0.mk hr0_1
 have HC0_1 := Aside0.mk hc0_1
 clear hr0_1 hc0_1
 have HR0_2 := Aside0.mk hr0_2
 have HC0_2 := Aside0.mk hc0_2
 clear hr0_2 hc0_2
 have HB := Aside0.mk (Below.refl w.heap.size w)
 have H : ((laws_szConsole.f l0_0 l0_1 l0_2 a0_3 a0_4 a0_5 a0_6 a0_7 1048576).bind fun t494 => (if t494 < 0 then (some true) else ((laws_toConsole.f k l0_0 l0_1 l0_2 a0_3 a0_4 a0_5 a0_6 a0_7).bind fun bt495 => ((spec_FormatConsole.f k bt495.1 bt495.2.1 bt495.2.2.1 bt495.2.2.2.1 bt495.2.2.2.2.1 bt495.2.2.2.2.2.1 bt495.2.2.2.2.2.2.1 bt495.2.2.2.2.2.2.2).bind fun bt509 => ((laws_toConsole.f k l0_0 l0_1 l0_2 a0_3 a0_4 a0_5 a0_6 a0_7).bind fun bt511 => ((impl_FormatConsole.f k bt511.1 bt511.2.1 bt511.2.2.1 bt511.2.2.2.1 bt511.2.2.2.2.1 bt511.2.2.2.2.2.1 bt511.2.2.2.2.2.2.1 bt511.2.2.2.2.2.2.2).bind fun bt526 => (if bt526.1.toList = bt509.1.toList then (laws_FnExactFormatConsole.j0 k (bt526.2 != bt509.2) l0_0 l0_1 l0_2 a0_3 a0_4 a0_5 a0_6 a0_7 bt511.1 bt511.2.1 bt511.2.2.1 bt511.2.2.2.1 bt511.2.2.2.2.1 bt511.2.2.2.2.2.1 bt511.2.2.2.2.2.2.1 bt511.2.2.2.2.2.2.2) else (laws_FnExactFormatConsole.j0 k true l0_0 l0_1 l0_2 a0_3 a0_4 a0_5 a0_6 a0_7 bt511.1 bt511.2.1 bt511.2.2.1 bt511.2.2.2.1 bt511.2.2.2.2.1 bt511.2.2.2.2.2.1 bt511.2.2.2.2.2.2.1 bt511.2.2.2.2.2.2.2)))))))) = some r := h
 clear h
 replace H := Option.bind_eq_some_iff.mp H
 obtain ⟨t494, A20, H⟩ := H
 replace H : (if t494 < 0 then (some true) else ((laws_toConsole.f k l0_0 l0_1 l0_2 a0_3 a0_4 a0_5 a0_6 a0_7).bind fun bt495 => ((spec_FormatConsole.f k bt495.1 bt495.2.1 bt495.2.2.1 bt495.2.2.2.1 bt495.2.2.2.2.1 bt495.2.2.2.2.2.1 bt495.2.2.2.2.2.2.1 bt495.2.2.2.2.2.2.2).bind fun bt509 => ((laws_toConsole.f k l0_0 l0_1 l0_2 a0_3 a0_4 a0_5 a0_6 a0_7).bind fun bt511 => ((impl_FormatConsole.f k bt511.1 bt511.2.1 bt511.2.2.1 bt511.2.2.2.1 bt511.2.2.2.2.1 bt511.2.2.2.2.2.1 bt511.2.2.2.2.2.2.1 bt511.2.2.2.2.2.2.2).bind fun bt526 => (if bt526.1.toList = bt509.1.toList then (laws_FnExactFormatConsole.j0 k (bt526.2 != bt509.2) l0_0 l0_1 l0_2 a0_3 a0_4 a0_5 a0_6 a0_7 bt511.1 bt511.2.1 bt511.2.2.1 bt511.2.2.2.1 bt511.2.2.2.2.1 bt511.2.2.2.2.2.1 bt511.2.2.2.2.2.2.1 bt511.2.2.2.2.2.2.2) else (laws_FnExactFormatConsole.j0 k true l0_0 l0_1 l0_2 a0_3 a0_4 a0_5 a0_6 a0_7 bt511.1 bt511.2.1 bt511.2.2.1 bt511.2.2.2.1 bt511.2.2.2.2.1 bt511.2.2.2.2.2.1 bt511.2.2.2.2.2.2.1 bt511.2.2.2.2.2.2.2))))))) = some r := H
 have A2 := Aside0.mk A20
 clear A20
 by_cases c3 : t494 < 0
 ·
  rw [if_pos c3] at H
  have c3b0 : decide (t494 < 0) = true := decide_eq_true c3
  clear c3
  obtain rfl := Option.some.inj H
  go_enter Tryd.func4, Tryd.ntmps4
  go_wp2_with (first | ((with_reducible refine gate_dst (N := 1) rfl ?_); refine box_event ?hg (N := 1) ?hd (cs := #[.slice A0_0 l0_0.length c0_0, .slice A0_1 l0_1.length c0_1, .slice A0_2 l0_2.length c0_2, .int .i64 a0_3, .int .i64 a0_4, .string a0_5, .string a0_6, .int .i64 a0_7]) (t := 29) ?hr ?_; (case hd => rfl); (case hg => rfl); (case hr => first | (go_simp; done) | (go_simp; rfl)); intro gb493 hg w4 hbox hb; have BK493 := Aside0.mk (hbox); have GW493 := Aside0.mk ((bz_ hg (lb0_ HB.out))); have GE493 := Aside0.mk ((bz_ hg (lb0_ HB.out))); replace HB := Aside0.mk (below_step (lb0_ HB.out) hb); clear hb hbox hg; obtain ⟨hcz5_0, hcz5_1, hcz5_2, hcz5_3, hcz5_4, hcz5_5, hcz5_6, hcz5_7⟩ := cz8_ BK493.out; obtain ⟨hfz5_0, hfz5_1, hfz5_2, hfz5_3, hfz5_4, hfz5_5, hfz5_6, hfz5_7⟩ := fz8_ BK493.out) | ((with_reducible refine gate_callee (f := 5) rfl ?_); refine ga_ (some 11) Tryd.func5 #[.agg #[.slice A0_0 l0_0.length c0_0, .slice A0_1 l0_1.length c0_1, .slice A0_2 l0_2.length c0_2, .int .i64 a0_3, .int .i64 a0_4, .string a0_5, .string a0_6, .int .i64 a0_7], .int .i64 1048576] ?_; (with_reducible refine (laws_szConsole.calls _ _ l0_0 _ _ l0_1 _ _ l0_2 a0_3 a0_4 a0_5 a0_6 a0_7 1048576 t494 _ ?side1 ?side2 ?side3 ?side4 ?side5 ?side6 A2.out).mono ?_); (case side1 => exact kc_ (Kd.C_below HR0_0.out HB.out)); (case side2 => exact HC0_0.out); (case side3 => exact kc_ (Kd.C_below HR0_1.out HB.out)); (case side4 => exact HC0_1.out); (case side5 => exact kc_ (Kd.C_below HR0_2.out HB.out)); (case side6 => exact HC0_2.out); rintro e w6 ⟨rfl, hb⟩; refine ⟨_, rfl, ?_⟩; replace BK493 := Aside0.mk (bb_ (bk_ BK493.out) hb); replace HB := Aside0.mk (below_step (lb1_ HB.out GE493.out) hb); (try clear hb); (try clear hb2); (try clear hk); (try clear hi)))
  go_ret
  exact ⟨rr_, lb1_ HB.out GE493.out⟩
 ·
  rw [if_neg c3] at H
  have c3b0 : decide (t494 < 0) = false := decide_eq_false c3
  clear c3
  replace H := Option.bind_eq_some_iff.mp H
  obtain ⟨⟨t495, t498, t501, t504, t505, t506, t507, t508⟩, A70, H⟩ := H
  replace H : ((spec_FormatConsole.f k t495 t498 t501 t504 t505 t506 t507 t508).bind fun bt509 => ((laws_toConsole.f k l0_0 l0_1 l0_2 a0_3 a0_4 a0_5 a0_6 a0_7).bind fun bt511 => ((impl_FormatConsole.f k bt511.1 bt511.2.1 bt511.2.2.1 bt511.2.2.2.1 bt511.2.2.2.2.1 bt511.2.2.2.2.2.1 bt511.2.2.2.2.2.2.1 bt511.2.2.2.2.2.2.2).bind fun bt526 => (if bt526.1.toList = bt509.1.toList then (laws_FnExactFormatConsole.j0 k (bt526.2 != bt509.2) l0_0 l0_1 l0_2 a0_3 a0_4 a0_5 a0_6 a0_7 bt511.1 bt511.2.1 bt511.2.2.1 bt511.2.2.2.1 bt511.2.2.2.2.1 bt511.2.2.2.2.2.1 bt511.2.2.2.2.2.2.1 bt511.2.2.2.2.2.2.2) else (laws_FnExactFormatConsole.j0 k true l0_0 l0_1 l0_2 a0_3 a0_4 a0_5 a0_6 a0_7 bt511.1 bt511.2.1 bt511.2.2.1 bt511.2.2.2.1 bt511.2.2.2.2.1 bt511.2.2.2.2.2.1 bt511.2.2.2.2.2.2.1 bt511.2.2.2.2.2.2.2))))) = some r := H
  have A7 := Aside0.mk A70
  clear A70
  replace H := Option.bind_eq_some_iff.mp H
  obtain ⟨⟨t509, t510⟩, A80, H⟩ := H
  replace H : ((laws_toConsole.f k l0_0 l0_1 l0_2 a0_3 a0_4 a0_5 a0_6 a0_7).bind fun bt511 => ((impl_FormatConsole.f k bt511.1 bt511.2.1 bt511.2.2.1 bt511.2.2.2.1 bt511.2.2.2.2.1 bt511.2.2.2.2.2.1 bt511.2.2.2.2.2.2.1 bt511.2.2.2.2.2.2.2).bind fun bt526 => (if bt526.1.toList = t509.toList then (laws_FnExactFormatConsole.j0 k (bt526.2 != t510) l0_0 l0_1 l0_2 a0_3 a0_4 a0_5 a0_6 a0_7 bt511.1 bt511.2.1 bt511.2.2.1 bt511.2.2.2.1 bt511.2.2.2.2.1 bt511.2.2.2.2.2.1 bt511.2.2.2.2.2.2.1 bt511.2.2.2.2.2.2.2) else (laws_FnExactFormatConsole.j0 k true l0_0 l0_1 l0_2 a0_3 a0_4 a0_5 a0_6 a0_7 bt511.1 bt511.2.1 bt511.2.2.1 bt511.2.2.2.1 bt511.2.2.2.2.1 bt511.2.2.2.2.2.1 bt511.2.2.2.2.2.2.1 bt511.2.2.2.2.2.2.2)))) = some r := H
  have A8 := Aside0.mk A80
  clear A80
  replace H := Option.bind_eq_some_iff.mp H
  obtain ⟨⟨t511, t514, t517, t520, t521, t522, t523, t524⟩, A90, H⟩ := H
  replace H : ((impl_FormatConsole.f k t511 t514 t517 t520 t521 t522 t523 t524).bind fun bt526 => (if bt526.1.toList = t509.toList then (laws_FnExactFormatConsole.j0 k (bt526.2 != t510) l0_0 l0_1 l0_2 a0_3 a0_4 a0_5 a0_6 a0_7 t511 t514 t517 t520 t521 t522 t523 t524) else (laws_FnExactFormatConsole.j0 k true l0_0 l0_1 l0_2 a0_3 a0_4 a0_5 a0_6 a0_7 t511 t514 t517 t520 t521 t522 t523 t524))) = some r := H
  have A9 := Aside0.mk A90
  clear A90
  replace H := Option.bind_eq_some_iff.mp H
  obtain ⟨⟨t526, t527⟩, A100, H⟩ := H
  replace H : (if t526.toList = t509.toList then (laws_FnExactFormatConsole.j0 k (t527 != t510) l0_0 l0_1 l0_2 a0_3 a0_4 a0_5 a0_6 a0_7 t511 t514 t517 t520 t521 t522 t523 t524) else (laws_FnExactFormatConsole.j0 k true l0_0 l0_1 l0_2 a0_3 a0_4 a0_5 a0_6 a0_7 t511 t514 t517 t520 t521 t522 t523 t524)) = some r := H
  have A10 := Aside0.mk A100
  clear A100
  have HC11 := Aside0.mk H
  clear H
  go_enter Tryd.func4, Tryd.ntmps4
  go_upto_region 8 with (first | ((with_reducible refine gate_dst (N := 1) rfl ?_); refine box_event ?hg (N := 1) ?hd (cs := #[.slice A0_0 l0_0.length c0_0, .slice A0_1 l0_1.length c0_1, .slice A0_2 l0_2.length c0_2, .int .i64 a0_3, .int .i64 a0_4, .string a0_5, .string a0_6, .int .i64 a0_7]) (t := 29) ?hr ?_; (case hd => rfl); (case hg => rfl); (case hr => first | (go_simp; done) | (go_simp; rfl)); intro gb493 hg w12 hbox hb; have BK493 := Aside0.mk (hbox); have GW493 := Aside0.mk ((bz_ hg (lb0_ HB.out))); have GE493 := Aside0.mk ((bz_ hg (lb0_ HB.out))); replace HB := Aside0.mk (below_step (lb0_ HB.out) hb); clear hb hbox hg; obtain ⟨hcz13_0, hcz13_1, hcz13_2, hcz13_3, hcz13_4, hcz13_5, hcz13_6, hcz13_7⟩ := cz8_ BK493.out; obtain ⟨hfz13_0, hfz13_1, hfz13_2, hfz13_3, hfz13_4, hfz13_5, hfz13_6, hfz13_7⟩ := fz8_ BK493.out) | ((with_reducible refine gate_callee (f := 5) rfl ?_); refine ga_ (some 11) Tryd.func5 #[.agg #[.slice A0_0 l0_0.length c0_0, .slice A0_1 l0_1.length c0_1, .slice A0_2 l0_2.length c0_2, .int .i64 a0_3, .int .i64 a0_4, .string a0_5, .string a0_6, .int .i64 a0_7], .int .i64 1048576] ?_; (with_reducible refine (laws_szConsole.calls _ _ l0_0 _ _ l0_1 _ _ l0_2 a0_3 a0_4 a0_5 a0_6 a0_7 1048576 t494 _ ?side1 ?side2 ?side3 ?side4 ?side5 ?side6 A2.out).mono ?_); (case side1 => exact kc_ (Kd.C_below HR0_0.out HB.out)); (case side2 => exact HC0_0.out); (case side3 => exact kc_ (Kd.C_below HR0_1.out HB.out)); (case side4 => exact HC0_1.out); (case side5 => exact kc_ (Kd.C_below HR0_2.out HB.out)); (case side6 => exact HC0_2.out); rintro e w14 ⟨rfl, hb⟩; refine ⟨_, rfl, ?_⟩; replace BK493 := Aside0.mk (bb_ (bk_ BK493.out) hb); replace HB := Aside0.mk (below_step (lb1_ HB.out GE493.out) hb); (try clear hb); (try clear hb2); (try clear hk); (try clear hi); obtain ⟨hcz15_0, hcz15_1, hcz15_2, hcz15_3, hcz15_4, hcz15_5, hcz15_6, hcz15_7⟩ := cz8_ BK493.out; obtain ⟨hfz15_0, hfz15_1, hfz15_2, hfz15_3, hfz15_4, hfz15_5, hfz15_6, hfz15_7⟩ := fz8_ BK493.out) | ((with_reducible refine gate_callee (f := 7) rfl ?_); refine ga_ (some 16) Tryd.func7 #[.agg #[.slice A0_0 l0_0.length c0_0, .slice A0_1 l0_1.length c0_1, .slice A0_2 l0_2.length c0_2, .int .i64 a0_3, .int .i64 a0_4, .string a0_5, .string a0_6, .int .i64 a0_7]] ?_; (with_reducible refine (laws_toConsole.calls k _ _ l0_0 _ _ l0_1 _ _ l0_2 a0_3 a0_4 a0_5 a0_6 a0_7 t495 t498 t501 t504 t505 t506 t507 t508 _ ?side1 ?side2 ?side3 ?side4 ?side5 ?side6 A7.out).mono ?_); (case side1 => exact kc_ (Kd.C_below HR0_0.out HB.out)); (case side2 => exact HC0_0.out); (case side3 => exact kc_ (Kd.C_below HR0_1.out HB.out)); (case side4 => exact HC0_1.out); (case side5 => exact kc_ (Kd.C_below HR0_2.out HB.out)); (case side6 => exact HC0_2.out); rintro e w16 ⟨v496, v499, v502, rfl, ho0, ho1, ho2, hb⟩; refine ⟨_, rfl, ?_⟩; have HO497 := Aside0.mk (Kd.R_lower ho0 (below_size (lb1_ HB.out GE493.out))); have HO500 := Aside0.mk (Kd.R_lower ho1 (below_size (lb1_ HB.out GE493.out))); have HO503 := Aside0.mk (Kd.R_lower ho2 (below_size (lb1_ HB.out GE493.out))); replace BK493 := Aside0.mk (bb_ (bk_ BK493.out) hb); replace HB := Aside0.mk (below_step (lb1_ HB.out GE493.out) hb); (try clear hb); (try clear hb2); (try clear hk); (try clear hi); (try clear ho0); (try clear ho1); (try clear ho2); obtain ⟨Ao17, co17, eo17⟩ := Kd.R_slice HO497.out; subst eo17; obtain ⟨Ao18, co18, eo18⟩ := Kd.R_slice HO500.out; subst eo18; obtain ⟨Ao19, co19, eo19⟩ := Kd.R_slice HO503.out; subst eo19) | ((with_reducible refine gate_callee (f := 10) rfl ?_); refine ga_ (some 17) Tryd.func10 #[.agg #[.slice Ao17 t495.length co17, .slice Ao18 t498.length co18, .slice Ao19 t501.length co19, .int .i64 t504, .int .i64 t505, .string t506, .string t507, .int .i64 t508]] ?_; (with_reducible refine (spec_FormatConsole.calls k _ _ t495 _ _ t498 _ _ t501 t504 t505 t506 t507 t508 t509 t510 _ ?side1 ?side2 ?side3 ?side4 ?side5 ?side6 A8.out).mono ?_); (case side1 => exact kc_ (Kd.R_reads' HO497.out).2.2); (case side2 => exact (Kd.R_reads' HO497.out).2.1); (case side3 => exact kc_ (Kd.R_reads' HO500.out).2.2); (case side4 => exact (Kd.R_reads' HO500.out).2.1); (case side5 => exact kc_ (Kd.R_reads' HO503.out).2.2); (case side6 => exact (Kd.R_reads' HO503.out).2.1); rintro e w20 ⟨rfl, hb⟩; refine ⟨_, rfl, ?_⟩; replace HO497 := Aside0.mk (Kd.R_below (kr_ HO497.out) hb); replace HO500 := Aside0.mk (Kd.R_below (kr_ HO500.out) hb); replace HO503 := Aside0.mk (Kd.R_below (kr_ HO503.out) hb); replace BK493 := Aside0.mk (bb_ (bk_ BK493.out) hb); replace HB := Aside0.mk (below_step (lb1_ HB.out GE493.out) hb); (try clear hb); (try clear hb2); (try clear hk); (try clear hi); obtain ⟨hcz21_0, hcz21_1, hcz21_2, hcz21_3, hcz21_4, hcz21_5, hcz21_6, hcz21_7⟩ := cz8_ BK493.out; obtain ⟨hfz21_0, hfz21_1, hfz21_2, hfz21_3, hfz21_4, hfz21_5, hfz21_6, hfz21_7⟩ := fz8_ BK493.out) | ((with_reducible refine gate_callee (f := 7) rfl ?_); refine ga_ (some 21) Tryd.func7 #[.agg #[.slice A0_0 l0_0.length c0_0, .slice A0_1 l0_1.length c0_1, .slice A0_2 l0_2.length c0_2, .int .i64 a0_3, .int .i64 a0_4, .string a0_5, .string a0_6, .int .i64 a0_7]] ?_; (with_reducible refine (laws_toConsole.calls k _ _ l0_0 _ _ l0_1 _ _ l0_2 a0_3 a0_4 a0_5 a0_6 a0_7 t511 t514 t517 t520 t521 t522 t523 t524 _ ?side1 ?side2 ?side3 ?side4 ?side5 ?side6 A9.out).mono ?_); (case side1 => exact kc_ (Kd.C_below HR0_0.out HB.out)); (case side2 => exact HC0_0.out); (case side3 => exact kc_ (Kd.C_below HR0_1.out HB.out)); (case side4 => exact HC0_1.out); (case side5 => exact kc_ (Kd.C_below HR0_2.out HB.out)); (case side6 => exact HC0_2.out); rintro e w22 ⟨v512, v515, v518, rfl, ho0, ho1, ho2, hb⟩; refine ⟨_, rfl, ?_⟩; have HO513 := Aside0.mk (Kd.R_lower (Kd.R_new' ho0 (Kd.R_lt (kr_ HO497.out))) (below_size (lb1_ HB.out GE493.out))); replace HO497 := Aside0.mk (Kd.R_elder' (kr_ HO497.out) (Kd.R_base ho0) hb); have HO516 := Aside0.mk (Kd.R_lower (Kd.R_new' (Kd.R_new' ho1 (Kd.R_lt (kr_ HO500.out))) (Kd.R_lt (kr_ HO503.out))) (below_size (lb1_ HB.out GE493.out))); have HO519 := Aside0.mk (Kd.R_lower (Kd.R_new' (Kd.R_new' ho2 (Kd.R_lt (kr_ HO500.out))) (Kd.R_lt (kr_ HO503.out))) (below_size (lb1_ HB.out GE493.out))); replace HO500 := Aside0.mk (Kd.R_mono (Kd.R_told (Kd.R_told (Kd.R_old (kr_ HO500.out) hb) (Kd.R_base ho1)) (Kd.R_base ho2)) (fun _ h_ => h_.1)); replace HO503 := Aside0.mk (Kd.R_mono (Kd.R_told (Kd.R_told (Kd.R_old (kr_ HO503.out) hb) (Kd.R_base ho1)) (Kd.R_base ho2)) (fun _ h_ => h_.1)); replace BK493 := Aside0.mk (bb_ (bk_ BK493.out) hb); replace HB := Aside0.mk (below_step (lb1_ HB.out GE493.out) hb); (try clear hb); (try clear hb2); (try clear hk); (try clear hi); (try clear ho0); (try clear ho1); (try clear ho2)) | ((with_reducible refine gate_dst (N := 6) rfl ?_); refine box_event ?hg (N := 6) ?hd (cs := #[.slice none 0 0, .slice none 0 0, .slice none 0 0, .int .i64 0, .int .i64 0, .string (⟨#[]⟩ : ByteArray), .string (⟨#[]⟩ : ByteArray), .int .i64 0]) (t := 37) ?hr ?_; (case hd => rfl); (case hg => rfl); (case hr => first | (go_simp; done) | (go_simp; rfl)); intro gb525 hg w23 hbox hb; replace HO497 := Aside0.mk (Kd.R_below (kr_ HO497.out) hb); replace HO500 := Aside0.mk (Kd.R_below (kr_ HO500.out) hb); replace HO503 := Aside0.mk (Kd.R_below (kr_ HO503.out) hb); replace HO513 := Aside0.mk (Kd.R_below (kr_ HO513.out) hb); replace HO516 := Aside0.mk (Kd.R_below (kr_ HO516.out) hb); replace HO519 := Aside0.mk (Kd.R_below (kr_ HO519.out) hb); have BK525 := Aside0.mk (hbox); have GW525 := Aside0.mk ((bz_ hg (lb1_ HB.out GE493.out))); have GE525 := Aside0.mk ((bz_ hg (lb1_ HB.out GE493.out))); replace HB := Aside0.mk (below_step (lb1_ HB.out GE493.out) hb); have NB493_525 := Aside0.mk ((by rw [hg]; exact Nat.ne_of_lt (blk_lt (g := gb493) (o := .cells #[.slice A0_0 l0_0.length c0_0, .slice A0_1 l0_1.length c0_1, .slice A0_2 l0_2.length c0_2, .int .i64 a0_3, .int .i64 a0_4, .string a0_5, .string a0_6, .int .i64 a0_7] 29 (0, 0)) (bk_ BK493.out)) : gb493 ≠ gb525)); have NB525_493 := Aside0.mk ((by rw [hg]; exact Nat.ne_of_gt (blk_lt (g := gb493) (o := .cells #[.slice A0_0 l0_0.length c0_0, .slice A0_1 l0_1.length c0_1, .slice A0_2 l0_2.length c0_2, .int .i64 a0_3, .int .i64 a0_4, .string a0_5, .string a0_6, .int .i64 a0_7] 29 (0, 0)) (bk_ BK493.out)) : gb525 ≠ gb493)); replace BK493 := Aside0.mk (bb_ (bk_ BK493.out) hb); clear hb hbox hg; obtain ⟨Ao24, co24, eo24⟩ := Kd.R_slice HO513.out; subst eo24; have hnb25 := NB525_493.out; have hnc25 := NB493_525.out; obtain ⟨hcz26_0, hcz26_1, hcz26_2, hcz26_3, hcz26_4, hcz26_5, hcz26_6, hcz26_7⟩ := cz8_ BK525.out; obtain ⟨hfz26_0, hfz26_1, hfz26_2, hfz26_3, hfz26_4, hfz26_5, hfz26_6, hfz26_7⟩ := fz8_ BK525.out; obtain ⟨Ao27, co27, eo27⟩ := Kd.R_slice HO516.out; subst eo27; obtain ⟨Ao28, co28, eo28⟩ := Kd.R_slice HO519.out; subst eo28) | ((with_reducible refine gate_callee (f := 11) rfl ?_); refine ga_ (some 24) Tryd.func11 #[.agg #[.slice Ao24 t511.length co24, .slice Ao27 t514.length co27, .slice Ao28 t517.length co28, .int .i64 t520, .int .i64 t521, .string t522, .string t523, .int .i64 t524]] ?_; (with_reducible refine (impl_FormatConsole.calls k _ _ t511 _ _ t514 _ _ t517 t520 t521 t522 t523 t524 t526 t527 _ ?side1 ?side2 ?side3 ?side4 ?side5 ?side6 A10.out ?sideT).mono ?_); (case sideT => first | (with_reducible exact HT.out) | (with_reducible exact Tb.step HT.out HB.out) | exact Tb.step HT.out (by repeat (first | (with_reducible first | exact HB.out | apply below_alloc | apply pw_below_drewN | apply below_drew1 | refine below_set ?_ GE493.out | refine below_set ?_ GE525.out) | exact HB.out | exact Below.refl _ _))); (case side1 => refine (Kd.R_reads' (e := 53) (base := w.heap.size) (ok := fun k_ => (True ∧ some k_ ≠ (.slice Ao17 t495.length co17 : Value).ownBlock)) (n := t511.length) (c := co24) ?_).2.2; exact (kg_ HO513.out BK525.out)); (case side2 => exact (Kd.R_reads' HO513.out).2.1); (case side3 => refine (Kd.R_reads' (e := 4) (base := w.heap.size) (ok := fun k_ => ((some k_ ≠ (.slice Ao28 t517.length co28 : Value).ownBlock ∧ some k_ ≠ (.slice Ao18 t498.length co18 : Value).ownBlock) ∧ some k_ ≠ (.slice Ao19 t501.length co19 : Value).ownBlock)) (n := t514.length) (c := co27) ?_).2.2; exact (kg_ HO516.out BK525.out)); (case side4 => exact (Kd.R_reads' HO516.out).2.1); (case side5 => refine (Kd.R_reads' (e := 4) (base := w.heap.size) (ok := fun k_ => ((some k_ ≠ (.slice Ao27 t514.length co27 : Value).ownBlock ∧ some k_ ≠ (.slice Ao18 t498.length co18 : Value).ownBlock) ∧ some k_ ≠ (.slice Ao19 t501.length co19 : Value).ownBlock)) (n := t517.length) (c := co28) ?_).2.2; exact (kg_ HO519.out BK525.out)); (case side6 => exact (Kd.R_reads' HO519.out).2.1); rintro e w29 ⟨rfl, hb⟩; refine ⟨_, rfl, ?_⟩; replace HO497 := Aside0.mk (Kd.R_below (kg_ HO497.out BK525.out) hb); replace HO500 := Aside0.mk (Kd.R_below (kg_ HO500.out BK525.out) hb); replace HO503 := Aside0.mk (Kd.R_below (kg_ HO503.out BK525.out) hb); replace HO513 := Aside0.mk (Kd.R_below (kg_ HO513.out BK525.out) hb); replace HO516 := Aside0.mk (Kd.R_below (kg_ HO516.out BK525.out) hb); replace HO519 := Aside0.mk (Kd.R_below (kg_ HO519.out BK525.out) hb); replace BK493 := Aside0.mk (blk_below (g := gb493) (o := .cells #[.slice A0_0 l0_0.length c0_0, .slice A0_1 l0_1.length c0_1, .slice A0_2 l0_2.length c0_2, .int .i64 a0_3, .int .i64 a0_4, .string a0_5, .string a0_6, .int .i64 a0_7] 29 (0, 0)) (by (with_reducible repeat (first | refine blk_drewN ?_ _ | refine blk_drew ?_ | refine blk_alloc ?_ _)); refine blk_far ?_ NB493_525.out _; (with_reducible repeat (first | refine blk_drewN ?_ _ | refine blk_drew ?_ | refine blk_alloc ?_ _)); refine blk_far ?_ NB493_525.out _; (with_reducible repeat (first | refine blk_drewN ?_ _ | refine blk_drew ?_ | refine blk_alloc ?_ _)); refine blk_far ?_ NB493_525.out _; (with_reducible repeat (first | refine blk_drewN ?_ _ | refine blk_drew ?_ | refine blk_alloc ?_ _)); refine blk_far ?_ NB493_525.out _; (with_reducible repeat (first | refine blk_drewN ?_ _ | refine blk_drew ?_ | refine blk_alloc ?_ _)); refine blk_far ?_ NB493_525.out _; (with_reducible repeat (first | refine blk_drewN ?_ _ | refine blk_drew ?_ | refine blk_alloc ?_ _)); refine blk_far ?_ NB493_525.out _; (with_reducible repeat (first | refine blk_drewN ?_ _ | refine blk_drew ?_ | refine blk_alloc ?_ _)); refine blk_far ?_ NB493_525.out _; (with_reducible repeat (first | refine blk_drewN ?_ _ | refine blk_drew ?_ | refine blk_alloc ?_ _)); refine blk_far ?_ NB493_525.out _; (with_reducible repeat (first | refine blk_drewN ?_ _ | refine blk_drew ?_ | refine blk_alloc ?_ _)); exact BK493.out) hb); replace BK525 := Aside0.mk (blk_below (g := gb525) (o := .cells #[.slice Ao24 t511.length co24, .slice Ao27 t514.length co27, .slice Ao28 t517.length co28, .int .i64 t520, .int .i64 t521, .string t522, .string t523, .int .i64 t524] 37 (0, 0)) (by (with_reducible repeat (first | refine blk_drewN ?_ _ | refine blk_drew ?_ | refine blk_alloc ?_ _)); refine blk_put (cs := #[.slice Ao24 t511.length co24, .slice Ao27 t514.length co27, .slice Ao28 t517.length co28, .int .i64 t520, .int .i64 t521, .string t522, .string t523, .int .i64 0]) ?_ 7 _ rfl; (with_reducible repeat (first | refine blk_drewN ?_ _ | refine blk_drew ?_ | refine blk_alloc ?_ _)); refine blk_put (cs := #[.slice Ao24 t511.length co24, .slice Ao27 t514.length co27, .slice Ao28 t517.length co28, .int .i64 t520, .int .i64 t521, .string t522, .string (⟨#[]⟩ : ByteArray), .int .i64 0]) ?_ 6 _ rfl; (with_reducible repeat (first | refine blk_drewN ?_ _ | refine blk_drew ?_ | refine blk_alloc ?_ _)); refine blk_put (cs := #[.slice Ao24 t511.length co24, .slice Ao27 t514.length co27, .slice Ao28 t517.length co28, .int .i64 t520, .int .i64 t521, .string (⟨#[]⟩ : ByteArray), .string (⟨#[]⟩ : ByteArray), .int .i64 0]) ?_ 5 _ rfl; (with_reducible repeat (first | refine blk_drewN ?_ _ | refine blk_drew ?_ | refine blk_alloc ?_ _)); refine blk_put (cs := #[.slice Ao24 t511.length co24, .slice Ao27 t514.length co27, .slice Ao28 t517.length co28, .int .i64 t520, .int .i64 0, .string (⟨#[]⟩ : ByteArray), .string (⟨#[]⟩ : ByteArray), .int .i64 0]) ?_ 4 _ rfl; (with_reducible repeat (first | refine blk_drewN ?_ _ | refine blk_drew ?_ | refine blk_alloc ?_ _)); refine blk_put (cs := #[.slice Ao24 t511.length co24, .slice Ao27 t514.length co27, .slice Ao28 t517.length co28, .int .i64 0, .int .i64 0, .string (⟨#[]⟩ : ByteArray), .string (⟨#[]⟩ : ByteArray), .int .i64 0]) ?_ 3 _ rfl; (with_reducible repeat (first | refine blk_drewN ?_ _ | refine blk_drew ?_ | refine blk_alloc ?_ _)); refine blk_put (cs := #[.slice Ao24 t511.length co24, .slice Ao27 t514.length co27, .slice none 0 0, .int .i64 0, .int .i64 0, .string (⟨#[]⟩ : ByteArray), .string (⟨#[]⟩ : ByteArray), .int .i64 0]) ?_ 2 _ rfl; (with_reducible repeat (first | refine blk_drewN ?_ _ | refine blk_drew ?_ | refine blk_alloc ?_ _)); refine blk_put (cs := #[.slice Ao24 t511.length co24, .slice none 0 0, .slice none 0 0, .int .i64 0, .int .i64 0, .string (⟨#[]⟩ : ByteArray), .string (⟨#[]⟩ : ByteArray), .int .i64 0]) ?_ 1 _ rfl; (with_reducible repeat (first | refine blk_drewN ?_ _ | refine blk_drew ?_ | refine blk_alloc ?_ _)); refine blk_put (cs := #[.slice none 0 0, .slice none 0 0, .slice none 0 0, .int .i64 0, .int .i64 0, .string (⟨#[]⟩ : ByteArray), .string (⟨#[]⟩ : ByteArray), .int .i64 0]) ?_ 0 _ rfl; (with_reducible repeat (first | refine blk_drewN ?_ _ | refine blk_drew ?_ | refine blk_alloc ?_ _)); exact BK525.out) hb); replace HB := Aside0.mk (below_step (lb2_ HB.out GE493.out GE525.out) hb); (try clear hb); (try clear hb2); (try clear hk); (try clear hi)))
  (try simp only [Act.put, List.setIfInBounds_toArray, List.set_cons_zero, List.set_cons_succ])
  go_cut [34] (fun v34 wc => ∃ (kq : Nat) (x34_10 : Bool), v34 = .bool x34_10 ∧ Aside0 (laws_FnExactFormatConsole.j0 kq x34_10 l0_0 l0_1 l0_2 a0_3 a0_4 a0_5 a0_6 a0_7 t511 t514 t517 t520 t521 t522 t523 t524 = some r) ∧ Aside0 (kq ≤ k) ∧ Aside0 (Kd.R k53 53 wc w.heap.size (fun _ => True) (.slice Ao24 t511.length co24) t511) ∧ Aside0 (Kd.R Kd.bool 4 wc w.heap.size (fun k_ => some k_ ≠ ((.slice Ao28 t517.length co28) : Value).ownBlock) (.slice Ao27 t514.length co27) t514) ∧ Aside0 (Kd.R Kd.bool 4 wc w.heap.size (fun k_ => some k_ ≠ ((.slice Ao27 t514.length co27) : Value).ownBlock) (.slice Ao28 t517.length co28) t517) ∧ Aside0 (wc.heap[gb493]? = some (.cells #[(.slice A0_0 l0_0.length c0_0), (.slice A0_1 l0_1.length c0_1), (.slice A0_2 l0_2.length c0_2), .int .i64 a0_3, .int .i64 a0_4, .string a0_5, .string a0_6, .int .i64 a0_7] 29 (0, 0))) ∧ Aside0 (wc.heap[gb525]? = some (.cells #[(.slice Ao24 t511.length co24), (.slice Ao27 t514.length co27), (.slice Ao28 t517.length co28), .int .i64 t520, .int .i64 t521, .string t522, .string t523, .int .i64 t524] 37 (0, 0))) ∧ Aside0 (Below w.heap.size w wc))
  case first =>
   have H := HC11.out
   clear HC11
   by_cases c30 : t526.toList = t509.toList
   ·
    rw [if_pos c30] at H
    have c30b0 : (t526.toList == t509.toList) = true := beq_iff_eq.mpr c30
    have c30b1 : (t526.toList != t509.toList) = false := bne_eq_false_iff_eq.mpr c30
    clear c30
    (first | rw [c30b0] | (simp only [i64_w, i32_w]; rw [c30b0]) | skip)
    have H' := Aside0.mk H
    clear H
    go_wp2
    go_meet
    case rel => exact ⟨_, ((t527 != t510)), (by first | rfl | (simp; done) | (simp [*]; done)), H', ⟨by first | omega | exact Nat.le_refl _⟩, ⟨krm_ HO513.out (fun _ hk => trivial)⟩, ⟨krm_ HO516.out (fun _ hk => hk.1.1)⟩, ⟨krm_ HO519.out (fun _ hk => hk.1.1)⟩, ⟨bk_ BK493.out⟩, ⟨bk_ BK525.out⟩, ⟨lb2_ HB.out GE493.out GE525.out⟩⟩
   ·
    rw [if_neg c30] at H
    have c30b0 : (t526.toList == t509.toList) = false := beq_eq_false_iff_ne.mpr c30
    have c30b1 : (t526.toList != t509.toList) = true := bne_iff_ne.mpr c30
    (first | rw [c30b0] | (simp only [i64_w, i32_w]; rw [c30b0]) | skip)
    have H' := Aside0.mk H
    clear H
    go_wp2
    go_meet
    case rel => exact ⟨_, (true), (by first | rfl | (simp; done) | (simp [*]; done)), H', ⟨by first | omega | exact Nat.le_refl _⟩, ⟨krm_ HO513.out (fun _ hk => trivial)⟩, ⟨krm_ HO516.out (fun _ hk => hk.1.1)⟩, ⟨krm_ HO519.out (fun _ hk => hk.1.1)⟩, ⟨bk_ BK493.out⟩, ⟨bk_ BK525.out⟩, ⟨lb2_ HB.out GE493.out GE525.out⟩⟩
  case rest =>
   clear HC11
   try clear c1
   try clear c2
   try clear p2
   try clear c3
   try clear c3b0
   try clear c4
   try clear c5
   try clear c7
   try clear c10
   try clear c11
   try clear c25
   try clear c30
   try clear c30b0
   try clear c30b1
   try clear hcz13_0 hcz13_1 hcz13_2 hcz13_3 hcz13_4 hcz13_5 hcz13_6 hcz13_7
   try clear hcz15_0 hcz15_1 hcz15_2 hcz15_3 hcz15_4 hcz15_5 hcz15_6 hcz15_7
   try clear hcz21_0 hcz21_1 hcz21_2 hcz21_3 hcz21_4 hcz21_5 hcz21_6 hcz21_7
   try clear hcz26_0 hcz26_1 hcz26_2 hcz26_3 hcz26_4 hcz26_5 hcz26_6 hcz26_7
   try clear hcz5_0 hcz5_1 hcz5_2 hcz5_3 hcz5_4 hcz5_5 hcz5_6 hcz5_7
   try clear hfz13_0 hfz13_1 hfz13_2 hfz13_3 hfz13_4 hfz13_5 hfz13_6 hfz13_7
   try clear hfz15_0 hfz15_1 hfz15_2 hfz15_3 hfz15_4 hfz15_5 hfz15_6 hfz15_7
   try clear hfz21_0 hfz21_1 hfz21_2 hfz21_3 hfz21_4 hfz21_5 hfz21_6 hfz21_7
   try clear hfz26_0 hfz26_1 hfz26_2 hfz26_3 hfz26_4 hfz26_5 hfz26_6 hfz26_7
   try clear hfz5_0 hfz5_1 hfz5_2 hfz5_3 hfz5_4 hfz5_5 hfz5_6 hfz5_7
   obtain ⟨kq, x34_10, rfl, HA, HJ10, HO_526000, HO_526001, HO_526002, BK493, BK525, HB⟩ := hcut
   cases kq with
   | zero => exact absurd HA.out (by simp [laws_FnExactFormatConsole.j0])
   | succ kj10 =>
    have H := HA.out
    clear HA
    simp only [laws_FnExactFormatConsole.j0] at H
    by_cases c31 : x34_10 = true
    ·
     subst c31
     have H1 : (none) = some r := by rw [if_pos rfl] at H; exact H
     clear H
     have H := H1
     clear H1
     exact absurd H (by simp)
    ·
     replace c31 := Bool.eq_false_iff.mpr c31
     subst c31
     have H1 : ((laws_toConsole.f kj10 l0_0 l0_1 l0_2 a0_3 a0_4 a0_5 a0_6 a0_7).bind fun bt528 => ((laws_eqConsole.f kj10 t511 t514 t517 t520 t521 t522 t523 t524 bt528.1 bt528.2.1 bt528.2.2.1 bt528.2.2.2.1 bt528.2.2.2.2.1 bt528.2.2.2.2.2.1 bt528.2.2.2.2.2.2.1 bt528.2.2.2.2.2.2.2).bind fun t542 => (if t542 = true then (some true) else (none)))) = some r := by rw [if_neg (show ¬ (false = true) by decide)] at H; exact H
     clear H
     have H := H1
     clear H1
     replace H := Option.bind_eq_some_iff.mp H
     obtain ⟨⟨t528, t531, t534, t537, t538, t539, t540, t541⟩, A320, H⟩ := H
     replace H : ((laws_eqConsole.f kj10 t511 t514 t517 t520 t521 t522 t523 t524 t528 t531 t534 t537 t538 t539 t540 t541).bind fun t542 => (if t542 = true then (some true) else (none))) = some r := H
     have A32 := Aside0.mk A320
     clear A320
     replace H := Option.bind_eq_some_iff.mp H
     obtain ⟨t542, A330, H⟩ := H
     replace H : (if t542 = true then (some true) else (none)) = some r := H
     have A33 := Aside0.mk A330
     clear A330
     by_cases c34 : t542 = true
     ·
      subst c34
      have H1 : (some true) = some r := by rw [if_pos rfl] at H; exact H
      clear H
      have H := H1
      clear H1
      obtain rfl := Option.some.inj H
      try go_wp2
      replace HO_526000 := Aside0.mk (Kd.R_drew HO_526000.out)
      replace HO_526001 := Aside0.mk (Kd.R_drew HO_526001.out)
      replace HO_526002 := Aside0.mk (Kd.R_drew HO_526002.out)
      replace BK493 := Aside0.mk (blk_drew BK493.out)
      replace BK525 := Aside0.mk (blk_drew BK525.out)
      replace HB := Aside0.mk (below_drew1 HB.out)
      refine start_ (n := 5) (S := fun w' => w'.cell? ⟨gb525, 0, none⟩ = some (.slice Ao24 t511.length co24) ∧ w'.cell? ⟨gb525, 1, none⟩ = some (.slice Ao27 t514.length co27) ∧ w'.cell? ⟨gb525, 2, none⟩ = some (.slice Ao28 t517.length co28) ∧ w'.cell? ⟨gb525, 3, none⟩ = some (.int .i64 t520) ∧ w'.cell? ⟨gb525, 4, none⟩ = some (.int .i64 t521) ∧ w'.cell? ⟨gb525, 5, none⟩ = some (.string t522) ∧ w'.cell? ⟨gb525, 6, none⟩ = some (.string t523) ∧ w'.cell? ⟨gb525, 7, none⟩ = some (.int .i64 t524) ∧ w'.cell? ⟨gb493, 0, none⟩ = some (.slice A0_0 l0_0.length c0_0) ∧ w'.cell? ⟨gb493, 1, none⟩ = some (.slice A0_1 l0_1.length c0_1) ∧ w'.cell? ⟨gb493, 2, none⟩ = some (.slice A0_2 l0_2.length c0_2) ∧ w'.cell? ⟨gb493, 3, none⟩ = some (.int .i64 a0_3) ∧ w'.cell? ⟨gb493, 4, none⟩ = some (.int .i64 a0_4) ∧ w'.cell? ⟨gb493, 5, none⟩ = some (.string a0_5) ∧ w'.cell? ⟨gb493, 6, none⟩ = some (.string a0_6) ∧ w'.cell? ⟨gb493, 7, none⟩ = some (.int .i64 a0_7)) (ds := []) #[false, false, false, false, false] (by kernel_rfl) rfl rfl ⟨(blk_cell BK525.out 0).trans rfl, (blk_cell BK525.out 1).trans rfl, (blk_cell BK525.out 2).trans rfl, (blk_cell BK525.out 3).trans rfl, (blk_cell BK525.out 4).trans rfl, (blk_cell BK525.out 5).trans rfl, (blk_cell BK525.out 6).trans rfl, (blk_cell BK525.out 7).trans rfl, (blk_cell BK493.out 0).trans rfl, (blk_cell BK493.out 1).trans rfl, (blk_cell BK493.out 2).trans rfl, (blk_cell BK493.out 3).trans rfl, (blk_cell BK493.out 4).trans rfl, (blk_cell BK493.out 5).trans rfl, (blk_cell BK493.out 6).trans rfl, (blk_cell BK493.out 7).trans rfl⟩ (fun hHeld => ?_)
      generalize wc.drew = w35 at HO_526000 HO_526001 HO_526002 BK493 BK525 HB hHeld ⊢
      refine take_ (i := 0) (N := some 35) (v := ?_) (a' := ?_) #[true, false, false, false, false] rfl rfl (by kernel_rfl) (fun _ _ _ h => h) (Or.inl ⟨by rfl, ?_⟩) hHeld ?_ ?_
      rotate_left
      ·
       rintro w' ⟨s0, s1, s2, s3, s4, s5, s6, s7, s8, s9, s10, s11, s12, s13, s14, s15⟩
       go_simp
       with_reducible rfl
      rotate_left
      ·
       simp only [Act.put, List.setIfInBounds_toArray, List.set_cons_zero, List.set_cons_succ, i64_w, i32_w]
       rfl
      refine take_ (i := 1) (N := some 36) (v := ?_) (a' := ?_) #[true, true, false, false, false] rfl rfl (by kernel_rfl) (fun _ _ _ h => h) (Or.inl ⟨by rfl, ?_⟩) hHeld ?_ ?_
      rotate_left
      ·
       rintro w' ⟨s0, s1, s2, s3, s4, s5, s6, s7, s8, s9, s10, s11, s12, s13, s14, s15⟩
       go_simp
       with_reducible rfl
      rotate_left
      ·
       simp only [Act.put, List.setIfInBounds_toArray, List.set_cons_zero, List.set_cons_succ, i64_w, i32_w]
       rfl
      refine one_ (i := 2) (N := some 37) #[true, true, true, false, false] rfl rfl (by kernel_rfl) (by decide) (fun K hK => ?_)
      refine gs_ Tryd.func7 #[.agg #[.slice A0_0 l0_0.length c0_0, .slice A0_1 l0_1.length c0_1, .slice A0_2 l0_2.length c0_2, .int .i64 a0_3, .int .i64 a0_4, .string a0_5, .string a0_6, .int .i64 a0_7]] ?_
      with_reducible refine (laws_toConsole.calls kj10 _ _ l0_0 _ _ l0_1 _ _ l0_2 a0_3 a0_4 a0_5 a0_6 a0_7 t528 t531 t534 t537 t538 t539 t540 t541 _ ?side1 ?side2 ?side3 ?side4 ?side5 ?side6 A32.out).mono ?_
      (case side1 => exact kc_ (Kd.C_below HR0_0.out HB.out))
      (case side2 => exact HC0_0.out)
      (case side3 => exact kc_ (Kd.C_below HR0_1.out HB.out))
      (case side4 => exact HC0_1.out)
      (case side5 => exact kc_ (Kd.C_below HR0_2.out HB.out))
      (case side6 => exact HC0_2.out)
      rintro e w36 ⟨v529, v532, v535, rfl, ho0, ho1, ho2, hb⟩
      refine ⟨_, rfl, ?_⟩
      have HO530 := Aside0.mk (Kd.R_lower (Kd.R_new' ho0 (Kd.R_lt (kr_ HO_526000.out))) (below_size (lb2_ HB.out GE493.out GE525.out)))
      replace HO_526000 := Aside0.mk (Kd.R_elder' (kr_ HO_526000.out) (Kd.R_base ho0) hb)
      have HO533 := Aside0.mk (Kd.R_lower (Kd.R_new' (Kd.R_new' ho1 (Kd.R_lt (kr_ HO_526001.out))) (Kd.R_lt (kr_ HO_526002.out))) (below_size (lb2_ HB.out GE493.out GE525.out)))
      have HO536 := Aside0.mk (Kd.R_lower (Kd.R_new' (Kd.R_new' ho2 (Kd.R_lt (kr_ HO_526001.out))) (Kd.R_lt (kr_ HO_526002.out))) (below_size (lb2_ HB.out GE493.out GE525.out)))
      replace HO_526001 := Aside0.mk (Kd.R_mono (Kd.R_told (Kd.R_told (Kd.R_old (kr_ HO_526001.out) hb) (Kd.R_base ho1)) (Kd.R_base ho2)) (fun _ h_ => h_.1))
      replace HO_526002 := Aside0.mk (Kd.R_mono (Kd.R_told (Kd.R_told (Kd.R_old (kr_ HO_526002.out) hb) (Kd.R_base ho1)) (Kd.R_base ho2)) (fun _ h_ => h_.1))
      replace BK493 := Aside0.mk (bb_ (bk_ BK493.out) hb)
      replace BK525 := Aside0.mk (bb_ (bk_ BK525.out) hb)
      replace HB := Aside0.mk (below_step (lb2_ HB.out GE493.out GE525.out) hb)
      (try clear hb)
      (try clear hb2)
      (try clear hk)
      (try clear hi)
      (try clear ho0)
      (try clear ho1)
      (try clear ho2)
      obtain ⟨Ao37, co37, eo37⟩ := Kd.R_slice HO530.out
      (first | subst eo37 | (injection eo37 with f1_ f2_ f3_; have f4_ := f1_.symm; have f5_ := f3_.symm; clear f1_ f2_ f3_; subst f4_; subst f5_))
      obtain ⟨Ao38, co38, eo38⟩ := Kd.R_slice HO533.out
      (first | subst eo38 | (injection eo38 with f1_ f2_ f3_; have f4_ := f1_.symm; have f5_ := f3_.symm; clear f1_ f2_ f3_; subst f4_; subst f5_))
      obtain ⟨Ao39, co39, eo39⟩ := Kd.R_slice HO536.out
      (first | subst eo39 | (injection eo39 with f1_ f2_ f3_; have f4_ := f1_.symm; have f5_ := f3_.symm; clear f1_ f2_ f3_; subst f4_; subst f5_))
      refine hK.out _ _ ⟨(blk_cell BK525.out 0).trans rfl, (blk_cell BK525.out 1).trans rfl, (blk_cell BK525.out 2).trans rfl, (blk_cell BK525.out 3).trans rfl, (blk_cell BK525.out 4).trans rfl, (blk_cell BK525.out 5).trans rfl, (blk_cell BK525.out 6).trans rfl, (blk_cell BK525.out 7).trans rfl, (blk_cell BK493.out 0).trans rfl, (blk_cell BK493.out 1).trans rfl, (blk_cell BK493.out 2).trans rfl, (blk_cell BK493.out 3).trans rfl, (blk_cell BK493.out 4).trans rfl, (blk_cell BK493.out 5).trans rfl, (blk_cell BK493.out 6).trans rfl, (blk_cell BK493.out 7).trans rfl⟩ (fun hHeld => ?_)
      clear hK K
      refine na_ ?_
      refine one_ (i := 3) (N := some 38) #[true, true, true, true, false] rfl rfl (by kernel_rfl) (by decide) (fun K hK => ?_)
      refine gs_ Tryd.func9 #[.agg #[.slice Ao24 t511.length co24, .slice Ao27 t514.length co27, .slice Ao28 t517.length co28, .int .i64 t520, .int .i64 t521, .string t522, .string t523, .int .i64 t524], .agg #[.slice Ao37 t528.length co37, .slice Ao38 t531.length co38, .slice Ao39 t534.length co39, .int .i64 t537, .int .i64 t538, .string t539, .string t540, .int .i64 t541]] ?_
      with_reducible refine (laws_eqConsole.calls kj10 _ _ t511 _ _ t514 _ _ t517 t520 t521 t522 t523 t524 _ _ t528 _ _ t531 _ _ t534 t537 t538 t539 t540 t541 true _ ?side1 ?side2 ?side3 ?side4 ?side5 ?side6 ?side7 ?side8 ?side9 ?side10 ?side11 ?side12 A33.out).mono ?_
      (case side1 => exact kc_ (Kd.R_reads' HO_526000.out).2.2)
      (case side2 => exact (Kd.R_reads' HO_526000.out).2.1)
      (case side3 => exact kc_ (Kd.R_reads' HO_526001.out).2.2)
      (case side4 => exact (Kd.R_reads' HO_526001.out).2.1)
      (case side5 => exact kc_ (Kd.R_reads' HO_526002.out).2.2)
      (case side6 => exact (Kd.R_reads' HO_526002.out).2.1)
      (case side7 => exact kc_ (Kd.R_reads' HO530.out).2.2)
      (case side8 => exact (Kd.R_reads' HO530.out).2.1)
      (case side9 => exact kc_ (Kd.R_reads' HO533.out).2.2)
      (case side10 => exact (Kd.R_reads' HO533.out).2.1)
      (case side11 => exact kc_ (Kd.R_reads' HO536.out).2.2)
      (case side12 => exact (Kd.R_reads' HO536.out).2.1)
      rintro e w40 ⟨rfl, hb⟩
      refine ⟨_, rfl, ?_⟩
      replace HO_526000 := Aside0.mk (Kd.R_below (kr_ HO_526000.out) hb)
      replace HO_526001 := Aside0.mk (Kd.R_below (kr_ HO_526001.out) hb)
      replace HO_526002 := Aside0.mk (Kd.R_below (kr_ HO_526002.out) hb)
      replace HO530 := Aside0.mk (Kd.R_below (kr_ HO530.out) hb)
      replace HO533 := Aside0.mk (Kd.R_below (kr_ HO533.out) hb)
      replace HO536 := Aside0.mk (Kd.R_below (kr_ HO536.out) hb)
      replace BK493 := Aside0.mk (bb_ (bk_ BK493.out) hb)
      replace BK525 := Aside0.mk (bb_ (bk_ BK525.out) hb)
      replace HB := Aside0.mk (below_step (lb2_ HB.out GE493.out GE525.out) hb)
      (try clear hb)
      (try clear hb2)
      (try clear hk)
      (try clear hi)
      refine hK.out _ _ ⟨(blk_cell BK525.out 0).trans rfl, (blk_cell BK525.out 1).trans rfl, (blk_cell BK525.out 2).trans rfl, (blk_cell BK525.out 3).trans rfl, (blk_cell BK525.out 4).trans rfl, (blk_cell BK525.out 5).trans rfl, (blk_cell BK525.out 6).trans rfl, (blk_cell BK525.out 7).trans rfl, (blk_cell BK493.out 0).trans rfl, (blk_cell BK493.out 1).trans rfl, (blk_cell BK493.out 2).trans rfl, (blk_cell BK493.out 3).trans rfl, (blk_cell BK493.out 4).trans rfl, (blk_cell BK493.out 5).trans rfl, (blk_cell BK493.out 6).trans rfl, (blk_cell BK493.out 7).trans rfl⟩ (fun hHeld => ?_)
      clear hK K
      refine na_ ?_
      refine pure_ (i := 4) (N := some 39) (v := ?_) (a' := ?_) #[true, true, true, true, true] rfl rfl (by kernel_rfl) (fun _ _ _ h => h) (Or.inl ⟨by rfl, ?_⟩) ?_ ?_
      rotate_left
      ·
       intro w'
       go_simp
       with_reducible rfl
      rotate_left
      ·
       simp only [Act.put, List.setIfInBounds_toArray, List.set_cons_zero, List.set_cons_succ, i64_w, i32_w]
       rfl
      refine done_ (by kernel_rfl) ?_
      try go_wp2
      go_ret
      exact ⟨rr_, lb2_ HB.out GE493.out GE525.out⟩
     ·
      replace c34 := Bool.eq_false_iff.mpr c34
      subst c34
      have H1 : (none) = some r := by rw [if_neg (show ¬ (false = true) by decide)] at H; exact H
      clear H
      have H := H1
      clear H1
      exact absurd H (by simp)
end Go.Proofs.YtckigdechhmegaaDoor.Pr

namespace Go.Proofs.YtckigdechhmegaaDoorW.Opens
open Go.ChangeShapes Go.WideShapes Go.RowKit
open Go.Deep (open_slice choose_lt)
open Go.Proofs.YtckigdechhmegaaDoorW.PrintWords
set_option linter.unusedVariables false
set_option linter.unusedSimpArgs false
def Opn {α : Type} (P : Program) (t : TypeId) (d : Kd α) (wf : α → Prop) : Prop :=
 P.cellsOf t = d.sz ∧ ∀ (H : Type) (enc : TypeId × Value → H) (W : World) (fuel : Nat) (cs : List Value) (x : DataW H × List MemPlace),
  DataW.trod enc P W 0 (fun _ => true) true fuel t cs = some x → (∀ n ∈ x.1.weights P t, n ≤ reachBytes) → ∃ y, d.K W y cs ∧ wf y
theorem Opn.int {P : Program} {t : TypeId} {k : IntKind} (hc : P.cellsOf t = 1) (ht : P.underlying t = some (.int k)) : Opn P t (Kd.int k) (fun n => (Lit.int k n).wf = true) :=
 ⟨hc, fun H enc W fuel cs x h _ => by
  obtain ⟨m, rfl, rfl, hw⟩ := DataW.trod_int ht h
  exact ⟨m, rfl, hw⟩⟩
theorem Opn.bool {P : Program} {t : TypeId} (hc : P.cellsOf t = 1) (ht : P.underlying t = some .bool) : Opn P t Kd.bool (fun _ => True) :=
 ⟨hc, fun H enc W fuel cs x h _ => by
  obtain ⟨m, rfl, rfl⟩ := DataW.trod_bool ht h
  exact ⟨m, rfl, trivial⟩⟩
theorem Opn.string {P : Program} {t : TypeId} (hc : P.cellsOf t = 1) (ht : P.underlying t = some .string) : Opn P t Kd.string (fun s => s.size ≤ 140737488351232) :=
 ⟨hc, fun H enc W fuel cs x h hw => by
  obtain ⟨m, rfl, rfl, hm⟩ := DataW.trod_string ht h
  have := hw m.data.toList.length (by simp [DataW.weights])
  rw [Array.length_toList] at this
  exact ⟨m, rfl, this⟩⟩
theorem weightsAll_mem {H : Type} {P : Program} {e : TypeId} : ∀ {l : List (DataW H)} {d : DataW H}, d ∈ l → ∀ n ∈ d.weights P e, n ∈ DataW.weightsAll P e l
 | _ :: r, d, h, n, hn => by
  simp only [DataW.weightsAll, List.mem_append]
  rcases List.mem_cons.1 h with rfl | h
  ·
   exact .inl hn
  ·
   exact .inr (weightsAll_mem h n hn)
theorem Opn.slice {α : Type} (z : α) {P : Program} {t e : TypeId} {d : Kd α} {wf : α → Prop} {B : Nat} (hc : P.cellsOf t = 1) (ht : P.underlying t = some (.slice e)) (hB : P.bytesOf e = B) (h : Opn P e d wf) :
  Opn P t (Kd.slice e d) (fun xs => xs.length ≤ maxLen ∧ xs.length * B ≤ 140737488351232 ∧ ∀ y ∈ xs, wf y) :=
 ⟨hc, fun H enc W fuel cs x hf hw => by
  haveI : Inhabited α := ⟨z⟩
  rcases open_slice ht hf with ⟨rfl, rfl⟩ | ⟨a, len, cap, m, n, D, Pl, rfl, _, hl, hm, hmm, rfl, each⟩
  ·
   exact ⟨[], ⟨none, 0, rfl, Nat.le_refl _, rfl, by simp, fun h => absurd h (Nat.lt_irrefl 0)⟩, by simp, by simp, by simp⟩
  ·
   rw [if_pos rfl] at hmm
   subst hmm
   have hw0 : ∀ n ∈ DataW.weights P t (DataW.slice (H := H) ((List.range len).map D) ((List.range (m - len)).map fun j => D (len + j))), n ≤ reachBytes := hw
   have hww : ∀ i, i < len → ∀ n ∈ (D i).weights P e, n ≤ reachBytes := by
    intro i hi n hn
    refine hw0 n ?_
    simp only [DataW.weights, ht, List.mem_cons, List.mem_append]
    exact .inr (.inl (weightsAll_mem (List.mem_map.2 ⟨i, List.mem_range.2 hi, rfl⟩) n hn))
   have hB2 : len * B ≤ 140737488351232 := by
    have := hw0 ((len + (m - len)) * B) (by simp [DataW.weights, ht, hB])
    refine Nat.le_trans (Nat.mul_le_mul_right _ (by omega)) this
   have hx : ∀ i, i < len → ∃ y, ∃ c : List Value, c.length = d.sz ∧ d.K W y c ∧ wf y ∧ ∀ j u, c[j]? = some u → W.cell? (a.add (i * d.sz + j)) = some u := by
    intro i hi
    obtain ⟨cs', h1, h2⟩ := each i (by omega)
    obtain ⟨y, hy, hwy⟩ := h.2 H enc W n cs' _ h2 (hww i hi)
    obtain ⟨_, hlen, hcell⟩ := World.cells?_some h1
    rw [h.1] at hlen hcell
    refine ⟨y, cs', hlen, hy, hwy, fun j u hu => ?_⟩
    have hj : j < d.sz := by
     have := (List.getElem?_eq_some_iff.1 hu).1
     omega
    have := hcell j hj
    rw [add_add] at this
    exact this.trans hu
   obtain ⟨f, hf'⟩ := choose_lt hx
   refine ⟨(List.range len).map f, ⟨some a, m, by simp, by simpa using hl, by simp, by simp only [maxLen] at hm; simp; omega, fun _ => ⟨a, rfl, fun j p hj => ?_⟩⟩, ?_, ?_, ?_⟩
   ·
    rw [List.getElem?_map] at hj
    have hj' : j < len := by
     by_cases hjl : j < len
     ·
      exact hjl
     ·
      rw [List.getElem?_eq_none (by simp; omega)] at hj
      cases hj
    rw [List.getElem?_range hj'] at hj
    obtain rfl := Option.some.inj hj
    obtain ⟨c, h1, h2, _, h3⟩ := hf' j hj'
    exact ⟨c, h1, h2, h3⟩
   ·
    simp; omega
   ·
    simpa using hB2
   ·
    intro y hy
    obtain ⟨i, hi, rfl⟩ := List.mem_map.1 hy
    obtain ⟨c, _, _, h2, _⟩ := hf' i (List.mem_range.1 hi)
    exact h2⟩
def FOpn {α : Type} (P : Program) (fs : List Field) (off : Nat) (d : Kd α) (wf : α → Prop) : Prop :=
 ∀ (H : Type) (enc : TypeId × Value → H) (W : World) (fuel : Nat) (cs : List Value) (xs : List (DataW H × List MemPlace)),
  xs.length = fs.length → (∀ (i : Nat) (f : Field), fs[i]? = some f → DataW.trod enc P W 0 (fun _ => true) true fuel f.type ((cs.drop f.offset).take (P.cellsOf f.type)) = xs[i]?) →
  (∀ n ∈ DataW.weightsEach P (fs.map (·.type)) (xs.map (·.1)), n ≤ reachBytes) → ∃ y, d.K W y ((cs.drop off).take d.sz) ∧ wf y
theorem FOpn.one {α : Type} {P : Program} {f : Field} {off : Nat} {d : Kd α} {wf : α → Prop} (ho : f.offset = off) (h : Opn P f.type d wf) : FOpn P [f] off d wf := by
 intro H enc W fuel cs xs hl hx hw
 match xs, hl with
 | [x], _ =>
  have h0 := hx 0 f rfl
  rw [ho, h.1] at h0
  exact h.2 H enc W fuel _ x h0 (fun n hn => hw n (by simp only [List.map, DataW.weightsEach, List.mem_append]; exact .inl hn))
theorem FOpn.cons {α β : Type} {P : Program} {f : Field} {fs : List Field} {off : Nat} {d : Kd α} {d' : Kd β} {wf : α → Prop} {wf' : β → Prop} (ho : f.offset = off) (h : Opn P f.type d wf) (h' : FOpn P fs (off + d.sz) d' wf') :
  FOpn P (f :: fs) off (Kd.pair d d') (fun x => wf x.1 ∧ wf' x.2) := by
 intro H enc W fuel cs xs hl hx hw
 match xs, hl with
 | x :: xs, hl =>
  have h0 := hx 0 f rfl
  rw [ho, h.1] at h0
  have hw' : ∀ n ∈ x.1.weights P f.type ++ DataW.weightsEach P (fs.map (·.type)) (xs.map (·.1)), n ≤ reachBytes := hw
  obtain ⟨y, hy, hwy⟩ := h.2 H enc W fuel _ x h0 (fun n hn => hw' n (List.mem_append_left _ hn))
  obtain ⟨y', hy', hwy'⟩ := h' H enc W fuel cs xs (by simpa using hl) (fun i f' hf' => hx (i + 1) f' (by simpa using hf')) (fun n hn => hw' n (List.mem_append_right _ hn))
  refine ⟨(y, y'), ⟨_, _, ?_, hy, hy'⟩, hwy, hwy'⟩
  show (cs.drop off).take (d.sz + d'.sz) = _
  rw [List.take_add, List.drop_drop]
theorem Opn.struct {α β : Type} {P : Program} {t : TypeId} {fs : Array Field} {d : Kd α} {wf : α → Prop} (f : β → α) (g : α → β) (hfg : ∀ x, f (g x) = x) (hc : P.cellsOf t = d.sz) (ht : P.underlying t = some (.struct fs)) (h : FOpn P fs.toList 0 d wf) :
  Opn P t (Kd.iso d f) (fun x => wf (f x)) :=
 ⟨hc, fun H enc W fuel cs x hf hw => by
  obtain ⟨xs, n, rfl, rfl, hl, hxs, each⟩ := DataW.trod_struct ht hf
  obtain ⟨y, hy, hwy⟩ := h H enc W n cs xs (by simpa using hxs) (fun i f' hf' => each i f' (by simpa using hf')) (fun n hn => hw n (by simp only [DataW.weights, ht]; exact hn))
  rw [List.drop_zero, List.take_of_length_le (by rw [hl, hc]; exact Nat.le_refl _)] at hy
  exact ⟨g y, (by rw [← hfg y] at hy; exact hy), (by rw [← hfg y] at hwy; exact hwy)⟩⟩
theorem par_weights {H : Type} {P : Program} {ts : List TypeId} {ds : List (DataW H)} {j : Nat} {t : TypeId} {d : DataW H} (h : (DataW.weightsEach P ts ds).all (· ≤ reachBytes) = true) (ht : ts[j]? = some t) (hd : ds[j]? = some d) :
  ∀ n ∈ d.weights P t, n ≤ reachBytes := fun n hn => of_decide_eq_true (List.all_eq_true.1 h n (DataW.weights_mem_each ht hd n hn))
theorem par_struct {α : Type} {H : Type} {enc : TypeId × Value → H} {P : Program} {W : World} {r : Reach} {b0 : Nat} {t : TypeId} {fs : Array Field} {d : Kd α} {wf : α → Prop} {v : Value} {D : DataW H} {ps : List MemPlace}
  (ht : P.underlying t = some (.struct fs)) (ho : Opn P t d wf) (hv : Value.okWide P W r b0 t v) (hd : DataW.Trod enc P W 0 (fun _ => true) true t v D ps) (hw : ∀ n ∈ D.weights P t, n ≤ reachBytes) :
  ∃ (cs : List Value) (x : α), v = .agg cs.toArray ∧ d.K W x cs ∧ wf x := by
 obtain ⟨cs, rfl, _⟩ := okWide_struct ht hv
 obtain ⟨fuel, hf⟩ := hd
 obtain ⟨y, hy, hwy⟩ := ho.2 H enc W fuel _ _ hf hw
 exact ⟨cs.toList, y, by simp, hy, hwy⟩
end Go.Proofs.YtckigdechhmegaaDoorW.Opens

namespace Go.Proofs.YtckigdechhmegaaDoor.Pr
open Go.RowKit Go.Proofs.YtckigdechhmegaaDoorW.PrintWords Go.Proofs.YtckigdechhmegaaDoorW.PrintLast Go.Proofs.YtckigdechhmegaaDoorW.Opens
set_option linter.unusedVariables false
structure S25 where
 f0 : (List S84)
 f1 : (List Bool)
 f2 : (List Bool)
 f3 : Int
 f4 : Int
def k25 : Kd S25 := Kd.iso (Kd.pair (Kd.slice 84 k84) (Kd.pair (Kd.slice 4 Kd.bool) (Kd.pair (Kd.slice 4 Kd.bool) (Kd.pair (Kd.int .i64) (Kd.int .i64))))) (fun x : S25 => (x.f0, x.f1, x.f2, x.f3, x.f4))
structure S27 where
 f0 : ByteArray
 f1 : ByteArray
 f2 : Int
def k27 : Kd S27 := Kd.iso (Kd.pair Kd.string (Kd.pair Kd.string (Kd.int .i64))) (fun x : S27 => (x.f0, x.f1, x.f2))
structure S29 where
 f0 : S25
 f1 : S27
def k29 : Kd S29 := Kd.iso (Kd.pair k25 k27) (fun x : S29 => (x.f0, x.f1))
def wf84 (x : S84) : Prop := (Lit.int .i64 x.f0).wf = true ∧ (Lit.int .i64 x.f1).wf = true ∧ (Lit.int .i64 x.f2).wf = true ∧ (Lit.int .i64 x.f3).wf = true ∧ (Lit.int .i64 x.f4).wf = true
theorem opn84 : Opn Tryd.prog 84 k84 wf84 := Opn.struct (fun x : S84 => (x.f0, x.f1, x.f2, x.f3, x.f4)) (fun p => ⟨p.1, p.2.1, p.2.2.1, p.2.2.2.1, p.2.2.2.2⟩) (fun _ => rfl) (by kernel_rfl) Tryd.underlying84 (FOpn.cons rfl (Opn.int (by kernel_rfl) Tryd.underlying3) (FOpn.cons rfl (Opn.int (by kernel_rfl) Tryd.underlying3) (FOpn.cons rfl (Opn.int (by kernel_rfl) Tryd.underlying3) (FOpn.cons rfl (Opn.int (by kernel_rfl) Tryd.underlying3) (FOpn.one rfl (Opn.int (by kernel_rfl) Tryd.underlying3))))))
def wfL84 (l : List S84) : Prop := l.length ≤ maxLen ∧ l.length * 40 ≤ 140737488351232 ∧ ∀ y ∈ l, wf84 y
theorem opnL22 : Opn Tryd.prog 22 (Kd.slice 84 k84) wfL84 := Opn.slice z84 (by kernel_rfl) Tryd.underlying22 (by kernel_rfl) opn84
def wfL4 (l : List Bool) : Prop := l.length ≤ maxLen ∧ l.length * 1 ≤ 140737488351232 ∧ ∀ y ∈ l, True
theorem opnL23 : Opn Tryd.prog 23 (Kd.slice 4 Kd.bool) wfL4 := Opn.slice false (by kernel_rfl) Tryd.underlying23 (by kernel_rfl) (Opn.bool (by kernel_rfl) Tryd.underlying4)
def wf25 (x : S25) : Prop := wfL84 x.f0 ∧ wfL4 x.f1 ∧ wfL4 x.f2 ∧ (Lit.int .i64 x.f3).wf = true ∧ (Lit.int .i64 x.f4).wf = true
theorem opn25 : Opn Tryd.prog 25 k25 wf25 := Opn.struct (fun x : S25 => (x.f0, x.f1, x.f2, x.f3, x.f4)) (fun p => ⟨p.1, p.2.1, p.2.2.1, p.2.2.2.1, p.2.2.2.2⟩) (fun _ => rfl) (by kernel_rfl) Tryd.underlying25 (FOpn.cons rfl opnL22 (FOpn.cons rfl opnL23 (FOpn.cons rfl opnL23 (FOpn.cons rfl (Opn.int (by kernel_rfl) Tryd.underlying3) (FOpn.one rfl (Opn.int (by kernel_rfl) Tryd.underlying3))))))
def wf27 (x : S27) : Prop := x.f0.size ≤ 140737488351232 ∧ x.f1.size ≤ 140737488351232 ∧ (Lit.int .i64 x.f2).wf = true
theorem opn27 : Opn Tryd.prog 27 k27 wf27 := Opn.struct (fun x : S27 => (x.f0, x.f1, x.f2)) (fun p => ⟨p.1, p.2.1, p.2.2⟩) (fun _ => rfl) (by kernel_rfl) Tryd.underlying27 (FOpn.cons rfl (Opn.string (by kernel_rfl) Tryd.underlying9) (FOpn.cons rfl (Opn.string (by kernel_rfl) Tryd.underlying9) (FOpn.one rfl (Opn.int (by kernel_rfl) Tryd.underlying3))))
def wf29 (x : S29) : Prop := wf25 x.f0 ∧ wf27 x.f1
theorem opn29 : Opn Tryd.prog 29 k29 wf29 := Opn.struct (fun x : S29 => (x.f0, x.f1)) (fun p => ⟨p.1, p.2⟩) (fun _ => rfl) (by kernel_rfl) Tryd.underlying29 (FOpn.cons rfl opn25 (FOpn.one rfl opn27))
theorem kq29_open {w : World} {x : S29} {cs : List Value} (h : k29.K w x cs) : ∃ (A0 : Option Addr) (c0 : Nat) (A1 : Option Addr) (c1 : Nat) (A2 : Option Addr) (c2 : Nat), cs = [.slice A0 x.f0.f0.length c0, .slice A1 x.f0.f1.length c1, .slice A2 x.f0.f2.length c2, .int .i64 x.f0.f3, .int .i64 x.f0.f4, .string x.f1.f0, .string x.f1.f1, .int .i64 x.f1.f2] ∧ x.f0.f0.length ≤ c0 ∧ Kd.C k84 w A0 x.f0.f0.length x.f0.f0 ∧ x.f0.f1.length ≤ c1 ∧ Kd.C Kd.bool w A1 x.f0.f1.length x.f0.f1 ∧ x.f0.f2.length ≤ c2 ∧ Kd.C Kd.bool w A2 x.f0.f2.length x.f0.f2 := by
 obtain ⟨_, _, rfl, ⟨_, _, rfl, ⟨A0, c0, rfl, hl0, hC0⟩, ⟨_, _, rfl, ⟨A1, c1, rfl, hl1, hC1⟩, ⟨_, _, rfl, ⟨A2, c2, rfl, hl2, hC2⟩, ⟨_, _, rfl, rfl, rfl⟩⟩⟩⟩, ⟨_, _, rfl, rfl, ⟨_, _, rfl, rfl, rfl⟩⟩⟩ := h
 exact ⟨A0, c0, A1, c1, A2, c2, rfl, hl0, hC0, hl1, hC1, hl2, hC2⟩
def FnExactFormatConsole.Pure : Prop := ∀ (x0 : S29), wf29 x0 → ∃ k, laws_FnExactFormatConsole.f k x0.f0.f0 x0.f0.f1 x0.f0.f2 x0.f0.f3 x0.f0.f4 x0.f1.f0 x0.f1.f1 x0.f1.f2 = some true
end Go.Proofs.YtckigdechhmegaaDoor.Pr

namespace Go.Proofs.YtckigdechhmegaaDoor.Pr
open Go.RowKit Go.Proofs.YtckigdechhmegaaDoorW.PrintWords Go.Proofs.YtckigdechhmegaaDoorW.PrintLast Go.Proofs.YtckigdechhmegaaDoorW.PrintMore
attribute [local go_sem] max2_int min2_int max_two min_two max_three min_three max_four min_four   -- for this text's walks alone
set_option linter.unusedVariables false
set_option linter.unusedSimpArgs false
structure ExS (w : World) (base g : Nat) (vL vV vD : Value) (L : List S53) (V D : List Bool) (p t : Int) : Prop where
 blk : w.heap[g]? = some (.cells #[vL, vV, vD, .int .i64 p, .int .i64 t] 34 (0, 0))
 gb : base ≤ g
 rL : Kd.R k53 53 w base (fun _ => True) vL L
 rV : Kd.R Kd.bool 4 w base (fun k => some k ≠ vD.ownBlock) vV V
 rD : Kd.R Kd.bool 4 w base (fun k => some k ≠ vV.ownBlock) vD D
namespace ExS
variable {w w1 : World} {base g : Nat} {vL vV vD : Value} {L : List S53} {V D : List Bool} {p t : Int}
end ExS
end Go.Proofs.YtckigdechhmegaaDoor.Pr

namespace Go.Proofs.YtckigdechhmegaaDoor.Pr.Pure
open Go.RowKit Go.Proofs.YtckigdechhmegaaDoorW.PrintWords Go.Proofs.YtckigdechhmegaaDoorW.PrintLast Go.Proofs.YtckigdechhmegaaDoorW.PrintMore  Go.Lib
set_option linter.unusedVariables false
set_option linter.unusedSimpArgs false
theorem w64 {x : Int} (h1 : -9223372036854775808 ≤ x) (h2 : x ≤ 9223372036854775807) : wrap64 x = x := by
 unfold wrap64
 omega
theorem set_map_step {α β : Type} (f : α → β) (l : List α) (z : β) (i : Nat) (hi : i < l.length) (a : α) (ha : l[i]? = some a) :
  ((l.take i).map f ++ List.replicate (l.length - i) z).set i (f a) = (l.take (i + 1)).map f ++ List.replicate (l.length - (i + 1)) z := by
 have h1 : ((l.take i).map f).length = i := by simp; omega
 rw [List.set_append_right _ _ (by omega), h1, Nat.sub_self]
 obtain ⟨m, hm⟩ : ∃ m, l.length - i = m + 1 := ⟨l.length - i - 1, by omega⟩
 rw [hm, show l.length - (i + 1) = m by omega, List.replicate_succ, List.set_cons_zero, List.take_add_one, ha]
 simp
theorem getD_some {α : Type} (l : List α) (z : α) (i : Nat) (h : i < l.length) : l[i]? = some (l.getD i z) := by
 rw [List.getD_eq_getElem?_getD, List.getElem?_eq_getElem h]
 rfl
theorem obs {α β : Type} (a : α) (f : α → Option β) : (some a).bind f = f a := id (Option.bind_some a f)
def M (l : List UInt8) : ByteArray := ⟨l.toArray⟩
theorem ex_M (b : ByteArray) : ∃ l, b = M l := ⟨b.data.toList, by unfold M; rw [Array.toArray_toList]⟩
theorem M_size (l : List UInt8) : (M l).size = l.length := by simp [M, ByteArray.size]
theorem M_data (l : List UInt8) : (M l).data.toList = l := by simp [M]
theorem M_inj {a b : List UInt8} : M a = M b ↔ a = b := ⟨fun h => by
 have := congrArg (fun x : ByteArray => x.data.toList) h
 simpa [M] using this, fun h => by rw [h]⟩
theorem M_toList (l : List UInt8) : (M l).toList = l := by rw [ByteArray.toList_eq, M_data]
theorem sc_M (a b : List UInt8) : sc (M a) (M b) = M (a ++ b) := by
 apply ByteArray.ext
 unfold sc M
 rw [ByteArray.data_append]
 simp
theorem sx_M (a : List UInt8) (i j : Nat) : sx (M a) i j = M ((a.drop i).take (j - i)) := by
 apply ByteArray.ext
 unfold sx M
 rw [ByteArray.data_extract]
 simp [List.extract_eq_take_drop]
theorem bt_M (l : List UInt8) (i : Nat) : bt (M l) (i : Int) = ((l.getD i 0).toNat : Int) := by
 have hb := rd_bytesOf (M l) (i : Int)
 rw [← hb]
 unfold rd bytesOf
 rw [M_data, Int.toNat_natCast, List.getD_eq_getElem?_getD, List.getD_eq_getElem?_getD, List.getElem?_map]
 cases l[i]? <;> rfl
theorem lit_M (l : List UInt8) : (⟨l.toArray⟩ : ByteArray) = M l := rfl
theorem drop_at (l : List UInt8) (i : Nat) (h : i < l.length) : l.drop i = l.getD i 0 :: l.drop (i + 1) := by
 rw [List.drop_eq_getElem_cons h, List.getD_eq_getElem?_getD, List.getElem?_eq_getElem h]
 rfl
theorem byte_eq (x : UInt8) (c : Nat) (hc : c < 256) : ((x.toNat : Int) = (c : Int)) ↔ x = UInt8.ofNat c := by
 constructor
 ·
  intro h
  apply UInt8.toNat_inj.1
  rw [UInt8.toNat_ofNat']
  omega
 ·
  rintro rfl
  rw [UInt8.toNat_ofNat']
  omega
theorem byte_rng (x : UInt8) : 0 ≤ (x.toNat : Int) ∧ (x.toNat : Int) ≤ 255 := by
 have := x.toNat_lt
 omega
theorem l1In_eq (a b c : Int) : spec_l1In.f a b c = some (decide (b ≤ a ∧ a ≤ c)) := by
 unfold spec_l1In.f
 by_cases h : b ≤ a
 ·
  rw [if_pos h]; simp [h]
 ·
  rw [if_neg (by omega)]; simp [h]
theorem within_eq (a b c : Int) : impl_within.f a b c = some (decide (b ≤ a ∧ a ≤ c)) := by
 unfold impl_within.f
 by_cases h : b ≤ a
 ·
  rw [if_pos h]; simp [h]
 ·
  rw [if_neg (by omega)]; simp [h]
theorem dec_of {p : Prop} [Decidable p] {b : Bool} (h : b = true ↔ p) : some b = some (decide p) := by
 congr 1
 rw [Bool.eq_iff_iff, h, decide_eq_true_eq]
end Go.Proofs.YtckigdechhmegaaDoor.Pr.Pure

namespace Go.Proofs.YtckigdechhmegaaDoor.Log
open Go.Lib
set_option linter.unusedVariables false
theorem digit_mem (u : Nat) : ∀ b ∈ decDigits u, 48 ≤ b.toNat ∧ b.toNat ≤ 57 := by
 induction u using Nat.strongRecOn with
 | _ u ih =>
  intro b hb
  by_cases h : u < 10
  ·
   rw [decDigits, dif_pos h] at hb
   obtain rfl := List.mem_singleton.1 hb
   simp
   omega
  ·
   rw [decDigits, dif_neg h] at hb
   rcases List.mem_append.1 hb with hb | hb
   ·
    exact ih _ (by omega) b hb
   ·
    obtain rfl := List.mem_singleton.1 hb
    simp
    omega
theorem digits_len_aux (j : Nat) : ∀ u : Nat, u < 10 ^ (j + 1) → (decDigits u).length ≤ j + 1 := by
 induction j with
 | zero =>
  intro u h
  rw [decDigits, dif_pos (by omega)]
  simp
 | succ j ih =>
  intro u h
  by_cases h1 : u < 10
  ·
   rw [decDigits, dif_pos h1]
   simp
  ·
   rw [decDigits, dif_neg h1]
   have : u / 10 < 10 ^ (j + 1) := by
    rw [Nat.pow_succ] at h
    omega
   have := ih _ this
   simp
   omega
abbrev B := List UInt8
def upto (c : UInt8) : B → B
 | [] => []
 | x :: l => if x = c then [] else x :: upto c l
def after (c : UInt8) : B → B
 | [] => []
 | x :: l => if x = c then l else after c l
theorem upto_app {c : UInt8} : ∀ {l : B} (r : B), c ∉ l → upto c (l ++ c :: r) = l
 | [], r, _ => by simp [upto]
 | x :: l, r, h => by
  have h1 : x ≠ c := fun e => h (by simp [e])
  have h2 : c ∉ l := fun e => h (by simp [e])
  simp [upto, h1, upto_app r h2]
theorem after_app {c : UInt8} : ∀ {l : B} (r : B), c ∉ l → after c (l ++ c :: r) = r
 | [], r, _ => by simp [after]
 | x :: l, r, h => by
  have h1 : x ≠ c := fun e => h (by simp [e])
  have h2 : c ∉ l := fun e => h (by simp [e])
  simp [after, h1, after_app r h2]
theorem upto_none {c : UInt8} : ∀ {l : B}, c ∉ l → upto c l = l
 | [], _ => rfl
 | x :: l, h => by
  have h1 : x ≠ c := fun e => h (by simp [e])
  have h2 : c ∉ l := fun e => h (by simp [e])
  simp [upto, h1, upto_none h2]
theorem after_none {c : UInt8} : ∀ {l : B}, c ∉ l → after c l = []
 | [], _ => rfl
 | x :: l, h => by
  have h1 : x ≠ c := fun e => h (by simp [e])
  have h2 : c ∉ l := fun e => h (by simp [e])
  simp [after, h1, after_none h2]
theorem cut_at {c : UInt8} : ∀ {l : B}, c ∈ l → l = upto c l ++ c :: after c l
 | [], h => by simp at h
 | x :: l, h => by
  by_cases e : x = c
  ·
   simp [upto, after, e]
  ·
   have h2 : c ∈ l := by
    rcases List.mem_cons.1 h with h | h
    ·
     exact absurd h.symm e
    ·
     exact h
   have := cut_at h2
   simp only [upto, after, e, if_false, List.cons_append]
   rw [← this]
theorem upto_len {c : UInt8} : ∀ (l : B), (upto c l).length ≤ l.length
 | [] => by simp [upto]
 | x :: l => by
  by_cases e : x = c
  ·
   simp [upto, e]
  ·
   simp only [upto, e, if_false, List.length_cons]
   have := upto_len (c := c) l
   omega
theorem upto_lt {c : UInt8} {l : B} (h : c ∈ l) : (upto c l).length < l.length := by
 have := congrArg List.length (cut_at h)
 simp at this
 omega
theorem upto_take (c : UInt8) : ∀ (l : B), upto c l = l.take (upto c l).length
 | [] => by simp [upto]
 | x :: l => by
  by_cases e : x = c
  ·
   simp [upto, e]
  ·
   simp only [upto, e, if_false, List.length_cons, List.take_succ_cons]
   rw [← upto_take c l]
theorem after_drop (c : UInt8) {l : B} (h : c ∈ l) : after c l = l.drop ((upto c l).length + 1) := by
 have e := cut_at h
 generalize upto c l = u at e ⊢
 generalize after c l = v at e ⊢
 subst e
 simp
theorem index_some {c : UInt8} : ∀ {l : B}, c ∈ l → indexByte l c = ((upto c l).length : Int)
 | [], h => by simp at h
 | x :: l, h => by
  by_cases e : x = c
  ·
   simp [upto, e, indexByte]
  ·
   have h2 : c ∈ l := by
    rcases List.mem_cons.1 h with h | h
    ·
     exact absurd h.symm e
    ·
     exact h
   have ih := index_some h2
   have hb : (x == c) = false := by simpa using e
   have hn : (indexByte l c == -1) = false := by
    rw [ih, beq_eq_false_iff_ne]
    omega
   simp only [indexByte, hb, hn, upto, e, if_false, List.length_cons, Bool.false_eq_true]
   rw [ih]
   omega
theorem index_none {c : UInt8} : ∀ {l : B}, c ∉ l → indexByte l c = -1
 | [], _ => rfl
 | x :: l, h => by
  have h1 : x ≠ c := fun e => h (by simp [e])
  have h2 : c ∉ l := fun e => h (by simp [e])
  have hb : (x == c) = false := by simpa using h1
  simp [indexByte, hb, index_none h2]
def sum (l : B) : Nat := l.foldl (fun n b => (41 * n + b.toNat + 1) % 999979) 7
theorem sum_fold_lt (l : B) : ∀ n, n < 999979 → l.foldl (fun n b => (41 * n + b.toNat + 1) % 999979) n < 999979 := by
 induction l with
 | nil => intro n h; exact h
 | cons x l ih => intro n h; exact ih _ (Nat.mod_lt _ (by omega))
theorem sum_lt (l : B) : sum l < 999979 := sum_fold_lt l 7 (by omega)
def Plain (l : B) : Prop := ∀ b ∈ l, 32 ≤ b.toNat ∧ b.toNat ≤ 126 ∧ b ≠ 35
instance (l : B) : Decidable (Plain l) := inferInstanceAs (Decidable (∀ b ∈ l, 32 ≤ b.toNat ∧ b.toNat ≤ 126 ∧ b ≠ 35))
def Ok (c r : B) : Prop := 1 ≤ c.length ∧ c.length ≤ 160 ∧ Plain c ∧ (64 : UInt8) ∉ c ∧ r.length ≤ 200 ∧ Plain r
instance (c r : B) : Decidable (Ok c r) := inferInstanceAs (Decidable (_ ∧ _))
def body (k : Nat) (c r : B) : B := decDigits k ++ 32 :: (c ++ 64 :: r)
def line (k : Nat) (c r : B) : B := body k c r ++ 35 :: decDigits (sum (body k c r))
def enc (k : Nat) (c r : B) : B := line k c r ++ [10]
theorem body_no {k : Nat} {c r : B} (h : Ok c r) (x : UInt8) (hx : x = 10 ∨ x = 35) : x ∉ body k c r := by
 intro hm
 rcases List.mem_append.1 hm with hm | hm
 ·
  have := digit_mem k x hm
  rcases hx with rfl | rfl
  ·
   exact absurd this.1 (by decide)
  ·
   exact absurd this.1 (by decide)
 ·
  rcases List.mem_cons.1 hm with hm | hm
  ·
   rcases hx with rfl | rfl <;> exact absurd hm (by decide)
  ·
   rcases List.mem_append.1 hm with hm | hm
   ·
    have := h.2.2.1 x hm
    rcases hx with rfl | rfl
    ·
     exact absurd this.1 (by decide)
    ·
     exact this.2.2 rfl
   ·
    rcases List.mem_cons.1 hm with hm | hm
    ·
     rcases hx with rfl | rfl <;> exact absurd hm (by decide)
    ·
     have := h.2.2.2.2.2 x hm
     rcases hx with rfl | rfl
     ·
      exact absurd this.1 (by decide)
     ·
      exact this.2.2 rfl
theorem line_no {k : Nat} {c r : B} (h : Ok c r) : (10 : UInt8) ∉ line k c r := by
 intro hm
 rcases List.mem_append.1 hm with hm | hm
 ·
  exact body_no h 10 (.inl rfl) hm
 ·
  rcases List.mem_cons.1 hm with hm | hm
  ·
   exact absurd hm (by decide)
  ·
   exact absurd (digit_mem _ _ hm).1 (by decide)
theorem dig_no (k : Nat) (x : UInt8) (h : x.toNat < 48) : x ∉ decDigits k := fun hm => by
 have := (digit_mem _ _ hm).1
 omega
theorem line_text {k : Nat} {c r : B} (h : Ok c r) : upto 35 (line k c r) = body k c r := upto_app _ (body_no h 35 (.inr rfl))
theorem body_rest {k : Nat} {c r : B} : after 32 (body k c r) = c ++ 64 :: r := after_app _ (dig_no k 32 (by decide))
theorem rest_cmd {c r : B} (h : Ok c r) : upto 64 (c ++ 64 :: r) = c := upto_app _ h.2.2.2.1
theorem rest_rep {c r : B} (h : Ok c r) : after 64 (c ++ 64 :: r) = r := after_app _ h.2.2.2.1
theorem body_len (k : Nat) (c r : B) : (body k c r).length = (decDigits k).length + 2 + c.length + r.length := by
 simp [body]
 omega
theorem enc_len {k : Nat} {c r : B} (hk : k < 60) (h : Ok c r) : (enc k c r).length ≤ 372 ∧ 1 ≤ (enc k c r).length := by
 have h1 := digits_len_aux 1 k (by omega)
 have h2 := digits_len_aux 5 (sum (body k c r)) (by have := sum_lt (body k c r); omega)
 have h3 := h.2.1
 have h4 := h.2.2.2.2.1
 have := body_len k c r
 simp only [enc, line, List.length_append, List.length_cons, List.length_nil]
 omega
def dec (k : Nat) (s : B) : Option (B × B × Nat) :=
 if (10 : UInt8) ∈ s ∧ k < 60 ∧ Ok (upto 64 (after 32 (upto 35 (upto 10 s)))) (after 64 (after 32 (upto 35 (upto 10 s)))) ∧
   enc k (upto 64 (after 32 (upto 35 (upto 10 s)))) (after 64 (after 32 (upto 35 (upto 10 s)))) = upto 10 s ++ [10]
 then some (upto 64 (after 32 (upto 35 (upto 10 s))), after 64 (after 32 (upto 35 (upto 10 s))), (upto 10 s).length + 1) else none
theorem dec_some {k : Nat} {s c r : B} {n : Nat} : dec k s = some (c, r, n) ↔ k < 60 ∧ Ok c r ∧ enc k c r <+: s ∧ n = (enc k c r).length := by
 unfold dec
 constructor
 ·
  intro h
  split at h
  ·
   rename_i hc
   obtain ⟨h1, h2, h3, h4⟩ := hc
   simp only [Option.some.injEq, Prod.mk.injEq] at h
   obtain ⟨rfl, rfl, rfl⟩ := h
   refine ⟨h2, h3, ?_, ?_⟩
   ·
    rw [h4]
    refine ⟨after 10 s, ?_⟩
    rw [List.append_assoc, List.singleton_append, ← cut_at h1]
   ·
    rw [h4]
    simp
  ·
   cases h
 ·
  rintro ⟨h1, h2, ⟨t, ht⟩, rfl⟩
  have e : s = line k c r ++ 10 :: t := by rw [← ht]; simp [enc]
  have hu : upto 10 s = line k c r := by rw [e]; exact upto_app _ (line_no h2)
  have hm : (10 : UInt8) ∈ s := by rw [e]; simp
  rw [hu, line_text h2, body_rest, rest_cmd h2, rest_rep h2, if_pos ⟨hm, h1, h2, rfl⟩]
  simp [enc]
theorem dec_le {k : Nat} {s c r : B} {n : Nat} (h : dec k s = some (c, r, n)) : n ≤ s.length ∧ 1 ≤ n ∧ n ≤ 372 := by
 obtain ⟨h1, h2, h3, rfl⟩ := dec_some.1 h
 have := enc_len h1 h2
 exact ⟨h3.length_le, this.2, this.1⟩
theorem dec_app {k : Nat} {s : B} {x : B × B × Nat} (t : B) (h : dec k s = some x) : dec k (s ++ t) = some x := by
 obtain ⟨c, r, n⟩ := x
 obtain ⟨h1, h2, h3, h4⟩ := dec_some.1 h
 exact dec_some.2 ⟨h1, h2, h3.trans (List.prefix_append _ _), h4⟩
theorem dec_cut {k : Nat} {s : B} {x : B × B × Nat} {m : Nat} (h : dec k s = some x) (hm : x.2.2 ≤ m) : dec k (s.take m) = some x := by
 obtain ⟨c, r, n⟩ := x
 obtain ⟨h1, h2, h3, rfl⟩ := dec_some.1 h
 exact dec_some.2 ⟨h1, h2, List.prefix_take_iff.2 ⟨h3, hm⟩, rfl⟩
theorem dec_nil (k : Nat) : dec k [] = none := by simp [dec]
def all : Nat → Nat → B → List (B × B × Nat)
 | 0, _, _ => []
 | m + 1, k, s => match dec k s with
  | none => []
  | some x => x :: all m (k + 1) (s.drop x.2.2)
def tot (l : List (B × B × Nat)) : Nat := (l.map (·.2.2)).sum
theorem all_nil (m k : Nat) : all m k [] = [] := by
 cases m with
 | zero => rfl
 | succ m => simp [all, dec_nil]
theorem all_none {m k : Nat} {s : B} (h : dec k s = none) : all m k s = [] := by
 cases m with
 | zero => rfl
 | succ m => simp [all, h]
theorem all_some {m k : Nat} {s : B} {x : B × B × Nat} (h : dec k s = some x) : all (m + 1) k s = x :: all m (k + 1) (s.drop x.2.2) := by simp [all, h]
theorem tot_cons (x : B × B × Nat) (l : List (B × B × Nat)) : tot (x :: l) = x.2.2 + tot l := by simp [tot]
theorem all_len (m : Nat) : ∀ (k : Nat) (s : B), (all m k s).length ≤ m := by
 induction m with
 | zero => intro k s; simp [all]
 | succ m ih =>
  intro k s
  cases h : dec k s with
  | none => rw [all_none h]; simp
  | some x => rw [all_some h]; simp; exact ih _ _
theorem all_tot372 (m : Nat) : ∀ (k : Nat) (s : B), tot (all m k s) ≤ 372 * m := by
 induction m with
 | zero => intro k s; simp [all, tot]
 | succ m ih =>
  intro k s
  cases h : dec k s with
  | none => rw [all_none h]; simp [tot]
  | some x =>
   obtain ⟨c, r, n⟩ := x
   have h1 := (dec_le h).2.2
   have := ih (k + 1) (s.drop n)
   rw [all_some h, tot_cons]
   simp only
   omega
theorem ends_iff (m : Nat) : ∀ (k : Nat) (D P : B), (∃ j, j ≤ (all m k (D ++ P)).length ∧ tot ((all m k (D ++ P)).take j) = D.length) ↔ tot (all m k D) = D.length := by
 induction m with
 | zero => intro k D P; simp [all, tot]
 | succ m ih =>
  intro k D P
  by_cases h0 : D = []
  ·
   subst h0
   simp only [List.length_nil, all_nil]
   exact ⟨fun _ => rfl, fun _ => ⟨0, Nat.zero_le _, rfl⟩⟩
  have hD : 0 < D.length := List.length_pos_iff.2 h0
  have none_D : dec k D = none → ¬ tot (all (m + 1) k D) = D.length := fun h e => by
   rw [all_none h] at e
   simp [tot] at e
   omega
  cases hs : dec k (D ++ P) with
  | none =>
   have hd : dec k D = none := by
    cases hd : dec k D with
    | none => rfl
    | some x => rw [dec_app P hd] at hs; cases hs
   rw [all_none hs]
   refine ⟨?_, fun e => absurd e (none_D hd)⟩
   rintro ⟨j, hj, e⟩
   simp [tot] at e
   omega
  | some x =>
   obtain ⟨c, r, n⟩ := x
   have hn := dec_le hs
   rw [all_some hs]
   by_cases hc : n ≤ D.length
   ·
    have hd : dec k D = some (c, r, n) := by
     have := dec_cut (m := D.length) hs hc
     rwa [List.take_left] at this
    rw [all_some hd, tot_cons]
    simp only
    have e := ih (k + 1) (D.drop n) P
    rw [← List.drop_append_of_le_length hc] at e
    constructor
    ·
     rintro ⟨j, hj, h⟩
     cases j with
     | zero => simp [tot] at h; omega
     | succ j =>
      rw [List.take_succ_cons, tot_cons] at h
      simp only at h
      have := e.1 ⟨j, by simpa using hj, by rw [List.length_drop]; omega⟩
      rw [List.length_drop] at this
      omega
    ·
     intro h
     obtain ⟨j, hj, h'⟩ := e.2 (by rw [List.length_drop]; omega)
     rw [List.length_drop] at h'
     refine ⟨j + 1, by simpa using hj, ?_⟩
     rw [List.take_succ_cons, tot_cons]
     simp only
     omega
   ·
    have hd : dec k D = none := by
     cases hd : dec k D with
     | none => rfl
     | some x =>
      obtain ⟨c', r', n'⟩ := x
      rw [dec_app P hd] at hs
      have := dec_le hd
      simp only [Option.some.injEq, Prod.mk.injEq] at hs
      omega
    refine ⟨?_, fun e => absurd e (none_D hd)⟩
    rintro ⟨j, hj, h⟩
    cases j with
    | zero => simp [tot] at h; omega
    | succ j =>
     rw [List.take_succ_cons, tot_cons] at h
     simp only at h
     omega
end Go.Proofs.YtckigdechhmegaaDoor.Log

namespace Go.Proofs.YtckigdechhmegaaDoor.Pr.Pure
open Go.RowKit Go.Proofs.YtckigdechhmegaaDoorW.PrintWords Go.Proofs.YtckigdechhmegaaDoorW.PrintLast Go.Proofs.YtckigdechhmegaaDoorW.PrintMore Go.Proofs.YtckigdechhmegaaDoor.Log Go.Lib
set_option linter.unusedVariables false
set_option linter.unusedSimpArgs false
theorem plain_nil : Plain [] := fun b h => by simp at h
theorem plain_cons (x : UInt8) (l : List UInt8) : Plain (x :: l) ↔ (32 ≤ x.toNat ∧ x.toNat ≤ 126 ∧ x ≠ 35) ∧ Plain l := by simp [Plain]
theorem isPlain_l0 (l : List UInt8) (hl : l.length ≤ 4611686018427387904) (d : Nat) : ∀ (k i : Nat), i + d = l.length → d < k → impl_isPlain.l0 k (M l) l.length i = some (decide (Plain (l.drop i))) := by
 induction d with
 | zero =>
  intro k i hd hk
  obtain ⟨k, rfl⟩ : ∃ m, k = m + 1 := ⟨k - 1, by omega⟩
  simp only [impl_isPlain.l0]
  rw [if_neg (by omega), List.drop_of_length_le (by omega)]
  simp [plain_nil]
 | succ d ih =>
  intro k i hd hk
  obtain ⟨k, rfl⟩ : ∃ m, k = m + 1 := ⟨k - 1, by omega⟩
  simp only [impl_isPlain.l0]
  rw [if_pos (by omega), if_pos (by omega), if_pos (by rw [M_size]; omega), bt_M, drop_at l i (by omega)]
  generalize l.getD i 0 = x
  have hx := byte_rng x
  rw [w64 (by omega) (by omega), w64 (by omega) (by omega), within_eq]
  simp only [Option.bind_some, decide_eq_true_eq]
  have ih' := ih k (i + 1) (by omega) (by omega)
  rw [show ((i + 1 : Nat) : Int) = (i : Int) + 1 by omega] at ih'
  by_cases h1 : (32 : Int) ≤ x.toNat ∧ (x.toNat : Int) ≤ 126
  ·
   rw [if_pos h1]
   by_cases h2 : (x.toNat : Int) = 35
   ·
    rw [if_pos h2]
    have : x = 35 := (byte_eq x 35 (by omega)).1 h2
    subst this
    simp [plain_cons]
   ·
    rw [if_neg h2, ih']
    have h3 : x ≠ 35 := fun e => h2 (by rw [e]; rfl)
    have : (Plain (x :: l.drop (i + 1)) ↔ Plain (l.drop (i + 1))) := by
     rw [plain_cons]
     exact ⟨fun h => h.2, fun h => ⟨⟨by omega, by omega, h3⟩, h⟩⟩
    simp [this]
  ·
   rw [if_neg h1]
   have : ¬ Plain (x :: l.drop (i + 1)) := by
    rw [plain_cons]
    rintro ⟨⟨a, b, _⟩, _⟩
    exact h1 ⟨by omega, by omega⟩
   simp [this]
theorem isPlain_eq (l : List UInt8) (hl : l.length ≤ 4611686018427387904) {k : Nat} (hk : l.length < k) : impl_isPlain.f k (M l) = some (decide (Plain l)) := by
 unfold impl_isPlain.f
 rw [M_size]
 simpa using isPlain_l0 l hl l.length k 0 (by omega) hk
theorem plain_l0 (l : List UInt8) (m : Int) (hl : l.length ≤ 4611686018427387904) (d : Nat) : ∀ (k i : Nat), i + d = l.length → d < k → spec_l27Plain.l0 k (M l) m i = some (decide (Plain (l.drop i) ∧ (l.length : Int) ≤ m)) := by
 induction d with
 | zero =>
  intro k i hd hk
  obtain ⟨k, rfl⟩ : ∃ m, k = m + 1 := ⟨k - 1, by omega⟩
  simp only [spec_l27Plain.l0]
  rw [M_size, if_neg (by omega), List.drop_of_length_le (by omega)]
  simp [plain_nil]
 | succ d ih =>
  intro k i hd hk
  obtain ⟨k, rfl⟩ : ∃ m, k = m + 1 := ⟨k - 1, by omega⟩
  simp only [spec_l27Plain.l0]
  rw [M_size, if_pos (by omega), if_pos (by omega), bt_M, drop_at l i (by omega)]
  generalize l.getD i 0 = x
  have hx := byte_rng x
  rw [w64 (by omega) (by omega), w64 (by omega) (by omega), l1In_eq]
  simp only [Option.bind_some, decide_eq_true_eq]
  have ih' := ih k (i + 1) (by omega) (by omega)
  rw [show ((i + 1 : Nat) : Int) = (i : Int) + 1 by omega] at ih'
  by_cases h1 : (32 : Int) ≤ x.toNat ∧ (x.toNat : Int) ≤ 126
  ·
   rw [if_pos h1]
   by_cases h2 : (x.toNat : Int) = 35
   ·
    rw [if_pos h2]
    have : x = 35 := (byte_eq x 35 (by omega)).1 h2
    subst this
    simp [plain_cons]
   ·
    rw [if_neg h2, ih']
    have h3 : x ≠ 35 := fun e => h2 (by rw [e]; rfl)
    have : (Plain (x :: l.drop (i + 1)) ↔ Plain (l.drop (i + 1))) := by
     rw [plain_cons]
     exact ⟨fun h => h.2, fun h => ⟨⟨by omega, by omega, h3⟩, h⟩⟩
    simp [this]
  ·
   rw [if_neg h1]
   have : ¬ Plain (x :: l.drop (i + 1)) := by
    rw [plain_cons]
    rintro ⟨⟨a, b, _⟩, _⟩
    exact h1 ⟨by omega, by omega⟩
   simp [this]
theorem plain_eq (l : List UInt8) (m : Int) (hl : l.length ≤ 4611686018427387904) {k : Nat} (hk : l.length < k) : spec_l27Plain.f k (M l) m = some (decide (Plain l ∧ (l.length : Int) ≤ m)) := by
 unfold spec_l27Plain.f
 simpa using plain_l0 l m hl l.length k 0 (by omega) hk
theorem stands_l0 (l : List UInt8) (c : Nat) (hc : c < 256) (hl : l.length ≤ 4611686018427387904) (d : Nat) : ∀ (k i : Nat), i + d = l.length → d < k → spec_l1Stands.l0 k (M l) c i = some (decide (UInt8.ofNat c ∈ l.drop i)) := by
 induction d with
 | zero =>
  intro k i hd hk
  obtain ⟨k, rfl⟩ : ∃ m, k = m + 1 := ⟨k - 1, by omega⟩
  simp only [spec_l1Stands.l0]
  rw [M_size, if_neg (by omega), List.drop_of_length_le (by omega)]
  simp
 | succ d ih =>
  intro k i hd hk
  obtain ⟨k, rfl⟩ : ∃ m, k = m + 1 := ⟨k - 1, by omega⟩
  simp only [spec_l1Stands.l0]
  rw [M_size, if_pos (by omega), if_pos (by omega), bt_M, drop_at l i (by omega)]
  generalize l.getD i 0 = x
  rw [w64 (by omega) (by omega)]
  have ih' := ih k (i + 1) (by omega) (by omega)
  rw [show ((i + 1 : Nat) : Int) = (i : Int) + 1 by omega] at ih'
  by_cases h1 : (x.toNat : Int) = (c : Int)
  ·
   rw [if_pos h1]
   have : UInt8.ofNat c = x := ((byte_eq x c hc).1 h1).symm
   simp [this]
  ·
   rw [if_neg h1, ih']
   have : ¬ UInt8.ofNat c = x := fun e => h1 ((byte_eq x c hc).2 e.symm)
   simp [this]
theorem stands_eq (l : List UInt8) (c : Nat) (hc : c < 256) (hl : l.length ≤ 4611686018427387904) {k : Nat} (hk : l.length < k) : spec_l1Stands.f k (M l) c = some (decide (UInt8.ofNat c ∈ l)) := by
 unfold spec_l1Stands.f
 simpa using stands_l0 l c hc hl l.length k 0 (by omega) hk
theorem index_eq (l : List UInt8) (c : UInt8) : stringslite_Index.f (M l) (M [c]) = some (indexByte l c) := by
 unfold stringslite_Index.f
 rw [M_size, M_data, M_data]
 rfl
theorem contains_eq (l : List UInt8) (c : UInt8) : strings_Contains.f (M l) (M [c]) = some (decide (c ∈ l)) := by
 unfold strings_Contains.f strings_Index.f
 rw [index_eq]
 simp only [Option.bind_some]
 by_cases h : c ∈ l
 ·
  rw [index_some h]
  simp [h]
 ·
  rw [index_none h]
  simp [h]
theorem isRec_eq (c r : List UInt8) (hc : c.length ≤ 4611686018427387904) (hr : r.length ≤ 4611686018427387904) {k : Nat} (hk : c.length + r.length < k) : impl_IsValidRecord.f k (M c) (M r) = some (decide (Ok c r)) := by
 unfold impl_IsValidRecord.f impl_isCommand.f
 rw [within_eq, isPlain_eq c hc (by omega), isPlain_eq r hr (by omega), M_size, M_size, show (⟨#[64]⟩ : ByteArray) = M [64] from rfl, contains_eq]
 simp only [Option.bind_some, decide_eq_true_eq]
 by_cases h1 : (1 : Int) ≤ c.length ∧ (c.length : Int) ≤ 160
 ·
  rw [if_pos h1]
  have a1 : 1 ≤ c.length := by omega
  have a2 : c.length ≤ 160 := by omega
  by_cases h2 : Plain c
  ·
   rw [if_pos h2]
   simp only [Option.bind_some]
   by_cases h3 : (64 : UInt8) ∈ c
   ·
    rw [if_neg (by simp [h3])]
    exact dec_of ⟨fun h => by simp at h, fun h => absurd h3 h.2.2.2.1⟩
   ·
    rw [if_pos (by simp [h3])]
    by_cases h4 : (r.length : Int) ≤ 200
    ·
     rw [if_pos h4]
     exact dec_of ⟨fun h => ⟨a1, a2, h2, h3, by omega, of_decide_eq_true h⟩, fun h => decide_eq_true h.2.2.2.2.2⟩
    ·
     rw [if_neg h4]
     exact dec_of ⟨fun h => by simp at h, fun h => absurd h.2.2.2.2.1 (by omega)⟩
  ·
   rw [if_neg h2]
   simp only [Option.bind_some]
   rw [if_neg (by simp)]
   exact dec_of ⟨fun h => by simp at h, fun h => absurd h.2.2.1 h2⟩
 ·
  rw [if_neg h1]
  simp only [Option.bind_some]
  rw [if_neg (by simp)]
  exact dec_of ⟨fun h => by simp at h, fun h => absurd (And.intro h.1 h.2.1) (fun h => h1 ⟨by omega, by omega⟩)⟩
theorem good_eq (c r : List UInt8) (hc : c.length ≤ 4611686018427387904) (hr : r.length ≤ 4611686018427387904) {k : Nat} (hk : c.length + r.length < k) : spec_l27Good.f k (M c) (M r) = some (decide (Ok c r)) := by
 unfold spec_l27Good.f
 rw [M_toList, plain_eq c 160 hc (by omega), plain_eq r 200 hr (by omega), show (64 : Int) = ((64 : Nat) : Int) from rfl, stands_eq c 64 (by omega) hc (by omega)]
 simp only [Option.bind_some, decide_eq_true_eq]
 by_cases h1 : c = []
 ·
  rw [if_pos h1]
  exact dec_of ⟨fun h => by simp at h, fun h => absurd h.1 (by simp [h1])⟩
 ·
  rw [if_neg h1]
  have a1 : 1 ≤ c.length := by have := List.length_pos_iff.2 h1; omega
  by_cases h2 : Plain c ∧ (c.length : Int) ≤ 160
  ·
   rw [if_pos h2]
   have a2 : c.length ≤ 160 := by omega
   by_cases h3 : UInt8.ofNat 64 ∈ c
   ·
    rw [if_pos h3]
    exact dec_of ⟨fun h => by simp at h, fun h => absurd h3 h.2.2.2.1⟩
   ·
    rw [if_neg h3]
    refine dec_of ⟨fun h => ?_, fun h => decide_eq_true ⟨h.2.2.2.2.2, by have := h.2.2.2.2.1; omega⟩⟩
    have h := of_decide_eq_true h
    exact ⟨a1, a2, h2.1, h3, by omega, h.1⟩
  ·
   rw [if_neg h2]
   exact dec_of ⟨fun h => by simp at h, fun h => absurd (And.intro h.2.2.1 h.2.1) (fun h => h2 ⟨h.1, by omega⟩)⟩
theorem itoa_nat (n : Nat) : itoa (n : Int) = decDigits n := by
 unfold itoa
 rw [if_neg (by omega), Int.toNat_natCast]
theorem decimal_eq {a : Int} (h0 : -9223372036854775808 ≤ a) (h1 : a ≤ 9223372036854775807) : impl_decimal.f a = some (M (itoa a)) := by
 unfold impl_decimal.f strconv_Itoa_43.f
 rw [if_pos h0, if_pos h1]
 rfl
theorem dig_at (n : Nat) (h : n < 10) : (([48, 49, 50, 51, 52, 53, 54, 55, 56, 57] : List UInt8).drop n).take 1 = [UInt8.ofNat (48 + n)] := by
 match n, h with
 | 0, _ => rfl
 | 1, _ => rfl
 | 2, _ => rfl
 | 3, _ => rfl
 | 4, _ => rfl
 | 5, _ => rfl
 | 6, _ => rfl
 | 7, _ => rfl
 | 8, _ => rfl
 | 9, _ => rfl
theorem num_small (k n : Nat) (h : n < 10) : spec_l1Num.f (k + 1) (n : Int) = some (M (decDigits n)) := by
 rw [spec_l1Num.f, if_neg (by omega), if_pos (by omega), if_pos (by omega), w64 (by omega) (by omega), if_pos (by omega), if_pos (by omega), show (⟨#[48, 49, 50, 51, 52, 53, 54, 55, 56, 57]⟩ : ByteArray) = M [48, 49, 50, 51, 52, 53, 54, 55, 56, 57] from rfl, sx_M, show ((n : Int) + 1).toNat - (n : Int).toNat = 1 by omega, Int.toNat_natCast, dig_at n h, decDigits, dif_pos h]
theorem num_div (n : Nat) (hn : n ≤ 1000000000000000000) : wrap64 (Int.tdiv (n : Int) 10) = ((n / 10 : Nat) : Int) := by
  rw [Int.tdiv_eq_ediv_of_nonneg (by omega)]
  unfold wrap64
  omega
theorem num_mod (n : Nat) : Int.tmod (n : Int) 10 = ((n % 10 : Nat) : Int) := by
  rw [Int.tmod_eq_emod_of_nonneg (by omega)]
  omega
theorem num_app (n : Nat) (h10 : ¬ n < 10) : decDigits n = decDigits (n / 10) ++ [UInt8.ofNat (48 + n % 10)] := by
  conv => lhs; rw [decDigits, dif_neg h10]
theorem num_dig (q : Nat) (hm : q < 10) : sx (⟨#[48, 49, 50, 51, 52, 53, 54, 55, 56, 57]⟩ : ByteArray) ((q : Int).toNat) ((wrap64 ((q : Int) + 1) : Int).toNat) = M [UInt8.ofNat (48 + q)] := by
 rw [w64 (by omega) (by omega), show (⟨#[48, 49, 50, 51, 52, 53, 54, 55, 56, 57]⟩ : ByteArray) = M [48, 49, 50, 51, 52, 53, 54, 55, 56, 57] from rfl, sx_M, show ((q : Int) + 1).toNat - (q : Int).toNat = 1 by omega, Int.toNat_natCast, dig_at q hm]
theorem num_unf (k : Nat) (a0 : Int) (D d : ByteArray) (q : Int) (h : ¬ a0 < 0) (h2 : ¬ a0 < 10) (hq : Int.tmod a0 10 = q) (hb : spec_l1Num.f k (wrap64 (Int.tdiv a0 10)) = some D) (c1 : 0 ≤ q) (c2 : q ≤ wrap64 (q + 1)) (c3 : wrap64 (q + 1) ≤ 10)
  (hd : sx (⟨#[48, 49, 50, 51, 52, 53, 54, 55, 56, 57]⟩ : ByteArray) ((q : Int).toNat) ((wrap64 (q + 1) : Int).toNat) = d) (c4 : D.size + d.size ≤ 9223372036854775807) : spec_l1Num.f (k + 1) a0 = some (sc D d) := by
 subst hd
 subst hq
 rw [spec_l1Num.f, if_neg h, if_neg h2, hb, Option.bind_some, if_pos c1, if_pos c2, if_pos c3, if_pos c4]
theorem num_step (k n : Nat) (h10 : ¬ n < 10) (hn : n ≤ 1000000000000000000) (ih : spec_l1Num.f k ((n / 10 : Nat) : Int) = some (M (decDigits (n / 10)))) (hl : (decDigits (n / 10)).length ≤ 40) : spec_l1Num.f (k + 1) (n : Int) = some (M (decDigits n)) := by
 have hq : n % 10 < 10 := Nat.mod_lt _ (by omega)
 have hw : wrap64 (((n % 10 : Nat) : Int) + 1) = ((n % 10 : Nat) : Int) + 1 := w64 (by omega) (by omega)
 have := num_unf k n (M (decDigits (n / 10))) (M [UInt8.ofNat (48 + n % 10)]) ((n % 10 : Nat) : Int) (by omega) (by omega) (num_mod n) (by rw [num_div n hn]; exact ih) (by omega) (by rw [hw]; omega) (by rw [hw]; omega) (num_dig _ hq) (by rw [M_size, M_size]; simp only [List.length_cons, List.length_nil]; omega)
 rw [this, sc_M, ← num_app n h10]
theorem num_of {n k : Nat} (h : n ≤ 1000000000000000000) (hk : 20 ≤ k) : spec_l1Num.f k (n : Int) = some (M (decDigits n)) := by
 have all : ∀ (j k n : Nat), n ≤ 1000000000000000000 → n < 10 ^ (j + 1) → j ≤ 19 → j < k → spec_l1Num.f k (n : Int) = some (M (decDigits n)) := by
  intro j
  induction j with
  | zero =>
   intro k n h hj h19 hk
   obtain ⟨k, rfl⟩ : ∃ m, k = m + 1 := ⟨k - 1, by omega⟩
   exact num_small k n (by omega)
  | succ j ih =>
   intro k n h hj h19 hk
   obtain ⟨k, rfl⟩ : ∃ m, k = m + 1 := ⟨k - 1, by omega⟩
   by_cases h10 : n < 10
   ·
    exact num_small k n h10
   ·
    have hd : n / 10 < 10 ^ (j + 1) := by
     rw [Nat.pow_succ] at hj
     omega
    exact num_step k n h10 h (ih k (n / 10) (by omega) hd (by omega) (by omega)) (Nat.le_trans (digits_len_aux j (n / 10) hd) (by omega))
 exact all 19 k n h (Nat.lt_of_le_of_lt h (by decide)) (by omega) (by omega)
theorem cut_eq (l : List UInt8) (c : UInt8) (hl : l.length ≤ 4611686018427387904) : strings_Cut.f (M l) (M [c]) = some (M (upto c l), M (after c l), decide (c ∈ l)) := by
 unfold strings_Cut.f stringslite_Cut.f
 rw [index_eq]
 simp only [Option.bind_some]
 by_cases h : c ∈ l
 ·
  have hlt := upto_lt h
  rw [index_some h, M_size, M_size, w64 (by simp; omega) (by simp; omega), if_pos (by omega), if_pos (by omega), if_pos (by omega), if_pos (by first | omega | (simp; done) | (simp; omega)), if_pos (by first | omega | (simp; done) | (simp; omega))]
  simp only [Option.bind_some, sx_M, Option.some.injEq, Prod.mk.injEq, M_inj, h, decide_true, and_true]
  constructor
  ·
   rw [Int.toNat_natCast, List.drop_zero, Nat.sub_zero, ← upto_take]
  ·
   rw [after_drop c h, show (((upto c l).length : Int) + ([c].length : Nat)).toNat = (upto c l).length + 1 by (first | omega | (simp; done) | (simp; omega)), List.take_of_length_le (by first | omega | (simp; done) | (simp; omega))]
 ·
  rw [index_none h, if_neg (by omega)]
  simp only [Option.bind_some, Option.some.injEq, Prod.mk.injEq, h, decide_false, and_true, upto_none h, after_none h, true_and]
  rfl
theorem step_rng (n : Nat) (x : UInt8) (h : n < 999979) : Int.tmod (wrap64 (wrap64 (wrap64 (41 * (n : Int)) + wrap64 (x.toNat : Int)) + 1)) 999979 = (((41 * n + x.toNat + 1) % 999979 : Nat) : Int) := by
 have hx := byte_rng x
 rw [w64 (x := 41 * (n : Int)) (by omega) (by omega), w64 (x := (x.toNat : Int)) (by omega) (by omega), w64 (x := 41 * (n : Int) + x.toNat) (by omega) (by omega), w64 (by omega) (by omega)]
 rw [Int.tmod_eq_emod_of_nonneg (by omega)]
 omega
theorem checksum_l0 (l : List UInt8) (hl : l.length ≤ 4611686018427387904) (d : Nat) : ∀ (k i n : Nat), n < 999979 → i + d = l.length → d < k →
  impl_checksum.l0 k (M l) n l.length i = some (((l.drop i).foldl (fun n b => (41 * n + b.toNat + 1) % 999979) n : Nat) : Int) ∧
  spec_l1Sum.l0 k (M l) n i = some (((l.drop i).foldl (fun n b => (41 * n + b.toNat + 1) % 999979) n : Nat) : Int) := by
 induction d with
 | zero =>
  intro k i n hn hd hk
  obtain ⟨k, rfl⟩ : ∃ m, k = m + 1 := ⟨k - 1, by omega⟩
  simp only [impl_checksum.l0, spec_l1Sum.l0]
  rw [M_size, if_neg (by omega), if_neg (by omega), List.drop_of_length_le (by omega)]
  simp
 | succ d ih =>
  intro k i n hn hd hk
  obtain ⟨k, rfl⟩ : ∃ m, k = m + 1 := ⟨k - 1, by omega⟩
  simp only [impl_checksum.l0, spec_l1Sum.l0]
  rw [M_size, if_pos (by omega), if_pos (by omega), if_pos (by omega), if_pos (by omega), if_pos (by omega), bt_M, drop_at l i (by omega)]
  generalize l.getD i 0 = x
  rw [step_rng n x hn, w64 (x := (i : Int) + 1) (by omega) (by omega)]
  have := ih k (i + 1) ((41 * n + x.toNat + 1) % 999979) (Nat.mod_lt _ (by omega)) (by omega) (by omega)
  rw [show ((i + 1 : Nat) : Int) = (i : Int) + 1 by omega] at this
  exact this
theorem checksum_eq (l : List UInt8) (hl : l.length ≤ 4611686018427387904) {k : Nat} (hk : l.length < k) : impl_checksum.f k (M l) = some ((sum l : Nat) : Int) ∧ spec_l1Sum.f k (M l) = some ((sum l : Nat) : Int) := by
 unfold impl_checksum.f spec_l1Sum.f sum
 rw [M_size]
 simpa using checksum_l0 l hl l.length k 0 7 (by omega) (by omega) hk
theorem encode_eq {a k : Nat} (ha : a ≤ 1000000000000000000) (c r : List UInt8) (hc : c.length ≤ 1152921504606846976) (hr : r.length ≤ 1152921504606846976) (hk : c.length + r.length + 60 < k) : impl_encode.f k a (M c) (M r) = some (M (enc a c r)) := by
 have hd := digits_len_aux 19 a (by omega)
 have hb := body_len a c r
 have hs := sum_lt (body a c r)
 have hd2 := digits_len_aux 5 (sum (body a c r)) (by omega)
 unfold impl_encode.f
 rw [decimal_eq (by omega) (by omega), itoa_nat]
 simp only [Option.bind_some, show (⟨#[32]⟩ : ByteArray) = M [32] from rfl, show (⟨#[64]⟩ : ByteArray) = M [64] from rfl, show (⟨#[35]⟩ : ByteArray) = M [35] from rfl, show (⟨#[10]⟩ : ByteArray) = M [10] from rfl, sc_M, M_size]
 have e : decDigits a ++ [32] ++ c ++ [64] ++ r = body a c r := by simp [body]
 rw [e]
 have hks : (body a c r).length < k := by omega
 rw [(checksum_eq (body a c r) (by omega) hks).1]
 simp only [Option.bind_some]
 rw [decimal_eq (by omega) (by omega), itoa_nat]
 simp only [Option.bind_some, sc_M, M_size]
 rw [if_pos (by omega), if_pos (by simp; omega), if_pos (by simp; omega), if_pos (by simp; omega), if_pos (by omega), if_pos (by simp; omega), if_pos (by simp; omega)]
 simp [enc, line]
theorem line_eq {a k : Nat} (ha : a ≤ 1000000000000000000) (c r : List UInt8) (hc : c.length ≤ 1152921504606846976) (hr : r.length ≤ 1152921504606846976) (hk : c.length + r.length + 60 < k) : spec_l27Line.f k a (M c) (M r) = some (M (enc a c r)) := by
 have hd := digits_len_aux 19 a (by omega)
 have hb := body_len a c r
 have hs := sum_lt (body a c r)
 have hd2 := digits_len_aux 5 (sum (body a c r)) (by omega)
 unfold spec_l27Line.f
 rw [num_of ha (by omega)]
 simp only [Option.bind_some, show (⟨#[32]⟩ : ByteArray) = M [32] from rfl, show (⟨#[64]⟩ : ByteArray) = M [64] from rfl, show (⟨#[10]⟩ : ByteArray) = M [10] from rfl, sc_M, M_size]
 have e : decDigits a ++ [32] ++ c ++ [64] ++ r = body a c r := by simp [body]
 rw [e]
 have hks : (body a c r).length < k := by omega
 have hseal : spec_l1Seal.f k (M (body a c r)) = some (M (line a c r)) := by
  unfold spec_l1Seal.f
  rw [(checksum_eq (body a c r) (by omega) hks).2]
  simp only [Option.bind_some]
  rw [num_of (by omega) (by omega)]
  simp only [Option.bind_some, show (⟨#[35]⟩ : ByteArray) = M [35] from rfl, sc_M, M_size]
  rw [if_pos (by omega), if_pos (by simp; omega)]
  simp [line]
 rw [hseal]
 simp only [Option.bind_some, sc_M, M_size]
 have hll : (line a c r).length = (body a c r).length + 1 + (decDigits (sum (body a c r))).length := by simp [line]; omega
 rw [if_pos (by omega), if_pos (by simp; omega), if_pos (by simp; omega), if_pos (by simp; omega), if_pos (by omega)]
 rfl
def pieces (c : UInt8) : List UInt8 → List (List UInt8)
 | [] => [[]]
 | x :: l => if x = c then [] :: pieces c l else match pieces c l with
  | [] => [[x]]
  | p :: ps => (x :: p) :: ps
theorem pieces_ne (c : UInt8) : ∀ l, ∃ p ps, pieces c l = p :: ps
 | [] => ⟨[], [], rfl⟩
 | x :: l => by
  obtain ⟨p, ps, h⟩ := pieces_ne c l
  by_cases e : x = c
  ·
   exact ⟨_, _, by simp [pieces, e]; exact ⟨rfl, rfl⟩⟩
  ·
   exact ⟨_, _, by simp [pieces, e, h]; exact ⟨rfl, rfl⟩⟩
theorem pieces_len (c : UInt8) : ∀ l, (pieces c l).length ≤ l.length + 1
 | [] => by simp [pieces]
 | x :: l => by
  have := pieces_len c l
  by_cases e : x = c
  ·
   simp [pieces, e]; omega
  ·
   obtain ⟨p, ps, h⟩ := pieces_ne c l
   rw [h] at this
   simp [pieces, e, h] at this ⊢
   omega
theorem pieces_head (c : UInt8) : ∀ l, ∃ ps, pieces c l = upto c l :: ps ∧ (ps ≠ [] ↔ c ∈ l)
 | [] => ⟨[], rfl, by simp⟩
 | x :: l => by
  by_cases e : x = c
  ·
   obtain ⟨p, ps, h⟩ := pieces_ne c l
   refine ⟨pieces c l, by simp [pieces, upto, e], ?_⟩
   rw [h]
   simp [e]
  ·
   obtain ⟨ps, h, h2⟩ := pieces_head c l
   refine ⟨ps, by simp [pieces, upto, e, h], ?_⟩
   rw [h2]
   have : ¬ c = x := fun h => e h.symm
   simp [this]
def glue (p : List UInt8) : List (List UInt8) → List (List UInt8)
 | [] => [p]
 | q :: qs => (p ++ q) :: qs
theorem split_l0 (l : List UInt8) (c : Nat) (hc : c < 256) (hl : l.length ≤ 1099511627776) (d : Nat) : ∀ (k i j : Nat) (acc : List ByteArray), i + d = l.length → j ≤ i → d < k → acc.length + d ≤ 2199023255552 →
  spec_l1Split.l0 k (M l) c acc j i = some (acc ++ (glue ((l.drop j).take (i - j)) (pieces (UInt8.ofNat c) (l.drop i))).map M) := by
 induction d with
 | zero =>
  intro k i j acc hd hj hk ha
  obtain ⟨k, rfl⟩ : ∃ m, k = m + 1 := ⟨k - 1, by omega⟩
  simp only [spec_l1Split.l0]
  rw [M_size, if_neg (by omega), if_pos (by omega), if_pos (by omega), if_pos (by omega), List.drop_of_length_le (i := i) (by omega), sx_M, Int.toNat_natCast]
  simp only [pieces, glue, List.append_nil, List.map_cons, List.map_nil]
  rw [List.take_of_length_le (by simp), List.take_of_length_le (by first | omega | (simp; done) | (simp; omega))]
 | succ d ih =>
  intro k i j acc hd hj hk ha
  obtain ⟨k, rfl⟩ : ∃ m, k = m + 1 := ⟨k - 1, by omega⟩
  simp only [spec_l1Split.l0]
  rw [M_size, if_pos (by omega), if_pos (by omega), bt_M, drop_at l i (by omega)]
  have hx : (l.drop j).take (i + 1 - j) = (l.drop j).take (i - j) ++ [l.getD i 0] := by
   rw [show i + 1 - j = (i - j) + 1 by omega, List.take_add_one, List.getElem?_drop, show j + (i - j) = i by omega, List.getElem?_eq_getElem (by omega), List.getD_eq_getElem?_getD, List.getElem?_eq_getElem (by omega)]
   rfl
  generalize hxx : l.getD i 0 = x at hx ⊢
  rw [w64 (x := (i : Int) + 1) (by omega) (by omega)]
  by_cases h1 : (x.toNat : Int) = (c : Int)
  ·
   have he : x = UInt8.ofNat c := (byte_eq x c hc).1 h1
   rw [if_pos h1, if_pos (by omega), if_pos (by omega), if_pos (by omega), if_pos (by omega), sx_M, Int.toNat_natCast, Int.toNat_natCast]
   have := ih k (i + 1) (i + 1) (acc ++ [M ((l.drop j).take (i - j))]) (by omega) (by omega) (by omega) (by first | omega | (simp; done) | (simp; omega))
   rw [show ((i + 1 : Nat) : Int) = (i : Int) + 1 by omega] at this
   rw [this]
   obtain ⟨p, ps, hp⟩ := pieces_ne (UInt8.ofNat c) (l.drop (i + 1))
   simp [pieces, he, glue, hp]
  ·
   have he : ¬ x = UInt8.ofNat c := fun e => h1 ((byte_eq x c hc).2 e)
   rw [if_neg h1]
   have := ih k (i + 1) j acc (by omega) (by omega) (by omega) (by omega)
   rw [show ((i + 1 : Nat) : Int) = (i : Int) + 1 by omega] at this
   rw [this, hx]
   obtain ⟨p, ps, hp⟩ := pieces_ne (UInt8.ofNat c) (l.drop (i + 1))
   simp [pieces, he, glue, hp]
theorem split_eq (l : List UInt8) (c : Nat) (hc : c < 256) (hl : l.length ≤ 1099511627776) {k : Nat} (hk : l.length < k) : spec_l1Split.f k (M l) c = some ((pieces (UInt8.ofNat c) l).map M) := by
 unfold spec_l1Split.f
 have := split_l0 l c hc hl l.length k 0 0 [] (by omega) (by omega) hk (by first | omega | (simp; done) | (simp; omega))
 obtain ⟨p, ps, hp⟩ := pieces_ne (UInt8.ofNat c) l
 simpa [glue, hp] using this
theorem split_head (l : List UInt8) (c : Nat) (hc : c < 256) (hl : l.length ≤ 1099511627776) {k : Nat} (hk : l.length < k) :
  ∃ ps : List ByteArray, spec_l1Split.f k (M l) c = some (M (upto (UInt8.ofNat c) l) :: ps) ∧ (ps ≠ [] ↔ UInt8.ofNat c ∈ l) ∧ ps.length ≤ l.length := by
 obtain ⟨ps, h1, h2⟩ := pieces_head (UInt8.ofNat c) l
 refine ⟨ps.map M, by rw [split_eq l c hc hl hk, h1]; rfl, by rw [← h2]; simp, ?_⟩
 have := pieces_len (UInt8.ofNat c) l
 rw [h1] at this
 simpa using this
theorem rd_head (a : ByteArray) (ps : List ByteArray) : rdOf ByteArray.empty (a :: ps) 0 = a := rfl
theorem readRecord_eq {k K : Nat} (s : List UInt8) (hs : s.length ≤ 1099511627776) (hk : k ≤ 1000000) (hK : 2 * s.length + 100 < K) :
  impl_readRecord.f K k (M s) = some (match dec k s with | some (c, r, n) => (M c, M r, (n : Int), true) | none => (M [], M [], 0, false)) := by
 have l1 := upto_len (c := 10) s
 have l2 := upto_len (c := 35) (upto 10 s)
 have l3 : ∀ (c : UInt8) (l : List UInt8), (after c l).length ≤ l.length := fun c l => by
  by_cases h : c ∈ l
  ·
   rw [after_drop c h, List.length_drop]; omega
  ·
   rw [after_none h]; simp
 have l4 := l3 32 (upto 35 (upto 10 s))
 have l5 := upto_len (c := 64) (after 32 (upto 35 (upto 10 s)))
 have l6 := l3 64 (after 32 (upto 35 (upto 10 s)))
 unfold impl_readRecord.f
 rw [show (⟨#[10]⟩ : ByteArray) = M [10] from rfl, show (⟨#[35]⟩ : ByteArray) = M [35] from rfl, show (⟨#[32]⟩ : ByteArray) = M [32] from rfl, show (⟨#[64]⟩ : ByteArray) = M [64] from rfl, cut_eq s 10 (by omega)]
 simp only [Option.bind_some]
 rw [cut_eq _ 35 (by omega)]
 simp only [Option.bind_some]
 rw [cut_eq _ 32 (by omega)]
 simp only [Option.bind_some]
 rw [cut_eq _ 64 (by omega)]
 simp only [Option.bind_some]
 unfold dec
 generalize after 32 (upto 35 (upto 10 s)) = rest at l4 l5 l6 ⊢
 by_cases h1 : (10 : UInt8) ∈ s
 ·
  rw [if_pos (by simpa using h1)]
  by_cases h2 : 60 ≤ k
  ·
   rw [if_pos (by omega), if_neg (by omega)]
   rfl
  ·
   rw [if_neg (by omega), isRec_eq _ _ (by omega) (by omega) (by omega)]
   simp only [Option.bind_some, decide_eq_true_eq]
   by_cases h3 : Ok (upto 64 rest) (after 64 rest)
   ·
    rw [if_pos h3, encode_eq (by omega) _ _ (by omega) (by omega) (by omega)]
    simp only [Option.bind_some]
    rw [M_size, if_pos (by omega), sc_M, M_toList, M_toList]
    by_cases h4 : enc k (upto 64 rest) (after 64 rest) = upto 10 s ++ [10]
    ·
     rw [if_pos h4, if_pos ⟨h1, by omega, h3, h4⟩, w64 (by omega) (by omega)]
     simp
    ·
     rw [if_neg h4, if_neg (fun h => h4 h.2.2.2)]
     rfl
   ·
    rw [if_neg h3, if_neg (fun h => h3 h.2.2.1)]
    rfl
 ·
  rw [if_neg (by simpa using h1), if_neg (fun h => h1 h.1)]
  rfl
theorem read_eq {k K : Nat} (s : List UInt8) (hs : s.length ≤ 1099511627776) (hk : k ≤ 1000000) (hK : 4 * s.length + 200 < K) :
  ∃ (c r : List UInt8) (b : Bool), spec_l27Read.f K (M s) k = some (M c, M r, b) ∧ (b = true → Ok c r ∧ enc k c r = s ++ [10]) ∧ (∀ c' r', Ok c' r' → enc k c' r' = s ++ [10] → b = true ∧ c = c' ∧ r = r') := by
 have hd := digits_len_aux 7 k (by omega)
 obtain ⟨ps, hp, _, _⟩ := split_head s 35 (by omega) hs (k := K) (by omega)
 have l1 := upto_len (c := 35) s
 have hline : ∀ c' r', Ok c' r' → enc k c' r' = s ++ [10] → upto 35 s = decDigits k ++ 32 :: (c' ++ 64 :: r') := fun c' r' ho he => by
  have : s = line k c' r' := by
   have := congrArg List.dropLast he
   simpa [enc] using this.symm
  rw [this, line_text ho]
  rfl
 unfold spec_l27Read.f
 rw [num_of (by omega) (by omega)]
 simp only [Option.bind_some]
 rw [M_size, if_pos (by omega), show (35 : Int) = ((35 : Nat) : Int) from rfl, hp]
 simp only [Option.bind_some]
 rw [if_pos (by first | omega | (simp; done) | (simp; omega)), rd_head, show (⟨#[32]⟩ : ByteArray) = M [32] from rfl, sc_M, M_size, M_size, show UInt8.ofNat 35 = 35 from rfl]
 generalize htx : upto 35 s = text at l1 hline ⊢
 have hlen : (decDigits k ++ [32]).length = (decDigits k).length + 1 := by simp
 obtain ⟨K1, rfl⟩ : ∃ m, K = m + 1 := ⟨K - 1, by omega⟩
 have fail : spec_l27Read.j0 (K1 + 1) (M s) k (M (decDigits k ++ [32])) (M text) true = some (M [], M [], false) := by
  simp only [spec_l27Read.j0]
  rfl
 by_cases h1 : text.length < (decDigits k ++ [32]).length
 ·
  rw [if_pos (by omega), fail]
  refine ⟨[], [], false, rfl, by simp, fun c' r' ho he => ?_⟩
  have := hline c' r' ho he
  rw [this] at h1
  simp only [List.length_append, List.length_cons, List.length_nil] at h1
  omega
 ·
  rw [if_neg (by omega), if_pos (by omega), if_pos (by omega), sx_M, M_toList, M_toList, List.drop_zero, Nat.sub_zero]
  by_cases h2 : text.take (decDigits k ++ [32]).length = decDigits k ++ [32]
  ·
   have hb : (List.take (decDigits k ++ [32]).length text != decDigits k ++ [32]) = false := by simpa using h2
   rw [hb]
   simp only [spec_l27Read.j0]
   rw [if_neg (by simp), M_size, M_size, if_pos (by omega), if_pos (by omega), sx_M, List.take_of_length_le (by simp)]
   generalize hrest : text.drop (decDigits k ++ [32]).length = rest
   have hrl : rest.length = text.length - (decDigits k ++ [32]).length := by rw [← hrest, List.length_drop]
   obtain ⟨qs, hq, _, _⟩ := split_head rest 64 (by omega) (by omega) (k := K1) (by omega)
   rw [show (64 : Int) = ((64 : Nat) : Int) from rfl, hq]
   simp only [Option.bind_some]
   rw [if_pos (by first | omega | (simp; done) | (simp; omega)), rd_head, M_size, M_size, show UInt8.ofNat 64 = 64 from rfl]
   have hcr : ∀ c' r', Ok c' r' → enc k c' r' = s ++ [10] → rest = c' ++ 64 :: r' := fun c' r' ho he => by
    rw [← hrest, hline c' r' ho he, show decDigits k ++ 32 :: (c' ++ 64 :: r') = (decDigits k ++ [32]) ++ (c' ++ 64 :: r') by simp]
    exact List.drop_left
   by_cases h3 : (64 : UInt8) ∈ rest
   ·
    have hlt := upto_lt h3
    rw [if_neg (by omega), w64 (by omega) (by omega), if_pos (by omega), if_pos (by omega), sx_M, show (((upto 64 rest).length : Int) + 1).toNat = (upto 64 rest).length + 1 by omega, List.take_of_length_le (by simp), ← after_drop 64 h3]
    have l6 : (after 64 rest).length ≤ rest.length := by rw [after_drop 64 h3, List.length_drop]; omega
    rw [good_eq _ _ (by omega) (by omega) (by omega)]
    simp only [Option.bind_some, decide_eq_true_eq]
    have hun : ∀ c' r', Ok c' r' → enc k c' r' = s ++ [10] → upto 64 rest = c' ∧ after 64 rest = r' := fun c' r' ho he => by
     rw [hcr c' r' ho he, rest_cmd ho, rest_rep ho]
     exact ⟨rfl, rfl⟩
    by_cases h4 : Ok (upto 64 rest) (after 64 rest)
    ·
     rw [if_pos h4, line_eq (by omega) _ _ (by omega) (by omega) (by omega)]
     simp only [Option.bind_some]
     rw [M_size, if_pos (by omega), show (⟨#[10]⟩ : ByteArray) = M [10] from rfl, sc_M, M_toList, M_toList]
     refine ⟨_, _, _, rfl, fun h => ⟨h4, by simpa using h⟩, fun c' r' ho he => ?_⟩
     obtain ⟨e1, e2⟩ := hun c' r' ho he
     refine ⟨?_, e1, e2⟩
     rw [e1, e2, he]
     simp
    ·
     rw [if_neg h4]
     refine ⟨_, _, false, rfl, by simp, fun c' r' ho he => ?_⟩
     obtain ⟨e1, e2⟩ := hun c' r' ho he
     rw [e1, e2] at h4
     exact absurd ho h4
   ·
    rw [upto_none h3, if_pos rfl]
    refine ⟨[], [], false, rfl, by simp, fun c' r' ho he => ?_⟩
    rw [hcr c' r' ho he] at h3
    exact absurd h3 (by simp)
  ·
   have hb : (List.take (decDigits k ++ [32]).length text != decDigits k ++ [32]) = true := by simpa using h2
   rw [hb, fail]
   refine ⟨[], [], false, rfl, by simp, fun c' r' ho he => ?_⟩
   have h5 := hline c' r' ho he
   rw [show decDigits k ++ 32 :: (c' ++ 64 :: r') = (decDigits k ++ [32]) ++ (c' ++ 64 :: r') by simp] at h5
   rw [h5, List.take_left] at h2
   exact absurd rfl h2
theorem dec_iff {k : Nat} {s c r : B} {n : Nat} : dec k s = some (c, r, n) ↔ k < 60 ∧ (10 : UInt8) ∈ s ∧ Ok c r ∧ enc k c r = upto 10 s ++ [10] ∧ n = (upto 10 s).length + 1 := by
 constructor
 ·
  intro h
  unfold dec at h
  split at h
  ·
   rename_i hc
   simp only [Option.some.injEq, Prod.mk.injEq] at h
   obtain ⟨rfl, rfl, rfl⟩ := h
   exact ⟨hc.2.1, hc.1, hc.2.2.1, hc.2.2.2, rfl⟩
  ·
   cases h
 ·
  rintro ⟨h1, h2, h3, h4, rfl⟩
  refine dec_some.2 ⟨h1, h3, ?_, by rw [h4]; simp⟩
  rw [h4]
  refine ⟨after 10 s, ?_⟩
  rw [List.append_assoc, List.singleton_append, ← cut_at h2]
def R27 (x : B × B × Nat) : S97 := ⟨M x.1, M x.2.1⟩
theorem open_l0 (s : List UInt8) (hs : s.length ≤ 1099511627776) (m : Nat) : ∀ (K at_ : Nat) (acc : List S97), acc.length + m = 60 → at_ ≤ s.length → 2 * m + 4 * s.length + 300 < K →
  spec_l27Open.l0 K (M s) acc at_ = some (acc ++ (all m acc.length (s.drop at_)).map R27, ((at_ + tot (all m acc.length (s.drop at_)) : Nat) : Int)) := by
 induction m with
 | zero =>
  intro K at_ acc ha hat hK
  obtain ⟨K, rfl⟩ : ∃ m, K = m + 1 + 1 := ⟨K - 2, by omega⟩
  simp only [spec_l27Open.l0]
  have : decide ((acc.length : Int) < 60) = false := by simp; omega
  rw [this, ite_self]
  simp [spec_l27Open.j1, all, tot]
 | succ m ih =>
  intro K at_ acc ha hat hK
  obtain ⟨K, rfl⟩ : ∃ m, K = m + 1 + 1 := ⟨K - 2, by omega⟩
  simp only [spec_l27Open.l0]
  have hd : decide ((acc.length : Int) < 60) = true := by simp; omega
  rw [M_size, hd]
  by_cases hlt : at_ < s.length
  ·
   rw [if_pos (by omega)]
   have hrl : (s.drop at_).length = s.length - at_ := List.length_drop
   have hsx : sx (M s) (((at_ : Int) : Int).toNat) s.length = M (s.drop at_) := by
    rw [sx_M, Int.toNat_natCast, List.take_of_length_le (by simp)]
   generalize hrest : s.drop at_ = rest at hrl hsx ⊢
   have lu := upto_len (c := 10) rest
   obtain ⟨ps, hp, hpn, _⟩ := split_head rest 10 (by omega) (by omega) (k := K) (by omega)
   obtain ⟨c, r, b, hr, hb, hu⟩ := read_eq (k := acc.length) (K := K) (upto 10 rest) (by omega) (by omega) (by omega)
   simp only [spec_l27Open.j1]
   rw [if_pos trivial, if_pos (by omega), M_size, if_pos (by omega), hsx, show (10 : Int) = ((10 : Nat) : Int) from rfl, hp]
   simp only [Option.bind_some]
   rw [if_pos (by first | omega | (simp; done) | (simp; omega)), rd_head, show UInt8.ofNat 10 = 10 from rfl, hr]
   simp only [Option.bind_some]
   by_cases h2 : ps = []
   ·
    have h10 : (10 : UInt8) ∉ rest := fun h => absurd h2 (hpn.2 h)
    have hn : dec acc.length rest = none := by
     cases h : dec acc.length rest with
     | none => rfl
     | some x => obtain ⟨c', r', n'⟩ := x; exact absurd (dec_iff.1 h).2.1 h10
    rw [if_pos (by rw [h2]; simp), all_none hn]
    simp [tot]
   ·
    have h10 : (10 : UInt8) ∈ rest := hpn.1 h2
    have hpl : 0 < ps.length := List.length_pos_iff.2 h2
    rw [if_neg (by first | omega | (simp; omega))]
    cases hbb : b with
    | true =>
     subst hbb
     obtain ⟨ho, he⟩ := hb rfl
     have hdec : dec acc.length rest = some (c, r, (upto 10 rest).length + 1) := dec_iff.2 ⟨by omega, h10, ho, he, rfl⟩
     have hlt' := upto_lt h10
     rw [if_pos rfl, if_pos (by omega), M_size, w64 (x := (at_ : Int) + ((upto 10 rest).length : Nat)) (by omega) (by omega), w64 (by omega) (by omega)]
     have := ih K (at_ + ((upto 10 rest).length + 1)) (acc ++ [⟨M c, M r⟩]) (by simp; omega) (by omega) (by omega)
     rw [show ((at_ : Int) + ((upto 10 rest).length : Nat) + 1) = ((at_ + ((upto 10 rest).length + 1) : Nat) : Int) by omega, this, all_some hdec, tot_cons, ← List.drop_drop, hrest]
     simp [R27]
     omega
    | false =>
     subst hbb
     have hn : dec acc.length rest = none := by
      cases h : dec acc.length rest with
      | none => rfl
      | some x =>
       obtain ⟨c', r', n'⟩ := x
       obtain ⟨_, _, ho, he, _⟩ := dec_iff.1 h
       exact absurd (hu c' r' ho he).1 (by simp)
     rw [if_neg (by simp), all_none hn]
     simp [tot]
  ·
   rw [if_neg (by omega), List.drop_of_length_le (by omega), all_nil]
   simp [spec_l27Open.j1, tot]
theorem open_eq (s : List UInt8) (hs : s.length ≤ 1099511627776) {K : Nat} (hK : 4 * s.length + 500 < K) : spec_l27Open.f K (M s) = some ((all 60 0 s).map R27, ((tot (all 60 0 s) : Nat) : Int)) := by
 unfold spec_l27Open.f
 have := open_l0 s hs 60 K 0 [] rfl (Nat.zero_le _) (by omega)
 simpa using this
def sums (a : Nat) : List (B × B × Nat) → List Int
 | [] => []
 | x :: xs => ((a + x.2.2 : Nat) : Int) :: sums (a + x.2.2) xs
theorem rd_last (E : List Int) (a : Int) : rd (E ++ [a]) (((E ++ [a]).length : Int) - 1) = a := by
 unfold rd
 rw [List.length_append, show (((E.length + [a].length : Nat) : Int) - 1).toNat = E.length by simp, List.getD_eq_getElem?_getD, List.getElem?_append_right (Nat.le_refl _), Nat.sub_self]
 rfl
theorem reads_l0 (s : List UInt8) (hs : s.length ≤ 1099511627776) (m : Nat) : ∀ (K at_ : Nat) (acc : List S97) (E : List Int), acc.length + m = 60 → E.length ≤ acc.length → at_ ≤ s.length → m + 2 * s.length + 200 < K →
  impl_readRecords.l0 K (M s) acc (E ++ [(at_ : Int)]) = some (acc ++ (all m acc.length (s.drop at_)).map R27, E ++ [(at_ : Int)] ++ sums at_ (all m acc.length (s.drop at_))) := by
 induction m with
 | zero =>
  intro K at_ acc E ha hE hat hK
  obtain ⟨K, rfl⟩ : ∃ m, K = m + 1 := ⟨K - 1, by omega⟩
  have hl : (E ++ [(at_ : Int)]).length = E.length + 1 := by simp
  simp only [impl_readRecords.l0]
  rw [w64 (by omega) (by omega), if_pos (by omega), if_pos (by omega), rd_last, M_size, if_pos (by omega), if_pos (by omega), sx_M, Int.toNat_natCast, List.take_of_length_le (by simp), readRecord_eq _ (by simp; omega) (by omega) (by simp; omega)]
  have hn : dec acc.length (s.drop at_) = none := by
   cases h : dec acc.length (s.drop at_) with
   | none => rfl
   | some x => obtain ⟨c', r', n'⟩ := x; have := (dec_iff.1 h).1; omega
  rw [hn]
  simp [all, sums]
 | succ m ih =>
  intro K at_ acc E ha hE hat hK
  obtain ⟨K, rfl⟩ : ∃ m, K = m + 1 := ⟨K - 1, by omega⟩
  have hl : (E ++ [(at_ : Int)]).length = E.length + 1 := by simp
  have hdl : (s.drop at_).length = s.length - at_ := List.length_drop
  simp only [impl_readRecords.l0]
  rw [w64 (by omega) (by omega), if_pos (by omega), if_pos (by omega), rd_last, M_size, if_pos (by omega), if_pos (by omega), sx_M, Int.toNat_natCast, List.take_of_length_le (by simp), readRecord_eq _ (by omega) (by omega) (by omega)]
  cases h : dec acc.length (s.drop at_) with
  | none =>
   rw [all_none h]
   simp [sums]
  | some x =>
   obtain ⟨c, r, n⟩ := x
   have hn := dec_le h
   simp only [Option.bind_some]
   rw [if_pos trivial, if_pos (by omega), if_pos (by omega), w64 (by omega) (by omega)]
   have := ih K (at_ + n) (acc ++ [⟨M c, M r⟩]) (E ++ [(at_ : Int)]) (by simp; omega) (by simp; omega) (by omega) (by omega)
   rw [show ((at_ : Int) + (n : Int)) = ((at_ + n : Nat) : Int) by omega, this, all_some h, ← List.drop_drop]
   simp [sums, R27]
theorem reads_eq (s : List UInt8) (hs : s.length ≤ 1099511627776) {K : Nat} (hK : 2 * s.length + 300 < K) : impl_readRecords.f K (M s) = some ((all 60 0 s).map R27, 0 :: sums 0 (all 60 0 s)) := by
 unfold impl_readRecords.f
 have := reads_l0 s hs 60 K 0 [] [] rfl (Nat.le_refl _) (Nat.zero_le _) (by omega)
 simpa using this
theorem sums_len (l : List (B × B × Nat)) : ∀ a, (sums a l).length = l.length := by
 induction l with
 | nil => intro a; rfl
 | cons x l ih => intro a; simp [sums, ih]
theorem sums_last (l : List (B × B × Nat)) : ∀ a : Nat, ∃ E, (a : Int) :: sums a l = E ++ [((a + tot l : Nat) : Int)] := by
 induction l with
 | nil => intro a; exact ⟨[], by simp [sums, tot]⟩
 | cons x l ih =>
  intro a
  obtain ⟨E, h⟩ := ih (a + x.2.2)
  refine ⟨(a : Int) :: E, ?_⟩
  rw [sums, h, tot_cons]
  simp
  omega
theorem rd_sums (l : List (B × B × Nat)) : rd (0 :: sums 0 l) ((((0 : Int) :: sums 0 l).length : Int) - 1) = ((tot l : Nat) : Int) := by
 obtain ⟨E, h⟩ := sums_last l 0
 have h' : (0 : Int) :: sums 0 l = E ++ [((tot l : Nat) : Int)] := by simpa using h
 rw [h', rd_last]
theorem sums_mem (l : List (B × B × Nat)) : ∀ (a n : Nat), (n : Int) ∈ ((a : Int) :: sums a l) ↔ ∃ j, j ≤ l.length ∧ a + tot (l.take j) = n := by
 induction l with
 | nil =>
  intro a n
  constructor
  ·
   intro h
   simp [sums] at h
   exact ⟨0, Nat.le_refl _, by simp [tot]; omega⟩
  ·
   rintro ⟨j, _, h⟩
   simp [tot] at h
   simp [sums]
   omega
 | cons x l ih =>
  intro a n
  rw [sums, List.mem_cons, ih (a + x.2.2) n]
  constructor
  ·
   rintro (h | ⟨j, hj, h⟩)
   ·
    exact ⟨0, Nat.zero_le _, by simp [tot]; omega⟩
   ·
    exact ⟨j + 1, by simpa using hj, by rw [List.take_succ_cons, tot_cons]; omega⟩
  ·
   rintro ⟨j, hj, h⟩
   cases j with
   | zero => simp [tot] at h; exact .inl (by omega)
   | succ j => rw [List.take_succ_cons, tot_cons] at h; exact .inr ⟨j, by simpa using hj, by omega⟩
theorem has_l0 (l : List Int) (x : Int) (hl : l.length ≤ 4611686018427387904) (d : Nat) : ∀ (k i : Nat), i + d = l.length → d < k → ∃ r : Int, slices_Index_int_int.l0 k l x l.length i = some r ∧ (0 ≤ r ↔ x ∈ l.drop i) := by
 induction d with
 | zero =>
  intro k i hd hk
  obtain ⟨k, rfl⟩ : ∃ m, k = m + 1 := ⟨k - 1, by omega⟩
  refine ⟨-1, ?_, ?_⟩
  ·
   simp only [slices_Index_int_int.l0]
   rw [if_neg (by omega)]
  ·
   rw [List.drop_of_length_le (by omega)]
   simp
 | succ d ih =>
  intro k i hd hk
  obtain ⟨k, rfl⟩ : ∃ m, k = m + 1 := ⟨k - 1, by omega⟩
  have hx : l.drop i = rd l i :: l.drop (i + 1) := by
   unfold rd
   rw [Int.toNat_natCast, List.drop_eq_getElem_cons (by omega), List.getD_eq_getElem?_getD, List.getElem?_eq_getElem (by omega)]
   rfl
  simp only [slices_Index_int_int.l0]
  rw [if_pos (by omega), if_pos (by omega), if_pos (by omega), hx, w64 (by omega) (by omega)]
  by_cases h : x = rd l i
  ·
   rw [if_pos h]
   exact ⟨i, rfl, by simp [h]⟩
  ·
   rw [if_neg h]
   obtain ⟨r, h1, h2⟩ := ih k (i + 1) (by omega) (by omega)
   rw [show ((i + 1 : Nat) : Int) = (i : Int) + 1 by omega] at h1
   exact ⟨r, h1, by rw [h2]; simp [h]⟩
theorem has_eq (l : List Int) (x : Int) (hl : l.length ≤ 4611686018427387904) {k : Nat} (hk : l.length < k) : impl_has.f k l x = some (decide (x ∈ l)) := by
 unfold impl_has.f slices_Contains_int_int.f slices_Index_int_int.f
 obtain ⟨r, h1, h2⟩ := has_l0 l x hl l.length k 0 (by omega) hk
 rw [show ((0 : Nat) : Int) = 0 from rfl] at h1
 rw [h1]
 simp only [Option.bind_some]
 exact dec_of (by rw [decide_eq_true_eq]; simpa using h2)
def Good (D P : List UInt8) (C : Int) : Prop := tot (all 60 0 (D ++ P)) = (D ++ P).length ∧ tot (all 60 0 D) = D.length ∧ C = ((all 60 0 (D ++ P)).length : Int)
instance (D P : List UInt8) (C : Int) : Decidable (Good D P C) := inferInstanceAs (Decidable (_ ∧ _))
theorem Good.le {D P : List UInt8} {C : Int} (h : Good D P C) : (D ++ P).length ≤ 22320 := by
 have := all_tot372 60 0 (D ++ P)
 have := h.1
 omega
theorem records_eq (D P : List UInt8) (C : Int) (hs : (D ++ P).length ≤ 1099511627776) {K : Nat} (hK : 4 * (D ++ P).length + 600 < K) :
  impl_records.f K (M D) (M P) C = some (if Good D P C then ((all 60 0 (D ++ P)).map R27, true) else ([], false)) := by
 have hl : (D ++ P).length = D.length + P.length := List.length_append
 have h60 := all_len 60 0 (D ++ P)
 have hsl := sums_len (all 60 0 (D ++ P)) 0
 have hsl' : ((0 : Int) :: sums 0 (all 60 0 (D ++ P))).length = (all 60 0 (D ++ P)).length + 1 := by rw [List.length_cons, hsl]
 unfold impl_records.f
 rw [M_size, M_size, if_pos (by omega), sc_M, reads_eq _ hs (by omega)]
 simp only [Option.bind_some]
 rw [w64 (by omega) (by omega), if_pos (by omega), if_pos (by omega), rd_sums, M_size]
 by_cases h1 : tot (all 60 0 (D ++ P)) = (D ++ P).length
 ·
  rw [if_pos (by omega), has_eq _ _ (by omega) (by omega)]
  simp only [Option.bind_some, decide_eq_true_eq]
  have hm : ((D.length : Int) ∈ ((0 : Int) :: sums 0 (all 60 0 (D ++ P)))) ↔ tot (all 60 0 D) = D.length := by
   have := sums_mem (all 60 0 (D ++ P)) 0 D.length
   rw [show (((0 : Nat)) : Int) = 0 from rfl] at this
   rw [this]
   simpa using ends_iff 60 0 D P
  by_cases h2 : tot (all 60 0 D) = D.length
  ·
   rw [if_pos (hm.2 h2)]
   by_cases h3 : C = ((all 60 0 (D ++ P)).length : Int)
   ·
    have hg : Good D P C := ⟨h1, h2, h3⟩
    rw [if_pos (by rw [List.length_map]; exact h3), if_pos hg]
   ·
    rw [if_neg (by rw [List.length_map]; exact h3), if_neg (show ¬ Good D P C from fun h => h3 h.2.2)]
  ·
   rw [if_neg (fun h => h2 (hm.1 h)), if_neg (show ¬ Good D P C from fun h => h2 h.2.1)]
 ·
  rw [if_neg (by omega), if_neg (show ¬ Good D P C from fun h => h1 h.1)]
theorem log_eq (D P : List UInt8) (C : Int) (hD : D.length ≤ 549755813888) (hP : P.length ≤ 549755813888) {K : Nat} (hK : 4 * (D ++ P).length + 600 < K) : spec_l27Log.f K (M D) (M P) C = some (decide (Good D P C)) := by
 have hl : (D ++ P).length = D.length + P.length := List.length_append
 unfold spec_l27Log.f
 rw [M_size, M_size, w64 (by omega) (by omega), sc_M, open_eq _ (by omega) (by omega), open_eq _ (by omega) (by omega)]
 simp only [Option.bind_some]
 by_cases h0 : (30000 : Int) < (D.length : Int) + (P.length : Int)
 ·
  rw [if_pos h0]
  exact dec_of ⟨fun h => by simp at h, fun h => by have := Good.le h; omega⟩
 ·
  rw [if_neg h0, if_pos (by omega)]
  by_cases h1 : tot (all 60 0 (D ++ P)) = (D ++ P).length
  ·
   rw [if_pos (by omega)]
   by_cases h2 : tot (all 60 0 D) = D.length
   ·
    rw [if_pos (by omega)]
    refine dec_of ?_
    rw [beq_iff_eq, List.length_map]
    exact ⟨fun h => ⟨h1, h2, h.symm⟩, fun h => h.2.2.symm⟩
   ·
    rw [if_neg (by omega)]
    exact dec_of ⟨fun h => by simp at h, fun h => absurd h.2.1 h2⟩
  ·
   rw [if_neg (by omega)]
   exact dec_of ⟨fun h => by simp at h, fun h => absurd h.1 h1⟩
theorem valid_eq (D P : List UInt8) (C : Int) (hs : (D ++ P).length ≤ 1099511627776) {K : Nat} (hK : 4 * (D ++ P).length + 600 < K) : impl_IsValidLog.f K (M D) (M P) C = some (decide (Good D P C)) := by
 unfold impl_IsValidLog.f
 rw [records_eq D P C hs hK]
 simp only [Option.bind_some]
 by_cases h : Good D P C <;> simp [h]
theorem Good.count {D P : List UInt8} {C : Int} (h : Good D P C) : 0 ≤ C ∧ C ≤ 60 := by
 have := all_len 60 0 (D ++ P)
 have := h.2.2
 omega
theorem eqLog_self (a b : ByteArray) (c : Int) : laws_eqLog.f a b c a b c = some true := by
 unfold laws_eqLog.f
 rw [if_pos rfl, if_pos rfl, if_pos rfl]
theorem ex_log (a b : ByteArray) : ∃ D P, a = M D ∧ b = M P := by
 obtain ⟨D, h1⟩ := ex_M a
 obtain ⟨P, h2⟩ := ex_M b
 exact ⟨D, P, h1, h2⟩
end Go.Proofs.YtckigdechhmegaaDoor.Pr.Pure

namespace Go.Proofs.YtckigdechhmegaaDoor.Pr.PureX
open Go.RowKit Go.Proofs.YtckigdechhmegaaDoorW.PrintWords Go.Proofs.YtckigdechhmegaaDoorW.PrintLast Go.Proofs.YtckigdechhmegaaDoorW.PrintMore
set_option linter.unusedVariables false
set_option linter.unusedSimpArgs false
def FAR : Int := 1073741824
structure Arc where
 a : Int
 b : Int
 t : Int
def step1 (D : List Int) (a b t : Int) : List Int := if rd D a + t < rd D b then D.set b.toNat (rd D a + t) else D
def rnd (A : List Arc) (D : List Int) : List Int := A.foldl (fun D e => step1 D e.a e.b e.t) D
def it (A : List Arc) : Nat → List Int → List Int
 | 0, D => D
 | k + 1, D => rnd A (it A k D)
def In8 (i : Int) : Prop := 0 ≤ i ∧ i < 8
def OkA (A : List Arc) : Prop := ∀ e, e ∈ A → In8 e.a ∧ In8 e.b ∧ 1 ≤ e.t ∧ e.t ≤ 500
theorem rd_set {D : List Int} (hl : D.length = 8) {b i : Int} (hb : In8 b) (hi : In8 i) (x : Int) : rd (D.set b.toNat x) i = if i = b then x else rd D i := by
 unfold rd
 obtain ⟨hb0, hb1⟩ := hb
 obtain ⟨hi0, hi1⟩ := hi
 rw [List.getD_eq_getElem?_getD, List.getD_eq_getElem?_getD]
 by_cases e : i = b
 ·
  subst e
  rw [if_pos rfl, List.getElem?_set_self (by omega)]
  rfl
 ·
  rw [if_neg e, List.getElem?_set_ne (by omega)]
theorem len_step1 (D : List Int) (a b t : Int) : (step1 D a b t).length = D.length := by
 unfold step1
 split
 ·
  rw [List.length_set]
 ·
  rfl
theorem len_rnd (A : List Arc) : ∀ D : List Int, (rnd A D).length = D.length := by
 induction A with
 | nil => intro D; rfl
 | cons e A ih =>
  intro D
  show (rnd A (step1 D e.a e.b e.t)).length = _
  rw [ih, len_step1]
theorem rd_step1 {D : List Int} (hl : D.length = 8) {a b i : Int} (hb : In8 b) (hi : In8 i) (t : Int) : rd (step1 D a b t) i = if i = b ∧ rd D a + t < rd D b then rd D a + t else rd D i := by
 unfold step1
 by_cases h : rd D a + t < rd D b
 ·
  rw [if_pos h, rd_set hl hb hi]
  by_cases e : i = b
  ·
   rw [if_pos e, if_pos ⟨e, h⟩]
  ·
   rw [if_neg e, if_neg (fun z => e z.1)]
 ·
  rw [if_neg h, if_neg (fun z => h z.2)]
theorem step1_le {D : List Int} (hl : D.length = 8) {a b i : Int} (hb : In8 b) (hi : In8 i) (t : Int) : rd (step1 D a b t) i ≤ rd D i := by
 rw [rd_step1 hl hb hi]
 split
 ·
  rename_i h
  obtain ⟨rfl, h⟩ := h
  omega
 ·
  omega
theorem rnd_le (A : List Arc) (hA : OkA A) : ∀ (D : List Int), D.length = 8 → ∀ i, In8 i → rd (rnd A D) i ≤ rd D i := by
 induction A with
 | nil => intro D _ i _; exact Int.le_refl _
 | cons e A ih =>
  intro D hl i hi
  have h1 := ih (fun x hx => hA x (List.mem_cons_of_mem _ hx)) (step1 D e.a e.b e.t) (by rw [len_step1, hl]) i hi
  have h2 := step1_le (a := e.a) (t := e.t) hl (hA e List.mem_cons_self).2.1 hi
  exact Int.le_trans h1 h2
theorem rnd_arc (A : List Arc) (hA : OkA A) : ∀ (D : List Int), D.length = 8 → ∀ e, e ∈ A → rd (rnd A D) e.b ≤ rd D e.a + e.t := by
 induction A with
 | nil => intro D _ e he; cases he
 | cons x A ih =>
  intro D hl e he
  have hA' : OkA A := fun x hx => hA x (List.mem_cons_of_mem _ hx)
  have hx := hA x List.mem_cons_self
  have hl' : (step1 D x.a x.b x.t).length = 8 := by rw [len_step1, hl]
  show rd (rnd A (step1 D x.a x.b x.t)) e.b ≤ _
  rcases List.mem_cons.1 he with rfl | he'
  ·
   have h1 := rnd_le A hA' _ hl' e.b hx.2.1
   rw [rd_step1 hl hx.2.1 hx.2.1] at h1
   split at h1
   ·
    exact h1
   ·
    rename_i h
    have : ¬ (rd D e.a + e.t < rd D e.b) := fun z => h ⟨rfl, z⟩
    omega
  ·
   have h1 := ih hA' _ hl' e he'
   have h2 := step1_le (a := x.a) (t := x.t) hl hx.2.1 (hA e he).1
   omega
structure Inv (A : List Arc) (D : List Int) : Prop where
 len : D.length = 8
 lo : ∀ i, In8 i → 0 ≤ rd D i
 hi : ∀ i, In8 i → rd D i ≤ FAR
 zero : rd D 0 = 0
 tight : ∀ v, In8 v → v ≠ 0 → rd D v < FAR → ∃ e, e ∈ A ∧ e.b = v ∧ rd D e.a + e.t ≤ rd D v
theorem step_inv {A : List Arc} (hA : OkA A) {D : List Int} (h : Inv A D) {e : Arc} (he : e ∈ A) : Inv A (step1 D e.a e.b e.t) := by
 obtain ⟨ha, hb, ht, ht'⟩ := hA e he
 have hz : In8 0 := ⟨by omega, by omega⟩
 have la := h.lo e.a ha
 have hle := fun i hi => step1_le (a := e.a) (t := e.t) h.len hb (i := i) hi
 refine ⟨by rw [len_step1, h.len], fun i hi => ?_, fun i hi => Int.le_trans (hle i hi) (h.hi i hi), ?_, fun v hv hv0 hf => ?_⟩
 ·
  rw [rd_step1 h.len hb hi]
  split
  ·
   omega
  ·
   exact h.lo i hi
 ·
  rw [rd_step1 h.len hb hz]
  split
  ·
   rename_i z
   obtain ⟨z1, z2⟩ := z
   rw [← z1, h.zero] at z2
   omega
  ·
   exact h.zero
 ·
  by_cases hc : v = e.b ∧ rd D e.a + e.t < rd D e.b
  ·
   refine ⟨e, he, hc.1.symm, ?_⟩
   have := hle e.a ha
   have h2 := rd_step1 (a := e.a) (t := e.t) h.len hb hv
   rw [if_pos hc] at h2
   omega
  ·
   have h2 := rd_step1 (a := e.a) (t := e.t) h.len hb hv
   rw [if_neg hc] at h2
   rw [h2] at hf ⊢
   obtain ⟨x, hx, hxb, hxl⟩ := h.tight v hv hv0 hf
   exact ⟨x, hx, hxb, by have := hle x.a (hA x hx).1; omega⟩
theorem rnd_inv' {A : List Arc} (hA : OkA A) (B : List Arc) : (∀ e, e ∈ B → e ∈ A) → ∀ D, Inv A D → Inv A (rnd B D) := by
 induction B with
 | nil => intro _ D h; exact h
 | cons e B ih =>
  intro hB D h
  exact ih (fun x hx => hB x (List.mem_cons_of_mem _ hx)) _ (step_inv hA h (hB e List.mem_cons_self))
theorem rnd_inv {A : List Arc} (hA : OkA A) {D : List Int} (h : Inv A D) : Inv A (rnd A D) := rnd_inv' hA A (fun _ he => he) D h
theorem it_inv {A : List Arc} (hA : OkA A) {D : List Int} (h : Inv A D) : ∀ k, Inv A (it A k D)
 | 0 => h
 | k + 1 => rnd_inv hA (it_inv hA h k)
theorem cases8 {i : Int} (h : In8 i) : i = 0 ∨ i = 1 ∨ i = 2 ∨ i = 3 ∨ i = 4 ∨ i = 5 ∨ i = 6 ∨ i = 7 := by
 obtain ⟨h1, h2⟩ := h
 omega
theorem ext8 {D E : List Int} (hD : D.length = 8) (hE : E.length = 8) (h : ∀ i, In8 i → rd D i = rd E i) : D = E := by
 apply List.ext_getElem (by omega)
 intro i h1 h2
 have := h (i : Int) ⟨by omega, by omega⟩
 unfold rd at this
 rw [Int.toNat_natCast, List.getD_eq_getElem?_getD, List.getD_eq_getElem?_getD, List.getElem?_eq_getElem h1, List.getElem?_eq_getElem h2] at this
 exact this
def sum8 (D : List Int) : Int := rd D 0 + rd D 1 + rd D 2 + rd D 3 + rd D 4 + rd D 5 + rd D 6 + rd D 7
theorem le_or {D E : List Int} (hD : D.length = 8) (hE : E.length = 8) (h : ∀ i, In8 i → rd E i ≤ rd D i) : E = D ∨ sum8 E < sum8 D := by
 by_cases hq : ∀ i, In8 i → rd E i = rd D i
 ·
  exact .inl (ext8 hE hD hq)
 ·
  right
  obtain ⟨i, hi⟩ := Classical.not_forall.1 hq
  obtain ⟨hi8, hne⟩ := Classical.not_imp.1 hi
  have hlt : rd E i < rd D i := by have := h i hi8; omega
  have h0 := h 0 ⟨by omega, by omega⟩
  have h1 := h 1 ⟨by omega, by omega⟩
  have h2 := h 2 ⟨by omega, by omega⟩
  have h3 := h 3 ⟨by omega, by omega⟩
  have h4 := h 4 ⟨by omega, by omega⟩
  have h5 := h 5 ⟨by omega, by omega⟩
  have h6 := h 6 ⟨by omega, by omega⟩
  have h7 := h 7 ⟨by omega, by omega⟩
  unfold sum8
  rcases cases8 hi8 with rfl | rfl | rfl | rfl | rfl | rfl | rfl | rfl <;> omega
theorem sum8_nonneg {A : List Arc} {D : List Int} (h : Inv A D) : 0 ≤ sum8 D := by
 have h0 := h.lo 0 ⟨by omega, by omega⟩
 have h1 := h.lo 1 ⟨by omega, by omega⟩
 have h2 := h.lo 2 ⟨by omega, by omega⟩
 have h3 := h.lo 3 ⟨by omega, by omega⟩
 have h4 := h.lo 4 ⟨by omega, by omega⟩
 have h5 := h.lo 5 ⟨by omega, by omega⟩
 have h6 := h.lo 6 ⟨by omega, by omega⟩
 have h7 := h.lo 7 ⟨by omega, by omega⟩
 unfold sum8
 omega
theorem it_succ (A : List Arc) : ∀ (k : Nat) (D : List Int), it A (k + 1) D = it A k (rnd A D)
 | 0, D => rfl
 | k + 1, D => by
  show rnd A (it A (k + 1) D) = rnd A (it A k (rnd A D))
  rw [it_succ A k D]
theorem exists_fix {A : List Arc} (hA : OkA A) (n : Nat) : ∀ D, Inv A D → sum8 D ≤ n → ∃ N, rnd A (it A N D) = it A N D := by
 induction n with
 | zero =>
  intro D h hs
  rcases le_or h.len (by rw [len_rnd, h.len]) (rnd_le A hA D h.len) with e | e
  ·
   exact ⟨0, e⟩
  ·
   have := sum8_nonneg (rnd_inv hA h)
   omega
 | succ n ih =>
  intro D h hs
  rcases le_or h.len (by rw [len_rnd, h.len]) (rnd_le A hA D h.len) with e | e
  ·
   exact ⟨0, e⟩
  ·
   obtain ⟨N, hN⟩ := ih (rnd A D) (rnd_inv hA h) (by omega)
   refine ⟨N + 1, ?_⟩
   rw [it_succ]
   exact hN
theorem it_fix {A : List Arc} {D : List Int} (h : rnd A D = D) : ∀ k, it A k D = D
 | 0 => rfl
 | k + 1 => by
  show rnd A (it A k D) = D
  rw [it_fix h k, h]
theorem it_add (A : List Arc) (D : List Int) (j : Nat) : ∀ k, it A (j + k) D = it A k (it A j D)
 | 0 => rfl
 | k + 1 => by
  show rnd A (it A (j + k) D) = rnd A (it A k (it A j D))
  rw [it_add A D j k]
theorem it_anti {A : List Arc} (hA : OkA A) {D : List Int} (h : Inv A D) (j : Nat) : ∀ k i, In8 i → rd (it A (j + k) D) i ≤ rd (it A j D) i
 | 0, i, hi => Int.le_refl _
 | k + 1, i, hi => Int.le_trans (rnd_le A hA _ (it_inv hA h (j + k)).len i hi) (it_anti hA h j k i hi)
def cnt (d : List Int) (i v : Int) : Nat := if rd d i < rd d v then 1 else 0
theorem cnt_mono (d : List Int) {u v : Int} (h : rd d u < rd d v) (i : Int) : cnt d i u ≤ cnt d i v := by
 unfold cnt
 split <;> split <;> omega
theorem cnt_le (d : List Int) (i v : Int) : cnt d i v ≤ 1 := by
 unfold cnt
 split <;> omega
theorem cnt_self (d : List Int) (v : Int) : cnt d v v = 0 := by
 unfold cnt
 rw [if_neg (by omega)]
theorem cnt_yes (d : List Int) {u v : Int} (h : rd d u < rd d v) : cnt d u v = 1 := by
 unfold cnt
 rw [if_pos h]
def rank (d : List Int) (v : Int) : Nat := cnt d 0 v + cnt d 1 v + cnt d 2 v + cnt d 3 v + cnt d 4 v + cnt d 5 v + cnt d 6 v + cnt d 7 v
theorem rank_lt (d : List Int) {u v : Int} (hu : In8 u) (h : rd d u < rd d v) : rank d u < rank d v := by
 have m := cnt_mono d h
 have m0 := m 0
 have m1 := m 1
 have m2 := m 2
 have m3 := m 3
 have m4 := m 4
 have m5 := m 5
 have m6 := m 6
 have m7 := m 7
 have s := cnt_self d u
 have y := cnt_yes d h
 clear m h
 unfold rank
 rcases cases8 hu with rfl | rfl | rfl | rfl | rfl | rfl | rfl | rfl <;> omega
theorem rank_le (d : List Int) {v : Int} (hv : In8 v) : rank d v ≤ 7 := by
 have m := fun i => cnt_le d i v
 have m0 := m 0
 have m1 := m 1
 have m2 := m 2
 have m3 := m 3
 have m4 := m 4
 have m5 := m 5
 have m6 := m 6
 have m7 := m 7
 have s := cnt_self d v
 clear m
 unfold rank
 rcases cases8 hv with rfl | rfl | rfl | rfl | rfl | rfl | rfl | rfl <;> omega
def D0 : List Int := [0, FAR, FAR, FAR, FAR, FAR, FAR, FAR]
theorem D0_far {v : Int} (hv : In8 v) (h0 : v ≠ 0) : rd D0 v = FAR := by
 rcases cases8 hv with rfl | rfl | rfl | rfl | rfl | rfl | rfl | rfl
 ·
  exact absurd rfl h0
 all_goals rfl
theorem D0_inv (A : List Arc) : Inv A D0 := by
 refine ⟨rfl, fun i hi => ?_, fun i hi => ?_, rfl, fun v hv h0 hf => ?_⟩
 ·
  by_cases h : i = 0
  ·
   rw [h]; decide
  ·
   rw [D0_far hi h]; decide
 ·
  by_cases h : i = 0
  ·
   rw [h]; decide
  ·
   rw [D0_far hi h]; decide
 ·
  rw [D0_far hv h0] at hf
  omega
theorem it_rank {A : List Arc} (hA : OkA A) {d : List Int} (hd : Inv A d) (hle : ∀ k i, In8 i → rd d i ≤ rd (it A k D0) i) : ∀ (k : Nat) (v : Int), In8 v → rank d v ≤ k → rd (it A k D0) v = rd d v := by
 intro k
 induction k with
 | zero =>
  intro v hv hr
  by_cases h0 : v = 0
  ·
   rw [h0, hd.zero]; rfl
  ·
   show rd D0 v = _
   rw [D0_far hv h0]
   have h1 := hd.hi v hv
   by_cases hf : rd d v < FAR
   ·
    obtain ⟨e, he, rfl, hl⟩ := hd.tight v hv h0 hf
    obtain ⟨ha, hb, ht, _⟩ := hA e he
    have := rank_lt d ha (show rd d e.a < rd d e.b by omega)
    omega
   ·
    omega
 | succ k ih =>
  intro v hv hr
  have h1 := hle (k + 1) v hv
  have h2 := (it_inv hA (D0_inv A) (k + 1)).hi v hv
  by_cases h0 : v = 0
  ·
   rw [h0, hd.zero, (it_inv hA (D0_inv A) (k + 1)).zero]
  ·
   by_cases hf : rd d v < FAR
   ·
    obtain ⟨e, he, rfl, hl⟩ := hd.tight v hv h0 hf
    obtain ⟨ha, hb, ht, _⟩ := hA e he
    have h3 := rank_lt d ha (show rd d e.a < rd d e.b by omega)
    have h4 := ih e.a ha (by omega)
    have h5 := rnd_arc A hA _ (it_inv hA (D0_inv A) k).len e he
    have h6 : rd (it A (k + 1) D0) e.b ≤ rd (it A k D0) e.a + e.t := h5
    omega
   ·
    have := hd.hi v hv
    omega
theorem fix7 {A : List Arc} (hA : OkA A) : rnd A (it A 7 D0) = it A 7 D0 := by
 obtain ⟨N, hN⟩ := exists_fix hA (sum8 D0).toNat D0 (D0_inv A) (by have := sum8_nonneg (D0_inv A); omega)
 have hi := it_inv hA (D0_inv A) N
 have hle : ∀ k i, In8 i → rd (it A N D0) i ≤ rd (it A k D0) i := by
  intro k i hi8
  rcases Nat.le_total k N with h | h
  ·
   have := it_anti hA (D0_inv A) k (N - k) i hi8
   rwa [show k + (N - k) = N by omega] at this
  ·
   have := it_add A D0 N (k - N)
   rw [show N + (k - N) = k by omega, it_fix hN] at this
   rw [this]
   exact Int.le_refl _
 have e : it A 7 D0 = it A N D0 := ext8 (it_inv hA (D0_inv A) 7).len hi.len (fun i h8 => it_rank hA hi hle 7 i h8 (rank_le _ h8))
 rw [e, hN]
def dec (x : Int) : Int := if x = FAR then -1 else x
def Bd (c : Int) (D : List Int) : Prop := ∀ i, In8 i → rd D i = FAR ∨ rd D i ≤ c
theorem Bd.mono {c c' : Int} {D : List Int} (h : Bd c D) (hc : c ≤ c') : Bd c' D := fun i hi => by
 rcases h i hi with h | h
 ·
  exact .inl h
 ·
  exact .inr (by omega)
theorem step_bd {c : Int} {D : List Int} (hl : D.length = 8) (h : Bd c D) {a b t : Int} (ha : In8 a) (hb : In8 b) (ht : t ≤ 500) (hh : ∀ i, In8 i → rd D i ≤ FAR) (ht0 : 0 ≤ t) : Bd (c + 500) (step1 D a b t) := fun i hi => by
 rw [rd_step1 hl hb hi]
 split
 ·
  rename_i z
  rcases h a ha with e | e
  ·
   have := hh b hb
   omega
  ·
   exact .inr (by omega)
 ·
  rcases h i hi with e | e
  ·
   exact .inl e
  ·
   exact .inr (by omega)
theorem rd_map {D : List Int} (hl : D.length = 8) {i : Int} (hi : In8 i) : rd (D.map dec) i = dec (rd D i) := by
 obtain ⟨h0, h1⟩ := hi
 unfold rd
 rw [List.getD_eq_getElem?_getD, List.getD_eq_getElem?_getD, List.getElem?_map, List.getElem?_eq_getElem (by omega)]
 rfl
theorem dec_nonneg {x : Int} (h : 0 ≤ x) (h' : x ≤ FAR) : dec x ≥ 0 ↔ x < FAR := by
 unfold dec
 split <;> omega
theorem map_set_dec (D : List Int) (n : Nat) (x : Int) (hx : x ≠ FAR) : (D.map dec).set n x = (D.set n x).map dec := by
 rw [List.map_set]
 congr 1
 unfold dec
 rw [if_neg hx]
theorem cond_dec {c : Int} {D : List Int} (hl : D.length = 8) (hlo : ∀ i, In8 i → 0 ≤ rd D i) (hhi : ∀ i, In8 i → rd D i ≤ FAR) (hb : Bd c D) (hc : c + 500 < FAR) {a b t : Int} (ha : In8 a) (hb8 : In8 b) (ht : 1 ≤ t) (ht' : t ≤ 500) :
  (rd (D.map dec) a ≥ 0 ↔ rd D a < FAR) ∧ (rd D a < FAR → rd (D.map dec) a = rd D a ∧ (rd (D.map dec) b < 0 ∨ rd D a + t < rd (D.map dec) b ↔ rd D a + t < rd D b) ∧ rd D a + t < FAR) ∧ (¬ rd D a < FAR → ¬ rd D a + t < rd D b) := by
 rw [rd_map hl ha, rd_map hl hb8]
 have a0 := hlo a ha
 have a1 := hhi a ha
 have b0 := hlo b hb8
 have b1 := hhi b hb8
 have a2 := hb a ha
 unfold FAR at *
 refine ⟨dec_nonneg a0 a1, fun h => ⟨?_, ?_, ?_⟩, fun h => by omega⟩
 ·
  unfold dec FAR
  rw [if_neg (by omega)]
 ·
  unfold dec FAR
  split <;> omega
 ·
  omega
theorem relax_comm {D : List Int} (hl : D.length = 8) {a b t : Int} (ha : In8 a) (hb : In8 b) (ht : 1 ≤ t) : step1 (step1 D b a t) a b t = step1 (step1 D a b t) b a t := by
 apply ext8 (by rw [len_step1, len_step1, hl]) (by rw [len_step1, len_step1, hl])
 intro i hi
 have l1 : (step1 D b a t).length = 8 := by rw [len_step1, hl]
 have l2 : (step1 D a b t).length = 8 := by rw [len_step1, hl]
 rw [rd_step1 l1 hb hi, rd_step1 l2 ha hi, rd_step1 hl ha ha, rd_step1 hl ha hb, rd_step1 hl ha hi, rd_step1 hl hb hb, rd_step1 hl hb ha, rd_step1 hl hb hi]
 by_cases e : a = b
 ·
  subst e
  simp only [true_and]
 ·
  have e' : ¬ b = a := fun h => e h.symm
  simp only [e, e', false_and, if_false, true_and]
  by_cases c1 : rd D b + t < rd D a
  ·
   simp only [c1, if_true, and_true]
   have c2 : ¬ rd D a + t < rd D b := by omega
   have c3 : ¬ rd D b + t + t < rd D b := by omega
   simp only [c2, c3, and_false, if_false, c1, and_true]
  ·
   by_cases c2 : rd D a + t < rd D b
   ·
    have c3 : ¬ rd D a + t + t < rd D a := by omega
    simp only [c1, c2, c3, and_false, and_true, if_false, if_true]
   ·
    simp only [c1, c2, and_false, if_false]
theorem w64 {x : Int} (h1 : -9223372036854775808 ≤ x) (h2 : x ≤ 9223372036854775807) : wrap64 x = x := by
 unfold wrap64
 omega
theorem set_map_step {α β : Type} (f : α → β) (l : List α) (z : β) (i : Nat) (hi : i < l.length) (a : α) (ha : l[i]? = some a) :
  ((l.take i).map f ++ List.replicate (l.length - i) z).set i (f a) = (l.take (i + 1)).map f ++ List.replicate (l.length - (i + 1)) z := by
 have h1 : ((l.take i).map f).length = i := by simp; omega
 rw [List.set_append_right _ _ (by omega), h1, Nat.sub_self]
 obtain ⟨m, hm⟩ : ∃ m, l.length - i = m + 1 := ⟨l.length - i - 1, by omega⟩
 rw [hm, show l.length - (i + 1) = m by omega, List.replicate_succ, List.set_cons_zero, List.take_add_one, ha]
 simp
theorem getD_some {α : Type} (l : List α) (z : α) (i : Nat) (h : i < l.length) : l[i]? = some (l.getD i z) := by
 rw [List.getD_eq_getElem?_getD, List.getElem?_eq_getElem h]
 rfl
def cvLeg (x : S84) : S53 := ⟨x.f0, x.f1, x.f2, x.f3, x.f4⟩
theorem toLegS_l0 (l : List S84) (hl : l.length ≤ 4611686018427387904) (d : Nat) : ∀ (k i : Nat), i + d = l.length → d < k →
  laws_toLegS.l0 k l ((l.take i).map cvLeg ++ List.replicate (l.length - i) z53) i = some (l.map cvLeg) := by
 induction d with
 | zero =>
  intro k i hd hk
  obtain ⟨k, rfl⟩ : ∃ m, k = m + 1 := ⟨k - 1, by omega⟩
  simp only [laws_toLegS.l0]
  rw [if_neg (by omega), List.take_of_length_le (by omega), show l.length - i = 0 by omega]
  simp
 | succ d ih =>
  intro k i hd hk
  obtain ⟨k, rfl⟩ : ∃ m, k = m + 1 := ⟨k - 1, by omega⟩
  simp only [laws_toLegS.l0, laws_toLeg.f, Option.bind_some]
  rw [if_pos (by omega), if_pos (by omega), if_pos (by simp; omega), w64 (by omega) (by omega)]
  have ha : l[i]? = some (rd_T84 l i) := getD_some l z84 i (by omega)
  rw [Int.toNat_natCast]
  have := set_map_step cvLeg l z53 i (by omega) _ ha
  rw [show (⟨(rd_T84 l i).f0, (rd_T84 l i).f1, (rd_T84 l i).f2, (rd_T84 l i).f3, (rd_T84 l i).f4⟩ : S53) = cvLeg (rd_T84 l i) from rfl, this]
  exact ih k (i + 1) (by omega) (by omega)
theorem toLegS_eq {l : List S84} (hl : l.length * 40 ≤ 140737488351232) {k : Nat} (hk : l.length < k) : laws_toLegS.f k l = some (l.map cvLeg) := by
 unfold laws_toLegS.f
 rw [if_pos (by omega), if_pos (by omega), Int.toNat_natCast]
 have := toLegS_l0 l (by omega) l.length k 0 (by omega) hk
 simpa using this
theorem eqLegS_self (l : List S53) (hl : l.length ≤ 4611686018427387904) (d : Nat) : ∀ (k : Nat) (i : Int), 0 ≤ i → i + d = l.length → d < k → laws_eqLegS.l0 k l l i = some true := by
 induction d with
 | zero =>
  intro k i h0 hd hk
  obtain ⟨k, rfl⟩ : ∃ m, k = m + 1 := ⟨k - 1, by omega⟩
  simp only [laws_eqLegS.l0]
  rw [if_neg (by omega)]
 | succ d ih =>
  intro k i h0 hd hk
  obtain ⟨k, rfl⟩ : ∃ m, k = m + 1 := ⟨k - 1, by omega⟩
  simp only [laws_eqLegS.l0, laws_eqLeg.f, if_true, Option.bind_some]
  rw [if_pos (by omega), if_pos (by omega), if_pos (by omega), w64 (by omega) (by omega)]
  exact ih k (i + 1) (by omega) (by omega) (by omega)
theorem eqLegS_eq {l : List S53} (hl : l.length ≤ 4611686018427387904) {k : Nat} (hk : l.length < k) : laws_eqLegS.f k l l = some true := by
 unfold laws_eqLegS.f
 rw [if_pos rfl]
 exact eqLegS_self l hl l.length k 0 (by omega) (by omega) hk
theorem toBoolS_l0 (l : List Bool) (hl : l.length ≤ 4611686018427387904) (d : Nat) : ∀ (k i : Nat), i + d = l.length → d < k →
  laws_toBoolS.l0 k l (l.take i ++ List.replicate (l.length - i) false) i = some l := by
 induction d with
 | zero =>
  intro k i hd hk
  obtain ⟨k, rfl⟩ : ∃ m, k = m + 1 := ⟨k - 1, by omega⟩
  simp only [laws_toBoolS.l0]
  rw [if_neg (by omega), List.take_of_length_le (by omega), show l.length - i = 0 by omega]
  simp
 | succ d ih =>
  intro k i hd hk
  obtain ⟨k, rfl⟩ : ∃ m, k = m + 1 := ⟨k - 1, by omega⟩
  simp only [laws_toBoolS.l0]
  rw [if_pos (by omega), if_pos (by omega), if_pos (by simp; omega), w64 (by omega) (by omega)]
  have ha : l[i]? = some (rdOf false l i) := getD_some l false i (by omega)
  rw [Int.toNat_natCast]
  have := set_map_step (fun x : Bool => x) l false i (by omega) _ ha
  rw [List.map_id'', List.map_id''] at this
  ·
   rw [this]
   exact ih k (i + 1) (by omega) (by omega)
  ·
   exact fun _ => rfl
  ·
   exact fun _ => rfl
theorem toBoolS_eq {l : List Bool} (hl : l.length ≤ 140737488351232) {k : Nat} (hk : l.length < k) : laws_toBoolS.f k l = some l := by
 unfold laws_toBoolS.f
 rw [if_pos (by omega), if_pos (by omega), Int.toNat_natCast]
 have := toBoolS_l0 l (by omega) l.length k 0 (by omega) hk
 simpa using this
theorem eqBoolS_self (l : List Bool) (hl : l.length ≤ 4611686018427387904) (d : Nat) : ∀ (k : Nat) (i : Int), 0 ≤ i → i + d = l.length → d < k → laws_eqBoolS.l0 k l l i = some true := by
 induction d with
 | zero =>
  intro k i h0 hd hk
  obtain ⟨k, rfl⟩ : ∃ m, k = m + 1 := ⟨k - 1, by omega⟩
  simp only [laws_eqBoolS.l0]
  rw [if_neg (by omega)]
 | succ d ih =>
  intro k i h0 hd hk
  obtain ⟨k, rfl⟩ : ∃ m, k = m + 1 := ⟨k - 1, by omega⟩
  simp only [laws_eqBoolS.l0, bne_self_eq_false, Bool.false_eq_true, if_false]
  rw [if_pos (by omega), if_pos (by omega), if_pos (by omega), w64 (by omega) (by omega)]
  exact ih k (i + 1) (by omega) (by omega) (by omega)
theorem eqBoolS_eq {l : List Bool} (hl : l.length ≤ 4611686018427387904) {k : Nat} (hk : l.length < k) : laws_eqBoolS.f k l l = some true := by
 unfold laws_eqBoolS.f
 rw [if_pos rfl]
 exact eqBoolS_self l hl l.length k 0 (by omega) (by omega) hk
theorem toExploration_eq {l : List S84} {v d : List Bool} {a b : Int} (hl : l.length * 40 ≤ 140737488351232) (hv : v.length ≤ 140737488351232) (hd : d.length ≤ 140737488351232) {k : Nat} (hk : l.length < k) (hk1 : v.length < k) (hk2 : d.length < k) :
  laws_toExploration.f k l v d a b = some (l.map cvLeg, v, d, a, b) := by
 unfold laws_toExploration.f
 rw [toLegS_eq hl hk, toBoolS_eq hv hk1, toBoolS_eq hd hk2]
 rfl
theorem eqExploration_eq {l : List S53} {v d : List Bool} {a b : Int} (hl : l.length ≤ 4611686018427387904) (hv : v.length ≤ 4611686018427387904) (hd : d.length ≤ 4611686018427387904) {k : Nat} (hk : l.length < k) (hk1 : v.length < k) (hk2 : d.length < k) :
  laws_eqExploration.f k l v d a b l v d a b = some true := by
 unfold laws_eqExploration.f
 rw [eqLegS_eq hl hk, eqBoolS_eq hv hk1, eqBoolS_eq hd hk2]
 simp
theorem l1In_eq (a b c : Int) : spec_l1In.f a b c = some (decide (b ≤ a ∧ a ≤ c)) := by
 unfold spec_l1In.f
 by_cases h : a ≥ b
 ·
  rw [if_pos h]; simp [show b ≤ a from h]
 ·
  rw [if_neg h]; simp [show ¬ b ≤ a from h]
theorem within_eq (a b c : Int) : impl_within.f a b c = some (decide (b ≤ a ∧ a ≤ c)) := by
 unfold impl_within.f
 by_cases h : a ≥ b
 ·
  rw [if_pos h]; simp [show b ≤ a from h]
 ·
  rw [if_neg h]; simp [show ¬ b ≤ a from h]
theorem station_eq (a : Int) : spec_l4Station.f a = some (decide (0 ≤ a ∧ a ≤ 7)) := by
 unfold spec_l4Station.f; rw [l1In_eq]; rfl
theorem isStation_eq (a : Int) : impl_isStation.f a = some (decide (0 ≤ a ∧ a ≤ 7)) := by
 unfold impl_isStation.f; rw [within_eq]; rfl
def LegOk (x : S53) : Prop := (0 ≤ x.f0 ∧ x.f0 ≤ 7) ∧ (0 ≤ x.f1 ∧ x.f1 ≤ 7) ∧ x.f0 ≠ x.f1 ∧ (1 ≤ x.f2 ∧ x.f2 ≤ 500) ∧ (0 ≤ x.f3 ∧ x.f3 ≤ 359) ∧ (-90 ≤ x.f4 ∧ x.f4 ≤ 90)
theorem leg_spec (x : S53) : ∃ b, spec_l4Leg.f x.f0 x.f1 x.f2 x.f3 x.f4 = some b ∧ (b = true ↔ LegOk x) := by
 unfold spec_l4Leg.f spec_l2Bearing.f LegOk
 simp only [station_eq, l1In_eq, Option.bind_some, decide_eq_true_eq]
 by_cases h1 : 0 ≤ x.f0 ∧ x.f0 ≤ 7
 ·
  rw [if_pos h1]
  by_cases h2 : 0 ≤ x.f1 ∧ x.f1 ≤ 7
  ·
   rw [if_pos h2]
   by_cases h3 : x.f0 = x.f1
   ·
    rw [if_pos h3]
    exact ⟨_, rfl, fun h => (by cases h), fun h => absurd h3 h.2.2.1⟩
   ·
    rw [if_neg h3]
    by_cases h4 : 1 ≤ x.f2 ∧ x.f2 ≤ 500
    ·
     rw [if_pos h4]
     by_cases h5 : 0 ≤ x.f3 ∧ x.f3 ≤ 359
     ·
      rw [if_pos h5]
      refine ⟨_, rfl, ?_⟩
      rw [decide_eq_true_eq]
      exact ⟨fun h => ⟨h1, h2, h3, h4, h5, h⟩, fun h => h.2.2.2.2.2⟩
     ·
      rw [if_neg h5]
      exact ⟨_, rfl, fun h => (by cases h), fun h => absurd h.2.2.2.2.1 h5⟩
    ·
     rw [if_neg h4]
     exact ⟨_, rfl, fun h => (by cases h), fun h => absurd h.2.2.2.1 h4⟩
  ·
   rw [if_neg h2]
   exact ⟨_, rfl, fun h => (by cases h), fun h => absurd h.2.1 h2⟩
 ·
  rw [if_neg h1]
  exact ⟨_, rfl, fun h => (by cases h), fun h => absurd h.1 h1⟩
theorem leg_impl (a b c d e : Int) : impl_IsLeg.f a b c d e = spec_l4Leg.f a b c d e := by
 unfold impl_IsLeg.f spec_l4Leg.f impl_isBearing.f spec_l2Bearing.f
 simp only [station_eq, isStation_eq, within_eq, l1In_eq]
theorem legs_spec (l : List S53) (hl : l.length ≤ 4611686018427387904) (d : Nat) : ∀ (k : Nat) (i : Int), 0 ≤ i → i + d = l.length → d < k →
  ∃ b, spec_l4Legs.l0 k l i = some b ∧ (b = true ↔ (∀ j : Int, i ≤ j → j < l.length → LegOk (rd_T53 l j)) ∧ l.length ≤ 12) := by
 induction d with
 | zero =>
  intro k i h0 hd hk
  obtain ⟨k, rfl⟩ : ∃ m, k = m + 1 := ⟨k - 1, by omega⟩
  refine ⟨_, by simp only [spec_l4Legs.l0]; rw [if_neg (by omega)], ?_⟩
  rw [decide_eq_true_eq]
  constructor
  ·
   intro h
   exact ⟨fun j h1 h2 => by omega, by omega⟩
  ·
   intro h
   omega
 | succ d ih =>
  intro k i h0 hd hk
  obtain ⟨k, rfl⟩ : ∃ m, k = m + 1 := ⟨k - 1, by omega⟩
  obtain ⟨b, hb, hiff⟩ := ih k (i + 1) (by omega) (by omega) (by omega)
  obtain ⟨x, hx, hxi⟩ := leg_spec (rd_T53 l i)
  simp only [spec_l4Legs.l0]
  rw [if_pos (show i < (l.length : Int) by omega), if_pos h0, hx, w64 (by omega) (by omega)]
  simp only [Option.bind_some]
  cases x with
  | false =>
   rw [if_neg (by decide)]
   exact ⟨_, rfl, fun h => (by cases h), fun h => (by have := hxi.2 (h.1 i (by omega) (by omega)); cases this)⟩
  | true =>
   rw [if_pos rfl]
   refine ⟨b, hb, ?_⟩
   rw [hiff]
   refine ⟨fun h => ⟨fun j h1 h2 => ?_, h.2⟩, fun h => ⟨fun j h1 h2 => h.1 j (by omega) h2, h.2⟩⟩
   by_cases e : j = i
   ·
    rw [e]; exact hxi.1 rfl
   ·
    exact h.1 j (by omega) h2
theorem legs_impl (l : List S53) : ∀ (k : Nat) (i : Int), impl_areLegs.l0 k l l (l.length : Int) i = spec_l4Legs.l0 k l i
 | 0, i => by simp only [impl_areLegs.l0, spec_l4Legs.l0]
 | k + 1, i => by
  simp only [impl_areLegs.l0, spec_l4Legs.l0, leg_impl, legs_impl l k]
  by_cases h1 : i < (l.length : Int)
  ·
   simp only [if_pos h1]
  ·
   simp only [if_neg h1]
def usable (v : List Bool) (g : S53) : Bool := rdOf false v g.f0 && rdOf false v g.f1
def arcsOf (v : List Bool) : List S53 → List Arc
 | [] => []
 | g :: l => if usable v g = true then ⟨g.f0, g.f1, g.f2⟩ :: ⟨g.f1, g.f0, g.f2⟩ :: arcsOf v l else arcsOf v l
def LegsOk (l : List S53) : Prop := ∀ x, x ∈ l → LegOk x
theorem legsOk_of {l : List S53} (h : ∀ j : Int, 0 ≤ j → j < l.length → LegOk (rd_T53 l j)) : LegsOk l := by
 intro x hx
 obtain ⟨i, hi, rfl⟩ := List.mem_iff_getElem.1 hx
 have := h (i : Int) (by omega) (by omega)
 have e : rd_T53 l (i : Int) = l[i] := by
  show l.getD (i : Int).toNat _ = _
  rw [Int.toNat_natCast, List.getD_eq_getElem?_getD, List.getElem?_eq_getElem hi]
  rfl
 rwa [e] at this
theorem rdLeg_mem {l : List S53} {i : Int} (h0 : 0 ≤ i) (h1 : i < l.length) : rd_T53 l i ∈ l := by
 show l.getD i.toNat _ ∈ l
 rw [List.getD_eq_getElem?_getD, List.getElem?_eq_getElem (by omega)]
 exact List.getElem_mem _
theorem drop_rdLeg (l : List S53) (i : Nat) (h : i < l.length) : l.drop i = rd_T53 l (i : Int) :: l.drop (i + 1) := by
 rw [List.drop_eq_getElem_cons h]
 congr 1
 show _ = l.getD (i : Int).toNat _
 rw [Int.toNat_natCast, List.getD_eq_getElem?_getD, List.getElem?_eq_getElem h]
 rfl
theorem arcs_ok (v : List Bool) (l : List S53) (h : LegsOk l) : OkA (arcsOf v l) := by
 induction l with
 | nil => intro e he; cases he
 | cons g l ih =>
  have hg := h g List.mem_cons_self
  have ih := ih (fun x hx => h x (List.mem_cons_of_mem _ hx))
  intro e he
  unfold arcsOf at he
  split at he
  ·
   rcases List.mem_cons.1 he with rfl | he
   ·
    exact ⟨⟨hg.1.1, by have := hg.1.2; show g.f0 < 8; omega⟩, ⟨hg.2.1.1, by have := hg.2.1.2; show g.f1 < 8; omega⟩, hg.2.2.2.1⟩
   ·
    rcases List.mem_cons.1 he with rfl | he
    ·
     exact ⟨⟨hg.2.1.1, by have := hg.2.1.2; show g.f1 < 8; omega⟩, ⟨hg.1.1, by have := hg.1.2; show g.f0 < 8; omega⟩, hg.2.2.2.1⟩
    ·
     exact ih e he
  ·
   exact ih e he
def far8 (D : List Int) : Prop := D.length = 8 ∧ (∀ i, In8 i → 0 ≤ rd D i) ∧ (∀ i, In8 i → rd D i ≤ FAR)
theorem far8_step {D : List Int} (h : far8 D) {a b t : Int} (ha : In8 a) (hb : In8 b) (ht : 0 ≤ t) : far8 (step1 D a b t) := by
 refine ⟨by rw [len_step1, h.1], fun i hi => ?_, fun i hi => Int.le_trans (step1_le h.1 hb hi t) (h.2.2 i hi)⟩
 rw [rd_step1 h.1 hb hi]
 have := h.2.1 a ha
 split
 ·
  omega
 ·
  exact h.2.1 i hi
theorem set_same8 {D : List Int} (h : D.length = 8) {b : Int} (hb : In8 b) : D.set b.toNat (rd D b) = D := by
 apply ext8 (by rw [List.length_set, h]) h
 intro i hi
 rw [rd_set h hb hi]
 split
 ·
  rename_i e
  rw [e]
 ·
  rfl
theorem mn_step {D : List Int} (h : far8 D) {a b t : Int} (ha : In8 a) (hb : In8 b) (ht : 0 ≤ t) (ht' : t ≤ 500) : D.set b.toNat (mn (rd D b) (wrap64 (rd D a + t))) = step1 D a b t := by
 have a0 := h.2.1 a ha
 have a1 := h.2.2 a ha
 unfold FAR at a1
 rw [w64 (by omega) (by omega)]
 unfold mn step1
 by_cases hc : rd D a + t < rd D b
 ·
  rw [if_pos hc, if_pos hc]
 ·
  rw [if_neg hc, if_neg hc, set_same8 h.1 hb]
theorem in8 {a : Int} (h0 : 0 ≤ a) (h1 : a ≤ 7) : In8 a := ⟨h0, by omega⟩
theorem wayOut_l1 (l : List S53) (hl : LegsOk l) (hn : l.length ≤ 12) (v d : List Bool) (hv : v.length = 8) (a b r : Int) (n : Nat) : ∀ (k i : Nat) (D : List Int), i + n = l.length → n < k → far8 D →
  ∃ k', k ≤ k' + n + 1 ∧ k' < k ∧ impl_Exploration_wayOut.l1 k D r l (l.length : Int) i l v d a b = impl_Exploration_wayOut.l0 k' (rnd (arcsOf v (l.drop i)) D) (wrap64 (r + 1)) l v d a b := by
 induction n with
 | zero =>
  intro k i D hi hk hD
  obtain ⟨k, rfl⟩ : ∃ m, k = m + 1 := ⟨k - 1, by omega⟩
  refine ⟨k, by omega, by omega, ?_⟩
  simp only [impl_Exploration_wayOut.l1]
  rw [if_neg (by omega), List.drop_eq_nil_of_le (by omega)]
  rfl
 | succ n ih =>
  intro k i D hi hk hD
  obtain ⟨k, rfl⟩ : ∃ m, k = m + 1 := ⟨k - 1, by omega⟩
  rw [drop_rdLeg l i (by omega)]
  have hg := hl _ (rdLeg_mem (l := l) (i := (i : Int)) (by omega) (by omega))
  generalize hge : rd_T53 l (i : Int) = g at hg
  have i0 := in8 hg.1.1 hg.1.2
  have i1 := in8 hg.2.1.1 hg.2.1.2
  obtain ⟨g00, g01⟩ := hg.1
  obtain ⟨g10, g11⟩ := hg.2.1
  obtain ⟨ht, ht'⟩ := hg.2.2.2.1
  simp only [impl_Exploration_wayOut.l1, hge]
  rw [if_pos (by omega), if_pos (by omega), if_pos (by omega), if_pos (by omega), if_pos (by omega), w64 (x := (i : Int) + 1) (by omega) (by omega)]
  unfold arcsOf usable
  cases h0 : rdOf false v g.f0 with
  | false =>
   rw [if_neg (by decide)]
   obtain ⟨k', h1, h2, h3⟩ := ih k (i + 1) D (by omega) (by omega) hD
   exact ⟨k', by omega, by omega, h3⟩
  | true =>
   rw [if_pos rfl, if_pos (by omega), if_pos (by omega)]
   cases h1 : rdOf false v g.f1 with
   | false =>
    rw [if_neg (by decide)]
    obtain ⟨k', h1, h2, h3⟩ := ih k (i + 1) D (by omega) (by omega) hD
    exact ⟨k', by omega, by omega, h3⟩
   | true =>
    have hl8 := hD.1
    rw [if_pos rfl, if_pos (by omega), if_pos (by omega), mn_step hD i1 i0 (by omega) ht']
    simp only [Option.bind_some]
    rw [mn_step (far8_step hD i1 i0 (by omega)) i0 i1 (by omega) ht', relax_comm hl8 i0 i1 ht]
    obtain ⟨k', h1, h2, h3⟩ := ih k (i + 1) (step1 (step1 D g.f0 g.f1 g.f2) g.f1 g.f0 g.f2) (by omega) (by omega) (far8_step (far8_step hD i0 i1 (by omega)) i1 i0 (by omega))
    exact ⟨k', by omega, by omega, h3⟩
theorem wayOut_l0 (l : List S53) (hl : LegsOk l) (hn : l.length ≤ 12) (v d : List Bool) (hv : v.length = 8) (a b : Int) (ha : In8 a) (n : Nat) : ∀ (k r : Nat), r + n = 8 → n * 16 < k →
  impl_Exploration_wayOut.l0 k (it (arcsOf v l) r D0) r l v d a b = some (rd (it (arcsOf v l) 8 D0) a, decide (rd (it (arcsOf v l) 8 D0) a < FAR)) := by
 induction n with
 | zero =>
  intro k r hr hk
  obtain ⟨k, rfl⟩ : ∃ m, k = m + 1 := ⟨k - 1, by omega⟩
  obtain rfl : r = 8 := by omega
  have := (it_inv (arcs_ok v l hl) (D0_inv _) 8).len
  simp only [impl_Exploration_wayOut.l0]
  rw [if_neg (by decide), if_pos ha.1, if_pos (by have := ha.2; omega)]
  rfl
 | succ n ih =>
  intro k r hr hk
  obtain ⟨k, rfl⟩ : ∃ m, k = m + 1 := ⟨k - 1, by omega⟩
  simp only [impl_Exploration_wayOut.l0]
  rw [if_pos (by omega)]
  have I := it_inv (arcs_ok v l hl) (D0_inv _) r
  obtain ⟨k', h1, h2, h3⟩ := wayOut_l1 l hl hn v d hv a b r l.length k 0 (it (arcsOf v l) r D0) (by omega) (by omega) ⟨I.len, I.lo, I.hi⟩
  rw [show ((0 : Nat) : Int) = 0 from rfl] at h3
  rw [h3, w64 (by omega) (by omega), List.drop_zero]
  exact ih k' (r + 1) (by omega) (by omega)
theorem wayOut_eq {l : List S53} (hl : LegsOk l) (hn : l.length ≤ 12) {v : List Bool} (d : List Bool) (hv : v.length = 8) {a : Int} (b : Int) (ha : In8 a) {k : Nat} (hk : 200 ≤ k) :
  impl_Exploration_wayOut.f k l v d a b = some (rd (it (arcsOf v l) 7 D0) a, decide (rd (it (arcsOf v l) 7 D0) a < FAR)) := by
 have h := wayOut_l0 l hl hn v d hv a b ha 8 k 0 (by omega) (by omega)
 have e : it (arcsOf v l) 8 D0 = it (arcsOf v l) 7 D0 := fix7 (arcs_ok v l hl)
 rw [e] at h
 exact h
def stF (F : List Int) (a b t : Int) : List Int := if rd F a ≥ 0 ∧ (rd F b < 0 ∨ wrap64 (rd F a + t) < rd F b) then F.set b.toNat (wrap64 (rd F a + t)) else F
def cF (F : List Int) (a b t : Int) : Bool := decide (rd F a ≥ 0 ∧ (rd F b < 0 ∨ wrap64 (rd F a + t) < rd F b))
theorem out_l2 (l : List S53) (v : List Bool) (p : Int) (F : List Int) (ag : Bool) (i : Int) (h0 : 0 ≤ i) (hi : i < l.length) (hl : l.length ≤ 12) (hF : F.length = 8) (hv : v.length = 8) (i0 : In8 (rd_T53 l i).f0) (i1 : In8 (rd_T53 l i).f1) (k : Nat) :
  ∃ k', k ≤ k' ∧ k' ≤ k + 1 ∧ spec_l25Out.l2 (k + 3) l v p F ag i = (if usable v (rd_T53 l i) = true then spec_l25Out.l2 k' l v p (stF (stF F (rd_T53 l i).f0 (rd_T53 l i).f1 (rd_T53 l i).f2) (rd_T53 l i).f1 (rd_T53 l i).f0 (rd_T53 l i).f2) (ag || cF F (rd_T53 l i).f0 (rd_T53 l i).f1 (rd_T53 l i).f2 || cF (stF F (rd_T53 l i).f0 (rd_T53 l i).f1 (rd_T53 l i).f2) (rd_T53 l i).f1 (rd_T53 l i).f0 (rd_T53 l i).f2) (i + 1) else spec_l25Out.l2 k' l v p F ag (i + 1)) := by
 simp only [spec_l25Out.l2, w64 (x := i + 1) (by omega) (by omega)]
 generalize hge : rd_T53 l i = g at i0 i1
 obtain ⟨i00, i01⟩ := i0
 obtain ⟨i10, i11⟩ := i1
 rw [if_pos hi, if_pos h0, if_pos i00, if_pos (by omega)]
 unfold usable
 cases h0' : rdOf false v g.f0 with
 | false =>
  refine ⟨k + 1, by omega, by omega, ?_⟩
  rw [if_neg (by decide), if_neg (by simp)]
  simp only [spec_l25Out.j3, if_true, w64 (x := i + 1) (by omega) (by omega)]
 | true =>
  rw [if_pos rfl, if_pos i10, if_pos (by omega)]
  cases h1' : rdOf false v g.f1 with
  | false =>
   refine ⟨k + 1, by omega, by omega, ?_⟩
   rw [if_neg (by decide)]
   simp only [spec_l25Out.j3, Bool.not_false, if_true, w64 (x := i + 1) (by omega) (by omega)]
  | true =>
   refine ⟨k, by omega, by omega, ?_⟩
   rw [if_pos (by decide)]
   have tail : ∀ (Y : List Int) (ag' : Bool) (m : Int), m = 8 → (if rd Y g.f1 ≥ 0 then (if 0 ≤ g.f0 then (if g.f0 < m then (if rd Y g.f0 < 0 then spec_l25Out.l2 k l v p (Y.set g.f0.toNat (wrap64 (rd Y g.f1 + g.f2))) true (i + 1) else (if wrap64 (rd Y g.f1 + g.f2) < rd Y g.f0 then spec_l25Out.l2 k l v p (Y.set g.f0.toNat (wrap64 (rd Y g.f1 + g.f2))) true (i + 1) else spec_l25Out.l2 k l v p Y ag' (i + 1))) else none) else none) else spec_l25Out.l2 k l v p Y ag' (i + 1)) = spec_l25Out.l2 k l v p (stF Y g.f1 g.f0 g.f2) (ag' || cF Y g.f1 g.f0 g.f2) (i + 1) := by
    intro Y ag' m hY
    unfold stF cF
    by_cases c1 : rd Y g.f1 ≥ 0
    ·
     rw [if_pos c1, if_pos i00, if_pos (by omega)]
     by_cases c2 : rd Y g.f0 < 0
     ·
      rw [if_pos c2, if_pos ⟨c1, .inl c2⟩, decide_eq_true ⟨c1, .inl c2⟩, Bool.or_true]
     ·
      rw [if_neg c2]
      by_cases c3 : wrap64 (rd Y g.f1 + g.f2) < rd Y g.f0
      ·
       rw [if_pos c3, if_pos ⟨c1, .inr c3⟩, decide_eq_true ⟨c1, .inr c3⟩, Bool.or_true]
      ·
       have hn : ¬ (rd Y g.f1 ≥ 0 ∧ (rd Y g.f0 < 0 ∨ wrap64 (rd Y g.f1 + g.f2) < rd Y g.f0)) := fun h => by rcases h.2 with z | z <;> contradiction
       rw [if_neg c3, if_neg hn, decide_eq_false hn, Bool.or_false]
    ·
     have hn : ¬ (rd Y g.f1 ≥ 0 ∧ (rd Y g.f0 < 0 ∨ wrap64 (rd Y g.f1 + g.f2) < rd Y g.f0)) := fun h => c1 h.1
     rw [if_neg c1, if_neg hn, decide_eq_false hn, Bool.or_false]
   have main : ∀ (c : Bool), (c = true → (rd F g.f0 ≥ 0 ∧ (rd F g.f1 < 0 ∨ wrap64 (rd F g.f0 + g.f2) < rd F g.f1))) → (c = false → ¬ (rd F g.f0 ≥ 0 ∧ (rd F g.f1 < 0 ∨ wrap64 (rd F g.f0 + g.f2) < rd F g.f1))) → spec_l25Out.j4 (k + 1) l v p F ag i g.f0 g.f1 (wrap64 (rd F g.f0 + g.f2)) c = spec_l25Out.l2 k l v p (stF (stF F g.f0 g.f1 g.f2) g.f1 g.f0 g.f2) (ag || cF F g.f0 g.f1 g.f2 || cF (stF F g.f0 g.f1 g.f2) g.f1 g.f0 g.f2) (i + 1) := by
    intro c hc1 hc2
    simp only [spec_l25Out.j4, hge, w64 (x := i + 1) (by omega) (by omega)]
    cases c with
    | true =>
     have hc := hc1 rfl
     rw [if_pos rfl, if_pos i10, if_pos (by omega)]
     simp only [Option.bind_some]
     rw [if_pos h0, if_pos hi, tail (F.set g.f1.toNat (wrap64 (rd F g.f0 + g.f2))) true (F.length : Int) (by omega)]
     have e : stF F g.f0 g.f1 g.f2 = F.set g.f1.toNat (wrap64 (rd F g.f0 + g.f2)) := by
      unfold stF
      rw [if_pos hc]
     have e2 : cF F g.f0 g.f1 g.f2 = true := decide_eq_true hc
     rw [e, e2, Bool.or_true]
    | false =>
     have hc := hc2 rfl
     rw [if_neg (by decide), if_pos i10, if_pos (by omega), if_pos h0, if_pos hi, tail F ag (F.length : Int) (by omega)]
     have e : stF F g.f0 g.f1 g.f2 = F := by
      unfold stF
      rw [if_neg hc]
     have e2 : cF F g.f0 g.f1 g.f2 = false := decide_eq_false hc
     rw [e, e2, Bool.or_false]
   simp only [spec_l25Out.j3, hge, Bool.not_true, Bool.false_eq_true, if_false]
   rw [if_pos i00, if_pos (by omega), if_pos h0, if_pos hi]
   by_cases c1 : rd F g.f0 ≥ 0
   ·
    rw [if_pos c1, if_pos i10, if_pos (by omega)]
    by_cases c2 : rd F g.f1 < 0
    ·
     rw [if_pos c2, main true (fun _ => ⟨c1, .inl c2⟩) (fun h => by cases h)]
    ·
     rw [if_neg c2]
     by_cases c3 : wrap64 (rd F g.f0 + g.f2) < rd F g.f1
     ·
      rw [decide_eq_true c3, main true (fun _ => ⟨c1, .inr c3⟩) (fun h => by cases h)]
     ·
      rw [decide_eq_false c3, main false (fun h => by cases h) (fun _ h => by rcases h.2 with z | z <;> contradiction)]
   ·
    rw [if_neg c1, main false (fun h => by cases h) (fun _ h => c1 h.1)]
theorem stF_dec {c : Int} {D : List Int} (h : far8 D) (hb : Bd c D) (hc : c + 500 < FAR) {a b t : Int} (ha : In8 a) (hb8 : In8 b) (ht : 1 ≤ t) (ht' : t ≤ 500) :
  stF (D.map dec) a b t = (step1 D a b t).map dec ∧ (cF (D.map dec) a b t = true ↔ rd D a + t < rd D b) := by
 obtain ⟨h1, h2, h3⟩ := cond_dec h.1 h.2.1 h.2.2 hb hc ha hb8 ht ht'
 have a0 := h.2.1 a ha
 unfold stF cF step1
 rw [decide_eq_true_eq]
 by_cases hf : rd D a < FAR
 ·
  obtain ⟨e, e2, e3⟩ := h2 hf
  have hw : wrap64 (rd (D.map dec) a + t) = rd D a + t := by
   rw [e, w64 (by omega) (by unfold FAR at e3; omega)]
  have hcnd : (rd (D.map dec) a ≥ 0 ∧ (rd (D.map dec) b < 0 ∨ rd D a + t < rd (D.map dec) b)) ↔ rd D a + t < rd D b := ⟨fun z => e2.1 z.2, fun z => ⟨h1.2 hf, e2.2 z⟩⟩
  rw [hw]
  by_cases hlt : rd D a + t < rd D b
  ·
   rw [if_pos (hcnd.2 hlt), if_pos hlt, map_set_dec _ _ _ (by omega)]
   exact ⟨rfl, hcnd⟩
  ·
   rw [if_neg (fun z => hlt (hcnd.1 z)), if_neg hlt]
   exact ⟨rfl, hcnd⟩
 ·
  have hn := h3 hf
  rw [if_neg (fun z => hf (h1.1 z.1)), if_neg hn]
  exact ⟨rfl, fun z => absurd (h1.1 z.1) hf, fun z => absurd z hn⟩
theorem out_round (l : List S53) (hl : LegsOk l) (hn : l.length ≤ 12) (v : List Bool) (hv : v.length = 8) (p : Int) (n : Nat) : ∀ (k i : Nat) (D : List Int) (ag : Bool) (c : Int), i + n = l.length → 3 * n < k → far8 D → Bd c D → c + 1000 * n < FAR →
  ∃ k' ag', k ≤ k' + 3 * n + 1 ∧ k' < k ∧ spec_l25Out.l2 k l v p (D.map dec) ag i = spec_l25Out.l1 k' l v p ((rnd (arcsOf v (l.drop i)) D).map dec) ag' ∧ Bd (c + 1000 * n) (rnd (arcsOf v (l.drop i)) D) ∧ (ag' = true → ag = true ∨ sum8 (rnd (arcsOf v (l.drop i)) D) < sum8 D) ∧ (ag' = false → ag = false ∧ rnd (arcsOf v (l.drop i)) D = D) := by
 induction n with
 | zero =>
  intro k i D ag c hi hk hD hb hc
  obtain ⟨k, rfl⟩ : ∃ m, k = m + 1 := ⟨k - 1, by omega⟩
  refine ⟨k, ag, by omega, by omega, ?_, ?_, fun h => .inl h, fun h => ⟨h, ?_⟩⟩
  ·
   simp only [spec_l25Out.l2]
   rw [if_neg (by omega), List.drop_eq_nil_of_le (by omega)]
   rfl
  ·
   rw [List.drop_eq_nil_of_le (by omega)]
   exact hb.mono (by omega)
  ·
   rw [List.drop_eq_nil_of_le (by omega)]
   rfl
 | succ n ih =>
  intro k i D ag c hi hk hD hb hc
  obtain ⟨k, rfl⟩ : ∃ m, k = m + 3 := ⟨k - 3, by omega⟩
  have hg := hl _ (rdLeg_mem (l := l) (i := (i : Int)) (by omega) (by omega))
  have i0 := in8 hg.1.1 hg.1.2
  have i1 := in8 hg.2.1.1 hg.2.1.2
  obtain ⟨ht, ht'⟩ := hg.2.2.2.1
  obtain ⟨k1, hk1, hk2, e⟩ := out_l2 l v p (D.map dec) ag i (by omega) (by omega) hn (by rw [List.length_map, hD.1]) hv i0 i1 k
  rw [drop_rdLeg l i (by omega)]
  generalize hge : rd_T53 l (i : Int) = g at hg i0 i1 ht ht' e
  rw [e]
  cases hu : usable v g with
  | false =>
   rw [if_neg (by decide)]
   obtain ⟨k', ag', h1, h2, h3, h4, h5, h6⟩ := ih k1 (i + 1) D ag c (by omega) (by omega) hD hb (by omega)
   have ea : arcsOf v (g :: l.drop (i + 1)) = arcsOf v (l.drop (i + 1)) := by
    show (if usable v g = true then _ else _) = _
    rw [hu, if_neg (by decide)]
   rw [ea]
   exact ⟨k', ag', by omega, by omega, h3, h4.mono (by omega), h5, h6⟩
  | true =>
   rw [if_pos rfl]
   have ea : ∀ E, rnd (arcsOf v (g :: l.drop (i + 1))) E = rnd (arcsOf v (l.drop (i + 1))) (step1 (step1 E g.f0 g.f1 g.f2) g.f1 g.f0 g.f2) := by
    intro E
    show rnd (if usable v g = true then _ else _) _ = _
    rw [hu, if_pos rfl]
    rfl
   rw [ea D]
   obtain ⟨s1, s2⟩ := stF_dec hD hb (by omega) i0 i1 ht ht'
   have hD1 := far8_step hD i0 i1 (t := g.f2) (by omega)
   have hb1 := step_bd hD.1 hb i0 i1 ht' hD.2.2 (by omega)
   obtain ⟨s3, s4⟩ := stF_dec hD1 hb1 (by omega) i1 i0 ht ht'
   have hD2 := far8_step hD1 i1 i0 (t := g.f2) (by omega)
   have hb2 := step_bd hD1.1 hb1 i1 i0 ht' hD1.2.2 (by omega)
   rw [s1, s3]
   have hrest : ∀ i, In8 i → rd (step1 (step1 D g.f0 g.f1 g.f2) g.f1 g.f0 g.f2) i ≤ rd D i := fun j hj => Int.le_trans (step1_le hD1.1 i0 hj _) (step1_le hD.1 i1 hj _)
   have hrnd : ∀ j, In8 j → rd (rnd (arcsOf v (l.drop (i + 1))) (step1 (step1 D g.f0 g.f1 g.f2) g.f1 g.f0 g.f2)) j ≤ rd D j := fun j hj => Int.le_trans (rnd_le _ (arcs_ok v _ (fun x hx => hl x (List.mem_of_mem_drop hx))) _ hD2.1 j hj) (hrest j hj)
   have hrl : (rnd (arcsOf v (l.drop (i + 1))) (step1 (step1 D g.f0 g.f1 g.f2) g.f1 g.f0 g.f2)).length = 8 := by rw [len_rnd, hD2.1]
   have hdec1 : rd D g.f0 + g.f2 < rd D g.f1 → sum8 (rnd (arcsOf v (l.drop (i + 1))) (step1 (step1 D g.f0 g.f1 g.f2) g.f1 g.f0 g.f2)) < sum8 D := by
    intro h
    rcases le_or hD.1 hrl hrnd with z | z
    ·
     exfalso
     have h7 := rd_step1 (a := g.f0) (t := g.f2) hD.1 i1 i1
     rw [if_pos ⟨rfl, h⟩] at h7
     have h8 := step1_le (a := g.f1) (t := g.f2) hD1.1 i0 i1
     have h9 := rnd_le (arcsOf v (l.drop (i + 1))) (arcs_ok v _ (fun x hx => hl x (List.mem_of_mem_drop hx))) _ hD2.1 g.f1 i1
     rw [z] at h9
     omega
    ·
     exact z
   have hdec2 : rd (step1 D g.f0 g.f1 g.f2) g.f1 + g.f2 < rd (step1 D g.f0 g.f1 g.f2) g.f0 → sum8 (rnd (arcsOf v (l.drop (i + 1))) (step1 (step1 D g.f0 g.f1 g.f2) g.f1 g.f0 g.f2)) < sum8 D := by
    intro h
    rcases le_or hD.1 hrl hrnd with z | z
    ·
     exfalso
     have h7 := rd_step1 (a := g.f1) (t := g.f2) hD1.1 i0 i0
     rw [if_pos ⟨rfl, h⟩] at h7
     have h8 := step1_le (a := g.f0) (t := g.f2) hD.1 i1 i0
     have h9 := rnd_le (arcsOf v (l.drop (i + 1))) (arcs_ok v _ (fun x hx => hl x (List.mem_of_mem_drop hx))) _ hD2.1 g.f0 i0
     rw [z] at h9
     omega
    ·
     exact z
   obtain ⟨k', ag', h1, h2, h3, h4, h5, h6⟩ := ih k1 (i + 1) (step1 (step1 D g.f0 g.f1 g.f2) g.f1 g.f0 g.f2) (ag || cF (D.map dec) g.f0 g.f1 g.f2 || cF ((step1 D g.f0 g.f1 g.f2).map dec) g.f1 g.f0 g.f2) (c + 500 + 500) (by omega) (by omega) hD2 hb2 (by omega)
   refine ⟨k', ag', by omega, by omega, h3, h4.mono (by omega), fun h => ?_, fun h => ?_⟩
   ·
    rcases h5 h with z | z
    ·
     rw [Bool.or_eq_true, Bool.or_eq_true] at z
     rcases z with (z | z) | z
     ·
      exact .inl z
     ·
      exact .inr (hdec1 (s2.1 z))
     ·
      exact .inr (hdec2 (s4.1 z))
    ·
     have q : sum8 (step1 (step1 D g.f0 g.f1 g.f2) g.f1 g.f0 g.f2) ≤ sum8 D := by
      rcases le_or hD.1 hD2.1 hrest with q | q
      ·
       rw [q]; exact Int.le_refl _
      ·
       omega
     exact .inr (by omega)
   ·
    obtain ⟨z1, z2⟩ := h6 h
    rw [Bool.or_eq_false_iff, Bool.or_eq_false_iff] at z1
    obtain ⟨⟨za, zb⟩, zc⟩ := z1
    refine ⟨za, z2.trans ?_⟩
    have n1 : ¬ (rd D g.f0 + g.f2 < rd D g.f1) := fun q => by rw [s2.2 q] at zb; cases zb
    have e1 : step1 D g.f0 g.f1 g.f2 = D := by
     unfold step1
     rw [if_neg n1]
    have n2 : ¬ (rd (step1 D g.f0 g.f1 g.f2) g.f1 + g.f2 < rd (step1 D g.f0 g.f1 g.f2) g.f0) := fun q => by rw [s4.2 q] at zc; cases zc
    have e2 : step1 (step1 D g.f0 g.f1 g.f2) g.f1 g.f0 g.f2 = step1 D g.f0 g.f1 g.f2 := by
     rw [show step1 (step1 D g.f0 g.f1 g.f2) g.f1 g.f0 g.f2 = if rd (step1 D g.f0 g.f1 g.f2) g.f1 + g.f2 < rd (step1 D g.f0 g.f1 g.f2) g.f0 then _ else _ from rfl, if_neg n2]
    rw [e2, e1]
theorem D0_bd (A : List Arc) : Bd 0 D0 := fun i hi => by
 by_cases h : i = 0
 ·
  rw [h]; right; decide
 ·
  exact .inl (D0_far hi h)
theorem out_l1 (l : List S53) (hl : LegsOk l) (hn : l.length ≤ 12) (v : List Bool) (hv : v.length = 8) (p : Int) (hp : In8 p) (n : Nat) : ∀ (k r : Nat), r + n = 7 → 40 * n + 40 < k → Bd (12000 * r) (it (arcsOf v l) r D0) →
  spec_l25Out.l1 k l v p ((it (arcsOf v l) r D0).map dec) true = some (dec (rd (it (arcsOf v l) 7 D0) p)) := by
 have hok := arcs_ok v l hl
 have fin : ∀ (k : Nat) (r : Nat), r ≤ 7 → it (arcsOf v l) (r + 1) D0 = it (arcsOf v l) r D0 → spec_l25Out.l1 (k + 1) l v p ((it (arcsOf v l) (r + 1) D0).map dec) false = some (dec (rd (it (arcsOf v l) 7 D0) p)) := by
  intro k r hr he
  have hlen := (it_inv hok (D0_inv _) r).len
  have e7 : it (arcsOf v l) 7 D0 = it (arcsOf v l) r D0 := by
   have := it_add (arcsOf v l) D0 r (7 - r)
   rw [show r + (7 - r) = 7 by omega, it_fix he] at this
   exact this
  simp only [spec_l25Out.l1, Bool.false_eq_true, if_false]
  have h1 := hp.1
  have h2 := hp.2
  rw [he, if_pos h1, if_pos (by rw [List.length_map, hlen]; exact h2), rd_map hlen hp, e7]
 induction n with
 | zero =>
  intro k r hr hk hb
  obtain ⟨k, rfl⟩ : ∃ m, k = m + 1 := ⟨k - 1, by omega⟩
  have e8 : rnd (arcsOf v l) (it (arcsOf v l) r D0) = it (arcsOf v l) r D0 := by
   rw [show r = 7 by omega]
   exact fix7 hok
  simp only [spec_l25Out.l1, if_true]
  have I := it_inv hok (D0_inv _) r
  obtain ⟨k', ag', h1, h2, h3, h4, h5, h6⟩ := out_round l hl hn v hv p l.length k 0 (it (arcsOf v l) r D0) false (12000 * r) (by omega) (by omega) ⟨I.len, I.lo, I.hi⟩ hb (by unfold FAR; omega)
  rw [show ((0 : Nat) : Int) = 0 from rfl, List.drop_zero] at h3
  rw [List.drop_zero] at h5 h6
  rw [h3]
  cases ag' with
  | true =>
   exfalso
   rcases h5 rfl with z | z
   ·
    cases z
   ·
    rw [e8] at z
    omega
  | false =>
   have a1 : r ≤ 7 := by clear h3 h4 h5 h6 hb; omega
   have a2 : k' = k' - 1 + 1 := by clear h3 h4 h5 h6 hb; omega
   rw [a2]
   exact fin (k' - 1) r a1 e8
 | succ n ih =>
  intro k r hr hk hb
  obtain ⟨k, rfl⟩ : ∃ m, k = m + 1 := ⟨k - 1, by omega⟩
  simp only [spec_l25Out.l1, if_true]
  have I := it_inv hok (D0_inv _) r
  obtain ⟨k', ag', h1, h2, h3, h4, h5, h6⟩ := out_round l hl hn v hv p l.length k 0 (it (arcsOf v l) r D0) false (12000 * r) (by omega) (by omega) ⟨I.len, I.lo, I.hi⟩ hb (by unfold FAR; omega)
  rw [show ((0 : Nat) : Int) = 0 from rfl, List.drop_zero] at h3
  rw [List.drop_zero] at h4 h5 h6
  rw [h3]
  cases ag' with
  | true =>
   have hb' : Bd (12000 * ((r + 1 : Nat) : Int)) (it (arcsOf v l) (r + 1) D0) := Bd.mono (c := 12000 * r + 1000 * l.length) h4 (by omega)
   have a1 : r + 1 + n = 7 := by clear h3 h4 h5 h6 hb' hb; omega
   have a2 : 40 * n + 40 < k' := by clear h3 h4 h5 h6 hb' hb; omega
   have hq := ih k' (r + 1) a1 a2 hb'
   exact hq
  | false =>
   have a1 : r ≤ 7 := by clear h3 h4 h5 h6 hb; omega
   have a2 : k' = k' - 1 + 1 := by clear h3 h4 h5 h6 hb; omega
   rw [a2]
   exact fin (k' - 1) r a1 (h6 rfl).2
theorem out_l0 (l : List S53) (v : List Bool) (p : Int) (n : Nat) : ∀ (k j : Nat), j + n = 8 → n < k →
  ∃ k', k = k' + n + 1 ∧ spec_l25Out.l0 k l v p (List.replicate j (-1)) j = spec_l25Out.l1 k' l v p (D0.map dec) true := by
 induction n with
 | zero =>
  intro k j hj hk
  obtain ⟨k, rfl⟩ : ∃ m, k = m + 1 := ⟨k - 1, by omega⟩
  obtain rfl : j = 8 := by omega
  refine ⟨k, by omega, ?_⟩
  simp only [spec_l25Out.l0]
  rw [if_neg (by decide), if_pos (by decide)]
  rfl
 | succ n ih =>
  intro k j hj hk
  obtain ⟨k, rfl⟩ : ∃ m, k = m + 1 := ⟨k - 1, by omega⟩
  simp only [spec_l25Out.l0]
  rw [if_pos (by omega), if_pos (by rw [List.length_replicate]; omega), w64 (by omega) (by omega)]
  obtain ⟨k', h1, h2⟩ := ih k (j + 1) (by omega) (by omega)
  refine ⟨k', by omega, ?_⟩
  rw [List.replicate_succ'] at h2
  exact h2
theorem out_eq {l : List S53} (hl : LegsOk l) (hn : l.length ≤ 12) {v : List Bool} (hv : v.length = 8) {p : Int} (hp : In8 p) {k : Nat} (hk : 400 ≤ k) :
  spec_l25Out.f k l v p = some (dec (rd (it (arcsOf v l) 7 D0) p)) := by
 obtain ⟨k', h1, h2⟩ := out_l0 l v p 8 k 0 (by omega) (by omega)
 unfold spec_l25Out.f
 rw [show ([] : List Int) = List.replicate 0 (-1) from rfl, show (0 : Int) = ((0 : Nat) : Int) from rfl, h2]
 exact out_l1 l hl hn v hv p hp 7 k' 0 (by omega) (by omega) (D0_bd (arcsOf v l))
def way (l : List S53) (v : List Bool) (p : Int) : Int := rd (it (arcsOf v l) 7 D0) p
theorem way_bd {l : List S53} (hl : LegsOk l) (v : List Bool) {p : Int} (hp : In8 p) : 0 ≤ way l v p ∧ way l v p ≤ FAR := by
 have I := it_inv (arcs_ok v l hl) (D0_inv _) 7
 exact ⟨I.lo p hp, I.hi p hp⟩
structure ExplOk (l : List S53) (v d : List Bool) (p t : Int) : Prop where
 legs : LegsOk l
 len : l.length ≤ 12
 hv : v.length = 8
 hd : d.length = 8
 hp : In8 p
 ht : 0 ≤ t ∧ t ≤ 100000
 hway : way l v p < FAR
 hlight : way l v p ≤ t
 v0 : rdOf false v 0 = true
 vp : rdOf false v p = true
theorem good_eq (l : List S53) (hl : l.length ≤ 4611686018427387904) (v d : List Bool) (p t : Int) {k : Nat} (hk : l.length + 410 ≤ k) :
  ∃ b, spec_l25Good.f k l v d p t = some b ∧ impl_IsExploration.f k l v d p t = some b ∧ (b = true ↔ ExplOk l v d p t) := by
 obtain ⟨x, hx, hxi⟩ := legs_spec l hl l.length k 0 (by omega) (by omega) (by omega)
 obtain ⟨k, rfl⟩ : ∃ m, k = m + 1 := ⟨k - 1, by omega⟩
 have hno : ¬ ExplOk l v d p t → ∃ b, some false = some b ∧ some false = some b ∧ (b = true ↔ ExplOk l v d p t) := fun h => ⟨false, rfl, rfl, fun z => (by cases z), fun z => absurd z h⟩
 unfold spec_l25Good.f impl_IsExploration.f spec_l4Legs.f impl_areLegs.f
 rw [legs_impl, hx]
 simp only [Option.bind_some, station_eq, isStation_eq, l1In_eq, within_eq]
 cases x with
 | false =>
  simp only [spec_l25Good.j0, impl_IsExploration.j0, Bool.false_eq_true, if_false, if_true]
  refine hno fun h => ?_
  have := hxi.2 ⟨fun j h1 h2 => h.legs _ (rdLeg_mem h1 h2), h.len⟩
  cases this
 | true =>
  obtain ⟨hlo, hlen⟩ := hxi.1 rfl
  have hlegs := legsOk_of hlo
  simp only [if_true, spec_l25Good.j0, impl_IsExploration.j0]
  by_cases h1 : (v.length : Int) = 8
  ·
   rw [if_pos h1, if_pos h1]
   by_cases h2 : (d.length : Int) = 8
   ·
    rw [if_pos h2, if_pos h2]
    by_cases h3 : 0 ≤ p ∧ p ≤ 7
    ·
     rw [decide_eq_true h3, if_pos rfl, if_pos rfl]
     by_cases h4 : 0 ≤ t ∧ t ≤ 100000
     ·
      have hv8 : v.length = 8 := by omega
      have hp8 := in8 h3.1 h3.2
      rw [decide_eq_true h4]
      simp only [Bool.not_true, Bool.false_eq_true, if_false]
      have hvp : (0 : Int) < (v.length : Int) := by omega
      simp only [if_pos hvp]
      cases h5 : rdOf false v 0 with
      | false =>
       simp only [Bool.false_eq_true, if_false]
       exact hno fun h => by have := h.v0; rw [h5] at this; cases this
      | true =>
       have hpv : p < (v.length : Int) := by omega
       simp only [if_true, if_pos h3.1, if_pos hpv]
       cases h6 : rdOf false v p with
       | false =>
        simp only [Bool.false_eq_true, if_false]
        exact hno fun h => by have := h.vp; rw [h6] at this; cases this
       | true =>
        simp only [if_true]
        rw [out_eq hlegs hlen hv8 hp8 (by omega), wayOut_eq hlegs hlen d hv8 t hp8 (by omega)]
        simp only [Option.bind_some]; obtain ⟨w0, w1⟩ := way_bd hlegs v hp8
        have hex : way l v p < FAR → way l v p ≤ t → ExplOk l v d p t := fun a b => ⟨hlegs, hlen, hv8, by omega, hp8, h4, a, b, h5, h6⟩
        rw [show rd (it (arcsOf v l) 7 D0) p = way l v p from rfl]
        by_cases h7 : way l v p < FAR
        ·
         have e : dec (way l v p) = way l v p := by
          unfold dec
          rw [if_neg (by omega)]
         rw [e, if_pos w0, decide_eq_true h7, if_pos rfl]
         refine ⟨_, rfl, rfl, ?_⟩
         rw [decide_eq_true_eq]
         exact ⟨fun h => hex h7 h, fun h => h.hlight⟩
        ·
         have e : dec (way l v p) = -1 := by
          unfold dec
          rw [if_pos (by omega)]
         rw [e, if_neg (by decide), decide_eq_false h7, if_neg (by decide)]
         exact hno fun h => h7 h.hway
     ·
      rw [decide_eq_false h4]
      simp only [Bool.not_false, if_true]
      exact hno fun h => h4 h.ht
    ·
     rw [decide_eq_false h3]
     simp only [Bool.false_eq_true, if_false, if_true]
     exact hno fun h => h3 ⟨h.hp.1, by have := h.hp.2; omega⟩
   ·
    rw [if_neg h2, if_neg h2]
    exact hno fun h => h2 (by have := h.hd; omega)
  ·
   rw [if_neg h1, if_neg h1]
   exact hno fun h => h1 (by have := h.hv; omega)
end Go.Proofs.YtckigdechhmegaaDoor.Pr.PureX

namespace Go.Proofs.YtckigdechhmegaaDoor.Pr.Pure
open Go.RowKit Go.Proofs.YtckigdechhmegaaDoorW.PrintWords Go.Proofs.YtckigdechhmegaaDoorW.PrintLast Go.Proofs.YtckigdechhmegaaDoorW.PrintMore Go.Proofs.YtckigdechhmegaaDoorW.Opens Go.Lib Go.Proofs.YtckigdechhmegaaDoor.Log
set_option linter.unusedVariables false
set_option linter.unusedSimpArgs false
theorem num_int {x : Int} (h0 : 0 ≤ x) (h1 : x ≤ 1000000) {k : Nat} (hk : 20 ≤ k) : spec_l1Num.f k x = some (M (itoa x)) := by
 obtain ⟨n, rfl⟩ : ∃ n : Nat, x = n := ⟨x.toNat, by omega⟩
 rw [itoa_nat]
 exact num_of (by omega) hk
theorem itoa_neg {x : Int} (h0 : x < 0) : itoa x = [45] ++ itoa (-x) := by
 obtain ⟨n, rfl⟩ : ∃ n : Nat, x = -(n : Int) := ⟨x.natAbs, by omega⟩
 rw [Int.neg_neg, itoa_nat]
 unfold itoa
 rw [if_pos h0, Int.natAbs_neg, Int.natAbs_natCast]
 rfl
theorem itoa_len {x : Int} (h0 : -1000000 ≤ x) (h1 : x ≤ 1000000) : (itoa x).length ≤ 41 := by
 have pos : ∀ {x : Int}, 0 ≤ x → x ≤ 1000000 → (itoa x).length ≤ 40 := by
  intro x h0 h1
  obtain ⟨n, rfl⟩ : ∃ n : Nat, x = n := ⟨x.toNat, by omega⟩
  rw [itoa_nat]
  exact Nat.le_trans (digits_len_aux 6 n (by omega)) (by omega)
 by_cases h : x < 0
 ·
  rw [itoa_neg h, List.length_append]
  have := pos (x := -x) (by omega) (by omega)
  simp only [List.length_cons, List.length_nil]
  omega
 ·
  have := pos (x := x) (by omega) h1
  omega
theorem lf0 : (⟨#[108, 101, 103, 32]⟩ : ByteArray) = M [108, 101, 103, 32] := rfl
theorem lf1 : (⟨#[45]⟩ : ByteArray) = M [45] := rfl
theorem lf2 : (⟨#[32, 116, 97, 112, 101, 32]⟩ : ByteArray) = M [32, 116, 97, 112, 101, 32] := rfl
theorem lf3 : (⟨#[32, 99, 111, 109, 112, 97, 115, 115, 32]⟩ : ByteArray) = M [32, 99, 111, 109, 112, 97, 115, 115, 32] := rfl
theorem lf4 : (⟨#[32, 115, 108, 111, 112, 101, 32]⟩ : ByteArray) = M [32, 115, 108, 111, 112, 101, 32] := rfl
theorem lf5 : (⟨#[10]⟩ : ByteArray) = M [10] := rfl
theorem lf6 : (⟨#[97, 116, 32]⟩ : ByteArray) = M [97, 116, 32] := rfl
theorem lf7 : (⟨#[59, 32, 108, 105, 103, 104, 116, 32]⟩ : ByteArray) = M [59, 32, 108, 105, 103, 104, 116, 32] := rfl
theorem lf8 : (⟨#[59, 32, 114, 101, 99, 111, 114, 100, 115, 32]⟩ : ByteArray) = M [59, 32, 114, 101, 99, 111, 114, 100, 115, 32] := rfl
theorem lf9 : (⟨#[]⟩ : ByteArray) = M [] := rfl
def legT (a b c d e : List UInt8) : List UInt8 := [108, 101, 103, 32] ++ a ++ [45] ++ b ++ [32, 116, 97, 112, 101, 32] ++ c ++ [32, 99, 111, 109, 112, 97, 115, 115, 32] ++ d ++ [32, 115, 108, 111, 112, 101, 32] ++ e
def legL (x : S53) : List UInt8 := legT (itoa x.f0) (itoa x.f1) (itoa x.f2) (itoa x.f3) (itoa x.f4)
theorem legL_len {x : S53} (h : PureX.LegOk x) : (legL x).length ≤ 300 := by
 obtain ⟨⟨a0, a1⟩, ⟨b0, b1⟩, _, ⟨c0, c1⟩, ⟨d0, d1⟩, ⟨e0, e1⟩⟩ := h
 have p1 := itoa_len (x := x.f0) (by omega) (by omega)
 have p2 := itoa_len (x := x.f1) (by omega) (by omega)
 have p3 := itoa_len (x := x.f2) (by omega) (by omega)
 have p4 := itoa_len (x := x.f3) (by omega) (by omega)
 have p5 := itoa_len (x := x.f4) (by omega) (by omega)
 unfold legL legT
 simp only [List.length_append, List.length_cons, List.length_nil]
 omega
theorem leg_text {x : S53} (h : PureX.LegOk x) : impl_legText.f x.f0 x.f1 x.f2 x.f3 x.f4 = some (M (legL x)) := by
 obtain ⟨⟨a0, a1⟩, ⟨b0, b1⟩, _, ⟨c0, c1⟩, ⟨d0, d1⟩, ⟨e0, e1⟩⟩ := h
 have p1 := itoa_len (x := x.f0) (by omega) (by omega)
 have p2 := itoa_len (x := x.f1) (by omega) (by omega)
 have p3 := itoa_len (x := x.f2) (by omega) (by omega)
 have p4 := itoa_len (x := x.f3) (by omega) (by omega)
 have p5 := itoa_len (x := x.f4) (by omega) (by omega)
 have q1 := decimal_eq (a := x.f0) (by omega) (by omega)
 have q2 := decimal_eq (a := x.f1) (by omega) (by omega)
 have q3 := decimal_eq (a := x.f2) (by omega) (by omega)
 have q4 := decimal_eq (a := x.f3) (by omega) (by omega)
 have q5 := decimal_eq (a := x.f4) (by omega) (by omega)
 unfold impl_legText.f legL legT
 simp only [q1, q2, q3, q4, q5, obs, lf0, lf1, lf2, lf3, lf4, sc_M]
 clear q1 q2 q3 q4 q5
 generalize itoa x.f0 = a at *
 generalize itoa x.f1 = b at *
 generalize itoa x.f2 = c at *
 generalize itoa x.f3 = d at *
 generalize itoa x.f4 = e at *
 iterate 9 rw [if_pos (by simp only [M_size, List.length_append, List.length_cons, List.length_nil]; omega)]
theorem leg_spec4 {x : S53} (h : PureX.LegOk x) {k : Nat} (hk : 20 ≤ k) : spec_l4Text.f k x.f0 x.f1 x.f2 x.f3 x.f4 = some (M (legL x)) := by
 obtain ⟨⟨a0, a1⟩, ⟨b0, b1⟩, _, ⟨c0, c1⟩, ⟨d0, d1⟩, ⟨e0, e1⟩⟩ := h
 have p1 := itoa_len (x := x.f0) (by omega) (by omega)
 have p2 := itoa_len (x := x.f1) (by omega) (by omega)
 have p3 := itoa_len (x := x.f2) (by omega) (by omega)
 have p4 := itoa_len (x := x.f3) (by omega) (by omega)
 have q1 := num_int (x := x.f0) (by omega) (by omega) hk
 have q2 := num_int (x := x.f1) (by omega) (by omega) hk
 have q3 := num_int (x := x.f2) (by omega) (by omega) hk
 have q4 := num_int (x := x.f3) (by omega) (by omega) hk
 by_cases hs : x.f4 < 0
 ·
  have p5 := itoa_len (x := -x.f4) (by omega) (by omega)
  have q5 := num_int (x := -x.f4) (by omega) (by omega) hk
  unfold spec_l4Text.f legL legT
  rw [itoa_neg hs]
  simp only [q1, q2, q3, q4, w64 (x := -x.f4) (by omega) (by omega), q5, obs, lf0, lf1, lf2, lf3, lf4, sc_M, if_pos hs]
  clear q1 q2 q3 q4 q5
  generalize itoa x.f0 = a at *
  generalize itoa x.f1 = b at *
  generalize itoa x.f2 = c at *
  generalize itoa x.f3 = d at *
  generalize itoa (-x.f4) = e at *
  iterate 10 rw [if_pos (by simp only [M_size, List.length_append, List.length_cons, List.length_nil]; omega)]
  simp only [List.append_assoc]
 ·
  have p5 := itoa_len (x := x.f4) (by omega) (by omega)
  have q5 := num_int (x := x.f4) (by omega) (by omega) hk
  unfold spec_l4Text.f legL legT
  simp only [q1, q2, q3, q4, q5, obs, lf0, lf1, lf2, lf3, lf4, sc_M, if_neg hs]
  clear q1 q2 q3 q4 q5
  generalize itoa x.f0 = a at *
  generalize itoa x.f1 = b at *
  generalize itoa x.f2 = c at *
  generalize itoa x.f3 = d at *
  generalize itoa x.f4 = e at *
  iterate 9 rw [if_pos (by simp only [M_size, List.length_append, List.length_cons, List.length_nil]; omega)]
def txtL : List S53 → List UInt8
 | [] => []
 | x :: xs => legL x ++ [10] ++ txtL xs
def stT (a b c : List UInt8) : List UInt8 := [97, 116, 32] ++ a ++ [59, 32, 108, 105, 103, 104, 116, 32] ++ b ++ [59, 32, 114, 101, 99, 111, 114, 100, 115, 32] ++ c ++ [10]
theorem impl_loop : ∀ (l : List S53) (acc : List UInt8), PureX.LegsOk l → acc.length + 400 * l.length ≤ 100000 → legsF_ l acc = some (acc ++ txtL l)
 | [], acc, _, _ => by
  unfold legsF_ txtL
  rw [List.append_nil]
 | x :: xs, acc, h, hn => by
  have hx := h x (List.mem_cons_self ..)
  have hlen := legL_len hx
  rw [List.length_cons] at hn
  unfold legsF_ txtL
  rw [leg_text hx, obs, if_pos (by rw [M_size]; omega), lf5, sc_M, M_data, impl_loop xs _ (fun y hy => h y (List.mem_cons_of_mem _ hy)) (by simp only [List.length_append, List.length_cons, List.length_nil]; omega)]
  simp only [List.append_assoc]
theorem spec_loop (l : List S53) (hl : PureX.LegsOk l) (hln : l.length ≤ 12) (v d : List Bool) {p t n : Int} (A B : ByteArray) (hp : 0 ≤ p ∧ p ≤ 7) (ht : 0 ≤ t ∧ t ≤ 100000) (hn : 0 ≤ n ∧ n ≤ 60) (m : Nat) : ∀ (k i : Nat) (acc : List UInt8), i + m = l.length → m + 30 < k → acc.length + 400 * m ≤ 100000 →
  spec_FormatConsole.l0 k (M acc) (i : Int) l v d p t A B n l v d p t = some (M (acc ++ txtL (l.drop i) ++ stT (itoa p) (itoa t) (itoa n)), true) := by
 induction m with
 | zero =>
  intro k i acc hi hk ha
  obtain ⟨k, rfl⟩ : ∃ j, k = j + 1 := ⟨k - 1, by omega⟩
  have q1 := num_int (x := p) (by omega) (by omega) (k := k) (by omega)
  have q2 := num_int (x := t) (by omega) (by omega) (k := k) (by omega)
  have q3 := num_int (x := n) (by omega) (by omega) (k := k) (by omega)
  have p1 := itoa_len (x := p) (by omega) (by omega)
  have p2 := itoa_len (x := t) (by omega) (by omega)
  have p3 := itoa_len (x := n) (by omega) (by omega)
  rw [List.drop_of_length_le (by omega)]
  unfold spec_FormatConsole.l0 txtL stT
  rw [if_neg (by omega)]
  simp only [q1, q2, q3, obs, lf5, lf6, lf7, lf8, sc_M]
  clear q1 q2 q3
  generalize itoa p = a at *
  generalize itoa t = b at *
  generalize itoa n = c at *
  iterate 7 rw [if_pos (by simp only [M_size, List.length_append, List.length_cons, List.length_nil]; omega)]
  simp only [List.append_assoc, List.append_nil, List.nil_append]
 | succ m ih =>
  intro k i acc hi hk ha
  obtain ⟨k, rfl⟩ : ∃ j, k = j + 1 := ⟨k - 1, by omega⟩
  have hx : PureX.LegOk (rd_T53 l (i : Int)) := hl _ (PureX.rdLeg_mem (by omega) (by omega))
  have hlen := legL_len hx
  have e := leg_spec4 hx (k := k) (by omega)
  rw [PureX.drop_rdLeg l i (by omega)]
  unfold spec_FormatConsole.l0 txtL
  rw [if_pos (by omega), if_pos (by omega), e, obs, lf5, sc_M, sc_M, if_pos (by simp only [M_size]; omega), if_pos (by simp only [M_size, List.length_append]; omega), w64 (x := (i : Int) + 1) (by omega) (by omega)]
  have := ih k (i + 1) (acc ++ legL (rd_T53 l (i : Int)) ++ [10]) (by omega) (by omega) (by simp only [List.length_append, List.length_cons, List.length_nil]; omega)
  rw [Int.natCast_add, show ((1 : Nat) : Int) = 1 from rfl] at this
  rw [this]
  simp only [List.append_assoc]
theorem szLog_n (D P : List UInt8) (C n : Int) (h0 : 0 ≤ n) (h1 : n ≤ 1048576) (hc : D.length ≤ 140737488351232) (hr : P.length ≤ 140737488351232) :
  ∃ t, laws_szLog.f (M D) (M P) C n = some t ∧ (¬ t < 0 → D.length + P.length ≤ 1048576) := by
 unfold laws_szLog.f
 rw [M_size, M_size, w64 (x := n - (D.length : Int)) (by omega) (by omega)]
 by_cases a : n - (D.length : Int) < 0
 ·
  rw [if_pos a]
  exact ⟨_, rfl, fun h => absurd (by omega) h⟩
 ·
  rw [if_neg a, w64 (x := n - (D.length : Int) - (P.length : Int)) (by omega) (by omega)]
  by_cases b : n - (D.length : Int) - (P.length : Int) < 0
  ·
   rw [if_pos b]
   exact ⟨_, rfl, fun h => absurd (by omega) h⟩
  ·
   rw [if_neg b]
   exact ⟨_, rfl, fun _ => by omega⟩
theorem szX (l : List S84) (v d : List Bool) (a b : Int) (h0 : l.length ≤ 140737488351232) (h1 : v.length ≤ 140737488351232) (h2 : d.length ≤ 140737488351232) :
  ∃ u, laws_szExploration.f l v d a b 1048576 = some u ∧ u ≤ 1048576 := by
 unfold laws_szExploration.f laws_szLegS.f laws_szBoolS.f
 rw [w64 (x := 1048576 - (l.length : Int)) (by omega) (by omega)]
 by_cases s1 : 1048576 - (l.length : Int) < 0
 ·
  rw [if_pos s1, obs, if_pos (by decide)]
  exact ⟨_, rfl, by omega⟩
 ·
  rw [if_neg s1, obs, if_neg s1, w64 (x := 1048576 - (l.length : Int) - (v.length : Int)) (by omega) (by omega)]
  by_cases s2 : 1048576 - (l.length : Int) - (v.length : Int) < 0
  ·
   rw [if_pos s2, obs, if_pos (by decide)]
   exact ⟨_, rfl, by omega⟩
  ·
   rw [if_neg s2, obs, if_neg s2, w64 (x := 1048576 - (l.length : Int) - (v.length : Int) - (d.length : Int)) (by omega) (by omega)]
   by_cases s3 : 1048576 - (l.length : Int) - (v.length : Int) - (d.length : Int) < 0
   ·
    rw [if_pos s3, obs, if_pos (by decide)]
    exact ⟨_, rfl, by omega⟩
   ·
    rw [if_neg s3, obs, if_neg s3]
    exact ⟨_, rfl, by omega⟩
theorem text_both (l : List S53) (v d : List Bool) (p t n : Int) (D P : List UInt8) (hl : l.length * 40 ≤ 140737488351232) (hD : D.length + P.length ≤ 1048576) {K : Nat} (hK : l.length + 4 * (D.length + P.length) + 1100 ≤ K) :
  ∃ s b, spec_FormatConsole.f K l v d p t (M D) (M P) n = some (s, b) ∧ impl_FormatConsole.f K l v d p t (M D) (M P) n = some (s, b) := by
 obtain ⟨b, e1, e2, hb⟩ := PureX.good_eq l (by omega) v d p t (k := K) (by omega)
 have g1 := log_eq D P n (by omega) (by omega) (K := K) (by rw [List.length_append]; omega)
 have g2 := valid_eq D P n (by rw [List.length_append]; omega) (K := K) (by rw [List.length_append]; omega)
 unfold spec_FormatConsole.f impl_FormatConsole.f impl_IsValidConsole.f spec_l28Good.f
 cases b with
 | false =>
  simp only [e1, e2, obs, Bool.false_eq_true, if_false]
  exact ⟨_, _, rfl, rfl⟩
 | true =>
  have ok := hb.1 rfl
  simp only [e1, e2, g1, g2, obs, if_true]
  by_cases g : Good D P n
  ·
   have hn := g.count
   have hp : 0 ≤ p ∧ p ≤ 7 := ⟨ok.hp.1, by have := ok.hp.2; omega⟩
   have ht := ok.ht
   have h12 := ok.len
   have q1 := decimal_eq (a := p) (by omega) (by omega)
   have q2 := decimal_eq (a := t) (by omega) (by omega)
   have q3 := decimal_eq (a := n) (by omega) (by omega)
   have p1 := itoa_len (x := p) (by omega) (by omega)
   have p2 := itoa_len (x := t) (by omega) (by omega)
   have p3 := itoa_len (x := n) (by omega) (by omega)
   have s1 := spec_loop l ok.legs h12 v d (M D) (M P) hp ht hn l.length K 0 [] (by omega) (by omega) (by simp only [List.length_nil]; omega)
   have i1 := impl_loop l [] ok.legs (by simp only [List.length_nil]; omega)
   have tl : ∀ (l : List S53), PureX.LegsOk l → (txtL l).length ≤ 400 * l.length := by
    intro l
    induction l with
    | nil => exact fun _ => Nat.le_refl _
    | cons x xs ih =>
     intro h
     have := legL_len (h x (List.mem_cons_self ..))
     have := ih (fun y hy => h y (List.mem_cons_of_mem _ hy))
     unfold txtL
     simp only [List.length_append, List.length_cons, List.length_nil]
     omega
   have tl := tl l ok.legs
   rw [List.drop_zero, List.nil_append, Int.natCast_zero] at s1
   rw [List.nil_append] at i1
   unfold impl_at.f impl_light.f
   simp only [decide_eq_true g, if_true, lf9, s1, i1, q1, q2, q3, obs, M_size]
   rw [if_pos (by omega)]
   unfold stateF_
   simp only [lf5, lf6, lf7, lf8, sc_M, M_data, lit_M]
   exact ⟨_, _, rfl, rfl⟩
  ·
   simp only [decide_eq_false g, Bool.false_eq_true, if_false]
   exact ⟨_, _, rfl, rfl⟩
theorem FnExactFormatConsole : FnExactFormatConsole.Pure := by
 intro x h
 obtain ⟨⟨⟨_, hb0, hw0⟩, ⟨_, hb1, hw1⟩, ⟨_, hb2, hw2⟩, i3, i4⟩, hs0, hs1, hs2⟩ := h
 obtain ⟨D, P, hD, hP⟩ := ex_log x.f1.f0 x.f1.f1
 rw [hD, M_size] at hs0
 rw [hP, M_size] at hs1
 have hm : (x.f0.f0.map PureX.cvLeg).length = x.f0.f0.length := List.length_map _
 obtain ⟨J, hJ⟩ : ∃ K, K = x.f0.f0.length + x.f0.f1.length + x.f0.f2.length + 4 * (D.length + P.length) + 1200 := ⟨_, rfl⟩
 have t : ∀ k, J ≤ k → laws_toExploration.f k x.f0.f0 x.f0.f1 x.f0.f2 x.f0.f3 x.f0.f4 = some (x.f0.f0.map PureX.cvLeg, x.f0.f1, x.f0.f2, x.f0.f3, x.f0.f4) := fun k hk => PureX.toExploration_eq (l := x.f0.f0) (v := x.f0.f1) (d := x.f0.f2) (a := x.f0.f3) (b := x.f0.f4) hb0 (by omega) (by omega) (k := k) (by omega) (by omega) (by omega)
 have q : ∀ k, J ≤ k → laws_eqExploration.f k (x.f0.f0.map PureX.cvLeg) x.f0.f1 x.f0.f2 x.f0.f3 x.f0.f4 (x.f0.f0.map PureX.cvLeg) x.f0.f1 x.f0.f2 x.f0.f3 x.f0.f4 = some true := fun k hk => PureX.eqExploration_eq (l := x.f0.f0.map PureX.cvLeg) (v := x.f0.f1) (d := x.f0.f2) (a := x.f0.f3) (b := x.f0.f4) (by omega) (by omega) (by omega) (k := k) (by omega) (by omega) (by omega)
 obtain ⟨u, hu, hu1⟩ := szX x.f0.f0 x.f0.f1 x.f0.f2 x.f0.f3 x.f0.f4 (by omega) (by omega) (by omega)
 refine ⟨J + 1, ?_⟩
 unfold laws_FnExactFormatConsole.f laws_szConsole.f laws_toConsole.f laws_toLog.f
 rw [hD, hP, hu, obs]
 by_cases z : u < 0
 ·
  rw [if_pos z, obs, if_pos (by decide)]
 ·
  rw [if_neg z]
  obtain ⟨w, hw, hle⟩ := szLog_n D P x.f1.f2 u (by omega) hu1 hs0 hs1
  rw [hw, obs]
  by_cases z2 : w < 0
  ·
   rw [if_pos z2, obs, if_pos (by decide)]
  ·
   have hl := hle z2
   obtain ⟨s, b, e1, e2⟩ := text_both (x.f0.f0.map PureX.cvLeg) x.f0.f1 x.f0.f2 x.f0.f3 x.f0.f4 x.f1.f2 D P (by omega) hl (K := J + 1) (by omega)
   rw [if_neg z2, obs, if_neg z2]
   simp only [t (J + 1) (by omega), obs, e1, e2, bne_self_eq_false, if_true, laws_FnExactFormatConsole.j0, Bool.false_eq_true, if_false]
   unfold laws_toConsole.f laws_toLog.f laws_eqConsole.f
   simp only [t J (by omega), q J (by omega), obs, eqLog_self, if_true]
end Go.Proofs.YtckigdechhmegaaDoor.Pr.Pure

