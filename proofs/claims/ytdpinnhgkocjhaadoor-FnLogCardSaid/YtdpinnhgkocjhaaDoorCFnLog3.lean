/-
What is proved: parts of the law FnLog: what the functions that it reaches compute, and the plain law.
Conditions: those of each theorem.
-/
import Derived.Test.YtdpinnhgkocjhaaDoorCFnLog2
namespace Go.Proofs.YtdpinnhgkocjhaaDoor.Pr
open Go.RowKit Go.Proofs.YtdpinnhgkocjhaaDoorW.PrintWords Go.Proofs.YtdpinnhgkocjhaaDoorW.PrintLast Go.Proofs.YtdpinnhgkocjhaaDoorW.PrintMore
attribute [local go_sem] max2_int min2_int max_two min_two max_three min_three max_four min_four sc_in sx_in   -- for this text's walks alone
set_option linter.unusedVariables false
set_option linter.unusedSimpArgs false
def spec_l1Cur_spoilt.f (s0_0 : List Int) (s0_1 : Int) (s0_2 : Int) (a1 : ByteArray) (a2 : ByteArray) : Option (ByteArray × Int × Int) := if a1.toList = ([] : List UInt8) then (if 0 ≤ 1 then (if 1 ≤ (a2.size : Int) then (some (sx a2 (0) (1), s0_1, s0_2)) else (none)) else (none)) else ((spec_l1Cur_pick.f s0_0 s0_1 s0_2 (a1.size : Int)).bind fun bt511 => ((spec_l1Cur_pick.f s0_0 bt511.2.1 bt511.2.2 (a2.size : Int)).bind fun bt514 => (if 0 ≤ bt514.1 then (if bt514.1 ≤ (a2.size : Int) then (if 0 ≤ 1 then (if 1 ≤ ((sx a2 ((bt514.1 : Int).toNat) (a2.size)).size : Int) then ((spec_l1Cur_pick.f s0_0 bt514.2.1 bt514.2.2 3).bind fun bt517 => (if bt517.1 = 0 then (if 0 ≤ bt511.1 then (if bt511.1 ≤ (a1.size : Int) then (if (sx a1 (0) ((bt511.1 : Int).toNat)).size + (sx (sx a2 ((bt514.1 : Int).toNat) (a2.size)) (0) (1)).size ≤ 9223372036854775807 then (if (sc (sx a1 (0) ((bt511.1 : Int).toNat)) (sx (sx a2 ((bt514.1 : Int).toNat) (a2.size)) (0) (1))).size + (sx a1 ((bt511.1 : Int).toNat) (a1.size)).size ≤ 9223372036854775807 then (some (sc (sc (sx a1 (0) ((bt511.1 : Int).toNat)) (sx (sx a2 ((bt514.1 : Int).toNat) (a2.size)) (0) (1))) (sx a1 ((bt511.1 : Int).toNat) (a1.size)), bt517.2.1, bt517.2.2)) else (none)) else (none)) else (none)) else (none)) else (if bt517.1 = 1 then (if 0 ≤ bt511.1 then (if bt511.1 ≤ (a1.size : Int) then (if (sx a1 (0) ((bt511.1 : Int).toNat)).size + (sx (sx a2 ((bt514.1 : Int).toNat) (a2.size)) (0) (1)).size ≤ 9223372036854775807 then (if 0 ≤ (wrap64 (bt511.1 + 1)) then (if (wrap64 (bt511.1 + 1)) ≤ (a1.size : Int) then (if (sc (sx a1 (0) ((bt511.1 : Int).toNat)) (sx (sx a2 ((bt514.1 : Int).toNat) (a2.size)) (0) (1))).size + (sx a1 (((wrap64 (bt511.1 + 1)) : Int).toNat) (a1.size)).size ≤ 9223372036854775807 then (some (sc (sc (sx a1 (0) ((bt511.1 : Int).toNat)) (sx (sx a2 ((bt514.1 : Int).toNat) (a2.size)) (0) (1))) (sx a1 (((wrap64 (bt511.1 + 1)) : Int).toNat) (a1.size)), bt517.2.1, bt517.2.2)) else (none)) else (none)) else (none)) else (none)) else (none)) else (none)) else (if 0 ≤ bt511.1 then (if bt511.1 ≤ (a1.size : Int) then (if 0 ≤ (wrap64 (bt511.1 + 1)) then (if (wrap64 (bt511.1 + 1)) ≤ (a1.size : Int) then (if (sx a1 (0) ((bt511.1 : Int).toNat)).size + (sx a1 (((wrap64 (bt511.1 + 1)) : Int).toNat) (a1.size)).size ≤ 9223372036854775807 then (some (sc (sx a1 (0) ((bt511.1 : Int).toNat)) (sx a1 (((wrap64 (bt511.1 + 1)) : Int).toNat) (a1.size)), bt517.2.1, bt517.2.2)) else (none)) else (none)) else (none)) else (none)) else (none))))) else (none)) else (none)) else (none)) else (none))))
set_option maxHeartbeats 8000000 in
set_option maxRecDepth 100000 in
theorem spec_l1Cur_spoilt.calls (g : Nat) (s0_0 : List Int) (s0_1 : Int) (s0_2 : Int) (a1 : ByteArray) (a2 : ByteArray) (r1 : ByteArray) (r2 : Int) (r3 : Int) (w0 w : World) (hI : IsS74 w0 w g s0_0 s0_1 s0_2) (hB : Below w0.heap.size w0 w) (h : spec_l1Cur_spoilt.f s0_0 s0_1 s0_2 a1 a2 = some (r1, r2, r3)) :
  Calls Tryd.prog 61 #[.pointer (some ⟨g, 0, none⟩), .string a1, .string a2] w fun e w' => e = .returned (.string r1) ∧ IsS74 w0 w' g s0_0 r2 r3 ∧ Below w0.heap.size w0 w' ∧ KeepBut w w' g none := by
 have HI0 := Aside0.mk hI
 have HK := Aside0.mk (KeepBut.refl w g none)
 have HL := Aside0.mk hB.size
 clear hI
 have HW0 := Aside0.mk hB.size
 have HB := Aside0.mk hB
 clear hB
 have H : (if a1.toList = ([] : List UInt8) then (if 0 ≤ 1 then (if 1 ≤ (a2.size : Int) then (some (sx a2 (0) (1), s0_1, s0_2)) else (none)) else (none)) else ((spec_l1Cur_pick.f s0_0 s0_1 s0_2 (a1.size : Int)).bind fun bt511 => ((spec_l1Cur_pick.f s0_0 bt511.2.1 bt511.2.2 (a2.size : Int)).bind fun bt514 => (if 0 ≤ bt514.1 then (if bt514.1 ≤ (a2.size : Int) then (if 0 ≤ 1 then (if 1 ≤ ((sx a2 ((bt514.1 : Int).toNat) (a2.size)).size : Int) then ((spec_l1Cur_pick.f s0_0 bt514.2.1 bt514.2.2 3).bind fun bt517 => (if bt517.1 = 0 then (if 0 ≤ bt511.1 then (if bt511.1 ≤ (a1.size : Int) then (if (sx a1 (0) ((bt511.1 : Int).toNat)).size + (sx (sx a2 ((bt514.1 : Int).toNat) (a2.size)) (0) (1)).size ≤ 9223372036854775807 then (if (sc (sx a1 (0) ((bt511.1 : Int).toNat)) (sx (sx a2 ((bt514.1 : Int).toNat) (a2.size)) (0) (1))).size + (sx a1 ((bt511.1 : Int).toNat) (a1.size)).size ≤ 9223372036854775807 then (some (sc (sc (sx a1 (0) ((bt511.1 : Int).toNat)) (sx (sx a2 ((bt514.1 : Int).toNat) (a2.size)) (0) (1))) (sx a1 ((bt511.1 : Int).toNat) (a1.size)), bt517.2.1, bt517.2.2)) else (none)) else (none)) else (none)) else (none)) else (if bt517.1 = 1 then (if 0 ≤ bt511.1 then (if bt511.1 ≤ (a1.size : Int) then (if (sx a1 (0) ((bt511.1 : Int).toNat)).size + (sx (sx a2 ((bt514.1 : Int).toNat) (a2.size)) (0) (1)).size ≤ 9223372036854775807 then (if 0 ≤ (wrap64 (bt511.1 + 1)) then (if (wrap64 (bt511.1 + 1)) ≤ (a1.size : Int) then (if (sc (sx a1 (0) ((bt511.1 : Int).toNat)) (sx (sx a2 ((bt514.1 : Int).toNat) (a2.size)) (0) (1))).size + (sx a1 (((wrap64 (bt511.1 + 1)) : Int).toNat) (a1.size)).size ≤ 9223372036854775807 then (some (sc (sc (sx a1 (0) ((bt511.1 : Int).toNat)) (sx (sx a2 ((bt514.1 : Int).toNat) (a2.size)) (0) (1))) (sx a1 (((wrap64 (bt511.1 + 1)) : Int).toNat) (a1.size)), bt517.2.1, bt517.2.2)) else (none)) else (none)) else (none)) else (none)) else (none)) else (none)) else (if 0 ≤ bt511.1 then (if bt511.1 ≤ (a1.size : Int) then (if 0 ≤ (wrap64 (bt511.1 + 1)) then (if (wrap64 (bt511.1 + 1)) ≤ (a1.size : Int) then (if (sx a1 (0) ((bt511.1 : Int).toNat)).size + (sx a1 (((wrap64 (bt511.1 + 1)) : Int).toNat) (a1.size)).size ≤ 9223372036854775807 then (some (sc (sx a1 (0) ((bt511.1 : Int).toNat)) (sx a1 (((wrap64 (bt511.1 + 1)) : Int).toNat) (a1.size)), bt517.2.1, bt517.2.2)) else (none)) else (none)) else (none)) else (none)) else (none))))) else (none)) else (none)) else (none)) else (none))))) = some (r1, r2, r3) := h
 clear h
 by_cases c4 : a1.toList = ([] : List UInt8)
 ·
  rw [if_pos c4] at H
  have c4b0 : (a1.toList == ([] : List UInt8)) = true := beq_iff_eq.mpr c4
  have c4b1 : (a1.toList != ([] : List UInt8)) = false := bne_eq_false_iff_eq.mpr c4
  clear c4
  by_cases c5 : 0 ≤ 1
  ·
   rw [if_pos c5] at H
   have c5b0 := eq_true c5
   have c5b1 : decide (0 ≤ 1) = true := decide_eq_true c5
   clear c5
   by_cases c6 : 1 ≤ (a2.size : Int)
   ·
    rw [if_pos c6] at H
    have c6b0 := eq_true c6
    have c6b1 : decide (1 ≤ (a2.size : Int)) = true := decide_eq_true c6
    clear c6
    simp only [Option.some.injEq, Prod.mk.injEq] at H
    obtain ⟨rfl, rfl, rfl⟩ := H
    go_enter Tryd.func61, Tryd.ntmps61
    go_wp2
    repeat (go_quiet (fail); try go_wp2)
    go_ret
    exact ⟨rr_, is74_0 HI0.out, lb1_ HB.out (IsS74.ge HI0.out), kb0_ HK.out⟩
   ·
    rw [if_neg c6] at H
    exact absurd H (by simp)
  ·
   rw [if_neg c5] at H
   exact absurd H (by simp)
 ·
  rw [if_neg c4] at H
  have c4b0 : (a1.toList == ([] : List UInt8)) = false := beq_eq_false_iff_ne.mpr c4
  have c4b1 : (a1.toList != ([] : List UInt8)) = true := bne_iff_ne.mpr c4
  replace H := Option.bind_eq_some_iff.mp H
  obtain ⟨⟨t511, t512, t513⟩, A70, H⟩ := H
  replace H : ((spec_l1Cur_pick.f s0_0 t512 t513 (a2.size : Int)).bind fun bt514 => (if 0 ≤ bt514.1 then (if bt514.1 ≤ (a2.size : Int) then (if 0 ≤ 1 then (if 1 ≤ ((sx a2 ((bt514.1 : Int).toNat) (a2.size)).size : Int) then ((spec_l1Cur_pick.f s0_0 bt514.2.1 bt514.2.2 3).bind fun bt517 => (if bt517.1 = 0 then (if 0 ≤ t511 then (if t511 ≤ (a1.size : Int) then (if (sx a1 (0) ((t511 : Int).toNat)).size + (sx (sx a2 ((bt514.1 : Int).toNat) (a2.size)) (0) (1)).size ≤ 9223372036854775807 then (if (sc (sx a1 (0) ((t511 : Int).toNat)) (sx (sx a2 ((bt514.1 : Int).toNat) (a2.size)) (0) (1))).size + (sx a1 ((t511 : Int).toNat) (a1.size)).size ≤ 9223372036854775807 then (some (sc (sc (sx a1 (0) ((t511 : Int).toNat)) (sx (sx a2 ((bt514.1 : Int).toNat) (a2.size)) (0) (1))) (sx a1 ((t511 : Int).toNat) (a1.size)), bt517.2.1, bt517.2.2)) else (none)) else (none)) else (none)) else (none)) else (if bt517.1 = 1 then (if 0 ≤ t511 then (if t511 ≤ (a1.size : Int) then (if (sx a1 (0) ((t511 : Int).toNat)).size + (sx (sx a2 ((bt514.1 : Int).toNat) (a2.size)) (0) (1)).size ≤ 9223372036854775807 then (if 0 ≤ (wrap64 (t511 + 1)) then (if (wrap64 (t511 + 1)) ≤ (a1.size : Int) then (if (sc (sx a1 (0) ((t511 : Int).toNat)) (sx (sx a2 ((bt514.1 : Int).toNat) (a2.size)) (0) (1))).size + (sx a1 (((wrap64 (t511 + 1)) : Int).toNat) (a1.size)).size ≤ 9223372036854775807 then (some (sc (sc (sx a1 (0) ((t511 : Int).toNat)) (sx (sx a2 ((bt514.1 : Int).toNat) (a2.size)) (0) (1))) (sx a1 (((wrap64 (t511 + 1)) : Int).toNat) (a1.size)), bt517.2.1, bt517.2.2)) else (none)) else (none)) else (none)) else (none)) else (none)) else (none)) else (if 0 ≤ t511 then (if t511 ≤ (a1.size : Int) then (if 0 ≤ (wrap64 (t511 + 1)) then (if (wrap64 (t511 + 1)) ≤ (a1.size : Int) then (if (sx a1 (0) ((t511 : Int).toNat)).size + (sx a1 (((wrap64 (t511 + 1)) : Int).toNat) (a1.size)).size ≤ 9223372036854775807 then (some (sc (sx a1 (0) ((t511 : Int).toNat)) (sx a1 (((wrap64 (t511 + 1)) : Int).toNat) (a1.size)), bt517.2.1, bt517.2.2)) else (none)) else (none)) else (none)) else (none)) else (none))))) else (none)) else (none)) else (none)) else (none))) = some (r1, r2, r3) := H
  have A7 := Aside0.mk A70
  clear A70
  replace H := Option.bind_eq_some_iff.mp H
  obtain ⟨⟨t514, t515, t516⟩, A80, H⟩ := H
  replace H : (if 0 ≤ t514 then (if t514 ≤ (a2.size : Int) then (if 0 ≤ 1 then (if 1 ≤ ((sx a2 ((t514 : Int).toNat) (a2.size)).size : Int) then ((spec_l1Cur_pick.f s0_0 t515 t516 3).bind fun bt517 => (if bt517.1 = 0 then (if 0 ≤ t511 then (if t511 ≤ (a1.size : Int) then (if (sx a1 (0) ((t511 : Int).toNat)).size + (sx (sx a2 ((t514 : Int).toNat) (a2.size)) (0) (1)).size ≤ 9223372036854775807 then (if (sc (sx a1 (0) ((t511 : Int).toNat)) (sx (sx a2 ((t514 : Int).toNat) (a2.size)) (0) (1))).size + (sx a1 ((t511 : Int).toNat) (a1.size)).size ≤ 9223372036854775807 then (some (sc (sc (sx a1 (0) ((t511 : Int).toNat)) (sx (sx a2 ((t514 : Int).toNat) (a2.size)) (0) (1))) (sx a1 ((t511 : Int).toNat) (a1.size)), bt517.2.1, bt517.2.2)) else (none)) else (none)) else (none)) else (none)) else (if bt517.1 = 1 then (if 0 ≤ t511 then (if t511 ≤ (a1.size : Int) then (if (sx a1 (0) ((t511 : Int).toNat)).size + (sx (sx a2 ((t514 : Int).toNat) (a2.size)) (0) (1)).size ≤ 9223372036854775807 then (if 0 ≤ (wrap64 (t511 + 1)) then (if (wrap64 (t511 + 1)) ≤ (a1.size : Int) then (if (sc (sx a1 (0) ((t511 : Int).toNat)) (sx (sx a2 ((t514 : Int).toNat) (a2.size)) (0) (1))).size + (sx a1 (((wrap64 (t511 + 1)) : Int).toNat) (a1.size)).size ≤ 9223372036854775807 then (some (sc (sc (sx a1 (0) ((t511 : Int).toNat)) (sx (sx a2 ((t514 : Int).toNat) (a2.size)) (0) (1))) (sx a1 (((wrap64 (t511 + 1)) : Int).toNat) (a1.size)), bt517.2.1, bt517.2.2)) else (none)) else (none)) else (none)) else (none)) else (none)) else (none)) else (if 0 ≤ t511 then (if t511 ≤ (a1.size : Int) then (if 0 ≤ (wrap64 (t511 + 1)) then (if (wrap64 (t511 + 1)) ≤ (a1.size : Int) then (if (sx a1 (0) ((t511 : Int).toNat)).size + (sx a1 (((wrap64 (t511 + 1)) : Int).toNat) (a1.size)).size ≤ 9223372036854775807 then (some (sc (sx a1 (0) ((t511 : Int).toNat)) (sx a1 (((wrap64 (t511 + 1)) : Int).toNat) (a1.size)), bt517.2.1, bt517.2.2)) else (none)) else (none)) else (none)) else (none)) else (none))))) else (none)) else (none)) else (none)) else (none)) = some (r1, r2, r3) := H
  have A8 := Aside0.mk A80
  clear A80
  by_cases c9 : 0 ≤ t514
  ·
   rw [if_pos c9] at H
   have c9b0 := eq_true c9
   have c9b1 : decide (0 ≤ t514) = true := decide_eq_true c9
   clear c9
   by_cases c10 : t514 ≤ (a2.size : Int)
   ·
    rw [if_pos c10] at H
    have c10b0 := eq_true c10
    have c10b1 : decide (t514 ≤ (a2.size : Int)) = true := decide_eq_true c10
    clear c10
    by_cases c11 : 0 ≤ 1
    ·
     rw [if_pos c11] at H
     have c11b0 := eq_true c11
     have c11b1 : decide (0 ≤ 1) = true := decide_eq_true c11
     clear c11
     by_cases c12 : 1 ≤ ((sx a2 ((t514 : Int).toNat) (a2.size)).size : Int)
     ·
      rw [if_pos c12] at H
      have c12b0 := eq_true c12
      have c12b1 : decide (1 ≤ ((sx a2 ((t514 : Int).toNat) (a2.size)).size : Int)) = true := decide_eq_true c12
      clear c12
      replace H := Option.bind_eq_some_iff.mp H
      obtain ⟨⟨t517, t518, t519⟩, A130, H⟩ := H
      replace H : (if t517 = 0 then (if 0 ≤ t511 then (if t511 ≤ (a1.size : Int) then (if (sx a1 (0) ((t511 : Int).toNat)).size + (sx (sx a2 ((t514 : Int).toNat) (a2.size)) (0) (1)).size ≤ 9223372036854775807 then (if (sc (sx a1 (0) ((t511 : Int).toNat)) (sx (sx a2 ((t514 : Int).toNat) (a2.size)) (0) (1))).size + (sx a1 ((t511 : Int).toNat) (a1.size)).size ≤ 9223372036854775807 then (some (sc (sc (sx a1 (0) ((t511 : Int).toNat)) (sx (sx a2 ((t514 : Int).toNat) (a2.size)) (0) (1))) (sx a1 ((t511 : Int).toNat) (a1.size)), t518, t519)) else (none)) else (none)) else (none)) else (none)) else (if t517 = 1 then (if 0 ≤ t511 then (if t511 ≤ (a1.size : Int) then (if (sx a1 (0) ((t511 : Int).toNat)).size + (sx (sx a2 ((t514 : Int).toNat) (a2.size)) (0) (1)).size ≤ 9223372036854775807 then (if 0 ≤ (wrap64 (t511 + 1)) then (if (wrap64 (t511 + 1)) ≤ (a1.size : Int) then (if (sc (sx a1 (0) ((t511 : Int).toNat)) (sx (sx a2 ((t514 : Int).toNat) (a2.size)) (0) (1))).size + (sx a1 (((wrap64 (t511 + 1)) : Int).toNat) (a1.size)).size ≤ 9223372036854775807 then (some (sc (sc (sx a1 (0) ((t511 : Int).toNat)) (sx (sx a2 ((t514 : Int).toNat) (a2.size)) (0) (1))) (sx a1 (((wrap64 (t511 + 1)) : Int).toNat) (a1.size)), t518, t519)) else (none)) else (none)) else (none)) else (none)) else (none)) else (none)) else (if 0 ≤ t511 then (if t511 ≤ (a1.size : Int) then (if 0 ≤ (wrap64 (t511 + 1)) then (if (wrap64 (t511 + 1)) ≤ (a1.size : Int) then (if (sx a1 (0) ((t511 : Int).toNat)).size + (sx a1 (((wrap64 (t511 + 1)) : Int).toNat) (a1.size)).size ≤ 9223372036854775807 then (some (sc (sx a1 (0) ((t511 : Int).toNat)) (sx a1 (((wrap64 (t511 + 1)) : Int).toNat) (a1.size)), t518, t519)) else (none)) else (none)) else (none)) else (none)) else (none)))) = some (r1, r2, r3) := H
      have A13 := Aside0.mk A130
      clear A130
      by_cases c14 : t517 = 0
      ·
       rw [if_pos c14] at H
       have c14b0 : (t517 == 0) = true := beq_iff_eq.mpr c14
       have c14b1 : (t517 != 0) = false := bne_eq_false_iff_eq.mpr c14
       clear c14
       by_cases c15 : 0 ≤ t511
       ·
        rw [if_pos c15] at H
        have c15b0 := eq_true c15; have c15b1 : decide (0 ≤ t511) = true := decide_eq_true c15; clear c15
        by_cases c16 : t511 ≤ (a1.size : Int)
        ·
         rw [if_pos c16] at H
         have c16b0 := eq_true c16; have c16b1 : decide (t511 ≤ (a1.size : Int)) = true := decide_eq_true c16; clear c16
         by_cases c17 : (sx a1 (0) ((t511 : Int).toNat)).size + (sx (sx a2 ((t514 : Int).toNat) (a2.size)) (0) (1)).size ≤ 9223372036854775807
         ·
          rw [if_pos c17] at H
          have c17b0 := eq_true c17; have c17b1 : decide ((sx a1 (0) ((t511 : Int).toNat)).size + (sx (sx a2 ((t514 : Int).toNat) (a2.size)) (0) (1)).size ≤ 9223372036854775807) = true := decide_eq_true c17
          try have c17b2 : (9223372036854775807 < (sx a1 (0) ((t511 : Int).toNat)).size + (sx (sx a2 ((t514 : Int).toNat) (a2.size)) (0) (1)).size) = False := eq_false (Nat.not_lt.2 c17)
          have c18b0 := eq_true (dt_ : 0 ≤ t511); have c19b0 := eq_true (dt_ : t511 ≤ (a1.size : Int))
          by_cases c20 : (sc (sx a1 (0) ((t511 : Int).toNat)) (sx (sx a2 ((t514 : Int).toNat) (a2.size)) (0) (1))).size + (sx a1 ((t511 : Int).toNat) (a1.size)).size ≤ 9223372036854775807
          ·
           rw [if_pos c20] at H
           have c20b0 := eq_true c20; have c20b1 : decide ((sc (sx a1 (0) ((t511 : Int).toNat)) (sx (sx a2 ((t514 : Int).toNat) (a2.size)) (0) (1))).size + (sx a1 ((t511 : Int).toNat) (a1.size)).size ≤ 9223372036854775807) = true := decide_eq_true c20
           try have c20b2 : (9223372036854775807 < (sc (sx a1 (0) ((t511 : Int).toNat)) (sx (sx a2 ((t514 : Int).toNat) (a2.size)) (0) (1))).size + (sx a1 ((t511 : Int).toNat) (a1.size)).size) = False := eq_false (Nat.not_lt.2 c20)
           simp only [Option.some.injEq, Prod.mk.injEq] at H; obtain ⟨rfl, rfl, rfl⟩ := H
           go_enter Tryd.func61, Tryd.ntmps61
           go_wp2_with (first | (go_at_call 55; (with_reducible refine (spec_l1Cur_pick.calls g s0_0 s0_1 s0_2 (a1.size : Int) t511 t512 t513 w0 _ ?side1 ?side2 A7.out).mono ?_); (case side1 => exact is74_0 HI0.out); (case side2 => exact lb1_ HB.out (IsS74.ge HI0.out)); rintro e w21 ⟨rfl, hi, hb, hk⟩; replace HK := Aside0.mk (KeepBut.trans (kb0_ HK.out) hk (.inl rfl)); replace HB := Aside0.mk (hb); replace HI0 := Aside0.mk (hi); (try clear hb); (try clear hb2); (try clear hk); (try clear hi)) | (go_at_call 55; (with_reducible refine (spec_l1Cur_pick.calls g s0_0 t512 t513 (a2.size : Int) t514 t515 t516 w0 _ ?side1 ?side2 A8.out).mono ?_); (case side1 => exact is74_0 HI0.out); (case side2 => exact lb1_ HB.out (IsS74.ge HI0.out)); rintro e w22 ⟨rfl, hi, hb, hk⟩; replace HK := Aside0.mk (KeepBut.trans (kb0_ HK.out) hk (.inl rfl)); replace HB := Aside0.mk (hb); replace HI0 := Aside0.mk (hi); (try clear hb); (try clear hb2); (try clear hk); (try clear hi)) | (go_at_call 55; (with_reducible refine (spec_l1Cur_pick.calls g s0_0 t515 t516 3 t517 t518 t519 w0 _ ?side1 ?side2 A13.out).mono ?_); (case side1 => exact is74_0 HI0.out); (case side2 => exact lb1_ HB.out (IsS74.ge HI0.out)); rintro e w23 ⟨rfl, hi, hb, hk⟩; replace HK := Aside0.mk (KeepBut.trans (kb0_ HK.out) hk (.inl rfl)); replace HB := Aside0.mk (hb); replace HI0 := Aside0.mk (hi); (try clear hb); (try clear hb2); (try clear hk); (try clear hi)))
           repeat (go_quiet (first | (go_at_call 55; (with_reducible refine (spec_l1Cur_pick.calls g s0_0 s0_1 s0_2 (a1.size : Int) t511 t512 t513 w0 _ ?side1 ?side2 A7.out).mono ?_); (case side1 => exact is74_0 HI0.out); (case side2 => exact lb1_ HB.out (IsS74.ge HI0.out)); rintro e w21 ⟨rfl, hi, hb, hk⟩; replace HK := Aside0.mk (KeepBut.trans (kb0_ HK.out) hk (.inl rfl)); replace HB := Aside0.mk (hb); replace HI0 := Aside0.mk (hi); (try clear hb); (try clear hb2); (try clear hk); (try clear hi)) | (go_at_call 55; (with_reducible refine (spec_l1Cur_pick.calls g s0_0 t512 t513 (a2.size : Int) t514 t515 t516 w0 _ ?side1 ?side2 A8.out).mono ?_); (case side1 => exact is74_0 HI0.out); (case side2 => exact lb1_ HB.out (IsS74.ge HI0.out)); rintro e w22 ⟨rfl, hi, hb, hk⟩; replace HK := Aside0.mk (KeepBut.trans (kb0_ HK.out) hk (.inl rfl)); replace HB := Aside0.mk (hb); replace HI0 := Aside0.mk (hi); (try clear hb); (try clear hb2); (try clear hk); (try clear hi)) | (go_at_call 55; (with_reducible refine (spec_l1Cur_pick.calls g s0_0 t515 t516 3 t517 t518 t519 w0 _ ?side1 ?side2 A13.out).mono ?_); (case side1 => exact is74_0 HI0.out); (case side2 => exact lb1_ HB.out (IsS74.ge HI0.out)); rintro e w23 ⟨rfl, hi, hb, hk⟩; replace HK := Aside0.mk (KeepBut.trans (kb0_ HK.out) hk (.inl rfl)); replace HB := Aside0.mk (hb); replace HI0 := Aside0.mk (hi); (try clear hb); (try clear hb2); (try clear hk); (try clear hi))); try go_wp2_with (first | (go_at_call 55; (with_reducible refine (spec_l1Cur_pick.calls g s0_0 s0_1 s0_2 (a1.size : Int) t511 t512 t513 w0 _ ?side1 ?side2 A7.out).mono ?_); (case side1 => exact is74_0 HI0.out); (case side2 => exact lb1_ HB.out (IsS74.ge HI0.out)); rintro e w21 ⟨rfl, hi, hb, hk⟩; replace HK := Aside0.mk (KeepBut.trans (kb0_ HK.out) hk (.inl rfl)); replace HB := Aside0.mk (hb); replace HI0 := Aside0.mk (hi); (try clear hb); (try clear hb2); (try clear hk); (try clear hi)) | (go_at_call 55; (with_reducible refine (spec_l1Cur_pick.calls g s0_0 t512 t513 (a2.size : Int) t514 t515 t516 w0 _ ?side1 ?side2 A8.out).mono ?_); (case side1 => exact is74_0 HI0.out); (case side2 => exact lb1_ HB.out (IsS74.ge HI0.out)); rintro e w22 ⟨rfl, hi, hb, hk⟩; replace HK := Aside0.mk (KeepBut.trans (kb0_ HK.out) hk (.inl rfl)); replace HB := Aside0.mk (hb); replace HI0 := Aside0.mk (hi); (try clear hb); (try clear hb2); (try clear hk); (try clear hi)) | (go_at_call 55; (with_reducible refine (spec_l1Cur_pick.calls g s0_0 t515 t516 3 t517 t518 t519 w0 _ ?side1 ?side2 A13.out).mono ?_); (case side1 => exact is74_0 HI0.out); (case side2 => exact lb1_ HB.out (IsS74.ge HI0.out)); rintro e w23 ⟨rfl, hi, hb, hk⟩; replace HK := Aside0.mk (KeepBut.trans (kb0_ HK.out) hk (.inl rfl)); replace HB := Aside0.mk (hb); replace HI0 := Aside0.mk (hi); (try clear hb); (try clear hb2); (try clear hk); (try clear hi))))
           go_ret
           exact ⟨rr_, is74_0 HI0.out, lb1_ HB.out (IsS74.ge HI0.out), kb0_ HK.out⟩
          ·
           rw [if_neg c20] at H
           exact absurd H (by simp)
         ·
          rw [if_neg c17] at H
          exact absurd H (by simp)
        ·
         rw [if_neg c16] at H
         exact absurd H (by simp)
       ·
        rw [if_neg c15] at H
        exact absurd H (by simp)
      ·
       rw [if_neg c14] at H
       have c14b0 : (t517 == 0) = false := beq_eq_false_iff_ne.mpr c14
       have c14b1 : (t517 != 0) = true := bne_iff_ne.mpr c14
       by_cases c24 : t517 = 1
       ·
        rw [if_pos c24] at H
        have c24b0 : (t517 == 1) = true := beq_iff_eq.mpr c24; have c24b1 : (t517 != 1) = false := bne_eq_false_iff_eq.mpr c24; clear c24
        by_cases c25 : 0 ≤ t511
        ·
         rw [if_pos c25] at H
         have c25b0 := eq_true c25; have c25b1 : decide (0 ≤ t511) = true := decide_eq_true c25; clear c25
         by_cases c26 : t511 ≤ (a1.size : Int)
         ·
          rw [if_pos c26] at H
          have c26b0 := eq_true c26; have c26b1 : decide (t511 ≤ (a1.size : Int)) = true := decide_eq_true c26; clear c26
          by_cases c27 : (sx a1 (0) ((t511 : Int).toNat)).size + (sx (sx a2 ((t514 : Int).toNat) (a2.size)) (0) (1)).size ≤ 9223372036854775807
          ·
           rw [if_pos c27] at H
           have c27b0 := eq_true c27; have c27b1 : decide ((sx a1 (0) ((t511 : Int).toNat)).size + (sx (sx a2 ((t514 : Int).toNat) (a2.size)) (0) (1)).size ≤ 9223372036854775807) = true := decide_eq_true c27
           try have c27b2 : (9223372036854775807 < (sx a1 (0) ((t511 : Int).toNat)).size + (sx (sx a2 ((t514 : Int).toNat) (a2.size)) (0) (1)).size) = False := eq_false (Nat.not_lt.2 c27)
           obtain ⟨ji28, hji28⟩ : ∃ j_ : Int, (wrap64 (t511 + 1)) = j_ := ⟨_, rfl⟩
           replace H : (if 0 ≤ (ji28) then (if (ji28) ≤ (a1.size : Int) then (if (sc (sx a1 (0) ((t511 : Int).toNat)) (sx (sx a2 ((t514 : Int).toNat) (a2.size)) (0) (1))).size + (sx a1 (((ji28) : Int).toNat) (a1.size)).size ≤ 9223372036854775807 then (some (sc (sc (sx a1 (0) ((t511 : Int).toNat)) (sx (sx a2 ((t514 : Int).toNat) (a2.size)) (0) (1))) (sx a1 (((ji28) : Int).toNat) (a1.size)), t518, t519)) else (none)) else (none)) else (none)) = some (r1, r2, r3) := by first | (rw [hji28] at H; exact H) | (simp only [hji28] at H ⊢; exact H)
           (try rw [hji28] at A7); (try rw [hji28] at A8); (try rw [hji28] at A13); have hji28w : (IntKind.i64.wrap (t511 + 1)) = ji28 := (i64_w _).trans hji28
           by_cases c29 : 0 ≤ (ji28)
           ·
            rw [if_pos c29] at H
            have c29b0 := eq_true c29; have c29b1 : decide (0 ≤ (ji28)) = true := decide_eq_true c29; clear c29
            by_cases c30 : (ji28) ≤ (a1.size : Int)
            ·
             rw [if_pos c30] at H
             have c30b0 := eq_true c30; have c30b1 : decide ((ji28) ≤ (a1.size : Int)) = true := decide_eq_true c30; clear c30
             by_cases c31 : (sc (sx a1 (0) ((t511 : Int).toNat)) (sx (sx a2 ((t514 : Int).toNat) (a2.size)) (0) (1))).size + (sx a1 (((ji28) : Int).toNat) (a1.size)).size ≤ 9223372036854775807
             ·
              rw [if_pos c31] at H
              have c31b0 := eq_true c31; have c31b1 : decide ((sc (sx a1 (0) ((t511 : Int).toNat)) (sx (sx a2 ((t514 : Int).toNat) (a2.size)) (0) (1))).size + (sx a1 (((ji28) : Int).toNat) (a1.size)).size ≤ 9223372036854775807) = true := decide_eq_true c31
              try have c31b2 : (9223372036854775807 < (sc (sx a1 (0) ((t511 : Int).toNat)) (sx (sx a2 ((t514 : Int).toNat) (a2.size)) (0) (1))).size + (sx a1 (((ji28) : Int).toNat) (a1.size)).size) = False := eq_false (Nat.not_lt.2 c31)
              simp only [Option.some.injEq, Prod.mk.injEq] at H; obtain ⟨rfl, rfl, rfl⟩ := H
              go_enter Tryd.func61, Tryd.ntmps61
              go_wp2_with (first | (go_at_call 55; (with_reducible refine (spec_l1Cur_pick.calls g s0_0 s0_1 s0_2 (a1.size : Int) t511 t512 t513 w0 _ ?side1 ?side2 A7.out).mono ?_); (case side1 => exact is74_0 HI0.out); (case side2 => exact lb1_ HB.out (IsS74.ge HI0.out)); rintro e w32 ⟨rfl, hi, hb, hk⟩; replace HK := Aside0.mk (KeepBut.trans (kb0_ HK.out) hk (.inl rfl)); replace HB := Aside0.mk (hb); replace HI0 := Aside0.mk (hi); (try clear hb); (try clear hb2); (try clear hk); (try clear hi)) | (go_at_call 55; (with_reducible refine (spec_l1Cur_pick.calls g s0_0 t512 t513 (a2.size : Int) t514 t515 t516 w0 _ ?side1 ?side2 A8.out).mono ?_); (case side1 => exact is74_0 HI0.out); (case side2 => exact lb1_ HB.out (IsS74.ge HI0.out)); rintro e w33 ⟨rfl, hi, hb, hk⟩; replace HK := Aside0.mk (KeepBut.trans (kb0_ HK.out) hk (.inl rfl)); replace HB := Aside0.mk (hb); replace HI0 := Aside0.mk (hi); (try clear hb); (try clear hb2); (try clear hk); (try clear hi)) | (go_at_call 55; (with_reducible refine (spec_l1Cur_pick.calls g s0_0 t515 t516 3 t517 t518 t519 w0 _ ?side1 ?side2 A13.out).mono ?_); (case side1 => exact is74_0 HI0.out); (case side2 => exact lb1_ HB.out (IsS74.ge HI0.out)); rintro e w34 ⟨rfl, hi, hb, hk⟩; replace HK := Aside0.mk (KeepBut.trans (kb0_ HK.out) hk (.inl rfl)); replace HB := Aside0.mk (hb); replace HI0 := Aside0.mk (hi); (try clear hb); (try clear hb2); (try clear hk); (try clear hi)))
              repeat (go_quiet (first | (go_at_call 55; (with_reducible refine (spec_l1Cur_pick.calls g s0_0 s0_1 s0_2 (a1.size : Int) t511 t512 t513 w0 _ ?side1 ?side2 A7.out).mono ?_); (case side1 => exact is74_0 HI0.out); (case side2 => exact lb1_ HB.out (IsS74.ge HI0.out)); rintro e w32 ⟨rfl, hi, hb, hk⟩; replace HK := Aside0.mk (KeepBut.trans (kb0_ HK.out) hk (.inl rfl)); replace HB := Aside0.mk (hb); replace HI0 := Aside0.mk (hi); (try clear hb); (try clear hb2); (try clear hk); (try clear hi)) | (go_at_call 55; (with_reducible refine (spec_l1Cur_pick.calls g s0_0 t512 t513 (a2.size : Int) t514 t515 t516 w0 _ ?side1 ?side2 A8.out).mono ?_); (case side1 => exact is74_0 HI0.out); (case side2 => exact lb1_ HB.out (IsS74.ge HI0.out)); rintro e w33 ⟨rfl, hi, hb, hk⟩; replace HK := Aside0.mk (KeepBut.trans (kb0_ HK.out) hk (.inl rfl)); replace HB := Aside0.mk (hb); replace HI0 := Aside0.mk (hi); (try clear hb); (try clear hb2); (try clear hk); (try clear hi)) | (go_at_call 55; (with_reducible refine (spec_l1Cur_pick.calls g s0_0 t515 t516 3 t517 t518 t519 w0 _ ?side1 ?side2 A13.out).mono ?_); (case side1 => exact is74_0 HI0.out); (case side2 => exact lb1_ HB.out (IsS74.ge HI0.out)); rintro e w34 ⟨rfl, hi, hb, hk⟩; replace HK := Aside0.mk (KeepBut.trans (kb0_ HK.out) hk (.inl rfl)); replace HB := Aside0.mk (hb); replace HI0 := Aside0.mk (hi); (try clear hb); (try clear hb2); (try clear hk); (try clear hi))); try go_wp2_with (first | (go_at_call 55; (with_reducible refine (spec_l1Cur_pick.calls g s0_0 s0_1 s0_2 (a1.size : Int) t511 t512 t513 w0 _ ?side1 ?side2 A7.out).mono ?_); (case side1 => exact is74_0 HI0.out); (case side2 => exact lb1_ HB.out (IsS74.ge HI0.out)); rintro e w32 ⟨rfl, hi, hb, hk⟩; replace HK := Aside0.mk (KeepBut.trans (kb0_ HK.out) hk (.inl rfl)); replace HB := Aside0.mk (hb); replace HI0 := Aside0.mk (hi); (try clear hb); (try clear hb2); (try clear hk); (try clear hi)) | (go_at_call 55; (with_reducible refine (spec_l1Cur_pick.calls g s0_0 t512 t513 (a2.size : Int) t514 t515 t516 w0 _ ?side1 ?side2 A8.out).mono ?_); (case side1 => exact is74_0 HI0.out); (case side2 => exact lb1_ HB.out (IsS74.ge HI0.out)); rintro e w33 ⟨rfl, hi, hb, hk⟩; replace HK := Aside0.mk (KeepBut.trans (kb0_ HK.out) hk (.inl rfl)); replace HB := Aside0.mk (hb); replace HI0 := Aside0.mk (hi); (try clear hb); (try clear hb2); (try clear hk); (try clear hi)) | (go_at_call 55; (with_reducible refine (spec_l1Cur_pick.calls g s0_0 t515 t516 3 t517 t518 t519 w0 _ ?side1 ?side2 A13.out).mono ?_); (case side1 => exact is74_0 HI0.out); (case side2 => exact lb1_ HB.out (IsS74.ge HI0.out)); rintro e w34 ⟨rfl, hi, hb, hk⟩; replace HK := Aside0.mk (KeepBut.trans (kb0_ HK.out) hk (.inl rfl)); replace HB := Aside0.mk (hb); replace HI0 := Aside0.mk (hi); (try clear hb); (try clear hb2); (try clear hk); (try clear hi))))
              go_ret
              exact ⟨by first | rfl | (simp [errW_none, errW_some] <;> rfl) | (simp only [← hji28]; first | rfl | (simp [errW_none, errW_some] <;> rfl)) | (simp [*, errW_none, errW_some] <;> rfl), is74_0 HI0.out, lb1_ HB.out (IsS74.ge HI0.out), kb0_ HK.out⟩
             ·
              rw [if_neg c31] at H
              exact absurd H (by simp)
            ·
             rw [if_neg c30] at H
             exact absurd H (by simp)
           ·
            rw [if_neg c29] at H
            exact absurd H (by simp)
          ·
           rw [if_neg c27] at H
           exact absurd H (by simp)
         ·
          rw [if_neg c26] at H
          exact absurd H (by simp)
        ·
         rw [if_neg c25] at H
         exact absurd H (by simp)
       ·
        rw [if_neg c24] at H
        have c24b0 : (t517 == 1) = false := beq_eq_false_iff_ne.mpr c24; have c24b1 : (t517 != 1) = true := bne_iff_ne.mpr c24
        by_cases c35 : 0 ≤ t511
        ·
         rw [if_pos c35] at H
         have c35b0 := eq_true c35; have c35b1 : decide (0 ≤ t511) = true := decide_eq_true c35; clear c35
         by_cases c36 : t511 ≤ (a1.size : Int)
         ·
          rw [if_pos c36] at H
          have c36b0 := eq_true c36; have c36b1 : decide (t511 ≤ (a1.size : Int)) = true := decide_eq_true c36; clear c36
          obtain ⟨ji37, hji37⟩ : ∃ j_ : Int, (wrap64 (t511 + 1)) = j_ := ⟨_, rfl⟩
          replace H : (if 0 ≤ (ji37) then (if (ji37) ≤ (a1.size : Int) then (if (sx a1 (0) ((t511 : Int).toNat)).size + (sx a1 (((ji37) : Int).toNat) (a1.size)).size ≤ 9223372036854775807 then (some (sc (sx a1 (0) ((t511 : Int).toNat)) (sx a1 (((ji37) : Int).toNat) (a1.size)), t518, t519)) else (none)) else (none)) else (none)) = some (r1, r2, r3) := by first | (rw [hji37] at H; exact H) | (simp only [hji37] at H ⊢; exact H)
          (try rw [hji37] at A7); (try rw [hji37] at A8); (try rw [hji37] at A13); have hji37w : (IntKind.i64.wrap (t511 + 1)) = ji37 := (i64_w _).trans hji37
          by_cases c38 : 0 ≤ (ji37)
          ·
           rw [if_pos c38] at H
           have c38b0 := eq_true c38; have c38b1 : decide (0 ≤ (ji37)) = true := decide_eq_true c38; clear c38
           by_cases c39 : (ji37) ≤ (a1.size : Int)
           ·
            rw [if_pos c39] at H
            have c39b0 := eq_true c39; have c39b1 : decide ((ji37) ≤ (a1.size : Int)) = true := decide_eq_true c39; clear c39
            by_cases c40 : (sx a1 (0) ((t511 : Int).toNat)).size + (sx a1 (((ji37) : Int).toNat) (a1.size)).size ≤ 9223372036854775807
            ·
             rw [if_pos c40] at H
             have c40b0 := eq_true c40; have c40b1 : decide ((sx a1 (0) ((t511 : Int).toNat)).size + (sx a1 (((ji37) : Int).toNat) (a1.size)).size ≤ 9223372036854775807) = true := decide_eq_true c40
             try have c40b2 : (9223372036854775807 < (sx a1 (0) ((t511 : Int).toNat)).size + (sx a1 (((ji37) : Int).toNat) (a1.size)).size) = False := eq_false (Nat.not_lt.2 c40)
             simp only [Option.some.injEq, Prod.mk.injEq] at H; obtain ⟨rfl, rfl, rfl⟩ := H
             go_enter Tryd.func61, Tryd.ntmps61
             go_wp2_with (first | (go_at_call 55; (with_reducible refine (spec_l1Cur_pick.calls g s0_0 s0_1 s0_2 (a1.size : Int) t511 t512 t513 w0 _ ?side1 ?side2 A7.out).mono ?_); (case side1 => exact is74_0 HI0.out); (case side2 => exact lb1_ HB.out (IsS74.ge HI0.out)); rintro e w41 ⟨rfl, hi, hb, hk⟩; replace HK := Aside0.mk (KeepBut.trans (kb0_ HK.out) hk (.inl rfl)); replace HB := Aside0.mk (hb); replace HI0 := Aside0.mk (hi); (try clear hb); (try clear hb2); (try clear hk); (try clear hi)) | (go_at_call 55; (with_reducible refine (spec_l1Cur_pick.calls g s0_0 t512 t513 (a2.size : Int) t514 t515 t516 w0 _ ?side1 ?side2 A8.out).mono ?_); (case side1 => exact is74_0 HI0.out); (case side2 => exact lb1_ HB.out (IsS74.ge HI0.out)); rintro e w42 ⟨rfl, hi, hb, hk⟩; replace HK := Aside0.mk (KeepBut.trans (kb0_ HK.out) hk (.inl rfl)); replace HB := Aside0.mk (hb); replace HI0 := Aside0.mk (hi); (try clear hb); (try clear hb2); (try clear hk); (try clear hi)) | (go_at_call 55; (with_reducible refine (spec_l1Cur_pick.calls g s0_0 t515 t516 3 t517 t518 t519 w0 _ ?side1 ?side2 A13.out).mono ?_); (case side1 => exact is74_0 HI0.out); (case side2 => exact lb1_ HB.out (IsS74.ge HI0.out)); rintro e w43 ⟨rfl, hi, hb, hk⟩; replace HK := Aside0.mk (KeepBut.trans (kb0_ HK.out) hk (.inl rfl)); replace HB := Aside0.mk (hb); replace HI0 := Aside0.mk (hi); (try clear hb); (try clear hb2); (try clear hk); (try clear hi)))
             repeat (go_quiet (first | (go_at_call 55; (with_reducible refine (spec_l1Cur_pick.calls g s0_0 s0_1 s0_2 (a1.size : Int) t511 t512 t513 w0 _ ?side1 ?side2 A7.out).mono ?_); (case side1 => exact is74_0 HI0.out); (case side2 => exact lb1_ HB.out (IsS74.ge HI0.out)); rintro e w41 ⟨rfl, hi, hb, hk⟩; replace HK := Aside0.mk (KeepBut.trans (kb0_ HK.out) hk (.inl rfl)); replace HB := Aside0.mk (hb); replace HI0 := Aside0.mk (hi); (try clear hb); (try clear hb2); (try clear hk); (try clear hi)) | (go_at_call 55; (with_reducible refine (spec_l1Cur_pick.calls g s0_0 t512 t513 (a2.size : Int) t514 t515 t516 w0 _ ?side1 ?side2 A8.out).mono ?_); (case side1 => exact is74_0 HI0.out); (case side2 => exact lb1_ HB.out (IsS74.ge HI0.out)); rintro e w42 ⟨rfl, hi, hb, hk⟩; replace HK := Aside0.mk (KeepBut.trans (kb0_ HK.out) hk (.inl rfl)); replace HB := Aside0.mk (hb); replace HI0 := Aside0.mk (hi); (try clear hb); (try clear hb2); (try clear hk); (try clear hi)) | (go_at_call 55; (with_reducible refine (spec_l1Cur_pick.calls g s0_0 t515 t516 3 t517 t518 t519 w0 _ ?side1 ?side2 A13.out).mono ?_); (case side1 => exact is74_0 HI0.out); (case side2 => exact lb1_ HB.out (IsS74.ge HI0.out)); rintro e w43 ⟨rfl, hi, hb, hk⟩; replace HK := Aside0.mk (KeepBut.trans (kb0_ HK.out) hk (.inl rfl)); replace HB := Aside0.mk (hb); replace HI0 := Aside0.mk (hi); (try clear hb); (try clear hb2); (try clear hk); (try clear hi))); try go_wp2_with (first | (go_at_call 55; (with_reducible refine (spec_l1Cur_pick.calls g s0_0 s0_1 s0_2 (a1.size : Int) t511 t512 t513 w0 _ ?side1 ?side2 A7.out).mono ?_); (case side1 => exact is74_0 HI0.out); (case side2 => exact lb1_ HB.out (IsS74.ge HI0.out)); rintro e w41 ⟨rfl, hi, hb, hk⟩; replace HK := Aside0.mk (KeepBut.trans (kb0_ HK.out) hk (.inl rfl)); replace HB := Aside0.mk (hb); replace HI0 := Aside0.mk (hi); (try clear hb); (try clear hb2); (try clear hk); (try clear hi)) | (go_at_call 55; (with_reducible refine (spec_l1Cur_pick.calls g s0_0 t512 t513 (a2.size : Int) t514 t515 t516 w0 _ ?side1 ?side2 A8.out).mono ?_); (case side1 => exact is74_0 HI0.out); (case side2 => exact lb1_ HB.out (IsS74.ge HI0.out)); rintro e w42 ⟨rfl, hi, hb, hk⟩; replace HK := Aside0.mk (KeepBut.trans (kb0_ HK.out) hk (.inl rfl)); replace HB := Aside0.mk (hb); replace HI0 := Aside0.mk (hi); (try clear hb); (try clear hb2); (try clear hk); (try clear hi)) | (go_at_call 55; (with_reducible refine (spec_l1Cur_pick.calls g s0_0 t515 t516 3 t517 t518 t519 w0 _ ?side1 ?side2 A13.out).mono ?_); (case side1 => exact is74_0 HI0.out); (case side2 => exact lb1_ HB.out (IsS74.ge HI0.out)); rintro e w43 ⟨rfl, hi, hb, hk⟩; replace HK := Aside0.mk (KeepBut.trans (kb0_ HK.out) hk (.inl rfl)); replace HB := Aside0.mk (hb); replace HI0 := Aside0.mk (hi); (try clear hb); (try clear hb2); (try clear hk); (try clear hi))))
             go_ret
             exact ⟨by first | rfl | (simp [errW_none, errW_some] <;> rfl) | (simp only [← hji37]; first | rfl | (simp [errW_none, errW_some] <;> rfl)) | (simp [*, errW_none, errW_some] <;> rfl), is74_0 HI0.out, lb1_ HB.out (IsS74.ge HI0.out), kb0_ HK.out⟩
            ·
             rw [if_neg c40] at H
             exact absurd H (by simp)
           ·
            rw [if_neg c39] at H
            exact absurd H (by simp)
          ·
           rw [if_neg c38] at H
           exact absurd H (by simp)
         ·
          rw [if_neg c36] at H
          exact absurd H (by simp)
        ·
         rw [if_neg c35] at H
         exact absurd H (by simp)
     ·
      rw [if_neg c12] at H
      exact absurd H (by simp)
    ·
     rw [if_neg c11] at H
     exact absurd H (by simp)
   ·
    rw [if_neg c10] at H
    exact absurd H (by simp)
  ·
   rw [if_neg c9] at H
   exact absurd H (by simp)
def spec_l1Cur_anyLog.f (k : Nat) (s0_0 : List Int) (s0_1 : Int) (s0_2 : Int) : Option (ByteArray × ByteArray × Int × Int × Int) := (spec_l1Cur_log.f k s0_0 s0_1 s0_2).bind fun bt521 => ((spec_l1Cur_pick.f s0_0 bt521.2.2.2.1 bt521.2.2.2.2 24).bind fun bt527 => (if bt527.1 = 0 then (some (bt521.1, bt521.2.1, wrap64 (bt521.2.2.1 + 1), bt527.2.1, bt527.2.2)) else (if bt527.1 = 1 then ((spec_l1Cur_spoilt.f s0_0 bt527.2.1 bt527.2.2 bt521.2.1 (⟨#[35, 64, 10, 48, 49]⟩ : ByteArray)).bind fun bt530 => (some (bt521.1, bt530.1, bt521.2.2.1, bt530.2.1, bt530.2.2))) else (if bt527.1 = 2 then (if bt521.1.size + bt521.2.1.size ≤ 9223372036854775807 then (some (sc bt521.1 bt521.2.1, bt521.2.1, bt521.2.2.1, bt527.2.1, bt527.2.2)) else (none)) else (some (bt521.1, bt521.2.1, bt521.2.2.1, bt527.2.1, bt527.2.2))))))
set_option maxHeartbeats 8000000 in
set_option maxRecDepth 100000 in
theorem spec_l1Cur_anyLog.calls (k : Nat) (g : Nat) (s0_0 : List Int) (s0_1 : Int) (s0_2 : Int) (r1 : ByteArray) (r2 : ByteArray) (r3 : Int) (r4 : Int) (r5 : Int) (w0 w : World) (hI : IsS74 w0 w g s0_0 s0_1 s0_2) (hB : Below w0.heap.size w0 w) (h : spec_l1Cur_anyLog.f k s0_0 s0_1 s0_2 = some (r1, r2, r3, r4, r5)) :
  Calls Tryd.prog 53 #[.pointer (some ⟨g, 0, none⟩)] w fun e w' => e = .returned (.agg #[.string r1, .string r2, .int .i64 r3]) ∧ IsS74 w0 w' g s0_0 r4 r5 ∧ Below w0.heap.size w0 w' ∧ KeepBut w w' g none := by
 have hu31 := Tryd.underlying31
 have HI0 := Aside0.mk hI
 have HK := Aside0.mk (KeepBut.refl w g none)
 have HL := Aside0.mk hB.size
 clear hI
 have HW0 := Aside0.mk hB.size
 have HB := Aside0.mk hB
 clear hB
 have H : ((spec_l1Cur_log.f k s0_0 s0_1 s0_2).bind fun bt521 => ((spec_l1Cur_pick.f s0_0 bt521.2.2.2.1 bt521.2.2.2.2 24).bind fun bt527 => (if bt527.1 = 0 then (some (bt521.1, bt521.2.1, wrap64 (bt521.2.2.1 + 1), bt527.2.1, bt527.2.2)) else (if bt527.1 = 1 then ((spec_l1Cur_spoilt.f s0_0 bt527.2.1 bt527.2.2 bt521.2.1 (⟨#[35, 64, 10, 48, 49]⟩ : ByteArray)).bind fun bt530 => (some (bt521.1, bt530.1, bt521.2.2.1, bt530.2.1, bt530.2.2))) else (if bt527.1 = 2 then (if bt521.1.size + bt521.2.1.size ≤ 9223372036854775807 then (some (sc bt521.1 bt521.2.1, bt521.2.1, bt521.2.2.1, bt527.2.1, bt527.2.2)) else (none)) else (some (bt521.1, bt521.2.1, bt521.2.2.1, bt527.2.1, bt527.2.2))))))) = some (r1, r2, r3, r4, r5) := h
 clear h
 replace H := Option.bind_eq_some_iff.mp H
 obtain ⟨⟨t521, t522, t523, t524, t525⟩, A20, H⟩ := H
 replace H : ((spec_l1Cur_pick.f s0_0 t524 t525 24).bind fun bt527 => (if bt527.1 = 0 then (some (t521, t522, wrap64 (t523 + 1), bt527.2.1, bt527.2.2)) else (if bt527.1 = 1 then ((spec_l1Cur_spoilt.f s0_0 bt527.2.1 bt527.2.2 t522 (⟨#[35, 64, 10, 48, 49]⟩ : ByteArray)).bind fun bt530 => (some (t521, bt530.1, t523, bt530.2.1, bt530.2.2))) else (if bt527.1 = 2 then (if t521.size + t522.size ≤ 9223372036854775807 then (some (sc t521 t522, t522, t523, bt527.2.1, bt527.2.2)) else (none)) else (some (t521, t522, t523, bt527.2.1, bt527.2.2)))))) = some (r1, r2, r3, r4, r5) := H
 have A2 := Aside0.mk A20
 clear A20
 replace H := Option.bind_eq_some_iff.mp H
 obtain ⟨⟨t527, t528, t529⟩, A30, H⟩ := H
 replace H : (if t527 = 0 then (some (t521, t522, wrap64 (t523 + 1), t528, t529)) else (if t527 = 1 then ((spec_l1Cur_spoilt.f s0_0 t528 t529 t522 (⟨#[35, 64, 10, 48, 49]⟩ : ByteArray)).bind fun bt530 => (some (t521, bt530.1, t523, bt530.2.1, bt530.2.2))) else (if t527 = 2 then (if t521.size + t522.size ≤ 9223372036854775807 then (some (sc t521 t522, t522, t523, t528, t529)) else (none)) else (some (t521, t522, t523, t528, t529))))) = some (r1, r2, r3, r4, r5) := H
 have A3 := Aside0.mk A30
 clear A30
 by_cases c4 : t527 = 0
 ·
  rw [if_pos c4] at H
  have c4b0 : (t527 == 0) = true := beq_iff_eq.mpr c4
  have c4b1 : (t527 != 0) = false := bne_eq_false_iff_eq.mpr c4
  clear c4
  simp only [Option.some.injEq, Prod.mk.injEq] at H
  obtain ⟨rfl, rfl, rfl, rfl, rfl⟩ := H
  go_enter Tryd.func53, Tryd.ntmps53
  go_wp2_with (first | ((with_reducible refine gate_dst (N := 2) rfl ?_); refine box_event ?hg (N := 2) ?hd (cs := #[.string (⟨#[]⟩ : ByteArray), .string (⟨#[]⟩ : ByteArray), .int .i64 0]) (t := 31) ?hr ?_; (case hd => rfl); (case hg => rfl); (case hr => first | (go_simp; done) | (go_simp; rfl)); intro gb520 hg w5 hbox hb; replace HB := Aside0.mk (below_step (lb1_ HB.out (IsS74.ge HI0.out)) hb); have BK520 := Aside0.mk (hbox); have GW520 := Aside0.mk ((by rw [hg]; exact (keep_size (w := w) (g := g) (row := none) (kb0_ HK.out)) : w.heap.size ≤ gb520)); have GE520 := Aside0.mk ((Nat.le_trans HW0.out (by rw [hg]; exact (keep_size (w := w) (g := g) (row := none) (kb0_ HK.out)) : w.heap.size ≤ gb520) : w0.heap.size ≤ gb520)); replace HK := Aside0.mk (KeepBut.trans (kb0_ HK.out) (KeepBut.of_below hb g none) (.inl rfl)); have NB0_520 := Aside0.mk ((by rw [hg]; exact Nat.ne_of_lt (IsS74.lt (show IsS74 w0 _ g s0_0 s0_1 s0_2 from is74_0 HI0.out)) : g ≠ gb520)); have NB520_0 := Aside0.mk ((by rw [hg]; exact Nat.ne_of_gt (IsS74.lt (show IsS74 w0 _ g s0_0 s0_1 s0_2 from is74_0 HI0.out)) : gb520 ≠ g)); replace HI0 := Aside0.mk (IsS74.below (is74_0 HI0.out) hb); clear hb hbox hg) | ((with_reducible refine gate_callee (f := 60) rfl ?_); refine ga_ (some 5) Tryd.func60 #[.pointer (some ⟨g, 0, none⟩)] ?_; (with_reducible refine (spec_l1Cur_log.calls k g s0_0 s0_1 s0_2 t521 t522 t523 t524 t525 w0 _ ?side1 ?side2 A2.out).mono ?_); (case side1 => exact is74_1 HI0.out NB0_520.out); (case side2 => exact lb2_ HB.out (IsS74.ge HI0.out) GE520.out); rintro e w6 ⟨rfl, hi, hb, hk⟩; refine ⟨_, rfl, ?_⟩; replace BK520 := Aside0.mk (KeepBut.blk hk (g' := gb520) (o := .cells #[.string (⟨#[]⟩ : ByteArray), .string (⟨#[]⟩ : ByteArray), .int .i64 0] 31 (0, 0)) (bk_ BK520.out) NB520_0.out (by simp)); replace HK := Aside0.mk (KeepBut.trans (kb1_ HK.out GW520.out) hk (.inl rfl)); replace HB := Aside0.mk (hb); replace HI0 := Aside0.mk (hi); (try clear hb); (try clear hb2); (try clear hk); (try clear hi)) | ((with_reducible refine gate_dst (N := 3) rfl ?_); refine box_event ?hg (N := 3) ?hd (cs := #[.string (⟨#[]⟩ : ByteArray), .string (⟨#[]⟩ : ByteArray), .int .i64 0]) (t := 31) ?hr ?_; (case hd => rfl); (case hg => rfl); (case hr => first | (go_simp; done) | (go_simp; rfl)); intro gb526 hg w7 hbox hb; replace HB := Aside0.mk (below_step (lb2_ HB.out (IsS74.ge HI0.out) GE520.out) hb); have BK526 := Aside0.mk (hbox); have GW526 := Aside0.mk ((by rw [hg]; exact (keep_size (w := w) (g := g) (row := none) (kb1_ HK.out GW520.out)) : w.heap.size ≤ gb526)); have GE526 := Aside0.mk ((Nat.le_trans HW0.out (by rw [hg]; exact (keep_size (w := w) (g := g) (row := none) (kb1_ HK.out GW520.out)) : w.heap.size ≤ gb526) : w0.heap.size ≤ gb526)); replace HK := Aside0.mk (KeepBut.trans (kb1_ HK.out GW520.out) (KeepBut.of_below hb g none) (.inl rfl)); have NB520_526 := Aside0.mk ((by rw [hg]; exact Nat.ne_of_lt (blk_lt (g := gb520) (o := .cells #[.string (⟨#[]⟩ : ByteArray), .string (⟨#[]⟩ : ByteArray), .int .i64 0] 31 (0, 0)) (bk_ BK520.out)) : gb520 ≠ gb526)); have NB526_520 := Aside0.mk ((by rw [hg]; exact Nat.ne_of_gt (blk_lt (g := gb520) (o := .cells #[.string (⟨#[]⟩ : ByteArray), .string (⟨#[]⟩ : ByteArray), .int .i64 0] 31 (0, 0)) (bk_ BK520.out)) : gb526 ≠ gb520)); replace BK520 := Aside0.mk (bb_ (bk_ BK520.out) hb); have NB0_526 := Aside0.mk ((by rw [hg]; exact Nat.ne_of_lt (IsS74.lt (show IsS74 w0 _ g s0_0 t524 t525 from is74_1 HI0.out NB0_520.out)) : g ≠ gb526)); have NB526_0 := Aside0.mk ((by rw [hg]; exact Nat.ne_of_gt (IsS74.lt (show IsS74 w0 _ g s0_0 t524 t525 from is74_1 HI0.out NB0_520.out)) : gb526 ≠ g)); replace HI0 := Aside0.mk (IsS74.below (is74_1 HI0.out NB0_520.out) hb); clear hb hbox hg; have hnb8 := NB526_520.out; have hnc8 := NB520_526.out; have hnb9 := NB526_0.out; have hnc9 := NB0_526.out; obtain ⟨hcz10_0, hcz10_1, hcz10_2⟩ := cz3_ BK526.out; obtain ⟨hfz10_0, hfz10_1, hfz10_2⟩ := fz3_ BK526.out) | ((with_reducible refine gate_callee (f := 55) rfl ?_); refine ga_ (some 7) Tryd.func55 #[.pointer (some ⟨g, 0, none⟩), .int .i64 24] ?_; (with_reducible refine (spec_l1Cur_pick.calls g s0_0 t524 t525 24 t527 t528 t529 w0 _ ?side1 ?side2 A3.out).mono ?_); (case side1 => exact is74_2 HI0.out NB0_520.out NB0_526.out); (case side2 => exact lb3_ HB.out (IsS74.ge HI0.out) GE520.out GE526.out); rintro e w11 ⟨rfl, hi, hb, hk⟩; refine ⟨_, rfl, ?_⟩; replace BK520 := Aside0.mk (KeepBut.blk hk (g' := gb520) (o := .cells #[.string (⟨#[]⟩ : ByteArray), .string (⟨#[]⟩ : ByteArray), .int .i64 0] 31 (0, 0)) (by (with_reducible repeat (first | refine blk_drewN ?_ _ | refine blk_drew ?_ | refine blk_alloc ?_ _)); refine blk_far ?_ NB520_526.out _; (with_reducible repeat (first | refine blk_drewN ?_ _ | refine blk_drew ?_ | refine blk_alloc ?_ _)); refine blk_far ?_ NB520_526.out _; (with_reducible repeat (first | refine blk_drewN ?_ _ | refine blk_drew ?_ | refine blk_alloc ?_ _)); refine blk_far ?_ NB520_526.out _; (with_reducible repeat (first | refine blk_drewN ?_ _ | refine blk_drew ?_ | refine blk_alloc ?_ _)); exact BK520.out) NB520_0.out (by simp)); replace BK526 := Aside0.mk (KeepBut.blk hk (g' := gb526) (o := .cells #[.string t521, .string t522, .int .i64 t523] 31 (0, 0)) (by (with_reducible repeat (first | refine blk_drewN ?_ _ | refine blk_drew ?_ | refine blk_alloc ?_ _)); refine blk_put (cs := #[.string t521, .string t522, .int .i64 0]) ?_ 2 _ rfl; (with_reducible repeat (first | refine blk_drewN ?_ _ | refine blk_drew ?_ | refine blk_alloc ?_ _)); refine blk_put (cs := #[.string t521, .string (⟨#[]⟩ : ByteArray), .int .i64 0]) ?_ 1 _ rfl; (with_reducible repeat (first | refine blk_drewN ?_ _ | refine blk_drew ?_ | refine blk_alloc ?_ _)); refine blk_put (cs := #[.string (⟨#[]⟩ : ByteArray), .string (⟨#[]⟩ : ByteArray), .int .i64 0]) ?_ 0 _ rfl; (with_reducible repeat (first | refine blk_drewN ?_ _ | refine blk_drew ?_ | refine blk_alloc ?_ _)); exact BK526.out) NB526_0.out (by simp)); replace HK := Aside0.mk (KeepBut.trans (kb2_ HK.out GW520.out GW526.out) hk (.inl rfl)); replace HB := Aside0.mk (hb); replace HI0 := Aside0.mk (hi); (try clear hb); (try clear hb2); (try clear hk); (try clear hi); obtain ⟨hcz12_0, hcz12_1, hcz12_2⟩ := cz3_ BK526.out; obtain ⟨hfz12_0, hfz12_1, hfz12_2⟩ := fz3_ BK526.out; have hnb13 := NB520_0.out; have hnc13 := NB0_520.out; obtain ⟨hcz14_0, hcz14_1, hcz14_2⟩ := cz3_ BK520.out; obtain ⟨hfz14_0, hfz14_1, hfz14_2⟩ := fz3_ BK520.out))
  refine bodyPost_ret (results_cell_row rfl _ _ gb520 31 #[.string t521, .string t522, .int .i64 (wrap64 (t523 + 1))] (0, 0) _ rfl (by (with_reducible repeat (first | refine blk_drewN ?_ _ | refine blk_drew ?_ | refine blk_alloc ?_ _)); refine blk_put (cs := #[.string t521, .string t522, .int .i64 0]) ?_ 2 _ rfl; (with_reducible repeat (first | refine blk_drewN ?_ _ | refine blk_drew ?_ | refine blk_alloc ?_ _)); refine blk_put (cs := #[.string t521, .string (⟨#[]⟩ : ByteArray), .int .i64 0]) ?_ 1 _ rfl; (with_reducible repeat (first | refine blk_drewN ?_ _ | refine blk_drew ?_ | refine blk_alloc ?_ _)); refine blk_put (cs := #[.string (⟨#[]⟩ : ByteArray), .string (⟨#[]⟩ : ByteArray), .int .i64 0]) ?_ 0 _ rfl; (with_reducible repeat (first | refine blk_drewN ?_ _ | refine blk_drew ?_ | refine blk_alloc ?_ _)); refine blk_far ?_ NB520_526.out _; (with_reducible repeat (first | refine blk_drewN ?_ _ | refine blk_drew ?_ | refine blk_alloc ?_ _)); exact BK520.out) Tryd.underlying31 rfl (by kernel_rfl)) rfl ?_
  exact ⟨rr_, is74_2 HI0.out NB0_520.out NB0_526.out, lb3_ HB.out (IsS74.ge HI0.out) GE520.out GE526.out, kb2_ HK.out GW520.out GW526.out⟩
 ·
  rw [if_neg c4] at H
  have c4b0 : (t527 == 0) = false := beq_eq_false_iff_ne.mpr c4
  have c4b1 : (t527 != 0) = true := bne_iff_ne.mpr c4
  by_cases c15 : t527 = 1
  ·
   rw [if_pos c15] at H
   have c15b0 : (t527 == 1) = true := beq_iff_eq.mpr c15
   have c15b1 : (t527 != 1) = false := bne_eq_false_iff_eq.mpr c15
   clear c15
   replace H := Option.bind_eq_some_iff.mp H
   obtain ⟨⟨t530, t531, t532⟩, A160, H⟩ := H
   replace H : (some (t521, t530, t523, t531, t532)) = some (r1, r2, r3, r4, r5) := H
   have A16 := Aside0.mk A160
   clear A160
   simp only [Option.some.injEq, Prod.mk.injEq] at H
   obtain ⟨rfl, rfl, rfl, rfl, rfl⟩ := H
   go_enter Tryd.func53, Tryd.ntmps53
   go_wp2_with (first | ((with_reducible refine gate_dst (N := 2) rfl ?_); refine box_event ?hg (N := 2) ?hd (cs := #[.string (⟨#[]⟩ : ByteArray), .string (⟨#[]⟩ : ByteArray), .int .i64 0]) (t := 31) ?hr ?_; (case hd => rfl); (case hg => rfl); (case hr => first | (go_simp; done) | (go_simp; rfl)); intro gb520 hg w17 hbox hb; replace HB := Aside0.mk (below_step (lb1_ HB.out (IsS74.ge HI0.out)) hb); have BK520 := Aside0.mk (hbox); have GW520 := Aside0.mk ((by rw [hg]; exact (keep_size (w := w) (g := g) (row := none) (kb0_ HK.out)) : w.heap.size ≤ gb520)); have GE520 := Aside0.mk ((Nat.le_trans HW0.out (by rw [hg]; exact (keep_size (w := w) (g := g) (row := none) (kb0_ HK.out)) : w.heap.size ≤ gb520) : w0.heap.size ≤ gb520)); replace HK := Aside0.mk (KeepBut.trans (kb0_ HK.out) (KeepBut.of_below hb g none) (.inl rfl)); have NB0_520 := Aside0.mk ((by rw [hg]; exact Nat.ne_of_lt (IsS74.lt (show IsS74 w0 _ g s0_0 s0_1 s0_2 from is74_0 HI0.out)) : g ≠ gb520)); have NB520_0 := Aside0.mk ((by rw [hg]; exact Nat.ne_of_gt (IsS74.lt (show IsS74 w0 _ g s0_0 s0_1 s0_2 from is74_0 HI0.out)) : gb520 ≠ g)); replace HI0 := Aside0.mk (IsS74.below (is74_0 HI0.out) hb); clear hb hbox hg) | ((with_reducible refine gate_callee (f := 60) rfl ?_); refine ga_ (some 5) Tryd.func60 #[.pointer (some ⟨g, 0, none⟩)] ?_; (with_reducible refine (spec_l1Cur_log.calls k g s0_0 s0_1 s0_2 t521 t522 t523 t524 t525 w0 _ ?side1 ?side2 A2.out).mono ?_); (case side1 => exact is74_1 HI0.out NB0_520.out); (case side2 => exact lb2_ HB.out (IsS74.ge HI0.out) GE520.out); rintro e w18 ⟨rfl, hi, hb, hk⟩; refine ⟨_, rfl, ?_⟩; replace BK520 := Aside0.mk (KeepBut.blk hk (g' := gb520) (o := .cells #[.string (⟨#[]⟩ : ByteArray), .string (⟨#[]⟩ : ByteArray), .int .i64 0] 31 (0, 0)) (bk_ BK520.out) NB520_0.out (by simp)); replace HK := Aside0.mk (KeepBut.trans (kb1_ HK.out GW520.out) hk (.inl rfl)); replace HB := Aside0.mk (hb); replace HI0 := Aside0.mk (hi); (try clear hb); (try clear hb2); (try clear hk); (try clear hi)) | ((with_reducible refine gate_dst (N := 3) rfl ?_); refine box_event ?hg (N := 3) ?hd (cs := #[.string (⟨#[]⟩ : ByteArray), .string (⟨#[]⟩ : ByteArray), .int .i64 0]) (t := 31) ?hr ?_; (case hd => rfl); (case hg => rfl); (case hr => first | (go_simp; done) | (go_simp; rfl)); intro gb526 hg w19 hbox hb; replace HB := Aside0.mk (below_step (lb2_ HB.out (IsS74.ge HI0.out) GE520.out) hb); have BK526 := Aside0.mk (hbox); have GW526 := Aside0.mk ((by rw [hg]; exact (keep_size (w := w) (g := g) (row := none) (kb1_ HK.out GW520.out)) : w.heap.size ≤ gb526)); have GE526 := Aside0.mk ((Nat.le_trans HW0.out (by rw [hg]; exact (keep_size (w := w) (g := g) (row := none) (kb1_ HK.out GW520.out)) : w.heap.size ≤ gb526) : w0.heap.size ≤ gb526)); replace HK := Aside0.mk (KeepBut.trans (kb1_ HK.out GW520.out) (KeepBut.of_below hb g none) (.inl rfl)); have NB520_526 := Aside0.mk ((by rw [hg]; exact Nat.ne_of_lt (blk_lt (g := gb520) (o := .cells #[.string (⟨#[]⟩ : ByteArray), .string (⟨#[]⟩ : ByteArray), .int .i64 0] 31 (0, 0)) (bk_ BK520.out)) : gb520 ≠ gb526)); have NB526_520 := Aside0.mk ((by rw [hg]; exact Nat.ne_of_gt (blk_lt (g := gb520) (o := .cells #[.string (⟨#[]⟩ : ByteArray), .string (⟨#[]⟩ : ByteArray), .int .i64 0] 31 (0, 0)) (bk_ BK520.out)) : gb526 ≠ gb520)); replace BK520 := Aside0.mk (bb_ (bk_ BK520.out) hb); have NB0_526 := Aside0.mk ((by rw [hg]; exact Nat.ne_of_lt (IsS74.lt (show IsS74 w0 _ g s0_0 t524 t525 from is74_1 HI0.out NB0_520.out)) : g ≠ gb526)); have NB526_0 := Aside0.mk ((by rw [hg]; exact Nat.ne_of_gt (IsS74.lt (show IsS74 w0 _ g s0_0 t524 t525 from is74_1 HI0.out NB0_520.out)) : gb526 ≠ g)); replace HI0 := Aside0.mk (IsS74.below (is74_1 HI0.out NB0_520.out) hb); clear hb hbox hg; have hnb20 := NB526_520.out; have hnc20 := NB520_526.out; have hnb21 := NB526_0.out; have hnc21 := NB0_526.out; obtain ⟨hcz22_0, hcz22_1, hcz22_2⟩ := cz3_ BK526.out; obtain ⟨hfz22_0, hfz22_1, hfz22_2⟩ := fz3_ BK526.out) | ((with_reducible refine gate_callee (f := 55) rfl ?_); refine ga_ (some 7) Tryd.func55 #[.pointer (some ⟨g, 0, none⟩), .int .i64 24] ?_; (with_reducible refine (spec_l1Cur_pick.calls g s0_0 t524 t525 24 t527 t528 t529 w0 _ ?side1 ?side2 A3.out).mono ?_); (case side1 => exact is74_2 HI0.out NB0_520.out NB0_526.out); (case side2 => exact lb3_ HB.out (IsS74.ge HI0.out) GE520.out GE526.out); rintro e w23 ⟨rfl, hi, hb, hk⟩; refine ⟨_, rfl, ?_⟩; replace BK520 := Aside0.mk (KeepBut.blk hk (g' := gb520) (o := .cells #[.string (⟨#[]⟩ : ByteArray), .string (⟨#[]⟩ : ByteArray), .int .i64 0] 31 (0, 0)) (by (with_reducible repeat (first | refine blk_drewN ?_ _ | refine blk_drew ?_ | refine blk_alloc ?_ _)); refine blk_far ?_ NB520_526.out _; (with_reducible repeat (first | refine blk_drewN ?_ _ | refine blk_drew ?_ | refine blk_alloc ?_ _)); refine blk_far ?_ NB520_526.out _; (with_reducible repeat (first | refine blk_drewN ?_ _ | refine blk_drew ?_ | refine blk_alloc ?_ _)); refine blk_far ?_ NB520_526.out _; (with_reducible repeat (first | refine blk_drewN ?_ _ | refine blk_drew ?_ | refine blk_alloc ?_ _)); exact BK520.out) NB520_0.out (by simp)); replace BK526 := Aside0.mk (KeepBut.blk hk (g' := gb526) (o := .cells #[.string t521, .string t522, .int .i64 t523] 31 (0, 0)) (by (with_reducible repeat (first | refine blk_drewN ?_ _ | refine blk_drew ?_ | refine blk_alloc ?_ _)); refine blk_put (cs := #[.string t521, .string t522, .int .i64 0]) ?_ 2 _ rfl; (with_reducible repeat (first | refine blk_drewN ?_ _ | refine blk_drew ?_ | refine blk_alloc ?_ _)); refine blk_put (cs := #[.string t521, .string (⟨#[]⟩ : ByteArray), .int .i64 0]) ?_ 1 _ rfl; (with_reducible repeat (first | refine blk_drewN ?_ _ | refine blk_drew ?_ | refine blk_alloc ?_ _)); refine blk_put (cs := #[.string (⟨#[]⟩ : ByteArray), .string (⟨#[]⟩ : ByteArray), .int .i64 0]) ?_ 0 _ rfl; (with_reducible repeat (first | refine blk_drewN ?_ _ | refine blk_drew ?_ | refine blk_alloc ?_ _)); exact BK526.out) NB526_0.out (by simp)); replace HK := Aside0.mk (KeepBut.trans (kb2_ HK.out GW520.out GW526.out) hk (.inl rfl)); replace HB := Aside0.mk (hb); replace HI0 := Aside0.mk (hi); (try clear hb); (try clear hb2); (try clear hk); (try clear hi); obtain ⟨hcz24_0, hcz24_1, hcz24_2⟩ := cz3_ BK526.out; obtain ⟨hfz24_0, hfz24_1, hfz24_2⟩ := fz3_ BK526.out) | ((with_reducible refine gate_callee (f := 61) rfl ?_); refine ga_ (some 19) Tryd.func61 #[.pointer (some ⟨g, 0, none⟩), .string t522, .string (⟨#[35, 64, 10, 48, 49]⟩ : ByteArray)] ?_; (with_reducible refine (spec_l1Cur_spoilt.calls g s0_0 t528 t529 t522 (⟨#[35, 64, 10, 48, 49]⟩ : ByteArray) t530 t531 t532 w0 _ ?side1 ?side2 A16.out).mono ?_); (case side1 => exact is74_2 HI0.out NB0_520.out NB0_526.out); (case side2 => exact lb3_ HB.out (IsS74.ge HI0.out) GE520.out GE526.out); rintro e w25 ⟨rfl, hi, hb, hk⟩; refine ⟨_, rfl, ?_⟩; replace BK520 := Aside0.mk (KeepBut.blk hk (g' := gb520) (o := .cells #[.string (⟨#[]⟩ : ByteArray), .string (⟨#[]⟩ : ByteArray), .int .i64 0] 31 (0, 0)) (bk_ BK520.out) NB520_0.out (by simp)); replace BK526 := Aside0.mk (KeepBut.blk hk (g' := gb526) (o := .cells #[.string t521, .string t522, .int .i64 t523] 31 (0, 0)) (bk_ BK526.out) NB526_0.out (by simp)); replace HK := Aside0.mk (KeepBut.trans (kb2_ HK.out GW520.out GW526.out) hk (.inl rfl)); replace HB := Aside0.mk (hb); replace HI0 := Aside0.mk (hi); (try clear hb); (try clear hb2); (try clear hk); (try clear hi); obtain ⟨hcz26_0, hcz26_1, hcz26_2⟩ := cz3_ BK526.out; obtain ⟨hfz26_0, hfz26_1, hfz26_2⟩ := fz3_ BK526.out; have hnb27 := NB520_0.out; have hnc27 := NB0_520.out; obtain ⟨hcz28_0, hcz28_1, hcz28_2⟩ := cz3_ BK520.out; obtain ⟨hfz28_0, hfz28_1, hfz28_2⟩ := fz3_ BK520.out))
   refine bodyPost_ret (results_cell_row rfl _ _ gb520 31 #[.string t521, .string t530, .int .i64 t523] (0, 0) _ rfl (by (with_reducible repeat (first | refine blk_drewN ?_ _ | refine blk_drew ?_ | refine blk_alloc ?_ _)); refine blk_put (cs := #[.string t521, .string t530, .int .i64 0]) ?_ 2 _ rfl; (with_reducible repeat (first | refine blk_drewN ?_ _ | refine blk_drew ?_ | refine blk_alloc ?_ _)); refine blk_put (cs := #[.string t521, .string (⟨#[]⟩ : ByteArray), .int .i64 0]) ?_ 1 _ rfl; (with_reducible repeat (first | refine blk_drewN ?_ _ | refine blk_drew ?_ | refine blk_alloc ?_ _)); refine blk_put (cs := #[.string (⟨#[]⟩ : ByteArray), .string (⟨#[]⟩ : ByteArray), .int .i64 0]) ?_ 0 _ rfl; (with_reducible repeat (first | refine blk_drewN ?_ _ | refine blk_drew ?_ | refine blk_alloc ?_ _)); refine blk_far ?_ NB520_526.out _; (with_reducible repeat (first | refine blk_drewN ?_ _ | refine blk_drew ?_ | refine blk_alloc ?_ _)); exact BK520.out) Tryd.underlying31 rfl (by kernel_rfl)) rfl ?_
   exact ⟨rr_, is74_2 HI0.out NB0_520.out NB0_526.out, lb3_ HB.out (IsS74.ge HI0.out) GE520.out GE526.out, kb2_ HK.out GW520.out GW526.out⟩
  ·
   rw [if_neg c15] at H
   have c15b0 : (t527 == 1) = false := beq_eq_false_iff_ne.mpr c15
   have c15b1 : (t527 != 1) = true := bne_iff_ne.mpr c15
   by_cases c29 : t527 = 2
   ·
    rw [if_pos c29] at H
    have c29b0 : (t527 == 2) = true := beq_iff_eq.mpr c29
    have c29b1 : (t527 != 2) = false := bne_eq_false_iff_eq.mpr c29
    clear c29
    by_cases c30 : t521.size + t522.size ≤ 9223372036854775807
    ·
     rw [if_pos c30] at H
     have c30b0 := eq_true c30
     have c30b1 : decide (t521.size + t522.size ≤ 9223372036854775807) = true := decide_eq_true c30
     try have c30b2 : (9223372036854775807 < t521.size + t522.size) = False := eq_false (Nat.not_lt.2 c30)
     simp only [Option.some.injEq, Prod.mk.injEq] at H
     obtain ⟨rfl, rfl, rfl, rfl, rfl⟩ := H
     go_enter Tryd.func53, Tryd.ntmps53
     go_wp2_with (first | ((with_reducible refine gate_dst (N := 2) rfl ?_); refine box_event ?hg (N := 2) ?hd (cs := #[.string (⟨#[]⟩ : ByteArray), .string (⟨#[]⟩ : ByteArray), .int .i64 0]) (t := 31) ?hr ?_; (case hd => rfl); (case hg => rfl); (case hr => first | (go_simp; done) | (go_simp; rfl)); intro gb520 hg w31 hbox hb; replace HB := Aside0.mk (below_step (lb1_ HB.out (IsS74.ge HI0.out)) hb); have BK520 := Aside0.mk (hbox); have GW520 := Aside0.mk ((by rw [hg]; exact (keep_size (w := w) (g := g) (row := none) (kb0_ HK.out)) : w.heap.size ≤ gb520)); have GE520 := Aside0.mk ((Nat.le_trans HW0.out (by rw [hg]; exact (keep_size (w := w) (g := g) (row := none) (kb0_ HK.out)) : w.heap.size ≤ gb520) : w0.heap.size ≤ gb520)); replace HK := Aside0.mk (KeepBut.trans (kb0_ HK.out) (KeepBut.of_below hb g none) (.inl rfl)); have NB0_520 := Aside0.mk ((by rw [hg]; exact Nat.ne_of_lt (IsS74.lt (show IsS74 w0 _ g s0_0 s0_1 s0_2 from is74_0 HI0.out)) : g ≠ gb520)); have NB520_0 := Aside0.mk ((by rw [hg]; exact Nat.ne_of_gt (IsS74.lt (show IsS74 w0 _ g s0_0 s0_1 s0_2 from is74_0 HI0.out)) : gb520 ≠ g)); replace HI0 := Aside0.mk (IsS74.below (is74_0 HI0.out) hb); clear hb hbox hg) | ((with_reducible refine gate_callee (f := 60) rfl ?_); refine ga_ (some 5) Tryd.func60 #[.pointer (some ⟨g, 0, none⟩)] ?_; (with_reducible refine (spec_l1Cur_log.calls k g s0_0 s0_1 s0_2 t521 t522 t523 t524 t525 w0 _ ?side1 ?side2 A2.out).mono ?_); (case side1 => exact is74_1 HI0.out NB0_520.out); (case side2 => exact lb2_ HB.out (IsS74.ge HI0.out) GE520.out); rintro e w32 ⟨rfl, hi, hb, hk⟩; refine ⟨_, rfl, ?_⟩; replace BK520 := Aside0.mk (KeepBut.blk hk (g' := gb520) (o := .cells #[.string (⟨#[]⟩ : ByteArray), .string (⟨#[]⟩ : ByteArray), .int .i64 0] 31 (0, 0)) (bk_ BK520.out) NB520_0.out (by simp)); replace HK := Aside0.mk (KeepBut.trans (kb1_ HK.out GW520.out) hk (.inl rfl)); replace HB := Aside0.mk (hb); replace HI0 := Aside0.mk (hi); (try clear hb); (try clear hb2); (try clear hk); (try clear hi)) | ((with_reducible refine gate_dst (N := 3) rfl ?_); refine box_event ?hg (N := 3) ?hd (cs := #[.string (⟨#[]⟩ : ByteArray), .string (⟨#[]⟩ : ByteArray), .int .i64 0]) (t := 31) ?hr ?_; (case hd => rfl); (case hg => rfl); (case hr => first | (go_simp; done) | (go_simp; rfl)); intro gb526 hg w33 hbox hb; replace HB := Aside0.mk (below_step (lb2_ HB.out (IsS74.ge HI0.out) GE520.out) hb); have BK526 := Aside0.mk (hbox); have GW526 := Aside0.mk ((by rw [hg]; exact (keep_size (w := w) (g := g) (row := none) (kb1_ HK.out GW520.out)) : w.heap.size ≤ gb526)); have GE526 := Aside0.mk ((Nat.le_trans HW0.out (by rw [hg]; exact (keep_size (w := w) (g := g) (row := none) (kb1_ HK.out GW520.out)) : w.heap.size ≤ gb526) : w0.heap.size ≤ gb526)); replace HK := Aside0.mk (KeepBut.trans (kb1_ HK.out GW520.out) (KeepBut.of_below hb g none) (.inl rfl)); have NB520_526 := Aside0.mk ((by rw [hg]; exact Nat.ne_of_lt (blk_lt (g := gb520) (o := .cells #[.string (⟨#[]⟩ : ByteArray), .string (⟨#[]⟩ : ByteArray), .int .i64 0] 31 (0, 0)) (bk_ BK520.out)) : gb520 ≠ gb526)); have NB526_520 := Aside0.mk ((by rw [hg]; exact Nat.ne_of_gt (blk_lt (g := gb520) (o := .cells #[.string (⟨#[]⟩ : ByteArray), .string (⟨#[]⟩ : ByteArray), .int .i64 0] 31 (0, 0)) (bk_ BK520.out)) : gb526 ≠ gb520)); replace BK520 := Aside0.mk (bb_ (bk_ BK520.out) hb); have NB0_526 := Aside0.mk ((by rw [hg]; exact Nat.ne_of_lt (IsS74.lt (show IsS74 w0 _ g s0_0 t524 t525 from is74_1 HI0.out NB0_520.out)) : g ≠ gb526)); have NB526_0 := Aside0.mk ((by rw [hg]; exact Nat.ne_of_gt (IsS74.lt (show IsS74 w0 _ g s0_0 t524 t525 from is74_1 HI0.out NB0_520.out)) : gb526 ≠ g)); replace HI0 := Aside0.mk (IsS74.below (is74_1 HI0.out NB0_520.out) hb); clear hb hbox hg; have hnb34 := NB526_520.out; have hnc34 := NB520_526.out; have hnb35 := NB526_0.out; have hnc35 := NB0_526.out; obtain ⟨hcz36_0, hcz36_1, hcz36_2⟩ := cz3_ BK526.out; obtain ⟨hfz36_0, hfz36_1, hfz36_2⟩ := fz3_ BK526.out) | ((with_reducible refine gate_callee (f := 55) rfl ?_); refine ga_ (some 7) Tryd.func55 #[.pointer (some ⟨g, 0, none⟩), .int .i64 24] ?_; (with_reducible refine (spec_l1Cur_pick.calls g s0_0 t524 t525 24 t527 t528 t529 w0 _ ?side1 ?side2 A3.out).mono ?_); (case side1 => exact is74_2 HI0.out NB0_520.out NB0_526.out); (case side2 => exact lb3_ HB.out (IsS74.ge HI0.out) GE520.out GE526.out); rintro e w37 ⟨rfl, hi, hb, hk⟩; refine ⟨_, rfl, ?_⟩; replace BK520 := Aside0.mk (KeepBut.blk hk (g' := gb520) (o := .cells #[.string (⟨#[]⟩ : ByteArray), .string (⟨#[]⟩ : ByteArray), .int .i64 0] 31 (0, 0)) (by (with_reducible repeat (first | refine blk_drewN ?_ _ | refine blk_drew ?_ | refine blk_alloc ?_ _)); refine blk_far ?_ NB520_526.out _; (with_reducible repeat (first | refine blk_drewN ?_ _ | refine blk_drew ?_ | refine blk_alloc ?_ _)); refine blk_far ?_ NB520_526.out _; (with_reducible repeat (first | refine blk_drewN ?_ _ | refine blk_drew ?_ | refine blk_alloc ?_ _)); refine blk_far ?_ NB520_526.out _; (with_reducible repeat (first | refine blk_drewN ?_ _ | refine blk_drew ?_ | refine blk_alloc ?_ _)); exact BK520.out) NB520_0.out (by simp)); replace BK526 := Aside0.mk (KeepBut.blk hk (g' := gb526) (o := .cells #[.string t521, .string t522, .int .i64 t523] 31 (0, 0)) (by (with_reducible repeat (first | refine blk_drewN ?_ _ | refine blk_drew ?_ | refine blk_alloc ?_ _)); refine blk_put (cs := #[.string t521, .string t522, .int .i64 0]) ?_ 2 _ rfl; (with_reducible repeat (first | refine blk_drewN ?_ _ | refine blk_drew ?_ | refine blk_alloc ?_ _)); refine blk_put (cs := #[.string t521, .string (⟨#[]⟩ : ByteArray), .int .i64 0]) ?_ 1 _ rfl; (with_reducible repeat (first | refine blk_drewN ?_ _ | refine blk_drew ?_ | refine blk_alloc ?_ _)); refine blk_put (cs := #[.string (⟨#[]⟩ : ByteArray), .string (⟨#[]⟩ : ByteArray), .int .i64 0]) ?_ 0 _ rfl; (with_reducible repeat (first | refine blk_drewN ?_ _ | refine blk_drew ?_ | refine blk_alloc ?_ _)); exact BK526.out) NB526_0.out (by simp)); replace HK := Aside0.mk (KeepBut.trans (kb2_ HK.out GW520.out GW526.out) hk (.inl rfl)); replace HB := Aside0.mk (hb); replace HI0 := Aside0.mk (hi); (try clear hb); (try clear hb2); (try clear hk); (try clear hi); obtain ⟨hcz38_0, hcz38_1, hcz38_2⟩ := cz3_ BK526.out; obtain ⟨hfz38_0, hfz38_1, hfz38_2⟩ := fz3_ BK526.out; have hnb39 := NB520_0.out; have hnc39 := NB0_520.out; obtain ⟨hcz40_0, hcz40_1, hcz40_2⟩ := cz3_ BK520.out; obtain ⟨hfz40_0, hfz40_1, hfz40_2⟩ := fz3_ BK520.out))
     refine bodyPost_ret (results_cell_row rfl _ _ gb520 31 #[.string (sc t521 t522), .string t522, .int .i64 t523] (0, 0) _ rfl (by (with_reducible repeat (first | refine blk_drewN ?_ _ | refine blk_drew ?_ | refine blk_alloc ?_ _)); refine blk_put (cs := #[.string (sc t521 t522), .string t522, .int .i64 0]) ?_ 2 _ rfl; (with_reducible repeat (first | refine blk_drewN ?_ _ | refine blk_drew ?_ | refine blk_alloc ?_ _)); refine blk_put (cs := #[.string (sc t521 t522), .string (⟨#[]⟩ : ByteArray), .int .i64 0]) ?_ 1 _ rfl; (with_reducible repeat (first | refine blk_drewN ?_ _ | refine blk_drew ?_ | refine blk_alloc ?_ _)); refine blk_put (cs := #[.string (⟨#[]⟩ : ByteArray), .string (⟨#[]⟩ : ByteArray), .int .i64 0]) ?_ 0 _ rfl; (with_reducible repeat (first | refine blk_drewN ?_ _ | refine blk_drew ?_ | refine blk_alloc ?_ _)); refine blk_far ?_ NB520_526.out _; (with_reducible repeat (first | refine blk_drewN ?_ _ | refine blk_drew ?_ | refine blk_alloc ?_ _)); exact BK520.out) Tryd.underlying31 rfl (by kernel_rfl)) rfl ?_
     exact ⟨rr_, is74_2 HI0.out NB0_520.out NB0_526.out, lb3_ HB.out (IsS74.ge HI0.out) GE520.out GE526.out, kb2_ HK.out GW520.out GW526.out⟩
    ·
     rw [if_neg c30] at H
     exact absurd H (by simp)
   ·
    rw [if_neg c29] at H
    have c29b0 : (t527 == 2) = false := beq_eq_false_iff_ne.mpr c29
    have c29b1 : (t527 != 2) = true := bne_iff_ne.mpr c29
    simp only [Option.some.injEq, Prod.mk.injEq] at H
    obtain ⟨rfl, rfl, rfl, rfl, rfl⟩ := H
    go_enter Tryd.func53, Tryd.ntmps53
    go_wp2_with (first | ((with_reducible refine gate_dst (N := 2) rfl ?_); refine box_event ?hg (N := 2) ?hd (cs := #[.string (⟨#[]⟩ : ByteArray), .string (⟨#[]⟩ : ByteArray), .int .i64 0]) (t := 31) ?hr ?_; (case hd => rfl); (case hg => rfl); (case hr => first | (go_simp; done) | (go_simp; rfl)); intro gb520 hg w41 hbox hb; replace HB := Aside0.mk (below_step (lb1_ HB.out (IsS74.ge HI0.out)) hb); have BK520 := Aside0.mk (hbox); have GW520 := Aside0.mk ((by rw [hg]; exact (keep_size (w := w) (g := g) (row := none) (kb0_ HK.out)) : w.heap.size ≤ gb520)); have GE520 := Aside0.mk ((Nat.le_trans HW0.out (by rw [hg]; exact (keep_size (w := w) (g := g) (row := none) (kb0_ HK.out)) : w.heap.size ≤ gb520) : w0.heap.size ≤ gb520)); replace HK := Aside0.mk (KeepBut.trans (kb0_ HK.out) (KeepBut.of_below hb g none) (.inl rfl)); have NB0_520 := Aside0.mk ((by rw [hg]; exact Nat.ne_of_lt (IsS74.lt (show IsS74 w0 _ g s0_0 s0_1 s0_2 from is74_0 HI0.out)) : g ≠ gb520)); have NB520_0 := Aside0.mk ((by rw [hg]; exact Nat.ne_of_gt (IsS74.lt (show IsS74 w0 _ g s0_0 s0_1 s0_2 from is74_0 HI0.out)) : gb520 ≠ g)); replace HI0 := Aside0.mk (IsS74.below (is74_0 HI0.out) hb); clear hb hbox hg) | ((with_reducible refine gate_callee (f := 60) rfl ?_); refine ga_ (some 5) Tryd.func60 #[.pointer (some ⟨g, 0, none⟩)] ?_; (with_reducible refine (spec_l1Cur_log.calls k g s0_0 s0_1 s0_2 t521 t522 t523 t524 t525 w0 _ ?side1 ?side2 A2.out).mono ?_); (case side1 => exact is74_1 HI0.out NB0_520.out); (case side2 => exact lb2_ HB.out (IsS74.ge HI0.out) GE520.out); rintro e w42 ⟨rfl, hi, hb, hk⟩; refine ⟨_, rfl, ?_⟩; replace BK520 := Aside0.mk (KeepBut.blk hk (g' := gb520) (o := .cells #[.string (⟨#[]⟩ : ByteArray), .string (⟨#[]⟩ : ByteArray), .int .i64 0] 31 (0, 0)) (bk_ BK520.out) NB520_0.out (by simp)); replace HK := Aside0.mk (KeepBut.trans (kb1_ HK.out GW520.out) hk (.inl rfl)); replace HB := Aside0.mk (hb); replace HI0 := Aside0.mk (hi); (try clear hb); (try clear hb2); (try clear hk); (try clear hi)) | ((with_reducible refine gate_dst (N := 3) rfl ?_); refine box_event ?hg (N := 3) ?hd (cs := #[.string (⟨#[]⟩ : ByteArray), .string (⟨#[]⟩ : ByteArray), .int .i64 0]) (t := 31) ?hr ?_; (case hd => rfl); (case hg => rfl); (case hr => first | (go_simp; done) | (go_simp; rfl)); intro gb526 hg w43 hbox hb; replace HB := Aside0.mk (below_step (lb2_ HB.out (IsS74.ge HI0.out) GE520.out) hb); have BK526 := Aside0.mk (hbox); have GW526 := Aside0.mk ((by rw [hg]; exact (keep_size (w := w) (g := g) (row := none) (kb1_ HK.out GW520.out)) : w.heap.size ≤ gb526)); have GE526 := Aside0.mk ((Nat.le_trans HW0.out (by rw [hg]; exact (keep_size (w := w) (g := g) (row := none) (kb1_ HK.out GW520.out)) : w.heap.size ≤ gb526) : w0.heap.size ≤ gb526)); replace HK := Aside0.mk (KeepBut.trans (kb1_ HK.out GW520.out) (KeepBut.of_below hb g none) (.inl rfl)); have NB520_526 := Aside0.mk ((by rw [hg]; exact Nat.ne_of_lt (blk_lt (g := gb520) (o := .cells #[.string (⟨#[]⟩ : ByteArray), .string (⟨#[]⟩ : ByteArray), .int .i64 0] 31 (0, 0)) (bk_ BK520.out)) : gb520 ≠ gb526)); have NB526_520 := Aside0.mk ((by rw [hg]; exact Nat.ne_of_gt (blk_lt (g := gb520) (o := .cells #[.string (⟨#[]⟩ : ByteArray), .string (⟨#[]⟩ : ByteArray), .int .i64 0] 31 (0, 0)) (bk_ BK520.out)) : gb526 ≠ gb520)); replace BK520 := Aside0.mk (bb_ (bk_ BK520.out) hb); have NB0_526 := Aside0.mk ((by rw [hg]; exact Nat.ne_of_lt (IsS74.lt (show IsS74 w0 _ g s0_0 t524 t525 from is74_1 HI0.out NB0_520.out)) : g ≠ gb526)); have NB526_0 := Aside0.mk ((by rw [hg]; exact Nat.ne_of_gt (IsS74.lt (show IsS74 w0 _ g s0_0 t524 t525 from is74_1 HI0.out NB0_520.out)) : gb526 ≠ g)); replace HI0 := Aside0.mk (IsS74.below (is74_1 HI0.out NB0_520.out) hb); clear hb hbox hg; have hnb44 := NB526_520.out; have hnc44 := NB520_526.out; have hnb45 := NB526_0.out; have hnc45 := NB0_526.out; obtain ⟨hcz46_0, hcz46_1, hcz46_2⟩ := cz3_ BK526.out; obtain ⟨hfz46_0, hfz46_1, hfz46_2⟩ := fz3_ BK526.out) | ((with_reducible refine gate_callee (f := 55) rfl ?_); refine ga_ (some 7) Tryd.func55 #[.pointer (some ⟨g, 0, none⟩), .int .i64 24] ?_; (with_reducible refine (spec_l1Cur_pick.calls g s0_0 t524 t525 24 t527 t528 t529 w0 _ ?side1 ?side2 A3.out).mono ?_); (case side1 => exact is74_2 HI0.out NB0_520.out NB0_526.out); (case side2 => exact lb3_ HB.out (IsS74.ge HI0.out) GE520.out GE526.out); rintro e w47 ⟨rfl, hi, hb, hk⟩; refine ⟨_, rfl, ?_⟩; replace BK520 := Aside0.mk (KeepBut.blk hk (g' := gb520) (o := .cells #[.string (⟨#[]⟩ : ByteArray), .string (⟨#[]⟩ : ByteArray), .int .i64 0] 31 (0, 0)) (by (with_reducible repeat (first | refine blk_drewN ?_ _ | refine blk_drew ?_ | refine blk_alloc ?_ _)); refine blk_far ?_ NB520_526.out _; (with_reducible repeat (first | refine blk_drewN ?_ _ | refine blk_drew ?_ | refine blk_alloc ?_ _)); refine blk_far ?_ NB520_526.out _; (with_reducible repeat (first | refine blk_drewN ?_ _ | refine blk_drew ?_ | refine blk_alloc ?_ _)); refine blk_far ?_ NB520_526.out _; (with_reducible repeat (first | refine blk_drewN ?_ _ | refine blk_drew ?_ | refine blk_alloc ?_ _)); exact BK520.out) NB520_0.out (by simp)); replace BK526 := Aside0.mk (KeepBut.blk hk (g' := gb526) (o := .cells #[.string t521, .string t522, .int .i64 t523] 31 (0, 0)) (by (with_reducible repeat (first | refine blk_drewN ?_ _ | refine blk_drew ?_ | refine blk_alloc ?_ _)); refine blk_put (cs := #[.string t521, .string t522, .int .i64 0]) ?_ 2 _ rfl; (with_reducible repeat (first | refine blk_drewN ?_ _ | refine blk_drew ?_ | refine blk_alloc ?_ _)); refine blk_put (cs := #[.string t521, .string (⟨#[]⟩ : ByteArray), .int .i64 0]) ?_ 1 _ rfl; (with_reducible repeat (first | refine blk_drewN ?_ _ | refine blk_drew ?_ | refine blk_alloc ?_ _)); refine blk_put (cs := #[.string (⟨#[]⟩ : ByteArray), .string (⟨#[]⟩ : ByteArray), .int .i64 0]) ?_ 0 _ rfl; (with_reducible repeat (first | refine blk_drewN ?_ _ | refine blk_drew ?_ | refine blk_alloc ?_ _)); exact BK526.out) NB526_0.out (by simp)); replace HK := Aside0.mk (KeepBut.trans (kb2_ HK.out GW520.out GW526.out) hk (.inl rfl)); replace HB := Aside0.mk (hb); replace HI0 := Aside0.mk (hi); (try clear hb); (try clear hb2); (try clear hk); (try clear hi); obtain ⟨hcz48_0, hcz48_1, hcz48_2⟩ := cz3_ BK526.out; obtain ⟨hfz48_0, hfz48_1, hfz48_2⟩ := fz3_ BK526.out; have hnb49 := NB520_0.out; have hnc49 := NB0_520.out; obtain ⟨hcz50_0, hcz50_1, hcz50_2⟩ := cz3_ BK520.out; obtain ⟨hfz50_0, hfz50_1, hfz50_2⟩ := fz3_ BK520.out))
    refine bodyPost_ret (results_cell_row rfl _ _ gb520 31 #[.string t521, .string t522, .int .i64 t523] (0, 0) _ rfl (by (with_reducible repeat (first | refine blk_drewN ?_ _ | refine blk_drew ?_ | refine blk_alloc ?_ _)); refine blk_put (cs := #[.string t521, .string t522, .int .i64 0]) ?_ 2 _ rfl; (with_reducible repeat (first | refine blk_drewN ?_ _ | refine blk_drew ?_ | refine blk_alloc ?_ _)); refine blk_put (cs := #[.string t521, .string (⟨#[]⟩ : ByteArray), .int .i64 0]) ?_ 1 _ rfl; (with_reducible repeat (first | refine blk_drewN ?_ _ | refine blk_drew ?_ | refine blk_alloc ?_ _)); refine blk_put (cs := #[.string (⟨#[]⟩ : ByteArray), .string (⟨#[]⟩ : ByteArray), .int .i64 0]) ?_ 0 _ rfl; (with_reducible repeat (first | refine blk_drewN ?_ _ | refine blk_drew ?_ | refine blk_alloc ?_ _)); exact BK520.out) Tryd.underlying31 rfl (by kernel_rfl)) rfl ?_
    exact ⟨rr_, is74_2 HI0.out NB0_520.out NB0_526.out, lb3_ HB.out (IsS74.ge HI0.out) GE520.out GE526.out, kb2_ HK.out GW520.out GW526.out⟩
end Go.Proofs.YtdpinnhgkocjhaaDoor.Pr

namespace Go.Proofs.YtdpinnhgkocjhaaDoor.Pr
open Go.RowKit Go.Proofs.YtdpinnhgkocjhaaDoorW.PrintWords Go.Proofs.YtdpinnhgkocjhaaDoorW.PrintLast Go.Proofs.YtdpinnhgkocjhaaDoorW.PrintMore
attribute [local go_sem] max2_int min2_int max_two min_two max_three min_three max_four min_four   -- for this text's walks alone
set_option linter.unusedVariables false
set_option linter.unusedSimpArgs false
def spec_DrawAppendRecord.l0 : Nat → Int → List Int → Int → Int → ByteArray → ByteArray → Int → Option (ByteArray × ByteArray × Int × ByteArray × ByteArray)
 | 0, _, _, _, _, _, _, _ => none
 | k + 1, x6, x539000, x539001, x539002, x545000, x545001, x545002 => if x6 > 0 then ((spec_AppendRecord.f k x545000 x545001 x545002 (⟨#[120]⟩ : ByteArray) (⟨#[]⟩ : ByteArray)).bind fun bt551 => (spec_DrawAppendRecord.l0 k (wrap64 (x6 - 1)) x539000 x539001 x539002 bt551.1 bt551.2.1 bt551.2.2.1)) else ((spec_l1Cur_logRecord.f x539000 x539001 x539002).bind fun bt555 => (some (x545000, x545001, x545002, bt555.1, bt555.2.1)))
def spec_DrawAppendRecord.f (k : Nat) (l0 : List Int) : Option (ByteArray × ByteArray × Int × ByteArray × ByteArray) := (spec_newCur.f l0).bind fun bt535 => ((spec_l1Cur_anyLog.f k bt535.1 bt535.2.1 bt535.2.2).bind fun bt539 => ((spec_l1Cur_one.f bt535.1 bt539.2.2.2.1 bt539.2.2.2.2 40).bind fun bt545 => (if bt545.1 = true then ((spec_l1Cur_pick.f bt535.1 bt545.2.1 bt545.2.2 2).bind fun bt548 => (spec_DrawAppendRecord.l0 k (wrap64 (59 + bt548.1)) bt535.1 bt548.2.1 bt548.2.2 (⟨#[]⟩ : ByteArray) (⟨#[]⟩ : ByteArray) 0)) else ((spec_l1Cur_logRecord.f bt535.1 bt545.2.1 bt545.2.2).bind fun bt559 => (some (bt539.1, bt539.2.1, bt539.2.2.1, bt559.1, bt559.2.1))))))
set_option maxHeartbeats 8000000 in
set_option maxRecDepth 100000 in
theorem spec_DrawAppendRecord.calls (k : Nat) (A0 : Option Addr) (c0 : Nat) (l0 : List Int) (r1 : ByteArray) (r2 : ByteArray) (r3 : Int) (r4 : ByteArray) (r5 : ByteArray) (w : World) (hr0 : Kd.C (Kd.int .u8) w A0 l0.length l0) (hc0 : l0.length ≤ c0) (h : spec_DrawAppendRecord.f k l0 = some (r1, r2, r3, r4, r5)) :
  Calls Tryd.prog 36 #[.slice A0 l0.length c0] w fun e w' => e = .returned (.tuple #[.agg #[.string r1, .string r2, .int .i64 r3], .agg #[.string r4, .string r5]]) ∧ Below w.heap.size w w' := by
 have hu31 := Tryd.underlying31
 have hu27 := Tryd.underlying27
 have hu74 := Tryd.underlying74
 have HR0 := Aside0.mk hr0
 have HC0 := Aside0.mk hc0
 clear hr0 hc0
 have HB := Aside0.mk (Below.refl w.heap.size w)
 have H : ((spec_newCur.f l0).bind fun bt535 => ((spec_l1Cur_anyLog.f k bt535.1 bt535.2.1 bt535.2.2).bind fun bt539 => ((spec_l1Cur_one.f bt535.1 bt539.2.2.2.1 bt539.2.2.2.2 40).bind fun bt545 => (if bt545.1 = true then ((spec_l1Cur_pick.f bt535.1 bt545.2.1 bt545.2.2 2).bind fun bt548 => (spec_DrawAppendRecord.l0 k (wrap64 (59 + bt548.1)) bt535.1 bt548.2.1 bt548.2.2 (⟨#[]⟩ : ByteArray) (⟨#[]⟩ : ByteArray) 0)) else ((spec_l1Cur_logRecord.f bt535.1 bt545.2.1 bt545.2.2).bind fun bt559 => (some (bt539.1, bt539.2.1, bt539.2.2.1, bt559.1, bt559.2.1))))))) = some (r1, r2, r3, r4, r5) := h
 clear h
 replace H := Option.bind_eq_some_iff.mp H
 obtain ⟨⟨t535, t536, t537⟩, A20, H⟩ := H
 replace H : ((spec_l1Cur_anyLog.f k t535 t536 t537).bind fun bt539 => ((spec_l1Cur_one.f t535 bt539.2.2.2.1 bt539.2.2.2.2 40).bind fun bt545 => (if bt545.1 = true then ((spec_l1Cur_pick.f t535 bt545.2.1 bt545.2.2 2).bind fun bt548 => (spec_DrawAppendRecord.l0 k (wrap64 (59 + bt548.1)) t535 bt548.2.1 bt548.2.2 (⟨#[]⟩ : ByteArray) (⟨#[]⟩ : ByteArray) 0)) else ((spec_l1Cur_logRecord.f t535 bt545.2.1 bt545.2.2).bind fun bt559 => (some (bt539.1, bt539.2.1, bt539.2.2.1, bt559.1, bt559.2.1)))))) = some (r1, r2, r3, r4, r5) := H
 have A2 := Aside0.mk A20
 clear A20
 replace H := Option.bind_eq_some_iff.mp H
 obtain ⟨⟨t539, t540, t541, t542, t543⟩, A30, H⟩ := H
 replace H : ((spec_l1Cur_one.f t535 t542 t543 40).bind fun bt545 => (if bt545.1 = true then ((spec_l1Cur_pick.f t535 bt545.2.1 bt545.2.2 2).bind fun bt548 => (spec_DrawAppendRecord.l0 k (wrap64 (59 + bt548.1)) t535 bt548.2.1 bt548.2.2 (⟨#[]⟩ : ByteArray) (⟨#[]⟩ : ByteArray) 0)) else ((spec_l1Cur_logRecord.f t535 bt545.2.1 bt545.2.2).bind fun bt559 => (some (t539, t540, t541, bt559.1, bt559.2.1))))) = some (r1, r2, r3, r4, r5) := H
 have A3 := Aside0.mk A30
 clear A30
 replace H := Option.bind_eq_some_iff.mp H
 obtain ⟨⟨t545, t546, t547⟩, A40, H⟩ := H
 replace H : (if t545 = true then ((spec_l1Cur_pick.f t535 t546 t547 2).bind fun bt548 => (spec_DrawAppendRecord.l0 k (wrap64 (59 + bt548.1)) t535 bt548.2.1 bt548.2.2 (⟨#[]⟩ : ByteArray) (⟨#[]⟩ : ByteArray) 0)) else ((spec_l1Cur_logRecord.f t535 t546 t547).bind fun bt559 => (some (t539, t540, t541, bt559.1, bt559.2.1)))) = some (r1, r2, r3, r4, r5) := H
 have A4 := Aside0.mk A40
 clear A40
 by_cases c5 : t545 = true
 ·
  subst c5
  have H1 : ((spec_l1Cur_pick.f t535 t546 t547 2).bind fun bt548 => (spec_DrawAppendRecord.l0 k (wrap64 (59 + bt548.1)) t535 bt548.2.1 bt548.2.2 (⟨#[]⟩ : ByteArray) (⟨#[]⟩ : ByteArray) 0)) = some (r1, r2, r3, r4, r5) := by rw [if_pos rfl] at H; exact H
  clear H
  have H := H1
  clear H1
  replace H := Option.bind_eq_some_iff.mp H
  obtain ⟨⟨t548, t549, t550⟩, A60, H⟩ := H
  replace H : (spec_DrawAppendRecord.l0 k (wrap64 (59 + t548)) t535 t549 t550 (⟨#[]⟩ : ByteArray) (⟨#[]⟩ : ByteArray) 0) = some (r1, r2, r3, r4, r5) := H
  have A6 := Aside0.mk A60
  clear A60
  have H' := Aside0.mk H
  clear H
  go_enter Tryd.func36, Tryd.ntmps36
  go_wp2_with (first | ((with_reducible refine gate_dst (N := 2) rfl ?_); refine box_event ?hg (N := 2) ?hd (cs := #[.string (⟨#[]⟩ : ByteArray), .string (⟨#[]⟩ : ByteArray), .int .i64 0]) (t := 31) ?hr ?_; (case hd => rfl); (case hg => rfl); (case hr => first | (go_simp; done) | (go_simp; rfl)); intro gb533 hg w7 hbox hb; have BK533 := Aside0.mk (hbox); have GW533 := Aside0.mk ((bz_ hg (lb0_ HB.out))); have GE533 := Aside0.mk ((bz_ hg (lb0_ HB.out))); replace HB := Aside0.mk (below_step (lb0_ HB.out) hb); clear hb hbox hg) | ((with_reducible refine gate_dst (N := 3) rfl ?_); refine box_event ?hg (N := 3) ?hd (cs := #[.string (⟨#[]⟩ : ByteArray), .string (⟨#[]⟩ : ByteArray)]) (t := 27) ?hr ?_; (case hd => rfl); (case hg => rfl); (case hr => first | (go_simp; done) | (go_simp; rfl)); intro gb534 hg w8 hbox hb; have BK534 := Aside0.mk (hbox); have GW534 := Aside0.mk ((bz_ hg (lb1_ HB.out GE533.out))); have GE534 := Aside0.mk ((bz_ hg (lb1_ HB.out GE533.out))); replace HB := Aside0.mk (below_step (lb1_ HB.out GE533.out) hb); have NB533_534 := Aside0.mk ((by rw [hg]; exact Nat.ne_of_lt (blk_lt (g := gb533) (o := .cells #[.string (⟨#[]⟩ : ByteArray), .string (⟨#[]⟩ : ByteArray), .int .i64 0] 31 (0, 0)) (bk_ BK533.out)) : gb533 ≠ gb534)); have NB534_533 := Aside0.mk ((by rw [hg]; exact Nat.ne_of_gt (blk_lt (g := gb533) (o := .cells #[.string (⟨#[]⟩ : ByteArray), .string (⟨#[]⟩ : ByteArray), .int .i64 0] 31 (0, 0)) (bk_ BK533.out)) : gb534 ≠ gb533)); replace BK533 := Aside0.mk (bb_ (bk_ BK533.out) hb); clear hb hbox hg) | ((with_reducible refine gate_dst (N := 9) rfl ?_); refine box_event ?hg (N := 9) ?hd (cs := #[.slice A0 l0.length c0, .int .i64 0, .int .u64 0]) (t := 74) ?hr ?_; (case hd => rfl); (case hg => rfl); (case hr => first | (go_simp; done) | (go_simp; rfl)); intro g538 hg w9 hbx hb2; have hb := below_step (lb2_ HB.out GE533.out GE534.out) hb2; have hi : IsS74 w w9 g538 t535 t536 t537 := (by have hz_ := A2.out; simp only [spec_newCur.f, Option.some.injEq, Prod.mk.injEq] at hz_; rw [← hz_.1, ← hz_.2.1, ← hz_.2.2]; exact ⟨_, _, hbx, (bz_ hg (lb2_ HB.out GE533.out GE534.out)), HR0.out⟩); clear hg hbx; replace HB := Aside0.mk (hb); have HI538 := Aside0.mk (hi); have NB538_533 := Aside0.mk (IsS74.ne_blk hi (bb_ (bk_ BK533.out) hb2) (by decide)); have NB533_538 := Aside0.mk (Ne.symm (IsS74.ne_blk hi (bb_ (bk_ BK533.out) hb2) (by decide))); replace BK533 := Aside0.mk (bb_ (bk_ BK533.out) hb2); have NB538_534 := Aside0.mk (IsS74.ne_blk hi (bb_ (bk_ BK534.out) hb2) (by decide)); have NB534_538 := Aside0.mk (Ne.symm (IsS74.ne_blk hi (bb_ (bk_ BK534.out) hb2) (by decide))); replace BK534 := Aside0.mk (bb_ (bk_ BK534.out) hb2); (try clear hb); (try clear hb2); (try clear hk); (try clear hi)) | ((with_reducible refine gate_callee (f := 53) rfl ?_); refine ga_ (some 11) Tryd.func53 #[.pointer (some ⟨g538, 0, none⟩)] ?_; (with_reducible refine (spec_l1Cur_anyLog.calls k g538 t535 t536 t537 t539 t540 t541 t542 t543 w _ ?side1 ?side2 A3.out).mono ?_); (case side1 => exact is74_2 HI538.out NB538_533.out NB538_534.out); (case side2 => exact lb3_ HB.out (IsS74.ge HI538.out) GE533.out GE534.out); rintro e w10 ⟨rfl, hi, hb, hk⟩; refine ⟨_, rfl, ?_⟩; replace BK533 := Aside0.mk (KeepBut.blk hk (g' := gb533) (o := .cells #[.string (⟨#[]⟩ : ByteArray), .string (⟨#[]⟩ : ByteArray), .int .i64 0] 31 (0, 0)) (bk_ BK533.out) NB533_538.out (by simp)); replace BK534 := Aside0.mk (KeepBut.blk hk (g' := gb534) (o := .cells #[.string (⟨#[]⟩ : ByteArray), .string (⟨#[]⟩ : ByteArray)] 27 (0, 0)) (bk_ BK534.out) NB534_538.out (by simp)); replace HB := Aside0.mk (hb); replace HI538 := Aside0.mk (hi); (try clear hb); (try clear hb2); (try clear hk); (try clear hi)) | ((with_reducible refine gate_dst (N := 5) rfl ?_); refine box_event ?hg (N := 5) ?hd (cs := #[.string (⟨#[]⟩ : ByteArray), .string (⟨#[]⟩ : ByteArray), .int .i64 0]) (t := 31) ?hr ?_; (case hd => rfl); (case hg => rfl); (case hr => first | (go_simp; done) | (go_simp; rfl)); intro gb544 hg w11 hbox hb; have BK544 := Aside0.mk (hbox); have GW544 := Aside0.mk ((by rw [hg]; exact (below_size (lb3_ HB.out (IsS74.ge HI538.out) GE533.out GE534.out)) : w.heap.size ≤ gb544)); have GE544 := Aside0.mk ((by rw [hg]; exact (below_size (lb3_ HB.out (IsS74.ge HI538.out) GE533.out GE534.out)) : w.heap.size ≤ gb544)); replace HB := Aside0.mk (below_step (lb3_ HB.out (IsS74.ge HI538.out) GE533.out GE534.out) hb); have NB533_544 := Aside0.mk ((by rw [hg]; exact Nat.ne_of_lt (blk_lt (g := gb533) (o := .cells #[.string (⟨#[]⟩ : ByteArray), .string (⟨#[]⟩ : ByteArray), .int .i64 0] 31 (0, 0)) (bk_ BK533.out)) : gb533 ≠ gb544)); have NB544_533 := Aside0.mk ((by rw [hg]; exact Nat.ne_of_gt (blk_lt (g := gb533) (o := .cells #[.string (⟨#[]⟩ : ByteArray), .string (⟨#[]⟩ : ByteArray), .int .i64 0] 31 (0, 0)) (bk_ BK533.out)) : gb544 ≠ gb533)); replace BK533 := Aside0.mk (bb_ (bk_ BK533.out) hb); have NB534_544 := Aside0.mk ((by rw [hg]; exact Nat.ne_of_lt (blk_lt (g := gb534) (o := .cells #[.string (⟨#[]⟩ : ByteArray), .string (⟨#[]⟩ : ByteArray)] 27 (0, 0)) (bk_ BK534.out)) : gb534 ≠ gb544)); have NB544_534 := Aside0.mk ((by rw [hg]; exact Nat.ne_of_gt (blk_lt (g := gb534) (o := .cells #[.string (⟨#[]⟩ : ByteArray), .string (⟨#[]⟩ : ByteArray)] 27 (0, 0)) (bk_ BK534.out)) : gb544 ≠ gb534)); replace BK534 := Aside0.mk (bb_ (bk_ BK534.out) hb); have NB538_544 := Aside0.mk ((by rw [hg]; exact Nat.ne_of_lt (IsS74.lt (show IsS74 w _ g538 t535 t542 t543 from is74_2 HI538.out NB538_533.out NB538_534.out)) : g538 ≠ gb544)); have NB544_538 := Aside0.mk ((by rw [hg]; exact Nat.ne_of_gt (IsS74.lt (show IsS74 w _ g538 t535 t542 t543 from is74_2 HI538.out NB538_533.out NB538_534.out)) : gb544 ≠ g538)); replace HI538 := Aside0.mk (IsS74.below (is74_2 HI538.out NB538_533.out NB538_534.out) hb); clear hb hbox hg; have hnb12 := NB544_533.out; have hnc12 := NB533_544.out; have hnb13 := NB544_534.out; have hnc13 := NB534_544.out; have hnb14 := NB544_538.out; have hnc14 := NB538_544.out; obtain ⟨hcz15_0, hcz15_1, hcz15_2⟩ := cz3_ BK544.out; obtain ⟨hfz15_0, hfz15_1, hfz15_2⟩ := fz3_ BK544.out) | ((with_reducible refine gate_callee (f := 54) rfl ?_); refine ga_ (some 13) Tryd.func54 #[.pointer (some ⟨g538, 0, none⟩), .int .i64 40] ?_; (with_reducible refine (spec_l1Cur_one.calls g538 t535 t542 t543 40 true t546 t547 w _ ?side1 ?side2 A4.out).mono ?_); (case side1 => exact is74_3 HI538.out NB538_533.out NB538_534.out NB538_544.out); (case side2 => repeat (first | (with_reducible first | exact HB.out | apply below_alloc | apply pw_below_drewN | apply below_drew1 | refine below_set ?_ (IsS74.ge HI538.out) | refine below_set ?_ GE533.out | refine below_set ?_ GE534.out | refine below_set ?_ GE544.out) | exact HB.out)); rintro e w16 ⟨rfl, hi, hb, hk⟩; refine ⟨_, rfl, ?_⟩; replace BK533 := Aside0.mk (KeepBut.blk hk (g' := gb533) (o := .cells #[.string (⟨#[]⟩ : ByteArray), .string (⟨#[]⟩ : ByteArray), .int .i64 0] 31 (0, 0)) (by (with_reducible repeat (first | refine blk_drewN ?_ _ | refine blk_drew ?_ | refine blk_alloc ?_ _)); refine blk_far ?_ NB533_544.out _; (with_reducible repeat (first | refine blk_drewN ?_ _ | refine blk_drew ?_ | refine blk_alloc ?_ _)); refine blk_far ?_ NB533_544.out _; (with_reducible repeat (first | refine blk_drewN ?_ _ | refine blk_drew ?_ | refine blk_alloc ?_ _)); refine blk_far ?_ NB533_544.out _; (with_reducible repeat (first | refine blk_drewN ?_ _ | refine blk_drew ?_ | refine blk_alloc ?_ _)); exact BK533.out) NB533_538.out (by simp)); replace BK534 := Aside0.mk (KeepBut.blk hk (g' := gb534) (o := .cells #[.string (⟨#[]⟩ : ByteArray), .string (⟨#[]⟩ : ByteArray)] 27 (0, 0)) (by (with_reducible repeat (first | refine blk_drewN ?_ _ | refine blk_drew ?_ | refine blk_alloc ?_ _)); refine blk_far ?_ NB534_544.out _; (with_reducible repeat (first | refine blk_drewN ?_ _ | refine blk_drew ?_ | refine blk_alloc ?_ _)); refine blk_far ?_ NB534_544.out _; (with_reducible repeat (first | refine blk_drewN ?_ _ | refine blk_drew ?_ | refine blk_alloc ?_ _)); refine blk_far ?_ NB534_544.out _; (with_reducible repeat (first | refine blk_drewN ?_ _ | refine blk_drew ?_ | refine blk_alloc ?_ _)); exact BK534.out) NB534_538.out (by simp)); replace BK544 := Aside0.mk (KeepBut.blk hk (g' := gb544) (o := .cells #[.string t539, .string t540, .int .i64 t541] 31 (0, 0)) (by (with_reducible repeat (first | refine blk_drewN ?_ _ | refine blk_drew ?_ | refine blk_alloc ?_ _)); refine blk_put (cs := #[.string t539, .string t540, .int .i64 0]) ?_ 2 _ rfl; (with_reducible repeat (first | refine blk_drewN ?_ _ | refine blk_drew ?_ | refine blk_alloc ?_ _)); refine blk_put (cs := #[.string t539, .string (⟨#[]⟩ : ByteArray), .int .i64 0]) ?_ 1 _ rfl; (with_reducible repeat (first | refine blk_drewN ?_ _ | refine blk_drew ?_ | refine blk_alloc ?_ _)); refine blk_put (cs := #[.string (⟨#[]⟩ : ByteArray), .string (⟨#[]⟩ : ByteArray), .int .i64 0]) ?_ 0 _ rfl; (with_reducible repeat (first | refine blk_drewN ?_ _ | refine blk_drew ?_ | refine blk_alloc ?_ _)); exact BK544.out) NB544_538.out (by simp)); replace HB := Aside0.mk (hb); replace HI538 := Aside0.mk (hi); (try clear hb); (try clear hb2); (try clear hk); (try clear hi); obtain ⟨hcz17_0, hcz17_1, hcz17_2⟩ := cz3_ BK544.out; obtain ⟨hfz17_0, hfz17_1, hfz17_2⟩ := fz3_ BK544.out) | ((with_reducible refine gate_callee (f := 55) rfl ?_); refine ga_ (some 16) Tryd.func55 #[.pointer (some ⟨g538, 0, none⟩), .int .i64 2] ?_; (with_reducible refine (spec_l1Cur_pick.calls g538 t535 t546 t547 2 t548 t549 t550 w _ ?side1 ?side2 A6.out).mono ?_); (case side1 => exact is74_3 HI538.out NB538_533.out NB538_534.out NB538_544.out); (case side2 => repeat (first | (with_reducible first | exact HB.out | apply below_alloc | apply pw_below_drewN | apply below_drew1 | refine below_set ?_ (IsS74.ge HI538.out) | refine below_set ?_ GE533.out | refine below_set ?_ GE534.out | refine below_set ?_ GE544.out) | exact HB.out)); rintro e w18 ⟨rfl, hi, hb, hk⟩; refine ⟨_, rfl, ?_⟩; replace BK533 := Aside0.mk (KeepBut.blk hk (g' := gb533) (o := .cells #[.string (⟨#[]⟩ : ByteArray), .string (⟨#[]⟩ : ByteArray), .int .i64 0] 31 (0, 0)) (by (with_reducible repeat (first | refine blk_drewN ?_ _ | refine blk_drew ?_ | refine blk_alloc ?_ _)); refine blk_far ?_ NB533_544.out _; (with_reducible repeat (first | refine blk_drewN ?_ _ | refine blk_drew ?_ | refine blk_alloc ?_ _)); refine blk_far ?_ NB533_544.out _; (with_reducible repeat (first | refine blk_drewN ?_ _ | refine blk_drew ?_ | refine blk_alloc ?_ _)); refine blk_far ?_ NB533_544.out _; (with_reducible repeat (first | refine blk_drewN ?_ _ | refine blk_drew ?_ | refine blk_alloc ?_ _)); exact BK533.out) NB533_538.out (by simp)); replace BK534 := Aside0.mk (KeepBut.blk hk (g' := gb534) (o := .cells #[.string (⟨#[]⟩ : ByteArray), .string (⟨#[]⟩ : ByteArray)] 27 (0, 0)) (by (with_reducible repeat (first | refine blk_drewN ?_ _ | refine blk_drew ?_ | refine blk_alloc ?_ _)); refine blk_far ?_ NB534_544.out _; (with_reducible repeat (first | refine blk_drewN ?_ _ | refine blk_drew ?_ | refine blk_alloc ?_ _)); refine blk_far ?_ NB534_544.out _; (with_reducible repeat (first | refine blk_drewN ?_ _ | refine blk_drew ?_ | refine blk_alloc ?_ _)); refine blk_far ?_ NB534_544.out _; (with_reducible repeat (first | refine blk_drewN ?_ _ | refine blk_drew ?_ | refine blk_alloc ?_ _)); exact BK534.out) NB534_538.out (by simp)); replace BK544 := Aside0.mk (KeepBut.blk hk (g' := gb544) (o := .cells #[.string (⟨#[]⟩ : ByteArray), .string (⟨#[]⟩ : ByteArray), .int .i64 0] 31 (0, 0)) (by (with_reducible repeat (first | refine blk_drewN ?_ _ | refine blk_drew ?_ | refine blk_alloc ?_ _)); refine blk_put (cs := #[.string (⟨#[]⟩ : ByteArray), .string (⟨#[]⟩ : ByteArray), .int .i64 t541]) ?_ 2 _ rfl; (with_reducible repeat (first | refine blk_drewN ?_ _ | refine blk_drew ?_ | refine blk_alloc ?_ _)); refine blk_put (cs := #[.string (⟨#[]⟩ : ByteArray), .string t540, .int .i64 t541]) ?_ 1 _ rfl; (with_reducible repeat (first | refine blk_drewN ?_ _ | refine blk_drew ?_ | refine blk_alloc ?_ _)); refine blk_put (cs := #[.string t539, .string t540, .int .i64 t541]) ?_ 0 _ rfl; (with_reducible repeat (first | refine blk_drewN ?_ _ | refine blk_drew ?_ | refine blk_alloc ?_ _)); exact BK544.out) NB544_538.out (by simp)); replace HB := Aside0.mk (hb); replace HI538 := Aside0.mk (hi); (try clear hb); (try clear hb2); (try clear hk); (try clear hi)))
  go_loopg [6] k (fun kq v6 w' => ∃ (x6_1 : Int) (x545000_1 : ByteArray) (x545001_1 : ByteArray) (x545002_1 : Int), v6 = .int .i64 x6_1 ∧ Aside0 (spec_DrawAppendRecord.l0 kq x6_1 t535 t549 t550 x545000_1 x545001_1 x545002_1 = some (r1, r2, r3, r4, r5)) ∧ Aside0 (kq ≤ k) ∧ Aside0 (w'.heap[gb533]? = some (.cells #[.string (⟨#[]⟩ : ByteArray), .string (⟨#[]⟩ : ByteArray), .int .i64 0] 31 (0, 0))) ∧ Aside0 (w'.heap[gb534]? = some (.cells #[.string (⟨#[]⟩ : ByteArray), .string (⟨#[]⟩ : ByteArray)] 27 (0, 0))) ∧ Aside0 (w'.heap[gb544]? = some (.cells #[.string x545000_1, .string x545001_1, .int .i64 x545002_1] 31 (0, 0))) ∧ Aside0 (IsS74 w w' g538 t535 t549 t550) ∧ Aside0 (Below w.heap.size w w'))
  case atStart => exact ⟨(wrap64 (59 + t548)), ((⟨#[]⟩ : ByteArray)), ((⟨#[]⟩ : ByteArray)), (0), (by first | rfl | (simp; done) | (simp [*]; done)), H', ⟨Nat.le_refl _⟩, ⟨bk_ BK533.out⟩, ⟨bk_ BK534.out⟩, ⟨bk_ BK544.out⟩, ⟨is74_3 HI538.out NB538_533.out NB538_534.out NB538_544.out⟩, ⟨by repeat (first | (with_reducible first | exact HB.out | apply below_alloc | apply pw_below_drewN | apply below_drew1 | refine below_set ?_ (IsS74.ge HI538.out) | refine below_set ?_ GE533.out | refine below_set ?_ GE534.out | refine below_set ?_ GE544.out) | exact HB.out)⟩⟩
  case round =>
   clear H'
   try clear c1
   try clear p2
   try clear c3
   try clear c5
   try clear p6
   try clear c12
   try clear c13
   try clear c14
   try clear hcz15_0 hcz15_1 hcz15_2
   try clear hcz17_0 hcz17_1 hcz17_2
   try clear hfz15_0 hfz15_1 hfz15_2
   try clear hfz17_0 hfz17_1 hfz17_2
   obtain ⟨x6_1, x545000_1, x545001_1, x545002_1, rfl, HA, HK1, BK533, BK534, BK544, HI538, HB⟩ := hrel
   cases gk with
   | zero => exact absurd HA.out (by simp [spec_DrawAppendRecord.l0])
   | succ k1 =>
    have H := HA.out
    clear HA
    simp only [spec_DrawAppendRecord.l0] at H
    by_cases c19 : x6_1 > 0
    ·
     rw [if_pos c19] at H
     have c19b0 : decide (0 < x6_1) = true := decide_eq_true c19
     clear c19
     replace H := Option.bind_eq_some_iff.mp H
     obtain ⟨⟨t551, t552, t553, t554⟩, A200, H⟩ := H
     replace H : (spec_DrawAppendRecord.l0 k1 (wrap64 (x6_1 - 1)) t535 t549 t550 t551 t552 t553) = some (r1, r2, r3, r4, r5) := H
     have A20 := Aside0.mk A200
     clear A200
     have H' := Aside0.mk H
     clear H
     have hnb21 := NB544_533.out
     have hnc21 := NB533_544.out
     have hnb22 := NB544_534.out
     have hnc22 := NB534_544.out
     have hnb23 := NB544_538.out
     have hnc23 := NB538_544.out
     obtain ⟨hcz24_0, hcz24_1, hcz24_2⟩ := cz3_ BK544.out
     obtain ⟨hfz24_0, hfz24_1, hfz24_2⟩ := fz3_ BK544.out
     go_wp2_with (first | ((with_reducible refine gate_callee (f := 28) rfl ?_); refine ga_ (some 25) Tryd.func28 #[.agg #[.string x545000_1, .string x545001_1, .int .i64 x545002_1], .agg #[.string (⟨#[120]⟩ : ByteArray), .string (⟨#[]⟩ : ByteArray)]] ?_; (with_reducible refine (spec_AppendRecord.calls k1 x545000_1 x545001_1 x545002_1 (⟨#[120]⟩ : ByteArray) (⟨#[]⟩ : ByteArray) t551 t552 t553 t554 _ A20.out).mono ?_); rintro e w25 ⟨rfl, hb⟩; refine ⟨_, rfl, ?_⟩; replace BK533 := Aside0.mk (bb_ (bk_ BK533.out) hb); replace BK534 := Aside0.mk (bb_ (bk_ BK534.out) hb); replace BK544 := Aside0.mk (bb_ (bk_ BK544.out) hb); replace HB := Aside0.mk (below_step (by repeat (first | (with_reducible first | exact HB.out | apply below_alloc | apply pw_below_drewN | apply below_drew1 | refine below_set ?_ (IsS74.ge HI538.out) | refine below_set ?_ GE533.out | refine below_set ?_ GE534.out | refine below_set ?_ GE544.out) | exact HB.out)) hb); replace HI538 := Aside0.mk (IsS74.below (is74_3 HI538.out NB538_533.out NB538_534.out NB538_544.out) hb); (try clear hb); (try clear hb2); (try clear hk); (try clear hi); obtain ⟨hcz26_0, hcz26_1, hcz26_2⟩ := cz3_ BK544.out; obtain ⟨hfz26_0, hfz26_1, hfz26_2⟩ := fz3_ BK544.out))
     go_roundg k1
     case measure => have := HK1.out; omega
     case rel => exact ⟨(wrap64 (x6_1 - 1)), (t551), (t552), (t553), (by first | rfl | (simp; done) | (simp [*]; done)), H', ⟨by have := HK1.out; omega⟩, ⟨by (with_reducible repeat (first | refine blk_drewN ?_ _ | refine blk_drew ?_ | refine blk_alloc ?_ _)); refine blk_far ?_ NB533_544.out _; (with_reducible repeat (first | refine blk_drewN ?_ _ | refine blk_drew ?_ | refine blk_alloc ?_ _)); refine blk_far ?_ NB533_544.out _; (with_reducible repeat (first | refine blk_drewN ?_ _ | refine blk_drew ?_ | refine blk_alloc ?_ _)); refine blk_far ?_ NB533_544.out _; (with_reducible repeat (first | refine blk_drewN ?_ _ | refine blk_drew ?_ | refine blk_alloc ?_ _)); exact BK533.out⟩, ⟨by (with_reducible repeat (first | refine blk_drewN ?_ _ | refine blk_drew ?_ | refine blk_alloc ?_ _)); refine blk_far ?_ NB534_544.out _; (with_reducible repeat (first | refine blk_drewN ?_ _ | refine blk_drew ?_ | refine blk_alloc ?_ _)); refine blk_far ?_ NB534_544.out _; (with_reducible repeat (first | refine blk_drewN ?_ _ | refine blk_drew ?_ | refine blk_alloc ?_ _)); refine blk_far ?_ NB534_544.out _; (with_reducible repeat (first | refine blk_drewN ?_ _ | refine blk_drew ?_ | refine blk_alloc ?_ _)); exact BK534.out⟩, ⟨by (with_reducible repeat (first | refine blk_drewN ?_ _ | refine blk_drew ?_ | refine blk_alloc ?_ _)); refine blk_put (cs := #[.string t551, .string t552, .int .i64 x545002_1]) ?_ 2 _ rfl; (with_reducible repeat (first | refine blk_drewN ?_ _ | refine blk_drew ?_ | refine blk_alloc ?_ _)); refine blk_put (cs := #[.string t551, .string x545001_1, .int .i64 x545002_1]) ?_ 1 _ rfl; (with_reducible repeat (first | refine blk_drewN ?_ _ | refine blk_drew ?_ | refine blk_alloc ?_ _)); refine blk_put (cs := #[.string x545000_1, .string x545001_1, .int .i64 x545002_1]) ?_ 0 _ rfl; (with_reducible repeat (first | refine blk_drewN ?_ _ | refine blk_drew ?_ | refine blk_alloc ?_ _)); exact BK544.out⟩, ⟨is74_3 HI538.out NB538_533.out NB538_534.out NB538_544.out⟩, ⟨by repeat (first | (with_reducible first | exact HB.out | apply below_alloc | apply pw_below_drewN | apply below_drew1 | refine below_set ?_ (IsS74.ge HI538.out) | refine below_set ?_ GE533.out | refine below_set ?_ GE534.out | refine below_set ?_ GE544.out) | exact HB.out)⟩⟩
    ·
     rw [if_neg c19] at H
     have c19b0 : decide (0 < x6_1) = false := decide_eq_false c19
     clear c19
     replace H := Option.bind_eq_some_iff.mp H
     obtain ⟨⟨t555, t556, t557, t558⟩, A270, H⟩ := H
     replace H : (some (x545000_1, x545001_1, x545002_1, t555, t556)) = some (r1, r2, r3, r4, r5) := H
     have A27 := Aside0.mk A270
     clear A270
     simp only [Option.some.injEq, Prod.mk.injEq] at H
     obtain ⟨rfl, rfl, rfl, rfl, rfl⟩ := H
     try go_wp2
     replace BK533 := Aside0.mk (blk_drew BK533.out)
     replace BK534 := Aside0.mk (blk_drew BK534.out)
     replace BK544 := Aside0.mk (blk_drew BK544.out)
     replace HI538 := Aside0.mk (IsS74.drew HI538.out)
     replace HB := Aside0.mk (below_drew1 HB.out)
     refine start_ (n := 5) (S := fun w' => w'.cell? ⟨gb544, 0, none⟩ = some (.string x545000_1) ∧ w'.cell? ⟨gb544, 1, none⟩ = some (.string x545001_1) ∧ w'.cell? ⟨gb544, 2, none⟩ = some (.int .i64 x545002_1)) (ds := []) #[false, false, false, false, false] (by kernel_rfl) rfl rfl ⟨(blk_cell BK544.out 0).trans rfl, (blk_cell BK544.out 1).trans rfl, (blk_cell BK544.out 2).trans rfl⟩ (fun hHeld => ?_)
     generalize wr.drew = w28 at BK533 BK534 BK544 HI538 HB hHeld ⊢
     refine pure_ (i := 1) (N := some 29) (v := ?_) (a' := ?_) #[false, true, false, false, false] rfl rfl (by kernel_rfl) (fun _ _ _ h => h) (Or.inl ⟨by rfl, ?_⟩) ?_ ?_
     rotate_left
     ·
      intro w'
      go_simp
      with_reducible rfl
     rotate_left
     ·
      simp only [Act.put, List.setIfInBounds_toArray, List.set_cons_zero, List.set_cons_succ, i64_w, i32_w]
      rfl
     refine take_ (i := 0) (N := some 28) (v := ?_) (a' := ?_) #[true, true, false, false, false] rfl rfl (by kernel_rfl) (fun _ _ _ h => h) (Or.inl ⟨by rfl, ?_⟩) hHeld ?_ ?_
     rotate_left
     ·
      rintro w' ⟨s0, s1, s2⟩
      go_simp
      with_reducible rfl
     rotate_left
     ·
      simp only [Act.put, List.setIfInBounds_toArray, List.set_cons_zero, List.set_cons_succ, i64_w, i32_w]
      rfl
     refine one_ (i := 2) (N := some 30) #[true, true, true, false, false] rfl rfl (by kernel_rfl) (by decide) (fun K hK => ?_)
     refine gs_ Tryd.func56 #[.pointer (some ⟨g538, 0, none⟩)] ?_
     with_reducible refine (spec_l1Cur_logRecord.calls g538 t535 t549 t550 t555 t556 t557 t558 w _ ?side1 ?side2 A27.out).mono ?_
     (case side1 => exact is74_3 HI538.out NB538_533.out NB538_534.out NB538_544.out)
     (case side2 => repeat (first | (with_reducible first | exact HB.out | apply below_alloc | apply pw_below_drewN | apply below_drew1 | refine below_set ?_ (IsS74.ge HI538.out) | refine below_set ?_ GE533.out | refine below_set ?_ GE534.out | refine below_set ?_ GE544.out) | exact HB.out))
     rintro e w29 ⟨rfl, hi, hb, hk⟩
     refine ⟨_, rfl, ?_⟩
     replace BK533 := Aside0.mk (KeepBut.blk hk (g' := gb533) (o := .cells #[.string (⟨#[]⟩ : ByteArray), .string (⟨#[]⟩ : ByteArray), .int .i64 0] 31 (0, 0)) (bk_ BK533.out) NB533_538.out (by simp))
     replace BK534 := Aside0.mk (KeepBut.blk hk (g' := gb534) (o := .cells #[.string (⟨#[]⟩ : ByteArray), .string (⟨#[]⟩ : ByteArray)] 27 (0, 0)) (bk_ BK534.out) NB534_538.out (by simp))
     replace BK544 := Aside0.mk (KeepBut.blk hk (g' := gb544) (o := .cells #[.string x545000_1, .string x545001_1, .int .i64 x545002_1] 31 (0, 0)) (bk_ BK544.out) NB544_538.out (by simp))
     replace HB := Aside0.mk (hb)
     replace HI538 := Aside0.mk (hi)
     (try clear hb)
     (try clear hb2)
     (try clear hk)
     (try clear hi)
     refine hK.out _ _ ⟨(blk_cell BK544.out 0).trans rfl, (blk_cell BK544.out 1).trans rfl, (blk_cell BK544.out 2).trans rfl⟩ (fun hHeld => ?_)
     clear hK K
     refine na_ ?_
     refine one_ (i := 3) (N := none) #[true, true, true, true, false] rfl rfl (by kernel_rfl) (by decide) (fun K hK => ?_)
     have hs30 : w29.cell? ⟨gb533, 0, none⟩ = some (.string (⟨#[]⟩ : ByteArray)) := (blk_cell BK533.out 0).trans rfl
     have hfs30 := blk_frozen BK533.out 0
     have hns30_1 := NB534_533.out
     have hns30_2 := NB544_533.out
     have hms30_1 := NB533_534.out
     have hms30_2 := NB533_544.out
     have hs31 : w29.cell? ⟨gb533, 1, none⟩ = some (.string (⟨#[]⟩ : ByteArray)) := (blk_cell BK533.out 1).trans rfl
     have hfs31 := blk_frozen BK533.out 1
     have hns31_1 := NB534_533.out
     have hns31_2 := NB544_533.out
     have hms31_1 := NB533_534.out
     have hms31_2 := NB533_544.out
     have hs32 : w29.cell? ⟨gb533, 2, none⟩ = some (.int .i64 0) := (blk_cell BK533.out 2).trans rfl
     have hfs32 := blk_frozen BK533.out 2
     have hns32_1 := NB534_533.out
     have hns32_2 := NB544_533.out
     have hms32_1 := NB533_534.out
     have hms32_2 := NB533_544.out
     refine skip_ (w1 := ?_) (by rfl) rfl ?_ ?_
     rotate_left
     ·
      go_simp
      rfl
     refine hK.out _ _ ⟨((cell_far (p := ⟨gb533, _, none⟩) NB544_533.out _).trans (((cell_far (p := ⟨gb533, _, none⟩) NB544_533.out _).trans (((cell_far (p := ⟨gb533, _, none⟩) NB544_533.out _).trans (hHeld.1)))))), ((cell_far (p := ⟨gb533, _, none⟩) NB544_533.out _).trans (((cell_far (p := ⟨gb533, _, none⟩) NB544_533.out _).trans (((cell_far (p := ⟨gb533, _, none⟩) NB544_533.out _).trans (hHeld.2.1)))))), ((cell_far (p := ⟨gb533, _, none⟩) NB544_533.out _).trans (((cell_far (p := ⟨gb533, _, none⟩) NB544_533.out _).trans (((cell_far (p := ⟨gb533, _, none⟩) NB544_533.out _).trans (hHeld.2.2))))))⟩ (fun hHeld => ?_)
     clear hK K
     refine one_ (i := 4) (N := none) #[true, true, true, true, true] rfl rfl (by kernel_rfl) (by decide) (fun K hK => ?_)
     have hs33 : w29.cell? ⟨gb534, 0, none⟩ = some (.string (⟨#[]⟩ : ByteArray)) := (blk_cell BK534.out 0).trans rfl
     have hfs33 := blk_frozen BK534.out 0
     have hns33_0 := NB533_534.out
     have hns33_2 := NB544_534.out
     have hms33_0 := NB534_533.out
     have hms33_2 := NB534_544.out
     have hs34 : w29.cell? ⟨gb534, 1, none⟩ = some (.string (⟨#[]⟩ : ByteArray)) := (blk_cell BK534.out 1).trans rfl
     have hfs34 := blk_frozen BK534.out 1
     have hns34_0 := NB533_534.out
     have hns34_2 := NB544_534.out
     have hms34_0 := NB534_533.out
     have hms34_2 := NB534_544.out
     refine skip_ (w1 := ?_) (by rfl) rfl ?_ ?_
     rotate_left
     ·
      go_simp
      rfl
     refine hK.out _ _ ⟨((cell_far (p := ⟨gb534, _, none⟩) NB544_534.out _).trans (((cell_far (p := ⟨gb534, _, none⟩) NB544_534.out _).trans (hHeld.1)))), ((cell_far (p := ⟨gb534, _, none⟩) NB544_534.out _).trans (((cell_far (p := ⟨gb534, _, none⟩) NB544_534.out _).trans (hHeld.2.1)))), ((cell_far (p := ⟨gb534, _, none⟩) NB544_534.out _).trans (((cell_far (p := ⟨gb534, _, none⟩) NB544_534.out _).trans (hHeld.2.2))))⟩ (fun hHeld => ?_)
     clear hK K
     refine done_ (by kernel_rfl) ?_
     try go_wp2
     refine bodyPost_ret (results_cc rfl _ _ gb533 gb534 31 27 #[.string x545000_1, .string x545001_1, .int .i64 x545002_1] #[.string t555, .string t556] (0, 0) (0, 0) _ _ rfl (by (with_reducible repeat (first | refine blk_drewN ?_ _ | refine blk_drew ?_ | refine blk_alloc ?_ _)); refine blk_far ?_ NB533_534.out _; (with_reducible repeat (first | refine blk_drewN ?_ _ | refine blk_drew ?_ | refine blk_alloc ?_ _)); refine blk_far ?_ NB533_534.out _; (with_reducible repeat (first | refine blk_drewN ?_ _ | refine blk_drew ?_ | refine blk_alloc ?_ _)); refine blk_put (cs := #[.string x545000_1, .string x545001_1, .int .i64 0]) ?_ 2 _ rfl; (with_reducible repeat (first | refine blk_drewN ?_ _ | refine blk_drew ?_ | refine blk_alloc ?_ _)); refine blk_put (cs := #[.string x545000_1, .string (⟨#[]⟩ : ByteArray), .int .i64 0]) ?_ 1 _ rfl; (with_reducible repeat (first | refine blk_drewN ?_ _ | refine blk_drew ?_ | refine blk_alloc ?_ _)); refine blk_put (cs := #[.string (⟨#[]⟩ : ByteArray), .string (⟨#[]⟩ : ByteArray), .int .i64 0]) ?_ 0 _ rfl; (with_reducible repeat (first | refine blk_drewN ?_ _ | refine blk_drew ?_ | refine blk_alloc ?_ _)); exact BK533.out) Tryd.underlying31 rfl (by kernel_rfl) rfl (by (with_reducible repeat (first | refine blk_drewN ?_ _ | refine blk_drew ?_ | refine blk_alloc ?_ _)); refine blk_put (cs := #[.string t555, .string (⟨#[]⟩ : ByteArray)]) ?_ 1 _ rfl; (with_reducible repeat (first | refine blk_drewN ?_ _ | refine blk_drew ?_ | refine blk_alloc ?_ _)); refine blk_put (cs := #[.string (⟨#[]⟩ : ByteArray), .string (⟨#[]⟩ : ByteArray)]) ?_ 0 _ rfl; (with_reducible repeat (first | refine blk_drewN ?_ _ | refine blk_drew ?_ | refine blk_alloc ?_ _)); refine blk_far ?_ NB534_533.out _; (with_reducible repeat (first | refine blk_drewN ?_ _ | refine blk_drew ?_ | refine blk_alloc ?_ _)); refine blk_far ?_ NB534_533.out _; (with_reducible repeat (first | refine blk_drewN ?_ _ | refine blk_drew ?_ | refine blk_alloc ?_ _)); refine blk_far ?_ NB534_533.out _; (with_reducible repeat (first | refine blk_drewN ?_ _ | refine blk_drew ?_ | refine blk_alloc ?_ _)); exact BK534.out) Tryd.underlying27 rfl (by kernel_rfl)) rfl ?_
     exact ⟨rr_, by repeat (first | (with_reducible first | exact HB.out | apply below_alloc | apply pw_below_drewN | apply below_drew1 | refine below_set ?_ (IsS74.ge HI538.out) | refine below_set ?_ GE533.out | refine below_set ?_ GE534.out | refine below_set ?_ GE544.out) | exact HB.out)⟩
 ·
  replace c5 := Bool.eq_false_iff.mpr c5
  subst c5
  have H1 : ((spec_l1Cur_logRecord.f t535 t546 t547).bind fun bt559 => (some (t539, t540, t541, bt559.1, bt559.2.1))) = some (r1, r2, r3, r4, r5) := by rw [if_neg (show ¬ (false = true) by decide)] at H; exact H
  clear H
  have H := H1
  clear H1
  replace H := Option.bind_eq_some_iff.mp H
  obtain ⟨⟨t559, t560, t561, t562⟩, A350, H⟩ := H
  replace H : (some (t539, t540, t541, t559, t560)) = some (r1, r2, r3, r4, r5) := H
  have A35 := Aside0.mk A350
  clear A350
  simp only [Option.some.injEq, Prod.mk.injEq] at H
  obtain ⟨rfl, rfl, rfl, rfl, rfl⟩ := H
  go_enter Tryd.func36, Tryd.ntmps36
  try go_wp2_with (first | ((with_reducible refine gate_dst (N := 2) rfl ?_); refine box_event ?hg (N := 2) ?hd (cs := #[.string (⟨#[]⟩ : ByteArray), .string (⟨#[]⟩ : ByteArray), .int .i64 0]) (t := 31) ?hr ?_; (case hd => rfl); (case hg => rfl); (case hr => first | (go_simp; done) | (go_simp; rfl)); intro gb533 hg w36 hbox hb; have BK533 := Aside0.mk (hbox); have GW533 := Aside0.mk ((bz_ hg (lb0_ HB.out))); have GE533 := Aside0.mk ((bz_ hg (lb0_ HB.out))); replace HB := Aside0.mk (below_step (lb0_ HB.out) hb); clear hb hbox hg) | ((with_reducible refine gate_dst (N := 3) rfl ?_); refine box_event ?hg (N := 3) ?hd (cs := #[.string (⟨#[]⟩ : ByteArray), .string (⟨#[]⟩ : ByteArray)]) (t := 27) ?hr ?_; (case hd => rfl); (case hg => rfl); (case hr => first | (go_simp; done) | (go_simp; rfl)); intro gb534 hg w37 hbox hb; have BK534 := Aside0.mk (hbox); have GW534 := Aside0.mk ((bz_ hg (lb1_ HB.out GE533.out))); have GE534 := Aside0.mk ((bz_ hg (lb1_ HB.out GE533.out))); replace HB := Aside0.mk (below_step (lb1_ HB.out GE533.out) hb); have NB533_534 := Aside0.mk ((by rw [hg]; exact Nat.ne_of_lt (blk_lt (g := gb533) (o := .cells #[.string (⟨#[]⟩ : ByteArray), .string (⟨#[]⟩ : ByteArray), .int .i64 0] 31 (0, 0)) (bk_ BK533.out)) : gb533 ≠ gb534)); have NB534_533 := Aside0.mk ((by rw [hg]; exact Nat.ne_of_gt (blk_lt (g := gb533) (o := .cells #[.string (⟨#[]⟩ : ByteArray), .string (⟨#[]⟩ : ByteArray), .int .i64 0] 31 (0, 0)) (bk_ BK533.out)) : gb534 ≠ gb533)); replace BK533 := Aside0.mk (bb_ (bk_ BK533.out) hb); clear hb hbox hg) | ((with_reducible refine gate_dst (N := 9) rfl ?_); refine box_event ?hg (N := 9) ?hd (cs := #[.slice A0 l0.length c0, .int .i64 0, .int .u64 0]) (t := 74) ?hr ?_; (case hd => rfl); (case hg => rfl); (case hr => first | (go_simp; done) | (go_simp; rfl)); intro g538 hg w38 hbx hb2; have hb := below_step (lb2_ HB.out GE533.out GE534.out) hb2; have hi : IsS74 w w38 g538 t535 t536 t537 := (by have hz_ := A2.out; simp only [spec_newCur.f, Option.some.injEq, Prod.mk.injEq] at hz_; rw [← hz_.1, ← hz_.2.1, ← hz_.2.2]; exact ⟨_, _, hbx, (bz_ hg (lb2_ HB.out GE533.out GE534.out)), HR0.out⟩); clear hg hbx; replace HB := Aside0.mk (hb); have HI538 := Aside0.mk (hi); have NB538_533 := Aside0.mk (IsS74.ne_blk hi (bb_ (bk_ BK533.out) hb2) (by decide)); have NB533_538 := Aside0.mk (Ne.symm (IsS74.ne_blk hi (bb_ (bk_ BK533.out) hb2) (by decide))); replace BK533 := Aside0.mk (bb_ (bk_ BK533.out) hb2); have NB538_534 := Aside0.mk (IsS74.ne_blk hi (bb_ (bk_ BK534.out) hb2) (by decide)); have NB534_538 := Aside0.mk (Ne.symm (IsS74.ne_blk hi (bb_ (bk_ BK534.out) hb2) (by decide))); replace BK534 := Aside0.mk (bb_ (bk_ BK534.out) hb2); (try clear hb); (try clear hb2); (try clear hk); (try clear hi)) | ((with_reducible refine gate_callee (f := 53) rfl ?_); refine ga_ (some 11) Tryd.func53 #[.pointer (some ⟨g538, 0, none⟩)] ?_; (with_reducible refine (spec_l1Cur_anyLog.calls k g538 t535 t536 t537 t539 t540 t541 t542 t543 w _ ?side1 ?side2 A3.out).mono ?_); (case side1 => exact is74_2 HI538.out NB538_533.out NB538_534.out); (case side2 => exact lb3_ HB.out (IsS74.ge HI538.out) GE533.out GE534.out); rintro e w39 ⟨rfl, hi, hb, hk⟩; refine ⟨_, rfl, ?_⟩; replace BK533 := Aside0.mk (KeepBut.blk hk (g' := gb533) (o := .cells #[.string (⟨#[]⟩ : ByteArray), .string (⟨#[]⟩ : ByteArray), .int .i64 0] 31 (0, 0)) (bk_ BK533.out) NB533_538.out (by simp)); replace BK534 := Aside0.mk (KeepBut.blk hk (g' := gb534) (o := .cells #[.string (⟨#[]⟩ : ByteArray), .string (⟨#[]⟩ : ByteArray)] 27 (0, 0)) (bk_ BK534.out) NB534_538.out (by simp)); replace HB := Aside0.mk (hb); replace HI538 := Aside0.mk (hi); (try clear hb); (try clear hb2); (try clear hk); (try clear hi)) | ((with_reducible refine gate_dst (N := 5) rfl ?_); refine box_event ?hg (N := 5) ?hd (cs := #[.string (⟨#[]⟩ : ByteArray), .string (⟨#[]⟩ : ByteArray), .int .i64 0]) (t := 31) ?hr ?_; (case hd => rfl); (case hg => rfl); (case hr => first | (go_simp; done) | (go_simp; rfl)); intro gb544 hg w40 hbox hb; have BK544 := Aside0.mk (hbox); have GW544 := Aside0.mk ((by rw [hg]; exact (below_size (lb3_ HB.out (IsS74.ge HI538.out) GE533.out GE534.out)) : w.heap.size ≤ gb544)); have GE544 := Aside0.mk ((by rw [hg]; exact (below_size (lb3_ HB.out (IsS74.ge HI538.out) GE533.out GE534.out)) : w.heap.size ≤ gb544)); replace HB := Aside0.mk (below_step (lb3_ HB.out (IsS74.ge HI538.out) GE533.out GE534.out) hb); have NB533_544 := Aside0.mk ((by rw [hg]; exact Nat.ne_of_lt (blk_lt (g := gb533) (o := .cells #[.string (⟨#[]⟩ : ByteArray), .string (⟨#[]⟩ : ByteArray), .int .i64 0] 31 (0, 0)) (bk_ BK533.out)) : gb533 ≠ gb544)); have NB544_533 := Aside0.mk ((by rw [hg]; exact Nat.ne_of_gt (blk_lt (g := gb533) (o := .cells #[.string (⟨#[]⟩ : ByteArray), .string (⟨#[]⟩ : ByteArray), .int .i64 0] 31 (0, 0)) (bk_ BK533.out)) : gb544 ≠ gb533)); replace BK533 := Aside0.mk (bb_ (bk_ BK533.out) hb); have NB534_544 := Aside0.mk ((by rw [hg]; exact Nat.ne_of_lt (blk_lt (g := gb534) (o := .cells #[.string (⟨#[]⟩ : ByteArray), .string (⟨#[]⟩ : ByteArray)] 27 (0, 0)) (bk_ BK534.out)) : gb534 ≠ gb544)); have NB544_534 := Aside0.mk ((by rw [hg]; exact Nat.ne_of_gt (blk_lt (g := gb534) (o := .cells #[.string (⟨#[]⟩ : ByteArray), .string (⟨#[]⟩ : ByteArray)] 27 (0, 0)) (bk_ BK534.out)) : gb544 ≠ gb534)); replace BK534 := Aside0.mk (bb_ (bk_ BK534.out) hb); have NB538_544 := Aside0.mk ((by rw [hg]; exact Nat.ne_of_lt (IsS74.lt (show IsS74 w _ g538 t535 t542 t543 from is74_2 HI538.out NB538_533.out NB538_534.out)) : g538 ≠ gb544)); have NB544_538 := Aside0.mk ((by rw [hg]; exact Nat.ne_of_gt (IsS74.lt (show IsS74 w _ g538 t535 t542 t543 from is74_2 HI538.out NB538_533.out NB538_534.out)) : gb544 ≠ g538)); replace HI538 := Aside0.mk (IsS74.below (is74_2 HI538.out NB538_533.out NB538_534.out) hb); clear hb hbox hg; have hnb41 := NB544_533.out; have hnc41 := NB533_544.out; have hnb42 := NB544_534.out; have hnc42 := NB534_544.out; have hnb43 := NB544_538.out; have hnc43 := NB538_544.out; obtain ⟨hcz44_0, hcz44_1, hcz44_2⟩ := cz3_ BK544.out; obtain ⟨hfz44_0, hfz44_1, hfz44_2⟩ := fz3_ BK544.out) | ((with_reducible refine gate_callee (f := 54) rfl ?_); refine ga_ (some 13) Tryd.func54 #[.pointer (some ⟨g538, 0, none⟩), .int .i64 40] ?_; (with_reducible refine (spec_l1Cur_one.calls g538 t535 t542 t543 40 false t546 t547 w _ ?side1 ?side2 A4.out).mono ?_); (case side1 => exact is74_3 HI538.out NB538_533.out NB538_534.out NB538_544.out); (case side2 => repeat (first | (with_reducible first | exact HB.out | apply below_alloc | apply pw_below_drewN | apply below_drew1 | refine below_set ?_ (IsS74.ge HI538.out) | refine below_set ?_ GE533.out | refine below_set ?_ GE534.out | refine below_set ?_ GE544.out) | exact HB.out)); rintro e w45 ⟨rfl, hi, hb, hk⟩; refine ⟨_, rfl, ?_⟩; replace BK533 := Aside0.mk (KeepBut.blk hk (g' := gb533) (o := .cells #[.string (⟨#[]⟩ : ByteArray), .string (⟨#[]⟩ : ByteArray), .int .i64 0] 31 (0, 0)) (by (with_reducible repeat (first | refine blk_drewN ?_ _ | refine blk_drew ?_ | refine blk_alloc ?_ _)); refine blk_far ?_ NB533_544.out _; (with_reducible repeat (first | refine blk_drewN ?_ _ | refine blk_drew ?_ | refine blk_alloc ?_ _)); refine blk_far ?_ NB533_544.out _; (with_reducible repeat (first | refine blk_drewN ?_ _ | refine blk_drew ?_ | refine blk_alloc ?_ _)); refine blk_far ?_ NB533_544.out _; (with_reducible repeat (first | refine blk_drewN ?_ _ | refine blk_drew ?_ | refine blk_alloc ?_ _)); exact BK533.out) NB533_538.out (by simp)); replace BK534 := Aside0.mk (KeepBut.blk hk (g' := gb534) (o := .cells #[.string (⟨#[]⟩ : ByteArray), .string (⟨#[]⟩ : ByteArray)] 27 (0, 0)) (by (with_reducible repeat (first | refine blk_drewN ?_ _ | refine blk_drew ?_ | refine blk_alloc ?_ _)); refine blk_far ?_ NB534_544.out _; (with_reducible repeat (first | refine blk_drewN ?_ _ | refine blk_drew ?_ | refine blk_alloc ?_ _)); refine blk_far ?_ NB534_544.out _; (with_reducible repeat (first | refine blk_drewN ?_ _ | refine blk_drew ?_ | refine blk_alloc ?_ _)); refine blk_far ?_ NB534_544.out _; (with_reducible repeat (first | refine blk_drewN ?_ _ | refine blk_drew ?_ | refine blk_alloc ?_ _)); exact BK534.out) NB534_538.out (by simp)); replace BK544 := Aside0.mk (KeepBut.blk hk (g' := gb544) (o := .cells #[.string t539, .string t540, .int .i64 t541] 31 (0, 0)) (by (with_reducible repeat (first | refine blk_drewN ?_ _ | refine blk_drew ?_ | refine blk_alloc ?_ _)); refine blk_put (cs := #[.string t539, .string t540, .int .i64 0]) ?_ 2 _ rfl; (with_reducible repeat (first | refine blk_drewN ?_ _ | refine blk_drew ?_ | refine blk_alloc ?_ _)); refine blk_put (cs := #[.string t539, .string (⟨#[]⟩ : ByteArray), .int .i64 0]) ?_ 1 _ rfl; (with_reducible repeat (first | refine blk_drewN ?_ _ | refine blk_drew ?_ | refine blk_alloc ?_ _)); refine blk_put (cs := #[.string (⟨#[]⟩ : ByteArray), .string (⟨#[]⟩ : ByteArray), .int .i64 0]) ?_ 0 _ rfl; (with_reducible repeat (first | refine blk_drewN ?_ _ | refine blk_drew ?_ | refine blk_alloc ?_ _)); exact BK544.out) NB544_538.out (by simp)); replace HB := Aside0.mk (hb); replace HI538 := Aside0.mk (hi); (try clear hb); (try clear hb2); (try clear hk); (try clear hi)))
  replace BK533 := Aside0.mk (blk_drew BK533.out)
  replace BK534 := Aside0.mk (blk_drew BK534.out)
  replace BK544 := Aside0.mk (blk_drew BK544.out)
  replace HI538 := Aside0.mk (IsS74.drew HI538.out)
  replace HB := Aside0.mk (below_drew1 HB.out)
  refine start_ (n := 5) (S := fun w' => w'.cell? ⟨gb544, 0, none⟩ = some (.string t539) ∧ w'.cell? ⟨gb544, 1, none⟩ = some (.string t540) ∧ w'.cell? ⟨gb544, 2, none⟩ = some (.int .i64 t541)) (ds := []) #[false, false, false, false, false] (by kernel_rfl) rfl rfl ⟨(blk_cell BK544.out 0).trans rfl, (blk_cell BK544.out 1).trans rfl, (blk_cell BK544.out 2).trans rfl⟩ (fun hHeld => ?_)
  generalize w45.drew = w46 at BK533 BK534 BK544 HI538 HB hHeld ⊢
  refine pure_ (i := 1) (N := some 29) (v := ?_) (a' := ?_) #[false, true, false, false, false] rfl rfl (by kernel_rfl) (fun _ _ _ h => h) (Or.inl ⟨by rfl, ?_⟩) ?_ ?_
  rotate_left
  ·
   intro w'
   go_simp
   with_reducible rfl
  rotate_left
  ·
   simp only [Act.put, List.setIfInBounds_toArray, List.set_cons_zero, List.set_cons_succ, i64_w, i32_w]
   rfl
  refine take_ (i := 0) (N := some 28) (v := ?_) (a' := ?_) #[true, true, false, false, false] rfl rfl (by kernel_rfl) (fun _ _ _ h => h) (Or.inl ⟨by rfl, ?_⟩) hHeld ?_ ?_
  rotate_left
  ·
   rintro w' ⟨s0, s1, s2⟩
   go_simp
   with_reducible rfl
  rotate_left
  ·
   simp only [Act.put, List.setIfInBounds_toArray, List.set_cons_zero, List.set_cons_succ, i64_w, i32_w]
   rfl
  refine one_ (i := 2) (N := some 30) #[true, true, true, false, false] rfl rfl (by kernel_rfl) (by decide) (fun K hK => ?_)
  refine gs_ Tryd.func56 #[.pointer (some ⟨g538, 0, none⟩)] ?_
  with_reducible refine (spec_l1Cur_logRecord.calls g538 t535 t546 t547 t559 t560 t561 t562 w _ ?side1 ?side2 A35.out).mono ?_
  (case side1 => exact is74_3 HI538.out NB538_533.out NB538_534.out NB538_544.out)
  (case side2 => repeat (first | (with_reducible first | exact HB.out | apply below_alloc | apply pw_below_drewN | apply below_drew1 | refine below_set ?_ (IsS74.ge HI538.out) | refine below_set ?_ GE533.out | refine below_set ?_ GE534.out | refine below_set ?_ GE544.out) | exact HB.out))
  rintro e w47 ⟨rfl, hi, hb, hk⟩
  refine ⟨_, rfl, ?_⟩
  replace BK533 := Aside0.mk (KeepBut.blk hk (g' := gb533) (o := .cells #[.string (⟨#[]⟩ : ByteArray), .string (⟨#[]⟩ : ByteArray), .int .i64 0] 31 (0, 0)) (bk_ BK533.out) NB533_538.out (by simp))
  replace BK534 := Aside0.mk (KeepBut.blk hk (g' := gb534) (o := .cells #[.string (⟨#[]⟩ : ByteArray), .string (⟨#[]⟩ : ByteArray)] 27 (0, 0)) (bk_ BK534.out) NB534_538.out (by simp))
  replace BK544 := Aside0.mk (KeepBut.blk hk (g' := gb544) (o := .cells #[.string t539, .string t540, .int .i64 t541] 31 (0, 0)) (bk_ BK544.out) NB544_538.out (by simp))
  replace HB := Aside0.mk (hb)
  replace HI538 := Aside0.mk (hi)
  (try clear hb)
  (try clear hb2)
  (try clear hk)
  (try clear hi)
  refine hK.out _ _ ⟨(blk_cell BK544.out 0).trans rfl, (blk_cell BK544.out 1).trans rfl, (blk_cell BK544.out 2).trans rfl⟩ (fun hHeld => ?_)
  clear hK K
  refine na_ ?_
  refine one_ (i := 3) (N := none) #[true, true, true, true, false] rfl rfl (by kernel_rfl) (by decide) (fun K hK => ?_)
  have hs48 : w47.cell? ⟨gb533, 0, none⟩ = some (.string (⟨#[]⟩ : ByteArray)) := (blk_cell BK533.out 0).trans rfl
  have hfs48 := blk_frozen BK533.out 0
  have hns48_1 := NB534_533.out
  have hns48_2 := NB544_533.out
  have hms48_1 := NB533_534.out
  have hms48_2 := NB533_544.out
  have hs49 : w47.cell? ⟨gb533, 1, none⟩ = some (.string (⟨#[]⟩ : ByteArray)) := (blk_cell BK533.out 1).trans rfl
  have hfs49 := blk_frozen BK533.out 1
  have hns49_1 := NB534_533.out
  have hns49_2 := NB544_533.out
  have hms49_1 := NB533_534.out
  have hms49_2 := NB533_544.out
  have hs50 : w47.cell? ⟨gb533, 2, none⟩ = some (.int .i64 0) := (blk_cell BK533.out 2).trans rfl
  have hfs50 := blk_frozen BK533.out 2
  have hns50_1 := NB534_533.out
  have hns50_2 := NB544_533.out
  have hms50_1 := NB533_534.out
  have hms50_2 := NB533_544.out
  refine skip_ (w1 := ?_) (by rfl) rfl ?_ ?_
  rotate_left
  ·
   go_simp
   rfl
  refine hK.out _ _ ⟨((cell_far (p := ⟨gb533, _, none⟩) NB544_533.out _).trans (((cell_far (p := ⟨gb533, _, none⟩) NB544_533.out _).trans (((cell_far (p := ⟨gb533, _, none⟩) NB544_533.out _).trans (hHeld.1)))))), ((cell_far (p := ⟨gb533, _, none⟩) NB544_533.out _).trans (((cell_far (p := ⟨gb533, _, none⟩) NB544_533.out _).trans (((cell_far (p := ⟨gb533, _, none⟩) NB544_533.out _).trans (hHeld.2.1)))))), ((cell_far (p := ⟨gb533, _, none⟩) NB544_533.out _).trans (((cell_far (p := ⟨gb533, _, none⟩) NB544_533.out _).trans (((cell_far (p := ⟨gb533, _, none⟩) NB544_533.out _).trans (hHeld.2.2))))))⟩ (fun hHeld => ?_)
  clear hK K
  refine one_ (i := 4) (N := none) #[true, true, true, true, true] rfl rfl (by kernel_rfl) (by decide) (fun K hK => ?_)
  have hs51 : w47.cell? ⟨gb534, 0, none⟩ = some (.string (⟨#[]⟩ : ByteArray)) := (blk_cell BK534.out 0).trans rfl
  have hfs51 := blk_frozen BK534.out 0
  have hns51_0 := NB533_534.out
  have hns51_2 := NB544_534.out
  have hms51_0 := NB534_533.out
  have hms51_2 := NB534_544.out
  have hs52 : w47.cell? ⟨gb534, 1, none⟩ = some (.string (⟨#[]⟩ : ByteArray)) := (blk_cell BK534.out 1).trans rfl
  have hfs52 := blk_frozen BK534.out 1
  have hns52_0 := NB533_534.out
  have hns52_2 := NB544_534.out
  have hms52_0 := NB534_533.out
  have hms52_2 := NB534_544.out
  refine skip_ (w1 := ?_) (by rfl) rfl ?_ ?_
  rotate_left
  ·
   go_simp
   rfl
  refine hK.out _ _ ⟨((cell_far (p := ⟨gb534, _, none⟩) NB544_534.out _).trans (((cell_far (p := ⟨gb534, _, none⟩) NB544_534.out _).trans (hHeld.1)))), ((cell_far (p := ⟨gb534, _, none⟩) NB544_534.out _).trans (((cell_far (p := ⟨gb534, _, none⟩) NB544_534.out _).trans (hHeld.2.1)))), ((cell_far (p := ⟨gb534, _, none⟩) NB544_534.out _).trans (((cell_far (p := ⟨gb534, _, none⟩) NB544_534.out _).trans (hHeld.2.2))))⟩ (fun hHeld => ?_)
  clear hK K
  refine done_ (by kernel_rfl) ?_
  try go_wp2
  refine bodyPost_ret (results_cc rfl _ _ gb533 gb534 31 27 #[.string t539, .string t540, .int .i64 t541] #[.string t559, .string t560] (0, 0) (0, 0) _ _ rfl (by (with_reducible repeat (first | refine blk_drewN ?_ _ | refine blk_drew ?_ | refine blk_alloc ?_ _)); refine blk_far ?_ NB533_534.out _; (with_reducible repeat (first | refine blk_drewN ?_ _ | refine blk_drew ?_ | refine blk_alloc ?_ _)); refine blk_far ?_ NB533_534.out _; (with_reducible repeat (first | refine blk_drewN ?_ _ | refine blk_drew ?_ | refine blk_alloc ?_ _)); refine blk_put (cs := #[.string t539, .string t540, .int .i64 0]) ?_ 2 _ rfl; (with_reducible repeat (first | refine blk_drewN ?_ _ | refine blk_drew ?_ | refine blk_alloc ?_ _)); refine blk_put (cs := #[.string t539, .string (⟨#[]⟩ : ByteArray), .int .i64 0]) ?_ 1 _ rfl; (with_reducible repeat (first | refine blk_drewN ?_ _ | refine blk_drew ?_ | refine blk_alloc ?_ _)); refine blk_put (cs := #[.string (⟨#[]⟩ : ByteArray), .string (⟨#[]⟩ : ByteArray), .int .i64 0]) ?_ 0 _ rfl; (with_reducible repeat (first | refine blk_drewN ?_ _ | refine blk_drew ?_ | refine blk_alloc ?_ _)); exact BK533.out) Tryd.underlying31 rfl (by kernel_rfl) rfl (by (with_reducible repeat (first | refine blk_drewN ?_ _ | refine blk_drew ?_ | refine blk_alloc ?_ _)); refine blk_put (cs := #[.string t559, .string (⟨#[]⟩ : ByteArray)]) ?_ 1 _ rfl; (with_reducible repeat (first | refine blk_drewN ?_ _ | refine blk_drew ?_ | refine blk_alloc ?_ _)); refine blk_put (cs := #[.string (⟨#[]⟩ : ByteArray), .string (⟨#[]⟩ : ByteArray)]) ?_ 0 _ rfl; (with_reducible repeat (first | refine blk_drewN ?_ _ | refine blk_drew ?_ | refine blk_alloc ?_ _)); refine blk_far ?_ NB534_533.out _; (with_reducible repeat (first | refine blk_drewN ?_ _ | refine blk_drew ?_ | refine blk_alloc ?_ _)); refine blk_far ?_ NB534_533.out _; (with_reducible repeat (first | refine blk_drewN ?_ _ | refine blk_drew ?_ | refine blk_alloc ?_ _)); refine blk_far ?_ NB534_533.out _; (with_reducible repeat (first | refine blk_drewN ?_ _ | refine blk_drew ?_ | refine blk_alloc ?_ _)); exact BK534.out) Tryd.underlying27 rfl (by kernel_rfl)) rfl ?_
  exact ⟨rr_, by repeat (first | (with_reducible first | exact HB.out | apply below_alloc | apply pw_below_drewN | apply below_drew1 | refine below_set ?_ (IsS74.ge HI538.out) | refine below_set ?_ GE533.out | refine below_set ?_ GE534.out | refine below_set ?_ GE544.out) | exact HB.out)⟩
def spec_IsValidRecord.f (k : Nat) (a0_0 : ByteArray) (a0_1 : ByteArray) : Option (Bool) := (spec_l27Good.f k a0_0 a0_1).bind fun t564 => (some t564)
set_option maxHeartbeats 8000000 in
set_option maxRecDepth 100000 in
theorem spec_IsValidRecord.calls (k : Nat) (a0_0 : ByteArray) (a0_1 : ByteArray) (r : Bool) (w : World) (h : spec_IsValidRecord.f k a0_0 a0_1 = some r) :
  Calls Tryd.prog 38 #[.agg #[.string a0_0, .string a0_1]] w fun e w' => e = .returned (.bool r) ∧ Below w.heap.size w w' := by
 have hu27 := Tryd.underlying27
 have HB := Aside0.mk (Below.refl w.heap.size w)
 have H : ((spec_l27Good.f k a0_0 a0_1).bind fun t564 => (some t564)) = some r := h
 clear h
 replace H := Option.bind_eq_some_iff.mp H
 obtain ⟨t564, A20, H⟩ := H
 replace H : (some t564) = some r := H
 have A2 := Aside0.mk A20
 clear A20
 obtain rfl := Option.some.inj H
 go_enter Tryd.func38, Tryd.ntmps38
 go_wp2_with (first | ((with_reducible refine gate_dst (N := 1) rfl ?_); refine box_event ?hg (N := 1) ?hd (cs := #[.string a0_0, .string a0_1]) (t := 27) ?hr ?_; (case hd => rfl); (case hg => rfl); (case hr => first | (go_simp; done) | (go_simp; rfl)); intro gb563 hg w3 hbox hb; have BK563 := Aside0.mk (hbox); have GW563 := Aside0.mk ((bz_ hg (lb0_ HB.out))); have GE563 := Aside0.mk ((bz_ hg (lb0_ HB.out))); replace HB := Aside0.mk (below_step (lb0_ HB.out) hb); clear hb hbox hg; obtain ⟨hcz4_0, hcz4_1⟩ := cz2_ BK563.out; obtain ⟨hfz4_0, hfz4_1⟩ := fz2_ BK563.out) | ((with_reducible refine gate_callee (f := 43) rfl ?_); refine ga_ (some 4) Tryd.func43 #[.agg #[.string a0_0, .string a0_1]] ?_; (with_reducible refine (spec_l27Good.calls k a0_0 a0_1 t564 _ A2.out).mono ?_); rintro e w5 ⟨rfl, hb⟩; refine ⟨_, rfl, ?_⟩; replace BK563 := Aside0.mk (bb_ (bk_ BK563.out) hb); replace HB := Aside0.mk (below_step (lb1_ HB.out GE563.out) hb); (try clear hb); (try clear hb2); (try clear hk); (try clear hi)))
 go_ret
 exact ⟨rr_, lb1_ HB.out GE563.out⟩
end Go.Proofs.YtdpinnhgkocjhaaDoor.Pr

