/-
What is proved: parts of the law FnLevels: what the functions that it reaches compute, and the plain law.
Conditions: those of each theorem.
-/
import Derived.Test.YtojaeidabmfajaaCFnLevels1
namespace Go.Proofs.Ytojaeidabmfajaa.Pr
open Go.RowKit Go.Proofs.YtojaeidabmfajaaW.PrintWords Go.Proofs.YtojaeidabmfajaaW.PrintLast Go.Proofs.YtojaeidabmfajaaW.PrintMore
attribute [local go_sem] max2_int min2_int max_two min_two max_three min_three max_four min_four   -- for this text's walks alone
set_option linter.unusedVariables false
set_option linter.unusedSimpArgs false
def spec_l23Good.l0 : Nat → List (S54) → Int → Option (Bool)
 | 0, _, _ => none
 | k + 1, x0, x3 => if x3 < (x0.length : Int) then (if 0 ≤ x3 then ((spec_l1In.f ((rd_T54 x0 x3).f0) 0 999).bind fun t103 => (if t103 = true then ((spec_l23Level.f ((rd_T54 x0 x3).f1)).bind fun t105 => (if t105 = true then (if x3 > 0 then (if 0 ≤ (wrap64 (x3 - 1)) then (if (wrap64 (x3 - 1)) < (x0.length : Int) then (if ((rd_T54 x0 (wrap64 (x3 - 1))).f0) ≥ ((rd_T54 x0 x3).f0) then (some false) else (spec_l23Good.l0 k x0 (wrap64 (x3 + 1)))) else (none)) else (none)) else (spec_l23Good.l0 k x0 (wrap64 (x3 + 1)))) else (some false))) else (some false))) else (none)) else (some (decide ((x0.length : Int) ≤ 15)))
def spec_l23Good.f (k : Nat) (l0 : List (S54)) : Option (Bool) := spec_l23Good.l0 k l0 0
def spec_l23Good.T4 : Bool × List (List Nat × List Nat) := (true, [([], []), ([], []), ([0, 1], [0, 1]), ([2], [2]), ([3], [3]), ([4], [4]), ([5], [5]), ([6, 5], [6]), ([7], [7]), ([7], [7]), ([8, 9, 7], [7, 8, 9]), ([10, 7], [7, 10]), ([11, 7], [7, 11]), ([12, 7, 7], [7, 12]), ([13, 7], [7, 13]), ([7, 14], [7, 14]), ([15, 13], [15]), ([16], [16]), ([17, 16], [16, 17]), ([18, 16, 16], [16, 18]), ([19], [19]), ([19], [19]), ([21, 19], [19, 21]), ([20, 22, 19], [19, 20, 22]), ([23, 19], [19, 23]), ([24, 19], [19, 24]), ([19], [19]), ([19], [19]), ([26, 27, 19], [19, 26, 27]), ([28, 19], [19, 28]), ([29, 19], [19, 29]), ([25, 30, 19], [19, 25, 30]), ([19, 31, 16], [16, 19, 31]), ([16, 32], [16, 32])])
def spec_l23Good.B4 : List Nat := [0, 0, 3, 7, 15, 31, 63, 127, 255, 255, 1023, 2047, 4095, 8191, 16383, 32767, 65535, 131071, 262143, 524287, 1048575, 1048575, 3145727, 8388607, 16777215, 33554431, 1048575, 1048575, 202375167, 470810623, 1007681535, 2147483647, 4294967295, 8589934591]
theorem spec_l23Good.tab4 : rtab .any (opsOf Try.f62 4) = spec_l23Good.T4 := by kernel_rfl
theorem spec_l23Good.bits4 : waitsOk spec_l23Good.T4.2 spec_l23Good.B4 = true := by kernel_rfl
abbrev spec_l23Good.mk0 : Array Bool := #[fF,fF,fF,fF,fF,fF,fF,fF,fF,fF,fF,fF,fF,fF,fF,fF,fF,fF,fF,fF,fF,fF,fF,fF,fF,fF,fF,fF,fF,fF,fF,fF,fF,fF]
abbrev spec_l23Good.mk1 : Array Bool := #[tT,fF,fF,fF,fF,fF,fF,fF,fF,fF,fF,fF,fF,fF,fF,fF,fF,fF,fF,fF,fF,fF,fF,fF,fF,fF,fF,fF,fF,fF,fF,fF,fF,fF]
abbrev spec_l23Good.mk2 : Array Bool := #[tT,tT,fF,fF,fF,fF,fF,fF,fF,fF,fF,fF,fF,fF,fF,fF,fF,fF,fF,fF,fF,fF,fF,fF,fF,fF,fF,fF,fF,fF,fF,fF,fF,fF]
abbrev spec_l23Good.mk3 : Array Bool := #[tT,tT,tT,fF,fF,fF,fF,fF,fF,fF,fF,fF,fF,fF,fF,fF,fF,fF,fF,fF,fF,fF,fF,fF,fF,fF,fF,fF,fF,fF,fF,fF,fF,fF]
abbrev spec_l23Good.mk4 : Array Bool := #[tT,tT,tT,tT,fF,fF,fF,fF,fF,fF,fF,fF,fF,fF,fF,fF,fF,fF,fF,fF,fF,fF,fF,fF,fF,fF,fF,fF,fF,fF,fF,fF,fF,fF]
abbrev spec_l23Good.mk5 : Array Bool := #[tT,tT,tT,tT,tT,fF,fF,fF,fF,fF,fF,fF,fF,fF,fF,fF,fF,fF,fF,fF,fF,fF,fF,fF,fF,fF,fF,fF,fF,fF,fF,fF,fF,fF]
abbrev spec_l23Good.mk6 : Array Bool := #[tT,tT,tT,tT,tT,tT,fF,fF,fF,fF,fF,fF,fF,fF,fF,fF,fF,fF,fF,fF,fF,fF,fF,fF,fF,fF,fF,fF,fF,fF,fF,fF,fF,fF]
abbrev spec_l23Good.mk7 : Array Bool := #[tT,tT,tT,tT,tT,tT,tT,fF,fF,fF,fF,fF,fF,fF,fF,fF,fF,fF,fF,fF,fF,fF,fF,fF,fF,fF,fF,fF,fF,fF,fF,fF,fF,fF]
abbrev spec_l23Good.mk8 : Array Bool := #[tT,tT,tT,tT,tT,tT,tT,tT,fF,fF,fF,fF,fF,fF,fF,fF,fF,fF,fF,fF,fF,fF,fF,fF,fF,fF,fF,fF,fF,fF,fF,fF,fF,fF]
abbrev spec_l23Good.mk9 : Array Bool := #[tT,tT,tT,tT,tT,tT,tT,tT,tT,fF,fF,fF,fF,fF,fF,fF,fF,fF,fF,fF,fF,fF,fF,fF,fF,fF,fF,fF,fF,fF,fF,fF,fF,fF]
abbrev spec_l23Good.mk10 : Array Bool := #[tT,tT,tT,tT,tT,tT,tT,tT,tT,tT,fF,fF,fF,fF,fF,fF,fF,fF,fF,fF,fF,fF,fF,fF,fF,fF,fF,fF,fF,fF,fF,fF,fF,fF]
abbrev spec_l23Good.mk11 : Array Bool := #[tT,tT,tT,tT,tT,tT,tT,tT,tT,tT,tT,fF,fF,fF,fF,fF,fF,fF,fF,fF,fF,fF,fF,fF,fF,fF,fF,fF,fF,fF,fF,fF,fF,fF]
abbrev spec_l23Good.mk12 : Array Bool := #[tT,tT,tT,tT,tT,tT,tT,tT,tT,tT,tT,tT,fF,fF,fF,fF,fF,fF,fF,fF,fF,fF,fF,fF,fF,fF,fF,fF,fF,fF,fF,fF,fF,fF]
abbrev spec_l23Good.mk13 : Array Bool := #[tT,tT,tT,tT,tT,tT,tT,tT,tT,tT,tT,tT,tT,fF,fF,fF,fF,fF,fF,fF,fF,fF,fF,fF,fF,fF,fF,fF,fF,fF,fF,fF,fF,fF]
abbrev spec_l23Good.mk14 : Array Bool := #[tT,tT,tT,tT,tT,tT,tT,tT,tT,tT,tT,tT,tT,tT,fF,fF,fF,fF,fF,fF,fF,fF,fF,fF,fF,fF,fF,fF,fF,fF,fF,fF,fF,fF]
abbrev spec_l23Good.mk15 : Array Bool := #[tT,tT,tT,tT,tT,tT,tT,tT,tT,tT,tT,tT,tT,tT,tT,fF,fF,fF,fF,fF,fF,fF,fF,fF,fF,fF,fF,fF,fF,fF,fF,fF,fF,fF]
abbrev spec_l23Good.mk16 : Array Bool := #[tT,tT,tT,tT,tT,tT,tT,tT,tT,tT,tT,tT,tT,tT,tT,tT,fF,fF,fF,fF,fF,fF,fF,fF,fF,fF,fF,fF,fF,fF,fF,fF,fF,fF]
abbrev spec_l23Good.mk17 : Array Bool := #[tT,tT,tT,tT,tT,tT,tT,tT,tT,tT,tT,tT,tT,tT,tT,tT,tT,fF,fF,fF,fF,fF,fF,fF,fF,fF,fF,fF,fF,fF,fF,fF,fF,fF]
abbrev spec_l23Good.mk18 : Array Bool := #[tT,tT,tT,tT,tT,tT,tT,tT,tT,tT,tT,tT,tT,tT,tT,tT,tT,tT,fF,fF,fF,fF,fF,fF,fF,fF,fF,fF,fF,fF,fF,fF,fF,fF]
abbrev spec_l23Good.mk19 : Array Bool := #[tT,tT,tT,tT,tT,tT,tT,tT,tT,tT,tT,tT,tT,tT,tT,tT,tT,tT,tT,fF,fF,fF,fF,fF,fF,fF,fF,fF,fF,fF,fF,fF,fF,fF]
abbrev spec_l23Good.mk20 : Array Bool := #[tT,tT,tT,tT,tT,tT,tT,tT,tT,tT,tT,tT,tT,tT,tT,tT,tT,tT,tT,tT,fF,fF,fF,fF,fF,fF,fF,fF,fF,fF,fF,fF,fF,fF]
abbrev spec_l23Good.mk21 : Array Bool := #[tT,tT,tT,tT,tT,tT,tT,tT,tT,tT,tT,tT,tT,tT,tT,tT,tT,tT,tT,tT,tT,fF,fF,fF,fF,fF,fF,fF,fF,fF,fF,fF,fF,fF]
abbrev spec_l23Good.mk22 : Array Bool := #[tT,tT,tT,tT,tT,tT,tT,tT,tT,tT,tT,tT,tT,tT,tT,tT,tT,tT,tT,tT,tT,tT,fF,fF,fF,fF,fF,fF,fF,fF,fF,fF,fF,fF]
abbrev spec_l23Good.mk23 : Array Bool := #[tT,tT,tT,tT,tT,tT,tT,tT,tT,tT,tT,tT,tT,tT,tT,tT,tT,tT,tT,tT,tT,tT,tT,fF,fF,fF,fF,fF,fF,fF,fF,fF,fF,fF]
abbrev spec_l23Good.mk24 : Array Bool := #[tT,tT,tT,tT,tT,tT,tT,tT,tT,tT,tT,tT,tT,tT,tT,tT,tT,tT,tT,tT,tT,tT,tT,tT,fF,fF,fF,fF,fF,fF,fF,fF,fF,fF]
abbrev spec_l23Good.mk25 : Array Bool := #[tT,tT,tT,tT,tT,tT,tT,tT,tT,tT,tT,tT,tT,tT,tT,tT,tT,tT,tT,tT,tT,tT,tT,tT,tT,fF,fF,fF,fF,fF,fF,fF,fF,fF]
abbrev spec_l23Good.mk26 : Array Bool := #[tT,tT,tT,tT,tT,tT,tT,tT,tT,tT,tT,tT,tT,tT,tT,tT,tT,tT,tT,tT,tT,tT,tT,tT,tT,fF,tT,fF,fF,fF,fF,fF,fF,fF]
abbrev spec_l23Good.mk27 : Array Bool := #[tT,tT,tT,tT,tT,tT,tT,tT,tT,tT,tT,tT,tT,tT,tT,tT,tT,tT,tT,tT,tT,tT,tT,tT,tT,fF,tT,tT,fF,fF,fF,fF,fF,fF]
abbrev spec_l23Good.mk28 : Array Bool := #[tT,tT,tT,tT,tT,tT,tT,tT,tT,tT,tT,tT,tT,tT,tT,tT,tT,tT,tT,tT,tT,tT,tT,tT,tT,fF,tT,tT,tT,fF,fF,fF,fF,fF]
abbrev spec_l23Good.mk29 : Array Bool := #[tT,tT,tT,tT,tT,tT,tT,tT,tT,tT,tT,tT,tT,tT,tT,tT,tT,tT,tT,tT,tT,tT,tT,tT,tT,fF,tT,tT,tT,tT,fF,fF,fF,fF]
abbrev spec_l23Good.mk30 : Array Bool := #[tT,tT,tT,tT,tT,tT,tT,tT,tT,tT,tT,tT,tT,tT,tT,tT,tT,tT,tT,tT,tT,tT,tT,tT,tT,tT,tT,tT,tT,tT,fF,fF,fF,fF]
abbrev spec_l23Good.mk31 : Array Bool := #[tT,tT,tT,tT,tT,tT,tT,tT,tT,tT,tT,tT,tT,tT,tT,tT,tT,tT,tT,tT,tT,tT,tT,tT,tT,tT,tT,tT,tT,tT,tT,fF,fF,fF]
abbrev spec_l23Good.mk32 : Array Bool := #[tT,tT,tT,tT,tT,tT,tT,tT,tT,tT,tT,tT,tT,tT,tT,tT,tT,tT,tT,tT,tT,tT,tT,tT,tT,tT,tT,tT,tT,tT,tT,tT,fF,fF]
abbrev spec_l23Good.mk33 : Array Bool := #[tT,tT,tT,tT,tT,tT,tT,tT,tT,tT,tT,tT,tT,tT,tT,tT,tT,tT,tT,tT,tT,tT,tT,tT,tT,tT,tT,tT,tT,tT,tT,tT,tT,fF]
abbrev spec_l23Good.mk34 : Array Bool := #[tT,tT,tT,tT,tT,tT,tT,tT,tT,tT,tT,tT,tT,tT,tT,tT,tT,tT,tT,tT,tT,tT,tT,tT,tT,tT,tT,tT,tT,tT,tT,tT,tT,tT]
abbrev spec_l23Good.mk35 : Array Bool := #[tT,tT,tT,tT,tT,tT,tT,tT,tT,tT,tT,tT,tT,tT,tT,tT,tT,tT,tT,tT,tT,tT,tT,tT,tT,tT,fF,fF,fF,fF,fF,fF,fF,fF]
abbrev spec_l23Good.mk36 : Array Bool := #[tT,tT,tT,tT,tT,tT,tT,tT,tT,tT,tT,tT,tT,tT,tT,tT,tT,tT,tT,tT,tT,tT,tT,tT,tT,tT,tT,fF,fF,fF,fF,fF,fF,fF]
abbrev spec_l23Good.mk37 : Array Bool := #[tT,tT,tT,tT,tT,tT,tT,tT,tT,tT,tT,tT,tT,tT,tT,tT,tT,tT,tT,tT,tT,tT,tT,tT,tT,tT,tT,tT,fF,fF,fF,fF,fF,fF]
abbrev spec_l23Good.mk38 : Array Bool := #[tT,tT,tT,tT,tT,tT,tT,tT,tT,tT,tT,tT,tT,tT,tT,tT,tT,tT,tT,tT,tT,tT,tT,tT,tT,tT,tT,tT,tT,fF,fF,fF,fF,fF]
set_option maxHeartbeats 8000000 in
set_option maxRecDepth 100000 in
theorem spec_l23Good.calls (k : Nat) (A0 : Option Addr) (c0 : Nat) (l0 : List (S54)) (r : Bool) (w : World) (hr0 : Kd.C k54 w A0 l0.length l0) (hc0 : l0.length ≤ c0) (h : spec_l23Good.f k l0 = some r) :
  Calls Try.prog 62 #[.slice A0 l0.length c0] w fun e w' => e = .returned (.bool r) ∧ Below w.heap.size w w' := by
 have HR0 := Aside0.mk hr0
 have HC0 := Aside0.mk hc0
 clear hr0 hc0
 have HB := Aside0.mk (Below.refl w.heap.size w)
 have H : (spec_l23Good.l0 k l0 0) = some r := h
 clear h
 have H' := Aside0.mk H
 clear H
 go_enter Try.func62, Try.ntmps62
 go_wp2
 go_loopg [3] k (fun kq v3 w' => ∃ (x3_1 : Int), v3 = .int .i64 x3_1 ∧ Aside0 (spec_l23Good.l0 kq l0 x3_1 = some r) ∧ Aside0 (kq ≤ k) ∧ Aside0 (Below w.heap.size w w'))
 case atStart => exact ⟨(0), (by first | rfl | (simp; done) | (simp [*]; done)), H', ⟨Nat.le_refl _⟩, ⟨lb0_ HB.out⟩⟩
 case round =>
  clear H'
  obtain ⟨x3_1, rfl, HA, HK1, HB⟩ := hrel
  cases gk with
  | zero => exact absurd HA.out (by simp [spec_l23Good.l0])
  | succ k1 =>
   have H := HA.out
   clear HA
   simp only [spec_l23Good.l0] at H
   by_cases c2 : x3_1 < (l0.length : Int)
   ·
    rw [if_pos c2] at H
    have c2b0 : decide (x3_1 < (l0.length : Int)) = true := decide_eq_true c2
    clear c2
    by_cases c3 : 0 ≤ x3_1
    ·
     rw [if_pos c3] at H
     have c3b0 : decide (0 ≤ x3_1) = true := decide_eq_true c3
     clear c3
     replace H := Option.bind_eq_some_iff.mp H
     obtain ⟨t103, A40, H⟩ := H
     replace H : (if t103 = true then ((spec_l23Level.f ((rd_T54 l0 x3_1).f1)).bind fun t105 => (if t105 = true then (if x3_1 > 0 then (if 0 ≤ (wrap64 (x3_1 - 1)) then (if (wrap64 (x3_1 - 1)) < (l0.length : Int) then (if ((rd_T54 l0 (wrap64 (x3_1 - 1))).f0) ≥ ((rd_T54 l0 x3_1).f0) then (some false) else (spec_l23Good.l0 k1 l0 (wrap64 (x3_1 + 1)))) else (none)) else (none)) else (spec_l23Good.l0 k1 l0 (wrap64 (x3_1 + 1)))) else (some false))) else (some false)) = some r := H
     have A4 := Aside0.mk A40
     clear A40
     by_cases c5 : t103 = true
     ·
      subst c5
      have H1 : ((spec_l23Level.f ((rd_T54 l0 x3_1).f1)).bind fun t105 => (if t105 = true then (if x3_1 > 0 then (if 0 ≤ (wrap64 (x3_1 - 1)) then (if (wrap64 (x3_1 - 1)) < (l0.length : Int) then (if ((rd_T54 l0 (wrap64 (x3_1 - 1))).f0) ≥ ((rd_T54 l0 x3_1).f0) then (some false) else (spec_l23Good.l0 k1 l0 (wrap64 (x3_1 + 1)))) else (none)) else (none)) else (spec_l23Good.l0 k1 l0 (wrap64 (x3_1 + 1)))) else (some false))) = some r := by rw [if_pos rfl] at H; exact H
      clear H
      have H := H1
      clear H1
      replace H := Option.bind_eq_some_iff.mp H
      obtain ⟨t105, A60, H⟩ := H
      replace H : (if t105 = true then (if x3_1 > 0 then (if 0 ≤ (wrap64 (x3_1 - 1)) then (if (wrap64 (x3_1 - 1)) < (l0.length : Int) then (if ((rd_T54 l0 (wrap64 (x3_1 - 1))).f0) ≥ ((rd_T54 l0 x3_1).f0) then (some false) else (spec_l23Good.l0 k1 l0 (wrap64 (x3_1 + 1)))) else (none)) else (none)) else (spec_l23Good.l0 k1 l0 (wrap64 (x3_1 + 1)))) else (some false)) = some r := H
      have A6 := Aside0.mk A60
      clear A60
      by_cases c7 : t105 = true
      ·
       subst c7
       have H1 : (if x3_1 > 0 then (if 0 ≤ (wrap64 (x3_1 - 1)) then (if (wrap64 (x3_1 - 1)) < (l0.length : Int) then (if ((rd_T54 l0 (wrap64 (x3_1 - 1))).f0) ≥ ((rd_T54 l0 x3_1).f0) then (some false) else (spec_l23Good.l0 k1 l0 (wrap64 (x3_1 + 1)))) else (none)) else (none)) else (spec_l23Good.l0 k1 l0 (wrap64 (x3_1 + 1)))) = some r := by rw [if_pos rfl] at H; exact H
       clear H
       have H := H1
       clear H1
       by_cases c8 : x3_1 > 0
       ·
        rw [if_pos c8] at H
        have c8b0 : decide (0 < x3_1) = true := decide_eq_true c8; clear c8
        obtain ⟨ji9, hji9⟩ : ∃ j_ : Int, (wrap64 (x3_1 - 1)) = j_ := ⟨_, rfl⟩
        replace H : (if 0 ≤ (ji9) then (if (ji9) < (l0.length : Int) then (if ((rd_T54 l0 (ji9)).f0) ≥ ((rd_T54 l0 x3_1).f0) then (some false) else (spec_l23Good.l0 k1 l0 (wrap64 (x3_1 + 1)))) else (none)) else (none)) = some r := by first | (rw [hji9] at H; exact H) | (simp only [hji9] at H ⊢; exact H)
        (try rw [hji9] at A4); (try rw [hji9] at A6); have hji9w : (IntKind.i64.wrap (x3_1 - 1)) = ji9 := (i64_w _).trans hji9
        by_cases c10 : 0 ≤ (ji9)
        ·
         rw [if_pos c10] at H
         have c10b0 : decide (0 ≤ (ji9)) = true := decide_eq_true c10; clear c10
         by_cases c11 : (ji9) < (l0.length : Int)
         ·
          rw [if_pos c11] at H
          have c11b0 : decide ((ji9) < (l0.length : Int)) = true := decide_eq_true c11; clear c11
          by_cases c12 : ((rd_T54 l0 (ji9)).f0) ≥ ((rd_T54 l0 x3_1).f0)
          ·
           rw [if_pos c12] at H
           have c12b0 : decide (((rd_T54 l0 x3_1).f0) ≤ ((rd_T54 l0 (ji9)).f0)) = true := decide_eq_true c12; clear c12; obtain rfl := Option.some.inj H
           try go_wp2
           replace HB := Aside0.mk (below_drew1 HB.out); have p102 : 0 ≤ (x3_1 : Int) := dt_; have q102 : x3_1 < (l0.length : Int) := dt_; obtain ⟨ad102, e102, hx102_0, hx102_1⟩ := at_T54 HR0.out x3_1 p102 q102; have hw102_1 := hx102_1; have hw102_0 := hx102_0
           cases e102
           replace hx102_0 := bc_ HB.out hx102_0; replace hx102_1 := bc_ HB.out hx102_1; replace p102 := eq_true p102; replace q102 := eq_true q102; have p104 : 0 ≤ (x3_1 : Int) := dt_; have q104 : x3_1 < (l0.length : Int) := dt_; obtain ⟨ad104, e104, hx104_0, hx104_1⟩ := at_T54 HR0.out x3_1 p104 q104; have hw104_1 := hx104_1; have hw104_0 := hx104_0
           obtain rfl : ad102 = ad104 := (by injection e104)
           replace hx104_0 := bc_ HB.out hx104_0; replace hx104_1 := bc_ HB.out hx104_1; replace p104 := eq_true p104; replace q104 := eq_true q104; have p106 : 0 ≤ ((ji9) : Int) := dt_; have q106 : (ji9) < (l0.length : Int) := dt_; obtain ⟨ad106, e106, hx106_0, hx106_1⟩ := at_T54 HR0.out (ji9) p106 q106; have hw106_1 := hx106_1; have hw106_0 := hx106_0
           obtain rfl : ad102 = ad106 := (by injection e106)
           replace hx106_0 := bc_ HB.out hx106_0; replace hx106_1 := bc_ HB.out hx106_1; replace p106 := eq_true p106; replace q106 := eq_true q106; have p107 : 0 ≤ (x3_1 : Int) := dt_; have q107 : x3_1 < (l0.length : Int) := dt_; obtain ⟨ad107, e107, hx107_0, hx107_1⟩ := at_T54 HR0.out x3_1 p107 q107; have hw107_1 := hx107_1; have hw107_0 := hx107_0
           obtain rfl : ad102 = ad107 := (by injection e107)
           replace hx107_0 := bc_ HB.out hx107_0; replace hx107_1 := bc_ HB.out hx107_1; replace p107 := eq_true p107; replace q107 := eq_true q107; refine start_ (n := 34) (S := fun w' => w'.cell? (ad102.add ((x3_1).toNat * 2)) = some (.int .i64 ((rd_T54 l0 x3_1).f0)) ∧ w'.cell? ⟨(ad102.add ((x3_1).toNat * 2)).block, (ad102.add ((x3_1).toNat * 2)).off + 1, none⟩ = some (.int .i64 ((rd_T54 l0 x3_1).f1)) ∧ w'.cell? (ad102.add ((x3_1).toNat * 2)) = some (.int .i64 ((rd_T54 l0 x3_1).f0)) ∧ w'.cell? ⟨(ad102.add ((x3_1).toNat * 2)).block, (ad102.add ((x3_1).toNat * 2)).off + 1, none⟩ = some (.int .i64 ((rd_T54 l0 x3_1).f1)) ∧ w'.cell? (ad102.add (((ji9)).toNat * 2)) = some (.int .i64 ((rd_T54 l0 (ji9)).f0)) ∧ w'.cell? ⟨(ad102.add (((ji9)).toNat * 2)).block, (ad102.add (((ji9)).toNat * 2)).off + 1, none⟩ = some (.int .i64 ((rd_T54 l0 (ji9)).f1)) ∧ w'.cell? (ad102.add ((x3_1).toNat * 2)) = some (.int .i64 ((rd_T54 l0 x3_1).f0)) ∧ w'.cell? ⟨(ad102.add ((x3_1).toNat * 2)).block, (ad102.add ((x3_1).toNat * 2)).off + 1, none⟩ = some (.int .i64 ((rd_T54 l0 x3_1).f1))) (ds := []) spec_l23Good.mk0 (by kernel_rfl) rfl rfl ⟨(bc_ HB.out hw102_0), (bc_ HB.out hw102_1), (bc_ HB.out hw104_0), (bc_ HB.out hw104_1), (bc_ HB.out hw106_0), (bc_ HB.out hw106_1), (bc_ HB.out hw107_0), (bc_ HB.out hw107_1)⟩ (fun hHeld => ?_); refine with_tabW spec_l23Good.tab4 spec_l23Good.bits4 (fun HT_ HW_ => ?_); generalize wr.drew = w13 at HB hx102_0 hx102_1 hx104_0 hx104_1 hx106_0 hx106_1 hx107_0 hx107_1 hHeld ⊢; refine pz_ HT_ 0 (some 10) spec_l23Good.mk1 ?_; refine pz_ HT_ 1 (some 11) spec_l23Good.mk2 ?_; refine pz_ HT_ 2 (some 12) spec_l23Good.mk3 ?_; refine pz_ HT_ 3 (some 13) spec_l23Good.mk4 ?_; refine tk_ HT_ HW_ hHeld 4 (some 14) spec_l23Good.mk5 ?_; refine one_ (i := 5) (N := some 15) spec_l23Good.mk6 rfl rfl (one_of HT_.out (by kernel_rfl)) (by decide) (fun K hK => ?_); refine gs_ Try.func79 #[.int .i64 ((rd_T54 l0 x3_1).f0), .int .i64 0, .int .i64 999] ?_; (with_reducible refine (spec_l1In.calls ((rd_T54 l0 x3_1).f0) 0 999 true _ A4.out).mono ?_); rintro e w' ⟨rfl, ⟨nd, rfl⟩⟩; refine ⟨_, rfl, ?_⟩; refine hK.out _ _ ⟨((HB.out.cell (World.block_lt_of_cell? w _ hw102_0)).trans hw102_0), ((HB.out.cell (World.block_lt_of_cell? w _ hw102_1)).trans hw102_1), ((HB.out.cell (World.block_lt_of_cell? w _ hw104_0)).trans hw104_0), ((HB.out.cell (World.block_lt_of_cell? w _ hw104_1)).trans hw104_1), ((HB.out.cell (World.block_lt_of_cell? w _ hw106_0)).trans hw106_0), ((HB.out.cell (World.block_lt_of_cell? w _ hw106_1)).trans hw106_1), ((HB.out.cell (World.block_lt_of_cell? w _ hw107_0)).trans hw107_0), ((HB.out.cell (World.block_lt_of_cell? w _ hw107_1)).trans hw107_1)⟩ (fun hHeld => ?_); clear hK K; refine na_ ?_; refine pz_ HT_ 6 (some 16) spec_l23Good.mk7 ?_; refine pz_ HT_ 7 (some 17) spec_l23Good.mk8 ?_; refine pz_ HT_ 8 (some 18) spec_l23Good.mk9 ?_; refine pz_ HT_ 9 (some 19) spec_l23Good.mk10 ?_; refine pz_ HT_ 10 (some 20) spec_l23Good.mk11 ?_; refine pz_ HT_ 11 (some 21) spec_l23Good.mk12 ?_; refine tk_ HT_ HW_ hHeld 12 (some 22) spec_l23Good.mk13 ?_; refine one_ (i := 13) (N := some 23) spec_l23Good.mk14 rfl rfl (one_of HT_.out (by kernel_rfl)) (by decide) (fun K hK => ?_); refine gs_ Try.func89 #[.int .i64 ((rd_T54 l0 x3_1).f1)] ?_; (with_reducible refine (spec_l23Level.calls ((rd_T54 l0 x3_1).f1) true _ A6.out).mono ?_); rintro e w' ⟨rfl, ⟨nd, rfl⟩⟩; refine ⟨_, rfl, ?_⟩; refine hK.out _ _ ⟨((HB.out.cell (World.block_lt_of_cell? w _ hw102_0)).trans hw102_0), ((HB.out.cell (World.block_lt_of_cell? w _ hw102_1)).trans hw102_1), ((HB.out.cell (World.block_lt_of_cell? w _ hw104_0)).trans hw104_0), ((HB.out.cell (World.block_lt_of_cell? w _ hw104_1)).trans hw104_1), ((HB.out.cell (World.block_lt_of_cell? w _ hw106_0)).trans hw106_0), ((HB.out.cell (World.block_lt_of_cell? w _ hw106_1)).trans hw106_1), ((HB.out.cell (World.block_lt_of_cell? w _ hw107_0)).trans hw107_0), ((HB.out.cell (World.block_lt_of_cell? w _ hw107_1)).trans hw107_1)⟩ (fun hHeld => ?_); clear hK K; refine na_ ?_; refine pz_ HT_ 14 (some 24) spec_l23Good.mk15 ?_; refine pz_ HT_ 15 (some 25) spec_l23Good.mk16 ?_; refine pz_ HT_ 16 (some 26) spec_l23Good.mk17 ?_; refine pz_ HT_ 17 (some 27) spec_l23Good.mk18 ?_; refine pz_ HT_ 18 (some 28) spec_l23Good.mk19 ?_; refine pz_ HT_ 19 (some 29) spec_l23Good.mk20 ?_; refine pz_ HT_ 20 (some 30) spec_l23Good.mk21 ?_; refine pz_ HT_ 21 (some 31) spec_l23Good.mk22 ?_; refine pz_ HT_ 22 (some 32) spec_l23Good.mk23 ?_; refine pz_ HT_ 23 (some 33) spec_l23Good.mk24 ?_; refine pz_ HT_ 24 (some 34) spec_l23Good.mk25 ?_; refine pz_ HT_ 26 (some 36) spec_l23Good.mk26 ?_; refine pz_ HT_ 27 (some 37) spec_l23Good.mk27 ?_; refine pz_ HT_ 28 (some 38) spec_l23Good.mk28 ?_; refine pz_ HT_ 29 (some 39) spec_l23Good.mk29 ?_; refine tk_ HT_ HW_ hHeld 25 (some 35) spec_l23Good.mk30 ?_; refine tk_ HT_ HW_ hHeld 30 (some 40) spec_l23Good.mk31 ?_; refine pz_ HT_ 31 (some 41) spec_l23Good.mk32 ?_; refine pz_ HT_ 32 (some 42) spec_l23Good.mk33 ?_; refine pz_ HT_ 33 (some 43) spec_l23Good.mk34 ?_; refine done_ (done_of HT_.out (by kernel_rfl)) ?_
           try go_wp2
           go_ret
           exact ⟨by first | rfl | (simp [errW_none, errW_some] <;> rfl) | (simp only [← hji9]; first | rfl | (simp [errW_none, errW_some] <;> rfl)) | (simp [*, errW_none, errW_some] <;> rfl), lb0_ HB.out⟩
          ·
           rw [if_neg c12] at H
           have c12b0 : decide (((rd_T54 l0 x3_1).f0) ≤ ((rd_T54 l0 (ji9)).f0)) = false := decide_eq_false c12; clear c12; have H' := Aside0.mk H; clear H
           try go_wp2
           replace HB := Aside0.mk (below_drew1 HB.out); have p102 : 0 ≤ (x3_1 : Int) := dt_; have q102 : x3_1 < (l0.length : Int) := dt_; obtain ⟨ad102, e102, hx102_0, hx102_1⟩ := at_T54 HR0.out x3_1 p102 q102; have hw102_1 := hx102_1; have hw102_0 := hx102_0
           cases e102
           replace hx102_0 := bc_ HB.out hx102_0; replace hx102_1 := bc_ HB.out hx102_1; replace p102 := eq_true p102; replace q102 := eq_true q102; have p104 : 0 ≤ (x3_1 : Int) := dt_; have q104 : x3_1 < (l0.length : Int) := dt_; obtain ⟨ad104, e104, hx104_0, hx104_1⟩ := at_T54 HR0.out x3_1 p104 q104; have hw104_1 := hx104_1; have hw104_0 := hx104_0
           obtain rfl : ad102 = ad104 := (by injection e104)
           replace hx104_0 := bc_ HB.out hx104_0; replace hx104_1 := bc_ HB.out hx104_1; replace p104 := eq_true p104; replace q104 := eq_true q104; have p106 : 0 ≤ ((ji9) : Int) := dt_; have q106 : (ji9) < (l0.length : Int) := dt_; obtain ⟨ad106, e106, hx106_0, hx106_1⟩ := at_T54 HR0.out (ji9) p106 q106; have hw106_1 := hx106_1; have hw106_0 := hx106_0
           obtain rfl : ad102 = ad106 := (by injection e106)
           replace hx106_0 := bc_ HB.out hx106_0; replace hx106_1 := bc_ HB.out hx106_1; replace p106 := eq_true p106; replace q106 := eq_true q106; have p107 : 0 ≤ (x3_1 : Int) := dt_; have q107 : x3_1 < (l0.length : Int) := dt_; obtain ⟨ad107, e107, hx107_0, hx107_1⟩ := at_T54 HR0.out x3_1 p107 q107; have hw107_1 := hx107_1; have hw107_0 := hx107_0
           obtain rfl : ad102 = ad107 := (by injection e107)
           replace hx107_0 := bc_ HB.out hx107_0; replace hx107_1 := bc_ HB.out hx107_1; replace p107 := eq_true p107; replace q107 := eq_true q107; refine start_ (n := 34) (S := fun w' => w'.cell? (ad102.add ((x3_1).toNat * 2)) = some (.int .i64 ((rd_T54 l0 x3_1).f0)) ∧ w'.cell? ⟨(ad102.add ((x3_1).toNat * 2)).block, (ad102.add ((x3_1).toNat * 2)).off + 1, none⟩ = some (.int .i64 ((rd_T54 l0 x3_1).f1)) ∧ w'.cell? (ad102.add ((x3_1).toNat * 2)) = some (.int .i64 ((rd_T54 l0 x3_1).f0)) ∧ w'.cell? ⟨(ad102.add ((x3_1).toNat * 2)).block, (ad102.add ((x3_1).toNat * 2)).off + 1, none⟩ = some (.int .i64 ((rd_T54 l0 x3_1).f1)) ∧ w'.cell? (ad102.add (((ji9)).toNat * 2)) = some (.int .i64 ((rd_T54 l0 (ji9)).f0)) ∧ w'.cell? ⟨(ad102.add (((ji9)).toNat * 2)).block, (ad102.add (((ji9)).toNat * 2)).off + 1, none⟩ = some (.int .i64 ((rd_T54 l0 (ji9)).f1)) ∧ w'.cell? (ad102.add ((x3_1).toNat * 2)) = some (.int .i64 ((rd_T54 l0 x3_1).f0)) ∧ w'.cell? ⟨(ad102.add ((x3_1).toNat * 2)).block, (ad102.add ((x3_1).toNat * 2)).off + 1, none⟩ = some (.int .i64 ((rd_T54 l0 x3_1).f1))) (ds := []) spec_l23Good.mk0 (by kernel_rfl) rfl rfl ⟨(bc_ HB.out hw102_0), (bc_ HB.out hw102_1), (bc_ HB.out hw104_0), (bc_ HB.out hw104_1), (bc_ HB.out hw106_0), (bc_ HB.out hw106_1), (bc_ HB.out hw107_0), (bc_ HB.out hw107_1)⟩ (fun hHeld => ?_); refine with_tabW spec_l23Good.tab4 spec_l23Good.bits4 (fun HT_ HW_ => ?_); generalize wr.drew = w14 at HB hx102_0 hx102_1 hx104_0 hx104_1 hx106_0 hx106_1 hx107_0 hx107_1 hHeld ⊢; refine pz_ HT_ 0 (some 10) spec_l23Good.mk1 ?_; refine pz_ HT_ 1 (some 11) spec_l23Good.mk2 ?_; refine pz_ HT_ 2 (some 12) spec_l23Good.mk3 ?_; refine pz_ HT_ 3 (some 13) spec_l23Good.mk4 ?_; refine tk_ HT_ HW_ hHeld 4 (some 14) spec_l23Good.mk5 ?_; refine one_ (i := 5) (N := some 15) spec_l23Good.mk6 rfl rfl (one_of HT_.out (by kernel_rfl)) (by decide) (fun K hK => ?_); refine gs_ Try.func79 #[.int .i64 ((rd_T54 l0 x3_1).f0), .int .i64 0, .int .i64 999] ?_; (with_reducible refine (spec_l1In.calls ((rd_T54 l0 x3_1).f0) 0 999 true _ A4.out).mono ?_); rintro e w' ⟨rfl, ⟨nd, rfl⟩⟩; refine ⟨_, rfl, ?_⟩; refine hK.out _ _ ⟨((HB.out.cell (World.block_lt_of_cell? w _ hw102_0)).trans hw102_0), ((HB.out.cell (World.block_lt_of_cell? w _ hw102_1)).trans hw102_1), ((HB.out.cell (World.block_lt_of_cell? w _ hw104_0)).trans hw104_0), ((HB.out.cell (World.block_lt_of_cell? w _ hw104_1)).trans hw104_1), ((HB.out.cell (World.block_lt_of_cell? w _ hw106_0)).trans hw106_0), ((HB.out.cell (World.block_lt_of_cell? w _ hw106_1)).trans hw106_1), ((HB.out.cell (World.block_lt_of_cell? w _ hw107_0)).trans hw107_0), ((HB.out.cell (World.block_lt_of_cell? w _ hw107_1)).trans hw107_1)⟩ (fun hHeld => ?_); clear hK K; refine na_ ?_; refine pz_ HT_ 6 (some 16) spec_l23Good.mk7 ?_; refine pz_ HT_ 7 (some 17) spec_l23Good.mk8 ?_; refine pz_ HT_ 8 (some 18) spec_l23Good.mk9 ?_; refine pz_ HT_ 9 (some 19) spec_l23Good.mk10 ?_; refine pz_ HT_ 10 (some 20) spec_l23Good.mk11 ?_; refine pz_ HT_ 11 (some 21) spec_l23Good.mk12 ?_; refine tk_ HT_ HW_ hHeld 12 (some 22) spec_l23Good.mk13 ?_; refine one_ (i := 13) (N := some 23) spec_l23Good.mk14 rfl rfl (one_of HT_.out (by kernel_rfl)) (by decide) (fun K hK => ?_); refine gs_ Try.func89 #[.int .i64 ((rd_T54 l0 x3_1).f1)] ?_; (with_reducible refine (spec_l23Level.calls ((rd_T54 l0 x3_1).f1) true _ A6.out).mono ?_); rintro e w' ⟨rfl, ⟨nd, rfl⟩⟩; refine ⟨_, rfl, ?_⟩; refine hK.out _ _ ⟨((HB.out.cell (World.block_lt_of_cell? w _ hw102_0)).trans hw102_0), ((HB.out.cell (World.block_lt_of_cell? w _ hw102_1)).trans hw102_1), ((HB.out.cell (World.block_lt_of_cell? w _ hw104_0)).trans hw104_0), ((HB.out.cell (World.block_lt_of_cell? w _ hw104_1)).trans hw104_1), ((HB.out.cell (World.block_lt_of_cell? w _ hw106_0)).trans hw106_0), ((HB.out.cell (World.block_lt_of_cell? w _ hw106_1)).trans hw106_1), ((HB.out.cell (World.block_lt_of_cell? w _ hw107_0)).trans hw107_0), ((HB.out.cell (World.block_lt_of_cell? w _ hw107_1)).trans hw107_1)⟩ (fun hHeld => ?_); clear hK K; refine na_ ?_; refine pz_ HT_ 14 (some 24) spec_l23Good.mk15 ?_; refine pz_ HT_ 15 (some 25) spec_l23Good.mk16 ?_; refine pz_ HT_ 16 (some 26) spec_l23Good.mk17 ?_; refine pz_ HT_ 17 (some 27) spec_l23Good.mk18 ?_; refine pz_ HT_ 18 (some 28) spec_l23Good.mk19 ?_; refine pz_ HT_ 19 (some 29) spec_l23Good.mk20 ?_; refine pz_ HT_ 20 (some 30) spec_l23Good.mk21 ?_; refine pz_ HT_ 21 (some 31) spec_l23Good.mk22 ?_; refine pz_ HT_ 22 (some 32) spec_l23Good.mk23 ?_; refine pz_ HT_ 23 (some 33) spec_l23Good.mk24 ?_; refine pz_ HT_ 24 (some 34) spec_l23Good.mk25 ?_; refine pz_ HT_ 26 (some 36) spec_l23Good.mk26 ?_; refine pz_ HT_ 27 (some 37) spec_l23Good.mk27 ?_; refine pz_ HT_ 28 (some 38) spec_l23Good.mk28 ?_; refine pz_ HT_ 29 (some 39) spec_l23Good.mk29 ?_; refine tk_ HT_ HW_ hHeld 25 (some 35) spec_l23Good.mk30 ?_; refine tk_ HT_ HW_ hHeld 30 (some 40) spec_l23Good.mk31 ?_; refine pz_ HT_ 31 (some 41) spec_l23Good.mk32 ?_; refine pz_ HT_ 32 (some 42) spec_l23Good.mk33 ?_; refine pz_ HT_ 33 (some 43) spec_l23Good.mk34 ?_; refine done_ (done_of HT_.out (by kernel_rfl)) ?_
           try go_wp2
           go_roundg k1
           case measure => have := HK1.out; omega
           case rel => exact ⟨(wrap64 (x3_1 + 1)), (by first | rfl | (simp; done) | (simp [*]; done)), H', ⟨by have := HK1.out; omega⟩, ⟨lb0_ HB.out⟩⟩
         ·
          rw [if_neg c11] at H
          exact absurd H (by simp)
        ·
         rw [if_neg c10] at H
         exact absurd H (by simp)
       ·
        rw [if_neg c8] at H
        have c8b0 : decide (0 < x3_1) = false := decide_eq_false c8; clear c8; have H' := Aside0.mk H; clear H
        try go_wp2
        replace HB := Aside0.mk (below_drew1 HB.out); have p102 : 0 ≤ (x3_1 : Int) := dt_; have q102 : x3_1 < (l0.length : Int) := dt_; obtain ⟨ad102, e102, hx102_0, hx102_1⟩ := at_T54 HR0.out x3_1 p102 q102; have hw102_1 := hx102_1; have hw102_0 := hx102_0
        cases e102
        replace hx102_0 := bc_ HB.out hx102_0; replace hx102_1 := bc_ HB.out hx102_1; replace p102 := eq_true p102; replace q102 := eq_true q102; have p104 : 0 ≤ (x3_1 : Int) := dt_; have q104 : x3_1 < (l0.length : Int) := dt_; obtain ⟨ad104, e104, hx104_0, hx104_1⟩ := at_T54 HR0.out x3_1 p104 q104; have hw104_1 := hx104_1; have hw104_0 := hx104_0
        obtain rfl : ad102 = ad104 := (by injection e104)
        replace hx104_0 := bc_ HB.out hx104_0; replace hx104_1 := bc_ HB.out hx104_1; replace p104 := eq_true p104; replace q104 := eq_true q104; refine start_ (n := 34) (S := fun w' => w'.cell? (ad102.add ((x3_1).toNat * 2)) = some (.int .i64 ((rd_T54 l0 x3_1).f0)) ∧ w'.cell? ⟨(ad102.add ((x3_1).toNat * 2)).block, (ad102.add ((x3_1).toNat * 2)).off + 1, none⟩ = some (.int .i64 ((rd_T54 l0 x3_1).f1)) ∧ w'.cell? (ad102.add ((x3_1).toNat * 2)) = some (.int .i64 ((rd_T54 l0 x3_1).f0)) ∧ w'.cell? ⟨(ad102.add ((x3_1).toNat * 2)).block, (ad102.add ((x3_1).toNat * 2)).off + 1, none⟩ = some (.int .i64 ((rd_T54 l0 x3_1).f1))) (ds := []) spec_l23Good.mk0 (by kernel_rfl) rfl rfl ⟨(bc_ HB.out hw102_0), (bc_ HB.out hw102_1), (bc_ HB.out hw104_0), (bc_ HB.out hw104_1)⟩ (fun hHeld => ?_); refine with_tabW spec_l23Good.tab4 spec_l23Good.bits4 (fun HT_ HW_ => ?_); generalize wr.drew = w15 at HB hx102_0 hx102_1 hx104_0 hx104_1 hHeld ⊢; refine pz_ HT_ 0 (some 10) spec_l23Good.mk1 ?_; refine pz_ HT_ 1 (some 11) spec_l23Good.mk2 ?_; refine pz_ HT_ 2 (some 12) spec_l23Good.mk3 ?_; refine pz_ HT_ 3 (some 13) spec_l23Good.mk4 ?_; refine tk_ HT_ HW_ hHeld 4 (some 14) spec_l23Good.mk5 ?_; refine one_ (i := 5) (N := some 15) spec_l23Good.mk6 rfl rfl (one_of HT_.out (by kernel_rfl)) (by decide) (fun K hK => ?_); refine gs_ Try.func79 #[.int .i64 ((rd_T54 l0 x3_1).f0), .int .i64 0, .int .i64 999] ?_; (with_reducible refine (spec_l1In.calls ((rd_T54 l0 x3_1).f0) 0 999 true _ A4.out).mono ?_); rintro e w' ⟨rfl, ⟨nd, rfl⟩⟩; refine ⟨_, rfl, ?_⟩; refine hK.out _ _ ⟨((HB.out.cell (World.block_lt_of_cell? w _ hw102_0)).trans hw102_0), ((HB.out.cell (World.block_lt_of_cell? w _ hw102_1)).trans hw102_1), ((HB.out.cell (World.block_lt_of_cell? w _ hw104_0)).trans hw104_0), ((HB.out.cell (World.block_lt_of_cell? w _ hw104_1)).trans hw104_1)⟩ (fun hHeld => ?_); clear hK K; refine na_ ?_; refine pz_ HT_ 6 (some 16) spec_l23Good.mk7 ?_; refine pz_ HT_ 7 (some 17) spec_l23Good.mk8 ?_; refine pz_ HT_ 8 (some 18) spec_l23Good.mk9 ?_; refine pz_ HT_ 9 (some 19) spec_l23Good.mk10 ?_; refine pz_ HT_ 10 (some 20) spec_l23Good.mk11 ?_; refine pz_ HT_ 11 (some 21) spec_l23Good.mk12 ?_; refine tk_ HT_ HW_ hHeld 12 (some 22) spec_l23Good.mk13 ?_; refine one_ (i := 13) (N := some 23) spec_l23Good.mk14 rfl rfl (one_of HT_.out (by kernel_rfl)) (by decide) (fun K hK => ?_); refine gs_ Try.func89 #[.int .i64 ((rd_T54 l0 x3_1).f1)] ?_; (with_reducible refine (spec_l23Level.calls ((rd_T54 l0 x3_1).f1) true _ A6.out).mono ?_); rintro e w' ⟨rfl, ⟨nd, rfl⟩⟩; refine ⟨_, rfl, ?_⟩; refine hK.out _ _ ⟨((HB.out.cell (World.block_lt_of_cell? w _ hw102_0)).trans hw102_0), ((HB.out.cell (World.block_lt_of_cell? w _ hw102_1)).trans hw102_1), ((HB.out.cell (World.block_lt_of_cell? w _ hw104_0)).trans hw104_0), ((HB.out.cell (World.block_lt_of_cell? w _ hw104_1)).trans hw104_1)⟩ (fun hHeld => ?_); clear hK K; refine na_ ?_; refine pz_ HT_ 14 (some 24) spec_l23Good.mk15 ?_; refine pz_ HT_ 15 (some 25) spec_l23Good.mk16 ?_; refine pz_ HT_ 16 (some 26) spec_l23Good.mk17 ?_; refine pz_ HT_ 17 (some 27) spec_l23Good.mk18 ?_; refine pz_ HT_ 18 (some 28) spec_l23Good.mk19 ?_; refine pz_ HT_ 19 (some 29) spec_l23Good.mk20 ?_; refine pu_ HT_ 20 (some 30) spec_l23Good.mk21 ?_; refine pu_ HT_ 21 (some 31) spec_l23Good.mk22 ?_; refine pu_ HT_ 22 (some 32) spec_l23Good.mk23 ?_; refine pu_ HT_ 23 (some 33) spec_l23Good.mk24 ?_; refine pu_ HT_ 24 (some 34) spec_l23Good.mk25 ?_; refine pu_ HT_ 25 (some 35) spec_l23Good.mk35 ?_; refine pu_ HT_ 26 (some 36) spec_l23Good.mk36 ?_; refine pu_ HT_ 27 (some 37) spec_l23Good.mk37 ?_; refine pu_ HT_ 28 (some 38) spec_l23Good.mk38 ?_; refine pu_ HT_ 29 (some 39) spec_l23Good.mk30 ?_; refine pu_ HT_ 30 (some 40) spec_l23Good.mk31 ?_; refine pu_ HT_ 31 (some 41) spec_l23Good.mk32 ?_; refine pz_ HT_ 32 (some 42) spec_l23Good.mk33 ?_; refine pz_ HT_ 33 (some 43) spec_l23Good.mk34 ?_; refine done_ (done_of HT_.out (by kernel_rfl)) ?_
        try go_wp2
        go_roundg k1
        case measure => have := HK1.out; omega
        case rel => exact ⟨(wrap64 (x3_1 + 1)), (by first | rfl | (simp; done) | (simp [*]; done)), H', ⟨by have := HK1.out; omega⟩, ⟨lb0_ HB.out⟩⟩
      ·
       replace c7 := Bool.eq_false_iff.mpr c7
       subst c7
       have H1 : (some false) = some r := by rw [if_neg (show ¬ (false = true) by decide)] at H; exact H
       clear H
       have H := H1
       clear H1
       obtain rfl := Option.some.inj H
       try go_wp2
       replace HB := Aside0.mk (below_drew1 HB.out)
       have p102 : 0 ≤ (x3_1 : Int) := dt_
       have q102 : x3_1 < (l0.length : Int) := dt_
       obtain ⟨ad102, e102, hx102_0, hx102_1⟩ := at_T54 HR0.out x3_1 p102 q102
       have hw102_1 := hx102_1
       have hw102_0 := hx102_0
       cases e102
       replace hx102_0 := bc_ HB.out hx102_0
       replace hx102_1 := bc_ HB.out hx102_1
       replace p102 := eq_true p102
       replace q102 := eq_true q102
       have p104 : 0 ≤ (x3_1 : Int) := dt_
       have q104 : x3_1 < (l0.length : Int) := dt_
       obtain ⟨ad104, e104, hx104_0, hx104_1⟩ := at_T54 HR0.out x3_1 p104 q104
       have hw104_1 := hx104_1
       have hw104_0 := hx104_0
       obtain rfl : ad102 = ad104 := (by injection e104)
       replace hx104_0 := bc_ HB.out hx104_0
       replace hx104_1 := bc_ HB.out hx104_1
       replace p104 := eq_true p104
       replace q104 := eq_true q104
       refine start_ (n := 34) (S := fun w' => w'.cell? (ad102.add ((x3_1).toNat * 2)) = some (.int .i64 ((rd_T54 l0 x3_1).f0)) ∧ w'.cell? ⟨(ad102.add ((x3_1).toNat * 2)).block, (ad102.add ((x3_1).toNat * 2)).off + 1, none⟩ = some (.int .i64 ((rd_T54 l0 x3_1).f1)) ∧ w'.cell? (ad102.add ((x3_1).toNat * 2)) = some (.int .i64 ((rd_T54 l0 x3_1).f0)) ∧ w'.cell? ⟨(ad102.add ((x3_1).toNat * 2)).block, (ad102.add ((x3_1).toNat * 2)).off + 1, none⟩ = some (.int .i64 ((rd_T54 l0 x3_1).f1))) (ds := []) spec_l23Good.mk0 (by kernel_rfl) rfl rfl ⟨(bc_ HB.out hw102_0), (bc_ HB.out hw102_1), (bc_ HB.out hw104_0), (bc_ HB.out hw104_1)⟩ (fun hHeld => ?_); refine with_tabW spec_l23Good.tab4 spec_l23Good.bits4 (fun HT_ HW_ => ?_)
       generalize wr.drew = w16 at HB hx102_0 hx102_1 hx104_0 hx104_1 hHeld ⊢
       refine pz_ HT_ 0 (some 10) spec_l23Good.mk1 ?_
       refine pz_ HT_ 1 (some 11) spec_l23Good.mk2 ?_
       refine pz_ HT_ 2 (some 12) spec_l23Good.mk3 ?_
       refine pz_ HT_ 3 (some 13) spec_l23Good.mk4 ?_
       refine tk_ HT_ HW_ hHeld 4 (some 14) spec_l23Good.mk5 ?_
       refine one_ (i := 5) (N := some 15) spec_l23Good.mk6 rfl rfl (one_of HT_.out (by kernel_rfl)) (by decide) (fun K hK => ?_)
       refine gs_ Try.func79 #[.int .i64 ((rd_T54 l0 x3_1).f0), .int .i64 0, .int .i64 999] ?_
       with_reducible refine (spec_l1In.calls ((rd_T54 l0 x3_1).f0) 0 999 true _ A4.out).mono ?_
       rintro e w' ⟨rfl, ⟨nd, rfl⟩⟩
       refine ⟨_, rfl, ?_⟩
       refine hK.out _ _ ⟨((HB.out.cell (World.block_lt_of_cell? w _ hw102_0)).trans hw102_0), ((HB.out.cell (World.block_lt_of_cell? w _ hw102_1)).trans hw102_1), ((HB.out.cell (World.block_lt_of_cell? w _ hw104_0)).trans hw104_0), ((HB.out.cell (World.block_lt_of_cell? w _ hw104_1)).trans hw104_1)⟩ (fun hHeld => ?_)
       clear hK K
       refine na_ ?_
       refine pz_ HT_ 6 (some 16) spec_l23Good.mk7 ?_
       refine pz_ HT_ 7 (some 17) spec_l23Good.mk8 ?_
       refine pz_ HT_ 8 (some 18) spec_l23Good.mk9 ?_
       refine pz_ HT_ 9 (some 19) spec_l23Good.mk10 ?_
       refine pz_ HT_ 10 (some 20) spec_l23Good.mk11 ?_
       refine pz_ HT_ 11 (some 21) spec_l23Good.mk12 ?_
       refine tk_ HT_ HW_ hHeld 12 (some 22) spec_l23Good.mk13 ?_
       refine one_ (i := 13) (N := some 23) spec_l23Good.mk14 rfl rfl (one_of HT_.out (by kernel_rfl)) (by decide) (fun K hK => ?_)
       refine gs_ Try.func89 #[.int .i64 ((rd_T54 l0 x3_1).f1)] ?_
       with_reducible refine (spec_l23Level.calls ((rd_T54 l0 x3_1).f1) false _ A6.out).mono ?_
       rintro e w' ⟨rfl, ⟨nd, rfl⟩⟩
       refine ⟨_, rfl, ?_⟩
       refine hK.out _ _ ⟨((HB.out.cell (World.block_lt_of_cell? w _ hw102_0)).trans hw102_0), ((HB.out.cell (World.block_lt_of_cell? w _ hw102_1)).trans hw102_1), ((HB.out.cell (World.block_lt_of_cell? w _ hw104_0)).trans hw104_0), ((HB.out.cell (World.block_lt_of_cell? w _ hw104_1)).trans hw104_1)⟩ (fun hHeld => ?_)
       clear hK K
       refine na_ ?_
       refine pz_ HT_ 14 (some 24) spec_l23Good.mk15 ?_
       refine pz_ HT_ 15 (some 25) spec_l23Good.mk16 ?_
       refine pz_ HT_ 16 (some 26) spec_l23Good.mk17 ?_
       refine pu_ HT_ 17 (some 27) spec_l23Good.mk18 ?_
       refine pu_ HT_ 18 (some 28) spec_l23Good.mk19 ?_
       refine pu_ HT_ 19 (some 29) spec_l23Good.mk20 ?_
       refine pu_ HT_ 20 (some 30) spec_l23Good.mk21 ?_
       refine pu_ HT_ 21 (some 31) spec_l23Good.mk22 ?_
       refine pu_ HT_ 22 (some 32) spec_l23Good.mk23 ?_
       refine pu_ HT_ 23 (some 33) spec_l23Good.mk24 ?_
       refine pu_ HT_ 24 (some 34) spec_l23Good.mk25 ?_
       refine pu_ HT_ 25 (some 35) spec_l23Good.mk35 ?_
       refine pu_ HT_ 26 (some 36) spec_l23Good.mk36 ?_
       refine pu_ HT_ 27 (some 37) spec_l23Good.mk37 ?_
       refine pu_ HT_ 28 (some 38) spec_l23Good.mk38 ?_
       refine pu_ HT_ 29 (some 39) spec_l23Good.mk30 ?_
       refine pu_ HT_ 30 (some 40) spec_l23Good.mk31 ?_
       refine pu_ HT_ 31 (some 41) spec_l23Good.mk32 ?_
       refine pu_ HT_ 32 (some 42) spec_l23Good.mk33 ?_
       refine pz_ HT_ 33 (some 43) spec_l23Good.mk34 ?_
       refine done_ (done_of HT_.out (by kernel_rfl)) ?_
       try go_wp2
       go_ret
       exact ⟨rr_, lb0_ HB.out⟩
     ·
      replace c5 := Bool.eq_false_iff.mpr c5
      subst c5
      have H1 : (some false) = some r := by rw [if_neg (show ¬ (false = true) by decide)] at H; exact H
      clear H
      have H := H1
      clear H1
      obtain rfl := Option.some.inj H
      try go_wp2
      replace HB := Aside0.mk (below_drew1 HB.out)
      have p102 : 0 ≤ (x3_1 : Int) := dt_
      have q102 : x3_1 < (l0.length : Int) := dt_
      obtain ⟨ad102, e102, hx102_0, hx102_1⟩ := at_T54 HR0.out x3_1 p102 q102
      have hw102_1 := hx102_1
      have hw102_0 := hx102_0
      cases e102
      replace hx102_0 := bc_ HB.out hx102_0
      replace hx102_1 := bc_ HB.out hx102_1
      replace p102 := eq_true p102
      replace q102 := eq_true q102
      refine start_ (n := 34) (S := fun w' => w'.cell? (ad102.add ((x3_1).toNat * 2)) = some (.int .i64 ((rd_T54 l0 x3_1).f0)) ∧ w'.cell? ⟨(ad102.add ((x3_1).toNat * 2)).block, (ad102.add ((x3_1).toNat * 2)).off + 1, none⟩ = some (.int .i64 ((rd_T54 l0 x3_1).f1))) (ds := []) spec_l23Good.mk0 (by kernel_rfl) rfl rfl ⟨(bc_ HB.out hw102_0), (bc_ HB.out hw102_1)⟩ (fun hHeld => ?_); refine with_tabW spec_l23Good.tab4 spec_l23Good.bits4 (fun HT_ HW_ => ?_)
      generalize wr.drew = w17 at HB hx102_0 hx102_1 hHeld ⊢
      refine pz_ HT_ 0 (some 10) spec_l23Good.mk1 ?_
      refine pz_ HT_ 1 (some 11) spec_l23Good.mk2 ?_
      refine pz_ HT_ 2 (some 12) spec_l23Good.mk3 ?_
      refine pz_ HT_ 3 (some 13) spec_l23Good.mk4 ?_
      refine tk_ HT_ HW_ hHeld 4 (some 14) spec_l23Good.mk5 ?_
      refine one_ (i := 5) (N := some 15) spec_l23Good.mk6 rfl rfl (one_of HT_.out (by kernel_rfl)) (by decide) (fun K hK => ?_)
      refine gs_ Try.func79 #[.int .i64 ((rd_T54 l0 x3_1).f0), .int .i64 0, .int .i64 999] ?_
      with_reducible refine (spec_l1In.calls ((rd_T54 l0 x3_1).f0) 0 999 false _ A4.out).mono ?_
      rintro e w' ⟨rfl, ⟨nd, rfl⟩⟩
      refine ⟨_, rfl, ?_⟩
      refine hK.out _ _ ⟨((HB.out.cell (World.block_lt_of_cell? w _ hw102_0)).trans hw102_0), ((HB.out.cell (World.block_lt_of_cell? w _ hw102_1)).trans hw102_1)⟩ (fun hHeld => ?_)
      clear hK K
      refine na_ ?_
      refine pz_ HT_ 6 (some 16) spec_l23Good.mk7 ?_
      refine pz_ HT_ 7 (some 17) spec_l23Good.mk8 ?_
      refine pu_ HT_ 8 (some 18) spec_l23Good.mk9 ?_
      refine pu_ HT_ 9 (some 19) spec_l23Good.mk10 ?_
      refine pu_ HT_ 10 (some 20) spec_l23Good.mk11 ?_
      refine pu_ HT_ 11 (some 21) spec_l23Good.mk12 ?_
      refine pu_ HT_ 12 (some 22) spec_l23Good.mk13 ?_
      refine pu_ HT_ 13 (some 23) spec_l23Good.mk14 ?_
      refine pu_ HT_ 14 (some 24) spec_l23Good.mk15 ?_
      refine pz_ HT_ 15 (some 25) spec_l23Good.mk16 ?_
      refine pz_ HT_ 16 (some 26) spec_l23Good.mk17 ?_
      refine pu_ HT_ 17 (some 27) spec_l23Good.mk18 ?_
      refine pu_ HT_ 18 (some 28) spec_l23Good.mk19 ?_
      refine pu_ HT_ 19 (some 29) spec_l23Good.mk20 ?_
      refine pu_ HT_ 20 (some 30) spec_l23Good.mk21 ?_
      refine pu_ HT_ 21 (some 31) spec_l23Good.mk22 ?_
      refine pu_ HT_ 22 (some 32) spec_l23Good.mk23 ?_
      refine pu_ HT_ 23 (some 33) spec_l23Good.mk24 ?_
      refine pu_ HT_ 24 (some 34) spec_l23Good.mk25 ?_
      refine pu_ HT_ 25 (some 35) spec_l23Good.mk35 ?_
      refine pu_ HT_ 26 (some 36) spec_l23Good.mk36 ?_
      refine pu_ HT_ 27 (some 37) spec_l23Good.mk37 ?_
      refine pu_ HT_ 28 (some 38) spec_l23Good.mk38 ?_
      refine pu_ HT_ 29 (some 39) spec_l23Good.mk30 ?_
      refine pu_ HT_ 30 (some 40) spec_l23Good.mk31 ?_
      refine pu_ HT_ 31 (some 41) spec_l23Good.mk32 ?_
      refine pu_ HT_ 32 (some 42) spec_l23Good.mk33 ?_
      refine pz_ HT_ 33 (some 43) spec_l23Good.mk34 ?_
      refine done_ (done_of HT_.out (by kernel_rfl)) ?_
      try go_wp2
      go_ret
      exact ⟨rr_, lb0_ HB.out⟩
    ·
     rw [if_neg c3] at H
     exact absurd H (by simp)
   ·
    rw [if_neg c2] at H
    have c2b0 : decide (x3_1 < (l0.length : Int)) = false := decide_eq_false c2
    clear c2
    obtain rfl := Option.some.inj H
    go_wp2
    go_ret
    exact ⟨rr_, lb0_ HB.out⟩
def spec_l23Within.f (k : Nat) (l0 : List (S54)) (a1 : Int) : Option (Bool) := (spec_l23Good.f k l0).bind fun t108 => (if t108 = true then (if (l0.length : Int) > 0 then (if 0 < (l0.length : Int) then (if 0 ≤ (wrap64 ((l0.length : Int) - 1)) then (if (wrap64 ((l0.length : Int) - 1)) < (l0.length : Int) then ((spec_l1In.f a1 ((rd_T54 l0 0).f0) ((rd_T54 l0 (wrap64 ((l0.length : Int) - 1))).f0)).bind fun t111 => (some t111)) else (none)) else (none)) else (none)) else (some false)) else (some false))
def spec_l23Within.T1 : Bool × List (List Nat × List Nat) := (true, [([], []), ([0], [0]), ([1, 1], [1]), ([2], [2]), ([3, 2], [2, 3]), ([4, 2], [2, 4]), ([2, 5], [2, 5]), ([6, 2], [6]), ([7], [7]), ([7], [7]), ([9, 7], [7, 9]), ([10, 7], [7, 10]), ([11, 7], [7, 11]), ([7], [7]), ([7], [7]), ([14, 7], [7, 14]), ([15, 7], [7, 15]), ([13, 16, 7], [7, 13, 16]), ([17, 7], [7, 17]), ([18, 7], [7, 18]), ([8, 12, 19, 7, 7], [7, 8, 12, 19]), ([7, 20], [7, 20]), ([21, 20, 0, 1, 2, 3, 4, 5, 6, 7, 8, 9, 10, 11, 12, 13, 14, 15, 16, 17, 18, 19, 20, 21], [21])])
def spec_l23Within.B1 : List Nat := [0, 1, 3, 7, 15, 31, 63, 127, 255, 255, 767, 1791, 3839, 255, 255, 16639, 49407, 123135, 254207, 516351, 1048575, 2097151, 4194303]
theorem spec_l23Within.tab1 : rtab .any (opsOf Try.f54 1) = spec_l23Within.T1 := by kernel_rfl
theorem spec_l23Within.bits1 : waitsOk spec_l23Within.T1.2 spec_l23Within.B1 = true := by kernel_rfl
abbrev spec_l23Within.mk0 : Array Bool := #[fF,fF,fF,fF,fF,fF,fF,fF,fF,fF,fF,fF,fF,fF,fF,fF,fF,fF,fF,fF,fF,fF,fF]
abbrev spec_l23Within.mk1 : Array Bool := #[tT,fF,fF,fF,fF,fF,fF,fF,fF,fF,fF,fF,fF,fF,fF,fF,fF,fF,fF,fF,fF,fF,fF]
abbrev spec_l23Within.mk2 : Array Bool := #[tT,tT,fF,fF,fF,fF,fF,fF,fF,fF,fF,fF,fF,fF,fF,fF,fF,fF,fF,fF,fF,fF,fF]
abbrev spec_l23Within.mk3 : Array Bool := #[tT,tT,tT,fF,fF,fF,fF,fF,fF,fF,fF,fF,fF,fF,fF,fF,fF,fF,fF,fF,fF,fF,fF]
abbrev spec_l23Within.mk4 : Array Bool := #[tT,tT,tT,tT,fF,fF,fF,fF,fF,fF,fF,fF,fF,fF,fF,fF,fF,fF,fF,fF,fF,fF,fF]
abbrev spec_l23Within.mk5 : Array Bool := #[tT,tT,tT,tT,tT,fF,fF,fF,fF,fF,fF,fF,fF,fF,fF,fF,fF,fF,fF,fF,fF,fF,fF]
abbrev spec_l23Within.mk6 : Array Bool := #[tT,tT,tT,tT,tT,tT,fF,fF,fF,fF,fF,fF,fF,fF,fF,fF,fF,fF,fF,fF,fF,fF,fF]
abbrev spec_l23Within.mk7 : Array Bool := #[tT,tT,tT,tT,tT,tT,tT,fF,fF,fF,fF,fF,fF,fF,fF,fF,fF,fF,fF,fF,fF,fF,fF]
abbrev spec_l23Within.mk8 : Array Bool := #[tT,tT,tT,tT,tT,tT,tT,tT,fF,fF,fF,fF,fF,fF,fF,fF,fF,fF,fF,fF,fF,fF,fF]
abbrev spec_l23Within.mk9 : Array Bool := #[tT,tT,tT,tT,tT,tT,tT,tT,tT,fF,fF,fF,fF,fF,fF,fF,fF,fF,fF,fF,fF,fF,fF]
abbrev spec_l23Within.mk10 : Array Bool := #[tT,tT,tT,tT,tT,tT,tT,tT,tT,tT,fF,fF,fF,fF,fF,fF,fF,fF,fF,fF,fF,fF,fF]
abbrev spec_l23Within.mk11 : Array Bool := #[tT,tT,tT,tT,tT,tT,tT,tT,tT,tT,tT,fF,fF,fF,fF,fF,fF,fF,fF,fF,fF,fF,fF]
abbrev spec_l23Within.mk12 : Array Bool := #[tT,tT,tT,tT,tT,tT,tT,tT,tT,tT,tT,tT,fF,fF,fF,fF,fF,fF,fF,fF,fF,fF,fF]
abbrev spec_l23Within.mk13 : Array Bool := #[tT,tT,tT,tT,tT,tT,tT,tT,tT,tT,tT,tT,fF,tT,fF,fF,fF,fF,fF,fF,fF,fF,fF]
abbrev spec_l23Within.mk14 : Array Bool := #[tT,tT,tT,tT,tT,tT,tT,tT,tT,tT,tT,tT,fF,tT,tT,fF,fF,fF,fF,fF,fF,fF,fF]
abbrev spec_l23Within.mk15 : Array Bool := #[tT,tT,tT,tT,tT,tT,tT,tT,tT,tT,tT,tT,fF,tT,tT,tT,fF,fF,fF,fF,fF,fF,fF]
abbrev spec_l23Within.mk16 : Array Bool := #[tT,tT,tT,tT,tT,tT,tT,tT,tT,tT,tT,tT,fF,tT,tT,tT,tT,fF,fF,fF,fF,fF,fF]
abbrev spec_l23Within.mk17 : Array Bool := #[tT,tT,tT,tT,tT,tT,tT,tT,tT,tT,tT,tT,fF,tT,tT,tT,tT,tT,fF,fF,fF,fF,fF]
abbrev spec_l23Within.mk18 : Array Bool := #[tT,tT,tT,tT,tT,tT,tT,tT,tT,tT,tT,tT,fF,tT,tT,tT,tT,tT,tT,fF,fF,fF,fF]
abbrev spec_l23Within.mk19 : Array Bool := #[tT,tT,tT,tT,tT,tT,tT,tT,tT,tT,tT,tT,tT,tT,tT,tT,tT,tT,tT,fF,fF,fF,fF]
abbrev spec_l23Within.mk20 : Array Bool := #[tT,tT,tT,tT,tT,tT,tT,tT,tT,tT,tT,tT,tT,tT,tT,tT,tT,tT,tT,tT,fF,fF,fF]
abbrev spec_l23Within.mk21 : Array Bool := #[tT,tT,tT,tT,tT,tT,tT,tT,tT,tT,tT,tT,tT,tT,tT,tT,tT,tT,tT,tT,tT,fF,fF]
abbrev spec_l23Within.mk22 : Array Bool := #[tT,tT,tT,tT,tT,tT,tT,tT,tT,tT,tT,tT,tT,tT,tT,tT,tT,tT,tT,tT,tT,tT,fF]
abbrev spec_l23Within.mk23 : Array Bool := #[tT,tT,tT,tT,tT,tT,tT,tT,tT,tT,tT,tT,tT,tT,tT,tT,tT,tT,tT,tT,tT,tT,tT]
abbrev spec_l23Within.mk24 : Array Bool := #[tT,tT,tT,tT,tT,tT,tT,tT,tT,tT,tT,tT,tT,fF,fF,fF,fF,fF,fF,fF,fF,fF,fF]
abbrev spec_l23Within.mk25 : Array Bool := #[tT,tT,tT,tT,tT,tT,tT,tT,tT,tT,tT,tT,tT,tT,fF,fF,fF,fF,fF,fF,fF,fF,fF]
abbrev spec_l23Within.mk26 : Array Bool := #[tT,tT,tT,tT,tT,tT,tT,tT,tT,tT,tT,tT,tT,tT,tT,fF,fF,fF,fF,fF,fF,fF,fF]
abbrev spec_l23Within.mk27 : Array Bool := #[tT,tT,tT,tT,tT,tT,tT,tT,tT,tT,tT,tT,tT,tT,tT,tT,fF,fF,fF,fF,fF,fF,fF]
abbrev spec_l23Within.mk28 : Array Bool := #[tT,tT,tT,tT,tT,tT,tT,tT,tT,tT,tT,tT,tT,tT,tT,tT,tT,fF,fF,fF,fF,fF,fF]
abbrev spec_l23Within.mk29 : Array Bool := #[tT,tT,tT,tT,tT,tT,tT,tT,tT,tT,tT,tT,tT,tT,tT,tT,tT,tT,fF,fF,fF,fF,fF]
set_option maxHeartbeats 8000000 in
set_option maxRecDepth 100000 in
theorem spec_l23Within.calls (k : Nat) (A0 : Option Addr) (c0 : Nat) (l0 : List (S54)) (a1 : Int) (r : Bool) (w : World) (hr0 : Kd.C k54 w A0 l0.length l0) (hc0 : l0.length ≤ c0) (h : spec_l23Within.f k l0 a1 = some r) :
  Calls Try.prog 54 #[.slice A0 l0.length c0, .int .i64 a1] w fun e w' => e = .returned (.bool r) ∧ Below w.heap.size w w' := by
 have HR0 := Aside0.mk hr0
 have HC0 := Aside0.mk hc0
 clear hr0 hc0
 have HB := Aside0.mk (Below.refl w.heap.size w)
 have H : ((spec_l23Good.f k l0).bind fun t108 => (if t108 = true then (if (l0.length : Int) > 0 then (if 0 < (l0.length : Int) then (if 0 ≤ (wrap64 ((l0.length : Int) - 1)) then (if (wrap64 ((l0.length : Int) - 1)) < (l0.length : Int) then ((spec_l1In.f a1 ((rd_T54 l0 0).f0) ((rd_T54 l0 (wrap64 ((l0.length : Int) - 1))).f0)).bind fun t111 => (some t111)) else (none)) else (none)) else (none)) else (some false)) else (some false))) = some r := h
 clear h
 replace H := Option.bind_eq_some_iff.mp H
 obtain ⟨t108, A30, H⟩ := H
 replace H : (if t108 = true then (if (l0.length : Int) > 0 then (if 0 < (l0.length : Int) then (if 0 ≤ (wrap64 ((l0.length : Int) - 1)) then (if (wrap64 ((l0.length : Int) - 1)) < (l0.length : Int) then ((spec_l1In.f a1 ((rd_T54 l0 0).f0) ((rd_T54 l0 (wrap64 ((l0.length : Int) - 1))).f0)).bind fun t111 => (some t111)) else (none)) else (none)) else (none)) else (some false)) else (some false)) = some r := H
 have A3 := Aside0.mk A30
 clear A30
 by_cases c4 : t108 = true
 ·
  subst c4
  have H1 : (if (l0.length : Int) > 0 then (if 0 < (l0.length : Int) then (if 0 ≤ (wrap64 ((l0.length : Int) - 1)) then (if (wrap64 ((l0.length : Int) - 1)) < (l0.length : Int) then ((spec_l1In.f a1 ((rd_T54 l0 0).f0) ((rd_T54 l0 (wrap64 ((l0.length : Int) - 1))).f0)).bind fun t111 => (some t111)) else (none)) else (none)) else (none)) else (some false)) = some r := by rw [if_pos rfl] at H; exact H
  clear H
  have H := H1
  clear H1
  by_cases c5 : (l0.length : Int) > 0
  ·
   rw [if_pos c5] at H
   have c5b0 : decide (0 < (l0.length : Int)) = true := decide_eq_true c5
   have c5b1 : decide (0 < l0.length) = true := decide_eq_true (by omega)
   clear c5
   by_cases c6 : 0 < (l0.length : Int)
   ·
    rw [if_pos c6] at H
    have c6b0 : decide (0 < (l0.length : Int)) = true := decide_eq_true c6
    have c6b1 : decide (0 < l0.length) = true := decide_eq_true (by omega)
    clear c6
    obtain ⟨ji7, hji7⟩ : ∃ j_ : Int, (wrap64 ((l0.length : Int) - 1)) = j_ := ⟨_, rfl⟩
    replace H : (if 0 ≤ (ji7) then (if (ji7) < (l0.length : Int) then ((spec_l1In.f a1 ((rd_T54 l0 0).f0) ((rd_T54 l0 (ji7)).f0)).bind fun t111 => (some t111)) else (none)) else (none)) = some r := by first | (rw [hji7] at H; exact H) | (simp only [hji7] at H ⊢; exact H)
    (try rw [hji7] at A3)
    have hji7w : (IntKind.i64.wrap ((l0.length : Int) - 1)) = ji7 := (i64_w _).trans hji7
    by_cases c8 : 0 ≤ (ji7)
    ·
     rw [if_pos c8] at H
     have c8b0 : decide (0 ≤ (ji7)) = true := decide_eq_true c8
     clear c8
     by_cases c9 : (ji7) < (l0.length : Int)
     ·
      rw [if_pos c9] at H
      have c9b0 : decide ((ji7) < (l0.length : Int)) = true := decide_eq_true c9
      clear c9
      replace H := Option.bind_eq_some_iff.mp H
      obtain ⟨t111, A100, H⟩ := H
      replace H : (some t111) = some r := H
      have A10 := Aside0.mk A100
      clear A100
      obtain rfl := Option.some.inj H
      go_enter Try.func54, Try.ntmps54
      try go_wp2
      replace HB := Aside0.mk (below_drew1 HB.out)
      have p109 : 0 ≤ (0 : Int) := (by omega)
      have q109 : 0 < (l0.length : Int) := dt_
      obtain ⟨ad109, e109, hx109_0, hx109_1⟩ := at_T54 HR0.out 0 p109 q109
      have hw109_1 := hx109_1
      (try rw [show ((0 : Int)).toNat = 0 from rfl] at hw109_1)
      (try rw [show 0 * 2 = 0 from rfl] at hw109_1)
      (try rw [Addr.add_zero'] at hw109_1)
      have hw109_0 := hx109_0
      (try rw [show ((0 : Int)).toNat = 0 from rfl] at hw109_0)
      (try rw [show 0 * 2 = 0 from rfl] at hw109_0)
      (try rw [Addr.add_zero'] at hw109_0)
      cases e109
      have qi109 : (0 < l0.length) = True := eq_true (by omega)
      (try rw [show ((0 : Int)).toNat = 0 from rfl] at hx109_0)
      (try rw [show 0 * 2 = 0 from rfl] at hx109_0)
      (try rw [Addr.add_zero'] at hx109_0)
      (try rw [show ((0 : Int)).toNat = 0 from rfl] at hx109_1)
      (try rw [show 0 * 2 = 0 from rfl] at hx109_1)
      (try rw [Addr.add_zero'] at hx109_1)
      replace hx109_0 := bc_ HB.out hx109_0
      replace hx109_1 := bc_ HB.out hx109_1
      replace p109 := eq_true p109
      replace q109 := eq_true q109
      have p110 : 0 ≤ ((ji7) : Int) := dt_
      have q110 : (ji7) < (l0.length : Int) := dt_
      obtain ⟨ad110, e110, hx110_0, hx110_1⟩ := at_T54 HR0.out (ji7) p110 q110
      have hw110_1 := hx110_1
      have hw110_0 := hx110_0
      obtain rfl : ad109 = ad110 := (by injection e110)
      replace hx110_0 := bc_ HB.out hx110_0
      replace hx110_1 := bc_ HB.out hx110_1
      replace p110 := eq_true p110
      replace q110 := eq_true q110
      refine start_ (n := 23) (S := fun w' => w'.cell? ad109 = some (.int .i64 ((rd_T54 l0 0).f0)) ∧ w'.cell? ⟨ad109.block, ad109.off + 1, none⟩ = some (.int .i64 ((rd_T54 l0 0).f1)) ∧ w'.cell? (ad109.add (((ji7)).toNat * 2)) = some (.int .i64 ((rd_T54 l0 (ji7)).f0)) ∧ w'.cell? ⟨(ad109.add (((ji7)).toNat * 2)).block, (ad109.add (((ji7)).toNat * 2)).off + 1, none⟩ = some (.int .i64 ((rd_T54 l0 (ji7)).f1))) (ds := []) spec_l23Within.mk0 (by kernel_rfl) rfl rfl ⟨(bc_ HB.out hw109_0), (bc_ HB.out hw109_1), (bc_ HB.out hw110_0), (bc_ HB.out hw110_1)⟩ (fun hHeld => ?_); refine with_tabW spec_l23Within.tab1 spec_l23Within.bits1 (fun HT_ HW_ => ?_)
      generalize w.drew = w11 at HB hx109_0 hx109_1 hx110_0 hx110_1 hHeld ⊢
      refine pz_ HT_ 0 (some 5) spec_l23Within.mk1 ?_
      refine one_ (i := 1) (N := some 6) spec_l23Within.mk2 rfl rfl (one_of HT_.out (by kernel_rfl)) (by decide) (fun K hK => ?_)
      refine gs_ Try.func62 #[.slice (some ad109) l0.length c0] ?_
      with_reducible refine (spec_l23Good.calls k _ _ l0 true _ ?side1 ?side2 A3.out).mono ?_
      (case side1 => exact kc_ (Kd.C_below HR0.out HB.out))
      (case side2 => exact HC0.out)
      rintro e w12 ⟨rfl, hb⟩
      refine ⟨_, rfl, ?_⟩
      replace HB := Aside0.mk (below_step (lb0_ HB.out) hb)
      (try clear hb)
      (try clear hb2)
      (try clear hk)
      (try clear hi)
      refine hK.out _ _ ⟨((HB.out.cell (World.block_lt_of_cell? w _ hw109_0)).trans hw109_0), ((HB.out.cell (World.block_lt_of_cell? w _ hw109_1)).trans hw109_1), ((HB.out.cell (World.block_lt_of_cell? w _ hw110_0)).trans hw110_0), ((HB.out.cell (World.block_lt_of_cell? w _ hw110_1)).trans hw110_1)⟩ (fun hHeld => ?_)
      clear hK K
      refine na_ ?_
      refine pz_ HT_ 2 (some 7) spec_l23Within.mk3 ?_
      refine pz_ HT_ 3 (some 8) spec_l23Within.mk4 ?_
      refine pz_ HT_ 4 (some 9) spec_l23Within.mk5 ?_
      refine pz_ HT_ 5 (some 10) spec_l23Within.mk6 ?_
      refine pz_ HT_ 6 (some 11) spec_l23Within.mk7 ?_
      refine pz_ HT_ 7 (some 12) spec_l23Within.mk8 ?_
      refine pz_ HT_ 8 (some 13) spec_l23Within.mk9 ?_
      refine pz_ HT_ 9 (some 14) spec_l23Within.mk10 ?_
      refine pz_ HT_ 10 (some 15) spec_l23Within.mk11 ?_
      refine pz_ HT_ 11 (some 16) spec_l23Within.mk12 ?_
      refine pz_ HT_ 13 (some 18) spec_l23Within.mk13 ?_
      refine pz_ HT_ 14 (some 19) spec_l23Within.mk14 ?_
      refine pz_ HT_ 15 (some 20) spec_l23Within.mk15 ?_
      refine pz_ HT_ 16 (some 21) spec_l23Within.mk16 ?_
      refine pz_ HT_ 17 (some 22) spec_l23Within.mk17 ?_
      refine pz_ HT_ 18 (some 23) spec_l23Within.mk18 ?_
      refine tk_ HT_ HW_ hHeld 12 (some 17) spec_l23Within.mk19 ?_
      refine tk_ HT_ HW_ hHeld 19 (some 24) spec_l23Within.mk20 ?_
      refine one_ (i := 20) (N := some 25) spec_l23Within.mk21 rfl rfl (one_of HT_.out (by kernel_rfl)) (by decide) (fun K hK => ?_)
      refine goes_ Try.func79 (by kernel_rfl) rfl #[.int .i64 a1, .int .i64 ((rd_T54 l0 0).f0), .int .i64 ((rd_T54 l0 (ji7)).f0)] (by rfl) rfl rfl (by (try simp only [List.map_toArray, List.map_cons, List.map_nil]); first | done | (simp only [hji7]; rfl) | rfl | (simp only [List.length_drop, List.length_take]; rfl)) ?_
      with_reducible refine (spec_l1In.calls a1 ((rd_T54 l0 0).f0) ((rd_T54 l0 (ji7)).f0) t111 _ A10.out).mono ?_
      rintro e w' ⟨rfl, ⟨nd, rfl⟩⟩
      refine ⟨_, rfl, ?_⟩
      refine hK.out _ _ ⟨((HB.out.cell (World.block_lt_of_cell? w _ hw109_0)).trans hw109_0), ((HB.out.cell (World.block_lt_of_cell? w _ hw109_1)).trans hw109_1), ((HB.out.cell (World.block_lt_of_cell? w _ hw110_0)).trans hw110_0), ((HB.out.cell (World.block_lt_of_cell? w _ hw110_1)).trans hw110_1)⟩ (fun hHeld => ?_)
      clear hK K
      refine na_ ?_
      refine pz_ HT_ 21 (some 26) spec_l23Within.mk22 ?_
      refine pz_ HT_ 22 (some 4) spec_l23Within.mk23 ?_
      refine done_ (done_of HT_.out (by kernel_rfl)) ?_
      try go_wp2
      go_ret
      exact ⟨by first | rfl | (simp [errW_none, errW_some] <;> rfl) | (simp only [← hji7]; first | rfl | (simp [errW_none, errW_some] <;> rfl)) | (simp [*, errW_none, errW_some] <;> rfl), lb0_ HB.out⟩
     ·
      rw [if_neg c9] at H
      exact absurd H (by simp)
    ·
     rw [if_neg c8] at H
     exact absurd H (by simp)
   ·
    rw [if_neg c6] at H
    exact absurd H (by simp)
  ·
   rw [if_neg c5] at H
   have c5b0 : decide (0 < (l0.length : Int)) = false := decide_eq_false c5
   have c5b1 : decide (0 < l0.length) = false := decide_eq_false (by omega)
   clear c5
   obtain rfl := Option.some.inj H
   go_enter Try.func54, Try.ntmps54
   try go_wp2
   replace HB := Aside0.mk (below_drew1 HB.out)
   refine start_ (n := 23) (S := fun w' => True) (ds := []) spec_l23Within.mk0 (by kernel_rfl) rfl rfl trivial (fun hHeld => ?_); refine with_tabW spec_l23Within.tab1 spec_l23Within.bits1 (fun HT_ HW_ => ?_)
   generalize w.drew = w13 at HB hHeld ⊢
   refine pz_ HT_ 0 (some 5) spec_l23Within.mk1 ?_
   refine one_ (i := 1) (N := some 6) spec_l23Within.mk2 rfl rfl (one_of HT_.out (by kernel_rfl)) (by decide) (fun K hK => ?_)
   refine gs_ Try.func62 #[.slice A0 l0.length c0] ?_
   with_reducible refine (spec_l23Good.calls k _ _ l0 true _ ?side1 ?side2 A3.out).mono ?_
   (case side1 => exact kc_ (Kd.C_below HR0.out HB.out))
   (case side2 => exact HC0.out)
   rintro e w14 ⟨rfl, hb⟩
   refine ⟨_, rfl, ?_⟩
   replace HB := Aside0.mk (below_step (lb0_ HB.out) hb)
   (try clear hb)
   (try clear hb2)
   (try clear hk)
   (try clear hi)
   refine hK.out _ _ trivial (fun hHeld => ?_)
   clear hK K
   refine na_ ?_
   refine pz_ HT_ 2 (some 7) spec_l23Within.mk3 ?_
   refine pz_ HT_ 3 (some 8) spec_l23Within.mk4 ?_
   refine pz_ HT_ 4 (some 9) spec_l23Within.mk5 ?_
   refine pz_ HT_ 5 (some 10) spec_l23Within.mk6 ?_
   refine pz_ HT_ 6 (some 11) spec_l23Within.mk7 ?_
   refine pz_ HT_ 7 (some 12) spec_l23Within.mk8 ?_
   refine pu_ HT_ 8 (some 13) spec_l23Within.mk9 ?_
   refine pu_ HT_ 9 (some 14) spec_l23Within.mk10 ?_
   refine pu_ HT_ 10 (some 15) spec_l23Within.mk11 ?_
   refine pu_ HT_ 11 (some 16) spec_l23Within.mk12 ?_
   refine pu_ HT_ 12 (some 17) spec_l23Within.mk24 ?_
   refine pu_ HT_ 13 (some 18) spec_l23Within.mk25 ?_
   refine pu_ HT_ 14 (some 19) spec_l23Within.mk26 ?_
   refine pu_ HT_ 15 (some 20) spec_l23Within.mk27 ?_
   refine pu_ HT_ 16 (some 21) spec_l23Within.mk28 ?_
   refine pu_ HT_ 17 (some 22) spec_l23Within.mk29 ?_
   refine pu_ HT_ 18 (some 23) spec_l23Within.mk19 ?_
   refine pu_ HT_ 19 (some 24) spec_l23Within.mk20 ?_
   refine pu_ HT_ 20 (some 25) spec_l23Within.mk21 ?_
   refine pz_ HT_ 21 (some 26) spec_l23Within.mk22 ?_
   refine pz_ HT_ 22 (some 4) spec_l23Within.mk23 ?_
   refine done_ (done_of HT_.out (by kernel_rfl)) ?_
   try go_wp2
   go_ret
   exact ⟨rr_, lb0_ HB.out⟩
 ·
  replace c4 := Bool.eq_false_iff.mpr c4
  subst c4
  have H1 : (some false) = some r := by rw [if_neg (show ¬ (false = true) by decide)] at H; exact H
  clear H
  have H := H1
  clear H1
  obtain rfl := Option.some.inj H
  go_enter Try.func54, Try.ntmps54
  try go_wp2
  replace HB := Aside0.mk (below_drew1 HB.out)
  refine start_ (n := 23) (S := fun w' => True) (ds := []) spec_l23Within.mk0 (by kernel_rfl) rfl rfl trivial (fun hHeld => ?_); refine with_tabW spec_l23Within.tab1 spec_l23Within.bits1 (fun HT_ HW_ => ?_)
  generalize w.drew = w15 at HB hHeld ⊢
  refine pz_ HT_ 0 (some 5) spec_l23Within.mk1 ?_
  refine one_ (i := 1) (N := some 6) spec_l23Within.mk2 rfl rfl (one_of HT_.out (by kernel_rfl)) (by decide) (fun K hK => ?_)
  refine gs_ Try.func62 #[.slice A0 l0.length c0] ?_
  with_reducible refine (spec_l23Good.calls k _ _ l0 false _ ?side1 ?side2 A3.out).mono ?_
  (case side1 => exact kc_ (Kd.C_below HR0.out HB.out))
  (case side2 => exact HC0.out)
  rintro e w16 ⟨rfl, hb⟩
  refine ⟨_, rfl, ?_⟩
  replace HB := Aside0.mk (below_step (lb0_ HB.out) hb)
  (try clear hb)
  (try clear hb2)
  (try clear hk)
  (try clear hi)
  refine hK.out _ _ trivial (fun hHeld => ?_)
  clear hK K
  refine na_ ?_
  refine pz_ HT_ 2 (some 7) spec_l23Within.mk3 ?_
  refine pu_ HT_ 3 (some 8) spec_l23Within.mk4 ?_
  refine pu_ HT_ 4 (some 9) spec_l23Within.mk5 ?_
  refine pu_ HT_ 5 (some 10) spec_l23Within.mk6 ?_
  refine pz_ HT_ 6 (some 11) spec_l23Within.mk7 ?_
  refine pz_ HT_ 7 (some 12) spec_l23Within.mk8 ?_
  refine pu_ HT_ 8 (some 13) spec_l23Within.mk9 ?_
  refine pu_ HT_ 9 (some 14) spec_l23Within.mk10 ?_
  refine pu_ HT_ 10 (some 15) spec_l23Within.mk11 ?_
  refine pu_ HT_ 11 (some 16) spec_l23Within.mk12 ?_
  refine pu_ HT_ 12 (some 17) spec_l23Within.mk24 ?_
  refine pu_ HT_ 13 (some 18) spec_l23Within.mk25 ?_
  refine pu_ HT_ 14 (some 19) spec_l23Within.mk26 ?_
  refine pu_ HT_ 15 (some 20) spec_l23Within.mk27 ?_
  refine pu_ HT_ 16 (some 21) spec_l23Within.mk28 ?_
  refine pu_ HT_ 17 (some 22) spec_l23Within.mk29 ?_
  refine pu_ HT_ 18 (some 23) spec_l23Within.mk19 ?_
  refine pu_ HT_ 19 (some 24) spec_l23Within.mk20 ?_
  refine pu_ HT_ 20 (some 25) spec_l23Within.mk21 ?_
  refine pz_ HT_ 21 (some 26) spec_l23Within.mk22 ?_
  refine pz_ HT_ 22 (some 4) spec_l23Within.mk23 ?_
  refine done_ (done_of HT_.out (by kernel_rfl)) ?_
  try go_wp2
  go_ret
  exact ⟨rr_, lb0_ HB.out⟩
def spec_l23Common.l0 : Nat → Int → Int → Option (Int)
 | 0, _, _ => none
 | k + 1, x0, x1 => if x1 > 0 then (if x1 = 0 then (none) else (spec_l23Common.l0 k x1 (Int.tmod x0 x1))) else (some x0)
def spec_l23Common.f (k : Nat) (a0 : Int) (a1 : Int) : Option (Int) := spec_l23Common.l0 k a0 a1
set_option maxHeartbeats 8000000 in
set_option maxRecDepth 100000 in
theorem spec_l23Common.calls (k : Nat) (a0 : Int) (a1 : Int) (r : Int) (w : World) (h : spec_l23Common.f k a0 a1 = some r) :
  Calls Try.prog 94 #[.int .i64 a0, .int .i64 a1] w fun e w' => e = .returned (.int .i64 r) ∧ Drawn0 w w' := by
 have H : (spec_l23Common.l0 k a0 a1) = some r := h
 clear h
 have H' := Aside0.mk H
 clear H
 go_enter Try.func94, Try.ntmps94
 go_wp2
 go_loopg [0, 1] k (fun kq v0 v1 w' => ∃ (x0_1 : Int) (x1_1 : Int), v0 = .int .i64 x0_1 ∧ v1 = .int .i64 x1_1 ∧ Aside0 (spec_l23Common.l0 kq x0_1 x1_1 = some r) ∧ Aside0 (kq ≤ k) ∧ Drawn0 w w')
 case atStart => exact ⟨(a0), (a1), (by first | rfl | (simp; done) | (simp [*]; done)), (by first | rfl | (simp; done) | (simp [*]; done)), H', ⟨Nat.le_refl _⟩, by repeat (first | exact Drawn0.refl _ | apply Drawn0.step)⟩
 case round =>
  clear H'
  try clear p2
  obtain ⟨x0_1, x1_1, rfl, rfl, HA, HK1, ⟨m1, rfl⟩⟩ := hrel
  cases gk with
  | zero => exact absurd HA.out (by simp [spec_l23Common.l0])
  | succ k1 =>
   have H := HA.out
   clear HA
   simp only [spec_l23Common.l0] at H
   by_cases c3 : x1_1 > 0
   ·
    rw [if_pos c3] at H
    have c3b0 : decide (0 < x1_1) = true := decide_eq_true c3
    clear c3
    by_cases c4 : x1_1 = 0
    ·
     rw [if_pos c4] at H
     exact absurd H (by simp)
    ·
     rw [if_neg c4] at H
     have c4b0 : (x1_1 == 0) = false := beq_eq_false_iff_ne.mpr c4
     have c4b1 : (x1_1 != 0) = true := bne_iff_ne.mpr c4
     have H' := Aside0.mk H
     clear H
     go_wp2
     go_roundg k1
     case measure => have := HK1.out; omega
     case rel => exact ⟨(x1_1), (Int.tmod x0_1 x1_1), (by first | rfl | (simp; done) | (simp [*]; done)), (by first | rfl | (simp; done) | (simp [*]; done)), H', ⟨by have := HK1.out; omega⟩, by repeat (first | exact Drawn0.refl _ | apply Drawn0.step)⟩
   ·
    rw [if_neg c3] at H
    have c3b0 : decide (0 < x1_1) = false := decide_eq_false c3
    clear c3
    obtain rfl := Option.some.inj H
    go_wp2
    go_ret
    exact ⟨by first | rfl | (simp; done) | (simp [*]; done), by repeat (first | exact Drawn0.refl _ | apply Drawn0.step)⟩
def spec_l1Most.f (a0 : Int) (a1 : Int) : Option (Int) := if a0 > a1 then (some a0) else (some a1)
set_option maxHeartbeats 8000000 in
set_option maxRecDepth 100000 in
theorem spec_l1Most.calls (a0 : Int) (a1 : Int) (r : Int) (w : World) (h : spec_l1Most.f a0 a1 = some r) :
  Calls Try.prog 95 #[.int .i64 a0, .int .i64 a1] w fun e w' => e = .returned (.int .i64 r) ∧ Drawn0 w w' := by
 have H : (if a0 > a1 then (some a0) else (some a1)) = some r := h
 clear h
 by_cases c3 : a0 > a1
 ·
  rw [if_pos c3] at H
  have c3b0 : decide (a1 < a0) = true := decide_eq_true c3
  clear c3
  obtain rfl := Option.some.inj H
  go_enter Try.func95, Try.ntmps95
  go_wp2
  go_ret
  exact ⟨by first | rfl | (simp; done) | (simp [*]; done), by repeat (first | exact Drawn0.refl _ | apply Drawn0.step)⟩
 ·
  rw [if_neg c3] at H
  have c3b0 : decide (a1 < a0) = false := decide_eq_false c3
  clear c3
  obtain rfl := Option.some.inj H
  go_enter Try.func95, Try.ntmps95
  go_wp2
  go_ret
  exact ⟨by first | rfl | (simp; done) | (simp [*]; done), by repeat (first | exact Drawn0.refl _ | apply Drawn0.step)⟩
def spec_l23Reduce.f (k : Nat) (a0 : Int) (a1 : Int) : Option (Int × Int) := (spec_l1Most.f a0 (wrap64 (-a0))).bind fun t117 => ((spec_l23Common.f k t117 a1).bind fun t118 => (if t118 = 0 then (none) else (some (wrap64 (Int.tdiv a0 t118), wrap64 (Int.tdiv a1 t118)))))
set_option maxHeartbeats 8000000 in
set_option maxRecDepth 100000 in
theorem spec_l23Reduce.calls (k : Nat) (a0 : Int) (a1 : Int) (r1 : Int) (r2 : Int) (w : World) (h : spec_l23Reduce.f k a0 a1 = some (r1, r2)) :
  Calls Try.prog 73 #[.int .i64 a0, .int .i64 a1] w fun e w' => e = .returned (.tuple #[.int .i64 r1, .int .i64 r2]) ∧ Drawn0 w w' := by
 have H : ((spec_l1Most.f a0 (wrap64 (-a0))).bind fun t117 => ((spec_l23Common.f k t117 a1).bind fun t118 => (if t118 = 0 then (none) else (some (wrap64 (Int.tdiv a0 t118), wrap64 (Int.tdiv a1 t118)))))) = some (r1, r2) := h
 clear h
 replace H := Option.bind_eq_some_iff.mp H
 obtain ⟨t117, A30, H⟩ := H
 replace H : ((spec_l23Common.f k t117 a1).bind fun t118 => (if t118 = 0 then (none) else (some (wrap64 (Int.tdiv a0 t118), wrap64 (Int.tdiv a1 t118))))) = some (r1, r2) := H
 have A3 := Aside0.mk A30
 clear A30
 replace H := Option.bind_eq_some_iff.mp H
 obtain ⟨t118, A40, H⟩ := H
 replace H : (if t118 = 0 then (none) else (some (wrap64 (Int.tdiv a0 t118), wrap64 (Int.tdiv a1 t118)))) = some (r1, r2) := H
 have A4 := Aside0.mk A40
 clear A40
 by_cases c5 : t118 = 0
 ·
  rw [if_pos c5] at H
  exact absurd H (by simp)
 ·
  rw [if_neg c5] at H
  have c5b0 : (t118 == 0) = false := beq_eq_false_iff_ne.mpr c5
  have c5b1 : (t118 != 0) = true := bne_iff_ne.mpr c5
  simp only [Option.some.injEq, Prod.mk.injEq] at H
  obtain ⟨rfl, rfl⟩ := H
  go_enter Try.func73, Try.ntmps73
  go_wp2_with (first | (go_at_call 95; (with_reducible refine (spec_l1Most.calls a0 (wrap64 (-a0)) t117 _ A3.out).mono ?_); rintro e w' ⟨rfl, ⟨nd, rfl⟩⟩; (try first | exact ⟨rfl, _, World.drewN_drewN _ _ _⟩ | exact ⟨rfl, _, Eq.trans (World.drewN_drewN _ _ _) (congrArg (World.drewN _) (Nat.add_assoc _ _ _))⟩)) | (go_at_call 94; (with_reducible refine (spec_l23Common.calls k t117 a1 t118 _ A4.out).mono ?_); rintro e w' ⟨rfl, ⟨nd, rfl⟩⟩; (try first | exact ⟨rfl, _, World.drewN_drewN _ _ _⟩ | exact ⟨rfl, _, Eq.trans (World.drewN_drewN _ _ _) (congrArg (World.drewN _) (Nat.add_assoc _ _ _))⟩)))
  repeat (go_quiet (first | (go_at_call 95; (with_reducible refine (spec_l1Most.calls a0 (wrap64 (-a0)) t117 _ A3.out).mono ?_); rintro e w' ⟨rfl, ⟨nd, rfl⟩⟩; (try first | exact ⟨rfl, _, World.drewN_drewN _ _ _⟩ | exact ⟨rfl, _, Eq.trans (World.drewN_drewN _ _ _) (congrArg (World.drewN _) (Nat.add_assoc _ _ _))⟩)) | (go_at_call 94; (with_reducible refine (spec_l23Common.calls k t117 a1 t118 _ A4.out).mono ?_); rintro e w' ⟨rfl, ⟨nd, rfl⟩⟩; (try first | exact ⟨rfl, _, World.drewN_drewN _ _ _⟩ | exact ⟨rfl, _, Eq.trans (World.drewN_drewN _ _ _) (congrArg (World.drewN _) (Nat.add_assoc _ _ _))⟩))); try go_wp2_with (first | (go_at_call 95; (with_reducible refine (spec_l1Most.calls a0 (wrap64 (-a0)) t117 _ A3.out).mono ?_); rintro e w' ⟨rfl, ⟨nd, rfl⟩⟩; (try first | exact ⟨rfl, _, World.drewN_drewN _ _ _⟩ | exact ⟨rfl, _, Eq.trans (World.drewN_drewN _ _ _) (congrArg (World.drewN _) (Nat.add_assoc _ _ _))⟩)) | (go_at_call 94; (with_reducible refine (spec_l23Common.calls k t117 a1 t118 _ A4.out).mono ?_); rintro e w' ⟨rfl, ⟨nd, rfl⟩⟩; (try first | exact ⟨rfl, _, World.drewN_drewN _ _ _⟩ | exact ⟨rfl, _, Eq.trans (World.drewN_drewN _ _ _) (congrArg (World.drewN _) (Nat.add_assoc _ _ _))⟩))))
  go_ret2
  exact ⟨by first | rfl | (simp; done) | (simp [*]; done), by repeat (first | exact Drawn0.refl _ | apply Drawn0.step)⟩
def spec_l23In.l0 : Nat → List (S54) → Int → Int → Option (Int × Int)
 | 0, _, _, _ => none
 | k + 1, x0, x1, x6 => if 0 ≤ x6 then (if x6 < (x0.length : Int) then (if ((rd_T54 x0 x6).f0) < x1 then (spec_l23In.l0 k x0 x1 (wrap64 (x6 + 1))) else (if ((rd_T54 x0 x6).f0) = x1 then (some ((rd_T54 x0 x6).f1, 1)) else (if 0 ≤ (wrap64 (x6 - 1)) then (if (wrap64 (x6 - 1)) < (x0.length : Int) then ((spec_l23Reduce.f k (wrap64 ((wrap64 (((rd_T54 x0 (wrap64 (x6 - 1))).f1) * (wrap64 (((rd_T54 x0 x6).f0) - x1)))) + (wrap64 (((rd_T54 x0 x6).f1) * (wrap64 (x1 - ((rd_T54 x0 (wrap64 (x6 - 1))).f0))))))) (wrap64 (((rd_T54 x0 x6).f0) - ((rd_T54 x0 (wrap64 (x6 - 1))).f0)))).bind fun bt126 => (some (bt126.1, bt126.2))) else (none)) else (none)))) else (none)) else (none)
def spec_l23In.f (k : Nat) (l0 : List (S54)) (a1 : Int) : Option (Int × Int) := spec_l23In.l0 k l0 a1 0
def spec_l23In.T6 : Bool × List (List Nat × List Nat) := (true, [([], []), ([], []), ([1], [1]), ([0, 2], [0, 2]), ([3], [3]), ([], []), ([], []), ([5, 6], [5, 6]), ([7], [7]), ([], []), ([], []), ([9, 4, 0, 1, 2, 3, 4, 9, 10], [4, 9]), ([10, 8, 11, 0, 1, 2, 3, 4, 5, 6, 7, 8, 9, 10, 11], [8, 10])])
def spec_l23In.B6 : List Nat := [0, 0, 2, 7, 15, 0, 0, 96, 224, 0, 0, 1567, 4095]
theorem spec_l23In.tab6 : rtab .any (opsOf Try.f70 6) = spec_l23In.T6 := by kernel_rfl
theorem spec_l23In.bits6 : waitsOk spec_l23In.T6.2 spec_l23In.B6 = true := by kernel_rfl
abbrev spec_l23In.mk0 : Array Bool := #[fF,fF,fF,fF,fF,fF,fF,fF,fF,fF,fF,fF,fF]
abbrev spec_l23In.mk1 : Array Bool := #[tT,fF,fF,fF,fF,fF,fF,fF,fF,fF,fF,fF,fF]
abbrev spec_l23In.mk2 : Array Bool := #[tT,tT,fF,fF,fF,fF,fF,fF,fF,fF,fF,fF,fF]
abbrev spec_l23In.mk3 : Array Bool := #[tT,tT,tT,fF,fF,fF,fF,fF,fF,fF,fF,fF,fF]
abbrev spec_l23In.mk4 : Array Bool := #[tT,tT,tT,tT,fF,fF,fF,fF,fF,fF,fF,fF,fF]
abbrev spec_l23In.mk5 : Array Bool := #[tT,tT,tT,tT,fF,tT,fF,fF,fF,fF,fF,fF,fF]
abbrev spec_l23In.mk6 : Array Bool := #[tT,tT,tT,tT,fF,tT,tT,fF,fF,fF,fF,fF,fF]
abbrev spec_l23In.mk7 : Array Bool := #[tT,tT,tT,tT,fF,tT,tT,tT,fF,fF,fF,fF,fF]
abbrev spec_l23In.mk8 : Array Bool := #[tT,tT,tT,tT,tT,tT,tT,tT,fF,fF,fF,fF,fF]
abbrev spec_l23In.mk9 : Array Bool := #[tT,tT,tT,tT,tT,tT,tT,tT,tT,fF,fF,fF,fF]
abbrev spec_l23In.mk10 : Array Bool := #[tT,tT,tT,tT,tT,tT,tT,tT,tT,tT,tT,fF,fF]
abbrev spec_l23In.mk11 : Array Bool := #[tT,tT,tT,tT,tT,tT,tT,tT,tT,tT,fF,fF,fF]
abbrev spec_l23In.mk12 : Array Bool := #[tT,tT,tT,tT,tT,tT,tT,tT,tT,fF,tT,fF,fF]
abbrev spec_l23In.mk13 : Array Bool := #[tT,tT,tT,tT,tT,tT,tT,tT,tT,tT,tT,tT,fF]
abbrev spec_l23In.mk14 : Array Bool := #[tT,tT,tT,tT,tT,tT,tT,tT,tT,tT,tT,tT,tT]
set_option maxHeartbeats 8000000 in
set_option maxRecDepth 100000 in
theorem spec_l23In.calls (k : Nat) (A0 : Option Addr) (c0 : Nat) (l0 : List (S54)) (a1 : Int) (r1 : Int) (r2 : Int) (w : World) (hr0 : Kd.C k54 w A0 l0.length l0) (hc0 : l0.length ≤ c0) (h : spec_l23In.f k l0 a1 = some (r1, r2)) :
  Calls Try.prog 70 #[.slice A0 l0.length c0, .int .i64 a1] w fun e w' => e = .returned (.tuple #[.int .i64 r1, .int .i64 r2]) ∧ Below w.heap.size w w' := by
 have hu54 := Try.underlying54
 have HR0 := Aside0.mk hr0
 have HC0 := Aside0.mk hc0
 clear hr0 hc0
 have HB := Aside0.mk (Below.refl w.heap.size w)
 have H : (spec_l23In.l0 k l0 a1 0) = some (r1, r2) := h
 clear h
 have H' := Aside0.mk H
 clear H
 go_enter Try.func70, Try.ntmps70
 go_wp2
 go_loopg [6] k (fun kq v6 w' => ∃ (x6_1 : Int), v6 = .int .i64 x6_1 ∧ Aside0 (spec_l23In.l0 kq l0 a1 x6_1 = some (r1, r2)) ∧ Aside0 (kq ≤ k) ∧ Aside0 (Below w.heap.size w w'))
 case atStart => exact ⟨(0), (by first | rfl | (simp; done) | (simp [*]; done)), H', ⟨Nat.le_refl _⟩, ⟨lb0_ HB.out⟩⟩
 case round =>
  clear H'
  try clear p2
  obtain ⟨x6_1, rfl, HA, HK1, HB⟩ := hrel
  cases gk with
  | zero => exact absurd HA.out (by simp [spec_l23In.l0])
  | succ k1 =>
   have H := HA.out
   clear HA
   simp only [spec_l23In.l0] at H
   by_cases c3 : 0 ≤ x6_1
   ·
    rw [if_pos c3] at H
    have c3b0 : decide (0 ≤ x6_1) = true := decide_eq_true c3
    clear c3
    by_cases c4 : x6_1 < (l0.length : Int)
    ·
     rw [if_pos c4] at H
     have c4b0 : decide (x6_1 < (l0.length : Int)) = true := decide_eq_true c4
     clear c4
     by_cases c5 : ((rd_T54 l0 x6_1).f0) < a1
     ·
      rw [if_pos c5] at H
      have c5b0 : decide (((rd_T54 l0 x6_1).f0) < a1) = true := decide_eq_true c5
      clear c5
      have H' := Aside0.mk H
      clear H
      have p119 : 0 ≤ (x6_1 : Int) := dt_
      have q119 : x6_1 < (l0.length : Int) := dt_
      obtain ⟨ad119, e119, hx119_0, hx119_1⟩ := at_T54 HR0.out x6_1 p119 q119
      cases e119
      replace hx119_0 := bc_ HB.out hx119_0
      replace hx119_1 := bc_ HB.out hx119_1
      replace p119 := eq_true p119
      replace q119 := eq_true q119
      go_wp2
      go_roundg k1
      case measure => have := HK1.out; omega
      case rel => exact ⟨(wrap64 (x6_1 + 1)), (by first | rfl | (simp; done) | (simp [*]; done)), H', ⟨by have := HK1.out; omega⟩, ⟨lb0_ HB.out⟩⟩
     ·
      rw [if_neg c5] at H
      have c5b0 : decide (((rd_T54 l0 x6_1).f0) < a1) = false := decide_eq_false c5
      clear c5
      by_cases c6 : ((rd_T54 l0 x6_1).f0) = a1
      ·
       rw [if_pos c6] at H
       have c6b0 : (((rd_T54 l0 x6_1).f0) == a1) = true := beq_iff_eq.mpr c6
       have c6b1 : (((rd_T54 l0 x6_1).f0) != a1) = false := bne_eq_false_iff_eq.mpr c6
       clear c6
       simp only [Option.some.injEq, Prod.mk.injEq] at H
       obtain ⟨rfl, rfl⟩ := H
       have p119 : 0 ≤ (x6_1 : Int) := dt_
       have q119 : x6_1 < (l0.length : Int) := dt_
       obtain ⟨ad119, e119, hx119_0, hx119_1⟩ := at_T54 HR0.out x6_1 p119 q119
       cases e119
       replace hx119_0 := bc_ HB.out hx119_0
       replace hx119_1 := bc_ HB.out hx119_1
       replace p119 := eq_true p119
       replace q119 := eq_true q119
       have p120 : 0 ≤ (x6_1 : Int) := dt_
       have q120 : x6_1 < (l0.length : Int) := dt_
       obtain ⟨ad120, e120, hx120_0, hx120_1⟩ := at_T54 HR0.out x6_1 p120 q120
       obtain rfl : ad119 = ad120 := (by injection e120)
       replace hx120_0 := bc_ HB.out hx120_0
       replace hx120_1 := bc_ HB.out hx120_1
       replace p120 := eq_true p120
       replace q120 := eq_true q120
       have p121 : 0 ≤ (x6_1 : Int) := dt_
       have q121 : x6_1 < (l0.length : Int) := dt_
       obtain ⟨ad121, e121, hx121_0, hx121_1⟩ := at_T54 HR0.out x6_1 p121 q121
       obtain rfl : ad119 = ad121 := (by injection e121)
       replace hx121_0 := bc_ HB.out hx121_0
       replace hx121_1 := bc_ HB.out hx121_1
       replace p121 := eq_true p121
       replace q121 := eq_true q121
       go_wp2
       go_ret2
       exact ⟨rr_, lb0_ HB.out⟩
      ·
       rw [if_neg c6] at H
       have c6b0 : (((rd_T54 l0 x6_1).f0) == a1) = false := beq_eq_false_iff_ne.mpr c6
       have c6b1 : (((rd_T54 l0 x6_1).f0) != a1) = true := bne_iff_ne.mpr c6
       obtain ⟨ji7, hji7⟩ : ∃ j_ : Int, (wrap64 (x6_1 - 1)) = j_ := ⟨_, rfl⟩
       replace H : (if 0 ≤ (ji7) then (if (ji7) < (l0.length : Int) then ((spec_l23Reduce.f k1 (wrap64 ((wrap64 (((rd_T54 l0 (ji7)).f1) * (wrap64 (((rd_T54 l0 x6_1).f0) - a1)))) + (wrap64 (((rd_T54 l0 x6_1).f1) * (wrap64 (a1 - ((rd_T54 l0 (ji7)).f0))))))) (wrap64 (((rd_T54 l0 x6_1).f0) - ((rd_T54 l0 (ji7)).f0)))).bind fun bt126 => (some (bt126.1, bt126.2))) else (none)) else (none)) = some (r1, r2) := by first | (rw [hji7] at H; exact H) | (simp only [hji7] at H ⊢; exact H)
       have hji7w : (IntKind.i64.wrap (x6_1 - 1)) = ji7 := (i64_w _).trans hji7
       by_cases c8 : 0 ≤ (ji7)
       ·
        rw [if_pos c8] at H
        have c8b0 : decide (0 ≤ (ji7)) = true := decide_eq_true c8; clear c8
        by_cases c9 : (ji7) < (l0.length : Int)
        ·
         rw [if_pos c9] at H
         have c9b0 : decide ((ji7) < (l0.length : Int)) = true := decide_eq_true c9; clear c9; replace H := Option.bind_eq_some_iff.mp H; obtain ⟨⟨t126, t127⟩, A100, H⟩ := H; replace H : (some (t126, t127)) = some (r1, r2) := H; have A10 := Aside0.mk A100; clear A100; simp only [Option.some.injEq, Prod.mk.injEq] at H; obtain ⟨rfl, rfl⟩ := H; have p119 : 0 ≤ (x6_1 : Int) := dt_; have q119 : x6_1 < (l0.length : Int) := dt_; obtain ⟨ad119, e119, hx119_0, hx119_1⟩ := at_T54 HR0.out x6_1 p119 q119
         cases e119
         replace hx119_0 := bc_ HB.out hx119_0; replace hx119_1 := bc_ HB.out hx119_1; replace p119 := eq_true p119; replace q119 := eq_true q119; have p120 : 0 ≤ (x6_1 : Int) := dt_; have q120 : x6_1 < (l0.length : Int) := dt_; obtain ⟨ad120, e120, hx120_0, hx120_1⟩ := at_T54 HR0.out x6_1 p120 q120
         obtain rfl : ad119 = ad120 := (by injection e120)
         replace hx120_0 := bc_ HB.out hx120_0; replace hx120_1 := bc_ HB.out hx120_1; replace p120 := eq_true p120; replace q120 := eq_true q120
         try go_wp2
         replace HB := Aside0.mk (below_drew1 HB.out); have p122 : 0 ≤ ((ji7) : Int) := dt_; have q122 : (ji7) < (l0.length : Int) := dt_; obtain ⟨ad122, e122, hx122_0, hx122_1⟩ := at_T54 HR0.out (ji7) p122 q122; have hw122_1 := hx122_1; have hw122_0 := hx122_0
         obtain rfl : ad119 = ad122 := (by injection e122)
         replace hx122_0 := bc_ HB.out hx122_0; replace hx122_1 := bc_ HB.out hx122_1; replace p122 := eq_true p122; replace q122 := eq_true q122; have p123 : 0 ≤ (x6_1 : Int) := dt_; have q123 : x6_1 < (l0.length : Int) := dt_; obtain ⟨ad123, e123, hx123_0, hx123_1⟩ := at_T54 HR0.out x6_1 p123 q123; have hw123_1 := hx123_1; have hw123_0 := hx123_0
         obtain rfl : ad119 = ad123 := (by injection e123)
         replace hx123_0 := bc_ HB.out hx123_0; replace hx123_1 := bc_ HB.out hx123_1; replace p123 := eq_true p123; replace q123 := eq_true q123; refine start_ (n := 13) (S := fun w' => w'.cell? (ad119.add (((ji7)).toNat * 2)) = some (.int .i64 ((rd_T54 l0 (ji7)).f0)) ∧ w'.cell? ⟨(ad119.add (((ji7)).toNat * 2)).block, (ad119.add (((ji7)).toNat * 2)).off + 1, none⟩ = some (.int .i64 ((rd_T54 l0 (ji7)).f1)) ∧ w'.cell? (ad119.add ((x6_1).toNat * 2)) = some (.int .i64 ((rd_T54 l0 x6_1).f0)) ∧ w'.cell? ⟨(ad119.add ((x6_1).toNat * 2)).block, (ad119.add ((x6_1).toNat * 2)).off + 1, none⟩ = some (.int .i64 ((rd_T54 l0 x6_1).f1))) (ds := []) spec_l23In.mk0 (by kernel_rfl) rfl rfl ⟨(bc_ HB.out hw122_0), (bc_ HB.out hw122_1), (bc_ HB.out hw123_0), (bc_ HB.out hw123_1)⟩ (fun hHeld => ?_); refine with_tabW spec_l23In.tab6 spec_l23In.bits6 (fun HT_ HW_ => ?_); generalize wr.drew = w11 at HB hx122_0 hx122_1 hx123_0 hx123_1 hHeld ⊢; refine pz_ HT_ 0 (some 32) spec_l23In.mk1 ?_; refine pz_ HT_ 1 (some 33) spec_l23In.mk2 ?_; refine pz_ HT_ 2 (some 34) spec_l23In.mk3 ?_; refine pz_ HT_ 3 (some 35) spec_l23In.mk4 ?_; refine pz_ HT_ 5 (some 37) spec_l23In.mk5 ?_; refine pz_ HT_ 6 (some 38) spec_l23In.mk6 ?_; refine pz_ HT_ 7 (some 39) spec_l23In.mk7 ?_; refine tk_ HT_ HW_ hHeld 4 (some 36) spec_l23In.mk8 ?_; refine tk_ HT_ HW_ hHeld 8 (some 40) spec_l23In.mk9 ?_; refine join_ (σ := Nat × Nat) 2 spec_l23In.mk10 (fun s_ => [(7, .pointer (some ⟨s_.1, 0, none⟩)), (8, .pointer (some ⟨s_.2, 0, none⟩))]) (fun s_ w' => (w'.cell? (ad119.add (((ji7)).toNat * 2)) = some (.int .i64 ((rd_T54 l0 (ji7)).f0)) ∧ w'.cell? ⟨(ad119.add (((ji7)).toNat * 2)).block, (ad119.add (((ji7)).toNat * 2)).off + 1, none⟩ = some (.int .i64 ((rd_T54 l0 (ji7)).f1)) ∧ w'.cell? (ad119.add ((x6_1).toNat * 2)) = some (.int .i64 ((rd_T54 l0 x6_1).f0)) ∧ w'.cell? ⟨(ad119.add ((x6_1).toNat * 2)).block, (ad119.add ((x6_1).toNat * 2)).off + 1, none⟩ = some (.int .i64 ((rd_T54 l0 x6_1).f1))) ∧ (w'.heap[s_.1]? = some (.cells #[.int .i64 0, .int .i64 0] 54 (0, 0))) ∧ (w'.heap[s_.2]? = some (.cells #[.int .i64 0, .int .i64 0] 54 (0, 0))) ∧ (w.heap.size ≤ s_.1) ∧ (w.heap.size ≤ s_.1) ∧ (s_.2 ≠ s_.1) ∧ (s_.1 ≠ s_.2) ∧ (w.heap.size ≤ s_.2) ∧ (w.heap.size ≤ s_.2) ∧ (Below w.heap.size w w')) ?_ ?_; rotate_left
         ·
          intro hCont; refine two_ (i := 9) (j := 10) (Ni := some 7) (Nj := some 8) spec_l23In.mk11 spec_l23In.mk12 rfl rfl rfl rfl (two_of HT_.out (by kernel_rfl)) (by decide) (by decide) (fun K hK => ?_) (fun K hK => ?_)
          ·
           skip; refine box_step ?hg (N := 7) ?hd (cs := #[.int .i64 0, .int .i64 0]) (t := 54) ?hr ?_; (case hd => rfl); (case hg => rfl); (case hr => first | (go_simp; done) | (go_simp; rfl)); intro gb124 hg w12 hbox hb; have BK124 := Aside0.mk (hbox); have GW124 := Aside0.mk ((bz_ hg (lb0_ HB.out))); have GE124 := Aside0.mk ((bz_ hg (lb0_ HB.out))); replace HB := Aside0.mk (below_step (lb0_ HB.out) hb); clear hb hbox hg; refine hK.out _ _ ⟨((HB.out.cell (World.block_lt_of_cell? w _ hw122_0)).trans hw122_0), ((HB.out.cell (World.block_lt_of_cell? w _ hw122_1)).trans hw122_1), ((HB.out.cell (World.block_lt_of_cell? w _ hw123_0)).trans hw123_0), ((HB.out.cell (World.block_lt_of_cell? w _ hw123_1)).trans hw123_1)⟩ (fun hHeld => ?_); clear hK K; refine na_ ?_; refine one_ (i := 10) (N := some 8) spec_l23In.mk10 rfl rfl (one_of HT_.out (by kernel_rfl)) (by decide) (fun K hK => ?_); refine box_step ?hg (N := 8) ?hd (cs := #[.int .i64 0, .int .i64 0]) (t := 54) ?hr ?_; (case hd => rfl); (case hg => rfl); (case hr => first | (go_simp; done) | (go_simp; rfl)); intro gb125 hg w13 hbox hb; have BK125 := Aside0.mk (hbox); have GW125 := Aside0.mk ((bz_ hg (lb1_ HB.out GE124.out))); have GE125 := Aside0.mk ((bz_ hg (lb1_ HB.out GE124.out))); replace HB := Aside0.mk (below_step (lb1_ HB.out GE124.out) hb); have NB124_125 := Aside0.mk (nl_ hg BK124.out); have NB125_124 := Aside0.mk (ng_ hg BK124.out); replace BK124 := Aside0.mk (bb_ (bk_ BK124.out) hb); clear hb hbox hg; refine hK.out _ _ ⟨((HB.out.cell (World.block_lt_of_cell? w _ hw122_0)).trans hw122_0), ((HB.out.cell (World.block_lt_of_cell? w _ hw122_1)).trans hw122_1), ((HB.out.cell (World.block_lt_of_cell? w _ hw123_0)).trans hw123_0), ((HB.out.cell (World.block_lt_of_cell? w _ hw123_1)).trans hw123_1)⟩ (fun hHeld => ?_); clear hK K; refine na_ ?_; exact norm_ (by simp only [putAll, Act.put, List.setIfInBounds_toArray, List.set_cons_zero, List.set_cons_succ]) (hCont (gb124, gb125) _ ⟨hHeld, (bk_ BK124.out), (bk_ BK125.out), GW124.out, GE124.out, NB125_124.out, NB124_125.out, GW125.out, GE125.out, (lb2_ HB.out GE124.out GE125.out)⟩)
          ·
           skip; refine box_step ?hg (N := 8) ?hd (cs := #[.int .i64 0, .int .i64 0]) (t := 54) ?hr ?_; (case hd => rfl); (case hg => rfl); (case hr => first | (go_simp; done) | (go_simp; rfl)); intro gb125 hg w12 hbox hb; have BK125 := Aside0.mk (hbox); have GW125 := Aside0.mk ((bz_ hg (lb0_ HB.out))); have GE125 := Aside0.mk ((bz_ hg (lb0_ HB.out))); replace HB := Aside0.mk (below_step (lb0_ HB.out) hb); clear hb hbox hg; refine hK.out _ _ ⟨((HB.out.cell (World.block_lt_of_cell? w _ hw122_0)).trans hw122_0), ((HB.out.cell (World.block_lt_of_cell? w _ hw122_1)).trans hw122_1), ((HB.out.cell (World.block_lt_of_cell? w _ hw123_0)).trans hw123_0), ((HB.out.cell (World.block_lt_of_cell? w _ hw123_1)).trans hw123_1)⟩ (fun hHeld => ?_); clear hK K; refine na_ ?_; refine one_ (i := 9) (N := some 7) spec_l23In.mk10 rfl rfl (one_of HT_.out (by kernel_rfl)) (by decide) (fun K hK => ?_); refine box_step ?hg (N := 7) ?hd (cs := #[.int .i64 0, .int .i64 0]) (t := 54) ?hr ?_; (case hd => rfl); (case hg => rfl); (case hr => first | (go_simp; done) | (go_simp; rfl)); intro gb124 hg w13 hbox hb; have BK124 := Aside0.mk (hbox); have GW124 := Aside0.mk ((bz_ hg (lb1_ HB.out GE125.out))); have GE124 := Aside0.mk ((bz_ hg (lb1_ HB.out GE125.out))); replace HB := Aside0.mk (below_step (lb1_ HB.out GE125.out) hb); have NB125_124 := Aside0.mk (nl_ hg BK125.out); have NB124_125 := Aside0.mk (ng_ hg BK125.out); replace BK125 := Aside0.mk (bb_ (bk_ BK125.out) hb); clear hb hbox hg; refine hK.out _ _ ⟨((HB.out.cell (World.block_lt_of_cell? w _ hw122_0)).trans hw122_0), ((HB.out.cell (World.block_lt_of_cell? w _ hw122_1)).trans hw122_1), ((HB.out.cell (World.block_lt_of_cell? w _ hw123_0)).trans hw123_0), ((HB.out.cell (World.block_lt_of_cell? w _ hw123_1)).trans hw123_1)⟩ (fun hHeld => ?_); clear hK K; refine na_ ?_; exact norm_ (by simp only [putAll, Act.put, List.setIfInBounds_toArray, List.set_cons_zero, List.set_cons_succ]) (hCont (gb124, gb125) _ ⟨hHeld, (bk_ BK124.out), (bk_ BK125.out), GW124.out, GE124.out, NB125_124.out, NB124_125.out, GW125.out, GE125.out, (lb2_ HB.out GE125.out GE124.out)⟩)
         rintro ⟨gb124, gb125⟩ w14 ⟨hS_, h0_, h1_, h2_, h3_, h4_, h5_, h6_, h7_, h8_⟩; (try dsimp only at h0_ h1_ h2_ h3_ h4_ h5_ h6_ h7_ h8_); have BK124 := Aside0.mk h0_; have BK125 := Aside0.mk h1_; have GW124 := Aside0.mk h2_; have GE124 := Aside0.mk h3_; have NB125_124 := Aside0.mk h4_; have NB124_125 := Aside0.mk h5_; have GW125 := Aside0.mk h6_; have GE125 := Aside0.mk h7_; replace HB := Aside0.mk h8_; clear h0_ h1_ h2_ h3_ h4_ h5_ h6_ h7_ h8_; have hHeld : w14.cell? (ad119.add (((ji7)).toNat * 2)) = some (.int .i64 ((rd_T54 l0 (ji7)).f0)) ∧ w14.cell? ⟨(ad119.add (((ji7)).toNat * 2)).block, (ad119.add (((ji7)).toNat * 2)).off + 1, none⟩ = some (.int .i64 ((rd_T54 l0 (ji7)).f1)) ∧ w14.cell? (ad119.add ((x6_1).toNat * 2)) = some (.int .i64 ((rd_T54 l0 x6_1).f0)) ∧ w14.cell? ⟨(ad119.add ((x6_1).toNat * 2)).block, (ad119.add ((x6_1).toNat * 2)).off + 1, none⟩ = some (.int .i64 ((rd_T54 l0 x6_1).f1)) := hS_; refine nb_ ?_; refine one_ (i := 11) (N := none) spec_l23In.mk13 rfl rfl (one_of HT_.out (by kernel_rfl)) (by decide) (fun K hK => ?_); have hs15 : w14.cell? ⟨gb124, 0, none⟩ = some (.int .i64 0) := (blk_cell BK124.out 0).trans rfl; have hfs15 := blk_frozen BK124.out 0; have hns15_1 := NB125_124.out; have hms15_1 := NB124_125.out; have hs16 : w14.cell? ⟨gb124, 1, none⟩ = some (.int .i64 0) := (blk_cell BK124.out 1).trans rfl; have hfs16 := blk_frozen BK124.out 1; have hns16_1 := NB125_124.out; have hms16_1 := NB124_125.out; refine skip_ (w1 := ?_) (by rfl) rfl ?_ ?_; rotate_left
         ·
          go_simp; rfl
         refine hK.out _ _ ⟨((cell_far (p := ⟨gb124, _, none⟩) (Nat.ne_of_lt (Nat.lt_of_lt_of_le (World.block_lt_of_cell? _ _ hw122_0) GW124.out)) _).trans (((cell_far (p := ⟨gb124, _, none⟩) (Nat.ne_of_lt (Nat.lt_of_lt_of_le (World.block_lt_of_cell? _ _ hw122_0) GW124.out)) _).trans (hHeld.1)))), ((cell_far (p := ⟨gb124, _, none⟩) (Nat.ne_of_lt (Nat.lt_of_lt_of_le (World.block_lt_of_cell? _ _ hw122_1) GW124.out)) _).trans (((cell_far (p := ⟨gb124, _, none⟩) (Nat.ne_of_lt (Nat.lt_of_lt_of_le (World.block_lt_of_cell? _ _ hw122_1) GW124.out)) _).trans (hHeld.2.1)))), ((cell_far (p := ⟨gb124, _, none⟩) (Nat.ne_of_lt (Nat.lt_of_lt_of_le (World.block_lt_of_cell? _ _ hw123_0) GW124.out)) _).trans (((cell_far (p := ⟨gb124, _, none⟩) (Nat.ne_of_lt (Nat.lt_of_lt_of_le (World.block_lt_of_cell? _ _ hw123_0) GW124.out)) _).trans (hHeld.2.2.1)))), ((cell_far (p := ⟨gb124, _, none⟩) (Nat.ne_of_lt (Nat.lt_of_lt_of_le (World.block_lt_of_cell? _ _ hw123_1) GW124.out)) _).trans (((cell_far (p := ⟨gb124, _, none⟩) (Nat.ne_of_lt (Nat.lt_of_lt_of_le (World.block_lt_of_cell? _ _ hw123_1) GW124.out)) _).trans (hHeld.2.2.2))))⟩ (fun hHeld => ?_); clear hK K; refine one_ (i := 12) (N := none) spec_l23In.mk14 rfl rfl (one_of HT_.out (by kernel_rfl)) (by decide) (fun K hK => ?_); have hs17 : w14.cell? ⟨gb125, 0, none⟩ = some (.int .i64 0) := (blk_cell BK125.out 0).trans rfl; have hfs17 := blk_frozen BK125.out 0; have hns17_0 := NB124_125.out; have hms17_0 := NB125_124.out; have hs18 : w14.cell? ⟨gb125, 1, none⟩ = some (.int .i64 0) := (blk_cell BK125.out 1).trans rfl; have hfs18 := blk_frozen BK125.out 1; have hns18_0 := NB124_125.out; have hms18_0 := NB125_124.out; refine skip_ (w1 := ?_) (by rfl) rfl ?_ ?_; rotate_left
         ·
          go_simp; rfl
         refine hK.out _ _ ⟨((cell_far (p := ⟨gb125, _, none⟩) (Nat.ne_of_lt (Nat.lt_of_lt_of_le (World.block_lt_of_cell? _ _ hw122_0) GW125.out)) _).trans (((cell_far (p := ⟨gb125, _, none⟩) (Nat.ne_of_lt (Nat.lt_of_lt_of_le (World.block_lt_of_cell? _ _ hw122_0) GW125.out)) _).trans (hHeld.1)))), ((cell_far (p := ⟨gb125, _, none⟩) (Nat.ne_of_lt (Nat.lt_of_lt_of_le (World.block_lt_of_cell? _ _ hw122_1) GW125.out)) _).trans (((cell_far (p := ⟨gb125, _, none⟩) (Nat.ne_of_lt (Nat.lt_of_lt_of_le (World.block_lt_of_cell? _ _ hw122_1) GW125.out)) _).trans (hHeld.2.1)))), ((cell_far (p := ⟨gb125, _, none⟩) (Nat.ne_of_lt (Nat.lt_of_lt_of_le (World.block_lt_of_cell? _ _ hw123_0) GW125.out)) _).trans (((cell_far (p := ⟨gb125, _, none⟩) (Nat.ne_of_lt (Nat.lt_of_lt_of_le (World.block_lt_of_cell? _ _ hw123_0) GW125.out)) _).trans (hHeld.2.2.1)))), ((cell_far (p := ⟨gb125, _, none⟩) (Nat.ne_of_lt (Nat.lt_of_lt_of_le (World.block_lt_of_cell? _ _ hw123_1) GW125.out)) _).trans (((cell_far (p := ⟨gb125, _, none⟩) (Nat.ne_of_lt (Nat.lt_of_lt_of_le (World.block_lt_of_cell? _ _ hw123_1) GW125.out)) _).trans (hHeld.2.2.2))))⟩ (fun hHeld => ?_); clear hK K; refine done_ (done_of HT_.out (by kernel_rfl)) ?_; have hnb19 := NB124_125.out; have hnc19 := NB125_124.out; obtain ⟨hcz20_0, hcz20_1⟩ := cz2_ BK124.out; obtain ⟨hfz20_0, hfz20_1⟩ := fz2_ BK124.out; obtain ⟨hcz21_0, hcz21_1⟩ := cz2_ BK125.out; obtain ⟨hfz21_0, hfz21_1⟩ := fz2_ BK125.out
         try go_wp2_with (first | ((with_reducible refine gate_callee (f := 73) rfl ?_); refine goesL_ (some 62) rfl rfl Try.func73 (by kernel_rfl) rfl #[.int .i64 (wrap64 ((wrap64 (((rd_T54 l0 (ji7)).f1) * (wrap64 (((rd_T54 l0 x6_1).f0) - a1)))) + (wrap64 (((rd_T54 l0 x6_1).f1) * (wrap64 (a1 - ((rd_T54 l0 (ji7)).f0))))))), .int .i64 (wrap64 (((rd_T54 l0 x6_1).f0) - ((rd_T54 l0 (ji7)).f0)))] rfl (by (try simp only [List.map_toArray, List.map_cons, List.map_nil]); first | done | (simp only [hji7]; rfl) | rfl | (simp only [List.length_drop, List.length_take]; rfl)) ?_; (with_reducible refine (spec_l23Reduce.calls k1 (wrap64 ((wrap64 (((rd_T54 l0 (ji7)).f1) * (wrap64 (((rd_T54 l0 x6_1).f0) - a1)))) + (wrap64 (((rd_T54 l0 x6_1).f1) * (wrap64 (a1 - ((rd_T54 l0 (ji7)).f0))))))) (wrap64 (((rd_T54 l0 x6_1).f0) - ((rd_T54 l0 (ji7)).f0))) t126 t127 _ A10.out).mono ?_); rintro e w' ⟨rfl, ⟨nd, rfl⟩⟩; refine ⟨_, rfl, ?_⟩))
         go_ret2
         exact ⟨by first | rfl | (simp [errW_none, errW_some] <;> rfl) | (simp only [← hji7]; first | rfl | (simp [errW_none, errW_some] <;> rfl)) | (simp [*, errW_none, errW_some] <;> rfl), lb2_ HB.out GE124.out GE125.out⟩
        ·
         rw [if_neg c9] at H
         exact absurd H (by simp)
       ·
        rw [if_neg c8] at H
        exact absurd H (by simp)
    ·
     rw [if_neg c4] at H
     exact absurd H (by simp)
   ·
    rw [if_neg c3] at H
    exact absurd H (by simp)
def spec_LevelIn.f (k : Nat) (l0 : List (S54)) (a1 : Int) : Option (Int × Int × Bool) := (spec_l23Within.f k l0 a1).bind fun t399 => (if t399 = true then ((spec_l23In.f k l0 a1).bind fun bt400 => (some (bt400.1, bt400.2, true))) else (some (0, 0, false)))
set_option maxHeartbeats 8000000 in
set_option maxRecDepth 100000 in
theorem spec_LevelIn.calls (k : Nat) (A0 : Option Addr) (c0 : Nat) (l0 : List (S54)) (a1 : Int) (r1 : Int) (r2 : Int) (r3 : Bool) (w : World) (hr0 : Kd.C k54 w A0 l0.length l0) (hc0 : l0.length ≤ c0) (h : spec_LevelIn.f k l0 a1 = some (r1, r2, r3)) :
  Calls Try.prog 29 #[.slice A0 l0.length c0, .int .i64 a1] w fun e w' => e = .returned (.tuple #[.int .i64 r1, .int .i64 r2, .bool r3]) ∧ Below w.heap.size w w' := by
 have HR0 := Aside0.mk hr0
 have HC0 := Aside0.mk hc0
 clear hr0 hc0
 have HB := Aside0.mk (Below.refl w.heap.size w)
 have H : ((spec_l23Within.f k l0 a1).bind fun t399 => (if t399 = true then ((spec_l23In.f k l0 a1).bind fun bt400 => (some (bt400.1, bt400.2, true))) else (some (0, 0, false)))) = some (r1, r2, r3) := h
 clear h
 replace H := Option.bind_eq_some_iff.mp H
 obtain ⟨t399, A30, H⟩ := H
 replace H : (if t399 = true then ((spec_l23In.f k l0 a1).bind fun bt400 => (some (bt400.1, bt400.2, true))) else (some (0, 0, false))) = some (r1, r2, r3) := H
 have A3 := Aside0.mk A30
 clear A30
 by_cases c4 : t399 = true
 ·
  subst c4
  have H1 : ((spec_l23In.f k l0 a1).bind fun bt400 => (some (bt400.1, bt400.2, true))) = some (r1, r2, r3) := by rw [if_pos rfl] at H; exact H
  clear H
  have H := H1
  clear H1
  replace H := Option.bind_eq_some_iff.mp H
  obtain ⟨⟨t400, t401⟩, A50, H⟩ := H
  replace H : (some (t400, t401, true)) = some (r1, r2, r3) := H
  have A5 := Aside0.mk A50
  clear A50
  simp only [Option.some.injEq, Prod.mk.injEq] at H
  obtain ⟨rfl, rfl, rfl⟩ := H
  go_enter Try.func29, Try.ntmps29
  go_wp2_with (first | ((with_reducible refine gate_callee (f := 54) rfl ?_); refine ga_ (some 11) Try.func54 #[.slice A0 l0.length c0, .int .i64 a1] ?_; (with_reducible refine (spec_l23Within.calls k _ _ l0 a1 true _ ?side1 ?side2 A3.out).mono ?_); (case side1 => exact kc_ HR0.out); (case side2 => exact HC0.out); rintro e w6 ⟨rfl, hb⟩; refine ⟨_, rfl, ?_⟩; replace HB := Aside0.mk (below_step (lb0_ HB.out) hb); (try clear hb); (try clear hb2); (try clear hk); (try clear hi)) | ((with_reducible refine gate_callee (f := 70) rfl ?_); refine ga_ (some 16) Try.func70 #[.slice A0 l0.length c0, .int .i64 a1] ?_; (with_reducible refine (spec_l23In.calls k _ _ l0 a1 t400 t401 _ ?side1 ?side2 A5.out).mono ?_); (case side1 => exact kc_ (Kd.C_below HR0.out HB.out)); (case side2 => exact HC0.out); rintro e w7 ⟨rfl, hb⟩; refine ⟨_, rfl, ?_⟩; replace HB := Aside0.mk (below_step (lb0_ HB.out) hb); (try clear hb); (try clear hb2); (try clear hk); (try clear hi)))
  go_ret3
  exact ⟨rr_, lb0_ HB.out⟩
 ·
  replace c4 := Bool.eq_false_iff.mpr c4
  subst c4
  have H1 : (some (0, 0, false)) = some (r1, r2, r3) := by rw [if_neg (show ¬ (false = true) by decide)] at H; exact H
  clear H
  have H := H1
  clear H1
  simp only [Option.some.injEq, Prod.mk.injEq] at H
  obtain ⟨rfl, rfl, rfl⟩ := H
  go_enter Try.func29, Try.ntmps29
  go_wp2_with (first | ((with_reducible refine gate_callee (f := 54) rfl ?_); refine ga_ (some 11) Try.func54 #[.slice A0 l0.length c0, .int .i64 a1] ?_; (with_reducible refine (spec_l23Within.calls k _ _ l0 a1 false _ ?side1 ?side2 A3.out).mono ?_); (case side1 => exact kc_ HR0.out); (case side2 => exact HC0.out); rintro e w8 ⟨rfl, hb⟩; refine ⟨_, rfl, ?_⟩; replace HB := Aside0.mk (below_step (lb0_ HB.out) hb); (try clear hb); (try clear hb2); (try clear hk); (try clear hi)))
  go_ret3
  exact ⟨rr_, lb0_ HB.out⟩
mutual
def impl_HighestReading.j0 : Nat → List (S54) → Bool → Option (Int × Int × Bool)
 | 0, _, _ => none
 | k + 1, x0, x14 => if x14 = true then (some (0, 0, false)) else (if 0 < (x0.length : Int) then (impl_HighestReading.l0 k x0 (x0.length : Int) 0 ((rd_T54 x0 0).f0) ((rd_T54 x0 0).f1)) else (none))
def impl_HighestReading.l0 : Nat → List (S54) → Int → Int → Int → Int → Option (Int × Int × Bool)
 | 0, _, _, _, _, _ => none
 | k + 1, x19, x20, x21, x406000, x406001 => if x21 < x20 then (if 0 ≤ x21 then (if x21 < (x19.length : Int) then (if ((rd_T54 x19 x21).f1) > x406001 then (impl_HighestReading.l0 k x19 x20 (wrap64 (x21 + 1)) ((rd_T54 x19 x21).f0) ((rd_T54 x19 x21).f1)) else (impl_HighestReading.l0 k x19 x20 (wrap64 (x21 + 1)) x406000 x406001)) else (none)) else (none)) else (some (x406000, x406001, true))
end
def impl_HighestReading.f (k : Nat) (l0 : List (S54)) : Option (Int × Int × Bool) := (impl_AreReadings.f k l0).bind fun t403 => (if t403 = true then (impl_HighestReading.j0 k l0 ((l0.length : Int) == 0)) else (impl_HighestReading.j0 k l0 true))
set_option maxHeartbeats 8000000 in
set_option maxRecDepth 100000 in
theorem impl_HighestReading.calls (k : Nat) (A0 : Option Addr) (c0 : Nat) (l0 : List (S54)) (r1 : Int) (r2 : Int) (r3 : Bool) (w : World) (hr0 : Kd.C k54 w A0 l0.length l0) (hc0 : l0.length ≤ c0) (h : impl_HighestReading.f k l0 = some (r1, r2, r3)) :
  Calls Try.prog 30 #[.slice A0 l0.length c0] w fun e w' => e = .returned (.tuple #[.agg #[.int .i64 r1, .int .i64 r2], .bool r3]) ∧ Below w.heap.size w w' := by
 have hu54 := Try.underlying54
 have HR0 := Aside0.mk hr0
 have HC0 := Aside0.mk hc0
 clear hr0 hc0
 have HB := Aside0.mk (Below.refl w.heap.size w)
 have H : ((impl_AreReadings.f k l0).bind fun t403 => (if t403 = true then (impl_HighestReading.j0 k l0 ((l0.length : Int) == 0)) else (impl_HighestReading.j0 k l0 true))) = some (r1, r2, r3) := h
 clear h
 have HC2 := Aside0.mk H
 clear H
 go_enter Try.func30, Try.ntmps30
 go_upto_region 1 with (first | ((with_reducible refine gate_dst (N := 2) rfl ?_); (try (refine gate_guard (by rfl) ?_; dsimp only)); refine box_event ?hg (N := 2) ?hd (cs := #[.int .i64 0, .int .i64 0]) (t := 54) ?hr ?_; (case hd => rfl); (case hg => rfl); (case hr => first | (go_simp; done) | (go_simp; rfl)); intro gb402 hg w3 hbox hb; have BK402 := Aside0.mk (hbox); have GW402 := Aside0.mk ((bz_ hg (lb0_ HB.out))); have GE402 := Aside0.mk ((bz_ hg (lb0_ HB.out))); replace HB := Aside0.mk (below_step (lb0_ HB.out) hb); clear hb hbox hg))
 (try simp only [Act.put, List.setIfInBounds_toArray, List.set_cons_zero, List.set_cons_succ])
 go_cut [14] (fun v14 wc => ∃ (kq : Nat) (x14_1 : Bool), v14 = .bool x14_1 ∧ Aside0 (impl_HighestReading.j0 kq l0 x14_1 = some (r1, r2, r3)) ∧ Aside0 (kq ≤ k) ∧ Aside0 (wc.heap[gb402]? = some (.cells #[.int .i64 0, .int .i64 0] 54 (0, 0))) ∧ Aside0 (Below w.heap.size w wc))
 case first =>
  have H := HC2.out
  clear HC2
  replace H := Option.bind_eq_some_iff.mp H
  obtain ⟨t403, A40, H⟩ := H
  replace H : (if t403 = true then (impl_HighestReading.j0 k l0 ((l0.length : Int) == 0)) else (impl_HighestReading.j0 k l0 true)) = some (r1, r2, r3) := H
  have A4 := Aside0.mk A40
  clear A40
  by_cases c5 : t403 = true
  ·
   subst c5
   have H1 : (impl_HighestReading.j0 k l0 ((l0.length : Int) == 0)) = some (r1, r2, r3) := by rw [if_pos rfl] at H; exact H
   clear H
   have H := H1
   clear H1
   have H' := Aside0.mk H
   clear H
   go_wp2_with (first | ((with_reducible refine gate_callee (f := 34) rfl ?_); refine ga_ (some 8) Try.func34 #[.slice A0 l0.length c0] ?_; (with_reducible refine (impl_AreReadings.calls k _ _ l0 true _ ?side1 ?side2 A4.out).mono ?_); (case side1 => exact kc_ (Kd.C_below HR0.out HB.out)); (case side2 => exact HC0.out); rintro e w6 ⟨rfl, hb⟩; refine ⟨_, rfl, ?_⟩; replace BK402 := Aside0.mk (bb_ (bk_ BK402.out) hb); replace HB := Aside0.mk (below_step (lb1_ HB.out GE402.out) hb); (try clear hb); (try clear hb2); (try clear hk); (try clear hi)))
   go_meet
   case rel => exact ⟨_, (((l0.length : Int) == 0)), (by first | rfl | (simp; done) | (simp [*]; done)), H', ⟨by first | omega | exact Nat.le_refl _⟩, ⟨bk_ BK402.out⟩, ⟨lb1_ HB.out GE402.out⟩⟩
  ·
   replace c5 := Bool.eq_false_iff.mpr c5
   subst c5
   have H1 : (impl_HighestReading.j0 k l0 true) = some (r1, r2, r3) := by rw [if_neg (show ¬ (false = true) by decide)] at H; exact H
   clear H
   have H := H1
   clear H1
   have H' := Aside0.mk H
   clear H
   go_wp2_with (first | ((with_reducible refine gate_callee (f := 34) rfl ?_); refine ga_ (some 8) Try.func34 #[.slice A0 l0.length c0] ?_; (with_reducible refine (impl_AreReadings.calls k _ _ l0 false _ ?side1 ?side2 A4.out).mono ?_); (case side1 => exact kc_ (Kd.C_below HR0.out HB.out)); (case side2 => exact HC0.out); rintro e w7 ⟨rfl, hb⟩; refine ⟨_, rfl, ?_⟩; replace BK402 := Aside0.mk (bb_ (bk_ BK402.out) hb); replace HB := Aside0.mk (below_step (lb1_ HB.out GE402.out) hb); (try clear hb); (try clear hb2); (try clear hk); (try clear hi)))
   go_meet
   case rel => exact ⟨_, (true), (by first | rfl | (simp; done) | (simp [*]; done)), H', ⟨by first | omega | exact Nat.le_refl _⟩, ⟨bk_ BK402.out⟩, ⟨lb1_ HB.out GE402.out⟩⟩
 case rest =>
  clear HC2
  try clear p2
  try clear c3
  try clear c5
  obtain ⟨kq, x14_1, rfl, HA, HJ1, BK402, HB⟩ := hcut
  cases kq with
  | zero => exact absurd HA.out (by simp [impl_HighestReading.j0])
  | succ kj1 =>
   have H := HA.out
   clear HA
   simp only [impl_HighestReading.j0] at H
   by_cases c8 : x14_1 = true
   ·
    subst c8
    have H1 : (some (0, 0, false)) = some (r1, r2, r3) := by rw [if_pos rfl] at H; exact H
    clear H
    have H := H1
    clear H1
    simp only [Option.some.injEq, Prod.mk.injEq] at H
    obtain ⟨rfl, rfl, rfl⟩ := H
    obtain ⟨hcz9_0, hcz9_1⟩ := cz2_ BK402.out
    obtain ⟨hfz9_0, hfz9_1⟩ := fz2_ BK402.out
    go_wp2
    refine bodyPost_ret (results_ct rfl _ _ gb402 54 #[.int .i64 0, .int .i64 0] (0, 0) _ rfl (by (with_reducible repeat (first | refine blk_drewN ?_ _ | refine blk_drew ?_ | refine blk_alloc ?_ _)); refine blk_put (cs := #[.int .i64 0, .int .i64 0]) ?_ 1 _ rfl; (with_reducible repeat (first | refine blk_drewN ?_ _ | refine blk_drew ?_ | refine blk_alloc ?_ _)); refine blk_put (cs := #[.int .i64 0, .int .i64 0]) ?_ 0 _ rfl; (with_reducible repeat (first | refine blk_drewN ?_ _ | refine blk_drew ?_ | refine blk_alloc ?_ _)); exact BK402.out) Try.underlying54 rfl (by kernel_rfl)) rfl ?_
    exact ⟨rr_, lb1_ HB.out GE402.out⟩
   ·
    replace c8 := Bool.eq_false_iff.mpr c8
    subst c8
    have H1 : (if 0 < (l0.length : Int) then (impl_HighestReading.l0 kj1 l0 (l0.length : Int) 0 ((rd_T54 l0 0).f0) ((rd_T54 l0 0).f1)) else (none)) = some (r1, r2, r3) := by rw [if_neg (show ¬ (false = true) by decide)] at H; exact H
    clear H
    have H := H1
    clear H1
    by_cases c10 : 0 < (l0.length : Int)
    ·
     rw [if_pos c10] at H
     have c10b0 : decide (0 < (l0.length : Int)) = true := decide_eq_true c10
     have c10b1 : decide (0 < l0.length) = true := decide_eq_true (by omega)
     clear c10
     have H' := Aside0.mk H
     clear H
     have p404 : 0 ≤ (0 : Int) := (by omega)
     have q404 : 0 < (l0.length : Int) := dt_
     obtain ⟨ad404, e404, hx404_0, hx404_1⟩ := at_T54 HR0.out 0 p404 q404
     cases e404
     have qi404 : (0 < l0.length) = True := eq_true (by omega)
     (try rw [show ((0 : Int)).toNat = 0 from rfl] at hx404_0)
     (try rw [show 0 * 2 = 0 from rfl] at hx404_0)
     (try rw [Addr.add_zero'] at hx404_0)
     (try rw [show ((0 : Int)).toNat = 0 from rfl] at hx404_1)
     (try rw [show 0 * 2 = 0 from rfl] at hx404_1)
     (try rw [Addr.add_zero'] at hx404_1)
     replace hx404_0 := bc_ HB.out hx404_0
     replace hx404_1 := bc_ HB.out hx404_1
     replace p404 := eq_true p404
     replace q404 := eq_true q404
     go_wp2_with (first | ((with_reducible refine gate_dst (N := 4) rfl ?_); (try (refine gate_guard (by rfl) ?_; dsimp only)); refine box_event ?hg (N := 4) ?hd (cs := #[.int .i64 0, .int .i64 0]) (t := 54) ?hr ?_; (case hd => rfl); (case hg => rfl); (case hr => first | (go_simp; done) | (go_simp; rfl)); intro gb405 hg w11 hbox hb; have BK405 := Aside0.mk (hbox); have GW405 := Aside0.mk ((bz_ hg (lb1_ HB.out GE402.out))); have GE405 := Aside0.mk ((bz_ hg (lb1_ HB.out GE402.out))); replace HB := Aside0.mk (below_step (lb1_ HB.out GE402.out) hb); have NB402_405 := Aside0.mk (nl_ hg BK402.out); have NB405_402 := Aside0.mk (ng_ hg BK402.out); replace BK402 := Aside0.mk (bb_ (bk_ BK402.out) hb); clear hb hbox hg; have hnb12 := NB405_402.out; have hnc12 := NB402_405.out; obtain ⟨hcz13_0, hcz13_1⟩ := cz2_ BK405.out; obtain ⟨hfz13_0, hfz13_1⟩ := fz2_ BK405.out))
     go_loopg [21] kj1 (fun kq v21 w' => ∃ (x21_2 : Int) (x406000_2 : Int) (x406001_2 : Int), v21 = .int .i64 x21_2 ∧ Aside0 (impl_HighestReading.l0 kq l0 (l0.length : Int) x21_2 x406000_2 x406001_2 = some (r1, r2, r3)) ∧ Aside0 (kq ≤ kj1) ∧ Aside0 (w'.heap[gb402]? = some (.cells #[.int .i64 0, .int .i64 0] 54 (0, 0))) ∧ Aside0 (w'.heap[gb405]? = some (.cells #[.int .i64 x406000_2, .int .i64 x406001_2] 54 (0, 0))) ∧ Aside0 (Below w.heap.size w w'))
     case atStart => exact ⟨(0), ((rd_T54 l0 0).f0), ((rd_T54 l0 0).f1), (by first | rfl | (simp; done) | (simp [*]; done)), H', ⟨Nat.le_refl _⟩, ⟨by (with_reducible repeat (first | refine blk_drewN ?_ _ | refine blk_drew ?_ | refine blk_alloc ?_ _)); exact (f2_ BK402.out NB402_405.out _ _)⟩, ⟨by (with_reducible repeat (first | refine blk_drewN ?_ _ | refine blk_drew ?_ | refine blk_alloc ?_ _)); exact (p2_ BK405.out _ _)⟩, ⟨lb2_ HB.out GE402.out GE405.out⟩⟩
     case round =>
      clear H'
      try clear c1
      try clear p2
      try clear c3
      try clear p4
      try clear q4
      try clear hx4
      try clear qi4
      try clear c5
      try clear c8
      try clear c10
      try clear c10b0
      try clear c10b1
      try clear c12
      try clear hcz13_0 hcz13_1
      try clear hcz9_0 hcz9_1
      try clear hfz13_0 hfz13_1
      try clear hfz9_0 hfz9_1
      try clear hx404_0
      try clear hx404_1
      try clear p2
      try clear p404
      try clear q404
      obtain ⟨x21_2, x406000_2, x406001_2, rfl, HA, HK2, BK402, BK405, HB⟩ := hrel
      cases gk with
      | zero => exact absurd HA.out (by simp [impl_HighestReading.l0])
      | succ k2 =>
       have H := HA.out
       clear HA
       simp only [impl_HighestReading.l0] at H
       by_cases c14 : x21_2 < (l0.length : Int)
       ·
        rw [if_pos c14] at H
        have c14b0 : decide (x21_2 < (l0.length : Int)) = true := decide_eq_true c14; clear c14
        by_cases c15 : 0 ≤ x21_2
        ·
         rw [if_pos c15] at H
         have c15b0 : decide (0 ≤ x21_2) = true := decide_eq_true c15; clear c15
         by_cases c16 : x21_2 < (l0.length : Int)
         ·
          rw [if_pos c16] at H
          have c16b0 : decide (x21_2 < (l0.length : Int)) = true := decide_eq_true c16; clear c16
          by_cases c17 : ((rd_T54 l0 x21_2).f1) > x406001_2
          ·
           rw [if_pos c17] at H
           have c17b0 : decide (x406001_2 < ((rd_T54 l0 x21_2).f1)) = true := decide_eq_true c17; clear c17; have H' := Aside0.mk H; clear H; have p406 : 0 ≤ (x21_2 : Int) := dt_; have q406 : x21_2 < (l0.length : Int) := dt_; obtain ⟨ad406, e406, hx406_0, hx406_1⟩ := at_T54 HR0.out x21_2 p406 q406
           obtain rfl : ad404 = ad406 := (by injection e406)
           replace hx406_0 := bc_ HB.out hx406_0; replace hx406_1 := bc_ HB.out hx406_1; replace p406 := eq_true p406; replace q406 := eq_true q406
           go_wp2_with (first | ((with_reducible refine gate_dst (N := 6) rfl ?_); (try (refine gate_guard (by rfl) ?_; dsimp only)); refine box_event ?hg (N := 6) ?hd (cs := #[.int .i64 0, .int .i64 0]) (t := 54) ?hr ?_; (case hd => rfl); (case hg => rfl); (case hr => first | (go_simp; done) | (go_simp; rfl)); intro gb407 hg w18 hbox hb; have BK407 := Aside0.mk (hbox); have GW407 := Aside0.mk ((bz_ hg (lb2_ HB.out GE402.out GE405.out))); have GE407 := Aside0.mk ((bz_ hg (lb2_ HB.out GE402.out GE405.out))); replace HB := Aside0.mk (below_step (lb2_ HB.out GE402.out GE405.out) hb); have NB402_407 := Aside0.mk (nl_ hg BK402.out); have NB407_402 := Aside0.mk (ng_ hg BK402.out); replace BK402 := Aside0.mk (bb_ (bk_ BK402.out) hb); have NB405_407 := Aside0.mk (nl_ hg BK405.out); have NB407_405 := Aside0.mk (ng_ hg BK405.out); replace BK405 := Aside0.mk (bb_ (bk_ BK405.out) hb); clear hb hbox hg; have hnb19 := NB407_402.out; have hnc19 := NB402_407.out; have hnb20 := NB407_405.out; have hnc20 := NB405_407.out; obtain ⟨hcz21_0, hcz21_1⟩ := cz2_ BK407.out; obtain ⟨hfz21_0, hfz21_1⟩ := fz2_ BK407.out; have hnb22 := NB405_402.out; have hnc22 := NB402_405.out; obtain ⟨hcz23_0, hcz23_1⟩ := cz2_ BK405.out; obtain ⟨hfz23_0, hfz23_1⟩ := fz2_ BK405.out))
           go_roundg k2
           case measure => have := HJ1.out; have := HK2.out; omega
           case rel => exact ⟨(wrap64 (x21_2 + 1)), ((rd_T54 l0 x21_2).f0), ((rd_T54 l0 x21_2).f1), (by first | rfl | (simp; done) | (simp [*]; done)), H', ⟨by have := HJ1.out; have := HK2.out; omega⟩, ⟨by (with_reducible repeat (first | refine blk_drewN ?_ _ | refine blk_drew ?_ | refine blk_alloc ?_ _)); exact (f2_ (f2_ BK402.out NB402_407.out _ _) NB402_405.out _ _)⟩, ⟨by (with_reducible repeat (first | refine blk_drewN ?_ _ | refine blk_drew ?_ | refine blk_alloc ?_ _)); exact (p2_ (f2_ BK405.out NB405_407.out _ _) _ _)⟩, ⟨lb3_ HB.out GE402.out GE405.out GE407.out⟩⟩
          ·
           rw [if_neg c17] at H
           have c17b0 : decide (x406001_2 < ((rd_T54 l0 x21_2).f1)) = false := decide_eq_false c17; clear c17; have H' := Aside0.mk H; clear H; have p406 : 0 ≤ (x21_2 : Int) := dt_; have q406 : x21_2 < (l0.length : Int) := dt_; obtain ⟨ad406, e406, hx406_0, hx406_1⟩ := at_T54 HR0.out x21_2 p406 q406
           obtain rfl : ad404 = ad406 := (by injection e406)
           replace hx406_0 := bc_ HB.out hx406_0; replace hx406_1 := bc_ HB.out hx406_1; replace p406 := eq_true p406; replace q406 := eq_true q406
           go_wp2_with (first | ((with_reducible refine gate_dst (N := 6) rfl ?_); (try (refine gate_guard (by rfl) ?_; dsimp only)); refine box_event ?hg (N := 6) ?hd (cs := #[.int .i64 0, .int .i64 0]) (t := 54) ?hr ?_; (case hd => rfl); (case hg => rfl); (case hr => first | (go_simp; done) | (go_simp; rfl)); intro gb407 hg w24 hbox hb; have BK407 := Aside0.mk (hbox); have GW407 := Aside0.mk ((bz_ hg (lb2_ HB.out GE402.out GE405.out))); have GE407 := Aside0.mk ((bz_ hg (lb2_ HB.out GE402.out GE405.out))); replace HB := Aside0.mk (below_step (lb2_ HB.out GE402.out GE405.out) hb); have NB402_407 := Aside0.mk (nl_ hg BK402.out); have NB407_402 := Aside0.mk (ng_ hg BK402.out); replace BK402 := Aside0.mk (bb_ (bk_ BK402.out) hb); have NB405_407 := Aside0.mk (nl_ hg BK405.out); have NB407_405 := Aside0.mk (ng_ hg BK405.out); replace BK405 := Aside0.mk (bb_ (bk_ BK405.out) hb); clear hb hbox hg; have hnb25 := NB407_402.out; have hnc25 := NB402_407.out; have hnb26 := NB407_405.out; have hnc26 := NB405_407.out; obtain ⟨hcz27_0, hcz27_1⟩ := cz2_ BK407.out; obtain ⟨hfz27_0, hfz27_1⟩ := fz2_ BK407.out; have hnb28 := NB405_402.out; have hnc28 := NB402_405.out; obtain ⟨hcz29_0, hcz29_1⟩ := cz2_ BK405.out; obtain ⟨hfz29_0, hfz29_1⟩ := fz2_ BK405.out))
           go_roundg k2
           case measure => have := HJ1.out; have := HK2.out; omega
           case rel => exact ⟨(wrap64 (x21_2 + 1)), (x406000_2), (x406001_2), (by first | rfl | (simp; done) | (simp [*]; done)), H', ⟨by have := HJ1.out; have := HK2.out; omega⟩, ⟨by (with_reducible repeat (first | refine blk_drewN ?_ _ | refine blk_drew ?_ | refine blk_alloc ?_ _)); exact (f2_ BK402.out NB402_407.out _ _)⟩, ⟨by (with_reducible repeat (first | refine blk_drewN ?_ _ | refine blk_drew ?_ | refine blk_alloc ?_ _)); exact (f2_ BK405.out NB405_407.out _ _)⟩, ⟨lb3_ HB.out GE402.out GE405.out GE407.out⟩⟩
         ·
          rw [if_neg c16] at H
          exact absurd H (by simp)
        ·
         rw [if_neg c15] at H
         exact absurd H (by simp)
       ·
        rw [if_neg c14] at H
        have c14b0 : decide (x21_2 < (l0.length : Int)) = false := decide_eq_false c14; clear c14; simp only [Option.some.injEq, Prod.mk.injEq] at H; obtain ⟨rfl, rfl, rfl⟩ := H; have hnb30 := NB405_402.out; have hnc30 := NB402_405.out; obtain ⟨hcz31_0, hcz31_1⟩ := cz2_ BK405.out; obtain ⟨hfz31_0, hfz31_1⟩ := fz2_ BK405.out; obtain ⟨hcz32_0, hcz32_1⟩ := cz2_ BK402.out; obtain ⟨hfz32_0, hfz32_1⟩ := fz2_ BK402.out
        go_wp2
        refine bodyPost_ret (results_ct rfl _ _ gb402 54 #[.int .i64 x406000_2, .int .i64 x406001_2] (0, 0) _ rfl (by (with_reducible repeat (first | refine blk_drewN ?_ _ | refine blk_drew ?_ | refine blk_alloc ?_ _)); refine blk_put (cs := #[.int .i64 x406000_2, .int .i64 0]) ?_ 1 _ rfl; (with_reducible repeat (first | refine blk_drewN ?_ _ | refine blk_drew ?_ | refine blk_alloc ?_ _)); refine blk_put (cs := #[.int .i64 0, .int .i64 0]) ?_ 0 _ rfl; (with_reducible repeat (first | refine blk_drewN ?_ _ | refine blk_drew ?_ | refine blk_alloc ?_ _)); exact BK402.out) Try.underlying54 rfl (by kernel_rfl)) rfl ?_; exact ⟨rr_, lb2_ HB.out GE402.out GE405.out⟩
    ·
     rw [if_neg c10] at H
     exact absurd H (by simp)
mutual
def spec_HighestReading.j0 : Nat → List (S54) → Bool → Option (Int × Int × Bool)
 | 0, _, _ => none
 | k + 1, x0, x13 => if x13 = true then (some (0, 0, false)) else (if 0 < (x0.length : Int) then (spec_HighestReading.l0 k x0 1 ((rd_T54 x0 0).f0) ((rd_T54 x0 0).f1)) else (none))
def spec_HighestReading.l0 : Nat → List (S54) → Int → Int → Int → Option (Int × Int × Bool)
 | 0, _, _, _, _ => none
 | k + 1, x0, x5, x412000, x412001 => if x5 < (x0.length : Int) then (if 0 ≤ x5 then (if ((rd_T54 x0 x5).f1) > x412001 then (spec_HighestReading.l0 k x0 (wrap64 (x5 + 1)) ((rd_T54 x0 x5).f0) ((rd_T54 x0 x5).f1)) else (spec_HighestReading.l0 k x0 (wrap64 (x5 + 1)) x412000 x412001)) else (none)) else (some (x412000, x412001, true))
end
def spec_HighestReading.f (k : Nat) (l0 : List (S54)) : Option (Int × Int × Bool) := (spec_l23Good.f k l0).bind fun t409 => (if t409 = true then (spec_HighestReading.j0 k l0 ((l0.length : Int) == 0)) else (spec_HighestReading.j0 k l0 true))
set_option maxHeartbeats 8000000 in
set_option maxRecDepth 100000 in
theorem spec_HighestReading.calls (k : Nat) (A0 : Option Addr) (c0 : Nat) (l0 : List (S54)) (r1 : Int) (r2 : Int) (r3 : Bool) (w : World) (hr0 : Kd.C k54 w A0 l0.length l0) (hc0 : l0.length ≤ c0) (h : spec_HighestReading.f k l0 = some (r1, r2, r3)) :
  Calls Try.prog 31 #[.slice A0 l0.length c0] w fun e w' => e = .returned (.tuple #[.agg #[.int .i64 r1, .int .i64 r2], .bool r3]) ∧ Below w.heap.size w w' := by
 have hu54 := Try.underlying54
 have HR0 := Aside0.mk hr0
 have HC0 := Aside0.mk hc0
 clear hr0 hc0
 have HB := Aside0.mk (Below.refl w.heap.size w)
 have H : ((spec_l23Good.f k l0).bind fun t409 => (if t409 = true then (spec_HighestReading.j0 k l0 ((l0.length : Int) == 0)) else (spec_HighestReading.j0 k l0 true))) = some (r1, r2, r3) := h
 clear h
 have HC2 := Aside0.mk H
 clear H
 go_enter Try.func31, Try.ntmps31
 go_upto_region 1 with (first | ((with_reducible refine gate_dst (N := 2) rfl ?_); (try (refine gate_guard (by rfl) ?_; dsimp only)); refine box_event ?hg (N := 2) ?hd (cs := #[.int .i64 0, .int .i64 0]) (t := 54) ?hr ?_; (case hd => rfl); (case hg => rfl); (case hr => first | (go_simp; done) | (go_simp; rfl)); intro gb408 hg w3 hbox hb; have BK408 := Aside0.mk (hbox); have GW408 := Aside0.mk ((bz_ hg (lb0_ HB.out))); have GE408 := Aside0.mk ((bz_ hg (lb0_ HB.out))); replace HB := Aside0.mk (below_step (lb0_ HB.out) hb); clear hb hbox hg))
 repeat (go_quiet (first | ((with_reducible refine gate_dst (N := 2) rfl ?_); (try (refine gate_guard (by rfl) ?_; dsimp only)); refine box_event ?hg (N := 2) ?hd (cs := #[.int .i64 0, .int .i64 0]) (t := 54) ?hr ?_; (case hd => rfl); (case hg => rfl); (case hr => first | (go_simp; done) | (go_simp; rfl)); intro gb408 hg w3 hbox hb; have BK408 := Aside0.mk (hbox); have GW408 := Aside0.mk ((bz_ hg (lb0_ HB.out))); have GE408 := Aside0.mk ((bz_ hg (lb0_ HB.out))); replace HB := Aside0.mk (below_step (lb0_ HB.out) hb); clear hb hbox hg)); go_upto_region 1 with (first | ((with_reducible refine gate_dst (N := 2) rfl ?_); (try (refine gate_guard (by rfl) ?_; dsimp only)); refine box_event ?hg (N := 2) ?hd (cs := #[.int .i64 0, .int .i64 0]) (t := 54) ?hr ?_; (case hd => rfl); (case hg => rfl); (case hr => first | (go_simp; done) | (go_simp; rfl)); intro gb408 hg w3 hbox hb; have BK408 := Aside0.mk (hbox); have GW408 := Aside0.mk ((bz_ hg (lb0_ HB.out))); have GE408 := Aside0.mk ((bz_ hg (lb0_ HB.out))); replace HB := Aside0.mk (below_step (lb0_ HB.out) hb); clear hb hbox hg)))
 (try simp only [Act.put, List.setIfInBounds_toArray, List.set_cons_zero, List.set_cons_succ])
 go_cut [13] (fun v13 wc => ∃ (kq : Nat) (x13_1 : Bool), v13 = .bool x13_1 ∧ Aside0 (spec_HighestReading.j0 kq l0 x13_1 = some (r1, r2, r3)) ∧ Aside0 (kq ≤ k) ∧ Aside0 (wc.heap[gb408]? = some (.cells #[.int .i64 0, .int .i64 0] 54 (0, 0))) ∧ Aside0 (Below w.heap.size w wc))
 case first =>
  have H := HC2.out
  clear HC2
  replace H := Option.bind_eq_some_iff.mp H
  obtain ⟨t409, A40, H⟩ := H
  replace H : (if t409 = true then (spec_HighestReading.j0 k l0 ((l0.length : Int) == 0)) else (spec_HighestReading.j0 k l0 true)) = some (r1, r2, r3) := H
  have A4 := Aside0.mk A40
  clear A40
  by_cases c5 : t409 = true
  ·
   subst c5
   have H1 : (spec_HighestReading.j0 k l0 ((l0.length : Int) == 0)) = some (r1, r2, r3) := by rw [if_pos rfl] at H; exact H
   clear H
   have H := H1
   clear H1
   have H' := Aside0.mk H
   clear H
   go_wp2_with (first | (go_at_call 62; (with_reducible refine (spec_l23Good.calls k _ _ l0 true _ ?side1 ?side2 A4.out).mono ?_); (case side1 => exact kc_ (Kd.C_below HR0.out HB.out)); (case side2 => exact HC0.out); rintro e w6 ⟨rfl, hb⟩; replace BK408 := Aside0.mk (bb_ (bk_ BK408.out) hb); replace HB := Aside0.mk (below_step (lb1_ HB.out GE408.out) hb); (try clear hb); (try clear hb2); (try clear hk); (try clear hi)))
   repeat (go_quiet (first | (go_at_call 62; (with_reducible refine (spec_l23Good.calls k _ _ l0 true _ ?side1 ?side2 A4.out).mono ?_); (case side1 => exact kc_ (Kd.C_below HR0.out HB.out)); (case side2 => exact HC0.out); rintro e w6 ⟨rfl, hb⟩; replace BK408 := Aside0.mk (bb_ (bk_ BK408.out) hb); replace HB := Aside0.mk (below_step (lb1_ HB.out GE408.out) hb); (try clear hb); (try clear hb2); (try clear hk); (try clear hi))); try go_wp2_with (first | (go_at_call 62; (with_reducible refine (spec_l23Good.calls k _ _ l0 true _ ?side1 ?side2 A4.out).mono ?_); (case side1 => exact kc_ (Kd.C_below HR0.out HB.out)); (case side2 => exact HC0.out); rintro e w6 ⟨rfl, hb⟩; replace BK408 := Aside0.mk (bb_ (bk_ BK408.out) hb); replace HB := Aside0.mk (below_step (lb1_ HB.out GE408.out) hb); (try clear hb); (try clear hb2); (try clear hk); (try clear hi))))
   go_meet
   case rel => exact ⟨_, (((l0.length : Int) == 0)), (by first | rfl | (simp; done) | (simp [*]; done)), H', ⟨by first | omega | exact Nat.le_refl _⟩, ⟨bk_ BK408.out⟩, ⟨lb1_ HB.out GE408.out⟩⟩
  ·
   replace c5 := Bool.eq_false_iff.mpr c5
   subst c5
   have H1 : (spec_HighestReading.j0 k l0 true) = some (r1, r2, r3) := by rw [if_neg (show ¬ (false = true) by decide)] at H; exact H
   clear H
   have H := H1
   clear H1
   have H' := Aside0.mk H
   clear H
   go_wp2_with (first | (go_at_call 62; (with_reducible refine (spec_l23Good.calls k _ _ l0 false _ ?side1 ?side2 A4.out).mono ?_); (case side1 => exact kc_ (Kd.C_below HR0.out HB.out)); (case side2 => exact HC0.out); rintro e w7 ⟨rfl, hb⟩; replace BK408 := Aside0.mk (bb_ (bk_ BK408.out) hb); replace HB := Aside0.mk (below_step (lb1_ HB.out GE408.out) hb); (try clear hb); (try clear hb2); (try clear hk); (try clear hi)))
   repeat (go_quiet (first | (go_at_call 62; (with_reducible refine (spec_l23Good.calls k _ _ l0 false _ ?side1 ?side2 A4.out).mono ?_); (case side1 => exact kc_ (Kd.C_below HR0.out HB.out)); (case side2 => exact HC0.out); rintro e w7 ⟨rfl, hb⟩; replace BK408 := Aside0.mk (bb_ (bk_ BK408.out) hb); replace HB := Aside0.mk (below_step (lb1_ HB.out GE408.out) hb); (try clear hb); (try clear hb2); (try clear hk); (try clear hi))); try go_wp2_with (first | (go_at_call 62; (with_reducible refine (spec_l23Good.calls k _ _ l0 false _ ?side1 ?side2 A4.out).mono ?_); (case side1 => exact kc_ (Kd.C_below HR0.out HB.out)); (case side2 => exact HC0.out); rintro e w7 ⟨rfl, hb⟩; replace BK408 := Aside0.mk (bb_ (bk_ BK408.out) hb); replace HB := Aside0.mk (below_step (lb1_ HB.out GE408.out) hb); (try clear hb); (try clear hb2); (try clear hk); (try clear hi))))
   go_meet
   case rel => exact ⟨_, (true), (by first | rfl | (simp; done) | (simp [*]; done)), H', ⟨by first | omega | exact Nat.le_refl _⟩, ⟨bk_ BK408.out⟩, ⟨lb1_ HB.out GE408.out⟩⟩
 case rest =>
  clear HC2
  try clear p2
  try clear c3
  try clear c5
  obtain ⟨kq, x13_1, rfl, HA, HJ1, BK408, HB⟩ := hcut
  cases kq with
  | zero => exact absurd HA.out (by simp [spec_HighestReading.j0])
  | succ kj1 =>
   have H := HA.out
   clear HA
   simp only [spec_HighestReading.j0] at H
   by_cases c8 : x13_1 = true
   ·
    subst c8
    have H1 : (some (0, 0, false)) = some (r1, r2, r3) := by rw [if_pos rfl] at H; exact H
    clear H
    have H := H1
    clear H1
    simp only [Option.some.injEq, Prod.mk.injEq] at H
    obtain ⟨rfl, rfl, rfl⟩ := H
    obtain ⟨hcz9_0, hcz9_1⟩ := cz2_ BK408.out
    obtain ⟨hfz9_0, hfz9_1⟩ := fz2_ BK408.out
    go_wp2
    repeat (go_quiet (fail); try go_wp2)
    refine bodyPost_ret (results_ct rfl _ _ gb408 54 #[.int .i64 0, .int .i64 0] (0, 0) _ rfl (by (with_reducible repeat (first | refine blk_drewN ?_ _ | refine blk_drew ?_ | refine blk_alloc ?_ _)); refine blk_put (cs := #[.int .i64 0, .int .i64 0]) ?_ 1 _ rfl; (with_reducible repeat (first | refine blk_drewN ?_ _ | refine blk_drew ?_ | refine blk_alloc ?_ _)); refine blk_put (cs := #[.int .i64 0, .int .i64 0]) ?_ 0 _ rfl; (with_reducible repeat (first | refine blk_drewN ?_ _ | refine blk_drew ?_ | refine blk_alloc ?_ _)); exact BK408.out) Try.underlying54 rfl (by kernel_rfl)) rfl ?_
    exact ⟨rr_, lb1_ HB.out GE408.out⟩
   ·
    replace c8 := Bool.eq_false_iff.mpr c8
    subst c8
    have H1 : (if 0 < (l0.length : Int) then (spec_HighestReading.l0 kj1 l0 1 ((rd_T54 l0 0).f0) ((rd_T54 l0 0).f1)) else (none)) = some (r1, r2, r3) := by rw [if_neg (show ¬ (false = true) by decide)] at H; exact H
    clear H
    have H := H1
    clear H1
    by_cases c10 : 0 < (l0.length : Int)
    ·
     rw [if_pos c10] at H
     have c10b0 : decide (0 < (l0.length : Int)) = true := decide_eq_true c10
     have c10b1 : decide (0 < l0.length) = true := decide_eq_true (by omega)
     clear c10
     have H' := Aside0.mk H
     clear H
     have p410 : 0 ≤ (0 : Int) := (by omega)
     have q410 : 0 < (l0.length : Int) := dt_
     obtain ⟨ad410, e410, hx410_0, hx410_1⟩ := at_T54 HR0.out 0 p410 q410
     cases e410
     have qi410 : (0 < l0.length) = True := eq_true (by omega)
     (try rw [show ((0 : Int)).toNat = 0 from rfl] at hx410_0)
     (try rw [show 0 * 2 = 0 from rfl] at hx410_0)
     (try rw [Addr.add_zero'] at hx410_0)
     (try rw [show ((0 : Int)).toNat = 0 from rfl] at hx410_1)
     (try rw [show 0 * 2 = 0 from rfl] at hx410_1)
     (try rw [Addr.add_zero'] at hx410_1)
     replace hx410_0 := bc_ HB.out hx410_0
     replace hx410_1 := bc_ HB.out hx410_1
     replace p410 := eq_true p410
     replace q410 := eq_true q410
     go_wp2_with (first | ((with_reducible refine gate_dst (N := 4) rfl ?_); (try (refine gate_guard (by rfl) ?_; dsimp only)); refine box_event ?hg (N := 4) ?hd (cs := #[.int .i64 0, .int .i64 0]) (t := 54) ?hr ?_; (case hd => rfl); (case hg => rfl); (case hr => first | (go_simp; done) | (go_simp; rfl)); intro gb411 hg w11 hbox hb; have BK411 := Aside0.mk (hbox); have GW411 := Aside0.mk ((bz_ hg (lb1_ HB.out GE408.out))); have GE411 := Aside0.mk ((bz_ hg (lb1_ HB.out GE408.out))); replace HB := Aside0.mk (below_step (lb1_ HB.out GE408.out) hb); have NB408_411 := Aside0.mk (nl_ hg BK408.out); have NB411_408 := Aside0.mk (ng_ hg BK408.out); replace BK408 := Aside0.mk (bb_ (bk_ BK408.out) hb); clear hb hbox hg; have hnb12 := NB411_408.out; have hnc12 := NB408_411.out; obtain ⟨hcz13_0, hcz13_1⟩ := cz2_ BK411.out; obtain ⟨hfz13_0, hfz13_1⟩ := fz2_ BK411.out))
     repeat (go_quiet (first | ((with_reducible refine gate_dst (N := 4) rfl ?_); (try (refine gate_guard (by rfl) ?_; dsimp only)); refine box_event ?hg (N := 4) ?hd (cs := #[.int .i64 0, .int .i64 0]) (t := 54) ?hr ?_; (case hd => rfl); (case hg => rfl); (case hr => first | (go_simp; done) | (go_simp; rfl)); intro gb411 hg w11 hbox hb; have BK411 := Aside0.mk (hbox); have GW411 := Aside0.mk ((bz_ hg (lb1_ HB.out GE408.out))); have GE411 := Aside0.mk ((bz_ hg (lb1_ HB.out GE408.out))); replace HB := Aside0.mk (below_step (lb1_ HB.out GE408.out) hb); have NB408_411 := Aside0.mk (nl_ hg BK408.out); have NB411_408 := Aside0.mk (ng_ hg BK408.out); replace BK408 := Aside0.mk (bb_ (bk_ BK408.out) hb); clear hb hbox hg; have hnb12 := NB411_408.out; have hnc12 := NB408_411.out; obtain ⟨hcz13_0, hcz13_1⟩ := cz2_ BK411.out; obtain ⟨hfz13_0, hfz13_1⟩ := fz2_ BK411.out)); try go_wp2_with (first | ((with_reducible refine gate_dst (N := 4) rfl ?_); (try (refine gate_guard (by rfl) ?_; dsimp only)); refine box_event ?hg (N := 4) ?hd (cs := #[.int .i64 0, .int .i64 0]) (t := 54) ?hr ?_; (case hd => rfl); (case hg => rfl); (case hr => first | (go_simp; done) | (go_simp; rfl)); intro gb411 hg w11 hbox hb; have BK411 := Aside0.mk (hbox); have GW411 := Aside0.mk ((bz_ hg (lb1_ HB.out GE408.out))); have GE411 := Aside0.mk ((bz_ hg (lb1_ HB.out GE408.out))); replace HB := Aside0.mk (below_step (lb1_ HB.out GE408.out) hb); have NB408_411 := Aside0.mk (nl_ hg BK408.out); have NB411_408 := Aside0.mk (ng_ hg BK408.out); replace BK408 := Aside0.mk (bb_ (bk_ BK408.out) hb); clear hb hbox hg; have hnb12 := NB411_408.out; have hnc12 := NB408_411.out; obtain ⟨hcz13_0, hcz13_1⟩ := cz2_ BK411.out; obtain ⟨hfz13_0, hfz13_1⟩ := fz2_ BK411.out)))
     go_loopg [5] kj1 (fun kq v5 w' => ∃ (x5_2 : Int) (x412000_2 : Int) (x412001_2 : Int), v5 = .int .i64 x5_2 ∧ Aside0 (spec_HighestReading.l0 kq l0 x5_2 x412000_2 x412001_2 = some (r1, r2, r3)) ∧ Aside0 (kq ≤ kj1) ∧ Aside0 (w'.heap[gb408]? = some (.cells #[.int .i64 0, .int .i64 0] 54 (0, 0))) ∧ Aside0 (w'.heap[gb411]? = some (.cells #[.int .i64 x412000_2, .int .i64 x412001_2] 54 (0, 0))) ∧ Aside0 (Below w.heap.size w w'))
     case atStart => exact ⟨(1), ((rd_T54 l0 0).f0), ((rd_T54 l0 0).f1), (by first | rfl | (simp; done) | (simp [*]; done)), H', ⟨Nat.le_refl _⟩, ⟨by (with_reducible repeat (first | refine blk_drewN ?_ _ | refine blk_drew ?_ | refine blk_alloc ?_ _)); exact (f2_ BK408.out NB408_411.out _ _)⟩, ⟨by (with_reducible repeat (first | refine blk_drewN ?_ _ | refine blk_drew ?_ | refine blk_alloc ?_ _)); exact (p2_ BK411.out _ _)⟩, ⟨lb2_ HB.out GE408.out GE411.out⟩⟩
     case round =>
      clear H'
      try clear c1
      try clear p2
      try clear c3
      try clear p4
      try clear q4
      try clear hx4
      try clear qi4
      try clear c5
      try clear c8
      try clear c10
      try clear c10b0
      try clear c10b1
      try clear c12
      try clear hcz13_0 hcz13_1
      try clear hcz9_0 hcz9_1
      try clear hfz13_0 hfz13_1
      try clear hfz9_0 hfz9_1
      try clear hx410_0
      try clear hx410_1
      try clear p2
      try clear p410
      try clear q410
      obtain ⟨x5_2, x412000_2, x412001_2, rfl, HA, HK2, BK408, BK411, HB⟩ := hrel
      cases gk with
      | zero => exact absurd HA.out (by simp [spec_HighestReading.l0])
      | succ k2 =>
       have H := HA.out
       clear HA
       simp only [spec_HighestReading.l0] at H
       by_cases c14 : x5_2 < (l0.length : Int)
       ·
        rw [if_pos c14] at H
        have c14b0 : decide (x5_2 < (l0.length : Int)) = true := decide_eq_true c14; clear c14
        by_cases c15 : 0 ≤ x5_2
        ·
         rw [if_pos c15] at H
         have c15b0 : decide (0 ≤ x5_2) = true := decide_eq_true c15; clear c15
         by_cases c16 : ((rd_T54 l0 x5_2).f1) > x412001_2
         ·
          rw [if_pos c16] at H
          have c16b0 : decide (x412001_2 < ((rd_T54 l0 x5_2).f1)) = true := decide_eq_true c16; clear c16; have H' := Aside0.mk H; clear H; have p412 : 0 ≤ (x5_2 : Int) := dt_; have q412 : x5_2 < (l0.length : Int) := dt_; obtain ⟨ad412, e412, hx412_0, hx412_1⟩ := at_T54 HR0.out x5_2 p412 q412
          obtain rfl : ad410 = ad412 := (by injection e412)
          replace hx412_0 := bc_ HB.out hx412_0; replace hx412_1 := bc_ HB.out hx412_1; replace p412 := eq_true p412; replace q412 := eq_true q412; have hnb17 := NB411_408.out; have hnc17 := NB408_411.out; obtain ⟨hcz18_0, hcz18_1⟩ := cz2_ BK411.out; obtain ⟨hfz18_0, hfz18_1⟩ := fz2_ BK411.out; have p413 : 0 ≤ (x5_2 : Int) := dt_; have q413 : x5_2 < (l0.length : Int) := dt_; obtain ⟨ad413, e413, hx413_0, hx413_1⟩ := at_T54 HR0.out x5_2 p413 q413
          obtain rfl : ad410 = ad413 := (by injection e413)
          replace hx413_0 := bc_ HB.out hx413_0; replace hx413_1 := bc_ HB.out hx413_1; replace p413 := eq_true p413; replace q413 := eq_true q413
          go_wp2
          repeat (go_quiet (fail); try go_wp2)
          go_roundg k2
          case measure => have := HJ1.out; have := HK2.out; omega
          case rel => exact ⟨(wrap64 (x5_2 + 1)), ((rd_T54 l0 x5_2).f0), ((rd_T54 l0 x5_2).f1), (by first | rfl | (simp; done) | (simp [*]; done)), H', ⟨by have := HJ1.out; have := HK2.out; omega⟩, ⟨by (with_reducible repeat (first | refine blk_drewN ?_ _ | refine blk_drew ?_ | refine blk_alloc ?_ _)); exact (f2_ BK408.out NB408_411.out _ _)⟩, ⟨by (with_reducible repeat (first | refine blk_drewN ?_ _ | refine blk_drew ?_ | refine blk_alloc ?_ _)); exact (p2_ BK411.out _ _)⟩, ⟨lb2_ HB.out GE408.out GE411.out⟩⟩
         ·
          rw [if_neg c16] at H
          have c16b0 : decide (x412001_2 < ((rd_T54 l0 x5_2).f1)) = false := decide_eq_false c16; clear c16; have H' := Aside0.mk H; clear H; have p412 : 0 ≤ (x5_2 : Int) := dt_; have q412 : x5_2 < (l0.length : Int) := dt_; obtain ⟨ad412, e412, hx412_0, hx412_1⟩ := at_T54 HR0.out x5_2 p412 q412
          obtain rfl : ad410 = ad412 := (by injection e412)
          replace hx412_0 := bc_ HB.out hx412_0; replace hx412_1 := bc_ HB.out hx412_1; replace p412 := eq_true p412; replace q412 := eq_true q412; have hnb19 := NB411_408.out; have hnc19 := NB408_411.out; obtain ⟨hcz20_0, hcz20_1⟩ := cz2_ BK411.out; obtain ⟨hfz20_0, hfz20_1⟩ := fz2_ BK411.out
          go_wp2
          repeat (go_quiet (fail); try go_wp2)
          go_roundg k2
          case measure => have := HJ1.out; have := HK2.out; omega
          case rel => exact ⟨(wrap64 (x5_2 + 1)), (x412000_2), (x412001_2), (by first | rfl | (simp; done) | (simp [*]; done)), H', ⟨by have := HJ1.out; have := HK2.out; omega⟩, ⟨bk_ BK408.out⟩, ⟨bk_ BK411.out⟩, ⟨lb2_ HB.out GE408.out GE411.out⟩⟩
        ·
         rw [if_neg c15] at H
         exact absurd H (by simp)
       ·
        rw [if_neg c14] at H
        have c14b0 : decide (x5_2 < (l0.length : Int)) = false := decide_eq_false c14; clear c14; simp only [Option.some.injEq, Prod.mk.injEq] at H; obtain ⟨rfl, rfl, rfl⟩ := H; have hnb21 := NB411_408.out; have hnc21 := NB408_411.out; obtain ⟨hcz22_0, hcz22_1⟩ := cz2_ BK411.out; obtain ⟨hfz22_0, hfz22_1⟩ := fz2_ BK411.out; obtain ⟨hcz23_0, hcz23_1⟩ := cz2_ BK408.out; obtain ⟨hfz23_0, hfz23_1⟩ := fz2_ BK408.out
        go_wp2
        repeat (go_quiet (fail); try go_wp2)
        refine bodyPost_ret (results_ct rfl _ _ gb408 54 #[.int .i64 x412000_2, .int .i64 x412001_2] (0, 0) _ rfl (by (with_reducible repeat (first | refine blk_drewN ?_ _ | refine blk_drew ?_ | refine blk_alloc ?_ _)); refine blk_put (cs := #[.int .i64 x412000_2, .int .i64 0]) ?_ 1 _ rfl; (with_reducible repeat (first | refine blk_drewN ?_ _ | refine blk_drew ?_ | refine blk_alloc ?_ _)); refine blk_put (cs := #[.int .i64 0, .int .i64 0]) ?_ 0 _ rfl; (with_reducible repeat (first | refine blk_drewN ?_ _ | refine blk_drew ?_ | refine blk_alloc ?_ _)); exact BK408.out) Try.underlying54 rfl (by kernel_rfl)) rfl ?_; exact ⟨rr_, lb2_ HB.out GE408.out GE411.out⟩
    ·
     rw [if_neg c10] at H
     exact absurd H (by simp)
def kref_ : Kd Nat := Kd.scalar (fun b => .slice (some ⟨b, 0, none⟩) 2 2) (fun _ => rfl)
structure SpS (w : World) (base : Nat) (v : Value) (P : List (Nat × Int × Int)) : Prop where
 row : kref_.R 36 w base (fun _ => True) v (P.map (·.1))
 cel : ∀ p ∈ P, base ≤ p.1 ∧ w.heap[p.1]? = some (.cells #[.int .i64 p.2.1, .int .i64 p.2.2] 3 (0, 0))
 nod : (P.map (·.1)).Nodup
namespace SpS
variable {w w1 : World} {base b : Nat} {v v1 : Value} {P Q : List (Nat × Int × Int)} {x y : Int}
theorem nil (w : World) (base : Nat) : SpS w base (.slice none 0 0) [] := ⟨Kd.R_nil _ _ _ _ _, fun p hp => absurd hp List.not_mem_nil, List.nodup_nil⟩
theorem below (h : SpS w base v P) (hb : Below w.heap.size w w1) : SpS w1 base v P :=
 ⟨Kd.R_below h.row hb, fun p hp => ⟨(h.cel p hp).1, blk_below (h.cel p hp).2 hb⟩, h.nod⟩
theorem put (h : SpS w base v (Q ++ [(b, x, y)])) (y' : Int) : SpS (w.setCell ⟨b, 1, none⟩ (.int .i64 y')) base v (Q ++ [(b, x, y')]) := by
 have hc := h.cel (b, x, y) (by simp)
 refine ⟨?_, fun p hp => ?_, ?_⟩
 ·
  have := Kd.R_set h.row hc.2 (fun q hq => by rw [List.mem_singleton.1 hq]; decide) 1 (.int .i64 y')
  simpa using this
 ·
  rcases List.mem_append.1 hp with hp | hp
  ·
   refine ⟨(h.cel p (List.mem_append_left _ hp)).1, blk_far (h.cel p (List.mem_append_left _ hp)).2 (fun e => ?_) _⟩
   have hn := h.nod
   rw [List.map_append, List.nodup_append] at hn
   exact hn.2.2 _ (List.mem_map_of_mem hp) _ (by simp) e
  ·
   obtain rfl := List.mem_singleton.1 hp
   exact ⟨hc.1, blk_put hc.2 1 _ rfl⟩
 ·
  have := h.nod
  simpa using this
end SpS
section
variable {P : Program} {ops : Array Oper} {rest : List Oper} {o : Oper} {a : Act} {Q : Exit → Act → World → Prop}
end
end Go.Proofs.Ytojaeidabmfajaa.Pr

namespace Go.Proofs.Ytojaeidabmfajaa.Pr
open Go.RowKit Go.Proofs.YtojaeidabmfajaaW.PrintWords Go.Proofs.YtojaeidabmfajaaW.PrintLast Go.Proofs.YtojaeidabmfajaaW.PrintMore
attribute [local go_sem] max2_int min2_int max_two min_two max_three min_three max_four min_four   -- for this text's walks alone
set_option linter.unusedVariables false
set_option linter.unusedSimpArgs false
def impl_fraction_less.f (a0_0 : Int) (a0_1 : Int) (a1_0 : Int) (a1_1 : Int) : Option (Bool) := some (decide ((wrap64 (a0_0 * a1_1)) < (wrap64 (a1_0 * a0_1))))
set_option maxHeartbeats 8000000 in
set_option maxRecDepth 100000 in
theorem impl_fraction_less.calls (a0_0 : Int) (a0_1 : Int) (a1_0 : Int) (a1_1 : Int) (r : Bool) (w : World) (h : impl_fraction_less.f a0_0 a0_1 a1_0 a1_1 = some r) :
  Calls Try.prog 72 #[.agg #[.int .i64 a0_0, .int .i64 a0_1], .agg #[.int .i64 a1_0, .int .i64 a1_1]] w fun e w' => e = .returned (.bool r) ∧ Below w.heap.size w w' := by
 have hu94 := Try.underlying94
 have HB := Aside0.mk (Below.refl w.heap.size w)
 have H : (some (decide ((wrap64 (a0_0 * a1_1)) < (wrap64 (a1_0 * a0_1))))) = some r := h
 clear h
 obtain rfl := Option.some.inj H
 go_enter Try.func72, Try.ntmps72
 go_wp2_with (first | ((with_reducible refine gate_dst (N := 2) rfl ?_); refine box_event ?hg (N := 2) ?hd (cs := #[.int .i64 a0_0, .int .i64 a0_1]) (t := 94) ?hr ?_; (case hd => rfl); (case hg => rfl); (case hr => first | (go_simp; done) | (go_simp; rfl)); intro gb414 hg w3 hbox hb; have BK414 := Aside0.mk (hbox); have GW414 := Aside0.mk ((bz_ hg (lb0_ HB.out))); have GE414 := Aside0.mk ((bz_ hg (lb0_ HB.out))); replace HB := Aside0.mk (below_step (lb0_ HB.out) hb); clear hb hbox hg) | ((with_reducible refine gate_dst (N := 3) rfl ?_); refine box_event ?hg (N := 3) ?hd (cs := #[.int .i64 a1_0, .int .i64 a1_1]) (t := 94) ?hr ?_; (case hd => rfl); (case hg => rfl); (case hr => first | (go_simp; done) | (go_simp; rfl)); intro gb415 hg w4 hbox hb; have BK415 := Aside0.mk (hbox); have GW415 := Aside0.mk ((bz_ hg (lb1_ HB.out GE414.out))); have GE415 := Aside0.mk ((bz_ hg (lb1_ HB.out GE414.out))); replace HB := Aside0.mk (below_step (lb1_ HB.out GE414.out) hb); have NB414_415 := Aside0.mk (nl_ hg BK414.out); have NB415_414 := Aside0.mk (ng_ hg BK414.out); replace BK414 := Aside0.mk (bb_ (bk_ BK414.out) hb); clear hb hbox hg; have hnb5 := NB414_415.out; have hnc5 := NB415_414.out; obtain ⟨hcz6_0, hcz6_1⟩ := cz2_ BK414.out; obtain ⟨hfz6_0, hfz6_1⟩ := fz2_ BK414.out; obtain ⟨hcz7_0, hcz7_1⟩ := cz2_ BK415.out; obtain ⟨hfz7_0, hfz7_1⟩ := fz2_ BK415.out))
 go_ret
 exact ⟨rr_, lb2_ HB.out GE414.out GE415.out⟩
def impl_FastestRise.l0 : Nat → List (S54) → Int → Int → Int → Int → Option (Int × Int × Int × Bool)
 | 0, _, _, _, _, _ => none
 | k + 1, x0, x6, x8, x418000, x418001 => if x8 < (x0.length : Int) then (if 0 ≤ x8 then (if 0 ≤ (wrap64 (x8 - 1)) then (if (wrap64 (x8 - 1)) < (x0.length : Int) then ((impl_reduced.f k (wrap64 (((rd_T54 x0 x8).f1) - ((rd_T54 x0 (wrap64 (x8 - 1))).f1))) (wrap64 (((rd_T54 x0 x8).f0) - ((rd_T54 x0 (wrap64 (x8 - 1))).f0)))).bind fun bt422 => ((impl_fraction_less.f x418000 x418001 bt422.1 bt422.2).bind fun t425 => (if t425 = true then (impl_FastestRise.l0 k x0 (wrap64 (x8 - 1)) (wrap64 (x8 + 1)) bt422.1 bt422.2) else (impl_FastestRise.l0 k x0 x6 (wrap64 (x8 + 1)) x418000 x418001)))) else (none)) else (none)) else (none)) else (if x6 < 0 then (some (0, 0, 0, false)) else (some (x6, x418000, x418001, true)))
def impl_FastestRise.f (k : Nat) (l0 : List (S54)) : Option (Int × Int × Int × Bool) := (impl_AreReadings.f k l0).bind fun t416 => (if t416 = true then (impl_FastestRise.l0 k l0 (-1) 1 0 1) else (some (0, 0, 0, false)))
def impl_FastestRise.T7 : Bool × List (List Nat × List Nat) := (true, [([], []), ([], []), ([0, 1], [0, 1]), ([2], [2]), ([3], [3]), ([], []), ([], []), ([6], [6]), ([5, 7], [5, 7]), ([8], [8]), ([9], [9]), ([4, 10], [4, 10]), ([], []), ([], []), ([12, 13], [12, 13]), ([14], [14]), ([15], [15]), ([], []), ([], []), ([18], [18]), ([17, 19], [17, 19]), ([20], [20]), ([21], [21]), ([16, 22], [16, 22]), ([11, 23], [11, 23]), ([24], [24]), ([25], [25]), ([25], [25]), ([26, 24, 0, 1, 2, 3, 4, 5, 6, 7, 8, 9, 10, 11, 12, 13, 14, 15, 16, 17, 18, 19, 20, 21, 22, 23, 24, 25, 26], [26]), ([27, 28, 0, 1, 2, 3, 4, 5, 6, 7, 8, 9, 10, 11, 12, 13, 14, 15, 16, 17, 18, 19, 20, 21, 22, 23, 24, 25, 26, 27, 28], [27])])
def impl_FastestRise.B7 : List Nat := [0, 0, 3, 7, 15, 0, 0, 64, 224, 480, 992, 2047, 0, 0, 12288, 28672, 61440, 0, 0, 262144, 917504, 1966080, 4063232, 8384512, 16777215, 33554431, 67108863, 67108863, 134217727, 536870911]
theorem impl_FastestRise.tab7 : rtab .any (opsOf Try.f32 7) = impl_FastestRise.T7 := by kernel_rfl
theorem impl_FastestRise.bits7 : waitsOk impl_FastestRise.T7.2 impl_FastestRise.B7 = true := by kernel_rfl
def impl_FastestRise.T13 : Bool × List (List Nat × List Nat) := (true, [([], []), ([], []), ([1], [1]), ([], []), ([3], [3]), ([0, 0], [0]), ([2, 5, 0, 1, 2, 5], [2]), ([4, 6, 0, 1, 2, 3, 4, 5, 6], [4]), ([7, 0, 1, 2, 3, 4, 5, 6, 7], [])])
def impl_FastestRise.B13 : List Nat := [0, 0, 2, 0, 8, 1, 39, 127, 255]
theorem impl_FastestRise.tab13 : rtab .any (opsOf Try.f32 13) = impl_FastestRise.T13 := by kernel_rfl
theorem impl_FastestRise.bits13 : waitsOk impl_FastestRise.T13.2 impl_FastestRise.B13 = true := by kernel_rfl
abbrev impl_FastestRise.mk0 : Array Bool := #[fF,fF,fF,fF,fF,fF,fF,fF,fF,fF,fF,fF,fF,fF,fF,fF,fF,fF,fF,fF,fF,fF,fF,fF,fF,fF,fF,fF,fF,fF]
abbrev impl_FastestRise.mk1 : Array Bool := #[tT,fF,fF,fF,fF,fF,fF,fF,fF,fF,fF,fF,fF,fF,fF,fF,fF,fF,fF,fF,fF,fF,fF,fF,fF,fF,fF,fF,fF,fF]
abbrev impl_FastestRise.mk2 : Array Bool := #[tT,tT,fF,fF,fF,fF,fF,fF,fF,fF,fF,fF,fF,fF,fF,fF,fF,fF,fF,fF,fF,fF,fF,fF,fF,fF,fF,fF,fF,fF]
abbrev impl_FastestRise.mk3 : Array Bool := #[tT,tT,tT,fF,fF,fF,fF,fF,fF,fF,fF,fF,fF,fF,fF,fF,fF,fF,fF,fF,fF,fF,fF,fF,fF,fF,fF,fF,fF,fF]
abbrev impl_FastestRise.mk4 : Array Bool := #[tT,tT,tT,tT,fF,fF,fF,fF,fF,fF,fF,fF,fF,fF,fF,fF,fF,fF,fF,fF,fF,fF,fF,fF,fF,fF,fF,fF,fF,fF]
abbrev impl_FastestRise.mk5 : Array Bool := #[tT,tT,tT,tT,fF,tT,fF,fF,fF,fF,fF,fF,fF,fF,fF,fF,fF,fF,fF,fF,fF,fF,fF,fF,fF,fF,fF,fF,fF,fF]
abbrev impl_FastestRise.mk6 : Array Bool := #[tT,tT,tT,tT,fF,tT,tT,fF,fF,fF,fF,fF,fF,fF,fF,fF,fF,fF,fF,fF,fF,fF,fF,fF,fF,fF,fF,fF,fF,fF]
abbrev impl_FastestRise.mk7 : Array Bool := #[tT,tT,tT,tT,fF,tT,tT,tT,fF,fF,fF,fF,fF,fF,fF,fF,fF,fF,fF,fF,fF,fF,fF,fF,fF,fF,fF,fF,fF,fF]
abbrev impl_FastestRise.mk8 : Array Bool := #[tT,tT,tT,tT,fF,tT,tT,tT,tT,fF,fF,fF,fF,fF,fF,fF,fF,fF,fF,fF,fF,fF,fF,fF,fF,fF,fF,fF,fF,fF]
abbrev impl_FastestRise.mk9 : Array Bool := #[tT,tT,tT,tT,fF,tT,tT,tT,tT,tT,fF,fF,fF,fF,fF,fF,fF,fF,fF,fF,fF,fF,fF,fF,fF,fF,fF,fF,fF,fF]
abbrev impl_FastestRise.mk10 : Array Bool := #[tT,tT,tT,tT,fF,tT,tT,tT,tT,tT,fF,fF,tT,fF,fF,fF,fF,fF,fF,fF,fF,fF,fF,fF,fF,fF,fF,fF,fF,fF]
abbrev impl_FastestRise.mk11 : Array Bool := #[tT,tT,tT,tT,fF,tT,tT,tT,tT,tT,fF,fF,tT,tT,fF,fF,fF,fF,fF,fF,fF,fF,fF,fF,fF,fF,fF,fF,fF,fF]
abbrev impl_FastestRise.mk12 : Array Bool := #[tT,tT,tT,tT,fF,tT,tT,tT,tT,tT,fF,fF,tT,tT,tT,fF,fF,fF,fF,fF,fF,fF,fF,fF,fF,fF,fF,fF,fF,fF]
abbrev impl_FastestRise.mk13 : Array Bool := #[tT,tT,tT,tT,fF,tT,tT,tT,tT,tT,fF,fF,tT,tT,tT,tT,fF,fF,fF,fF,fF,fF,fF,fF,fF,fF,fF,fF,fF,fF]
abbrev impl_FastestRise.mk14 : Array Bool := #[tT,tT,tT,tT,fF,tT,tT,tT,tT,tT,fF,fF,tT,tT,tT,tT,fF,tT,fF,fF,fF,fF,fF,fF,fF,fF,fF,fF,fF,fF]
abbrev impl_FastestRise.mk15 : Array Bool := #[tT,tT,tT,tT,fF,tT,tT,tT,tT,tT,fF,fF,tT,tT,tT,tT,fF,tT,tT,fF,fF,fF,fF,fF,fF,fF,fF,fF,fF,fF]
abbrev impl_FastestRise.mk16 : Array Bool := #[tT,tT,tT,tT,fF,tT,tT,tT,tT,tT,fF,fF,tT,tT,tT,tT,fF,tT,tT,tT,fF,fF,fF,fF,fF,fF,fF,fF,fF,fF]
abbrev impl_FastestRise.mk17 : Array Bool := #[tT,tT,tT,tT,fF,tT,tT,tT,tT,tT,fF,fF,tT,tT,tT,tT,fF,tT,tT,tT,tT,fF,fF,fF,fF,fF,fF,fF,fF,fF]
abbrev impl_FastestRise.mk18 : Array Bool := #[tT,tT,tT,tT,fF,tT,tT,tT,tT,tT,fF,fF,tT,tT,tT,tT,fF,tT,tT,tT,tT,tT,fF,fF,fF,fF,fF,fF,fF,fF]
abbrev impl_FastestRise.mk19 : Array Bool := #[tT,tT,tT,tT,tT,tT,tT,tT,tT,tT,fF,fF,tT,tT,tT,tT,fF,tT,tT,tT,tT,tT,fF,fF,fF,fF,fF,fF,fF,fF]
abbrev impl_FastestRise.mk20 : Array Bool := #[tT,tT,tT,tT,tT,tT,tT,tT,tT,tT,tT,fF,tT,tT,tT,tT,fF,tT,tT,tT,tT,tT,fF,fF,fF,fF,fF,fF,fF,fF]
abbrev impl_FastestRise.mk21 : Array Bool := #[tT,tT,tT,tT,tT,tT,tT,tT,tT,tT,tT,tT,tT,tT,tT,tT,fF,tT,tT,tT,tT,tT,fF,fF,fF,fF,fF,fF,fF,fF]
abbrev impl_FastestRise.mk22 : Array Bool := #[tT,tT,tT,tT,tT,tT,tT,tT,tT,tT,tT,tT,tT,tT,tT,tT,tT,tT,tT,tT,tT,tT,fF,fF,fF,fF,fF,fF,fF,fF]
abbrev impl_FastestRise.mk23 : Array Bool := #[tT,tT,tT,tT,tT,tT,tT,tT,tT,tT,tT,tT,tT,tT,tT,tT,tT,tT,tT,tT,tT,tT,tT,fF,fF,fF,fF,fF,fF,fF]
abbrev impl_FastestRise.mk24 : Array Bool := #[tT,tT,tT,tT,tT,tT,tT,tT,tT,tT,tT,tT,tT,tT,tT,tT,tT,tT,tT,tT,tT,tT,tT,tT,fF,fF,fF,fF,fF,fF]
abbrev impl_FastestRise.mk25 : Array Bool := #[tT,tT,tT,tT,tT,tT,tT,tT,tT,tT,tT,tT,tT,tT,tT,tT,tT,tT,tT,tT,tT,tT,tT,tT,tT,fF,fF,fF,fF,fF]
abbrev impl_FastestRise.mk26 : Array Bool := #[tT,tT,tT,tT,tT,tT,tT,tT,tT,tT,tT,tT,tT,tT,tT,tT,tT,tT,tT,tT,tT,tT,tT,tT,tT,tT,fF,fF,fF,fF]
abbrev impl_FastestRise.mk27 : Array Bool := #[tT,tT,tT,tT,tT,tT,tT,tT,tT,tT,tT,tT,tT,tT,tT,tT,tT,tT,tT,tT,tT,tT,tT,tT,tT,tT,tT,fF,fF,fF]
abbrev impl_FastestRise.mk28 : Array Bool := #[tT,tT,tT,tT,tT,tT,tT,tT,tT,tT,tT,tT,tT,tT,tT,tT,tT,tT,tT,tT,tT,tT,tT,tT,tT,tT,tT,tT,fF,fF]
abbrev impl_FastestRise.mk29 : Array Bool := #[tT,tT,tT,tT,tT,tT,tT,tT,tT,tT,tT,tT,tT,tT,tT,tT,tT,tT,tT,tT,tT,tT,tT,tT,tT,tT,tT,tT,tT,fF]
abbrev impl_FastestRise.mk30 : Array Bool := #[tT,tT,tT,tT,tT,tT,tT,tT,tT,tT,tT,tT,tT,tT,tT,tT,tT,tT,tT,tT,tT,tT,tT,tT,tT,tT,tT,tT,tT,tT]
abbrev impl_FastestRise.mk31 : Array Bool := #[fF,fF,fF,fF,fF,fF,fF,fF,fF]
abbrev impl_FastestRise.mk32 : Array Bool := #[tT,fF,fF,fF,fF,fF,fF,fF,fF]
abbrev impl_FastestRise.mk33 : Array Bool := #[tT,tT,fF,fF,fF,fF,fF,fF,fF]
abbrev impl_FastestRise.mk34 : Array Bool := #[tT,tT,fF,tT,fF,fF,fF,fF,fF]
abbrev impl_FastestRise.mk35 : Array Bool := #[tT,tT,fF,tT,fF,tT,fF,fF,fF]
abbrev impl_FastestRise.mk36 : Array Bool := #[tT,tT,tT,tT,fF,tT,fF,fF,fF]
abbrev impl_FastestRise.mk37 : Array Bool := #[tT,tT,tT,tT,fF,tT,tT,fF,fF]
abbrev impl_FastestRise.mk38 : Array Bool := #[tT,tT,tT,tT,tT,tT,tT,fF,fF]
abbrev impl_FastestRise.mk39 : Array Bool := #[tT,tT,tT,tT,tT,tT,tT,tT,fF]
abbrev impl_FastestRise.mk40 : Array Bool := #[tT,tT,tT,tT,tT,tT,tT,tT,tT]
set_option maxHeartbeats 8000000 in
set_option maxRecDepth 100000 in
theorem impl_FastestRise.calls (k : Nat) (A0 : Option Addr) (c0 : Nat) (l0 : List (S54)) (r1 : Int) (r2 : Int) (r3 : Int) (r4 : Bool) (w : World) (hr0 : Kd.C k54 w A0 l0.length l0) (hc0 : l0.length ≤ c0) (h : impl_FastestRise.f k l0 = some (r1, r2, r3, r4)) :
  Calls Try.prog 32 #[.slice A0 l0.length c0] w fun e w' => e = .returned (.tuple #[.int .i64 r1, .int .i64 r2, .int .i64 r3, .bool r4]) ∧ Below w.heap.size w w' := by
 have hu94 := Try.underlying94
 have HR0 := Aside0.mk hr0
 have HC0 := Aside0.mk hc0
 clear hr0 hc0
 have HB := Aside0.mk (Below.refl w.heap.size w)
 have H : ((impl_AreReadings.f k l0).bind fun t416 => (if t416 = true then (impl_FastestRise.l0 k l0 (-1) 1 0 1) else (some (0, 0, 0, false)))) = some (r1, r2, r3, r4) := h
 clear h
 replace H := Option.bind_eq_some_iff.mp H
 obtain ⟨t416, A20, H⟩ := H
 replace H : (if t416 = true then (impl_FastestRise.l0 k l0 (-1) 1 0 1) else (some (0, 0, 0, false))) = some (r1, r2, r3, r4) := H
 have A2 := Aside0.mk A20
 clear A20
 by_cases c3 : t416 = true
 ·
  subst c3
  have H1 : (impl_FastestRise.l0 k l0 (-1) 1 0 1) = some (r1, r2, r3, r4) := by rw [if_pos rfl] at H; exact H
  clear H
  have H := H1
  clear H1
  have H' := Aside0.mk H
  clear H
  go_enter Try.func32, Try.ntmps32
  go_wp2_with (first | ((with_reducible refine gate_callee (f := 34) rfl ?_); refine ga_ (some 13) Try.func34 #[.slice A0 l0.length c0] ?_; (with_reducible refine (impl_AreReadings.calls k _ _ l0 true _ ?side1 ?side2 A2.out).mono ?_); (case side1 => exact kc_ HR0.out); (case side2 => exact HC0.out); rintro e w4 ⟨rfl, hb⟩; refine ⟨_, rfl, ?_⟩; replace HB := Aside0.mk (below_step (lb0_ HB.out) hb); (try clear hb); (try clear hb2); (try clear hk); (try clear hi)) | ((with_reducible refine gate_dst (N := 7) rfl ?_); refine box_event ?hg (N := 7) ?hd (cs := #[.int .i64 0, .int .i64 0]) (t := 94) ?hr ?_; (case hd => rfl); (case hg => rfl); (case hr => first | (go_simp; done) | (go_simp; rfl)); intro gb417 hg w5 hbox hb; have BK417 := Aside0.mk (hbox); have GW417 := Aside0.mk ((bz_ hg (lb0_ HB.out))); have GE417 := Aside0.mk ((bz_ hg (lb0_ HB.out))); replace HB := Aside0.mk (below_step (lb0_ HB.out) hb); clear hb hbox hg; obtain ⟨hcz6_0, hcz6_1⟩ := cz2_ BK417.out; obtain ⟨hfz6_0, hfz6_1⟩ := fz2_ BK417.out))
  go_loopg [6, 8] k (fun kq v6 v8 w' => ∃ (x6_1 : Int) (x8_1 : Int) (x418000_1 : Int) (x418001_1 : Int), v6 = .int .i64 x6_1 ∧ v8 = .int .i64 x8_1 ∧ Aside0 (impl_FastestRise.l0 kq l0 x6_1 x8_1 x418000_1 x418001_1 = some (r1, r2, r3, r4)) ∧ Aside0 (kq ≤ k) ∧ Aside0 (w'.heap[gb417]? = some (.cells #[.int .i64 x418000_1, .int .i64 x418001_1] 94 (0, 0))) ∧ Aside0 (Below w.heap.size w w'))
  case atStart => exact ⟨((-1)), (1), (0), (1), (by first | rfl | (simp; done) | (simp [*]; done)), (by first | rfl | (simp; done) | (simp [*]; done)), H', ⟨Nat.le_refl _⟩, ⟨by (with_reducible repeat (first | refine blk_drewN ?_ _ | refine blk_drew ?_ | refine blk_alloc ?_ _)); exact (p2_ BK417.out _ _)⟩, ⟨lb1_ HB.out GE417.out⟩⟩
  case round =>
   clear H'
   try clear p2
   try clear c3
   try clear hcz6_0 hcz6_1
   try clear hfz6_0 hfz6_1
   obtain ⟨x6_1, x8_1, x418000_1, x418001_1, rfl, rfl, HA, HK1, BK417, HB⟩ := hrel
   cases gk with
   | zero => exact absurd HA.out (by simp [impl_FastestRise.l0])
   | succ k1 =>
    have H := HA.out
    clear HA
    simp only [impl_FastestRise.l0] at H
    by_cases c7 : x8_1 < (l0.length : Int)
    ·
     rw [if_pos c7] at H
     have c7b0 : decide (x8_1 < (l0.length : Int)) = true := decide_eq_true c7
     clear c7
     by_cases c8 : 0 ≤ x8_1
     ·
      rw [if_pos c8] at H
      have c8b0 : decide (0 ≤ x8_1) = true := decide_eq_true c8
      clear c8
      obtain ⟨ji9, hji9⟩ : ∃ j_ : Int, (wrap64 (x8_1 - 1)) = j_ := ⟨_, rfl⟩
      replace H : (if 0 ≤ (ji9) then (if (ji9) < (l0.length : Int) then ((impl_reduced.f k1 (wrap64 (((rd_T54 l0 x8_1).f1) - ((rd_T54 l0 (ji9)).f1))) (wrap64 (((rd_T54 l0 x8_1).f0) - ((rd_T54 l0 (ji9)).f0)))).bind fun bt422 => ((impl_fraction_less.f x418000_1 x418001_1 bt422.1 bt422.2).bind fun t425 => (if t425 = true then (impl_FastestRise.l0 k1 l0 ji9 (wrap64 (x8_1 + 1)) bt422.1 bt422.2) else (impl_FastestRise.l0 k1 l0 x6_1 (wrap64 (x8_1 + 1)) x418000_1 x418001_1)))) else (none)) else (none)) = some (r1, r2, r3, r4) := by first | (rw [hji9] at H; exact H) | (simp only [hji9] at H ⊢; exact H)
      have hji9w : (IntKind.i64.wrap (x8_1 - 1)) = ji9 := (i64_w _).trans hji9
      by_cases c10 : 0 ≤ (ji9)
      ·
       rw [if_pos c10] at H
       have c10b0 : decide (0 ≤ (ji9)) = true := decide_eq_true c10
       clear c10
       by_cases c11 : (ji9) < (l0.length : Int)
       ·
        rw [if_pos c11] at H
        have c11b0 : decide ((ji9) < (l0.length : Int)) = true := decide_eq_true c11; clear c11; replace H := Option.bind_eq_some_iff.mp H; obtain ⟨⟨t422, t423⟩, A120, H⟩ := H; replace H : ((impl_fraction_less.f x418000_1 x418001_1 t422 t423).bind fun t425 => (if t425 = true then (impl_FastestRise.l0 k1 l0 ji9 (wrap64 (x8_1 + 1)) t422 t423) else (impl_FastestRise.l0 k1 l0 x6_1 (wrap64 (x8_1 + 1)) x418000_1 x418001_1))) = some (r1, r2, r3, r4) := H; have A12 := Aside0.mk A120; clear A120; replace H := Option.bind_eq_some_iff.mp H; obtain ⟨t425, A130, H⟩ := H; replace H : (if t425 = true then (impl_FastestRise.l0 k1 l0 ji9 (wrap64 (x8_1 + 1)) t422 t423) else (impl_FastestRise.l0 k1 l0 x6_1 (wrap64 (x8_1 + 1)) x418000_1 x418001_1)) = some (r1, r2, r3, r4) := H; have A13 := Aside0.mk A130; clear A130
        by_cases c14 : t425 = true
        ·
         subst c14
         have H1 : (impl_FastestRise.l0 k1 l0 ji9 (wrap64 (x8_1 + 1)) t422 t423) = some (r1, r2, r3, r4) := by rw [if_pos rfl] at H; exact H
         clear H; have H := H1; clear H1; have H' := Aside0.mk H; clear H
         try go_wp2
         replace BK417 := Aside0.mk (blk_drew BK417.out); replace HB := Aside0.mk (below_drew1 HB.out); have p418 : 0 ≤ (x8_1 : Int) := dt_; have q418 : x8_1 < (l0.length : Int) := dt_; obtain ⟨ad418, e418, hx418_0, hx418_1⟩ := at_T54 HR0.out x8_1 p418 q418; have hw418_1 := hx418_1; have hw418_0 := hx418_0
         cases e418
         replace hx418_0 := bc_ HB.out hx418_0; replace hx418_1 := bc_ HB.out hx418_1; replace p418 := eq_true p418; replace q418 := eq_true q418; have p419 : 0 ≤ ((ji9) : Int) := dt_; have q419 : (ji9) < (l0.length : Int) := dt_; obtain ⟨ad419, e419, hx419_0, hx419_1⟩ := at_T54 HR0.out (ji9) p419 q419; have hw419_1 := hx419_1; have hw419_0 := hx419_0
         obtain rfl : ad418 = ad419 := (by injection e419)
         replace hx419_0 := bc_ HB.out hx419_0; replace hx419_1 := bc_ HB.out hx419_1; replace p419 := eq_true p419; replace q419 := eq_true q419; have p420 : 0 ≤ (x8_1 : Int) := dt_; have q420 : x8_1 < (l0.length : Int) := dt_; obtain ⟨ad420, e420, hx420_0, hx420_1⟩ := at_T54 HR0.out x8_1 p420 q420; have hw420_1 := hx420_1; have hw420_0 := hx420_0
         obtain rfl : ad418 = ad420 := (by injection e420)
         replace hx420_0 := bc_ HB.out hx420_0; replace hx420_1 := bc_ HB.out hx420_1; replace p420 := eq_true p420; replace q420 := eq_true q420; have p421 : 0 ≤ ((ji9) : Int) := dt_; have q421 : (ji9) < (l0.length : Int) := dt_; obtain ⟨ad421, e421, hx421_0, hx421_1⟩ := at_T54 HR0.out (ji9) p421 q421; have hw421_1 := hx421_1; have hw421_0 := hx421_0
         obtain rfl : ad418 = ad421 := (by injection e421)
         replace hx421_0 := bc_ HB.out hx421_0; replace hx421_1 := bc_ HB.out hx421_1; replace p421 := eq_true p421; replace q421 := eq_true q421; refine start_ (n := 30) (S := fun w' => w'.cell? (ad418.add ((x8_1).toNat * 2)) = some (.int .i64 ((rd_T54 l0 x8_1).f0)) ∧ w'.cell? ⟨(ad418.add ((x8_1).toNat * 2)).block, (ad418.add ((x8_1).toNat * 2)).off + 1, none⟩ = some (.int .i64 ((rd_T54 l0 x8_1).f1)) ∧ w'.cell? (ad418.add (((ji9)).toNat * 2)) = some (.int .i64 ((rd_T54 l0 (ji9)).f0)) ∧ w'.cell? ⟨(ad418.add (((ji9)).toNat * 2)).block, (ad418.add (((ji9)).toNat * 2)).off + 1, none⟩ = some (.int .i64 ((rd_T54 l0 (ji9)).f1)) ∧ w'.cell? (ad418.add ((x8_1).toNat * 2)) = some (.int .i64 ((rd_T54 l0 x8_1).f0)) ∧ w'.cell? ⟨(ad418.add ((x8_1).toNat * 2)).block, (ad418.add ((x8_1).toNat * 2)).off + 1, none⟩ = some (.int .i64 ((rd_T54 l0 x8_1).f1)) ∧ w'.cell? (ad418.add (((ji9)).toNat * 2)) = some (.int .i64 ((rd_T54 l0 (ji9)).f0)) ∧ w'.cell? ⟨(ad418.add (((ji9)).toNat * 2)).block, (ad418.add (((ji9)).toNat * 2)).off + 1, none⟩ = some (.int .i64 ((rd_T54 l0 (ji9)).f1))) (ds := []) impl_FastestRise.mk0 (by kernel_rfl) rfl rfl ⟨(bc_ HB.out hw418_0), (bc_ HB.out hw418_1), (bc_ HB.out hw419_0), (bc_ HB.out hw419_1), (bc_ HB.out hw420_0), (bc_ HB.out hw420_1), (bc_ HB.out hw421_0), (bc_ HB.out hw421_1)⟩ (fun hHeld => ?_); refine with_tabW impl_FastestRise.tab7 impl_FastestRise.bits7 (fun HT_ HW_ => ?_); generalize wr.drew = w15 at BK417 HB hx418_0 hx418_1 hx419_0 hx419_1 hx420_0 hx420_1 hx421_0 hx421_1 hHeld ⊢; refine pz_ HT_ 0 (some 23) impl_FastestRise.mk1 ?_; refine pz_ HT_ 1 (some 24) impl_FastestRise.mk2 ?_; refine pz_ HT_ 2 (some 25) impl_FastestRise.mk3 ?_; refine pz_ HT_ 3 (some 26) impl_FastestRise.mk4 ?_; refine pz_ HT_ 5 (some 28) impl_FastestRise.mk5 ?_; refine pz_ HT_ 6 (some 29) impl_FastestRise.mk6 ?_; refine pz_ HT_ 7 (some 30) impl_FastestRise.mk7 ?_; refine pz_ HT_ 8 (some 31) impl_FastestRise.mk8 ?_; refine pz_ HT_ 9 (some 32) impl_FastestRise.mk9 ?_; refine pz_ HT_ 12 (some 35) impl_FastestRise.mk10 ?_; refine pz_ HT_ 13 (some 36) impl_FastestRise.mk11 ?_; refine pz_ HT_ 14 (some 37) impl_FastestRise.mk12 ?_; refine pz_ HT_ 15 (some 38) impl_FastestRise.mk13 ?_; refine pz_ HT_ 17 (some 40) impl_FastestRise.mk14 ?_; refine pz_ HT_ 18 (some 41) impl_FastestRise.mk15 ?_; refine pz_ HT_ 19 (some 42) impl_FastestRise.mk16 ?_; refine pz_ HT_ 20 (some 43) impl_FastestRise.mk17 ?_; refine pz_ HT_ 21 (some 44) impl_FastestRise.mk18 ?_; refine tk_ HT_ HW_ hHeld 4 (some 27) impl_FastestRise.mk19 ?_; refine tk_ HT_ HW_ hHeld 10 (some 33) impl_FastestRise.mk20 ?_; refine pz_ HT_ 11 (some 34) impl_FastestRise.mk21 ?_; refine tk_ HT_ HW_ hHeld 16 (some 39) impl_FastestRise.mk22 ?_; refine tk_ HT_ HW_ hHeld 22 (some 45) impl_FastestRise.mk23 ?_; refine pz_ HT_ 23 (some 46) impl_FastestRise.mk24 ?_; refine one_ (i := 24) (N := some 47) impl_FastestRise.mk25 rfl rfl (one_of HT_.out (by kernel_rfl)) (by decide) (fun K hK => ?_); refine goes_ Try.func71 (by kernel_rfl) rfl #[.int .i64 (wrap64 (((rd_T54 l0 x8_1).f1) - ((rd_T54 l0 (ji9)).f1))), .int .i64 (wrap64 (((rd_T54 l0 x8_1).f0) - ((rd_T54 l0 (ji9)).f0)))] (by rfl) rfl rfl (by (try simp only [List.map_toArray, List.map_cons, List.map_nil]); first | done | (simp only [hji9]; rfl) | rfl | (simp only [List.length_drop, List.length_take]; rfl)) ?_; (with_reducible refine (impl_reduced.calls k1 (wrap64 (((rd_T54 l0 x8_1).f1) - ((rd_T54 l0 (ji9)).f1))) (wrap64 (((rd_T54 l0 x8_1).f0) - ((rd_T54 l0 (ji9)).f0))) t422 t423 _ A12.out).mono ?_); rintro e w16 ⟨rfl, hb⟩; refine ⟨_, rfl, ?_⟩; replace BK417 := Aside0.mk (bb_ (bk_ BK417.out) hb); replace HB := Aside0.mk (below_step (lb1_ HB.out GE417.out) hb); (try clear hb); (try clear hb2); (try clear hk); (try clear hi); refine hK.out _ _ ⟨((HB.out.cell (World.block_lt_of_cell? w _ hw418_0)).trans hw418_0), ((HB.out.cell (World.block_lt_of_cell? w _ hw418_1)).trans hw418_1), ((HB.out.cell (World.block_lt_of_cell? w _ hw419_0)).trans hw419_0), ((HB.out.cell (World.block_lt_of_cell? w _ hw419_1)).trans hw419_1), ((HB.out.cell (World.block_lt_of_cell? w _ hw420_0)).trans hw420_0), ((HB.out.cell (World.block_lt_of_cell? w _ hw420_1)).trans hw420_1), ((HB.out.cell (World.block_lt_of_cell? w _ hw421_0)).trans hw421_0), ((HB.out.cell (World.block_lt_of_cell? w _ hw421_1)).trans hw421_1)⟩ (fun hHeld => ?_); clear hK K; refine na_ ?_; refine pz_ HT_ 25 (some 22) impl_FastestRise.mk26 ?_; refine pz_ HT_ 26 (some 48) impl_FastestRise.mk27 ?_; refine pz_ HT_ 27 (some 49) impl_FastestRise.mk28 ?_; refine pz_ HT_ 28 (some 9) impl_FastestRise.mk29 ?_; refine pz_ HT_ 29 (some 10) impl_FastestRise.mk30 ?_; refine done_ (done_of HT_.out (by kernel_rfl)) ?_
         try go_wp2_with (first | ((with_reducible refine gate_dst (N := 11) rfl ?_); refine box_event ?hg (N := 11) ?hd (cs := #[.int .i64 0, .int .i64 0]) (t := 94) ?hr ?_; (case hd => rfl); (case hg => rfl); (case hr => first | (go_simp; done) | (go_simp; rfl)); intro gb424 hg w17 hbox hb; have BK424 := Aside0.mk (hbox); have GW424 := Aside0.mk ((bz_ hg (lb1_ HB.out GE417.out))); have GE424 := Aside0.mk ((bz_ hg (lb1_ HB.out GE417.out))); replace HB := Aside0.mk (below_step (lb1_ HB.out GE417.out) hb); have NB417_424 := Aside0.mk (nl_ hg BK417.out); have NB424_417 := Aside0.mk (ng_ hg BK417.out); replace BK417 := Aside0.mk (bb_ (bk_ BK417.out) hb); clear hb hbox hg; have hnb18 := NB424_417.out; have hnc18 := NB417_424.out; obtain ⟨hcz19_0, hcz19_1⟩ := cz2_ BK424.out; obtain ⟨hfz19_0, hfz19_1⟩ := fz2_ BK424.out; obtain ⟨hcz20_0, hcz20_1⟩ := cz2_ BK417.out; obtain ⟨hfz20_0, hfz20_1⟩ := fz2_ BK417.out) | ((with_reducible refine gate_callee (f := 72) rfl ?_); refine ga_ (some 55) Try.func72 #[.agg #[.int .i64 x418000_1, .int .i64 x418001_1], .agg #[.int .i64 t422, .int .i64 t423]] ?_; (with_reducible refine (impl_fraction_less.calls x418000_1 x418001_1 t422 t423 true _ A13.out).mono ?_); rintro e w21 ⟨rfl, hb⟩; refine ⟨_, rfl, ?_⟩; replace BK417 := Aside0.mk (blk_below (g := gb417) (o := .cells #[.int .i64 x418000_1, .int .i64 x418001_1] 94 (0, 0)) (by (with_reducible repeat (first | refine blk_drewN ?_ _ | refine blk_drew ?_ | refine blk_alloc ?_ _)); exact (f2_ BK417.out NB417_424.out _ _)) hb); replace BK424 := Aside0.mk (blk_below (g := gb424) (o := .cells #[.int .i64 t422, .int .i64 t423] 94 (0, 0)) (by (with_reducible repeat (first | refine blk_drewN ?_ _ | refine blk_drew ?_ | refine blk_alloc ?_ _)); exact (p2_ BK424.out _ _)) hb); replace HB := Aside0.mk (below_step (lb2_ HB.out GE417.out GE424.out) hb); (try clear hb); (try clear hb2); (try clear hk); (try clear hi)))
         replace BK417 := Aside0.mk (blk_drew BK417.out); replace BK424 := Aside0.mk (blk_drew BK424.out); replace HB := Aside0.mk (below_drew1 HB.out); refine start_ (n := 5) (S := fun w' => w'.cell? ⟨gb424, 0, none⟩ = some (.int .i64 t422) ∧ w'.cell? ⟨gb424, 1, none⟩ = some (.int .i64 t423)) (ds := []) #[false, false, false, false, false] (by kernel_rfl) rfl rfl ⟨(blk_cell BK424.out 0).trans rfl, (blk_cell BK424.out 1).trans rfl⟩ (fun hHeld => ?_); generalize w21.drew = w22 at BK417 BK424 HB hHeld ⊢; refine pure_ (i := 0) (N := some 56) (v := ?_) (a' := ?_) #[true, false, false, false, false] rfl rfl (by kernel_rfl) (fun _ _ _ h => h) (Or.inl ⟨by rfl, ?_⟩) ?_ ?_; rotate_left
         ·
          intro w'; go_simp; (with_reducible rfl)
         rotate_left
         ·
          simp only [Act.put, List.setIfInBounds_toArray, List.set_cons_zero, List.set_cons_succ, i64_w, i32_w]; rfl
         refine pure_ (i := 1) (N := some 57) (v := ?_) (a' := ?_) #[true, true, false, false, false] rfl rfl (by kernel_rfl) (fun _ _ _ h => h) (Or.inl ⟨by rfl, ?_⟩) ?_ ?_; rotate_left
         ·
          intro w'; go_simp; (with_reducible rfl)
         rotate_left
         ·
          simp only [Act.put, List.setIfInBounds_toArray, List.set_cons_zero, List.set_cons_succ, i64_w, i32_w]; rfl
         refine pure_ (i := 3) (N := some 6) (v := ?_) (a' := ?_) #[true, true, false, true, false] rfl rfl (by kernel_rfl) (fun _ _ _ h => h) (Or.inl ⟨by rfl, ?_⟩) ?_ ?_; rotate_left
         ·
          intro w'; go_simp; (with_reducible rfl)
         rotate_left
         ·
          simp only [Act.put, List.setIfInBounds_toArray, List.set_cons_zero, List.set_cons_succ, i64_w, i32_w]; rfl
         refine take_ (i := 2) (N := some 58) (v := ?_) (a' := ?_) #[true, true, true, true, false] rfl rfl (by kernel_rfl) (fun _ _ _ h => h) (Or.inl ⟨by rfl, ?_⟩) hHeld ?_ ?_; rotate_left
         ·
          rintro w' ⟨s0, s1⟩; go_simp; (with_reducible rfl)
         rotate_left
         ·
          simp only [Act.put, List.setIfInBounds_toArray, List.set_cons_zero, List.set_cons_succ, i64_w, i32_w]; rfl
         refine one_ (i := 4) (N := none) #[true, true, true, true, true] rfl rfl (by kernel_rfl) (by decide) (fun K hK => ?_); have hs23 : w22.cell? ⟨gb417, 0, none⟩ = some (.int .i64 x418000_1) := (blk_cell BK417.out 0).trans rfl; have hfs23 := blk_frozen BK417.out 0; have hns23_1 := NB424_417.out; have hms23_1 := NB417_424.out; have hs24 : w22.cell? ⟨gb417, 1, none⟩ = some (.int .i64 x418001_1) := (blk_cell BK417.out 1).trans rfl; have hfs24 := blk_frozen BK417.out 1; have hns24_1 := NB424_417.out; have hms24_1 := NB417_424.out; refine skip_ (w1 := ?_) (by rfl) rfl ?_ ?_; rotate_left
         ·
          go_simp; rfl
         refine hK.out _ _ ⟨((cell_far (p := ⟨gb417, _, none⟩) NB424_417.out _).trans (((cell_far (p := ⟨gb417, _, none⟩) NB424_417.out _).trans (hHeld.1)))), ((cell_far (p := ⟨gb417, _, none⟩) NB424_417.out _).trans (((cell_far (p := ⟨gb417, _, none⟩) NB424_417.out _).trans (hHeld.2))))⟩ (fun hHeld => ?_); clear hK K; refine done_ (by kernel_rfl) ?_
         try go_wp2
         go_roundg k1
         case measure => have := HK1.out; omega
         case rel => exact ⟨(ji9), (wrap64 (x8_1 + 1)), (t422), (t423), (by first | rfl | (simp; done) | (simp only [← hji9] <;> (first | rfl | simp)) | (simp [*]; done)), (by first | rfl | (simp; done) | (simp [*]; done)), H', ⟨by have := HK1.out; omega⟩, ⟨by (with_reducible repeat (first | refine blk_drewN ?_ _ | refine blk_drew ?_ | refine blk_alloc ?_ _)); exact (p2_ BK417.out _ _)⟩, ⟨lb2_ HB.out GE417.out GE424.out⟩⟩
        ·
         replace c14 := Bool.eq_false_iff.mpr c14; subst c14
         have H1 : (impl_FastestRise.l0 k1 l0 x6_1 (wrap64 (x8_1 + 1)) x418000_1 x418001_1) = some (r1, r2, r3, r4) := by rw [if_neg (show ¬ (false = true) by decide)] at H; exact H
         clear H; have H := H1; clear H1; have H' := Aside0.mk H; clear H
         try go_wp2
         replace BK417 := Aside0.mk (blk_drew BK417.out); replace HB := Aside0.mk (below_drew1 HB.out); have p418 : 0 ≤ (x8_1 : Int) := dt_; have q418 : x8_1 < (l0.length : Int) := dt_; obtain ⟨ad418, e418, hx418_0, hx418_1⟩ := at_T54 HR0.out x8_1 p418 q418; have hw418_1 := hx418_1; have hw418_0 := hx418_0
         cases e418
         replace hx418_0 := bc_ HB.out hx418_0; replace hx418_1 := bc_ HB.out hx418_1; replace p418 := eq_true p418; replace q418 := eq_true q418; have p419 : 0 ≤ ((ji9) : Int) := dt_; have q419 : (ji9) < (l0.length : Int) := dt_; obtain ⟨ad419, e419, hx419_0, hx419_1⟩ := at_T54 HR0.out (ji9) p419 q419; have hw419_1 := hx419_1; have hw419_0 := hx419_0
         obtain rfl : ad418 = ad419 := (by injection e419)
         replace hx419_0 := bc_ HB.out hx419_0; replace hx419_1 := bc_ HB.out hx419_1; replace p419 := eq_true p419; replace q419 := eq_true q419; have p420 : 0 ≤ (x8_1 : Int) := dt_; have q420 : x8_1 < (l0.length : Int) := dt_; obtain ⟨ad420, e420, hx420_0, hx420_1⟩ := at_T54 HR0.out x8_1 p420 q420; have hw420_1 := hx420_1; have hw420_0 := hx420_0
         obtain rfl : ad418 = ad420 := (by injection e420)
         replace hx420_0 := bc_ HB.out hx420_0; replace hx420_1 := bc_ HB.out hx420_1; replace p420 := eq_true p420; replace q420 := eq_true q420; have p421 : 0 ≤ ((ji9) : Int) := dt_; have q421 : (ji9) < (l0.length : Int) := dt_; obtain ⟨ad421, e421, hx421_0, hx421_1⟩ := at_T54 HR0.out (ji9) p421 q421; have hw421_1 := hx421_1; have hw421_0 := hx421_0
         obtain rfl : ad418 = ad421 := (by injection e421)
         replace hx421_0 := bc_ HB.out hx421_0; replace hx421_1 := bc_ HB.out hx421_1; replace p421 := eq_true p421; replace q421 := eq_true q421; refine start_ (n := 30) (S := fun w' => w'.cell? (ad418.add ((x8_1).toNat * 2)) = some (.int .i64 ((rd_T54 l0 x8_1).f0)) ∧ w'.cell? ⟨(ad418.add ((x8_1).toNat * 2)).block, (ad418.add ((x8_1).toNat * 2)).off + 1, none⟩ = some (.int .i64 ((rd_T54 l0 x8_1).f1)) ∧ w'.cell? (ad418.add (((ji9)).toNat * 2)) = some (.int .i64 ((rd_T54 l0 (ji9)).f0)) ∧ w'.cell? ⟨(ad418.add (((ji9)).toNat * 2)).block, (ad418.add (((ji9)).toNat * 2)).off + 1, none⟩ = some (.int .i64 ((rd_T54 l0 (ji9)).f1)) ∧ w'.cell? (ad418.add ((x8_1).toNat * 2)) = some (.int .i64 ((rd_T54 l0 x8_1).f0)) ∧ w'.cell? ⟨(ad418.add ((x8_1).toNat * 2)).block, (ad418.add ((x8_1).toNat * 2)).off + 1, none⟩ = some (.int .i64 ((rd_T54 l0 x8_1).f1)) ∧ w'.cell? (ad418.add (((ji9)).toNat * 2)) = some (.int .i64 ((rd_T54 l0 (ji9)).f0)) ∧ w'.cell? ⟨(ad418.add (((ji9)).toNat * 2)).block, (ad418.add (((ji9)).toNat * 2)).off + 1, none⟩ = some (.int .i64 ((rd_T54 l0 (ji9)).f1))) (ds := []) impl_FastestRise.mk0 (by kernel_rfl) rfl rfl ⟨(bc_ HB.out hw418_0), (bc_ HB.out hw418_1), (bc_ HB.out hw419_0), (bc_ HB.out hw419_1), (bc_ HB.out hw420_0), (bc_ HB.out hw420_1), (bc_ HB.out hw421_0), (bc_ HB.out hw421_1)⟩ (fun hHeld => ?_); refine with_tabW impl_FastestRise.tab7 impl_FastestRise.bits7 (fun HT_ HW_ => ?_); generalize wr.drew = w25 at BK417 HB hx418_0 hx418_1 hx419_0 hx419_1 hx420_0 hx420_1 hx421_0 hx421_1 hHeld ⊢; refine pz_ HT_ 0 (some 23) impl_FastestRise.mk1 ?_; refine pz_ HT_ 1 (some 24) impl_FastestRise.mk2 ?_; refine pz_ HT_ 2 (some 25) impl_FastestRise.mk3 ?_; refine pz_ HT_ 3 (some 26) impl_FastestRise.mk4 ?_; refine pz_ HT_ 5 (some 28) impl_FastestRise.mk5 ?_; refine pz_ HT_ 6 (some 29) impl_FastestRise.mk6 ?_; refine pz_ HT_ 7 (some 30) impl_FastestRise.mk7 ?_; refine pz_ HT_ 8 (some 31) impl_FastestRise.mk8 ?_; refine pz_ HT_ 9 (some 32) impl_FastestRise.mk9 ?_; refine pz_ HT_ 12 (some 35) impl_FastestRise.mk10 ?_; refine pz_ HT_ 13 (some 36) impl_FastestRise.mk11 ?_; refine pz_ HT_ 14 (some 37) impl_FastestRise.mk12 ?_; refine pz_ HT_ 15 (some 38) impl_FastestRise.mk13 ?_; refine pz_ HT_ 17 (some 40) impl_FastestRise.mk14 ?_; refine pz_ HT_ 18 (some 41) impl_FastestRise.mk15 ?_; refine pz_ HT_ 19 (some 42) impl_FastestRise.mk16 ?_; refine pz_ HT_ 20 (some 43) impl_FastestRise.mk17 ?_; refine pz_ HT_ 21 (some 44) impl_FastestRise.mk18 ?_; refine tk_ HT_ HW_ hHeld 4 (some 27) impl_FastestRise.mk19 ?_; refine tk_ HT_ HW_ hHeld 10 (some 33) impl_FastestRise.mk20 ?_; refine pz_ HT_ 11 (some 34) impl_FastestRise.mk21 ?_; refine tk_ HT_ HW_ hHeld 16 (some 39) impl_FastestRise.mk22 ?_; refine tk_ HT_ HW_ hHeld 22 (some 45) impl_FastestRise.mk23 ?_; refine pz_ HT_ 23 (some 46) impl_FastestRise.mk24 ?_; refine one_ (i := 24) (N := some 47) impl_FastestRise.mk25 rfl rfl (one_of HT_.out (by kernel_rfl)) (by decide) (fun K hK => ?_); refine goes_ Try.func71 (by kernel_rfl) rfl #[.int .i64 (wrap64 (((rd_T54 l0 x8_1).f1) - ((rd_T54 l0 (ji9)).f1))), .int .i64 (wrap64 (((rd_T54 l0 x8_1).f0) - ((rd_T54 l0 (ji9)).f0)))] (by rfl) rfl rfl (by (try simp only [List.map_toArray, List.map_cons, List.map_nil]); first | done | (simp only [hji9]; rfl) | rfl | (simp only [List.length_drop, List.length_take]; rfl)) ?_; (with_reducible refine (impl_reduced.calls k1 (wrap64 (((rd_T54 l0 x8_1).f1) - ((rd_T54 l0 (ji9)).f1))) (wrap64 (((rd_T54 l0 x8_1).f0) - ((rd_T54 l0 (ji9)).f0))) t422 t423 _ A12.out).mono ?_); rintro e w26 ⟨rfl, hb⟩; refine ⟨_, rfl, ?_⟩; replace BK417 := Aside0.mk (bb_ (bk_ BK417.out) hb); replace HB := Aside0.mk (below_step (lb1_ HB.out GE417.out) hb); (try clear hb); (try clear hb2); (try clear hk); (try clear hi); refine hK.out _ _ ⟨((HB.out.cell (World.block_lt_of_cell? w _ hw418_0)).trans hw418_0), ((HB.out.cell (World.block_lt_of_cell? w _ hw418_1)).trans hw418_1), ((HB.out.cell (World.block_lt_of_cell? w _ hw419_0)).trans hw419_0), ((HB.out.cell (World.block_lt_of_cell? w _ hw419_1)).trans hw419_1), ((HB.out.cell (World.block_lt_of_cell? w _ hw420_0)).trans hw420_0), ((HB.out.cell (World.block_lt_of_cell? w _ hw420_1)).trans hw420_1), ((HB.out.cell (World.block_lt_of_cell? w _ hw421_0)).trans hw421_0), ((HB.out.cell (World.block_lt_of_cell? w _ hw421_1)).trans hw421_1)⟩ (fun hHeld => ?_); clear hK K; refine na_ ?_; refine pz_ HT_ 25 (some 22) impl_FastestRise.mk26 ?_; refine pz_ HT_ 26 (some 48) impl_FastestRise.mk27 ?_; refine pz_ HT_ 27 (some 49) impl_FastestRise.mk28 ?_; refine pz_ HT_ 28 (some 9) impl_FastestRise.mk29 ?_; refine pz_ HT_ 29 (some 10) impl_FastestRise.mk30 ?_; refine done_ (done_of HT_.out (by kernel_rfl)) ?_
         try go_wp2_with (first | ((with_reducible refine gate_dst (N := 11) rfl ?_); refine box_event ?hg (N := 11) ?hd (cs := #[.int .i64 0, .int .i64 0]) (t := 94) ?hr ?_; (case hd => rfl); (case hg => rfl); (case hr => first | (go_simp; done) | (go_simp; rfl)); intro gb424 hg w27 hbox hb; have BK424 := Aside0.mk (hbox); have GW424 := Aside0.mk ((bz_ hg (lb1_ HB.out GE417.out))); have GE424 := Aside0.mk ((bz_ hg (lb1_ HB.out GE417.out))); replace HB := Aside0.mk (below_step (lb1_ HB.out GE417.out) hb); have NB417_424 := Aside0.mk (nl_ hg BK417.out); have NB424_417 := Aside0.mk (ng_ hg BK417.out); replace BK417 := Aside0.mk (bb_ (bk_ BK417.out) hb); clear hb hbox hg; have hnb28 := NB424_417.out; have hnc28 := NB417_424.out; obtain ⟨hcz29_0, hcz29_1⟩ := cz2_ BK424.out; obtain ⟨hfz29_0, hfz29_1⟩ := fz2_ BK424.out; obtain ⟨hcz30_0, hcz30_1⟩ := cz2_ BK417.out; obtain ⟨hfz30_0, hfz30_1⟩ := fz2_ BK417.out) | ((with_reducible refine gate_callee (f := 72) rfl ?_); refine ga_ (some 55) Try.func72 #[.agg #[.int .i64 x418000_1, .int .i64 x418001_1], .agg #[.int .i64 t422, .int .i64 t423]] ?_; (with_reducible refine (impl_fraction_less.calls x418000_1 x418001_1 t422 t423 false _ A13.out).mono ?_); rintro e w31 ⟨rfl, hb⟩; refine ⟨_, rfl, ?_⟩; replace BK417 := Aside0.mk (blk_below (g := gb417) (o := .cells #[.int .i64 x418000_1, .int .i64 x418001_1] 94 (0, 0)) (by (with_reducible repeat (first | refine blk_drewN ?_ _ | refine blk_drew ?_ | refine blk_alloc ?_ _)); exact (f2_ BK417.out NB417_424.out _ _)) hb); replace BK424 := Aside0.mk (blk_below (g := gb424) (o := .cells #[.int .i64 t422, .int .i64 t423] 94 (0, 0)) (by (with_reducible repeat (first | refine blk_drewN ?_ _ | refine blk_drew ?_ | refine blk_alloc ?_ _)); exact (p2_ BK424.out _ _)) hb); replace HB := Aside0.mk (below_step (lb2_ HB.out GE417.out GE424.out) hb); (try clear hb); (try clear hb2); (try clear hk); (try clear hi)))
         go_roundg k1
         case measure => have := HK1.out; omega
         case rel => exact ⟨(x6_1), (wrap64 (x8_1 + 1)), (x418000_1), (x418001_1), (by first | rfl | (simp; done) | (simp [*]; done)), (by first | rfl | (simp; done) | (simp [*]; done)), H', ⟨by have := HK1.out; omega⟩, ⟨bk_ BK417.out⟩, ⟨lb2_ HB.out GE417.out GE424.out⟩⟩
       ·
        rw [if_neg c11] at H
        exact absurd H (by simp)
      ·
       rw [if_neg c10] at H
       exact absurd H (by simp)
     ·
      rw [if_neg c8] at H
      exact absurd H (by simp)
    ·
     rw [if_neg c7] at H
     have c7b0 : decide (x8_1 < (l0.length : Int)) = false := decide_eq_false c7
     clear c7
     by_cases c32 : x6_1 < 0
     ·
      rw [if_pos c32] at H
      have c32b0 : decide (x6_1 < 0) = true := decide_eq_true c32
      clear c32
      simp only [Option.some.injEq, Prod.mk.injEq] at H
      obtain ⟨rfl, rfl, rfl, rfl⟩ := H
      go_wp2
      refine bodyPost_ret (results_list (rs := [.tmp 2, .tmp 3, .tmp 4, .tmp 5]) rfl (by simp) (.tmp (.tmp (.tmp (.tmp .nil))))) rfl ?_
      exact ⟨rr_, lb1_ HB.out GE417.out⟩
     ·
      rw [if_neg c32] at H
      have c32b0 : decide (x6_1 < 0) = false := decide_eq_false c32
      clear c32
      simp only [Option.some.injEq, Prod.mk.injEq] at H
      obtain ⟨rfl, rfl, rfl, rfl⟩ := H
      try go_wp2
      replace BK417 := Aside0.mk (blk_drew BK417.out)
      replace HB := Aside0.mk (below_drew1 HB.out)
      refine start_ (n := 9) (S := fun w' => w'.cell? ⟨gb417, 0, none⟩ = some (.int .i64 x418000_1) ∧ w'.cell? ⟨gb417, 1, none⟩ = some (.int .i64 x418001_1)) (ds := []) impl_FastestRise.mk31 (by kernel_rfl) rfl rfl ⟨(blk_cell BK417.out 0).trans rfl, (blk_cell BK417.out 1).trans rfl⟩ (fun hHeld => ?_); refine with_tabW impl_FastestRise.tab13 impl_FastestRise.bits13 (fun HT_ HW_ => ?_)
      generalize wr.drew = w33 at BK417 HB hHeld ⊢
      refine pz_ HT_ 0 (some 61) impl_FastestRise.mk32 ?_
      refine pz_ HT_ 1 (some 62) impl_FastestRise.mk33 ?_
      refine pz_ HT_ 3 (some 64) impl_FastestRise.mk34 ?_
      refine pz_ HT_ 5 (some 2) impl_FastestRise.mk35 ?_
      refine tk_ HT_ HW_ hHeld 2 (some 63) impl_FastestRise.mk36 ?_
      refine pz_ HT_ 6 (some 3) impl_FastestRise.mk37 ?_
      refine tk_ HT_ HW_ hHeld 4 (some 65) impl_FastestRise.mk38 ?_
      refine pz_ HT_ 7 (some 4) impl_FastestRise.mk39 ?_
      refine pz_ HT_ 8 (some 5) impl_FastestRise.mk40 ?_
      refine done_ (done_of HT_.out (by kernel_rfl)) ?_
      try go_wp2
      refine bodyPost_ret (results_list (rs := [.tmp 2, .tmp 3, .tmp 4, .tmp 5]) rfl (by simp) (.tmp (.tmp (.tmp (.tmp .nil))))) rfl ?_
      exact ⟨rr_, lb1_ HB.out GE417.out⟩
 ·
  replace c3 := Bool.eq_false_iff.mpr c3
  subst c3
  have H1 : (some (0, 0, 0, false)) = some (r1, r2, r3, r4) := by rw [if_neg (show ¬ (false = true) by decide)] at H; exact H
  clear H
  have H := H1
  clear H1
  simp only [Option.some.injEq, Prod.mk.injEq] at H
  obtain ⟨rfl, rfl, rfl, rfl⟩ := H
  go_enter Try.func32, Try.ntmps32
  go_wp2_with (first | ((with_reducible refine gate_callee (f := 34) rfl ?_); refine ga_ (some 13) Try.func34 #[.slice A0 l0.length c0] ?_; (with_reducible refine (impl_AreReadings.calls k _ _ l0 false _ ?side1 ?side2 A2.out).mono ?_); (case side1 => exact kc_ HR0.out); (case side2 => exact HC0.out); rintro e w34 ⟨rfl, hb⟩; refine ⟨_, rfl, ?_⟩; replace HB := Aside0.mk (below_step (lb0_ HB.out) hb); (try clear hb); (try clear hb2); (try clear hk); (try clear hi)))
  refine bodyPost_ret (results_list (rs := [.tmp 2, .tmp 3, .tmp 4, .tmp 5]) rfl (by simp) (.tmp (.tmp (.tmp (.tmp .nil))))) rfl ?_
  exact ⟨rr_, lb0_ HB.out⟩
def spec_FastestRise.l0 : Nat → List (S54) → Int → Int → Int → Int → Option (Int × Int × Int × Bool)
 | 0, _, _, _, _, _ => none
 | k + 1, x0, x6, x7, x8, x9 => if (wrap64 (x9 + 1)) < (x0.length : Int) then (if 0 ≤ (wrap64 (x9 + 1)) then (if 0 ≤ x9 then (if x9 < (x0.length : Int) then (if (wrap64 ((wrap64 (((rd_T54 x0 (wrap64 (x9 + 1))).f1) - ((rd_T54 x0 x9).f1))) * x8)) > (wrap64 (x7 * (wrap64 (((rd_T54 x0 (wrap64 (x9 + 1))).f0) - ((rd_T54 x0 x9).f0))))) then ((spec_l23Reduce.f k (wrap64 (((rd_T54 x0 (wrap64 (x9 + 1))).f1) - ((rd_T54 x0 x9).f1))) (wrap64 (((rd_T54 x0 (wrap64 (x9 + 1))).f0) - ((rd_T54 x0 x9).f0)))).bind fun bt431 => (spec_FastestRise.l0 k x0 x9 bt431.1 bt431.2 (wrap64 (x9 + 1)))) else (spec_FastestRise.l0 k x0 x6 x7 x8 (wrap64 (x9 + 1)))) else (none)) else (none)) else (none)) else (if x6 < 0 then (some (0, 0, 0, false)) else (some (x6, x7, x8, true)))
def spec_FastestRise.f (k : Nat) (l0 : List (S54)) : Option (Int × Int × Int × Bool) := (spec_l23Good.f k l0).bind fun t426 => (if t426 = true then (spec_FastestRise.l0 k l0 (-1) 0 1 0) else (if (-1) < 0 then (some (0, 0, 0, false)) else (some ((-1), 0, 1, true))))
set_option maxHeartbeats 8000000 in
set_option maxRecDepth 100000 in
theorem spec_FastestRise.calls (k : Nat) (A0 : Option Addr) (c0 : Nat) (l0 : List (S54)) (r1 : Int) (r2 : Int) (r3 : Int) (r4 : Bool) (w : World) (hr0 : Kd.C k54 w A0 l0.length l0) (hc0 : l0.length ≤ c0) (h : spec_FastestRise.f k l0 = some (r1, r2, r3, r4)) :
  Calls Try.prog 33 #[.slice A0 l0.length c0] w fun e w' => e = .returned (.tuple #[.int .i64 r1, .int .i64 r2, .int .i64 r3, .bool r4]) ∧ Below w.heap.size w w' := by
 have HR0 := Aside0.mk hr0
 have HC0 := Aside0.mk hc0
 clear hr0 hc0
 have HB := Aside0.mk (Below.refl w.heap.size w)
 have H : ((spec_l23Good.f k l0).bind fun t426 => (if t426 = true then (spec_FastestRise.l0 k l0 (-1) 0 1 0) else (if (-1) < 0 then (some (0, 0, 0, false)) else (some ((-1), 0, 1, true))))) = some (r1, r2, r3, r4) := h
 clear h
 replace H := Option.bind_eq_some_iff.mp H
 obtain ⟨t426, A20, H⟩ := H
 replace H : (if t426 = true then (spec_FastestRise.l0 k l0 (-1) 0 1 0) else (if (-1) < 0 then (some (0, 0, 0, false)) else (some ((-1), 0, 1, true)))) = some (r1, r2, r3, r4) := H
 have A2 := Aside0.mk A20
 clear A20
 by_cases c3 : t426 = true
 ·
  subst c3
  have H1 : (spec_FastestRise.l0 k l0 (-1) 0 1 0) = some (r1, r2, r3, r4) := by rw [if_pos rfl] at H; exact H
  clear H
  have H := H1
  clear H1
  have H' := Aside0.mk H
  clear H
  go_enter Try.func33, Try.ntmps33
  go_wp2_with (first | (go_at_call 62; (with_reducible refine (spec_l23Good.calls k _ _ l0 true _ ?side1 ?side2 A2.out).mono ?_); (case side1 => exact kc_ HR0.out); (case side2 => exact HC0.out); rintro e w4 ⟨rfl, hb⟩; replace HB := Aside0.mk (below_step (lb0_ HB.out) hb); (try clear hb); (try clear hb2); (try clear hk); (try clear hi)))
  repeat (go_quiet (first | (go_at_call 62; (with_reducible refine (spec_l23Good.calls k _ _ l0 true _ ?side1 ?side2 A2.out).mono ?_); (case side1 => exact kc_ HR0.out); (case side2 => exact HC0.out); rintro e w4 ⟨rfl, hb⟩; replace HB := Aside0.mk (below_step (lb0_ HB.out) hb); (try clear hb); (try clear hb2); (try clear hk); (try clear hi))); try go_wp2_with (first | (go_at_call 62; (with_reducible refine (spec_l23Good.calls k _ _ l0 true _ ?side1 ?side2 A2.out).mono ?_); (case side1 => exact kc_ HR0.out); (case side2 => exact HC0.out); rintro e w4 ⟨rfl, hb⟩; replace HB := Aside0.mk (below_step (lb0_ HB.out) hb); (try clear hb); (try clear hb2); (try clear hk); (try clear hi))))
  go_loopg [6, 7, 8, 9] k (fun kq v6 v7 v8 v9 w' => ∃ (x6_1 : Int) (x7_1 : Int) (x8_1 : Int) (x9_1 : Int), v6 = .int .i64 x6_1 ∧ v7 = .int .i64 x7_1 ∧ v8 = .int .i64 x8_1 ∧ v9 = .int .i64 x9_1 ∧ Aside0 (spec_FastestRise.l0 kq l0 x6_1 x7_1 x8_1 x9_1 = some (r1, r2, r3, r4)) ∧ Aside0 (kq ≤ k) ∧ Aside0 (Below w.heap.size w w'))
  case atStart => exact ⟨((-1)), (0), (1), (0), (by first | rfl | (simp; done) | (simp [*]; done)), (by first | rfl | (simp; done) | (simp [*]; done)), (by first | rfl | (simp; done) | (simp [*]; done)), (by first | rfl | (simp; done) | (simp [*]; done)), H', ⟨Nat.le_refl _⟩, ⟨lb0_ HB.out⟩⟩
  case round =>
   clear H'
   try clear p2
   try clear c3
   obtain ⟨x6_1, x7_1, x8_1, x9_1, rfl, rfl, rfl, rfl, HA, HK1, HB⟩ := hrel
   cases gk with
   | zero => exact absurd HA.out (by simp [spec_FastestRise.l0])
   | succ k1 =>
    have H := HA.out
    clear HA
    simp only [spec_FastestRise.l0] at H
    by_cases c5 : (wrap64 (x9_1 + 1)) < (l0.length : Int)
    ·
     rw [if_pos c5] at H
     have c5b0 : decide ((wrap64 (x9_1 + 1)) < (l0.length : Int)) = true := decide_eq_true c5
     clear c5
     obtain ⟨ji6, hji6⟩ : ∃ j_ : Int, (wrap64 (x9_1 + 1)) = j_ := ⟨_, rfl⟩
     replace H : (if 0 ≤ (ji6) then (if 0 ≤ x9_1 then (if x9_1 < (l0.length : Int) then (if (wrap64 ((wrap64 (((rd_T54 l0 (ji6)).f1) - ((rd_T54 l0 x9_1).f1))) * x8_1)) > (wrap64 (x7_1 * (wrap64 (((rd_T54 l0 (ji6)).f0) - ((rd_T54 l0 x9_1).f0))))) then ((spec_l23Reduce.f k1 (wrap64 (((rd_T54 l0 (ji6)).f1) - ((rd_T54 l0 x9_1).f1))) (wrap64 (((rd_T54 l0 (ji6)).f0) - ((rd_T54 l0 x9_1).f0)))).bind fun bt431 => (spec_FastestRise.l0 k1 l0 x9_1 bt431.1 bt431.2 ji6)) else (spec_FastestRise.l0 k1 l0 x6_1 x7_1 x8_1 ji6)) else (none)) else (none)) else (none)) = some (r1, r2, r3, r4) := by first | (rw [hji6] at H; exact H) | (simp only [hji6] at H ⊢; exact H)
     (try rw [hji6] at c5b0)
     have hji6w : (IntKind.i64.wrap (x9_1 + 1)) = ji6 := (i64_w _).trans hji6
     by_cases c7 : 0 ≤ (ji6)
     ·
      rw [if_pos c7] at H
      have c7b0 : decide (0 ≤ (ji6)) = true := decide_eq_true c7
      clear c7
      by_cases c8 : 0 ≤ x9_1
      ·
       rw [if_pos c8] at H
       have c8b0 : decide (0 ≤ x9_1) = true := decide_eq_true c8
       clear c8
       by_cases c9 : x9_1 < (l0.length : Int)
       ·
        rw [if_pos c9] at H
        have c9b0 : decide (x9_1 < (l0.length : Int)) = true := decide_eq_true c9; clear c9
        by_cases c10 : (wrap64 ((wrap64 (((rd_T54 l0 (ji6)).f1) - ((rd_T54 l0 x9_1).f1))) * x8_1)) > (wrap64 (x7_1 * (wrap64 (((rd_T54 l0 (ji6)).f0) - ((rd_T54 l0 x9_1).f0)))))
        ·
         rw [if_pos c10] at H
         have c10b0 : decide ((wrap64 (x7_1 * (wrap64 (((rd_T54 l0 (ji6)).f0) - ((rd_T54 l0 x9_1).f0))))) < (wrap64 ((wrap64 (((rd_T54 l0 (ji6)).f1) - ((rd_T54 l0 x9_1).f1))) * x8_1))) = true := decide_eq_true c10; clear c10; replace H := Option.bind_eq_some_iff.mp H; obtain ⟨⟨t431, t432⟩, A110, H⟩ := H; replace H : (spec_FastestRise.l0 k1 l0 x9_1 t431 t432 ji6) = some (r1, r2, r3, r4) := H; have A11 := Aside0.mk A110; clear A110; have H' := Aside0.mk H; clear H; have p427 : 0 ≤ ((ji6) : Int) := dt_; have q427 : (ji6) < (l0.length : Int) := dt_; obtain ⟨ad427, e427, hx427_0, hx427_1⟩ := at_T54 HR0.out (ji6) p427 q427
         cases e427
         replace hx427_0 := bc_ HB.out hx427_0; replace hx427_1 := bc_ HB.out hx427_1; replace p427 := eq_true p427; replace q427 := eq_true q427; have p428 : 0 ≤ (x9_1 : Int) := dt_; have q428 : x9_1 < (l0.length : Int) := dt_; obtain ⟨ad428, e428, hx428_0, hx428_1⟩ := at_T54 HR0.out x9_1 p428 q428
         obtain rfl : ad427 = ad428 := (by injection e428)
         replace hx428_0 := bc_ HB.out hx428_0; replace hx428_1 := bc_ HB.out hx428_1; replace p428 := eq_true p428; replace q428 := eq_true q428; have p429 : 0 ≤ ((ji6) : Int) := dt_; have q429 : (ji6) < (l0.length : Int) := dt_; obtain ⟨ad429, e429, hx429_0, hx429_1⟩ := at_T54 HR0.out (ji6) p429 q429
         obtain rfl : ad427 = ad429 := (by injection e429)
         replace hx429_0 := bc_ HB.out hx429_0; replace hx429_1 := bc_ HB.out hx429_1; replace p429 := eq_true p429; replace q429 := eq_true q429; have p430 : 0 ≤ (x9_1 : Int) := dt_; have q430 : x9_1 < (l0.length : Int) := dt_; obtain ⟨ad430, e430, hx430_0, hx430_1⟩ := at_T54 HR0.out x9_1 p430 q430
         obtain rfl : ad427 = ad430 := (by injection e430)
         replace hx430_0 := bc_ HB.out hx430_0; replace hx430_1 := bc_ HB.out hx430_1; replace p430 := eq_true p430; replace q430 := eq_true q430
         go_wp2_with (first | (go_at_call 73; (with_reducible refine (spec_l23Reduce.calls k1 (wrap64 (((rd_T54 l0 (ji6)).f1) - ((rd_T54 l0 x9_1).f1))) (wrap64 (((rd_T54 l0 (ji6)).f0) - ((rd_T54 l0 x9_1).f0))) t431 t432 _ A11.out).mono ?_); rintro e w' ⟨rfl, ⟨nd, rfl⟩⟩; (try first | exact ⟨rfl, _, World.drewN_drewN _ _ _⟩ | exact ⟨rfl, _, Eq.trans (World.drewN_drewN _ _ _) (congrArg (World.drewN _) (Nat.add_assoc _ _ _))⟩)))
         repeat (go_quiet (first | (go_at_call 73; (with_reducible refine (spec_l23Reduce.calls k1 (wrap64 (((rd_T54 l0 (ji6)).f1) - ((rd_T54 l0 x9_1).f1))) (wrap64 (((rd_T54 l0 (ji6)).f0) - ((rd_T54 l0 x9_1).f0))) t431 t432 _ A11.out).mono ?_); rintro e w' ⟨rfl, ⟨nd, rfl⟩⟩; (try first | exact ⟨rfl, _, World.drewN_drewN _ _ _⟩ | exact ⟨rfl, _, Eq.trans (World.drewN_drewN _ _ _) (congrArg (World.drewN _) (Nat.add_assoc _ _ _))⟩))); try go_wp2_with (first | (go_at_call 73; (with_reducible refine (spec_l23Reduce.calls k1 (wrap64 (((rd_T54 l0 (ji6)).f1) - ((rd_T54 l0 x9_1).f1))) (wrap64 (((rd_T54 l0 (ji6)).f0) - ((rd_T54 l0 x9_1).f0))) t431 t432 _ A11.out).mono ?_); rintro e w' ⟨rfl, ⟨nd, rfl⟩⟩; (try first | exact ⟨rfl, _, World.drewN_drewN _ _ _⟩ | exact ⟨rfl, _, Eq.trans (World.drewN_drewN _ _ _) (congrArg (World.drewN _) (Nat.add_assoc _ _ _))⟩))))
         go_roundg k1
         case measure => have := HK1.out; omega
         case rel => exact ⟨(x9_1), (t431), (t432), (ji6), (by first | rfl | (simp; done) | (simp [*]; done)), (by first | rfl | (simp; done) | (simp [*]; done)), (by first | rfl | (simp; done) | (simp [*]; done)), (by first | rfl | (simp; done) | (simp only [← hji6] <;> (first | rfl | simp)) | (simp [*]; done)), H', ⟨by have := HK1.out; omega⟩, ⟨lb0_ HB.out⟩⟩
        ·
         rw [if_neg c10] at H
         have c10b0 : decide ((wrap64 (x7_1 * (wrap64 (((rd_T54 l0 (ji6)).f0) - ((rd_T54 l0 x9_1).f0))))) < (wrap64 ((wrap64 (((rd_T54 l0 (ji6)).f1) - ((rd_T54 l0 x9_1).f1))) * x8_1))) = false := decide_eq_false c10; clear c10; have H' := Aside0.mk H; clear H; have p427 : 0 ≤ ((ji6) : Int) := dt_; have q427 : (ji6) < (l0.length : Int) := dt_; obtain ⟨ad427, e427, hx427_0, hx427_1⟩ := at_T54 HR0.out (ji6) p427 q427
         cases e427
         replace hx427_0 := bc_ HB.out hx427_0; replace hx427_1 := bc_ HB.out hx427_1; replace p427 := eq_true p427; replace q427 := eq_true q427; have p428 : 0 ≤ (x9_1 : Int) := dt_; have q428 : x9_1 < (l0.length : Int) := dt_; obtain ⟨ad428, e428, hx428_0, hx428_1⟩ := at_T54 HR0.out x9_1 p428 q428
         obtain rfl : ad427 = ad428 := (by injection e428)
         replace hx428_0 := bc_ HB.out hx428_0; replace hx428_1 := bc_ HB.out hx428_1; replace p428 := eq_true p428; replace q428 := eq_true q428; have p429 : 0 ≤ ((ji6) : Int) := dt_; have q429 : (ji6) < (l0.length : Int) := dt_; obtain ⟨ad429, e429, hx429_0, hx429_1⟩ := at_T54 HR0.out (ji6) p429 q429
         obtain rfl : ad427 = ad429 := (by injection e429)
         replace hx429_0 := bc_ HB.out hx429_0; replace hx429_1 := bc_ HB.out hx429_1; replace p429 := eq_true p429; replace q429 := eq_true q429; have p430 : 0 ≤ (x9_1 : Int) := dt_; have q430 : x9_1 < (l0.length : Int) := dt_; obtain ⟨ad430, e430, hx430_0, hx430_1⟩ := at_T54 HR0.out x9_1 p430 q430
         obtain rfl : ad427 = ad430 := (by injection e430)
         replace hx430_0 := bc_ HB.out hx430_0; replace hx430_1 := bc_ HB.out hx430_1; replace p430 := eq_true p430; replace q430 := eq_true q430
         go_wp2
         repeat (go_quiet (fail); try go_wp2)
         go_roundg k1
         case measure => have := HK1.out; omega
         case rel => exact ⟨(x6_1), (x7_1), (x8_1), (ji6), (by first | rfl | (simp; done) | (simp [*]; done)), (by first | rfl | (simp; done) | (simp [*]; done)), (by first | rfl | (simp; done) | (simp [*]; done)), (by first | rfl | (simp; done) | (simp only [← hji6] <;> (first | rfl | simp)) | (simp [*]; done)), H', ⟨by have := HK1.out; omega⟩, ⟨lb0_ HB.out⟩⟩
       ·
        rw [if_neg c9] at H
        exact absurd H (by simp)
      ·
       rw [if_neg c8] at H
       exact absurd H (by simp)
     ·
      rw [if_neg c7] at H
      exact absurd H (by simp)
    ·
     rw [if_neg c5] at H
     have c5b0 : decide ((wrap64 (x9_1 + 1)) < (l0.length : Int)) = false := decide_eq_false c5
     clear c5
     by_cases c12 : x6_1 < 0
     ·
      rw [if_pos c12] at H
      have c12b0 : decide (x6_1 < 0) = true := decide_eq_true c12
      clear c12
      simp only [Option.some.injEq, Prod.mk.injEq] at H
      obtain ⟨rfl, rfl, rfl, rfl⟩ := H
      go_wp2
      repeat (go_quiet (fail); try go_wp2)
      refine bodyPost_ret (results_list (rs := [.tmp 2, .tmp 3, .tmp 4, .tmp 5]) rfl (by simp) (.tmp (.tmp (.tmp (.tmp .nil))))) rfl ?_
      exact ⟨rr_, lb0_ HB.out⟩
     ·
      rw [if_neg c12] at H
      have c12b0 : decide (x6_1 < 0) = false := decide_eq_false c12
      clear c12
      simp only [Option.some.injEq, Prod.mk.injEq] at H
      obtain ⟨rfl, rfl, rfl, rfl⟩ := H
      go_wp2
      repeat (go_quiet (fail); try go_wp2)
      refine bodyPost_ret (results_list (rs := [.tmp 2, .tmp 3, .tmp 4, .tmp 5]) rfl (by simp) (.tmp (.tmp (.tmp (.tmp .nil))))) rfl ?_
      exact ⟨rr_, lb0_ HB.out⟩
 ·
  replace c3 := Bool.eq_false_iff.mpr c3
  subst c3
  have H1 : (if (-1) < 0 then (some (0, 0, 0, false)) else (some ((-1), 0, 1, true))) = some (r1, r2, r3, r4) := by rw [if_neg (show ¬ (false = true) by decide)] at H; exact H
  clear H
  have H := H1
  clear H1
  by_cases c13 : (-1) < 0
  ·
   rw [if_pos c13] at H
   have c13b0 : decide ((-1) < 0) = true := decide_eq_true c13
   clear c13
   simp only [Option.some.injEq, Prod.mk.injEq] at H
   obtain ⟨rfl, rfl, rfl, rfl⟩ := H
   go_enter Try.func33, Try.ntmps33
   go_wp2_with (first | (go_at_call 62; (with_reducible refine (spec_l23Good.calls k _ _ l0 false _ ?side1 ?side2 A2.out).mono ?_); (case side1 => exact kc_ HR0.out); (case side2 => exact HC0.out); rintro e w14 ⟨rfl, hb⟩; replace HB := Aside0.mk (below_step (lb0_ HB.out) hb); (try clear hb); (try clear hb2); (try clear hk); (try clear hi)))
   repeat (go_quiet (first | (go_at_call 62; (with_reducible refine (spec_l23Good.calls k _ _ l0 false _ ?side1 ?side2 A2.out).mono ?_); (case side1 => exact kc_ HR0.out); (case side2 => exact HC0.out); rintro e w14 ⟨rfl, hb⟩; replace HB := Aside0.mk (below_step (lb0_ HB.out) hb); (try clear hb); (try clear hb2); (try clear hk); (try clear hi))); try go_wp2_with (first | (go_at_call 62; (with_reducible refine (spec_l23Good.calls k _ _ l0 false _ ?side1 ?side2 A2.out).mono ?_); (case side1 => exact kc_ HR0.out); (case side2 => exact HC0.out); rintro e w14 ⟨rfl, hb⟩; replace HB := Aside0.mk (below_step (lb0_ HB.out) hb); (try clear hb); (try clear hb2); (try clear hk); (try clear hi))))
   refine bodyPost_ret (results_list (rs := [.tmp 2, .tmp 3, .tmp 4, .tmp 5]) rfl (by simp) (.tmp (.tmp (.tmp (.tmp .nil))))) rfl ?_
   exact ⟨rr_, lb0_ HB.out⟩
  ·
   exact absurd (by decide) c13
def spec_AreReadings.f (k : Nat) (l0 : List (S54)) : Option (Bool) := (spec_l23Good.f k l0).bind fun t433 => (some t433)
set_option maxHeartbeats 8000000 in
set_option maxRecDepth 100000 in
theorem spec_AreReadings.calls (k : Nat) (A0 : Option Addr) (c0 : Nat) (l0 : List (S54)) (r : Bool) (w : World) (hr0 : Kd.C k54 w A0 l0.length l0) (hc0 : l0.length ≤ c0) (h : spec_AreReadings.f k l0 = some r) :
  Calls Try.prog 35 #[.slice A0 l0.length c0] w fun e w' => e = .returned (.bool r) ∧ Below w.heap.size w w' := by
 have HR0 := Aside0.mk hr0
 have HC0 := Aside0.mk hc0
 clear hr0 hc0
 have HB := Aside0.mk (Below.refl w.heap.size w)
 have H : ((spec_l23Good.f k l0).bind fun t433 => (some t433)) = some r := h
 clear h
 replace H := Option.bind_eq_some_iff.mp H
 obtain ⟨t433, A20, H⟩ := H
 replace H : (some t433) = some r := H
 have A2 := Aside0.mk A20
 clear A20
 obtain rfl := Option.some.inj H
 go_enter Try.func35, Try.ntmps35
 go_wp2_with (first | ((with_reducible refine gate_callee (f := 62) rfl ?_); refine ga_ (some 4) Try.func62 #[.slice A0 l0.length c0] ?_; (with_reducible refine (spec_l23Good.calls k _ _ l0 t433 _ ?side1 ?side2 A2.out).mono ?_); (case side1 => exact kc_ HR0.out); (case side2 => exact HC0.out); rintro e w3 ⟨rfl, hb⟩; refine ⟨_, rfl, ?_⟩; replace HB := Aside0.mk (below_step (lb0_ HB.out) hb); (try clear hb); (try clear hb2); (try clear hk); (try clear hi)))
 go_ret
 exact ⟨rr_, lb0_ HB.out⟩
end Go.Proofs.Ytojaeidabmfajaa.Pr

