/-
What is proved: parts of the law FnExactWalkAll: what the functions that it reaches compute, and the plain law.
Conditions: those of each theorem.
-/
import Derived.ChangeArms
import Derived.ChangeSlices
import Derived.Deep.Slices
import Derived.RowKit
import Derived.SizedLaws
import Derived.WideShapes
import Derived.Test.YthmjimboajmhmaaCFnExactWalkAll4
set_option maxHeartbeats 8000000
set_option maxRecDepth 100000
namespace Go.Proofs.Ythmjimboajmhmaa.Pr
open Go.RowKit Go.Proofs.YthmjimboajmhmaaW.PrintWords Go.Proofs.YthmjimboajmhmaaW.PrintLast Go.Proofs.YthmjimboajmhmaaW.PrintMore
attribute [local go_sem] max2_int min2_int max_two min_two max_three min_three max_four min_four   -- for this text's walks alone
set_option linter.unusedVariables false
set_option linter.unusedSimpArgs false
def laws_heldLegS.l0 : Nat → List (S37) → Int → Int → Option (Int)
 | 0, _, _, _ => none
 | k + 1, x0, x1, x5 => if x5 < (x0.length : Int) then (if 0 ≤ x5 then (if ((rd_T37 x0 x5).f0) = x1 then (if ((rd_T37 x0 x5).f1) = (wrap64 (x1 + 1)) then (if ((rd_T37 x0 x5).f2) = (wrap64 ((wrap64 (x1 + 1)) + 1)) then (if ((rd_T37 x0 x5).f3) = (wrap64 ((wrap64 ((wrap64 (x1 + 1)) + 1)) + 1)) then (if ((rd_T37 x0 x5).f4) = (wrap64 ((wrap64 ((wrap64 ((wrap64 (x1 + 1)) + 1)) + 1)) + 1)) then (laws_heldLegS.l0 k x0 (wrap64 ((wrap64 ((wrap64 ((wrap64 ((wrap64 (x1 + 1)) + 1)) + 1)) + 1)) + 1)) (wrap64 (x5 + 1))) else (some (-1))) else (some (-1))) else (some (-1))) else (some (-1))) else (some (-1))) else (none)) else (some x1)
def laws_heldLegS.f (k : Nat) (l0 : List (S37)) (a1 : Int) : Option (Int) := laws_heldLegS.l0 k l0 a1 0
theorem laws_heldLegS.calls (k : Nat) (A0 : Option Addr) (c0 : Nat) (l0 : List (S37)) (a1 : Int) (r : Int) (w : World) (hr0 : Kd.C k37 w A0 l0.length l0) (hc0 : l0.length ≤ c0) (h : laws_heldLegS.f k l0 a1 = some r) :
  Calls Try.prog 92 #[.slice A0 l0.length c0, .int .i64 a1] w fun e w' => e = .returned (.int .i64 r) ∧ Drawn0 w w' := by
 have HR0 := Aside0.mk hr0
 have HC0 := Aside0.mk hc0
 clear hr0 hc0
 have H : (laws_heldLegS.l0 k l0 a1 0) = some r := h
 clear h
 have H' := Aside0.mk H
 clear H
 go_enter Try.func92, Try.ntmps92
 go_wp2
 go_loopg [1, 5] k (fun kq v1 v5 w' => ∃ (x1_1 : Int) (x5_1 : Int), v1 = .int .i64 x1_1 ∧ v5 = .int .i64 x5_1 ∧ Aside0 (laws_heldLegS.l0 kq l0 x1_1 x5_1 = some r) ∧ Aside0 (kq ≤ k) ∧ Drawn0 w w')
 case atStart => exact ⟨(a1), (0), (by first | rfl | (simp; done) | (simp [*]; done)), (by first | rfl | (simp; done) | (simp [*]; done)), H', ⟨Nat.le_refl _⟩, by repeat (first | exact Drawn0.refl _ | apply Drawn0.step)⟩
 case round =>
  clear H'
  try clear p2
  obtain ⟨x1_1, x5_1, rfl, rfl, HA, HK1, ⟨m1, rfl⟩⟩ := hrel
  cases gk with
  | zero => exact absurd HA.out (by simp [laws_heldLegS.l0])
  | succ k1 =>
   have H := HA.out
   clear HA
   simp only [laws_heldLegS.l0] at H
   by_cases c3 : x5_1 < (l0.length : Int)
   ·
    rw [if_pos c3] at H
    have c3b0 : decide (x5_1 < (l0.length : Int)) = true := decide_eq_true c3
    clear c3
    by_cases c4 : 0 ≤ x5_1
    ·
     rw [if_pos c4] at H
     have c4b0 : decide (0 ≤ x5_1) = true := decide_eq_true c4
     clear c4
     by_cases c5 : ((rd_T37 l0 x5_1).f0) = x1_1
     ·
      rw [if_pos c5] at H
      have c5b0 : (((rd_T37 l0 x5_1).f0) == x1_1) = true := beq_iff_eq.mpr c5
      have c5b1 : (((rd_T37 l0 x5_1).f0) != x1_1) = false := bne_eq_false_iff_eq.mpr c5
      clear c5
      by_cases c6 : ((rd_T37 l0 x5_1).f1) = (wrap64 (x1_1 + 1))
      ·
       rw [if_pos c6] at H
       have c6b0 : (((rd_T37 l0 x5_1).f1) == (wrap64 (x1_1 + 1))) = true := beq_iff_eq.mpr c6
       have c6b1 : (((rd_T37 l0 x5_1).f1) != (wrap64 (x1_1 + 1))) = false := bne_eq_false_iff_eq.mpr c6
       clear c6
       by_cases c7 : ((rd_T37 l0 x5_1).f2) = (wrap64 ((wrap64 (x1_1 + 1)) + 1))
       ·
        rw [if_pos c7] at H
        have c7b0 : (((rd_T37 l0 x5_1).f2) == (wrap64 ((wrap64 (x1_1 + 1)) + 1))) = true := beq_iff_eq.mpr c7; have c7b1 : (((rd_T37 l0 x5_1).f2) != (wrap64 ((wrap64 (x1_1 + 1)) + 1))) = false := bne_eq_false_iff_eq.mpr c7; clear c7
        by_cases c8 : ((rd_T37 l0 x5_1).f3) = (wrap64 ((wrap64 ((wrap64 (x1_1 + 1)) + 1)) + 1))
        ·
         rw [if_pos c8] at H
         have c8b0 : (((rd_T37 l0 x5_1).f3) == (wrap64 ((wrap64 ((wrap64 (x1_1 + 1)) + 1)) + 1))) = true := beq_iff_eq.mpr c8; have c8b1 : (((rd_T37 l0 x5_1).f3) != (wrap64 ((wrap64 ((wrap64 (x1_1 + 1)) + 1)) + 1))) = false := bne_eq_false_iff_eq.mpr c8; clear c8
         by_cases c9 : ((rd_T37 l0 x5_1).f4) = (wrap64 ((wrap64 ((wrap64 ((wrap64 (x1_1 + 1)) + 1)) + 1)) + 1))
         ·
          rw [if_pos c9] at H
          have c9b0 : (((rd_T37 l0 x5_1).f4) == (wrap64 ((wrap64 ((wrap64 ((wrap64 (x1_1 + 1)) + 1)) + 1)) + 1))) = true := beq_iff_eq.mpr c9; have c9b1 : (((rd_T37 l0 x5_1).f4) != (wrap64 ((wrap64 ((wrap64 ((wrap64 (x1_1 + 1)) + 1)) + 1)) + 1))) = false := bne_eq_false_iff_eq.mpr c9; clear c9; have H' := Aside0.mk H; clear H; have p1123 : 0 ≤ (x5_1 : Int) := dt_; have q1123 : x5_1 < (l0.length : Int) := dt_; obtain ⟨ad1123, e1123, hx1123_0, hx1123_1, hx1123_2, hx1123_3, hx1123_4⟩ := at_T37 HR0.out x5_1 p1123 q1123
          cases e1123
          replace p1123 := eq_true p1123; replace q1123 := eq_true q1123; have p1124 : 0 ≤ (x5_1 : Int) := dt_; have q1124 : x5_1 < (l0.length : Int) := dt_; obtain ⟨ad1124, e1124, hx1124_0, hx1124_1, hx1124_2, hx1124_3, hx1124_4⟩ := at_T37 HR0.out x5_1 p1124 q1124
          obtain rfl : ad1123 = ad1124 := (by injection e1124)
          replace p1124 := eq_true p1124; replace q1124 := eq_true q1124; have p1125 : 0 ≤ (x5_1 : Int) := dt_; have q1125 : x5_1 < (l0.length : Int) := dt_; obtain ⟨ad1125, e1125, hx1125_0, hx1125_1, hx1125_2, hx1125_3, hx1125_4⟩ := at_T37 HR0.out x5_1 p1125 q1125
          obtain rfl : ad1123 = ad1125 := (by injection e1125)
          replace p1125 := eq_true p1125; replace q1125 := eq_true q1125; have p1126 : 0 ≤ (x5_1 : Int) := dt_; have q1126 : x5_1 < (l0.length : Int) := dt_; obtain ⟨ad1126, e1126, hx1126_0, hx1126_1, hx1126_2, hx1126_3, hx1126_4⟩ := at_T37 HR0.out x5_1 p1126 q1126
          obtain rfl : ad1123 = ad1126 := (by injection e1126)
          replace p1126 := eq_true p1126; replace q1126 := eq_true q1126; have p1127 : 0 ≤ (x5_1 : Int) := dt_; have q1127 : x5_1 < (l0.length : Int) := dt_; obtain ⟨ad1127, e1127, hx1127_0, hx1127_1, hx1127_2, hx1127_3, hx1127_4⟩ := at_T37 HR0.out x5_1 p1127 q1127
          obtain rfl : ad1123 = ad1127 := (by injection e1127)
          replace p1127 := eq_true p1127; replace q1127 := eq_true q1127
          go_wp2
          go_roundg k1
          case measure => have := HK1.out; omega
          case rel => exact ⟨(wrap64 ((wrap64 ((wrap64 ((wrap64 ((wrap64 (x1_1 + 1)) + 1)) + 1)) + 1)) + 1)), (wrap64 (x5_1 + 1)), (by first | rfl | (simp; done) | (simp [*]; done)), (by first | rfl | (simp; done) | (simp [*]; done)), H', ⟨by have := HK1.out; omega⟩, by repeat (first | exact Drawn0.refl _ | apply Drawn0.step)⟩
         ·
          rw [if_neg c9] at H
          have c9b0 : (((rd_T37 l0 x5_1).f4) == (wrap64 ((wrap64 ((wrap64 ((wrap64 (x1_1 + 1)) + 1)) + 1)) + 1))) = false := beq_eq_false_iff_ne.mpr c9; have c9b1 : (((rd_T37 l0 x5_1).f4) != (wrap64 ((wrap64 ((wrap64 ((wrap64 (x1_1 + 1)) + 1)) + 1)) + 1))) = true := bne_iff_ne.mpr c9; obtain rfl := Option.some.inj H; have p1123 : 0 ≤ (x5_1 : Int) := dt_; have q1123 : x5_1 < (l0.length : Int) := dt_; obtain ⟨ad1123, e1123, hx1123_0, hx1123_1, hx1123_2, hx1123_3, hx1123_4⟩ := at_T37 HR0.out x5_1 p1123 q1123
          cases e1123
          replace p1123 := eq_true p1123; replace q1123 := eq_true q1123; have p1124 : 0 ≤ (x5_1 : Int) := dt_; have q1124 : x5_1 < (l0.length : Int) := dt_; obtain ⟨ad1124, e1124, hx1124_0, hx1124_1, hx1124_2, hx1124_3, hx1124_4⟩ := at_T37 HR0.out x5_1 p1124 q1124
          obtain rfl : ad1123 = ad1124 := (by injection e1124)
          replace p1124 := eq_true p1124; replace q1124 := eq_true q1124; have p1125 : 0 ≤ (x5_1 : Int) := dt_; have q1125 : x5_1 < (l0.length : Int) := dt_; obtain ⟨ad1125, e1125, hx1125_0, hx1125_1, hx1125_2, hx1125_3, hx1125_4⟩ := at_T37 HR0.out x5_1 p1125 q1125
          obtain rfl : ad1123 = ad1125 := (by injection e1125)
          replace p1125 := eq_true p1125; replace q1125 := eq_true q1125; have p1126 : 0 ≤ (x5_1 : Int) := dt_; have q1126 : x5_1 < (l0.length : Int) := dt_; obtain ⟨ad1126, e1126, hx1126_0, hx1126_1, hx1126_2, hx1126_3, hx1126_4⟩ := at_T37 HR0.out x5_1 p1126 q1126
          obtain rfl : ad1123 = ad1126 := (by injection e1126)
          replace p1126 := eq_true p1126; replace q1126 := eq_true q1126; have p1127 : 0 ≤ (x5_1 : Int) := dt_; have q1127 : x5_1 < (l0.length : Int) := dt_; obtain ⟨ad1127, e1127, hx1127_0, hx1127_1, hx1127_2, hx1127_3, hx1127_4⟩ := at_T37 HR0.out x5_1 p1127 q1127
          obtain rfl : ad1123 = ad1127 := (by injection e1127)
          replace p1127 := eq_true p1127; replace q1127 := eq_true q1127
          go_wp2
          go_ret
          exact ⟨by first | rfl | (simp; done) | (simp [*]; done), by repeat (first | exact Drawn0.refl _ | apply Drawn0.step)⟩
        ·
         rw [if_neg c8] at H
         have c8b0 : (((rd_T37 l0 x5_1).f3) == (wrap64 ((wrap64 ((wrap64 (x1_1 + 1)) + 1)) + 1))) = false := beq_eq_false_iff_ne.mpr c8; have c8b1 : (((rd_T37 l0 x5_1).f3) != (wrap64 ((wrap64 ((wrap64 (x1_1 + 1)) + 1)) + 1))) = true := bne_iff_ne.mpr c8; obtain rfl := Option.some.inj H; have p1123 : 0 ≤ (x5_1 : Int) := dt_; have q1123 : x5_1 < (l0.length : Int) := dt_; obtain ⟨ad1123, e1123, hx1123_0, hx1123_1, hx1123_2, hx1123_3, hx1123_4⟩ := at_T37 HR0.out x5_1 p1123 q1123
         cases e1123
         replace p1123 := eq_true p1123; replace q1123 := eq_true q1123; have p1124 : 0 ≤ (x5_1 : Int) := dt_; have q1124 : x5_1 < (l0.length : Int) := dt_; obtain ⟨ad1124, e1124, hx1124_0, hx1124_1, hx1124_2, hx1124_3, hx1124_4⟩ := at_T37 HR0.out x5_1 p1124 q1124
         obtain rfl : ad1123 = ad1124 := (by injection e1124)
         replace p1124 := eq_true p1124; replace q1124 := eq_true q1124; have p1125 : 0 ≤ (x5_1 : Int) := dt_; have q1125 : x5_1 < (l0.length : Int) := dt_; obtain ⟨ad1125, e1125, hx1125_0, hx1125_1, hx1125_2, hx1125_3, hx1125_4⟩ := at_T37 HR0.out x5_1 p1125 q1125
         obtain rfl : ad1123 = ad1125 := (by injection e1125)
         replace p1125 := eq_true p1125; replace q1125 := eq_true q1125; have p1126 : 0 ≤ (x5_1 : Int) := dt_; have q1126 : x5_1 < (l0.length : Int) := dt_; obtain ⟨ad1126, e1126, hx1126_0, hx1126_1, hx1126_2, hx1126_3, hx1126_4⟩ := at_T37 HR0.out x5_1 p1126 q1126
         obtain rfl : ad1123 = ad1126 := (by injection e1126)
         replace p1126 := eq_true p1126; replace q1126 := eq_true q1126
         go_wp2
         go_ret
         exact ⟨by first | rfl | (simp; done) | (simp [*]; done), by repeat (first | exact Drawn0.refl _ | apply Drawn0.step)⟩
       ·
        rw [if_neg c7] at H
        have c7b0 : (((rd_T37 l0 x5_1).f2) == (wrap64 ((wrap64 (x1_1 + 1)) + 1))) = false := beq_eq_false_iff_ne.mpr c7; have c7b1 : (((rd_T37 l0 x5_1).f2) != (wrap64 ((wrap64 (x1_1 + 1)) + 1))) = true := bne_iff_ne.mpr c7; obtain rfl := Option.some.inj H; have p1123 : 0 ≤ (x5_1 : Int) := dt_; have q1123 : x5_1 < (l0.length : Int) := dt_; obtain ⟨ad1123, e1123, hx1123_0, hx1123_1, hx1123_2, hx1123_3, hx1123_4⟩ := at_T37 HR0.out x5_1 p1123 q1123
        cases e1123
        replace p1123 := eq_true p1123; replace q1123 := eq_true q1123; have p1124 : 0 ≤ (x5_1 : Int) := dt_; have q1124 : x5_1 < (l0.length : Int) := dt_; obtain ⟨ad1124, e1124, hx1124_0, hx1124_1, hx1124_2, hx1124_3, hx1124_4⟩ := at_T37 HR0.out x5_1 p1124 q1124
        obtain rfl : ad1123 = ad1124 := (by injection e1124)
        replace p1124 := eq_true p1124; replace q1124 := eq_true q1124; have p1125 : 0 ≤ (x5_1 : Int) := dt_; have q1125 : x5_1 < (l0.length : Int) := dt_; obtain ⟨ad1125, e1125, hx1125_0, hx1125_1, hx1125_2, hx1125_3, hx1125_4⟩ := at_T37 HR0.out x5_1 p1125 q1125
        obtain rfl : ad1123 = ad1125 := (by injection e1125)
        replace p1125 := eq_true p1125; replace q1125 := eq_true q1125
        go_wp2
        go_ret
        exact ⟨by first | rfl | (simp; done) | (simp [*]; done), by repeat (first | exact Drawn0.refl _ | apply Drawn0.step)⟩
      ·
       rw [if_neg c6] at H
       have c6b0 : (((rd_T37 l0 x5_1).f1) == (wrap64 (x1_1 + 1))) = false := beq_eq_false_iff_ne.mpr c6
       have c6b1 : (((rd_T37 l0 x5_1).f1) != (wrap64 (x1_1 + 1))) = true := bne_iff_ne.mpr c6
       obtain rfl := Option.some.inj H
       have p1123 : 0 ≤ (x5_1 : Int) := dt_
       have q1123 : x5_1 < (l0.length : Int) := dt_
       obtain ⟨ad1123, e1123, hx1123_0, hx1123_1, hx1123_2, hx1123_3, hx1123_4⟩ := at_T37 HR0.out x5_1 p1123 q1123
       cases e1123
       replace p1123 := eq_true p1123
       replace q1123 := eq_true q1123
       have p1124 : 0 ≤ (x5_1 : Int) := dt_
       have q1124 : x5_1 < (l0.length : Int) := dt_
       obtain ⟨ad1124, e1124, hx1124_0, hx1124_1, hx1124_2, hx1124_3, hx1124_4⟩ := at_T37 HR0.out x5_1 p1124 q1124
       obtain rfl : ad1123 = ad1124 := (by injection e1124)
       replace p1124 := eq_true p1124
       replace q1124 := eq_true q1124
       go_wp2
       go_ret
       exact ⟨by first | rfl | (simp; done) | (simp [*]; done), by repeat (first | exact Drawn0.refl _ | apply Drawn0.step)⟩
     ·
      rw [if_neg c5] at H
      have c5b0 : (((rd_T37 l0 x5_1).f0) == x1_1) = false := beq_eq_false_iff_ne.mpr c5
      have c5b1 : (((rd_T37 l0 x5_1).f0) != x1_1) = true := bne_iff_ne.mpr c5
      obtain rfl := Option.some.inj H
      have p1123 : 0 ≤ (x5_1 : Int) := dt_
      have q1123 : x5_1 < (l0.length : Int) := dt_
      obtain ⟨ad1123, e1123, hx1123_0, hx1123_1, hx1123_2, hx1123_3, hx1123_4⟩ := at_T37 HR0.out x5_1 p1123 q1123
      cases e1123
      replace p1123 := eq_true p1123
      replace q1123 := eq_true q1123
      go_wp2
      go_ret
      exact ⟨by first | rfl | (simp; done) | (simp [*]; done), by repeat (first | exact Drawn0.refl _ | apply Drawn0.step)⟩
    ·
     rw [if_neg c4] at H
     exact absurd H (by simp)
   ·
    rw [if_neg c3] at H
    have c3b0 : decide (x5_1 < (l0.length : Int)) = false := decide_eq_false c3
    clear c3
    obtain rfl := Option.some.inj H
    go_wp2
    go_ret
    exact ⟨by first | rfl | (simp; done) | (simp [*]; done), by repeat (first | exact Drawn0.refl _ | apply Drawn0.step)⟩
def laws_heldBoolS.l0 : Nat → List Bool → Int → Int → Option (Int)
 | 0, _, _, _ => none
 | k + 1, x0, x1, x5 => if x5 < (x0.length : Int) then (if 0 ≤ x5 then (if ((rdOf false x0 x5) != ((Int.tmod x1 3) == 0)) = true then (some (-1)) else (laws_heldBoolS.l0 k x0 (wrap64 (x1 + 1)) (wrap64 (x5 + 1)))) else (none)) else (some x1)
def laws_heldBoolS.f (k : Nat) (l0 : List Bool) (a1 : Int) : Option (Int) := laws_heldBoolS.l0 k l0 a1 0
theorem laws_heldBoolS.calls (k : Nat) (A0 : Option Addr) (c0 : Nat) (l0 : List Bool) (a1 : Int) (r : Int) (w : World) (hr0 : Kd.C Kd.bool w A0 l0.length l0) (hc0 : l0.length ≤ c0) (h : laws_heldBoolS.f k l0 a1 = some r) :
  Calls Try.prog 93 #[.slice A0 l0.length c0, .int .i64 a1] w fun e w' => e = .returned (.int .i64 r) ∧ Drawn0 w w' := by
 have HR0 := Aside0.mk hr0
 have HC0 := Aside0.mk hc0
 clear hr0 hc0
 have H : (laws_heldBoolS.l0 k l0 a1 0) = some r := h
 clear h
 have H' := Aside0.mk H
 clear H
 go_enter Try.func93, Try.ntmps93
 go_wp2
 go_loopg [1, 5] k (fun kq v1 v5 w' => ∃ (x1_1 : Int) (x5_1 : Int), v1 = .int .i64 x1_1 ∧ v5 = .int .i64 x5_1 ∧ Aside0 (laws_heldBoolS.l0 kq l0 x1_1 x5_1 = some r) ∧ Aside0 (kq ≤ k) ∧ Drawn0 w w')
 case atStart => exact ⟨(a1), (0), (by first | rfl | (simp; done) | (simp [*]; done)), (by first | rfl | (simp; done) | (simp [*]; done)), H', ⟨Nat.le_refl _⟩, by repeat (first | exact Drawn0.refl _ | apply Drawn0.step)⟩
 case round =>
  clear H'
  try clear p2
  obtain ⟨x1_1, x5_1, rfl, rfl, HA, HK1, ⟨m1, rfl⟩⟩ := hrel
  cases gk with
  | zero => exact absurd HA.out (by simp [laws_heldBoolS.l0])
  | succ k1 =>
   have H := HA.out
   clear HA
   simp only [laws_heldBoolS.l0] at H
   by_cases c3 : x5_1 < (l0.length : Int)
   ·
    rw [if_pos c3] at H
    have c3b0 : decide (x5_1 < (l0.length : Int)) = true := decide_eq_true c3
    clear c3
    by_cases c4 : 0 ≤ x5_1
    ·
     rw [if_pos c4] at H
     have c4b0 : decide (0 ≤ x5_1) = true := decide_eq_true c4
     clear c4
     by_cases c5 : ((rdOf false l0 x5_1) != ((Int.tmod x1_1 3) == 0)) = true
     ·
      rw [if_pos c5] at H
      have c5b0 : ((rdOf false l0 x5_1) != ((Int.tmod x1_1 3) == 0)) = true := c5
      (try (have c5b1 : decide ((rdOf false l0 x5_1) = ((Int.tmod x1_1 3) == 0)) = false := by simpa using c5))
      (try (have c5b2 : ((rdOf false l0 x5_1) == ((Int.tmod x1_1 3) == 0)) = false := by simpa using c5))
      (try (have c5b3 : ¬ ((rdOf false l0 x5_1) = ((Int.tmod x1_1 3) == 0)) := by simpa using c5))
      clear c5
      obtain rfl := Option.some.inj H
      have p1128 : 0 ≤ (x5_1 : Int) := dt_
      have q1128 : x5_1 < (l0.length : Int) := dt_
      obtain ⟨ad1128, e1128, hx1128_0⟩ := Kd.at_bool HR0.out x5_1 p1128 q1128
      cases e1128
      replace p1128 := eq_true p1128
      replace q1128 := eq_true q1128
      go_wp2
      go_ret
      exact ⟨by first | rfl | (simp; done) | (simp [*]; done), by repeat (first | exact Drawn0.refl _ | apply Drawn0.step)⟩
     ·
      rw [if_neg c5] at H
      have c5b0 : ((rdOf false l0 x5_1) != ((Int.tmod x1_1 3) == 0)) = false := by simpa using c5
      (try (have c5b1 : decide ((rdOf false l0 x5_1) = ((Int.tmod x1_1 3) == 0)) = true := by simpa using c5))
      (try (have c5b2 : ((rdOf false l0 x5_1) == ((Int.tmod x1_1 3) == 0)) = true := by simpa using c5))
      clear c5
      have H' := Aside0.mk H
      clear H
      have p1128 : 0 ≤ (x5_1 : Int) := dt_
      have q1128 : x5_1 < (l0.length : Int) := dt_
      obtain ⟨ad1128, e1128, hx1128_0⟩ := Kd.at_bool HR0.out x5_1 p1128 q1128
      cases e1128
      replace p1128 := eq_true p1128
      replace q1128 := eq_true q1128
      go_wp2
      go_roundg k1
      case measure => have := HK1.out; omega
      case rel => exact ⟨(wrap64 (x1_1 + 1)), (wrap64 (x5_1 + 1)), (by first | rfl | (simp; done) | (simp [*]; done)), (by first | rfl | (simp; done) | (simp [*]; done)), H', ⟨by have := HK1.out; omega⟩, by repeat (first | exact Drawn0.refl _ | apply Drawn0.step)⟩
    ·
     rw [if_neg c4] at H
     exact absurd H (by simp)
   ·
    rw [if_neg c3] at H
    have c3b0 : decide (x5_1 < (l0.length : Int)) = false := decide_eq_false c3
    clear c3
    obtain rfl := Option.some.inj H
    go_wp2
    go_ret
    exact ⟨by first | rfl | (simp; done) | (simp [*]; done), by repeat (first | exact Drawn0.refl _ | apply Drawn0.step)⟩
def laws_heldExploration.f (k : Nat) (l0_0 : List (S37)) (l0_1 : List Bool) (l0_2 : List Bool) (a0_3 : Int) (a0_4 : Int) (a1 : Int) : Option (Int) := (laws_heldLegS.f k l0_0 a1).bind fun t1130 => (if t1130 < 0 then (some (-1)) else ((laws_heldBoolS.f k l0_1 t1130).bind fun t1131 => (if t1131 < 0 then (some (-1)) else ((laws_heldBoolS.f k l0_2 t1131).bind fun t1132 => (if t1132 < 0 then (some (-1)) else (some t1132))))))
theorem laws_heldExploration.calls (k : Nat) (A0_0 : Option Addr) (c0_0 : Nat) (l0_0 : List (S37)) (A0_1 : Option Addr) (c0_1 : Nat) (l0_1 : List Bool) (A0_2 : Option Addr) (c0_2 : Nat) (l0_2 : List Bool) (a0_3 : Int) (a0_4 : Int) (a1 : Int) (r : Int) (w : World) (hr0_0 : Kd.C k37 w A0_0 l0_0.length l0_0) (hc0_0 : l0_0.length ≤ c0_0) (hr0_1 : Kd.C Kd.bool w A0_1 l0_1.length l0_1) (hc0_1 : l0_1.length ≤ c0_1) (hr0_2 : Kd.C Kd.bool w A0_2 l0_2.length l0_2) (hc0_2 : l0_2.length ≤ c0_2) (h : laws_heldExploration.f k l0_0 l0_1 l0_2 a0_3 a0_4 a1 = some r) :
  Calls Try.prog 42 #[.agg #[.slice A0_0 l0_0.length c0_0, .slice A0_1 l0_1.length c0_1, .slice A0_2 l0_2.length c0_2, .int .i64 a0_3, .int .i64 a0_4], .int .i64 a1] w fun e w' => e = .returned (.int .i64 r) ∧ Below w.heap.size w w' := by
 have hu30 := Try.underlying30
 have HR0_0 := Aside0.mk hr0_0
 have HC0_0 := Aside0.mk hc0_0
 clear hr0_0 hc0_0
 have HR0_1 := Aside0.mk hr0_1
 have HC0_1 := Aside0.mk hc0_1
 clear hr0_1 hc0_1
 have HR0_2 := Aside0.mk hr0_2
 have HC0_2 := Aside0.mk hc0_2
 clear hr0_2 hc0_2
 have HB := Aside0.mk (Below.refl w.heap.size w)
 have H : ((laws_heldLegS.f k l0_0 a1).bind fun t1130 => (if t1130 < 0 then (some (-1)) else ((laws_heldBoolS.f k l0_1 t1130).bind fun t1131 => (if t1131 < 0 then (some (-1)) else ((laws_heldBoolS.f k l0_2 t1131).bind fun t1132 => (if t1132 < 0 then (some (-1)) else (some t1132))))))) = some r := h
 clear h
 replace H := Option.bind_eq_some_iff.mp H
 obtain ⟨t1130, A30, H⟩ := H
 replace H : (if t1130 < 0 then (some (-1)) else ((laws_heldBoolS.f k l0_1 t1130).bind fun t1131 => (if t1131 < 0 then (some (-1)) else ((laws_heldBoolS.f k l0_2 t1131).bind fun t1132 => (if t1132 < 0 then (some (-1)) else (some t1132)))))) = some r := H
 have A3 := Aside0.mk A30
 clear A30
 by_cases c4 : t1130 < 0
 ·
  rw [if_pos c4] at H
  have c4b0 : decide (t1130 < 0) = true := decide_eq_true c4
  clear c4
  obtain rfl := Option.some.inj H
  go_enter Try.func42, Try.ntmps42
  go_wp2_with (first | ((with_reducible refine gate_dst (N := 2) rfl ?_); refine box_event ?hg (N := 2) ?hd (cs := #[.slice A0_0 l0_0.length c0_0, .slice A0_1 l0_1.length c0_1, .slice A0_2 l0_2.length c0_2, .int .i64 a0_3, .int .i64 a0_4]) (t := 30) ?hr ?_; (case hd => rfl); (case hg => rfl); (case hr => first | (go_simp; done) | (go_simp; rfl)); intro gb1129 hg w5 hbox hb; have BK1129 := Aside0.mk (hbox); have GW1129 := Aside0.mk ((bz_ hg (lb0_ HB.out))); have GE1129 := Aside0.mk ((bz_ hg (lb0_ HB.out))); replace HB := Aside0.mk (below_step (lb0_ HB.out) hb); clear hb hbox hg; obtain ⟨hcz6_0, hcz6_1, hcz6_2, hcz6_3, hcz6_4⟩ := cz5_ BK1129.out; obtain ⟨hfz6_0, hfz6_1, hfz6_2, hfz6_3, hfz6_4⟩ := fz5_ BK1129.out) | ((with_reducible refine gate_callee (f := 92) rfl ?_); refine ga_ (some 8) Try.func92 #[.slice A0_0 l0_0.length c0_0, .int .i64 a1] ?_; (with_reducible refine (laws_heldLegS.calls k _ _ l0_0 a1 t1130 _ ?side1 ?side2 A3.out).mono ?_); (case side1 => exact kc_ (Kd.C_below HR0_0.out HB.out)); (case side2 => exact HC0_0.out); rintro e w' ⟨rfl, ⟨nd, rfl⟩⟩; refine ⟨_, rfl, ?_⟩))
  go_ret
  exact ⟨rr_, lb1_ HB.out GE1129.out⟩
 ·
  rw [if_neg c4] at H
  have c4b0 : decide (t1130 < 0) = false := decide_eq_false c4
  clear c4
  replace H := Option.bind_eq_some_iff.mp H
  obtain ⟨t1131, A70, H⟩ := H
  replace H : (if t1131 < 0 then (some (-1)) else ((laws_heldBoolS.f k l0_2 t1131).bind fun t1132 => (if t1132 < 0 then (some (-1)) else (some t1132)))) = some r := H
  have A7 := Aside0.mk A70
  clear A70
  by_cases c8 : t1131 < 0
  ·
   rw [if_pos c8] at H
   have c8b0 : decide (t1131 < 0) = true := decide_eq_true c8
   clear c8
   obtain rfl := Option.some.inj H
   go_enter Try.func42, Try.ntmps42
   go_wp2_with (first | ((with_reducible refine gate_dst (N := 2) rfl ?_); refine box_event ?hg (N := 2) ?hd (cs := #[.slice A0_0 l0_0.length c0_0, .slice A0_1 l0_1.length c0_1, .slice A0_2 l0_2.length c0_2, .int .i64 a0_3, .int .i64 a0_4]) (t := 30) ?hr ?_; (case hd => rfl); (case hg => rfl); (case hr => first | (go_simp; done) | (go_simp; rfl)); intro gb1129 hg w9 hbox hb; have BK1129 := Aside0.mk (hbox); have GW1129 := Aside0.mk ((bz_ hg (lb0_ HB.out))); have GE1129 := Aside0.mk ((bz_ hg (lb0_ HB.out))); replace HB := Aside0.mk (below_step (lb0_ HB.out) hb); clear hb hbox hg; obtain ⟨hcz10_0, hcz10_1, hcz10_2, hcz10_3, hcz10_4⟩ := cz5_ BK1129.out; obtain ⟨hfz10_0, hfz10_1, hfz10_2, hfz10_3, hfz10_4⟩ := fz5_ BK1129.out) | ((with_reducible refine gate_callee (f := 92) rfl ?_); refine ga_ (some 8) Try.func92 #[.slice A0_0 l0_0.length c0_0, .int .i64 a1] ?_; (with_reducible refine (laws_heldLegS.calls k _ _ l0_0 a1 t1130 _ ?side1 ?side2 A3.out).mono ?_); (case side1 => exact kc_ (Kd.C_below HR0_0.out HB.out)); (case side2 => exact HC0_0.out); rintro e w' ⟨rfl, ⟨nd, rfl⟩⟩; refine ⟨_, rfl, ?_⟩) | ((with_reducible refine gate_callee (f := 93) rfl ?_); refine ga_ (some 14) Try.func93 #[.slice A0_1 l0_1.length c0_1, .int .i64 t1130] ?_; (with_reducible refine (laws_heldBoolS.calls k _ _ l0_1 t1130 t1131 _ ?side1 ?side2 A7.out).mono ?_); (case side1 => exact kc_ (Kd.C_below HR0_1.out (lb1_ HB.out GE1129.out))); (case side2 => exact HC0_1.out); rintro e w' ⟨rfl, ⟨nd, rfl⟩⟩; refine ⟨_, rfl, ?_⟩))
   go_ret
   exact ⟨rr_, lb1_ HB.out GE1129.out⟩
  ·
   rw [if_neg c8] at H
   have c8b0 : decide (t1131 < 0) = false := decide_eq_false c8
   clear c8
   replace H := Option.bind_eq_some_iff.mp H
   obtain ⟨t1132, A110, H⟩ := H
   replace H : (if t1132 < 0 then (some (-1)) else (some t1132)) = some r := H
   have A11 := Aside0.mk A110
   clear A110
   by_cases c12 : t1132 < 0
   ·
    rw [if_pos c12] at H
    have c12b0 : decide (t1132 < 0) = true := decide_eq_true c12
    clear c12
    obtain rfl := Option.some.inj H
    go_enter Try.func42, Try.ntmps42
    go_wp2_with (first | ((with_reducible refine gate_dst (N := 2) rfl ?_); refine box_event ?hg (N := 2) ?hd (cs := #[.slice A0_0 l0_0.length c0_0, .slice A0_1 l0_1.length c0_1, .slice A0_2 l0_2.length c0_2, .int .i64 a0_3, .int .i64 a0_4]) (t := 30) ?hr ?_; (case hd => rfl); (case hg => rfl); (case hr => first | (go_simp; done) | (go_simp; rfl)); intro gb1129 hg w13 hbox hb; have BK1129 := Aside0.mk (hbox); have GW1129 := Aside0.mk ((bz_ hg (lb0_ HB.out))); have GE1129 := Aside0.mk ((bz_ hg (lb0_ HB.out))); replace HB := Aside0.mk (below_step (lb0_ HB.out) hb); clear hb hbox hg; obtain ⟨hcz14_0, hcz14_1, hcz14_2, hcz14_3, hcz14_4⟩ := cz5_ BK1129.out; obtain ⟨hfz14_0, hfz14_1, hfz14_2, hfz14_3, hfz14_4⟩ := fz5_ BK1129.out) | ((with_reducible refine gate_callee (f := 92) rfl ?_); refine ga_ (some 8) Try.func92 #[.slice A0_0 l0_0.length c0_0, .int .i64 a1] ?_; (with_reducible refine (laws_heldLegS.calls k _ _ l0_0 a1 t1130 _ ?side1 ?side2 A3.out).mono ?_); (case side1 => exact kc_ (Kd.C_below HR0_0.out HB.out)); (case side2 => exact HC0_0.out); rintro e w' ⟨rfl, ⟨nd, rfl⟩⟩; refine ⟨_, rfl, ?_⟩) | ((with_reducible refine gate_callee (f := 93) rfl ?_); refine ga_ (some 14) Try.func93 #[.slice A0_1 l0_1.length c0_1, .int .i64 t1130] ?_; (with_reducible refine (laws_heldBoolS.calls k _ _ l0_1 t1130 t1131 _ ?side1 ?side2 A7.out).mono ?_); (case side1 => exact kc_ (Kd.C_below HR0_1.out (lb1_ HB.out GE1129.out))); (case side2 => exact HC0_1.out); rintro e w' ⟨rfl, ⟨nd, rfl⟩⟩; refine ⟨_, rfl, ?_⟩) | ((with_reducible refine gate_callee (f := 93) rfl ?_); refine ga_ (some 20) Try.func93 #[.slice A0_2 l0_2.length c0_2, .int .i64 t1131] ?_; (with_reducible refine (laws_heldBoolS.calls k _ _ l0_2 t1131 t1132 _ ?side1 ?side2 A11.out).mono ?_); (case side1 => exact kc_ (Kd.C_below HR0_2.out (lb1_ HB.out GE1129.out))); (case side2 => exact HC0_2.out); rintro e w' ⟨rfl, ⟨nd, rfl⟩⟩; refine ⟨_, rfl, ?_⟩))
    go_ret
    exact ⟨rr_, lb1_ HB.out GE1129.out⟩
   ·
    rw [if_neg c12] at H
    have c12b0 : decide (t1132 < 0) = false := decide_eq_false c12
    clear c12
    obtain rfl := Option.some.inj H
    go_enter Try.func42, Try.ntmps42
    go_wp2_with (first | ((with_reducible refine gate_dst (N := 2) rfl ?_); refine box_event ?hg (N := 2) ?hd (cs := #[.slice A0_0 l0_0.length c0_0, .slice A0_1 l0_1.length c0_1, .slice A0_2 l0_2.length c0_2, .int .i64 a0_3, .int .i64 a0_4]) (t := 30) ?hr ?_; (case hd => rfl); (case hg => rfl); (case hr => first | (go_simp; done) | (go_simp; rfl)); intro gb1129 hg w15 hbox hb; have BK1129 := Aside0.mk (hbox); have GW1129 := Aside0.mk ((bz_ hg (lb0_ HB.out))); have GE1129 := Aside0.mk ((bz_ hg (lb0_ HB.out))); replace HB := Aside0.mk (below_step (lb0_ HB.out) hb); clear hb hbox hg; obtain ⟨hcz16_0, hcz16_1, hcz16_2, hcz16_3, hcz16_4⟩ := cz5_ BK1129.out; obtain ⟨hfz16_0, hfz16_1, hfz16_2, hfz16_3, hfz16_4⟩ := fz5_ BK1129.out) | ((with_reducible refine gate_callee (f := 92) rfl ?_); refine ga_ (some 8) Try.func92 #[.slice A0_0 l0_0.length c0_0, .int .i64 a1] ?_; (with_reducible refine (laws_heldLegS.calls k _ _ l0_0 a1 t1130 _ ?side1 ?side2 A3.out).mono ?_); (case side1 => exact kc_ (Kd.C_below HR0_0.out HB.out)); (case side2 => exact HC0_0.out); rintro e w' ⟨rfl, ⟨nd, rfl⟩⟩; refine ⟨_, rfl, ?_⟩) | ((with_reducible refine gate_callee (f := 93) rfl ?_); refine ga_ (some 14) Try.func93 #[.slice A0_1 l0_1.length c0_1, .int .i64 t1130] ?_; (with_reducible refine (laws_heldBoolS.calls k _ _ l0_1 t1130 t1131 _ ?side1 ?side2 A7.out).mono ?_); (case side1 => exact kc_ (Kd.C_below HR0_1.out (lb1_ HB.out GE1129.out))); (case side2 => exact HC0_1.out); rintro e w' ⟨rfl, ⟨nd, rfl⟩⟩; refine ⟨_, rfl, ?_⟩) | ((with_reducible refine gate_callee (f := 93) rfl ?_); refine ga_ (some 20) Try.func93 #[.slice A0_2 l0_2.length c0_2, .int .i64 t1131] ?_; (with_reducible refine (laws_heldBoolS.calls k _ _ l0_2 t1131 t1132 _ ?side1 ?side2 A11.out).mono ?_); (case side1 => exact kc_ (Kd.C_below HR0_2.out (lb1_ HB.out GE1129.out))); (case side2 => exact HC0_2.out); rintro e w' ⟨rfl, ⟨nd, rfl⟩⟩; refine ⟨_, rfl, ?_⟩))
    go_ret
    exact ⟨rr_, lb1_ HB.out GE1129.out⟩
def laws_szWalkS.f (l0 : List (S67)) (a1 : Int) : Option (Int) := if (wrap64 (a1 - (l0.length : Int))) < 0 then (some (-1)) else (some (wrap64 (a1 - (l0.length : Int))))
theorem laws_szWalkS.calls (A0 : Option Addr) (c0 : Nat) (l0 : List (S67)) (a1 : Int) (r : Int) (w : World) (hr0 : Kd.C k67 w A0 l0.length l0) (hc0 : l0.length ≤ c0) (h : laws_szWalkS.f l0 a1 = some r) :
  Calls Try.prog 51 #[.slice A0 l0.length c0, .int .i64 a1] w fun e w' => e = .returned (.int .i64 r) ∧ Drawn0 w w' := by
 have HR0 := Aside0.mk hr0
 have HC0 := Aside0.mk hc0
 clear hr0 hc0
 have H : (if (wrap64 (a1 - (l0.length : Int))) < 0 then (some (-1)) else (some (wrap64 (a1 - (l0.length : Int))))) = some r := h
 clear h
 by_cases c3 : (wrap64 (a1 - (l0.length : Int))) < 0
 ·
  rw [if_pos c3] at H
  have c3b0 : decide ((wrap64 (a1 - (l0.length : Int))) < 0) = true := decide_eq_true c3
  clear c3
  obtain rfl := Option.some.inj H
  go_enter Try.func51, Try.ntmps51
  go_wp2
  go_ret
  exact ⟨by first | rfl | (simp; done) | (simp [*]; done), by repeat (first | exact Drawn0.refl _ | apply Drawn0.step)⟩
 ·
  rw [if_neg c3] at H
  have c3b0 : decide ((wrap64 (a1 - (l0.length : Int))) < 0) = false := decide_eq_false c3
  clear c3
  obtain rfl := Option.some.inj H
  go_enter Try.func51, Try.ntmps51
  go_wp2
  go_ret
  exact ⟨by first | rfl | (simp; done) | (simp [*]; done), by repeat (first | exact Drawn0.refl _ | apply Drawn0.step)⟩
def laws_toWalk.f (a0_0 : Int) (a0_1 : Int) (a0_2 : Int) (a0_3 : Int) (a0_4 : Int) (a0_5 : Int) (a0_6 : Int) : Option (Int × Int × Int × Int × Int × Int × Int) := (laws_toLeg.f a0_2 a0_3 a0_4 a0_5 a0_6).bind fun bt1399 => (some (a0_0, a0_1, bt1399.1, bt1399.2.1, bt1399.2.2.1, bt1399.2.2.2.1, bt1399.2.2.2.2))
theorem laws_toWalk.calls (a0_0 : Int) (a0_1 : Int) (a0_2 : Int) (a0_3 : Int) (a0_4 : Int) (a0_5 : Int) (a0_6 : Int) (r1 : Int) (r2 : Int) (r3 : Int) (r4 : Int) (r5 : Int) (r6 : Int) (r7 : Int) (w : World) (h : laws_toWalk.f a0_0 a0_1 a0_2 a0_3 a0_4 a0_5 a0_6 = some (r1, r2, r3, r4, r5, r6, r7)) :
  Calls Try.prog 50 #[.agg #[.int .i64 a0_0, .int .i64 a0_1, .int .i64 a0_2, .int .i64 a0_3, .int .i64 a0_4, .int .i64 a0_5, .int .i64 a0_6]] w fun e w' => e = .returned (.agg #[.int .i64 r1, .int .i64 r2, .int .i64 r3, .int .i64 r4, .int .i64 r5, .int .i64 r6, .int .i64 r7]) ∧ Below w.heap.size w w' := by
 have hu67 := Try.underlying67
 have hu39 := Try.underlying39
 have hu65 := Try.underlying65
 have hu37 := Try.underlying37
 have HB := Aside0.mk (Below.refl w.heap.size w)
 have H : ((laws_toLeg.f a0_2 a0_3 a0_4 a0_5 a0_6).bind fun bt1399 => (some (a0_0, a0_1, bt1399.1, bt1399.2.1, bt1399.2.2.1, bt1399.2.2.2.1, bt1399.2.2.2.2))) = some (r1, r2, r3, r4, r5, r6, r7) := h
 clear h
 replace H := Option.bind_eq_some_iff.mp H
 obtain ⟨⟨t1399, t1400, t1401, t1402, t1403⟩, A20, H⟩ := H
 replace H : (some (a0_0, a0_1, t1399, t1400, t1401, t1402, t1403)) = some (r1, r2, r3, r4, r5, r6, r7) := H
 have A2 := Aside0.mk A20
 clear A20
 simp only [Option.some.injEq, Prod.mk.injEq] at H
 obtain ⟨rfl, rfl, rfl, rfl, rfl, rfl, rfl⟩ := H
 go_enter Try.func50, Try.ntmps50
 go_wp2_with (first | ((with_reducible refine gate_dst (N := 1) rfl ?_); refine box_event ?hg (N := 1) ?hd (cs := #[.int .i64 a0_0, .int .i64 a0_1, .int .i64 a0_2, .int .i64 a0_3, .int .i64 a0_4, .int .i64 a0_5, .int .i64 a0_6]) (t := 67) ?hr ?_; (case hd => rfl); (case hg => rfl); (case hr => first | (go_simp; done) | (go_simp; rfl)); intro gb1396 hg w3 hbox hb; have BK1396 := Aside0.mk (hbox); have GW1396 := Aside0.mk ((bz_ hg (lb0_ HB.out))); have GE1396 := Aside0.mk ((bz_ hg (lb0_ HB.out))); replace HB := Aside0.mk (below_step (lb0_ HB.out) hb); clear hb hbox hg) | ((with_reducible refine gate_dst (N := 2) rfl ?_); refine box_event ?hg (N := 2) ?hd (cs := #[.int .i64 0, .int .i64 0, .int .i64 0, .int .i64 0, .int .i64 0, .int .i64 0, .int .i64 0]) (t := 39) ?hr ?_; (case hd => rfl); (case hg => rfl); (case hr => first | (go_simp; done) | (go_simp; rfl)); intro gb1397 hg w4 hbox hb; have BK1397 := Aside0.mk (hbox); have GW1397 := Aside0.mk ((bz_ hg (lb1_ HB.out GE1396.out))); have GE1397 := Aside0.mk ((bz_ hg (lb1_ HB.out GE1396.out))); replace HB := Aside0.mk (below_step (lb1_ HB.out GE1396.out) hb); have NB1396_1397 := Aside0.mk (nl_ hg BK1396.out); have NB1397_1396 := Aside0.mk (ng_ hg BK1396.out); replace BK1396 := Aside0.mk (bb_ (bk_ BK1396.out) hb); clear hb hbox hg) | ((with_reducible refine gate_dst (N := 3) rfl ?_); refine box_event ?hg (N := 3) ?hd (cs := #[.int .i64 0, .int .i64 0, .int .i64 0, .int .i64 0, .int .i64 0, .int .i64 0, .int .i64 0]) (t := 39) ?hr ?_; (case hd => rfl); (case hg => rfl); (case hr => first | (go_simp; done) | (go_simp; rfl)); intro gb1398 hg w5 hbox hb; have BK1398 := Aside0.mk (hbox); have GW1398 := Aside0.mk ((bz_ hg (lb2_ HB.out GE1396.out GE1397.out))); have GE1398 := Aside0.mk ((bz_ hg (lb2_ HB.out GE1396.out GE1397.out))); replace HB := Aside0.mk (below_step (lb2_ HB.out GE1396.out GE1397.out) hb); have NB1396_1398 := Aside0.mk (nl_ hg BK1396.out); have NB1398_1396 := Aside0.mk (ng_ hg BK1396.out); replace BK1396 := Aside0.mk (bb_ (bk_ BK1396.out) hb); have NB1397_1398 := Aside0.mk (nl_ hg BK1397.out); have NB1398_1397 := Aside0.mk (ng_ hg BK1397.out); replace BK1397 := Aside0.mk (bb_ (bk_ BK1397.out) hb); clear hb hbox hg; have hnb6 := NB1396_1397.out; have hnc6 := NB1397_1396.out; have hnb7 := NB1396_1398.out; have hnc7 := NB1398_1396.out; obtain ⟨hcz8_0, hcz8_1, hcz8_2, hcz8_3, hcz8_4, hcz8_5, hcz8_6⟩ := cz7_ BK1396.out; obtain ⟨hfz8_0, hfz8_1, hfz8_2, hfz8_3, hfz8_4, hfz8_5, hfz8_6⟩ := fz7_ BK1396.out; have hnb9 := NB1398_1397.out; have hnc9 := NB1397_1398.out; obtain ⟨hcz10_0, hcz10_1, hcz10_2, hcz10_3, hcz10_4, hcz10_5, hcz10_6⟩ := cz7_ BK1398.out; obtain ⟨hfz10_0, hfz10_1, hfz10_2, hfz10_3, hfz10_4, hfz10_5, hfz10_6⟩ := fz7_ BK1398.out) | ((with_reducible refine gate_callee (f := 89) rfl ?_); refine ga_ (some 12) Try.func89 #[.agg #[.int .i64 a0_2, .int .i64 a0_3, .int .i64 a0_4, .int .i64 a0_5, .int .i64 a0_6]] ?_; (with_reducible refine (laws_toLeg.calls a0_2 a0_3 a0_4 a0_5 a0_6 t1399 t1400 t1401 t1402 t1403 _ A2.out).mono ?_); rintro e w11 ⟨rfl, hb⟩; refine ⟨_, rfl, ?_⟩; replace BK1396 := Aside0.mk (blk_below (g := gb1396) (o := .cells #[.int .i64 a0_0, .int .i64 a0_1, .int .i64 a0_2, .int .i64 a0_3, .int .i64 a0_4, .int .i64 a0_5, .int .i64 a0_6] 67 (0, 0)) (by (with_reducible repeat (first | refine blk_drewN ?_ _ | refine blk_drew ?_ | refine blk_alloc ?_ _)); exact (f2_ BK1396.out NB1396_1398.out _ _)) hb); replace BK1397 := Aside0.mk (blk_below (g := gb1397) (o := .cells #[.int .i64 0, .int .i64 0, .int .i64 0, .int .i64 0, .int .i64 0, .int .i64 0, .int .i64 0] 39 (0, 0)) (by (with_reducible repeat (first | refine blk_drewN ?_ _ | refine blk_drew ?_ | refine blk_alloc ?_ _)); exact (f2_ BK1397.out NB1397_1398.out _ _)) hb); replace BK1398 := Aside0.mk (blk_below (g := gb1398) (o := .cells #[.int .i64 a0_0, .int .i64 a0_1, .int .i64 0, .int .i64 0, .int .i64 0, .int .i64 0, .int .i64 0] 39 (0, 0)) (by (with_reducible repeat (first | refine blk_drewN ?_ _ | refine blk_drew ?_ | refine blk_alloc ?_ _)); refine blk_put (cs := #[.int .i64 a0_0, .int .i64 0, .int .i64 0, .int .i64 0, .int .i64 0, .int .i64 0, .int .i64 0]) ?_ 1 _ rfl; (with_reducible repeat (first | refine blk_drewN ?_ _ | refine blk_drew ?_ | refine blk_alloc ?_ _)); refine blk_put (cs := #[.int .i64 0, .int .i64 0, .int .i64 0, .int .i64 0, .int .i64 0, .int .i64 0, .int .i64 0]) ?_ 0 _ rfl; (with_reducible repeat (first | refine blk_drewN ?_ _ | refine blk_drew ?_ | refine blk_alloc ?_ _)); exact BK1398.out) hb); replace HB := Aside0.mk (below_step (lb3_ HB.out GE1396.out GE1397.out GE1398.out) hb); (try clear hb); (try clear hb2); (try clear hk); (try clear hi); obtain ⟨hcz12_0, hcz12_1, hcz12_2, hcz12_3, hcz12_4, hcz12_5, hcz12_6⟩ := cz7_ BK1398.out; obtain ⟨hfz12_0, hfz12_1, hfz12_2, hfz12_3, hfz12_4, hfz12_5, hfz12_6⟩ := fz7_ BK1398.out; obtain ⟨hcz13_0, hcz13_1, hcz13_2, hcz13_3, hcz13_4, hcz13_5, hcz13_6⟩ := cz7_ BK1397.out; obtain ⟨hfz13_0, hfz13_1, hfz13_2, hfz13_3, hfz13_4, hfz13_5, hfz13_6⟩ := fz7_ BK1397.out))
 refine bodyPost_ret (results_cell_row rfl _ _ gb1397 39 #[.int .i64 a0_0, .int .i64 a0_1, .int .i64 t1399, .int .i64 t1400, .int .i64 t1401, .int .i64 t1402, .int .i64 t1403] (0, 0) _ rfl (by (with_reducible repeat (first | refine blk_drewN ?_ _ | refine blk_drew ?_ | refine blk_alloc ?_ _)); refine blk_put (cs := #[.int .i64 a0_0, .int .i64 a0_1, .int .i64 t1399, .int .i64 t1400, .int .i64 t1401, .int .i64 t1402, .int .i64 0]) ?_ 6 _ rfl; (with_reducible repeat (first | refine blk_drewN ?_ _ | refine blk_drew ?_ | refine blk_alloc ?_ _)); refine blk_put (cs := #[.int .i64 a0_0, .int .i64 a0_1, .int .i64 t1399, .int .i64 t1400, .int .i64 t1401, .int .i64 0, .int .i64 0]) ?_ 5 _ rfl; (with_reducible repeat (first | refine blk_drewN ?_ _ | refine blk_drew ?_ | refine blk_alloc ?_ _)); refine blk_put (cs := #[.int .i64 a0_0, .int .i64 a0_1, .int .i64 t1399, .int .i64 t1400, .int .i64 0, .int .i64 0, .int .i64 0]) ?_ 4 _ rfl; (with_reducible repeat (first | refine blk_drewN ?_ _ | refine blk_drew ?_ | refine blk_alloc ?_ _)); refine blk_put (cs := #[.int .i64 a0_0, .int .i64 a0_1, .int .i64 t1399, .int .i64 0, .int .i64 0, .int .i64 0, .int .i64 0]) ?_ 3 _ rfl; (with_reducible repeat (first | refine blk_drewN ?_ _ | refine blk_drew ?_ | refine blk_alloc ?_ _)); refine blk_put (cs := #[.int .i64 a0_0, .int .i64 a0_1, .int .i64 0, .int .i64 0, .int .i64 0, .int .i64 0, .int .i64 0]) ?_ 2 _ rfl; (with_reducible repeat (first | refine blk_drewN ?_ _ | refine blk_drew ?_ | refine blk_alloc ?_ _)); refine blk_put (cs := #[.int .i64 a0_0, .int .i64 0, .int .i64 0, .int .i64 0, .int .i64 0, .int .i64 0, .int .i64 0]) ?_ 1 _ rfl; (with_reducible repeat (first | refine blk_drewN ?_ _ | refine blk_drew ?_ | refine blk_alloc ?_ _)); refine blk_put (cs := #[.int .i64 0, .int .i64 0, .int .i64 0, .int .i64 0, .int .i64 0, .int .i64 0, .int .i64 0]) ?_ 0 _ rfl; (with_reducible repeat (first | refine blk_drewN ?_ _ | refine blk_drew ?_ | refine blk_alloc ?_ _)); refine blk_far ?_ NB1397_1398.out _; (with_reducible repeat (first | refine blk_drewN ?_ _ | refine blk_drew ?_ | refine blk_alloc ?_ _)); refine blk_far ?_ NB1397_1398.out _; (with_reducible repeat (first | refine blk_drewN ?_ _ | refine blk_drew ?_ | refine blk_alloc ?_ _)); refine blk_far ?_ NB1397_1398.out _; (with_reducible repeat (first | refine blk_drewN ?_ _ | refine blk_drew ?_ | refine blk_alloc ?_ _)); refine blk_far ?_ NB1397_1398.out _; (with_reducible repeat (first | refine blk_drewN ?_ _ | refine blk_drew ?_ | refine blk_alloc ?_ _)); refine blk_far ?_ NB1397_1398.out _; (with_reducible repeat (first | refine blk_drewN ?_ _ | refine blk_drew ?_ | refine blk_alloc ?_ _)); exact BK1397.out) Try.underlying39 rfl (by kernel_rfl)) rfl ?_
 exact ⟨rr_, lb3_ HB.out GE1396.out GE1397.out GE1398.out⟩
def laws_toWalkS.l0 : Nat → List (S67) → List (S39) → Int → Option ((List (S39)))
 | 0, _, _, _ => none
 | k + 1, x0, x3, x4 => if x4 < (x0.length : Int) then (if 0 ≤ x4 then ((laws_toWalk.f ((rd_T67 x0 x4).f0) ((rd_T67 x0 x4).f1) ((rd_T67 x0 x4).f2.f0) ((rd_T67 x0 x4).f2.f1) ((rd_T67 x0 x4).f2.f2) ((rd_T67 x0 x4).f2.f3) ((rd_T67 x0 x4).f2.f4)).bind fun bt1408 => (if x4 < (x3.length : Int) then (laws_toWalkS.l0 k x0 (x3.set (x4 : Int).toNat (⟨bt1408.1, bt1408.2.1, (⟨bt1408.2.2.1, bt1408.2.2.2.1, bt1408.2.2.2.2.1, bt1408.2.2.2.2.2.1, bt1408.2.2.2.2.2.2⟩ : S37)⟩ : S39)) (wrap64 (x4 + 1))) else (none))) else (none)) else (some x3)
def laws_toWalkS.f (k : Nat) (l0 : List (S67)) : Option ((List (S39))) := if 0 ≤ (l0.length : Int) then (if ((l0.length : Int) : Int).toNat ≤ 5026338869833 then (laws_toWalkS.l0 k l0 (List.replicate ((l0.length : Int) : Int).toNat z39) 0) else (none)) else (none)
theorem laws_toWalkS.calls (k : Nat) (A0 : Option Addr) (c0 : Nat) (l0 : List (S67)) (r : List (S39)) (w : World) (hr0 : Kd.C k67 w A0 l0.length l0) (hc0 : l0.length ≤ c0) (h : laws_toWalkS.f k l0 = some r) :
  Calls Try.prog 52 #[.slice A0 l0.length c0] w fun e w' => ∃ v0_ : Value, e = .returned (v0_) ∧ Kd.R k39 39 w' w.heap.size (fun _ => True) v0_ r ∧ Below w.heap.size w w' := by
 have hu67 := Try.underlying67
 have hu39 := Try.underlying39
 have HR0 := Aside0.mk hr0
 have HC0 := Aside0.mk hc0
 clear hr0 hc0
 have HB := Aside0.mk (Below.refl w.heap.size w)
 have H : (if 0 ≤ (l0.length : Int) then (if ((l0.length : Int) : Int).toNat ≤ 5026338869833 then (laws_toWalkS.l0 k l0 (List.replicate ((l0.length : Int) : Int).toNat z39) 0) else (none)) else (none)) = some r := h
 clear h
 by_cases c2 : 0 ≤ (l0.length : Int)
 ·
  rw [if_pos c2] at H
  have c2b0 := eq_true c2
  have c2b1 : decide (0 ≤ (l0.length : Int)) = true := decide_eq_true c2
  clear c2
  by_cases c3 : ((l0.length : Int) : Int).toNat ≤ 5026338869833
  ·
   rw [if_pos c3] at H
   have c3b0 := eq_true c3
   have c3b1 : decide (((l0.length : Int) : Int).toNat ≤ 5026338869833) = true := decide_eq_true c3
   clear c3
   obtain ⟨y1404, hy1404⟩ : ∃ y_ : List (S39), y_ = (List.replicate ((l0.length : Int) : Int).toNat z39) := ⟨_, rfl⟩
   replace H : (laws_toWalkS.l0 k l0 y1404 0) = some r := by first | (rw [hy1404]; with_reducible exact H) | (have H2_ := (Option.bind_some _ _).symm.trans H; rw [hy1404]; with_reducible exact H2_) | (have H2_ := (Option.bind_some _ _).symm.trans H; with_reducible exact H2_) | with_reducible exact H | (rw [hy1404]; exact H) | exact H
   have Ny1404 := Aside0.mk hy1404
   clear hy1404
   have H' := Aside0.mk H
   clear H
   go_enter Try.func52, Try.ntmps52
   go_wp2_with (first | ((with_reducible refine gate_dst (N := 7) rfl ?_); refine Kd.R_make k39 _ 39 rfl (N := 7) rfl 46 _ _ rfl (l0.length : Int) rfl rfl Try.underlying46 (.agg #[(.int .i64 0), (.int .i64 0), (.int .i64 0), (.int .i64 0), (.int .i64 0), (.int .i64 0), (.int .i64 0)]) 56 info39 rfl (by decide) (by omega) z39 (ok := fun _ => True) (okp := fun _ => True) (k39_mkM _ _ _ z39 ) (fun _ hk => hk) trivial (dt_) (Nat.le_trans (Nat.mul_le_mul_right _ (dt_ : (l0.length : Int).toNat ≤ 5026338869833)) (by omega)) (Below.refl _ _) (Nat.le_refl _) ?_; intro v1405 w4 ho5 hb hg_ hnew_; clear hg_ hnew_; replace ho5 := ry_ Ny1404.out ho5; have HO1406 := Aside0.mk (Kd.R_lower ho5 (below_size (lb0_ HB.out))); replace HB := Aside0.mk (below_step (lb0_ HB.out) hb); clear hb ho5))
   go_loopg [4] k (fun kq v4 w' => ∃ (x3_1 : List (S39)) (x4_1 : Int), v4 = .int .i64 x4_1 ∧ Aside0 (laws_toWalkS.l0 kq l0 x3_1 x4_1 = some r) ∧ Aside0 (kq ≤ k) ∧ Aside0 (Kd.R k39 39 w' w.heap.size (fun _ => True) v1405 x3_1) ∧ Aside0 (Below w.heap.size w w'))
   case atStart => exact ⟨(y1404), (0), (by first | rfl | (simp; done) | (simp [*]; done)), H', ⟨Nat.le_refl _⟩, ⟨kr_ HO1406.out⟩, ⟨lb0_ HB.out⟩⟩
   case round =>
    clear H'
    try clear c2
    try clear c2b0
    try clear c2b1
    try clear p2
    try clear c3
    try clear c3b0
    try clear c3b1
    try clear c5
    obtain ⟨x3_1, x4_1, rfl, HA, HK1, HO_3, HB⟩ := hrel
    cases gk with
    | zero => exact absurd HA.out (by simp [laws_toWalkS.l0])
    | succ k1 =>
     have H := HA.out
     clear HA
     simp only [laws_toWalkS.l0] at H
     by_cases c6 : x4_1 < (l0.length : Int)
     ·
      rw [if_pos c6] at H
      have c6b0 : decide (x4_1 < (l0.length : Int)) = true := decide_eq_true c6
      clear c6
      by_cases c7 : 0 ≤ x4_1
      ·
       rw [if_pos c7] at H
       have c7b0 : decide (0 ≤ x4_1) = true := decide_eq_true c7
       clear c7
       replace H := Option.bind_eq_some_iff.mp H
       obtain ⟨⟨t1408, t1409, t1410, t1411, t1412, t1413, t1414⟩, A80, H⟩ := H
       replace H : (if x4_1 < (x3_1.length : Int) then (laws_toWalkS.l0 k1 l0 (x3_1.set (x4_1 : Int).toNat (⟨t1408, t1409, (⟨t1410, t1411, t1412, t1413, t1414⟩ : S37)⟩ : S39)) (wrap64 (x4_1 + 1))) else (none)) = some r := H
       have A8 := Aside0.mk A80
       clear A80
       by_cases c9 : x4_1 < (x3_1.length : Int)
       ·
        rw [if_pos c9] at H
        have c9b0 : decide (x4_1 < (x3_1.length : Int)) = true := decide_eq_true c9; clear c9
        obtain ⟨y1415, hy1415⟩ : ∃ y_ : List (S39), y_ = (x3_1.set (x4_1 : Int).toNat (⟨t1408, t1409, (⟨t1410, t1411, t1412, t1413, t1414⟩ : S37)⟩ : S39)) := ⟨_, rfl⟩
        replace H : (laws_toWalkS.l0 k1 l0 y1415 (wrap64 (x4_1 + 1))) = some r := by first | (rw [hy1415]; with_reducible exact H) | (have H2_ := (Option.bind_some _ _).symm.trans H; rw [hy1415]; with_reducible exact H2_) | (have H2_ := (Option.bind_some _ _).symm.trans H; with_reducible exact H2_) | with_reducible exact H | (rw [hy1415]; exact H) | exact H
        have Ny1415 := Aside0.mk hy1415; clear hy1415; have H' := Aside0.mk H; clear H; have p1407 : 0 ≤ (x4_1 : Int) := dt_; have q1407 : x4_1 < (l0.length : Int) := dt_; obtain ⟨ad1407, e1407, hx1407_0, hx1407_1, hx1407_2, hx1407_3, hx1407_4, hx1407_5, hx1407_6⟩ := at_T67 HR0.out x4_1 p1407 q1407
        cases e1407
        replace hx1407_0 := bc_ HB.out hx1407_0; replace hx1407_1 := bc_ HB.out hx1407_1; replace hx1407_2 := bc_ HB.out hx1407_2; replace hx1407_3 := bc_ HB.out hx1407_3; replace hx1407_4 := bc_ HB.out hx1407_4; replace hx1407_5 := bc_ HB.out hx1407_5; replace hx1407_6 := bc_ HB.out hx1407_6; replace p1407 := eq_true p1407; replace q1407 := eq_true q1407
        go_wp2_with (first | ((with_reducible refine gate_callee (f := 50) rfl ?_); refine ga_ (some 20) Try.func50 #[.agg #[.int .i64 ((rd_T67 l0 x4_1).f0), .int .i64 ((rd_T67 l0 x4_1).f1), .int .i64 ((rd_T67 l0 x4_1).f2.f0), .int .i64 ((rd_T67 l0 x4_1).f2.f1), .int .i64 ((rd_T67 l0 x4_1).f2.f2), .int .i64 ((rd_T67 l0 x4_1).f2.f3), .int .i64 ((rd_T67 l0 x4_1).f2.f4)]] ?_; (with_reducible refine (laws_toWalk.calls ((rd_T67 l0 x4_1).f0) ((rd_T67 l0 x4_1).f1) ((rd_T67 l0 x4_1).f2.f0) ((rd_T67 l0 x4_1).f2.f1) ((rd_T67 l0 x4_1).f2.f2) ((rd_T67 l0 x4_1).f2.f3) ((rd_T67 l0 x4_1).f2.f4) t1408 t1409 t1410 t1411 t1412 t1413 t1414 _ A8.out).mono ?_); rintro e w11 ⟨rfl, hb⟩; refine ⟨_, rfl, ?_⟩; replace HO_3 := Aside0.mk (Kd.R_below (kr_ HO_3.out) hb); replace HB := Aside0.mk (below_step (lb0_ HB.out) hb); (try clear hb); (try clear hb2); (try clear hk); (try clear hi); have p10 : 0 ≤ (x4_1 : Int) := dt_; have q10 : (x4_1 : Int) < ((x3_1.length : Int) : Int) := dt_; obtain ⟨go10, co10, eo10, gb10, gl10, cl10, HG10⟩ := Kd.R_form HO_3.out (by omega); (first | cases eo10 | (injection eo10 with ea_ en_ ec_; (first | subst ea_ | (injection ea_ with ea_; subst ea_)); subst ec_; clear en_)); have GB10 := Aside0.mk gb10; have GG10 := Aside0.mk HG10; clear gb10 gl10 HG10; obtain ⟨ce10, hcl10, hM10, hcc10, hfr10⟩ := Kd.R_elem HO_3.out z39 (x4_1 : Int) p10 q10; obtain rfl := k39_openM hM10; have hx10_0 : w11.cell? ⟨go10, (x4_1 : Int).toNat * 7, none⟩ = some (.int .i64 ((rd_T39 x3_1 x4_1).f0)) := hcc10 0 _ rfl; have hx10_1 : w11.cell? ⟨go10, (x4_1 : Int).toNat * 7 + 1, none⟩ = some (.int .i64 ((rd_T39 x3_1 x4_1).f1)) := hcc10 1 _ rfl; have hx10_2 : w11.cell? ⟨go10, (x4_1 : Int).toNat * 7 + 2, none⟩ = some (.int .i64 ((rd_T39 x3_1 x4_1).f2.f0)) := hcc10 2 _ rfl; have hx10_3 : w11.cell? ⟨go10, (x4_1 : Int).toNat * 7 + 3, none⟩ = some (.int .i64 ((rd_T39 x3_1 x4_1).f2.f1)) := hcc10 3 _ rfl; have hx10_4 : w11.cell? ⟨go10, (x4_1 : Int).toNat * 7 + 4, none⟩ = some (.int .i64 ((rd_T39 x3_1 x4_1).f2.f2)) := hcc10 4 _ rfl; have hx10_5 : w11.cell? ⟨go10, (x4_1 : Int).toNat * 7 + 5, none⟩ = some (.int .i64 ((rd_T39 x3_1 x4_1).f2.f3)) := hcc10 5 _ rfl; have hx10_6 : w11.cell? ⟨go10, (x4_1 : Int).toNat * 7 + 6, none⟩ = some (.int .i64 ((rd_T39 x3_1 x4_1).f2.f4)) := hcc10 6 _ rfl; have hf10_0 : w11.frozen? ⟨go10, (x4_1 : Int).toNat * 7, none⟩ = false := hfr10 0; have hf10_1 : w11.frozen? ⟨go10, (x4_1 : Int).toNat * 7 + 1, none⟩ = false := hfr10 1; have hf10_2 : w11.frozen? ⟨go10, (x4_1 : Int).toNat * 7 + 2, none⟩ = false := hfr10 2; have hf10_3 : w11.frozen? ⟨go10, (x4_1 : Int).toNat * 7 + 3, none⟩ = false := hfr10 3; have hf10_4 : w11.frozen? ⟨go10, (x4_1 : Int).toNat * 7 + 4, none⟩ = false := hfr10 4; have hf10_5 : w11.frozen? ⟨go10, (x4_1 : Int).toNat * 7 + 5, none⟩ = false := hfr10 5; have hf10_6 : w11.frozen? ⟨go10, (x4_1 : Int).toNat * 7 + 6, none⟩ = false := hfr10 6; clear hcl10 hcc10 hfr10 hM10; replace p10 := eq_true p10; replace q10 := eq_true q10; have HX12 := Aside0.mk (show Kd.R k39 39 w11 w.heap.size (fun _ => True) (.slice (some ⟨go10, 0, none⟩) x3_1.length co10) x3_1 from (kr_ HO_3.out)); obtain ⟨ce12, hcl12, hM12, hcc12, hfr12⟩ := Kd.R_elem HX12.out z39 (x4_1 : Int) (dt_) (by have h_ : (x4_1 : Int) < ((x3_1.length : Int) : Int) := dt_; first | exact h_ | (have e_ := (Kd.R_reads' HO_3.out).1; omega) | simpa using h_); obtain rfl := k39_openM hM12; have HP12 := Kd.R_seg HX12.out (x4_1 : Int) (dt_) (by have h_ : (x4_1 : Int) < ((x3_1.length : Int) : Int) := dt_; first | exact h_ | (have e_ := (Kd.R_reads' HO_3.out).1; omega) | simpa using h_) (seg := [.int .i64 t1408, .int .i64 t1409, .int .i64 t1410, .int .i64 t1411, .int .i64 t1412, .int .i64 t1413, .int .i64 t1414]) (j := 0) hcl12 hcc12 (show 7 ≤ 7 from by decide) (x' := (⟨t1408, t1409, (⟨t1410, t1411, t1412, t1413, t1414⟩ : S37)⟩ : S39)) (k39_mkM _ _ _ (⟨t1408, t1409, (⟨t1410, t1411, t1412, t1413, t1414⟩ : S37)⟩ : S39) ) (fun _ hk => hk); have hx12_0 := hcc12 0 _ rfl; (try simp only [show (k39).sz = 7 from rfl, Nat.mul_one, Nat.add_zero] at hx12_0); have hf12_0 := hfr12 0; (try simp only [show (k39).sz = 7 from rfl, Nat.mul_one, Nat.add_zero] at hf12_0); have hx12_1 := hcc12 1 _ rfl; (try simp only [show (k39).sz = 7 from rfl, Nat.mul_one, Nat.add_zero] at hx12_1); have hf12_1 := hfr12 1; (try simp only [show (k39).sz = 7 from rfl, Nat.mul_one, Nat.add_zero] at hf12_1); have hx12_2 := hcc12 2 _ rfl; (try simp only [show (k39).sz = 7 from rfl, Nat.mul_one, Nat.add_zero] at hx12_2); have hf12_2 := hfr12 2; (try simp only [show (k39).sz = 7 from rfl, Nat.mul_one, Nat.add_zero] at hf12_2); have hx12_3 := hcc12 3 _ rfl; (try simp only [show (k39).sz = 7 from rfl, Nat.mul_one, Nat.add_zero] at hx12_3); have hf12_3 := hfr12 3; (try simp only [show (k39).sz = 7 from rfl, Nat.mul_one, Nat.add_zero] at hf12_3); have hx12_4 := hcc12 4 _ rfl; (try simp only [show (k39).sz = 7 from rfl, Nat.mul_one, Nat.add_zero] at hx12_4); have hf12_4 := hfr12 4; (try simp only [show (k39).sz = 7 from rfl, Nat.mul_one, Nat.add_zero] at hf12_4); have hx12_5 := hcc12 5 _ rfl; (try simp only [show (k39).sz = 7 from rfl, Nat.mul_one, Nat.add_zero] at hx12_5); have hf12_5 := hfr12 5; (try simp only [show (k39).sz = 7 from rfl, Nat.mul_one, Nat.add_zero] at hf12_5); have hx12_6 := hcc12 6 _ rfl; (try simp only [show (k39).sz = 7 from rfl, Nat.mul_one, Nat.add_zero] at hx12_6); have hf12_6 := hfr12 6; (try simp only [show (k39).sz = 7 from rfl, Nat.mul_one, Nat.add_zero] at hf12_6); clear hcl12 hcc12 hfr12 hM12) | ((with_reducible refine gate_store (t := 39) (p := 21) rfl ?_); refine store_event (t := 39) (p := 21) (v := ?vo_w13) (w1 := (((((((w11.setCell ⟨go10, (x4_1 : Int).toNat * 7, none⟩ (.int .i64 t1408)).setCell ⟨go10, (x4_1 : Int).toNat * 7 + 1, none⟩ (.int .i64 t1409)).setCell ⟨go10, (x4_1 : Int).toNat * 7 + 2, none⟩ (.int .i64 t1410)).setCell ⟨go10, (x4_1 : Int).toNat * 7 + 3, none⟩ (.int .i64 t1411)).setCell ⟨go10, (x4_1 : Int).toNat * 7 + 4, none⟩ (.int .i64 t1412)).setCell ⟨go10, (x4_1 : Int).toNat * 7 + 5, none⟩ (.int .i64 t1413)).setCell ⟨go10, (x4_1 : Int).toNat * 7 + 6, none⟩ (.int .i64 t1414))) ?hg ?ho ?hn ?hr ?_; (case ho => rfl); (case hg => rfl); (case hn => rfl); (case hr => first | (go_simp; done) | (go_simp; rfl)); intro w13 hw; have hg : w11.grownBy w13 (some go10) := (by rw [hw]; exact HP12.2); have hp_ : Kd.R k39 39 w13 w.heap.size (fun _ => True) (.slice (some ⟨go10, 0, none⟩) x3_1.length co10) y1415 := (by rw [hw, Ny1415.out]; exact HP12.1); clear HP12; replace HO_3 := Aside0.mk (hp_); replace HB := Aside0.mk ((by rw [hw]; exact below_set (below_set (below_set (below_set (below_set (below_set (below_set (HB.out) GB10.out) GB10.out) GB10.out) GB10.out) GB10.out) GB10.out) GB10.out : Below w.heap.size w w13)); clear hg hw hp_))
        go_roundg k1
        case measure => have := HK1.out; omega
        case rel => exact ⟨(y1415), (wrap64 (x4_1 + 1)), (by first | rfl | (simp; done) | (simp [*]; done)), H', ⟨by have := HK1.out; omega⟩, ⟨by (with_reducible repeat (first | apply Kd.R_alloc | apply Kd.R_drewN | apply Kd.R_drew)); first | exact HO_3.out | (rw [Ny1415.out]; exact (Kd.R_putg (Kd.R_drewN HO_3.out _) _ _).1) | (rw [Ny1415.out]; exact (Kd.R_putg HO_3.out _ _).1)⟩, ⟨by repeat (first | (with_reducible first | exact HB.out | apply below_alloc | apply pw_below_drewN | apply below_drew1) | exact HB.out | (first | exact below_set (pw_below_drewN HB.out _) GB10.out | exact below_set HB.out GB10.out))⟩⟩
       ·
        rw [if_neg c9] at H
        exact absurd H (by simp)
      ·
       rw [if_neg c7] at H
       exact absurd H (by simp)
     ·
      rw [if_neg c6] at H
      have c6b0 : decide (x4_1 < (l0.length : Int)) = false := decide_eq_false c6
      clear c6
      obtain rfl := Option.some.inj H
      go_wp2
      go_ret
      exact ⟨_, rr_, kr_ HO_3.out, lb0_ HB.out⟩
  ·
   rw [if_neg c3] at H
   exact absurd H (by simp)
 ·
  rw [if_neg c2] at H
  exact absurd H (by simp)
def laws_eqWalk.f (a0_0 : Int) (a0_1 : Int) (a0_2 : Int) (a0_3 : Int) (a0_4 : Int) (a0_5 : Int) (a0_6 : Int) (a1_0 : Int) (a1_1 : Int) (a1_2 : Int) (a1_3 : Int) (a1_4 : Int) (a1_5 : Int) (a1_6 : Int) : Option (Bool) := if a0_0 = a1_0 then (if a0_1 = a1_1 then ((laws_eqLeg.f a0_2 a0_3 a0_4 a0_5 a0_6 a1_2 a1_3 a1_4 a1_5 a1_6).bind fun t1418 => (if t1418 = true then (some true) else (some false))) else (some false)) else (some false)
theorem laws_eqWalk.calls (a0_0 : Int) (a0_1 : Int) (a0_2 : Int) (a0_3 : Int) (a0_4 : Int) (a0_5 : Int) (a0_6 : Int) (a1_0 : Int) (a1_1 : Int) (a1_2 : Int) (a1_3 : Int) (a1_4 : Int) (a1_5 : Int) (a1_6 : Int) (r : Bool) (w : World) (h : laws_eqWalk.f a0_0 a0_1 a0_2 a0_3 a0_4 a0_5 a0_6 a1_0 a1_1 a1_2 a1_3 a1_4 a1_5 a1_6 = some r) :
  Calls Try.prog 96 #[.agg #[.int .i64 a0_0, .int .i64 a0_1, .int .i64 a0_2, .int .i64 a0_3, .int .i64 a0_4, .int .i64 a0_5, .int .i64 a0_6], .agg #[.int .i64 a1_0, .int .i64 a1_1, .int .i64 a1_2, .int .i64 a1_3, .int .i64 a1_4, .int .i64 a1_5, .int .i64 a1_6]] w fun e w' => e = .returned (.bool r) ∧ Below w.heap.size w w' := by
 have hu39 := Try.underlying39
 have hu37 := Try.underlying37
 have HB := Aside0.mk (Below.refl w.heap.size w)
 have H : (if a0_0 = a1_0 then (if a0_1 = a1_1 then ((laws_eqLeg.f a0_2 a0_3 a0_4 a0_5 a0_6 a1_2 a1_3 a1_4 a1_5 a1_6).bind fun t1418 => (if t1418 = true then (some true) else (some false))) else (some false)) else (some false)) = some r := h
 clear h
 by_cases c3 : a0_0 = a1_0
 ·
  rw [if_pos c3] at H
  have c3b0 : (a0_0 == a1_0) = true := beq_iff_eq.mpr c3
  have c3b1 : (a0_0 != a1_0) = false := bne_eq_false_iff_eq.mpr c3
  clear c3
  by_cases c4 : a0_1 = a1_1
  ·
   rw [if_pos c4] at H
   have c4b0 : (a0_1 == a1_1) = true := beq_iff_eq.mpr c4
   have c4b1 : (a0_1 != a1_1) = false := bne_eq_false_iff_eq.mpr c4
   clear c4
   replace H := Option.bind_eq_some_iff.mp H
   obtain ⟨t1418, A50, H⟩ := H
   replace H : (if t1418 = true then (some true) else (some false)) = some r := H
   have A5 := Aside0.mk A50
   clear A50
   by_cases c6 : t1418 = true
   ·
    subst c6
    have H1 : (some true) = some r := by rw [if_pos rfl] at H; exact H
    clear H
    have H := H1
    clear H1
    obtain rfl := Option.some.inj H
    go_enter Try.func96, Try.ntmps96
    go_wp2_with (first | ((with_reducible refine gate_dst (N := 2) rfl ?_); refine box_event ?hg (N := 2) ?hd (cs := #[.int .i64 a0_0, .int .i64 a0_1, .int .i64 a0_2, .int .i64 a0_3, .int .i64 a0_4, .int .i64 a0_5, .int .i64 a0_6]) (t := 39) ?hr ?_; (case hd => rfl); (case hg => rfl); (case hr => first | (go_simp; done) | (go_simp; rfl)); intro gb1416 hg w7 hbox hb; have BK1416 := Aside0.mk (hbox); have GW1416 := Aside0.mk ((bz_ hg (lb0_ HB.out))); have GE1416 := Aside0.mk ((bz_ hg (lb0_ HB.out))); replace HB := Aside0.mk (below_step (lb0_ HB.out) hb); clear hb hbox hg) | ((with_reducible refine gate_dst (N := 3) rfl ?_); refine box_event ?hg (N := 3) ?hd (cs := #[.int .i64 a1_0, .int .i64 a1_1, .int .i64 a1_2, .int .i64 a1_3, .int .i64 a1_4, .int .i64 a1_5, .int .i64 a1_6]) (t := 39) ?hr ?_; (case hd => rfl); (case hg => rfl); (case hr => first | (go_simp; done) | (go_simp; rfl)); intro gb1417 hg w8 hbox hb; have BK1417 := Aside0.mk (hbox); have GW1417 := Aside0.mk ((bz_ hg (lb1_ HB.out GE1416.out))); have GE1417 := Aside0.mk ((bz_ hg (lb1_ HB.out GE1416.out))); replace HB := Aside0.mk (below_step (lb1_ HB.out GE1416.out) hb); have NB1416_1417 := Aside0.mk (nl_ hg BK1416.out); have NB1417_1416 := Aside0.mk (ng_ hg BK1416.out); replace BK1416 := Aside0.mk (bb_ (bk_ BK1416.out) hb); clear hb hbox hg; have hnb9 := NB1416_1417.out; have hnc9 := NB1417_1416.out; obtain ⟨hcz10_0, hcz10_1, hcz10_2, hcz10_3, hcz10_4, hcz10_5, hcz10_6⟩ := cz7_ BK1416.out; obtain ⟨hfz10_0, hfz10_1, hfz10_2, hfz10_3, hfz10_4, hfz10_5, hfz10_6⟩ := fz7_ BK1416.out; obtain ⟨hcz11_0, hcz11_1, hcz11_2, hcz11_3, hcz11_4, hcz11_5, hcz11_6⟩ := cz7_ BK1417.out; obtain ⟨hfz11_0, hfz11_1, hfz11_2, hfz11_3, hfz11_4, hfz11_5, hfz11_6⟩ := fz7_ BK1417.out) | ((with_reducible refine gate_callee (f := 90) rfl ?_); refine ga_ (some 19) Try.func90 #[.agg #[.int .i64 a0_2, .int .i64 a0_3, .int .i64 a0_4, .int .i64 a0_5, .int .i64 a0_6], .agg #[.int .i64 a1_2, .int .i64 a1_3, .int .i64 a1_4, .int .i64 a1_5, .int .i64 a1_6]] ?_; (with_reducible refine (laws_eqLeg.calls a0_2 a0_3 a0_4 a0_5 a0_6 a1_2 a1_3 a1_4 a1_5 a1_6 true _ A5.out).mono ?_); rintro e w12 ⟨rfl, hb⟩; refine ⟨_, rfl, ?_⟩; replace BK1416 := Aside0.mk (bb_ (bk_ BK1416.out) hb); replace BK1417 := Aside0.mk (bb_ (bk_ BK1417.out) hb); replace HB := Aside0.mk (below_step (lb2_ HB.out GE1416.out GE1417.out) hb); (try clear hb); (try clear hb2); (try clear hk); (try clear hi)))
    go_ret
    exact ⟨rr_, lb2_ HB.out GE1416.out GE1417.out⟩
   ·
    replace c6 := Bool.eq_false_iff.mpr c6
    subst c6
    have H1 : (some false) = some r := by rw [if_neg (show ¬ (false = true) by decide)] at H; exact H
    clear H
    have H := H1
    clear H1
    obtain rfl := Option.some.inj H
    go_enter Try.func96, Try.ntmps96
    go_wp2_with (first | ((with_reducible refine gate_dst (N := 2) rfl ?_); refine box_event ?hg (N := 2) ?hd (cs := #[.int .i64 a0_0, .int .i64 a0_1, .int .i64 a0_2, .int .i64 a0_3, .int .i64 a0_4, .int .i64 a0_5, .int .i64 a0_6]) (t := 39) ?hr ?_; (case hd => rfl); (case hg => rfl); (case hr => first | (go_simp; done) | (go_simp; rfl)); intro gb1416 hg w13 hbox hb; have BK1416 := Aside0.mk (hbox); have GW1416 := Aside0.mk ((bz_ hg (lb0_ HB.out))); have GE1416 := Aside0.mk ((bz_ hg (lb0_ HB.out))); replace HB := Aside0.mk (below_step (lb0_ HB.out) hb); clear hb hbox hg) | ((with_reducible refine gate_dst (N := 3) rfl ?_); refine box_event ?hg (N := 3) ?hd (cs := #[.int .i64 a1_0, .int .i64 a1_1, .int .i64 a1_2, .int .i64 a1_3, .int .i64 a1_4, .int .i64 a1_5, .int .i64 a1_6]) (t := 39) ?hr ?_; (case hd => rfl); (case hg => rfl); (case hr => first | (go_simp; done) | (go_simp; rfl)); intro gb1417 hg w14 hbox hb; have BK1417 := Aside0.mk (hbox); have GW1417 := Aside0.mk ((bz_ hg (lb1_ HB.out GE1416.out))); have GE1417 := Aside0.mk ((bz_ hg (lb1_ HB.out GE1416.out))); replace HB := Aside0.mk (below_step (lb1_ HB.out GE1416.out) hb); have NB1416_1417 := Aside0.mk (nl_ hg BK1416.out); have NB1417_1416 := Aside0.mk (ng_ hg BK1416.out); replace BK1416 := Aside0.mk (bb_ (bk_ BK1416.out) hb); clear hb hbox hg; have hnb15 := NB1416_1417.out; have hnc15 := NB1417_1416.out; obtain ⟨hcz16_0, hcz16_1, hcz16_2, hcz16_3, hcz16_4, hcz16_5, hcz16_6⟩ := cz7_ BK1416.out; obtain ⟨hfz16_0, hfz16_1, hfz16_2, hfz16_3, hfz16_4, hfz16_5, hfz16_6⟩ := fz7_ BK1416.out; obtain ⟨hcz17_0, hcz17_1, hcz17_2, hcz17_3, hcz17_4, hcz17_5, hcz17_6⟩ := cz7_ BK1417.out; obtain ⟨hfz17_0, hfz17_1, hfz17_2, hfz17_3, hfz17_4, hfz17_5, hfz17_6⟩ := fz7_ BK1417.out) | ((with_reducible refine gate_callee (f := 90) rfl ?_); refine ga_ (some 19) Try.func90 #[.agg #[.int .i64 a0_2, .int .i64 a0_3, .int .i64 a0_4, .int .i64 a0_5, .int .i64 a0_6], .agg #[.int .i64 a1_2, .int .i64 a1_3, .int .i64 a1_4, .int .i64 a1_5, .int .i64 a1_6]] ?_; (with_reducible refine (laws_eqLeg.calls a0_2 a0_3 a0_4 a0_5 a0_6 a1_2 a1_3 a1_4 a1_5 a1_6 false _ A5.out).mono ?_); rintro e w18 ⟨rfl, hb⟩; refine ⟨_, rfl, ?_⟩; replace BK1416 := Aside0.mk (bb_ (bk_ BK1416.out) hb); replace BK1417 := Aside0.mk (bb_ (bk_ BK1417.out) hb); replace HB := Aside0.mk (below_step (lb2_ HB.out GE1416.out GE1417.out) hb); (try clear hb); (try clear hb2); (try clear hk); (try clear hi)))
    go_ret
    exact ⟨rr_, lb2_ HB.out GE1416.out GE1417.out⟩
  ·
   rw [if_neg c4] at H
   have c4b0 : (a0_1 == a1_1) = false := beq_eq_false_iff_ne.mpr c4
   have c4b1 : (a0_1 != a1_1) = true := bne_iff_ne.mpr c4
   obtain rfl := Option.some.inj H
   go_enter Try.func96, Try.ntmps96
   go_wp2_with (first | ((with_reducible refine gate_dst (N := 2) rfl ?_); refine box_event ?hg (N := 2) ?hd (cs := #[.int .i64 a0_0, .int .i64 a0_1, .int .i64 a0_2, .int .i64 a0_3, .int .i64 a0_4, .int .i64 a0_5, .int .i64 a0_6]) (t := 39) ?hr ?_; (case hd => rfl); (case hg => rfl); (case hr => first | (go_simp; done) | (go_simp; rfl)); intro gb1416 hg w19 hbox hb; have BK1416 := Aside0.mk (hbox); have GW1416 := Aside0.mk ((bz_ hg (lb0_ HB.out))); have GE1416 := Aside0.mk ((bz_ hg (lb0_ HB.out))); replace HB := Aside0.mk (below_step (lb0_ HB.out) hb); clear hb hbox hg) | ((with_reducible refine gate_dst (N := 3) rfl ?_); refine box_event ?hg (N := 3) ?hd (cs := #[.int .i64 a1_0, .int .i64 a1_1, .int .i64 a1_2, .int .i64 a1_3, .int .i64 a1_4, .int .i64 a1_5, .int .i64 a1_6]) (t := 39) ?hr ?_; (case hd => rfl); (case hg => rfl); (case hr => first | (go_simp; done) | (go_simp; rfl)); intro gb1417 hg w20 hbox hb; have BK1417 := Aside0.mk (hbox); have GW1417 := Aside0.mk ((bz_ hg (lb1_ HB.out GE1416.out))); have GE1417 := Aside0.mk ((bz_ hg (lb1_ HB.out GE1416.out))); replace HB := Aside0.mk (below_step (lb1_ HB.out GE1416.out) hb); have NB1416_1417 := Aside0.mk (nl_ hg BK1416.out); have NB1417_1416 := Aside0.mk (ng_ hg BK1416.out); replace BK1416 := Aside0.mk (bb_ (bk_ BK1416.out) hb); clear hb hbox hg; have hnb21 := NB1416_1417.out; have hnc21 := NB1417_1416.out; obtain ⟨hcz22_0, hcz22_1, hcz22_2, hcz22_3, hcz22_4, hcz22_5, hcz22_6⟩ := cz7_ BK1416.out; obtain ⟨hfz22_0, hfz22_1, hfz22_2, hfz22_3, hfz22_4, hfz22_5, hfz22_6⟩ := fz7_ BK1416.out; obtain ⟨hcz23_0, hcz23_1, hcz23_2, hcz23_3, hcz23_4, hcz23_5, hcz23_6⟩ := cz7_ BK1417.out; obtain ⟨hfz23_0, hfz23_1, hfz23_2, hfz23_3, hfz23_4, hfz23_5, hfz23_6⟩ := fz7_ BK1417.out))
   go_ret
   exact ⟨rr_, lb2_ HB.out GE1416.out GE1417.out⟩
 ·
  rw [if_neg c3] at H
  have c3b0 : (a0_0 == a1_0) = false := beq_eq_false_iff_ne.mpr c3
  have c3b1 : (a0_0 != a1_0) = true := bne_iff_ne.mpr c3
  obtain rfl := Option.some.inj H
  go_enter Try.func96, Try.ntmps96
  go_wp2_with (first | ((with_reducible refine gate_dst (N := 2) rfl ?_); refine box_event ?hg (N := 2) ?hd (cs := #[.int .i64 a0_0, .int .i64 a0_1, .int .i64 a0_2, .int .i64 a0_3, .int .i64 a0_4, .int .i64 a0_5, .int .i64 a0_6]) (t := 39) ?hr ?_; (case hd => rfl); (case hg => rfl); (case hr => first | (go_simp; done) | (go_simp; rfl)); intro gb1416 hg w24 hbox hb; have BK1416 := Aside0.mk (hbox); have GW1416 := Aside0.mk ((bz_ hg (lb0_ HB.out))); have GE1416 := Aside0.mk ((bz_ hg (lb0_ HB.out))); replace HB := Aside0.mk (below_step (lb0_ HB.out) hb); clear hb hbox hg) | ((with_reducible refine gate_dst (N := 3) rfl ?_); refine box_event ?hg (N := 3) ?hd (cs := #[.int .i64 a1_0, .int .i64 a1_1, .int .i64 a1_2, .int .i64 a1_3, .int .i64 a1_4, .int .i64 a1_5, .int .i64 a1_6]) (t := 39) ?hr ?_; (case hd => rfl); (case hg => rfl); (case hr => first | (go_simp; done) | (go_simp; rfl)); intro gb1417 hg w25 hbox hb; have BK1417 := Aside0.mk (hbox); have GW1417 := Aside0.mk ((bz_ hg (lb1_ HB.out GE1416.out))); have GE1417 := Aside0.mk ((bz_ hg (lb1_ HB.out GE1416.out))); replace HB := Aside0.mk (below_step (lb1_ HB.out GE1416.out) hb); have NB1416_1417 := Aside0.mk (nl_ hg BK1416.out); have NB1417_1416 := Aside0.mk (ng_ hg BK1416.out); replace BK1416 := Aside0.mk (bb_ (bk_ BK1416.out) hb); clear hb hbox hg; have hnb26 := NB1416_1417.out; have hnc26 := NB1417_1416.out; obtain ⟨hcz27_0, hcz27_1, hcz27_2, hcz27_3, hcz27_4, hcz27_5, hcz27_6⟩ := cz7_ BK1416.out; obtain ⟨hfz27_0, hfz27_1, hfz27_2, hfz27_3, hfz27_4, hfz27_5, hfz27_6⟩ := fz7_ BK1416.out; obtain ⟨hcz28_0, hcz28_1, hcz28_2, hcz28_3, hcz28_4, hcz28_5, hcz28_6⟩ := cz7_ BK1417.out; obtain ⟨hfz28_0, hfz28_1, hfz28_2, hfz28_3, hfz28_4, hfz28_5, hfz28_6⟩ := fz7_ BK1417.out))
  go_ret
  exact ⟨rr_, lb2_ HB.out GE1416.out GE1417.out⟩
def laws_eqWalkS.l0 : Nat → List (S39) → List (S39) → Int → Option (Bool)
 | 0, _, _, _ => none
 | k + 1, x0, x1, x5 => if x5 < (x0.length : Int) then (if 0 ≤ x5 then (if x5 < (x1.length : Int) then ((laws_eqWalk.f ((rd_T39 x0 x5).f0) ((rd_T39 x0 x5).f1) ((rd_T39 x0 x5).f2.f0) ((rd_T39 x0 x5).f2.f1) ((rd_T39 x0 x5).f2.f2) ((rd_T39 x0 x5).f2.f3) ((rd_T39 x0 x5).f2.f4) ((rd_T39 x1 x5).f0) ((rd_T39 x1 x5).f1) ((rd_T39 x1 x5).f2.f0) ((rd_T39 x1 x5).f2.f1) ((rd_T39 x1 x5).f2.f2) ((rd_T39 x1 x5).f2.f3) ((rd_T39 x1 x5).f2.f4)).bind fun t1421 => (if t1421 = true then (laws_eqWalkS.l0 k x0 x1 (wrap64 (x5 + 1))) else (some false))) else (none)) else (none)) else (some true)
def laws_eqWalkS.f (k : Nat) (l0 : List (S39)) (l1 : List (S39)) : Option (Bool) := if (l0.length : Int) = (l1.length : Int) then (laws_eqWalkS.l0 k l0 l1 0) else (some false)
def laws_eqWalkS.T6 : Bool × List (List Nat × List Nat) := (true, [([], []), ([], []), ([0, 1], [0, 1]), ([2], [2]), ([], []), ([], []), ([4, 5], [4, 5]), ([6], [6]), ([3, 7], [3, 7]), ([8], [8])])
def laws_eqWalkS.B6 : List Nat := [0, 0, 3, 7, 0, 0, 48, 112, 255, 511]
theorem laws_eqWalkS.tab6 : rtab .any (opsOf Try.f53 6) = laws_eqWalkS.T6 := by kernel_rfl
theorem laws_eqWalkS.bits6 : waitsOk laws_eqWalkS.T6.2 laws_eqWalkS.B6 = true := by kernel_rfl
abbrev laws_eqWalkS.mk0 : Array Bool := #[fF,fF,fF,fF,fF,fF,fF,fF,fF,fF]
abbrev laws_eqWalkS.mk1 : Array Bool := #[tT,fF,fF,fF,fF,fF,fF,fF,fF,fF]
abbrev laws_eqWalkS.mk2 : Array Bool := #[tT,tT,fF,fF,fF,fF,fF,fF,fF,fF]
abbrev laws_eqWalkS.mk3 : Array Bool := #[tT,tT,tT,fF,fF,fF,fF,fF,fF,fF]
abbrev laws_eqWalkS.mk4 : Array Bool := #[tT,tT,tT,fF,tT,fF,fF,fF,fF,fF]
abbrev laws_eqWalkS.mk5 : Array Bool := #[tT,tT,tT,fF,tT,tT,fF,fF,fF,fF]
abbrev laws_eqWalkS.mk6 : Array Bool := #[tT,tT,tT,fF,tT,tT,tT,fF,fF,fF]
abbrev laws_eqWalkS.mk7 : Array Bool := #[tT,tT,tT,tT,tT,tT,tT,fF,fF,fF]
abbrev laws_eqWalkS.mk8 : Array Bool := #[tT,tT,tT,tT,tT,tT,tT,tT,fF,fF]
abbrev laws_eqWalkS.mk9 : Array Bool := #[tT,tT,tT,tT,tT,tT,tT,tT,tT,fF]
abbrev laws_eqWalkS.mk10 : Array Bool := #[tT,tT,tT,tT,tT,tT,tT,tT,tT,tT]
theorem laws_eqWalkS.calls (k : Nat) (A0 : Option Addr) (c0 : Nat) (l0 : List (S39)) (A1 : Option Addr) (c1 : Nat) (l1 : List (S39)) (r : Bool) (w : World) (hr0 : Kd.C k39 w A0 l0.length l0) (hc0 : l0.length ≤ c0) (hr1 : Kd.C k39 w A1 l1.length l1) (hc1 : l1.length ≤ c1) (h : laws_eqWalkS.f k l0 l1 = some r) :
  Calls Try.prog 53 #[.slice A0 l0.length c0, .slice A1 l1.length c1] w fun e w' => e = .returned (.bool r) ∧ Below w.heap.size w w' := by
 have hu39 := Try.underlying39
 have HR0 := Aside0.mk hr0
 have HC0 := Aside0.mk hc0
 clear hr0 hc0
 have HR1 := Aside0.mk hr1
 have HC1 := Aside0.mk hc1
 clear hr1 hc1
 have HB := Aside0.mk (Below.refl w.heap.size w)
 have H : (if (l0.length : Int) = (l1.length : Int) then (laws_eqWalkS.l0 k l0 l1 0) else (some false)) = some r := h
 clear h
 by_cases c3 : (l0.length : Int) = (l1.length : Int)
 ·
  rw [if_pos c3] at H
  have c3b0 : ((l0.length : Int) == (l1.length : Int)) = true := beq_iff_eq.mpr c3
  have c3b1 : ((l0.length : Int) != (l1.length : Int)) = false := bne_eq_false_iff_eq.mpr c3
  have c3b2 : (l0.length == l1.length) = true := by first | simpa using c3 | (simp at c3 ⊢; omega)
  clear c3
  have H' := Aside0.mk H
  clear H
  go_enter Try.func53, Try.ntmps53
  go_wp2
  go_loopg [5] k (fun kq v5 w' => ∃ (x5_1 : Int), v5 = .int .i64 x5_1 ∧ Aside0 (laws_eqWalkS.l0 kq l0 l1 x5_1 = some r) ∧ Aside0 (kq ≤ k) ∧ Aside0 (Below w.heap.size w w'))
  case atStart => exact ⟨(0), (by first | rfl | (simp; done) | (simp [*]; done)), H', ⟨Nat.le_refl _⟩, ⟨lb0_ HB.out⟩⟩
  case round =>
   clear H'
   try clear c1
   try clear p2
   try clear c3
   try clear c3b0
   try clear c3b1
   try clear c3b2
   obtain ⟨x5_1, rfl, HA, HK1, HB⟩ := hrel
   cases gk with
   | zero => exact absurd HA.out (by simp [laws_eqWalkS.l0])
   | succ k1 =>
    have H := HA.out
    clear HA
    simp only [laws_eqWalkS.l0] at H
    by_cases c4 : x5_1 < (l0.length : Int)
    ·
     rw [if_pos c4] at H
     have c4b0 : decide (x5_1 < (l0.length : Int)) = true := decide_eq_true c4
     clear c4
     by_cases c5 : 0 ≤ x5_1
     ·
      rw [if_pos c5] at H
      have c5b0 : decide (0 ≤ x5_1) = true := decide_eq_true c5
      clear c5
      by_cases c6 : x5_1 < (l1.length : Int)
      ·
       rw [if_pos c6] at H
       have c6b0 : decide (x5_1 < (l1.length : Int)) = true := decide_eq_true c6
       clear c6
       replace H := Option.bind_eq_some_iff.mp H
       obtain ⟨t1421, A70, H⟩ := H
       replace H : (if t1421 = true then (laws_eqWalkS.l0 k1 l0 l1 (wrap64 (x5_1 + 1))) else (some false)) = some r := H
       have A7 := Aside0.mk A70
       clear A70
       by_cases c8 : t1421 = true
       ·
        subst c8
        have H1 : (laws_eqWalkS.l0 k1 l0 l1 (wrap64 (x5_1 + 1))) = some r := by rw [if_pos rfl] at H; exact H
        clear H; have H := H1; clear H1; have H' := Aside0.mk H; clear H
        try go_wp2
        replace HB := Aside0.mk (below_drew1 HB.out); have p1419 : 0 ≤ (x5_1 : Int) := dt_; have q1419 : x5_1 < (l0.length : Int) := dt_; obtain ⟨ad1419, e1419, hx1419_0, hx1419_1, hx1419_2, hx1419_3, hx1419_4, hx1419_5, hx1419_6⟩ := at_T39 HR0.out x5_1 p1419 q1419; have hw1419_6 := hx1419_6; have hw1419_5 := hx1419_5; have hw1419_4 := hx1419_4; have hw1419_3 := hx1419_3; have hw1419_2 := hx1419_2; have hw1419_1 := hx1419_1; have hw1419_0 := hx1419_0
        cases e1419
        replace hx1419_0 := bc_ HB.out hx1419_0; replace hx1419_1 := bc_ HB.out hx1419_1; replace hx1419_2 := bc_ HB.out hx1419_2; replace hx1419_3 := bc_ HB.out hx1419_3; replace hx1419_4 := bc_ HB.out hx1419_4; replace hx1419_5 := bc_ HB.out hx1419_5; replace hx1419_6 := bc_ HB.out hx1419_6; replace p1419 := eq_true p1419; replace q1419 := eq_true q1419; have p1420 : 0 ≤ (x5_1 : Int) := dt_; have q1420 : x5_1 < (l1.length : Int) := dt_; obtain ⟨ad1420, e1420, hx1420_0, hx1420_1, hx1420_2, hx1420_3, hx1420_4, hx1420_5, hx1420_6⟩ := at_T39 HR1.out x5_1 p1420 q1420; have hw1420_6 := hx1420_6; have hw1420_5 := hx1420_5; have hw1420_4 := hx1420_4; have hw1420_3 := hx1420_3; have hw1420_2 := hx1420_2; have hw1420_1 := hx1420_1; have hw1420_0 := hx1420_0
        cases e1420
        replace hx1420_0 := bc_ HB.out hx1420_0; replace hx1420_1 := bc_ HB.out hx1420_1; replace hx1420_2 := bc_ HB.out hx1420_2; replace hx1420_3 := bc_ HB.out hx1420_3; replace hx1420_4 := bc_ HB.out hx1420_4; replace hx1420_5 := bc_ HB.out hx1420_5; replace hx1420_6 := bc_ HB.out hx1420_6; replace p1420 := eq_true p1420; replace q1420 := eq_true q1420; refine start_ (n := 10) (S := fun w' => w'.cell? (ad1419.add ((x5_1).toNat * 7)) = some (.int .i64 ((rd_T39 l0 x5_1).f0)) ∧ w'.cell? ⟨(ad1419.add ((x5_1).toNat * 7)).block, (ad1419.add ((x5_1).toNat * 7)).off + 1, none⟩ = some (.int .i64 ((rd_T39 l0 x5_1).f1)) ∧ w'.cell? ⟨(ad1419.add ((x5_1).toNat * 7)).block, (ad1419.add ((x5_1).toNat * 7)).off + 2, none⟩ = some (.int .i64 ((rd_T39 l0 x5_1).f2.f0)) ∧ w'.cell? ⟨(ad1419.add ((x5_1).toNat * 7)).block, (ad1419.add ((x5_1).toNat * 7)).off + 3, none⟩ = some (.int .i64 ((rd_T39 l0 x5_1).f2.f1)) ∧ w'.cell? ⟨(ad1419.add ((x5_1).toNat * 7)).block, (ad1419.add ((x5_1).toNat * 7)).off + 4, none⟩ = some (.int .i64 ((rd_T39 l0 x5_1).f2.f2)) ∧ w'.cell? ⟨(ad1419.add ((x5_1).toNat * 7)).block, (ad1419.add ((x5_1).toNat * 7)).off + 5, none⟩ = some (.int .i64 ((rd_T39 l0 x5_1).f2.f3)) ∧ w'.cell? ⟨(ad1419.add ((x5_1).toNat * 7)).block, (ad1419.add ((x5_1).toNat * 7)).off + 6, none⟩ = some (.int .i64 ((rd_T39 l0 x5_1).f2.f4)) ∧ w'.cell? (ad1420.add ((x5_1).toNat * 7)) = some (.int .i64 ((rd_T39 l1 x5_1).f0)) ∧ w'.cell? ⟨(ad1420.add ((x5_1).toNat * 7)).block, (ad1420.add ((x5_1).toNat * 7)).off + 1, none⟩ = some (.int .i64 ((rd_T39 l1 x5_1).f1)) ∧ w'.cell? ⟨(ad1420.add ((x5_1).toNat * 7)).block, (ad1420.add ((x5_1).toNat * 7)).off + 2, none⟩ = some (.int .i64 ((rd_T39 l1 x5_1).f2.f0)) ∧ w'.cell? ⟨(ad1420.add ((x5_1).toNat * 7)).block, (ad1420.add ((x5_1).toNat * 7)).off + 3, none⟩ = some (.int .i64 ((rd_T39 l1 x5_1).f2.f1)) ∧ w'.cell? ⟨(ad1420.add ((x5_1).toNat * 7)).block, (ad1420.add ((x5_1).toNat * 7)).off + 4, none⟩ = some (.int .i64 ((rd_T39 l1 x5_1).f2.f2)) ∧ w'.cell? ⟨(ad1420.add ((x5_1).toNat * 7)).block, (ad1420.add ((x5_1).toNat * 7)).off + 5, none⟩ = some (.int .i64 ((rd_T39 l1 x5_1).f2.f3)) ∧ w'.cell? ⟨(ad1420.add ((x5_1).toNat * 7)).block, (ad1420.add ((x5_1).toNat * 7)).off + 6, none⟩ = some (.int .i64 ((rd_T39 l1 x5_1).f2.f4))) (ds := []) laws_eqWalkS.mk0 (by kernel_rfl) rfl rfl ⟨(bc_ HB.out hw1419_0), (bc_ HB.out hw1419_1), (bc_ HB.out hw1419_2), (bc_ HB.out hw1419_3), (bc_ HB.out hw1419_4), (bc_ HB.out hw1419_5), (bc_ HB.out hw1419_6), (bc_ HB.out hw1420_0), (bc_ HB.out hw1420_1), (bc_ HB.out hw1420_2), (bc_ HB.out hw1420_3), (bc_ HB.out hw1420_4), (bc_ HB.out hw1420_5), (bc_ HB.out hw1420_6)⟩ (fun hHeld => ?_); refine with_tabW laws_eqWalkS.tab6 laws_eqWalkS.bits6 (fun HT_ HW_ => ?_); generalize wr.drew = w9 at HB hx1419_0 hx1419_1 hx1419_2 hx1419_3 hx1419_4 hx1419_5 hx1419_6 hx1420_0 hx1420_1 hx1420_2 hx1420_3 hx1420_4 hx1420_5 hx1420_6 hHeld ⊢; refine pz_ HT_ 0 (some 17) laws_eqWalkS.mk1 ?_; refine pz_ HT_ 1 (some 18) laws_eqWalkS.mk2 ?_; refine pz_ HT_ 2 (some 19) laws_eqWalkS.mk3 ?_; refine pz_ HT_ 4 (some 21) laws_eqWalkS.mk4 ?_; refine pz_ HT_ 5 (some 22) laws_eqWalkS.mk5 ?_; refine pz_ HT_ 6 (some 23) laws_eqWalkS.mk6 ?_; refine tk_ HT_ HW_ hHeld 3 (some 20) laws_eqWalkS.mk7 ?_; refine tk_ HT_ HW_ hHeld 7 (some 24) laws_eqWalkS.mk8 ?_; refine one_ (i := 8) (N := some 25) laws_eqWalkS.mk9 rfl rfl (one_of HT_.out (by kernel_rfl)) (by decide) (fun K hK => ?_); refine gs_ Try.func96 #[.agg #[.int .i64 ((rd_T39 l0 x5_1).f0), .int .i64 ((rd_T39 l0 x5_1).f1), .int .i64 ((rd_T39 l0 x5_1).f2.f0), .int .i64 ((rd_T39 l0 x5_1).f2.f1), .int .i64 ((rd_T39 l0 x5_1).f2.f2), .int .i64 ((rd_T39 l0 x5_1).f2.f3), .int .i64 ((rd_T39 l0 x5_1).f2.f4)], .agg #[.int .i64 ((rd_T39 l1 x5_1).f0), .int .i64 ((rd_T39 l1 x5_1).f1), .int .i64 ((rd_T39 l1 x5_1).f2.f0), .int .i64 ((rd_T39 l1 x5_1).f2.f1), .int .i64 ((rd_T39 l1 x5_1).f2.f2), .int .i64 ((rd_T39 l1 x5_1).f2.f3), .int .i64 ((rd_T39 l1 x5_1).f2.f4)]] ?_; (with_reducible refine (laws_eqWalk.calls ((rd_T39 l0 x5_1).f0) ((rd_T39 l0 x5_1).f1) ((rd_T39 l0 x5_1).f2.f0) ((rd_T39 l0 x5_1).f2.f1) ((rd_T39 l0 x5_1).f2.f2) ((rd_T39 l0 x5_1).f2.f3) ((rd_T39 l0 x5_1).f2.f4) ((rd_T39 l1 x5_1).f0) ((rd_T39 l1 x5_1).f1) ((rd_T39 l1 x5_1).f2.f0) ((rd_T39 l1 x5_1).f2.f1) ((rd_T39 l1 x5_1).f2.f2) ((rd_T39 l1 x5_1).f2.f3) ((rd_T39 l1 x5_1).f2.f4) true _ A7.out).mono ?_); rintro e w10 ⟨rfl, hb⟩; refine ⟨_, rfl, ?_⟩; replace HB := Aside0.mk (below_step (lb0_ HB.out) hb); (try clear hb); (try clear hb2); (try clear hk); (try clear hi); refine hK.out _ _ ⟨((HB.out.cell (World.block_lt_of_cell? w _ hw1419_0)).trans hw1419_0), ((HB.out.cell (World.block_lt_of_cell? w _ hw1419_1)).trans hw1419_1), ((HB.out.cell (World.block_lt_of_cell? w _ hw1419_2)).trans hw1419_2), ((HB.out.cell (World.block_lt_of_cell? w _ hw1419_3)).trans hw1419_3), ((HB.out.cell (World.block_lt_of_cell? w _ hw1419_4)).trans hw1419_4), ((HB.out.cell (World.block_lt_of_cell? w _ hw1419_5)).trans hw1419_5), ((HB.out.cell (World.block_lt_of_cell? w _ hw1419_6)).trans hw1419_6), ((HB.out.cell (World.block_lt_of_cell? w _ hw1420_0)).trans hw1420_0), ((HB.out.cell (World.block_lt_of_cell? w _ hw1420_1)).trans hw1420_1), ((HB.out.cell (World.block_lt_of_cell? w _ hw1420_2)).trans hw1420_2), ((HB.out.cell (World.block_lt_of_cell? w _ hw1420_3)).trans hw1420_3), ((HB.out.cell (World.block_lt_of_cell? w _ hw1420_4)).trans hw1420_4), ((HB.out.cell (World.block_lt_of_cell? w _ hw1420_5)).trans hw1420_5), ((HB.out.cell (World.block_lt_of_cell? w _ hw1420_6)).trans hw1420_6)⟩ (fun hHeld => ?_); clear hK K; refine na_ ?_; refine pz_ HT_ 9 (some 26) laws_eqWalkS.mk10 ?_; refine done_ (done_of HT_.out (by kernel_rfl)) ?_
        try go_wp2
        go_roundg k1
        case measure => have := HK1.out; omega
        case rel => exact ⟨(wrap64 (x5_1 + 1)), (by first | rfl | (simp; done) | (simp [*]; done)), H', ⟨by have := HK1.out; omega⟩, ⟨lb0_ HB.out⟩⟩
       ·
        replace c8 := Bool.eq_false_iff.mpr c8; subst c8
        have H1 : (some false) = some r := by rw [if_neg (show ¬ (false = true) by decide)] at H; exact H
        clear H; have H := H1; clear H1; obtain rfl := Option.some.inj H
        try go_wp2
        replace HB := Aside0.mk (below_drew1 HB.out); have p1419 : 0 ≤ (x5_1 : Int) := dt_; have q1419 : x5_1 < (l0.length : Int) := dt_; obtain ⟨ad1419, e1419, hx1419_0, hx1419_1, hx1419_2, hx1419_3, hx1419_4, hx1419_5, hx1419_6⟩ := at_T39 HR0.out x5_1 p1419 q1419; have hw1419_6 := hx1419_6; have hw1419_5 := hx1419_5; have hw1419_4 := hx1419_4; have hw1419_3 := hx1419_3; have hw1419_2 := hx1419_2; have hw1419_1 := hx1419_1; have hw1419_0 := hx1419_0
        cases e1419
        replace hx1419_0 := bc_ HB.out hx1419_0; replace hx1419_1 := bc_ HB.out hx1419_1; replace hx1419_2 := bc_ HB.out hx1419_2; replace hx1419_3 := bc_ HB.out hx1419_3; replace hx1419_4 := bc_ HB.out hx1419_4; replace hx1419_5 := bc_ HB.out hx1419_5; replace hx1419_6 := bc_ HB.out hx1419_6; replace p1419 := eq_true p1419; replace q1419 := eq_true q1419; have p1420 : 0 ≤ (x5_1 : Int) := dt_; have q1420 : x5_1 < (l1.length : Int) := dt_; obtain ⟨ad1420, e1420, hx1420_0, hx1420_1, hx1420_2, hx1420_3, hx1420_4, hx1420_5, hx1420_6⟩ := at_T39 HR1.out x5_1 p1420 q1420; have hw1420_6 := hx1420_6; have hw1420_5 := hx1420_5; have hw1420_4 := hx1420_4; have hw1420_3 := hx1420_3; have hw1420_2 := hx1420_2; have hw1420_1 := hx1420_1; have hw1420_0 := hx1420_0
        cases e1420
        replace hx1420_0 := bc_ HB.out hx1420_0; replace hx1420_1 := bc_ HB.out hx1420_1; replace hx1420_2 := bc_ HB.out hx1420_2; replace hx1420_3 := bc_ HB.out hx1420_3; replace hx1420_4 := bc_ HB.out hx1420_4; replace hx1420_5 := bc_ HB.out hx1420_5; replace hx1420_6 := bc_ HB.out hx1420_6; replace p1420 := eq_true p1420; replace q1420 := eq_true q1420; refine start_ (n := 10) (S := fun w' => w'.cell? (ad1419.add ((x5_1).toNat * 7)) = some (.int .i64 ((rd_T39 l0 x5_1).f0)) ∧ w'.cell? ⟨(ad1419.add ((x5_1).toNat * 7)).block, (ad1419.add ((x5_1).toNat * 7)).off + 1, none⟩ = some (.int .i64 ((rd_T39 l0 x5_1).f1)) ∧ w'.cell? ⟨(ad1419.add ((x5_1).toNat * 7)).block, (ad1419.add ((x5_1).toNat * 7)).off + 2, none⟩ = some (.int .i64 ((rd_T39 l0 x5_1).f2.f0)) ∧ w'.cell? ⟨(ad1419.add ((x5_1).toNat * 7)).block, (ad1419.add ((x5_1).toNat * 7)).off + 3, none⟩ = some (.int .i64 ((rd_T39 l0 x5_1).f2.f1)) ∧ w'.cell? ⟨(ad1419.add ((x5_1).toNat * 7)).block, (ad1419.add ((x5_1).toNat * 7)).off + 4, none⟩ = some (.int .i64 ((rd_T39 l0 x5_1).f2.f2)) ∧ w'.cell? ⟨(ad1419.add ((x5_1).toNat * 7)).block, (ad1419.add ((x5_1).toNat * 7)).off + 5, none⟩ = some (.int .i64 ((rd_T39 l0 x5_1).f2.f3)) ∧ w'.cell? ⟨(ad1419.add ((x5_1).toNat * 7)).block, (ad1419.add ((x5_1).toNat * 7)).off + 6, none⟩ = some (.int .i64 ((rd_T39 l0 x5_1).f2.f4)) ∧ w'.cell? (ad1420.add ((x5_1).toNat * 7)) = some (.int .i64 ((rd_T39 l1 x5_1).f0)) ∧ w'.cell? ⟨(ad1420.add ((x5_1).toNat * 7)).block, (ad1420.add ((x5_1).toNat * 7)).off + 1, none⟩ = some (.int .i64 ((rd_T39 l1 x5_1).f1)) ∧ w'.cell? ⟨(ad1420.add ((x5_1).toNat * 7)).block, (ad1420.add ((x5_1).toNat * 7)).off + 2, none⟩ = some (.int .i64 ((rd_T39 l1 x5_1).f2.f0)) ∧ w'.cell? ⟨(ad1420.add ((x5_1).toNat * 7)).block, (ad1420.add ((x5_1).toNat * 7)).off + 3, none⟩ = some (.int .i64 ((rd_T39 l1 x5_1).f2.f1)) ∧ w'.cell? ⟨(ad1420.add ((x5_1).toNat * 7)).block, (ad1420.add ((x5_1).toNat * 7)).off + 4, none⟩ = some (.int .i64 ((rd_T39 l1 x5_1).f2.f2)) ∧ w'.cell? ⟨(ad1420.add ((x5_1).toNat * 7)).block, (ad1420.add ((x5_1).toNat * 7)).off + 5, none⟩ = some (.int .i64 ((rd_T39 l1 x5_1).f2.f3)) ∧ w'.cell? ⟨(ad1420.add ((x5_1).toNat * 7)).block, (ad1420.add ((x5_1).toNat * 7)).off + 6, none⟩ = some (.int .i64 ((rd_T39 l1 x5_1).f2.f4))) (ds := []) laws_eqWalkS.mk0 (by kernel_rfl) rfl rfl ⟨(bc_ HB.out hw1419_0), (bc_ HB.out hw1419_1), (bc_ HB.out hw1419_2), (bc_ HB.out hw1419_3), (bc_ HB.out hw1419_4), (bc_ HB.out hw1419_5), (bc_ HB.out hw1419_6), (bc_ HB.out hw1420_0), (bc_ HB.out hw1420_1), (bc_ HB.out hw1420_2), (bc_ HB.out hw1420_3), (bc_ HB.out hw1420_4), (bc_ HB.out hw1420_5), (bc_ HB.out hw1420_6)⟩ (fun hHeld => ?_); refine with_tabW laws_eqWalkS.tab6 laws_eqWalkS.bits6 (fun HT_ HW_ => ?_); generalize wr.drew = w11 at HB hx1419_0 hx1419_1 hx1419_2 hx1419_3 hx1419_4 hx1419_5 hx1419_6 hx1420_0 hx1420_1 hx1420_2 hx1420_3 hx1420_4 hx1420_5 hx1420_6 hHeld ⊢; refine pz_ HT_ 0 (some 17) laws_eqWalkS.mk1 ?_; refine pz_ HT_ 1 (some 18) laws_eqWalkS.mk2 ?_; refine pz_ HT_ 2 (some 19) laws_eqWalkS.mk3 ?_; refine pz_ HT_ 4 (some 21) laws_eqWalkS.mk4 ?_; refine pz_ HT_ 5 (some 22) laws_eqWalkS.mk5 ?_; refine pz_ HT_ 6 (some 23) laws_eqWalkS.mk6 ?_; refine tk_ HT_ HW_ hHeld 3 (some 20) laws_eqWalkS.mk7 ?_; refine tk_ HT_ HW_ hHeld 7 (some 24) laws_eqWalkS.mk8 ?_; refine one_ (i := 8) (N := some 25) laws_eqWalkS.mk9 rfl rfl (one_of HT_.out (by kernel_rfl)) (by decide) (fun K hK => ?_); refine gs_ Try.func96 #[.agg #[.int .i64 ((rd_T39 l0 x5_1).f0), .int .i64 ((rd_T39 l0 x5_1).f1), .int .i64 ((rd_T39 l0 x5_1).f2.f0), .int .i64 ((rd_T39 l0 x5_1).f2.f1), .int .i64 ((rd_T39 l0 x5_1).f2.f2), .int .i64 ((rd_T39 l0 x5_1).f2.f3), .int .i64 ((rd_T39 l0 x5_1).f2.f4)], .agg #[.int .i64 ((rd_T39 l1 x5_1).f0), .int .i64 ((rd_T39 l1 x5_1).f1), .int .i64 ((rd_T39 l1 x5_1).f2.f0), .int .i64 ((rd_T39 l1 x5_1).f2.f1), .int .i64 ((rd_T39 l1 x5_1).f2.f2), .int .i64 ((rd_T39 l1 x5_1).f2.f3), .int .i64 ((rd_T39 l1 x5_1).f2.f4)]] ?_; (with_reducible refine (laws_eqWalk.calls ((rd_T39 l0 x5_1).f0) ((rd_T39 l0 x5_1).f1) ((rd_T39 l0 x5_1).f2.f0) ((rd_T39 l0 x5_1).f2.f1) ((rd_T39 l0 x5_1).f2.f2) ((rd_T39 l0 x5_1).f2.f3) ((rd_T39 l0 x5_1).f2.f4) ((rd_T39 l1 x5_1).f0) ((rd_T39 l1 x5_1).f1) ((rd_T39 l1 x5_1).f2.f0) ((rd_T39 l1 x5_1).f2.f1) ((rd_T39 l1 x5_1).f2.f2) ((rd_T39 l1 x5_1).f2.f3) ((rd_T39 l1 x5_1).f2.f4) false _ A7.out).mono ?_); rintro e w12 ⟨rfl, hb⟩; refine ⟨_, rfl, ?_⟩; replace HB := Aside0.mk (below_step (lb0_ HB.out) hb); (try clear hb); (try clear hb2); (try clear hk); (try clear hi); refine hK.out _ _ ⟨((HB.out.cell (World.block_lt_of_cell? w _ hw1419_0)).trans hw1419_0), ((HB.out.cell (World.block_lt_of_cell? w _ hw1419_1)).trans hw1419_1), ((HB.out.cell (World.block_lt_of_cell? w _ hw1419_2)).trans hw1419_2), ((HB.out.cell (World.block_lt_of_cell? w _ hw1419_3)).trans hw1419_3), ((HB.out.cell (World.block_lt_of_cell? w _ hw1419_4)).trans hw1419_4), ((HB.out.cell (World.block_lt_of_cell? w _ hw1419_5)).trans hw1419_5), ((HB.out.cell (World.block_lt_of_cell? w _ hw1419_6)).trans hw1419_6), ((HB.out.cell (World.block_lt_of_cell? w _ hw1420_0)).trans hw1420_0), ((HB.out.cell (World.block_lt_of_cell? w _ hw1420_1)).trans hw1420_1), ((HB.out.cell (World.block_lt_of_cell? w _ hw1420_2)).trans hw1420_2), ((HB.out.cell (World.block_lt_of_cell? w _ hw1420_3)).trans hw1420_3), ((HB.out.cell (World.block_lt_of_cell? w _ hw1420_4)).trans hw1420_4), ((HB.out.cell (World.block_lt_of_cell? w _ hw1420_5)).trans hw1420_5), ((HB.out.cell (World.block_lt_of_cell? w _ hw1420_6)).trans hw1420_6)⟩ (fun hHeld => ?_); clear hK K; refine na_ ?_; refine pz_ HT_ 9 (some 26) laws_eqWalkS.mk10 ?_; refine done_ (done_of HT_.out (by kernel_rfl)) ?_
        try go_wp2
        go_ret
        exact ⟨rr_, lb0_ HB.out⟩
      ·
       rw [if_neg c6] at H
       exact absurd H (by simp)
     ·
      rw [if_neg c5] at H
      exact absurd H (by simp)
    ·
     rw [if_neg c4] at H
     have c4b0 : decide (x5_1 < (l0.length : Int)) = false := decide_eq_false c4
     clear c4
     obtain rfl := Option.some.inj H
     go_wp2
     go_ret
     exact ⟨rr_, lb0_ HB.out⟩
 ·
  rw [if_neg c3] at H
  have c3b0 : ((l0.length : Int) == (l1.length : Int)) = false := beq_eq_false_iff_ne.mpr c3
  have c3b1 : ((l0.length : Int) != (l1.length : Int)) = true := bne_iff_ne.mpr c3
  have c3b2 : (l0.length == l1.length) = false := by first | simpa using c3 | (simp at c3 ⊢; omega)
  obtain rfl := Option.some.inj H
  go_enter Try.func53, Try.ntmps53
  go_wp2
  go_ret
  exact ⟨rr_, lb0_ HB.out⟩
def OwnOf (v : Value) (k : Nat) : Prop := some k = v.ownBlock
section
variable {W : World} {base : Nat} {P : Nat → Prop} {g n cap : Nat} {l : List S39}
theorem wsC_ (h : Kd.R k39 39 W base P (.slice (some ⟨g, 0, none⟩) n cap) l) (i : Int) (h0 : 0 ≤ i) (h1 : i < (n : Int)) (j : Nat) (hj : j < 7) : ∃ y : Int, W.cell? ⟨g, i.toNat * 7 + j, none⟩ = some (.int .i64 y) ∧ W.frozen? ⟨g, i.toNat * 7 + j, none⟩ = false := by
 obtain ⟨c, hcl, hM, hcc, hfr⟩ := Kd.R_elem h z39 i h0 h1
 obtain rfl := k39_openM hM
 have hc : ∀ j u, ([.int .i64 _, .int .i64 _, .int .i64 _, .int .i64 _, .int .i64 _, .int .i64 _, .int .i64 _] : List Value)[j]? = some u → W.cell? ⟨g, i.toNat * 7 + j, none⟩ = some u := hcc
 have hf : ∀ j, W.frozen? ⟨g, i.toNat * 7 + j, none⟩ = false := hfr
 obtain rfl | rfl | rfl | rfl | rfl | rfl | rfl : j = 0 ∨ j = 1 ∨ j = 2 ∨ j = 3 ∨ j = 4 ∨ j = 5 ∨ j = 6 := by omega
 ·
  exact ⟨_, hc 0 _ rfl, hf 0⟩
 ·
  exact ⟨_, hc 1 _ rfl, hf 1⟩
 ·
  exact ⟨_, hc 2 _ rfl, hf 2⟩
 ·
  exact ⟨_, hc 3 _ rfl, hf 3⟩
 ·
  exact ⟨_, hc 4 _ rfl, hf 4⟩
 ·
  exact ⟨_, hc 5 _ rfl, hf 5⟩
 ·
  exact ⟨_, hc 6 _ rfl, hf 6⟩
theorem wsS_ (h : Kd.R k39 39 W base P (.slice (some ⟨g, 0, none⟩) n cap) l) (i : Int) (h0 : 0 ≤ i) (h1 : i < (n : Int)) (j : Nat) (hj : j < 7) (z : Int) {q : Addr} (hq : q = ⟨g, i.toNat * 7 + j, none⟩) : ∃ l' : List S39, Kd.R k39 39 (W.setCell q (.int .i64 z)) base P (.slice (some ⟨g, 0, none⟩) n cap) l' ∧ W.grownBy (W.setCell q (.int .i64 z)) (some g) := by
 subst hq
 obtain ⟨c, hcl, hM, hcc, hfr⟩ := Kd.R_elem h z39 i h0 h1
 obtain rfl := k39_openM hM
 generalize l.getD i.toNat z39 = x at *
 obtain rfl | rfl | rfl | rfl | rfl | rfl | rfl : j = 0 ∨ j = 1 ∨ j = 2 ∨ j = 3 ∨ j = 4 ∨ j = 5 ∨ j = 6 := by omega
 ·
  exact ⟨_, Kd.R_seg h i h0 h1 (seg := [.int .i64 z]) (j := 0) hcl hcc (show 0 + 1 ≤ 7 from by decide) (x' := (⟨z, x.f1, ⟨x.f2.f0, x.f2.f1, x.f2.f2, x.f2.f3, x.f2.f4⟩⟩ : S39)) (k39_mkM _ _ _ (⟨z, x.f1, ⟨x.f2.f0, x.f2.f1, x.f2.f2, x.f2.f3, x.f2.f4⟩⟩ : S39)) (fun _ hk => hk)⟩
 ·
  exact ⟨_, Kd.R_seg h i h0 h1 (seg := [.int .i64 z]) (j := 1) hcl hcc (show 1 + 1 ≤ 7 from by decide) (x' := (⟨x.f0, z, ⟨x.f2.f0, x.f2.f1, x.f2.f2, x.f2.f3, x.f2.f4⟩⟩ : S39)) (k39_mkM _ _ _ (⟨x.f0, z, ⟨x.f2.f0, x.f2.f1, x.f2.f2, x.f2.f3, x.f2.f4⟩⟩ : S39)) (fun _ hk => hk)⟩
 ·
  exact ⟨_, Kd.R_seg h i h0 h1 (seg := [.int .i64 z]) (j := 2) hcl hcc (show 2 + 1 ≤ 7 from by decide) (x' := (⟨x.f0, x.f1, ⟨z, x.f2.f1, x.f2.f2, x.f2.f3, x.f2.f4⟩⟩ : S39)) (k39_mkM _ _ _ (⟨x.f0, x.f1, ⟨z, x.f2.f1, x.f2.f2, x.f2.f3, x.f2.f4⟩⟩ : S39)) (fun _ hk => hk)⟩
 ·
  exact ⟨_, Kd.R_seg h i h0 h1 (seg := [.int .i64 z]) (j := 3) hcl hcc (show 3 + 1 ≤ 7 from by decide) (x' := (⟨x.f0, x.f1, ⟨x.f2.f0, z, x.f2.f2, x.f2.f3, x.f2.f4⟩⟩ : S39)) (k39_mkM _ _ _ (⟨x.f0, x.f1, ⟨x.f2.f0, z, x.f2.f2, x.f2.f3, x.f2.f4⟩⟩ : S39)) (fun _ hk => hk)⟩
 ·
  exact ⟨_, Kd.R_seg h i h0 h1 (seg := [.int .i64 z]) (j := 4) hcl hcc (show 4 + 1 ≤ 7 from by decide) (x' := (⟨x.f0, x.f1, ⟨x.f2.f0, x.f2.f1, z, x.f2.f3, x.f2.f4⟩⟩ : S39)) (k39_mkM _ _ _ (⟨x.f0, x.f1, ⟨x.f2.f0, x.f2.f1, z, x.f2.f3, x.f2.f4⟩⟩ : S39)) (fun _ hk => hk)⟩
 ·
  exact ⟨_, Kd.R_seg h i h0 h1 (seg := [.int .i64 z]) (j := 5) hcl hcc (show 5 + 1 ≤ 7 from by decide) (x' := (⟨x.f0, x.f1, ⟨x.f2.f0, x.f2.f1, x.f2.f2, z, x.f2.f4⟩⟩ : S39)) (k39_mkM _ _ _ (⟨x.f0, x.f1, ⟨x.f2.f0, x.f2.f1, x.f2.f2, z, x.f2.f4⟩⟩ : S39)) (fun _ hk => hk)⟩
 ·
  exact ⟨_, Kd.R_seg h i h0 h1 (seg := [.int .i64 z]) (j := 6) hcl hcc (show 6 + 1 ≤ 7 from by decide) (x' := (⟨x.f0, x.f1, ⟨x.f2.f0, x.f2.f1, x.f2.f2, x.f2.f3, z⟩⟩ : S39)) (k39_mkM _ _ _ (⟨x.f0, x.f1, ⟨x.f2.f0, x.f2.f1, x.f2.f2, x.f2.f3, z⟩⟩ : S39)) (fun _ hk => hk)⟩
end
set_option maxHeartbeats 64000000 in
set_option maxRecDepth 100000 in
theorem laws_markWalkS.calls (P : Nat → Prop) (v : Value) (l : List S39) (a : Int) (w0 w : World) (hB : Below w0.heap.size w0 w) (hR : Kd.R k39 39 w w0.heap.size P v l) (ha : 0 ≤ a) (hl : a + 7 * (l.length : Int) ≤ 4611686018427387904) :
  Calls Try.prog 54 #[v, .int .i64 a] w fun e w' => e = .returned (.int .i64 (a + 7 * (l.length : Int))) ∧ Below w0.heap.size w0 w' ∧ Kept w w' (OwnOf v) := by
 have hu39 := Try.underlying39
 have hu37 := Try.underlying37
 obtain ⟨A, c, rfl⟩ := Kd.R_slice hR
 obtain ⟨n, hn⟩ : ∃ n, l.length = n := ⟨_, rfl⟩
 rw [hn] at hl ⊢
 have HR0 := Aside0.mk (show ∃ l', l'.length = n ∧ Kd.R k39 39 w w0.heap.size P (.slice A n c) l' from ⟨l, hn, by rw [← hn]; exact hR⟩)
 have HB0 := Aside0.mk hB
 have HK0 := Aside0.mk (Kept.refl w (OwnOf (.slice A n c)))
 have HA := Aside0.mk ha
 have HL := Aside0.mk hl
 clear hR hB hn ha hl
 go_enter Try.func54, Try.ntmps54
 go_wp2
 go_loopg [1, 5] n (fun gg v1 v5 wr => ∃ i m : Int, v1 = .int .i64 m ∧ v5 = .int .i64 i ∧ Aside0 (0 ≤ i ∧ i ≤ (n : Int) ∧ (n : Int) - i ≤ (gg : Int) ∧ m = a + 7 * i) ∧ Aside0 (∃ l', Kd.R k39 39 wr w0.heap.size P (.slice A n c) l') ∧ Aside0 (Below w0.heap.size w0 wr) ∧ Aside0 (Kept w wr (OwnOf (.slice A n c))))
 case atStart => exact ⟨0, a, rfl, rfl, ⟨by omega, by omega, by omega, by omega⟩, ⟨HR0.out.elim fun l' h => ⟨l', h.2⟩⟩, HB0, HK0⟩
 case round =>
  clear HR0 HB0 HK0
  obtain ⟨i, m0, rfl, rfl, HQ, HR1, HB, HK⟩ := hrel
  have h0 := HQ.out.1
  by_cases hlt : i < (n : Int)
  ·
   obtain ⟨l1, hr1⟩ := HR1.out
   have hln := (Kd.R_reads' hr1).1
   obtain ⟨g, cap, eo, hgb, hgl, _⟩ := Kd.R_form hr1 (by omega)
   injection eo with ea en ec
   clear en ec
   subst ea
   have HR := Aside0.mk hr1
   have HG := Aside0.mk hgb
   have HI := Aside0.mk (show 0 ≤ i ∧ i < (n : Int) from ⟨h0, hlt⟩)
   clear hr1 hgb hgl hln HR1
   obtain ⟨m1, hm1⟩ : ∃ x, x = m0 + 1 := ⟨_, rfl⟩
   have hw1 : wrap64 (m0 + 1) = m1 := by have := HQ.out; have := HL.out; have := HA.out; unfold wrap64; omega
   obtain ⟨m2, hm2⟩ : ∃ x, x = m1 + 1 := ⟨_, rfl⟩
   have hw2 : wrap64 (m1 + 1) = m2 := by have := HQ.out; have := HL.out; have := HA.out; unfold wrap64; omega
   obtain ⟨m3, hm3⟩ : ∃ x, x = m2 + 1 := ⟨_, rfl⟩
   have hw3 : wrap64 (m2 + 1) = m3 := by have := HQ.out; have := HL.out; have := HA.out; unfold wrap64; omega
   obtain ⟨m4, hm4⟩ : ∃ x, x = m3 + 1 := ⟨_, rfl⟩
   have hw4 : wrap64 (m3 + 1) = m4 := by have := HQ.out; have := HL.out; have := HA.out; unfold wrap64; omega
   obtain ⟨m5, hm5⟩ : ∃ x, x = m4 + 1 := ⟨_, rfl⟩
   have hw5 : wrap64 (m4 + 1) = m5 := by have := HQ.out; have := HL.out; have := HA.out; unfold wrap64; omega
   obtain ⟨m6, hm6⟩ : ∃ x, x = m5 + 1 := ⟨_, rfl⟩
   have hw6 : wrap64 (m5 + 1) = m6 := by have := HQ.out; have := HL.out; have := HA.out; unfold wrap64; omega
   obtain ⟨m7, hm7⟩ : ∃ x, x = m6 + 1 := ⟨_, rfl⟩
   have hw7 : wrap64 (m6 + 1) = m7 := by have := HQ.out; have := HL.out; have := HA.out; unfold wrap64; omega
   have hwi : wrap64 (i + 1) = i + 1 := by have := HL.out; have := HA.out; unfold wrap64; omega
   have HM := Aside0.mk (show m7 = a + 7 * (i + 1) from by have := HQ.out; omega)
   clear hm1 hm2 hm3 hm4 hm5 hm6 hm7
   have q0 : (0 ≤ i) = True := eq_true h0
   have q1 : (i < (n : Int)) = True := eq_true hlt
   have q0' : decide (0 ≤ i) = true := decide_eq_true h0
   have q1' : decide (i < (n : Int)) = true := decide_eq_true hlt
   clear h0 hlt
   obtain ⟨y, hx, hf⟩ := wsC_ HR.out i HI.out.1 HI.out.2 0 (by decide)
   replace hx : wr.cell? ⟨g, i.toNat * 7, none⟩ = some (.int .i64 y) := hx
   replace hf : wr.frozen? ⟨g, i.toNat * 7, none⟩ = false := hf
   go_wp2_with (first | ((with_reducible refine gate_store (t := 3) (p := 16) rfl ?_); refine store_event (t := 3) (p := 16) (v := ?vo_0) (w1 := (wr.setCell ⟨g, i.toNat * 7, none⟩ (.int .i64 m0))) ?hg ?ho ?hn ?hr ?_; (case ho => rfl); (case hg => rfl); (case hn => rfl); (case hr => first | (go_simp; done) | (go_simp; rfl)); intro w1 hw; clear hx hf; obtain ⟨l2, hr2, hg2⟩ := wsS_ HR.out i HI.out.1 HI.out.2 0 (by decide) m0 (q := ⟨g, i.toNat * 7, none⟩) rfl; rw [← hw] at hr2 hg2; replace HB := Aside0.mk (show Below w0.heap.size w0 w1 from by rw [hw]; exact below_set HB.out HG.out); replace HK := Aside0.mk (Kept.of_grown (S := OwnOf (.slice (some ⟨g, 0, none⟩) n c)) hg2 HK.out (fun k e => .inl (by injection e with e; subst e; exact rfl))); replace HR := Aside0.mk hr2; clear hr2 hg2 hw; obtain ⟨y, hx, hf⟩ := wsC_ HR.out i HI.out.1 HI.out.2 1 (by decide)) | ((with_reducible refine gate_store (t := 3) (p := 23) rfl ?_); refine store_event (t := 3) (p := 23) (v := ?vo_1) (w1 := (w1.setCell ⟨g, i.toNat * 7 + 1, none⟩ (.int .i64 m1))) ?hg ?ho ?hn ?hr ?_; (case ho => rfl); (case hg => rfl); (case hn => rfl); (case hr => first | (go_simp; done) | (go_simp; rfl)); intro w2 hw; clear hx hf; obtain ⟨l2, hr2, hg2⟩ := wsS_ HR.out i HI.out.1 HI.out.2 1 (by decide) m1 (q := ⟨g, i.toNat * 7 + 1, none⟩) rfl; rw [← hw] at hr2 hg2; replace HB := Aside0.mk (show Below w0.heap.size w0 w2 from by rw [hw]; exact below_set HB.out HG.out); replace HK := Aside0.mk (Kept.of_grown (S := OwnOf (.slice (some ⟨g, 0, none⟩) n c)) hg2 HK.out (fun k e => .inl (by injection e with e; subst e; exact rfl))); replace HR := Aside0.mk hr2; clear hr2 hg2 hw; obtain ⟨y, hx, hf⟩ := wsC_ HR.out i HI.out.1 HI.out.2 2 (by decide)) | ((with_reducible refine gate_store (t := 3) (p := 31) rfl ?_); refine store_event (t := 3) (p := 31) (v := ?vo_2) (w1 := (w2.setCell ⟨g, i.toNat * 7 + 2, none⟩ (.int .i64 m2))) ?hg ?ho ?hn ?hr ?_; (case ho => rfl); (case hg => rfl); (case hn => rfl); (case hr => first | (go_simp; done) | (go_simp; rfl)); intro w3 hw; clear hx hf; obtain ⟨l2, hr2, hg2⟩ := wsS_ HR.out i HI.out.1 HI.out.2 2 (by decide) m2 (q := ⟨g, i.toNat * 7 + 2, none⟩) rfl; rw [← hw] at hr2 hg2; replace HB := Aside0.mk (show Below w0.heap.size w0 w3 from by rw [hw]; exact below_set HB.out HG.out); replace HK := Aside0.mk (Kept.of_grown (S := OwnOf (.slice (some ⟨g, 0, none⟩) n c)) hg2 HK.out (fun k e => .inl (by injection e with e; subst e; exact rfl))); replace HR := Aside0.mk hr2; clear hr2 hg2 hw; obtain ⟨y, hx, hf⟩ := wsC_ HR.out i HI.out.1 HI.out.2 3 (by decide)) | ((with_reducible refine gate_store (t := 3) (p := 39) rfl ?_); refine store_event (t := 3) (p := 39) (v := ?vo_3) (w1 := (w3.setCell ⟨g, i.toNat * 7 + 3, none⟩ (.int .i64 m3))) ?hg ?ho ?hn ?hr ?_; (case ho => rfl); (case hg => rfl); (case hn => rfl); (case hr => first | (go_simp; done) | (go_simp; rfl)); intro w4 hw; clear hx hf; obtain ⟨l2, hr2, hg2⟩ := wsS_ HR.out i HI.out.1 HI.out.2 3 (by decide) m3 (q := ⟨g, i.toNat * 7 + 3, none⟩) rfl; rw [← hw] at hr2 hg2; replace HB := Aside0.mk (show Below w0.heap.size w0 w4 from by rw [hw]; exact below_set HB.out HG.out); replace HK := Aside0.mk (Kept.of_grown (S := OwnOf (.slice (some ⟨g, 0, none⟩) n c)) hg2 HK.out (fun k e => .inl (by injection e with e; subst e; exact rfl))); replace HR := Aside0.mk hr2; clear hr2 hg2 hw; obtain ⟨y, hx, hf⟩ := wsC_ HR.out i HI.out.1 HI.out.2 4 (by decide)) | ((with_reducible refine gate_store (t := 3) (p := 47) rfl ?_); refine store_event (t := 3) (p := 47) (v := ?vo_4) (w1 := (w4.setCell ⟨g, i.toNat * 7 + 4, none⟩ (.int .i64 m4))) ?hg ?ho ?hn ?hr ?_; (case ho => rfl); (case hg => rfl); (case hn => rfl); (case hr => first | (go_simp; done) | (go_simp; rfl)); intro w5 hw; clear hx hf; obtain ⟨l2, hr2, hg2⟩ := wsS_ HR.out i HI.out.1 HI.out.2 4 (by decide) m4 (q := ⟨g, i.toNat * 7 + 4, none⟩) rfl; rw [← hw] at hr2 hg2; replace HB := Aside0.mk (show Below w0.heap.size w0 w5 from by rw [hw]; exact below_set HB.out HG.out); replace HK := Aside0.mk (Kept.of_grown (S := OwnOf (.slice (some ⟨g, 0, none⟩) n c)) hg2 HK.out (fun k e => .inl (by injection e with e; subst e; exact rfl))); replace HR := Aside0.mk hr2; clear hr2 hg2 hw; obtain ⟨y, hx, hf⟩ := wsC_ HR.out i HI.out.1 HI.out.2 5 (by decide)) | ((with_reducible refine gate_store (t := 3) (p := 55) rfl ?_); refine store_event (t := 3) (p := 55) (v := ?vo_5) (w1 := (w5.setCell ⟨g, i.toNat * 7 + 5, none⟩ (.int .i64 m5))) ?hg ?ho ?hn ?hr ?_; (case ho => rfl); (case hg => rfl); (case hn => rfl); (case hr => first | (go_simp; done) | (go_simp; rfl)); intro w6 hw; clear hx hf; obtain ⟨l2, hr2, hg2⟩ := wsS_ HR.out i HI.out.1 HI.out.2 5 (by decide) m5 (q := ⟨g, i.toNat * 7 + 5, none⟩) rfl; rw [← hw] at hr2 hg2; replace HB := Aside0.mk (show Below w0.heap.size w0 w6 from by rw [hw]; exact below_set HB.out HG.out); replace HK := Aside0.mk (Kept.of_grown (S := OwnOf (.slice (some ⟨g, 0, none⟩) n c)) hg2 HK.out (fun k e => .inl (by injection e with e; subst e; exact rfl))); replace HR := Aside0.mk hr2; clear hr2 hg2 hw; obtain ⟨y, hx, hf⟩ := wsC_ HR.out i HI.out.1 HI.out.2 6 (by decide)) | ((with_reducible refine gate_store (t := 3) (p := 63) rfl ?_); refine store_event (t := 3) (p := 63) (v := ?vo_6) (w1 := (w6.setCell ⟨g, i.toNat * 7 + 6, none⟩ (.int .i64 m6))) ?hg ?ho ?hn ?hr ?_; (case ho => rfl); (case hg => rfl); (case hn => rfl); (case hr => first | (go_simp; done) | (go_simp; rfl)); intro w7 hw; clear hx hf; obtain ⟨l2, hr2, hg2⟩ := wsS_ HR.out i HI.out.1 HI.out.2 6 (by decide) m6 (q := ⟨g, i.toNat * 7 + 6, none⟩) rfl; rw [← hw] at hr2 hg2; replace HB := Aside0.mk (show Below w0.heap.size w0 w7 from by rw [hw]; exact below_set HB.out HG.out); replace HK := Aside0.mk (Kept.of_grown (S := OwnOf (.slice (some ⟨g, 0, none⟩) n c)) hg2 HK.out (fun k e => .inl (by injection e with e; subst e; exact rfl))); replace HR := Aside0.mk hr2; clear hr2 hg2 hw))
   go_roundg (n - (i + 1).toNat)
   case measure => have := HQ.out; have := HI.out; omega
   case rel => exact ⟨i + 1, m7, by first | rfl | go_num, by first | rfl | go_num, ⟨by have := HI.out; omega, by have := HI.out; omega, by have := HI.out; omega, HM.out⟩, ⟨_, HR.out⟩, HB, HK⟩
  ·
   have q1 : (i < (n : Int)) = False := eq_false hlt
   have q1' : decide (i < (n : Int)) = false := decide_eq_false hlt
   have e1 := HQ.out
   obtain rfl : i = (n : Int) := by omega
   obtain rfl : m0 = a + 7 * (n : Int) := by omega
   clear e1 hlt h0
   go_wp2
   go_ret
   exact ⟨rfl, HB.out, HK.out⟩
theorem drawnBelow_ {w w' : World} (h : Drawn0 w w') : Below w.heap.size w w' := by
 obtain ⟨n, rfl⟩ := h.out
 exact pw_below_drewN (Below.refl _ _) n
theorem own_lt_ {α : Type} {d : Kd α} {e B : Nat} {W : World} {P : Nat → Prop} {v : Value} {xs : List α} (h : d.R e W B P v xs) {k : Nat} (hk : OwnOf v k) : P k := h.1 k hk.symm
theorem own_blk_ {α : Type} {d : Kd α} {e B : Nat} {W W' : World} {P : Nat → Prop} {v : Value} {xs : List α} (h : d.R e W B P v xs) (hk : Kept W W' (OwnOf v)) {g t : Nat} {cs : Array Value} (hb : W.heap[g]? = some (.cells cs t (0, 0))) (h1 : e ≠ t) : W'.heap[g]? = some (.cells cs t (0, 0)) := by
 refine (hk.2 g (blk_lt hb) (fun hs => ?_)).trans hb
 obtain ⟨q, hx⟩ := Kd.R_typed h g hs.symm
 rw [hb] at hx
 injection hx with hx
 injection hx with _ hx
 exact h1 hx.symm
structure XR (w : World) (lo : Nat) (P : Nat → Prop) (v0 v1 v2 : Value) (L : List S37) (V D : List Bool) : Prop where
 rL : Kd.R k37 37 w lo P v0 L
 rV : Kd.R Kd.bool 4 w lo (fun k => P k ∧ some k ≠ v2.ownBlock) v1 V
 rD : Kd.R Kd.bool 4 w lo (fun k => P k ∧ some k ≠ v1.ownBlock) v2 D
structure X3 (w : World) (lo : Nat) (v0 v1 v2 : Value) (L : List S37) (V D : List Bool) : Prop where
 rL : Kd.R k37 37 w lo (fun _ => True) v0 L
 rV : Kd.R Kd.bool 4 w lo (fun _ => True) v1 V
 rD : Kd.R Kd.bool 4 w lo (fun _ => True) v2 D
section
variable {w w' w1 : World} {lo : Nat} {P : Nat → Prop} {v0 v1 v2 : Value} {L : List S37} {V D : List Bool}
theorem XR.of (hlo : lo ≤ w.heap.size) (h0 : Kd.R k37 37 w' w.heap.size (fun _ => True) v0 L) (h1 : Kd.R Kd.bool 4 w' w.heap.size (fun k => some k ≠ v2.ownBlock) v1 V) (h2 : Kd.R Kd.bool 4 w' w.heap.size (fun k => some k ≠ v1.ownBlock) v2 D) : XR w' lo (fun _ => True) v0 v1 v2 L V D :=
 ⟨Kd.R_lower h0 hlo, Kd.R_mono (Kd.R_lower h1 hlo) (fun _ h => ⟨trivial, h⟩), Kd.R_mono (Kd.R_lower h2 hlo) (fun _ h => ⟨trivial, h⟩)⟩
theorem XR.below (h : XR w lo P v0 v1 v2 L V D) (hb : Below w.heap.size w w') : XR w' lo P v0 v1 v2 L V D := ⟨Kd.R_below h.rL hb, Kd.R_below h.rV hb, Kd.R_below h.rD hb⟩
theorem X3.below (h : X3 w lo v0 v1 v2 L V D) (hb : Below w.heap.size w w') : X3 w' lo v0 v1 v2 L V D := ⟨Kd.R_below h.rL hb, Kd.R_below h.rV hb, Kd.R_below h.rD hb⟩
theorem XR.bound (h : XR w lo P v0 v1 v2 L V D) : XR w lo (fun k => lo ≤ k ∧ k < w.heap.size) v0 v1 v2 L V D :=
 ⟨Kd.R_mono (Kd.R_bound h.rL) (fun _ hk => ⟨hk.2.1, hk.2.2.1⟩), Kd.R_mono (Kd.R_bound h.rV) (fun _ hk => ⟨⟨hk.2.1, hk.2.2.1⟩, hk.1.2⟩), Kd.R_mono (Kd.R_bound h.rD) (fun _ hk => ⟨⟨hk.2.1, hk.2.2.1⟩, hk.1.2⟩)⟩
theorem XR.kept {S : Nat → Prop} (h : XR w lo P v0 v1 v2 L V D) (hk : Kept w w' S) (hne : ∀ k, P k → ¬ S k) : XR w' lo P v0 v1 v2 L V D :=
 ⟨Kd.R_kept h.rL hk hne, Kd.R_kept h.rV hk (fun k hk => hne k hk.1), Kd.R_kept h.rD hk (fun k hk => hne k hk.1)⟩
theorem XR.x3 (h : XR w lo P v0 v1 v2 L V D) : X3 w lo v0 v1 v2 L V D := ⟨Kd.R_mono h.rL (fun _ _ => trivial), Kd.R_mono h.rV (fun _ _ => trivial), Kd.R_mono h.rD (fun _ _ => trivial)⟩
def XOwn (v0 v1 v2 : Value) (k : Nat) : Prop := some k = v0.ownBlock ∨ some k = v1.ownBlock ∨ some k = v2.ownBlock
theorem XR.own (h : XR w lo P v0 v1 v2 L V D) {k : Nat} (hk : XOwn v0 v1 v2 k) : P k := hk.elim (fun e => h.rL.1 k e.symm) (fun e => e.elim (fun e => (h.rV.1 k e.symm).1) (fun e => (h.rD.1 k e.symm).1))
theorem XR.blk (h : XR w lo P v0 v1 v2 L V D) (hk : Kept w w' (XOwn v0 v1 v2)) {g t : Nat} {cs : Array Value} (hb : w.heap[g]? = some (.cells cs t (0, 0))) (h1 : 37 ≠ t) (h2 : 4 ≠ t) : w'.heap[g]? = some (.cells cs t (0, 0)) := by
 refine (hk.2 g (blk_lt hb) ?_).trans hb
 intro hs
 rcases hs with e | e | e
 ·
  obtain ⟨q, hx⟩ := Kd.R_typed h.rL g e.symm
  rw [hb] at hx
  injection hx with hx
  injection hx with _ hx
  exact h1 hx.symm
 ·
  obtain ⟨q, hx⟩ := Kd.R_typed h.rV g e.symm
  rw [hb] at hx
  injection hx with hx
  injection hx with _ hx
  exact h2 hx.symm
 ·
  obtain ⟨q, hx⟩ := Kd.R_typed h.rD g e.symm
  rw [hb] at hx
  injection hx with hx
  injection hx with _ hx
  exact h2 hx.symm
end
theorem wallS_ (k : Nat) {w : World} {lo lo' : Nat} {P : Nat → Prop} {v0 v1 v2 z : Value} {L : List S37} {V D : List Bool} {l : List S39} (h : X3 w lo v0 v1 v2 L V D) (hl : Kd.R k39 39 w lo' P z l) (x4 x5 : Int) (u1 : List S37) (u2 u3 : List Bool) (u4 u5 u6 : Int) (u7 : Bool) (hf : spec_WalkAll.f k L V D x4 x5 l = some (u1, u2, u3, u4, u5, u6, u7)) :
  Calls Try.prog 30 #[.agg #[v0, v1, v2, .int .i64 x4, .int .i64 x5], z] w fun e w' => ∃ (A0 A1 A2 : Option Addr) (c0 c1 c2 : Nat), e = .returned (.tuple #[.agg #[.slice A0 u1.length c0, .slice A1 u2.length c1, .slice A2 u3.length c2, .int .i64 u4, .int .i64 u5], .int .i64 u6, .bool u7]) ∧ XR w' w.heap.size (fun k => w.heap.size ≤ k ∧ k < w'.heap.size) (.slice A0 u1.length c0) (.slice A1 u2.length c1) (.slice A2 u3.length c2) u1 u2 u3 ∧ Below w.heap.size w w' := by
 obtain ⟨A0, c0, rfl⟩ := Kd.R_slice h.rL
 obtain ⟨A1, c1, rfl⟩ := Kd.R_slice h.rV
 obtain ⟨A2, c2, rfl⟩ := Kd.R_slice h.rD
 obtain ⟨A3, c3, rfl⟩ := Kd.R_slice hl
 refine (spec_WalkAll.calls k _ _ L _ _ V _ _ D x4 x5 _ _ l u1 u2 u3 u4 u5 u6 u7 w (Kd.R_reads' h.rL).2.2 (Kd.R_reads' h.rL).2.1 (Kd.R_reads' h.rV).2.2 (Kd.R_reads' h.rV).2.1 (Kd.R_reads' h.rD).2.2 (Kd.R_reads' h.rD).2.1 (Kd.R_reads' hl).2.2 (Kd.R_reads' hl).2.1 hf).mono ?_
 rintro e w' ⟨r0, r1, r2, rfl, h0, h1, h2, hb⟩
 obtain ⟨B0, d0, rfl⟩ := Kd.R_slice h0
 obtain ⟨B1, d1, rfl⟩ := Kd.R_slice h1
 obtain ⟨B2, d2, rfl⟩ := Kd.R_slice h2
 exact ⟨_, _, _, _, _, _, rfl, (XR.of (Nat.le_refl _) h0 h1 h2).bound, hb⟩
theorem wallI_ (k : Nat) {w : World} {lo lo' : Nat} {P : Nat → Prop} {v0 v1 v2 z : Value} {L : List S37} {V D : List Bool} {l : List S39} (h : X3 w lo v0 v1 v2 L V D) (hl : Kd.R k39 39 w lo' P z l) (x4 x5 : Int) (u1 : List S37) (u2 u3 : List Bool) (u4 u5 u6 : Int) (u7 : Bool) (hf : impl_WalkAll.f k L V D x4 x5 l = some (u1, u2, u3, u4, u5, u6, u7)) :
  Calls Try.prog 29 #[.agg #[v0, v1, v2, .int .i64 x4, .int .i64 x5], z] w fun e w' => ∃ (A0 A1 A2 : Option Addr) (c0 c1 c2 : Nat), e = .returned (.tuple #[.agg #[.slice A0 u1.length c0, .slice A1 u2.length c1, .slice A2 u3.length c2, .int .i64 u4, .int .i64 u5], .int .i64 u6, .bool u7]) ∧ XR w' w.heap.size (fun k => w.heap.size ≤ k ∧ k < w'.heap.size) (.slice A0 u1.length c0) (.slice A1 u2.length c1) (.slice A2 u3.length c2) u1 u2 u3 ∧ Below w.heap.size w w' := by
 obtain ⟨A0, c0, rfl⟩ := Kd.R_slice h.rL
 obtain ⟨A1, c1, rfl⟩ := Kd.R_slice h.rV
 obtain ⟨A2, c2, rfl⟩ := Kd.R_slice h.rD
 obtain ⟨A3, c3, rfl⟩ := Kd.R_slice hl
 refine (impl_WalkAll.calls k _ _ L _ _ V _ _ D x4 x5 _ _ l u1 u2 u3 u4 u5 u6 u7 w (Kd.R_reads' h.rL).2.2 (Kd.R_reads' h.rL).2.1 (Kd.R_reads' h.rV).2.2 (Kd.R_reads' h.rV).2.1 (Kd.R_reads' h.rD).2.2 (Kd.R_reads' h.rD).2.1 (Kd.R_reads' hl).2.2 (Kd.R_reads' hl).2.1 hf).mono ?_
 rintro e w' ⟨r0, r1, r2, rfl, h0, h1, h2, hb⟩
 obtain ⟨B0, d0, rfl⟩ := Kd.R_slice h0
 obtain ⟨B1, d1, rfl⟩ := Kd.R_slice h1
 obtain ⟨B2, d2, rfl⟩ := Kd.R_slice h2
 exact ⟨_, _, _, _, _, _, rfl, (XR.of (Nat.le_refl _) h0 h1 h2).bound, hb⟩
theorem toXX_ (k : Nat) (A0_0 : Option Addr) (c0_0 : Nat) (l0_0 : List S65) (A0_1 : Option Addr) (c0_1 : Nat) (l0_1 : List Bool) (A0_2 : Option Addr) (c0_2 : Nat) (l0_2 : List Bool) (a0_3 a0_4 : Int) (x1 : List S37) (x2 x3 : List Bool) (x4 x5 : Int) (w : World) (h0 : Kd.C k65 w A0_0 l0_0.length l0_0) (g0 : l0_0.length ≤ c0_0) (h1 : Kd.C Kd.bool w A0_1 l0_1.length l0_1) (g1 : l0_1.length ≤ c0_1) (h2 : Kd.C Kd.bool w A0_2 l0_2.length l0_2) (g2 : l0_2.length ≤ c0_2) (hf : laws_toExploration.f k l0_0 l0_1 l0_2 a0_3 a0_4 = some (x1, x2, x3, x4, x5)) :
  Calls Try.prog 17 #[.agg #[.slice A0_0 l0_0.length c0_0, .slice A0_1 l0_1.length c0_1, .slice A0_2 l0_2.length c0_2, .int .i64 a0_3, .int .i64 a0_4]] w fun e w' => ∃ (A0 A1 A2 : Option Addr) (c0 c1 c2 : Nat), e = .returned (.agg #[.slice A0 x1.length c0, .slice A1 x2.length c1, .slice A2 x3.length c2, .int .i64 x4, .int .i64 x5]) ∧ XR w' w.heap.size (fun k => w.heap.size ≤ k ∧ k < w'.heap.size) (.slice A0 x1.length c0) (.slice A1 x2.length c1) (.slice A2 x3.length c2) x1 x2 x3 ∧ Below w.heap.size w w' := by
 refine (laws_toExploration.calls k _ _ l0_0 _ _ l0_1 _ _ l0_2 a0_3 a0_4 x1 x2 x3 x4 x5 w h0 g0 h1 g1 h2 g2 hf).mono ?_
 rintro e w' ⟨r0, r1, r2, rfl, h0, h1, h2, hb⟩
 obtain ⟨B0, d0, rfl⟩ := Kd.R_slice h0
 obtain ⟨B1, d1, rfl⟩ := Kd.R_slice h1
 obtain ⟨B2, d2, rfl⟩ := Kd.R_slice h2
 exact ⟨_, _, _, _, _, _, rfl, (XR.of (Nat.le_refl _) h0 h1 h2).bound, hb⟩
theorem toWW_ (k : Nat) (A1 : Option Addr) (c1 : Nat) (l1 : List S67) (y : List S39) (w : World) (h : Kd.C k67 w A1 l1.length l1) (g : l1.length ≤ c1) (hf : laws_toWalkS.f k l1 = some y) :
  Calls Try.prog 52 #[.slice A1 l1.length c1] w fun e w' => ∃ (A0 : Option Addr) (c0 : Nat), e = .returned (.slice A0 y.length c0) ∧ Kd.R k39 39 w' w.heap.size (fun k => w.heap.size ≤ k ∧ k < w'.heap.size) (.slice A0 y.length c0) y ∧ Below w.heap.size w w' := by
 refine (laws_toWalkS.calls k A1 c1 l1 y w h g hf).mono ?_
 rintro e w' ⟨r0, rfl, h0, hb⟩
 obtain ⟨B0, d0, rfl⟩ := Kd.R_slice h0
 exact ⟨_, _, rfl, Kd.R_mono (Kd.R_bound h0) (fun _ hk => ⟨hk.2.1, hk.2.2.1⟩), hb⟩
theorem eqX_ (k : Nat) {w : World} {lo lo' : Nat} {v0 v1 v2 u0 u1 u2 : Value} {L L' : List S37} {V D V' D' : List Bool} (h : X3 w lo v0 v1 v2 L V D) (h' : X3 w lo' u0 u1 u2 L' V' D') (x4 x5 y4 y5 : Int) (r : Bool) (hf : laws_eqExploration.f k L V D x4 x5 L' V' D' y4 y5 = some r) :
  Calls Try.prog 19 #[.agg #[v0, v1, v2, .int .i64 x4, .int .i64 x5], .agg #[u0, u1, u2, .int .i64 y4, .int .i64 y5]] w fun e w' => e = .returned (.bool r) ∧ Below w.heap.size w w' := by
 obtain ⟨A0, c0, rfl⟩ := Kd.R_slice h.rL
 obtain ⟨A1, c1, rfl⟩ := Kd.R_slice h.rV
 obtain ⟨A2, c2, rfl⟩ := Kd.R_slice h.rD
 obtain ⟨B0, d0, rfl⟩ := Kd.R_slice h'.rL
 obtain ⟨B1, d1, rfl⟩ := Kd.R_slice h'.rV
 obtain ⟨B2, d2, rfl⟩ := Kd.R_slice h'.rD
 exact laws_eqExploration.calls k _ _ L _ _ V _ _ D x4 x5 _ _ L' _ _ V' _ _ D' y4 y5 r w (Kd.R_reads' h.rL).2.2 (Kd.R_reads' h.rL).2.1 (Kd.R_reads' h.rV).2.2 (Kd.R_reads' h.rV).2.1 (Kd.R_reads' h.rD).2.2 (Kd.R_reads' h.rD).2.1 (Kd.R_reads' h'.rL).2.2 (Kd.R_reads' h'.rL).2.1 (Kd.R_reads' h'.rV).2.2 (Kd.R_reads' h'.rV).2.1 (Kd.R_reads' h'.rD).2.2 (Kd.R_reads' h'.rD).2.1 hf
theorem heldX_ (k : Nat) {w : World} {lo : Nat} {v0 v1 v2 : Value} {L : List S37} {V D : List Bool} (h : X3 w lo v0 v1 v2 L V D) (x4 x5 a r : Int) (hf : laws_heldExploration.f k L V D x4 x5 a = some r) :
  Calls Try.prog 42 #[.agg #[v0, v1, v2, .int .i64 x4, .int .i64 x5], .int .i64 a] w fun e w' => e = .returned (.int .i64 r) ∧ Below w.heap.size w w' := by
 obtain ⟨A0, c0, rfl⟩ := Kd.R_slice h.rL
 obtain ⟨A1, c1, rfl⟩ := Kd.R_slice h.rV
 obtain ⟨A2, c2, rfl⟩ := Kd.R_slice h.rD
 exact laws_heldExploration.calls k _ _ L _ _ V _ _ D x4 x5 a r w (Kd.R_reads' h.rL).2.2 (Kd.R_reads' h.rL).2.1 (Kd.R_reads' h.rV).2.2 (Kd.R_reads' h.rV).2.1 (Kd.R_reads' h.rD).2.2 (Kd.R_reads' h.rD).2.1 hf
theorem markX_ (k : Nat) {w0 w : World} {lo : Nat} {P : Nat → Prop} {v0 v1 v2 : Value} {L : List S37} {V D : List Bool} (hB : Below w0.heap.size w0 w) (h : XR w lo P v0 v1 v2 L V D) (hlo : w0.heap.size ≤ lo) (x4 x5 a r : Int) (m1 : List S37) (m2 m3 : List Bool) (hf : laws_markExploration.f k L V D x4 x5 a = some (r, m1, m2, m3)) :
  Calls Try.prog 41 #[.agg #[v0, v1, v2, .int .i64 x4, .int .i64 x5], .int .i64 a] w fun e w' => e = .returned (.int .i64 r) ∧ X3 w' w0.heap.size v0 v1 v2 m1 m2 m3 ∧ Below w0.heap.size w0 w' ∧ Kept w w' (XOwn v0 v1 v2) := by
 refine (laws_markExploration.calls k (fun q => some q = v0.ownBlock) v0 L (fun q => some q = v1.ownBlock) v1 V (fun q => some q = v2.ownBlock) v2 D x4 x5 a r m1 m2 m3 w0 w hB (Kd.R_tight rfl (Kd.R_lower h.rL hlo)) (Kd.R_tight rfl (Kd.R_lower h.rV hlo)) (fun q hq => (h.rV.1 q hq.symm).2) (Kd.R_tight rfl (Kd.R_lower h.rD hlo)) (fun q hq => (h.rD.1 q hq.symm).2) hf).mono ?_
 rintro e w' ⟨rfl, h0, h1, h2, hb, hk⟩
 exact ⟨rfl, ⟨Kd.R_mono h0 (fun _ _ => trivial), Kd.R_mono h1 (fun _ _ => trivial), Kd.R_mono h2 (fun _ _ => trivial)⟩, hb, hk⟩
def laws_FnExactWalkAll.f (k : Nat) (l0_0 : List S65) (l0_1 : List Bool) (l0_2 : List Bool) (a0_3 : Int) (a0_4 : Int) (l1 : List S67) : Option (Bool) :=
 (laws_szExploration.f l0_0 l0_1 l0_2 a0_3 a0_4 1048576).bind fun t1 => (if t1 < 0 then (some true) else ((laws_szWalkS.f l1 t1).bind fun t2 => (if t2 < 0 then (some true) else ((laws_toExploration.f k l0_0 l0_1 l0_2 a0_3 a0_4).bind fun x => ((laws_toWalkS.f k l1).bind fun y => ((spec_WalkAll.f k x.1 x.2.1 x.2.2.1 x.2.2.2.1 x.2.2.2.2 y).bind fun u => ((impl_WalkAll.f k x.1 x.2.1 x.2.2.1 x.2.2.2.1 x.2.2.2.2 y).bind fun g => ((laws_eqExploration.f k g.1 g.2.1 g.2.2.1 g.2.2.2.1 g.2.2.2.2.1 u.1 u.2.1 u.2.2.1 u.2.2.2.1 u.2.2.2.2.1).bind fun q1 => ((laws_eqExploration.f k x.1 x.2.1 x.2.2.1 x.2.2.2.1 x.2.2.2.2 x.1 x.2.1 x.2.2.1 x.2.2.2.1 x.2.2.2.2).bind fun q2 => ((laws_eqWalkS.f k y y).bind fun q3 => ((laws_markExploration.f k x.1 x.2.1 x.2.2.1 x.2.2.2.1 x.2.2.2.2 1).bind fun m => ((laws_markExploration.f k g.1 g.2.1 g.2.2.1 g.2.2.2.1 g.2.2.2.2.1 1).bind fun n => ((laws_heldExploration.f k n.2.1 n.2.2.1 n.2.2.2 g.2.2.2.1 g.2.2.2.2.1 1).bind fun hh => (if q1 = true ∧ q2 = true ∧ q3 = true ∧ g.2.2.2.2.2.1 = u.2.2.2.2.2.1 ∧ g.2.2.2.2.2.2 = u.2.2.2.2.2.2 ∧ (0 ≤ m.1 ∧ m.1 + 7 * (y.length : Int) ≤ 4611686018427387904) ∧ 0 ≤ n.1 ∧ hh = n.1 then (some true) else (none)))))))))))))))
def waL14.T : Bool × List (List Nat × List Nat) := (true, [([], []), ([], []), ([1], [1]), ([0, 2, 2], [0, 2]), ([3], [3])])
def waL14.B : List Nat := [0, 0, 2, 7, 15]
theorem waL14.tab : rtab .any (opsOf Try.f12 14) = waL14.T := by kernel_rfl
theorem waL14.bits : waitsOk waL14.T.2 waL14.B = true := by kernel_rfl
abbrev waL14.mkE : Array Bool := #[false, false, false, false, false]
abbrev waL14.mk0 : Array Bool := #[true, false, false, false, false]
abbrev waL14.mk0_1 : Array Bool := #[true, true, false, false, false]
abbrev waL14.mk0_1_2 : Array Bool := #[true, true, true, false, false]
abbrev waL14.mk0_1_2_3 : Array Bool := #[true, true, true, true, false]
abbrev waL14.mk0_1_2_3_4 : Array Bool := #[true, true, true, true, true]
set_option maxHeartbeats 64000000 in
set_option maxRecDepth 100000 in
theorem laws_FnExactWalkAll.calls (k : Nat) (A0_0 : Option Addr) (c0_0 : Nat) (l0_0 : List (S65)) (A0_1 : Option Addr) (c0_1 : Nat) (l0_1 : List Bool) (A0_2 : Option Addr) (c0_2 : Nat) (l0_2 : List Bool) (a0_3 : Int) (a0_4 : Int) (A1 : Option Addr) (c1 : Nat) (l1 : List (S67)) (r : Bool) (w : World) (hr0_0 : Kd.C k65 w A0_0 l0_0.length l0_0) (hc0_0 : l0_0.length ≤ c0_0) (hr0_1 : Kd.C Kd.bool w A0_1 l0_1.length l0_1) (hc0_1 : l0_1.length ≤ c0_1) (hr0_2 : Kd.C Kd.bool w A0_2 l0_2.length l0_2) (hc0_2 : l0_2.length ≤ c0_2) (hr1 : Kd.C k67 w A1 l1.length l1) (hc1 : l1.length ≤ c1) (h : laws_FnExactWalkAll.f k l0_0 l0_1 l0_2 a0_3 a0_4 l1 = some r) :
  Calls Try.prog 12 #[.agg #[.slice A0_0 l0_0.length c0_0, .slice A0_1 l0_1.length c0_1, .slice A0_2 l0_2.length c0_2, .int .i64 a0_3, .int .i64 a0_4], .slice A1 l1.length c1] w fun e w' => e = .returned (.bool r) ∧ Below w.heap.size w w' := by
 have hu25 := Try.underlying25
 have hu30 := Try.underlying30
 have HR0 := Aside0.mk hr0_0
 have HC0 := Aside0.mk hc0_0
 have HR1 := Aside0.mk hr0_1
 have HC1 := Aside0.mk hc0_1
 have HR2 := Aside0.mk hr0_2
 have HC2 := Aside0.mk hc0_2
 have HR3 := Aside0.mk hr1
 have HC3 := Aside0.mk hc1
 clear hr0_0 hc0_0 hr0_1 hc0_1 hr0_2 hc0_2 hr1 hc1
 have HB := Aside0.mk (Below.refl w.heap.size w)
 unfold laws_FnExactWalkAll.f at h
 replace h := Option.bind_eq_some_iff.mp h
 obtain ⟨t1, a1, h⟩ := h
 have A1' := Aside0.mk a1
 clear a1
 by_cases c1_ : t1 < 0
 ·
  rw [if_pos c1_] at h
  have n1 : decide (t1 < 0) = true := decide_eq_true c1_
  clear c1_
  obtain rfl := Option.some.inj h
  clear h
  go_enter Try.func12, Try.ntmps12
  go_wp2_with (first | ((with_reducible refine gate_dst (N := 2) rfl ?_); refine box_event ?hg (N := 2) ?hd (cs := #[.slice A0_0 l0_0.length c0_0, .slice A0_1 l0_1.length c0_1, .slice A0_2 l0_2.length c0_2, .int .i64 a0_3, .int .i64 a0_4]) (t := 25) ?hr ?_; (case hd => rfl); (case hg => rfl); (case hr => first | (go_simp; done) | (go_simp; rfl)); intro gb2 hg w5 hbox hb; have BK2 := Aside0.mk hbox; replace HB := Aside0.mk (below_step HB.out hb); clear hb hbox hg; obtain ⟨hczx0, hczx1, hczx2, hczx3, hczx4⟩ := cz5_ BK2.out; obtain ⟨hfzx0, hfzx1, hfzx2, hfzx3, hfzx4⟩ := fz5_ BK2.out) | ((with_reducible refine gate_callee (f := 15) rfl ?_); refine ga_ (some 22) Try.func15 #[.agg #[.slice A0_0 l0_0.length c0_0, .slice A0_1 l0_1.length c0_1, .slice A0_2 l0_2.length c0_2, .int .i64 a0_3, .int .i64 a0_4], .int .i64 1048576] ?_; refine (laws_szExploration.calls _ _ l0_0 _ _ l0_1 _ _ l0_2 a0_3 a0_4 1048576 t1 _ (Kd.C_below HR0.out HB.out) HC0.out (Kd.C_below HR1.out HB.out) HC1.out (Kd.C_below HR2.out HB.out) HC2.out A1'.out).mono ?_; rintro e w6 ⟨rfl, hb⟩; refine ⟨_, rfl, ?_⟩; replace BK2 := Aside0.mk (bb_ BK2.out hb); replace HB := Aside0.mk (below_step HB.out hb); clear hb; clear hczx0 hfzx0 hczx1 hfzx1 hczx2 hfzx2 hczx3 hfzx3 hczx4 hfzx4))
  go_ret
  exact ⟨rr_, HB.out⟩
 rw [if_neg c1_] at h
 have n1 : decide (t1 < 0) = false := decide_eq_false c1_
 clear c1_
 replace h := Option.bind_eq_some_iff.mp h
 obtain ⟨t2, a2, h⟩ := h
 have A2' := Aside0.mk a2
 clear a2
 by_cases c2_ : t2 < 0
 ·
  rw [if_pos c2_] at h
  have n2 : decide (t2 < 0) = true := decide_eq_true c2_
  clear c2_
  obtain rfl := Option.some.inj h
  clear h
  go_enter Try.func12, Try.ntmps12
  go_wp2_with (first | ((with_reducible refine gate_dst (N := 2) rfl ?_); refine box_event ?hg (N := 2) ?hd (cs := #[.slice A0_0 l0_0.length c0_0, .slice A0_1 l0_1.length c0_1, .slice A0_2 l0_2.length c0_2, .int .i64 a0_3, .int .i64 a0_4]) (t := 25) ?hr ?_; (case hd => rfl); (case hg => rfl); (case hr => first | (go_simp; done) | (go_simp; rfl)); intro gb2 hg w5 hbox hb; have BK2 := Aside0.mk hbox; replace HB := Aside0.mk (below_step HB.out hb); clear hb hbox hg; obtain ⟨hczx0, hczx1, hczx2, hczx3, hczx4⟩ := cz5_ BK2.out; obtain ⟨hfzx0, hfzx1, hfzx2, hfzx3, hfzx4⟩ := fz5_ BK2.out) | ((with_reducible refine gate_callee (f := 15) rfl ?_); refine ga_ (some 22) Try.func15 #[.agg #[.slice A0_0 l0_0.length c0_0, .slice A0_1 l0_1.length c0_1, .slice A0_2 l0_2.length c0_2, .int .i64 a0_3, .int .i64 a0_4], .int .i64 1048576] ?_; refine (laws_szExploration.calls _ _ l0_0 _ _ l0_1 _ _ l0_2 a0_3 a0_4 1048576 t1 _ (Kd.C_below HR0.out HB.out) HC0.out (Kd.C_below HR1.out HB.out) HC1.out (Kd.C_below HR2.out HB.out) HC2.out A1'.out).mono ?_; rintro e w6 ⟨rfl, hb⟩; refine ⟨_, rfl, ?_⟩; replace BK2 := Aside0.mk (bb_ BK2.out hb); replace HB := Aside0.mk (below_step HB.out hb); clear hb; clear hczx0 hfzx0 hczx1 hfzx1 hczx2 hfzx2 hczx3 hfzx3 hczx4 hfzx4) | ((with_reducible refine gate_callee (f := 51) rfl ?_); refine ga_ (some 27) Try.func51 #[.slice A1 l1.length c1, .int .i64 t1] ?_; refine (laws_szWalkS.calls _ _ l1 t1 t2 _ (Kd.C_below HR3.out HB.out) HC3.out A2'.out).mono ?_; rintro e w7 ⟨rfl, hd⟩; refine ⟨_, rfl, ?_⟩; have hb := drawnBelow_ hd; replace BK2 := Aside0.mk (bb_ BK2.out hb); replace HB := Aside0.mk (below_step HB.out hb); clear hb hd; obtain ⟨hczx0, hczx1, hczx2, hczx3, hczx4⟩ := cz5_ BK2.out; obtain ⟨hfzx0, hfzx1, hfzx2, hfzx3, hfzx4⟩ := fz5_ BK2.out))
  go_ret
  exact ⟨rr_, HB.out⟩
 rw [if_neg c2_] at h
 have n2 : decide (t2 < 0) = false := decide_eq_false c2_
 clear c2_
 replace h := Option.bind_eq_some_iff.mp h
 obtain ⟨⟨x1, x2, x3, x4, x5⟩, a3, h⟩ := h
 replace h := Option.bind_eq_some_iff.mp h
 obtain ⟨y, a4, h⟩ := h
 replace h := Option.bind_eq_some_iff.mp h
 obtain ⟨⟨d1, d2, d3, d4, d5, d6, d7⟩, a5, h⟩ := h
 replace h := Option.bind_eq_some_iff.mp h
 obtain ⟨⟨g1, g2, g3, g4, g5, g6, g7⟩, a6, h⟩ := h
 replace h := Option.bind_eq_some_iff.mp h
 obtain ⟨q1, a7, h⟩ := h
 replace h := Option.bind_eq_some_iff.mp h
 obtain ⟨q2, a8, h⟩ := h
 replace h := Option.bind_eq_some_iff.mp h
 obtain ⟨q3, a9, h⟩ := h
 replace h := Option.bind_eq_some_iff.mp h
 obtain ⟨⟨m, m1, m2, m3⟩, a10, h⟩ := h
 replace h := Option.bind_eq_some_iff.mp h
 obtain ⟨⟨n, p1, p2, p3⟩, a11, h⟩ := h
 replace h := Option.bind_eq_some_iff.mp h
 obtain ⟨hh, a12, h⟩ := h
 simp only at a5 a6 a7 a8 a10 a11 a12 h
 by_cases hq : q1 = true ∧ q2 = true ∧ q3 = true ∧ g6 = d6 ∧ g7 = d7 ∧ (0 ≤ m ∧ m + 7 * (y.length : Int) ≤ 4611686018427387904) ∧ 0 ≤ n ∧ hh = n
 rotate_left
 ·
  rw [if_neg hq] at h
  cases h
 rw [if_pos hq] at h
 obtain rfl := Option.some.inj h
 obtain ⟨rfl, rfl, rfl, rfl, rfl, h1, h2, rfl⟩ := hq
 obtain ⟨mw, hmw⟩ : ∃ z, z = m + 7 * (y.length : Int) := ⟨_, rfl⟩
 have n3 : decide (mw < 0) = false := decide_eq_false (by omega)
 have n4 : decide (hh < 0) = false := decide_eq_false (by omega)
 have n5 : (g6 != g6) = false := bne_self_eq_false g6
 have n6 : (g7 != g7) = false := bne_self_eq_false g7
 have n7 : (hh != hh) = false := bne_self_eq_false hh
 have HMW := Aside0.mk hmw
 have HMB := Aside0.mk h1
 have A3' := Aside0.mk a3
 have A4' := Aside0.mk a4
 have A5' := Aside0.mk a5
 have A6' := Aside0.mk a6
 have A7' := Aside0.mk a7
 have A8' := Aside0.mk a8
 have A9' := Aside0.mk a9
 have A10' := Aside0.mk a10
 have A11' := Aside0.mk a11
 have A12' := Aside0.mk a12
 clear h h1 h2 hmw a3 a4 a5 a6 a7 a8 a9 a10 a11 a12
 go_enter Try.func12, Try.ntmps12
 try go_wp2_with (first | ((with_reducible refine gate_dst (N := 2) rfl ?_); refine box_event ?hg (N := 2) ?hd (cs := #[.slice A0_0 l0_0.length c0_0, .slice A0_1 l0_1.length c0_1, .slice A0_2 l0_2.length c0_2, .int .i64 a0_3, .int .i64 a0_4]) (t := 25) ?hr ?_; (case hd => rfl); (case hg => rfl); (case hr => first | (go_simp; done) | (go_simp; rfl)); intro gb2 hg w5 hbox hb; have BK2 := Aside0.mk hbox; replace HB := Aside0.mk (below_step HB.out hb); clear hb hbox hg; obtain ⟨hczx0, hczx1, hczx2, hczx3, hczx4⟩ := cz5_ BK2.out; obtain ⟨hfzx0, hfzx1, hfzx2, hfzx3, hfzx4⟩ := fz5_ BK2.out) | ((with_reducible refine gate_callee (f := 15) rfl ?_); refine ga_ (some 22) Try.func15 #[.agg #[.slice A0_0 l0_0.length c0_0, .slice A0_1 l0_1.length c0_1, .slice A0_2 l0_2.length c0_2, .int .i64 a0_3, .int .i64 a0_4], .int .i64 1048576] ?_; refine (laws_szExploration.calls _ _ l0_0 _ _ l0_1 _ _ l0_2 a0_3 a0_4 1048576 t1 _ (Kd.C_below HR0.out HB.out) HC0.out (Kd.C_below HR1.out HB.out) HC1.out (Kd.C_below HR2.out HB.out) HC2.out A1'.out).mono ?_; rintro e w6 ⟨rfl, hb⟩; refine ⟨_, rfl, ?_⟩; replace BK2 := Aside0.mk (bb_ BK2.out hb); replace HB := Aside0.mk (below_step HB.out hb); clear hb; clear hczx0 hfzx0 hczx1 hfzx1 hczx2 hfzx2 hczx3 hfzx3 hczx4 hfzx4) | ((with_reducible refine gate_callee (f := 51) rfl ?_); refine ga_ (some 27) Try.func51 #[.slice A1 l1.length c1, .int .i64 t1] ?_; refine (laws_szWalkS.calls _ _ l1 t1 t2 _ (Kd.C_below HR3.out HB.out) HC3.out A2'.out).mono ?_; rintro e w7 ⟨rfl, hd⟩; refine ⟨_, rfl, ?_⟩; have hb := drawnBelow_ hd; replace BK2 := Aside0.mk (bb_ BK2.out hb); replace HB := Aside0.mk (below_step HB.out hb); clear hb hd; obtain ⟨hczx0, hczx1, hczx2, hczx3, hczx4⟩ := cz5_ BK2.out; obtain ⟨hfzx0, hfzx1, hfzx2, hfzx3, hfzx4⟩ := fz5_ BK2.out) | ((with_reducible refine gate_callee (f := 17) rfl ?_); refine ga_ (some 32) Try.func17 #[.agg #[.slice A0_0 l0_0.length c0_0, .slice A0_1 l0_1.length c0_1, .slice A0_2 l0_2.length c0_2, .int .i64 a0_3, .int .i64 a0_4]] ?_; refine (toXX_ k _ _ l0_0 _ _ l0_1 _ _ l0_2 a0_3 a0_4 x1 x2 x3 x4 x5 _ (Kd.C_below HR0.out HB.out) HC0.out (Kd.C_below HR1.out HB.out) HC1.out (Kd.C_below HR2.out HB.out) HC2.out A3'.out).mono ?_; rintro e w8 ⟨Tx0, Tx1, Tx2, Txc0, Txc1, Txc2, rfl, hx, hb⟩; refine ⟨_, rfl, ?_⟩; replace BK2 := Aside0.mk (bb_ BK2.out hb); replace HB := Aside0.mk (below_step HB.out hb); have HT := Aside0.mk hx; clear hczx0 hfzx0 hczx1 hfzx1 hczx2 hfzx2 hczx3 hfzx3 hczx4 hfzx4; clear hb hx) | ((with_reducible refine gate_callee (f := 52) rfl ?_); refine ga_ (some 34) Try.func52 #[.slice A1 l1.length c1] ?_; refine (toWW_ k A1 c1 l1 y _ (Kd.C_below HR3.out HB.out) HC3.out A4'.out).mono ?_; rintro e w9 ⟨Tl, Tlc, rfl, hx, hb⟩; refine ⟨_, rfl, ?_⟩; replace HT := Aside0.mk (HT.out.below hb); replace BK2 := Aside0.mk (bb_ BK2.out hb); replace HB := Aside0.mk (below_step HB.out hb); have HV := Aside0.mk hx; clear hb hx) | ((with_reducible refine gate_callee (f := 30) rfl ?_); refine ga_ (some 35) Try.func30 #[.agg #[.slice Tx0 x1.length Txc0, .slice Tx1 x2.length Txc1, .slice Tx2 x3.length Txc2, .int .i64 x4, .int .i64 x5], .slice Tl y.length Tlc] ?_; refine (wallS_ k HT.out.x3 HV.out x4 x5 d1 d2 d3 d4 d5 g6 g7 A5'.out).mono ?_; rintro e wb ⟨Ua0, Ua1, Ua2, Uac0, Uac1, Uac2, rfl, hx, hb⟩; refine ⟨_, rfl, ?_⟩; replace BK2 := Aside0.mk (bb_ BK2.out hb); replace HB := Aside0.mk (below_step HB.out hb); have HU := Aside0.mk hx; have SB := Aside0.mk (Nat.le_refl wb.heap.size); clear HT HV; clear hb hx) | ((with_reducible refine gate_dst (N := 6) rfl ?_); refine box_event ?hg (N := 6) ?hd (cs := #[.slice none 0 0, .slice none 0 0, .slice none 0 0, .int .i64 0, .int .i64 0]) (t := 30) ?hr ?_; (case hd => rfl); (case hg => rfl); (case hr => first | (go_simp; done) | (go_simp; rfl)); intro g6_ hg wb1 hbox hb; have BN := Aside0.mk hbox; have HJ := Aside0.mk hb; have GJ := Aside0.mk (show wb.heap.size ≤ g6_ from by rw [hg]; exact Nat.le_refl _); clear hb hbox hg; obtain ⟨hczn0, hczn1, hczn2, hczn3, hczn4⟩ := cz5_ BN.out; obtain ⟨hfzn0, hfzn1, hfzn2, hfzn3, hfzn4⟩ := fz5_ BN.out) | ((with_reducible refine gate_store (t := 30) (p := 6) rfl ?_); refine store_event (t := 30) (p := 6) (v := ?vo_wc) (w1 := (((((wb1.setCell ⟨g6_, 0, none⟩ (.slice Ua0 d1.length Uac0)).setCell ⟨g6_, 1, none⟩ (.slice Ua1 d2.length Uac1)).setCell ⟨g6_, 2, none⟩ (.slice Ua2 d3.length Uac2)).setCell ⟨g6_, 3, none⟩ (.int .i64 d4)).setCell ⟨g6_, 4, none⟩ (.int .i64 d5))) ?hg ?ho ?hn ?hr ?_; (case ho => rfl); (case hg => rfl); (case hn => rfl); (case hr => first | (go_simp; done) | (go_simp; rfl)); intro wc hw; clear hczn0 hfzn0 hczn1 hfzn1 hczn2 hfzn2 hczn3 hfzn3 hczn4 hfzn4; have hb : Below wb.heap.size wb wc := (by rw [hw]; exact set5_below HJ.out GJ.out (.slice Ua0 d1.length Uac0) (.slice Ua1 d2.length Uac1) (.slice Ua2 d3.length Uac2) (.int .i64 d4) (.int .i64 d5)); have BU : Aside0 (wc.heap[g6_]? = some (.cells #[.slice Ua0 d1.length Uac0, .slice Ua1 d2.length Uac1, .slice Ua2 d3.length Uac2, .int .i64 d4, .int .i64 d5] 30 (0, 0))) := ⟨by rw [hw]; exact set5_blk BN.out (.slice Ua0 d1.length Uac0) (.slice Ua1 d2.length Uac1) (.slice Ua2 d3.length Uac2) (.int .i64 d4) (.int .i64 d5)⟩; replace HU := Aside0.mk (HU.out.below hb); replace SB := Aside0.mk (Nat.le_trans SB.out (below_size hb)); replace BK2 := Aside0.mk (bb_ BK2.out hb); replace HB := Aside0.mk (below_step HB.out hb); clear hw hb BN HJ GJ; obtain ⟨hczx0, hczx1, hczx2, hczx3, hczx4⟩ := cz5_ BK2.out; obtain ⟨hfzx0, hfzx1, hfzx2, hfzx3, hfzx4⟩ := fz5_ BK2.out) | ((with_reducible refine gate_callee (f := 17) rfl ?_); refine ga_ (some 40) Try.func17 #[.agg #[.slice A0_0 l0_0.length c0_0, .slice A0_1 l0_1.length c0_1, .slice A0_2 l0_2.length c0_2, .int .i64 a0_3, .int .i64 a0_4]] ?_; refine (toXX_ k _ _ l0_0 _ _ l0_1 _ _ l0_2 a0_3 a0_4 x1 x2 x3 x4 x5 _ (Kd.C_below HR0.out HB.out) HC0.out (Kd.C_below HR1.out HB.out) HC1.out (Kd.C_below HR2.out HB.out) HC2.out A3'.out).mono ?_; have MBC := SB; have LX := Aside0.mk (below_size HB.out); rintro e wd ⟨Xa0, Xa1, Xa2, Xac0, Xac1, Xac2, rfl, hx, hb⟩; refine ⟨_, rfl, ?_⟩; replace HU := Aside0.mk (HU.out.below hb); replace BU := Aside0.mk (bb_ BU.out hb); replace SB := Aside0.mk (Nat.le_trans SB.out (below_size hb)); replace BK2 := Aside0.mk (bb_ BK2.out hb); replace HB := Aside0.mk (below_step HB.out hb); have HX := Aside0.mk hx; have SD := Aside0.mk (Nat.le_refl wd.heap.size); clear hczx0 hfzx0 hczx1 hfzx1 hczx2 hfzx2 hczx3 hfzx3 hczx4 hfzx4; clear hb hx) | ((with_reducible refine gate_dst (N := 9) rfl ?_); refine box_event ?hg (N := 9) ?hd (cs := #[.slice none 0 0, .slice none 0 0, .slice none 0 0, .int .i64 0, .int .i64 0]) (t := 30) ?hr ?_; (case hd => rfl); (case hg => rfl); (case hr => first | (go_simp; done) | (go_simp; rfl)); intro g9_ hg wd1 hbox hb; have BN := Aside0.mk hbox; have HJ := Aside0.mk hb; have GJ := Aside0.mk (show wd.heap.size ≤ g9_ from by rw [hg]; exact Nat.le_refl _); clear hb hbox hg; obtain ⟨hczn0, hczn1, hczn2, hczn3, hczn4⟩ := cz5_ BN.out; obtain ⟨hfzn0, hfzn1, hfzn2, hfzn3, hfzn4⟩ := fz5_ BN.out) | ((with_reducible refine gate_store (t := 30) (p := 9) rfl ?_); refine store_event (t := 30) (p := 9) (v := ?vo_we) (w1 := (((((wd1.setCell ⟨g9_, 0, none⟩ (.slice Xa0 x1.length Xac0)).setCell ⟨g9_, 1, none⟩ (.slice Xa1 x2.length Xac1)).setCell ⟨g9_, 2, none⟩ (.slice Xa2 x3.length Xac2)).setCell ⟨g9_, 3, none⟩ (.int .i64 x4)).setCell ⟨g9_, 4, none⟩ (.int .i64 x5))) ?hg ?ho ?hn ?hr ?_; (case ho => rfl); (case hg => rfl); (case hn => rfl); (case hr => first | (go_simp; done) | (go_simp; rfl)); intro we hw; clear hczn0 hfzn0 hczn1 hfzn1 hczn2 hfzn2 hczn3 hfzn3 hczn4 hfzn4; have hb : Below wd.heap.size wd we := (by rw [hw]; exact set5_below HJ.out GJ.out (.slice Xa0 x1.length Xac0) (.slice Xa1 x2.length Xac1) (.slice Xa2 x3.length Xac2) (.int .i64 x4) (.int .i64 x5)); have BX : Aside0 (we.heap[g9_]? = some (.cells #[.slice Xa0 x1.length Xac0, .slice Xa1 x2.length Xac1, .slice Xa2 x3.length Xac2, .int .i64 x4, .int .i64 x5] 30 (0, 0))) := ⟨by rw [hw]; exact set5_blk BN.out (.slice Xa0 x1.length Xac0) (.slice Xa1 x2.length Xac1) (.slice Xa2 x3.length Xac2) (.int .i64 x4) (.int .i64 x5)⟩; replace HX := Aside0.mk (HX.out.below hb); replace SD := Aside0.mk (Nat.le_trans SD.out (below_size hb)); replace HU := Aside0.mk (HU.out.below hb); replace BU := Aside0.mk (bb_ BU.out hb); replace SB := Aside0.mk (Nat.le_trans SB.out (below_size hb)); replace BK2 := Aside0.mk (bb_ BK2.out hb); replace HB := Aside0.mk (below_step HB.out hb); clear hw hb BN HJ GJ; skip) | ((with_reducible refine gate_callee (f := 52) rfl ?_); refine ga_ (some 42) Try.func52 #[.slice A1 l1.length c1] ?_; refine (toWW_ k A1 c1 l1 y _ (Kd.C_below HR3.out HB.out) HC3.out A4'.out).mono ?_; have MDE := SD; have MBE := SB; have LL := Aside0.mk (below_size HB.out); rintro e wf ⟨La, Lac, rfl, hx, hb⟩; refine ⟨_, rfl, ?_⟩; replace BX := Aside0.mk (bb_ BX.out hb); replace HX := Aside0.mk (HX.out.below hb); replace SD := Aside0.mk (Nat.le_trans SD.out (below_size hb)); replace HU := Aside0.mk (HU.out.below hb); replace BU := Aside0.mk (bb_ BU.out hb); replace SB := Aside0.mk (Nat.le_trans SB.out (below_size hb)); replace BK2 := Aside0.mk (bb_ BK2.out hb); replace HB := Aside0.mk (below_step HB.out hb); have HL := Aside0.mk hx; have SF := Aside0.mk (Nat.le_refl wf.heap.size); obtain ⟨hczx0, hczx1, hczx2, hczx3, hczx4⟩ := cz5_ BX.out; obtain ⟨hfzx0, hfzx1, hfzx2, hfzx3, hfzx4⟩ := fz5_ BX.out; clear hb hx) | ((with_reducible refine gate_callee (f := 29) rfl ?_); refine ga_ (some 46) Try.func29 #[.agg #[.slice Xa0 x1.length Xac0, .slice Xa1 x2.length Xac1, .slice Xa2 x3.length Xac2, .int .i64 x4, .int .i64 x5], .slice La y.length Lac] ?_; refine (wallI_ k HX.out.x3 HL.out x4 x5 g1 g2 g3 g4 g5 g6 g7 A6'.out).mono ?_; have MBG := SB; have MDG := SD; have MFG := SF; have LG := Aside0.mk (below_size HB.out); rintro e wh ⟨Ga0, Ga1, Ga2, Gac0, Gac1, Gac2, rfl, hx, hb⟩; refine ⟨_, rfl, ?_⟩; replace HL := Aside0.mk (Kd.R_below HL.out hb); replace SF := Aside0.mk (Nat.le_trans SF.out (below_size hb)); replace BX := Aside0.mk (bb_ BX.out hb); replace HX := Aside0.mk (HX.out.below hb); replace SD := Aside0.mk (Nat.le_trans SD.out (below_size hb)); replace HU := Aside0.mk (HU.out.below hb); replace BU := Aside0.mk (bb_ BU.out hb); replace SB := Aside0.mk (Nat.le_trans SB.out (below_size hb)); replace BK2 := Aside0.mk (bb_ BK2.out hb); replace HB := Aside0.mk (below_step HB.out hb); have HG := Aside0.mk hx; clear hczx0 hfzx0 hczx1 hfzx1 hczx2 hfzx2 hczx3 hfzx3 hczx4 hfzx4; clear hb hx) | ((with_reducible refine gate_dst (N := 11) rfl ?_); refine box_event ?hg (N := 11) ?hd (cs := #[.slice none 0 0, .slice none 0 0, .slice none 0 0, .int .i64 0, .int .i64 0]) (t := 30) ?hr ?_; (case hd => rfl); (case hg => rfl); (case hr => first | (go_simp; done) | (go_simp; rfl)); intro g11_ hg wh1 hbox hb; have BN := Aside0.mk hbox; have HJ := Aside0.mk hb; have GJ := Aside0.mk (show wh.heap.size ≤ g11_ from by rw [hg]; exact Nat.le_refl _); clear hb hbox hg; obtain ⟨hczn0, hczn1, hczn2, hczn3, hczn4⟩ := cz5_ BN.out; obtain ⟨hfzn0, hfzn1, hfzn2, hfzn3, hfzn4⟩ := fz5_ BN.out) | ((with_reducible refine gate_store (t := 30) (p := 11) rfl ?_); refine store_event (t := 30) (p := 11) (v := ?vo_wi) (w1 := (((((wh1.setCell ⟨g11_, 0, none⟩ (.slice Ga0 g1.length Gac0)).setCell ⟨g11_, 1, none⟩ (.slice Ga1 g2.length Gac1)).setCell ⟨g11_, 2, none⟩ (.slice Ga2 g3.length Gac2)).setCell ⟨g11_, 3, none⟩ (.int .i64 g4)).setCell ⟨g11_, 4, none⟩ (.int .i64 g5))) ?hg ?ho ?hn ?hr ?_; (case ho => rfl); (case hg => rfl); (case hn => rfl); (case hr => first | (go_simp; done) | (go_simp; rfl)); intro wi hw; clear hczn0 hfzn0 hczn1 hfzn1 hczn2 hfzn2 hczn3 hfzn3 hczn4 hfzn4; have hb : Below wh.heap.size wh wi := (by rw [hw]; exact set5_below HJ.out GJ.out (.slice Ga0 g1.length Gac0) (.slice Ga1 g2.length Gac1) (.slice Ga2 g3.length Gac2) (.int .i64 g4) (.int .i64 g5)); have BG : Aside0 (wi.heap[g11_]? = some (.cells #[.slice Ga0 g1.length Gac0, .slice Ga1 g2.length Gac1, .slice Ga2 g3.length Gac2, .int .i64 g4, .int .i64 g5] 30 (0, 0))) := ⟨by rw [hw]; exact set5_blk BN.out (.slice Ga0 g1.length Gac0) (.slice Ga1 g2.length Gac1) (.slice Ga2 g3.length Gac2) (.int .i64 g4) (.int .i64 g5)⟩; replace HG := Aside0.mk (HG.out.below hb); replace HL := Aside0.mk (Kd.R_below HL.out hb); replace HX := Aside0.mk (HX.out.below hb); replace BX := Aside0.mk (bb_ BX.out hb); replace HU := Aside0.mk (HU.out.below hb); replace BU := Aside0.mk (bb_ BU.out hb); replace BK2 := Aside0.mk (bb_ BK2.out hb); replace HB := Aside0.mk (below_step HB.out hb); clear hw hb BN HJ GJ; clear SB SD SF; obtain ⟨hczg0, hczg1, hczg2, hczg3, hczg4⟩ := cz5_ BG.out; obtain ⟨hfzg0, hfzg1, hfzg2, hfzg3, hfzg4⟩ := fz5_ BG.out; obtain ⟨hczu0, hczu1, hczu2, hczu3, hczu4⟩ := cz5_ BU.out; obtain ⟨hfzu0, hfzu1, hfzu2, hfzu3, hfzu4⟩ := fz5_ BU.out) | ((with_reducible refine gate_callee (f := 19) rfl ?_); refine ga_ (some 52) Try.func19 #[.agg #[.slice Ga0 g1.length Gac0, .slice Ga1 g2.length Gac1, .slice Ga2 g3.length Gac2, .int .i64 g4, .int .i64 g5], .agg #[.slice Ua0 d1.length Uac0, .slice Ua1 d2.length Uac1, .slice Ua2 d3.length Uac2, .int .i64 d4, .int .i64 d5]] ?_; refine (eqX_ k HG.out.x3 HU.out.x3 g4 g5 d4 d5 true A7'.out).mono ?_; rintro e wj ⟨rfl, hb⟩; refine ⟨_, rfl, ?_⟩; replace BG := Aside0.mk (bb_ BG.out hb); replace HG := Aside0.mk (HG.out.below hb); replace HL := Aside0.mk (Kd.R_below HL.out hb); replace HX := Aside0.mk (HX.out.below hb); replace BX := Aside0.mk (bb_ BX.out hb); replace HU := Aside0.mk (HU.out.below hb); replace BU := Aside0.mk (bb_ BU.out hb); replace BK2 := Aside0.mk (bb_ BK2.out hb); replace HB := Aside0.mk (below_step HB.out hb); clear hb; clear hczg0 hfzg0 hczg1 hfzg1 hczg2 hfzg2 hczg3 hfzg3 hczg4 hfzg4 hczu0 hfzu0 hczu1 hfzu1 hczu2 hfzu2 hczu3 hfzu3 hczu4 hfzu4))
 replace BG := Aside0.mk (blk_drew BG.out)
 replace HG := Aside0.mk (HG.out.below (below_drew (Below.refl _ _)))
 replace HL := Aside0.mk (Kd.R_drew HL.out)
 replace HX := Aside0.mk (HX.out.below (below_drew (Below.refl _ _)))
 replace BX := Aside0.mk (blk_drew BX.out)
 replace HU := Aside0.mk (HU.out.below (below_drew (Below.refl _ _)))
 replace BU := Aside0.mk (blk_drew BU.out)
 replace BK2 := Aside0.mk (blk_drew BK2.out)
 replace HB := Aside0.mk (below_drew HB.out)
 refine start_ (n := 5) (S := fun w' => w'.cell? ⟨g9_, 0, none⟩ = some (.slice Xa0 x1.length Xac0) ∧ w'.cell? ⟨g9_, 1, none⟩ = some (.slice Xa1 x2.length Xac1) ∧ w'.cell? ⟨g9_, 2, none⟩ = some (.slice Xa2 x3.length Xac2) ∧ w'.cell? ⟨g9_, 3, none⟩ = some (.int .i64 x4) ∧ w'.cell? ⟨g9_, 4, none⟩ = some (.int .i64 x5) ∧ w'.cell? ⟨gb2, 0, none⟩ = some (.slice A0_0 l0_0.length c0_0) ∧ w'.cell? ⟨gb2, 1, none⟩ = some (.slice A0_1 l0_1.length c0_1) ∧ w'.cell? ⟨gb2, 2, none⟩ = some (.slice A0_2 l0_2.length c0_2) ∧ w'.cell? ⟨gb2, 3, none⟩ = some (.int .i64 a0_3) ∧ w'.cell? ⟨gb2, 4, none⟩ = some (.int .i64 a0_4)) (ds := []) waL14.mkE (by kernel_rfl) rfl rfl ⟨(blk_cell BX.out 0).trans rfl, (blk_cell BX.out 1).trans rfl, (blk_cell BX.out 2).trans rfl, (blk_cell BX.out 3).trans rfl, (blk_cell BX.out 4).trans rfl, (blk_cell BK2.out 0).trans rfl, (blk_cell BK2.out 1).trans rfl, (blk_cell BK2.out 2).trans rfl, (blk_cell BK2.out 3).trans rfl, (blk_cell BK2.out 4).trans rfl⟩ (fun hHeld => ?_); refine with_tabW waL14.tab waL14.bits (fun HT_ HW_ => ?_)
 generalize wj.drew = wg at BG HG HL HX BX HU BU BK2 HB hHeld ⊢
 refine tk_ HT_ HW_ hHeld 0 (some 64) waL14.mk0 ?_
 refine tk_ HT_ HW_ hHeld 1 (some 65) waL14.mk0_1 ?_
 refine one_ (i := 2) (N := some 66) waL14.mk0_1_2 rfl rfl (one_of HT_.out (by kernel_rfl)) (by decide) (fun K hK => ?_)
 refine gs_ Try.func17 #[.agg #[.slice A0_0 l0_0.length c0_0, .slice A0_1 l0_1.length c0_1, .slice A0_2 l0_2.length c0_2, .int .i64 a0_3, .int .i64 a0_4]] ?_
 refine (toXX_ k _ _ l0_0 _ _ l0_1 _ _ l0_2 a0_3 a0_4 x1 x2 x3 x4 x5 _ (Kd.C_below HR0.out HB.out) HC0.out (Kd.C_below HR1.out HB.out) HC1.out (Kd.C_below HR2.out HB.out) HC2.out A3'.out).mono ?_
 rintro e wk ⟨Y0, Y1, Y2, Yc0, Yc1, Yc2, rfl, hx, hb⟩
 refine ⟨_, rfl, ?_⟩
 have HY := Aside0.mk hx
 replace BG := Aside0.mk (bb_ BG.out hb)
 replace HG := Aside0.mk (HG.out.below hb)
 replace HL := Aside0.mk (Kd.R_below HL.out hb)
 replace HX := Aside0.mk (HX.out.below hb)
 replace BX := Aside0.mk (bb_ BX.out hb)
 replace HU := Aside0.mk (HU.out.below hb)
 replace BU := Aside0.mk (bb_ BU.out hb)
 replace BK2 := Aside0.mk (bb_ BK2.out hb)
 replace HB := Aside0.mk (below_step HB.out hb)
 clear hb hx
 refine hK.out _ _ ⟨(blk_cell BX.out 0).trans rfl, (blk_cell BX.out 1).trans rfl, (blk_cell BX.out 2).trans rfl, (blk_cell BX.out 3).trans rfl, (blk_cell BX.out 4).trans rfl, (blk_cell BK2.out 0).trans rfl, (blk_cell BK2.out 1).trans rfl, (blk_cell BK2.out 2).trans rfl, (blk_cell BK2.out 3).trans rfl, (blk_cell BK2.out 4).trans rfl⟩ (fun hHeld => ?_)
 clear hK K
 refine na_ ?_
 refine one_ (i := 3) (N := some 67) waL14.mk0_1_2_3 rfl rfl (one_of HT_.out (by kernel_rfl)) (by decide) (fun K hK => ?_)
 refine gs_ Try.func19 #[.agg #[.slice Xa0 x1.length Xac0, .slice Xa1 x2.length Xac1, .slice Xa2 x3.length Xac2, .int .i64 x4, .int .i64 x5], .agg #[.slice Y0 x1.length Yc0, .slice Y1 x2.length Yc1, .slice Y2 x3.length Yc2, .int .i64 x4, .int .i64 x5]] ?_
 refine (eqX_ k HX.out.x3 HY.out.x3 x4 x5 x4 x5 true A8'.out).mono ?_
 rintro e wl ⟨rfl, hb⟩
 refine ⟨_, rfl, ?_⟩
 clear HY
 replace BG := Aside0.mk (bb_ BG.out hb)
 replace HG := Aside0.mk (HG.out.below hb)
 replace HL := Aside0.mk (Kd.R_below HL.out hb)
 replace HX := Aside0.mk (HX.out.below hb)
 replace BX := Aside0.mk (bb_ BX.out hb)
 replace HU := Aside0.mk (HU.out.below hb)
 replace BU := Aside0.mk (bb_ BU.out hb)
 replace BK2 := Aside0.mk (bb_ BK2.out hb)
 replace HB := Aside0.mk (below_step HB.out hb)
 clear hb
 refine hK.out _ _ ⟨(blk_cell BX.out 0).trans rfl, (blk_cell BX.out 1).trans rfl, (blk_cell BX.out 2).trans rfl, (blk_cell BX.out 3).trans rfl, (blk_cell BX.out 4).trans rfl, (blk_cell BK2.out 0).trans rfl, (blk_cell BK2.out 1).trans rfl, (blk_cell BK2.out 2).trans rfl, (blk_cell BK2.out 3).trans rfl, (blk_cell BK2.out 4).trans rfl⟩ (fun hHeld => ?_)
 clear hK K
 refine na_ ?_
 refine pz_ HT_ 4 (some 68) waL14.mk0_1_2_3_4 ?_
 refine done_ (done_of HT_.out (by kernel_rfl)) ?_
 clear hHeld
 go_wp2_with (first | ((with_reducible refine gate_callee (f := 52) rfl ?_); refine ga_ (some 71) Try.func52 #[.slice A1 l1.length c1] ?_; refine (toWW_ k A1 c1 l1 y _ (Kd.C_below HR3.out HB.out) HC3.out A4'.out).mono ?_; rintro e wm ⟨Ya, Yac, rfl, hx, hb⟩; refine ⟨_, rfl, ?_⟩; replace BG := Aside0.mk (bb_ BG.out hb); replace HG := Aside0.mk (HG.out.below hb); replace HL := Aside0.mk (Kd.R_below HL.out hb); replace HX := Aside0.mk (HX.out.below hb); replace BX := Aside0.mk (bb_ BX.out hb); replace HU := Aside0.mk (HU.out.below hb); replace BU := Aside0.mk (bb_ BU.out hb); replace BK2 := Aside0.mk (bb_ BK2.out hb); replace HB := Aside0.mk (below_step HB.out hb); have HV := Aside0.mk hx; clear hb hx) | ((with_reducible refine gate_callee (f := 53) rfl ?_); refine ga_ (some 72) Try.func53 #[.slice La y.length Lac, .slice Ya y.length Yac] ?_; refine (laws_eqWalkS.calls k _ _ y _ _ y true _ (Kd.R_reads' HL.out).2.2 (Kd.R_reads' HL.out).2.1 (Kd.R_reads' HV.out).2.2 (Kd.R_reads' HV.out).2.1 A9'.out).mono ?_; rintro e wn ⟨rfl, hb⟩; refine ⟨_, rfl, ?_⟩; replace BG := Aside0.mk (bb_ BG.out hb); replace HG := Aside0.mk (HG.out.below hb); replace HL := Aside0.mk (Kd.R_below HL.out hb); replace HX := Aside0.mk (HX.out.below hb); replace BX := Aside0.mk (bb_ BX.out hb); replace HU := Aside0.mk (HU.out.below hb); replace BU := Aside0.mk (bb_ BU.out hb); replace BK2 := Aside0.mk (bb_ BK2.out hb); replace HB := Aside0.mk (below_step HB.out hb); clear hb HV; obtain ⟨hczx0, hczx1, hczx2, hczx3, hczx4⟩ := cz5_ BX.out; obtain ⟨hfzx0, hfzx1, hfzx2, hfzx3, hfzx4⟩ := fz5_ BX.out) | ((with_reducible refine gate_callee (f := 41) rfl ?_); refine ga_ (some 76) Try.func41 #[.agg #[.slice Xa0 x1.length Xac0, .slice Xa1 x2.length Xac1, .slice Xa2 x3.length Xac2, .int .i64 x4, .int .i64 x5], .int .i64 1] ?_; refine (markX_ k HB.out HX.out LX.out x4 x5 1 m m1 m2 m3 A10'.out).mono ?_; rintro e wo ⟨rfl, hy, hb, hk⟩; refine ⟨_, rfl, ?_⟩; replace BU := Aside0.mk (HX.out.blk hk BU.out (by decide) (by decide)); replace BG := Aside0.mk (HX.out.blk hk BG.out (by decide) (by decide)); replace BK2 := Aside0.mk (HX.out.blk hk BK2.out (by decide) (by decide)); replace HU := Aside0.mk (HU.out.kept hk (fun q hq hs => absurd (HX.out.own hs) (by have h1 := hq.1; have h2 := hq.2; have := MBC.out; rintro ⟨h4, h5⟩; omega))); replace HG := Aside0.mk (HG.out.kept hk (fun q hq hs => absurd (HX.out.own hs) (by have h1 := hq.1; have h2 := hq.2; have := MDG.out; rintro ⟨h4, h5⟩; omega))); replace HL := Aside0.mk (Kd.R_kept HL.out hk (fun q hq hs => absurd (HX.out.own hs) (by have h1 := hq.1; have h2 := hq.2; have := MDE.out; rintro ⟨h4, h5⟩; omega))); replace HB := Aside0.mk hb; clear hy hb hk HX BX; clear hczx0 hfzx0 hczx1 hfzx1 hczx2 hfzx2 hczx3 hfzx3 hczx4 hfzx4) | ((with_reducible refine gate_callee (f := 54) rfl ?_); refine ga_ (some 79) Try.func54 #[.slice La y.length Lac, .int .i64 m] ?_; refine (laws_markWalkS.calls _ _ y m w _ HB.out (Kd.R_lower HL.out LL.out) HMB.out.1 HMB.out.2).mono ?_; rw [← HMW.out]; rintro e wp ⟨rfl, hb, hk⟩; refine ⟨_, rfl, ?_⟩; replace BU := Aside0.mk (own_blk_ HL.out hk BU.out (by decide)); replace BG := Aside0.mk (own_blk_ HL.out hk BG.out (by decide)); replace BK2 := Aside0.mk (own_blk_ HL.out hk BK2.out (by decide)); replace HU := Aside0.mk (HU.out.kept hk (fun q hq hs => absurd (own_lt_ HL.out hs) (by have h1 := hq.1; have h2 := hq.2; have := MBE.out; rintro ⟨h4, h5⟩; omega))); replace HG := Aside0.mk (HG.out.kept hk (fun q hq hs => absurd (own_lt_ HL.out hs) (by have h1 := hq.1; have h2 := hq.2; have := MFG.out; rintro ⟨h4, h5⟩; omega))); replace HB := Aside0.mk hb; clear hb hk HL; obtain ⟨hczg0, hczg1, hczg2, hczg3, hczg4⟩ := cz5_ BG.out; obtain ⟨hfzg0, hfzg1, hfzg2, hfzg3, hfzg4⟩ := fz5_ BG.out; obtain ⟨hczu0, hczu1, hczu2, hczu3, hczu4⟩ := cz5_ BU.out; obtain ⟨hfzu0, hfzu1, hfzu2, hfzu3, hfzu4⟩ := fz5_ BU.out) | (go_at_call 19; refine (eqX_ k HG.out.x3 HU.out.x3 g4 g5 d4 d5 true A7'.out).mono ?_; rintro e wq ⟨rfl, hb⟩; replace HU := Aside0.mk (HU.out.below hb); replace BU := Aside0.mk (bb_ BU.out hb); replace HG := Aside0.mk (HG.out.below hb); replace BG := Aside0.mk (bb_ BG.out hb); replace BK2 := Aside0.mk (bb_ BK2.out hb); replace HB := Aside0.mk (below_step HB.out hb); clear hb; clear hczg0 hfzg0 hczg1 hfzg1 hczg2 hfzg2 hczg3 hfzg3 hczg4 hfzg4 hczu0 hfzu0 hczu1 hfzu1 hczu2 hfzu2 hczu3 hfzu3 hczu4 hfzu4; obtain ⟨hczg0, hczg1, hczg2, hczg3, hczg4⟩ := cz5_ BG.out; obtain ⟨hfzg0, hfzg1, hfzg2, hfzg3, hfzg4⟩ := fz5_ BG.out) | ((with_reducible refine gate_callee (f := 41) rfl ?_); refine ga_ (some 100) Try.func41 #[.agg #[.slice Ga0 g1.length Gac0, .slice Ga1 g2.length Gac1, .slice Ga2 g3.length Gac2, .int .i64 g4, .int .i64 g5], .int .i64 1] ?_; refine (markX_ k HB.out HG.out LG.out g4 g5 1 hh p1 p2 p3 A11'.out).mono ?_; rintro e wr ⟨rfl, hy, hb, hk⟩; refine ⟨_, rfl, ?_⟩; replace BU := Aside0.mk (HG.out.blk hk BU.out (by decide) (by decide)); replace BG := Aside0.mk (HG.out.blk hk BG.out (by decide) (by decide)); replace BK2 := Aside0.mk (HG.out.blk hk BK2.out (by decide) (by decide)); replace HU := Aside0.mk (HU.out.kept hk (fun q hq hs => absurd (HG.out.own hs) (by have h1 := hq.1; have h2 := hq.2; have := MBG.out; rintro ⟨h4, h5⟩; omega))); replace HB := Aside0.mk hb; have HM := Aside0.mk hy; clear hy hb hk HG; clear hczg0 hfzg0 hczg1 hfzg1 hczg2 hfzg2 hczg3 hfzg3 hczg4 hfzg4; obtain ⟨hczg0, hczg1, hczg2, hczg3, hczg4⟩ := cz5_ BG.out; obtain ⟨hfzg0, hfzg1, hfzg2, hfzg3, hfzg4⟩ := fz5_ BG.out) | ((with_reducible refine gate_callee (f := 42) rfl ?_); refine ga_ (some 103) Try.func42 #[.agg #[.slice Ga0 g1.length Gac0, .slice Ga1 g2.length Gac1, .slice Ga2 g3.length Gac2, .int .i64 g4, .int .i64 g5], .int .i64 1] ?_; refine (heldX_ k HM.out g4 g5 1 hh A12'.out).mono ?_; rintro e ws ⟨rfl, hb⟩; refine ⟨_, rfl, ?_⟩; replace HM := Aside0.mk (HM.out.below hb); replace HU := Aside0.mk (HU.out.below hb); replace BU := Aside0.mk (bb_ BU.out hb); replace BG := Aside0.mk (bb_ BG.out hb); replace BK2 := Aside0.mk (bb_ BK2.out hb); replace HB := Aside0.mk (below_step HB.out hb); clear hb; clear hczg0 hfzg0 hczg1 hfzg1 hczg2 hfzg2 hczg3 hfzg3 hczg4 hfzg4; obtain ⟨hczx0, hczx1, hczx2, hczx3, hczx4⟩ := cz5_ BK2.out; obtain ⟨hfzx0, hfzx1, hfzx2, hfzx3, hfzx4⟩ := fz5_ BK2.out) | ((with_reducible refine gate_callee (f := 17) rfl ?_); refine ga_ (some 111) Try.func17 #[.agg #[.slice A0_0 l0_0.length c0_0, .slice A0_1 l0_1.length c0_1, .slice A0_2 l0_2.length c0_2, .int .i64 a0_3, .int .i64 a0_4]] ?_; refine (toXX_ k _ _ l0_0 _ _ l0_1 _ _ l0_2 a0_3 a0_4 x1 x2 x3 x4 x5 _ (Kd.C_below HR0.out HB.out) HC0.out (Kd.C_below HR1.out HB.out) HC1.out (Kd.C_below HR2.out HB.out) HC2.out A3'.out).mono ?_; rintro e wt ⟨Tx0, Tx1, Tx2, Txc0, Txc1, Txc2, rfl, hx, hb⟩; refine ⟨_, rfl, ?_⟩; replace HM := Aside0.mk (HM.out.below hb); replace HU := Aside0.mk (HU.out.below hb); replace BU := Aside0.mk (bb_ BU.out hb); replace BG := Aside0.mk (bb_ BG.out hb); replace BK2 := Aside0.mk (bb_ BK2.out hb); replace HB := Aside0.mk (below_step HB.out hb); have HT := Aside0.mk hx; clear hczx0 hfzx0 hczx1 hfzx1 hczx2 hfzx2 hczx3 hfzx3 hczx4 hfzx4; clear hb hx) | ((with_reducible refine gate_callee (f := 52) rfl ?_); refine ga_ (some 113) Try.func52 #[.slice A1 l1.length c1] ?_; refine (toWW_ k A1 c1 l1 y _ (Kd.C_below HR3.out HB.out) HC3.out A4'.out).mono ?_; rintro e wu ⟨Tl, Tlc, rfl, hx, hb⟩; refine ⟨_, rfl, ?_⟩; replace HT := Aside0.mk (HT.out.below hb); replace HM := Aside0.mk (HM.out.below hb); replace HU := Aside0.mk (HU.out.below hb); replace BU := Aside0.mk (bb_ BU.out hb); replace BG := Aside0.mk (bb_ BG.out hb); replace BK2 := Aside0.mk (bb_ BK2.out hb); replace HB := Aside0.mk (below_step HB.out hb); have HV := Aside0.mk hx; clear hb hx) | ((with_reducible refine gate_callee (f := 29) rfl ?_); refine ga_ (some 114) Try.func29 #[.agg #[.slice Tx0 x1.length Txc0, .slice Tx1 x2.length Txc1, .slice Tx2 x3.length Txc2, .int .i64 x4, .int .i64 x5], .slice Tl y.length Tlc] ?_; refine (wallI_ k HT.out.x3 HV.out x4 x5 g1 g2 g3 g4 g5 g6 g7 A6'.out).mono ?_; rintro e wv ⟨Ha0, Ha1, Ha2, Hac0, Hac1, Hac2, rfl, hx, hb⟩; refine ⟨_, rfl, ?_⟩; replace HM := Aside0.mk (HM.out.below hb); replace HU := Aside0.mk (HU.out.below hb); replace BU := Aside0.mk (bb_ BU.out hb); replace BG := Aside0.mk (bb_ BG.out hb); replace BK2 := Aside0.mk (bb_ BK2.out hb); replace HB := Aside0.mk (below_step HB.out hb); have HH := Aside0.mk hx; clear HT HV; clear hb hx) | ((with_reducible refine gate_dst (N := 17) rfl ?_); refine box_event ?hg (N := 17) ?hd (cs := #[.slice none 0 0, .slice none 0 0, .slice none 0 0, .int .i64 0, .int .i64 0]) (t := 30) ?hr ?_; (case hd => rfl); (case hg => rfl); (case hr => first | (go_simp; done) | (go_simp; rfl)); intro g17_ hg wv1 hbox hb; have BN := Aside0.mk hbox; have HJ := Aside0.mk hb; have GJ := Aside0.mk (show wv.heap.size ≤ g17_ from by rw [hg]; exact Nat.le_refl _); clear hb hbox hg; obtain ⟨hczn0, hczn1, hczn2, hczn3, hczn4⟩ := cz5_ BN.out; obtain ⟨hfzn0, hfzn1, hfzn2, hfzn3, hfzn4⟩ := fz5_ BN.out) | ((with_reducible refine gate_store (t := 30) (p := 17) rfl ?_); refine store_event (t := 30) (p := 17) (v := ?vo_ww) (w1 := (((((wv1.setCell ⟨g17_, 0, none⟩ (.slice Ha0 g1.length Hac0)).setCell ⟨g17_, 1, none⟩ (.slice Ha1 g2.length Hac1)).setCell ⟨g17_, 2, none⟩ (.slice Ha2 g3.length Hac2)).setCell ⟨g17_, 3, none⟩ (.int .i64 g4)).setCell ⟨g17_, 4, none⟩ (.int .i64 g5))) ?hg ?ho ?hn ?hr ?_; (case ho => rfl); (case hg => rfl); (case hn => rfl); (case hr => first | (go_simp; done) | (go_simp; rfl)); intro ww hw; clear hczn0 hfzn0 hczn1 hfzn1 hczn2 hfzn2 hczn3 hfzn3 hczn4 hfzn4; have hb : Below wv.heap.size wv ww := (by rw [hw]; exact set5_below HJ.out GJ.out (.slice Ha0 g1.length Hac0) (.slice Ha1 g2.length Hac1) (.slice Ha2 g3.length Hac2) (.int .i64 g4) (.int .i64 g5)); have BH : Aside0 (ww.heap[g17_]? = some (.cells #[.slice Ha0 g1.length Hac0, .slice Ha1 g2.length Hac1, .slice Ha2 g3.length Hac2, .int .i64 g4, .int .i64 g5] 30 (0, 0))) := ⟨by rw [hw]; exact set5_blk BN.out (.slice Ha0 g1.length Hac0) (.slice Ha1 g2.length Hac1) (.slice Ha2 g3.length Hac2) (.int .i64 g4) (.int .i64 g5)⟩; replace HH := Aside0.mk (HH.out.below hb); replace HM := Aside0.mk (HM.out.below hb); replace HU := Aside0.mk (HU.out.below hb); replace BU := Aside0.mk (bb_ BU.out hb); replace BG := Aside0.mk (bb_ BG.out hb); replace BK2 := Aside0.mk (bb_ BK2.out hb); replace HB := Aside0.mk (below_step HB.out hb); clear hw hb BN HJ GJ; obtain ⟨hczh0, hczh1, hczh2, hczh3, hczh4⟩ := cz5_ BH.out; obtain ⟨hfzh0, hfzh1, hfzh2, hfzh3, hfzh4⟩ := fz5_ BH.out; obtain ⟨hczu0, hczu1, hczu2, hczu3, hczu4⟩ := cz5_ BU.out; obtain ⟨hfzu0, hfzu1, hfzu2, hfzu3, hfzu4⟩ := fz5_ BU.out) | ((with_reducible refine gate_callee (f := 19) rfl ?_); refine ga_ (some 120) Try.func19 #[.agg #[.slice Ha0 g1.length Hac0, .slice Ha1 g2.length Hac1, .slice Ha2 g3.length Hac2, .int .i64 g4, .int .i64 g5], .agg #[.slice Ua0 d1.length Uac0, .slice Ua1 d2.length Uac1, .slice Ua2 d3.length Uac2, .int .i64 d4, .int .i64 d5]] ?_; refine (eqX_ k HH.out.x3 HU.out.x3 g4 g5 d4 d5 true A7'.out).mono ?_; rintro e wx ⟨rfl, hb⟩; refine ⟨_, rfl, ?_⟩; replace HM := Aside0.mk (HM.out.below hb); replace BG := Aside0.mk (bb_ BG.out hb); replace HB := Aside0.mk (below_step HB.out hb); clear hb; clear HH HU BH BU BK2; clear hczh0 hfzh0 hczh1 hfzh1 hczh2 hfzh2 hczh3 hfzh3 hczh4 hfzh4 hczu0 hfzu0 hczu1 hfzu1 hczu2 hfzu2 hczu3 hfzu3 hczu4 hfzu4; obtain ⟨hczg0, hczg1, hczg2, hczg3, hczg4⟩ := cz5_ BG.out; obtain ⟨hfzg0, hfzg1, hfzg2, hfzg3, hfzg4⟩ := fz5_ BG.out) | ((with_reducible refine gate_callee (f := 42) rfl ?_); refine ga_ (some 134) Try.func42 #[.agg #[.slice Ga0 g1.length Gac0, .slice Ga1 g2.length Gac1, .slice Ga2 g3.length Gac2, .int .i64 g4, .int .i64 g5], .int .i64 1] ?_; refine (heldX_ k HM.out g4 g5 1 hh A12'.out).mono ?_; rintro e wy ⟨rfl, hb⟩; refine ⟨_, rfl, ?_⟩; replace HM := Aside0.mk (HM.out.below hb); replace BG := Aside0.mk (bb_ BG.out hb); replace HB := Aside0.mk (below_step HB.out hb); clear hb; clear hczg0 hfzg0 hczg1 hfzg1 hczg2 hfzg2 hczg3 hfzg3 hczg4 hfzg4))
 go_ret
 exact ⟨rr_, HB.out⟩
end Go.Proofs.Ythmjimboajmhmaa.Pr

namespace Go.Proofs.YthmjimboajmhmaaW.Opens
open Go.ChangeShapes Go.WideShapes Go.RowKit
open Go.Deep (open_slice choose_lt)
open Go.Proofs.YthmjimboajmhmaaW.PrintWords
set_option linter.unusedVariables false
set_option linter.unusedSimpArgs false
def Opn {α : Type} (P : Program) (t : TypeId) (d : Kd α) (wf : α → Prop) : Prop :=
 P.cellsOf t = d.sz ∧ ∀ (H : Type) (enc : TypeId × Value → H) (W : World) (fuel : Nat) (cs : List Value) (x : DataW H × List MemPlace),
  DataW.trod enc P W 0 (fun _ => true) true fuel t cs = some x → (∀ n ∈ x.1.weights P t, n ≤ reachBytes) → ∃ y, d.K W y cs ∧ wf y
theorem Opn.int {P : Program} {t : TypeId} {k : IntKind} (hc : P.cellsOf t = 1) (ht : P.underlying t = some (.int k)) : Opn P t (Kd.int k) (fun n => (Lit.int k n).wf = true) :=
 ⟨hc, fun H enc W fuel cs x h _ => by
  obtain ⟨m, rfl, rfl, hw⟩ := DataW.trod_int ht h
  exact ⟨m, rfl, hw⟩⟩
theorem Opn.bool {P : Program} {t : TypeId} (hc : P.cellsOf t = 1) (ht : P.underlying t = some .bool) : Opn P t Kd.bool (fun _ => True) :=
 ⟨hc, fun H enc W fuel cs x h _ => by
  obtain ⟨m, rfl, rfl⟩ := DataW.trod_bool ht h
  exact ⟨m, rfl, trivial⟩⟩
theorem weightsAll_mem {H : Type} {P : Program} {e : TypeId} : ∀ {l : List (DataW H)} {d : DataW H}, d ∈ l → ∀ n ∈ d.weights P e, n ∈ DataW.weightsAll P e l
 | _ :: r, d, h, n, hn => by
  simp only [DataW.weightsAll, List.mem_append]
  rcases List.mem_cons.1 h with rfl | h
  ·
   exact .inl hn
  ·
   exact .inr (weightsAll_mem h n hn)
theorem Opn.slice {α : Type} (z : α) {P : Program} {t e : TypeId} {d : Kd α} {wf : α → Prop} {B : Nat} (hc : P.cellsOf t = 1) (ht : P.underlying t = some (.slice e)) (hB : P.bytesOf e = B) (h : Opn P e d wf) :
  Opn P t (Kd.slice e d) (fun xs => xs.length ≤ maxLen ∧ xs.length * B ≤ 140737488351232 ∧ ∀ y ∈ xs, wf y) :=
 ⟨hc, fun H enc W fuel cs x hf hw => by
  haveI : Inhabited α := ⟨z⟩
  rcases open_slice ht hf with ⟨rfl, rfl⟩ | ⟨a, len, cap, m, n, D, Pl, rfl, _, hl, hm, hmm, rfl, each⟩
  ·
   exact ⟨[], ⟨none, 0, rfl, Nat.le_refl _, rfl, by simp, fun h => absurd h (Nat.lt_irrefl 0)⟩, by simp, by simp, by simp⟩
  ·
   rw [if_pos rfl] at hmm
   subst hmm
   have hw0 : ∀ n ∈ DataW.weights P t (DataW.slice (H := H) ((List.range len).map D) ((List.range (m - len)).map fun j => D (len + j))), n ≤ reachBytes := hw
   have hww : ∀ i, i < len → ∀ n ∈ (D i).weights P e, n ≤ reachBytes := by
    intro i hi n hn
    refine hw0 n ?_
    simp only [DataW.weights, ht, List.mem_cons, List.mem_append]
    exact .inr (.inl (weightsAll_mem (List.mem_map.2 ⟨i, List.mem_range.2 hi, rfl⟩) n hn))
   have hB2 : len * B ≤ 140737488351232 := by
    have := hw0 ((len + (m - len)) * B) (by simp [DataW.weights, ht, hB])
    refine Nat.le_trans (Nat.mul_le_mul_right _ (by omega)) this
   have hx : ∀ i, i < len → ∃ y, ∃ c : List Value, c.length = d.sz ∧ d.K W y c ∧ wf y ∧ ∀ j u, c[j]? = some u → W.cell? (a.add (i * d.sz + j)) = some u := by
    intro i hi
    obtain ⟨cs', h1, h2⟩ := each i (by omega)
    obtain ⟨y, hy, hwy⟩ := h.2 H enc W n cs' _ h2 (hww i hi)
    obtain ⟨_, hlen, hcell⟩ := World.cells?_some h1
    rw [h.1] at hlen hcell
    refine ⟨y, cs', hlen, hy, hwy, fun j u hu => ?_⟩
    have hj : j < d.sz := by
     have := (List.getElem?_eq_some_iff.1 hu).1
     omega
    have := hcell j hj
    rw [add_add] at this
    exact this.trans hu
   obtain ⟨f, hf'⟩ := choose_lt hx
   refine ⟨(List.range len).map f, ⟨some a, m, by simp, by simpa using hl, by simp, by simp only [maxLen] at hm; simp; omega, fun _ => ⟨a, rfl, fun j p hj => ?_⟩⟩, ?_, ?_, ?_⟩
   ·
    rw [List.getElem?_map] at hj
    have hj' : j < len := by
     by_cases hjl : j < len
     ·
      exact hjl
     ·
      rw [List.getElem?_eq_none (by simp; omega)] at hj
      cases hj
    rw [List.getElem?_range hj'] at hj
    obtain rfl := Option.some.inj hj
    obtain ⟨c, h1, h2, _, h3⟩ := hf' j hj'
    exact ⟨c, h1, h2, h3⟩
   ·
    simp; omega
   ·
    simpa using hB2
   ·
    intro y hy
    obtain ⟨i, hi, rfl⟩ := List.mem_map.1 hy
    obtain ⟨c, _, _, h2, _⟩ := hf' i (List.mem_range.1 hi)
    exact h2⟩
def FOpn {α : Type} (P : Program) (fs : List Field) (off : Nat) (d : Kd α) (wf : α → Prop) : Prop :=
 ∀ (H : Type) (enc : TypeId × Value → H) (W : World) (fuel : Nat) (cs : List Value) (xs : List (DataW H × List MemPlace)),
  xs.length = fs.length → (∀ (i : Nat) (f : Field), fs[i]? = some f → DataW.trod enc P W 0 (fun _ => true) true fuel f.type ((cs.drop f.offset).take (P.cellsOf f.type)) = xs[i]?) →
  (∀ n ∈ DataW.weightsEach P (fs.map (·.type)) (xs.map (·.1)), n ≤ reachBytes) → ∃ y, d.K W y ((cs.drop off).take d.sz) ∧ wf y
theorem FOpn.one {α : Type} {P : Program} {f : Field} {off : Nat} {d : Kd α} {wf : α → Prop} (ho : f.offset = off) (h : Opn P f.type d wf) : FOpn P [f] off d wf := by
 intro H enc W fuel cs xs hl hx hw
 match xs, hl with
 | [x], _ =>
  have h0 := hx 0 f rfl
  rw [ho, h.1] at h0
  exact h.2 H enc W fuel _ x h0 (fun n hn => hw n (by simp only [List.map, DataW.weightsEach, List.mem_append]; exact .inl hn))
theorem FOpn.cons {α β : Type} {P : Program} {f : Field} {fs : List Field} {off : Nat} {d : Kd α} {d' : Kd β} {wf : α → Prop} {wf' : β → Prop} (ho : f.offset = off) (h : Opn P f.type d wf) (h' : FOpn P fs (off + d.sz) d' wf') :
  FOpn P (f :: fs) off (Kd.pair d d') (fun x => wf x.1 ∧ wf' x.2) := by
 intro H enc W fuel cs xs hl hx hw
 match xs, hl with
 | x :: xs, hl =>
  have h0 := hx 0 f rfl
  rw [ho, h.1] at h0
  have hw' : ∀ n ∈ x.1.weights P f.type ++ DataW.weightsEach P (fs.map (·.type)) (xs.map (·.1)), n ≤ reachBytes := hw
  obtain ⟨y, hy, hwy⟩ := h.2 H enc W fuel _ x h0 (fun n hn => hw' n (List.mem_append_left _ hn))
  obtain ⟨y', hy', hwy'⟩ := h' H enc W fuel cs xs (by simpa using hl) (fun i f' hf' => hx (i + 1) f' (by simpa using hf')) (fun n hn => hw' n (List.mem_append_right _ hn))
  refine ⟨(y, y'), ⟨_, _, ?_, hy, hy'⟩, hwy, hwy'⟩
  show (cs.drop off).take (d.sz + d'.sz) = _
  rw [List.take_add, List.drop_drop]
theorem Opn.struct {α β : Type} {P : Program} {t : TypeId} {fs : Array Field} {d : Kd α} {wf : α → Prop} (f : β → α) (g : α → β) (hfg : ∀ x, f (g x) = x) (hc : P.cellsOf t = d.sz) (ht : P.underlying t = some (.struct fs)) (h : FOpn P fs.toList 0 d wf) :
  Opn P t (Kd.iso d f) (fun x => wf (f x)) :=
 ⟨hc, fun H enc W fuel cs x hf hw => by
  obtain ⟨xs, n, rfl, rfl, hl, hxs, each⟩ := DataW.trod_struct ht hf
  obtain ⟨y, hy, hwy⟩ := h H enc W n cs xs (by simpa using hxs) (fun i f' hf' => each i f' (by simpa using hf')) (fun n hn => hw n (by simp only [DataW.weights, ht]; exact hn))
  rw [List.drop_zero, List.take_of_length_le (by rw [hl, hc]; exact Nat.le_refl _)] at hy
  exact ⟨g y, (by rw [← hfg y] at hy; exact hy), (by rw [← hfg y] at hwy; exact hwy)⟩⟩
theorem par_weights {H : Type} {P : Program} {ts : List TypeId} {ds : List (DataW H)} {j : Nat} {t : TypeId} {d : DataW H} (h : (DataW.weightsEach P ts ds).all (· ≤ reachBytes) = true) (ht : ts[j]? = some t) (hd : ds[j]? = some d) :
  ∀ n ∈ d.weights P t, n ≤ reachBytes := fun n hn => of_decide_eq_true (List.all_eq_true.1 h n (DataW.weights_mem_each ht hd n hn))
theorem par_slice {α : Type} {H : Type} {enc : TypeId × Value → H} {P : Program} {W : World} {r : Reach} {b0 : Nat} {t e : TypeId} {d : Kd α} {wf : List α → Prop} {v : Value} {D : DataW H} {ps : List MemPlace}
  (ht : P.underlying t = some (.slice e)) (ho : Opn P t (Kd.slice e d) wf) (hv : Value.okWide P W r b0 t v) (hd : DataW.Trod enc P W 0 (fun _ => true) true t v D ps) (hw : ∀ n ∈ D.weights P t, n ≤ reachBytes) :
  ∃ (A : Option Addr) (l : List α) (c : Nat), v = .slice A l.length c ∧ l.length ≤ c ∧ d.C W A l.length l ∧ wf l := by
 obtain ⟨A, len, cap, rfl⟩ := okWide_slice ht hv
 obtain ⟨fuel, hf⟩ := hd
 obtain ⟨l, ⟨A', c, he, hl, hC⟩, hwl⟩ := ho.2 H enc W fuel _ _ hf hw
 have he' : [Value.slice A len cap] = [.slice A' l.length c] := he
 simp only [List.cons.injEq, Value.slice.injEq, and_true] at he'
 obtain ⟨rfl, rfl, rfl⟩ := he'
 exact ⟨_, l, _, rfl, hl, hC, hwl⟩
theorem par_struct {α : Type} {H : Type} {enc : TypeId × Value → H} {P : Program} {W : World} {r : Reach} {b0 : Nat} {t : TypeId} {fs : Array Field} {d : Kd α} {wf : α → Prop} {v : Value} {D : DataW H} {ps : List MemPlace}
  (ht : P.underlying t = some (.struct fs)) (ho : Opn P t d wf) (hv : Value.okWide P W r b0 t v) (hd : DataW.Trod enc P W 0 (fun _ => true) true t v D ps) (hw : ∀ n ∈ D.weights P t, n ≤ reachBytes) :
  ∃ (cs : List Value) (x : α), v = .agg cs.toArray ∧ d.K W x cs ∧ wf x := by
 obtain ⟨cs, rfl, _⟩ := okWide_struct ht hv
 obtain ⟨fuel, hf⟩ := hd
 obtain ⟨y, hy, hwy⟩ := ho.2 H enc W fuel _ _ hf hw
 exact ⟨cs.toList, y, by simp, hy, hwy⟩
end Go.Proofs.YthmjimboajmhmaaW.Opens

namespace Go.Proofs.Ythmjimboajmhmaa.Pr
open Go.RowKit Go.Proofs.YthmjimboajmhmaaW.PrintWords Go.Proofs.YthmjimboajmhmaaW.PrintLast Go.Proofs.YthmjimboajmhmaaW.Opens
set_option linter.unusedVariables false
def wf65 (x : S65) : Prop := (Lit.int .i64 x.f0).wf = true ∧ (Lit.int .i64 x.f1).wf = true ∧ (Lit.int .i64 x.f2).wf = true ∧ (Lit.int .i64 x.f3).wf = true ∧ (Lit.int .i64 x.f4).wf = true
theorem opn65 : Opn Try.prog 65 k65 wf65 := Opn.struct (fun x : S65 => (x.f0, x.f1, x.f2, x.f3, x.f4)) (fun p => ⟨p.1, p.2.1, p.2.2.1, p.2.2.2.1, p.2.2.2.2⟩) (fun _ => rfl) (by kernel_rfl) Try.underlying65 (FOpn.cons rfl (Opn.int (by kernel_rfl) Try.underlying3) (FOpn.cons rfl (Opn.int (by kernel_rfl) Try.underlying3) (FOpn.cons rfl (Opn.int (by kernel_rfl) Try.underlying3) (FOpn.cons rfl (Opn.int (by kernel_rfl) Try.underlying3) (FOpn.one rfl (Opn.int (by kernel_rfl) Try.underlying3))))))
def wfL65 (l : List S65) : Prop := l.length ≤ maxLen ∧ l.length * 40 ≤ 140737488351232 ∧ ∀ y ∈ l, wf65 y
theorem opnL22 : Opn Try.prog 22 (Kd.slice 65 k65) wfL65 := Opn.slice z65 (by kernel_rfl) Try.underlying22 (by kernel_rfl) opn65
def wfL4 (l : List Bool) : Prop := l.length ≤ maxLen ∧ l.length * 1 ≤ 140737488351232 ∧ ∀ y ∈ l, True
theorem opnL23 : Opn Try.prog 23 (Kd.slice 4 Kd.bool) wfL4 := Opn.slice false (by kernel_rfl) Try.underlying23 (by kernel_rfl) (Opn.bool (by kernel_rfl) Try.underlying4)
def wf25 (x : S25) : Prop := wfL65 x.f0 ∧ wfL4 x.f1 ∧ wfL4 x.f2 ∧ (Lit.int .i64 x.f3).wf = true ∧ (Lit.int .i64 x.f4).wf = true
theorem opn25 : Opn Try.prog 25 k25 wf25 := Opn.struct (fun x : S25 => (x.f0, x.f1, x.f2, x.f3, x.f4)) (fun p => ⟨p.1, p.2.1, p.2.2.1, p.2.2.2.1, p.2.2.2.2⟩) (fun _ => rfl) (by kernel_rfl) Try.underlying25 (FOpn.cons rfl opnL22 (FOpn.cons rfl opnL23 (FOpn.cons rfl opnL23 (FOpn.cons rfl (Opn.int (by kernel_rfl) Try.underlying3) (FOpn.one rfl (Opn.int (by kernel_rfl) Try.underlying3))))))
theorem kq25_open {w : World} {x : S25} {cs : List Value} (h : k25.K w x cs) : ∃ (A0 : Option Addr) (c0 : Nat) (A1 : Option Addr) (c1 : Nat) (A2 : Option Addr) (c2 : Nat), cs = [.slice A0 x.f0.length c0, .slice A1 x.f1.length c1, .slice A2 x.f2.length c2, .int .i64 x.f3, .int .i64 x.f4] ∧ x.f0.length ≤ c0 ∧ Kd.C k65 w A0 x.f0.length x.f0 ∧ x.f1.length ≤ c1 ∧ Kd.C Kd.bool w A1 x.f1.length x.f1 ∧ x.f2.length ≤ c2 ∧ Kd.C Kd.bool w A2 x.f2.length x.f2 := by
 obtain ⟨_, _, rfl, ⟨A0, c0, rfl, hl0, hC0⟩, ⟨_, _, rfl, ⟨A1, c1, rfl, hl1, hC1⟩, ⟨_, _, rfl, ⟨A2, c2, rfl, hl2, hC2⟩, ⟨_, _, rfl, rfl, rfl⟩⟩⟩⟩ := h
 exact ⟨A0, c0, A1, c1, A2, c2, rfl, hl0, hC0, hl1, hC1, hl2, hC2⟩
def wf67 (x : S67) : Prop := (Lit.int .i64 x.f0).wf = true ∧ (Lit.int .i64 x.f1).wf = true ∧ wf65 x.f2
theorem opn67 : Opn Try.prog 67 k67 wf67 := Opn.struct (fun x : S67 => (x.f0, x.f1, x.f2)) (fun p => ⟨p.1, p.2.1, p.2.2⟩) (fun _ => rfl) (by kernel_rfl) Try.underlying67 (FOpn.cons rfl (Opn.int (by kernel_rfl) Try.underlying3) (FOpn.cons rfl (Opn.int (by kernel_rfl) Try.underlying3) (FOpn.one rfl opn65)))
def wfL67 (l : List S67) : Prop := l.length ≤ maxLen ∧ l.length * 56 ≤ 140737488351232 ∧ ∀ y ∈ l, wf67 y
theorem opnL70 : Opn Try.prog 70 (Kd.slice 67 k67) wfL67 := Opn.slice z67 (by kernel_rfl) Try.underlying70 (by kernel_rfl) opn67
def FnExactWalkAll.Pure : Prop := ∀ (x0 : S25) (x1 : (List S67)), wf25 x0 → wfL67 x1 → ∃ k, laws_FnExactWalkAll.f k x0.f0 x0.f1 x0.f2 x0.f3 x0.f4 x1 = some true
end Go.Proofs.Ythmjimboajmhmaa.Pr

namespace Go.Proofs.Ythmjimboajmhmaa.Pr.Pure
open Go.RowKit Go.Proofs.YthmjimboajmhmaaW.PrintWords Go.Proofs.YthmjimboajmhmaaW.PrintLast Go.Proofs.YthmjimboajmhmaaW.PrintMore
set_option linter.unusedVariables false
set_option linter.unusedSimpArgs false
def FAR : Int := 1073741824
structure Arc where
 a : Int
 b : Int
 t : Int
def step1 (D : List Int) (a b t : Int) : List Int := if rd D a + t < rd D b then D.set b.toNat (rd D a + t) else D
def rnd (A : List Arc) (D : List Int) : List Int := A.foldl (fun D e => step1 D e.a e.b e.t) D
def it (A : List Arc) : Nat → List Int → List Int
 | 0, D => D
 | k + 1, D => rnd A (it A k D)
def In8 (i : Int) : Prop := 0 ≤ i ∧ i < 8
def OkA (A : List Arc) : Prop := ∀ e, e ∈ A → In8 e.a ∧ In8 e.b ∧ 1 ≤ e.t ∧ e.t ≤ 500
theorem rd_set {D : List Int} (hl : D.length = 8) {b i : Int} (hb : In8 b) (hi : In8 i) (x : Int) : rd (D.set b.toNat x) i = if i = b then x else rd D i := by
 unfold rd
 obtain ⟨hb0, hb1⟩ := hb
 obtain ⟨hi0, hi1⟩ := hi
 rw [List.getD_eq_getElem?_getD, List.getD_eq_getElem?_getD]
 by_cases e : i = b
 ·
  subst e
  rw [if_pos rfl, List.getElem?_set_self (by omega)]
  rfl
 ·
  rw [if_neg e, List.getElem?_set_ne (by omega)]
theorem len_step1 (D : List Int) (a b t : Int) : (step1 D a b t).length = D.length := by
 unfold step1
 split
 ·
  rw [List.length_set]
 ·
  rfl
theorem len_rnd (A : List Arc) : ∀ D : List Int, (rnd A D).length = D.length := by
 induction A with
 | nil => intro D; rfl
 | cons e A ih =>
  intro D
  show (rnd A (step1 D e.a e.b e.t)).length = _
  rw [ih, len_step1]
theorem rd_step1 {D : List Int} (hl : D.length = 8) {a b i : Int} (hb : In8 b) (hi : In8 i) (t : Int) : rd (step1 D a b t) i = if i = b ∧ rd D a + t < rd D b then rd D a + t else rd D i := by
 unfold step1
 by_cases h : rd D a + t < rd D b
 ·
  rw [if_pos h, rd_set hl hb hi]
  by_cases e : i = b
  ·
   rw [if_pos e, if_pos ⟨e, h⟩]
  ·
   rw [if_neg e, if_neg (fun z => e z.1)]
 ·
  rw [if_neg h, if_neg (fun z => h z.2)]
theorem step1_le {D : List Int} (hl : D.length = 8) {a b i : Int} (hb : In8 b) (hi : In8 i) (t : Int) : rd (step1 D a b t) i ≤ rd D i := by
 rw [rd_step1 hl hb hi]
 split
 ·
  rename_i h
  obtain ⟨rfl, h⟩ := h
  omega
 ·
  omega
theorem rnd_le (A : List Arc) (hA : OkA A) : ∀ (D : List Int), D.length = 8 → ∀ i, In8 i → rd (rnd A D) i ≤ rd D i := by
 induction A with
 | nil => intro D _ i _; exact Int.le_refl _
 | cons e A ih =>
  intro D hl i hi
  have h1 := ih (fun x hx => hA x (List.mem_cons_of_mem _ hx)) (step1 D e.a e.b e.t) (by rw [len_step1, hl]) i hi
  have h2 := step1_le (a := e.a) (t := e.t) hl (hA e List.mem_cons_self).2.1 hi
  exact Int.le_trans h1 h2
theorem rnd_arc (A : List Arc) (hA : OkA A) : ∀ (D : List Int), D.length = 8 → ∀ e, e ∈ A → rd (rnd A D) e.b ≤ rd D e.a + e.t := by
 induction A with
 | nil => intro D _ e he; cases he
 | cons x A ih =>
  intro D hl e he
  have hA' : OkA A := fun x hx => hA x (List.mem_cons_of_mem _ hx)
  have hx := hA x List.mem_cons_self
  have hl' : (step1 D x.a x.b x.t).length = 8 := by rw [len_step1, hl]
  show rd (rnd A (step1 D x.a x.b x.t)) e.b ≤ _
  rcases List.mem_cons.1 he with rfl | he'
  ·
   have h1 := rnd_le A hA' _ hl' e.b hx.2.1
   rw [rd_step1 hl hx.2.1 hx.2.1] at h1
   split at h1
   ·
    exact h1
   ·
    rename_i h
    have : ¬ (rd D e.a + e.t < rd D e.b) := fun z => h ⟨rfl, z⟩
    omega
  ·
   have h1 := ih hA' _ hl' e he'
   have h2 := step1_le (a := x.a) (t := x.t) hl hx.2.1 (hA e he).1
   omega
structure Inv (A : List Arc) (D : List Int) : Prop where
 len : D.length = 8
 lo : ∀ i, In8 i → 0 ≤ rd D i
 hi : ∀ i, In8 i → rd D i ≤ FAR
 zero : rd D 0 = 0
 tight : ∀ v, In8 v → v ≠ 0 → rd D v < FAR → ∃ e, e ∈ A ∧ e.b = v ∧ rd D e.a + e.t ≤ rd D v
theorem step_inv {A : List Arc} (hA : OkA A) {D : List Int} (h : Inv A D) {e : Arc} (he : e ∈ A) : Inv A (step1 D e.a e.b e.t) := by
 obtain ⟨ha, hb, ht, ht'⟩ := hA e he
 have hz : In8 0 := ⟨by omega, by omega⟩
 have la := h.lo e.a ha
 have hle := fun i hi => step1_le (a := e.a) (t := e.t) h.len hb (i := i) hi
 refine ⟨by rw [len_step1, h.len], fun i hi => ?_, fun i hi => Int.le_trans (hle i hi) (h.hi i hi), ?_, fun v hv hv0 hf => ?_⟩
 ·
  rw [rd_step1 h.len hb hi]
  split
  ·
   omega
  ·
   exact h.lo i hi
 ·
  rw [rd_step1 h.len hb hz]
  split
  ·
   rename_i z
   obtain ⟨z1, z2⟩ := z
   rw [← z1, h.zero] at z2
   omega
  ·
   exact h.zero
 ·
  by_cases hc : v = e.b ∧ rd D e.a + e.t < rd D e.b
  ·
   refine ⟨e, he, hc.1.symm, ?_⟩
   have := hle e.a ha
   have h2 := rd_step1 (a := e.a) (t := e.t) h.len hb hv
   rw [if_pos hc] at h2
   omega
  ·
   have h2 := rd_step1 (a := e.a) (t := e.t) h.len hb hv
   rw [if_neg hc] at h2
   rw [h2] at hf ⊢
   obtain ⟨x, hx, hxb, hxl⟩ := h.tight v hv hv0 hf
   exact ⟨x, hx, hxb, by have := hle x.a (hA x hx).1; omega⟩
theorem rnd_inv' {A : List Arc} (hA : OkA A) (B : List Arc) : (∀ e, e ∈ B → e ∈ A) → ∀ D, Inv A D → Inv A (rnd B D) := by
 induction B with
 | nil => intro _ D h; exact h
 | cons e B ih =>
  intro hB D h
  exact ih (fun x hx => hB x (List.mem_cons_of_mem _ hx)) _ (step_inv hA h (hB e List.mem_cons_self))
theorem rnd_inv {A : List Arc} (hA : OkA A) {D : List Int} (h : Inv A D) : Inv A (rnd A D) := rnd_inv' hA A (fun _ he => he) D h
theorem it_inv {A : List Arc} (hA : OkA A) {D : List Int} (h : Inv A D) : ∀ k, Inv A (it A k D)
 | 0 => h
 | k + 1 => rnd_inv hA (it_inv hA h k)
theorem cases8 {i : Int} (h : In8 i) : i = 0 ∨ i = 1 ∨ i = 2 ∨ i = 3 ∨ i = 4 ∨ i = 5 ∨ i = 6 ∨ i = 7 := by
 obtain ⟨h1, h2⟩ := h
 omega
theorem ext8 {D E : List Int} (hD : D.length = 8) (hE : E.length = 8) (h : ∀ i, In8 i → rd D i = rd E i) : D = E := by
 apply List.ext_getElem (by omega)
 intro i h1 h2
 have := h (i : Int) ⟨by omega, by omega⟩
 unfold rd at this
 rw [Int.toNat_natCast, List.getD_eq_getElem?_getD, List.getD_eq_getElem?_getD, List.getElem?_eq_getElem h1, List.getElem?_eq_getElem h2] at this
 exact this
def sum8 (D : List Int) : Int := rd D 0 + rd D 1 + rd D 2 + rd D 3 + rd D 4 + rd D 5 + rd D 6 + rd D 7
theorem le_or {D E : List Int} (hD : D.length = 8) (hE : E.length = 8) (h : ∀ i, In8 i → rd E i ≤ rd D i) : E = D ∨ sum8 E < sum8 D := by
 by_cases hq : ∀ i, In8 i → rd E i = rd D i
 ·
  exact .inl (ext8 hE hD hq)
 ·
  right
  obtain ⟨i, hi⟩ := Classical.not_forall.1 hq
  obtain ⟨hi8, hne⟩ := Classical.not_imp.1 hi
  have hlt : rd E i < rd D i := by have := h i hi8; omega
  have h0 := h 0 ⟨by omega, by omega⟩
  have h1 := h 1 ⟨by omega, by omega⟩
  have h2 := h 2 ⟨by omega, by omega⟩
  have h3 := h 3 ⟨by omega, by omega⟩
  have h4 := h 4 ⟨by omega, by omega⟩
  have h5 := h 5 ⟨by omega, by omega⟩
  have h6 := h 6 ⟨by omega, by omega⟩
  have h7 := h 7 ⟨by omega, by omega⟩
  unfold sum8
  rcases cases8 hi8 with rfl | rfl | rfl | rfl | rfl | rfl | rfl | rfl <;> omega
theorem sum8_nonneg {A : List Arc} {D : List Int} (h : Inv A D) : 0 ≤ sum8 D := by
 have h0 := h.lo 0 ⟨by omega, by omega⟩
 have h1 := h.lo 1 ⟨by omega, by omega⟩
 have h2 := h.lo 2 ⟨by omega, by omega⟩
 have h3 := h.lo 3 ⟨by omega, by omega⟩
 have h4 := h.lo 4 ⟨by omega, by omega⟩
 have h5 := h.lo 5 ⟨by omega, by omega⟩
 have h6 := h.lo 6 ⟨by omega, by omega⟩
 have h7 := h.lo 7 ⟨by omega, by omega⟩
 unfold sum8
 omega
theorem it_succ (A : List Arc) : ∀ (k : Nat) (D : List Int), it A (k + 1) D = it A k (rnd A D)
 | 0, D => rfl
 | k + 1, D => by
  show rnd A (it A (k + 1) D) = rnd A (it A k (rnd A D))
  rw [it_succ A k D]
theorem exists_fix {A : List Arc} (hA : OkA A) (n : Nat) : ∀ D, Inv A D → sum8 D ≤ n → ∃ N, rnd A (it A N D) = it A N D := by
 induction n with
 | zero =>
  intro D h hs
  rcases le_or h.len (by rw [len_rnd, h.len]) (rnd_le A hA D h.len) with e | e
  ·
   exact ⟨0, e⟩
  ·
   have := sum8_nonneg (rnd_inv hA h)
   omega
 | succ n ih =>
  intro D h hs
  rcases le_or h.len (by rw [len_rnd, h.len]) (rnd_le A hA D h.len) with e | e
  ·
   exact ⟨0, e⟩
  ·
   obtain ⟨N, hN⟩ := ih (rnd A D) (rnd_inv hA h) (by omega)
   refine ⟨N + 1, ?_⟩
   rw [it_succ]
   exact hN
theorem it_fix {A : List Arc} {D : List Int} (h : rnd A D = D) : ∀ k, it A k D = D
 | 0 => rfl
 | k + 1 => by
  show rnd A (it A k D) = D
  rw [it_fix h k, h]
theorem it_add (A : List Arc) (D : List Int) (j : Nat) : ∀ k, it A (j + k) D = it A k (it A j D)
 | 0 => rfl
 | k + 1 => by
  show rnd A (it A (j + k) D) = rnd A (it A k (it A j D))
  rw [it_add A D j k]
theorem it_anti {A : List Arc} (hA : OkA A) {D : List Int} (h : Inv A D) (j : Nat) : ∀ k i, In8 i → rd (it A (j + k) D) i ≤ rd (it A j D) i
 | 0, i, hi => Int.le_refl _
 | k + 1, i, hi => Int.le_trans (rnd_le A hA _ (it_inv hA h (j + k)).len i hi) (it_anti hA h j k i hi)
def cnt (d : List Int) (i v : Int) : Nat := if rd d i < rd d v then 1 else 0
theorem cnt_mono (d : List Int) {u v : Int} (h : rd d u < rd d v) (i : Int) : cnt d i u ≤ cnt d i v := by
 unfold cnt
 split <;> split <;> omega
theorem cnt_le (d : List Int) (i v : Int) : cnt d i v ≤ 1 := by
 unfold cnt
 split <;> omega
theorem cnt_self (d : List Int) (v : Int) : cnt d v v = 0 := by
 unfold cnt
 rw [if_neg (by omega)]
theorem cnt_yes (d : List Int) {u v : Int} (h : rd d u < rd d v) : cnt d u v = 1 := by
 unfold cnt
 rw [if_pos h]
def rank (d : List Int) (v : Int) : Nat := cnt d 0 v + cnt d 1 v + cnt d 2 v + cnt d 3 v + cnt d 4 v + cnt d 5 v + cnt d 6 v + cnt d 7 v
theorem rank_lt (d : List Int) {u v : Int} (hu : In8 u) (h : rd d u < rd d v) : rank d u < rank d v := by
 have m := cnt_mono d h
 have m0 := m 0
 have m1 := m 1
 have m2 := m 2
 have m3 := m 3
 have m4 := m 4
 have m5 := m 5
 have m6 := m 6
 have m7 := m 7
 have s := cnt_self d u
 have y := cnt_yes d h
 clear m h
 unfold rank
 rcases cases8 hu with rfl | rfl | rfl | rfl | rfl | rfl | rfl | rfl <;> omega
theorem rank_le (d : List Int) {v : Int} (hv : In8 v) : rank d v ≤ 7 := by
 have m := fun i => cnt_le d i v
 have m0 := m 0
 have m1 := m 1
 have m2 := m 2
 have m3 := m 3
 have m4 := m 4
 have m5 := m 5
 have m6 := m 6
 have m7 := m 7
 have s := cnt_self d v
 clear m
 unfold rank
 rcases cases8 hv with rfl | rfl | rfl | rfl | rfl | rfl | rfl | rfl <;> omega
def D0 : List Int := [0, FAR, FAR, FAR, FAR, FAR, FAR, FAR]
theorem D0_far {v : Int} (hv : In8 v) (h0 : v ≠ 0) : rd D0 v = FAR := by
 rcases cases8 hv with rfl | rfl | rfl | rfl | rfl | rfl | rfl | rfl
 ·
  exact absurd rfl h0
 all_goals rfl
theorem D0_inv (A : List Arc) : Inv A D0 := by
 refine ⟨rfl, fun i hi => ?_, fun i hi => ?_, rfl, fun v hv h0 hf => ?_⟩
 ·
  by_cases h : i = 0
  ·
   rw [h]; decide
  ·
   rw [D0_far hi h]; decide
 ·
  by_cases h : i = 0
  ·
   rw [h]; decide
  ·
   rw [D0_far hi h]; decide
 ·
  rw [D0_far hv h0] at hf
  omega
theorem it_rank {A : List Arc} (hA : OkA A) {d : List Int} (hd : Inv A d) (hle : ∀ k i, In8 i → rd d i ≤ rd (it A k D0) i) : ∀ (k : Nat) (v : Int), In8 v → rank d v ≤ k → rd (it A k D0) v = rd d v := by
 intro k
 induction k with
 | zero =>
  intro v hv hr
  by_cases h0 : v = 0
  ·
   rw [h0, hd.zero]; rfl
  ·
   show rd D0 v = _
   rw [D0_far hv h0]
   have h1 := hd.hi v hv
   by_cases hf : rd d v < FAR
   ·
    obtain ⟨e, he, rfl, hl⟩ := hd.tight v hv h0 hf
    obtain ⟨ha, hb, ht, _⟩ := hA e he
    have := rank_lt d ha (show rd d e.a < rd d e.b by omega)
    omega
   ·
    omega
 | succ k ih =>
  intro v hv hr
  have h1 := hle (k + 1) v hv
  have h2 := (it_inv hA (D0_inv A) (k + 1)).hi v hv
  by_cases h0 : v = 0
  ·
   rw [h0, hd.zero, (it_inv hA (D0_inv A) (k + 1)).zero]
  ·
   by_cases hf : rd d v < FAR
   ·
    obtain ⟨e, he, rfl, hl⟩ := hd.tight v hv h0 hf
    obtain ⟨ha, hb, ht, _⟩ := hA e he
    have h3 := rank_lt d ha (show rd d e.a < rd d e.b by omega)
    have h4 := ih e.a ha (by omega)
    have h5 := rnd_arc A hA _ (it_inv hA (D0_inv A) k).len e he
    have h6 : rd (it A (k + 1) D0) e.b ≤ rd (it A k D0) e.a + e.t := h5
    omega
   ·
    have := hd.hi v hv
    omega
theorem fix7 {A : List Arc} (hA : OkA A) : rnd A (it A 7 D0) = it A 7 D0 := by
 obtain ⟨N, hN⟩ := exists_fix hA (sum8 D0).toNat D0 (D0_inv A) (by have := sum8_nonneg (D0_inv A); omega)
 have hi := it_inv hA (D0_inv A) N
 have hle : ∀ k i, In8 i → rd (it A N D0) i ≤ rd (it A k D0) i := by
  intro k i hi8
  rcases Nat.le_total k N with h | h
  ·
   have := it_anti hA (D0_inv A) k (N - k) i hi8
   rwa [show k + (N - k) = N by omega] at this
  ·
   have := it_add A D0 N (k - N)
   rw [show N + (k - N) = k by omega, it_fix hN] at this
   rw [this]
   exact Int.le_refl _
 have e : it A 7 D0 = it A N D0 := ext8 (it_inv hA (D0_inv A) 7).len hi.len (fun i h8 => it_rank hA hi hle 7 i h8 (rank_le _ h8))
 rw [e, hN]
def dec (x : Int) : Int := if x = FAR then -1 else x
def Bd (c : Int) (D : List Int) : Prop := ∀ i, In8 i → rd D i = FAR ∨ rd D i ≤ c
theorem Bd.mono {c c' : Int} {D : List Int} (h : Bd c D) (hc : c ≤ c') : Bd c' D := fun i hi => by
 rcases h i hi with h | h
 ·
  exact .inl h
 ·
  exact .inr (by omega)
theorem step_bd {c : Int} {D : List Int} (hl : D.length = 8) (h : Bd c D) {a b t : Int} (ha : In8 a) (hb : In8 b) (ht : t ≤ 500) (hh : ∀ i, In8 i → rd D i ≤ FAR) (ht0 : 0 ≤ t) : Bd (c + 500) (step1 D a b t) := fun i hi => by
 rw [rd_step1 hl hb hi]
 split
 ·
  rename_i z
  rcases h a ha with e | e
  ·
   have := hh b hb
   omega
  ·
   exact .inr (by omega)
 ·
  rcases h i hi with e | e
  ·
   exact .inl e
  ·
   exact .inr (by omega)
theorem rd_map {D : List Int} (hl : D.length = 8) {i : Int} (hi : In8 i) : rd (D.map dec) i = dec (rd D i) := by
 obtain ⟨h0, h1⟩ := hi
 unfold rd
 rw [List.getD_eq_getElem?_getD, List.getD_eq_getElem?_getD, List.getElem?_map, List.getElem?_eq_getElem (by omega)]
 rfl
theorem dec_nonneg {x : Int} (h : 0 ≤ x) (h' : x ≤ FAR) : dec x ≥ 0 ↔ x < FAR := by
 unfold dec
 split <;> omega
theorem map_set_dec (D : List Int) (n : Nat) (x : Int) (hx : x ≠ FAR) : (D.map dec).set n x = (D.set n x).map dec := by
 rw [List.map_set]
 congr 1
 unfold dec
 rw [if_neg hx]
theorem cond_dec {c : Int} {D : List Int} (hl : D.length = 8) (hlo : ∀ i, In8 i → 0 ≤ rd D i) (hhi : ∀ i, In8 i → rd D i ≤ FAR) (hb : Bd c D) (hc : c + 500 < FAR) {a b t : Int} (ha : In8 a) (hb8 : In8 b) (ht : 1 ≤ t) (ht' : t ≤ 500) :
  (rd (D.map dec) a ≥ 0 ↔ rd D a < FAR) ∧ (rd D a < FAR → rd (D.map dec) a = rd D a ∧ (rd (D.map dec) b < 0 ∨ rd D a + t < rd (D.map dec) b ↔ rd D a + t < rd D b) ∧ rd D a + t < FAR) ∧ (¬ rd D a < FAR → ¬ rd D a + t < rd D b) := by
 rw [rd_map hl ha, rd_map hl hb8]
 have a0 := hlo a ha
 have a1 := hhi a ha
 have b0 := hlo b hb8
 have b1 := hhi b hb8
 have a2 := hb a ha
 unfold FAR at *
 refine ⟨dec_nonneg a0 a1, fun h => ⟨?_, ?_, ?_⟩, fun h => by omega⟩
 ·
  unfold dec FAR
  rw [if_neg (by omega)]
 ·
  unfold dec FAR
  split <;> omega
 ·
  omega
theorem relax_comm {D : List Int} (hl : D.length = 8) {a b t : Int} (ha : In8 a) (hb : In8 b) (ht : 1 ≤ t) : step1 (step1 D b a t) a b t = step1 (step1 D a b t) b a t := by
 apply ext8 (by rw [len_step1, len_step1, hl]) (by rw [len_step1, len_step1, hl])
 intro i hi
 have l1 : (step1 D b a t).length = 8 := by rw [len_step1, hl]
 have l2 : (step1 D a b t).length = 8 := by rw [len_step1, hl]
 rw [rd_step1 l1 hb hi, rd_step1 l2 ha hi, rd_step1 hl ha ha, rd_step1 hl ha hb, rd_step1 hl ha hi, rd_step1 hl hb hb, rd_step1 hl hb ha, rd_step1 hl hb hi]
 by_cases e : a = b
 ·
  subst e
  simp only [true_and]
 ·
  have e' : ¬ b = a := fun h => e h.symm
  simp only [e, e', false_and, if_false, true_and]
  by_cases c1 : rd D b + t < rd D a
  ·
   simp only [c1, if_true, and_true]
   have c2 : ¬ rd D a + t < rd D b := by omega
   have c3 : ¬ rd D b + t + t < rd D b := by omega
   simp only [c2, c3, and_false, if_false, c1, and_true]
  ·
   by_cases c2 : rd D a + t < rd D b
   ·
    have c3 : ¬ rd D a + t + t < rd D a := by omega
    simp only [c1, c2, c3, and_false, and_true, if_false, if_true]
   ·
    simp only [c1, c2, and_false, if_false]
theorem w64 {x : Int} (h1 : -9223372036854775808 ≤ x) (h2 : x ≤ 9223372036854775807) : wrap64 x = x := by
 unfold wrap64
 omega
theorem set_map_step {α β : Type} (f : α → β) (l : List α) (z : β) (i : Nat) (hi : i < l.length) (a : α) (ha : l[i]? = some a) :
  ((l.take i).map f ++ List.replicate (l.length - i) z).set i (f a) = (l.take (i + 1)).map f ++ List.replicate (l.length - (i + 1)) z := by
 have h1 : ((l.take i).map f).length = i := by simp; omega
 rw [List.set_append_right _ _ (by omega), h1, Nat.sub_self]
 obtain ⟨m, hm⟩ : ∃ m, l.length - i = m + 1 := ⟨l.length - i - 1, by omega⟩
 rw [hm, show l.length - (i + 1) = m by omega, List.replicate_succ, List.set_cons_zero, List.take_add_one, ha]
 simp
theorem getD_some {α : Type} (l : List α) (z : α) (i : Nat) (h : i < l.length) : l[i]? = some (l.getD i z) := by
 rw [List.getD_eq_getElem?_getD, List.getElem?_eq_getElem h]
 rfl
def cvLeg (x : S65) : S37 := ⟨x.f0, x.f1, x.f2, x.f3, x.f4⟩
theorem toLegS_l0 (l : List S65) (hl : l.length ≤ 4611686018427387904) (d : Nat) : ∀ (k i : Nat), i + d = l.length → d < k →
  laws_toLegS.l0 k l ((l.take i).map cvLeg ++ List.replicate (l.length - i) z37) i = some (l.map cvLeg) := by
 induction d with
 | zero =>
  intro k i hd hk
  obtain ⟨k, rfl⟩ : ∃ m, k = m + 1 := ⟨k - 1, by omega⟩
  simp only [laws_toLegS.l0]
  rw [if_neg (by omega), List.take_of_length_le (by omega), show l.length - i = 0 by omega]
  simp
 | succ d ih =>
  intro k i hd hk
  obtain ⟨k, rfl⟩ : ∃ m, k = m + 1 := ⟨k - 1, by omega⟩
  simp only [laws_toLegS.l0, laws_toLeg.f, Option.bind_some]
  rw [if_pos (by omega), if_pos (by omega), if_pos (by simp; omega), w64 (by omega) (by omega)]
  have ha : l[i]? = some (rd_T65 l i) := getD_some l z65 i (by omega)
  rw [Int.toNat_natCast]
  have := set_map_step cvLeg l z37 i (by omega) _ ha
  rw [show (⟨(rd_T65 l i).f0, (rd_T65 l i).f1, (rd_T65 l i).f2, (rd_T65 l i).f3, (rd_T65 l i).f4⟩ : S37) = cvLeg (rd_T65 l i) from rfl, this]
  exact ih k (i + 1) (by omega) (by omega)
theorem toLegS_eq {l : List S65} (hl : l.length * 40 ≤ 140737488351232) {k : Nat} (hk : l.length < k) : laws_toLegS.f k l = some (l.map cvLeg) := by
 unfold laws_toLegS.f
 rw [if_pos (by omega), if_pos (by omega), Int.toNat_natCast]
 have := toLegS_l0 l (by omega) l.length k 0 (by omega) hk
 simpa using this
theorem eqLegS_self (l : List S37) (hl : l.length ≤ 4611686018427387904) (d : Nat) : ∀ (k : Nat) (i : Int), 0 ≤ i → i + d = l.length → d < k → laws_eqLegS.l0 k l l i = some true := by
 induction d with
 | zero =>
  intro k i h0 hd hk
  obtain ⟨k, rfl⟩ : ∃ m, k = m + 1 := ⟨k - 1, by omega⟩
  simp only [laws_eqLegS.l0]
  rw [if_neg (by omega)]
 | succ d ih =>
  intro k i h0 hd hk
  obtain ⟨k, rfl⟩ : ∃ m, k = m + 1 := ⟨k - 1, by omega⟩
  simp only [laws_eqLegS.l0, laws_eqLeg.f, if_true, Option.bind_some]
  rw [if_pos (by omega), if_pos (by omega), if_pos (by omega), w64 (by omega) (by omega)]
  exact ih k (i + 1) (by omega) (by omega) (by omega)
theorem eqLegS_eq {l : List S37} (hl : l.length ≤ 4611686018427387904) {k : Nat} (hk : l.length < k) : laws_eqLegS.f k l l = some true := by
 unfold laws_eqLegS.f
 rw [if_pos rfl]
 exact eqLegS_self l hl l.length k 0 (by omega) (by omega) hk
theorem toBoolS_l0 (l : List Bool) (hl : l.length ≤ 4611686018427387904) (d : Nat) : ∀ (k i : Nat), i + d = l.length → d < k →
  laws_toBoolS.l0 k l (l.take i ++ List.replicate (l.length - i) false) i = some l := by
 induction d with
 | zero =>
  intro k i hd hk
  obtain ⟨k, rfl⟩ : ∃ m, k = m + 1 := ⟨k - 1, by omega⟩
  simp only [laws_toBoolS.l0]
  rw [if_neg (by omega), List.take_of_length_le (by omega), show l.length - i = 0 by omega]
  simp
 | succ d ih =>
  intro k i hd hk
  obtain ⟨k, rfl⟩ : ∃ m, k = m + 1 := ⟨k - 1, by omega⟩
  simp only [laws_toBoolS.l0]
  rw [if_pos (by omega), if_pos (by omega), if_pos (by simp; omega), w64 (by omega) (by omega)]
  have ha : l[i]? = some (rdOf false l i) := getD_some l false i (by omega)
  rw [Int.toNat_natCast]
  have := set_map_step (fun x : Bool => x) l false i (by omega) _ ha
  rw [List.map_id'', List.map_id''] at this
  ·
   rw [this]
   exact ih k (i + 1) (by omega) (by omega)
  ·
   exact fun _ => rfl
  ·
   exact fun _ => rfl
theorem toBoolS_eq {l : List Bool} (hl : l.length ≤ 140737488351232) {k : Nat} (hk : l.length < k) : laws_toBoolS.f k l = some l := by
 unfold laws_toBoolS.f
 rw [if_pos (by omega), if_pos (by omega), Int.toNat_natCast]
 have := toBoolS_l0 l (by omega) l.length k 0 (by omega) hk
 simpa using this
theorem eqBoolS_self (l : List Bool) (hl : l.length ≤ 4611686018427387904) (d : Nat) : ∀ (k : Nat) (i : Int), 0 ≤ i → i + d = l.length → d < k → laws_eqBoolS.l0 k l l i = some true := by
 induction d with
 | zero =>
  intro k i h0 hd hk
  obtain ⟨k, rfl⟩ : ∃ m, k = m + 1 := ⟨k - 1, by omega⟩
  simp only [laws_eqBoolS.l0]
  rw [if_neg (by omega)]
 | succ d ih =>
  intro k i h0 hd hk
  obtain ⟨k, rfl⟩ : ∃ m, k = m + 1 := ⟨k - 1, by omega⟩
  simp only [laws_eqBoolS.l0, bne_self_eq_false, Bool.false_eq_true, if_false]
  rw [if_pos (by omega), if_pos (by omega), if_pos (by omega), w64 (by omega) (by omega)]
  exact ih k (i + 1) (by omega) (by omega) (by omega)
theorem eqBoolS_eq {l : List Bool} (hl : l.length ≤ 4611686018427387904) {k : Nat} (hk : l.length < k) : laws_eqBoolS.f k l l = some true := by
 unfold laws_eqBoolS.f
 rw [if_pos rfl]
 exact eqBoolS_self l hl l.length k 0 (by omega) (by omega) hk
theorem toExploration_eq {l : List S65} {v d : List Bool} {a b : Int} (hl : l.length * 40 ≤ 140737488351232) (hv : v.length ≤ 140737488351232) (hd : d.length ≤ 140737488351232) {k : Nat} (hk : l.length < k) (hk1 : v.length < k) (hk2 : d.length < k) :
  laws_toExploration.f k l v d a b = some (l.map cvLeg, v, d, a, b) := by
 unfold laws_toExploration.f
 rw [toLegS_eq hl hk, toBoolS_eq hv hk1, toBoolS_eq hd hk2]
 rfl
theorem eqExploration_eq {l : List S37} {v d : List Bool} {a b : Int} (hl : l.length ≤ 4611686018427387904) (hv : v.length ≤ 4611686018427387904) (hd : d.length ≤ 4611686018427387904) {k : Nat} (hk : l.length < k) (hk1 : v.length < k) (hk2 : d.length < k) :
  laws_eqExploration.f k l v d a b l v d a b = some true := by
 unfold laws_eqExploration.f
 rw [eqLegS_eq hl hk, eqBoolS_eq hv hk1, eqBoolS_eq hd hk2]
 simp
theorem l1In_eq (a b c : Int) : spec_l1In.f a b c = some (decide (b ≤ a ∧ a ≤ c)) := by
 unfold spec_l1In.f
 by_cases h : a ≥ b
 ·
  rw [if_pos h]; simp [show b ≤ a from h]
 ·
  rw [if_neg h]; simp [show ¬ b ≤ a from h]
theorem within_eq (a b c : Int) : impl_within.f a b c = some (decide (b ≤ a ∧ a ≤ c)) := by
 unfold impl_within.f
 by_cases h : a ≥ b
 ·
  rw [if_pos h]; simp [show b ≤ a from h]
 ·
  rw [if_neg h]; simp [show ¬ b ≤ a from h]
theorem station_eq (a : Int) : spec_l4Station.f a = some (decide (0 ≤ a ∧ a ≤ 7)) := by
 unfold spec_l4Station.f; rw [l1In_eq]; rfl
theorem isStation_eq (a : Int) : impl_isStation.f a = some (decide (0 ≤ a ∧ a ≤ 7)) := by
 unfold impl_isStation.f; rw [within_eq]; rfl
def LegOk (x : S37) : Prop := (0 ≤ x.f0 ∧ x.f0 ≤ 7) ∧ (0 ≤ x.f1 ∧ x.f1 ≤ 7) ∧ x.f0 ≠ x.f1 ∧ (1 ≤ x.f2 ∧ x.f2 ≤ 500) ∧ (0 ≤ x.f3 ∧ x.f3 ≤ 359) ∧ (-90 ≤ x.f4 ∧ x.f4 ≤ 90)
theorem leg_spec (x : S37) : ∃ b, spec_l4Leg.f x.f0 x.f1 x.f2 x.f3 x.f4 = some b ∧ (b = true ↔ LegOk x) := by
 unfold spec_l4Leg.f spec_l2Bearing.f LegOk
 simp only [station_eq, l1In_eq, Option.bind_some, decide_eq_true_eq]
 by_cases h1 : 0 ≤ x.f0 ∧ x.f0 ≤ 7
 ·
  rw [if_pos h1]
  by_cases h2 : 0 ≤ x.f1 ∧ x.f1 ≤ 7
  ·
   rw [if_pos h2]
   by_cases h3 : x.f0 = x.f1
   ·
    rw [if_pos h3]
    exact ⟨_, rfl, fun h => (by cases h), fun h => absurd h3 h.2.2.1⟩
   ·
    rw [if_neg h3]
    by_cases h4 : 1 ≤ x.f2 ∧ x.f2 ≤ 500
    ·
     rw [if_pos h4]
     by_cases h5 : 0 ≤ x.f3 ∧ x.f3 ≤ 359
     ·
      rw [if_pos h5]
      refine ⟨_, rfl, ?_⟩
      rw [decide_eq_true_eq]
      exact ⟨fun h => ⟨h1, h2, h3, h4, h5, h⟩, fun h => h.2.2.2.2.2⟩
     ·
      rw [if_neg h5]
      exact ⟨_, rfl, fun h => (by cases h), fun h => absurd h.2.2.2.2.1 h5⟩
    ·
     rw [if_neg h4]
     exact ⟨_, rfl, fun h => (by cases h), fun h => absurd h.2.2.2.1 h4⟩
  ·
   rw [if_neg h2]
   exact ⟨_, rfl, fun h => (by cases h), fun h => absurd h.2.1 h2⟩
 ·
  rw [if_neg h1]
  exact ⟨_, rfl, fun h => (by cases h), fun h => absurd h.1 h1⟩
theorem leg_impl (a b c d e : Int) : impl_IsLeg.f a b c d e = spec_l4Leg.f a b c d e := by
 unfold impl_IsLeg.f spec_l4Leg.f impl_isBearing.f spec_l2Bearing.f
 simp only [station_eq, isStation_eq, within_eq, l1In_eq]
theorem legs_spec (l : List S37) (hl : l.length ≤ 4611686018427387904) (d : Nat) : ∀ (k : Nat) (i : Int), 0 ≤ i → i + d = l.length → d < k →
  ∃ b, spec_l4Legs.l0 k l i = some b ∧ (b = true ↔ (∀ j : Int, i ≤ j → j < l.length → LegOk (rd_T37 l j)) ∧ l.length ≤ 12) := by
 induction d with
 | zero =>
  intro k i h0 hd hk
  obtain ⟨k, rfl⟩ : ∃ m, k = m + 1 := ⟨k - 1, by omega⟩
  refine ⟨_, by simp only [spec_l4Legs.l0]; rw [if_neg (by omega)], ?_⟩
  rw [decide_eq_true_eq]
  constructor
  ·
   intro h
   exact ⟨fun j h1 h2 => by omega, by omega⟩
  ·
   intro h
   omega
 | succ d ih =>
  intro k i h0 hd hk
  obtain ⟨k, rfl⟩ : ∃ m, k = m + 1 := ⟨k - 1, by omega⟩
  obtain ⟨b, hb, hiff⟩ := ih k (i + 1) (by omega) (by omega) (by omega)
  obtain ⟨x, hx, hxi⟩ := leg_spec (rd_T37 l i)
  simp only [spec_l4Legs.l0]
  rw [if_pos (show i < (l.length : Int) by omega), if_pos h0, hx, w64 (by omega) (by omega)]
  simp only [Option.bind_some]
  cases x with
  | false =>
   rw [if_neg (by decide)]
   exact ⟨_, rfl, fun h => (by cases h), fun h => (by have := hxi.2 (h.1 i (by omega) (by omega)); cases this)⟩
  | true =>
   rw [if_pos rfl]
   refine ⟨b, hb, ?_⟩
   rw [hiff]
   refine ⟨fun h => ⟨fun j h1 h2 => ?_, h.2⟩, fun h => ⟨fun j h1 h2 => h.1 j (by omega) h2, h.2⟩⟩
   by_cases e : j = i
   ·
    rw [e]; exact hxi.1 rfl
   ·
    exact h.1 j (by omega) h2
theorem legs_impl (l : List S37) : ∀ (k : Nat) (i : Int), impl_areLegs.l0 k l l (l.length : Int) i = spec_l4Legs.l0 k l i
 | 0, i => by simp only [impl_areLegs.l0, spec_l4Legs.l0]
 | k + 1, i => by
  simp only [impl_areLegs.l0, spec_l4Legs.l0, leg_impl, legs_impl l k]
  by_cases h1 : i < (l.length : Int)
  ·
   simp only [if_pos h1]
  ·
   simp only [if_neg h1]
def usable (v : List Bool) (g : S37) : Bool := rdOf false v g.f0 && rdOf false v g.f1
def arcsOf (v : List Bool) : List S37 → List Arc
 | [] => []
 | g :: l => if usable v g = true then ⟨g.f0, g.f1, g.f2⟩ :: ⟨g.f1, g.f0, g.f2⟩ :: arcsOf v l else arcsOf v l
def LegsOk (l : List S37) : Prop := ∀ x, x ∈ l → LegOk x
theorem legsOk_of {l : List S37} (h : ∀ j : Int, 0 ≤ j → j < l.length → LegOk (rd_T37 l j)) : LegsOk l := by
 intro x hx
 obtain ⟨i, hi, rfl⟩ := List.mem_iff_getElem.1 hx
 have := h (i : Int) (by omega) (by omega)
 have e : rd_T37 l (i : Int) = l[i] := by
  show l.getD (i : Int).toNat _ = _
  rw [Int.toNat_natCast, List.getD_eq_getElem?_getD, List.getElem?_eq_getElem hi]
  rfl
 rwa [e] at this
theorem rdLeg_mem {l : List S37} {i : Int} (h0 : 0 ≤ i) (h1 : i < l.length) : rd_T37 l i ∈ l := by
 show l.getD i.toNat _ ∈ l
 rw [List.getD_eq_getElem?_getD, List.getElem?_eq_getElem (by omega)]
 exact List.getElem_mem _
theorem drop_rdLeg (l : List S37) (i : Nat) (h : i < l.length) : l.drop i = rd_T37 l (i : Int) :: l.drop (i + 1) := by
 rw [List.drop_eq_getElem_cons h]
 congr 1
 show _ = l.getD (i : Int).toNat _
 rw [Int.toNat_natCast, List.getD_eq_getElem?_getD, List.getElem?_eq_getElem h]
 rfl
theorem arcs_ok (v : List Bool) (l : List S37) (h : LegsOk l) : OkA (arcsOf v l) := by
 induction l with
 | nil => intro e he; cases he
 | cons g l ih =>
  have hg := h g List.mem_cons_self
  have ih := ih (fun x hx => h x (List.mem_cons_of_mem _ hx))
  intro e he
  unfold arcsOf at he
  split at he
  ·
   rcases List.mem_cons.1 he with rfl | he
   ·
    exact ⟨⟨hg.1.1, by have := hg.1.2; show g.f0 < 8; omega⟩, ⟨hg.2.1.1, by have := hg.2.1.2; show g.f1 < 8; omega⟩, hg.2.2.2.1⟩
   ·
    rcases List.mem_cons.1 he with rfl | he
    ·
     exact ⟨⟨hg.2.1.1, by have := hg.2.1.2; show g.f1 < 8; omega⟩, ⟨hg.1.1, by have := hg.1.2; show g.f0 < 8; omega⟩, hg.2.2.2.1⟩
    ·
     exact ih e he
  ·
   exact ih e he
def far8 (D : List Int) : Prop := D.length = 8 ∧ (∀ i, In8 i → 0 ≤ rd D i) ∧ (∀ i, In8 i → rd D i ≤ FAR)
theorem far8_step {D : List Int} (h : far8 D) {a b t : Int} (ha : In8 a) (hb : In8 b) (ht : 0 ≤ t) : far8 (step1 D a b t) := by
 refine ⟨by rw [len_step1, h.1], fun i hi => ?_, fun i hi => Int.le_trans (step1_le h.1 hb hi t) (h.2.2 i hi)⟩
 rw [rd_step1 h.1 hb hi]
 have := h.2.1 a ha
 split
 ·
  omega
 ·
  exact h.2.1 i hi
theorem set_same8 {D : List Int} (h : D.length = 8) {b : Int} (hb : In8 b) : D.set b.toNat (rd D b) = D := by
 apply ext8 (by rw [List.length_set, h]) h
 intro i hi
 rw [rd_set h hb hi]
 split
 ·
  rename_i e
  rw [e]
 ·
  rfl
theorem mn_step {D : List Int} (h : far8 D) {a b t : Int} (ha : In8 a) (hb : In8 b) (ht : 0 ≤ t) (ht' : t ≤ 500) : D.set b.toNat (mn (rd D b) (wrap64 (rd D a + t))) = step1 D a b t := by
 have a0 := h.2.1 a ha
 have a1 := h.2.2 a ha
 unfold FAR at a1
 rw [w64 (by omega) (by omega)]
 unfold mn step1
 by_cases hc : rd D a + t < rd D b
 ·
  rw [if_pos hc, if_pos hc]
 ·
  rw [if_neg hc, if_neg hc, set_same8 h.1 hb]
theorem in8 {a : Int} (h0 : 0 ≤ a) (h1 : a ≤ 7) : In8 a := ⟨h0, by omega⟩
theorem wayOut_l1 (l : List S37) (hl : LegsOk l) (hn : l.length ≤ 12) (v d : List Bool) (hv : v.length = 8) (a b r : Int) (n : Nat) : ∀ (k i : Nat) (D : List Int), i + n = l.length → n < k → far8 D →
  ∃ k', k ≤ k' + n + 1 ∧ k' < k ∧ impl_Exploration_wayOut.l1 k D r l (l.length : Int) i l v d a b = impl_Exploration_wayOut.l0 k' (rnd (arcsOf v (l.drop i)) D) (wrap64 (r + 1)) l v d a b := by
 induction n with
 | zero =>
  intro k i D hi hk hD
  obtain ⟨k, rfl⟩ : ∃ m, k = m + 1 := ⟨k - 1, by omega⟩
  refine ⟨k, by omega, by omega, ?_⟩
  simp only [impl_Exploration_wayOut.l1]
  rw [if_neg (by omega), List.drop_eq_nil_of_le (by omega)]
  rfl
 | succ n ih =>
  intro k i D hi hk hD
  obtain ⟨k, rfl⟩ : ∃ m, k = m + 1 := ⟨k - 1, by omega⟩
  rw [drop_rdLeg l i (by omega)]
  have hg := hl _ (rdLeg_mem (l := l) (i := (i : Int)) (by omega) (by omega))
  generalize hge : rd_T37 l (i : Int) = g at hg
  have i0 := in8 hg.1.1 hg.1.2
  have i1 := in8 hg.2.1.1 hg.2.1.2
  obtain ⟨g00, g01⟩ := hg.1
  obtain ⟨g10, g11⟩ := hg.2.1
  obtain ⟨ht, ht'⟩ := hg.2.2.2.1
  simp only [impl_Exploration_wayOut.l1, hge]
  rw [if_pos (by omega), if_pos (by omega), if_pos (by omega), if_pos (by omega), if_pos (by omega), w64 (x := (i : Int) + 1) (by omega) (by omega)]
  unfold arcsOf usable
  cases h0 : rdOf false v g.f0 with
  | false =>
   rw [if_neg (by decide)]
   obtain ⟨k', h1, h2, h3⟩ := ih k (i + 1) D (by omega) (by omega) hD
   exact ⟨k', by omega, by omega, h3⟩
  | true =>
   rw [if_pos rfl, if_pos (by omega), if_pos (by omega)]
   cases h1 : rdOf false v g.f1 with
   | false =>
    rw [if_neg (by decide)]
    obtain ⟨k', h1, h2, h3⟩ := ih k (i + 1) D (by omega) (by omega) hD
    exact ⟨k', by omega, by omega, h3⟩
   | true =>
    have hl8 := hD.1
    rw [if_pos rfl, if_pos (by omega), if_pos (by omega), mn_step hD i1 i0 (by omega) ht']
    simp only [Option.bind_some]
    rw [mn_step (far8_step hD i1 i0 (by omega)) i0 i1 (by omega) ht', relax_comm hl8 i0 i1 ht]
    obtain ⟨k', h1, h2, h3⟩ := ih k (i + 1) (step1 (step1 D g.f0 g.f1 g.f2) g.f1 g.f0 g.f2) (by omega) (by omega) (far8_step (far8_step hD i0 i1 (by omega)) i1 i0 (by omega))
    exact ⟨k', by omega, by omega, h3⟩
theorem wayOut_l0 (l : List S37) (hl : LegsOk l) (hn : l.length ≤ 12) (v d : List Bool) (hv : v.length = 8) (a b : Int) (ha : In8 a) (n : Nat) : ∀ (k r : Nat), r + n = 8 → n * 16 < k →
  impl_Exploration_wayOut.l0 k (it (arcsOf v l) r D0) r l v d a b = some (rd (it (arcsOf v l) 8 D0) a, decide (rd (it (arcsOf v l) 8 D0) a < FAR)) := by
 induction n with
 | zero =>
  intro k r hr hk
  obtain ⟨k, rfl⟩ : ∃ m, k = m + 1 := ⟨k - 1, by omega⟩
  obtain rfl : r = 8 := by omega
  have := (it_inv (arcs_ok v l hl) (D0_inv _) 8).len
  simp only [impl_Exploration_wayOut.l0]
  rw [if_neg (by decide), if_pos ha.1, if_pos (by have := ha.2; omega)]
  rfl
 | succ n ih =>
  intro k r hr hk
  obtain ⟨k, rfl⟩ : ∃ m, k = m + 1 := ⟨k - 1, by omega⟩
  simp only [impl_Exploration_wayOut.l0]
  rw [if_pos (by omega)]
  have I := it_inv (arcs_ok v l hl) (D0_inv _) r
  obtain ⟨k', h1, h2, h3⟩ := wayOut_l1 l hl hn v d hv a b r l.length k 0 (it (arcsOf v l) r D0) (by omega) (by omega) ⟨I.len, I.lo, I.hi⟩
  rw [show ((0 : Nat) : Int) = 0 from rfl] at h3
  rw [h3, w64 (by omega) (by omega), List.drop_zero]
  exact ih k' (r + 1) (by omega) (by omega)
theorem wayOut_eq {l : List S37} (hl : LegsOk l) (hn : l.length ≤ 12) {v : List Bool} (d : List Bool) (hv : v.length = 8) {a : Int} (b : Int) (ha : In8 a) {k : Nat} (hk : 200 ≤ k) :
  impl_Exploration_wayOut.f k l v d a b = some (rd (it (arcsOf v l) 7 D0) a, decide (rd (it (arcsOf v l) 7 D0) a < FAR)) := by
 have h := wayOut_l0 l hl hn v d hv a b ha 8 k 0 (by omega) (by omega)
 have e : it (arcsOf v l) 8 D0 = it (arcsOf v l) 7 D0 := fix7 (arcs_ok v l hl)
 rw [e] at h
 exact h
def stF (F : List Int) (a b t : Int) : List Int := if rd F a ≥ 0 ∧ (rd F b < 0 ∨ wrap64 (rd F a + t) < rd F b) then F.set b.toNat (wrap64 (rd F a + t)) else F
def cF (F : List Int) (a b t : Int) : Bool := decide (rd F a ≥ 0 ∧ (rd F b < 0 ∨ wrap64 (rd F a + t) < rd F b))
theorem out_l2 (l : List S37) (v : List Bool) (p : Int) (F : List Int) (ag : Bool) (i : Int) (h0 : 0 ≤ i) (hi : i < l.length) (hl : l.length ≤ 12) (hF : F.length = 8) (hv : v.length = 8) (i0 : In8 (rd_T37 l i).f0) (i1 : In8 (rd_T37 l i).f1) (k : Nat) :
  ∃ k', k ≤ k' ∧ k' ≤ k + 1 ∧ spec_l25Out.l2 (k + 3) l v p F ag i = (if usable v (rd_T37 l i) = true then spec_l25Out.l2 k' l v p (stF (stF F (rd_T37 l i).f0 (rd_T37 l i).f1 (rd_T37 l i).f2) (rd_T37 l i).f1 (rd_T37 l i).f0 (rd_T37 l i).f2) (ag || cF F (rd_T37 l i).f0 (rd_T37 l i).f1 (rd_T37 l i).f2 || cF (stF F (rd_T37 l i).f0 (rd_T37 l i).f1 (rd_T37 l i).f2) (rd_T37 l i).f1 (rd_T37 l i).f0 (rd_T37 l i).f2) (i + 1) else spec_l25Out.l2 k' l v p F ag (i + 1)) := by
 simp only [spec_l25Out.l2, w64 (x := i + 1) (by omega) (by omega)]
 generalize hge : rd_T37 l i = g at i0 i1
 obtain ⟨i00, i01⟩ := i0
 obtain ⟨i10, i11⟩ := i1
 rw [if_pos hi, if_pos h0, if_pos i00, if_pos (by omega)]
 unfold usable
 cases h0' : rdOf false v g.f0 with
 | false =>
  refine ⟨k + 1, by omega, by omega, ?_⟩
  rw [if_neg (by decide), if_neg (by simp)]
  simp only [spec_l25Out.j3, if_true, w64 (x := i + 1) (by omega) (by omega)]
 | true =>
  rw [if_pos rfl, if_pos i10, if_pos (by omega)]
  cases h1' : rdOf false v g.f1 with
  | false =>
   refine ⟨k + 1, by omega, by omega, ?_⟩
   rw [if_neg (by decide)]
   simp only [spec_l25Out.j3, Bool.not_false, if_true, w64 (x := i + 1) (by omega) (by omega)]
  | true =>
   refine ⟨k, by omega, by omega, ?_⟩
   rw [if_pos (by decide)]
   have tail : ∀ (Y : List Int) (ag' : Bool) (m : Int), m = 8 → (if rd Y g.f1 ≥ 0 then (if 0 ≤ g.f0 then (if g.f0 < m then (if rd Y g.f0 < 0 then spec_l25Out.l2 k l v p (Y.set g.f0.toNat (wrap64 (rd Y g.f1 + g.f2))) true (i + 1) else (if wrap64 (rd Y g.f1 + g.f2) < rd Y g.f0 then spec_l25Out.l2 k l v p (Y.set g.f0.toNat (wrap64 (rd Y g.f1 + g.f2))) true (i + 1) else spec_l25Out.l2 k l v p Y ag' (i + 1))) else none) else none) else spec_l25Out.l2 k l v p Y ag' (i + 1)) = spec_l25Out.l2 k l v p (stF Y g.f1 g.f0 g.f2) (ag' || cF Y g.f1 g.f0 g.f2) (i + 1) := by
    intro Y ag' m hY
    unfold stF cF
    by_cases c1 : rd Y g.f1 ≥ 0
    ·
     rw [if_pos c1, if_pos i00, if_pos (by omega)]
     by_cases c2 : rd Y g.f0 < 0
     ·
      rw [if_pos c2, if_pos ⟨c1, .inl c2⟩, decide_eq_true ⟨c1, .inl c2⟩, Bool.or_true]
     ·
      rw [if_neg c2]
      by_cases c3 : wrap64 (rd Y g.f1 + g.f2) < rd Y g.f0
      ·
       rw [if_pos c3, if_pos ⟨c1, .inr c3⟩, decide_eq_true ⟨c1, .inr c3⟩, Bool.or_true]
      ·
       have hn : ¬ (rd Y g.f1 ≥ 0 ∧ (rd Y g.f0 < 0 ∨ wrap64 (rd Y g.f1 + g.f2) < rd Y g.f0)) := fun h => by rcases h.2 with z | z <;> contradiction
       rw [if_neg c3, if_neg hn, decide_eq_false hn, Bool.or_false]
    ·
     have hn : ¬ (rd Y g.f1 ≥ 0 ∧ (rd Y g.f0 < 0 ∨ wrap64 (rd Y g.f1 + g.f2) < rd Y g.f0)) := fun h => c1 h.1
     rw [if_neg c1, if_neg hn, decide_eq_false hn, Bool.or_false]
   have main : ∀ (c : Bool), (c = true → (rd F g.f0 ≥ 0 ∧ (rd F g.f1 < 0 ∨ wrap64 (rd F g.f0 + g.f2) < rd F g.f1))) → (c = false → ¬ (rd F g.f0 ≥ 0 ∧ (rd F g.f1 < 0 ∨ wrap64 (rd F g.f0 + g.f2) < rd F g.f1))) → spec_l25Out.j4 (k + 1) l v p F ag i g.f0 g.f1 (wrap64 (rd F g.f0 + g.f2)) c = spec_l25Out.l2 k l v p (stF (stF F g.f0 g.f1 g.f2) g.f1 g.f0 g.f2) (ag || cF F g.f0 g.f1 g.f2 || cF (stF F g.f0 g.f1 g.f2) g.f1 g.f0 g.f2) (i + 1) := by
    intro c hc1 hc2
    simp only [spec_l25Out.j4, hge, w64 (x := i + 1) (by omega) (by omega)]
    cases c with
    | true =>
     have hc := hc1 rfl
     rw [if_pos rfl, if_pos i10, if_pos (by omega)]
     simp only [Option.bind_some]
     rw [if_pos h0, if_pos hi, tail (F.set g.f1.toNat (wrap64 (rd F g.f0 + g.f2))) true (F.length : Int) (by omega)]
     have e : stF F g.f0 g.f1 g.f2 = F.set g.f1.toNat (wrap64 (rd F g.f0 + g.f2)) := by
      unfold stF
      rw [if_pos hc]
     have e2 : cF F g.f0 g.f1 g.f2 = true := decide_eq_true hc
     rw [e, e2, Bool.or_true]
    | false =>
     have hc := hc2 rfl
     rw [if_neg (by decide), if_pos i10, if_pos (by omega), if_pos h0, if_pos hi, tail F ag (F.length : Int) (by omega)]
     have e : stF F g.f0 g.f1 g.f2 = F := by
      unfold stF
      rw [if_neg hc]
     have e2 : cF F g.f0 g.f1 g.f2 = false := decide_eq_false hc
     rw [e, e2, Bool.or_false]
   simp only [spec_l25Out.j3, hge, Bool.not_true, Bool.false_eq_true, if_false]
   rw [if_pos i00, if_pos (by omega), if_pos h0, if_pos hi]
   by_cases c1 : rd F g.f0 ≥ 0
   ·
    rw [if_pos c1, if_pos i10, if_pos (by omega)]
    by_cases c2 : rd F g.f1 < 0
    ·
     rw [if_pos c2, main true (fun _ => ⟨c1, .inl c2⟩) (fun h => by cases h)]
    ·
     rw [if_neg c2]
     by_cases c3 : wrap64 (rd F g.f0 + g.f2) < rd F g.f1
     ·
      rw [decide_eq_true c3, main true (fun _ => ⟨c1, .inr c3⟩) (fun h => by cases h)]
     ·
      rw [decide_eq_false c3, main false (fun h => by cases h) (fun _ h => by rcases h.2 with z | z <;> contradiction)]
   ·
    rw [if_neg c1, main false (fun h => by cases h) (fun _ h => c1 h.1)]
theorem stF_dec {c : Int} {D : List Int} (h : far8 D) (hb : Bd c D) (hc : c + 500 < FAR) {a b t : Int} (ha : In8 a) (hb8 : In8 b) (ht : 1 ≤ t) (ht' : t ≤ 500) :
  stF (D.map dec) a b t = (step1 D a b t).map dec ∧ (cF (D.map dec) a b t = true ↔ rd D a + t < rd D b) := by
 obtain ⟨h1, h2, h3⟩ := cond_dec h.1 h.2.1 h.2.2 hb hc ha hb8 ht ht'
 have a0 := h.2.1 a ha
 unfold stF cF step1
 rw [decide_eq_true_eq]
 by_cases hf : rd D a < FAR
 ·
  obtain ⟨e, e2, e3⟩ := h2 hf
  have hw : wrap64 (rd (D.map dec) a + t) = rd D a + t := by
   rw [e, w64 (by omega) (by unfold FAR at e3; omega)]
  have hcnd : (rd (D.map dec) a ≥ 0 ∧ (rd (D.map dec) b < 0 ∨ rd D a + t < rd (D.map dec) b)) ↔ rd D a + t < rd D b := ⟨fun z => e2.1 z.2, fun z => ⟨h1.2 hf, e2.2 z⟩⟩
  rw [hw]
  by_cases hlt : rd D a + t < rd D b
  ·
   rw [if_pos (hcnd.2 hlt), if_pos hlt, map_set_dec _ _ _ (by omega)]
   exact ⟨rfl, hcnd⟩
  ·
   rw [if_neg (fun z => hlt (hcnd.1 z)), if_neg hlt]
   exact ⟨rfl, hcnd⟩
 ·
  have hn := h3 hf
  rw [if_neg (fun z => hf (h1.1 z.1)), if_neg hn]
  exact ⟨rfl, fun z => absurd (h1.1 z.1) hf, fun z => absurd z hn⟩
theorem out_round (l : List S37) (hl : LegsOk l) (hn : l.length ≤ 12) (v : List Bool) (hv : v.length = 8) (p : Int) (n : Nat) : ∀ (k i : Nat) (D : List Int) (ag : Bool) (c : Int), i + n = l.length → 3 * n < k → far8 D → Bd c D → c + 1000 * n < FAR →
  ∃ k' ag', k ≤ k' + 3 * n + 1 ∧ k' < k ∧ spec_l25Out.l2 k l v p (D.map dec) ag i = spec_l25Out.l1 k' l v p ((rnd (arcsOf v (l.drop i)) D).map dec) ag' ∧ Bd (c + 1000 * n) (rnd (arcsOf v (l.drop i)) D) ∧ (ag' = true → ag = true ∨ sum8 (rnd (arcsOf v (l.drop i)) D) < sum8 D) ∧ (ag' = false → ag = false ∧ rnd (arcsOf v (l.drop i)) D = D) := by
 induction n with
 | zero =>
  intro k i D ag c hi hk hD hb hc
  obtain ⟨k, rfl⟩ : ∃ m, k = m + 1 := ⟨k - 1, by omega⟩
  refine ⟨k, ag, by omega, by omega, ?_, ?_, fun h => .inl h, fun h => ⟨h, ?_⟩⟩
  ·
   simp only [spec_l25Out.l2]
   rw [if_neg (by omega), List.drop_eq_nil_of_le (by omega)]
   rfl
  ·
   rw [List.drop_eq_nil_of_le (by omega)]
   exact hb.mono (by omega)
  ·
   rw [List.drop_eq_nil_of_le (by omega)]
   rfl
 | succ n ih =>
  intro k i D ag c hi hk hD hb hc
  obtain ⟨k, rfl⟩ : ∃ m, k = m + 3 := ⟨k - 3, by omega⟩
  have hg := hl _ (rdLeg_mem (l := l) (i := (i : Int)) (by omega) (by omega))
  have i0 := in8 hg.1.1 hg.1.2
  have i1 := in8 hg.2.1.1 hg.2.1.2
  obtain ⟨ht, ht'⟩ := hg.2.2.2.1
  obtain ⟨k1, hk1, hk2, e⟩ := out_l2 l v p (D.map dec) ag i (by omega) (by omega) hn (by rw [List.length_map, hD.1]) hv i0 i1 k
  rw [drop_rdLeg l i (by omega)]
  generalize hge : rd_T37 l (i : Int) = g at hg i0 i1 ht ht' e
  rw [e]
  cases hu : usable v g with
  | false =>
   rw [if_neg (by decide)]
   obtain ⟨k', ag', h1, h2, h3, h4, h5, h6⟩ := ih k1 (i + 1) D ag c (by omega) (by omega) hD hb (by omega)
   have ea : arcsOf v (g :: l.drop (i + 1)) = arcsOf v (l.drop (i + 1)) := by
    show (if usable v g = true then _ else _) = _
    rw [hu, if_neg (by decide)]
   rw [ea]
   exact ⟨k', ag', by omega, by omega, h3, h4.mono (by omega), h5, h6⟩
  | true =>
   rw [if_pos rfl]
   have ea : ∀ E, rnd (arcsOf v (g :: l.drop (i + 1))) E = rnd (arcsOf v (l.drop (i + 1))) (step1 (step1 E g.f0 g.f1 g.f2) g.f1 g.f0 g.f2) := by
    intro E
    show rnd (if usable v g = true then _ else _) _ = _
    rw [hu, if_pos rfl]
    rfl
   rw [ea D]
   obtain ⟨s1, s2⟩ := stF_dec hD hb (by omega) i0 i1 ht ht'
   have hD1 := far8_step hD i0 i1 (t := g.f2) (by omega)
   have hb1 := step_bd hD.1 hb i0 i1 ht' hD.2.2 (by omega)
   obtain ⟨s3, s4⟩ := stF_dec hD1 hb1 (by omega) i1 i0 ht ht'
   have hD2 := far8_step hD1 i1 i0 (t := g.f2) (by omega)
   have hb2 := step_bd hD1.1 hb1 i1 i0 ht' hD1.2.2 (by omega)
   rw [s1, s3]
   have hrest : ∀ i, In8 i → rd (step1 (step1 D g.f0 g.f1 g.f2) g.f1 g.f0 g.f2) i ≤ rd D i := fun j hj => Int.le_trans (step1_le hD1.1 i0 hj _) (step1_le hD.1 i1 hj _)
   have hrnd : ∀ j, In8 j → rd (rnd (arcsOf v (l.drop (i + 1))) (step1 (step1 D g.f0 g.f1 g.f2) g.f1 g.f0 g.f2)) j ≤ rd D j := fun j hj => Int.le_trans (rnd_le _ (arcs_ok v _ (fun x hx => hl x (List.mem_of_mem_drop hx))) _ hD2.1 j hj) (hrest j hj)
   have hrl : (rnd (arcsOf v (l.drop (i + 1))) (step1 (step1 D g.f0 g.f1 g.f2) g.f1 g.f0 g.f2)).length = 8 := by rw [len_rnd, hD2.1]
   have hdec1 : rd D g.f0 + g.f2 < rd D g.f1 → sum8 (rnd (arcsOf v (l.drop (i + 1))) (step1 (step1 D g.f0 g.f1 g.f2) g.f1 g.f0 g.f2)) < sum8 D := by
    intro h
    rcases le_or hD.1 hrl hrnd with z | z
    ·
     exfalso
     have h7 := rd_step1 (a := g.f0) (t := g.f2) hD.1 i1 i1
     rw [if_pos ⟨rfl, h⟩] at h7
     have h8 := step1_le (a := g.f1) (t := g.f2) hD1.1 i0 i1
     have h9 := rnd_le (arcsOf v (l.drop (i + 1))) (arcs_ok v _ (fun x hx => hl x (List.mem_of_mem_drop hx))) _ hD2.1 g.f1 i1
     rw [z] at h9
     omega
    ·
     exact z
   have hdec2 : rd (step1 D g.f0 g.f1 g.f2) g.f1 + g.f2 < rd (step1 D g.f0 g.f1 g.f2) g.f0 → sum8 (rnd (arcsOf v (l.drop (i + 1))) (step1 (step1 D g.f0 g.f1 g.f2) g.f1 g.f0 g.f2)) < sum8 D := by
    intro h
    rcases le_or hD.1 hrl hrnd with z | z
    ·
     exfalso
     have h7 := rd_step1 (a := g.f1) (t := g.f2) hD1.1 i0 i0
     rw [if_pos ⟨rfl, h⟩] at h7
     have h8 := step1_le (a := g.f0) (t := g.f2) hD.1 i1 i0
     have h9 := rnd_le (arcsOf v (l.drop (i + 1))) (arcs_ok v _ (fun x hx => hl x (List.mem_of_mem_drop hx))) _ hD2.1 g.f0 i0
     rw [z] at h9
     omega
    ·
     exact z
   obtain ⟨k', ag', h1, h2, h3, h4, h5, h6⟩ := ih k1 (i + 1) (step1 (step1 D g.f0 g.f1 g.f2) g.f1 g.f0 g.f2) (ag || cF (D.map dec) g.f0 g.f1 g.f2 || cF ((step1 D g.f0 g.f1 g.f2).map dec) g.f1 g.f0 g.f2) (c + 500 + 500) (by omega) (by omega) hD2 hb2 (by omega)
   refine ⟨k', ag', by omega, by omega, h3, h4.mono (by omega), fun h => ?_, fun h => ?_⟩
   ·
    rcases h5 h with z | z
    ·
     rw [Bool.or_eq_true, Bool.or_eq_true] at z
     rcases z with (z | z) | z
     ·
      exact .inl z
     ·
      exact .inr (hdec1 (s2.1 z))
     ·
      exact .inr (hdec2 (s4.1 z))
    ·
     have q : sum8 (step1 (step1 D g.f0 g.f1 g.f2) g.f1 g.f0 g.f2) ≤ sum8 D := by
      rcases le_or hD.1 hD2.1 hrest with q | q
      ·
       rw [q]; exact Int.le_refl _
      ·
       omega
     exact .inr (by omega)
   ·
    obtain ⟨z1, z2⟩ := h6 h
    rw [Bool.or_eq_false_iff, Bool.or_eq_false_iff] at z1
    obtain ⟨⟨za, zb⟩, zc⟩ := z1
    refine ⟨za, z2.trans ?_⟩
    have n1 : ¬ (rd D g.f0 + g.f2 < rd D g.f1) := fun q => by rw [s2.2 q] at zb; cases zb
    have e1 : step1 D g.f0 g.f1 g.f2 = D := by
     unfold step1
     rw [if_neg n1]
    have n2 : ¬ (rd (step1 D g.f0 g.f1 g.f2) g.f1 + g.f2 < rd (step1 D g.f0 g.f1 g.f2) g.f0) := fun q => by rw [s4.2 q] at zc; cases zc
    have e2 : step1 (step1 D g.f0 g.f1 g.f2) g.f1 g.f0 g.f2 = step1 D g.f0 g.f1 g.f2 := by
     rw [show step1 (step1 D g.f0 g.f1 g.f2) g.f1 g.f0 g.f2 = if rd (step1 D g.f0 g.f1 g.f2) g.f1 + g.f2 < rd (step1 D g.f0 g.f1 g.f2) g.f0 then _ else _ from rfl, if_neg n2]
    rw [e2, e1]
theorem D0_bd (A : List Arc) : Bd 0 D0 := fun i hi => by
 by_cases h : i = 0
 ·
  rw [h]; right; decide
 ·
  exact .inl (D0_far hi h)
theorem out_l1 (l : List S37) (hl : LegsOk l) (hn : l.length ≤ 12) (v : List Bool) (hv : v.length = 8) (p : Int) (hp : In8 p) (n : Nat) : ∀ (k r : Nat), r + n = 7 → 40 * n + 40 < k → Bd (12000 * r) (it (arcsOf v l) r D0) →
  spec_l25Out.l1 k l v p ((it (arcsOf v l) r D0).map dec) true = some (dec (rd (it (arcsOf v l) 7 D0) p)) := by
 have hok := arcs_ok v l hl
 have fin : ∀ (k : Nat) (r : Nat), r ≤ 7 → it (arcsOf v l) (r + 1) D0 = it (arcsOf v l) r D0 → spec_l25Out.l1 (k + 1) l v p ((it (arcsOf v l) (r + 1) D0).map dec) false = some (dec (rd (it (arcsOf v l) 7 D0) p)) := by
  intro k r hr he
  have hlen := (it_inv hok (D0_inv _) r).len
  have e7 : it (arcsOf v l) 7 D0 = it (arcsOf v l) r D0 := by
   have := it_add (arcsOf v l) D0 r (7 - r)
   rw [show r + (7 - r) = 7 by omega, it_fix he] at this
   exact this
  simp only [spec_l25Out.l1, Bool.false_eq_true, if_false]
  have h1 := hp.1
  have h2 := hp.2
  rw [he, if_pos h1, if_pos (by rw [List.length_map, hlen]; exact h2), rd_map hlen hp, e7]
 induction n with
 | zero =>
  intro k r hr hk hb
  obtain ⟨k, rfl⟩ : ∃ m, k = m + 1 := ⟨k - 1, by omega⟩
  have e8 : rnd (arcsOf v l) (it (arcsOf v l) r D0) = it (arcsOf v l) r D0 := by
   rw [show r = 7 by omega]
   exact fix7 hok
  simp only [spec_l25Out.l1, if_true]
  have I := it_inv hok (D0_inv _) r
  obtain ⟨k', ag', h1, h2, h3, h4, h5, h6⟩ := out_round l hl hn v hv p l.length k 0 (it (arcsOf v l) r D0) false (12000 * r) (by omega) (by omega) ⟨I.len, I.lo, I.hi⟩ hb (by unfold FAR; omega)
  rw [show ((0 : Nat) : Int) = 0 from rfl, List.drop_zero] at h3
  rw [List.drop_zero] at h5 h6
  rw [h3]
  cases ag' with
  | true =>
   exfalso
   rcases h5 rfl with z | z
   ·
    cases z
   ·
    rw [e8] at z
    omega
  | false =>
   have a1 : r ≤ 7 := by clear h3 h4 h5 h6 hb; omega
   have a2 : k' = k' - 1 + 1 := by clear h3 h4 h5 h6 hb; omega
   rw [a2]
   exact fin (k' - 1) r a1 e8
 | succ n ih =>
  intro k r hr hk hb
  obtain ⟨k, rfl⟩ : ∃ m, k = m + 1 := ⟨k - 1, by omega⟩
  simp only [spec_l25Out.l1, if_true]
  have I := it_inv hok (D0_inv _) r
  obtain ⟨k', ag', h1, h2, h3, h4, h5, h6⟩ := out_round l hl hn v hv p l.length k 0 (it (arcsOf v l) r D0) false (12000 * r) (by omega) (by omega) ⟨I.len, I.lo, I.hi⟩ hb (by unfold FAR; omega)
  rw [show ((0 : Nat) : Int) = 0 from rfl, List.drop_zero] at h3
  rw [List.drop_zero] at h4 h5 h6
  rw [h3]
  cases ag' with
  | true =>
   have hb' : Bd (12000 * ((r + 1 : Nat) : Int)) (it (arcsOf v l) (r + 1) D0) := Bd.mono (c := 12000 * r + 1000 * l.length) h4 (by omega)
   have a1 : r + 1 + n = 7 := by clear h3 h4 h5 h6 hb' hb; omega
   have a2 : 40 * n + 40 < k' := by clear h3 h4 h5 h6 hb' hb; omega
   have hq := ih k' (r + 1) a1 a2 hb'
   exact hq
  | false =>
   have a1 : r ≤ 7 := by clear h3 h4 h5 h6 hb; omega
   have a2 : k' = k' - 1 + 1 := by clear h3 h4 h5 h6 hb; omega
   rw [a2]
   exact fin (k' - 1) r a1 (h6 rfl).2
theorem out_l0 (l : List S37) (v : List Bool) (p : Int) (n : Nat) : ∀ (k j : Nat), j + n = 8 → n < k →
  ∃ k', k = k' + n + 1 ∧ spec_l25Out.l0 k l v p (List.replicate j (-1)) j = spec_l25Out.l1 k' l v p (D0.map dec) true := by
 induction n with
 | zero =>
  intro k j hj hk
  obtain ⟨k, rfl⟩ : ∃ m, k = m + 1 := ⟨k - 1, by omega⟩
  obtain rfl : j = 8 := by omega
  refine ⟨k, by omega, ?_⟩
  simp only [spec_l25Out.l0]
  rw [if_neg (by decide), if_pos (by decide)]
  rfl
 | succ n ih =>
  intro k j hj hk
  obtain ⟨k, rfl⟩ : ∃ m, k = m + 1 := ⟨k - 1, by omega⟩
  simp only [spec_l25Out.l0]
  rw [if_pos (by omega), if_pos (by rw [List.length_replicate]; omega), w64 (by omega) (by omega)]
  obtain ⟨k', h1, h2⟩ := ih k (j + 1) (by omega) (by omega)
  refine ⟨k', by omega, ?_⟩
  rw [List.replicate_succ'] at h2
  exact h2
theorem out_eq {l : List S37} (hl : LegsOk l) (hn : l.length ≤ 12) {v : List Bool} (hv : v.length = 8) {p : Int} (hp : In8 p) {k : Nat} (hk : 400 ≤ k) :
  spec_l25Out.f k l v p = some (dec (rd (it (arcsOf v l) 7 D0) p)) := by
 obtain ⟨k', h1, h2⟩ := out_l0 l v p 8 k 0 (by omega) (by omega)
 unfold spec_l25Out.f
 rw [show ([] : List Int) = List.replicate 0 (-1) from rfl, show (0 : Int) = ((0 : Nat) : Int) from rfl, h2]
 exact out_l1 l hl hn v hv p hp 7 k' 0 (by omega) (by omega) (D0_bd (arcsOf v l))
def way (l : List S37) (v : List Bool) (p : Int) : Int := rd (it (arcsOf v l) 7 D0) p
theorem way_bd {l : List S37} (hl : LegsOk l) (v : List Bool) {p : Int} (hp : In8 p) : 0 ≤ way l v p ∧ way l v p ≤ FAR := by
 have I := it_inv (arcs_ok v l hl) (D0_inv _) 7
 exact ⟨I.lo p hp, I.hi p hp⟩
structure ExplOk (l : List S37) (v d : List Bool) (p t : Int) : Prop where
 legs : LegsOk l
 len : l.length ≤ 12
 hv : v.length = 8
 hd : d.length = 8
 hp : In8 p
 ht : 0 ≤ t ∧ t ≤ 100000
 hway : way l v p < FAR
 hlight : way l v p ≤ t
 v0 : rdOf false v 0 = true
 vp : rdOf false v p = true
theorem good_eq (l : List S37) (hl : l.length ≤ 4611686018427387904) (v d : List Bool) (p t : Int) {k : Nat} (hk : l.length + 410 ≤ k) :
  ∃ b, spec_l25Good.f k l v d p t = some b ∧ impl_IsExploration.f k l v d p t = some b ∧ (b = true ↔ ExplOk l v d p t) := by
 obtain ⟨x, hx, hxi⟩ := legs_spec l hl l.length k 0 (by omega) (by omega) (by omega)
 obtain ⟨k, rfl⟩ : ∃ m, k = m + 1 := ⟨k - 1, by omega⟩
 have hno : ¬ ExplOk l v d p t → ∃ b, some false = some b ∧ some false = some b ∧ (b = true ↔ ExplOk l v d p t) := fun h => ⟨false, rfl, rfl, fun z => (by cases z), fun z => absurd z h⟩
 unfold spec_l25Good.f impl_IsExploration.f spec_l4Legs.f impl_areLegs.f
 rw [legs_impl, hx]
 simp only [Option.bind_some, station_eq, isStation_eq, l1In_eq, within_eq]
 cases x with
 | false =>
  simp only [spec_l25Good.j0, impl_IsExploration.j0, Bool.false_eq_true, if_false, if_true]
  refine hno fun h => ?_
  have := hxi.2 ⟨fun j h1 h2 => h.legs _ (rdLeg_mem h1 h2), h.len⟩
  cases this
 | true =>
  obtain ⟨hlo, hlen⟩ := hxi.1 rfl
  have hlegs := legsOk_of hlo
  simp only [if_true, spec_l25Good.j0, impl_IsExploration.j0]
  by_cases h1 : (v.length : Int) = 8
  ·
   rw [if_pos h1, if_pos h1]
   by_cases h2 : (d.length : Int) = 8
   ·
    rw [if_pos h2, if_pos h2]
    by_cases h3 : 0 ≤ p ∧ p ≤ 7
    ·
     rw [decide_eq_true h3, if_pos rfl, if_pos rfl]
     by_cases h4 : 0 ≤ t ∧ t ≤ 100000
     ·
      have hv8 : v.length = 8 := by omega
      have hp8 := in8 h3.1 h3.2
      rw [decide_eq_true h4]
      simp only [Bool.not_true, Bool.false_eq_true, if_false]
      have hvp : (0 : Int) < (v.length : Int) := by omega
      simp only [if_pos hvp]
      cases h5 : rdOf false v 0 with
      | false =>
       simp only [Bool.false_eq_true, if_false]
       exact hno fun h => by have := h.v0; rw [h5] at this; cases this
      | true =>
       have hpv : p < (v.length : Int) := by omega
       simp only [if_true, if_pos h3.1, if_pos hpv]
       cases h6 : rdOf false v p with
       | false =>
        simp only [Bool.false_eq_true, if_false]
        exact hno fun h => by have := h.vp; rw [h6] at this; cases this
       | true =>
        simp only [if_true]
        rw [out_eq hlegs hlen hv8 hp8 (by omega), wayOut_eq hlegs hlen d hv8 t hp8 (by omega)]
        simp only [Option.bind_some]; obtain ⟨w0, w1⟩ := way_bd hlegs v hp8
        have hex : way l v p < FAR → way l v p ≤ t → ExplOk l v d p t := fun a b => ⟨hlegs, hlen, hv8, by omega, hp8, h4, a, b, h5, h6⟩
        rw [show rd (it (arcsOf v l) 7 D0) p = way l v p from rfl]
        by_cases h7 : way l v p < FAR
        ·
         have e : dec (way l v p) = way l v p := by
          unfold dec
          rw [if_neg (by omega)]
         rw [e, if_pos w0, decide_eq_true h7, if_pos rfl]
         refine ⟨_, rfl, rfl, ?_⟩
         rw [decide_eq_true_eq]
         exact ⟨fun h => hex h7 h, fun h => h.hlight⟩
        ·
         have e : dec (way l v p) = -1 := by
          unfold dec
          rw [if_pos (by omega)]
         rw [e, if_neg (by decide), decide_eq_false h7, if_neg (by decide)]
         exact hno fun h => h7 h.hway
     ·
      rw [decide_eq_false h4]
      simp only [Bool.not_false, if_true]
      exact hno fun h => h4 h.ht
    ·
     rw [decide_eq_false h3]
     simp only [Bool.false_eq_true, if_false, if_true]
     exact hno fun h => h3 ⟨h.hp.1, by have := h.hp.2; omega⟩
   ·
    rw [if_neg h2, if_neg h2]
    exact hno fun h => h2 (by have := h.hd; omega)
  ·
   rw [if_neg h1, if_neg h1]
   exact hno fun h => h1 (by have := h.hv; omega)
theorem set_app {α : Type} (pre ys : List α) (y z : α) (i : Nat) (h : pre.length = i) : (pre ++ y :: ys).set ((i : Int)).toNat z = pre ++ z :: ys := by
 rw [Int.toNat_natCast, List.set_append_right _ _ (by omega), h, Nat.sub_self, List.set_cons_zero]
theorem getD_app {α : Type} (pre ys : List α) (y d : α) (i : Nat) (h : pre.length = i) : (pre ++ y :: ys).getD ((i : Int)).toNat d = y := by
 rw [Int.toNat_natCast, List.getD_eq_getElem?_getD, List.getElem?_append_right (by omega), h, Nat.sub_self]
 rfl
theorem len_app {α : Type} (pre ys : List α) (y : α) : ((pre ++ y :: ys).length : Int) = (pre.length : Int) + (ys.length : Int) + 1 := by
 simp
 omega
def upLeg (a : Int) : Nat → List S37
 | 0 => []
 | n + 1 => ⟨a, a + 1, a + 1 + 1, a + 1 + 1 + 1, a + 1 + 1 + 1 + 1⟩ :: upLeg (a + 1 + 1 + 1 + 1 + 1) n
theorem upLeg_len (n : Nat) : ∀ a, (upLeg a n).length = n := by
 induction n with
 | zero => intro a; rfl
 | succ n ih => intro a; simp [upLeg, ih]
theorem upLeg_get (n : Nat) : ∀ (a A : Int) (j : Nat), j < n → A = a + 5 * j → (upLeg a n)[j]? = some ⟨A, A + 1, A + 1 + 1, A + 1 + 1 + 1, A + 1 + 1 + 1 + 1⟩ := by
 induction n with
 | zero => intro a A j h; omega
 | succ n ih =>
  intro a A j h hA
  cases j with
  | zero =>
   obtain rfl : A = a := by omega
   simp [upLeg]
  | succ j =>
   simp only [upLeg, List.getElem?_cons_succ]
   exact ih (a + 1 + 1 + 1 + 1 + 1) A j (by omega) (by omega)
theorem markLegS_up0 (d : Nat) : ∀ (k i : Nat) (pre suf : List S37) (a : Int), pre.length = i → suf.length = d → d < k → i + d ≤ 1152921504606846976 → 0 ≤ a → a + 5 * d ≤ 4611686018427387904 →
  laws_markLegS.l0 k (pre ++ suf) a i = some (a + 5 * d, pre ++ upLeg a d) := by
 induction d with
 | zero =>
  intro k i pre suf a hp hs hk hb h0 h1
  obtain ⟨k, rfl⟩ : ∃ m, k = m + 1 := ⟨k - 1, by omega⟩
  obtain rfl : suf = [] := List.length_eq_zero_iff.1 hs
  simp only [laws_markLegS.l0]
  rw [if_neg (by simp; omega)]
  simp [upLeg]
 | succ d ih =>
  intro k i pre suf a hp hs hk hb h0 h1
  obtain ⟨k, rfl⟩ : ∃ m, k = m + 1 := ⟨k - 1, by omega⟩
  obtain ⟨y, ys, rfl⟩ : ∃ y ys, suf = y :: ys := List.exists_cons_of_length_pos (by omega)
  have hys : ys.length = d := by simpa using hs
  have er : ∀ z, rd_T37 (pre ++ z :: ys) (i : Int) = z := fun z => getD_app pre ys z z37 i hp
  have es : ∀ y z, (pre ++ y :: ys).set ((i : Int)).toNat z = pre ++ z :: ys := fun y z => set_app pre ys y z i hp
  have c1 : (i : Int) < ((pre ++ y :: ys).length : Int) := by rw [len_app]; omega
  have c2 : (0 : Int) ≤ (i : Int) := by omega
  simp only [laws_markLegS.l0, Option.bind_some, er, es]
  rw [if_pos c1, if_pos c2]
  rw [w64 (x := a + 1) (by omega) (by omega), w64 (x := a + 1 + 1) (by omega) (by omega), w64 (x := a + 1 + 1 + 1) (by omega) (by omega), w64 (x := a + 1 + 1 + 1 + 1) (by omega) (by omega), w64 (x := a + 1 + 1 + 1 + 1 + 1) (by omega) (by omega), w64 (x := (i : Int) + 1) (by omega) (by omega)]
  have := ih k (i + 1) (pre ++ [⟨a, a + 1, a + 1 + 1, a + 1 + 1 + 1, a + 1 + 1 + 1 + 1⟩]) ys (a + 1 + 1 + 1 + 1 + 1) (by simp; omega) hys (by omega) (by omega) (by omega) (by omega)
  rw [List.append_assoc, List.append_assoc, List.singleton_append, List.singleton_append] at this
  rw [show ((i : Int) + 1) = ((i + 1 : Nat) : Int) by omega, this]
  simp only [upLeg, Option.some.injEq, Prod.mk.injEq, and_true]
  omega
theorem markLegS_up {l : List S37} (hl : l.length ≤ 70368744177664) {k : Nat} (hk : l.length < k) {a : Int} (h0 : 0 ≤ a) (h1 : a ≤ 1125899906842624) : laws_markLegS.f k l a = some (a + 5 * l.length, upLeg a l.length) := by
 unfold laws_markLegS.f
 have := markLegS_up0 l.length k 0 [] l a rfl rfl hk (by omega) h0 (by omega)
 simpa using this
theorem heldLegS_up0 (n : Nat) (b : Int) (d : Nat) : ∀ (k i : Nat) (A : Int), A = b + 5 * i → i + d = n → d < k → n ≤ 1152921504606846976 → 0 ≤ b → b + 5 * n ≤ 4611686018427387904 →
  laws_heldLegS.l0 k (upLeg b n) A i = some (b + 5 * n) := by
 induction d with
 | zero =>
  intro k i A hA hd hk hn h0 h1
  obtain ⟨k, rfl⟩ : ∃ m, k = m + 1 := ⟨k - 1, by omega⟩
  simp only [laws_heldLegS.l0]
  rw [if_neg (by rw [upLeg_len]; omega)]
  congr 1
  omega
 | succ d ih =>
  intro k i A hA hd hk hn h0 h1
  obtain ⟨k, rfl⟩ : ∃ m, k = m + 1 := ⟨k - 1, by omega⟩
  have e : rd_T37 (upLeg b n) (i : Int) = ⟨A, A + 1, A + 1 + 1, A + 1 + 1 + 1, A + 1 + 1 + 1 + 1⟩ := by
   show (upLeg b n).getD ((i : Int)).toNat _ = _
   rw [Int.toNat_natCast, List.getD_eq_getElem?_getD, upLeg_get n b A i (by omega) hA]
   rfl
  have c1 : (i : Int) < ((upLeg b n).length : Int) := by rw [upLeg_len]; omega
  have c2 : (0 : Int) ≤ (i : Int) := by omega
  have hA0 : 0 ≤ A := by omega
  have hA1 : A + 5 ≤ 4611686018427387904 := by omega
  have := ih k (i + 1) (A + 1 + 1 + 1 + 1 + 1) (by omega) (by omega) (by omega) hn h0 h1
  simp only [laws_heldLegS.l0, e]
  rw [if_pos c1, if_pos c2, w64 (x := A + 1) (by omega) (by omega), w64 (x := A + 1 + 1) (by omega) (by omega), w64 (x := A + 1 + 1 + 1) (by omega) (by omega), w64 (x := A + 1 + 1 + 1 + 1) (by omega) (by omega), w64 (x := A + 1 + 1 + 1 + 1 + 1) (by omega) (by omega), w64 (x := (i : Int) + 1) (by omega) (by omega)]
  simp only [if_true]
  rw [show ((i : Int) + 1) = ((i + 1 : Nat) : Int) by omega]
  exact this
theorem heldLegS_up {n : Nat} (hn : n ≤ 70368744177664) {k : Nat} (hk : n < k) {a : Int} (h0 : 0 ≤ a) (h1 : a ≤ 1125899906842624) : laws_heldLegS.f k (upLeg a n) a = some (a + 5 * n) := by
 unfold laws_heldLegS.f
 have := heldLegS_up0 n a n k 0 a (by omega) (by omega) hk (by omega) h0 (by omega)
 simpa using this
def upBool (a : Int) : Nat → List Bool
 | 0 => []
 | n + 1 => (Int.tmod a 3 == 0) :: upBool (a + 1) n
theorem upBool_len (n : Nat) : ∀ a, (upBool a n).length = n := by
 induction n with
 | zero => intro a; rfl
 | succ n ih => intro a; simp [upBool, ih]
theorem upBool_get (n : Nat) : ∀ (a A : Int) (j : Nat), j < n → A = a + j → (upBool a n)[j]? = some (Int.tmod A 3 == 0) := by
 induction n with
 | zero => intro a A j h; omega
 | succ n ih =>
  intro a A j h hA
  cases j with
  | zero =>
   obtain rfl : A = a := by omega
   simp [upBool]
  | succ j =>
   simp only [upBool, List.getElem?_cons_succ]
   exact ih (a + 1) A j (by omega) (by omega)
theorem markBoolS_up0 (d : Nat) : ∀ (k i : Nat) (pre suf : List Bool) (a : Int), pre.length = i → suf.length = d → d < k → i + d ≤ 1152921504606846976 → 0 ≤ a → a + d ≤ 4611686018427387904 →
  laws_markBoolS.l0 k (pre ++ suf) a i = some (a + d, pre ++ upBool a d) := by
 induction d with
 | zero =>
  intro k i pre suf a hp hs hk hb h0 h1
  obtain ⟨k, rfl⟩ : ∃ m, k = m + 1 := ⟨k - 1, by omega⟩
  obtain rfl : suf = [] := List.length_eq_zero_iff.1 hs
  simp only [laws_markBoolS.l0]
  rw [if_neg (by simp; omega)]
  simp [upBool]
 | succ d ih =>
  intro k i pre suf a hp hs hk hb h0 h1
  obtain ⟨k, rfl⟩ : ∃ m, k = m + 1 := ⟨k - 1, by omega⟩
  obtain ⟨y, ys, rfl⟩ : ∃ y ys, suf = y :: ys := List.exists_cons_of_length_pos (by omega)
  have hys : ys.length = d := by simpa using hs
  have es : ∀ y z, (pre ++ y :: ys).set ((i : Int)).toNat z = pre ++ z :: ys := fun y z => set_app pre ys y z i hp
  have c1 : (i : Int) < ((pre ++ y :: ys).length : Int) := by rw [len_app]; omega
  have c2 : (0 : Int) ≤ (i : Int) := by omega
  simp only [laws_markBoolS.l0, es]
  rw [if_pos c1, if_pos c2]
  rw [w64 (x := a + 1) (by omega) (by omega), w64 (x := (i : Int) + 1) (by omega) (by omega)]
  have := ih k (i + 1) (pre ++ [Int.tmod a 3 == 0]) ys (a + 1) (by simp; omega) hys (by omega) (by omega) (by omega) (by omega)
  rw [List.append_assoc, List.append_assoc, List.singleton_append, List.singleton_append] at this
  rw [show ((i : Int) + 1) = ((i + 1 : Nat) : Int) by omega, this]
  simp only [upBool, Option.some.injEq, Prod.mk.injEq, and_true]
  omega
theorem markBoolS_up {l : List Bool} (hl : l.length ≤ 140737488355328) {k : Nat} (hk : l.length < k) {a : Int} (h0 : 0 ≤ a) (h1 : a ≤ 1125899906842624) : laws_markBoolS.f k l a = some (a + l.length, upBool a l.length) := by
 unfold laws_markBoolS.f
 have := markBoolS_up0 l.length k 0 [] l a rfl rfl hk (by omega) h0 (by omega)
 simpa using this
theorem heldBoolS_up0 (n : Nat) (b : Int) (d : Nat) : ∀ (k i : Nat) (A : Int), A = b + i → i + d = n → d < k → n ≤ 1152921504606846976 → 0 ≤ b → b + n ≤ 4611686018427387904 →
  laws_heldBoolS.l0 k (upBool b n) A i = some (b + n) := by
 induction d with
 | zero =>
  intro k i A hA hd hk hn h0 h1
  obtain ⟨k, rfl⟩ : ∃ m, k = m + 1 := ⟨k - 1, by omega⟩
  simp only [laws_heldBoolS.l0]
  rw [if_neg (by rw [upBool_len]; omega)]
  congr 1
  omega
 | succ d ih =>
  intro k i A hA hd hk hn h0 h1
  obtain ⟨k, rfl⟩ : ∃ m, k = m + 1 := ⟨k - 1, by omega⟩
  have e : rdOf false (upBool b n) (i : Int) = (Int.tmod A 3 == 0) := by
   show (upBool b n).getD ((i : Int)).toNat _ = _
   rw [Int.toNat_natCast, List.getD_eq_getElem?_getD, upBool_get n b A i (by omega) hA]
   rfl
  have c1 : (i : Int) < ((upBool b n).length : Int) := by rw [upBool_len]; omega
  have c2 : (0 : Int) ≤ (i : Int) := by omega
  have := ih k (i + 1) (A + 1) (by omega) (by omega) (by omega) hn h0 h1
  simp only [laws_heldBoolS.l0, e, bne_self_eq_false, Bool.false_eq_true, if_false]
  rw [if_pos c1, if_pos c2, w64 (x := A + 1) (by omega) (by omega), w64 (x := (i : Int) + 1) (by omega) (by omega)]
  rw [show ((i : Int) + 1) = ((i + 1 : Nat) : Int) by omega]
  exact this
theorem heldBoolS_up {n : Nat} (hn : n ≤ 140737488355328) {k : Nat} (hk : n < k) {a : Int} (h0 : 0 ≤ a) (h1 : a ≤ 1125899906842624) : laws_heldBoolS.f k (upBool a n) a = some (a + n) := by
 unfold laws_heldBoolS.f
 have := heldBoolS_up0 n a n k 0 a (by omega) (by omega) hk (by omega) h0 (by omega)
 simpa using this
theorem markExploration_eq {l : List S37} {v d : List Bool} (p t : Int) (hl : l.length ≤ 70368744177) (hv : v.length ≤ 70368744177) (hd : d.length ≤ 70368744177) {k : Nat} (hk : l.length < k) (hk1 : v.length < k) (hk2 : d.length < k) :
  laws_markExploration.f k l v d p t 1 = some ((1 : Int) + 5 * (l.length : Int) + (v.length : Int) + (d.length : Int), upLeg 1 l.length, upBool ((1 : Int) + 5 * (l.length : Int)) v.length, upBool ((1 : Int) + 5 * (l.length : Int) + (v.length : Int)) d.length) := by
 unfold laws_markExploration.f
 rw [markLegS_up (by omega) hk (by omega) (by omega)]
 simp only [Option.bind_some]
 rw [markBoolS_up (by omega) hk1 (by omega) (by omega)]
 simp only [Option.bind_some]
 rw [markBoolS_up (by omega) hk2 (by omega) (by omega)]
 rfl
theorem heldExploration_eq {n m j : Nat} (p t : Int) (hl : n ≤ 70368744177) (hv : m ≤ 70368744177) (hd : j ≤ 70368744177) {k : Nat} (hk : n < k) (hk1 : m < k) (hk2 : j < k) :
  laws_heldExploration.f k (upLeg 1 n) (upBool ((1 : Int) + 5 * (n : Int)) m) (upBool ((1 : Int) + 5 * (n : Int) + (m : Int)) j) p t 1 = some ((1 : Int) + 5 * (n : Int) + (m : Int) + (j : Int)) := by
 unfold laws_heldExploration.f
 rw [heldLegS_up (by omega) hk (by omega) (by omega)]
 simp only [Option.bind_some]
 rw [if_neg (by omega), heldBoolS_up (by omega) hk1 (by omega) (by omega)]
 simp only [Option.bind_some]
 rw [if_neg (by omega), heldBoolS_up (by omega) hk2 (by omega) (by omega)]
 simp only [Option.bind_some]
 rw [if_neg (by omega)]
theorem own_eq (l : List S37) (v d : List Bool) (p t : Int) (hl : l.length ≤ 1000000) (hv : v.length ≤ 1000000) (hd : d.length ≤ 1000000) : spec_l25Own.f l v d p t = some (l, v, d, p, t) := by
 unfold spec_l25Own.f
 simp only [Option.bind_some, List.nil_append, List.length_nil, Nat.zero_add]
 rw [if_pos (by omega), if_pos (by omega), if_pos (by omega)]
theorem clone_eq (l : List S37) (v d : List Bool) (p t : Int) (hl : l.length ≤ 1000000) (hv : v.length ≤ 1000000) (hd : d.length ≤ 1000000) : impl_Exploration_clone.f l v d p t = some (l, v, d, p, t) := by
 unfold impl_Exploration_clone.f impl_Leg_87.f slices_Clone_bool_bool.f
 rw [if_pos (by omega), if_pos (by omega), if_pos (by omega)]
 rfl
theorem go_moves {l : List S37} {v d : List Bool} {p t a b tp c s m : Int} (h : a = p ∨ b = p) (h0 : 0 ≤ wrap64 (wrap64 (a + b) - p)) (h1 : wrap64 (wrap64 (a + b) - p) < (v.length : Int)) :
  spec_l25Go.f l v d p t a b tp c s m = some (l, v.set (wrap64 (wrap64 (a + b) - p)).toNat true, d, wrap64 (wrap64 (a + b) - p), wrap64 (t - m), true) := by
 unfold spec_l25Go.f
 by_cases q : a = p
 ·
  rw [if_pos q, if_pos h0, if_pos h1]
 ·
  rw [if_neg q, if_pos (h.resolve_left q), if_pos h0, if_pos h1]
theorem go_not {l : List S37} {v d : List Bool} {p t a b tp c s m : Int} (ha : a ≠ p) (hb : b ≠ p) : spec_l25Go.f l v d p t a b tp c s m = some (l, v, d, p, t, false) := by
 unfold spec_l25Go.f
 rw [if_neg ha, if_neg hb]
def Steps (K : Nat) (l : List S37) (v d : List Bool) (p t k i a b tp c s : Int) : Prop :=
 ∃ L V D P T q, spec_l25Make.f K l v d p t k i a b tp c s = some (L, V, D, P, T, q) ∧ impl_walkOn.f K l v d p t k i a b tp c s = some (if q = true then (L, V, D, P, T, true) else ([], [], [], 0, 0, false)) ∧ L.length ≤ 13 ∧ V.length = 8 ∧ D.length = 8 ∧ (q = true → ExplOk L V D P T)
theorem zero_leg (k i : Int) (h2 : k ≠ 2) (h3 : k = 3 → i = 0) : ¬ ((k ≠ 2 ∧ ¬ ((0 : Int) = 0 ∧ (0 : Int) = 0 ∧ (0 : Int) = 0 ∧ (0 : Int) = 0 ∧ (0 : Int) = 0)) ∨ ((k = 2 ∨ k = 3) ∧ i ≠ 0)) := by
 rintro (⟨_, z⟩ | ⟨z | z, zi⟩)
 ·
  exact z ⟨rfl, rfl, rfl, rfl, rfl⟩
 ·
  exact h2 z
 ·
  exact zi (h3 z)
theorem walkOn_of {K : Nat} {l L : List S37} {v d V D : List Bool} {p t k i a b tp c s P T : Int} {q : Bool} (hl : l.length ≤ 1000000) (hv : v.length ≤ 1000000) (hd : d.length ≤ 1000000) (hw : walk_f l v d p t k i a b tp c s = some (L, V, D, P, T, true)) (hq : impl_IsExploration.f K L V D P T = some q) :
  impl_walkOn.f K l v d p t k i a b tp c s = some (if q = true then (L, V, D, P, T, true) else ([], [], [], 0, 0, false)) := by
 unfold impl_walkOn.f
 rw [clone_eq l v d p t hl hv hd]
 simp only [Option.bind_some]
 rw [hw]
 simp only [Option.bind_some, if_true]
 rw [hq]
 simp only [Option.bind_some]
 cases q <;> rfl
theorem walkOn_no {K : Nat} {l L : List S37} {v d V D : List Bool} {p t k i a b tp c s P T : Int} (hl : l.length ≤ 1000000) (hv : v.length ≤ 1000000) (hd : d.length ≤ 1000000) (hw : walk_f l v d p t k i a b tp c s = some (L, V, D, P, T, false)) :
  impl_walkOn.f K l v d p t k i a b tp c s = some ([], [], [], 0, 0, false) := by
 unfold impl_walkOn.f
 rw [clone_eq l v d p t hl hv hd]
 simp only [Option.bind_some]
 rw [hw]
 simp only [Option.bind_some, Bool.false_eq_true, if_false]
theorem make1 {l : List S37} {v d : List Bool} {p t : Int} (g : ExplOk l v d p t) {i : Int} (h0 : 0 ≤ i) (h1 : i < (l.length : Int)) {K : Nat} (hK : 450 ≤ K) : Steps K l v d p t 1 i 0 0 0 0 0 := by
 have hlen := g.len
 have hv := g.hv
 have hd := g.hd
 obtain ⟨p0, p1⟩ := g.hp
 obtain ⟨⟨a0, a1⟩, ⟨b0, b1⟩, _, ⟨c0, c1⟩, _, _⟩ := g.legs _ (rdLeg_mem h0 h1)
 have hin : 0 ≤ i ∧ i ≤ wrap64 ((l.length : Int) - 1) := ⟨h0, by unfold wrap64; omega⟩
 have hs0 : spec_l25Make.f K l v d p t 1 i 0 0 0 0 0 = (spec_l25Go.f l v d p t (rd_T37 l i).f0 (rd_T37 l i).f1 (rd_T37 l i).f2 (rd_T37 l i).f3 (rd_T37 l i).f4 (rd_T37 l i).f2).bind fun r => if r.2.2.2.2.2 = true then (spec_l25Good.f K r.1 r.2.1 r.2.2.1 r.2.2.2.1 r.2.2.2.2.1).bind fun x => some (r.1, r.2.1, r.2.2.1, r.2.2.2.1, r.2.2.2.2.1, x) else some (r.1, r.2.1, r.2.2.1, r.2.2.2.1, r.2.2.2.2.1, false) := by
  unfold spec_l25Make.f
  rw [own_eq l v d p t (by omega) (by omega) (by omega)]
  simp only [Option.bind_some]
  rw [if_pos trivial, if_pos h0, if_pos h1]
 have hw0 : walk_f l v d p t 1 i 0 0 0 0 0 = if (rd_T37 l i).f0 ≠ p ∧ (rd_T37 l i).f1 ≠ p then some (l, v, d, p, t, false) else if 0 ≤ wrap64 (wrap64 ((rd_T37 l i).f0 + (rd_T37 l i).f1) - p) ∧ wrap64 (wrap64 ((rd_T37 l i).f0 + (rd_T37 l i).f1) - p) < (v.length : Int) then some (l, v.set (wrap64 (wrap64 ((rd_T37 l i).f0 + (rd_T37 l i).f1) - p)).toNat true, d, wrap64 (wrap64 ((rd_T37 l i).f0 + (rd_T37 l i).f1) - p), wrap64 (t - wrap64 (1 * (rd_T37 l i).f2)), true) else none := by
  unfold walk_f
  rw [if_neg (zero_leg 1 i (by decide) (fun z => absurd z (by decide))), if_pos rfl, if_pos hin]
 generalize rd_T37 l i = y at *
 by_cases hn : y.f0 ≠ p ∧ y.f1 ≠ p
 ·
  rw [if_pos hn] at hw0
  rw [go_not hn.1 hn.2] at hs0
  simp only [Option.bind_some, Bool.false_eq_true, if_false] at hs0
  exact ⟨_, _, _, _, _, false, hs0, walkOn_no (by omega) (by omega) (by omega) hw0, by omega, hv, hd, fun z => by cases z⟩
 ·
  have hor : y.f0 = p ∨ y.f1 = p := by
   by_cases z : y.f0 = p
   ·
    exact .inl z
   ·
    exact .inr (Classical.byContradiction fun z2 => hn ⟨z, z2⟩)
  have e0 : 0 ≤ wrap64 (wrap64 (y.f0 + y.f1) - p) := by unfold wrap64; omega
  have e1 : wrap64 (wrap64 (y.f0 + y.f1) - p) < (v.length : Int) := by unfold wrap64; omega
  have et : wrap64 (1 * y.f2) = y.f2 := by unfold wrap64; omega
  rw [if_neg hn, if_pos ⟨e0, e1⟩, et] at hw0
  rw [go_moves hor e0 e1] at hs0
  obtain ⟨b, g1, g2, g3⟩ := good_eq l (by omega) (v.set (wrap64 (wrap64 (y.f0 + y.f1) - p)).toNat true) d (wrap64 (wrap64 (y.f0 + y.f1) - p)) (wrap64 (t - y.f2)) (k := K) (by omega)
  simp only [Option.bind_some, if_true] at hs0
  rw [g1, Option.bind_some] at hs0
  exact ⟨_, _, _, _, _, b, hs0, walkOn_of (by omega) (by omega) (by omega) hw0 g2, by omega, by rw [List.length_set]; exact hv, hd, fun z => g3.1 z⟩
theorem make2 {l : List S37} {v d : List Bool} {p t : Int} (g : ExplOk l v d p t) {a b tp c s : Int} (hx : LegOk ⟨a, b, tp, c, s⟩) {K : Nat} (hK : 450 ≤ K) : Steps K l v d p t 2 0 a b tp c s := by
 have hlen := g.len
 have hv := g.hv
 have hd := g.hd
 obtain ⟨p0, p1⟩ := g.hp
 have hle : spec_l4Leg.f a b tp c s = some true := by
  obtain ⟨r, h1, h2⟩ := leg_spec ⟨a, b, tp, c, s⟩
  rw [h2.2 hx] at h1
  exact h1
 have hli : impl_IsLeg.f a b tp c s = some true := by rw [leg_impl]; exact hle
 obtain ⟨⟨a0, a1⟩, ⟨b0, b1⟩, hne, ⟨c0, c1⟩, _, _⟩ := hx
 simp only at a0 a1 b0 b1 c0 c1 hne
 have c0' : ¬ (((2 : Int) ≠ 2 ∧ ¬ (a = 0 ∧ b = 0 ∧ tp = 0 ∧ c = 0 ∧ s = 0)) ∨ (((2 : Int) = 2 ∨ (2 : Int) = 3) ∧ (0 : Int) ≠ 0)) := by
  rintro (⟨z, _⟩ | ⟨_, z⟩)
  ·
   exact z rfl
  ·
   exact z rfl
 have hs0 : spec_l25Make.f K l v d p t 2 0 a b tp c s = (spec_l25Go.f (l ++ [⟨a, b, tp, c, s⟩]) v d p t a b tp c s (wrap64 (3 * tp))).bind fun r => if a = p then (spec_l25Good.f K r.1 r.2.1 r.2.2.1 r.2.2.2.1 r.2.2.2.2.1).bind fun x => some (r.1, r.2.1, r.2.2.1, r.2.2.2.1, r.2.2.2.2.1, x) else some (r.1, r.2.1, r.2.2.1, r.2.2.2.1, r.2.2.2.2.1, false) := by
  unfold spec_l25Make.f
  rw [own_eq l v d p t (by omega) (by omega) (by omega)]
  simp only [Option.bind_some]
  rw [if_neg (by decide), if_pos trivial, if_pos (by omega)]
 have hw0 : walk_f l v d p t 2 0 a b tp c s = if a = p then (if l.length < 1000000 ∧ 0 ≤ wrap64 (wrap64 (a + b) - p) ∧ wrap64 (wrap64 (a + b) - p) < (v.length : Int) then some (l ++ [⟨a, b, tp, c, s⟩], v.set (wrap64 (wrap64 (a + b) - p)).toNat true, d, wrap64 (wrap64 (a + b) - p), wrap64 (t - wrap64 (3 * tp)), true) else none) else some (l, v, d, p, t, false) := by
  unfold walk_f
  rw [if_neg c0', if_neg (by decide), if_pos rfl, hli, Option.bind_some]
  by_cases q : a = p
  ·
   rw [if_pos ⟨rfl, q⟩, if_pos q]
  ·
   rw [if_neg (fun z => q z.2), if_neg q]
 have hl13 : (l ++ [(⟨a, b, tp, c, s⟩ : S37)]).length = l.length + 1 := by rw [List.length_append]; rfl
 by_cases hap : a = p
 ·
  have e0 : 0 ≤ wrap64 (wrap64 (a + b) - p) := by unfold wrap64; omega
  have e1 : wrap64 (wrap64 (a + b) - p) < (v.length : Int) := by unfold wrap64; omega
  rw [if_pos hap, if_pos ⟨by omega, e0, e1⟩] at hw0
  rw [go_moves (.inl hap) e0 e1] at hs0
  obtain ⟨q, g1, g2, g3⟩ := good_eq (l ++ [⟨a, b, tp, c, s⟩]) (by omega) (v.set (wrap64 (wrap64 (a + b) - p)).toNat true) d (wrap64 (wrap64 (a + b) - p)) (wrap64 (t - wrap64 (3 * tp))) (k := K) (by omega)
  simp only [Option.bind_some, if_pos hap] at hs0
  rw [g1, Option.bind_some] at hs0
  exact ⟨_, _, _, _, _, q, hs0, walkOn_of (by omega) (by omega) (by omega) hw0 g2, by omega, by rw [List.length_set]; exact hv, hd, fun z => g3.1 z⟩
 ·
  rw [if_neg hap] at hw0
  have hi := walkOn_no (K := K) (by omega) (by omega) (by omega) hw0
  by_cases hbp : b = p
  ·
   have e0 : 0 ≤ wrap64 (wrap64 (a + b) - p) := by unfold wrap64; omega
   have e1 : wrap64 (wrap64 (a + b) - p) < (v.length : Int) := by unfold wrap64; omega
   rw [go_moves (.inr hbp) e0 e1] at hs0
   simp only [Option.bind_some, if_neg hap] at hs0
   exact ⟨_, _, _, _, _, false, hs0, hi, by omega, by rw [List.length_set]; exact hv, hd, fun z => by cases z⟩
  ·
   rw [go_not hap hbp] at hs0
   simp only [Option.bind_some, if_neg hap] at hs0
   exact ⟨_, _, _, _, _, false, hs0, hi, by omega, hv, hd, fun z => by cases z⟩
theorem make3 {l : List S37} {v d : List Bool} {p t : Int} (g : ExplOk l v d p t) {K : Nat} (hK : 450 ≤ K) : Steps K l v d p t 3 0 0 0 0 0 0 := by
 have hlen := g.len
 have hv := g.hv
 have hd := g.hd
 obtain ⟨p0, p1⟩ := g.hp
 have hpd : p < (d.length : Int) := by omega
 have hs0 : spec_l25Make.f K l v d p t 3 0 0 0 0 0 0 = if rdOf false d p = true then some (l, v, d.set p.toNat true, p, t, false) else (spec_l25Good.f K l v (d.set p.toNat true) p t).bind fun x => some (l, v, d.set p.toNat true, p, t, x) := by
  unfold spec_l25Make.f
  rw [own_eq l v d p t (by omega) (by omega) (by omega)]
  simp only [Option.bind_some]
  rw [if_neg (by decide), if_neg (by decide), if_pos trivial, if_pos p0, if_pos hpd, if_pos hpd]
 have hw0 : walk_f l v d p t 3 0 0 0 0 0 0 = if rdOf false d p = true then some (l, v, d, p, t, false) else some (l, v, d.set p.toNat true, p, t, true) := by
  unfold walk_f
  rw [if_neg (zero_leg 3 0 (by decide) (fun _ => rfl)), if_neg (by decide), if_neg (by decide), if_pos rfl, if_pos ⟨p0, hpd⟩]
 by_cases q : rdOf false d p = true
 ·
  rw [if_pos q] at hs0 hw0
  exact ⟨_, _, _, _, _, false, hs0, walkOn_no (by omega) (by omega) (by omega) hw0, by omega, hv, by rw [List.length_set]; exact hd, fun z => by cases z⟩
 ·
  rw [if_neg q] at hs0 hw0
  obtain ⟨b, g1, g2, g3⟩ := good_eq l (by omega) v (d.set p.toNat true) p t (k := K) (by omega)
  rw [g1, Option.bind_some] at hs0
  exact ⟨_, _, _, _, _, b, hs0, walkOn_of (by omega) (by omega) (by omega) hw0 g2, by omega, hv, by rw [List.length_set]; exact hd, fun z => g3.1 z⟩
theorem make4 {l : List S37} {v d : List Bool} {p t : Int} (g : ExplOk l v d p t) {i : Int} (h1 : 1 ≤ i) (h2 : i ≤ 1000) {K : Nat} (hK : 450 ≤ K) : Steps K l v d p t 4 i 0 0 0 0 0 := by
 have hlen := g.len
 have hv := g.hv
 have hd := g.hd
 have hs0 : spec_l25Make.f K l v d p t 4 i 0 0 0 0 0 = if p = 0 then (spec_l25Good.f K l v d p (wrap64 (t + i))).bind fun x => some (l, v, d, p, wrap64 (t + i), x) else some (l, v, d, p, wrap64 (t + i), false) := by
  unfold spec_l25Make.f
  rw [own_eq l v d p t (by omega) (by omega) (by omega)]
  simp only [Option.bind_some]
  rw [if_neg (by decide), if_neg (by decide), if_neg (by decide)]
 have hw0 : walk_f l v d p t 4 i 0 0 0 0 0 = if p = 0 ∧ 1 ≤ i ∧ i ≤ 1000 then some (l, v, d, p, wrap64 (t + i), true) else some (l, v, d, p, t, false) := by
  unfold walk_f
  rw [if_neg (zero_leg 4 i (by decide) (fun z => absurd z (by decide))), if_neg (by decide), if_neg (by decide), if_neg (by decide), if_pos rfl]
 by_cases q : p = 0
 ·
  rw [if_pos q] at hs0
  rw [if_pos ⟨q, h1, h2⟩] at hw0
  obtain ⟨b, g1, g2, g3⟩ := good_eq l (by omega) v d p (wrap64 (t + i)) (k := K) (by omega)
  rw [g1, Option.bind_some] at hs0
  exact ⟨_, _, _, _, _, b, hs0, walkOn_of (by omega) (by omega) (by omega) hw0 g2, by omega, hv, hd, fun z => g3.1 z⟩
 ·
  rw [if_neg q] at hs0
  rw [if_neg (fun z => q z.1)] at hw0
  exact ⟨_, _, _, _, _, false, hs0, walkOn_no (by omega) (by omega) (by omega) hw0, by omega, hv, hd, fun z => by cases z⟩
end Go.Proofs.Ythmjimboajmhmaa.Pr.Pure

namespace Go.Proofs.Ythmjimboajmhmaa.Pr.Pure
open Go.RowKit Go.Proofs.YthmjimboajmhmaaW.PrintWords Go.Proofs.YthmjimboajmhmaaW.PrintLast Go.Proofs.YthmjimboajmhmaaW.PrintMore Go.Proofs.YthmjimboajmhmaaW.Opens
set_option linter.unusedVariables false
set_option linter.unusedSimpArgs false
theorem zeros_dec (a b tp c s : Int) : (a == 0 && (b == 0 && (tp == 0 && (c == 0 && (s == 0))))) = decide (a = 0 ∧ b = 0 ∧ tp = 0 ∧ c = 0 ∧ s = 0) := by
 rw [Bool.eq_iff_iff]
 simp
theorem walk_valid (K : Nat) {l : List S37} {v d : List Bool} {p t : Int} (g : ExplOk l v d p t) (k i a b tp c s : Int) :
  ∃ q, spec_l25Walk.f l v d p t k i a b tp c s = some q ∧ (q = true → (k = 1 ∧ 0 ≤ i ∧ i < (l.length : Int) ∧ a = 0 ∧ b = 0 ∧ tp = 0 ∧ c = 0 ∧ s = 0) ∨ (k = 2 ∧ i = 0 ∧ LegOk ⟨a, b, tp, c, s⟩) ∨ (k = 3 ∧ i = 0 ∧ a = 0 ∧ b = 0 ∧ tp = 0 ∧ c = 0 ∧ s = 0) ∨ (k = 4 ∧ 1 ≤ i ∧ i ≤ 1000 ∧ a = 0 ∧ b = 0 ∧ tp = 0 ∧ c = 0 ∧ s = 0)) ∧ (q = false → impl_walkOn.f K l v d p t k i a b tp c s = some ([], [], [], 0, 0, false)) := by
 have hlen := g.len
 have hv := g.hv
 have hd := g.hd
 have no : walk_f l v d p t k i a b tp c s = some (l, v, d, p, t, false) → impl_walkOn.f K l v d p t k i a b tp c s = some ([], [], [], 0, 0, false) := fun h => walkOn_no (by omega) (by omega) (by omega) h
 have hw : wrap64 ((l.length : Int) - 1) = (l.length : Int) - 1 := by unfold wrap64; omega
 unfold spec_l25Walk.f
 simp only [zeros_dec]
 by_cases k1 : k = 1
 ·
  subst k1
  rw [if_pos rfl, l1In_eq, Option.bind_some, hw]
  by_cases hi : 0 ≤ i ∧ i ≤ (l.length : Int) - 1
  ·
   rw [if_pos (decide_eq_true hi)]
   refine ⟨_, rfl, fun h => ?_, fun h => no ?_⟩
   ·
    obtain ⟨z1, z2, z3, z4, z5⟩ := of_decide_eq_true h
    exact .inl ⟨rfl, hi.1, by omega, z1, z2, z3, z4, z5⟩
   ·
    unfold walk_f
    rw [if_pos (.inl ⟨by decide, of_decide_eq_false h⟩)]
  ·
   rw [if_neg (by rw [decide_eq_false hi]; decide)]
   refine ⟨_, rfl, (fun h => by cases h), fun _ => no ?_⟩
   unfold walk_f
   by_cases z : ((1 : Int) ≠ 2 ∧ ¬ (a = 0 ∧ b = 0 ∧ tp = 0 ∧ c = 0 ∧ s = 0)) ∨ (((1 : Int) = 2 ∨ (1 : Int) = 3) ∧ i ≠ 0)
   ·
    rw [if_pos z]
   ·
    rw [if_neg z, if_pos rfl, hw, if_neg hi]
 rw [if_neg k1]
 by_cases k2 : k = 2
 ·
  subst k2
  rw [if_pos rfl]
  by_cases hi : i = 0
  ·
   subst hi
   obtain ⟨r, h1, h2⟩ := leg_spec ⟨a, b, tp, c, s⟩
   simp only at h1
   rw [if_pos rfl, h1, Option.bind_some]
   refine ⟨_, rfl, fun h => .inr (.inl ⟨rfl, rfl, h2.1 h⟩), fun h => no ?_⟩
   unfold walk_f
   rw [if_neg (by rintro (⟨z, _⟩ | ⟨_, z⟩); exact z rfl; exact z rfl), if_neg (by decide), if_pos rfl, leg_impl, h1, Option.bind_some, if_neg (fun z => by rw [h] at z; cases z.1)]
  ·
   rw [if_neg hi]
   refine ⟨_, rfl, (fun h => by cases h), fun _ => no ?_⟩
   unfold walk_f
   rw [if_pos (.inr ⟨.inl rfl, hi⟩)]
 rw [if_neg k2]
 by_cases k3 : k = 3
 ·
  subst k3
  rw [if_pos rfl]
  by_cases hi : i = 0
  ·
   rw [if_pos hi]
   refine ⟨_, rfl, fun h => ?_, fun h => no ?_⟩
   ·
    obtain ⟨z1, z2, z3, z4, z5⟩ := of_decide_eq_true h
    exact .inr (.inr (.inl ⟨rfl, hi, z1, z2, z3, z4, z5⟩))
   ·
    unfold walk_f
    rw [if_pos (.inl ⟨by decide, of_decide_eq_false h⟩)]
  ·
   rw [if_neg hi]
   refine ⟨_, rfl, (fun h => by cases h), fun _ => no ?_⟩
   unfold walk_f
   rw [if_pos (.inr ⟨.inr rfl, hi⟩)]
 rw [if_neg k3]
 by_cases k4 : k = 4
 ·
  subst k4
  rw [if_pos rfl, l1In_eq, Option.bind_some]
  by_cases hi : 1 ≤ i ∧ i ≤ 1000
  ·
   rw [if_pos (decide_eq_true hi)]
   refine ⟨_, rfl, fun h => ?_, fun h => no ?_⟩
   ·
    obtain ⟨z1, z2, z3, z4, z5⟩ := of_decide_eq_true h
    exact .inr (.inr (.inr ⟨rfl, hi.1, hi.2, z1, z2, z3, z4, z5⟩))
   ·
    unfold walk_f
    rw [if_pos (.inl ⟨by decide, of_decide_eq_false h⟩)]
  ·
   rw [if_neg (by rw [decide_eq_false hi]; decide)]
   refine ⟨_, rfl, (fun h => by cases h), fun _ => no ?_⟩
   unfold walk_f
   by_cases z : ((4 : Int) ≠ 2 ∧ ¬ (a = 0 ∧ b = 0 ∧ tp = 0 ∧ c = 0 ∧ s = 0)) ∨ (((4 : Int) = 2 ∨ (4 : Int) = 3) ∧ i ≠ 0)
   ·
    rw [if_pos z]
   ·
    rw [if_neg z, if_neg (by decide), if_neg (by decide), if_neg (by decide), if_pos rfl, if_neg (fun y => hi y.2)]
 rw [if_neg k4]
 refine ⟨_, rfl, (fun h => by cases h), fun _ => no ?_⟩
 unfold walk_f
 by_cases z : (k ≠ 2 ∧ ¬ (a = 0 ∧ b = 0 ∧ tp = 0 ∧ c = 0 ∧ s = 0)) ∨ ((k = 2 ∨ k = 3) ∧ i ≠ 0)
 ·
  rw [if_pos z]
 ·
  rw [if_neg z, if_neg k1, if_neg k2, if_neg k3, if_neg k4]
theorem walk_step {l : List S37} {v d : List Bool} {p t : Int} (g : ExplOk l v d p t) {k i a b tp c s : Int} (h : (k = 1 ∧ 0 ≤ i ∧ i < (l.length : Int) ∧ a = 0 ∧ b = 0 ∧ tp = 0 ∧ c = 0 ∧ s = 0) ∨ (k = 2 ∧ i = 0 ∧ LegOk ⟨a, b, tp, c, s⟩) ∨ (k = 3 ∧ i = 0 ∧ a = 0 ∧ b = 0 ∧ tp = 0 ∧ c = 0 ∧ s = 0) ∨ (k = 4 ∧ 1 ≤ i ∧ i ≤ 1000 ∧ a = 0 ∧ b = 0 ∧ tp = 0 ∧ c = 0 ∧ s = 0)) {K : Nat} (hK : 450 ≤ K) : Steps K l v d p t k i a b tp c s := by
 rcases h with ⟨rfl, h0, h1, rfl, rfl, rfl, rfl, rfl⟩ | ⟨rfl, rfl, h⟩ | ⟨rfl, rfl, rfl, rfl, rfl, rfl, rfl⟩ | ⟨rfl, h0, h1, rfl, rfl, rfl, rfl, rfl⟩
 ·
  exact make1 g h0 h1 hK
 ·
  exact make2 g h hK
 ·
  exact make3 g hK
 ·
  exact make4 g h0 h1 hK
def cvWalk (x : S67) : S39 := ⟨x.f0, x.f1, cvLeg x.f2⟩
theorem toWalkS_l0 (l : List S67) (hl : l.length ≤ 4611686018427387904) (d : Nat) : ∀ (k i : Nat), i + d = l.length → d < k →
  laws_toWalkS.l0 k l ((l.take i).map cvWalk ++ List.replicate (l.length - i) z39) i = some (l.map cvWalk) := by
 induction d with
 | zero =>
  intro k i hd hk
  obtain ⟨k, rfl⟩ : ∃ m, k = m + 1 := ⟨k - 1, by omega⟩
  simp only [laws_toWalkS.l0]
  rw [if_neg (by omega), List.take_of_length_le (by omega), show l.length - i = 0 by omega]
  simp
 | succ d ih =>
  intro k i hd hk
  obtain ⟨k, rfl⟩ : ∃ m, k = m + 1 := ⟨k - 1, by omega⟩
  simp only [laws_toWalkS.l0, laws_toWalk.f, laws_toLeg.f, Option.bind_some]
  rw [if_pos (by omega), if_pos (by omega), if_pos (by simp; omega), w64 (by omega) (by omega)]
  have ha : l[i]? = some (rd_T67 l i) := getD_some l z67 i (by omega)
  rw [Int.toNat_natCast]
  have := set_map_step cvWalk l z39 i (by omega) _ ha
  rw [show (⟨(rd_T67 l i).f0, (rd_T67 l i).f1, (⟨(rd_T67 l i).f2.f0, (rd_T67 l i).f2.f1, (rd_T67 l i).f2.f2, (rd_T67 l i).f2.f3, (rd_T67 l i).f2.f4⟩ : S37)⟩ : S39) = cvWalk (rd_T67 l i) from rfl, this]
  exact ih k (i + 1) (by omega) (by omega)
theorem toWalkS_eq {l : List S67} (hl : l.length * 56 ≤ 140737488351232) {k : Nat} (hk : l.length < k) : laws_toWalkS.f k l = some (l.map cvWalk) := by
 unfold laws_toWalkS.f
 rw [if_pos (by omega), if_pos (by omega), Int.toNat_natCast]
 have := toWalkS_l0 l (by omega) l.length k 0 (by omega) hk
 simpa using this
theorem eqWalkS_self (l : List S39) (hl : l.length ≤ 4611686018427387904) (d : Nat) : ∀ (k : Nat) (i : Int), 0 ≤ i → i + d = l.length → d < k → laws_eqWalkS.l0 k l l i = some true := by
 induction d with
 | zero =>
  intro k i h0 hd hk
  obtain ⟨k, rfl⟩ : ∃ m, k = m + 1 := ⟨k - 1, by omega⟩
  simp only [laws_eqWalkS.l0]
  rw [if_neg (by omega)]
 | succ d ih =>
  intro k i h0 hd hk
  obtain ⟨k, rfl⟩ : ∃ m, k = m + 1 := ⟨k - 1, by omega⟩
  simp only [laws_eqWalkS.l0, laws_eqWalk.f, laws_eqLeg.f, if_true, Option.bind_some]
  rw [if_pos (by omega), if_pos (by omega), if_pos (by omega), w64 (by omega) (by omega)]
  exact ih k (i + 1) (by omega) (by omega) (by omega)
theorem eqWalkS_eq {l : List S39} (hl : l.length ≤ 4611686018427387904) {k : Nat} (hk : l.length < k) : laws_eqWalkS.f k l l = some true := by
 unfold laws_eqWalkS.f
 rw [if_pos rfl]
 exact eqWalkS_self l hl l.length k 0 (by omega) (by omega) hk
theorem all_loop (y : List S39) (hy : y.length ≤ 30) (n : Nat) : ∀ (k i : Nat) (c : Int) (l : List S37) (v d : List Bool) (p t : Int), ExplOk l v d p t → i + n = y.length → n + 460 < k → 0 ≤ c ∧ c ≤ (i : Int) →
  ∃ L V D P T m, spec_WalkAll.l0 k y c (i : Int) l v d p t = some (L, V, D, P, T, m, true) ∧ impl_WalkAll.l0 k c y (y.length : Int) (i : Int) l v d p t = some (L, V, D, P, T, m, true) ∧ ExplOk L V D P T := by
 induction n with
 | zero =>
  intro k i c l v d p t g hi hk hc
  obtain ⟨k, rfl⟩ : ∃ m, k = m + 1 := ⟨k - 1, by omega⟩
  simp only [spec_WalkAll.l0, impl_WalkAll.l0]
  rw [if_neg (by omega), if_neg (by omega)]
  exact ⟨_, _, _, _, _, _, rfl, rfl, g⟩
 | succ n ih =>
  intro k i c l v d p t g hi hk hc
  obtain ⟨k, rfl⟩ : ∃ m, k = m + 1 := ⟨k - 1, by omega⟩
  have hw : wrap64 ((i : Int) + 1) = ((i + 1 : Nat) : Int) := by unfold wrap64; omega
  have hcw : wrap64 (c + 1) = c + 1 := by unfold wrap64; omega
  have hlt : (i : Int) < (y.length : Int) := by omega
  have h0 : (0 : Int) ≤ (i : Int) := by omega
  simp only [spec_WalkAll.l0, impl_WalkAll.l0]
  rw [if_pos hlt, if_pos h0, if_pos hlt, if_pos h0, if_pos hlt, hw, hcw]
  generalize rd_T39 y (i : Int) = z
  obtain ⟨q, w1, w2, w3⟩ := walk_valid k g z.f0 z.f1 z.f2.f0 z.f2.f1 z.f2.f2 z.f2.f3 z.f2.f4
  rw [w1, Option.bind_some]
  cases q with
  | false =>
   rw [if_neg (by decide), w3 rfl, Option.bind_some]
   simp only
   rw [if_neg (by decide)]
   exact ih k (i + 1) c l v d p t g (by omega) (by omega) (by omega)
  | true =>
   obtain ⟨L, V, D, P, T, q, h1, h2, _, _, _, hg⟩ := walk_step g (w2 rfl) (K := k) (by omega)
   rw [if_pos rfl, h1, h2, Option.bind_some, Option.bind_some]
   cases q with
   | false =>
    simp only [Bool.false_eq_true, if_false]
    exact ih k (i + 1) c l v d p t g (by omega) (by omega) (by omega)
   | true =>
    simp only [if_true]
    exact ih k (i + 1) (c + 1) L V D P T (hg rfl) (by omega) (by omega) (by omega)
theorem all_both (l : List S37) (hl : l.length ≤ 4611686018427387904) (v d : List Bool) (p t : Int) (y : List S39) {K : Nat} (hK : l.length + y.length + 480 ≤ K) :
  ∃ L V D P T m q, spec_WalkAll.f K l v d p t y = some (L, V, D, P, T, m, q) ∧ impl_WalkAll.f K l v d p t y = some (L, V, D, P, T, m, q) ∧ L.length ≤ 12 ∧ V.length ≤ 8 ∧ D.length ≤ 8 := by
 obtain ⟨b0, e1, e2, hb⟩ := good_eq l hl v d p t (k := K) (by omega)
 obtain ⟨J, rfl⟩ : ∃ m, K = m + 1 := ⟨K - 1, by omega⟩
 unfold spec_WalkAll.f impl_WalkAll.f
 rw [e1, e2]
 simp only [Option.bind_some]
 cases b0 with
 | false =>
  simp only [Bool.false_eq_true, if_false, spec_WalkAll.j0, impl_WalkAll.j0, if_true]
  exact ⟨_, _, _, _, _, _, _, rfl, rfl, by simp, by simp, by simp⟩
 | true =>
  have ok := hb.1 rfl
  have hlen := ok.len
  have hv := ok.hv
  have hd := ok.hd
  simp only [if_true, spec_WalkAll.j0, impl_WalkAll.j0]
  by_cases c : (y.length : Int) > 30
  ·
   rw [if_pos (decide_eq_true c), if_pos (decide_eq_true c)]
   exact ⟨_, _, _, _, _, _, _, rfl, rfl, by simp, by simp, by simp⟩
  ·
   have cn : ¬ decide ((y.length : Int) > 30) = true := by rw [decide_eq_true_iff]; exact c
   rw [if_neg cn, if_neg cn, own_eq l v d p t (by omega) (by omega) (by omega), clone_eq l v d p t (by omega) (by omega) (by omega), Option.bind_some, Option.bind_some]
   obtain ⟨L, V, D, P, T, m, h1, h2, hg⟩ := all_loop y (by omega) y.length J 0 0 l v d p t ok (by omega) (by omega) ⟨by omega, by omega⟩
   have hL := hg.len
   have hV := hg.hv
   have hD := hg.hd
   exact ⟨L, V, D, P, T, m, true, h1, h2, hL, by omega, by omega⟩
theorem FnExactWalkAll : FnExactWalkAll.Pure := by
 intro x z h hz
 obtain ⟨⟨_, hb0, hw0⟩, ⟨_, hb1, hw1⟩, ⟨_, hb2, hw2⟩, i3, i4⟩ := h
 obtain ⟨_, hz0, hz1⟩ := hz
 have hm : (x.f0.map cvLeg).length = x.f0.length := List.length_map _
 have hmz : (z.map cvWalk).length = z.length := List.length_map _
 obtain ⟨J, hJ⟩ : ∃ K, K = x.f0.length + x.f1.length + x.f2.length + z.length + 600 := ⟨_, rfl⟩
 obtain ⟨L, V, D, P, T, c, q, e1', e2', hL, hV, hD⟩ := all_both (x.f0.map cvLeg) (by omega) x.f1 x.f2 x.f3 x.f4 (z.map cvWalk) (K := J) (by omega)
 have t := toExploration_eq (l := x.f0) (v := x.f1) (d := x.f2) (a := x.f3) (b := x.f4) hb0 (by omega) (by omega) (k := J) (by omega) (by omega) (by omega)
 have tw := toWalkS_eq (l := z) (by omega) (k := J) (by omega)
 have qx := eqExploration_eq (l := x.f0.map cvLeg) (v := x.f1) (d := x.f2) (a := x.f3) (b := x.f4) (by omega) (by omega) (by omega) (k := J) (by omega) (by omega) (by omega)
 have qw := eqWalkS_eq (l := z.map cvWalk) (by omega) (k := J) (by omega)
 have qi := eqExploration_eq (l := L) (v := V) (d := D) (a := P) (b := T) (by omega) (by omega) (by omega) (k := J) (by omega) (by omega) (by omega)
 have mi := markExploration_eq (l := L) (v := V) (d := D) P T (by omega) (by omega) (by omega) (k := J) (by omega) (by omega) (by omega)
 have hi := heldExploration_eq (n := L.length) (m := V.length) (j := D.length) P T (by omega) (by omega) (by omega) (k := J) (by omega) (by omega) (by omega)
 refine ⟨J, ?_⟩
 unfold laws_FnExactWalkAll.f laws_szExploration.f laws_szLegS.f laws_szBoolS.f
 by_cases s1 : wrap64 (1048576 - (x.f0.length : Int)) < 0
 ·
  rw [if_pos s1]
  simp
 ·
  rw [if_neg s1]
  simp only [Option.bind_some]
  rw [if_neg s1]
  by_cases s2 : wrap64 (wrap64 (1048576 - (x.f0.length : Int)) - (x.f1.length : Int)) < 0
  ·
   rw [if_pos s2]
   simp
  ·
   rw [if_neg s2]
   simp only [Option.bind_some]
   rw [if_neg s2]
   by_cases s3 : wrap64 (wrap64 (wrap64 (1048576 - (x.f0.length : Int)) - (x.f1.length : Int)) - (x.f2.length : Int)) < 0
   ·
    rw [if_pos s3]
    simp
   ·
    rw [if_neg s3]
    simp only [Option.bind_some]
    rw [if_neg s3]
    have hl0 : x.f0.length ≤ 1048576 := by
     unfold wrap64 at s1
     omega
    have hl1 : x.f1.length ≤ 1048576 := by
     unfold wrap64 at s1 s2
     omega
    have hl2 : x.f2.length ≤ 1048576 := by
     unfold wrap64 at s1 s2 s3
     omega
    have mx := markExploration_eq (l := x.f0.map cvLeg) (v := x.f1) (d := x.f2) x.f3 x.f4 (by omega) (by omega) (by omega) (k := J) (by omega) (by omega) (by omega)
    rw [Option.bind_some, if_neg s3]
    unfold laws_szWalkS.f
    by_cases s4 : wrap64 (wrap64 (wrap64 (wrap64 (1048576 - (x.f0.length : Int)) - (x.f1.length : Int)) - (x.f2.length : Int)) - (z.length : Int)) < 0
    ·
     rw [if_pos s4]
     simp
    ·
     have hl3 : z.length ≤ 1048576 := by
      unfold wrap64 at s1 s2 s3 s4
      omega
     rw [if_neg s4, Option.bind_some, if_neg s4, t, Option.bind_some, tw, Option.bind_some]
     simp only
     rw [e1', Option.bind_some, e2', Option.bind_some]
     simp only
     rw [qi, Option.bind_some, qx, Option.bind_some, qw, Option.bind_some, mx, Option.bind_some, mi, Option.bind_some]
     simp only
     rw [hi, Option.bind_some]
     rw [if_pos ⟨trivial, trivial, trivial, trivial, trivial, ⟨by omega, by omega⟩, by omega, rfl⟩]
end Go.Proofs.Ythmjimboajmhmaa.Pr.Pure

