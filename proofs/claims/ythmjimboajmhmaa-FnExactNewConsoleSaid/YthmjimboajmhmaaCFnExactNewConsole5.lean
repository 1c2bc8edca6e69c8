/-
What is proved: parts of the law FnExactNewConsole: what the functions that it reaches compute, and the plain law.
Conditions: those of each theorem.
-/
import Derived.ChangeArms
import Derived.ChangeSlices
import Derived.Deep.Slices
import Derived.RowKit
import Derived.SizedLaws
import Derived.WideShapes
import Derived.Test.YthmjimboajmhmaaCFnExactNewConsole4
set_option maxHeartbeats 8000000
set_option maxRecDepth 100000
namespace Go.Proofs.Ythmjimboajmhmaa.Pr
open Go.RowKit Go.Proofs.YthmjimboajmhmaaW.PrintWords Go.Proofs.YthmjimboajmhmaaW.PrintLast Go.Proofs.YthmjimboajmhmaaW.PrintMore
attribute [local go_sem] max2_int min2_int max_two min_two max_three min_three max_four min_four   -- for this text's walks alone
set_option linter.unusedVariables false
set_option linter.unusedSimpArgs false
def laws_heldLegS.l0 : Nat → List (S37) → Int → Int → Option (Int)
 | 0, _, _, _ => none
 | k + 1, x0, x1, x5 => if x5 < (x0.length : Int) then (if 0 ≤ x5 then (if ((rd_T37 x0 x5).f0) = x1 then (if ((rd_T37 x0 x5).f1) = (wrap64 (x1 + 1)) then (if ((rd_T37 x0 x5).f2) = (wrap64 ((wrap64 (x1 + 1)) + 1)) then (if ((rd_T37 x0 x5).f3) = (wrap64 ((wrap64 ((wrap64 (x1 + 1)) + 1)) + 1)) then (if ((rd_T37 x0 x5).f4) = (wrap64 ((wrap64 ((wrap64 ((wrap64 (x1 + 1)) + 1)) + 1)) + 1)) then (laws_heldLegS.l0 k x0 (wrap64 ((wrap64 ((wrap64 ((wrap64 ((wrap64 (x1 + 1)) + 1)) + 1)) + 1)) + 1)) (wrap64 (x5 + 1))) else (some (-1))) else (some (-1))) else (some (-1))) else (some (-1))) else (some (-1))) else (none)) else (some x1)
def laws_heldLegS.f (k : Nat) (l0 : List (S37)) (a1 : Int) : Option (Int) := laws_heldLegS.l0 k l0 a1 0
theorem laws_heldLegS.calls (k : Nat) (A0 : Option Addr) (c0 : Nat) (l0 : List (S37)) (a1 : Int) (r : Int) (w : World) (hr0 : Kd.C k37 w A0 l0.length l0) (hc0 : l0.length ≤ c0) (h : laws_heldLegS.f k l0 a1 = some r) :
  Calls Try.prog 92 #[.slice A0 l0.length c0, .int .i64 a1] w fun e w' => e = .returned (.int .i64 r) ∧ Drawn0 w w' := by
 have HR0 := Aside0.mk hr0
 have HC0 := Aside0.mk hc0
 clear hr0 hc0
 have H : (laws_heldLegS.l0 k l0 a1 0) = some r := h
 clear h
 have H' := Aside0.mk H
 clear H
 go_enter Try.func92, Try.ntmps92
 go_wp2
 go_loopg [1, 5] k (fun kq v1 v5 w' => ∃ (x1_1 : Int) (x5_1 : Int), v1 = .int .i64 x1_1 ∧ v5 = .int .i64 x5_1 ∧ Aside0 (laws_heldLegS.l0 kq l0 x1_1 x5_1 = some r) ∧ Aside0 (kq ≤ k) ∧ Drawn0 w w')
 case atStart => exact ⟨(a1), (0), (by first | rfl | (simp; done) | (simp [*]; done)), (by first | rfl | (simp; done) | (simp [*]; done)), H', ⟨Nat.le_refl _⟩, by repeat (first | exact Drawn0.refl _ | apply Drawn0.step)⟩
 case round =>
  clear H'
  try clear p2
  obtain ⟨x1_1, x5_1, rfl, rfl, HA, HK1, ⟨m1, rfl⟩⟩ := hrel
  cases gk with
  | zero => exact absurd HA.out (by simp [laws_heldLegS.l0])
  | succ k1 =>
   have H := HA.out
   clear HA
   simp only [laws_heldLegS.l0] at H
   by_cases c3 : x5_1 < (l0.length : Int)
   ·
    rw [if_pos c3] at H
    have c3b0 : decide (x5_1 < (l0.length : Int)) = true := decide_eq_true c3
    clear c3
    by_cases c4 : 0 ≤ x5_1
    ·
     rw [if_pos c4] at H
     have c4b0 : decide (0 ≤ x5_1) = true := decide_eq_true c4
     clear c4
     by_cases c5 : ((rd_T37 l0 x5_1).f0) = x1_1
     ·
      rw [if_pos c5] at H
      have c5b0 : (((rd_T37 l0 x5_1).f0) == x1_1) = true := beq_iff_eq.mpr c5
      have c5b1 : (((rd_T37 l0 x5_1).f0) != x1_1) = false := bne_eq_false_iff_eq.mpr c5
      clear c5
      by_cases c6 : ((rd_T37 l0 x5_1).f1) = (wrap64 (x1_1 + 1))
      ·
       rw [if_pos c6] at H
       have c6b0 : (((rd_T37 l0 x5_1).f1) == (wrap64 (x1_1 + 1))) = true := beq_iff_eq.mpr c6
       have c6b1 : (((rd_T37 l0 x5_1).f1) != (wrap64 (x1_1 + 1))) = false := bne_eq_false_iff_eq.mpr c6
       clear c6
       by_cases c7 : ((rd_T37 l0 x5_1).f2) = (wrap64 ((wrap64 (x1_1 + 1)) + 1))
       ·
        rw [if_pos c7] at H
        have c7b0 : (((rd_T37 l0 x5_1).f2) == (wrap64 ((wrap64 (x1_1 + 1)) + 1))) = true := beq_iff_eq.mpr c7; have c7b1 : (((rd_T37 l0 x5_1).f2) != (wrap64 ((wrap64 (x1_1 + 1)) + 1))) = false := bne_eq_false_iff_eq.mpr c7; clear c7
        by_cases c8 : ((rd_T37 l0 x5_1).f3) = (wrap64 ((wrap64 ((wrap64 (x1_1 + 1)) + 1)) + 1))
        ·
         rw [if_pos c8] at H
         have c8b0 : (((rd_T37 l0 x5_1).f3) == (wrap64 ((wrap64 ((wrap64 (x1_1 + 1)) + 1)) + 1))) = true := beq_iff_eq.mpr c8; have c8b1 : (((rd_T37 l0 x5_1).f3) != (wrap64 ((wrap64 ((wrap64 (x1_1 + 1)) + 1)) + 1))) = false := bne_eq_false_iff_eq.mpr c8; clear c8
         by_cases c9 : ((rd_T37 l0 x5_1).f4) = (wrap64 ((wrap64 ((wrap64 ((wrap64 (x1_1 + 1)) + 1)) + 1)) + 1))
         ·
          rw [if_pos c9] at H
          have c9b0 : (((rd_T37 l0 x5_1).f4) == (wrap64 ((wrap64 ((wrap64 ((wrap64 (x1_1 + 1)) + 1)) + 1)) + 1))) = true := beq_iff_eq.mpr c9; have c9b1 : (((rd_T37 l0 x5_1).f4) != (wrap64 ((wrap64 ((wrap64 ((wrap64 (x1_1 + 1)) + 1)) + 1)) + 1))) = false := bne_eq_false_iff_eq.mpr c9; clear c9; have H' := Aside0.mk H; clear H; have p1143 : 0 ≤ (x5_1 : Int) := dt_; have q1143 : x5_1 < (l0.length : Int) := dt_; obtain ⟨ad1143, e1143, hx1143_0, hx1143_1, hx1143_2, hx1143_3, hx1143_4⟩ := at_T37 HR0.out x5_1 p1143 q1143
          cases e1143
          replace p1143 := eq_true p1143; replace q1143 := eq_true q1143; have p1144 : 0 ≤ (x5_1 : Int) := dt_; have q1144 : x5_1 < (l0.length : Int) := dt_; obtain ⟨ad1144, e1144, hx1144_0, hx1144_1, hx1144_2, hx1144_3, hx1144_4⟩ := at_T37 HR0.out x5_1 p1144 q1144
          obtain rfl : ad1143 = ad1144 := (by injection e1144)
          replace p1144 := eq_true p1144; replace q1144 := eq_true q1144; have p1145 : 0 ≤ (x5_1 : Int) := dt_; have q1145 : x5_1 < (l0.length : Int) := dt_; obtain ⟨ad1145, e1145, hx1145_0, hx1145_1, hx1145_2, hx1145_3, hx1145_4⟩ := at_T37 HR0.out x5_1 p1145 q1145
          obtain rfl : ad1143 = ad1145 := (by injection e1145)
          replace p1145 := eq_true p1145; replace q1145 := eq_true q1145; have p1146 : 0 ≤ (x5_1 : Int) := dt_; have q1146 : x5_1 < (l0.length : Int) := dt_; obtain ⟨ad1146, e1146, hx1146_0, hx1146_1, hx1146_2, hx1146_3, hx1146_4⟩ := at_T37 HR0.out x5_1 p1146 q1146
          obtain rfl : ad1143 = ad1146 := (by injection e1146)
          replace p1146 := eq_true p1146; replace q1146 := eq_true q1146; have p1147 : 0 ≤ (x5_1 : Int) := dt_; have q1147 : x5_1 < (l0.length : Int) := dt_; obtain ⟨ad1147, e1147, hx1147_0, hx1147_1, hx1147_2, hx1147_3, hx1147_4⟩ := at_T37 HR0.out x5_1 p1147 q1147
          obtain rfl : ad1143 = ad1147 := (by injection e1147)
          replace p1147 := eq_true p1147; replace q1147 := eq_true q1147
          go_wp2
          go_roundg k1
          case measure => have := HK1.out; omega
          case rel => exact ⟨(wrap64 ((wrap64 ((wrap64 ((wrap64 ((wrap64 (x1_1 + 1)) + 1)) + 1)) + 1)) + 1)), (wrap64 (x5_1 + 1)), (by first | rfl | (simp; done) | (simp [*]; done)), (by first | rfl | (simp; done) | (simp [*]; done)), H', ⟨by have := HK1.out; omega⟩, by repeat (first | exact Drawn0.refl _ | apply Drawn0.step)⟩
         ·
          rw [if_neg c9] at H
          have c9b0 : (((rd_T37 l0 x5_1).f4) == (wrap64 ((wrap64 ((wrap64 ((wrap64 (x1_1 + 1)) + 1)) + 1)) + 1))) = false := beq_eq_false_iff_ne.mpr c9; have c9b1 : (((rd_T37 l0 x5_1).f4) != (wrap64 ((wrap64 ((wrap64 ((wrap64 (x1_1 + 1)) + 1)) + 1)) + 1))) = true := bne_iff_ne.mpr c9; obtain rfl := Option.some.inj H; have p1143 : 0 ≤ (x5_1 : Int) := dt_; have q1143 : x5_1 < (l0.length : Int) := dt_; obtain ⟨ad1143, e1143, hx1143_0, hx1143_1, hx1143_2, hx1143_3, hx1143_4⟩ := at_T37 HR0.out x5_1 p1143 q1143
          cases e1143
          replace p1143 := eq_true p1143; replace q1143 := eq_true q1143; have p1144 : 0 ≤ (x5_1 : Int) := dt_; have q1144 : x5_1 < (l0.length : Int) := dt_; obtain ⟨ad1144, e1144, hx1144_0, hx1144_1, hx1144_2, hx1144_3, hx1144_4⟩ := at_T37 HR0.out x5_1 p1144 q1144
          obtain rfl : ad1143 = ad1144 := (by injection e1144)
          replace p1144 := eq_true p1144; replace q1144 := eq_true q1144; have p1145 : 0 ≤ (x5_1 : Int) := dt_; have q1145 : x5_1 < (l0.length : Int) := dt_; obtain ⟨ad1145, e1145, hx1145_0, hx1145_1, hx1145_2, hx1145_3, hx1145_4⟩ := at_T37 HR0.out x5_1 p1145 q1145
          obtain rfl : ad1143 = ad1145 := (by injection e1145)
          replace p1145 := eq_true p1145; replace q1145 := eq_true q1145; have p1146 : 0 ≤ (x5_1 : Int) := dt_; have q1146 : x5_1 < (l0.length : Int) := dt_; obtain ⟨ad1146, e1146, hx1146_0, hx1146_1, hx1146_2, hx1146_3, hx1146_4⟩ := at_T37 HR0.out x5_1 p1146 q1146
          obtain rfl : ad1143 = ad1146 := (by injection e1146)
          replace p1146 := eq_true p1146; replace q1146 := eq_true q1146; have p1147 : 0 ≤ (x5_1 : Int) := dt_; have q1147 : x5_1 < (l0.length : Int) := dt_; obtain ⟨ad1147, e1147, hx1147_0, hx1147_1, hx1147_2, hx1147_3, hx1147_4⟩ := at_T37 HR0.out x5_1 p1147 q1147
          obtain rfl : ad1143 = ad1147 := (by injection e1147)
          replace p1147 := eq_true p1147; replace q1147 := eq_true q1147
          go_wp2
          go_ret
          exact ⟨by first | rfl | (simp; done) | (simp [*]; done), by repeat (first | exact Drawn0.refl _ | apply Drawn0.step)⟩
        ·
         rw [if_neg c8] at H
         have c8b0 : (((rd_T37 l0 x5_1).f3) == (wrap64 ((wrap64 ((wrap64 (x1_1 + 1)) + 1)) + 1))) = false := beq_eq_false_iff_ne.mpr c8; have c8b1 : (((rd_T37 l0 x5_1).f3) != (wrap64 ((wrap64 ((wrap64 (x1_1 + 1)) + 1)) + 1))) = true := bne_iff_ne.mpr c8; obtain rfl := Option.some.inj H; have p1143 : 0 ≤ (x5_1 : Int) := dt_; have q1143 : x5_1 < (l0.length : Int) := dt_; obtain ⟨ad1143, e1143, hx1143_0, hx1143_1, hx1143_2, hx1143_3, hx1143_4⟩ := at_T37 HR0.out x5_1 p1143 q1143
         cases e1143
         replace p1143 := eq_true p1143; replace q1143 := eq_true q1143; have p1144 : 0 ≤ (x5_1 : Int) := dt_; have q1144 : x5_1 < (l0.length : Int) := dt_; obtain ⟨ad1144, e1144, hx1144_0, hx1144_1, hx1144_2, hx1144_3, hx1144_4⟩ := at_T37 HR0.out x5_1 p1144 q1144
         obtain rfl : ad1143 = ad1144 := (by injection e1144)
         replace p1144 := eq_true p1144; replace q1144 := eq_true q1144; have p1145 : 0 ≤ (x5_1 : Int) := dt_; have q1145 : x5_1 < (l0.length : Int) := dt_; obtain ⟨ad1145, e1145, hx1145_0, hx1145_1, hx1145_2, hx1145_3, hx1145_4⟩ := at_T37 HR0.out x5_1 p1145 q1145
         obtain rfl : ad1143 = ad1145 := (by injection e1145)
         replace p1145 := eq_true p1145; replace q1145 := eq_true q1145; have p1146 : 0 ≤ (x5_1 : Int) := dt_; have q1146 : x5_1 < (l0.length : Int) := dt_; obtain ⟨ad1146, e1146, hx1146_0, hx1146_1, hx1146_2, hx1146_3, hx1146_4⟩ := at_T37 HR0.out x5_1 p1146 q1146
         obtain rfl : ad1143 = ad1146 := (by injection e1146)
         replace p1146 := eq_true p1146; replace q1146 := eq_true q1146
         go_wp2
         go_ret
         exact ⟨by first | rfl | (simp; done) | (simp [*]; done), by repeat (first | exact Drawn0.refl _ | apply Drawn0.step)⟩
       ·
        rw [if_neg c7] at H
        have c7b0 : (((rd_T37 l0 x5_1).f2) == (wrap64 ((wrap64 (x1_1 + 1)) + 1))) = false := beq_eq_false_iff_ne.mpr c7; have c7b1 : (((rd_T37 l0 x5_1).f2) != (wrap64 ((wrap64 (x1_1 + 1)) + 1))) = true := bne_iff_ne.mpr c7; obtain rfl := Option.some.inj H; have p1143 : 0 ≤ (x5_1 : Int) := dt_; have q1143 : x5_1 < (l0.length : Int) := dt_; obtain ⟨ad1143, e1143, hx1143_0, hx1143_1, hx1143_2, hx1143_3, hx1143_4⟩ := at_T37 HR0.out x5_1 p1143 q1143
        cases e1143
        replace p1143 := eq_true p1143; replace q1143 := eq_true q1143; have p1144 : 0 ≤ (x5_1 : Int) := dt_; have q1144 : x5_1 < (l0.length : Int) := dt_; obtain ⟨ad1144, e1144, hx1144_0, hx1144_1, hx1144_2, hx1144_3, hx1144_4⟩ := at_T37 HR0.out x5_1 p1144 q1144
        obtain rfl : ad1143 = ad1144 := (by injection e1144)
        replace p1144 := eq_true p1144; replace q1144 := eq_true q1144; have p1145 : 0 ≤ (x5_1 : Int) := dt_; have q1145 : x5_1 < (l0.length : Int) := dt_; obtain ⟨ad1145, e1145, hx1145_0, hx1145_1, hx1145_2, hx1145_3, hx1145_4⟩ := at_T37 HR0.out x5_1 p1145 q1145
        obtain rfl : ad1143 = ad1145 := (by injection e1145)
        replace p1145 := eq_true p1145; replace q1145 := eq_true q1145
        go_wp2
        go_ret
        exact ⟨by first | rfl | (simp; done) | (simp [*]; done), by repeat (first | exact Drawn0.refl _ | apply Drawn0.step)⟩
      ·
       rw [if_neg c6] at H
       have c6b0 : (((rd_T37 l0 x5_1).f1) == (wrap64 (x1_1 + 1))) = false := beq_eq_false_iff_ne.mpr c6
       have c6b1 : (((rd_T37 l0 x5_1).f1) != (wrap64 (x1_1 + 1))) = true := bne_iff_ne.mpr c6
       obtain rfl := Option.some.inj H
       have p1143 : 0 ≤ (x5_1 : Int) := dt_
       have q1143 : x5_1 < (l0.length : Int) := dt_
       obtain ⟨ad1143, e1143, hx1143_0, hx1143_1, hx1143_2, hx1143_3, hx1143_4⟩ := at_T37 HR0.out x5_1 p1143 q1143
       cases e1143
       replace p1143 := eq_true p1143
       replace q1143 := eq_true q1143
       have p1144 : 0 ≤ (x5_1 : Int) := dt_
       have q1144 : x5_1 < (l0.length : Int) := dt_
       obtain ⟨ad1144, e1144, hx1144_0, hx1144_1, hx1144_2, hx1144_3, hx1144_4⟩ := at_T37 HR0.out x5_1 p1144 q1144
       obtain rfl : ad1143 = ad1144 := (by injection e1144)
       replace p1144 := eq_true p1144
       replace q1144 := eq_true q1144
       go_wp2
       go_ret
       exact ⟨by first | rfl | (simp; done) | (simp [*]; done), by repeat (first | exact Drawn0.refl _ | apply Drawn0.step)⟩
     ·
      rw [if_neg c5] at H
      have c5b0 : (((rd_T37 l0 x5_1).f0) == x1_1) = false := beq_eq_false_iff_ne.mpr c5
      have c5b1 : (((rd_T37 l0 x5_1).f0) != x1_1) = true := bne_iff_ne.mpr c5
      obtain rfl := Option.some.inj H
      have p1143 : 0 ≤ (x5_1 : Int) := dt_
      have q1143 : x5_1 < (l0.length : Int) := dt_
      obtain ⟨ad1143, e1143, hx1143_0, hx1143_1, hx1143_2, hx1143_3, hx1143_4⟩ := at_T37 HR0.out x5_1 p1143 q1143
      cases e1143
      replace p1143 := eq_true p1143
      replace q1143 := eq_true q1143
      go_wp2
      go_ret
      exact ⟨by first | rfl | (simp; done) | (simp [*]; done), by repeat (first | exact Drawn0.refl _ | apply Drawn0.step)⟩
    ·
     rw [if_neg c4] at H
     exact absurd H (by simp)
   ·
    rw [if_neg c3] at H
    have c3b0 : decide (x5_1 < (l0.length : Int)) = false := decide_eq_false c3
    clear c3
    obtain rfl := Option.some.inj H
    go_wp2
    go_ret
    exact ⟨by first | rfl | (simp; done) | (simp [*]; done), by repeat (first | exact Drawn0.refl _ | apply Drawn0.step)⟩
def laws_heldBoolS.l0 : Nat → List Bool → Int → Int → Option (Int)
 | 0, _, _, _ => none
 | k + 1, x0, x1, x5 => if x5 < (x0.length : Int) then (if 0 ≤ x5 then (if ((rdOf false x0 x5) != ((Int.tmod x1 3) == 0)) = true then (some (-1)) else (laws_heldBoolS.l0 k x0 (wrap64 (x1 + 1)) (wrap64 (x5 + 1)))) else (none)) else (some x1)
def laws_heldBoolS.f (k : Nat) (l0 : List Bool) (a1 : Int) : Option (Int) := laws_heldBoolS.l0 k l0 a1 0
theorem laws_heldBoolS.calls (k : Nat) (A0 : Option Addr) (c0 : Nat) (l0 : List Bool) (a1 : Int) (r : Int) (w : World) (hr0 : Kd.C Kd.bool w A0 l0.length l0) (hc0 : l0.length ≤ c0) (h : laws_heldBoolS.f k l0 a1 = some r) :
  Calls Try.prog 93 #[.slice A0 l0.length c0, .int .i64 a1] w fun e w' => e = .returned (.int .i64 r) ∧ Drawn0 w w' := by
 have HR0 := Aside0.mk hr0
 have HC0 := Aside0.mk hc0
 clear hr0 hc0
 have H : (laws_heldBoolS.l0 k l0 a1 0) = some r := h
 clear h
 have H' := Aside0.mk H
 clear H
 go_enter Try.func93, Try.ntmps93
 go_wp2
 go_loopg [1, 5] k (fun kq v1 v5 w' => ∃ (x1_1 : Int) (x5_1 : Int), v1 = .int .i64 x1_1 ∧ v5 = .int .i64 x5_1 ∧ Aside0 (laws_heldBoolS.l0 kq l0 x1_1 x5_1 = some r) ∧ Aside0 (kq ≤ k) ∧ Drawn0 w w')
 case atStart => exact ⟨(a1), (0), (by first | rfl | (simp; done) | (simp [*]; done)), (by first | rfl | (simp; done) | (simp [*]; done)), H', ⟨Nat.le_refl _⟩, by repeat (first | exact Drawn0.refl _ | apply Drawn0.step)⟩
 case round =>
  clear H'
  try clear p2
  obtain ⟨x1_1, x5_1, rfl, rfl, HA, HK1, ⟨m1, rfl⟩⟩ := hrel
  cases gk with
  | zero => exact absurd HA.out (by simp [laws_heldBoolS.l0])
  | succ k1 =>
   have H := HA.out
   clear HA
   simp only [laws_heldBoolS.l0] at H
   by_cases c3 : x5_1 < (l0.length : Int)
   ·
    rw [if_pos c3] at H
    have c3b0 : decide (x5_1 < (l0.length : Int)) = true := decide_eq_true c3
    clear c3
    by_cases c4 : 0 ≤ x5_1
    ·
     rw [if_pos c4] at H
     have c4b0 : decide (0 ≤ x5_1) = true := decide_eq_true c4
     clear c4
     by_cases c5 : ((rdOf false l0 x5_1) != ((Int.tmod x1_1 3) == 0)) = true
     ·
      rw [if_pos c5] at H
      have c5b0 : ((rdOf false l0 x5_1) != ((Int.tmod x1_1 3) == 0)) = true := c5
      (try (have c5b1 : decide ((rdOf false l0 x5_1) = ((Int.tmod x1_1 3) == 0)) = false := by simpa using c5))
      (try (have c5b2 : ((rdOf false l0 x5_1) == ((Int.tmod x1_1 3) == 0)) = false := by simpa using c5))
      (try (have c5b3 : ¬ ((rdOf false l0 x5_1) = ((Int.tmod x1_1 3) == 0)) := by simpa using c5))
      clear c5
      obtain rfl := Option.some.inj H
      have p1148 : 0 ≤ (x5_1 : Int) := dt_
      have q1148 : x5_1 < (l0.length : Int) := dt_
      obtain ⟨ad1148, e1148, hx1148_0⟩ := Kd.at_bool HR0.out x5_1 p1148 q1148
      cases e1148
      replace p1148 := eq_true p1148
      replace q1148 := eq_true q1148
      go_wp2
      go_ret
      exact ⟨by first | rfl | (simp; done) | (simp [*]; done), by repeat (first | exact Drawn0.refl _ | apply Drawn0.step)⟩
     ·
      rw [if_neg c5] at H
      have c5b0 : ((rdOf false l0 x5_1) != ((Int.tmod x1_1 3) == 0)) = false := by simpa using c5
      (try (have c5b1 : decide ((rdOf false l0 x5_1) = ((Int.tmod x1_1 3) == 0)) = true := by simpa using c5))
      (try (have c5b2 : ((rdOf false l0 x5_1) == ((Int.tmod x1_1 3) == 0)) = true := by simpa using c5))
      clear c5
      have H' := Aside0.mk H
      clear H
      have p1148 : 0 ≤ (x5_1 : Int) := dt_
      have q1148 : x5_1 < (l0.length : Int) := dt_
      obtain ⟨ad1148, e1148, hx1148_0⟩ := Kd.at_bool HR0.out x5_1 p1148 q1148
      cases e1148
      replace p1148 := eq_true p1148
      replace q1148 := eq_true q1148
      go_wp2
      go_roundg k1
      case measure => have := HK1.out; omega
      case rel => exact ⟨(wrap64 (x1_1 + 1)), (wrap64 (x5_1 + 1)), (by first | rfl | (simp; done) | (simp [*]; done)), (by first | rfl | (simp; done) | (simp [*]; done)), H', ⟨by have := HK1.out; omega⟩, by repeat (first | exact Drawn0.refl _ | apply Drawn0.step)⟩
    ·
     rw [if_neg c4] at H
     exact absurd H (by simp)
   ·
    rw [if_neg c3] at H
    have c3b0 : decide (x5_1 < (l0.length : Int)) = false := decide_eq_false c3
    clear c3
    obtain rfl := Option.some.inj H
    go_wp2
    go_ret
    exact ⟨by first | rfl | (simp; done) | (simp [*]; done), by repeat (first | exact Drawn0.refl _ | apply Drawn0.step)⟩
def laws_heldExploration.f (k : Nat) (l0_0 : List (S37)) (l0_1 : List Bool) (l0_2 : List Bool) (a0_3 : Int) (a0_4 : Int) (a1 : Int) : Option (Int) := (laws_heldLegS.f k l0_0 a1).bind fun t1150 => (if t1150 < 0 then (some (-1)) else ((laws_heldBoolS.f k l0_1 t1150).bind fun t1151 => (if t1151 < 0 then (some (-1)) else ((laws_heldBoolS.f k l0_2 t1151).bind fun t1152 => (if t1152 < 0 then (some (-1)) else (some t1152))))))
theorem laws_heldExploration.calls (k : Nat) (A0_0 : Option Addr) (c0_0 : Nat) (l0_0 : List (S37)) (A0_1 : Option Addr) (c0_1 : Nat) (l0_1 : List Bool) (A0_2 : Option Addr) (c0_2 : Nat) (l0_2 : List Bool) (a0_3 : Int) (a0_4 : Int) (a1 : Int) (r : Int) (w : World) (hr0_0 : Kd.C k37 w A0_0 l0_0.length l0_0) (hc0_0 : l0_0.length ≤ c0_0) (hr0_1 : Kd.C Kd.bool w A0_1 l0_1.length l0_1) (hc0_1 : l0_1.length ≤ c0_1) (hr0_2 : Kd.C Kd.bool w A0_2 l0_2.length l0_2) (hc0_2 : l0_2.length ≤ c0_2) (h : laws_heldExploration.f k l0_0 l0_1 l0_2 a0_3 a0_4 a1 = some r) :
  Calls Try.prog 42 #[.agg #[.slice A0_0 l0_0.length c0_0, .slice A0_1 l0_1.length c0_1, .slice A0_2 l0_2.length c0_2, .int .i64 a0_3, .int .i64 a0_4], .int .i64 a1] w fun e w' => e = .returned (.int .i64 r) ∧ Below w.heap.size w w' := by
 have hu30 := Try.underlying30
 have HR0_0 := Aside0.mk hr0_0
 have HC0_0 := Aside0.mk hc0_0
 clear hr0_0 hc0_0
 have HR0_1 := Aside0.mk hr0_1
 have HC0_1 := Aside0.mk hc0_1
 clear hr0_1 hc0_1
 have HR0_2 := Aside0.mk hr0_2
 have HC0_2 := Aside0.mk hc0_2
 clear hr0_2 hc0_2
 have HB := Aside0.mk (Below.refl w.heap.size w)
 have H : ((laws_heldLegS.f k l0_0 a1).bind fun t1150 => (if t1150 < 0 then (some (-1)) else ((laws_heldBoolS.f k l0_1 t1150).bind fun t1151 => (if t1151 < 0 then (some (-1)) else ((laws_heldBoolS.f k l0_2 t1151).bind fun t1152 => (if t1152 < 0 then (some (-1)) else (some t1152))))))) = some r := h
 clear h
 replace H := Option.bind_eq_some_iff.mp H
 obtain ⟨t1150, A30, H⟩ := H
 replace H : (if t1150 < 0 then (some (-1)) else ((laws_heldBoolS.f k l0_1 t1150).bind fun t1151 => (if t1151 < 0 then (some (-1)) else ((laws_heldBoolS.f k l0_2 t1151).bind fun t1152 => (if t1152 < 0 then (some (-1)) else (some t1152)))))) = some r := H
 have A3 := Aside0.mk A30
 clear A30
 by_cases c4 : t1150 < 0
 ·
  rw [if_pos c4] at H
  have c4b0 : decide (t1150 < 0) = true := decide_eq_true c4
  clear c4
  obtain rfl := Option.some.inj H
  go_enter Try.func42, Try.ntmps42
  go_wp2_with (first | ((with_reducible refine gate_dst (N := 2) rfl ?_); refine box_event ?hg (N := 2) ?hd (cs := #[.slice A0_0 l0_0.length c0_0, .slice A0_1 l0_1.length c0_1, .slice A0_2 l0_2.length c0_2, .int .i64 a0_3, .int .i64 a0_4]) (t := 30) ?hr ?_; (case hd => rfl); (case hg => rfl); (case hr => first | (go_simp; done) | (go_simp; rfl)); intro gb1149 hg w5 hbox hb; have BK1149 := Aside0.mk (hbox); have GW1149 := Aside0.mk ((bz_ hg (lb0_ HB.out))); have GE1149 := Aside0.mk ((bz_ hg (lb0_ HB.out))); replace HB := Aside0.mk (below_step (lb0_ HB.out) hb); clear hb hbox hg; obtain ⟨hcz6_0, hcz6_1, hcz6_2, hcz6_3, hcz6_4⟩ := cz5_ BK1149.out; obtain ⟨hfz6_0, hfz6_1, hfz6_2, hfz6_3, hfz6_4⟩ := fz5_ BK1149.out) | ((with_reducible refine gate_callee (f := 92) rfl ?_); refine ga_ (some 8) Try.func92 #[.slice A0_0 l0_0.length c0_0, .int .i64 a1] ?_; (with_reducible refine (laws_heldLegS.calls k _ _ l0_0 a1 t1150 _ ?side1 ?side2 A3.out).mono ?_); (case side1 => exact kc_ (Kd.C_below HR0_0.out HB.out)); (case side2 => exact HC0_0.out); rintro e w' ⟨rfl, ⟨nd, rfl⟩⟩; refine ⟨_, rfl, ?_⟩))
  go_ret
  exact ⟨rr_, lb1_ HB.out GE1149.out⟩
 ·
  rw [if_neg c4] at H
  have c4b0 : decide (t1150 < 0) = false := decide_eq_false c4
  clear c4
  replace H := Option.bind_eq_some_iff.mp H
  obtain ⟨t1151, A70, H⟩ := H
  replace H : (if t1151 < 0 then (some (-1)) else ((laws_heldBoolS.f k l0_2 t1151).bind fun t1152 => (if t1152 < 0 then (some (-1)) else (some t1152)))) = some r := H
  have A7 := Aside0.mk A70
  clear A70
  by_cases c8 : t1151 < 0
  ·
   rw [if_pos c8] at H
   have c8b0 : decide (t1151 < 0) = true := decide_eq_true c8
   clear c8
   obtain rfl := Option.some.inj H
   go_enter Try.func42, Try.ntmps42
   go_wp2_with (first | ((with_reducible refine gate_dst (N := 2) rfl ?_); refine box_event ?hg (N := 2) ?hd (cs := #[.slice A0_0 l0_0.length c0_0, .slice A0_1 l0_1.length c0_1, .slice A0_2 l0_2.length c0_2, .int .i64 a0_3, .int .i64 a0_4]) (t := 30) ?hr ?_; (case hd => rfl); (case hg => rfl); (case hr => first | (go_simp; done) | (go_simp; rfl)); intro gb1149 hg w9 hbox hb; have BK1149 := Aside0.mk (hbox); have GW1149 := Aside0.mk ((bz_ hg (lb0_ HB.out))); have GE1149 := Aside0.mk ((bz_ hg (lb0_ HB.out))); replace HB := Aside0.mk (below_step (lb0_ HB.out) hb); clear hb hbox hg; obtain ⟨hcz10_0, hcz10_1, hcz10_2, hcz10_3, hcz10_4⟩ := cz5_ BK1149.out; obtain ⟨hfz10_0, hfz10_1, hfz10_2, hfz10_3, hfz10_4⟩ := fz5_ BK1149.out) | ((with_reducible refine gate_callee (f := 92) rfl ?_); refine ga_ (some 8) Try.func92 #[.slice A0_0 l0_0.length c0_0, .int .i64 a1] ?_; (with_reducible refine (laws_heldLegS.calls k _ _ l0_0 a1 t1150 _ ?side1 ?side2 A3.out).mono ?_); (case side1 => exact kc_ (Kd.C_below HR0_0.out HB.out)); (case side2 => exact HC0_0.out); rintro e w' ⟨rfl, ⟨nd, rfl⟩⟩; refine ⟨_, rfl, ?_⟩) | ((with_reducible refine gate_callee (f := 93) rfl ?_); refine ga_ (some 14) Try.func93 #[.slice A0_1 l0_1.length c0_1, .int .i64 t1150] ?_; (with_reducible refine (laws_heldBoolS.calls k _ _ l0_1 t1150 t1151 _ ?side1 ?side2 A7.out).mono ?_); (case side1 => exact kc_ (Kd.C_below HR0_1.out (lb1_ HB.out GE1149.out))); (case side2 => exact HC0_1.out); rintro e w' ⟨rfl, ⟨nd, rfl⟩⟩; refine ⟨_, rfl, ?_⟩))
   go_ret
   exact ⟨rr_, lb1_ HB.out GE1149.out⟩
  ·
   rw [if_neg c8] at H
   have c8b0 : decide (t1151 < 0) = false := decide_eq_false c8
   clear c8
   replace H := Option.bind_eq_some_iff.mp H
   obtain ⟨t1152, A110, H⟩ := H
   replace H : (if t1152 < 0 then (some (-1)) else (some t1152)) = some r := H
   have A11 := Aside0.mk A110
   clear A110
   by_cases c12 : t1152 < 0
   ·
    rw [if_pos c12] at H
    have c12b0 : decide (t1152 < 0) = true := decide_eq_true c12
    clear c12
    obtain rfl := Option.some.inj H
    go_enter Try.func42, Try.ntmps42
    go_wp2_with (first | ((with_reducible refine gate_dst (N := 2) rfl ?_); refine box_event ?hg (N := 2) ?hd (cs := #[.slice A0_0 l0_0.length c0_0, .slice A0_1 l0_1.length c0_1, .slice A0_2 l0_2.length c0_2, .int .i64 a0_3, .int .i64 a0_4]) (t := 30) ?hr ?_; (case hd => rfl); (case hg => rfl); (case hr => first | (go_simp; done) | (go_simp; rfl)); intro gb1149 hg w13 hbox hb; have BK1149 := Aside0.mk (hbox); have GW1149 := Aside0.mk ((bz_ hg (lb0_ HB.out))); have GE1149 := Aside0.mk ((bz_ hg (lb0_ HB.out))); replace HB := Aside0.mk (below_step (lb0_ HB.out) hb); clear hb hbox hg; obtain ⟨hcz14_0, hcz14_1, hcz14_2, hcz14_3, hcz14_4⟩ := cz5_ BK1149.out; obtain ⟨hfz14_0, hfz14_1, hfz14_2, hfz14_3, hfz14_4⟩ := fz5_ BK1149.out) | ((with_reducible refine gate_callee (f := 92) rfl ?_); refine ga_ (some 8) Try.func92 #[.slice A0_0 l0_0.length c0_0, .int .i64 a1] ?_; (with_reducible refine (laws_heldLegS.calls k _ _ l0_0 a1 t1150 _ ?side1 ?side2 A3.out).mono ?_); (case side1 => exact kc_ (Kd.C_below HR0_0.out HB.out)); (case side2 => exact HC0_0.out); rintro e w' ⟨rfl, ⟨nd, rfl⟩⟩; refine ⟨_, rfl, ?_⟩) | ((with_reducible refine gate_callee (f := 93) rfl ?_); refine ga_ (some 14) Try.func93 #[.slice A0_1 l0_1.length c0_1, .int .i64 t1150] ?_; (with_reducible refine (laws_heldBoolS.calls k _ _ l0_1 t1150 t1151 _ ?side1 ?side2 A7.out).mono ?_); (case side1 => exact kc_ (Kd.C_below HR0_1.out (lb1_ HB.out GE1149.out))); (case side2 => exact HC0_1.out); rintro e w' ⟨rfl, ⟨nd, rfl⟩⟩; refine ⟨_, rfl, ?_⟩) | ((with_reducible refine gate_callee (f := 93) rfl ?_); refine ga_ (some 20) Try.func93 #[.slice A0_2 l0_2.length c0_2, .int .i64 t1151] ?_; (with_reducible refine (laws_heldBoolS.calls k _ _ l0_2 t1151 t1152 _ ?side1 ?side2 A11.out).mono ?_); (case side1 => exact kc_ (Kd.C_below HR0_2.out (lb1_ HB.out GE1149.out))); (case side2 => exact HC0_2.out); rintro e w' ⟨rfl, ⟨nd, rfl⟩⟩; refine ⟨_, rfl, ?_⟩))
    go_ret
    exact ⟨rr_, lb1_ HB.out GE1149.out⟩
   ·
    rw [if_neg c12] at H
    have c12b0 : decide (t1152 < 0) = false := decide_eq_false c12
    clear c12
    obtain rfl := Option.some.inj H
    go_enter Try.func42, Try.ntmps42
    go_wp2_with (first | ((with_reducible refine gate_dst (N := 2) rfl ?_); refine box_event ?hg (N := 2) ?hd (cs := #[.slice A0_0 l0_0.length c0_0, .slice A0_1 l0_1.length c0_1, .slice A0_2 l0_2.length c0_2, .int .i64 a0_3, .int .i64 a0_4]) (t := 30) ?hr ?_; (case hd => rfl); (case hg => rfl); (case hr => first | (go_simp; done) | (go_simp; rfl)); intro gb1149 hg w15 hbox hb; have BK1149 := Aside0.mk (hbox); have GW1149 := Aside0.mk ((bz_ hg (lb0_ HB.out))); have GE1149 := Aside0.mk ((bz_ hg (lb0_ HB.out))); replace HB := Aside0.mk (below_step (lb0_ HB.out) hb); clear hb hbox hg; obtain ⟨hcz16_0, hcz16_1, hcz16_2, hcz16_3, hcz16_4⟩ := cz5_ BK1149.out; obtain ⟨hfz16_0, hfz16_1, hfz16_2, hfz16_3, hfz16_4⟩ := fz5_ BK1149.out) | ((with_reducible refine gate_callee (f := 92) rfl ?_); refine ga_ (some 8) Try.func92 #[.slice A0_0 l0_0.length c0_0, .int .i64 a1] ?_; (with_reducible refine (laws_heldLegS.calls k _ _ l0_0 a1 t1150 _ ?side1 ?side2 A3.out).mono ?_); (case side1 => exact kc_ (Kd.C_below HR0_0.out HB.out)); (case side2 => exact HC0_0.out); rintro e w' ⟨rfl, ⟨nd, rfl⟩⟩; refine ⟨_, rfl, ?_⟩) | ((with_reducible refine gate_callee (f := 93) rfl ?_); refine ga_ (some 14) Try.func93 #[.slice A0_1 l0_1.length c0_1, .int .i64 t1150] ?_; (with_reducible refine (laws_heldBoolS.calls k _ _ l0_1 t1150 t1151 _ ?side1 ?side2 A7.out).mono ?_); (case side1 => exact kc_ (Kd.C_below HR0_1.out (lb1_ HB.out GE1149.out))); (case side2 => exact HC0_1.out); rintro e w' ⟨rfl, ⟨nd, rfl⟩⟩; refine ⟨_, rfl, ?_⟩) | ((with_reducible refine gate_callee (f := 93) rfl ?_); refine ga_ (some 20) Try.func93 #[.slice A0_2 l0_2.length c0_2, .int .i64 t1151] ?_; (with_reducible refine (laws_heldBoolS.calls k _ _ l0_2 t1151 t1152 _ ?side1 ?side2 A11.out).mono ?_); (case side1 => exact kc_ (Kd.C_below HR0_2.out (lb1_ HB.out GE1149.out))); (case side2 => exact HC0_2.out); rintro e w' ⟨rfl, ⟨nd, rfl⟩⟩; refine ⟨_, rfl, ?_⟩))
    go_ret
    exact ⟨rr_, lb1_ HB.out GE1149.out⟩
def laws_heldConsole.f (k : Nat) (l0_0 : List (S37)) (l0_1 : List Bool) (l0_2 : List Bool) (a0_3 : Int) (a0_4 : Int) (a0_5 : ByteArray) (a0_6 : ByteArray) (a0_7 : Int) (a1 : Int) : Option (Int) := (laws_heldExploration.f k l0_0 l0_1 l0_2 a0_3 a0_4 a1).bind fun t1569 => (if t1569 < 0 then (some (-1)) else (some t1569))
theorem laws_heldConsole.calls (k : Nat) (A0_0 : Option Addr) (c0_0 : Nat) (l0_0 : List (S37)) (A0_1 : Option Addr) (c0_1 : Nat) (l0_1 : List Bool) (A0_2 : Option Addr) (c0_2 : Nat) (l0_2 : List Bool) (a0_3 : Int) (a0_4 : Int) (a0_5 : ByteArray) (a0_6 : ByteArray) (a0_7 : Int) (a1 : Int) (r : Int) (w : World) (hr0_0 : Kd.C k37 w A0_0 l0_0.length l0_0) (hc0_0 : l0_0.length ≤ c0_0) (hr0_1 : Kd.C Kd.bool w A0_1 l0_1.length l0_1) (hc0_1 : l0_1.length ≤ c0_1) (hr0_2 : Kd.C Kd.bool w A0_2 l0_2.length l0_2) (hc0_2 : l0_2.length ≤ c0_2) (h : laws_heldConsole.f k l0_0 l0_1 l0_2 a0_3 a0_4 a0_5 a0_6 a0_7 a1 = some r) :
  Calls Try.prog 65 #[.agg #[.slice A0_0 l0_0.length c0_0, .slice A0_1 l0_1.length c0_1, .slice A0_2 l0_2.length c0_2, .int .i64 a0_3, .int .i64 a0_4, .string a0_5, .string a0_6, .int .i64 a0_7], .int .i64 a1] w fun e w' => e = .returned (.int .i64 r) ∧ Below w.heap.size w w' := by
 have hu81 := Try.underlying81
 have hu30 := Try.underlying30
 have HR0_0 := Aside0.mk hr0_0
 have HC0_0 := Aside0.mk hc0_0
 clear hr0_0 hc0_0
 have HR0_1 := Aside0.mk hr0_1
 have HC0_1 := Aside0.mk hc0_1
 clear hr0_1 hc0_1
 have HR0_2 := Aside0.mk hr0_2
 have HC0_2 := Aside0.mk hc0_2
 clear hr0_2 hc0_2
 have HB := Aside0.mk (Below.refl w.heap.size w)
 have H : ((laws_heldExploration.f k l0_0 l0_1 l0_2 a0_3 a0_4 a1).bind fun t1569 => (if t1569 < 0 then (some (-1)) else (some t1569))) = some r := h
 clear h
 replace H := Option.bind_eq_some_iff.mp H
 obtain ⟨t1569, A30, H⟩ := H
 replace H : (if t1569 < 0 then (some (-1)) else (some t1569)) = some r := H
 have A3 := Aside0.mk A30
 clear A30
 by_cases c4 : t1569 < 0
 ·
  rw [if_pos c4] at H
  have c4b0 : decide (t1569 < 0) = true := decide_eq_true c4
  clear c4
  obtain rfl := Option.some.inj H
  go_enter Try.func65, Try.ntmps65
  go_wp2_with (first | ((with_reducible refine gate_dst (N := 2) rfl ?_); refine box_event ?hg (N := 2) ?hd (cs := #[.slice A0_0 l0_0.length c0_0, .slice A0_1 l0_1.length c0_1, .slice A0_2 l0_2.length c0_2, .int .i64 a0_3, .int .i64 a0_4, .string a0_5, .string a0_6, .int .i64 a0_7]) (t := 81) ?hr ?_; (case hd => rfl); (case hg => rfl); (case hr => first | (go_simp; done) | (go_simp; rfl)); intro gb1568 hg w5 hbox hb; have BK1568 := Aside0.mk (hbox); have GW1568 := Aside0.mk ((bz_ hg (lb0_ HB.out))); have GE1568 := Aside0.mk ((bz_ hg (lb0_ HB.out))); replace HB := Aside0.mk (below_step (lb0_ HB.out) hb); clear hb hbox hg; obtain ⟨hcz6_0, hcz6_1, hcz6_2, hcz6_3, hcz6_4, hcz6_5, hcz6_6, hcz6_7⟩ := cz8_ BK1568.out; obtain ⟨hfz6_0, hfz6_1, hfz6_2, hfz6_3, hfz6_4, hfz6_5, hfz6_6, hfz6_7⟩ := fz8_ BK1568.out) | ((with_reducible refine gate_callee (f := 42) rfl ?_); refine ga_ (some 8) Try.func42 #[.agg #[.slice A0_0 l0_0.length c0_0, .slice A0_1 l0_1.length c0_1, .slice A0_2 l0_2.length c0_2, .int .i64 a0_3, .int .i64 a0_4], .int .i64 a1] ?_; (with_reducible refine (laws_heldExploration.calls k _ _ l0_0 _ _ l0_1 _ _ l0_2 a0_3 a0_4 a1 t1569 _ ?side1 ?side2 ?side3 ?side4 ?side5 ?side6 A3.out).mono ?_); (case side1 => exact kc_ (Kd.C_below HR0_0.out HB.out)); (case side2 => exact HC0_0.out); (case side3 => exact kc_ (Kd.C_below HR0_1.out HB.out)); (case side4 => exact HC0_1.out); (case side5 => exact kc_ (Kd.C_below HR0_2.out HB.out)); (case side6 => exact HC0_2.out); rintro e w7 ⟨rfl, hb⟩; refine ⟨_, rfl, ?_⟩; replace BK1568 := Aside0.mk (bb_ (bk_ BK1568.out) hb); replace HB := Aside0.mk (below_step (lb1_ HB.out GE1568.out) hb); (try clear hb); (try clear hb2); (try clear hk); (try clear hi)))
  go_ret
  exact ⟨rr_, lb1_ HB.out GE1568.out⟩
 ·
  rw [if_neg c4] at H
  have c4b0 : decide (t1569 < 0) = false := decide_eq_false c4
  clear c4
  obtain rfl := Option.some.inj H
  go_enter Try.func65, Try.ntmps65
  go_wp2_with (first | ((with_reducible refine gate_dst (N := 2) rfl ?_); refine box_event ?hg (N := 2) ?hd (cs := #[.slice A0_0 l0_0.length c0_0, .slice A0_1 l0_1.length c0_1, .slice A0_2 l0_2.length c0_2, .int .i64 a0_3, .int .i64 a0_4, .string a0_5, .string a0_6, .int .i64 a0_7]) (t := 81) ?hr ?_; (case hd => rfl); (case hg => rfl); (case hr => first | (go_simp; done) | (go_simp; rfl)); intro gb1568 hg w8 hbox hb; have BK1568 := Aside0.mk (hbox); have GW1568 := Aside0.mk ((bz_ hg (lb0_ HB.out))); have GE1568 := Aside0.mk ((bz_ hg (lb0_ HB.out))); replace HB := Aside0.mk (below_step (lb0_ HB.out) hb); clear hb hbox hg; obtain ⟨hcz9_0, hcz9_1, hcz9_2, hcz9_3, hcz9_4, hcz9_5, hcz9_6, hcz9_7⟩ := cz8_ BK1568.out; obtain ⟨hfz9_0, hfz9_1, hfz9_2, hfz9_3, hfz9_4, hfz9_5, hfz9_6, hfz9_7⟩ := fz8_ BK1568.out) | ((with_reducible refine gate_callee (f := 42) rfl ?_); refine ga_ (some 8) Try.func42 #[.agg #[.slice A0_0 l0_0.length c0_0, .slice A0_1 l0_1.length c0_1, .slice A0_2 l0_2.length c0_2, .int .i64 a0_3, .int .i64 a0_4], .int .i64 a1] ?_; (with_reducible refine (laws_heldExploration.calls k _ _ l0_0 _ _ l0_1 _ _ l0_2 a0_3 a0_4 a1 t1569 _ ?side1 ?side2 ?side3 ?side4 ?side5 ?side6 A3.out).mono ?_); (case side1 => exact kc_ (Kd.C_below HR0_0.out HB.out)); (case side2 => exact HC0_0.out); (case side3 => exact kc_ (Kd.C_below HR0_1.out HB.out)); (case side4 => exact HC0_1.out); (case side5 => exact kc_ (Kd.C_below HR0_2.out HB.out)); (case side6 => exact HC0_2.out); rintro e w10 ⟨rfl, hb⟩; refine ⟨_, rfl, ?_⟩; replace BK1568 := Aside0.mk (bb_ (bk_ BK1568.out) hb); replace HB := Aside0.mk (below_step (lb1_ HB.out GE1568.out) hb); (try clear hb); (try clear hb2); (try clear hk); (try clear hi)))
  go_ret
  exact ⟨rr_, lb1_ HB.out GE1568.out⟩
end Go.Proofs.Ythmjimboajmhmaa.Pr

namespace Go.Proofs.Ythmjimboajmhmaa.Pr
open Go.RowKit Go.Proofs.YthmjimboajmhmaaW.PrintWords Go.Proofs.YthmjimboajmhmaaW.PrintLast Go.Proofs.YthmjimboajmhmaaW.PrintMore
set_option linter.unusedVariables false
set_option linter.unusedSimpArgs false
theorem kg_ {α : Type} {d : Kd α} {e base g t : Nat} {w w1 : World} {ok : Nat → Prop} {v : Value} {xs : List α} {cs : Array Value} (h : d.R e w base ok v xs) (B : w.heap[g]? = some (.cells cs t (0, 0))) (ht : ∀ q, q ∈ e :: d.E → q ≠ t := by decide) (hh : d.R e w base (fun k => ok k ∧ k ≠ g) v xs → d.R e w1 base (fun k => ok k ∧ k ≠ g) v xs := by intro h_; (repeat (with_reducible first | exact h_ | apply Kd.R_alloc | apply Kd.R_drewN | apply Kd.R_drew | refine Kd.R_far ?_ (fun _ hk => hk.2) _))) : d.R e w1 base ok v xs := Kd.R_mono (hh (Kd.R_types h B ht)) (fun _ h_ => h_.1)
end Go.Proofs.Ythmjimboajmhmaa.Pr

namespace Go.Proofs.Ythmjimboajmhmaa.Pr
open Go.RowKit Go.Proofs.YthmjimboajmhmaaW.PrintWords Go.Proofs.YthmjimboajmhmaaW.PrintLast Go.Proofs.YthmjimboajmhmaaW.PrintMore
attribute [local go_sem] max2_int min2_int max_two min_two max_three min_three max_four min_four   -- for this text's walks alone
set_option linter.unusedVariables false
set_option linter.unusedSimpArgs false
mutual
def laws_FnExactNewConsole.j0 : Nat → List (S65) → Int → Bool → List (S37) → Bool → Bool → List (S37) → List Bool → List Bool → Int → Int → ByteArray → ByteArray → Int → List (S37) → List Bool → List Bool → Int → Int → ByteArray → ByteArray → Int → Option (Bool)
 | 0, _, _, _, _, _, _, _, _, _, _, _, _, _, _, _, _, _, _, _, _, _, _ => none
 | k + 1, x0, x1, x7, x8, x10, x44, x1590000, x1590001, x1590002, x1590003, x1590004, x1590005, x1590006, x1590007, x1609000, x1609001, x1609002, x1609003, x1609004, x1609005, x1609006, x1609007 => if x44 = true then (none) else ((laws_toLegS.f k x0).bind fun t1610 => ((laws_eqLegS.f k x8 t1610).bind fun t1613 => (if t1613 = true then ((laws_markLegS.f k x8 1).bind fun bt1614 => (if bt1614.1 < 0 then (laws_FnExactNewConsole.j1 k x0 x1 x7 true x1590000 x1590001 x1590002 x1590003 x1590004 x1590005 x1590006 x1590007 x1609000 x1609001 x1609002 x1609003 x1609004 x1609005 x1609006 x1609007) else ((laws_eqConsole.f k x1609000 x1609001 x1609002 x1609003 x1609004 x1609005 x1609006 x1609007 x1590000 x1590001 x1590002 x1590003 x1590004 x1590005 x1590006 x1590007).bind fun t1616 => (if t1616 = true then (laws_FnExactNewConsole.j1 k x0 x1 x7 (x10 != x7) x1590000 x1590001 x1590002 x1590003 x1590004 x1590005 x1590006 x1590007 x1609000 x1609001 x1609002 x1609003 x1609004 x1609005 x1609006 x1609007) else (laws_FnExactNewConsole.j1 k x0 x1 x7 true x1590000 x1590001 x1590002 x1590003 x1590004 x1590005 x1590006 x1590007 x1609000 x1609001 x1609002 x1609003 x1609004 x1609005 x1609006 x1609007))))) else (none))))
def laws_FnExactNewConsole.j1 : Nat → List (S65) → Int → Bool → Bool → List (S37) → List Bool → List Bool → Int → Int → ByteArray → ByteArray → Int → List (S37) → List Bool → List Bool → Int → Int → ByteArray → ByteArray → Int → Option (Bool)
 | 0, _, _, _, _, _, _, _, _, _, _, _, _, _, _, _, _, _, _, _, _ => none
 | k + 1, x0, x1, x7, x65, x1590000, x1590001, x1590002, x1590003, x1590004, x1590005, x1590006, x1590007, x1609000, x1609001, x1609002, x1609003, x1609004, x1609005, x1609006, x1609007 => if x65 = true then (none) else ((laws_markConsole.f k x1609000 x1609001 x1609002 x1609003 x1609004 x1609005 x1609006 x1609007 1).bind fun bt1617 => ((laws_heldConsole.f k bt1617.2.1 bt1617.2.2.1 bt1617.2.2.2 x1609003 x1609004 x1609005 x1609006 x1609007 1).bind fun t1621 => (if t1621 < 0 then (none) else (if t1621 = bt1617.1 then ((laws_toLegS.f k x0).bind fun t1622 => ((impl_NewConsole.f k t1622 x1).bind fun bt1625 => ((laws_eqConsole.f k bt1625.1 bt1625.2.1 bt1625.2.2.1 bt1625.2.2.2.1 bt1625.2.2.2.2.1 bt1625.2.2.2.2.2.1 bt1625.2.2.2.2.2.2.1 bt1625.2.2.2.2.2.2.2.1 x1590000 x1590001 x1590002 x1590003 x1590004 x1590005 x1590006 x1590007).bind fun t1641 => (if t1641 = true then (laws_FnExactNewConsole.j2 k bt1617.1 (bt1625.2.2.2.2.2.2.2.2 != x7) bt1617.2.1 bt1617.2.2.1 bt1617.2.2.2 x1609003 x1609004 x1609005 x1609006 x1609007) else (laws_FnExactNewConsole.j2 k bt1617.1 true bt1617.2.1 bt1617.2.2.1 bt1617.2.2.2 x1609003 x1609004 x1609005 x1609006 x1609007))))) else (none)))))
def laws_FnExactNewConsole.j2 : Nat → Int → Bool → List (S37) → List Bool → List Bool → Int → Int → ByteArray → ByteArray → Int → Option (Bool)
 | 0, _, _, _, _, _, _, _, _, _, _ => none
 | k + 1, x12, x92, x1609000, x1609001, x1609002, x1609003, x1609004, x1609005, x1609006, x1609007 => if x92 = true then (none) else ((laws_heldConsole.f k x1609000 x1609001 x1609002 x1609003 x1609004 x1609005 x1609006 x1609007 1).bind fun t1642 => (if t1642 < 0 then (none) else (if t1642 = x12 then (some true) else (none))))
end
def laws_FnExactNewConsole.f (k : Nat) (l0 : List (S65)) (a1 : Int) : Option (Bool) := (laws_szLegS.f l0 1048576).bind fun t1570 => (if t1570 < 0 then (some true) else ((laws_toLegS.f k l0).bind fun t1571 => ((spec_NewConsole.f k t1571 a1).bind fun bt1574 => ((laws_toLegS.f k l0).bind fun t1590 => ((impl_NewConsole.f k t1590 a1).bind fun bt1593 => ((laws_eqConsole.f k bt1593.1 bt1593.2.1 bt1593.2.2.1 bt1593.2.2.2.1 bt1593.2.2.2.2.1 bt1593.2.2.2.2.2.1 bt1593.2.2.2.2.2.2.1 bt1593.2.2.2.2.2.2.2.1 bt1574.1 bt1574.2.1 bt1574.2.2.1 bt1574.2.2.2.1 bt1574.2.2.2.2.1 bt1574.2.2.2.2.2.1 bt1574.2.2.2.2.2.2.1 bt1574.2.2.2.2.2.2.2.1).bind fun t1609 => (if t1609 = true then (laws_FnExactNewConsole.j0 k l0 a1 bt1574.2.2.2.2.2.2.2.2 t1590 bt1593.2.2.2.2.2.2.2.2 (bt1593.2.2.2.2.2.2.2.2 != bt1574.2.2.2.2.2.2.2.2) bt1574.1 bt1574.2.1 bt1574.2.2.1 bt1574.2.2.2.1 bt1574.2.2.2.2.1 bt1574.2.2.2.2.2.1 bt1574.2.2.2.2.2.2.1 bt1574.2.2.2.2.2.2.2.1 bt1593.1 bt1593.2.1 bt1593.2.2.1 bt1593.2.2.2.1 bt1593.2.2.2.2.1 bt1593.2.2.2.2.2.1 bt1593.2.2.2.2.2.2.1 bt1593.2.2.2.2.2.2.2.1) else (laws_FnExactNewConsole.j0 k l0 a1 bt1574.2.2.2.2.2.2.2.2 t1590 bt1593.2.2.2.2.2.2.2.2 true bt1574.1 bt1574.2.1 bt1574.2.2.1 bt1574.2.2.2.1 bt1574.2.2.2.2.1 bt1574.2.2.2.2.2.1 bt1574.2.2.2.2.2.2.1 bt1574.2.2.2.2.2.2.2.1 bt1593.1 bt1593.2.1 bt1593.2.2.1 bt1593.2.2.2.1 bt1593.2.2.2.2.1 bt1593.2.2.2.2.2.1 bt1593.2.2.2.2.2.2.1 bt1593.2.2.2.2.2.2.2.1))))))))
theorem laws_FnExactNewConsole.calls (k : Nat) (A0 : Option Addr) (c0 : Nat) (l0 : List (S65)) (a1 : Int) (r : Bool) (w : World) (hr0 : Kd.C k65 w A0 l0.length l0) (hc0 : l0.length ≤ c0) (h : laws_FnExactNewConsole.f k l0 a1 = some r) :
  Calls Try.prog 14 #[.slice A0 l0.length c0, .int .i64 a1] w fun e w' => e = .returned (.bool r) ∧ Below w.heap.size w w' := by
 have hu81 := Try.underlying81
 have HR0 := Aside0.mk hr0
 have HC0 := Aside0.mk hc0
 clear hr0 hc0
 have HB := Aside0.mk (Below.refl w.heap.size w)
 have H : ((laws_szLegS.f l0 1048576).bind fun t1570 => (if t1570 < 0 then (some true) else ((laws_toLegS.f k l0).bind fun t1571 => ((spec_NewConsole.f k t1571 a1).bind fun bt1574 => ((laws_toLegS.f k l0).bind fun t1590 => ((impl_NewConsole.f k t1590 a1).bind fun bt1593 => ((laws_eqConsole.f k bt1593.1 bt1593.2.1 bt1593.2.2.1 bt1593.2.2.2.1 bt1593.2.2.2.2.1 bt1593.2.2.2.2.2.1 bt1593.2.2.2.2.2.2.1 bt1593.2.2.2.2.2.2.2.1 bt1574.1 bt1574.2.1 bt1574.2.2.1 bt1574.2.2.2.1 bt1574.2.2.2.2.1 bt1574.2.2.2.2.2.1 bt1574.2.2.2.2.2.2.1 bt1574.2.2.2.2.2.2.2.1).bind fun t1609 => (if t1609 = true then (laws_FnExactNewConsole.j0 k l0 a1 bt1574.2.2.2.2.2.2.2.2 t1590 bt1593.2.2.2.2.2.2.2.2 (bt1593.2.2.2.2.2.2.2.2 != bt1574.2.2.2.2.2.2.2.2) bt1574.1 bt1574.2.1 bt1574.2.2.1 bt1574.2.2.2.1 bt1574.2.2.2.2.1 bt1574.2.2.2.2.2.1 bt1574.2.2.2.2.2.2.1 bt1574.2.2.2.2.2.2.2.1 bt1593.1 bt1593.2.1 bt1593.2.2.1 bt1593.2.2.2.1 bt1593.2.2.2.2.1 bt1593.2.2.2.2.2.1 bt1593.2.2.2.2.2.2.1 bt1593.2.2.2.2.2.2.2.1) else (laws_FnExactNewConsole.j0 k l0 a1 bt1574.2.2.2.2.2.2.2.2 t1590 bt1593.2.2.2.2.2.2.2.2 true bt1574.1 bt1574.2.1 bt1574.2.2.1 bt1574.2.2.2.1 bt1574.2.2.2.2.1 bt1574.2.2.2.2.2.1 bt1574.2.2.2.2.2.2.1 bt1574.2.2.2.2.2.2.2.1 bt1593.1 bt1593.2.1 bt1593.2.2.1 bt1593.2.2.2.1 bt1593.2.2.2.2.1 bt1593.2.2.2.2.2.1 bt1593.2.2.2.2.2.2.1 bt1593.2.2.2.2.2.2.2.1))))))))) = some r := h
 clear h
 replace H := Option.bind_eq_some_iff.mp H
 obtain ⟨t1570, A30, H⟩ := H
 replace H : (if t1570 < 0 then (some true) else ((laws_toLegS.f k l0).bind fun t1571 => ((spec_NewConsole.f k t1571 a1).bind fun bt1574 => ((laws_toLegS.f k l0).bind fun t1590 => ((impl_NewConsole.f k t1590 a1).bind fun bt1593 => ((laws_eqConsole.f k bt1593.1 bt1593.2.1 bt1593.2.2.1 bt1593.2.2.2.1 bt1593.2.2.2.2.1 bt1593.2.2.2.2.2.1 bt1593.2.2.2.2.2.2.1 bt1593.2.2.2.2.2.2.2.1 bt1574.1 bt1574.2.1 bt1574.2.2.1 bt1574.2.2.2.1 bt1574.2.2.2.2.1 bt1574.2.2.2.2.2.1 bt1574.2.2.2.2.2.2.1 bt1574.2.2.2.2.2.2.2.1).bind fun t1609 => (if t1609 = true then (laws_FnExactNewConsole.j0 k l0 a1 bt1574.2.2.2.2.2.2.2.2 t1590 bt1593.2.2.2.2.2.2.2.2 (bt1593.2.2.2.2.2.2.2.2 != bt1574.2.2.2.2.2.2.2.2) bt1574.1 bt1574.2.1 bt1574.2.2.1 bt1574.2.2.2.1 bt1574.2.2.2.2.1 bt1574.2.2.2.2.2.1 bt1574.2.2.2.2.2.2.1 bt1574.2.2.2.2.2.2.2.1 bt1593.1 bt1593.2.1 bt1593.2.2.1 bt1593.2.2.2.1 bt1593.2.2.2.2.1 bt1593.2.2.2.2.2.1 bt1593.2.2.2.2.2.2.1 bt1593.2.2.2.2.2.2.2.1) else (laws_FnExactNewConsole.j0 k l0 a1 bt1574.2.2.2.2.2.2.2.2 t1590 bt1593.2.2.2.2.2.2.2.2 true bt1574.1 bt1574.2.1 bt1574.2.2.1 bt1574.2.2.2.1 bt1574.2.2.2.2.1 bt1574.2.2.2.2.2.1 bt1574.2.2.2.2.2.2.1 bt1574.2.2.2.2.2.2.2.1 bt1593.1 bt1593.2.1 bt1593.2.2.1 bt1593.2.2.2.1 bt1593.2.2.2.2.1 bt1593.2.2.2.2.2.1 bt1593.2.2.2.2.2.2.1 bt1593.2.2.2.2.2.2.2.1)))))))) = some r := H
 have A3 := Aside0.mk A30
 clear A30
 by_cases c4 : t1570 < 0
 ·
  rw [if_pos c4] at H
  have c4b0 : decide (t1570 < 0) = true := decide_eq_true c4
  clear c4
  obtain rfl := Option.some.inj H
  go_enter Try.func14, Try.ntmps14
  go_wp2_with (first | ((with_reducible refine gate_callee (f := 37) rfl ?_); refine ga_ (some 18) Try.func37 #[.slice A0 l0.length c0, .int .i64 1048576] ?_; (with_reducible refine (laws_szLegS.calls _ _ l0 1048576 t1570 _ ?side1 ?side2 A3.out).mono ?_); (case side1 => exact kc_ HR0.out); (case side2 => exact HC0.out); rintro e w' ⟨rfl, ⟨nd, rfl⟩⟩; refine ⟨_, rfl, ?_⟩))
  go_ret
  exact ⟨rr_, lb0_ HB.out⟩
 ·
  rw [if_neg c4] at H
  have c4b0 : decide (t1570 < 0) = false := decide_eq_false c4
  clear c4
  replace H := Option.bind_eq_some_iff.mp H
  obtain ⟨t1571, A50, H⟩ := H
  replace H : ((spec_NewConsole.f k t1571 a1).bind fun bt1574 => ((laws_toLegS.f k l0).bind fun t1590 => ((impl_NewConsole.f k t1590 a1).bind fun bt1593 => ((laws_eqConsole.f k bt1593.1 bt1593.2.1 bt1593.2.2.1 bt1593.2.2.2.1 bt1593.2.2.2.2.1 bt1593.2.2.2.2.2.1 bt1593.2.2.2.2.2.2.1 bt1593.2.2.2.2.2.2.2.1 bt1574.1 bt1574.2.1 bt1574.2.2.1 bt1574.2.2.2.1 bt1574.2.2.2.2.1 bt1574.2.2.2.2.2.1 bt1574.2.2.2.2.2.2.1 bt1574.2.2.2.2.2.2.2.1).bind fun t1609 => (if t1609 = true then (laws_FnExactNewConsole.j0 k l0 a1 bt1574.2.2.2.2.2.2.2.2 t1590 bt1593.2.2.2.2.2.2.2.2 (bt1593.2.2.2.2.2.2.2.2 != bt1574.2.2.2.2.2.2.2.2) bt1574.1 bt1574.2.1 bt1574.2.2.1 bt1574.2.2.2.1 bt1574.2.2.2.2.1 bt1574.2.2.2.2.2.1 bt1574.2.2.2.2.2.2.1 bt1574.2.2.2.2.2.2.2.1 bt1593.1 bt1593.2.1 bt1593.2.2.1 bt1593.2.2.2.1 bt1593.2.2.2.2.1 bt1593.2.2.2.2.2.1 bt1593.2.2.2.2.2.2.1 bt1593.2.2.2.2.2.2.2.1) else (laws_FnExactNewConsole.j0 k l0 a1 bt1574.2.2.2.2.2.2.2.2 t1590 bt1593.2.2.2.2.2.2.2.2 true bt1574.1 bt1574.2.1 bt1574.2.2.1 bt1574.2.2.2.1 bt1574.2.2.2.2.1 bt1574.2.2.2.2.2.1 bt1574.2.2.2.2.2.2.1 bt1574.2.2.2.2.2.2.2.1 bt1593.1 bt1593.2.1 bt1593.2.2.1 bt1593.2.2.2.1 bt1593.2.2.2.2.1 bt1593.2.2.2.2.2.1 bt1593.2.2.2.2.2.2.1 bt1593.2.2.2.2.2.2.2.1)))))) = some r := H
  have A5 := Aside0.mk A50
  clear A50
  replace H := Option.bind_eq_some_iff.mp H
  obtain ⟨⟨t1574, t1577, t1580, t1583, t1584, t1585, t1586, t1587, t1588⟩, A60, H⟩ := H
  replace H : ((laws_toLegS.f k l0).bind fun t1590 => ((impl_NewConsole.f k t1590 a1).bind fun bt1593 => ((laws_eqConsole.f k bt1593.1 bt1593.2.1 bt1593.2.2.1 bt1593.2.2.2.1 bt1593.2.2.2.2.1 bt1593.2.2.2.2.2.1 bt1593.2.2.2.2.2.2.1 bt1593.2.2.2.2.2.2.2.1 t1574 t1577 t1580 t1583 t1584 t1585 t1586 t1587).bind fun t1609 => (if t1609 = true then (laws_FnExactNewConsole.j0 k l0 a1 t1588 t1590 bt1593.2.2.2.2.2.2.2.2 (bt1593.2.2.2.2.2.2.2.2 != t1588) t1574 t1577 t1580 t1583 t1584 t1585 t1586 t1587 bt1593.1 bt1593.2.1 bt1593.2.2.1 bt1593.2.2.2.1 bt1593.2.2.2.2.1 bt1593.2.2.2.2.2.1 bt1593.2.2.2.2.2.2.1 bt1593.2.2.2.2.2.2.2.1) else (laws_FnExactNewConsole.j0 k l0 a1 t1588 t1590 bt1593.2.2.2.2.2.2.2.2 true t1574 t1577 t1580 t1583 t1584 t1585 t1586 t1587 bt1593.1 bt1593.2.1 bt1593.2.2.1 bt1593.2.2.2.1 bt1593.2.2.2.2.1 bt1593.2.2.2.2.2.1 bt1593.2.2.2.2.2.2.1 bt1593.2.2.2.2.2.2.2.1))))) = some r := H
  have A6 := Aside0.mk A60
  clear A60
  replace H := Option.bind_eq_some_iff.mp H
  obtain ⟨t1590, A70, H⟩ := H
  replace H : ((impl_NewConsole.f k t1590 a1).bind fun bt1593 => ((laws_eqConsole.f k bt1593.1 bt1593.2.1 bt1593.2.2.1 bt1593.2.2.2.1 bt1593.2.2.2.2.1 bt1593.2.2.2.2.2.1 bt1593.2.2.2.2.2.2.1 bt1593.2.2.2.2.2.2.2.1 t1574 t1577 t1580 t1583 t1584 t1585 t1586 t1587).bind fun t1609 => (if t1609 = true then (laws_FnExactNewConsole.j0 k l0 a1 t1588 t1590 bt1593.2.2.2.2.2.2.2.2 (bt1593.2.2.2.2.2.2.2.2 != t1588) t1574 t1577 t1580 t1583 t1584 t1585 t1586 t1587 bt1593.1 bt1593.2.1 bt1593.2.2.1 bt1593.2.2.2.1 bt1593.2.2.2.2.1 bt1593.2.2.2.2.2.1 bt1593.2.2.2.2.2.2.1 bt1593.2.2.2.2.2.2.2.1) else (laws_FnExactNewConsole.j0 k l0 a1 t1588 t1590 bt1593.2.2.2.2.2.2.2.2 true t1574 t1577 t1580 t1583 t1584 t1585 t1586 t1587 bt1593.1 bt1593.2.1 bt1593.2.2.1 bt1593.2.2.2.1 bt1593.2.2.2.2.1 bt1593.2.2.2.2.2.1 bt1593.2.2.2.2.2.2.1 bt1593.2.2.2.2.2.2.2.1)))) = some r := H
  have A7 := Aside0.mk A70
  clear A70
  replace H := Option.bind_eq_some_iff.mp H
  obtain ⟨⟨t1593, t1596, t1599, t1602, t1603, t1604, t1605, t1606, t1607⟩, A80, H⟩ := H
  replace H : ((laws_eqConsole.f k t1593 t1596 t1599 t1602 t1603 t1604 t1605 t1606 t1574 t1577 t1580 t1583 t1584 t1585 t1586 t1587).bind fun t1609 => (if t1609 = true then (laws_FnExactNewConsole.j0 k l0 a1 t1588 t1590 t1607 (t1607 != t1588) t1574 t1577 t1580 t1583 t1584 t1585 t1586 t1587 t1593 t1596 t1599 t1602 t1603 t1604 t1605 t1606) else (laws_FnExactNewConsole.j0 k l0 a1 t1588 t1590 t1607 true t1574 t1577 t1580 t1583 t1584 t1585 t1586 t1587 t1593 t1596 t1599 t1602 t1603 t1604 t1605 t1606))) = some r := H
  have A8 := Aside0.mk A80
  clear A80
  have HC9 := Aside0.mk H
  clear H
  go_enter Try.func14, Try.ntmps14
  go_upto_region 8 with (first | ((with_reducible refine gate_callee (f := 37) rfl ?_); refine ga_ (some 18) Try.func37 #[.slice A0 l0.length c0, .int .i64 1048576] ?_; (with_reducible refine (laws_szLegS.calls _ _ l0 1048576 t1570 _ ?side1 ?side2 A3.out).mono ?_); (case side1 => exact kc_ HR0.out); (case side2 => exact HC0.out); rintro e w' ⟨rfl, ⟨nd, rfl⟩⟩; refine ⟨_, rfl, ?_⟩) | ((with_reducible refine gate_callee (f := 38) rfl ?_); refine ga_ (some 23) Try.func38 #[.slice A0 l0.length c0] ?_; (with_reducible refine (laws_toLegS.calls k _ _ l0 t1571 _ ?side1 ?side2 A5.out).mono ?_); (case side1 => exact kc_ HR0.out); (case side2 => exact HC0.out); rintro e w10 ⟨v1572, rfl, ho0, hb⟩; refine ⟨_, rfl, ?_⟩; have HO1573 := Aside0.mk (Kd.R_lower ho0 (below_size (lb0_ HB.out))); replace HB := Aside0.mk (below_step (lb0_ HB.out) hb); (try clear hb); (try clear hb2); (try clear hk); (try clear hi); (try clear ho0); obtain ⟨Ao11, co11, eo11⟩ := Kd.R_slice HO1573.out; subst eo11) | ((with_reducible refine gate_callee (f := 61) rfl ?_); refine ga_ (some 25) Try.func61 #[.slice Ao11 t1571.length co11, .int .i64 a1] ?_; (with_reducible refine (spec_NewConsole.calls k _ _ t1571 a1 t1574 t1577 t1580 t1583 t1584 t1585 t1586 t1587 t1588 _ ?side1 ?side2 A6.out).mono ?_); (case side1 => exact kc_ (Kd.R_reads' HO1573.out).2.2); (case side2 => exact (Kd.R_reads' HO1573.out).2.1); rintro e w12 ⟨v1575, v1578, v1581, rfl, ho0, ho1, ho2, hb⟩; refine ⟨_, rfl, ?_⟩; have HO1576 := Aside0.mk (Kd.R_lower (Kd.R_new' ho0 (Kd.R_lt (kr_ HO1573.out))) (below_size (lb0_ HB.out))); replace HO1573 := Aside0.mk (Kd.R_elder' (kr_ HO1573.out) (Kd.R_base ho0) hb); have HO1579 := Aside0.mk (Kd.R_lower ho1 (below_size (lb0_ HB.out))); have HO1582 := Aside0.mk (Kd.R_lower ho2 (below_size (lb0_ HB.out))); replace HB := Aside0.mk (below_step (lb0_ HB.out) hb); (try clear hb); (try clear hb2); (try clear hk); (try clear hi); (try clear ho0); (try clear ho1); (try clear ho2)) | ((with_reducible refine gate_dst (N := 6) rfl ?_); refine box_event ?hg (N := 6) ?hd (cs := #[.slice none 0 0, .slice none 0 0, .slice none 0 0, .int .i64 0, .int .i64 0, .string (⟨#[]⟩ : ByteArray), .string (⟨#[]⟩ : ByteArray), .int .i64 0]) (t := 81) ?hr ?_; (case hd => rfl); (case hg => rfl); (case hr => first | (go_simp; done) | (go_simp; rfl)); intro gb1589 hg w13 hbox hb; replace HO1573 := Aside0.mk (Kd.R_below (kr_ HO1573.out) hb); replace HO1576 := Aside0.mk (Kd.R_below (kr_ HO1576.out) hb); replace HO1579 := Aside0.mk (Kd.R_below (kr_ HO1579.out) hb); replace HO1582 := Aside0.mk (Kd.R_below (kr_ HO1582.out) hb); have BK1589 := Aside0.mk (hbox); have GW1589 := Aside0.mk ((bz_ hg (lb0_ HB.out))); have GE1589 := Aside0.mk ((bz_ hg (lb0_ HB.out))); replace HB := Aside0.mk (below_step (lb0_ HB.out) hb); clear hb hbox hg; obtain ⟨Ao14, co14, eo14⟩ := Kd.R_slice HO1576.out; subst eo14; obtain ⟨hcz15_0, hcz15_1, hcz15_2, hcz15_3, hcz15_4, hcz15_5, hcz15_6, hcz15_7⟩ := cz8_ BK1589.out; obtain ⟨hfz15_0, hfz15_1, hfz15_2, hfz15_3, hfz15_4, hfz15_5, hfz15_6, hfz15_7⟩ := fz8_ BK1589.out; obtain ⟨Ao16, co16, eo16⟩ := Kd.R_slice HO1579.out; subst eo16; obtain ⟨Ao17, co17, eo17⟩ := Kd.R_slice HO1582.out; subst eo17) | ((with_reducible refine gate_callee (f := 38) rfl ?_); refine ga_ (some 29) Try.func38 #[.slice A0 l0.length c0] ?_; (with_reducible refine (laws_toLegS.calls k _ _ l0 t1590 _ ?side1 ?side2 A7.out).mono ?_); (case side1 => exact Kd.C_below HR0.out (lb1_ HB.out GE1589.out)); (case side2 => exact HC0.out); rintro e w18 ⟨v1591, rfl, ho0, hb⟩; refine ⟨_, rfl, ?_⟩; replace HO1579 := Aside0.mk (Kd.R_below (kg_ HO1579.out BK1589.out) hb); replace HO1582 := Aside0.mk (Kd.R_below (kg_ HO1582.out BK1589.out) hb); have HO1592 := Aside0.mk (Kd.R_lower (Kd.R_new' (Kd.R_new' ho0 (Kd.R_lt (kg_ HO1573.out BK1589.out))) (Kd.R_lt (kg_ HO1576.out BK1589.out))) (below_size (lb1_ HB.out GE1589.out))); replace HO1573 := Aside0.mk (Kd.R_elder' (kg_ HO1573.out BK1589.out) (Kd.R_base ho0) hb); replace HO1576 := Aside0.mk (Kd.R_elder' (kg_ HO1576.out BK1589.out) (Kd.R_base ho0) hb); replace BK1589 := Aside0.mk (blk_below (g := gb1589) (o := .cells #[.slice Ao14 t1574.length co14, .slice Ao16 t1577.length co16, .slice Ao17 t1580.length co17, .int .i64 t1583, .int .i64 t1584, .string t1585, .string t1586, .int .i64 t1587] 81 (0, 0)) (by (with_reducible repeat (first | refine blk_drewN ?_ _ | refine blk_drew ?_ | refine blk_alloc ?_ _)); refine blk_put (cs := #[.slice Ao14 t1574.length co14, .slice Ao16 t1577.length co16, .slice Ao17 t1580.length co17, .int .i64 t1583, .int .i64 t1584, .string t1585, .string t1586, .int .i64 0]) ?_ 7 _ rfl; (with_reducible repeat (first | refine blk_drewN ?_ _ | refine blk_drew ?_ | refine blk_alloc ?_ _)); refine blk_put (cs := #[.slice Ao14 t1574.length co14, .slice Ao16 t1577.length co16, .slice Ao17 t1580.length co17, .int .i64 t1583, .int .i64 t1584, .string t1585, .string (⟨#[]⟩ : ByteArray), .int .i64 0]) ?_ 6 _ rfl; (with_reducible repeat (first | refine blk_drewN ?_ _ | refine blk_drew ?_ | refine blk_alloc ?_ _)); refine blk_put (cs := #[.slice Ao14 t1574.length co14, .slice Ao16 t1577.length co16, .slice Ao17 t1580.length co17, .int .i64 t1583, .int .i64 t1584, .string (⟨#[]⟩ : ByteArray), .string (⟨#[]⟩ : ByteArray), .int .i64 0]) ?_ 5 _ rfl; (with_reducible repeat (first | refine blk_drewN ?_ _ | refine blk_drew ?_ | refine blk_alloc ?_ _)); refine blk_put (cs := #[.slice Ao14 t1574.length co14, .slice Ao16 t1577.length co16, .slice Ao17 t1580.length co17, .int .i64 t1583, .int .i64 0, .string (⟨#[]⟩ : ByteArray), .string (⟨#[]⟩ : ByteArray), .int .i64 0]) ?_ 4 _ rfl; (with_reducible repeat (first | refine blk_drewN ?_ _ | refine blk_drew ?_ | refine blk_alloc ?_ _)); refine blk_put (cs := #[.slice Ao14 t1574.length co14, .slice Ao16 t1577.length co16, .slice Ao17 t1580.length co17, .int .i64 0, .int .i64 0, .string (⟨#[]⟩ : ByteArray), .string (⟨#[]⟩ : ByteArray), .int .i64 0]) ?_ 3 _ rfl; (with_reducible repeat (first | refine blk_drewN ?_ _ | refine blk_drew ?_ | refine blk_alloc ?_ _)); refine blk_put (cs := #[.slice Ao14 t1574.length co14, .slice Ao16 t1577.length co16, .slice none 0 0, .int .i64 0, .int .i64 0, .string (⟨#[]⟩ : ByteArray), .string (⟨#[]⟩ : ByteArray), .int .i64 0]) ?_ 2 _ rfl; (with_reducible repeat (first | refine blk_drewN ?_ _ | refine blk_drew ?_ | refine blk_alloc ?_ _)); refine blk_put (cs := #[.slice Ao14 t1574.length co14, .slice none 0 0, .slice none 0 0, .int .i64 0, .int .i64 0, .string (⟨#[]⟩ : ByteArray), .string (⟨#[]⟩ : ByteArray), .int .i64 0]) ?_ 1 _ rfl; (with_reducible repeat (first | refine blk_drewN ?_ _ | refine blk_drew ?_ | refine blk_alloc ?_ _)); refine blk_put (cs := #[.slice none 0 0, .slice none 0 0, .slice none 0 0, .int .i64 0, .int .i64 0, .string (⟨#[]⟩ : ByteArray), .string (⟨#[]⟩ : ByteArray), .int .i64 0]) ?_ 0 _ rfl; (with_reducible repeat (first | refine blk_drewN ?_ _ | refine blk_drew ?_ | refine blk_alloc ?_ _)); exact BK1589.out) hb); replace HB := Aside0.mk (below_step (lb1_ HB.out GE1589.out) hb); (try clear hb); (try clear hb2); (try clear hk); (try clear hi); (try clear ho0); obtain ⟨Ao19, co19, eo19⟩ := Kd.R_slice HO1592.out; subst eo19) | ((with_reducible refine gate_callee (f := 62) rfl ?_); refine ga_ (some 33) Try.func62 #[.slice Ao19 t1590.length co19, .int .i64 a1] ?_; (with_reducible refine (impl_NewConsole.calls k _ _ t1590 a1 t1593 t1596 t1599 t1602 t1603 t1604 t1605 t1606 t1607 _ ?side1 ?side2 A8.out).mono ?_); (case side1 => exact kc_ (Kd.R_reads' HO1592.out).2.2); (case side2 => exact (Kd.R_reads' HO1592.out).2.1); rintro e w20 ⟨v1594, v1597, v1600, rfl, ho0, ho1, ho2, hb⟩; refine ⟨_, rfl, ?_⟩; have HO1595 := Aside0.mk (Kd.R_lower (Kd.R_new' (Kd.R_new' (Kd.R_new' ho0 (Kd.R_lt (kr_ HO1573.out))) (Kd.R_lt (kr_ HO1576.out))) (Kd.R_lt (kr_ HO1592.out))) (below_size (lb1_ HB.out GE1589.out))); replace HO1573 := Aside0.mk (Kd.R_elder' (kr_ HO1573.out) (Kd.R_base ho0) hb); replace HO1576 := Aside0.mk (Kd.R_elder' (kr_ HO1576.out) (Kd.R_base ho0) hb); replace HO1592 := Aside0.mk (Kd.R_elder' (kr_ HO1592.out) (Kd.R_base ho0) hb); have HO1598 := Aside0.mk (Kd.R_lower (Kd.R_new' (Kd.R_new' ho1 (Kd.R_lt (kr_ HO1579.out))) (Kd.R_lt (kr_ HO1582.out))) (below_size (lb1_ HB.out GE1589.out))); have HO1601 := Aside0.mk (Kd.R_lower (Kd.R_new' (Kd.R_new' ho2 (Kd.R_lt (kr_ HO1579.out))) (Kd.R_lt (kr_ HO1582.out))) (below_size (lb1_ HB.out GE1589.out))); replace HO1579 := Aside0.mk (Kd.R_mono (Kd.R_told (Kd.R_told (Kd.R_old (kr_ HO1579.out) hb) (Kd.R_base ho1)) (Kd.R_base ho2)) (fun _ h_ => h_.1)); replace HO1582 := Aside0.mk (Kd.R_mono (Kd.R_told (Kd.R_told (Kd.R_old (kr_ HO1582.out) hb) (Kd.R_base ho1)) (Kd.R_base ho2)) (fun _ h_ => h_.1)); replace BK1589 := Aside0.mk (bb_ (bk_ BK1589.out) hb); replace HB := Aside0.mk (below_step (lb1_ HB.out GE1589.out) hb); (try clear hb); (try clear hb2); (try clear hk); (try clear hi); (try clear ho0); (try clear ho1); (try clear ho2)) | ((with_reducible refine gate_dst (N := 9) rfl ?_); refine box_event ?hg (N := 9) ?hd (cs := #[.slice none 0 0, .slice none 0 0, .slice none 0 0, .int .i64 0, .int .i64 0, .string (⟨#[]⟩ : ByteArray), .string (⟨#[]⟩ : ByteArray), .int .i64 0]) (t := 81) ?hr ?_; (case hd => rfl); (case hg => rfl); (case hr => first | (go_simp; done) | (go_simp; rfl)); intro gb1608 hg w21 hbox hb; replace HO1573 := Aside0.mk (Kd.R_below (kr_ HO1573.out) hb); replace HO1576 := Aside0.mk (Kd.R_below (kr_ HO1576.out) hb); replace HO1579 := Aside0.mk (Kd.R_below (kr_ HO1579.out) hb); replace HO1582 := Aside0.mk (Kd.R_below (kr_ HO1582.out) hb); replace HO1592 := Aside0.mk (Kd.R_below (kr_ HO1592.out) hb); replace HO1595 := Aside0.mk (Kd.R_below (kr_ HO1595.out) hb); replace HO1598 := Aside0.mk (Kd.R_below (kr_ HO1598.out) hb); replace HO1601 := Aside0.mk (Kd.R_below (kr_ HO1601.out) hb); have BK1608 := Aside0.mk (hbox); have GW1608 := Aside0.mk ((bz_ hg (lb1_ HB.out GE1589.out))); have GE1608 := Aside0.mk ((bz_ hg (lb1_ HB.out GE1589.out))); replace HB := Aside0.mk (below_step (lb1_ HB.out GE1589.out) hb); have NB1589_1608 := Aside0.mk ((by rw [hg]; exact Nat.ne_of_lt (blk_lt (g := gb1589) (o := .cells #[.slice Ao14 t1574.length co14, .slice Ao16 t1577.length co16, .slice Ao17 t1580.length co17, .int .i64 t1583, .int .i64 t1584, .string t1585, .string t1586, .int .i64 t1587] 81 (0, 0)) (bk_ BK1589.out)) : gb1589 ≠ gb1608)); have NB1608_1589 := Aside0.mk ((by rw [hg]; exact Nat.ne_of_gt (blk_lt (g := gb1589) (o := .cells #[.slice Ao14 t1574.length co14, .slice Ao16 t1577.length co16, .slice Ao17 t1580.length co17, .int .i64 t1583, .int .i64 t1584, .string t1585, .string t1586, .int .i64 t1587] 81 (0, 0)) (bk_ BK1589.out)) : gb1608 ≠ gb1589)); replace BK1589 := Aside0.mk (bb_ (bk_ BK1589.out) hb); clear hb hbox hg; obtain ⟨Ao22, co22, eo22⟩ := Kd.R_slice HO1595.out; subst eo22; have hnb23 := NB1608_1589.out; have hnc23 := NB1589_1608.out; obtain ⟨hcz24_0, hcz24_1, hcz24_2, hcz24_3, hcz24_4, hcz24_5, hcz24_6, hcz24_7⟩ := cz8_ BK1608.out; obtain ⟨hfz24_0, hfz24_1, hfz24_2, hfz24_3, hfz24_4, hfz24_5, hfz24_6, hfz24_7⟩ := fz8_ BK1608.out; obtain ⟨Ao25, co25, eo25⟩ := Kd.R_slice HO1598.out; subst eo25; obtain ⟨Ao26, co26, eo26⟩ := Kd.R_slice HO1601.out; subst eo26))
  (try simp only [Act.put, List.setIfInBounds_toArray, List.set_cons_zero, List.set_cons_succ])
  go_cut [44] (fun v44 wc => ∃ (kq : Nat) (x44_8 : Bool), v44 = .bool x44_8 ∧ Aside0 (laws_FnExactNewConsole.j0 kq l0 a1 t1588 t1590 t1607 x44_8 t1574 t1577 t1580 t1583 t1584 t1585 t1586 t1587 t1593 t1596 t1599 t1602 t1603 t1604 t1605 t1606 = some r) ∧ Aside0 (kq ≤ k) ∧ Aside0 (Kd.R k37 37 wc w.heap.size (fun k_ => some k_ ≠ ((.slice Ao14 t1574.length co14) : Value).ownBlock ∧ some k_ ≠ ((.slice Ao22 t1593.length co22) : Value).ownBlock) (.slice Ao19 t1590.length co19) t1590) ∧ Aside0 (Kd.R k37 37 wc w.heap.size (fun k_ => some k_ ≠ ((.slice Ao19 t1590.length co19) : Value).ownBlock ∧ some k_ ≠ ((.slice Ao22 t1593.length co22) : Value).ownBlock) (.slice Ao14 t1574.length co14) t1574) ∧ Aside0 (Kd.R Kd.bool 4 wc w.heap.size (fun k_ => some k_ ≠ ((.slice Ao17 t1580.length co17) : Value).ownBlock ∧ some k_ ≠ ((.slice Ao25 t1596.length co25) : Value).ownBlock ∧ some k_ ≠ ((.slice Ao26 t1599.length co26) : Value).ownBlock) (.slice Ao16 t1577.length co16) t1577) ∧ Aside0 (Kd.R Kd.bool 4 wc w.heap.size (fun k_ => some k_ ≠ ((.slice Ao16 t1577.length co16) : Value).ownBlock ∧ some k_ ≠ ((.slice Ao25 t1596.length co25) : Value).ownBlock ∧ some k_ ≠ ((.slice Ao26 t1599.length co26) : Value).ownBlock) (.slice Ao17 t1580.length co17) t1580) ∧ Aside0 (Kd.R k37 37 wc w.heap.size (fun k_ => some k_ ≠ ((.slice Ao19 t1590.length co19) : Value).ownBlock ∧ some k_ ≠ ((.slice Ao14 t1574.length co14) : Value).ownBlock) (.slice Ao22 t1593.length co22) t1593) ∧ Aside0 (Kd.R Kd.bool 4 wc w.heap.size (fun k_ => some k_ ≠ ((.slice Ao16 t1577.length co16) : Value).ownBlock ∧ some k_ ≠ ((.slice Ao17 t1580.length co17) : Value).ownBlock ∧ some k_ ≠ ((.slice Ao26 t1599.length co26) : Value).ownBlock) (.slice Ao25 t1596.length co25) t1596) ∧ Aside0 (Kd.R Kd.bool 4 wc w.heap.size (fun k_ => some k_ ≠ ((.slice Ao16 t1577.length co16) : Value).ownBlock ∧ some k_ ≠ ((.slice Ao17 t1580.length co17) : Value).ownBlock ∧ some k_ ≠ ((.slice Ao25 t1596.length co25) : Value).ownBlock) (.slice Ao26 t1599.length co26) t1599) ∧ Aside0 (wc.heap[gb1589]? = some (.cells #[(.slice Ao14 t1574.length co14), (.slice Ao16 t1577.length co16), (.slice Ao17 t1580.length co17), .int .i64 t1583, .int .i64 t1584, .string t1585, .string t1586, .int .i64 t1587] 81 (0, 0))) ∧ Aside0 (wc.heap[gb1608]? = some (.cells #[(.slice Ao22 t1593.length co22), (.slice Ao25 t1596.length co25), (.slice Ao26 t1599.length co26), .int .i64 t1602, .int .i64 t1603, .string t1604, .string t1605, .int .i64 t1606] 81 (0, 0))) ∧ Aside0 (Below w.heap.size w wc))
  case first =>
   have H := HC9.out
   clear HC9
   replace H := Option.bind_eq_some_iff.mp H
   obtain ⟨t1609, A270, H⟩ := H
   replace H : (if t1609 = true then (laws_FnExactNewConsole.j0 k l0 a1 t1588 t1590 t1607 (t1607 != t1588) t1574 t1577 t1580 t1583 t1584 t1585 t1586 t1587 t1593 t1596 t1599 t1602 t1603 t1604 t1605 t1606) else (laws_FnExactNewConsole.j0 k l0 a1 t1588 t1590 t1607 true t1574 t1577 t1580 t1583 t1584 t1585 t1586 t1587 t1593 t1596 t1599 t1602 t1603 t1604 t1605 t1606)) = some r := H
   have A27 := Aside0.mk A270
   clear A270
   by_cases c28 : t1609 = true
   ·
    subst c28
    have H1 : (laws_FnExactNewConsole.j0 k l0 a1 t1588 t1590 t1607 (t1607 != t1588) t1574 t1577 t1580 t1583 t1584 t1585 t1586 t1587 t1593 t1596 t1599 t1602 t1603 t1604 t1605 t1606) = some r := by rw [if_pos rfl] at H; exact H
    clear H
    have H := H1
    clear H1
    have H' := Aside0.mk H
    clear H
    have hnb29 := NB1608_1589.out
    have hnc29 := NB1589_1608.out
    obtain ⟨hcz30_0, hcz30_1, hcz30_2, hcz30_3, hcz30_4, hcz30_5, hcz30_6, hcz30_7⟩ := cz8_ BK1608.out
    obtain ⟨hfz30_0, hfz30_1, hfz30_2, hfz30_3, hfz30_4, hfz30_5, hfz30_6, hfz30_7⟩ := fz8_ BK1608.out
    obtain ⟨hcz31_0, hcz31_1, hcz31_2, hcz31_3, hcz31_4, hcz31_5, hcz31_6, hcz31_7⟩ := cz8_ BK1589.out
    obtain ⟨hfz31_0, hfz31_1, hfz31_2, hfz31_3, hfz31_4, hfz31_5, hfz31_6, hfz31_7⟩ := fz8_ BK1589.out
    go_wp2_with (first | ((with_reducible refine gate_callee (f := 63) rfl ?_); refine ga_ (some 38) Try.func63 #[.agg #[.slice Ao22 t1593.length co22, .slice Ao25 t1596.length co25, .slice Ao26 t1599.length co26, .int .i64 t1602, .int .i64 t1603, .string t1604, .string t1605, .int .i64 t1606], .agg #[.slice Ao14 t1574.length co14, .slice Ao16 t1577.length co16, .slice Ao17 t1580.length co17, .int .i64 t1583, .int .i64 t1584, .string t1585, .string t1586, .int .i64 t1587]] ?_; (with_reducible refine (laws_eqConsole.calls k _ _ t1593 _ _ t1596 _ _ t1599 t1602 t1603 t1604 t1605 t1606 _ _ t1574 _ _ t1577 _ _ t1580 t1583 t1584 t1585 t1586 t1587 true _ ?side1 ?side2 ?side3 ?side4 ?side5 ?side6 ?side7 ?side8 ?side9 ?side10 ?side11 ?side12 A27.out).mono ?_); (case side1 => refine (Kd.R_reads' (e := 37) (base := w.heap.size) (ok := fun k_ => (((True ∧ some k_ ≠ (.slice Ao11 t1571.length co11 : Value).ownBlock) ∧ some k_ ≠ (.slice Ao14 t1574.length co14 : Value).ownBlock) ∧ some k_ ≠ (.slice Ao19 t1590.length co19 : Value).ownBlock)) (n := t1593.length) (c := co22) ?_).2.2; exact (kg_ HO1595.out BK1608.out)); (case side2 => exact (Kd.R_reads' HO1595.out).2.1); (case side3 => refine (Kd.R_reads' (e := 4) (base := w.heap.size) (ok := fun k_ => ((some k_ ≠ (.slice Ao26 t1599.length co26 : Value).ownBlock ∧ some k_ ≠ (.slice Ao16 t1577.length co16 : Value).ownBlock) ∧ some k_ ≠ (.slice Ao17 t1580.length co17 : Value).ownBlock)) (n := t1596.length) (c := co25) ?_).2.2; exact (kg_ HO1598.out BK1608.out)); (case side4 => exact (Kd.R_reads' HO1598.out).2.1); (case side5 => refine (Kd.R_reads' (e := 4) (base := w.heap.size) (ok := fun k_ => ((some k_ ≠ (.slice Ao25 t1596.length co25 : Value).ownBlock ∧ some k_ ≠ (.slice Ao16 t1577.length co16 : Value).ownBlock) ∧ some k_ ≠ (.slice Ao17 t1580.length co17 : Value).ownBlock)) (n := t1599.length) (c := co26) ?_).2.2; exact (kg_ HO1601.out BK1608.out)); (case side6 => exact (Kd.R_reads' HO1601.out).2.1); (case side7 => refine (Kd.R_reads' (e := 37) (base := w.heap.size) (ok := fun k_ => (((True ∧ some k_ ≠ (.slice Ao11 t1571.length co11 : Value).ownBlock) ∧ some k_ ≠ (.slice Ao19 t1590.length co19 : Value).ownBlock) ∧ some k_ ≠ (.slice Ao22 t1593.length co22 : Value).ownBlock)) (n := t1574.length) (c := co14) ?_).2.2; exact (kg_ HO1576.out BK1608.out)); (case side8 => exact (Kd.R_reads' HO1576.out).2.1); (case side9 => refine (Kd.R_reads' (e := 4) (base := w.heap.size) (ok := fun k_ => ((some k_ ≠ (.slice Ao17 t1580.length co17 : Value).ownBlock ∧ some k_ ≠ (.slice Ao25 t1596.length co25 : Value).ownBlock) ∧ some k_ ≠ (.slice Ao26 t1599.length co26 : Value).ownBlock)) (n := t1577.length) (c := co16) ?_).2.2; exact (kg_ HO1579.out BK1608.out)); (case side10 => exact (Kd.R_reads' HO1579.out).2.1); (case side11 => refine (Kd.R_reads' (e := 4) (base := w.heap.size) (ok := fun k_ => ((some k_ ≠ (.slice Ao16 t1577.length co16 : Value).ownBlock ∧ some k_ ≠ (.slice Ao25 t1596.length co25 : Value).ownBlock) ∧ some k_ ≠ (.slice Ao26 t1599.length co26 : Value).ownBlock)) (n := t1580.length) (c := co17) ?_).2.2; exact (kg_ HO1582.out BK1608.out)); (case side12 => exact (Kd.R_reads' HO1582.out).2.1); rintro e w32 ⟨rfl, hb⟩; refine ⟨_, rfl, ?_⟩; replace HO1573 := Aside0.mk (Kd.R_below (kg_ HO1573.out BK1608.out) hb); replace HO1576 := Aside0.mk (Kd.R_below (kg_ HO1576.out BK1608.out) hb); replace HO1579 := Aside0.mk (Kd.R_below (kg_ HO1579.out BK1608.out) hb); replace HO1582 := Aside0.mk (Kd.R_below (kg_ HO1582.out BK1608.out) hb); replace HO1592 := Aside0.mk (Kd.R_below (kg_ HO1592.out BK1608.out) hb); replace HO1595 := Aside0.mk (Kd.R_below (kg_ HO1595.out BK1608.out) hb); replace HO1598 := Aside0.mk (Kd.R_below (kg_ HO1598.out BK1608.out) hb); replace HO1601 := Aside0.mk (Kd.R_below (kg_ HO1601.out BK1608.out) hb); replace BK1589 := Aside0.mk (blk_below (g := gb1589) (o := .cells #[.slice Ao14 t1574.length co14, .slice Ao16 t1577.length co16, .slice Ao17 t1580.length co17, .int .i64 t1583, .int .i64 t1584, .string t1585, .string t1586, .int .i64 t1587] 81 (0, 0)) (by (with_reducible repeat (first | refine blk_drewN ?_ _ | refine blk_drew ?_ | refine blk_alloc ?_ _)); refine blk_far ?_ NB1589_1608.out _; (with_reducible repeat (first | refine blk_drewN ?_ _ | refine blk_drew ?_ | refine blk_alloc ?_ _)); refine blk_far ?_ NB1589_1608.out _; (with_reducible repeat (first | refine blk_drewN ?_ _ | refine blk_drew ?_ | refine blk_alloc ?_ _)); refine blk_far ?_ NB1589_1608.out _; (with_reducible repeat (first | refine blk_drewN ?_ _ | refine blk_drew ?_ | refine blk_alloc ?_ _)); refine blk_far ?_ NB1589_1608.out _; (with_reducible repeat (first | refine blk_drewN ?_ _ | refine blk_drew ?_ | refine blk_alloc ?_ _)); refine blk_far ?_ NB1589_1608.out _; (with_reducible repeat (first | refine blk_drewN ?_ _ | refine blk_drew ?_ | refine blk_alloc ?_ _)); refine blk_far ?_ NB1589_1608.out _; (with_reducible repeat (first | refine blk_drewN ?_ _ | refine blk_drew ?_ | refine blk_alloc ?_ _)); refine blk_far ?_ NB1589_1608.out _; (with_reducible repeat (first | refine blk_drewN ?_ _ | refine blk_drew ?_ | refine blk_alloc ?_ _)); refine blk_far ?_ NB1589_1608.out _; (with_reducible repeat (first | refine blk_drewN ?_ _ | refine blk_drew ?_ | refine blk_alloc ?_ _)); exact BK1589.out) hb); replace BK1608 := Aside0.mk (blk_below (g := gb1608) (o := .cells #[.slice Ao22 t1593.length co22, .slice Ao25 t1596.length co25, .slice Ao26 t1599.length co26, .int .i64 t1602, .int .i64 t1603, .string t1604, .string t1605, .int .i64 t1606] 81 (0, 0)) (by (with_reducible repeat (first | refine blk_drewN ?_ _ | refine blk_drew ?_ | refine blk_alloc ?_ _)); refine blk_put (cs := #[.slice Ao22 t1593.length co22, .slice Ao25 t1596.length co25, .slice Ao26 t1599.length co26, .int .i64 t1602, .int .i64 t1603, .string t1604, .string t1605, .int .i64 0]) ?_ 7 _ rfl; (with_reducible repeat (first | refine blk_drewN ?_ _ | refine blk_drew ?_ | refine blk_alloc ?_ _)); refine blk_put (cs := #[.slice Ao22 t1593.length co22, .slice Ao25 t1596.length co25, .slice Ao26 t1599.length co26, .int .i64 t1602, .int .i64 t1603, .string t1604, .string (⟨#[]⟩ : ByteArray), .int .i64 0]) ?_ 6 _ rfl; (with_reducible repeat (first | refine blk_drewN ?_ _ | refine blk_drew ?_ | refine blk_alloc ?_ _)); refine blk_put (cs := #[.slice Ao22 t1593.length co22, .slice Ao25 t1596.length co25, .slice Ao26 t1599.length co26, .int .i64 t1602, .int .i64 t1603, .string (⟨#[]⟩ : ByteArray), .string (⟨#[]⟩ : ByteArray), .int .i64 0]) ?_ 5 _ rfl; (with_reducible repeat (first | refine blk_drewN ?_ _ | refine blk_drew ?_ | refine blk_alloc ?_ _)); refine blk_put (cs := #[.slice Ao22 t1593.length co22, .slice Ao25 t1596.length co25, .slice Ao26 t1599.length co26, .int .i64 t1602, .int .i64 0, .string (⟨#[]⟩ : ByteArray), .string (⟨#[]⟩ : ByteArray), .int .i64 0]) ?_ 4 _ rfl; (with_reducible repeat (first | refine blk_drewN ?_ _ | refine blk_drew ?_ | refine blk_alloc ?_ _)); refine blk_put (cs := #[.slice Ao22 t1593.length co22, .slice Ao25 t1596.length co25, .slice Ao26 t1599.length co26, .int .i64 0, .int .i64 0, .string (⟨#[]⟩ : ByteArray), .string (⟨#[]⟩ : ByteArray), .int .i64 0]) ?_ 3 _ rfl; (with_reducible repeat (first | refine blk_drewN ?_ _ | refine blk_drew ?_ | refine blk_alloc ?_ _)); refine blk_put (cs := #[.slice Ao22 t1593.length co22, .slice Ao25 t1596.length co25, .slice none 0 0, .int .i64 0, .int .i64 0, .string (⟨#[]⟩ : ByteArray), .string (⟨#[]⟩ : ByteArray), .int .i64 0]) ?_ 2 _ rfl; (with_reducible repeat (first | refine blk_drewN ?_ _ | refine blk_drew ?_ | refine blk_alloc ?_ _)); refine blk_put (cs := #[.slice Ao22 t1593.length co22, .slice none 0 0, .slice none 0 0, .int .i64 0, .int .i64 0, .string (⟨#[]⟩ : ByteArray), .string (⟨#[]⟩ : ByteArray), .int .i64 0]) ?_ 1 _ rfl; (with_reducible repeat (first | refine blk_drewN ?_ _ | refine blk_drew ?_ | refine blk_alloc ?_ _)); refine blk_put (cs := #[.slice none 0 0, .slice none 0 0, .slice none 0 0, .int .i64 0, .int .i64 0, .string (⟨#[]⟩ : ByteArray), .string (⟨#[]⟩ : ByteArray), .int .i64 0]) ?_ 0 _ rfl; (with_reducible repeat (first | refine blk_drewN ?_ _ | refine blk_drew ?_ | refine blk_alloc ?_ _)); exact BK1608.out) hb); replace HB := Aside0.mk (below_step (lb2_ HB.out GE1589.out GE1608.out) hb); (try clear hb); (try clear hb2); (try clear hk); (try clear hi)))
    go_meet
    case rel => exact ⟨_, ((t1607 != t1588)), (by first | rfl | (simp; done) | (simp [*]; done)), H', ⟨by first | omega | exact Nat.le_refl _⟩, ⟨krm_ HO1592.out (fun _ hk => ⟨hk.1.2, hk.2⟩)⟩, ⟨krm_ HO1576.out (fun _ hk => ⟨hk.1.2, hk.2⟩)⟩, ⟨krm_ HO1579.out (fun _ hk => ⟨hk.1.1, ⟨hk.1.2, hk.2⟩⟩)⟩, ⟨krm_ HO1582.out (fun _ hk => ⟨hk.1.1, ⟨hk.1.2, hk.2⟩⟩)⟩, ⟨krm_ HO1595.out (fun _ hk => ⟨hk.2, hk.1.2⟩)⟩, ⟨krm_ HO1598.out (fun _ hk => ⟨hk.1.2, ⟨hk.2, hk.1.1⟩⟩)⟩, ⟨krm_ HO1601.out (fun _ hk => ⟨hk.1.2, ⟨hk.2, hk.1.1⟩⟩)⟩, ⟨bk_ BK1589.out⟩, ⟨bk_ BK1608.out⟩, ⟨lb2_ HB.out GE1589.out GE1608.out⟩⟩
   ·
    replace c28 := Bool.eq_false_iff.mpr c28
    subst c28
    have H1 : (laws_FnExactNewConsole.j0 k l0 a1 t1588 t1590 t1607 true t1574 t1577 t1580 t1583 t1584 t1585 t1586 t1587 t1593 t1596 t1599 t1602 t1603 t1604 t1605 t1606) = some r := by rw [if_neg (show ¬ (false = true) by decide)] at H; exact H
    clear H
    have H := H1
    clear H1
    have H' := Aside0.mk H
    clear H
    have hnb33 := NB1608_1589.out
    have hnc33 := NB1589_1608.out
    obtain ⟨hcz34_0, hcz34_1, hcz34_2, hcz34_3, hcz34_4, hcz34_5, hcz34_6, hcz34_7⟩ := cz8_ BK1608.out
    obtain ⟨hfz34_0, hfz34_1, hfz34_2, hfz34_3, hfz34_4, hfz34_5, hfz34_6, hfz34_7⟩ := fz8_ BK1608.out
    obtain ⟨hcz35_0, hcz35_1, hcz35_2, hcz35_3, hcz35_4, hcz35_5, hcz35_6, hcz35_7⟩ := cz8_ BK1589.out
    obtain ⟨hfz35_0, hfz35_1, hfz35_2, hfz35_3, hfz35_4, hfz35_5, hfz35_6, hfz35_7⟩ := fz8_ BK1589.out
    go_wp2_with (first | ((with_reducible refine gate_callee (f := 63) rfl ?_); refine ga_ (some 38) Try.func63 #[.agg #[.slice Ao22 t1593.length co22, .slice Ao25 t1596.length co25, .slice Ao26 t1599.length co26, .int .i64 t1602, .int .i64 t1603, .string t1604, .string t1605, .int .i64 t1606], .agg #[.slice Ao14 t1574.length co14, .slice Ao16 t1577.length co16, .slice Ao17 t1580.length co17, .int .i64 t1583, .int .i64 t1584, .string t1585, .string t1586, .int .i64 t1587]] ?_; (with_reducible refine (laws_eqConsole.calls k _ _ t1593 _ _ t1596 _ _ t1599 t1602 t1603 t1604 t1605 t1606 _ _ t1574 _ _ t1577 _ _ t1580 t1583 t1584 t1585 t1586 t1587 false _ ?side1 ?side2 ?side3 ?side4 ?side5 ?side6 ?side7 ?side8 ?side9 ?side10 ?side11 ?side12 A27.out).mono ?_); (case side1 => refine (Kd.R_reads' (e := 37) (base := w.heap.size) (ok := fun k_ => (((True ∧ some k_ ≠ (.slice Ao11 t1571.length co11 : Value).ownBlock) ∧ some k_ ≠ (.slice Ao14 t1574.length co14 : Value).ownBlock) ∧ some k_ ≠ (.slice Ao19 t1590.length co19 : Value).ownBlock)) (n := t1593.length) (c := co22) ?_).2.2; exact (kg_ HO1595.out BK1608.out)); (case side2 => exact (Kd.R_reads' HO1595.out).2.1); (case side3 => refine (Kd.R_reads' (e := 4) (base := w.heap.size) (ok := fun k_ => ((some k_ ≠ (.slice Ao26 t1599.length co26 : Value).ownBlock ∧ some k_ ≠ (.slice Ao16 t1577.length co16 : Value).ownBlock) ∧ some k_ ≠ (.slice Ao17 t1580.length co17 : Value).ownBlock)) (n := t1596.length) (c := co25) ?_).2.2; exact (kg_ HO1598.out BK1608.out)); (case side4 => exact (Kd.R_reads' HO1598.out).2.1); (case side5 => refine (Kd.R_reads' (e := 4) (base := w.heap.size) (ok := fun k_ => ((some k_ ≠ (.slice Ao25 t1596.length co25 : Value).ownBlock ∧ some k_ ≠ (.slice Ao16 t1577.length co16 : Value).ownBlock) ∧ some k_ ≠ (.slice Ao17 t1580.length co17 : Value).ownBlock)) (n := t1599.length) (c := co26) ?_).2.2; exact (kg_ HO1601.out BK1608.out)); (case side6 => exact (Kd.R_reads' HO1601.out).2.1); (case side7 => refine (Kd.R_reads' (e := 37) (base := w.heap.size) (ok := fun k_ => (((True ∧ some k_ ≠ (.slice Ao11 t1571.length co11 : Value).ownBlock) ∧ some k_ ≠ (.slice Ao19 t1590.length co19 : Value).ownBlock) ∧ some k_ ≠ (.slice Ao22 t1593.length co22 : Value).ownBlock)) (n := t1574.length) (c := co14) ?_).2.2; exact (kg_ HO1576.out BK1608.out)); (case side8 => exact (Kd.R_reads' HO1576.out).2.1); (case side9 => refine (Kd.R_reads' (e := 4) (base := w.heap.size) (ok := fun k_ => ((some k_ ≠ (.slice Ao17 t1580.length co17 : Value).ownBlock ∧ some k_ ≠ (.slice Ao25 t1596.length co25 : Value).ownBlock) ∧ some k_ ≠ (.slice Ao26 t1599.length co26 : Value).ownBlock)) (n := t1577.length) (c := co16) ?_).2.2; exact (kg_ HO1579.out BK1608.out)); (case side10 => exact (Kd.R_reads' HO1579.out).2.1); (case side11 => refine (Kd.R_reads' (e := 4) (base := w.heap.size) (ok := fun k_ => ((some k_ ≠ (.slice Ao16 t1577.length co16 : Value).ownBlock ∧ some k_ ≠ (.slice Ao25 t1596.length co25 : Value).ownBlock) ∧ some k_ ≠ (.slice Ao26 t1599.length co26 : Value).ownBlock)) (n := t1580.length) (c := co17) ?_).2.2; exact (kg_ HO1582.out BK1608.out)); (case side12 => exact (Kd.R_reads' HO1582.out).2.1); rintro e w36 ⟨rfl, hb⟩; refine ⟨_, rfl, ?_⟩; replace HO1573 := Aside0.mk (Kd.R_below (kg_ HO1573.out BK1608.out) hb); replace HO1576 := Aside0.mk (Kd.R_below (kg_ HO1576.out BK1608.out) hb); replace HO1579 := Aside0.mk (Kd.R_below (kg_ HO1579.out BK1608.out) hb); replace HO1582 := Aside0.mk (Kd.R_below (kg_ HO1582.out BK1608.out) hb); replace HO1592 := Aside0.mk (Kd.R_below (kg_ HO1592.out BK1608.out) hb); replace HO1595 := Aside0.mk (Kd.R_below (kg_ HO1595.out BK1608.out) hb); replace HO1598 := Aside0.mk (Kd.R_below (kg_ HO1598.out BK1608.out) hb); replace HO1601 := Aside0.mk (Kd.R_below (kg_ HO1601.out BK1608.out) hb); replace BK1589 := Aside0.mk (blk_below (g := gb1589) (o := .cells #[.slice Ao14 t1574.length co14, .slice Ao16 t1577.length co16, .slice Ao17 t1580.length co17, .int .i64 t1583, .int .i64 t1584, .string t1585, .string t1586, .int .i64 t1587] 81 (0, 0)) (by (with_reducible repeat (first | refine blk_drewN ?_ _ | refine blk_drew ?_ | refine blk_alloc ?_ _)); refine blk_far ?_ NB1589_1608.out _; (with_reducible repeat (first | refine blk_drewN ?_ _ | refine blk_drew ?_ | refine blk_alloc ?_ _)); refine blk_far ?_ NB1589_1608.out _; (with_reducible repeat (first | refine blk_drewN ?_ _ | refine blk_drew ?_ | refine blk_alloc ?_ _)); refine blk_far ?_ NB1589_1608.out _; (with_reducible repeat (first | refine blk_drewN ?_ _ | refine blk_drew ?_ | refine blk_alloc ?_ _)); refine blk_far ?_ NB1589_1608.out _; (with_reducible repeat (first | refine blk_drewN ?_ _ | refine blk_drew ?_ | refine blk_alloc ?_ _)); refine blk_far ?_ NB1589_1608.out _; (with_reducible repeat (first | refine blk_drewN ?_ _ | refine blk_drew ?_ | refine blk_alloc ?_ _)); refine blk_far ?_ NB1589_1608.out _; (with_reducible repeat (first | refine blk_drewN ?_ _ | refine blk_drew ?_ | refine blk_alloc ?_ _)); refine blk_far ?_ NB1589_1608.out _; (with_reducible repeat (first | refine blk_drewN ?_ _ | refine blk_drew ?_ | refine blk_alloc ?_ _)); refine blk_far ?_ NB1589_1608.out _; (with_reducible repeat (first | refine blk_drewN ?_ _ | refine blk_drew ?_ | refine blk_alloc ?_ _)); exact BK1589.out) hb); replace BK1608 := Aside0.mk (blk_below (g := gb1608) (o := .cells #[.slice Ao22 t1593.length co22, .slice Ao25 t1596.length co25, .slice Ao26 t1599.length co26, .int .i64 t1602, .int .i64 t1603, .string t1604, .string t1605, .int .i64 t1606] 81 (0, 0)) (by (with_reducible repeat (first | refine blk_drewN ?_ _ | refine blk_drew ?_ | refine blk_alloc ?_ _)); refine blk_put (cs := #[.slice Ao22 t1593.length co22, .slice Ao25 t1596.length co25, .slice Ao26 t1599.length co26, .int .i64 t1602, .int .i64 t1603, .string t1604, .string t1605, .int .i64 0]) ?_ 7 _ rfl; (with_reducible repeat (first | refine blk_drewN ?_ _ | refine blk_drew ?_ | refine blk_alloc ?_ _)); refine blk_put (cs := #[.slice Ao22 t1593.length co22, .slice Ao25 t1596.length co25, .slice Ao26 t1599.length co26, .int .i64 t1602, .int .i64 t1603, .string t1604, .string (⟨#[]⟩ : ByteArray), .int .i64 0]) ?_ 6 _ rfl; (with_reducible repeat (first | refine blk_drewN ?_ _ | refine blk_drew ?_ | refine blk_alloc ?_ _)); refine blk_put (cs := #[.slice Ao22 t1593.length co22, .slice Ao25 t1596.length co25, .slice Ao26 t1599.length co26, .int .i64 t1602, .int .i64 t1603, .string (⟨#[]⟩ : ByteArray), .string (⟨#[]⟩ : ByteArray), .int .i64 0]) ?_ 5 _ rfl; (with_reducible repeat (first | refine blk_drewN ?_ _ | refine blk_drew ?_ | refine blk_alloc ?_ _)); refine blk_put (cs := #[.slice Ao22 t1593.length co22, .slice Ao25 t1596.length co25, .slice Ao26 t1599.length co26, .int .i64 t1602, .int .i64 0, .string (⟨#[]⟩ : ByteArray), .string (⟨#[]⟩ : ByteArray), .int .i64 0]) ?_ 4 _ rfl; (with_reducible repeat (first | refine blk_drewN ?_ _ | refine blk_drew ?_ | refine blk_alloc ?_ _)); refine blk_put (cs := #[.slice Ao22 t1593.length co22, .slice Ao25 t1596.length co25, .slice Ao26 t1599.length co26, .int .i64 0, .int .i64 0, .string (⟨#[]⟩ : ByteArray), .string (⟨#[]⟩ : ByteArray), .int .i64 0]) ?_ 3 _ rfl; (with_reducible repeat (first | refine blk_drewN ?_ _ | refine blk_drew ?_ | refine blk_alloc ?_ _)); refine blk_put (cs := #[.slice Ao22 t1593.length co22, .slice Ao25 t1596.length co25, .slice none 0 0, .int .i64 0, .int .i64 0, .string (⟨#[]⟩ : ByteArray), .string (⟨#[]⟩ : ByteArray), .int .i64 0]) ?_ 2 _ rfl; (with_reducible repeat (first | refine blk_drewN ?_ _ | refine blk_drew ?_ | refine blk_alloc ?_ _)); refine blk_put (cs := #[.slice Ao22 t1593.length co22, .slice none 0 0, .slice none 0 0, .int .i64 0, .int .i64 0, .string (⟨#[]⟩ : ByteArray), .string (⟨#[]⟩ : ByteArray), .int .i64 0]) ?_ 1 _ rfl; (with_reducible repeat (first | refine blk_drewN ?_ _ | refine blk_drew ?_ | refine blk_alloc ?_ _)); refine blk_put (cs := #[.slice none 0 0, .slice none 0 0, .slice none 0 0, .int .i64 0, .int .i64 0, .string (⟨#[]⟩ : ByteArray), .string (⟨#[]⟩ : ByteArray), .int .i64 0]) ?_ 0 _ rfl; (with_reducible repeat (first | refine blk_drewN ?_ _ | refine blk_drew ?_ | refine blk_alloc ?_ _)); exact BK1608.out) hb); replace HB := Aside0.mk (below_step (lb2_ HB.out GE1589.out GE1608.out) hb); (try clear hb); (try clear hb2); (try clear hk); (try clear hi)))
    go_meet
    case rel => exact ⟨_, (true), (by first | rfl | (simp; done) | (simp [*]; done)), H', ⟨by first | omega | exact Nat.le_refl _⟩, ⟨krm_ HO1592.out (fun _ hk => ⟨hk.1.2, hk.2⟩)⟩, ⟨krm_ HO1576.out (fun _ hk => ⟨hk.1.2, hk.2⟩)⟩, ⟨krm_ HO1579.out (fun _ hk => ⟨hk.1.1, ⟨hk.1.2, hk.2⟩⟩)⟩, ⟨krm_ HO1582.out (fun _ hk => ⟨hk.1.1, ⟨hk.1.2, hk.2⟩⟩)⟩, ⟨krm_ HO1595.out (fun _ hk => ⟨hk.2, hk.1.2⟩)⟩, ⟨krm_ HO1598.out (fun _ hk => ⟨hk.1.2, ⟨hk.2, hk.1.1⟩⟩)⟩, ⟨krm_ HO1601.out (fun _ hk => ⟨hk.1.2, ⟨hk.2, hk.1.1⟩⟩)⟩, ⟨bk_ BK1589.out⟩, ⟨bk_ BK1608.out⟩, ⟨lb2_ HB.out GE1589.out GE1608.out⟩⟩
  case rest =>
   clear HC9
   try clear c1
   try clear c2
   try clear p2
   try clear c3
   try clear c4
   try clear c4b0
   try clear c6
   try clear c14
   try clear c23
   try clear c28
   try clear c29
   try clear c33
   try clear hcz15_0 hcz15_1 hcz15_2 hcz15_3 hcz15_4 hcz15_5 hcz15_6 hcz15_7
   try clear hcz24_0 hcz24_1 hcz24_2 hcz24_3 hcz24_4 hcz24_5 hcz24_6 hcz24_7
   try clear hcz30_0 hcz30_1 hcz30_2 hcz30_3 hcz30_4 hcz30_5 hcz30_6 hcz30_7
   try clear hcz31_0 hcz31_1 hcz31_2 hcz31_3 hcz31_4 hcz31_5 hcz31_6 hcz31_7
   try clear hcz34_0 hcz34_1 hcz34_2 hcz34_3 hcz34_4 hcz34_5 hcz34_6 hcz34_7
   try clear hcz35_0 hcz35_1 hcz35_2 hcz35_3 hcz35_4 hcz35_5 hcz35_6 hcz35_7
   try clear hfz15_0 hfz15_1 hfz15_2 hfz15_3 hfz15_4 hfz15_5 hfz15_6 hfz15_7
   try clear hfz24_0 hfz24_1 hfz24_2 hfz24_3 hfz24_4 hfz24_5 hfz24_6 hfz24_7
   try clear hfz30_0 hfz30_1 hfz30_2 hfz30_3 hfz30_4 hfz30_5 hfz30_6 hfz30_7
   try clear hfz31_0 hfz31_1 hfz31_2 hfz31_3 hfz31_4 hfz31_5 hfz31_6 hfz31_7
   try clear hfz34_0 hfz34_1 hfz34_2 hfz34_3 hfz34_4 hfz34_5 hfz34_6 hfz34_7
   try clear hfz35_0 hfz35_1 hfz35_2 hfz35_3 hfz35_4 hfz35_5 hfz35_6 hfz35_7
   obtain ⟨kq, x44_8, rfl, HA, HJ8, HO_8, HO_1590000, HO_1590001, HO_1590002, HO_1609000, HO_1609001, HO_1609002, BK1589, BK1608, HB⟩ := hcut
   cases kq with
   | zero => exact absurd HA.out (by simp [laws_FnExactNewConsole.j0])
   | succ kj8 =>
    have H := HA.out
    clear HA
    simp only [laws_FnExactNewConsole.j0] at H
    by_cases c37 : x44_8 = true
    ·
     subst c37
     have H1 : (none) = some r := by rw [if_pos rfl] at H; exact H
     clear H
     have H := H1
     clear H1
     exact absurd H (by simp)
    ·
     replace c37 := Bool.eq_false_iff.mpr c37
     subst c37
     have H1 : ((laws_toLegS.f kj8 l0).bind fun t1610 => ((laws_eqLegS.f kj8 t1590 t1610).bind fun t1613 => (if t1613 = true then ((laws_markLegS.f kj8 t1590 1).bind fun bt1614 => (if bt1614.1 < 0 then (laws_FnExactNewConsole.j1 kj8 l0 a1 t1588 true t1574 t1577 t1580 t1583 t1584 t1585 t1586 t1587 t1593 t1596 t1599 t1602 t1603 t1604 t1605 t1606) else ((laws_eqConsole.f kj8 t1593 t1596 t1599 t1602 t1603 t1604 t1605 t1606 t1574 t1577 t1580 t1583 t1584 t1585 t1586 t1587).bind fun t1616 => (if t1616 = true then (laws_FnExactNewConsole.j1 kj8 l0 a1 t1588 (t1607 != t1588) t1574 t1577 t1580 t1583 t1584 t1585 t1586 t1587 t1593 t1596 t1599 t1602 t1603 t1604 t1605 t1606) else (laws_FnExactNewConsole.j1 kj8 l0 a1 t1588 true t1574 t1577 t1580 t1583 t1584 t1585 t1586 t1587 t1593 t1596 t1599 t1602 t1603 t1604 t1605 t1606))))) else (none)))) = some r := by rw [if_neg (show ¬ (false = true) by decide)] at H; exact H
     clear H
     have H := H1
     clear H1
     replace H := Option.bind_eq_some_iff.mp H
     obtain ⟨t1610, A380, H⟩ := H
     replace H : ((laws_eqLegS.f kj8 t1590 t1610).bind fun t1613 => (if t1613 = true then ((laws_markLegS.f kj8 t1590 1).bind fun bt1614 => (if bt1614.1 < 0 then (laws_FnExactNewConsole.j1 kj8 l0 a1 t1588 true t1574 t1577 t1580 t1583 t1584 t1585 t1586 t1587 t1593 t1596 t1599 t1602 t1603 t1604 t1605 t1606) else ((laws_eqConsole.f kj8 t1593 t1596 t1599 t1602 t1603 t1604 t1605 t1606 t1574 t1577 t1580 t1583 t1584 t1585 t1586 t1587).bind fun t1616 => (if t1616 = true then (laws_FnExactNewConsole.j1 kj8 l0 a1 t1588 (t1607 != t1588) t1574 t1577 t1580 t1583 t1584 t1585 t1586 t1587 t1593 t1596 t1599 t1602 t1603 t1604 t1605 t1606) else (laws_FnExactNewConsole.j1 kj8 l0 a1 t1588 true t1574 t1577 t1580 t1583 t1584 t1585 t1586 t1587 t1593 t1596 t1599 t1602 t1603 t1604 t1605 t1606))))) else (none))) = some r := H
     have A38 := Aside0.mk A380
     clear A380
     replace H := Option.bind_eq_some_iff.mp H
     obtain ⟨t1613, A390, H⟩ := H
     replace H : (if t1613 = true then ((laws_markLegS.f kj8 t1590 1).bind fun bt1614 => (if bt1614.1 < 0 then (laws_FnExactNewConsole.j1 kj8 l0 a1 t1588 true t1574 t1577 t1580 t1583 t1584 t1585 t1586 t1587 t1593 t1596 t1599 t1602 t1603 t1604 t1605 t1606) else ((laws_eqConsole.f kj8 t1593 t1596 t1599 t1602 t1603 t1604 t1605 t1606 t1574 t1577 t1580 t1583 t1584 t1585 t1586 t1587).bind fun t1616 => (if t1616 = true then (laws_FnExactNewConsole.j1 kj8 l0 a1 t1588 (t1607 != t1588) t1574 t1577 t1580 t1583 t1584 t1585 t1586 t1587 t1593 t1596 t1599 t1602 t1603 t1604 t1605 t1606) else (laws_FnExactNewConsole.j1 kj8 l0 a1 t1588 true t1574 t1577 t1580 t1583 t1584 t1585 t1586 t1587 t1593 t1596 t1599 t1602 t1603 t1604 t1605 t1606))))) else (none)) = some r := H
     have A39 := Aside0.mk A390
     clear A390
     by_cases c40 : t1613 = true
     ·
      subst c40
      have H1 : ((laws_markLegS.f kj8 t1590 1).bind fun bt1614 => (if bt1614.1 < 0 then (laws_FnExactNewConsole.j1 kj8 l0 a1 t1588 true t1574 t1577 t1580 t1583 t1584 t1585 t1586 t1587 t1593 t1596 t1599 t1602 t1603 t1604 t1605 t1606) else ((laws_eqConsole.f kj8 t1593 t1596 t1599 t1602 t1603 t1604 t1605 t1606 t1574 t1577 t1580 t1583 t1584 t1585 t1586 t1587).bind fun t1616 => (if t1616 = true then (laws_FnExactNewConsole.j1 kj8 l0 a1 t1588 (t1607 != t1588) t1574 t1577 t1580 t1583 t1584 t1585 t1586 t1587 t1593 t1596 t1599 t1602 t1603 t1604 t1605 t1606) else (laws_FnExactNewConsole.j1 kj8 l0 a1 t1588 true t1574 t1577 t1580 t1583 t1584 t1585 t1586 t1587 t1593 t1596 t1599 t1602 t1603 t1604 t1605 t1606))))) = some r := by rw [if_pos rfl] at H; exact H
      clear H
      have H := H1
      clear H1
      replace H := Option.bind_eq_some_iff.mp H
      obtain ⟨⟨t1614, t1615⟩, A410, H⟩ := H
      replace H : (if t1614 < 0 then (laws_FnExactNewConsole.j1 kj8 l0 a1 t1588 true t1574 t1577 t1580 t1583 t1584 t1585 t1586 t1587 t1593 t1596 t1599 t1602 t1603 t1604 t1605 t1606) else ((laws_eqConsole.f kj8 t1593 t1596 t1599 t1602 t1603 t1604 t1605 t1606 t1574 t1577 t1580 t1583 t1584 t1585 t1586 t1587).bind fun t1616 => (if t1616 = true then (laws_FnExactNewConsole.j1 kj8 l0 a1 t1588 (t1607 != t1588) t1574 t1577 t1580 t1583 t1584 t1585 t1586 t1587 t1593 t1596 t1599 t1602 t1603 t1604 t1605 t1606) else (laws_FnExactNewConsole.j1 kj8 l0 a1 t1588 true t1574 t1577 t1580 t1583 t1584 t1585 t1586 t1587 t1593 t1596 t1599 t1602 t1603 t1604 t1605 t1606)))) = some r := H
      have A41 := Aside0.mk A410
      clear A410
      have HC42 := Aside0.mk H
      clear H
      go_upto_region 14 with (first | ((with_reducible refine gate_callee (f := 38) rfl ?_); refine ga_ (some 47) Try.func38 #[.slice A0 l0.length c0] ?_; (with_reducible refine (laws_toLegS.calls kj8 _ _ l0 t1610 _ ?side1 ?side2 A38.out).mono ?_); (case side1 => exact kc_ (Kd.C_below HR0.out HB.out)); (case side2 => exact HC0.out); rintro e w43 ⟨v1611, rfl, ho0, hb⟩; refine ⟨_, rfl, ?_⟩; replace HO_1590001 := Aside0.mk (Kd.R_below (kr_ HO_1590001.out) hb); replace HO_1590002 := Aside0.mk (Kd.R_below (kr_ HO_1590002.out) hb); replace HO_1609001 := Aside0.mk (Kd.R_below (kr_ HO_1609001.out) hb); replace HO_1609002 := Aside0.mk (Kd.R_below (kr_ HO_1609002.out) hb); have HO1612 := Aside0.mk (Kd.R_lower (Kd.R_new' (Kd.R_new' (Kd.R_new' ho0 (Kd.R_lt (kr_ HO_8.out))) (Kd.R_lt (kr_ HO_1590000.out))) (Kd.R_lt (kr_ HO_1609000.out))) (below_size (lb2_ HB.out GE1589.out GE1608.out))); replace HO_8 := Aside0.mk (Kd.R_elder' (kr_ HO_8.out) (Kd.R_base ho0) hb); replace HO_1590000 := Aside0.mk (Kd.R_elder' (kr_ HO_1590000.out) (Kd.R_base ho0) hb); replace HO_1609000 := Aside0.mk (Kd.R_elder' (kr_ HO_1609000.out) (Kd.R_base ho0) hb); replace BK1589 := Aside0.mk (bb_ (bk_ BK1589.out) hb); replace BK1608 := Aside0.mk (bb_ (bk_ BK1608.out) hb); replace HB := Aside0.mk (below_step (lb2_ HB.out GE1589.out GE1608.out) hb); (try clear hb); (try clear hb2); (try clear hk); (try clear hi); (try clear ho0); obtain ⟨Ao44, co44, eo44⟩ := Kd.R_slice HO1612.out; subst eo44) | ((with_reducible refine gate_callee (f := 39) rfl ?_); refine ga_ (some 48) Try.func39 #[.slice Ao19 t1590.length co19, .slice Ao44 t1610.length co44] ?_; (with_reducible refine (laws_eqLegS.calls kj8 _ _ t1590 _ _ t1610 true _ ?side1 ?side2 ?side3 ?side4 A39.out).mono ?_); (case side1 => exact kc_ (Kd.R_reads' HO_8.out).2.2); (case side2 => exact (Kd.R_reads' HO_8.out).2.1); (case side3 => exact kc_ (Kd.R_reads' HO1612.out).2.2); (case side4 => exact (Kd.R_reads' HO1612.out).2.1); rintro e w45 ⟨rfl, hb⟩; refine ⟨_, rfl, ?_⟩; replace HO_8 := Aside0.mk (Kd.R_below (kr_ HO_8.out) hb); replace HO_1590000 := Aside0.mk (Kd.R_below (kr_ HO_1590000.out) hb); replace HO_1590001 := Aside0.mk (Kd.R_below (kr_ HO_1590001.out) hb); replace HO_1590002 := Aside0.mk (Kd.R_below (kr_ HO_1590002.out) hb); replace HO_1609000 := Aside0.mk (Kd.R_below (kr_ HO_1609000.out) hb); replace HO_1609001 := Aside0.mk (Kd.R_below (kr_ HO_1609001.out) hb); replace HO_1609002 := Aside0.mk (Kd.R_below (kr_ HO_1609002.out) hb); replace HO1612 := Aside0.mk (Kd.R_below (kr_ HO1612.out) hb); replace BK1589 := Aside0.mk (bb_ (bk_ BK1589.out) hb); replace BK1608 := Aside0.mk (bb_ (bk_ BK1608.out) hb); replace HB := Aside0.mk (below_step (lb2_ HB.out GE1589.out GE1608.out) hb); (try clear hb); (try clear hb2); (try clear hk); (try clear hi)) | ((with_reducible refine gate_callee (f := 40) rfl ?_); refine ga_ (some 52) Try.func40 #[.slice Ao19 t1590.length co19, .int .i64 1] ?_; (with_reducible refine (laws_markLegS.calls kj8 (fun k_ => some k_ = (.slice Ao19 t1590.length co19 : Value).ownBlock) (.slice Ao19 t1590.length co19) t1590 1 t1614 t1615 w _ ?side1 ?side2 A41.out).mono ?_); (case side1 => exact lb2_ HB.out GE1589.out GE1608.out); (case side2 => exact Kd.R_tight rfl HO_8.out); rintro e w46 ⟨rfl, hy0, hb, hkp⟩; refine ⟨_, rfl, ?_⟩; replace HO_1590000 := Aside0.mk (Kd.R_mono (ok' := fun k_ => some k_ ≠ (.slice Ao19 t1590.length co19 : Value).ownBlock ∧ some k_ ≠ (.slice Ao22 t1593.length co22 : Value).ownBlock ∧ some k_ ≠ (.slice Ao44 t1610.length co44 : Value).ownBlock) (Kd.R_keptB (HO_1590000.out) hkp (fun k_ hk_ hs_ => (hk_.1.1) hs_)) (fun k_ hk_ => ⟨hk_.1.1.1, hk_.1.1.2, hk_.1.2⟩)); replace HO_1590001 := Aside0.mk (Kd.R_mono (ok' := fun k_ => some k_ ≠ (.slice Ao17 t1580.length co17 : Value).ownBlock ∧ some k_ ≠ (.slice Ao25 t1596.length co25 : Value).ownBlock ∧ some k_ ≠ (.slice Ao26 t1599.length co26 : Value).ownBlock) (Kd.R_keptB ((Kd.R_apart' HO_1590001.out (Kd.R_typed HO_8.out) (by decide))) hkp (fun k_ hk_ hs_ => (hk_.2) hs_)) (fun k_ hk_ => ⟨hk_.1.1.1, hk_.1.1.2.1, hk_.1.1.2.2⟩)); replace HO_1590002 := Aside0.mk (Kd.R_mono (ok' := fun k_ => some k_ ≠ (.slice Ao16 t1577.length co16 : Value).ownBlock ∧ some k_ ≠ (.slice Ao25 t1596.length co25 : Value).ownBlock ∧ some k_ ≠ (.slice Ao26 t1599.length co26 : Value).ownBlock) (Kd.R_keptB ((Kd.R_apart' HO_1590002.out (Kd.R_typed HO_8.out) (by decide))) hkp (fun k_ hk_ hs_ => (hk_.2) hs_)) (fun k_ hk_ => ⟨hk_.1.1.1, hk_.1.1.2.1, hk_.1.1.2.2⟩)); replace HO_1609000 := Aside0.mk (Kd.R_mono (ok' := fun k_ => some k_ ≠ (.slice Ao19 t1590.length co19 : Value).ownBlock ∧ some k_ ≠ (.slice Ao14 t1574.length co14 : Value).ownBlock ∧ some k_ ≠ (.slice Ao44 t1610.length co44 : Value).ownBlock) (Kd.R_keptB (HO_1609000.out) hkp (fun k_ hk_ hs_ => (hk_.1.1) hs_)) (fun k_ hk_ => ⟨hk_.1.1.1, hk_.1.1.2, hk_.1.2⟩)); replace HO_1609001 := Aside0.mk (Kd.R_mono (ok' := fun k_ => some k_ ≠ (.slice Ao16 t1577.length co16 : Value).ownBlock ∧ some k_ ≠ (.slice Ao17 t1580.length co17 : Value).ownBlock ∧ some k_ ≠ (.slice Ao26 t1599.length co26 : Value).ownBlock) (Kd.R_keptB ((Kd.R_apart' HO_1609001.out (Kd.R_typed HO_8.out) (by decide))) hkp (fun k_ hk_ hs_ => (hk_.2) hs_)) (fun k_ hk_ => ⟨hk_.1.1.1, hk_.1.1.2.1, hk_.1.1.2.2⟩)); replace HO_1609002 := Aside0.mk (Kd.R_mono (ok' := fun k_ => some k_ ≠ (.slice Ao16 t1577.length co16 : Value).ownBlock ∧ some k_ ≠ (.slice Ao17 t1580.length co17 : Value).ownBlock ∧ some k_ ≠ (.slice Ao25 t1596.length co25 : Value).ownBlock) (Kd.R_keptB ((Kd.R_apart' HO_1609002.out (Kd.R_typed HO_8.out) (by decide))) hkp (fun k_ hk_ hs_ => (hk_.2) hs_)) (fun k_ hk_ => ⟨hk_.1.1.1, hk_.1.1.2.1, hk_.1.1.2.2⟩)); replace BK1589 := Aside0.mk (blk_kept (bk_ BK1589.out) hkp (fun hs_ => (fun e_ => (Kd.R_ne HO_8.out BK1589.out (by decide)) e_) hs_)); replace BK1608 := Aside0.mk (blk_kept (bk_ BK1608.out) hkp (fun hs_ => (fun e_ => (Kd.R_ne HO_8.out BK1608.out (by decide)) e_) hs_)); replace HO_8 := Aside0.mk (Kd.R_reok rfl hy0 (fun k_ e_ => HO_8.out.1 k_ e_)); replace HO1612 := Aside0.mk (Kd.R_mono (ok' := fun k_ => some k_ ≠ (.slice Ao19 t1590.length co19 : Value).ownBlock ∧ some k_ ≠ (.slice Ao14 t1574.length co14 : Value).ownBlock ∧ some k_ ≠ (.slice Ao22 t1593.length co22 : Value).ownBlock) (Kd.R_keptB (HO1612.out) hkp (fun k_ hk_ hs_ => (hk_.1.1.2) hs_)) (fun k_ hk_ => ⟨hk_.1.1.1.2, hk_.1.1.2, hk_.1.2⟩)); replace HB := Aside0.mk (hb); (try clear hb); (try clear hkp); (try clear hy0)))
      (try simp only [Act.put, List.setIfInBounds_toArray, List.set_cons_zero, List.set_cons_succ])
      go_cut [65] (fun v65 wc => ∃ (kq : Nat) (x65_41 : Bool), v65 = .bool x65_41 ∧ Aside0 (laws_FnExactNewConsole.j1 kq l0 a1 t1588 x65_41 t1574 t1577 t1580 t1583 t1584 t1585 t1586 t1587 t1593 t1596 t1599 t1602 t1603 t1604 t1605 t1606 = some r) ∧ Aside0 (kq ≤ kj8) ∧ Aside0 (Kd.R k37 37 wc w.heap.size (fun k_ => some k_ ≠ ((.slice Ao22 t1593.length co22) : Value).ownBlock) (.slice Ao14 t1574.length co14) t1574) ∧ Aside0 (Kd.R Kd.bool 4 wc w.heap.size (fun k_ => some k_ ≠ ((.slice Ao17 t1580.length co17) : Value).ownBlock ∧ some k_ ≠ ((.slice Ao25 t1596.length co25) : Value).ownBlock ∧ some k_ ≠ ((.slice Ao26 t1599.length co26) : Value).ownBlock) (.slice Ao16 t1577.length co16) t1577) ∧ Aside0 (Kd.R Kd.bool 4 wc w.heap.size (fun k_ => some k_ ≠ ((.slice Ao16 t1577.length co16) : Value).ownBlock ∧ some k_ ≠ ((.slice Ao25 t1596.length co25) : Value).ownBlock ∧ some k_ ≠ ((.slice Ao26 t1599.length co26) : Value).ownBlock) (.slice Ao17 t1580.length co17) t1580) ∧ Aside0 (Kd.R k37 37 wc w.heap.size (fun k_ => some k_ ≠ ((.slice Ao14 t1574.length co14) : Value).ownBlock) (.slice Ao22 t1593.length co22) t1593) ∧ Aside0 (Kd.R Kd.bool 4 wc w.heap.size (fun k_ => some k_ ≠ ((.slice Ao16 t1577.length co16) : Value).ownBlock ∧ some k_ ≠ ((.slice Ao17 t1580.length co17) : Value).ownBlock ∧ some k_ ≠ ((.slice Ao26 t1599.length co26) : Value).ownBlock) (.slice Ao25 t1596.length co25) t1596) ∧ Aside0 (Kd.R Kd.bool 4 wc w.heap.size (fun k_ => some k_ ≠ ((.slice Ao16 t1577.length co16) : Value).ownBlock ∧ some k_ ≠ ((.slice Ao17 t1580.length co17) : Value).ownBlock ∧ some k_ ≠ ((.slice Ao25 t1596.length co25) : Value).ownBlock) (.slice Ao26 t1599.length co26) t1599) ∧ Aside0 (wc.heap[gb1589]? = some (.cells #[(.slice Ao14 t1574.length co14), (.slice Ao16 t1577.length co16), (.slice Ao17 t1580.length co17), .int .i64 t1583, .int .i64 t1584, .string t1585, .string t1586, .int .i64 t1587] 81 (0, 0))) ∧ Aside0 (wc.heap[gb1608]? = some (.cells #[(.slice Ao22 t1593.length co22), (.slice Ao25 t1596.length co25), (.slice Ao26 t1599.length co26), .int .i64 t1602, .int .i64 t1603, .string t1604, .string t1605, .int .i64 t1606] 81 (0, 0))) ∧ Aside0 (Below w.heap.size w wc))
      case first =>
       have H := HC42.out
       clear HC42
       by_cases c47 : t1614 < 0
       ·
        rw [if_pos c47] at H
        have c47b0 : decide (t1614 < 0) = true := decide_eq_true c47; clear c47
        (first | rw [c47b0] | (simp only [i64_w, i32_w]; rw [c47b0]) | skip)
        have H' := Aside0.mk H; clear H
        go_wp2
        go_meet
        case rel => exact ⟨_, (true), (by first | rfl | (simp; done) | (simp [*]; done)), H', ⟨by have := HJ8.out; first | omega | exact Nat.le_refl _⟩, ⟨krm_ HO_1590000.out (fun _ hk => hk.2.1)⟩, ⟨kr_ HO_1590001.out⟩, ⟨kr_ HO_1590002.out⟩, ⟨krm_ HO_1609000.out (fun _ hk => hk.2.1)⟩, ⟨kr_ HO_1609001.out⟩, ⟨kr_ HO_1609002.out⟩, ⟨bk_ BK1589.out⟩, ⟨bk_ BK1608.out⟩, ⟨lb2_ HB.out GE1589.out GE1608.out⟩⟩
       ·
        rw [if_neg c47] at H
        have c47b0 : decide (t1614 < 0) = false := decide_eq_false c47; clear c47
        (first | rw [c47b0] | (simp only [i64_w, i32_w]; rw [c47b0]) | skip)
        replace H := Option.bind_eq_some_iff.mp H; obtain ⟨t1616, A480, H⟩ := H; replace H : (if t1616 = true then (laws_FnExactNewConsole.j1 kj8 l0 a1 t1588 (t1607 != t1588) t1574 t1577 t1580 t1583 t1584 t1585 t1586 t1587 t1593 t1596 t1599 t1602 t1603 t1604 t1605 t1606) else (laws_FnExactNewConsole.j1 kj8 l0 a1 t1588 true t1574 t1577 t1580 t1583 t1584 t1585 t1586 t1587 t1593 t1596 t1599 t1602 t1603 t1604 t1605 t1606)) = some r := H; have A48 := Aside0.mk A480; clear A480
        by_cases c49 : t1616 = true
        ·
         subst c49
         have H1 : (laws_FnExactNewConsole.j1 kj8 l0 a1 t1588 (t1607 != t1588) t1574 t1577 t1580 t1583 t1584 t1585 t1586 t1587 t1593 t1596 t1599 t1602 t1603 t1604 t1605 t1606) = some r := by rw [if_pos rfl] at H; exact H
         clear H; have H := H1; clear H1; have H' := Aside0.mk H; clear H; have hnb50 := NB1608_1589.out; have hnc50 := NB1589_1608.out; obtain ⟨hcz51_0, hcz51_1, hcz51_2, hcz51_3, hcz51_4, hcz51_5, hcz51_6, hcz51_7⟩ := cz8_ BK1608.out; obtain ⟨hfz51_0, hfz51_1, hfz51_2, hfz51_3, hfz51_4, hfz51_5, hfz51_6, hfz51_7⟩ := fz8_ BK1608.out; obtain ⟨hcz52_0, hcz52_1, hcz52_2, hcz52_3, hcz52_4, hcz52_5, hcz52_6, hcz52_7⟩ := cz8_ BK1589.out; obtain ⟨hfz52_0, hfz52_1, hfz52_2, hfz52_3, hfz52_4, hfz52_5, hfz52_6, hfz52_7⟩ := fz8_ BK1589.out
         go_wp2_with (first | (go_at_call 63; (with_reducible refine (laws_eqConsole.calls kj8 _ _ t1593 _ _ t1596 _ _ t1599 t1602 t1603 t1604 t1605 t1606 _ _ t1574 _ _ t1577 _ _ t1580 t1583 t1584 t1585 t1586 t1587 true _ ?side1 ?side2 ?side3 ?side4 ?side5 ?side6 ?side7 ?side8 ?side9 ?side10 ?side11 ?side12 A48.out).mono ?_); (case side1 => exact kc_ (Kd.R_reads' HO_1609000.out).2.2); (case side2 => exact (Kd.R_reads' HO_1609000.out).2.1); (case side3 => exact kc_ (Kd.R_reads' HO_1609001.out).2.2); (case side4 => exact (Kd.R_reads' HO_1609001.out).2.1); (case side5 => exact kc_ (Kd.R_reads' HO_1609002.out).2.2); (case side6 => exact (Kd.R_reads' HO_1609002.out).2.1); (case side7 => exact kc_ (Kd.R_reads' HO_1590000.out).2.2); (case side8 => exact (Kd.R_reads' HO_1590000.out).2.1); (case side9 => exact kc_ (Kd.R_reads' HO_1590001.out).2.2); (case side10 => exact (Kd.R_reads' HO_1590001.out).2.1); (case side11 => exact kc_ (Kd.R_reads' HO_1590002.out).2.2); (case side12 => exact (Kd.R_reads' HO_1590002.out).2.1); rintro e w53 ⟨rfl, hb⟩; replace HO_8 := Aside0.mk (Kd.R_below (kr_ HO_8.out) hb); replace HO_1590000 := Aside0.mk (Kd.R_below (kr_ HO_1590000.out) hb); replace HO_1590001 := Aside0.mk (Kd.R_below (kr_ HO_1590001.out) hb); replace HO_1590002 := Aside0.mk (Kd.R_below (kr_ HO_1590002.out) hb); replace HO_1609000 := Aside0.mk (Kd.R_below (kr_ HO_1609000.out) hb); replace HO_1609001 := Aside0.mk (Kd.R_below (kr_ HO_1609001.out) hb); replace HO_1609002 := Aside0.mk (Kd.R_below (kr_ HO_1609002.out) hb); replace HO1612 := Aside0.mk (Kd.R_below (kr_ HO1612.out) hb); replace BK1589 := Aside0.mk (bb_ (bk_ BK1589.out) hb); replace BK1608 := Aside0.mk (bb_ (bk_ BK1608.out) hb); replace HB := Aside0.mk (below_step (lb2_ HB.out GE1589.out GE1608.out) hb); (try clear hb); (try clear hb2); (try clear hk); (try clear hi)))
         go_meet
         case rel => exact ⟨_, ((t1607 != t1588)), (by first | rfl | (simp; done) | (simp [*]; done)), H', ⟨by have := HJ8.out; first | omega | exact Nat.le_refl _⟩, ⟨krm_ HO_1590000.out (fun _ hk => hk.2.1)⟩, ⟨kr_ HO_1590001.out⟩, ⟨kr_ HO_1590002.out⟩, ⟨krm_ HO_1609000.out (fun _ hk => hk.2.1)⟩, ⟨kr_ HO_1609001.out⟩, ⟨kr_ HO_1609002.out⟩, ⟨bk_ BK1589.out⟩, ⟨bk_ BK1608.out⟩, ⟨lb2_ HB.out GE1589.out GE1608.out⟩⟩
        ·
         replace c49 := Bool.eq_false_iff.mpr c49; subst c49
         have H1 : (laws_FnExactNewConsole.j1 kj8 l0 a1 t1588 true t1574 t1577 t1580 t1583 t1584 t1585 t1586 t1587 t1593 t1596 t1599 t1602 t1603 t1604 t1605 t1606) = some r := by rw [if_neg (show ¬ (false = true) by decide)] at H; exact H
         clear H; have H := H1; clear H1; have H' := Aside0.mk H; clear H; have hnb54 := NB1608_1589.out; have hnc54 := NB1589_1608.out; obtain ⟨hcz55_0, hcz55_1, hcz55_2, hcz55_3, hcz55_4, hcz55_5, hcz55_6, hcz55_7⟩ := cz8_ BK1608.out; obtain ⟨hfz55_0, hfz55_1, hfz55_2, hfz55_3, hfz55_4, hfz55_5, hfz55_6, hfz55_7⟩ := fz8_ BK1608.out; obtain ⟨hcz56_0, hcz56_1, hcz56_2, hcz56_3, hcz56_4, hcz56_5, hcz56_6, hcz56_7⟩ := cz8_ BK1589.out; obtain ⟨hfz56_0, hfz56_1, hfz56_2, hfz56_3, hfz56_4, hfz56_5, hfz56_6, hfz56_7⟩ := fz8_ BK1589.out
         go_wp2_with (first | (go_at_call 63; (with_reducible refine (laws_eqConsole.calls kj8 _ _ t1593 _ _ t1596 _ _ t1599 t1602 t1603 t1604 t1605 t1606 _ _ t1574 _ _ t1577 _ _ t1580 t1583 t1584 t1585 t1586 t1587 false _ ?side1 ?side2 ?side3 ?side4 ?side5 ?side6 ?side7 ?side8 ?side9 ?side10 ?side11 ?side12 A48.out).mono ?_); (case side1 => exact kc_ (Kd.R_reads' HO_1609000.out).2.2); (case side2 => exact (Kd.R_reads' HO_1609000.out).2.1); (case side3 => exact kc_ (Kd.R_reads' HO_1609001.out).2.2); (case side4 => exact (Kd.R_reads' HO_1609001.out).2.1); (case side5 => exact kc_ (Kd.R_reads' HO_1609002.out).2.2); (case side6 => exact (Kd.R_reads' HO_1609002.out).2.1); (case side7 => exact kc_ (Kd.R_reads' HO_1590000.out).2.2); (case side8 => exact (Kd.R_reads' HO_1590000.out).2.1); (case side9 => exact kc_ (Kd.R_reads' HO_1590001.out).2.2); (case side10 => exact (Kd.R_reads' HO_1590001.out).2.1); (case side11 => exact kc_ (Kd.R_reads' HO_1590002.out).2.2); (case side12 => exact (Kd.R_reads' HO_1590002.out).2.1); rintro e w57 ⟨rfl, hb⟩; replace HO_8 := Aside0.mk (Kd.R_below (kr_ HO_8.out) hb); replace HO_1590000 := Aside0.mk (Kd.R_below (kr_ HO_1590000.out) hb); replace HO_1590001 := Aside0.mk (Kd.R_below (kr_ HO_1590001.out) hb); replace HO_1590002 := Aside0.mk (Kd.R_below (kr_ HO_1590002.out) hb); replace HO_1609000 := Aside0.mk (Kd.R_below (kr_ HO_1609000.out) hb); replace HO_1609001 := Aside0.mk (Kd.R_below (kr_ HO_1609001.out) hb); replace HO_1609002 := Aside0.mk (Kd.R_below (kr_ HO_1609002.out) hb); replace HO1612 := Aside0.mk (Kd.R_below (kr_ HO1612.out) hb); replace BK1589 := Aside0.mk (bb_ (bk_ BK1589.out) hb); replace BK1608 := Aside0.mk (bb_ (bk_ BK1608.out) hb); replace HB := Aside0.mk (below_step (lb2_ HB.out GE1589.out GE1608.out) hb); (try clear hb); (try clear hb2); (try clear hk); (try clear hi)))
         go_meet
         case rel => exact ⟨_, (true), (by first | rfl | (simp; done) | (simp [*]; done)), H', ⟨by have := HJ8.out; first | omega | exact Nat.le_refl _⟩, ⟨krm_ HO_1590000.out (fun _ hk => hk.2.1)⟩, ⟨kr_ HO_1590001.out⟩, ⟨kr_ HO_1590002.out⟩, ⟨krm_ HO_1609000.out (fun _ hk => hk.2.1)⟩, ⟨kr_ HO_1609001.out⟩, ⟨kr_ HO_1609002.out⟩, ⟨bk_ BK1589.out⟩, ⟨bk_ BK1608.out⟩, ⟨lb2_ HB.out GE1589.out GE1608.out⟩⟩
      case rest =>
       clear HC42
       try clear c1
       try clear c2
       try clear p2
       try clear c3
       try clear c4
       try clear c4b0
       try clear c5
       try clear c6
       try clear c14
       try clear c23
       try clear c28
       try clear c29
       try clear c33
       try clear c37
       try clear c38
       try clear c39
       try clear c40
       try clear c47
       try clear c47b0
       try clear c49
       try clear c50
       try clear c54
       try clear hcz15_0 hcz15_1 hcz15_2 hcz15_3 hcz15_4 hcz15_5 hcz15_6 hcz15_7
       try clear hcz24_0 hcz24_1 hcz24_2 hcz24_3 hcz24_4 hcz24_5 hcz24_6 hcz24_7
       try clear hcz30_0 hcz30_1 hcz30_2 hcz30_3 hcz30_4 hcz30_5 hcz30_6 hcz30_7
       try clear hcz31_0 hcz31_1 hcz31_2 hcz31_3 hcz31_4 hcz31_5 hcz31_6 hcz31_7
       try clear hcz34_0 hcz34_1 hcz34_2 hcz34_3 hcz34_4 hcz34_5 hcz34_6 hcz34_7
       try clear hcz35_0 hcz35_1 hcz35_2 hcz35_3 hcz35_4 hcz35_5 hcz35_6 hcz35_7
       try clear hcz51_0 hcz51_1 hcz51_2 hcz51_3 hcz51_4 hcz51_5 hcz51_6 hcz51_7
       try clear hcz52_0 hcz52_1 hcz52_2 hcz52_3 hcz52_4 hcz52_5 hcz52_6 hcz52_7
       try clear hcz55_0 hcz55_1 hcz55_2 hcz55_3 hcz55_4 hcz55_5 hcz55_6 hcz55_7
       try clear hcz56_0 hcz56_1 hcz56_2 hcz56_3 hcz56_4 hcz56_5 hcz56_6 hcz56_7
       try clear hfz15_0 hfz15_1 hfz15_2 hfz15_3 hfz15_4 hfz15_5 hfz15_6 hfz15_7
       try clear hfz24_0 hfz24_1 hfz24_2 hfz24_3 hfz24_4 hfz24_5 hfz24_6 hfz24_7
       try clear hfz30_0 hfz30_1 hfz30_2 hfz30_3 hfz30_4 hfz30_5 hfz30_6 hfz30_7
       try clear hfz31_0 hfz31_1 hfz31_2 hfz31_3 hfz31_4 hfz31_5 hfz31_6 hfz31_7
       try clear hfz34_0 hfz34_1 hfz34_2 hfz34_3 hfz34_4 hfz34_5 hfz34_6 hfz34_7
       try clear hfz35_0 hfz35_1 hfz35_2 hfz35_3 hfz35_4 hfz35_5 hfz35_6 hfz35_7
       try clear hfz51_0 hfz51_1 hfz51_2 hfz51_3 hfz51_4 hfz51_5 hfz51_6 hfz51_7
       try clear hfz52_0 hfz52_1 hfz52_2 hfz52_3 hfz52_4 hfz52_5 hfz52_6 hfz52_7
       try clear hfz55_0 hfz55_1 hfz55_2 hfz55_3 hfz55_4 hfz55_5 hfz55_6 hfz55_7
       try clear hfz56_0 hfz56_1 hfz56_2 hfz56_3 hfz56_4 hfz56_5 hfz56_6 hfz56_7
       try clear p2
       obtain ⟨kq, x65_41, rfl, HA, HJ41, HO_1590000, HO_1590001, HO_1590002, HO_1609000, HO_1609001, HO_1609002, BK1589, BK1608, HB⟩ := hcut
       cases kq with
       | zero => exact absurd HA.out (by simp [laws_FnExactNewConsole.j1])
       | succ kj41 =>
        have H := HA.out; clear HA; simp only [laws_FnExactNewConsole.j1] at H
        by_cases c58 : x65_41 = true
        ·
         subst c58
         have H1 : (none) = some r := by rw [if_pos rfl] at H; exact H
         clear H; have H := H1; clear H1; exact absurd H (by simp)
        ·
         replace c58 := Bool.eq_false_iff.mpr c58; subst c58
         have H1 : ((laws_markConsole.f kj41 t1593 t1596 t1599 t1602 t1603 t1604 t1605 t1606 1).bind fun bt1617 => ((laws_heldConsole.f kj41 bt1617.2.1 bt1617.2.2.1 bt1617.2.2.2 t1602 t1603 t1604 t1605 t1606 1).bind fun t1621 => (if t1621 < 0 then (none) else (if t1621 = bt1617.1 then ((laws_toLegS.f kj41 l0).bind fun t1622 => ((impl_NewConsole.f kj41 t1622 a1).bind fun bt1625 => ((laws_eqConsole.f kj41 bt1625.1 bt1625.2.1 bt1625.2.2.1 bt1625.2.2.2.1 bt1625.2.2.2.2.1 bt1625.2.2.2.2.2.1 bt1625.2.2.2.2.2.2.1 bt1625.2.2.2.2.2.2.2.1 t1574 t1577 t1580 t1583 t1584 t1585 t1586 t1587).bind fun t1641 => (if t1641 = true then (laws_FnExactNewConsole.j2 kj41 bt1617.1 (bt1625.2.2.2.2.2.2.2.2 != t1588) bt1617.2.1 bt1617.2.2.1 bt1617.2.2.2 t1602 t1603 t1604 t1605 t1606) else (laws_FnExactNewConsole.j2 kj41 bt1617.1 true bt1617.2.1 bt1617.2.2.1 bt1617.2.2.2 t1602 t1603 t1604 t1605 t1606))))) else (none))))) = some r := by rw [if_neg (show ¬ (false = true) by decide)] at H; exact H
         clear H; have H := H1; clear H1; replace H := Option.bind_eq_some_iff.mp H; obtain ⟨⟨t1617, t1618, t1619, t1620⟩, A590, H⟩ := H; replace H : ((laws_heldConsole.f kj41 t1618 t1619 t1620 t1602 t1603 t1604 t1605 t1606 1).bind fun t1621 => (if t1621 < 0 then (none) else (if t1621 = t1617 then ((laws_toLegS.f kj41 l0).bind fun t1622 => ((impl_NewConsole.f kj41 t1622 a1).bind fun bt1625 => ((laws_eqConsole.f kj41 bt1625.1 bt1625.2.1 bt1625.2.2.1 bt1625.2.2.2.1 bt1625.2.2.2.2.1 bt1625.2.2.2.2.2.1 bt1625.2.2.2.2.2.2.1 bt1625.2.2.2.2.2.2.2.1 t1574 t1577 t1580 t1583 t1584 t1585 t1586 t1587).bind fun t1641 => (if t1641 = true then (laws_FnExactNewConsole.j2 kj41 t1617 (bt1625.2.2.2.2.2.2.2.2 != t1588) t1618 t1619 t1620 t1602 t1603 t1604 t1605 t1606) else (laws_FnExactNewConsole.j2 kj41 t1617 true t1618 t1619 t1620 t1602 t1603 t1604 t1605 t1606))))) else (none)))) = some r := H; have A59 := Aside0.mk A590; clear A590; replace H := Option.bind_eq_some_iff.mp H; obtain ⟨t1621, A600, H⟩ := H; replace H : (if t1621 < 0 then (none) else (if t1621 = t1617 then ((laws_toLegS.f kj41 l0).bind fun t1622 => ((impl_NewConsole.f kj41 t1622 a1).bind fun bt1625 => ((laws_eqConsole.f kj41 bt1625.1 bt1625.2.1 bt1625.2.2.1 bt1625.2.2.2.1 bt1625.2.2.2.2.1 bt1625.2.2.2.2.2.1 bt1625.2.2.2.2.2.2.1 bt1625.2.2.2.2.2.2.2.1 t1574 t1577 t1580 t1583 t1584 t1585 t1586 t1587).bind fun t1641 => (if t1641 = true then (laws_FnExactNewConsole.j2 kj41 t1617 (bt1625.2.2.2.2.2.2.2.2 != t1588) t1618 t1619 t1620 t1602 t1603 t1604 t1605 t1606) else (laws_FnExactNewConsole.j2 kj41 t1617 true t1618 t1619 t1620 t1602 t1603 t1604 t1605 t1606))))) else (none))) = some r := H; have A60 := Aside0.mk A600; clear A600
         by_cases c61 : t1621 < 0
         ·
          rw [if_pos c61] at H
          exact absurd H (by simp)
         ·
          rw [if_neg c61] at H
          have c61b0 : decide (t1621 < 0) = false := decide_eq_false c61; clear c61
          by_cases c62 : t1621 = t1617
          ·
           rw [if_pos c62] at H
           have c62b0 : (t1621 == t1617) = true := beq_iff_eq.mpr c62; have c62b1 : (t1621 != t1617) = false := bne_eq_false_iff_eq.mpr c62; clear c62; replace H := Option.bind_eq_some_iff.mp H; obtain ⟨t1622, A630, H⟩ := H; replace H : ((impl_NewConsole.f kj41 t1622 a1).bind fun bt1625 => ((laws_eqConsole.f kj41 bt1625.1 bt1625.2.1 bt1625.2.2.1 bt1625.2.2.2.1 bt1625.2.2.2.2.1 bt1625.2.2.2.2.2.1 bt1625.2.2.2.2.2.2.1 bt1625.2.2.2.2.2.2.2.1 t1574 t1577 t1580 t1583 t1584 t1585 t1586 t1587).bind fun t1641 => (if t1641 = true then (laws_FnExactNewConsole.j2 kj41 t1617 (bt1625.2.2.2.2.2.2.2.2 != t1588) t1618 t1619 t1620 t1602 t1603 t1604 t1605 t1606) else (laws_FnExactNewConsole.j2 kj41 t1617 true t1618 t1619 t1620 t1602 t1603 t1604 t1605 t1606)))) = some r := H; have A63 := Aside0.mk A630; clear A630; replace H := Option.bind_eq_some_iff.mp H; obtain ⟨⟨t1625, t1628, t1631, t1634, t1635, t1636, t1637, t1638, t1639⟩, A640, H⟩ := H; replace H : ((laws_eqConsole.f kj41 t1625 t1628 t1631 t1634 t1635 t1636 t1637 t1638 t1574 t1577 t1580 t1583 t1584 t1585 t1586 t1587).bind fun t1641 => (if t1641 = true then (laws_FnExactNewConsole.j2 kj41 t1617 (t1639 != t1588) t1618 t1619 t1620 t1602 t1603 t1604 t1605 t1606) else (laws_FnExactNewConsole.j2 kj41 t1617 true t1618 t1619 t1620 t1602 t1603 t1604 t1605 t1606))) = some r := H; have A64 := Aside0.mk A640; clear A640; have HC65 := Aside0.mk H; clear H; have hnb66 := NB1608_1589.out; have hnc66 := NB1589_1608.out; obtain ⟨hcz67_0, hcz67_1, hcz67_2, hcz67_3, hcz67_4, hcz67_5, hcz67_6, hcz67_7⟩ := cz8_ BK1608.out; obtain ⟨hfz67_0, hfz67_1, hfz67_2, hfz67_3, hfz67_4, hfz67_5, hfz67_6, hfz67_7⟩ := fz8_ BK1608.out
           go_upto_region 25 with (first | ((with_reducible refine gate_callee (f := 64) rfl ?_); refine ga_ (some 68) Try.func64 #[.agg #[.slice Ao22 t1593.length co22, .slice Ao25 t1596.length co25, .slice Ao26 t1599.length co26, .int .i64 t1602, .int .i64 t1603, .string t1604, .string t1605, .int .i64 t1606], .int .i64 1] ?_; (with_reducible refine (laws_markConsole.calls kj41 (fun k_ => some k_ = (.slice Ao22 t1593.length co22 : Value).ownBlock) (.slice Ao22 t1593.length co22) t1593 (fun k_ => some k_ = (.slice Ao25 t1596.length co25 : Value).ownBlock) (.slice Ao25 t1596.length co25) t1596 (fun k_ => some k_ = (.slice Ao26 t1599.length co26 : Value).ownBlock) (.slice Ao26 t1599.length co26) t1599 t1602 t1603 t1604 t1605 t1606 1 t1617 t1618 t1619 t1620 w _ ?side1 ?side2 ?side3 ?side4 ?side5 ?side6 A59.out).mono ?_); (case side1 => exact lb2_ HB.out GE1589.out GE1608.out); (case side2 => exact Kd.R_tight rfl HO_1609000.out); (case side3 => exact Kd.R_tight rfl HO_1609001.out); (case side4 => exact fun k_ e_ => (HO_1609001.out.1 k_ e_.symm).2.2); (case side5 => exact Kd.R_tight rfl HO_1609002.out); (case side6 => exact fun k_ e_ => (HO_1609002.out.1 k_ e_.symm).2.2); rintro e w68 ⟨rfl, hy0, hy1, hy2, hb, hkp⟩; refine ⟨_, rfl, ?_⟩; replace HO_1590000 := Aside0.mk (Kd.R_mono (ok' := fun k_ => some k_ ≠ (.slice Ao22 t1593.length co22 : Value).ownBlock) (Kd.R_keptB ((Kd.R_apart' (Kd.R_apart' HO_1590000.out (Kd.R_typed HO_1609001.out) (by decide)) (Kd.R_typed HO_1609002.out) (by decide))) hkp (fun k_ hk_ hs_ => Or.elim hs_ (fun e_ => (hk_.1.1) e_) (fun e_ => Or.elim e_ (fun e_ => (hk_.1.2) e_) (fun e_ => (hk_.2) e_)))) (fun k_ hk_ => hk_.1.1.1)); replace HO_1590001 := Aside0.mk (Kd.R_mono (ok' := fun k_ => some k_ ≠ (.slice Ao17 t1580.length co17 : Value).ownBlock ∧ some k_ ≠ (.slice Ao25 t1596.length co25 : Value).ownBlock ∧ some k_ ≠ (.slice Ao26 t1599.length co26 : Value).ownBlock) (Kd.R_keptB ((Kd.R_apart' HO_1590001.out (Kd.R_typed HO_1609000.out) (by decide))) hkp (fun k_ hk_ hs_ => Or.elim hs_ (fun e_ => (hk_.2) e_) (fun e_ => Or.elim e_ (fun e_ => (hk_.1.2.1) e_) (fun e_ => (hk_.1.2.2) e_)))) (fun k_ hk_ => ⟨hk_.1.1.1, hk_.1.1.2.1, hk_.1.1.2.2⟩)); replace HO_1590002 := Aside0.mk (Kd.R_mono (ok' := fun k_ => some k_ ≠ (.slice Ao16 t1577.length co16 : Value).ownBlock ∧ some k_ ≠ (.slice Ao25 t1596.length co25 : Value).ownBlock ∧ some k_ ≠ (.slice Ao26 t1599.length co26 : Value).ownBlock) (Kd.R_keptB ((Kd.R_apart' HO_1590002.out (Kd.R_typed HO_1609000.out) (by decide))) hkp (fun k_ hk_ hs_ => Or.elim hs_ (fun e_ => (hk_.2) e_) (fun e_ => Or.elim e_ (fun e_ => (hk_.1.2.1) e_) (fun e_ => (hk_.1.2.2) e_)))) (fun k_ hk_ => ⟨hk_.1.1.1, hk_.1.1.2.1, hk_.1.1.2.2⟩)); replace BK1589 := Aside0.mk (blk_kept (bk_ BK1589.out) hkp (fun hs_ => Or.elim hs_ (fun e_ => (fun e_ => (Kd.R_ne HO_1609000.out BK1589.out (by decide)) e_) e_) (fun e_ => Or.elim e_ (fun e_ => (fun e_ => (Kd.R_ne HO_1609001.out BK1589.out (by decide)) e_) e_) (fun e_ => (fun e_ => (Kd.R_ne HO_1609002.out BK1589.out (by decide)) e_) e_)))); replace BK1608 := Aside0.mk (blk_kept (bk_ BK1608.out) hkp (fun hs_ => Or.elim hs_ (fun e_ => (fun e_ => (Kd.R_ne HO_1609000.out BK1608.out (by decide)) e_) e_) (fun e_ => Or.elim e_ (fun e_ => (fun e_ => (Kd.R_ne HO_1609001.out BK1608.out (by decide)) e_) e_) (fun e_ => (fun e_ => (Kd.R_ne HO_1609002.out BK1608.out (by decide)) e_) e_)))); replace HO_1609000 := Aside0.mk (Kd.R_reok rfl hy0 (fun k_ e_ => HO_1609000.out.1 k_ e_)); replace HO_1609001 := Aside0.mk (Kd.R_reok rfl hy1 (fun k_ e_ => HO_1609001.out.1 k_ e_)); replace HO_1609002 := Aside0.mk (Kd.R_reok rfl hy2 (fun k_ e_ => HO_1609002.out.1 k_ e_)); replace HB := Aside0.mk (hb); (try clear hb); (try clear hkp); (try clear hy0); (try clear hy1); (try clear hy2); obtain ⟨hcz69_0, hcz69_1, hcz69_2, hcz69_3, hcz69_4, hcz69_5, hcz69_6, hcz69_7⟩ := cz8_ BK1608.out; obtain ⟨hfz69_0, hfz69_1, hfz69_2, hfz69_3, hfz69_4, hfz69_5, hfz69_6, hfz69_7⟩ := fz8_ BK1608.out) | ((with_reducible refine gate_callee (f := 65) rfl ?_); refine goesL_ (some 71) rfl rfl Try.func65 (by kernel_rfl) rfl #[.agg #[.slice Ao22 t1618.length co22, .slice Ao25 t1619.length co25, .slice Ao26 t1620.length co26, .int .i64 t1602, .int .i64 t1603, .string t1604, .string t1605, .int .i64 t1606], .int .i64 1] rfl (by (try simp only [List.map_toArray, List.map_cons, List.map_nil]); first | done | (rw [show t1618.length = t1593.length from (Kd.R_reads' HO_1609000.out).1.symm, show t1619.length = t1596.length from (Kd.R_reads' HO_1609001.out).1.symm, show t1620.length = t1599.length from (Kd.R_reads' HO_1609002.out).1.symm] <;> rfl) | rfl | (simp only [List.length_drop, List.length_take]; rfl)) ?_; (with_reducible refine (laws_heldConsole.calls kj41 _ _ t1618 _ _ t1619 _ _ t1620 t1602 t1603 t1604 t1605 t1606 1 t1621 _ ?side1 ?side2 ?side3 ?side4 ?side5 ?side6 A60.out).mono ?_); (case side1 => exact kc_ (Kd.R_reads' HO_1609000.out).2.2); (case side2 => rw [show t1618.length = t1593.length from (Kd.R_reads' HO_1609000.out).1.symm]; exact (Kd.R_reads' HO_1609000.out).2.1); (case side3 => exact kc_ (Kd.R_reads' HO_1609001.out).2.2); (case side4 => rw [show t1619.length = t1596.length from (Kd.R_reads' HO_1609001.out).1.symm]; exact (Kd.R_reads' HO_1609001.out).2.1); (case side5 => exact kc_ (Kd.R_reads' HO_1609002.out).2.2); (case side6 => rw [show t1620.length = t1599.length from (Kd.R_reads' HO_1609002.out).1.symm]; exact (Kd.R_reads' HO_1609002.out).2.1); rintro e w70 ⟨rfl, hb⟩; refine ⟨_, rfl, ?_⟩; replace HO_1590000 := Aside0.mk (Kd.R_below (kr_ HO_1590000.out) hb); replace HO_1590001 := Aside0.mk (Kd.R_below (kr_ HO_1590001.out) hb); replace HO_1590002 := Aside0.mk (Kd.R_below (kr_ HO_1590002.out) hb); replace HO_1609000 := Aside0.mk (Kd.R_below (kr_ HO_1609000.out) hb); replace HO_1609001 := Aside0.mk (Kd.R_below (kr_ HO_1609001.out) hb); replace HO_1609002 := Aside0.mk (Kd.R_below (kr_ HO_1609002.out) hb); replace BK1589 := Aside0.mk (bb_ (bk_ BK1589.out) hb); replace BK1608 := Aside0.mk (bb_ (bk_ BK1608.out) hb); replace HB := Aside0.mk (below_step (lb2_ HB.out GE1589.out GE1608.out) hb); (try clear hb); (try clear hb2); (try clear hk); (try clear hi)) | ((with_reducible refine gate_callee (f := 38) rfl ?_); refine ga_ (some 79) Try.func38 #[.slice A0 l0.length c0] ?_; (with_reducible refine (laws_toLegS.calls kj41 _ _ l0 t1622 _ ?side1 ?side2 A63.out).mono ?_); (case side1 => exact kc_ (Kd.C_below HR0.out HB.out)); (case side2 => exact HC0.out); rintro e w71 ⟨v1623, rfl, ho0, hb⟩; refine ⟨_, rfl, ?_⟩; replace HO_1590001 := Aside0.mk (Kd.R_below (kr_ HO_1590001.out) hb); replace HO_1590002 := Aside0.mk (Kd.R_below (kr_ HO_1590002.out) hb); replace HO_1609001 := Aside0.mk (Kd.R_below (kr_ HO_1609001.out) hb); replace HO_1609002 := Aside0.mk (Kd.R_below (kr_ HO_1609002.out) hb); have HO1624 := Aside0.mk (Kd.R_lower (Kd.R_new' (Kd.R_new' ho0 (Kd.R_lt (kr_ HO_1590000.out))) (Kd.R_lt (kr_ HO_1609000.out))) (below_size (lb2_ HB.out GE1589.out GE1608.out))); replace HO_1590000 := Aside0.mk (Kd.R_elder' (kr_ HO_1590000.out) (Kd.R_base ho0) hb); replace HO_1609000 := Aside0.mk (Kd.R_elder' (kr_ HO_1609000.out) (Kd.R_base ho0) hb); replace BK1589 := Aside0.mk (bb_ (bk_ BK1589.out) hb); replace BK1608 := Aside0.mk (bb_ (bk_ BK1608.out) hb); replace HB := Aside0.mk (below_step (lb2_ HB.out GE1589.out GE1608.out) hb); (try clear hb); (try clear hb2); (try clear hk); (try clear hi); (try clear ho0); obtain ⟨Ao72, co72, eo72⟩ := Kd.R_slice HO1624.out; subst eo72) | ((with_reducible refine gate_callee (f := 62) rfl ?_); refine ga_ (some 81) Try.func62 #[.slice Ao72 t1622.length co72, .int .i64 a1] ?_; (with_reducible refine (impl_NewConsole.calls kj41 _ _ t1622 a1 t1625 t1628 t1631 t1634 t1635 t1636 t1637 t1638 t1639 _ ?side1 ?side2 A64.out).mono ?_); (case side1 => exact kc_ (Kd.R_reads' HO1624.out).2.2); (case side2 => exact (Kd.R_reads' HO1624.out).2.1); rintro e w73 ⟨v1626, v1629, v1632, rfl, ho0, ho1, ho2, hb⟩; refine ⟨_, rfl, ?_⟩; have HO1627 := Aside0.mk (Kd.R_lower (Kd.R_new' (Kd.R_new' (Kd.R_new' ho0 (Kd.R_lt (kr_ HO_1590000.out))) (Kd.R_lt (kr_ HO_1609000.out))) (Kd.R_lt (kr_ HO1624.out))) (below_size (lb2_ HB.out GE1589.out GE1608.out))); replace HO_1590000 := Aside0.mk (Kd.R_elder' (kr_ HO_1590000.out) (Kd.R_base ho0) hb); replace HO_1609000 := Aside0.mk (Kd.R_elder' (kr_ HO_1609000.out) (Kd.R_base ho0) hb); replace HO1624 := Aside0.mk (Kd.R_elder' (kr_ HO1624.out) (Kd.R_base ho0) hb); have HO1630 := Aside0.mk (Kd.R_lower (Kd.R_new' (Kd.R_new' (Kd.R_new' (Kd.R_new' ho1 (Kd.R_lt (kr_ HO_1590001.out))) (Kd.R_lt (kr_ HO_1590002.out))) (Kd.R_lt (kr_ HO_1609001.out))) (Kd.R_lt (kr_ HO_1609002.out))) (below_size (lb2_ HB.out GE1589.out GE1608.out))); have HO1633 := Aside0.mk (Kd.R_lower (Kd.R_new' (Kd.R_new' (Kd.R_new' (Kd.R_new' ho2 (Kd.R_lt (kr_ HO_1590001.out))) (Kd.R_lt (kr_ HO_1590002.out))) (Kd.R_lt (kr_ HO_1609001.out))) (Kd.R_lt (kr_ HO_1609002.out))) (below_size (lb2_ HB.out GE1589.out GE1608.out))); replace HO_1590001 := Aside0.mk (Kd.R_mono (Kd.R_told (Kd.R_told (Kd.R_old (kr_ HO_1590001.out) hb) (Kd.R_base ho1)) (Kd.R_base ho2)) (fun _ h_ => h_.1)); replace HO_1590002 := Aside0.mk (Kd.R_mono (Kd.R_told (Kd.R_told (Kd.R_old (kr_ HO_1590002.out) hb) (Kd.R_base ho1)) (Kd.R_base ho2)) (fun _ h_ => h_.1)); replace HO_1609001 := Aside0.mk (Kd.R_mono (Kd.R_told (Kd.R_told (Kd.R_old (kr_ HO_1609001.out) hb) (Kd.R_base ho1)) (Kd.R_base ho2)) (fun _ h_ => h_.1)); replace HO_1609002 := Aside0.mk (Kd.R_mono (Kd.R_told (Kd.R_told (Kd.R_old (kr_ HO_1609002.out) hb) (Kd.R_base ho1)) (Kd.R_base ho2)) (fun _ h_ => h_.1)); replace BK1589 := Aside0.mk (bb_ (bk_ BK1589.out) hb); replace BK1608 := Aside0.mk (bb_ (bk_ BK1608.out) hb); replace HB := Aside0.mk (below_step (lb2_ HB.out GE1589.out GE1608.out) hb); (try clear hb); (try clear hb2); (try clear hk); (try clear hi); (try clear ho0); (try clear ho1); (try clear ho2)) | ((with_reducible refine gate_dst (N := 14) rfl ?_); refine box_event ?hg (N := 14) ?hd (cs := #[.slice none 0 0, .slice none 0 0, .slice none 0 0, .int .i64 0, .int .i64 0, .string (⟨#[]⟩ : ByteArray), .string (⟨#[]⟩ : ByteArray), .int .i64 0]) (t := 81) ?hr ?_; (case hd => rfl); (case hg => rfl); (case hr => first | (go_simp; done) | (go_simp; rfl)); intro gb1640 hg w74 hbox hb; replace HO_1590000 := Aside0.mk (Kd.R_below (kr_ HO_1590000.out) hb); replace HO_1590001 := Aside0.mk (Kd.R_below (kr_ HO_1590001.out) hb); replace HO_1590002 := Aside0.mk (Kd.R_below (kr_ HO_1590002.out) hb); replace HO_1609000 := Aside0.mk (Kd.R_below (kr_ HO_1609000.out) hb); replace HO_1609001 := Aside0.mk (Kd.R_below (kr_ HO_1609001.out) hb); replace HO_1609002 := Aside0.mk (Kd.R_below (kr_ HO_1609002.out) hb); replace HO1624 := Aside0.mk (Kd.R_below (kr_ HO1624.out) hb); replace HO1627 := Aside0.mk (Kd.R_below (kr_ HO1627.out) hb); replace HO1630 := Aside0.mk (Kd.R_below (kr_ HO1630.out) hb); replace HO1633 := Aside0.mk (Kd.R_below (kr_ HO1633.out) hb); have BK1640 := Aside0.mk (hbox); have GW1640 := Aside0.mk ((bz_ hg (lb2_ HB.out GE1589.out GE1608.out))); have GE1640 := Aside0.mk ((bz_ hg (lb2_ HB.out GE1589.out GE1608.out))); replace HB := Aside0.mk (below_step (lb2_ HB.out GE1589.out GE1608.out) hb); have NB1589_1640 := Aside0.mk ((by rw [hg]; exact Nat.ne_of_lt (blk_lt (g := gb1589) (o := .cells #[.slice Ao14 t1574.length co14, .slice Ao16 t1577.length co16, .slice Ao17 t1580.length co17, .int .i64 t1583, .int .i64 t1584, .string t1585, .string t1586, .int .i64 t1587] 81 (0, 0)) (bk_ BK1589.out)) : gb1589 ≠ gb1640)); have NB1640_1589 := Aside0.mk ((by rw [hg]; exact Nat.ne_of_gt (blk_lt (g := gb1589) (o := .cells #[.slice Ao14 t1574.length co14, .slice Ao16 t1577.length co16, .slice Ao17 t1580.length co17, .int .i64 t1583, .int .i64 t1584, .string t1585, .string t1586, .int .i64 t1587] 81 (0, 0)) (bk_ BK1589.out)) : gb1640 ≠ gb1589)); replace BK1589 := Aside0.mk (bb_ (bk_ BK1589.out) hb); have NB1608_1640 := Aside0.mk ((by rw [hg]; exact Nat.ne_of_lt (blk_lt (g := gb1608) (o := .cells #[.slice Ao22 t1593.length co22, .slice Ao25 t1596.length co25, .slice Ao26 t1599.length co26, .int .i64 t1602, .int .i64 t1603, .string t1604, .string t1605, .int .i64 t1606] 81 (0, 0)) (bk_ BK1608.out)) : gb1608 ≠ gb1640)); have NB1640_1608 := Aside0.mk ((by rw [hg]; exact Nat.ne_of_gt (blk_lt (g := gb1608) (o := .cells #[.slice Ao22 t1593.length co22, .slice Ao25 t1596.length co25, .slice Ao26 t1599.length co26, .int .i64 t1602, .int .i64 t1603, .string t1604, .string t1605, .int .i64 t1606] 81 (0, 0)) (bk_ BK1608.out)) : gb1640 ≠ gb1608)); replace BK1608 := Aside0.mk (bb_ (bk_ BK1608.out) hb); clear hb hbox hg; obtain ⟨Ao75, co75, eo75⟩ := Kd.R_slice HO1627.out; subst eo75; have hnb76 := NB1640_1589.out; have hnc76 := NB1589_1640.out; have hnb77 := NB1640_1608.out; have hnc77 := NB1608_1640.out; obtain ⟨hcz78_0, hcz78_1, hcz78_2, hcz78_3, hcz78_4, hcz78_5, hcz78_6, hcz78_7⟩ := cz8_ BK1640.out; obtain ⟨hfz78_0, hfz78_1, hfz78_2, hfz78_3, hfz78_4, hfz78_5, hfz78_6, hfz78_7⟩ := fz8_ BK1640.out; obtain ⟨Ao79, co79, eo79⟩ := Kd.R_slice HO1630.out; subst eo79; obtain ⟨Ao80, co80, eo80⟩ := Kd.R_slice HO1633.out; subst eo80))
           (try simp only [Act.put, List.setIfInBounds_toArray, List.set_cons_zero, List.set_cons_succ])
           go_cut [92] (fun v92 wc => ∃ (kq : Nat) (x92_64 : Bool), v92 = .bool x92_64 ∧ Aside0 (laws_FnExactNewConsole.j2 kq t1617 x92_64 t1618 t1619 t1620 t1602 t1603 t1604 t1605 t1606 = some r) ∧ Aside0 (kq ≤ kj41) ∧ Aside0 (Kd.R k37 37 wc w.heap.size (fun k_ => some k_ ≠ ((.slice Ao22 t1593.length co22) : Value).ownBlock ∧ some k_ ≠ ((.slice Ao75 t1625.length co75) : Value).ownBlock) (.slice Ao14 t1574.length co14) t1574) ∧ Aside0 (Kd.R Kd.bool 4 wc w.heap.size (fun k_ => some k_ ≠ ((.slice Ao17 t1580.length co17) : Value).ownBlock ∧ some k_ ≠ ((.slice Ao25 t1596.length co25) : Value).ownBlock ∧ some k_ ≠ ((.slice Ao26 t1599.length co26) : Value).ownBlock ∧ some k_ ≠ ((.slice Ao79 t1628.length co79) : Value).ownBlock ∧ some k_ ≠ ((.slice Ao80 t1631.length co80) : Value).ownBlock) (.slice Ao16 t1577.length co16) t1577) ∧ Aside0 (Kd.R Kd.bool 4 wc w.heap.size (fun k_ => some k_ ≠ ((.slice Ao16 t1577.length co16) : Value).ownBlock ∧ some k_ ≠ ((.slice Ao25 t1596.length co25) : Value).ownBlock ∧ some k_ ≠ ((.slice Ao26 t1599.length co26) : Value).ownBlock ∧ some k_ ≠ ((.slice Ao79 t1628.length co79) : Value).ownBlock ∧ some k_ ≠ ((.slice Ao80 t1631.length co80) : Value).ownBlock) (.slice Ao17 t1580.length co17) t1580) ∧ Aside0 (Kd.R k37 37 wc w.heap.size (fun k_ => some k_ ≠ ((.slice Ao14 t1574.length co14) : Value).ownBlock ∧ some k_ ≠ ((.slice Ao75 t1625.length co75) : Value).ownBlock) (.slice Ao22 t1593.length co22) t1618) ∧ Aside0 (Kd.R Kd.bool 4 wc w.heap.size (fun k_ => some k_ ≠ ((.slice Ao16 t1577.length co16) : Value).ownBlock ∧ some k_ ≠ ((.slice Ao17 t1580.length co17) : Value).ownBlock ∧ some k_ ≠ ((.slice Ao26 t1599.length co26) : Value).ownBlock ∧ some k_ ≠ ((.slice Ao79 t1628.length co79) : Value).ownBlock ∧ some k_ ≠ ((.slice Ao80 t1631.length co80) : Value).ownBlock) (.slice Ao25 t1596.length co25) t1619) ∧ Aside0 (Kd.R Kd.bool 4 wc w.heap.size (fun k_ => some k_ ≠ ((.slice Ao16 t1577.length co16) : Value).ownBlock ∧ some k_ ≠ ((.slice Ao17 t1580.length co17) : Value).ownBlock ∧ some k_ ≠ ((.slice Ao25 t1596.length co25) : Value).ownBlock ∧ some k_ ≠ ((.slice Ao79 t1628.length co79) : Value).ownBlock ∧ some k_ ≠ ((.slice Ao80 t1631.length co80) : Value).ownBlock) (.slice Ao26 t1599.length co26) t1620) ∧ Aside0 (Kd.R k37 37 wc w.heap.size (fun k_ => some k_ ≠ ((.slice Ao14 t1574.length co14) : Value).ownBlock ∧ some k_ ≠ ((.slice Ao22 t1593.length co22) : Value).ownBlock) (.slice Ao75 t1625.length co75) t1625) ∧ Aside0 (Kd.R Kd.bool 4 wc w.heap.size (fun k_ => some k_ ≠ ((.slice Ao16 t1577.length co16) : Value).ownBlock ∧ some k_ ≠ ((.slice Ao17 t1580.length co17) : Value).ownBlock ∧ some k_ ≠ ((.slice Ao25 t1596.length co25) : Value).ownBlock ∧ some k_ ≠ ((.slice Ao26 t1599.length co26) : Value).ownBlock ∧ some k_ ≠ ((.slice Ao80 t1631.length co80) : Value).ownBlock) (.slice Ao79 t1628.length co79) t1628) ∧ Aside0 (Kd.R Kd.bool 4 wc w.heap.size (fun k_ => some k_ ≠ ((.slice Ao16 t1577.length co16) : Value).ownBlock ∧ some k_ ≠ ((.slice Ao17 t1580.length co17) : Value).ownBlock ∧ some k_ ≠ ((.slice Ao25 t1596.length co25) : Value).ownBlock ∧ some k_ ≠ ((.slice Ao26 t1599.length co26) : Value).ownBlock ∧ some k_ ≠ ((.slice Ao79 t1628.length co79) : Value).ownBlock) (.slice Ao80 t1631.length co80) t1631) ∧ Aside0 (wc.heap[gb1589]? = some (.cells #[(.slice Ao14 t1574.length co14), (.slice Ao16 t1577.length co16), (.slice Ao17 t1580.length co17), .int .i64 t1583, .int .i64 t1584, .string t1585, .string t1586, .int .i64 t1587] 81 (0, 0))) ∧ Aside0 (wc.heap[gb1608]? = some (.cells #[(.slice Ao22 t1593.length co22), (.slice Ao25 t1596.length co25), (.slice Ao26 t1599.length co26), .int .i64 t1602, .int .i64 t1603, .string t1604, .string t1605, .int .i64 t1606] 81 (0, 0))) ∧ Aside0 (wc.heap[gb1640]? = some (.cells #[(.slice Ao75 t1625.length co75), (.slice Ao79 t1628.length co79), (.slice Ao80 t1631.length co80), .int .i64 t1634, .int .i64 t1635, .string t1636, .string t1637, .int .i64 t1638] 81 (0, 0))) ∧ Aside0 (Below w.heap.size w wc))
           case first =>
            have H := HC65.out; clear HC65; replace H := Option.bind_eq_some_iff.mp H; obtain ⟨t1641, A810, H⟩ := H; replace H : (if t1641 = true then (laws_FnExactNewConsole.j2 kj41 t1617 (t1639 != t1588) t1618 t1619 t1620 t1602 t1603 t1604 t1605 t1606) else (laws_FnExactNewConsole.j2 kj41 t1617 true t1618 t1619 t1620 t1602 t1603 t1604 t1605 t1606)) = some r := H; have A81 := Aside0.mk A810; clear A810
            by_cases c82 : t1641 = true
            ·
             subst c82
             have H1 : (laws_FnExactNewConsole.j2 kj41 t1617 (t1639 != t1588) t1618 t1619 t1620 t1602 t1603 t1604 t1605 t1606) = some r := by rw [if_pos rfl] at H; exact H
             clear H; have H := H1; clear H1; have H' := Aside0.mk H; clear H; have hnb83 := NB1640_1589.out; have hnc83 := NB1589_1640.out; have hnb84 := NB1640_1608.out; have hnc84 := NB1608_1640.out; obtain ⟨hcz85_0, hcz85_1, hcz85_2, hcz85_3, hcz85_4, hcz85_5, hcz85_6, hcz85_7⟩ := cz8_ BK1640.out; obtain ⟨hfz85_0, hfz85_1, hfz85_2, hfz85_3, hfz85_4, hfz85_5, hfz85_6, hfz85_7⟩ := fz8_ BK1640.out; have hnb86 := NB1589_1608.out; have hnc86 := NB1608_1589.out; obtain ⟨hcz87_0, hcz87_1, hcz87_2, hcz87_3, hcz87_4, hcz87_5, hcz87_6, hcz87_7⟩ := cz8_ BK1589.out; obtain ⟨hfz87_0, hfz87_1, hfz87_2, hfz87_3, hfz87_4, hfz87_5, hfz87_6, hfz87_7⟩ := fz8_ BK1589.out
             go_wp2_with (first | ((with_reducible refine gate_callee (f := 63) rfl ?_); refine ga_ (some 86) Try.func63 #[.agg #[.slice Ao75 t1625.length co75, .slice Ao79 t1628.length co79, .slice Ao80 t1631.length co80, .int .i64 t1634, .int .i64 t1635, .string t1636, .string t1637, .int .i64 t1638], .agg #[.slice Ao14 t1574.length co14, .slice Ao16 t1577.length co16, .slice Ao17 t1580.length co17, .int .i64 t1583, .int .i64 t1584, .string t1585, .string t1586, .int .i64 t1587]] ?_; (with_reducible refine (laws_eqConsole.calls kj41 _ _ t1625 _ _ t1628 _ _ t1631 t1634 t1635 t1636 t1637 t1638 _ _ t1574 _ _ t1577 _ _ t1580 t1583 t1584 t1585 t1586 t1587 true _ ?side1 ?side2 ?side3 ?side4 ?side5 ?side6 ?side7 ?side8 ?side9 ?side10 ?side11 ?side12 A81.out).mono ?_); (case side1 => refine (Kd.R_reads' (e := 37) (base := w.heap.size) (ok := fun k_ => (((True ∧ some k_ ≠ (.slice Ao14 t1574.length co14 : Value).ownBlock) ∧ some k_ ≠ (.slice Ao22 t1593.length co22 : Value).ownBlock) ∧ some k_ ≠ (.slice Ao72 t1622.length co72 : Value).ownBlock)) (n := t1625.length) (c := co75) ?_).2.2; exact (kg_ HO1627.out BK1640.out)); (case side2 => exact (Kd.R_reads' HO1627.out).2.1); (case side3 => refine (Kd.R_reads' (e := 4) (base := w.heap.size) (ok := fun k_ => ((((some k_ ≠ (.slice Ao80 t1631.length co80 : Value).ownBlock ∧ some k_ ≠ (.slice Ao16 t1577.length co16 : Value).ownBlock) ∧ some k_ ≠ (.slice Ao17 t1580.length co17 : Value).ownBlock) ∧ some k_ ≠ (.slice Ao25 t1596.length co25 : Value).ownBlock) ∧ some k_ ≠ (.slice Ao26 t1599.length co26 : Value).ownBlock)) (n := t1628.length) (c := co79) ?_).2.2; exact (kg_ HO1630.out BK1640.out)); (case side4 => exact (Kd.R_reads' HO1630.out).2.1); (case side5 => refine (Kd.R_reads' (e := 4) (base := w.heap.size) (ok := fun k_ => ((((some k_ ≠ (.slice Ao79 t1628.length co79 : Value).ownBlock ∧ some k_ ≠ (.slice Ao16 t1577.length co16 : Value).ownBlock) ∧ some k_ ≠ (.slice Ao17 t1580.length co17 : Value).ownBlock) ∧ some k_ ≠ (.slice Ao25 t1596.length co25 : Value).ownBlock) ∧ some k_ ≠ (.slice Ao26 t1599.length co26 : Value).ownBlock)) (n := t1631.length) (c := co80) ?_).2.2; exact (kg_ HO1633.out BK1640.out)); (case side6 => exact (Kd.R_reads' HO1633.out).2.1); (case side7 => refine (Kd.R_reads' (e := 37) (base := w.heap.size) (ok := fun k_ => ((some k_ ≠ (.slice Ao22 t1593.length co22 : Value).ownBlock ∧ some k_ ≠ (.slice Ao72 t1622.length co72 : Value).ownBlock) ∧ some k_ ≠ (.slice Ao75 t1625.length co75 : Value).ownBlock)) (n := t1574.length) (c := co14) ?_).2.2; exact (kg_ HO_1590000.out BK1640.out)); (case side8 => exact (Kd.R_reads' HO_1590000.out).2.1); (case side9 => refine (Kd.R_reads' (e := 4) (base := w.heap.size) (ok := fun k_ => (((some k_ ≠ (.slice Ao17 t1580.length co17 : Value).ownBlock ∧ (some k_ ≠ (.slice Ao25 t1596.length co25 : Value).ownBlock ∧ some k_ ≠ (.slice Ao26 t1599.length co26 : Value).ownBlock)) ∧ some k_ ≠ (.slice Ao79 t1628.length co79 : Value).ownBlock) ∧ some k_ ≠ (.slice Ao80 t1631.length co80 : Value).ownBlock)) (n := t1577.length) (c := co16) ?_).2.2; exact (kg_ HO_1590001.out BK1640.out)); (case side10 => exact (Kd.R_reads' HO_1590001.out).2.1); (case side11 => refine (Kd.R_reads' (e := 4) (base := w.heap.size) (ok := fun k_ => (((some k_ ≠ (.slice Ao16 t1577.length co16 : Value).ownBlock ∧ (some k_ ≠ (.slice Ao25 t1596.length co25 : Value).ownBlock ∧ some k_ ≠ (.slice Ao26 t1599.length co26 : Value).ownBlock)) ∧ some k_ ≠ (.slice Ao79 t1628.length co79 : Value).ownBlock) ∧ some k_ ≠ (.slice Ao80 t1631.length co80 : Value).ownBlock)) (n := t1580.length) (c := co17) ?_).2.2; exact (kg_ HO_1590002.out BK1640.out)); (case side12 => exact (Kd.R_reads' HO_1590002.out).2.1); rintro e w88 ⟨rfl, hb⟩; refine ⟨_, rfl, ?_⟩; replace HO_1590000 := Aside0.mk (Kd.R_below (kg_ HO_1590000.out BK1640.out) hb); replace HO_1590001 := Aside0.mk (Kd.R_below (kg_ HO_1590001.out BK1640.out) hb); replace HO_1590002 := Aside0.mk (Kd.R_below (kg_ HO_1590002.out BK1640.out) hb); replace HO_1609000 := Aside0.mk (Kd.R_below (kg_ HO_1609000.out BK1640.out) hb); replace HO_1609001 := Aside0.mk (Kd.R_below (kg_ HO_1609001.out BK1640.out) hb); replace HO_1609002 := Aside0.mk (Kd.R_below (kg_ HO_1609002.out BK1640.out) hb); replace HO1624 := Aside0.mk (Kd.R_below (kg_ HO1624.out BK1640.out) hb); replace HO1627 := Aside0.mk (Kd.R_below (kg_ HO1627.out BK1640.out) hb); replace HO1630 := Aside0.mk (Kd.R_below (kg_ HO1630.out BK1640.out) hb); replace HO1633 := Aside0.mk (Kd.R_below (kg_ HO1633.out BK1640.out) hb); replace BK1589 := Aside0.mk (blk_below (g := gb1589) (o := .cells #[.slice Ao14 t1574.length co14, .slice Ao16 t1577.length co16, .slice Ao17 t1580.length co17, .int .i64 t1583, .int .i64 t1584, .string t1585, .string t1586, .int .i64 t1587] 81 (0, 0)) (by (with_reducible repeat (first | refine blk_drewN ?_ _ | refine blk_drew ?_ | refine blk_alloc ?_ _)); refine blk_far ?_ NB1589_1640.out _; (with_reducible repeat (first | refine blk_drewN ?_ _ | refine blk_drew ?_ | refine blk_alloc ?_ _)); refine blk_far ?_ NB1589_1640.out _; (with_reducible repeat (first | refine blk_drewN ?_ _ | refine blk_drew ?_ | refine blk_alloc ?_ _)); refine blk_far ?_ NB1589_1640.out _; (with_reducible repeat (first | refine blk_drewN ?_ _ | refine blk_drew ?_ | refine blk_alloc ?_ _)); refine blk_far ?_ NB1589_1640.out _; (with_reducible repeat (first | refine blk_drewN ?_ _ | refine blk_drew ?_ | refine blk_alloc ?_ _)); refine blk_far ?_ NB1589_1640.out _; (with_reducible repeat (first | refine blk_drewN ?_ _ | refine blk_drew ?_ | refine blk_alloc ?_ _)); refine blk_far ?_ NB1589_1640.out _; (with_reducible repeat (first | refine blk_drewN ?_ _ | refine blk_drew ?_ | refine blk_alloc ?_ _)); refine blk_far ?_ NB1589_1640.out _; (with_reducible repeat (first | refine blk_drewN ?_ _ | refine blk_drew ?_ | refine blk_alloc ?_ _)); refine blk_far ?_ NB1589_1640.out _; (with_reducible repeat (first | refine blk_drewN ?_ _ | refine blk_drew ?_ | refine blk_alloc ?_ _)); exact BK1589.out) hb); replace BK1608 := Aside0.mk (blk_below (g := gb1608) (o := .cells #[.slice Ao22 t1593.length co22, .slice Ao25 t1596.length co25, .slice Ao26 t1599.length co26, .int .i64 t1602, .int .i64 t1603, .string t1604, .string t1605, .int .i64 t1606] 81 (0, 0)) (by (with_reducible repeat (first | refine blk_drewN ?_ _ | refine blk_drew ?_ | refine blk_alloc ?_ _)); refine blk_far ?_ NB1608_1640.out _; (with_reducible repeat (first | refine blk_drewN ?_ _ | refine blk_drew ?_ | refine blk_alloc ?_ _)); refine blk_far ?_ NB1608_1640.out _; (with_reducible repeat (first | refine blk_drewN ?_ _ | refine blk_drew ?_ | refine blk_alloc ?_ _)); refine blk_far ?_ NB1608_1640.out _; (with_reducible repeat (first | refine blk_drewN ?_ _ | refine blk_drew ?_ | refine blk_alloc ?_ _)); refine blk_far ?_ NB1608_1640.out _; (with_reducible repeat (first | refine blk_drewN ?_ _ | refine blk_drew ?_ | refine blk_alloc ?_ _)); refine blk_far ?_ NB1608_1640.out _; (with_reducible repeat (first | refine blk_drewN ?_ _ | refine blk_drew ?_ | refine blk_alloc ?_ _)); refine blk_far ?_ NB1608_1640.out _; (with_reducible repeat (first | refine blk_drewN ?_ _ | refine blk_drew ?_ | refine blk_alloc ?_ _)); refine blk_far ?_ NB1608_1640.out _; (with_reducible repeat (first | refine blk_drewN ?_ _ | refine blk_drew ?_ | refine blk_alloc ?_ _)); refine blk_far ?_ NB1608_1640.out _; (with_reducible repeat (first | refine blk_drewN ?_ _ | refine blk_drew ?_ | refine blk_alloc ?_ _)); exact BK1608.out) hb); replace BK1640 := Aside0.mk (blk_below (g := gb1640) (o := .cells #[.slice Ao75 t1625.length co75, .slice Ao79 t1628.length co79, .slice Ao80 t1631.length co80, .int .i64 t1634, .int .i64 t1635, .string t1636, .string t1637, .int .i64 t1638] 81 (0, 0)) (by (with_reducible repeat (first | refine blk_drewN ?_ _ | refine blk_drew ?_ | refine blk_alloc ?_ _)); refine blk_put (cs := #[.slice Ao75 t1625.length co75, .slice Ao79 t1628.length co79, .slice Ao80 t1631.length co80, .int .i64 t1634, .int .i64 t1635, .string t1636, .string t1637, .int .i64 0]) ?_ 7 _ rfl; (with_reducible repeat (first | refine blk_drewN ?_ _ | refine blk_drew ?_ | refine blk_alloc ?_ _)); refine blk_put (cs := #[.slice Ao75 t1625.length co75, .slice Ao79 t1628.length co79, .slice Ao80 t1631.length co80, .int .i64 t1634, .int .i64 t1635, .string t1636, .string (⟨#[]⟩ : ByteArray), .int .i64 0]) ?_ 6 _ rfl; (with_reducible repeat (first | refine blk_drewN ?_ _ | refine blk_drew ?_ | refine blk_alloc ?_ _)); refine blk_put (cs := #[.slice Ao75 t1625.length co75, .slice Ao79 t1628.length co79, .slice Ao80 t1631.length co80, .int .i64 t1634, .int .i64 t1635, .string (⟨#[]⟩ : ByteArray), .string (⟨#[]⟩ : ByteArray), .int .i64 0]) ?_ 5 _ rfl; (with_reducible repeat (first | refine blk_drewN ?_ _ | refine blk_drew ?_ | refine blk_alloc ?_ _)); refine blk_put (cs := #[.slice Ao75 t1625.length co75, .slice Ao79 t1628.length co79, .slice Ao80 t1631.length co80, .int .i64 t1634, .int .i64 0, .string (⟨#[]⟩ : ByteArray), .string (⟨#[]⟩ : ByteArray), .int .i64 0]) ?_ 4 _ rfl; (with_reducible repeat (first | refine blk_drewN ?_ _ | refine blk_drew ?_ | refine blk_alloc ?_ _)); refine blk_put (cs := #[.slice Ao75 t1625.length co75, .slice Ao79 t1628.length co79, .slice Ao80 t1631.length co80, .int .i64 0, .int .i64 0, .string (⟨#[]⟩ : ByteArray), .string (⟨#[]⟩ : ByteArray), .int .i64 0]) ?_ 3 _ rfl; (with_reducible repeat (first | refine blk_drewN ?_ _ | refine blk_drew ?_ | refine blk_alloc ?_ _)); refine blk_put (cs := #[.slice Ao75 t1625.length co75, .slice Ao79 t1628.length co79, .slice none 0 0, .int .i64 0, .int .i64 0, .string (⟨#[]⟩ : ByteArray), .string (⟨#[]⟩ : ByteArray), .int .i64 0]) ?_ 2 _ rfl; (with_reducible repeat (first | refine blk_drewN ?_ _ | refine blk_drew ?_ | refine blk_alloc ?_ _)); refine blk_put (cs := #[.slice Ao75 t1625.length co75, .slice none 0 0, .slice none 0 0, .int .i64 0, .int .i64 0, .string (⟨#[]⟩ : ByteArray), .string (⟨#[]⟩ : ByteArray), .int .i64 0]) ?_ 1 _ rfl; (with_reducible repeat (first | refine blk_drewN ?_ _ | refine blk_drew ?_ | refine blk_alloc ?_ _)); refine blk_put (cs := #[.slice none 0 0, .slice none 0 0, .slice none 0 0, .int .i64 0, .int .i64 0, .string (⟨#[]⟩ : ByteArray), .string (⟨#[]⟩ : ByteArray), .int .i64 0]) ?_ 0 _ rfl; (with_reducible repeat (first | refine blk_drewN ?_ _ | refine blk_drew ?_ | refine blk_alloc ?_ _)); exact BK1640.out) hb); replace HB := Aside0.mk (below_step (lb3_ HB.out GE1589.out GE1608.out GE1640.out) hb); (try clear hb); (try clear hb2); (try clear hk); (try clear hi)))
             go_meet
             case rel => exact ⟨_, ((t1639 != t1588)), (by first | rfl | (simp; done) | (simp [*]; done)), H', ⟨by have := HJ8.out; have := HJ41.out; first | omega | exact Nat.le_refl _⟩, ⟨krm_ HO_1590000.out (fun _ hk => ⟨hk.1.1, hk.2⟩)⟩, ⟨krm_ HO_1590001.out (fun _ hk => ⟨hk.1.1.1, ⟨hk.1.1.2.1, ⟨hk.1.1.2.2, ⟨hk.1.2, hk.2⟩⟩⟩⟩)⟩, ⟨krm_ HO_1590002.out (fun _ hk => ⟨hk.1.1.1, ⟨hk.1.1.2.1, ⟨hk.1.1.2.2, ⟨hk.1.2, hk.2⟩⟩⟩⟩)⟩, ⟨krm_ HO_1609000.out (fun _ hk => ⟨hk.1.1, hk.2⟩)⟩, ⟨krm_ HO_1609001.out (fun _ hk => ⟨hk.1.1.1, ⟨hk.1.1.2.1, ⟨hk.1.1.2.2, ⟨hk.1.2, hk.2⟩⟩⟩⟩)⟩, ⟨krm_ HO_1609002.out (fun _ hk => ⟨hk.1.1.1, ⟨hk.1.1.2.1, ⟨hk.1.1.2.2, ⟨hk.1.2, hk.2⟩⟩⟩⟩)⟩, ⟨krm_ HO1627.out (fun _ hk => ⟨hk.1.1.2, hk.1.2⟩)⟩, ⟨krm_ HO1630.out (fun _ hk => ⟨hk.1.1.1.2, ⟨hk.1.1.2, ⟨hk.1.2, ⟨hk.2, hk.1.1.1.1⟩⟩⟩⟩)⟩, ⟨krm_ HO1633.out (fun _ hk => ⟨hk.1.1.1.2, ⟨hk.1.1.2, ⟨hk.1.2, ⟨hk.2, hk.1.1.1.1⟩⟩⟩⟩)⟩, ⟨bk_ BK1589.out⟩, ⟨bk_ BK1608.out⟩, ⟨bk_ BK1640.out⟩, ⟨lb3_ HB.out GE1589.out GE1608.out GE1640.out⟩⟩
            ·
             replace c82 := Bool.eq_false_iff.mpr c82; subst c82
             have H1 : (laws_FnExactNewConsole.j2 kj41 t1617 true t1618 t1619 t1620 t1602 t1603 t1604 t1605 t1606) = some r := by rw [if_neg (show ¬ (false = true) by decide)] at H; exact H
             clear H; have H := H1; clear H1; have H' := Aside0.mk H; clear H; have hnb89 := NB1640_1589.out; have hnc89 := NB1589_1640.out; have hnb90 := NB1640_1608.out; have hnc90 := NB1608_1640.out; obtain ⟨hcz91_0, hcz91_1, hcz91_2, hcz91_3, hcz91_4, hcz91_5, hcz91_6, hcz91_7⟩ := cz8_ BK1640.out; obtain ⟨hfz91_0, hfz91_1, hfz91_2, hfz91_3, hfz91_4, hfz91_5, hfz91_6, hfz91_7⟩ := fz8_ BK1640.out; have hnb92 := NB1589_1608.out; have hnc92 := NB1608_1589.out; obtain ⟨hcz93_0, hcz93_1, hcz93_2, hcz93_3, hcz93_4, hcz93_5, hcz93_6, hcz93_7⟩ := cz8_ BK1589.out; obtain ⟨hfz93_0, hfz93_1, hfz93_2, hfz93_3, hfz93_4, hfz93_5, hfz93_6, hfz93_7⟩ := fz8_ BK1589.out
             go_wp2_with (first | ((with_reducible refine gate_callee (f := 63) rfl ?_); refine ga_ (some 86) Try.func63 #[.agg #[.slice Ao75 t1625.length co75, .slice Ao79 t1628.length co79, .slice Ao80 t1631.length co80, .int .i64 t1634, .int .i64 t1635, .string t1636, .string t1637, .int .i64 t1638], .agg #[.slice Ao14 t1574.length co14, .slice Ao16 t1577.length co16, .slice Ao17 t1580.length co17, .int .i64 t1583, .int .i64 t1584, .string t1585, .string t1586, .int .i64 t1587]] ?_; (with_reducible refine (laws_eqConsole.calls kj41 _ _ t1625 _ _ t1628 _ _ t1631 t1634 t1635 t1636 t1637 t1638 _ _ t1574 _ _ t1577 _ _ t1580 t1583 t1584 t1585 t1586 t1587 false _ ?side1 ?side2 ?side3 ?side4 ?side5 ?side6 ?side7 ?side8 ?side9 ?side10 ?side11 ?side12 A81.out).mono ?_); (case side1 => refine (Kd.R_reads' (e := 37) (base := w.heap.size) (ok := fun k_ => (((True ∧ some k_ ≠ (.slice Ao14 t1574.length co14 : Value).ownBlock) ∧ some k_ ≠ (.slice Ao22 t1593.length co22 : Value).ownBlock) ∧ some k_ ≠ (.slice Ao72 t1622.length co72 : Value).ownBlock)) (n := t1625.length) (c := co75) ?_).2.2; exact (kg_ HO1627.out BK1640.out)); (case side2 => exact (Kd.R_reads' HO1627.out).2.1); (case side3 => refine (Kd.R_reads' (e := 4) (base := w.heap.size) (ok := fun k_ => ((((some k_ ≠ (.slice Ao80 t1631.length co80 : Value).ownBlock ∧ some k_ ≠ (.slice Ao16 t1577.length co16 : Value).ownBlock) ∧ some k_ ≠ (.slice Ao17 t1580.length co17 : Value).ownBlock) ∧ some k_ ≠ (.slice Ao25 t1596.length co25 : Value).ownBlock) ∧ some k_ ≠ (.slice Ao26 t1599.length co26 : Value).ownBlock)) (n := t1628.length) (c := co79) ?_).2.2; exact (kg_ HO1630.out BK1640.out)); (case side4 => exact (Kd.R_reads' HO1630.out).2.1); (case side5 => refine (Kd.R_reads' (e := 4) (base := w.heap.size) (ok := fun k_ => ((((some k_ ≠ (.slice Ao79 t1628.length co79 : Value).ownBlock ∧ some k_ ≠ (.slice Ao16 t1577.length co16 : Value).ownBlock) ∧ some k_ ≠ (.slice Ao17 t1580.length co17 : Value).ownBlock) ∧ some k_ ≠ (.slice Ao25 t1596.length co25 : Value).ownBlock) ∧ some k_ ≠ (.slice Ao26 t1599.length co26 : Value).ownBlock)) (n := t1631.length) (c := co80) ?_).2.2; exact (kg_ HO1633.out BK1640.out)); (case side6 => exact (Kd.R_reads' HO1633.out).2.1); (case side7 => refine (Kd.R_reads' (e := 37) (base := w.heap.size) (ok := fun k_ => ((some k_ ≠ (.slice Ao22 t1593.length co22 : Value).ownBlock ∧ some k_ ≠ (.slice Ao72 t1622.length co72 : Value).ownBlock) ∧ some k_ ≠ (.slice Ao75 t1625.length co75 : Value).ownBlock)) (n := t1574.length) (c := co14) ?_).2.2; exact (kg_ HO_1590000.out BK1640.out)); (case side8 => exact (Kd.R_reads' HO_1590000.out).2.1); (case side9 => refine (Kd.R_reads' (e := 4) (base := w.heap.size) (ok := fun k_ => (((some k_ ≠ (.slice Ao17 t1580.length co17 : Value).ownBlock ∧ (some k_ ≠ (.slice Ao25 t1596.length co25 : Value).ownBlock ∧ some k_ ≠ (.slice Ao26 t1599.length co26 : Value).ownBlock)) ∧ some k_ ≠ (.slice Ao79 t1628.length co79 : Value).ownBlock) ∧ some k_ ≠ (.slice Ao80 t1631.length co80 : Value).ownBlock)) (n := t1577.length) (c := co16) ?_).2.2; exact (kg_ HO_1590001.out BK1640.out)); (case side10 => exact (Kd.R_reads' HO_1590001.out).2.1); (case side11 => refine (Kd.R_reads' (e := 4) (base := w.heap.size) (ok := fun k_ => (((some k_ ≠ (.slice Ao16 t1577.length co16 : Value).ownBlock ∧ (some k_ ≠ (.slice Ao25 t1596.length co25 : Value).ownBlock ∧ some k_ ≠ (.slice Ao26 t1599.length co26 : Value).ownBlock)) ∧ some k_ ≠ (.slice Ao79 t1628.length co79 : Value).ownBlock) ∧ some k_ ≠ (.slice Ao80 t1631.length co80 : Value).ownBlock)) (n := t1580.length) (c := co17) ?_).2.2; exact (kg_ HO_1590002.out BK1640.out)); (case side12 => exact (Kd.R_reads' HO_1590002.out).2.1); rintro e w94 ⟨rfl, hb⟩; refine ⟨_, rfl, ?_⟩; replace HO_1590000 := Aside0.mk (Kd.R_below (kg_ HO_1590000.out BK1640.out) hb); replace HO_1590001 := Aside0.mk (Kd.R_below (kg_ HO_1590001.out BK1640.out) hb); replace HO_1590002 := Aside0.mk (Kd.R_below (kg_ HO_1590002.out BK1640.out) hb); replace HO_1609000 := Aside0.mk (Kd.R_below (kg_ HO_1609000.out BK1640.out) hb); replace HO_1609001 := Aside0.mk (Kd.R_below (kg_ HO_1609001.out BK1640.out) hb); replace HO_1609002 := Aside0.mk (Kd.R_below (kg_ HO_1609002.out BK1640.out) hb); replace HO1624 := Aside0.mk (Kd.R_below (kg_ HO1624.out BK1640.out) hb); replace HO1627 := Aside0.mk (Kd.R_below (kg_ HO1627.out BK1640.out) hb); replace HO1630 := Aside0.mk (Kd.R_below (kg_ HO1630.out BK1640.out) hb); replace HO1633 := Aside0.mk (Kd.R_below (kg_ HO1633.out BK1640.out) hb); replace BK1589 := Aside0.mk (blk_below (g := gb1589) (o := .cells #[.slice Ao14 t1574.length co14, .slice Ao16 t1577.length co16, .slice Ao17 t1580.length co17, .int .i64 t1583, .int .i64 t1584, .string t1585, .string t1586, .int .i64 t1587] 81 (0, 0)) (by (with_reducible repeat (first | refine blk_drewN ?_ _ | refine blk_drew ?_ | refine blk_alloc ?_ _)); refine blk_far ?_ NB1589_1640.out _; (with_reducible repeat (first | refine blk_drewN ?_ _ | refine blk_drew ?_ | refine blk_alloc ?_ _)); refine blk_far ?_ NB1589_1640.out _; (with_reducible repeat (first | refine blk_drewN ?_ _ | refine blk_drew ?_ | refine blk_alloc ?_ _)); refine blk_far ?_ NB1589_1640.out _; (with_reducible repeat (first | refine blk_drewN ?_ _ | refine blk_drew ?_ | refine blk_alloc ?_ _)); refine blk_far ?_ NB1589_1640.out _; (with_reducible repeat (first | refine blk_drewN ?_ _ | refine blk_drew ?_ | refine blk_alloc ?_ _)); refine blk_far ?_ NB1589_1640.out _; (with_reducible repeat (first | refine blk_drewN ?_ _ | refine blk_drew ?_ | refine blk_alloc ?_ _)); refine blk_far ?_ NB1589_1640.out _; (with_reducible repeat (first | refine blk_drewN ?_ _ | refine blk_drew ?_ | refine blk_alloc ?_ _)); refine blk_far ?_ NB1589_1640.out _; (with_reducible repeat (first | refine blk_drewN ?_ _ | refine blk_drew ?_ | refine blk_alloc ?_ _)); refine blk_far ?_ NB1589_1640.out _; (with_reducible repeat (first | refine blk_drewN ?_ _ | refine blk_drew ?_ | refine blk_alloc ?_ _)); exact BK1589.out) hb); replace BK1608 := Aside0.mk (blk_below (g := gb1608) (o := .cells #[.slice Ao22 t1593.length co22, .slice Ao25 t1596.length co25, .slice Ao26 t1599.length co26, .int .i64 t1602, .int .i64 t1603, .string t1604, .string t1605, .int .i64 t1606] 81 (0, 0)) (by (with_reducible repeat (first | refine blk_drewN ?_ _ | refine blk_drew ?_ | refine blk_alloc ?_ _)); refine blk_far ?_ NB1608_1640.out _; (with_reducible repeat (first | refine blk_drewN ?_ _ | refine blk_drew ?_ | refine blk_alloc ?_ _)); refine blk_far ?_ NB1608_1640.out _; (with_reducible repeat (first | refine blk_drewN ?_ _ | refine blk_drew ?_ | refine blk_alloc ?_ _)); refine blk_far ?_ NB1608_1640.out _; (with_reducible repeat (first | refine blk_drewN ?_ _ | refine blk_drew ?_ | refine blk_alloc ?_ _)); refine blk_far ?_ NB1608_1640.out _; (with_reducible repeat (first | refine blk_drewN ?_ _ | refine blk_drew ?_ | refine blk_alloc ?_ _)); refine blk_far ?_ NB1608_1640.out _; (with_reducible repeat (first | refine blk_drewN ?_ _ | refine blk_drew ?_ | refine blk_alloc ?_ _)); refine blk_far ?_ NB1608_1640.out _; (with_reducible repeat (first | refine blk_drewN ?_ _ | refine blk_drew ?_ | refine blk_alloc ?_ _)); refine blk_far ?_ NB1608_1640.out _; (with_reducible repeat (first | refine blk_drewN ?_ _ | refine blk_drew ?_ | refine blk_alloc ?_ _)); refine blk_far ?_ NB1608_1640.out _; (with_reducible repeat (first | refine blk_drewN ?_ _ | refine blk_drew ?_ | refine blk_alloc ?_ _)); exact BK1608.out) hb); replace BK1640 := Aside0.mk (blk_below (g := gb1640) (o := .cells #[.slice Ao75 t1625.length co75, .slice Ao79 t1628.length co79, .slice Ao80 t1631.length co80, .int .i64 t1634, .int .i64 t1635, .string t1636, .string t1637, .int .i64 t1638] 81 (0, 0)) (by (with_reducible repeat (first | refine blk_drewN ?_ _ | refine blk_drew ?_ | refine blk_alloc ?_ _)); refine blk_put (cs := #[.slice Ao75 t1625.length co75, .slice Ao79 t1628.length co79, .slice Ao80 t1631.length co80, .int .i64 t1634, .int .i64 t1635, .string t1636, .string t1637, .int .i64 0]) ?_ 7 _ rfl; (with_reducible repeat (first | refine blk_drewN ?_ _ | refine blk_drew ?_ | refine blk_alloc ?_ _)); refine blk_put (cs := #[.slice Ao75 t1625.length co75, .slice Ao79 t1628.length co79, .slice Ao80 t1631.length co80, .int .i64 t1634, .int .i64 t1635, .string t1636, .string (⟨#[]⟩ : ByteArray), .int .i64 0]) ?_ 6 _ rfl; (with_reducible repeat (first | refine blk_drewN ?_ _ | refine blk_drew ?_ | refine blk_alloc ?_ _)); refine blk_put (cs := #[.slice Ao75 t1625.length co75, .slice Ao79 t1628.length co79, .slice Ao80 t1631.length co80, .int .i64 t1634, .int .i64 t1635, .string (⟨#[]⟩ : ByteArray), .string (⟨#[]⟩ : ByteArray), .int .i64 0]) ?_ 5 _ rfl; (with_reducible repeat (first | refine blk_drewN ?_ _ | refine blk_drew ?_ | refine blk_alloc ?_ _)); refine blk_put (cs := #[.slice Ao75 t1625.length co75, .slice Ao79 t1628.length co79, .slice Ao80 t1631.length co80, .int .i64 t1634, .int .i64 0, .string (⟨#[]⟩ : ByteArray), .string (⟨#[]⟩ : ByteArray), .int .i64 0]) ?_ 4 _ rfl; (with_reducible repeat (first | refine blk_drewN ?_ _ | refine blk_drew ?_ | refine blk_alloc ?_ _)); refine blk_put (cs := #[.slice Ao75 t1625.length co75, .slice Ao79 t1628.length co79, .slice Ao80 t1631.length co80, .int .i64 0, .int .i64 0, .string (⟨#[]⟩ : ByteArray), .string (⟨#[]⟩ : ByteArray), .int .i64 0]) ?_ 3 _ rfl; (with_reducible repeat (first | refine blk_drewN ?_ _ | refine blk_drew ?_ | refine blk_alloc ?_ _)); refine blk_put (cs := #[.slice Ao75 t1625.length co75, .slice Ao79 t1628.length co79, .slice none 0 0, .int .i64 0, .int .i64 0, .string (⟨#[]⟩ : ByteArray), .string (⟨#[]⟩ : ByteArray), .int .i64 0]) ?_ 2 _ rfl; (with_reducible repeat (first | refine blk_drewN ?_ _ | refine blk_drew ?_ | refine blk_alloc ?_ _)); refine blk_put (cs := #[.slice Ao75 t1625.length co75, .slice none 0 0, .slice none 0 0, .int .i64 0, .int .i64 0, .string (⟨#[]⟩ : ByteArray), .string (⟨#[]⟩ : ByteArray), .int .i64 0]) ?_ 1 _ rfl; (with_reducible repeat (first | refine blk_drewN ?_ _ | refine blk_drew ?_ | refine blk_alloc ?_ _)); refine blk_put (cs := #[.slice none 0 0, .slice none 0 0, .slice none 0 0, .int .i64 0, .int .i64 0, .string (⟨#[]⟩ : ByteArray), .string (⟨#[]⟩ : ByteArray), .int .i64 0]) ?_ 0 _ rfl; (with_reducible repeat (first | refine blk_drewN ?_ _ | refine blk_drew ?_ | refine blk_alloc ?_ _)); exact BK1640.out) hb); replace HB := Aside0.mk (below_step (lb3_ HB.out GE1589.out GE1608.out GE1640.out) hb); (try clear hb); (try clear hb2); (try clear hk); (try clear hi)))
             go_meet
             case rel => exact ⟨_, (true), (by first | rfl | (simp; done) | (simp [*]; done)), H', ⟨by have := HJ8.out; have := HJ41.out; first | omega | exact Nat.le_refl _⟩, ⟨krm_ HO_1590000.out (fun _ hk => ⟨hk.1.1, hk.2⟩)⟩, ⟨krm_ HO_1590001.out (fun _ hk => ⟨hk.1.1.1, ⟨hk.1.1.2.1, ⟨hk.1.1.2.2, ⟨hk.1.2, hk.2⟩⟩⟩⟩)⟩, ⟨krm_ HO_1590002.out (fun _ hk => ⟨hk.1.1.1, ⟨hk.1.1.2.1, ⟨hk.1.1.2.2, ⟨hk.1.2, hk.2⟩⟩⟩⟩)⟩, ⟨krm_ HO_1609000.out (fun _ hk => ⟨hk.1.1, hk.2⟩)⟩, ⟨krm_ HO_1609001.out (fun _ hk => ⟨hk.1.1.1, ⟨hk.1.1.2.1, ⟨hk.1.1.2.2, ⟨hk.1.2, hk.2⟩⟩⟩⟩)⟩, ⟨krm_ HO_1609002.out (fun _ hk => ⟨hk.1.1.1, ⟨hk.1.1.2.1, ⟨hk.1.1.2.2, ⟨hk.1.2, hk.2⟩⟩⟩⟩)⟩, ⟨krm_ HO1627.out (fun _ hk => ⟨hk.1.1.2, hk.1.2⟩)⟩, ⟨krm_ HO1630.out (fun _ hk => ⟨hk.1.1.1.2, ⟨hk.1.1.2, ⟨hk.1.2, ⟨hk.2, hk.1.1.1.1⟩⟩⟩⟩)⟩, ⟨krm_ HO1633.out (fun _ hk => ⟨hk.1.1.1.2, ⟨hk.1.1.2, ⟨hk.1.2, ⟨hk.2, hk.1.1.1.1⟩⟩⟩⟩)⟩, ⟨bk_ BK1589.out⟩, ⟨bk_ BK1608.out⟩, ⟨bk_ BK1640.out⟩, ⟨lb3_ HB.out GE1589.out GE1608.out GE1640.out⟩⟩
           case rest =>
            clear HC65
            try clear c1
            try clear c2
            try clear p2
            try clear c3
            try clear c4
            try clear c4b0
            try clear c5
            try clear c6
            try clear c7
            try clear c8
            try clear c9
            try clear c14
            try clear c23
            try clear c28
            try clear c29
            try clear c33
            try clear c37
            try clear c38
            try clear c39
            try clear c40
            try clear c47
            try clear c47b0
            try clear c49
            try clear c50
            try clear c54
            try clear c58
            try clear c61
            try clear c61b0
            try clear c62
            try clear c62b0
            try clear c62b1
            try clear c63
            try clear c64
            try clear c65
            try clear c66
            try clear c76
            try clear c77
            try clear c82
            try clear c83
            try clear c84
            try clear c86
            try clear c89
            try clear c90
            try clear c92
            try clear hcz15_0 hcz15_1 hcz15_2 hcz15_3 hcz15_4 hcz15_5 hcz15_6 hcz15_7
            try clear hcz24_0 hcz24_1 hcz24_2 hcz24_3 hcz24_4 hcz24_5 hcz24_6 hcz24_7
            try clear hcz30_0 hcz30_1 hcz30_2 hcz30_3 hcz30_4 hcz30_5 hcz30_6 hcz30_7
            try clear hcz31_0 hcz31_1 hcz31_2 hcz31_3 hcz31_4 hcz31_5 hcz31_6 hcz31_7
            try clear hcz34_0 hcz34_1 hcz34_2 hcz34_3 hcz34_4 hcz34_5 hcz34_6 hcz34_7
            try clear hcz35_0 hcz35_1 hcz35_2 hcz35_3 hcz35_4 hcz35_5 hcz35_6 hcz35_7
            try clear hcz51_0 hcz51_1 hcz51_2 hcz51_3 hcz51_4 hcz51_5 hcz51_6 hcz51_7
            try clear hcz52_0 hcz52_1 hcz52_2 hcz52_3 hcz52_4 hcz52_5 hcz52_6 hcz52_7
            try clear hcz55_0 hcz55_1 hcz55_2 hcz55_3 hcz55_4 hcz55_5 hcz55_6 hcz55_7
            try clear hcz56_0 hcz56_1 hcz56_2 hcz56_3 hcz56_4 hcz56_5 hcz56_6 hcz56_7
            try clear hcz67_0 hcz67_1 hcz67_2 hcz67_3 hcz67_4 hcz67_5 hcz67_6 hcz67_7
            try clear hcz69_0 hcz69_1 hcz69_2 hcz69_3 hcz69_4 hcz69_5 hcz69_6 hcz69_7
            try clear hcz78_0 hcz78_1 hcz78_2 hcz78_3 hcz78_4 hcz78_5 hcz78_6 hcz78_7
            try clear hcz85_0 hcz85_1 hcz85_2 hcz85_3 hcz85_4 hcz85_5 hcz85_6 hcz85_7
            try clear hcz87_0 hcz87_1 hcz87_2 hcz87_3 hcz87_4 hcz87_5 hcz87_6 hcz87_7
            try clear hcz91_0 hcz91_1 hcz91_2 hcz91_3 hcz91_4 hcz91_5 hcz91_6 hcz91_7
            try clear hcz93_0 hcz93_1 hcz93_2 hcz93_3 hcz93_4 hcz93_5 hcz93_6 hcz93_7
            try clear hfz15_0 hfz15_1 hfz15_2 hfz15_3 hfz15_4 hfz15_5 hfz15_6 hfz15_7
            try clear hfz24_0 hfz24_1 hfz24_2 hfz24_3 hfz24_4 hfz24_5 hfz24_6 hfz24_7
            try clear hfz30_0 hfz30_1 hfz30_2 hfz30_3 hfz30_4 hfz30_5 hfz30_6 hfz30_7
            try clear hfz31_0 hfz31_1 hfz31_2 hfz31_3 hfz31_4 hfz31_5 hfz31_6 hfz31_7
            try clear hfz34_0 hfz34_1 hfz34_2 hfz34_3 hfz34_4 hfz34_5 hfz34_6 hfz34_7
            try clear hfz35_0 hfz35_1 hfz35_2 hfz35_3 hfz35_4 hfz35_5 hfz35_6 hfz35_7
            try clear hfz51_0 hfz51_1 hfz51_2 hfz51_3 hfz51_4 hfz51_5 hfz51_6 hfz51_7
            try clear hfz52_0 hfz52_1 hfz52_2 hfz52_3 hfz52_4 hfz52_5 hfz52_6 hfz52_7
            try clear hfz55_0 hfz55_1 hfz55_2 hfz55_3 hfz55_4 hfz55_5 hfz55_6 hfz55_7
            try clear hfz56_0 hfz56_1 hfz56_2 hfz56_3 hfz56_4 hfz56_5 hfz56_6 hfz56_7
            try clear hfz67_0 hfz67_1 hfz67_2 hfz67_3 hfz67_4 hfz67_5 hfz67_6 hfz67_7
            try clear hfz69_0 hfz69_1 hfz69_2 hfz69_3 hfz69_4 hfz69_5 hfz69_6 hfz69_7
            try clear hfz78_0 hfz78_1 hfz78_2 hfz78_3 hfz78_4 hfz78_5 hfz78_6 hfz78_7
            try clear hfz85_0 hfz85_1 hfz85_2 hfz85_3 hfz85_4 hfz85_5 hfz85_6 hfz85_7
            try clear hfz87_0 hfz87_1 hfz87_2 hfz87_3 hfz87_4 hfz87_5 hfz87_6 hfz87_7
            try clear hfz91_0 hfz91_1 hfz91_2 hfz91_3 hfz91_4 hfz91_5 hfz91_6 hfz91_7
            try clear hfz93_0 hfz93_1 hfz93_2 hfz93_3 hfz93_4 hfz93_5 hfz93_6 hfz93_7
            try clear p2
            obtain ⟨kq, x92_64, rfl, HA, HJ64, HO_1590000, HO_1590001, HO_1590002, HO_1609000, HO_1609001, HO_1609002, HO_1641000, HO_1641001, HO_1641002, BK1589, BK1608, BK1640, HB⟩ := hcut; have hl1609000_64 := (Kd.R_reads' HO_1609000.out).1
            rw [hl1609000_64] at HO_1609000
            (try simp only [hl1609000_64]); (try simp only [hl1609000_64] at BK1589); (try simp only [hl1609000_64] at BK1608); (try simp only [hl1609000_64] at BK1640); (try simp only [hl1609000_64] at HO_1590000); (try simp only [hl1609000_64] at HO_1590001); (try simp only [hl1609000_64] at HO_1590002); (try simp only [hl1609000_64] at HO_1609001); (try simp only [hl1609000_64] at HO_1609002); (try simp only [hl1609000_64] at HO_1641000); (try simp only [hl1609000_64] at HO_1641001); (try simp only [hl1609000_64] at HO_1641002); have hl1609001_64 := (Kd.R_reads' HO_1609001.out).1
            rw [hl1609001_64] at HO_1609001
            (try simp only [hl1609001_64]); (try simp only [hl1609001_64] at BK1589); (try simp only [hl1609001_64] at BK1608); (try simp only [hl1609001_64] at BK1640); (try simp only [hl1609001_64] at HO_1590000); (try simp only [hl1609001_64] at HO_1590001); (try simp only [hl1609001_64] at HO_1590002); (try simp only [hl1609001_64] at HO_1609000); (try simp only [hl1609001_64] at HO_1609002); (try simp only [hl1609001_64] at HO_1641000); (try simp only [hl1609001_64] at HO_1641001); (try simp only [hl1609001_64] at HO_1641002); have hl1609002_64 := (Kd.R_reads' HO_1609002.out).1
            rw [hl1609002_64] at HO_1609002
            (try simp only [hl1609002_64]); (try simp only [hl1609002_64] at BK1589); (try simp only [hl1609002_64] at BK1608); (try simp only [hl1609002_64] at BK1640); (try simp only [hl1609002_64] at HO_1590000); (try simp only [hl1609002_64] at HO_1590001); (try simp only [hl1609002_64] at HO_1590002); (try simp only [hl1609002_64] at HO_1609000); (try simp only [hl1609002_64] at HO_1609001); (try simp only [hl1609002_64] at HO_1641000); (try simp only [hl1609002_64] at HO_1641001); (try simp only [hl1609002_64] at HO_1641002)
            cases kq with
            | zero => exact absurd HA.out (by simp [laws_FnExactNewConsole.j2])
            | succ kj64 =>
             have H := HA.out; clear HA; simp only [laws_FnExactNewConsole.j2] at H
             by_cases c95 : x92_64 = true
             ·
              subst c95
              have H1 : (none) = some r := by rw [if_pos rfl] at H; exact H
              clear H; have H := H1; clear H1; exact absurd H (by simp)
             ·
              replace c95 := Bool.eq_false_iff.mpr c95; subst c95
              have H1 : ((laws_heldConsole.f kj64 t1618 t1619 t1620 t1602 t1603 t1604 t1605 t1606 1).bind fun t1642 => (if t1642 < 0 then (none) else (if t1642 = t1617 then (some true) else (none)))) = some r := by rw [if_neg (show ¬ (false = true) by decide)] at H; exact H
              clear H; have H := H1; clear H1; replace H := Option.bind_eq_some_iff.mp H; obtain ⟨t1642, A960, H⟩ := H; replace H : (if t1642 < 0 then (none) else (if t1642 = t1617 then (some true) else (none))) = some r := H; have A96 := Aside0.mk A960; clear A960
              by_cases c97 : t1642 < 0
              ·
               rw [if_pos c97] at H
               exact absurd H (by simp)
              ·
               rw [if_neg c97] at H
               have c97b0 : decide (t1642 < 0) = false := decide_eq_false c97; clear c97
               by_cases c98 : t1642 = t1617
               ·
                rw [if_pos c98] at H
                have c98b0 : (t1642 == t1617) = true := beq_iff_eq.mpr c98; have c98b1 : (t1642 != t1617) = false := bne_eq_false_iff_eq.mpr c98; clear c98; obtain rfl := Option.some.inj H; have hnb99 := NB1608_1589.out; have hnc99 := NB1589_1608.out; have hnb100 := NB1608_1640.out; have hnc100 := NB1640_1608.out; obtain ⟨hcz101_0, hcz101_1, hcz101_2, hcz101_3, hcz101_4, hcz101_5, hcz101_6, hcz101_7⟩ := cz8_ BK1608.out; obtain ⟨hfz101_0, hfz101_1, hfz101_2, hfz101_3, hfz101_4, hfz101_5, hfz101_6, hfz101_7⟩ := fz8_ BK1608.out
                go_wp2_with (first | ((with_reducible refine gate_callee (f := 65) rfl ?_); refine ga_ (some 95) Try.func65 #[.agg #[.slice Ao22 t1618.length co22, .slice Ao25 t1619.length co25, .slice Ao26 t1620.length co26, .int .i64 t1602, .int .i64 t1603, .string t1604, .string t1605, .int .i64 t1606], .int .i64 1] ?_; (with_reducible refine (laws_heldConsole.calls kj64 _ _ t1618 _ _ t1619 _ _ t1620 t1602 t1603 t1604 t1605 t1606 1 t1642 _ ?side1 ?side2 ?side3 ?side4 ?side5 ?side6 A96.out).mono ?_); (case side1 => exact kc_ (Kd.R_reads' HO_1609000.out).2.2); (case side2 => exact (Kd.R_reads' HO_1609000.out).2.1); (case side3 => exact kc_ (Kd.R_reads' HO_1609001.out).2.2); (case side4 => exact (Kd.R_reads' HO_1609001.out).2.1); (case side5 => exact kc_ (Kd.R_reads' HO_1609002.out).2.2); (case side6 => exact (Kd.R_reads' HO_1609002.out).2.1); rintro e w102 ⟨rfl, hb⟩; refine ⟨_, rfl, ?_⟩; replace HO_1590000 := Aside0.mk (Kd.R_below (kr_ HO_1590000.out) hb); replace HO_1590001 := Aside0.mk (Kd.R_below (kr_ HO_1590001.out) hb); replace HO_1590002 := Aside0.mk (Kd.R_below (kr_ HO_1590002.out) hb); replace HO_1609000 := Aside0.mk (Kd.R_below (kr_ HO_1609000.out) hb); replace HO_1609001 := Aside0.mk (Kd.R_below (kr_ HO_1609001.out) hb); replace HO_1609002 := Aside0.mk (Kd.R_below (kr_ HO_1609002.out) hb); replace HO_1641000 := Aside0.mk (Kd.R_below (kr_ HO_1641000.out) hb); replace HO_1641001 := Aside0.mk (Kd.R_below (kr_ HO_1641001.out) hb); replace HO_1641002 := Aside0.mk (Kd.R_below (kr_ HO_1641002.out) hb); replace BK1589 := Aside0.mk (bb_ (bk_ BK1589.out) hb); replace BK1608 := Aside0.mk (bb_ (bk_ BK1608.out) hb); replace BK1640 := Aside0.mk (bb_ (bk_ BK1640.out) hb); replace HB := Aside0.mk (below_step (lb3_ HB.out GE1589.out GE1608.out GE1640.out) hb); (try clear hb); (try clear hb2); (try clear hk); (try clear hi)))
                go_ret
                exact ⟨rr_, lb3_ HB.out GE1589.out GE1608.out GE1640.out⟩
               ·
                rw [if_neg c98] at H
                exact absurd H (by simp)
          ·
           rw [if_neg c62] at H
           exact absurd H (by simp)
     ·
      replace c40 := Bool.eq_false_iff.mpr c40
      subst c40
      have H1 : (none) = some r := by rw [if_neg (show ¬ (false = true) by decide)] at H; exact H
      clear H
      have H := H1
      clear H1
      exact absurd H (by simp)
end Go.Proofs.Ythmjimboajmhmaa.Pr

namespace Go.Proofs.YthmjimboajmhmaaW.Opens
open Go.ChangeShapes Go.WideShapes Go.RowKit
open Go.Deep (open_slice choose_lt)
open Go.Proofs.YthmjimboajmhmaaW.PrintWords
set_option linter.unusedVariables false
set_option linter.unusedSimpArgs false
def Opn {α : Type} (P : Program) (t : TypeId) (d : Kd α) (wf : α → Prop) : Prop :=
 P.cellsOf t = d.sz ∧ ∀ (H : Type) (enc : TypeId × Value → H) (W : World) (fuel : Nat) (cs : List Value) (x : DataW H × List MemPlace),
  DataW.trod enc P W 0 (fun _ => true) true fuel t cs = some x → (∀ n ∈ x.1.weights P t, n ≤ reachBytes) → ∃ y, d.K W y cs ∧ wf y
theorem Opn.int {P : Program} {t : TypeId} {k : IntKind} (hc : P.cellsOf t = 1) (ht : P.underlying t = some (.int k)) : Opn P t (Kd.int k) (fun n => (Lit.int k n).wf = true) :=
 ⟨hc, fun H enc W fuel cs x h _ => by
  obtain ⟨m, rfl, rfl, hw⟩ := DataW.trod_int ht h
  exact ⟨m, rfl, hw⟩⟩
theorem Opn.bool {P : Program} {t : TypeId} (hc : P.cellsOf t = 1) (ht : P.underlying t = some .bool) : Opn P t Kd.bool (fun _ => True) :=
 ⟨hc, fun H enc W fuel cs x h _ => by
  obtain ⟨m, rfl, rfl⟩ := DataW.trod_bool ht h
  exact ⟨m, rfl, trivial⟩⟩
theorem Opn.string {P : Program} {t : TypeId} (hc : P.cellsOf t = 1) (ht : P.underlying t = some .string) : Opn P t Kd.string (fun s => s.size ≤ 140737488351232) :=
 ⟨hc, fun H enc W fuel cs x h hw => by
  obtain ⟨m, rfl, rfl, hm⟩ := DataW.trod_string ht h
  have := hw m.data.toList.length (by simp [DataW.weights])
  rw [Array.length_toList] at this
  exact ⟨m, rfl, this⟩⟩
theorem weightsAll_mem {H : Type} {P : Program} {e : TypeId} : ∀ {l : List (DataW H)} {d : DataW H}, d ∈ l → ∀ n ∈ d.weights P e, n ∈ DataW.weightsAll P e l
 | _ :: r, d, h, n, hn => by
  simp only [DataW.weightsAll, List.mem_append]
  rcases List.mem_cons.1 h with rfl | h
  ·
   exact .inl hn
  ·
   exact .inr (weightsAll_mem h n hn)
theorem Opn.slice {α : Type} (z : α) {P : Program} {t e : TypeId} {d : Kd α} {wf : α → Prop} {B : Nat} (hc : P.cellsOf t = 1) (ht : P.underlying t = some (.slice e)) (hB : P.bytesOf e = B) (h : Opn P e d wf) :
  Opn P t (Kd.slice e d) (fun xs => xs.length ≤ maxLen ∧ xs.length * B ≤ 140737488351232 ∧ ∀ y ∈ xs, wf y) :=
 ⟨hc, fun H enc W fuel cs x hf hw => by
  haveI : Inhabited α := ⟨z⟩
  rcases open_slice ht hf with ⟨rfl, rfl⟩ | ⟨a, len, cap, m, n, D, Pl, rfl, _, hl, hm, hmm, rfl, each⟩
  ·
   exact ⟨[], ⟨none, 0, rfl, Nat.le_refl _, rfl, by simp, fun h => absurd h (Nat.lt_irrefl 0)⟩, by simp, by simp, by simp⟩
  ·
   rw [if_pos rfl] at hmm
   subst hmm
   have hw0 : ∀ n ∈ DataW.weights P t (DataW.slice (H := H) ((List.range len).map D) ((List.range (m - len)).map fun j => D (len + j))), n ≤ reachBytes := hw
   have hww : ∀ i, i < len → ∀ n ∈ (D i).weights P e, n ≤ reachBytes := by
    intro i hi n hn
    refine hw0 n ?_
    simp only [DataW.weights, ht, List.mem_cons, List.mem_append]
    exact .inr (.inl (weightsAll_mem (List.mem_map.2 ⟨i, List.mem_range.2 hi, rfl⟩) n hn))
   have hB2 : len * B ≤ 140737488351232 := by
    have := hw0 ((len + (m - len)) * B) (by simp [DataW.weights, ht, hB])
    refine Nat.le_trans (Nat.mul_le_mul_right _ (by omega)) this
   have hx : ∀ i, i < len → ∃ y, ∃ c : List Value, c.length = d.sz ∧ d.K W y c ∧ wf y ∧ ∀ j u, c[j]? = some u → W.cell? (a.add (i * d.sz + j)) = some u := by
    intro i hi
    obtain ⟨cs', h1, h2⟩ := each i (by omega)
    obtain ⟨y, hy, hwy⟩ := h.2 H enc W n cs' _ h2 (hww i hi)
    obtain ⟨_, hlen, hcell⟩ := World.cells?_some h1
    rw [h.1] at hlen hcell
    refine ⟨y, cs', hlen, hy, hwy, fun j u hu => ?_⟩
    have hj : j < d.sz := by
     have := (List.getElem?_eq_some_iff.1 hu).1
     omega
    have := hcell j hj
    rw [add_add] at this
    exact this.trans hu
   obtain ⟨f, hf'⟩ := choose_lt hx
   refine ⟨(List.range len).map f, ⟨some a, m, by simp, by simpa using hl, by simp, by simp only [maxLen] at hm; simp; omega, fun _ => ⟨a, rfl, fun j p hj => ?_⟩⟩, ?_, ?_, ?_⟩
   ·
    rw [List.getElem?_map] at hj
    have hj' : j < len := by
     by_cases hjl : j < len
     ·
      exact hjl
     ·
      rw [List.getElem?_eq_none (by simp; omega)] at hj
      cases hj
    rw [List.getElem?_range hj'] at hj
    obtain rfl := Option.some.inj hj
    obtain ⟨c, h1, h2, _, h3⟩ := hf' j hj'
    exact ⟨c, h1, h2, h3⟩
   ·
    simp; omega
   ·
    simpa using hB2
   ·
    intro y hy
    obtain ⟨i, hi, rfl⟩ := List.mem_map.1 hy
    obtain ⟨c, _, _, h2, _⟩ := hf' i (List.mem_range.1 hi)
    exact h2⟩
def FOpn {α : Type} (P : Program) (fs : List Field) (off : Nat) (d : Kd α) (wf : α → Prop) : Prop :=
 ∀ (H : Type) (enc : TypeId × Value → H) (W : World) (fuel : Nat) (cs : List Value) (xs : List (DataW H × List MemPlace)),
  xs.length = fs.length → (∀ (i : Nat) (f : Field), fs[i]? = some f → DataW.trod enc P W 0 (fun _ => true) true fuel f.type ((cs.drop f.offset).take (P.cellsOf f.type)) = xs[i]?) →
  (∀ n ∈ DataW.weightsEach P (fs.map (·.type)) (xs.map (·.1)), n ≤ reachBytes) → ∃ y, d.K W y ((cs.drop off).take d.sz) ∧ wf y
theorem FOpn.one {α : Type} {P : Program} {f : Field} {off : Nat} {d : Kd α} {wf : α → Prop} (ho : f.offset = off) (h : Opn P f.type d wf) : FOpn P [f] off d wf := by
 intro H enc W fuel cs xs hl hx hw
 match xs, hl with
 | [x], _ =>
  have h0 := hx 0 f rfl
  rw [ho, h.1] at h0
  exact h.2 H enc W fuel _ x h0 (fun n hn => hw n (by simp only [List.map, DataW.weightsEach, List.mem_append]; exact .inl hn))
theorem FOpn.cons {α β : Type} {P : Program} {f : Field} {fs : List Field} {off : Nat} {d : Kd α} {d' : Kd β} {wf : α → Prop} {wf' : β → Prop} (ho : f.offset = off) (h : Opn P f.type d wf) (h' : FOpn P fs (off + d.sz) d' wf') :
  FOpn P (f :: fs) off (Kd.pair d d') (fun x => wf x.1 ∧ wf' x.2) := by
 intro H enc W fuel cs xs hl hx hw
 match xs, hl with
 | x :: xs, hl =>
  have h0 := hx 0 f rfl
  rw [ho, h.1] at h0
  have hw' : ∀ n ∈ x.1.weights P f.type ++ DataW.weightsEach P (fs.map (·.type)) (xs.map (·.1)), n ≤ reachBytes := hw
  obtain ⟨y, hy, hwy⟩ := h.2 H enc W fuel _ x h0 (fun n hn => hw' n (List.mem_append_left _ hn))
  obtain ⟨y', hy', hwy'⟩ := h' H enc W fuel cs xs (by simpa using hl) (fun i f' hf' => hx (i + 1) f' (by simpa using hf')) (fun n hn => hw' n (List.mem_append_right _ hn))
  refine ⟨(y, y'), ⟨_, _, ?_, hy, hy'⟩, hwy, hwy'⟩
  show (cs.drop off).take (d.sz + d'.sz) = _
  rw [List.take_add, List.drop_drop]
theorem Opn.struct {α β : Type} {P : Program} {t : TypeId} {fs : Array Field} {d : Kd α} {wf : α → Prop} (f : β → α) (g : α → β) (hfg : ∀ x, f (g x) = x) (hc : P.cellsOf t = d.sz) (ht : P.underlying t = some (.struct fs)) (h : FOpn P fs.toList 0 d wf) :
  Opn P t (Kd.iso d f) (fun x => wf (f x)) :=
 ⟨hc, fun H enc W fuel cs x hf hw => by
  obtain ⟨xs, n, rfl, rfl, hl, hxs, each⟩ := DataW.trod_struct ht hf
  obtain ⟨y, hy, hwy⟩ := h H enc W n cs xs (by simpa using hxs) (fun i f' hf' => each i f' (by simpa using hf')) (fun n hn => hw n (by simp only [DataW.weights, ht]; exact hn))
  rw [List.drop_zero, List.take_of_length_le (by rw [hl, hc]; exact Nat.le_refl _)] at hy
  exact ⟨g y, (by rw [← hfg y] at hy; exact hy), (by rw [← hfg y] at hwy; exact hwy)⟩⟩
theorem par_weights {H : Type} {P : Program} {ts : List TypeId} {ds : List (DataW H)} {j : Nat} {t : TypeId} {d : DataW H} (h : (DataW.weightsEach P ts ds).all (· ≤ reachBytes) = true) (ht : ts[j]? = some t) (hd : ds[j]? = some d) :
  ∀ n ∈ d.weights P t, n ≤ reachBytes := fun n hn => of_decide_eq_true (List.all_eq_true.1 h n (DataW.weights_mem_each ht hd n hn))
theorem par_slice {α : Type} {H : Type} {enc : TypeId × Value → H} {P : Program} {W : World} {r : Reach} {b0 : Nat} {t e : TypeId} {d : Kd α} {wf : List α → Prop} {v : Value} {D : DataW H} {ps : List MemPlace}
  (ht : P.underlying t = some (.slice e)) (ho : Opn P t (Kd.slice e d) wf) (hv : Value.okWide P W r b0 t v) (hd : DataW.Trod enc P W 0 (fun _ => true) true t v D ps) (hw : ∀ n ∈ D.weights P t, n ≤ reachBytes) :
  ∃ (A : Option Addr) (l : List α) (c : Nat), v = .slice A l.length c ∧ l.length ≤ c ∧ d.C W A l.length l ∧ wf l := by
 obtain ⟨A, len, cap, rfl⟩ := okWide_slice ht hv
 obtain ⟨fuel, hf⟩ := hd
 obtain ⟨l, ⟨A', c, he, hl, hC⟩, hwl⟩ := ho.2 H enc W fuel _ _ hf hw
 have he' : [Value.slice A len cap] = [.slice A' l.length c] := he
 simp only [List.cons.injEq, Value.slice.injEq, and_true] at he'
 obtain ⟨rfl, rfl, rfl⟩ := he'
 exact ⟨_, l, _, rfl, hl, hC, hwl⟩
end Go.Proofs.YthmjimboajmhmaaW.Opens

namespace Go.Proofs.Ythmjimboajmhmaa.Pr
open Go.RowKit Go.Proofs.YthmjimboajmhmaaW.PrintWords Go.Proofs.YthmjimboajmhmaaW.PrintLast Go.Proofs.YthmjimboajmhmaaW.Opens
set_option linter.unusedVariables false
def wf65 (x : S65) : Prop := (Lit.int .i64 x.f0).wf = true ∧ (Lit.int .i64 x.f1).wf = true ∧ (Lit.int .i64 x.f2).wf = true ∧ (Lit.int .i64 x.f3).wf = true ∧ (Lit.int .i64 x.f4).wf = true
theorem opn65 : Opn Try.prog 65 k65 wf65 := Opn.struct (fun x : S65 => (x.f0, x.f1, x.f2, x.f3, x.f4)) (fun p => ⟨p.1, p.2.1, p.2.2.1, p.2.2.2.1, p.2.2.2.2⟩) (fun _ => rfl) (by kernel_rfl) Try.underlying65 (FOpn.cons rfl (Opn.int (by kernel_rfl) Try.underlying3) (FOpn.cons rfl (Opn.int (by kernel_rfl) Try.underlying3) (FOpn.cons rfl (Opn.int (by kernel_rfl) Try.underlying3) (FOpn.cons rfl (Opn.int (by kernel_rfl) Try.underlying3) (FOpn.one rfl (Opn.int (by kernel_rfl) Try.underlying3))))))
def wfL65 (l : List S65) : Prop := l.length ≤ maxLen ∧ l.length * 40 ≤ 140737488351232 ∧ ∀ y ∈ l, wf65 y
theorem opnL22 : Opn Try.prog 22 (Kd.slice 65 k65) wfL65 := Opn.slice z65 (by kernel_rfl) Try.underlying22 (by kernel_rfl) opn65
def FnExactNewConsole.Pure : Prop := ∀ (x0 : (List S65)) (x1 : Int), wfL65 x0 → (Lit.int .i64 x1).wf = true → ∃ k, laws_FnExactNewConsole.f k x0 x1 = some true
end Go.Proofs.Ythmjimboajmhmaa.Pr

namespace Go.Proofs.Ythmjimboajmhmaa.Pr.Pure
open Go.RowKit Go.Proofs.YthmjimboajmhmaaW.PrintWords Go.Proofs.YthmjimboajmhmaaW.PrintLast Go.Proofs.YthmjimboajmhmaaW.PrintMore
set_option linter.unusedVariables false
set_option linter.unusedSimpArgs false
def FAR : Int := 1073741824
structure Arc where
 a : Int
 b : Int
 t : Int
def step1 (D : List Int) (a b t : Int) : List Int := if rd D a + t < rd D b then D.set b.toNat (rd D a + t) else D
def rnd (A : List Arc) (D : List Int) : List Int := A.foldl (fun D e => step1 D e.a e.b e.t) D
def it (A : List Arc) : Nat → List Int → List Int
 | 0, D => D
 | k + 1, D => rnd A (it A k D)
def In8 (i : Int) : Prop := 0 ≤ i ∧ i < 8
def OkA (A : List Arc) : Prop := ∀ e, e ∈ A → In8 e.a ∧ In8 e.b ∧ 1 ≤ e.t ∧ e.t ≤ 500
theorem rd_set {D : List Int} (hl : D.length = 8) {b i : Int} (hb : In8 b) (hi : In8 i) (x : Int) : rd (D.set b.toNat x) i = if i = b then x else rd D i := by
 unfold rd
 obtain ⟨hb0, hb1⟩ := hb
 obtain ⟨hi0, hi1⟩ := hi
 rw [List.getD_eq_getElem?_getD, List.getD_eq_getElem?_getD]
 by_cases e : i = b
 ·
  subst e
  rw [if_pos rfl, List.getElem?_set_self (by omega)]
  rfl
 ·
  rw [if_neg e, List.getElem?_set_ne (by omega)]
theorem len_step1 (D : List Int) (a b t : Int) : (step1 D a b t).length = D.length := by
 unfold step1
 split
 ·
  rw [List.length_set]
 ·
  rfl
theorem len_rnd (A : List Arc) : ∀ D : List Int, (rnd A D).length = D.length := by
 induction A with
 | nil => intro D; rfl
 | cons e A ih =>
  intro D
  show (rnd A (step1 D e.a e.b e.t)).length = _
  rw [ih, len_step1]
theorem rd_step1 {D : List Int} (hl : D.length = 8) {a b i : Int} (hb : In8 b) (hi : In8 i) (t : Int) : rd (step1 D a b t) i = if i = b ∧ rd D a + t < rd D b then rd D a + t else rd D i := by
 unfold step1
 by_cases h : rd D a + t < rd D b
 ·
  rw [if_pos h, rd_set hl hb hi]
  by_cases e : i = b
  ·
   rw [if_pos e, if_pos ⟨e, h⟩]
  ·
   rw [if_neg e, if_neg (fun z => e z.1)]
 ·
  rw [if_neg h, if_neg (fun z => h z.2)]
theorem step1_le {D : List Int} (hl : D.length = 8) {a b i : Int} (hb : In8 b) (hi : In8 i) (t : Int) : rd (step1 D a b t) i ≤ rd D i := by
 rw [rd_step1 hl hb hi]
 split
 ·
  rename_i h
  obtain ⟨rfl, h⟩ := h
  omega
 ·
  omega
theorem rnd_le (A : List Arc) (hA : OkA A) : ∀ (D : List Int), D.length = 8 → ∀ i, In8 i → rd (rnd A D) i ≤ rd D i := by
 induction A with
 | nil => intro D _ i _; exact Int.le_refl _
 | cons e A ih =>
  intro D hl i hi
  have h1 := ih (fun x hx => hA x (List.mem_cons_of_mem _ hx)) (step1 D e.a e.b e.t) (by rw [len_step1, hl]) i hi
  have h2 := step1_le (a := e.a) (t := e.t) hl (hA e List.mem_cons_self).2.1 hi
  exact Int.le_trans h1 h2
theorem rnd_arc (A : List Arc) (hA : OkA A) : ∀ (D : List Int), D.length = 8 → ∀ e, e ∈ A → rd (rnd A D) e.b ≤ rd D e.a + e.t := by
 induction A with
 | nil => intro D _ e he; cases he
 | cons x A ih =>
  intro D hl e he
  have hA' : OkA A := fun x hx => hA x (List.mem_cons_of_mem _ hx)
  have hx := hA x List.mem_cons_self
  have hl' : (step1 D x.a x.b x.t).length = 8 := by rw [len_step1, hl]
  show rd (rnd A (step1 D x.a x.b x.t)) e.b ≤ _
  rcases List.mem_cons.1 he with rfl | he'
  ·
   have h1 := rnd_le A hA' _ hl' e.b hx.2.1
   rw [rd_step1 hl hx.2.1 hx.2.1] at h1
   split at h1
   ·
    exact h1
   ·
    rename_i h
    have : ¬ (rd D e.a + e.t < rd D e.b) := fun z => h ⟨rfl, z⟩
    omega
  ·
   have h1 := ih hA' _ hl' e he'
   have h2 := step1_le (a := x.a) (t := x.t) hl hx.2.1 (hA e he).1
   omega
structure Inv (A : List Arc) (D : List Int) : Prop where
 len : D.length = 8
 lo : ∀ i, In8 i → 0 ≤ rd D i
 hi : ∀ i, In8 i → rd D i ≤ FAR
 zero : rd D 0 = 0
 tight : ∀ v, In8 v → v ≠ 0 → rd D v < FAR → ∃ e, e ∈ A ∧ e.b = v ∧ rd D e.a + e.t ≤ rd D v
theorem step_inv {A : List Arc} (hA : OkA A) {D : List Int} (h : Inv A D) {e : Arc} (he : e ∈ A) : Inv A (step1 D e.a e.b e.t) := by
 obtain ⟨ha, hb, ht, ht'⟩ := hA e he
 have hz : In8 0 := ⟨by omega, by omega⟩
 have la := h.lo e.a ha
 have hle := fun i hi => step1_le (a := e.a) (t := e.t) h.len hb (i := i) hi
 refine ⟨by rw [len_step1, h.len], fun i hi => ?_, fun i hi => Int.le_trans (hle i hi) (h.hi i hi), ?_, fun v hv hv0 hf => ?_⟩
 ·
  rw [rd_step1 h.len hb hi]
  split
  ·
   omega
  ·
   exact h.lo i hi
 ·
  rw [rd_step1 h.len hb hz]
  split
  ·
   rename_i z
   obtain ⟨z1, z2⟩ := z
   rw [← z1, h.zero] at z2
   omega
  ·
   exact h.zero
 ·
  by_cases hc : v = e.b ∧ rd D e.a + e.t < rd D e.b
  ·
   refine ⟨e, he, hc.1.symm, ?_⟩
   have := hle e.a ha
   have h2 := rd_step1 (a := e.a) (t := e.t) h.len hb hv
   rw [if_pos hc] at h2
   omega
  ·
   have h2 := rd_step1 (a := e.a) (t := e.t) h.len hb hv
   rw [if_neg hc] at h2
   rw [h2] at hf ⊢
   obtain ⟨x, hx, hxb, hxl⟩ := h.tight v hv hv0 hf
   exact ⟨x, hx, hxb, by have := hle x.a (hA x hx).1; omega⟩
theorem rnd_inv' {A : List Arc} (hA : OkA A) (B : List Arc) : (∀ e, e ∈ B → e ∈ A) → ∀ D, Inv A D → Inv A (rnd B D) := by
 induction B with
 | nil => intro _ D h; exact h
 | cons e B ih =>
  intro hB D h
  exact ih (fun x hx => hB x (List.mem_cons_of_mem _ hx)) _ (step_inv hA h (hB e List.mem_cons_self))
theorem rnd_inv {A : List Arc} (hA : OkA A) {D : List Int} (h : Inv A D) : Inv A (rnd A D) := rnd_inv' hA A (fun _ he => he) D h
theorem it_inv {A : List Arc} (hA : OkA A) {D : List Int} (h : Inv A D) : ∀ k, Inv A (it A k D)
 | 0 => h
 | k + 1 => rnd_inv hA (it_inv hA h k)
theorem cases8 {i : Int} (h : In8 i) : i = 0 ∨ i = 1 ∨ i = 2 ∨ i = 3 ∨ i = 4 ∨ i = 5 ∨ i = 6 ∨ i = 7 := by
 obtain ⟨h1, h2⟩ := h
 omega
theorem ext8 {D E : List Int} (hD : D.length = 8) (hE : E.length = 8) (h : ∀ i, In8 i → rd D i = rd E i) : D = E := by
 apply List.ext_getElem (by omega)
 intro i h1 h2
 have := h (i : Int) ⟨by omega, by omega⟩
 unfold rd at this
 rw [Int.toNat_natCast, List.getD_eq_getElem?_getD, List.getD_eq_getElem?_getD, List.getElem?_eq_getElem h1, List.getElem?_eq_getElem h2] at this
 exact this
def sum8 (D : List Int) : Int := rd D 0 + rd D 1 + rd D 2 + rd D 3 + rd D 4 + rd D 5 + rd D 6 + rd D 7
theorem le_or {D E : List Int} (hD : D.length = 8) (hE : E.length = 8) (h : ∀ i, In8 i → rd E i ≤ rd D i) : E = D ∨ sum8 E < sum8 D := by
 by_cases hq : ∀ i, In8 i → rd E i = rd D i
 ·
  exact .inl (ext8 hE hD hq)
 ·
  right
  obtain ⟨i, hi⟩ := Classical.not_forall.1 hq
  obtain ⟨hi8, hne⟩ := Classical.not_imp.1 hi
  have hlt : rd E i < rd D i := by have := h i hi8; omega
  have h0 := h 0 ⟨by omega, by omega⟩
  have h1 := h 1 ⟨by omega, by omega⟩
  have h2 := h 2 ⟨by omega, by omega⟩
  have h3 := h 3 ⟨by omega, by omega⟩
  have h4 := h 4 ⟨by omega, by omega⟩
  have h5 := h 5 ⟨by omega, by omega⟩
  have h6 := h 6 ⟨by omega, by omega⟩
  have h7 := h 7 ⟨by omega, by omega⟩
  unfold sum8
  rcases cases8 hi8 with rfl | rfl | rfl | rfl | rfl | rfl | rfl | rfl <;> omega
theorem sum8_nonneg {A : List Arc} {D : List Int} (h : Inv A D) : 0 ≤ sum8 D := by
 have h0 := h.lo 0 ⟨by omega, by omega⟩
 have h1 := h.lo 1 ⟨by omega, by omega⟩
 have h2 := h.lo 2 ⟨by omega, by omega⟩
 have h3 := h.lo 3 ⟨by omega, by omega⟩
 have h4 := h.lo 4 ⟨by omega, by omega⟩
 have h5 := h.lo 5 ⟨by omega, by omega⟩
 have h6 := h.lo 6 ⟨by omega, by omega⟩
 have h7 := h.lo 7 ⟨by omega, by omega⟩
 unfold sum8
 omega
theorem it_succ (A : List Arc) : ∀ (k : Nat) (D : List Int), it A (k + 1) D = it A k (rnd A D)
 | 0, D => rfl
 | k + 1, D => by
  show rnd A (it A (k + 1) D) = rnd A (it A k (rnd A D))
  rw [it_succ A k D]
theorem exists_fix {A : List Arc} (hA : OkA A) (n : Nat) : ∀ D, Inv A D → sum8 D ≤ n → ∃ N, rnd A (it A N D) = it A N D := by
 induction n with
 | zero =>
  intro D h hs
  rcases le_or h.len (by rw [len_rnd, h.len]) (rnd_le A hA D h.len) with e | e
  ·
   exact ⟨0, e⟩
  ·
   have := sum8_nonneg (rnd_inv hA h)
   omega
 | succ n ih =>
  intro D h hs
  rcases le_or h.len (by rw [len_rnd, h.len]) (rnd_le A hA D h.len) with e | e
  ·
   exact ⟨0, e⟩
  ·
   obtain ⟨N, hN⟩ := ih (rnd A D) (rnd_inv hA h) (by omega)
   refine ⟨N + 1, ?_⟩
   rw [it_succ]
   exact hN
theorem it_fix {A : List Arc} {D : List Int} (h : rnd A D = D) : ∀ k, it A k D = D
 | 0 => rfl
 | k + 1 => by
  show rnd A (it A k D) = D
  rw [it_fix h k, h]
theorem it_add (A : List Arc) (D : List Int) (j : Nat) : ∀ k, it A (j + k) D = it A k (it A j D)
 | 0 => rfl
 | k + 1 => by
  show rnd A (it A (j + k) D) = rnd A (it A k (it A j D))
  rw [it_add A D j k]
theorem it_anti {A : List Arc} (hA : OkA A) {D : List Int} (h : Inv A D) (j : Nat) : ∀ k i, In8 i → rd (it A (j + k) D) i ≤ rd (it A j D) i
 | 0, i, hi => Int.le_refl _
 | k + 1, i, hi => Int.le_trans (rnd_le A hA _ (it_inv hA h (j + k)).len i hi) (it_anti hA h j k i hi)
def cnt (d : List Int) (i v : Int) : Nat := if rd d i < rd d v then 1 else 0
theorem cnt_mono (d : List Int) {u v : Int} (h : rd d u < rd d v) (i : Int) : cnt d i u ≤ cnt d i v := by
 unfold cnt
 split <;> split <;> omega
theorem cnt_le (d : List Int) (i v : Int) : cnt d i v ≤ 1 := by
 unfold cnt
 split <;> omega
theorem cnt_self (d : List Int) (v : Int) : cnt d v v = 0 := by
 unfold cnt
 rw [if_neg (by omega)]
theorem cnt_yes (d : List Int) {u v : Int} (h : rd d u < rd d v) : cnt d u v = 1 := by
 unfold cnt
 rw [if_pos h]
def rank (d : List Int) (v : Int) : Nat := cnt d 0 v + cnt d 1 v + cnt d 2 v + cnt d 3 v + cnt d 4 v + cnt d 5 v + cnt d 6 v + cnt d 7 v
theorem rank_lt (d : List Int) {u v : Int} (hu : In8 u) (h : rd d u < rd d v) : rank d u < rank d v := by
 have m := cnt_mono d h
 have m0 := m 0
 have m1 := m 1
 have m2 := m 2
 have m3 := m 3
 have m4 := m 4
 have m5 := m 5
 have m6 := m 6
 have m7 := m 7
 have s := cnt_self d u
 have y := cnt_yes d h
 clear m h
 unfold rank
 rcases cases8 hu with rfl | rfl | rfl | rfl | rfl | rfl | rfl | rfl <;> omega
theorem rank_le (d : List Int) {v : Int} (hv : In8 v) : rank d v ≤ 7 := by
 have m := fun i => cnt_le d i v
 have m0 := m 0
 have m1 := m 1
 have m2 := m 2
 have m3 := m 3
 have m4 := m 4
 have m5 := m 5
 have m6 := m 6
 have m7 := m 7
 have s := cnt_self d v
 clear m
 unfold rank
 rcases cases8 hv with rfl | rfl | rfl | rfl | rfl | rfl | rfl | rfl <;> omega
def D0 : List Int := [0, FAR, FAR, FAR, FAR, FAR, FAR, FAR]
theorem D0_far {v : Int} (hv : In8 v) (h0 : v ≠ 0) : rd D0 v = FAR := by
 rcases cases8 hv with rfl | rfl | rfl | rfl | rfl | rfl | rfl | rfl
 ·
  exact absurd rfl h0
 all_goals rfl
theorem D0_inv (A : List Arc) : Inv A D0 := by
 refine ⟨rfl, fun i hi => ?_, fun i hi => ?_, rfl, fun v hv h0 hf => ?_⟩
 ·
  by_cases h : i = 0
  ·
   rw [h]; decide
  ·
   rw [D0_far hi h]; decide
 ·
  by_cases h : i = 0
  ·
   rw [h]; decide
  ·
   rw [D0_far hi h]; decide
 ·
  rw [D0_far hv h0] at hf
  omega
theorem it_rank {A : List Arc} (hA : OkA A) {d : List Int} (hd : Inv A d) (hle : ∀ k i, In8 i → rd d i ≤ rd (it A k D0) i) : ∀ (k : Nat) (v : Int), In8 v → rank d v ≤ k → rd (it A k D0) v = rd d v := by
 intro k
 induction k with
 | zero =>
  intro v hv hr
  by_cases h0 : v = 0
  ·
   rw [h0, hd.zero]; rfl
  ·
   show rd D0 v = _
   rw [D0_far hv h0]
   have h1 := hd.hi v hv
   by_cases hf : rd d v < FAR
   ·
    obtain ⟨e, he, rfl, hl⟩ := hd.tight v hv h0 hf
    obtain ⟨ha, hb, ht, _⟩ := hA e he
    have := rank_lt d ha (show rd d e.a < rd d e.b by omega)
    omega
   ·
    omega
 | succ k ih =>
  intro v hv hr
  have h1 := hle (k + 1) v hv
  have h2 := (it_inv hA (D0_inv A) (k + 1)).hi v hv
  by_cases h0 : v = 0
  ·
   rw [h0, hd.zero, (it_inv hA (D0_inv A) (k + 1)).zero]
  ·
   by_cases hf : rd d v < FAR
   ·
    obtain ⟨e, he, rfl, hl⟩ := hd.tight v hv h0 hf
    obtain ⟨ha, hb, ht, _⟩ := hA e he
    have h3 := rank_lt d ha (show rd d e.a < rd d e.b by omega)
    have h4 := ih e.a ha (by omega)
    have h5 := rnd_arc A hA _ (it_inv hA (D0_inv A) k).len e he
    have h6 : rd (it A (k + 1) D0) e.b ≤ rd (it A k D0) e.a + e.t := h5
    omega
   ·
    have := hd.hi v hv
    omega
theorem fix7 {A : List Arc} (hA : OkA A) : rnd A (it A 7 D0) = it A 7 D0 := by
 obtain ⟨N, hN⟩ := exists_fix hA (sum8 D0).toNat D0 (D0_inv A) (by have := sum8_nonneg (D0_inv A); omega)
 have hi := it_inv hA (D0_inv A) N
 have hle : ∀ k i, In8 i → rd (it A N D0) i ≤ rd (it A k D0) i := by
  intro k i hi8
  rcases Nat.le_total k N with h | h
  ·
   have := it_anti hA (D0_inv A) k (N - k) i hi8
   rwa [show k + (N - k) = N by omega] at this
  ·
   have := it_add A D0 N (k - N)
   rw [show N + (k - N) = k by omega, it_fix hN] at this
   rw [this]
   exact Int.le_refl _
 have e : it A 7 D0 = it A N D0 := ext8 (it_inv hA (D0_inv A) 7).len hi.len (fun i h8 => it_rank hA hi hle 7 i h8 (rank_le _ h8))
 rw [e, hN]
def dec (x : Int) : Int := if x = FAR then -1 else x
def Bd (c : Int) (D : List Int) : Prop := ∀ i, In8 i → rd D i = FAR ∨ rd D i ≤ c
theorem Bd.mono {c c' : Int} {D : List Int} (h : Bd c D) (hc : c ≤ c') : Bd c' D := fun i hi => by
 rcases h i hi with h | h
 ·
  exact .inl h
 ·
  exact .inr (by omega)
theorem step_bd {c : Int} {D : List Int} (hl : D.length = 8) (h : Bd c D) {a b t : Int} (ha : In8 a) (hb : In8 b) (ht : t ≤ 500) (hh : ∀ i, In8 i → rd D i ≤ FAR) (ht0 : 0 ≤ t) : Bd (c + 500) (step1 D a b t) := fun i hi => by
 rw [rd_step1 hl hb hi]
 split
 ·
  rename_i z
  rcases h a ha with e | e
  ·
   have := hh b hb
   omega
  ·
   exact .inr (by omega)
 ·
  rcases h i hi with e | e
  ·
   exact .inl e
  ·
   exact .inr (by omega)
theorem rd_map {D : List Int} (hl : D.length = 8) {i : Int} (hi : In8 i) : rd (D.map dec) i = dec (rd D i) := by
 obtain ⟨h0, h1⟩ := hi
 unfold rd
 rw [List.getD_eq_getElem?_getD, List.getD_eq_getElem?_getD, List.getElem?_map, List.getElem?_eq_getElem (by omega)]
 rfl
theorem dec_nonneg {x : Int} (h : 0 ≤ x) (h' : x ≤ FAR) : dec x ≥ 0 ↔ x < FAR := by
 unfold dec
 split <;> omega
theorem map_set_dec (D : List Int) (n : Nat) (x : Int) (hx : x ≠ FAR) : (D.map dec).set n x = (D.set n x).map dec := by
 rw [List.map_set]
 congr 1
 unfold dec
 rw [if_neg hx]
theorem cond_dec {c : Int} {D : List Int} (hl : D.length = 8) (hlo : ∀ i, In8 i → 0 ≤ rd D i) (hhi : ∀ i, In8 i → rd D i ≤ FAR) (hb : Bd c D) (hc : c + 500 < FAR) {a b t : Int} (ha : In8 a) (hb8 : In8 b) (ht : 1 ≤ t) (ht' : t ≤ 500) :
  (rd (D.map dec) a ≥ 0 ↔ rd D a < FAR) ∧ (rd D a < FAR → rd (D.map dec) a = rd D a ∧ (rd (D.map dec) b < 0 ∨ rd D a + t < rd (D.map dec) b ↔ rd D a + t < rd D b) ∧ rd D a + t < FAR) ∧ (¬ rd D a < FAR → ¬ rd D a + t < rd D b) := by
 rw [rd_map hl ha, rd_map hl hb8]
 have a0 := hlo a ha
 have a1 := hhi a ha
 have b0 := hlo b hb8
 have b1 := hhi b hb8
 have a2 := hb a ha
 unfold FAR at *
 refine ⟨dec_nonneg a0 a1, fun h => ⟨?_, ?_, ?_⟩, fun h => by omega⟩
 ·
  unfold dec FAR
  rw [if_neg (by omega)]
 ·
  unfold dec FAR
  split <;> omega
 ·
  omega
theorem relax_comm {D : List Int} (hl : D.length = 8) {a b t : Int} (ha : In8 a) (hb : In8 b) (ht : 1 ≤ t) : step1 (step1 D b a t) a b t = step1 (step1 D a b t) b a t := by
 apply ext8 (by rw [len_step1, len_step1, hl]) (by rw [len_step1, len_step1, hl])
 intro i hi
 have l1 : (step1 D b a t).length = 8 := by rw [len_step1, hl]
 have l2 : (step1 D a b t).length = 8 := by rw [len_step1, hl]
 rw [rd_step1 l1 hb hi, rd_step1 l2 ha hi, rd_step1 hl ha ha, rd_step1 hl ha hb, rd_step1 hl ha hi, rd_step1 hl hb hb, rd_step1 hl hb ha, rd_step1 hl hb hi]
 by_cases e : a = b
 ·
  subst e
  simp only [true_and]
 ·
  have e' : ¬ b = a := fun h => e h.symm
  simp only [e, e', false_and, if_false, true_and]
  by_cases c1 : rd D b + t < rd D a
  ·
   simp only [c1, if_true, and_true]
   have c2 : ¬ rd D a + t < rd D b := by omega
   have c3 : ¬ rd D b + t + t < rd D b := by omega
   simp only [c2, c3, and_false, if_false, c1, and_true]
  ·
   by_cases c2 : rd D a + t < rd D b
   ·
    have c3 : ¬ rd D a + t + t < rd D a := by omega
    simp only [c1, c2, c3, and_false, and_true, if_false, if_true]
   ·
    simp only [c1, c2, and_false, if_false]
theorem w64 {x : Int} (h1 : -9223372036854775808 ≤ x) (h2 : x ≤ 9223372036854775807) : wrap64 x = x := by
 unfold wrap64
 omega
theorem set_map_step {α β : Type} (f : α → β) (l : List α) (z : β) (i : Nat) (hi : i < l.length) (a : α) (ha : l[i]? = some a) :
  ((l.take i).map f ++ List.replicate (l.length - i) z).set i (f a) = (l.take (i + 1)).map f ++ List.replicate (l.length - (i + 1)) z := by
 have h1 : ((l.take i).map f).length = i := by simp; omega
 rw [List.set_append_right _ _ (by omega), h1, Nat.sub_self]
 obtain ⟨m, hm⟩ : ∃ m, l.length - i = m + 1 := ⟨l.length - i - 1, by omega⟩
 rw [hm, show l.length - (i + 1) = m by omega, List.replicate_succ, List.set_cons_zero, List.take_add_one, ha]
 simp
theorem getD_some {α : Type} (l : List α) (z : α) (i : Nat) (h : i < l.length) : l[i]? = some (l.getD i z) := by
 rw [List.getD_eq_getElem?_getD, List.getElem?_eq_getElem h]
 rfl
def cvLeg (x : S65) : S37 := ⟨x.f0, x.f1, x.f2, x.f3, x.f4⟩
theorem toLegS_l0 (l : List S65) (hl : l.length ≤ 4611686018427387904) (d : Nat) : ∀ (k i : Nat), i + d = l.length → d < k →
  laws_toLegS.l0 k l ((l.take i).map cvLeg ++ List.replicate (l.length - i) z37) i = some (l.map cvLeg) := by
 induction d with
 | zero =>
  intro k i hd hk
  obtain ⟨k, rfl⟩ : ∃ m, k = m + 1 := ⟨k - 1, by omega⟩
  simp only [laws_toLegS.l0]
  rw [if_neg (by omega), List.take_of_length_le (by omega), show l.length - i = 0 by omega]
  simp
 | succ d ih =>
  intro k i hd hk
  obtain ⟨k, rfl⟩ : ∃ m, k = m + 1 := ⟨k - 1, by omega⟩
  simp only [laws_toLegS.l0, laws_toLeg.f, Option.bind_some]
  rw [if_pos (by omega), if_pos (by omega), if_pos (by simp; omega), w64 (by omega) (by omega)]
  have ha : l[i]? = some (rd_T65 l i) := getD_some l z65 i (by omega)
  rw [Int.toNat_natCast]
  have := set_map_step cvLeg l z37 i (by omega) _ ha
  rw [show (⟨(rd_T65 l i).f0, (rd_T65 l i).f1, (rd_T65 l i).f2, (rd_T65 l i).f3, (rd_T65 l i).f4⟩ : S37) = cvLeg (rd_T65 l i) from rfl, this]
  exact ih k (i + 1) (by omega) (by omega)
theorem toLegS_eq {l : List S65} (hl : l.length * 40 ≤ 140737488351232) {k : Nat} (hk : l.length < k) : laws_toLegS.f k l = some (l.map cvLeg) := by
 unfold laws_toLegS.f
 rw [if_pos (by omega), if_pos (by omega), Int.toNat_natCast]
 have := toLegS_l0 l (by omega) l.length k 0 (by omega) hk
 simpa using this
theorem eqLegS_self (l : List S37) (hl : l.length ≤ 4611686018427387904) (d : Nat) : ∀ (k : Nat) (i : Int), 0 ≤ i → i + d = l.length → d < k → laws_eqLegS.l0 k l l i = some true := by
 induction d with
 | zero =>
  intro k i h0 hd hk
  obtain ⟨k, rfl⟩ : ∃ m, k = m + 1 := ⟨k - 1, by omega⟩
  simp only [laws_eqLegS.l0]
  rw [if_neg (by omega)]
 | succ d ih =>
  intro k i h0 hd hk
  obtain ⟨k, rfl⟩ : ∃ m, k = m + 1 := ⟨k - 1, by omega⟩
  simp only [laws_eqLegS.l0, laws_eqLeg.f, if_true, Option.bind_some]
  rw [if_pos (by omega), if_pos (by omega), if_pos (by omega), w64 (by omega) (by omega)]
  exact ih k (i + 1) (by omega) (by omega) (by omega)
theorem eqLegS_eq {l : List S37} (hl : l.length ≤ 4611686018427387904) {k : Nat} (hk : l.length < k) : laws_eqLegS.f k l l = some true := by
 unfold laws_eqLegS.f
 rw [if_pos rfl]
 exact eqLegS_self l hl l.length k 0 (by omega) (by omega) hk
theorem eqBoolS_self (l : List Bool) (hl : l.length ≤ 4611686018427387904) (d : Nat) : ∀ (k : Nat) (i : Int), 0 ≤ i → i + d = l.length → d < k → laws_eqBoolS.l0 k l l i = some true := by
 induction d with
 | zero =>
  intro k i h0 hd hk
  obtain ⟨k, rfl⟩ : ∃ m, k = m + 1 := ⟨k - 1, by omega⟩
  simp only [laws_eqBoolS.l0]
  rw [if_neg (by omega)]
 | succ d ih =>
  intro k i h0 hd hk
  obtain ⟨k, rfl⟩ : ∃ m, k = m + 1 := ⟨k - 1, by omega⟩
  simp only [laws_eqBoolS.l0, bne_self_eq_false, Bool.false_eq_true, if_false]
  rw [if_pos (by omega), if_pos (by omega), if_pos (by omega), w64 (by omega) (by omega)]
  exact ih k (i + 1) (by omega) (by omega) (by omega)
theorem eqBoolS_eq {l : List Bool} (hl : l.length ≤ 4611686018427387904) {k : Nat} (hk : l.length < k) : laws_eqBoolS.f k l l = some true := by
 unfold laws_eqBoolS.f
 rw [if_pos rfl]
 exact eqBoolS_self l hl l.length k 0 (by omega) (by omega) hk
theorem eqExploration_eq {l : List S37} {v d : List Bool} {a b : Int} (hl : l.length ≤ 4611686018427387904) (hv : v.length ≤ 4611686018427387904) (hd : d.length ≤ 4611686018427387904) {k : Nat} (hk : l.length < k) (hk1 : v.length < k) (hk2 : d.length < k) :
  laws_eqExploration.f k l v d a b l v d a b = some true := by
 unfold laws_eqExploration.f
 rw [eqLegS_eq hl hk, eqBoolS_eq hv hk1, eqBoolS_eq hd hk2]
 simp
theorem l1In_eq (a b c : Int) : spec_l1In.f a b c = some (decide (b ≤ a ∧ a ≤ c)) := by
 unfold spec_l1In.f
 by_cases h : a ≥ b
 ·
  rw [if_pos h]; simp [show b ≤ a from h]
 ·
  rw [if_neg h]; simp [show ¬ b ≤ a from h]
theorem within_eq (a b c : Int) : impl_within.f a b c = some (decide (b ≤ a ∧ a ≤ c)) := by
 unfold impl_within.f
 by_cases h : a ≥ b
 ·
  rw [if_pos h]; simp [show b ≤ a from h]
 ·
  rw [if_neg h]; simp [show ¬ b ≤ a from h]
theorem station_eq (a : Int) : spec_l4Station.f a = some (decide (0 ≤ a ∧ a ≤ 7)) := by
 unfold spec_l4Station.f; rw [l1In_eq]; rfl
theorem isStation_eq (a : Int) : impl_isStation.f a = some (decide (0 ≤ a ∧ a ≤ 7)) := by
 unfold impl_isStation.f; rw [within_eq]; rfl
def LegOk (x : S37) : Prop := (0 ≤ x.f0 ∧ x.f0 ≤ 7) ∧ (0 ≤ x.f1 ∧ x.f1 ≤ 7) ∧ x.f0 ≠ x.f1 ∧ (1 ≤ x.f2 ∧ x.f2 ≤ 500) ∧ (0 ≤ x.f3 ∧ x.f3 ≤ 359) ∧ (-90 ≤ x.f4 ∧ x.f4 ≤ 90)
theorem leg_spec (x : S37) : ∃ b, spec_l4Leg.f x.f0 x.f1 x.f2 x.f3 x.f4 = some b ∧ (b = true ↔ LegOk x) := by
 unfold spec_l4Leg.f spec_l2Bearing.f LegOk
 simp only [station_eq, l1In_eq, Option.bind_some, decide_eq_true_eq]
 by_cases h1 : 0 ≤ x.f0 ∧ x.f0 ≤ 7
 ·
  rw [if_pos h1]
  by_cases h2 : 0 ≤ x.f1 ∧ x.f1 ≤ 7
  ·
   rw [if_pos h2]
   by_cases h3 : x.f0 = x.f1
   ·
    rw [if_pos h3]
    exact ⟨_, rfl, fun h => (by cases h), fun h => absurd h3 h.2.2.1⟩
   ·
    rw [if_neg h3]
    by_cases h4 : 1 ≤ x.f2 ∧ x.f2 ≤ 500
    ·
     rw [if_pos h4]
     by_cases h5 : 0 ≤ x.f3 ∧ x.f3 ≤ 359
     ·
      rw [if_pos h5]
      refine ⟨_, rfl, ?_⟩
      rw [decide_eq_true_eq]
      exact ⟨fun h => ⟨h1, h2, h3, h4, h5, h⟩, fun h => h.2.2.2.2.2⟩
     ·
      rw [if_neg h5]
      exact ⟨_, rfl, fun h => (by cases h), fun h => absurd h.2.2.2.2.1 h5⟩
    ·
     rw [if_neg h4]
     exact ⟨_, rfl, fun h => (by cases h), fun h => absurd h.2.2.2.1 h4⟩
  ·
   rw [if_neg h2]
   exact ⟨_, rfl, fun h => (by cases h), fun h => absurd h.2.1 h2⟩
 ·
  rw [if_neg h1]
  exact ⟨_, rfl, fun h => (by cases h), fun h => absurd h.1 h1⟩
theorem leg_impl (a b c d e : Int) : impl_IsLeg.f a b c d e = spec_l4Leg.f a b c d e := by
 unfold impl_IsLeg.f spec_l4Leg.f impl_isBearing.f spec_l2Bearing.f
 simp only [station_eq, isStation_eq, within_eq, l1In_eq]
theorem legs_spec (l : List S37) (hl : l.length ≤ 4611686018427387904) (d : Nat) : ∀ (k : Nat) (i : Int), 0 ≤ i → i + d = l.length → d < k →
  ∃ b, spec_l4Legs.l0 k l i = some b ∧ (b = true ↔ (∀ j : Int, i ≤ j → j < l.length → LegOk (rd_T37 l j)) ∧ l.length ≤ 12) := by
 induction d with
 | zero =>
  intro k i h0 hd hk
  obtain ⟨k, rfl⟩ : ∃ m, k = m + 1 := ⟨k - 1, by omega⟩
  refine ⟨_, by simp only [spec_l4Legs.l0]; rw [if_neg (by omega)], ?_⟩
  rw [decide_eq_true_eq]
  constructor
  ·
   intro h
   exact ⟨fun j h1 h2 => by omega, by omega⟩
  ·
   intro h
   omega
 | succ d ih =>
  intro k i h0 hd hk
  obtain ⟨k, rfl⟩ : ∃ m, k = m + 1 := ⟨k - 1, by omega⟩
  obtain ⟨b, hb, hiff⟩ := ih k (i + 1) (by omega) (by omega) (by omega)
  obtain ⟨x, hx, hxi⟩ := leg_spec (rd_T37 l i)
  simp only [spec_l4Legs.l0]
  rw [if_pos (show i < (l.length : Int) by omega), if_pos h0, hx, w64 (by omega) (by omega)]
  simp only [Option.bind_some]
  cases x with
  | false =>
   rw [if_neg (by decide)]
   exact ⟨_, rfl, fun h => (by cases h), fun h => (by have := hxi.2 (h.1 i (by omega) (by omega)); cases this)⟩
  | true =>
   rw [if_pos rfl]
   refine ⟨b, hb, ?_⟩
   rw [hiff]
   refine ⟨fun h => ⟨fun j h1 h2 => ?_, h.2⟩, fun h => ⟨fun j h1 h2 => h.1 j (by omega) h2, h.2⟩⟩
   by_cases e : j = i
   ·
    rw [e]; exact hxi.1 rfl
   ·
    exact h.1 j (by omega) h2
theorem legs_impl (l : List S37) : ∀ (k : Nat) (i : Int), impl_areLegs.l0 k l l (l.length : Int) i = spec_l4Legs.l0 k l i
 | 0, i => by simp only [impl_areLegs.l0, spec_l4Legs.l0]
 | k + 1, i => by
  simp only [impl_areLegs.l0, spec_l4Legs.l0, leg_impl, legs_impl l k]
  by_cases h1 : i < (l.length : Int)
  ·
   simp only [if_pos h1]
  ·
   simp only [if_neg h1]
def usable (v : List Bool) (g : S37) : Bool := rdOf false v g.f0 && rdOf false v g.f1
def arcsOf (v : List Bool) : List S37 → List Arc
 | [] => []
 | g :: l => if usable v g = true then ⟨g.f0, g.f1, g.f2⟩ :: ⟨g.f1, g.f0, g.f2⟩ :: arcsOf v l else arcsOf v l
def LegsOk (l : List S37) : Prop := ∀ x, x ∈ l → LegOk x
theorem legsOk_of {l : List S37} (h : ∀ j : Int, 0 ≤ j → j < l.length → LegOk (rd_T37 l j)) : LegsOk l := by
 intro x hx
 obtain ⟨i, hi, rfl⟩ := List.mem_iff_getElem.1 hx
 have := h (i : Int) (by omega) (by omega)
 have e : rd_T37 l (i : Int) = l[i] := by
  show l.getD (i : Int).toNat _ = _
  rw [Int.toNat_natCast, List.getD_eq_getElem?_getD, List.getElem?_eq_getElem hi]
  rfl
 rwa [e] at this
theorem rdLeg_mem {l : List S37} {i : Int} (h0 : 0 ≤ i) (h1 : i < l.length) : rd_T37 l i ∈ l := by
 show l.getD i.toNat _ ∈ l
 rw [List.getD_eq_getElem?_getD, List.getElem?_eq_getElem (by omega)]
 exact List.getElem_mem _
theorem drop_rdLeg (l : List S37) (i : Nat) (h : i < l.length) : l.drop i = rd_T37 l (i : Int) :: l.drop (i + 1) := by
 rw [List.drop_eq_getElem_cons h]
 congr 1
 show _ = l.getD (i : Int).toNat _
 rw [Int.toNat_natCast, List.getD_eq_getElem?_getD, List.getElem?_eq_getElem h]
 rfl
theorem arcs_ok (v : List Bool) (l : List S37) (h : LegsOk l) : OkA (arcsOf v l) := by
 induction l with
 | nil => intro e he; cases he
 | cons g l ih =>
  have hg := h g List.mem_cons_self
  have ih := ih (fun x hx => h x (List.mem_cons_of_mem _ hx))
  intro e he
  unfold arcsOf at he
  split at he
  ·
   rcases List.mem_cons.1 he with rfl | he
   ·
    exact ⟨⟨hg.1.1, by have := hg.1.2; show g.f0 < 8; omega⟩, ⟨hg.2.1.1, by have := hg.2.1.2; show g.f1 < 8; omega⟩, hg.2.2.2.1⟩
   ·
    rcases List.mem_cons.1 he with rfl | he
    ·
     exact ⟨⟨hg.2.1.1, by have := hg.2.1.2; show g.f1 < 8; omega⟩, ⟨hg.1.1, by have := hg.1.2; show g.f0 < 8; omega⟩, hg.2.2.2.1⟩
    ·
     exact ih e he
  ·
   exact ih e he
def far8 (D : List Int) : Prop := D.length = 8 ∧ (∀ i, In8 i → 0 ≤ rd D i) ∧ (∀ i, In8 i → rd D i ≤ FAR)
theorem far8_step {D : List Int} (h : far8 D) {a b t : Int} (ha : In8 a) (hb : In8 b) (ht : 0 ≤ t) : far8 (step1 D a b t) := by
 refine ⟨by rw [len_step1, h.1], fun i hi => ?_, fun i hi => Int.le_trans (step1_le h.1 hb hi t) (h.2.2 i hi)⟩
 rw [rd_step1 h.1 hb hi]
 have := h.2.1 a ha
 split
 ·
  omega
 ·
  exact h.2.1 i hi
theorem set_same8 {D : List Int} (h : D.length = 8) {b : Int} (hb : In8 b) : D.set b.toNat (rd D b) = D := by
 apply ext8 (by rw [List.length_set, h]) h
 intro i hi
 rw [rd_set h hb hi]
 split
 ·
  rename_i e
  rw [e]
 ·
  rfl
theorem mn_step {D : List Int} (h : far8 D) {a b t : Int} (ha : In8 a) (hb : In8 b) (ht : 0 ≤ t) (ht' : t ≤ 500) : D.set b.toNat (mn (rd D b) (wrap64 (rd D a + t))) = step1 D a b t := by
 have a0 := h.2.1 a ha
 have a1 := h.2.2 a ha
 unfold FAR at a1
 rw [w64 (by omega) (by omega)]
 unfold mn step1
 by_cases hc : rd D a + t < rd D b
 ·
  rw [if_pos hc, if_pos hc]
 ·
  rw [if_neg hc, if_neg hc, set_same8 h.1 hb]
theorem in8 {a : Int} (h0 : 0 ≤ a) (h1 : a ≤ 7) : In8 a := ⟨h0, by omega⟩
theorem wayOut_l1 (l : List S37) (hl : LegsOk l) (hn : l.length ≤ 12) (v d : List Bool) (hv : v.length = 8) (a b r : Int) (n : Nat) : ∀ (k i : Nat) (D : List Int), i + n = l.length → n < k → far8 D →
  ∃ k', k ≤ k' + n + 1 ∧ k' < k ∧ impl_Exploration_wayOut.l1 k D r l (l.length : Int) i l v d a b = impl_Exploration_wayOut.l0 k' (rnd (arcsOf v (l.drop i)) D) (wrap64 (r + 1)) l v d a b := by
 induction n with
 | zero =>
  intro k i D hi hk hD
  obtain ⟨k, rfl⟩ : ∃ m, k = m + 1 := ⟨k - 1, by omega⟩
  refine ⟨k, by omega, by omega, ?_⟩
  simp only [impl_Exploration_wayOut.l1]
  rw [if_neg (by omega), List.drop_eq_nil_of_le (by omega)]
  rfl
 | succ n ih =>
  intro k i D hi hk hD
  obtain ⟨k, rfl⟩ : ∃ m, k = m + 1 := ⟨k - 1, by omega⟩
  rw [drop_rdLeg l i (by omega)]
  have hg := hl _ (rdLeg_mem (l := l) (i := (i : Int)) (by omega) (by omega))
  generalize hge : rd_T37 l (i : Int) = g at hg
  have i0 := in8 hg.1.1 hg.1.2
  have i1 := in8 hg.2.1.1 hg.2.1.2
  obtain ⟨g00, g01⟩ := hg.1
  obtain ⟨g10, g11⟩ := hg.2.1
  obtain ⟨ht, ht'⟩ := hg.2.2.2.1
  simp only [impl_Exploration_wayOut.l1, hge]
  rw [if_pos (by omega), if_pos (by omega), if_pos (by omega), if_pos (by omega), if_pos (by omega), w64 (x := (i : Int) + 1) (by omega) (by omega)]
  unfold arcsOf usable
  cases h0 : rdOf false v g.f0 with
  | false =>
   rw [if_neg (by decide)]
   obtain ⟨k', h1, h2, h3⟩ := ih k (i + 1) D (by omega) (by omega) hD
   exact ⟨k', by omega, by omega, h3⟩
  | true =>
   rw [if_pos rfl, if_pos (by omega), if_pos (by omega)]
   cases h1 : rdOf false v g.f1 with
   | false =>
    rw [if_neg (by decide)]
    obtain ⟨k', h1, h2, h3⟩ := ih k (i + 1) D (by omega) (by omega) hD
    exact ⟨k', by omega, by omega, h3⟩
   | true =>
    have hl8 := hD.1
    rw [if_pos rfl, if_pos (by omega), if_pos (by omega), mn_step hD i1 i0 (by omega) ht']
    simp only [Option.bind_some]
    rw [mn_step (far8_step hD i1 i0 (by omega)) i0 i1 (by omega) ht', relax_comm hl8 i0 i1 ht]
    obtain ⟨k', h1, h2, h3⟩ := ih k (i + 1) (step1 (step1 D g.f0 g.f1 g.f2) g.f1 g.f0 g.f2) (by omega) (by omega) (far8_step (far8_step hD i0 i1 (by omega)) i1 i0 (by omega))
    exact ⟨k', by omega, by omega, h3⟩
theorem wayOut_l0 (l : List S37) (hl : LegsOk l) (hn : l.length ≤ 12) (v d : List Bool) (hv : v.length = 8) (a b : Int) (ha : In8 a) (n : Nat) : ∀ (k r : Nat), r + n = 8 → n * 16 < k →
  impl_Exploration_wayOut.l0 k (it (arcsOf v l) r D0) r l v d a b = some (rd (it (arcsOf v l) 8 D0) a, decide (rd (it (arcsOf v l) 8 D0) a < FAR)) := by
 induction n with
 | zero =>
  intro k r hr hk
  obtain ⟨k, rfl⟩ : ∃ m, k = m + 1 := ⟨k - 1, by omega⟩
  obtain rfl : r = 8 := by omega
  have := (it_inv (arcs_ok v l hl) (D0_inv _) 8).len
  simp only [impl_Exploration_wayOut.l0]
  rw [if_neg (by decide), if_pos ha.1, if_pos (by have := ha.2; omega)]
  rfl
 | succ n ih =>
  intro k r hr hk
  obtain ⟨k, rfl⟩ : ∃ m, k = m + 1 := ⟨k - 1, by omega⟩
  simp only [impl_Exploration_wayOut.l0]
  rw [if_pos (by omega)]
  have I := it_inv (arcs_ok v l hl) (D0_inv _) r
  obtain ⟨k', h1, h2, h3⟩ := wayOut_l1 l hl hn v d hv a b r l.length k 0 (it (arcsOf v l) r D0) (by omega) (by omega) ⟨I.len, I.lo, I.hi⟩
  rw [show ((0 : Nat) : Int) = 0 from rfl] at h3
  rw [h3, w64 (by omega) (by omega), List.drop_zero]
  exact ih k' (r + 1) (by omega) (by omega)
theorem wayOut_eq {l : List S37} (hl : LegsOk l) (hn : l.length ≤ 12) {v : List Bool} (d : List Bool) (hv : v.length = 8) {a : Int} (b : Int) (ha : In8 a) {k : Nat} (hk : 200 ≤ k) :
  impl_Exploration_wayOut.f k l v d a b = some (rd (it (arcsOf v l) 7 D0) a, decide (rd (it (arcsOf v l) 7 D0) a < FAR)) := by
 have h := wayOut_l0 l hl hn v d hv a b ha 8 k 0 (by omega) (by omega)
 have e : it (arcsOf v l) 8 D0 = it (arcsOf v l) 7 D0 := fix7 (arcs_ok v l hl)
 rw [e] at h
 exact h
def stF (F : List Int) (a b t : Int) : List Int := if rd F a ≥ 0 ∧ (rd F b < 0 ∨ wrap64 (rd F a + t) < rd F b) then F.set b.toNat (wrap64 (rd F a + t)) else F
def cF (F : List Int) (a b t : Int) : Bool := decide (rd F a ≥ 0 ∧ (rd F b < 0 ∨ wrap64 (rd F a + t) < rd F b))
theorem out_l2 (l : List S37) (v : List Bool) (p : Int) (F : List Int) (ag : Bool) (i : Int) (h0 : 0 ≤ i) (hi : i < l.length) (hl : l.length ≤ 12) (hF : F.length = 8) (hv : v.length = 8) (i0 : In8 (rd_T37 l i).f0) (i1 : In8 (rd_T37 l i).f1) (k : Nat) :
  ∃ k', k ≤ k' ∧ k' ≤ k + 1 ∧ spec_l25Out.l2 (k + 3) l v p F ag i = (if usable v (rd_T37 l i) = true then spec_l25Out.l2 k' l v p (stF (stF F (rd_T37 l i).f0 (rd_T37 l i).f1 (rd_T37 l i).f2) (rd_T37 l i).f1 (rd_T37 l i).f0 (rd_T37 l i).f2) (ag || cF F (rd_T37 l i).f0 (rd_T37 l i).f1 (rd_T37 l i).f2 || cF (stF F (rd_T37 l i).f0 (rd_T37 l i).f1 (rd_T37 l i).f2) (rd_T37 l i).f1 (rd_T37 l i).f0 (rd_T37 l i).f2) (i + 1) else spec_l25Out.l2 k' l v p F ag (i + 1)) := by
 simp only [spec_l25Out.l2, w64 (x := i + 1) (by omega) (by omega)]
 generalize hge : rd_T37 l i = g at i0 i1
 obtain ⟨i00, i01⟩ := i0
 obtain ⟨i10, i11⟩ := i1
 rw [if_pos hi, if_pos h0, if_pos i00, if_pos (by omega)]
 unfold usable
 cases h0' : rdOf false v g.f0 with
 | false =>
  refine ⟨k + 1, by omega, by omega, ?_⟩
  rw [if_neg (by decide), if_neg (by simp)]
  simp only [spec_l25Out.j3, if_true, w64 (x := i + 1) (by omega) (by omega)]
 | true =>
  rw [if_pos rfl, if_pos i10, if_pos (by omega)]
  cases h1' : rdOf false v g.f1 with
  | false =>
   refine ⟨k + 1, by omega, by omega, ?_⟩
   rw [if_neg (by decide)]
   simp only [spec_l25Out.j3, Bool.not_false, if_true, w64 (x := i + 1) (by omega) (by omega)]
  | true =>
   refine ⟨k, by omega, by omega, ?_⟩
   rw [if_pos (by decide)]
   have tail : ∀ (Y : List Int) (ag' : Bool) (m : Int), m = 8 → (if rd Y g.f1 ≥ 0 then (if 0 ≤ g.f0 then (if g.f0 < m then (if rd Y g.f0 < 0 then spec_l25Out.l2 k l v p (Y.set g.f0.toNat (wrap64 (rd Y g.f1 + g.f2))) true (i + 1) else (if wrap64 (rd Y g.f1 + g.f2) < rd Y g.f0 then spec_l25Out.l2 k l v p (Y.set g.f0.toNat (wrap64 (rd Y g.f1 + g.f2))) true (i + 1) else spec_l25Out.l2 k l v p Y ag' (i + 1))) else none) else none) else spec_l25Out.l2 k l v p Y ag' (i + 1)) = spec_l25Out.l2 k l v p (stF Y g.f1 g.f0 g.f2) (ag' || cF Y g.f1 g.f0 g.f2) (i + 1) := by
    intro Y ag' m hY
    unfold stF cF
    by_cases c1 : rd Y g.f1 ≥ 0
    ·
     rw [if_pos c1, if_pos i00, if_pos (by omega)]
     by_cases c2 : rd Y g.f0 < 0
     ·
      rw [if_pos c2, if_pos ⟨c1, .inl c2⟩, decide_eq_true ⟨c1, .inl c2⟩, Bool.or_true]
     ·
      rw [if_neg c2]
      by_cases c3 : wrap64 (rd Y g.f1 + g.f2) < rd Y g.f0
      ·
       rw [if_pos c3, if_pos ⟨c1, .inr c3⟩, decide_eq_true ⟨c1, .inr c3⟩, Bool.or_true]
      ·
       have hn : ¬ (rd Y g.f1 ≥ 0 ∧ (rd Y g.f0 < 0 ∨ wrap64 (rd Y g.f1 + g.f2) < rd Y g.f0)) := fun h => by rcases h.2 with z | z <;> contradiction
       rw [if_neg c3, if_neg hn, decide_eq_false hn, Bool.or_false]
    ·
     have hn : ¬ (rd Y g.f1 ≥ 0 ∧ (rd Y g.f0 < 0 ∨ wrap64 (rd Y g.f1 + g.f2) < rd Y g.f0)) := fun h => c1 h.1
     rw [if_neg c1, if_neg hn, decide_eq_false hn, Bool.or_false]
   have main : ∀ (c : Bool), (c = true → (rd F g.f0 ≥ 0 ∧ (rd F g.f1 < 0 ∨ wrap64 (rd F g.f0 + g.f2) < rd F g.f1))) → (c = false → ¬ (rd F g.f0 ≥ 0 ∧ (rd F g.f1 < 0 ∨ wrap64 (rd F g.f0 + g.f2) < rd F g.f1))) → spec_l25Out.j4 (k + 1) l v p F ag i g.f0 g.f1 (wrap64 (rd F g.f0 + g.f2)) c = spec_l25Out.l2 k l v p (stF (stF F g.f0 g.f1 g.f2) g.f1 g.f0 g.f2) (ag || cF F g.f0 g.f1 g.f2 || cF (stF F g.f0 g.f1 g.f2) g.f1 g.f0 g.f2) (i + 1) := by
    intro c hc1 hc2
    simp only [spec_l25Out.j4, hge, w64 (x := i + 1) (by omega) (by omega)]
    cases c with
    | true =>
     have hc := hc1 rfl
     rw [if_pos rfl, if_pos i10, if_pos (by omega)]
     simp only [Option.bind_some]
     rw [if_pos h0, if_pos hi, tail (F.set g.f1.toNat (wrap64 (rd F g.f0 + g.f2))) true (F.length : Int) (by omega)]
     have e : stF F g.f0 g.f1 g.f2 = F.set g.f1.toNat (wrap64 (rd F g.f0 + g.f2)) := by
      unfold stF
      rw [if_pos hc]
     have e2 : cF F g.f0 g.f1 g.f2 = true := decide_eq_true hc
     rw [e, e2, Bool.or_true]
    | false =>
     have hc := hc2 rfl
     rw [if_neg (by decide), if_pos i10, if_pos (by omega), if_pos h0, if_pos hi, tail F ag (F.length : Int) (by omega)]
     have e : stF F g.f0 g.f1 g.f2 = F := by
      unfold stF
      rw [if_neg hc]
     have e2 : cF F g.f0 g.f1 g.f2 = false := decide_eq_false hc
     rw [e, e2, Bool.or_false]
   simp only [spec_l25Out.j3, hge, Bool.not_true, Bool.false_eq_true, if_false]
   rw [if_pos i00, if_pos (by omega), if_pos h0, if_pos hi]
   by_cases c1 : rd F g.f0 ≥ 0
   ·
    rw [if_pos c1, if_pos i10, if_pos (by omega)]
    by_cases c2 : rd F g.f1 < 0
    ·
     rw [if_pos c2, main true (fun _ => ⟨c1, .inl c2⟩) (fun h => by cases h)]
    ·
     rw [if_neg c2]
     by_cases c3 : wrap64 (rd F g.f0 + g.f2) < rd F g.f1
     ·
      rw [decide_eq_true c3, main true (fun _ => ⟨c1, .inr c3⟩) (fun h => by cases h)]
     ·
      rw [decide_eq_false c3, main false (fun h => by cases h) (fun _ h => by rcases h.2 with z | z <;> contradiction)]
   ·
    rw [if_neg c1, main false (fun h => by cases h) (fun _ h => c1 h.1)]
theorem stF_dec {c : Int} {D : List Int} (h : far8 D) (hb : Bd c D) (hc : c + 500 < FAR) {a b t : Int} (ha : In8 a) (hb8 : In8 b) (ht : 1 ≤ t) (ht' : t ≤ 500) :
  stF (D.map dec) a b t = (step1 D a b t).map dec ∧ (cF (D.map dec) a b t = true ↔ rd D a + t < rd D b) := by
 obtain ⟨h1, h2, h3⟩ := cond_dec h.1 h.2.1 h.2.2 hb hc ha hb8 ht ht'
 have a0 := h.2.1 a ha
 unfold stF cF step1
 rw [decide_eq_true_eq]
 by_cases hf : rd D a < FAR
 ·
  obtain ⟨e, e2, e3⟩ := h2 hf
  have hw : wrap64 (rd (D.map dec) a + t) = rd D a + t := by
   rw [e, w64 (by omega) (by unfold FAR at e3; omega)]
  have hcnd : (rd (D.map dec) a ≥ 0 ∧ (rd (D.map dec) b < 0 ∨ rd D a + t < rd (D.map dec) b)) ↔ rd D a + t < rd D b := ⟨fun z => e2.1 z.2, fun z => ⟨h1.2 hf, e2.2 z⟩⟩
  rw [hw]
  by_cases hlt : rd D a + t < rd D b
  ·
   rw [if_pos (hcnd.2 hlt), if_pos hlt, map_set_dec _ _ _ (by omega)]
   exact ⟨rfl, hcnd⟩
  ·
   rw [if_neg (fun z => hlt (hcnd.1 z)), if_neg hlt]
   exact ⟨rfl, hcnd⟩
 ·
  have hn := h3 hf
  rw [if_neg (fun z => hf (h1.1 z.1)), if_neg hn]
  exact ⟨rfl, fun z => absurd (h1.1 z.1) hf, fun z => absurd z hn⟩
theorem out_round (l : List S37) (hl : LegsOk l) (hn : l.length ≤ 12) (v : List Bool) (hv : v.length = 8) (p : Int) (n : Nat) : ∀ (k i : Nat) (D : List Int) (ag : Bool) (c : Int), i + n = l.length → 3 * n < k → far8 D → Bd c D → c + 1000 * n < FAR →
  ∃ k' ag', k ≤ k' + 3 * n + 1 ∧ k' < k ∧ spec_l25Out.l2 k l v p (D.map dec) ag i = spec_l25Out.l1 k' l v p ((rnd (arcsOf v (l.drop i)) D).map dec) ag' ∧ Bd (c + 1000 * n) (rnd (arcsOf v (l.drop i)) D) ∧ (ag' = true → ag = true ∨ sum8 (rnd (arcsOf v (l.drop i)) D) < sum8 D) ∧ (ag' = false → ag = false ∧ rnd (arcsOf v (l.drop i)) D = D) := by
 induction n with
 | zero =>
  intro k i D ag c hi hk hD hb hc
  obtain ⟨k, rfl⟩ : ∃ m, k = m + 1 := ⟨k - 1, by omega⟩
  refine ⟨k, ag, by omega, by omega, ?_, ?_, fun h => .inl h, fun h => ⟨h, ?_⟩⟩
  ·
   simp only [spec_l25Out.l2]
   rw [if_neg (by omega), List.drop_eq_nil_of_le (by omega)]
   rfl
  ·
   rw [List.drop_eq_nil_of_le (by omega)]
   exact hb.mono (by omega)
  ·
   rw [List.drop_eq_nil_of_le (by omega)]
   rfl
 | succ n ih =>
  intro k i D ag c hi hk hD hb hc
  obtain ⟨k, rfl⟩ : ∃ m, k = m + 3 := ⟨k - 3, by omega⟩
  have hg := hl _ (rdLeg_mem (l := l) (i := (i : Int)) (by omega) (by omega))
  have i0 := in8 hg.1.1 hg.1.2
  have i1 := in8 hg.2.1.1 hg.2.1.2
  obtain ⟨ht, ht'⟩ := hg.2.2.2.1
  obtain ⟨k1, hk1, hk2, e⟩ := out_l2 l v p (D.map dec) ag i (by omega) (by omega) hn (by rw [List.length_map, hD.1]) hv i0 i1 k
  rw [drop_rdLeg l i (by omega)]
  generalize hge : rd_T37 l (i : Int) = g at hg i0 i1 ht ht' e
  rw [e]
  cases hu : usable v g with
  | false =>
   rw [if_neg (by decide)]
   obtain ⟨k', ag', h1, h2, h3, h4, h5, h6⟩ := ih k1 (i + 1) D ag c (by omega) (by omega) hD hb (by omega)
   have ea : arcsOf v (g :: l.drop (i + 1)) = arcsOf v (l.drop (i + 1)) := by
    show (if usable v g = true then _ else _) = _
    rw [hu, if_neg (by decide)]
   rw [ea]
   exact ⟨k', ag', by omega, by omega, h3, h4.mono (by omega), h5, h6⟩
  | true =>
   rw [if_pos rfl]
   have ea : ∀ E, rnd (arcsOf v (g :: l.drop (i + 1))) E = rnd (arcsOf v (l.drop (i + 1))) (step1 (step1 E g.f0 g.f1 g.f2) g.f1 g.f0 g.f2) := by
    intro E
    show rnd (if usable v g = true then _ else _) _ = _
    rw [hu, if_pos rfl]
    rfl
   rw [ea D]
   obtain ⟨s1, s2⟩ := stF_dec hD hb (by omega) i0 i1 ht ht'
   have hD1 := far8_step hD i0 i1 (t := g.f2) (by omega)
   have hb1 := step_bd hD.1 hb i0 i1 ht' hD.2.2 (by omega)
   obtain ⟨s3, s4⟩ := stF_dec hD1 hb1 (by omega) i1 i0 ht ht'
   have hD2 := far8_step hD1 i1 i0 (t := g.f2) (by omega)
   have hb2 := step_bd hD1.1 hb1 i1 i0 ht' hD1.2.2 (by omega)
   rw [s1, s3]
   have hrest : ∀ i, In8 i → rd (step1 (step1 D g.f0 g.f1 g.f2) g.f1 g.f0 g.f2) i ≤ rd D i := fun j hj => Int.le_trans (step1_le hD1.1 i0 hj _) (step1_le hD.1 i1 hj _)
   have hrnd : ∀ j, In8 j → rd (rnd (arcsOf v (l.drop (i + 1))) (step1 (step1 D g.f0 g.f1 g.f2) g.f1 g.f0 g.f2)) j ≤ rd D j := fun j hj => Int.le_trans (rnd_le _ (arcs_ok v _ (fun x hx => hl x (List.mem_of_mem_drop hx))) _ hD2.1 j hj) (hrest j hj)
   have hrl : (rnd (arcsOf v (l.drop (i + 1))) (step1 (step1 D g.f0 g.f1 g.f2) g.f1 g.f0 g.f2)).length = 8 := by rw [len_rnd, hD2.1]
   have hdec1 : rd D g.f0 + g.f2 < rd D g.f1 → sum8 (rnd (arcsOf v (l.drop (i + 1))) (step1 (step1 D g.f0 g.f1 g.f2) g.f1 g.f0 g.f2)) < sum8 D := by
    intro h
    rcases le_or hD.1 hrl hrnd with z | z
    ·
     exfalso
     have h7 := rd_step1 (a := g.f0) (t := g.f2) hD.1 i1 i1
     rw [if_pos ⟨rfl, h⟩] at h7
     have h8 := step1_le (a := g.f1) (t := g.f2) hD1.1 i0 i1
     have h9 := rnd_le (arcsOf v (l.drop (i + 1))) (arcs_ok v _ (fun x hx => hl x (List.mem_of_mem_drop hx))) _ hD2.1 g.f1 i1
     rw [z] at h9
     omega
    ·
     exact z
   have hdec2 : rd (step1 D g.f0 g.f1 g.f2) g.f1 + g.f2 < rd (step1 D g.f0 g.f1 g.f2) g.f0 → sum8 (rnd (arcsOf v (l.drop (i + 1))) (step1 (step1 D g.f0 g.f1 g.f2) g.f1 g.f0 g.f2)) < sum8 D := by
    intro h
    rcases le_or hD.1 hrl hrnd with z | z
    ·
     exfalso
     have h7 := rd_step1 (a := g.f1) (t := g.f2) hD1.1 i0 i0
     rw [if_pos ⟨rfl, h⟩] at h7
     have h8 := step1_le (a := g.f0) (t := g.f2) hD.1 i1 i0
     have h9 := rnd_le (arcsOf v (l.drop (i + 1))) (arcs_ok v _ (fun x hx => hl x (List.mem_of_mem_drop hx))) _ hD2.1 g.f0 i0
     rw [z] at h9
     omega
    ·
     exact z
   obtain ⟨k', ag', h1, h2, h3, h4, h5, h6⟩ := ih k1 (i + 1) (step1 (step1 D g.f0 g.f1 g.f2) g.f1 g.f0 g.f2) (ag || cF (D.map dec) g.f0 g.f1 g.f2 || cF ((step1 D g.f0 g.f1 g.f2).map dec) g.f1 g.f0 g.f2) (c + 500 + 500) (by omega) (by omega) hD2 hb2 (by omega)
   refine ⟨k', ag', by omega, by omega, h3, h4.mono (by omega), fun h => ?_, fun h => ?_⟩
   ·
    rcases h5 h with z | z
    ·
     rw [Bool.or_eq_true, Bool.or_eq_true] at z
     rcases z with (z | z) | z
     ·
      exact .inl z
     ·
      exact .inr (hdec1 (s2.1 z))
     ·
      exact .inr (hdec2 (s4.1 z))
    ·
     have q : sum8 (step1 (step1 D g.f0 g.f1 g.f2) g.f1 g.f0 g.f2) ≤ sum8 D := by
      rcases le_or hD.1 hD2.1 hrest with q | q
      ·
       rw [q]; exact Int.le_refl _
      ·
       omega
     exact .inr (by omega)
   ·
    obtain ⟨z1, z2⟩ := h6 h
    rw [Bool.or_eq_false_iff, Bool.or_eq_false_iff] at z1
    obtain ⟨⟨za, zb⟩, zc⟩ := z1
    refine ⟨za, z2.trans ?_⟩
    have n1 : ¬ (rd D g.f0 + g.f2 < rd D g.f1) := fun q => by rw [s2.2 q] at zb; cases zb
    have e1 : step1 D g.f0 g.f1 g.f2 = D := by
     unfold step1
     rw [if_neg n1]
    have n2 : ¬ (rd (step1 D g.f0 g.f1 g.f2) g.f1 + g.f2 < rd (step1 D g.f0 g.f1 g.f2) g.f0) := fun q => by rw [s4.2 q] at zc; cases zc
    have e2 : step1 (step1 D g.f0 g.f1 g.f2) g.f1 g.f0 g.f2 = step1 D g.f0 g.f1 g.f2 := by
     rw [show step1 (step1 D g.f0 g.f1 g.f2) g.f1 g.f0 g.f2 = if rd (step1 D g.f0 g.f1 g.f2) g.f1 + g.f2 < rd (step1 D g.f0 g.f1 g.f2) g.f0 then _ else _ from rfl, if_neg n2]
    rw [e2, e1]
theorem D0_bd (A : List Arc) : Bd 0 D0 := fun i hi => by
 by_cases h : i = 0
 ·
  rw [h]; right; decide
 ·
  exact .inl (D0_far hi h)
theorem out_l1 (l : List S37) (hl : LegsOk l) (hn : l.length ≤ 12) (v : List Bool) (hv : v.length = 8) (p : Int) (hp : In8 p) (n : Nat) : ∀ (k r : Nat), r + n = 7 → 40 * n + 40 < k → Bd (12000 * r) (it (arcsOf v l) r D0) →
  spec_l25Out.l1 k l v p ((it (arcsOf v l) r D0).map dec) true = some (dec (rd (it (arcsOf v l) 7 D0) p)) := by
 have hok := arcs_ok v l hl
 have fin : ∀ (k : Nat) (r : Nat), r ≤ 7 → it (arcsOf v l) (r + 1) D0 = it (arcsOf v l) r D0 → spec_l25Out.l1 (k + 1) l v p ((it (arcsOf v l) (r + 1) D0).map dec) false = some (dec (rd (it (arcsOf v l) 7 D0) p)) := by
  intro k r hr he
  have hlen := (it_inv hok (D0_inv _) r).len
  have e7 : it (arcsOf v l) 7 D0 = it (arcsOf v l) r D0 := by
   have := it_add (arcsOf v l) D0 r (7 - r)
   rw [show r + (7 - r) = 7 by omega, it_fix he] at this
   exact this
  simp only [spec_l25Out.l1, Bool.false_eq_true, if_false]
  have h1 := hp.1
  have h2 := hp.2
  rw [he, if_pos h1, if_pos (by rw [List.length_map, hlen]; exact h2), rd_map hlen hp, e7]
 induction n with
 | zero =>
  intro k r hr hk hb
  obtain ⟨k, rfl⟩ : ∃ m, k = m + 1 := ⟨k - 1, by omega⟩
  have e8 : rnd (arcsOf v l) (it (arcsOf v l) r D0) = it (arcsOf v l) r D0 := by
   rw [show r = 7 by omega]
   exact fix7 hok
  simp only [spec_l25Out.l1, if_true]
  have I := it_inv hok (D0_inv _) r
  obtain ⟨k', ag', h1, h2, h3, h4, h5, h6⟩ := out_round l hl hn v hv p l.length k 0 (it (arcsOf v l) r D0) false (12000 * r) (by omega) (by omega) ⟨I.len, I.lo, I.hi⟩ hb (by unfold FAR; omega)
  rw [show ((0 : Nat) : Int) = 0 from rfl, List.drop_zero] at h3
  rw [List.drop_zero] at h5 h6
  rw [h3]
  cases ag' with
  | true =>
   exfalso
   rcases h5 rfl with z | z
   ·
    cases z
   ·
    rw [e8] at z
    omega
  | false =>
   have a1 : r ≤ 7 := by clear h3 h4 h5 h6 hb; omega
   have a2 : k' = k' - 1 + 1 := by clear h3 h4 h5 h6 hb; omega
   rw [a2]
   exact fin (k' - 1) r a1 e8
 | succ n ih =>
  intro k r hr hk hb
  obtain ⟨k, rfl⟩ : ∃ m, k = m + 1 := ⟨k - 1, by omega⟩
  simp only [spec_l25Out.l1, if_true]
  have I := it_inv hok (D0_inv _) r
  obtain ⟨k', ag', h1, h2, h3, h4, h5, h6⟩ := out_round l hl hn v hv p l.length k 0 (it (arcsOf v l) r D0) false (12000 * r) (by omega) (by omega) ⟨I.len, I.lo, I.hi⟩ hb (by unfold FAR; omega)
  rw [show ((0 : Nat) : Int) = 0 from rfl, List.drop_zero] at h3
  rw [List.drop_zero] at h4 h5 h6
  rw [h3]
  cases ag' with
  | true =>
   have hb' : Bd (12000 * ((r + 1 : Nat) : Int)) (it (arcsOf v l) (r + 1) D0) := Bd.mono (c := 12000 * r + 1000 * l.length) h4 (by omega)
   have a1 : r + 1 + n = 7 := by clear h3 h4 h5 h6 hb' hb; omega
   have a2 : 40 * n + 40 < k' := by clear h3 h4 h5 h6 hb' hb; omega
   have hq := ih k' (r + 1) a1 a2 hb'
   exact hq
  | false =>
   have a1 : r ≤ 7 := by clear h3 h4 h5 h6 hb; omega
   have a2 : k' = k' - 1 + 1 := by clear h3 h4 h5 h6 hb; omega
   rw [a2]
   exact fin (k' - 1) r a1 (h6 rfl).2
theorem out_l0 (l : List S37) (v : List Bool) (p : Int) (n : Nat) : ∀ (k j : Nat), j + n = 8 → n < k →
  ∃ k', k = k' + n + 1 ∧ spec_l25Out.l0 k l v p (List.replicate j (-1)) j = spec_l25Out.l1 k' l v p (D0.map dec) true := by
 induction n with
 | zero =>
  intro k j hj hk
  obtain ⟨k, rfl⟩ : ∃ m, k = m + 1 := ⟨k - 1, by omega⟩
  obtain rfl : j = 8 := by omega
  refine ⟨k, by omega, ?_⟩
  simp only [spec_l25Out.l0]
  rw [if_neg (by decide), if_pos (by decide)]
  rfl
 | succ n ih =>
  intro k j hj hk
  obtain ⟨k, rfl⟩ : ∃ m, k = m + 1 := ⟨k - 1, by omega⟩
  simp only [spec_l25Out.l0]
  rw [if_pos (by omega), if_pos (by rw [List.length_replicate]; omega), w64 (by omega) (by omega)]
  obtain ⟨k', h1, h2⟩ := ih k (j + 1) (by omega) (by omega)
  refine ⟨k', by omega, ?_⟩
  rw [List.replicate_succ'] at h2
  exact h2
theorem out_eq {l : List S37} (hl : LegsOk l) (hn : l.length ≤ 12) {v : List Bool} (hv : v.length = 8) {p : Int} (hp : In8 p) {k : Nat} (hk : 400 ≤ k) :
  spec_l25Out.f k l v p = some (dec (rd (it (arcsOf v l) 7 D0) p)) := by
 obtain ⟨k', h1, h2⟩ := out_l0 l v p 8 k 0 (by omega) (by omega)
 unfold spec_l25Out.f
 rw [show ([] : List Int) = List.replicate 0 (-1) from rfl, show (0 : Int) = ((0 : Nat) : Int) from rfl, h2]
 exact out_l1 l hl hn v hv p hp 7 k' 0 (by omega) (by omega) (D0_bd (arcsOf v l))
def way (l : List S37) (v : List Bool) (p : Int) : Int := rd (it (arcsOf v l) 7 D0) p
theorem way_bd {l : List S37} (hl : LegsOk l) (v : List Bool) {p : Int} (hp : In8 p) : 0 ≤ way l v p ∧ way l v p ≤ FAR := by
 have I := it_inv (arcs_ok v l hl) (D0_inv _) 7
 exact ⟨I.lo p hp, I.hi p hp⟩
structure ExplOk (l : List S37) (v d : List Bool) (p t : Int) : Prop where
 legs : LegsOk l
 len : l.length ≤ 12
 hv : v.length = 8
 hd : d.length = 8
 hp : In8 p
 ht : 0 ≤ t ∧ t ≤ 100000
 hway : way l v p < FAR
 hlight : way l v p ≤ t
 v0 : rdOf false v 0 = true
 vp : rdOf false v p = true
theorem good_eq (l : List S37) (hl : l.length ≤ 4611686018427387904) (v d : List Bool) (p t : Int) {k : Nat} (hk : l.length + 410 ≤ k) :
  ∃ b, spec_l25Good.f k l v d p t = some b ∧ impl_IsExploration.f k l v d p t = some b ∧ (b = true ↔ ExplOk l v d p t) := by
 obtain ⟨x, hx, hxi⟩ := legs_spec l hl l.length k 0 (by omega) (by omega) (by omega)
 obtain ⟨k, rfl⟩ : ∃ m, k = m + 1 := ⟨k - 1, by omega⟩
 have hno : ¬ ExplOk l v d p t → ∃ b, some false = some b ∧ some false = some b ∧ (b = true ↔ ExplOk l v d p t) := fun h => ⟨false, rfl, rfl, fun z => (by cases z), fun z => absurd z h⟩
 unfold spec_l25Good.f impl_IsExploration.f spec_l4Legs.f impl_areLegs.f
 rw [legs_impl, hx]
 simp only [Option.bind_some, station_eq, isStation_eq, l1In_eq, within_eq]
 cases x with
 | false =>
  simp only [spec_l25Good.j0, impl_IsExploration.j0, Bool.false_eq_true, if_false, if_true]
  refine hno fun h => ?_
  have := hxi.2 ⟨fun j h1 h2 => h.legs _ (rdLeg_mem h1 h2), h.len⟩
  cases this
 | true =>
  obtain ⟨hlo, hlen⟩ := hxi.1 rfl
  have hlegs := legsOk_of hlo
  simp only [if_true, spec_l25Good.j0, impl_IsExploration.j0]
  by_cases h1 : (v.length : Int) = 8
  ·
   rw [if_pos h1, if_pos h1]
   by_cases h2 : (d.length : Int) = 8
   ·
    rw [if_pos h2, if_pos h2]
    by_cases h3 : 0 ≤ p ∧ p ≤ 7
    ·
     rw [decide_eq_true h3, if_pos rfl, if_pos rfl]
     by_cases h4 : 0 ≤ t ∧ t ≤ 100000
     ·
      have hv8 : v.length = 8 := by omega
      have hp8 := in8 h3.1 h3.2
      rw [decide_eq_true h4]
      simp only [Bool.not_true, Bool.false_eq_true, if_false]
      have hvp : (0 : Int) < (v.length : Int) := by omega
      simp only [if_pos hvp]
      cases h5 : rdOf false v 0 with
      | false =>
       simp only [Bool.false_eq_true, if_false]
       exact hno fun h => by have := h.v0; rw [h5] at this; cases this
      | true =>
       have hpv : p < (v.length : Int) := by omega
       simp only [if_true, if_pos h3.1, if_pos hpv]
       cases h6 : rdOf false v p with
       | false =>
        simp only [Bool.false_eq_true, if_false]
        exact hno fun h => by have := h.vp; rw [h6] at this; cases this
       | true =>
        simp only [if_true]
        rw [out_eq hlegs hlen hv8 hp8 (by omega), wayOut_eq hlegs hlen d hv8 t hp8 (by omega)]
        simp only [Option.bind_some]; obtain ⟨w0, w1⟩ := way_bd hlegs v hp8
        have hex : way l v p < FAR → way l v p ≤ t → ExplOk l v d p t := fun a b => ⟨hlegs, hlen, hv8, by omega, hp8, h4, a, b, h5, h6⟩
        rw [show rd (it (arcsOf v l) 7 D0) p = way l v p from rfl]
        by_cases h7 : way l v p < FAR
        ·
         have e : dec (way l v p) = way l v p := by
          unfold dec
          rw [if_neg (by omega)]
         rw [e, if_pos w0, decide_eq_true h7, if_pos rfl]
         refine ⟨_, rfl, rfl, ?_⟩
         rw [decide_eq_true_eq]
         exact ⟨fun h => hex h7 h, fun h => h.hlight⟩
        ·
         have e : dec (way l v p) = -1 := by
          unfold dec
          rw [if_pos (by omega)]
         rw [e, if_neg (by decide), decide_eq_false h7, if_neg (by decide)]
         exact hno fun h => h7 h.hway
     ·
      rw [decide_eq_false h4]
      simp only [Bool.not_false, if_true]
      exact hno fun h => h4 h.ht
    ·
     rw [decide_eq_false h3]
     simp only [Bool.false_eq_true, if_false, if_true]
     exact hno fun h => h3 ⟨h.hp.1, by have := h.hp.2; omega⟩
   ·
    rw [if_neg h2, if_neg h2]
    exact hno fun h => h2 (by have := h.hd; omega)
  ·
   rw [if_neg h1, if_neg h1]
   exact hno fun h => h1 (by have := h.hv; omega)
theorem set_app {α : Type} (pre ys : List α) (y z : α) (i : Nat) (h : pre.length = i) : (pre ++ y :: ys).set ((i : Int)).toNat z = pre ++ z :: ys := by
 rw [Int.toNat_natCast, List.set_append_right _ _ (by omega), h, Nat.sub_self, List.set_cons_zero]
theorem getD_app {α : Type} (pre ys : List α) (y d : α) (i : Nat) (h : pre.length = i) : (pre ++ y :: ys).getD ((i : Int)).toNat d = y := by
 rw [Int.toNat_natCast, List.getD_eq_getElem?_getD, List.getElem?_append_right (by omega), h, Nat.sub_self]
 rfl
theorem len_app {α : Type} (pre ys : List α) (y : α) : ((pre ++ y :: ys).length : Int) = (pre.length : Int) + (ys.length : Int) + 1 := by
 simp
 omega
def upLeg (a : Int) : Nat → List S37
 | 0 => []
 | n + 1 => ⟨a, a + 1, a + 1 + 1, a + 1 + 1 + 1, a + 1 + 1 + 1 + 1⟩ :: upLeg (a + 1 + 1 + 1 + 1 + 1) n
theorem upLeg_len (n : Nat) : ∀ a, (upLeg a n).length = n := by
 induction n with
 | zero => intro a; rfl
 | succ n ih => intro a; simp [upLeg, ih]
theorem upLeg_get (n : Nat) : ∀ (a A : Int) (j : Nat), j < n → A = a + 5 * j → (upLeg a n)[j]? = some ⟨A, A + 1, A + 1 + 1, A + 1 + 1 + 1, A + 1 + 1 + 1 + 1⟩ := by
 induction n with
 | zero => intro a A j h; omega
 | succ n ih =>
  intro a A j h hA
  cases j with
  | zero =>
   obtain rfl : A = a := by omega
   simp [upLeg]
  | succ j =>
   simp only [upLeg, List.getElem?_cons_succ]
   exact ih (a + 1 + 1 + 1 + 1 + 1) A j (by omega) (by omega)
theorem markLegS_up0 (d : Nat) : ∀ (k i : Nat) (pre suf : List S37) (a : Int), pre.length = i → suf.length = d → d < k → i + d ≤ 1152921504606846976 → 0 ≤ a → a + 5 * d ≤ 4611686018427387904 →
  laws_markLegS.l0 k (pre ++ suf) a i = some (a + 5 * d, pre ++ upLeg a d) := by
 induction d with
 | zero =>
  intro k i pre suf a hp hs hk hb h0 h1
  obtain ⟨k, rfl⟩ : ∃ m, k = m + 1 := ⟨k - 1, by omega⟩
  obtain rfl : suf = [] := List.length_eq_zero_iff.1 hs
  simp only [laws_markLegS.l0]
  rw [if_neg (by simp; omega)]
  simp [upLeg]
 | succ d ih =>
  intro k i pre suf a hp hs hk hb h0 h1
  obtain ⟨k, rfl⟩ : ∃ m, k = m + 1 := ⟨k - 1, by omega⟩
  obtain ⟨y, ys, rfl⟩ : ∃ y ys, suf = y :: ys := List.exists_cons_of_length_pos (by omega)
  have hys : ys.length = d := by simpa using hs
  have er : ∀ z, rd_T37 (pre ++ z :: ys) (i : Int) = z := fun z => getD_app pre ys z z37 i hp
  have es : ∀ y z, (pre ++ y :: ys).set ((i : Int)).toNat z = pre ++ z :: ys := fun y z => set_app pre ys y z i hp
  have c1 : (i : Int) < ((pre ++ y :: ys).length : Int) := by rw [len_app]; omega
  have c2 : (0 : Int) ≤ (i : Int) := by omega
  simp only [laws_markLegS.l0, Option.bind_some, er, es]
  rw [if_pos c1, if_pos c2]
  rw [w64 (x := a + 1) (by omega) (by omega), w64 (x := a + 1 + 1) (by omega) (by omega), w64 (x := a + 1 + 1 + 1) (by omega) (by omega), w64 (x := a + 1 + 1 + 1 + 1) (by omega) (by omega), w64 (x := a + 1 + 1 + 1 + 1 + 1) (by omega) (by omega), w64 (x := (i : Int) + 1) (by omega) (by omega)]
  have := ih k (i + 1) (pre ++ [⟨a, a + 1, a + 1 + 1, a + 1 + 1 + 1, a + 1 + 1 + 1 + 1⟩]) ys (a + 1 + 1 + 1 + 1 + 1) (by simp; omega) hys (by omega) (by omega) (by omega) (by omega)
  rw [List.append_assoc, List.append_assoc, List.singleton_append, List.singleton_append] at this
  rw [show ((i : Int) + 1) = ((i + 1 : Nat) : Int) by omega, this]
  simp only [upLeg, Option.some.injEq, Prod.mk.injEq, and_true]
  omega
theorem markLegS_up {l : List S37} (hl : l.length ≤ 70368744177664) {k : Nat} (hk : l.length < k) {a : Int} (h0 : 0 ≤ a) (h1 : a ≤ 1125899906842624) : laws_markLegS.f k l a = some (a + 5 * l.length, upLeg a l.length) := by
 unfold laws_markLegS.f
 have := markLegS_up0 l.length k 0 [] l a rfl rfl hk (by omega) h0 (by omega)
 simpa using this
theorem heldLegS_up0 (n : Nat) (b : Int) (d : Nat) : ∀ (k i : Nat) (A : Int), A = b + 5 * i → i + d = n → d < k → n ≤ 1152921504606846976 → 0 ≤ b → b + 5 * n ≤ 4611686018427387904 →
  laws_heldLegS.l0 k (upLeg b n) A i = some (b + 5 * n) := by
 induction d with
 | zero =>
  intro k i A hA hd hk hn h0 h1
  obtain ⟨k, rfl⟩ : ∃ m, k = m + 1 := ⟨k - 1, by omega⟩
  simp only [laws_heldLegS.l0]
  rw [if_neg (by rw [upLeg_len]; omega)]
  congr 1
  omega
 | succ d ih =>
  intro k i A hA hd hk hn h0 h1
  obtain ⟨k, rfl⟩ : ∃ m, k = m + 1 := ⟨k - 1, by omega⟩
  have e : rd_T37 (upLeg b n) (i : Int) = ⟨A, A + 1, A + 1 + 1, A + 1 + 1 + 1, A + 1 + 1 + 1 + 1⟩ := by
   show (upLeg b n).getD ((i : Int)).toNat _ = _
   rw [Int.toNat_natCast, List.getD_eq_getElem?_getD, upLeg_get n b A i (by omega) hA]
   rfl
  have c1 : (i : Int) < ((upLeg b n).length : Int) := by rw [upLeg_len]; omega
  have c2 : (0 : Int) ≤ (i : Int) := by omega
  have hA0 : 0 ≤ A := by omega
  have hA1 : A + 5 ≤ 4611686018427387904 := by omega
  have := ih k (i + 1) (A + 1 + 1 + 1 + 1 + 1) (by omega) (by omega) (by omega) hn h0 h1
  simp only [laws_heldLegS.l0, e]
  rw [if_pos c1, if_pos c2, w64 (x := A + 1) (by omega) (by omega), w64 (x := A + 1 + 1) (by omega) (by omega), w64 (x := A + 1 + 1 + 1) (by omega) (by omega), w64 (x := A + 1 + 1 + 1 + 1) (by omega) (by omega), w64 (x := A + 1 + 1 + 1 + 1 + 1) (by omega) (by omega), w64 (x := (i : Int) + 1) (by omega) (by omega)]
  simp only [if_true]
  rw [show ((i : Int) + 1) = ((i + 1 : Nat) : Int) by omega]
  exact this
theorem heldLegS_up {n : Nat} (hn : n ≤ 70368744177664) {k : Nat} (hk : n < k) {a : Int} (h0 : 0 ≤ a) (h1 : a ≤ 1125899906842624) : laws_heldLegS.f k (upLeg a n) a = some (a + 5 * n) := by
 unfold laws_heldLegS.f
 have := heldLegS_up0 n a n k 0 a (by omega) (by omega) hk (by omega) h0 (by omega)
 simpa using this
def upBool (a : Int) : Nat → List Bool
 | 0 => []
 | n + 1 => (Int.tmod a 3 == 0) :: upBool (a + 1) n
theorem upBool_len (n : Nat) : ∀ a, (upBool a n).length = n := by
 induction n with
 | zero => intro a; rfl
 | succ n ih => intro a; simp [upBool, ih]
theorem upBool_get (n : Nat) : ∀ (a A : Int) (j : Nat), j < n → A = a + j → (upBool a n)[j]? = some (Int.tmod A 3 == 0) := by
 induction n with
 | zero => intro a A j h; omega
 | succ n ih =>
  intro a A j h hA
  cases j with
  | zero =>
   obtain rfl : A = a := by omega
   simp [upBool]
  | succ j =>
   simp only [upBool, List.getElem?_cons_succ]
   exact ih (a + 1) A j (by omega) (by omega)
theorem markBoolS_up0 (d : Nat) : ∀ (k i : Nat) (pre suf : List Bool) (a : Int), pre.length = i → suf.length = d → d < k → i + d ≤ 1152921504606846976 → 0 ≤ a → a + d ≤ 4611686018427387904 →
  laws_markBoolS.l0 k (pre ++ suf) a i = some (a + d, pre ++ upBool a d) := by
 induction d with
 | zero =>
  intro k i pre suf a hp hs hk hb h0 h1
  obtain ⟨k, rfl⟩ : ∃ m, k = m + 1 := ⟨k - 1, by omega⟩
  obtain rfl : suf = [] := List.length_eq_zero_iff.1 hs
  simp only [laws_markBoolS.l0]
  rw [if_neg (by simp; omega)]
  simp [upBool]
 | succ d ih =>
  intro k i pre suf a hp hs hk hb h0 h1
  obtain ⟨k, rfl⟩ : ∃ m, k = m + 1 := ⟨k - 1, by omega⟩
  obtain ⟨y, ys, rfl⟩ : ∃ y ys, suf = y :: ys := List.exists_cons_of_length_pos (by omega)
  have hys : ys.length = d := by simpa using hs
  have es : ∀ y z, (pre ++ y :: ys).set ((i : Int)).toNat z = pre ++ z :: ys := fun y z => set_app pre ys y z i hp
  have c1 : (i : Int) < ((pre ++ y :: ys).length : Int) := by rw [len_app]; omega
  have c2 : (0 : Int) ≤ (i : Int) := by omega
  simp only [laws_markBoolS.l0, es]
  rw [if_pos c1, if_pos c2]
  rw [w64 (x := a + 1) (by omega) (by omega), w64 (x := (i : Int) + 1) (by omega) (by omega)]
  have := ih k (i + 1) (pre ++ [Int.tmod a 3 == 0]) ys (a + 1) (by simp; omega) hys (by omega) (by omega) (by omega) (by omega)
  rw [List.append_assoc, List.append_assoc, List.singleton_append, List.singleton_append] at this
  rw [show ((i : Int) + 1) = ((i + 1 : Nat) : Int) by omega, this]
  simp only [upBool, Option.some.injEq, Prod.mk.injEq, and_true]
  omega
theorem markBoolS_up {l : List Bool} (hl : l.length ≤ 140737488355328) {k : Nat} (hk : l.length < k) {a : Int} (h0 : 0 ≤ a) (h1 : a ≤ 1125899906842624) : laws_markBoolS.f k l a = some (a + l.length, upBool a l.length) := by
 unfold laws_markBoolS.f
 have := markBoolS_up0 l.length k 0 [] l a rfl rfl hk (by omega) h0 (by omega)
 simpa using this
theorem heldBoolS_up0 (n : Nat) (b : Int) (d : Nat) : ∀ (k i : Nat) (A : Int), A = b + i → i + d = n → d < k → n ≤ 1152921504606846976 → 0 ≤ b → b + n ≤ 4611686018427387904 →
  laws_heldBoolS.l0 k (upBool b n) A i = some (b + n) := by
 induction d with
 | zero =>
  intro k i A hA hd hk hn h0 h1
  obtain ⟨k, rfl⟩ : ∃ m, k = m + 1 := ⟨k - 1, by omega⟩
  simp only [laws_heldBoolS.l0]
  rw [if_neg (by rw [upBool_len]; omega)]
  congr 1
  omega
 | succ d ih =>
  intro k i A hA hd hk hn h0 h1
  obtain ⟨k, rfl⟩ : ∃ m, k = m + 1 := ⟨k - 1, by omega⟩
  have e : rdOf false (upBool b n) (i : Int) = (Int.tmod A 3 == 0) := by
   show (upBool b n).getD ((i : Int)).toNat _ = _
   rw [Int.toNat_natCast, List.getD_eq_getElem?_getD, upBool_get n b A i (by omega) hA]
   rfl
  have c1 : (i : Int) < ((upBool b n).length : Int) := by rw [upBool_len]; omega
  have c2 : (0 : Int) ≤ (i : Int) := by omega
  have := ih k (i + 1) (A + 1) (by omega) (by omega) (by omega) hn h0 h1
  simp only [laws_heldBoolS.l0, e, bne_self_eq_false, Bool.false_eq_true, if_false]
  rw [if_pos c1, if_pos c2, w64 (x := A + 1) (by omega) (by omega), w64 (x := (i : Int) + 1) (by omega) (by omega)]
  rw [show ((i : Int) + 1) = ((i + 1 : Nat) : Int) by omega]
  exact this
theorem heldBoolS_up {n : Nat} (hn : n ≤ 140737488355328) {k : Nat} (hk : n < k) {a : Int} (h0 : 0 ≤ a) (h1 : a ≤ 1125899906842624) : laws_heldBoolS.f k (upBool a n) a = some (a + n) := by
 unfold laws_heldBoolS.f
 have := heldBoolS_up0 n a n k 0 a (by omega) (by omega) hk (by omega) h0 (by omega)
 simpa using this
theorem markExploration_eq {l : List S37} {v d : List Bool} (p t : Int) (hl : l.length ≤ 70368744177) (hv : v.length ≤ 70368744177) (hd : d.length ≤ 70368744177) {k : Nat} (hk : l.length < k) (hk1 : v.length < k) (hk2 : d.length < k) :
  laws_markExploration.f k l v d p t 1 = some ((1 : Int) + 5 * (l.length : Int) + (v.length : Int) + (d.length : Int), upLeg 1 l.length, upBool ((1 : Int) + 5 * (l.length : Int)) v.length, upBool ((1 : Int) + 5 * (l.length : Int) + (v.length : Int)) d.length) := by
 unfold laws_markExploration.f
 rw [markLegS_up (by omega) hk (by omega) (by omega)]
 simp only [Option.bind_some]
 rw [markBoolS_up (by omega) hk1 (by omega) (by omega)]
 simp only [Option.bind_some]
 rw [markBoolS_up (by omega) hk2 (by omega) (by omega)]
 rfl
theorem heldExploration_eq {n m j : Nat} (p t : Int) (hl : n ≤ 70368744177) (hv : m ≤ 70368744177) (hd : j ≤ 70368744177) {k : Nat} (hk : n < k) (hk1 : m < k) (hk2 : j < k) :
  laws_heldExploration.f k (upLeg 1 n) (upBool ((1 : Int) + 5 * (n : Int)) m) (upBool ((1 : Int) + 5 * (n : Int) + (m : Int)) j) p t 1 = some ((1 : Int) + 5 * (n : Int) + (m : Int) + (j : Int)) := by
 unfold laws_heldExploration.f
 rw [heldLegS_up (by omega) hk (by omega) (by omega)]
 simp only [Option.bind_some]
 rw [if_neg (by omega), heldBoolS_up (by omega) hk1 (by omega) (by omega)]
 simp only [Option.bind_some]
 rw [if_neg (by omega), heldBoolS_up (by omega) hk2 (by omega) (by omega)]
 simp only [Option.bind_some]
 rw [if_neg (by omega)]
end Go.Proofs.Ythmjimboajmhmaa.Pr.Pure

namespace Go.Proofs.Ythmjimboajmhmaa.Pr.Pure
open Go.RowKit Go.Proofs.YthmjimboajmhmaaW.PrintWords Go.Proofs.YthmjimboajmhmaaW.PrintLast Go.Proofs.YthmjimboajmhmaaW.PrintMore Go.Proofs.YthmjimboajmhmaaW.Opens
set_option linter.unusedVariables false
set_option linter.unusedSimpArgs false
theorem start_both (l : List S37) (hl : l.length * 40 ≤ 140737488351232) (a : Int) {k : Nat} (hk : l.length + 410 ≤ k) :
  ∃ L V D P T b, spec_StartExploration.f k l a = some (L, V, D, P, T, b) ∧ impl_StartExploration.f k l a = some (L, V, D, P, T, b) ∧ L.length ≤ 12 ∧ V.length ≤ 8 ∧ D.length ≤ 8 := by
 obtain ⟨b, e1, e2, hb⟩ := good_eq l (by omega) ((List.replicate 8 false).set (0 : Int).toNat true) (List.replicate 8 false) 0 a hk
 unfold spec_StartExploration.f impl_StartExploration.f impl_Leg_87.f
 simp only [Option.bind_some, List.nil_append, List.length_nil, Nat.zero_add]
 have c1 : l.length < 3518437208883 := by omega
 have c2 : l.length ≤ 3518437208883 := by omega
 have c3 : (8 : Nat) ≤ 281474976710656 := by decide
 have c4 : (0 : Int) < ((List.replicate 8 false).length : Int) := by decide
 simp only [if_pos c1, if_pos c2, if_pos c3, if_pos c4, e1, e2, Option.bind_some]
 cases b with
 | false => exact ⟨_, _, _, _, _, _, rfl, rfl, by simp, by simp, by simp⟩
 | true => exact ⟨_, _, _, _, _, _, rfl, rfl, (hb.1 rfl).len, by simp, by simp⟩
theorem new_both (l : List S37) (hl : l.length * 40 ≤ 140737488351232) (a : Int) {k : Nat} (hk : l.length + 410 ≤ k) :
  ∃ L V D P T A B n b, spec_NewConsole.f k l a = some (L, V, D, P, T, A, B, n, b) ∧ impl_NewConsole.f k l a = some (L, V, D, P, T, A, B, n, b) ∧ L.length ≤ 12 ∧ V.length ≤ 8 ∧ D.length ≤ 8 := by
 obtain ⟨L, V, D, P, T, b, e1, e2, hL, hV, hD⟩ := start_both l hl a hk
 unfold spec_NewConsole.f impl_NewConsole.f
 rw [e1, e2]
 simp only [Option.bind_some]
 cases b with
 | false => exact ⟨_, _, _, _, _, _, _, _, _, rfl, rfl, by simp, by simp, by simp⟩
 | true => exact ⟨_, _, _, _, _, _, _, _, _, rfl, rfl, hL, hV, hD⟩
theorem eqConsole_eq {l : List S37} {v d : List Bool} (a b : Int) (A B : ByteArray) (n : Int) (hl : l.length ≤ 4611686018427387904) (hv : v.length ≤ 4611686018427387904) (hd : d.length ≤ 4611686018427387904) {k : Nat} (hk : l.length < k) (hk1 : v.length < k) (hk2 : d.length < k) :
  laws_eqConsole.f k l v d a b A B n l v d a b A B n = some true := by
 unfold laws_eqConsole.f laws_eqLog.f
 rw [eqExploration_eq hl hv hd hk hk1 hk2]
 simp
theorem FnExactNewConsole : FnExactNewConsole.Pure := by
 intro x0 x1 h0 h1
 obtain ⟨_, hb0, hw0⟩ := h0
 have hm0 : (x0.map cvLeg).length = x0.length := List.length_map _
 obtain ⟨K, hK⟩ : ∃ K, K = x0.length + 430 := ⟨_, rfl⟩
 obtain ⟨L, V, D, P, T, A, B, n, b, e1, e2, hL, hV, hD⟩ := new_both (x0.map cvLeg) (by omega) x1 (k := K) (by omega)
 have E1 : ∀ k, K ≤ k → spec_NewConsole.f k (x0.map cvLeg) x1 = some (L, V, D, P, T, A, B, n, b) := fun k hk => at_rounds (fun k => spec_NewConsole.mono _ _ k) hk e1
 have E2 : ∀ k, K ≤ k → impl_NewConsole.f k (x0.map cvLeg) x1 = some (L, V, D, P, T, A, B, n, b) := fun k hk => at_rounds (fun k => impl_NewConsole.mono _ _ k) hk e2
 have t0 : ∀ k, K ≤ k → laws_toLegS.f k x0 = some (x0.map cvLeg) := fun k hk => toLegS_eq hb0 (by omega)
 have g0 : ∀ k, K ≤ k → laws_eqLegS.f k (x0.map cvLeg) (x0.map cvLeg) = some true := fun k hk => eqLegS_eq (by omega) (by omega)
 have q : ∀ k, K ≤ k → laws_eqConsole.f k L V D P T A B n L V D P T A B n = some true := fun k hk => eqConsole_eq P T A B n (by omega) (by omega) (by omega) (by omega) (by omega) (by omega)
 obtain ⟨m0, hm0', hm1⟩ : ∃ m : Int, m = 1 + 5 * (x0.length : Int) ∧ ¬ m < 0 := ⟨_, rfl, by omega⟩
 have M0 : ∀ k, K ≤ k → laws_markLegS.f k (x0.map cvLeg) 1 = some (m0, upLeg 1 x0.length) := fun k hk => by
  rw [markLegS_up (by omega) (by omega) (by omega) (by omega), hm0, hm0']
 obtain ⟨m, hm, hmn⟩ : ∃ m : Int, m = 1 + 5 * (L.length : Int) + (V.length : Int) + (D.length : Int) ∧ ¬ m < 0 := ⟨_, rfl, by omega⟩
 have mi : ∀ k, K ≤ k → laws_markConsole.f k L V D P T A B n 1 = some (m, upLeg 1 L.length, upBool ((1 : Int) + 5 * (L.length : Int)) V.length, upBool ((1 : Int) + 5 * (L.length : Int) + (V.length : Int)) D.length) := fun k hk => by
  unfold laws_markConsole.f
  rw [markExploration_eq P T (by omega) (by omega) (by omega) (by omega) (by omega) (by omega), hm]
  rfl
 have hi : ∀ k, K ≤ k → laws_heldConsole.f k (upLeg 1 L.length) (upBool ((1 : Int) + 5 * (L.length : Int)) V.length) (upBool ((1 : Int) + 5 * (L.length : Int) + (V.length : Int)) D.length) P T A B n 1 = some m := fun k hk => by
  unfold laws_heldConsole.f
  rw [heldExploration_eq P T (by omega) (by omega) (by omega) (by omega) (by omega) (by omega)]
  simp only [Option.bind_some, ← hm, if_neg hmn]
 clear hm hm0'
 have j2 : ∀ k, K ≤ k → laws_FnExactNewConsole.j2 (k + 1) m false (upLeg 1 L.length) (upBool ((1 : Int) + 5 * (L.length : Int)) V.length) (upBool ((1 : Int) + 5 * (L.length : Int) + (V.length : Int)) D.length) P T A B n = some true := by
  intro k hk
  simp (disch := omega) only [laws_FnExactNewConsole.j2, hi, Option.bind_some, Bool.false_eq_true, if_false, if_neg hmn, if_true]
 have j1 : ∀ k, K ≤ k → laws_FnExactNewConsole.j1 (k + 2) x0 x1 b false L V D P T A B n L V D P T A B n = some true := by
  intro k hk
  simp (disch := omega) only [laws_FnExactNewConsole.j1, mi, hi, t0, E2, q, Option.bind_some, Bool.false_eq_true, if_false, if_neg hmn, if_true, bne_self_eq_false, j2]
 have j0 : ∀ k, K ≤ k → laws_FnExactNewConsole.j0 (k + 3) x0 x1 b (x0.map cvLeg) b false L V D P T A B n L V D P T A B n = some true := by
  intro k hk
  simp (disch := omega) only [laws_FnExactNewConsole.j0, t0, g0, M0, q, Option.bind_some, Bool.false_eq_true, if_false, if_neg hm1, if_true, bne_self_eq_false, j1]
 refine ⟨K + 3, ?_⟩
 unfold laws_FnExactNewConsole.f laws_szLegS.f
 simp (disch := omega) only [t0, E1, E2, q, Option.bind_some, if_true, bne_self_eq_false, j0]
 by_cases s1 : wrap64 (1048576 - (x0.length : Int)) < 0
 ·
  simp [if_pos s1]
 ·
  simp only [if_neg s1, Option.bind_some]
end Go.Proofs.Ythmjimboajmhmaa.Pr.Pure

