/-
What is proved: parts of the law FnExactNextLegs: what the functions that it reaches compute, and the plain law.
Conditions: those of each theorem.
-/
import Derived.Test.YthmjimboajmhmaaCFnExactNextLegs3
set_option maxHeartbeats 8000000
set_option maxRecDepth 100000
namespace Go.Proofs.Ythmjimboajmhmaa.Pr
open Go.RowKit Go.Proofs.YthmjimboajmhmaaW.PrintWords Go.Proofs.YthmjimboajmhmaaW.PrintLast Go.Proofs.YthmjimboajmhmaaW.PrintMore
attribute [local go_sem] max2_int min2_int max_two min_two max_three min_three max_four min_four   -- for this text's walks alone
set_option linter.unusedVariables false
set_option linter.unusedSimpArgs false
def spec_l25Make.f (k : Nat) (l0_0 : List (S37)) (l0_1 : List Bool) (l0_2 : List Bool) (a0_3 : Int) (a0_4 : Int) (a1_0 : Int) (a1_1 : Int) (a1_2 : Int) (a1_3 : Int) (a1_4 : Int) (a1_5 : Int) (a1_6 : Int) : Option ((List (S37)) × List Bool × List Bool × Int × Int × Bool) := (spec_l25Own.f l0_0 l0_1 l0_2 a0_3 a0_4).bind fun bt312 => (if a1_0 = 1 then (if 0 ≤ a1_1 then (if a1_1 < (l0_0.length : Int) then ((spec_l25Go.f bt312.1 bt312.2.1 bt312.2.2.1 bt312.2.2.2.1 bt312.2.2.2.2 ((rd_T37 l0_0 a1_1).f0) ((rd_T37 l0_0 a1_1).f1) ((rd_T37 l0_0 a1_1).f2) ((rd_T37 l0_0 a1_1).f3) ((rd_T37 l0_0 a1_1).f4) ((rd_T37 l0_0 a1_1).f2)).bind fun bt326 => (if bt326.2.2.2.2.2 = true then ((spec_l25Good.f k bt326.1 bt326.2.1 bt326.2.2.1 bt326.2.2.2.1 bt326.2.2.2.2.1).bind fun t338 => (some (bt326.1, bt326.2.1, bt326.2.2.1, bt326.2.2.2.1, bt326.2.2.2.2.1, t338))) else (some (bt326.1, bt326.2.1, bt326.2.2.1, bt326.2.2.2.1, bt326.2.2.2.2.1, false)))) else (none)) else (none)) else (if a1_0 = 2 then (if bt312.1.length < 3518437208883 then ((spec_l25Go.f (bt312.1 ++ [(⟨a1_2, a1_3, a1_4, a1_5, a1_6⟩ : S37)]) bt312.2.1 bt312.2.2.1 bt312.2.2.2.1 bt312.2.2.2.2 a1_2 a1_3 a1_4 a1_5 a1_6 (wrap64 (3 * a1_4))).bind fun bt342 => (if a1_2 = a0_3 then ((spec_l25Good.f k bt342.1 bt342.2.1 bt342.2.2.1 bt342.2.2.2.1 bt342.2.2.2.2.1).bind fun t354 => (some (bt342.1, bt342.2.1, bt342.2.2.1, bt342.2.2.2.1, bt342.2.2.2.2.1, t354))) else (some (bt342.1, bt342.2.1, bt342.2.2.1, bt342.2.2.2.1, bt342.2.2.2.2.1, false)))) else (none)) else (if a1_0 = 3 then (if 0 ≤ a0_3 then (if a0_3 < (l0_2.length : Int) then (if a0_3 < (bt312.2.2.1.length : Int) then ((some (bt312.2.2.1.set (a0_3 : Int).toNat true : List Bool)).bind fun y356 => (if rdOf false l0_2 a0_3 = true then (some (bt312.1, bt312.2.1, y356, bt312.2.2.2.1, bt312.2.2.2.2, false)) else ((spec_l25Good.f k bt312.1 bt312.2.1 y356 bt312.2.2.2.1 bt312.2.2.2.2).bind fun t357 => (some (bt312.1, bt312.2.1, y356, bt312.2.2.2.1, bt312.2.2.2.2, t357))))) else (none)) else (none)) else (none)) else (if a0_3 = 0 then ((spec_l25Good.f k bt312.1 bt312.2.1 bt312.2.2.1 bt312.2.2.2.1 (wrap64 (a0_4 + a1_1))).bind fun t358 => (some (bt312.1, bt312.2.1, bt312.2.2.1, bt312.2.2.2.1, wrap64 (a0_4 + a1_1), t358))) else (some (bt312.1, bt312.2.1, bt312.2.2.1, bt312.2.2.2.1, wrap64 (a0_4 + a1_1), false))))))
theorem spec_l25Make.mono : ∀ a0 a1 a2 a3 a4 a5 a6 a7 a8 a9 a10 a11 k, LeO (spec_l25Make.f k a0 a1 a2 a3 a4 a5 a6 a7 a8 a9 a10 a11) (spec_l25Make.f (k + 1) a0 a1 a2 a3 a4 a5 a6 a7 a8 a9 a10 a11) := by
 intro a0 a1 a2 a3 a4 a5 a6 a7 a8 a9 a10 a11 k
 unfold spec_l25Make.f
 repeat' first
   | (with_reducible exact spec_l25Good.mono _ _ _ _ _ _)
   | (with_reducible exact LeO.refl _)
   | (with_reducible exact LeO.none _)
   | (with_reducible refine LeO.ite ?_ ?_)
   | (with_reducible refine LeO.bind ?_ (fun _ => ?_))
   | exact spec_l25Good.mono _ _ _ _ _ _
   | exact LeO.none _
   | refine LeO.ite ?_ ?_
   | refine LeO.bind ?_ (fun _ => ?_)
def spec_l25Make.T7 : Bool × List (List Nat × List Nat) := (true, [([], []), ([], []), ([1], [1]), ([], []), ([3], [3]), ([2, 4], [2, 4]), ([5], [5]), ([], []), ([7], [7]), ([], []), ([9], [9]), ([8, 10], [8, 10]), ([11], [11]), ([12], [12]), ([0, 6, 13], [0, 6, 13]), ([14], [14]), ([15], [15]), ([15], [15]), ([16, 14, 0, 1, 2, 3, 4, 5, 6, 7, 8, 9, 10, 11, 12, 13, 14, 15, 16], [16]), ([17, 18, 0, 1, 2, 3, 4, 5, 6, 7, 8, 9, 10, 11, 12, 13, 14, 15, 16, 17, 18], [17])])
def spec_l25Make.B7 : List Nat := [0, 0, 2, 0, 8, 30, 62, 0, 128, 0, 512, 1920, 3968, 8064, 16383, 32767, 65535, 65535, 131071, 524287]
theorem spec_l25Make.tab7 : rtab .any (opsOf Try.f78 7) = spec_l25Make.T7 := by kernel_rfl
theorem spec_l25Make.bits7 : waitsOk spec_l25Make.T7.2 spec_l25Make.B7 = true := by kernel_rfl
def spec_l25Make.T15 : Bool × List (List Nat × List Nat) := (true, [([], []), ([], []), ([1], [1]), ([2], [2]), ([3, 2, 2], [2, 3]), ([2, 4], [2, 4]), ([0, 4, 0], [0]), ([5, 6, 0, 1, 2, 3, 4, 5, 6], [5])])
def spec_l25Make.B15 : List Nat := [0, 0, 2, 6, 14, 30, 31, 127]
theorem spec_l25Make.tab15 : rtab .any (opsOf Try.f78 15) = spec_l25Make.T15 := by kernel_rfl
theorem spec_l25Make.bits15 : waitsOk spec_l25Make.T15.2 spec_l25Make.B15 = true := by kernel_rfl
abbrev spec_l25Make.mk0 : Array Bool := #[fF,fF,fF,fF,fF,fF,fF,fF,fF,fF,fF,fF,fF,fF,fF,fF,fF,fF,fF,fF]
abbrev spec_l25Make.mk1 : Array Bool := #[fF,tT,fF,fF,fF,fF,fF,fF,fF,fF,fF,fF,fF,fF,fF,fF,fF,fF,fF,fF]
abbrev spec_l25Make.mk2 : Array Bool := #[fF,tT,fF,tT,fF,fF,fF,fF,fF,fF,fF,fF,fF,fF,fF,fF,fF,fF,fF,fF]
abbrev spec_l25Make.mk3 : Array Bool := #[fF,tT,fF,tT,fF,fF,fF,tT,fF,fF,fF,fF,fF,fF,fF,fF,fF,fF,fF,fF]
abbrev spec_l25Make.mk4 : Array Bool := #[fF,tT,fF,tT,fF,fF,fF,tT,fF,tT,fF,fF,fF,fF,fF,fF,fF,fF,fF,fF]
abbrev spec_l25Make.mk5 : Array Bool := #[tT,tT,fF,tT,fF,fF,fF,tT,fF,tT,fF,fF,fF,fF,fF,fF,fF,fF,fF,fF]
abbrev spec_l25Make.mk6 : Array Bool := #[tT,tT,tT,tT,fF,fF,fF,tT,fF,tT,fF,fF,fF,fF,fF,fF,fF,fF,fF,fF]
abbrev spec_l25Make.mk7 : Array Bool := #[tT,tT,tT,tT,tT,fF,fF,tT,fF,tT,fF,fF,fF,fF,fF,fF,fF,fF,fF,fF]
abbrev spec_l25Make.mk8 : Array Bool := #[tT,tT,tT,tT,tT,tT,fF,tT,fF,tT,fF,fF,fF,fF,fF,fF,fF,fF,fF,fF]
abbrev spec_l25Make.mk9 : Array Bool := #[tT,tT,tT,tT,tT,tT,tT,tT,fF,tT,fF,fF,fF,fF,fF,fF,fF,fF,fF,fF]
abbrev spec_l25Make.mk10 : Array Bool := #[tT,tT,tT,tT,tT,tT,tT,tT,tT,tT,fF,fF,fF,fF,fF,fF,fF,fF,fF,fF]
abbrev spec_l25Make.mk11 : Array Bool := #[tT,tT,tT,tT,tT,tT,tT,tT,tT,tT,tT,fF,fF,fF,fF,fF,fF,fF,fF,fF]
abbrev spec_l25Make.mk12 : Array Bool := #[tT,tT,tT,tT,tT,tT,tT,tT,tT,tT,tT,tT,fF,fF,fF,fF,fF,fF,fF,fF]
abbrev spec_l25Make.mk13 : Array Bool := #[tT,tT,tT,tT,tT,tT,tT,tT,tT,tT,tT,tT,tT,fF,fF,fF,fF,fF,fF,fF]
abbrev spec_l25Make.mk14 : Array Bool := #[tT,tT,tT,tT,tT,tT,tT,tT,tT,tT,tT,tT,tT,tT,fF,fF,fF,fF,fF,fF]
abbrev spec_l25Make.mk15 : Array Bool := #[tT,tT,tT,tT,tT,tT,tT,tT,tT,tT,tT,tT,tT,tT,tT,fF,fF,fF,fF,fF]
abbrev spec_l25Make.mk16 : Array Bool := #[tT,tT,tT,tT,tT,tT,tT,tT,tT,tT,tT,tT,tT,tT,tT,tT,fF,fF,fF,fF]
abbrev spec_l25Make.mk17 : Array Bool := #[tT,tT,tT,tT,tT,tT,tT,tT,tT,tT,tT,tT,tT,tT,tT,tT,tT,fF,fF,fF]
abbrev spec_l25Make.mk18 : Array Bool := #[tT,tT,tT,tT,tT,tT,tT,tT,tT,tT,tT,tT,tT,tT,tT,tT,tT,tT,fF,fF]
abbrev spec_l25Make.mk19 : Array Bool := #[tT,tT,tT,tT,tT,tT,tT,tT,tT,tT,tT,tT,tT,tT,tT,tT,tT,tT,tT,fF]
abbrev spec_l25Make.mk20 : Array Bool := #[tT,tT,tT,tT,tT,tT,tT,tT,tT,tT,tT,tT,tT,tT,tT,tT,tT,tT,tT,tT]
theorem spec_l25Make.calls (k : Nat) (A0_0 : Option Addr) (c0_0 : Nat) (l0_0 : List (S37)) (A0_1 : Option Addr) (c0_1 : Nat) (l0_1 : List Bool) (A0_2 : Option Addr) (c0_2 : Nat) (l0_2 : List Bool) (a0_3 : Int) (a0_4 : Int) (a1_0 : Int) (a1_1 : Int) (a1_2 : Int) (a1_3 : Int) (a1_4 : Int) (a1_5 : Int) (a1_6 : Int) (r1 : List (S37)) (r2 : List Bool) (r3 : List Bool) (r4 : Int) (r5 : Int) (r6 : Bool) (w : World) (hr0_0 : Kd.C k37 w A0_0 l0_0.length l0_0) (hc0_0 : l0_0.length ≤ c0_0) (hr0_1 : Kd.C Kd.bool w A0_1 l0_1.length l0_1) (hc0_1 : l0_1.length ≤ c0_1) (hr0_2 : Kd.C Kd.bool w A0_2 l0_2.length l0_2) (hc0_2 : l0_2.length ≤ c0_2) (h : spec_l25Make.f k l0_0 l0_1 l0_2 a0_3 a0_4 a1_0 a1_1 a1_2 a1_3 a1_4 a1_5 a1_6 = some (r1, r2, r3, r4, r5, r6)) :
  Calls Try.prog 78 #[.agg #[.slice A0_0 l0_0.length c0_0, .slice A0_1 l0_1.length c0_1, .slice A0_2 l0_2.length c0_2, .int .i64 a0_3, .int .i64 a0_4], .agg #[.int .i64 a1_0, .int .i64 a1_1, .int .i64 a1_2, .int .i64 a1_3, .int .i64 a1_4, .int .i64 a1_5, .int .i64 a1_6]] w fun e w' => ∃ v0_ v1_ v2_ : Value, e = .returned (.tuple #[.agg #[v0_, v1_, v2_, .int .i64 r4, .int .i64 r5], .bool r6]) ∧ Kd.R k37 37 w' w.heap.size (fun _ => True) v0_ r1 ∧ Kd.R Kd.bool 4 w' w.heap.size (fun k_ => some k_ ≠ (v2_ : Value).ownBlock) v1_ r2 ∧ Kd.R Kd.bool 4 w' w.heap.size (fun k_ => some k_ ≠ (v1_ : Value).ownBlock) v2_ r3 ∧ Below w.heap.size w w' := by
 have hu30 := Try.underlying30
 have hu39 := Try.underlying39
 have hu37 := Try.underlying37
 have HR0_0 := Aside0.mk hr0_0
 have HC0_0 := Aside0.mk hc0_0
 clear hr0_0 hc0_0
 have HR0_1 := Aside0.mk hr0_1
 have HC0_1 := Aside0.mk hc0_1
 clear hr0_1 hc0_1
 have HR0_2 := Aside0.mk hr0_2
 have HC0_2 := Aside0.mk hc0_2
 clear hr0_2 hc0_2
 have HB := Aside0.mk (Below.refl w.heap.size w)
 have H : ((spec_l25Own.f l0_0 l0_1 l0_2 a0_3 a0_4).bind fun bt312 => (if a1_0 = 1 then (if 0 ≤ a1_1 then (if a1_1 < (l0_0.length : Int) then ((spec_l25Go.f bt312.1 bt312.2.1 bt312.2.2.1 bt312.2.2.2.1 bt312.2.2.2.2 ((rd_T37 l0_0 a1_1).f0) ((rd_T37 l0_0 a1_1).f1) ((rd_T37 l0_0 a1_1).f2) ((rd_T37 l0_0 a1_1).f3) ((rd_T37 l0_0 a1_1).f4) ((rd_T37 l0_0 a1_1).f2)).bind fun bt326 => (if bt326.2.2.2.2.2 = true then ((spec_l25Good.f k bt326.1 bt326.2.1 bt326.2.2.1 bt326.2.2.2.1 bt326.2.2.2.2.1).bind fun t338 => (some (bt326.1, bt326.2.1, bt326.2.2.1, bt326.2.2.2.1, bt326.2.2.2.2.1, t338))) else (some (bt326.1, bt326.2.1, bt326.2.2.1, bt326.2.2.2.1, bt326.2.2.2.2.1, false)))) else (none)) else (none)) else (if a1_0 = 2 then (if bt312.1.length < 3518437208883 then ((spec_l25Go.f (bt312.1 ++ [(⟨a1_2, a1_3, a1_4, a1_5, a1_6⟩ : S37)]) bt312.2.1 bt312.2.2.1 bt312.2.2.2.1 bt312.2.2.2.2 a1_2 a1_3 a1_4 a1_5 a1_6 (wrap64 (3 * a1_4))).bind fun bt342 => (if a1_2 = a0_3 then ((spec_l25Good.f k bt342.1 bt342.2.1 bt342.2.2.1 bt342.2.2.2.1 bt342.2.2.2.2.1).bind fun t354 => (some (bt342.1, bt342.2.1, bt342.2.2.1, bt342.2.2.2.1, bt342.2.2.2.2.1, t354))) else (some (bt342.1, bt342.2.1, bt342.2.2.1, bt342.2.2.2.1, bt342.2.2.2.2.1, false)))) else (none)) else (if a1_0 = 3 then (if 0 ≤ a0_3 then (if a0_3 < (l0_2.length : Int) then (if a0_3 < (bt312.2.2.1.length : Int) then ((some (bt312.2.2.1.set (a0_3 : Int).toNat true : List Bool)).bind fun y356 => (if rdOf false l0_2 a0_3 = true then (some (bt312.1, bt312.2.1, y356, bt312.2.2.2.1, bt312.2.2.2.2, false)) else ((spec_l25Good.f k bt312.1 bt312.2.1 y356 bt312.2.2.2.1 bt312.2.2.2.2).bind fun t357 => (some (bt312.1, bt312.2.1, y356, bt312.2.2.2.1, bt312.2.2.2.2, t357))))) else (none)) else (none)) else (none)) else (if a0_3 = 0 then ((spec_l25Good.f k bt312.1 bt312.2.1 bt312.2.2.1 bt312.2.2.2.1 (wrap64 (a0_4 + a1_1))).bind fun t358 => (some (bt312.1, bt312.2.1, bt312.2.2.1, bt312.2.2.2.1, wrap64 (a0_4 + a1_1), t358))) else (some (bt312.1, bt312.2.1, bt312.2.2.1, bt312.2.2.2.1, wrap64 (a0_4 + a1_1), false))))))) = some (r1, r2, r3, r4, r5, r6) := h
 clear h
 replace H := Option.bind_eq_some_iff.mp H
 obtain ⟨⟨t312, t315, t318, t321, t322⟩, A30, H⟩ := H
 replace H : (if a1_0 = 1 then (if 0 ≤ a1_1 then (if a1_1 < (l0_0.length : Int) then ((spec_l25Go.f t312 t315 t318 t321 t322 ((rd_T37 l0_0 a1_1).f0) ((rd_T37 l0_0 a1_1).f1) ((rd_T37 l0_0 a1_1).f2) ((rd_T37 l0_0 a1_1).f3) ((rd_T37 l0_0 a1_1).f4) ((rd_T37 l0_0 a1_1).f2)).bind fun bt326 => (if bt326.2.2.2.2.2 = true then ((spec_l25Good.f k bt326.1 bt326.2.1 bt326.2.2.1 bt326.2.2.2.1 bt326.2.2.2.2.1).bind fun t338 => (some (bt326.1, bt326.2.1, bt326.2.2.1, bt326.2.2.2.1, bt326.2.2.2.2.1, t338))) else (some (bt326.1, bt326.2.1, bt326.2.2.1, bt326.2.2.2.1, bt326.2.2.2.2.1, false)))) else (none)) else (none)) else (if a1_0 = 2 then (if t312.length < 3518437208883 then ((spec_l25Go.f (t312 ++ [(⟨a1_2, a1_3, a1_4, a1_5, a1_6⟩ : S37)]) t315 t318 t321 t322 a1_2 a1_3 a1_4 a1_5 a1_6 (wrap64 (3 * a1_4))).bind fun bt342 => (if a1_2 = a0_3 then ((spec_l25Good.f k bt342.1 bt342.2.1 bt342.2.2.1 bt342.2.2.2.1 bt342.2.2.2.2.1).bind fun t354 => (some (bt342.1, bt342.2.1, bt342.2.2.1, bt342.2.2.2.1, bt342.2.2.2.2.1, t354))) else (some (bt342.1, bt342.2.1, bt342.2.2.1, bt342.2.2.2.1, bt342.2.2.2.2.1, false)))) else (none)) else (if a1_0 = 3 then (if 0 ≤ a0_3 then (if a0_3 < (l0_2.length : Int) then (if a0_3 < (t318.length : Int) then ((some (t318.set (a0_3 : Int).toNat true : List Bool)).bind fun y356 => (if rdOf false l0_2 a0_3 = true then (some (t312, t315, y356, t321, t322, false)) else ((spec_l25Good.f k t312 t315 y356 t321 t322).bind fun t357 => (some (t312, t315, y356, t321, t322, t357))))) else (none)) else (none)) else (none)) else (if a0_3 = 0 then ((spec_l25Good.f k t312 t315 t318 t321 (wrap64 (a0_4 + a1_1))).bind fun t358 => (some (t312, t315, t318, t321, wrap64 (a0_4 + a1_1), t358))) else (some (t312, t315, t318, t321, wrap64 (a0_4 + a1_1), false)))))) = some (r1, r2, r3, r4, r5, r6) := H
 have A3 := Aside0.mk A30
 clear A30
 by_cases c4 : a1_0 = 1
 ·
  rw [if_pos c4] at H
  have c4b0 : (a1_0 == 1) = true := beq_iff_eq.mpr c4
  have c4b1 : (a1_0 != 1) = false := bne_eq_false_iff_eq.mpr c4
  clear c4
  by_cases c5 : 0 ≤ a1_1
  ·
   rw [if_pos c5] at H
   have c5b0 : decide (0 ≤ a1_1) = true := decide_eq_true c5
   clear c5
   by_cases c6 : a1_1 < (l0_0.length : Int)
   ·
    rw [if_pos c6] at H
    have c6b0 : decide (a1_1 < (l0_0.length : Int)) = true := decide_eq_true c6
    clear c6
    replace H := Option.bind_eq_some_iff.mp H
    obtain ⟨⟨t326, t329, t332, t335, t336, t337⟩, A70, H⟩ := H
    replace H : (if t337 = true then ((spec_l25Good.f k t326 t329 t332 t335 t336).bind fun t338 => (some (t326, t329, t332, t335, t336, t338))) else (some (t326, t329, t332, t335, t336, false))) = some (r1, r2, r3, r4, r5, r6) := H
    have A7 := Aside0.mk A70
    clear A70
    by_cases c8 : t337 = true
    ·
     subst c8
     have H1 : ((spec_l25Good.f k t326 t329 t332 t335 t336).bind fun t338 => (some (t326, t329, t332, t335, t336, t338))) = some (r1, r2, r3, r4, r5, r6) := by rw [if_pos rfl] at H; exact H
     clear H
     have H := H1
     clear H1
     replace H := Option.bind_eq_some_iff.mp H
     obtain ⟨t338, A90, H⟩ := H
     replace H : (some (t326, t329, t332, t335, t336, t338)) = some (r1, r2, r3, r4, r5, r6) := H
     have A9 := Aside0.mk A90
     clear A90
     simp only [Option.some.injEq, Prod.mk.injEq] at H
     obtain ⟨rfl, rfl, rfl, rfl, rfl, rfl⟩ := H
     go_enter Try.func78, Try.ntmps78
     try go_wp2_with (first | ((with_reducible refine gate_dst (N := 2) rfl ?_); refine box_event ?hg (N := 2) ?hd (cs := #[.slice A0_0 l0_0.length c0_0, .slice A0_1 l0_1.length c0_1, .slice A0_2 l0_2.length c0_2, .int .i64 a0_3, .int .i64 a0_4]) (t := 30) ?hr ?_; (case hd => rfl); (case hg => rfl); (case hr => first | (go_simp; done) | (go_simp; rfl)); intro gb309 hg w10 hbox hb; have BK309 := Aside0.mk (hbox); have GW309 := Aside0.mk ((bz_ hg (lb0_ HB.out))); have GE309 := Aside0.mk ((bz_ hg (lb0_ HB.out))); replace HB := Aside0.mk (below_step (lb0_ HB.out) hb); clear hb hbox hg) | ((with_reducible refine gate_dst (N := 3) rfl ?_); refine box_event ?hg (N := 3) ?hd (cs := #[.int .i64 a1_0, .int .i64 a1_1, .int .i64 a1_2, .int .i64 a1_3, .int .i64 a1_4, .int .i64 a1_5, .int .i64 a1_6]) (t := 39) ?hr ?_; (case hd => rfl); (case hg => rfl); (case hr => first | (go_simp; done) | (go_simp; rfl)); intro gb310 hg w11 hbox hb; have BK310 := Aside0.mk (hbox); have GW310 := Aside0.mk ((bz_ hg (lb1_ HB.out GE309.out))); have GE310 := Aside0.mk ((bz_ hg (lb1_ HB.out GE309.out))); replace HB := Aside0.mk (below_step (lb1_ HB.out GE309.out) hb); have NB309_310 := Aside0.mk (nl_ hg BK309.out); have NB310_309 := Aside0.mk (ng_ hg BK309.out); replace BK309 := Aside0.mk (bb_ (bk_ BK309.out) hb); clear hb hbox hg) | ((with_reducible refine gate_dst (N := 4) rfl ?_); refine box_event ?hg (N := 4) ?hd (cs := #[.slice none 0 0, .slice none 0 0, .slice none 0 0, .int .i64 0, .int .i64 0]) (t := 30) ?hr ?_; (case hd => rfl); (case hg => rfl); (case hr => first | (go_simp; done) | (go_simp; rfl)); intro gb311 hg w12 hbox hb; have BK311 := Aside0.mk (hbox); have GW311 := Aside0.mk ((bz_ hg (lb2_ HB.out GE309.out GE310.out))); have GE311 := Aside0.mk ((bz_ hg (lb2_ HB.out GE309.out GE310.out))); replace HB := Aside0.mk (below_step (lb2_ HB.out GE309.out GE310.out) hb); have NB309_311 := Aside0.mk (nl_ hg BK309.out); have NB311_309 := Aside0.mk (ng_ hg BK309.out); replace BK309 := Aside0.mk (bb_ (bk_ BK309.out) hb); have NB310_311 := Aside0.mk (nl_ hg BK310.out); have NB311_310 := Aside0.mk (ng_ hg BK310.out); replace BK310 := Aside0.mk (bb_ (bk_ BK310.out) hb); clear hb hbox hg; have hnb13 := NB309_310.out; have hnc13 := NB310_309.out; have hnb14 := NB309_311.out; have hnc14 := NB311_309.out; obtain ⟨hcz15_0, hcz15_1, hcz15_2, hcz15_3, hcz15_4⟩ := cz5_ BK309.out; obtain ⟨hfz15_0, hfz15_1, hfz15_2, hfz15_3, hfz15_4⟩ := fz5_ BK309.out) | ((with_reducible refine gate_callee (f := 84) rfl ?_); refine ga_ (some 9) Try.func84 #[.agg #[.slice A0_0 l0_0.length c0_0, .slice A0_1 l0_1.length c0_1, .slice A0_2 l0_2.length c0_2, .int .i64 a0_3, .int .i64 a0_4]] ?_; (with_reducible refine (spec_l25Own.calls _ _ l0_0 _ _ l0_1 _ _ l0_2 a0_3 a0_4 t312 t315 t318 t321 t322 _ ?side1 ?side2 ?side3 ?side4 ?side5 ?side6 A3.out).mono ?_); (case side1 => exact kc_ (Kd.C_below HR0_0.out HB.out)); (case side2 => exact HC0_0.out); (case side3 => exact kc_ (Kd.C_below HR0_1.out HB.out)); (case side4 => exact HC0_1.out); (case side5 => exact kc_ (Kd.C_below HR0_2.out HB.out)); (case side6 => exact HC0_2.out); rintro e w16 ⟨v313, v316, v319, rfl, ho0, ho1, ho2, hb⟩; refine ⟨_, rfl, ?_⟩; have HO314 := Aside0.mk (Kd.R_lower ho0 (below_size (lb3_ HB.out GE309.out GE310.out GE311.out))); have HO317 := Aside0.mk (Kd.R_lower ho1 (below_size (lb3_ HB.out GE309.out GE310.out GE311.out))); have HO320 := Aside0.mk (Kd.R_lower ho2 (below_size (lb3_ HB.out GE309.out GE310.out GE311.out))); replace BK309 := Aside0.mk (bb_ (bk_ BK309.out) hb); replace BK310 := Aside0.mk (bb_ (bk_ BK310.out) hb); replace BK311 := Aside0.mk (bb_ (bk_ BK311.out) hb); replace HB := Aside0.mk (below_step (lb3_ HB.out GE309.out GE310.out GE311.out) hb); (try clear hb); (try clear hb2); (try clear hk); (try clear hi); (try clear ho0); (try clear ho1); (try clear ho2)) | ((with_reducible refine gate_dst (N := 6) rfl ?_); refine box_event ?hg (N := 6) ?hd (cs := #[.slice none 0 0, .slice none 0 0, .slice none 0 0, .int .i64 0, .int .i64 0]) (t := 30) ?hr ?_; (case hd => rfl); (case hg => rfl); (case hr => first | (go_simp; done) | (go_simp; rfl)); intro gb323 hg w17 hbox hb; replace HO314 := Aside0.mk (Kd.R_below (kr_ HO314.out) hb); replace HO317 := Aside0.mk (Kd.R_below (kr_ HO317.out) hb); replace HO320 := Aside0.mk (Kd.R_below (kr_ HO320.out) hb); have BK323 := Aside0.mk (hbox); have GW323 := Aside0.mk (bz_ hg (lb3_ HB.out GE309.out GE310.out GE311.out)); have GE323 := Aside0.mk (bz_ hg (lb3_ HB.out GE309.out GE310.out GE311.out)); replace HB := Aside0.mk (below_step (lb3_ HB.out GE309.out GE310.out GE311.out) hb); have NB309_323 := Aside0.mk (nl_ hg BK309.out); have NB323_309 := Aside0.mk (ng_ hg BK309.out); replace BK309 := Aside0.mk (bb_ (bk_ BK309.out) hb); have NB310_323 := Aside0.mk (nl_ hg BK310.out); have NB323_310 := Aside0.mk (ng_ hg BK310.out); replace BK310 := Aside0.mk (bb_ (bk_ BK310.out) hb); have NB311_323 := Aside0.mk (nl_ hg BK311.out); have NB323_311 := Aside0.mk (ng_ hg BK311.out); replace BK311 := Aside0.mk (bb_ (bk_ BK311.out) hb); clear hb hbox hg; obtain ⟨Ao18, co18, eo18⟩ := Kd.R_slice HO314.out; subst eo18; have hnb19 := NB323_309.out; have hnc19 := NB309_323.out; have hnb20 := NB323_310.out; have hnc20 := NB310_323.out; have hnb21 := NB323_311.out; have hnc21 := NB311_323.out; obtain ⟨hcz22_0, hcz22_1, hcz22_2, hcz22_3, hcz22_4⟩ := cz5_ BK323.out; obtain ⟨hfz22_0, hfz22_1, hfz22_2, hfz22_3, hfz22_4⟩ := fz5_ BK323.out; obtain ⟨Ao23, co23, eo23⟩ := Kd.R_slice HO317.out; subst eo23; obtain ⟨Ao24, co24, eo24⟩ := Kd.R_slice HO320.out; subst eo24; have hnb25 := NB310_311.out; have hnc25 := NB311_310.out; obtain ⟨hcz26_0, hcz26_1, hcz26_2, hcz26_3, hcz26_4, hcz26_5, hcz26_6⟩ := cz7_ BK310.out; obtain ⟨hfz26_0, hfz26_1, hfz26_2, hfz26_3, hfz26_4, hfz26_5, hfz26_6⟩ := fz7_ BK310.out))
     have n0_ : Aside0 (Kd.R k37 37 (((((w17.setCell ⟨gb323, 0, none⟩ (.slice Ao18 t312.length co18)).setCell ⟨gb323, 1, none⟩ (.slice Ao23 t315.length co23)).setCell ⟨gb323, 2, none⟩ (.slice Ao24 t318.length co24)).setCell ⟨gb323, 3, none⟩ (.int .i64 t321)).setCell ⟨gb323, 4, none⟩ (.int .i64 t322)) w.heap.size (fun _ => True) (.slice Ao18 t312.length co18) t312) := ⟨Kd.R_mono (r5_ HO314.out BK323.out (by decide) _ _ _ _ _) (fun _ hk => trivial)⟩
     have n1_ : Aside0 (Kd.R Kd.bool 4 (((((w17.setCell ⟨gb323, 0, none⟩ (.slice Ao18 t312.length co18)).setCell ⟨gb323, 1, none⟩ (.slice Ao23 t315.length co23)).setCell ⟨gb323, 2, none⟩ (.slice Ao24 t318.length co24)).setCell ⟨gb323, 3, none⟩ (.int .i64 t321)).setCell ⟨gb323, 4, none⟩ (.int .i64 t322)) w.heap.size (fun k_ => some k_ ≠ (.slice Ao24 t318.length co24 : Value).ownBlock) (.slice Ao23 t315.length co23) t315) := ⟨Kd.R_mono (r5_ HO317.out BK323.out (by decide) _ _ _ _ _) (fun _ hk => hk)⟩
     have n2_ : Aside0 (Kd.R Kd.bool 4 (((((w17.setCell ⟨gb323, 0, none⟩ (.slice Ao18 t312.length co18)).setCell ⟨gb323, 1, none⟩ (.slice Ao23 t315.length co23)).setCell ⟨gb323, 2, none⟩ (.slice Ao24 t318.length co24)).setCell ⟨gb323, 3, none⟩ (.int .i64 t321)).setCell ⟨gb323, 4, none⟩ (.int .i64 t322)) w.heap.size (fun k_ => some k_ ≠ (.slice Ao23 t315.length co23 : Value).ownBlock) (.slice Ao24 t318.length co24) t318) := ⟨Kd.R_mono (r5_ HO320.out BK323.out (by decide) _ _ _ _ _) (fun _ hk => hk)⟩
     have n3_ : Aside0 ((((((w17.setCell ⟨gb323, 0, none⟩ (.slice Ao18 t312.length co18)).setCell ⟨gb323, 1, none⟩ (.slice Ao23 t315.length co23)).setCell ⟨gb323, 2, none⟩ (.slice Ao24 t318.length co24)).setCell ⟨gb323, 3, none⟩ (.int .i64 t321)).setCell ⟨gb323, 4, none⟩ (.int .i64 t322)).heap[gb309]? = some (.cells #[.slice A0_0 l0_0.length c0_0, .slice A0_1 l0_1.length c0_1, .slice A0_2 l0_2.length c0_2, .int .i64 a0_3, .int .i64 a0_4] 30 (0, 0))) := ⟨by exact (f5_ BK309.out NB309_323.out _ _ _ _ _)⟩
     have n4_ : Aside0 ((((((w17.setCell ⟨gb323, 0, none⟩ (.slice Ao18 t312.length co18)).setCell ⟨gb323, 1, none⟩ (.slice Ao23 t315.length co23)).setCell ⟨gb323, 2, none⟩ (.slice Ao24 t318.length co24)).setCell ⟨gb323, 3, none⟩ (.int .i64 t321)).setCell ⟨gb323, 4, none⟩ (.int .i64 t322)).heap[gb310]? = some (.cells #[.int .i64 a1_0, .int .i64 a1_1, .int .i64 a1_2, .int .i64 a1_3, .int .i64 a1_4, .int .i64 a1_5, .int .i64 a1_6] 39 (0, 0))) := ⟨by exact (f5_ BK310.out NB310_323.out _ _ _ _ _)⟩
     have n5_ : Aside0 ((((((w17.setCell ⟨gb323, 0, none⟩ (.slice Ao18 t312.length co18)).setCell ⟨gb323, 1, none⟩ (.slice Ao23 t315.length co23)).setCell ⟨gb323, 2, none⟩ (.slice Ao24 t318.length co24)).setCell ⟨gb323, 3, none⟩ (.int .i64 t321)).setCell ⟨gb323, 4, none⟩ (.int .i64 t322)).heap[gb311]? = some (.cells #[.slice none 0 0, .slice none 0 0, .slice none 0 0, .int .i64 0, .int .i64 0] 30 (0, 0))) := ⟨by exact (f5_ BK311.out NB311_323.out _ _ _ _ _)⟩
     have n6_ : Aside0 ((((((w17.setCell ⟨gb323, 0, none⟩ (.slice Ao18 t312.length co18)).setCell ⟨gb323, 1, none⟩ (.slice Ao23 t315.length co23)).setCell ⟨gb323, 2, none⟩ (.slice Ao24 t318.length co24)).setCell ⟨gb323, 3, none⟩ (.int .i64 t321)).setCell ⟨gb323, 4, none⟩ (.int .i64 t322)).heap[gb323]? = some (.cells #[.slice Ao18 t312.length co18, .slice Ao23 t315.length co23, .slice Ao24 t318.length co24, .int .i64 t321, .int .i64 t322] 30 (0, 0))) := ⟨by exact (p5_ BK323.out _ _ _ _ _)⟩
     have n7_ : Aside0 (Below w.heap.size w (((((w17.setCell ⟨gb323, 0, none⟩ (.slice Ao18 t312.length co18)).setCell ⟨gb323, 1, none⟩ (.slice Ao23 t315.length co23)).setCell ⟨gb323, 2, none⟩ (.slice Ao24 t318.length co24)).setCell ⟨gb323, 3, none⟩ (.int .i64 t321)).setCell ⟨gb323, 4, none⟩ (.int .i64 t322))) := ⟨by repeat (first | (with_reducible first | exact HB.out | apply below_alloc | apply pw_below_drewN | apply below_drew1 | refine below_set ?_ GE309.out | refine below_set ?_ GE310.out | refine below_set ?_ GE311.out | refine below_set ?_ GE323.out) | exact HB.out)⟩
     (try clear HO314)
     (try clear HO317)
     (try clear HO320)
     (try clear BK309)
     (try clear BK310)
     (try clear BK311)
     (try clear BK323)
     (try clear HB)
     generalize (((((w17.setCell ⟨gb323, 0, none⟩ (.slice Ao18 t312.length co18)).setCell ⟨gb323, 1, none⟩ (.slice Ao23 t315.length co23)).setCell ⟨gb323, 2, none⟩ (.slice Ao24 t318.length co24)).setCell ⟨gb323, 3, none⟩ (.int .i64 t321)).setCell ⟨gb323, 4, none⟩ (.int .i64 t322)) = w27 at n0_ n1_ n2_ n3_ n4_ n5_ n6_ n7_ ⊢
     have HO314 := n0_
     have HO317 := n1_
     have HO320 := n2_
     have BK309 := n3_
     have BK310 := n4_
     have BK311 := n5_
     have BK323 := n6_
     have HB := n7_
     clear n0_ n1_ n2_ n3_ n4_ n5_ n6_ n7_
     replace HO314 := Aside0.mk (Kd.R_drew HO314.out)
     replace HO317 := Aside0.mk (Kd.R_drew HO317.out)
     replace HO320 := Aside0.mk (Kd.R_drew HO320.out)
     replace BK309 := Aside0.mk (blk_drew BK309.out)
     replace BK310 := Aside0.mk (blk_drew BK310.out)
     replace BK311 := Aside0.mk (blk_drew BK311.out)
     replace BK323 := Aside0.mk (blk_drew BK323.out)
     replace HB := Aside0.mk (below_drew1 HB.out)
     have p324 : 0 ≤ (a1_1 : Int) := dt_
     have q324 : a1_1 < (l0_0.length : Int) := dt_
     obtain ⟨ad324, e324, hx324_0, hx324_1, hx324_2, hx324_3, hx324_4⟩ := at_T37 HR0_0.out a1_1 p324 q324
     have hw324_4 := hx324_4
     have hw324_3 := hx324_3
     have hw324_2 := hx324_2
     have hw324_1 := hx324_1
     have hw324_0 := hx324_0
     cases e324
     replace hx324_0 := bc_ HB.out hx324_0
     replace hx324_1 := bc_ HB.out hx324_1
     replace hx324_2 := bc_ HB.out hx324_2
     replace hx324_3 := bc_ HB.out hx324_3
     replace hx324_4 := bc_ HB.out hx324_4
     replace p324 := eq_true p324
     replace q324 := eq_true q324
     have p325 : 0 ≤ (a1_1 : Int) := dt_
     have q325 : a1_1 < (l0_0.length : Int) := dt_
     obtain ⟨ad325, e325, hx325_0, hx325_1, hx325_2, hx325_3, hx325_4⟩ := at_T37 HR0_0.out a1_1 p325 q325
     have hw325_4 := hx325_4
     have hw325_3 := hx325_3
     have hw325_2 := hx325_2
     have hw325_1 := hx325_1
     have hw325_0 := hx325_0
     obtain rfl : ad324 = ad325 := (by injection e325)
     replace hx325_0 := bc_ HB.out hx325_0
     replace hx325_1 := bc_ HB.out hx325_1
     replace hx325_2 := bc_ HB.out hx325_2
     replace hx325_3 := bc_ HB.out hx325_3
     replace hx325_4 := bc_ HB.out hx325_4
     replace p325 := eq_true p325
     replace q325 := eq_true q325
     refine start_ (n := 20) (S := fun w' => w'.cell? ⟨gb323, 0, none⟩ = some (.slice Ao18 t312.length co18) ∧ w'.cell? ⟨gb323, 1, none⟩ = some (.slice Ao23 t315.length co23) ∧ w'.cell? ⟨gb323, 2, none⟩ = some (.slice Ao24 t318.length co24) ∧ w'.cell? ⟨gb323, 3, none⟩ = some (.int .i64 t321) ∧ w'.cell? ⟨gb323, 4, none⟩ = some (.int .i64 t322) ∧ w'.cell? ⟨gb309, 0, none⟩ = some (.slice (some ad324) l0_0.length c0_0) ∧ w'.cell? ⟨gb309, 1, none⟩ = some (.slice A0_1 l0_1.length c0_1) ∧ w'.cell? ⟨gb309, 2, none⟩ = some (.slice A0_2 l0_2.length c0_2) ∧ w'.cell? ⟨gb309, 3, none⟩ = some (.int .i64 a0_3) ∧ w'.cell? ⟨gb309, 4, none⟩ = some (.int .i64 a0_4) ∧ w'.cell? ⟨gb310, 0, none⟩ = some (.int .i64 a1_0) ∧ w'.cell? ⟨gb310, 1, none⟩ = some (.int .i64 a1_1) ∧ w'.cell? ⟨gb310, 2, none⟩ = some (.int .i64 a1_2) ∧ w'.cell? ⟨gb310, 3, none⟩ = some (.int .i64 a1_3) ∧ w'.cell? ⟨gb310, 4, none⟩ = some (.int .i64 a1_4) ∧ w'.cell? ⟨gb310, 5, none⟩ = some (.int .i64 a1_5) ∧ w'.cell? ⟨gb310, 6, none⟩ = some (.int .i64 a1_6) ∧ w'.cell? (ad324.add ((a1_1).toNat * 5)) = some (.int .i64 ((rd_T37 l0_0 a1_1).f0)) ∧ w'.cell? ⟨(ad324.add ((a1_1).toNat * 5)).block, (ad324.add ((a1_1).toNat * 5)).off + 1, none⟩ = some (.int .i64 ((rd_T37 l0_0 a1_1).f1)) ∧ w'.cell? ⟨(ad324.add ((a1_1).toNat * 5)).block, (ad324.add ((a1_1).toNat * 5)).off + 2, none⟩ = some (.int .i64 ((rd_T37 l0_0 a1_1).f2)) ∧ w'.cell? ⟨(ad324.add ((a1_1).toNat * 5)).block, (ad324.add ((a1_1).toNat * 5)).off + 3, none⟩ = some (.int .i64 ((rd_T37 l0_0 a1_1).f3)) ∧ w'.cell? ⟨(ad324.add ((a1_1).toNat * 5)).block, (ad324.add ((a1_1).toNat * 5)).off + 4, none⟩ = some (.int .i64 ((rd_T37 l0_0 a1_1).f4)) ∧ w'.cell? (ad324.add ((a1_1).toNat * 5)) = some (.int .i64 ((rd_T37 l0_0 a1_1).f0)) ∧ w'.cell? ⟨(ad324.add ((a1_1).toNat * 5)).block, (ad324.add ((a1_1).toNat * 5)).off + 1, none⟩ = some (.int .i64 ((rd_T37 l0_0 a1_1).f1)) ∧ w'.cell? ⟨(ad324.add ((a1_1).toNat * 5)).block, (ad324.add ((a1_1).toNat * 5)).off + 2, none⟩ = some (.int .i64 ((rd_T37 l0_0 a1_1).f2)) ∧ w'.cell? ⟨(ad324.add ((a1_1).toNat * 5)).block, (ad324.add ((a1_1).toNat * 5)).off + 3, none⟩ = some (.int .i64 ((rd_T37 l0_0 a1_1).f3)) ∧ w'.cell? ⟨(ad324.add ((a1_1).toNat * 5)).block, (ad324.add ((a1_1).toNat * 5)).off + 4, none⟩ = some (.int .i64 ((rd_T37 l0_0 a1_1).f4))) (ds := [18]) spec_l25Make.mk0 (by kernel_rfl) rfl rfl ⟨(blk_cell BK323.out 0).trans rfl, (blk_cell BK323.out 1).trans rfl, (blk_cell BK323.out 2).trans rfl, (blk_cell BK323.out 3).trans rfl, (blk_cell BK323.out 4).trans rfl, (blk_cell BK309.out 0).trans rfl, (blk_cell BK309.out 1).trans rfl, (blk_cell BK309.out 2).trans rfl, (blk_cell BK309.out 3).trans rfl, (blk_cell BK309.out 4).trans rfl, (blk_cell BK310.out 0).trans rfl, (blk_cell BK310.out 1).trans rfl, (blk_cell BK310.out 2).trans rfl, (blk_cell BK310.out 3).trans rfl, (blk_cell BK310.out 4).trans rfl, (blk_cell BK310.out 5).trans rfl, (blk_cell BK310.out 6).trans rfl, (bc_ HB.out hw324_0), (bc_ HB.out hw324_1), (bc_ HB.out hw324_2), (bc_ HB.out hw324_3), (bc_ HB.out hw324_4), (bc_ HB.out hw325_0), (bc_ HB.out hw325_1), (bc_ HB.out hw325_2), (bc_ HB.out hw325_3), (bc_ HB.out hw325_4)⟩ (fun hHeld => ?_); refine with_tabW spec_l25Make.tab7 spec_l25Make.bits7 (fun HT_ HW_ => ?_)
     generalize w27.drew = w28 at HO314 HO317 HO320 BK309 BK310 BK311 BK323 HB hx324_0 hx324_1 hx324_2 hx324_3 hx324_4 hx325_0 hx325_1 hx325_2 hx325_3 hx325_4 hHeld ⊢
     refine pz_ HT_ 1 (some 25) spec_l25Make.mk1 ?_
     refine pz_ HT_ 3 (some 27) spec_l25Make.mk2 ?_
     refine pz_ HT_ 7 (some 31) spec_l25Make.mk3 ?_
     refine pz_ HT_ 9 (some 33) spec_l25Make.mk4 ?_
     refine tk_ HT_ HW_ hHeld 0 (some 24) spec_l25Make.mk5 ?_
     refine tk_ HT_ HW_ hHeld 2 (some 26) spec_l25Make.mk6 ?_
     refine tk_ HT_ HW_ hHeld 4 (some 28) spec_l25Make.mk7 ?_
     refine pz_ HT_ 5 (some 29) spec_l25Make.mk8 ?_
     refine tk_ HT_ HW_ hHeld 6 (some 30) spec_l25Make.mk9 ?_
     refine tk_ HT_ HW_ hHeld 8 (some 32) spec_l25Make.mk10 ?_
     refine tk_ HT_ HW_ hHeld 10 (some 34) spec_l25Make.mk11 ?_
     refine pz_ HT_ 11 (some 35) spec_l25Make.mk12 ?_
     refine pz_ HT_ 12 (some 36) spec_l25Make.mk13 ?_
     refine tk_ HT_ HW_ hHeld 13 (some 37) spec_l25Make.mk14 ?_
     refine one_ (i := 14) (N := some 38) spec_l25Make.mk15 rfl rfl (one_of HT_.out (by kernel_rfl)) (by decide) (fun K hK => ?_)
     refine gs_ Try.func107 #[.agg #[.slice Ao18 t312.length co18, .slice Ao23 t315.length co23, .slice Ao24 t318.length co24, .int .i64 t321, .int .i64 t322], .agg #[.int .i64 ((rd_T37 l0_0 a1_1).f0), .int .i64 ((rd_T37 l0_0 a1_1).f1), .int .i64 ((rd_T37 l0_0 a1_1).f2), .int .i64 ((rd_T37 l0_0 a1_1).f3), .int .i64 ((rd_T37 l0_0 a1_1).f4)], .int .i64 ((rd_T37 l0_0 a1_1).f2)] ?_
     with_reducible refine (spec_l25Go.calls (fun k_ => some k_ = (.slice Ao18 t312.length co18 : Value).ownBlock) (.slice Ao18 t312.length co18) t312 (fun k_ => some k_ = (.slice Ao23 t315.length co23 : Value).ownBlock) (.slice Ao23 t315.length co23) t315 (fun k_ => some k_ = (.slice Ao24 t318.length co24 : Value).ownBlock) (.slice Ao24 t318.length co24) t318 t321 t322 ((rd_T37 l0_0 a1_1).f0) ((rd_T37 l0_0 a1_1).f1) ((rd_T37 l0_0 a1_1).f2) ((rd_T37 l0_0 a1_1).f3) ((rd_T37 l0_0 a1_1).f4) ((rd_T37 l0_0 a1_1).f2) t326 t329 t332 t335 t336 true w _ ?side1 ?side2 ?side3 ?side4 ?side5 ?side6 A7.out).mono ?_
     (case side1 => repeat (first | (with_reducible first | exact HB.out | apply below_alloc | apply pw_below_drewN | apply below_drew1 | refine below_set ?_ GE309.out | refine below_set ?_ GE310.out | refine below_set ?_ GE311.out | refine below_set ?_ GE323.out) | exact HB.out))
     (case side2 => exact Kd.R_tight rfl HO314.out)
     (case side3 => exact Kd.R_tight rfl HO317.out)
     (case side4 => exact fun k_ e_ => (HO317.out.1 k_ e_.symm))
     (case side5 => exact Kd.R_tight rfl HO320.out)
     (case side6 => exact fun k_ e_ => (HO320.out.1 k_ e_.symm))
     rintro e w29 ⟨v327, v330, v333, rfl, ho0, ho1, ho2, hb, hkp⟩
     refine ⟨_, rfl, ?_⟩
     replace BK309 := Aside0.mk (blk_kept (bk_ BK309.out) hkp (fun hs_ => Or.elim hs_ (fun e_ => (fun e_ => (Kd.R_ne HO314.out BK309.out (by decide)) e_) e_) (fun e_ => Or.elim e_ (fun e_ => (fun e_ => (Kd.R_ne HO317.out BK309.out (by decide)) e_) e_) (fun e_ => (fun e_ => (Kd.R_ne HO320.out BK309.out (by decide)) e_) e_))))
     replace BK310 := Aside0.mk (blk_kept (bk_ BK310.out) hkp (fun hs_ => Or.elim hs_ (fun e_ => (fun e_ => (Kd.R_ne HO314.out BK310.out (by decide)) e_) e_) (fun e_ => Or.elim e_ (fun e_ => (fun e_ => (Kd.R_ne HO317.out BK310.out (by decide)) e_) e_) (fun e_ => (fun e_ => (Kd.R_ne HO320.out BK310.out (by decide)) e_) e_))))
     replace BK311 := Aside0.mk (blk_kept (bk_ BK311.out) hkp (fun hs_ => Or.elim hs_ (fun e_ => (fun e_ => (Kd.R_ne HO314.out BK311.out (by decide)) e_) e_) (fun e_ => Or.elim e_ (fun e_ => (fun e_ => (Kd.R_ne HO317.out BK311.out (by decide)) e_) e_) (fun e_ => (fun e_ => (Kd.R_ne HO320.out BK311.out (by decide)) e_) e_))))
     replace BK323 := Aside0.mk (blk_kept (bk_ BK323.out) hkp (fun hs_ => Or.elim hs_ (fun e_ => (fun e_ => (Kd.R_ne HO314.out BK323.out (by decide)) e_) e_) (fun e_ => Or.elim e_ (fun e_ => (fun e_ => (Kd.R_ne HO317.out BK323.out (by decide)) e_) e_) (fun e_ => (fun e_ => (Kd.R_ne HO320.out BK323.out (by decide)) e_) e_))))
     have HO328 := Aside0.mk (Kd.R_mono (ok' := fun k_ => True) ho0 (fun k_ hk_ => trivial))
     have HO331 := Aside0.mk (Kd.R_mono (ok' := fun k_ => some k_ ≠ (v333 : Value).ownBlock) ho1 (fun k_ hk_ => hk_.2))
     have HO334 := Aside0.mk (Kd.R_mono (ok' := fun k_ => some k_ ≠ (v330 : Value).ownBlock) ho2 (fun k_ hk_ => hk_.2))
     replace HB := Aside0.mk (hb)
     clear HO314 HO317 HO320
     (try clear hb)
     (try clear hkp)
     (try clear ho0)
     (try clear ho1)
     (try clear ho2)
     obtain ⟨Ao30, co30, eo30⟩ := Kd.R_slice HO328.out
     (first | subst eo30 | (injection eo30 with f1_ f2_ f3_; have f4_ := f1_.symm; have f5_ := f3_.symm; clear f1_ f2_ f3_; subst f4_; subst f5_))
     obtain ⟨Ao32, co32, eo32⟩ := Kd.R_slice HO331.out
     (first | subst eo32 | (injection eo32 with f1_ f2_ f3_; have f4_ := f1_.symm; have f5_ := f3_.symm; clear f1_ f2_ f3_; subst f4_; subst f5_))
     obtain ⟨Ao34, co34, eo34⟩ := Kd.R_slice HO334.out
     (first | subst eo34 | (injection eo34 with f1_ f2_ f3_; have f4_ := f1_.symm; have f5_ := f3_.symm; clear f1_ f2_ f3_; subst f4_; subst f5_))
     refine hK.out _ _ ⟨(blk_cell BK323.out 0).trans rfl, (blk_cell BK323.out 1).trans rfl, (blk_cell BK323.out 2).trans rfl, (blk_cell BK323.out 3).trans rfl, (blk_cell BK323.out 4).trans rfl, (blk_cell BK309.out 0).trans rfl, (blk_cell BK309.out 1).trans rfl, (blk_cell BK309.out 2).trans rfl, (blk_cell BK309.out 3).trans rfl, (blk_cell BK309.out 4).trans rfl, (blk_cell BK310.out 0).trans rfl, (blk_cell BK310.out 1).trans rfl, (blk_cell BK310.out 2).trans rfl, (blk_cell BK310.out 3).trans rfl, (blk_cell BK310.out 4).trans rfl, (blk_cell BK310.out 5).trans rfl, (blk_cell BK310.out 6).trans rfl, (bc_ HB.out hw324_0), (bc_ HB.out hw324_1), (bc_ HB.out hw324_2), (bc_ HB.out hw324_3), (bc_ HB.out hw324_4), (bc_ HB.out hw325_0), (bc_ HB.out hw325_1), (bc_ HB.out hw325_2), (bc_ HB.out hw325_3), (bc_ HB.out hw325_4)⟩ (fun hHeld => ?_)
     clear hK K
     refine na_ ?_
     refine pz_ HT_ 15 (some 23) spec_l25Make.mk16 ?_
     refine pz_ HT_ 16 (some 39) spec_l25Make.mk17 ?_
     refine pz_ HT_ 17 (some 40) spec_l25Make.mk18 ?_
     refine last_ (i := 18) (N := none) spec_l25Make.mk19 rfl rfl (one_of HT_.out (by kernel_rfl)) (by decide) (fun K hK => ?_)
     have hs31 : w29.cell? ⟨gb323, 0, none⟩ = some (.slice Ao18 t312.length co18) := (blk_cell BK323.out 0).trans rfl
     have hfs31 := blk_frozen BK323.out 0
     have hns31_0 := NB309_323.out
     have hns31_1 := NB310_323.out
     have hns31_2 := NB311_323.out
     have hms31_0 := NB323_309.out
     have hms31_1 := NB323_310.out
     have hms31_2 := NB323_311.out
     have hs33 : w29.cell? ⟨gb323, 1, none⟩ = some (.slice Ao23 t315.length co23) := (blk_cell BK323.out 1).trans rfl
     have hfs33 := blk_frozen BK323.out 1
     have hns33_0 := NB309_323.out
     have hns33_1 := NB310_323.out
     have hns33_2 := NB311_323.out
     have hms33_0 := NB323_309.out
     have hms33_1 := NB323_310.out
     have hms33_2 := NB323_311.out
     have hs35 : w29.cell? ⟨gb323, 2, none⟩ = some (.slice Ao24 t318.length co24) := (blk_cell BK323.out 2).trans rfl
     have hfs35 := blk_frozen BK323.out 2
     have hns35_0 := NB309_323.out
     have hns35_1 := NB310_323.out
     have hns35_2 := NB311_323.out
     have hms35_0 := NB323_309.out
     have hms35_1 := NB323_310.out
     have hms35_2 := NB323_311.out
     have hs36 : w29.cell? ⟨gb323, 3, none⟩ = some (.int .i64 t321) := (blk_cell BK323.out 3).trans rfl
     have hfs36 := blk_frozen BK323.out 3
     have hns36_0 := NB309_323.out
     have hns36_1 := NB310_323.out
     have hns36_2 := NB311_323.out
     have hms36_0 := NB323_309.out
     have hms36_1 := NB323_310.out
     have hms36_2 := NB323_311.out
     have hs37 : w29.cell? ⟨gb323, 4, none⟩ = some (.int .i64 t322) := (blk_cell BK323.out 4).trans rfl
     have hfs37 := blk_frozen BK323.out 4
     have hns37_0 := NB309_323.out
     have hns37_1 := NB310_323.out
     have hns37_2 := NB311_323.out
     have hms37_0 := NB323_309.out
     have hms37_1 := NB323_310.out
     have hms37_2 := NB323_311.out
     refine skip_ (w1 := ?_) (by rfl) rfl ?_ ?_
     rotate_left
     ·
      go_simp
      rfl
     refine hK.out _ _ ?_
     clear hK K
     refine pz_ HT_ 19 (some 7) spec_l25Make.mk20 ?_
     refine done_ (done_of HT_.out (by kernel_rfl)) ?_
     try go_wp2
     have n0_ : Aside0 (Kd.R k37 37 (((((w29.setCell ⟨gb323, 0, none⟩ (.slice Ao30 t326.length co30)).setCell ⟨gb323, 1, none⟩ (.slice Ao32 t329.length co32)).setCell ⟨gb323, 2, none⟩ (.slice Ao34 t332.length co34)).setCell ⟨gb323, 3, none⟩ (.int .i64 t335)).setCell ⟨gb323, 4, none⟩ (.int .i64 t336)) w.heap.size (fun _ => True) (.slice Ao30 t326.length co30) t326) := ⟨Kd.R_mono (r5_ HO328.out BK323.out (by decide) _ _ _ _ _) (fun _ hk => trivial)⟩
     have n1_ : Aside0 (Kd.R Kd.bool 4 (((((w29.setCell ⟨gb323, 0, none⟩ (.slice Ao30 t326.length co30)).setCell ⟨gb323, 1, none⟩ (.slice Ao32 t329.length co32)).setCell ⟨gb323, 2, none⟩ (.slice Ao34 t332.length co34)).setCell ⟨gb323, 3, none⟩ (.int .i64 t335)).setCell ⟨gb323, 4, none⟩ (.int .i64 t336)) w.heap.size (fun k_ => some k_ ≠ (.slice Ao34 t332.length co34 : Value).ownBlock) (.slice Ao32 t329.length co32) t329) := ⟨Kd.R_mono (r5_ HO331.out BK323.out (by decide) _ _ _ _ _) (fun _ hk => hk)⟩
     have n2_ : Aside0 (Kd.R Kd.bool 4 (((((w29.setCell ⟨gb323, 0, none⟩ (.slice Ao30 t326.length co30)).setCell ⟨gb323, 1, none⟩ (.slice Ao32 t329.length co32)).setCell ⟨gb323, 2, none⟩ (.slice Ao34 t332.length co34)).setCell ⟨gb323, 3, none⟩ (.int .i64 t335)).setCell ⟨gb323, 4, none⟩ (.int .i64 t336)) w.heap.size (fun k_ => some k_ ≠ (.slice Ao32 t329.length co32 : Value).ownBlock) (.slice Ao34 t332.length co34) t332) := ⟨Kd.R_mono (r5_ HO334.out BK323.out (by decide) _ _ _ _ _) (fun _ hk => hk)⟩
     have n3_ : Aside0 ((((((w29.setCell ⟨gb323, 0, none⟩ (.slice Ao30 t326.length co30)).setCell ⟨gb323, 1, none⟩ (.slice Ao32 t329.length co32)).setCell ⟨gb323, 2, none⟩ (.slice Ao34 t332.length co34)).setCell ⟨gb323, 3, none⟩ (.int .i64 t335)).setCell ⟨gb323, 4, none⟩ (.int .i64 t336)).heap[gb309]? = some (.cells #[.slice (some ad324) l0_0.length c0_0, .slice A0_1 l0_1.length c0_1, .slice A0_2 l0_2.length c0_2, .int .i64 a0_3, .int .i64 a0_4] 30 (0, 0))) := ⟨by exact (f5_ BK309.out NB309_323.out _ _ _ _ _)⟩
     have n4_ : Aside0 ((((((w29.setCell ⟨gb323, 0, none⟩ (.slice Ao30 t326.length co30)).setCell ⟨gb323, 1, none⟩ (.slice Ao32 t329.length co32)).setCell ⟨gb323, 2, none⟩ (.slice Ao34 t332.length co34)).setCell ⟨gb323, 3, none⟩ (.int .i64 t335)).setCell ⟨gb323, 4, none⟩ (.int .i64 t336)).heap[gb310]? = some (.cells #[.int .i64 a1_0, .int .i64 a1_1, .int .i64 a1_2, .int .i64 a1_3, .int .i64 a1_4, .int .i64 a1_5, .int .i64 a1_6] 39 (0, 0))) := ⟨by exact (f5_ BK310.out NB310_323.out _ _ _ _ _)⟩
     have n5_ : Aside0 ((((((w29.setCell ⟨gb323, 0, none⟩ (.slice Ao30 t326.length co30)).setCell ⟨gb323, 1, none⟩ (.slice Ao32 t329.length co32)).setCell ⟨gb323, 2, none⟩ (.slice Ao34 t332.length co34)).setCell ⟨gb323, 3, none⟩ (.int .i64 t335)).setCell ⟨gb323, 4, none⟩ (.int .i64 t336)).heap[gb311]? = some (.cells #[.slice none 0 0, .slice none 0 0, .slice none 0 0, .int .i64 0, .int .i64 0] 30 (0, 0))) := ⟨by exact (f5_ BK311.out NB311_323.out _ _ _ _ _)⟩
     have n6_ : Aside0 ((((((w29.setCell ⟨gb323, 0, none⟩ (.slice Ao30 t326.length co30)).setCell ⟨gb323, 1, none⟩ (.slice Ao32 t329.length co32)).setCell ⟨gb323, 2, none⟩ (.slice Ao34 t332.length co34)).setCell ⟨gb323, 3, none⟩ (.int .i64 t335)).setCell ⟨gb323, 4, none⟩ (.int .i64 t336)).heap[gb323]? = some (.cells #[.slice Ao30 t326.length co30, .slice Ao32 t329.length co32, .slice Ao34 t332.length co34, .int .i64 t335, .int .i64 t336] 30 (0, 0))) := ⟨by exact (p5_ BK323.out _ _ _ _ _)⟩
     have n7_ : Aside0 (Below w.heap.size w (((((w29.setCell ⟨gb323, 0, none⟩ (.slice Ao30 t326.length co30)).setCell ⟨gb323, 1, none⟩ (.slice Ao32 t329.length co32)).setCell ⟨gb323, 2, none⟩ (.slice Ao34 t332.length co34)).setCell ⟨gb323, 3, none⟩ (.int .i64 t335)).setCell ⟨gb323, 4, none⟩ (.int .i64 t336))) := ⟨by repeat (first | (with_reducible first | exact HB.out | apply below_alloc | apply pw_below_drewN | apply below_drew1 | refine below_set ?_ GE309.out | refine below_set ?_ GE310.out | refine below_set ?_ GE311.out | refine below_set ?_ GE323.out) | exact HB.out)⟩
     (try clear HO328)
     (try clear HO331)
     (try clear HO334)
     (try clear BK309)
     (try clear BK310)
     (try clear BK311)
     (try clear BK323)
     (try clear HB)
     generalize (((((w29.setCell ⟨gb323, 0, none⟩ (.slice Ao30 t326.length co30)).setCell ⟨gb323, 1, none⟩ (.slice Ao32 t329.length co32)).setCell ⟨gb323, 2, none⟩ (.slice Ao34 t332.length co34)).setCell ⟨gb323, 3, none⟩ (.int .i64 t335)).setCell ⟨gb323, 4, none⟩ (.int .i64 t336)) = w38 at n0_ n1_ n2_ n3_ n4_ n5_ n6_ n7_ ⊢
     have HO328 := n0_
     have HO331 := n1_
     have HO334 := n2_
     have BK309 := n3_
     have BK310 := n4_
     have BK311 := n5_
     have BK323 := n6_
     have HB := n7_
     clear n0_ n1_ n2_ n3_ n4_ n5_ n6_ n7_
     replace HO328 := Aside0.mk (Kd.R_drew HO328.out)
     replace HO331 := Aside0.mk (Kd.R_drew HO331.out)
     replace HO334 := Aside0.mk (Kd.R_drew HO334.out)
     replace BK309 := Aside0.mk (blk_drew BK309.out)
     replace BK310 := Aside0.mk (blk_drew BK310.out)
     replace BK311 := Aside0.mk (blk_drew BK311.out)
     replace BK323 := Aside0.mk (blk_drew BK323.out)
     replace HB := Aside0.mk (below_drew1 HB.out)
     refine start_ (n := 8) (S := fun w' => w'.cell? ⟨gb323, 0, none⟩ = some (.slice Ao30 t326.length co30) ∧ w'.cell? ⟨gb323, 1, none⟩ = some (.slice Ao32 t329.length co32) ∧ w'.cell? ⟨gb323, 2, none⟩ = some (.slice Ao34 t332.length co34) ∧ w'.cell? ⟨gb323, 3, none⟩ = some (.int .i64 t335) ∧ w'.cell? ⟨gb323, 4, none⟩ = some (.int .i64 t336)) (ds := []) #[fF,fF,fF,fF,fF,fF,fF,fF] (by kernel_rfl) rfl rfl ⟨(blk_cell BK323.out 0).trans rfl, (blk_cell BK323.out 1).trans rfl, (blk_cell BK323.out 2).trans rfl, (blk_cell BK323.out 3).trans rfl, (blk_cell BK323.out 4).trans rfl⟩ (fun hHeld => ?_); refine with_tabW spec_l25Make.tab15 spec_l25Make.bits15 (fun HT_ HW_ => ?_)
     generalize w38.drew = w39 at HO328 HO331 HO334 BK309 BK310 BK311 BK323 HB hHeld ⊢
     refine pz_ HT_ 1 (some 82) #[fF,tT,fF,fF,fF,fF,fF,fF] ?_
     refine pz_ HT_ 2 (some 83) #[fF,tT,tT,fF,fF,fF,fF,fF] ?_
     refine tk_ HT_ HW_ hHeld 0 (some 81) #[tT,tT,tT,fF,fF,fF,fF,fF] ?_
     refine tk_ HT_ HW_ hHeld 3 (some 84) #[tT,tT,tT,tT,fF,fF,fF,fF] ?_
     refine one_ (i := 4) (N := some 85) #[tT,tT,tT,tT,tT,fF,fF,fF] rfl rfl (one_of HT_.out (by kernel_rfl)) (by decide) (fun K hK => ?_)
     refine gs_ Try.func67 #[.agg #[.slice Ao30 t326.length co30, .slice Ao32 t329.length co32, .slice Ao34 t332.length co34, .int .i64 t335, .int .i64 t336]] ?_
     with_reducible refine (spec_l25Good.calls k _ _ t326 _ _ t329 _ _ t332 t335 t336 t338 _ ?side1 ?side2 ?side3 ?side4 ?side5 ?side6 A9.out).mono ?_
     (case side1 => exact kc_ (Kd.R_reads' HO328.out).2.2)
     (case side2 => exact (Kd.R_reads' HO328.out).2.1)
     (case side3 => exact kc_ (Kd.R_reads' HO331.out).2.2)
     (case side4 => exact (Kd.R_reads' HO331.out).2.1)
     (case side5 => exact kc_ (Kd.R_reads' HO334.out).2.2)
     (case side6 => exact (Kd.R_reads' HO334.out).2.1)
     rintro e w40 ⟨rfl, hb⟩
     refine ⟨_, rfl, ?_⟩
     replace HO328 := Aside0.mk (Kd.R_below (kr_ HO328.out) hb)
     replace HO331 := Aside0.mk (Kd.R_below (kr_ HO331.out) hb)
     replace HO334 := Aside0.mk (Kd.R_below (kr_ HO334.out) hb)
     replace BK309 := Aside0.mk (bb_ (bk_ BK309.out) hb)
     replace BK310 := Aside0.mk (bb_ (bk_ BK310.out) hb)
     replace BK311 := Aside0.mk (bb_ (bk_ BK311.out) hb)
     replace BK323 := Aside0.mk (bb_ (bk_ BK323.out) hb)
     replace HB := Aside0.mk (below_step (by repeat (first | (with_reducible first | exact HB.out | apply below_alloc | apply pw_below_drewN | apply below_drew1 | refine below_set ?_ GE309.out | refine below_set ?_ GE310.out | refine below_set ?_ GE311.out | refine below_set ?_ GE323.out) | exact HB.out)) hb)
     (try clear hb)
     (try clear hb2)
     (try clear hk)
     (try clear hi)
     refine hK.out _ _ ⟨(blk_cell BK323.out 0).trans rfl, (blk_cell BK323.out 1).trans rfl, (blk_cell BK323.out 2).trans rfl, (blk_cell BK323.out 3).trans rfl, (blk_cell BK323.out 4).trans rfl⟩ (fun hHeld => ?_)
     clear hK K
     refine na_ ?_
     refine pz_ HT_ 5 (some 86) #[tT,tT,tT,tT,tT,tT,fF,fF] ?_
     refine one_ (i := 6) (N := none) #[tT,tT,tT,tT,tT,tT,tT,fF] rfl rfl (one_of HT_.out (by kernel_rfl)) (by decide) (fun K hK => ?_)
     have hs41 : w40.cell? ⟨gb311, 0, none⟩ = some (.slice none 0 0) := (blk_cell BK311.out 0).trans rfl
     have hfs41 := blk_frozen BK311.out 0
     have hns41_0 := NB309_311.out
     have hns41_1 := NB310_311.out
     have hns41_3 := NB323_311.out
     have hms41_0 := NB311_309.out
     have hms41_1 := NB311_310.out
     have hms41_3 := NB311_323.out
     have hs42 : w40.cell? ⟨gb311, 1, none⟩ = some (.slice none 0 0) := (blk_cell BK311.out 1).trans rfl
     have hfs42 := blk_frozen BK311.out 1
     have hns42_0 := NB309_311.out
     have hns42_1 := NB310_311.out
     have hns42_3 := NB323_311.out
     have hms42_0 := NB311_309.out
     have hms42_1 := NB311_310.out
     have hms42_3 := NB311_323.out
     have hs43 : w40.cell? ⟨gb311, 2, none⟩ = some (.slice none 0 0) := (blk_cell BK311.out 2).trans rfl
     have hfs43 := blk_frozen BK311.out 2
     have hns43_0 := NB309_311.out
     have hns43_1 := NB310_311.out
     have hns43_3 := NB323_311.out
     have hms43_0 := NB311_309.out
     have hms43_1 := NB311_310.out
     have hms43_3 := NB311_323.out
     have hs44 : w40.cell? ⟨gb311, 3, none⟩ = some (.int .i64 0) := (blk_cell BK311.out 3).trans rfl
     have hfs44 := blk_frozen BK311.out 3
     have hns44_0 := NB309_311.out
     have hns44_1 := NB310_311.out
     have hns44_3 := NB323_311.out
     have hms44_0 := NB311_309.out
     have hms44_1 := NB311_310.out
     have hms44_3 := NB311_323.out
     have hs45 : w40.cell? ⟨gb311, 4, none⟩ = some (.int .i64 0) := (blk_cell BK311.out 4).trans rfl
     have hfs45 := blk_frozen BK311.out 4
     have hns45_0 := NB309_311.out
     have hns45_1 := NB310_311.out
     have hns45_3 := NB323_311.out
     have hms45_0 := NB311_309.out
     have hms45_1 := NB311_310.out
     have hms45_3 := NB311_323.out
     refine skip_ (w1 := ?_) (by rfl) rfl ?_ ?_
     rotate_left
     ·
      go_simp
      rfl
     refine hK.out _ _ ⟨((cell_far (p := ⟨gb311, _, none⟩) NB323_311.out _).trans (((cell_far (p := ⟨gb311, _, none⟩) NB323_311.out _).trans (((cell_far (p := ⟨gb311, _, none⟩) NB323_311.out _).trans (((cell_far (p := ⟨gb311, _, none⟩) NB323_311.out _).trans (((cell_far (p := ⟨gb311, _, none⟩) NB323_311.out _).trans (hHeld.1)))))))))), ((cell_far (p := ⟨gb311, _, none⟩) NB323_311.out _).trans (((cell_far (p := ⟨gb311, _, none⟩) NB323_311.out _).trans (((cell_far (p := ⟨gb311, _, none⟩) NB323_311.out _).trans (((cell_far (p := ⟨gb311, _, none⟩) NB323_311.out _).trans (((cell_far (p := ⟨gb311, _, none⟩) NB323_311.out _).trans (hHeld.2.1)))))))))), ((cell_far (p := ⟨gb311, _, none⟩) NB323_311.out _).trans (((cell_far (p := ⟨gb311, _, none⟩) NB323_311.out _).trans (((cell_far (p := ⟨gb311, _, none⟩) NB323_311.out _).trans (((cell_far (p := ⟨gb311, _, none⟩) NB323_311.out _).trans (((cell_far (p := ⟨gb311, _, none⟩) NB323_311.out _).trans (hHeld.2.2.1)))))))))), ((cell_far (p := ⟨gb311, _, none⟩) NB323_311.out _).trans (((cell_far (p := ⟨gb311, _, none⟩) NB323_311.out _).trans (((cell_far (p := ⟨gb311, _, none⟩) NB323_311.out _).trans (((cell_far (p := ⟨gb311, _, none⟩) NB323_311.out _).trans (((cell_far (p := ⟨gb311, _, none⟩) NB323_311.out _).trans (hHeld.2.2.2.1)))))))))), ((cell_far (p := ⟨gb311, _, none⟩) NB323_311.out _).trans (((cell_far (p := ⟨gb311, _, none⟩) NB323_311.out _).trans (((cell_far (p := ⟨gb311, _, none⟩) NB323_311.out _).trans (((cell_far (p := ⟨gb311, _, none⟩) NB323_311.out _).trans (((cell_far (p := ⟨gb311, _, none⟩) NB323_311.out _).trans (hHeld.2.2.2.2))))))))))⟩ (fun hHeld => ?_)
     clear hK K
     refine pz_ HT_ 7 (some 5) #[tT,tT,tT,tT,tT,tT,tT,tT] ?_
     refine done_ (done_of HT_.out (by kernel_rfl)) ?_
     try go_wp2
     refine bodyPost_ret (results_ct rfl _ _ gb311 30 #[.slice Ao30 t326.length co30, .slice Ao32 t329.length co32, .slice Ao34 t332.length co34, .int .i64 t335, .int .i64 t336] (0, 0) _ rfl (by (with_reducible repeat (first | refine blk_drewN ?_ _ | refine blk_drew ?_ | refine blk_alloc ?_ _)); refine blk_put (cs := #[.slice Ao30 t326.length co30, .slice Ao32 t329.length co32, .slice Ao34 t332.length co34, .int .i64 t335, .int .i64 0]) ?_ 4 _ rfl; (with_reducible repeat (first | refine blk_drewN ?_ _ | refine blk_drew ?_ | refine blk_alloc ?_ _)); refine blk_put (cs := #[.slice Ao30 t326.length co30, .slice Ao32 t329.length co32, .slice Ao34 t332.length co34, .int .i64 0, .int .i64 0]) ?_ 3 _ rfl; (with_reducible repeat (first | refine blk_drewN ?_ _ | refine blk_drew ?_ | refine blk_alloc ?_ _)); refine blk_put (cs := #[.slice Ao30 t326.length co30, .slice Ao32 t329.length co32, .slice none 0 0, .int .i64 0, .int .i64 0]) ?_ 2 _ rfl; (with_reducible repeat (first | refine blk_drewN ?_ _ | refine blk_drew ?_ | refine blk_alloc ?_ _)); refine blk_put (cs := #[.slice Ao30 t326.length co30, .slice none 0 0, .slice none 0 0, .int .i64 0, .int .i64 0]) ?_ 1 _ rfl; (with_reducible repeat (first | refine blk_drewN ?_ _ | refine blk_drew ?_ | refine blk_alloc ?_ _)); refine blk_put (cs := #[.slice none 0 0, .slice none 0 0, .slice none 0 0, .int .i64 0, .int .i64 0]) ?_ 0 _ rfl; (with_reducible repeat (first | refine blk_drewN ?_ _ | refine blk_drew ?_ | refine blk_alloc ?_ _)); exact BK311.out) Try.underlying30 rfl (by kernel_rfl)) rfl ?_
     exact ⟨_, _, _, rr_, by (with_reducible repeat (first | apply Kd.R_alloc | apply Kd.R_drewN | apply Kd.R_drew)); exact Kd.R_mono (r5_ HO328.out BK311.out (by decide) _ _ _ _ _) (fun _ hk => trivial), by (with_reducible repeat (first | apply Kd.R_alloc | apply Kd.R_drewN | apply Kd.R_drew)); exact Kd.R_mono (r5_ HO331.out BK311.out (by decide) _ _ _ _ _) (fun _ hk => hk), by (with_reducible repeat (first | apply Kd.R_alloc | apply Kd.R_drewN | apply Kd.R_drew)); exact Kd.R_mono (r5_ HO334.out BK311.out (by decide) _ _ _ _ _) (fun _ hk => hk), by repeat (first | (with_reducible first | exact HB.out | apply below_alloc | apply pw_below_drewN | apply below_drew1 | refine below_set ?_ GE309.out | refine below_set ?_ GE310.out | refine below_set ?_ GE311.out | refine below_set ?_ GE323.out) | exact HB.out)⟩
    ·
     replace c8 := Bool.eq_false_iff.mpr c8
     subst c8
     have H1 : (some (t326, t329, t332, t335, t336, false)) = some (r1, r2, r3, r4, r5, r6) := by rw [if_neg (show ¬ (false = true) by decide)] at H; exact H
     clear H
     have H := H1
     clear H1
     simp only [Option.some.injEq, Prod.mk.injEq] at H
     obtain ⟨rfl, rfl, rfl, rfl, rfl, rfl⟩ := H
     go_enter Try.func78, Try.ntmps78
     try go_wp2_with (first | ((with_reducible refine gate_dst (N := 2) rfl ?_); refine box_event ?hg (N := 2) ?hd (cs := #[.slice A0_0 l0_0.length c0_0, .slice A0_1 l0_1.length c0_1, .slice A0_2 l0_2.length c0_2, .int .i64 a0_3, .int .i64 a0_4]) (t := 30) ?hr ?_; (case hd => rfl); (case hg => rfl); (case hr => first | (go_simp; done) | (go_simp; rfl)); intro gb309 hg w46 hbox hb; have BK309 := Aside0.mk (hbox); have GW309 := Aside0.mk ((bz_ hg (lb0_ HB.out))); have GE309 := Aside0.mk ((bz_ hg (lb0_ HB.out))); replace HB := Aside0.mk (below_step (lb0_ HB.out) hb); clear hb hbox hg) | ((with_reducible refine gate_dst (N := 3) rfl ?_); refine box_event ?hg (N := 3) ?hd (cs := #[.int .i64 a1_0, .int .i64 a1_1, .int .i64 a1_2, .int .i64 a1_3, .int .i64 a1_4, .int .i64 a1_5, .int .i64 a1_6]) (t := 39) ?hr ?_; (case hd => rfl); (case hg => rfl); (case hr => first | (go_simp; done) | (go_simp; rfl)); intro gb310 hg w47 hbox hb; have BK310 := Aside0.mk (hbox); have GW310 := Aside0.mk ((bz_ hg (lb1_ HB.out GE309.out))); have GE310 := Aside0.mk ((bz_ hg (lb1_ HB.out GE309.out))); replace HB := Aside0.mk (below_step (lb1_ HB.out GE309.out) hb); have NB309_310 := Aside0.mk (nl_ hg BK309.out); have NB310_309 := Aside0.mk (ng_ hg BK309.out); replace BK309 := Aside0.mk (bb_ (bk_ BK309.out) hb); clear hb hbox hg) | ((with_reducible refine gate_dst (N := 4) rfl ?_); refine box_event ?hg (N := 4) ?hd (cs := #[.slice none 0 0, .slice none 0 0, .slice none 0 0, .int .i64 0, .int .i64 0]) (t := 30) ?hr ?_; (case hd => rfl); (case hg => rfl); (case hr => first | (go_simp; done) | (go_simp; rfl)); intro gb311 hg w48 hbox hb; have BK311 := Aside0.mk (hbox); have GW311 := Aside0.mk ((bz_ hg (lb2_ HB.out GE309.out GE310.out))); have GE311 := Aside0.mk ((bz_ hg (lb2_ HB.out GE309.out GE310.out))); replace HB := Aside0.mk (below_step (lb2_ HB.out GE309.out GE310.out) hb); have NB309_311 := Aside0.mk (nl_ hg BK309.out); have NB311_309 := Aside0.mk (ng_ hg BK309.out); replace BK309 := Aside0.mk (bb_ (bk_ BK309.out) hb); have NB310_311 := Aside0.mk (nl_ hg BK310.out); have NB311_310 := Aside0.mk (ng_ hg BK310.out); replace BK310 := Aside0.mk (bb_ (bk_ BK310.out) hb); clear hb hbox hg; have hnb49 := NB309_310.out; have hnc49 := NB310_309.out; have hnb50 := NB309_311.out; have hnc50 := NB311_309.out; obtain ⟨hcz51_0, hcz51_1, hcz51_2, hcz51_3, hcz51_4⟩ := cz5_ BK309.out; obtain ⟨hfz51_0, hfz51_1, hfz51_2, hfz51_3, hfz51_4⟩ := fz5_ BK309.out) | ((with_reducible refine gate_callee (f := 84) rfl ?_); refine ga_ (some 9) Try.func84 #[.agg #[.slice A0_0 l0_0.length c0_0, .slice A0_1 l0_1.length c0_1, .slice A0_2 l0_2.length c0_2, .int .i64 a0_3, .int .i64 a0_4]] ?_; (with_reducible refine (spec_l25Own.calls _ _ l0_0 _ _ l0_1 _ _ l0_2 a0_3 a0_4 t312 t315 t318 t321 t322 _ ?side1 ?side2 ?side3 ?side4 ?side5 ?side6 A3.out).mono ?_); (case side1 => exact kc_ (Kd.C_below HR0_0.out HB.out)); (case side2 => exact HC0_0.out); (case side3 => exact kc_ (Kd.C_below HR0_1.out HB.out)); (case side4 => exact HC0_1.out); (case side5 => exact kc_ (Kd.C_below HR0_2.out HB.out)); (case side6 => exact HC0_2.out); rintro e w52 ⟨v313, v316, v319, rfl, ho0, ho1, ho2, hb⟩; refine ⟨_, rfl, ?_⟩; have HO314 := Aside0.mk (Kd.R_lower ho0 (below_size (lb3_ HB.out GE309.out GE310.out GE311.out))); have HO317 := Aside0.mk (Kd.R_lower ho1 (below_size (lb3_ HB.out GE309.out GE310.out GE311.out))); have HO320 := Aside0.mk (Kd.R_lower ho2 (below_size (lb3_ HB.out GE309.out GE310.out GE311.out))); replace BK309 := Aside0.mk (bb_ (bk_ BK309.out) hb); replace BK310 := Aside0.mk (bb_ (bk_ BK310.out) hb); replace BK311 := Aside0.mk (bb_ (bk_ BK311.out) hb); replace HB := Aside0.mk (below_step (lb3_ HB.out GE309.out GE310.out GE311.out) hb); (try clear hb); (try clear hb2); (try clear hk); (try clear hi); (try clear ho0); (try clear ho1); (try clear ho2)) | ((with_reducible refine gate_dst (N := 6) rfl ?_); refine box_event ?hg (N := 6) ?hd (cs := #[.slice none 0 0, .slice none 0 0, .slice none 0 0, .int .i64 0, .int .i64 0]) (t := 30) ?hr ?_; (case hd => rfl); (case hg => rfl); (case hr => first | (go_simp; done) | (go_simp; rfl)); intro gb323 hg w53 hbox hb; replace HO314 := Aside0.mk (Kd.R_below (kr_ HO314.out) hb); replace HO317 := Aside0.mk (Kd.R_below (kr_ HO317.out) hb); replace HO320 := Aside0.mk (Kd.R_below (kr_ HO320.out) hb); have BK323 := Aside0.mk (hbox); have GW323 := Aside0.mk (bz_ hg (lb3_ HB.out GE309.out GE310.out GE311.out)); have GE323 := Aside0.mk (bz_ hg (lb3_ HB.out GE309.out GE310.out GE311.out)); replace HB := Aside0.mk (below_step (lb3_ HB.out GE309.out GE310.out GE311.out) hb); have NB309_323 := Aside0.mk (nl_ hg BK309.out); have NB323_309 := Aside0.mk (ng_ hg BK309.out); replace BK309 := Aside0.mk (bb_ (bk_ BK309.out) hb); have NB310_323 := Aside0.mk (nl_ hg BK310.out); have NB323_310 := Aside0.mk (ng_ hg BK310.out); replace BK310 := Aside0.mk (bb_ (bk_ BK310.out) hb); have NB311_323 := Aside0.mk (nl_ hg BK311.out); have NB323_311 := Aside0.mk (ng_ hg BK311.out); replace BK311 := Aside0.mk (bb_ (bk_ BK311.out) hb); clear hb hbox hg; obtain ⟨Ao54, co54, eo54⟩ := Kd.R_slice HO314.out; subst eo54; have hnb55 := NB323_309.out; have hnc55 := NB309_323.out; have hnb56 := NB323_310.out; have hnc56 := NB310_323.out; have hnb57 := NB323_311.out; have hnc57 := NB311_323.out; obtain ⟨hcz58_0, hcz58_1, hcz58_2, hcz58_3, hcz58_4⟩ := cz5_ BK323.out; obtain ⟨hfz58_0, hfz58_1, hfz58_2, hfz58_3, hfz58_4⟩ := fz5_ BK323.out; obtain ⟨Ao59, co59, eo59⟩ := Kd.R_slice HO317.out; subst eo59; obtain ⟨Ao60, co60, eo60⟩ := Kd.R_slice HO320.out; subst eo60; have hnb61 := NB310_311.out; have hnc61 := NB311_310.out; obtain ⟨hcz62_0, hcz62_1, hcz62_2, hcz62_3, hcz62_4, hcz62_5, hcz62_6⟩ := cz7_ BK310.out; obtain ⟨hfz62_0, hfz62_1, hfz62_2, hfz62_3, hfz62_4, hfz62_5, hfz62_6⟩ := fz7_ BK310.out))
     have n0_ : Aside0 (Kd.R k37 37 (((((w53.setCell ⟨gb323, 0, none⟩ (.slice Ao54 t312.length co54)).setCell ⟨gb323, 1, none⟩ (.slice Ao59 t315.length co59)).setCell ⟨gb323, 2, none⟩ (.slice Ao60 t318.length co60)).setCell ⟨gb323, 3, none⟩ (.int .i64 t321)).setCell ⟨gb323, 4, none⟩ (.int .i64 t322)) w.heap.size (fun _ => True) (.slice Ao54 t312.length co54) t312) := ⟨Kd.R_mono (r5_ HO314.out BK323.out (by decide) _ _ _ _ _) (fun _ hk => trivial)⟩
     have n1_ : Aside0 (Kd.R Kd.bool 4 (((((w53.setCell ⟨gb323, 0, none⟩ (.slice Ao54 t312.length co54)).setCell ⟨gb323, 1, none⟩ (.slice Ao59 t315.length co59)).setCell ⟨gb323, 2, none⟩ (.slice Ao60 t318.length co60)).setCell ⟨gb323, 3, none⟩ (.int .i64 t321)).setCell ⟨gb323, 4, none⟩ (.int .i64 t322)) w.heap.size (fun k_ => some k_ ≠ (.slice Ao60 t318.length co60 : Value).ownBlock) (.slice Ao59 t315.length co59) t315) := ⟨Kd.R_mono (r5_ HO317.out BK323.out (by decide) _ _ _ _ _) (fun _ hk => hk)⟩
     have n2_ : Aside0 (Kd.R Kd.bool 4 (((((w53.setCell ⟨gb323, 0, none⟩ (.slice Ao54 t312.length co54)).setCell ⟨gb323, 1, none⟩ (.slice Ao59 t315.length co59)).setCell ⟨gb323, 2, none⟩ (.slice Ao60 t318.length co60)).setCell ⟨gb323, 3, none⟩ (.int .i64 t321)).setCell ⟨gb323, 4, none⟩ (.int .i64 t322)) w.heap.size (fun k_ => some k_ ≠ (.slice Ao59 t315.length co59 : Value).ownBlock) (.slice Ao60 t318.length co60) t318) := ⟨Kd.R_mono (r5_ HO320.out BK323.out (by decide) _ _ _ _ _) (fun _ hk => hk)⟩
     have n3_ : Aside0 ((((((w53.setCell ⟨gb323, 0, none⟩ (.slice Ao54 t312.length co54)).setCell ⟨gb323, 1, none⟩ (.slice Ao59 t315.length co59)).setCell ⟨gb323, 2, none⟩ (.slice Ao60 t318.length co60)).setCell ⟨gb323, 3, none⟩ (.int .i64 t321)).setCell ⟨gb323, 4, none⟩ (.int .i64 t322)).heap[gb309]? = some (.cells #[.slice A0_0 l0_0.length c0_0, .slice A0_1 l0_1.length c0_1, .slice A0_2 l0_2.length c0_2, .int .i64 a0_3, .int .i64 a0_4] 30 (0, 0))) := ⟨by exact (f5_ BK309.out NB309_323.out _ _ _ _ _)⟩
     have n4_ : Aside0 ((((((w53.setCell ⟨gb323, 0, none⟩ (.slice Ao54 t312.length co54)).setCell ⟨gb323, 1, none⟩ (.slice Ao59 t315.length co59)).setCell ⟨gb323, 2, none⟩ (.slice Ao60 t318.length co60)).setCell ⟨gb323, 3, none⟩ (.int .i64 t321)).setCell ⟨gb323, 4, none⟩ (.int .i64 t322)).heap[gb310]? = some (.cells #[.int .i64 a1_0, .int .i64 a1_1, .int .i64 a1_2, .int .i64 a1_3, .int .i64 a1_4, .int .i64 a1_5, .int .i64 a1_6] 39 (0, 0))) := ⟨by exact (f5_ BK310.out NB310_323.out _ _ _ _ _)⟩
     have n5_ : Aside0 ((((((w53.setCell ⟨gb323, 0, none⟩ (.slice Ao54 t312.length co54)).setCell ⟨gb323, 1, none⟩ (.slice Ao59 t315.length co59)).setCell ⟨gb323, 2, none⟩ (.slice Ao60 t318.length co60)).setCell ⟨gb323, 3, none⟩ (.int .i64 t321)).setCell ⟨gb323, 4, none⟩ (.int .i64 t322)).heap[gb311]? = some (.cells #[.slice none 0 0, .slice none 0 0, .slice none 0 0, .int .i64 0, .int .i64 0] 30 (0, 0))) := ⟨by exact (f5_ BK311.out NB311_323.out _ _ _ _ _)⟩
     have n6_ : Aside0 ((((((w53.setCell ⟨gb323, 0, none⟩ (.slice Ao54 t312.length co54)).setCell ⟨gb323, 1, none⟩ (.slice Ao59 t315.length co59)).setCell ⟨gb323, 2, none⟩ (.slice Ao60 t318.length co60)).setCell ⟨gb323, 3, none⟩ (.int .i64 t321)).setCell ⟨gb323, 4, none⟩ (.int .i64 t322)).heap[gb323]? = some (.cells #[.slice Ao54 t312.length co54, .slice Ao59 t315.length co59, .slice Ao60 t318.length co60, .int .i64 t321, .int .i64 t322] 30 (0, 0))) := ⟨by exact (p5_ BK323.out _ _ _ _ _)⟩
     have n7_ : Aside0 (Below w.heap.size w (((((w53.setCell ⟨gb323, 0, none⟩ (.slice Ao54 t312.length co54)).setCell ⟨gb323, 1, none⟩ (.slice Ao59 t315.length co59)).setCell ⟨gb323, 2, none⟩ (.slice Ao60 t318.length co60)).setCell ⟨gb323, 3, none⟩ (.int .i64 t321)).setCell ⟨gb323, 4, none⟩ (.int .i64 t322))) := ⟨by repeat (first | (with_reducible first | exact HB.out | apply below_alloc | apply pw_below_drewN | apply below_drew1 | refine below_set ?_ GE309.out | refine below_set ?_ GE310.out | refine below_set ?_ GE311.out | refine below_set ?_ GE323.out) | exact HB.out)⟩
     (try clear HO314)
     (try clear HO317)
     (try clear HO320)
     (try clear BK309)
     (try clear BK310)
     (try clear BK311)
     (try clear BK323)
     (try clear HB)
     generalize (((((w53.setCell ⟨gb323, 0, none⟩ (.slice Ao54 t312.length co54)).setCell ⟨gb323, 1, none⟩ (.slice Ao59 t315.length co59)).setCell ⟨gb323, 2, none⟩ (.slice Ao60 t318.length co60)).setCell ⟨gb323, 3, none⟩ (.int .i64 t321)).setCell ⟨gb323, 4, none⟩ (.int .i64 t322)) = w63 at n0_ n1_ n2_ n3_ n4_ n5_ n6_ n7_ ⊢
     have HO314 := n0_
     have HO317 := n1_
     have HO320 := n2_
     have BK309 := n3_
     have BK310 := n4_
     have BK311 := n5_
     have BK323 := n6_
     have HB := n7_
     clear n0_ n1_ n2_ n3_ n4_ n5_ n6_ n7_
     replace HO314 := Aside0.mk (Kd.R_drew HO314.out)
     replace HO317 := Aside0.mk (Kd.R_drew HO317.out)
     replace HO320 := Aside0.mk (Kd.R_drew HO320.out)
     replace BK309 := Aside0.mk (blk_drew BK309.out)
     replace BK310 := Aside0.mk (blk_drew BK310.out)
     replace BK311 := Aside0.mk (blk_drew BK311.out)
     replace BK323 := Aside0.mk (blk_drew BK323.out)
     replace HB := Aside0.mk (below_drew1 HB.out)
     have p324 : 0 ≤ (a1_1 : Int) := dt_
     have q324 : a1_1 < (l0_0.length : Int) := dt_
     obtain ⟨ad324, e324, hx324_0, hx324_1, hx324_2, hx324_3, hx324_4⟩ := at_T37 HR0_0.out a1_1 p324 q324
     have hw324_4 := hx324_4
     have hw324_3 := hx324_3
     have hw324_2 := hx324_2
     have hw324_1 := hx324_1
     have hw324_0 := hx324_0
     cases e324
     replace hx324_0 := bc_ HB.out hx324_0
     replace hx324_1 := bc_ HB.out hx324_1
     replace hx324_2 := bc_ HB.out hx324_2
     replace hx324_3 := bc_ HB.out hx324_3
     replace hx324_4 := bc_ HB.out hx324_4
     replace p324 := eq_true p324
     replace q324 := eq_true q324
     have p325 : 0 ≤ (a1_1 : Int) := dt_
     have q325 : a1_1 < (l0_0.length : Int) := dt_
     obtain ⟨ad325, e325, hx325_0, hx325_1, hx325_2, hx325_3, hx325_4⟩ := at_T37 HR0_0.out a1_1 p325 q325
     have hw325_4 := hx325_4
     have hw325_3 := hx325_3
     have hw325_2 := hx325_2
     have hw325_1 := hx325_1
     have hw325_0 := hx325_0
     obtain rfl : ad324 = ad325 := (by injection e325)
     replace hx325_0 := bc_ HB.out hx325_0
     replace hx325_1 := bc_ HB.out hx325_1
     replace hx325_2 := bc_ HB.out hx325_2
     replace hx325_3 := bc_ HB.out hx325_3
     replace hx325_4 := bc_ HB.out hx325_4
     replace p325 := eq_true p325
     replace q325 := eq_true q325
     refine start_ (n := 20) (S := fun w' => w'.cell? ⟨gb323, 0, none⟩ = some (.slice Ao54 t312.length co54) ∧ w'.cell? ⟨gb323, 1, none⟩ = some (.slice Ao59 t315.length co59) ∧ w'.cell? ⟨gb323, 2, none⟩ = some (.slice Ao60 t318.length co60) ∧ w'.cell? ⟨gb323, 3, none⟩ = some (.int .i64 t321) ∧ w'.cell? ⟨gb323, 4, none⟩ = some (.int .i64 t322) ∧ w'.cell? ⟨gb309, 0, none⟩ = some (.slice (some ad324) l0_0.length c0_0) ∧ w'.cell? ⟨gb309, 1, none⟩ = some (.slice A0_1 l0_1.length c0_1) ∧ w'.cell? ⟨gb309, 2, none⟩ = some (.slice A0_2 l0_2.length c0_2) ∧ w'.cell? ⟨gb309, 3, none⟩ = some (.int .i64 a0_3) ∧ w'.cell? ⟨gb309, 4, none⟩ = some (.int .i64 a0_4) ∧ w'.cell? ⟨gb310, 0, none⟩ = some (.int .i64 a1_0) ∧ w'.cell? ⟨gb310, 1, none⟩ = some (.int .i64 a1_1) ∧ w'.cell? ⟨gb310, 2, none⟩ = some (.int .i64 a1_2) ∧ w'.cell? ⟨gb310, 3, none⟩ = some (.int .i64 a1_3) ∧ w'.cell? ⟨gb310, 4, none⟩ = some (.int .i64 a1_4) ∧ w'.cell? ⟨gb310, 5, none⟩ = some (.int .i64 a1_5) ∧ w'.cell? ⟨gb310, 6, none⟩ = some (.int .i64 a1_6) ∧ w'.cell? (ad324.add ((a1_1).toNat * 5)) = some (.int .i64 ((rd_T37 l0_0 a1_1).f0)) ∧ w'.cell? ⟨(ad324.add ((a1_1).toNat * 5)).block, (ad324.add ((a1_1).toNat * 5)).off + 1, none⟩ = some (.int .i64 ((rd_T37 l0_0 a1_1).f1)) ∧ w'.cell? ⟨(ad324.add ((a1_1).toNat * 5)).block, (ad324.add ((a1_1).toNat * 5)).off + 2, none⟩ = some (.int .i64 ((rd_T37 l0_0 a1_1).f2)) ∧ w'.cell? ⟨(ad324.add ((a1_1).toNat * 5)).block, (ad324.add ((a1_1).toNat * 5)).off + 3, none⟩ = some (.int .i64 ((rd_T37 l0_0 a1_1).f3)) ∧ w'.cell? ⟨(ad324.add ((a1_1).toNat * 5)).block, (ad324.add ((a1_1).toNat * 5)).off + 4, none⟩ = some (.int .i64 ((rd_T37 l0_0 a1_1).f4)) ∧ w'.cell? (ad324.add ((a1_1).toNat * 5)) = some (.int .i64 ((rd_T37 l0_0 a1_1).f0)) ∧ w'.cell? ⟨(ad324.add ((a1_1).toNat * 5)).block, (ad324.add ((a1_1).toNat * 5)).off + 1, none⟩ = some (.int .i64 ((rd_T37 l0_0 a1_1).f1)) ∧ w'.cell? ⟨(ad324.add ((a1_1).toNat * 5)).block, (ad324.add ((a1_1).toNat * 5)).off + 2, none⟩ = some (.int .i64 ((rd_T37 l0_0 a1_1).f2)) ∧ w'.cell? ⟨(ad324.add ((a1_1).toNat * 5)).block, (ad324.add ((a1_1).toNat * 5)).off + 3, none⟩ = some (.int .i64 ((rd_T37 l0_0 a1_1).f3)) ∧ w'.cell? ⟨(ad324.add ((a1_1).toNat * 5)).block, (ad324.add ((a1_1).toNat * 5)).off + 4, none⟩ = some (.int .i64 ((rd_T37 l0_0 a1_1).f4))) (ds := [18]) spec_l25Make.mk0 (by kernel_rfl) rfl rfl ⟨(blk_cell BK323.out 0).trans rfl, (blk_cell BK323.out 1).trans rfl, (blk_cell BK323.out 2).trans rfl, (blk_cell BK323.out 3).trans rfl, (blk_cell BK323.out 4).trans rfl, (blk_cell BK309.out 0).trans rfl, (blk_cell BK309.out 1).trans rfl, (blk_cell BK309.out 2).trans rfl, (blk_cell BK309.out 3).trans rfl, (blk_cell BK309.out 4).trans rfl, (blk_cell BK310.out 0).trans rfl, (blk_cell BK310.out 1).trans rfl, (blk_cell BK310.out 2).trans rfl, (blk_cell BK310.out 3).trans rfl, (blk_cell BK310.out 4).trans rfl, (blk_cell BK310.out 5).trans rfl, (blk_cell BK310.out 6).trans rfl, (bc_ HB.out hw324_0), (bc_ HB.out hw324_1), (bc_ HB.out hw324_2), (bc_ HB.out hw324_3), (bc_ HB.out hw324_4), (bc_ HB.out hw325_0), (bc_ HB.out hw325_1), (bc_ HB.out hw325_2), (bc_ HB.out hw325_3), (bc_ HB.out hw325_4)⟩ (fun hHeld => ?_); refine with_tabW spec_l25Make.tab7 spec_l25Make.bits7 (fun HT_ HW_ => ?_)
     generalize w63.drew = w64 at HO314 HO317 HO320 BK309 BK310 BK311 BK323 HB hx324_0 hx324_1 hx324_2 hx324_3 hx324_4 hx325_0 hx325_1 hx325_2 hx325_3 hx325_4 hHeld ⊢
     refine pz_ HT_ 1 (some 25) spec_l25Make.mk1 ?_
     refine pz_ HT_ 3 (some 27) spec_l25Make.mk2 ?_
     refine pz_ HT_ 7 (some 31) spec_l25Make.mk3 ?_
     refine pz_ HT_ 9 (some 33) spec_l25Make.mk4 ?_
     refine tk_ HT_ HW_ hHeld 0 (some 24) spec_l25Make.mk5 ?_
     refine tk_ HT_ HW_ hHeld 2 (some 26) spec_l25Make.mk6 ?_
     refine tk_ HT_ HW_ hHeld 4 (some 28) spec_l25Make.mk7 ?_
     refine pz_ HT_ 5 (some 29) spec_l25Make.mk8 ?_
     refine tk_ HT_ HW_ hHeld 6 (some 30) spec_l25Make.mk9 ?_
     refine tk_ HT_ HW_ hHeld 8 (some 32) spec_l25Make.mk10 ?_
     refine tk_ HT_ HW_ hHeld 10 (some 34) spec_l25Make.mk11 ?_
     refine pz_ HT_ 11 (some 35) spec_l25Make.mk12 ?_
     refine pz_ HT_ 12 (some 36) spec_l25Make.mk13 ?_
     refine tk_ HT_ HW_ hHeld 13 (some 37) spec_l25Make.mk14 ?_
     refine one_ (i := 14) (N := some 38) spec_l25Make.mk15 rfl rfl (one_of HT_.out (by kernel_rfl)) (by decide) (fun K hK => ?_)
     refine gs_ Try.func107 #[.agg #[.slice Ao54 t312.length co54, .slice Ao59 t315.length co59, .slice Ao60 t318.length co60, .int .i64 t321, .int .i64 t322], .agg #[.int .i64 ((rd_T37 l0_0 a1_1).f0), .int .i64 ((rd_T37 l0_0 a1_1).f1), .int .i64 ((rd_T37 l0_0 a1_1).f2), .int .i64 ((rd_T37 l0_0 a1_1).f3), .int .i64 ((rd_T37 l0_0 a1_1).f4)], .int .i64 ((rd_T37 l0_0 a1_1).f2)] ?_
     with_reducible refine (spec_l25Go.calls (fun k_ => some k_ = (.slice Ao54 t312.length co54 : Value).ownBlock) (.slice Ao54 t312.length co54) t312 (fun k_ => some k_ = (.slice Ao59 t315.length co59 : Value).ownBlock) (.slice Ao59 t315.length co59) t315 (fun k_ => some k_ = (.slice Ao60 t318.length co60 : Value).ownBlock) (.slice Ao60 t318.length co60) t318 t321 t322 ((rd_T37 l0_0 a1_1).f0) ((rd_T37 l0_0 a1_1).f1) ((rd_T37 l0_0 a1_1).f2) ((rd_T37 l0_0 a1_1).f3) ((rd_T37 l0_0 a1_1).f4) ((rd_T37 l0_0 a1_1).f2) t326 t329 t332 t335 t336 false w _ ?side1 ?side2 ?side3 ?side4 ?side5 ?side6 A7.out).mono ?_
     (case side1 => repeat (first | (with_reducible first | exact HB.out | apply below_alloc | apply pw_below_drewN | apply below_drew1 | refine below_set ?_ GE309.out | refine below_set ?_ GE310.out | refine below_set ?_ GE311.out | refine below_set ?_ GE323.out) | exact HB.out))
     (case side2 => exact Kd.R_tight rfl HO314.out)
     (case side3 => exact Kd.R_tight rfl HO317.out)
     (case side4 => exact fun k_ e_ => (HO317.out.1 k_ e_.symm))
     (case side5 => exact Kd.R_tight rfl HO320.out)
     (case side6 => exact fun k_ e_ => (HO320.out.1 k_ e_.symm))
     rintro e w65 ⟨v327, v330, v333, rfl, ho0, ho1, ho2, hb, hkp⟩
     refine ⟨_, rfl, ?_⟩
     replace BK309 := Aside0.mk (blk_kept (bk_ BK309.out) hkp (fun hs_ => Or.elim hs_ (fun e_ => (fun e_ => (Kd.R_ne HO314.out BK309.out (by decide)) e_) e_) (fun e_ => Or.elim e_ (fun e_ => (fun e_ => (Kd.R_ne HO317.out BK309.out (by decide)) e_) e_) (fun e_ => (fun e_ => (Kd.R_ne HO320.out BK309.out (by decide)) e_) e_))))
     replace BK310 := Aside0.mk (blk_kept (bk_ BK310.out) hkp (fun hs_ => Or.elim hs_ (fun e_ => (fun e_ => (Kd.R_ne HO314.out BK310.out (by decide)) e_) e_) (fun e_ => Or.elim e_ (fun e_ => (fun e_ => (Kd.R_ne HO317.out BK310.out (by decide)) e_) e_) (fun e_ => (fun e_ => (Kd.R_ne HO320.out BK310.out (by decide)) e_) e_))))
     replace BK311 := Aside0.mk (blk_kept (bk_ BK311.out) hkp (fun hs_ => Or.elim hs_ (fun e_ => (fun e_ => (Kd.R_ne HO314.out BK311.out (by decide)) e_) e_) (fun e_ => Or.elim e_ (fun e_ => (fun e_ => (Kd.R_ne HO317.out BK311.out (by decide)) e_) e_) (fun e_ => (fun e_ => (Kd.R_ne HO320.out BK311.out (by decide)) e_) e_))))
     replace BK323 := Aside0.mk (blk_kept (bk_ BK323.out) hkp (fun hs_ => Or.elim hs_ (fun e_ => (fun e_ => (Kd.R_ne HO314.out BK323.out (by decide)) e_) e_) (fun e_ => Or.elim e_ (fun e_ => (fun e_ => (Kd.R_ne HO317.out BK323.out (by decide)) e_) e_) (fun e_ => (fun e_ => (Kd.R_ne HO320.out BK323.out (by decide)) e_) e_))))
     have HO328 := Aside0.mk (Kd.R_mono (ok' := fun k_ => True) ho0 (fun k_ hk_ => trivial))
     have HO331 := Aside0.mk (Kd.R_mono (ok' := fun k_ => some k_ ≠ (v333 : Value).ownBlock) ho1 (fun k_ hk_ => hk_.2))
     have HO334 := Aside0.mk (Kd.R_mono (ok' := fun k_ => some k_ ≠ (v330 : Value).ownBlock) ho2 (fun k_ hk_ => hk_.2))
     replace HB := Aside0.mk (hb)
     clear HO314 HO317 HO320
     (try clear hb)
     (try clear hkp)
     (try clear ho0)
     (try clear ho1)
     (try clear ho2)
     obtain ⟨Ao66, co66, eo66⟩ := Kd.R_slice HO328.out
     (first | subst eo66 | (injection eo66 with f1_ f2_ f3_; have f4_ := f1_.symm; have f5_ := f3_.symm; clear f1_ f2_ f3_; subst f4_; subst f5_))
     obtain ⟨Ao68, co68, eo68⟩ := Kd.R_slice HO331.out
     (first | subst eo68 | (injection eo68 with f1_ f2_ f3_; have f4_ := f1_.symm; have f5_ := f3_.symm; clear f1_ f2_ f3_; subst f4_; subst f5_))
     obtain ⟨Ao70, co70, eo70⟩ := Kd.R_slice HO334.out
     (first | subst eo70 | (injection eo70 with f1_ f2_ f3_; have f4_ := f1_.symm; have f5_ := f3_.symm; clear f1_ f2_ f3_; subst f4_; subst f5_))
     refine hK.out _ _ ⟨(blk_cell BK323.out 0).trans rfl, (blk_cell BK323.out 1).trans rfl, (blk_cell BK323.out 2).trans rfl, (blk_cell BK323.out 3).trans rfl, (blk_cell BK323.out 4).trans rfl, (blk_cell BK309.out 0).trans rfl, (blk_cell BK309.out 1).trans rfl, (blk_cell BK309.out 2).trans rfl, (blk_cell BK309.out 3).trans rfl, (blk_cell BK309.out 4).trans rfl, (blk_cell BK310.out 0).trans rfl, (blk_cell BK310.out 1).trans rfl, (blk_cell BK310.out 2).trans rfl, (blk_cell BK310.out 3).trans rfl, (blk_cell BK310.out 4).trans rfl, (blk_cell BK310.out 5).trans rfl, (blk_cell BK310.out 6).trans rfl, (bc_ HB.out hw324_0), (bc_ HB.out hw324_1), (bc_ HB.out hw324_2), (bc_ HB.out hw324_3), (bc_ HB.out hw324_4), (bc_ HB.out hw325_0), (bc_ HB.out hw325_1), (bc_ HB.out hw325_2), (bc_ HB.out hw325_3), (bc_ HB.out hw325_4)⟩ (fun hHeld => ?_)
     clear hK K
     refine na_ ?_
     refine pz_ HT_ 15 (some 23) spec_l25Make.mk16 ?_
     refine pz_ HT_ 16 (some 39) spec_l25Make.mk17 ?_
     refine pz_ HT_ 17 (some 40) spec_l25Make.mk18 ?_
     refine last_ (i := 18) (N := none) spec_l25Make.mk19 rfl rfl (one_of HT_.out (by kernel_rfl)) (by decide) (fun K hK => ?_)
     have hs67 : w65.cell? ⟨gb323, 0, none⟩ = some (.slice Ao54 t312.length co54) := (blk_cell BK323.out 0).trans rfl
     have hfs67 := blk_frozen BK323.out 0
     have hns67_0 := NB309_323.out
     have hns67_1 := NB310_323.out
     have hns67_2 := NB311_323.out
     have hms67_0 := NB323_309.out
     have hms67_1 := NB323_310.out
     have hms67_2 := NB323_311.out
     have hs69 : w65.cell? ⟨gb323, 1, none⟩ = some (.slice Ao59 t315.length co59) := (blk_cell BK323.out 1).trans rfl
     have hfs69 := blk_frozen BK323.out 1
     have hns69_0 := NB309_323.out
     have hns69_1 := NB310_323.out
     have hns69_2 := NB311_323.out
     have hms69_0 := NB323_309.out
     have hms69_1 := NB323_310.out
     have hms69_2 := NB323_311.out
     have hs71 : w65.cell? ⟨gb323, 2, none⟩ = some (.slice Ao60 t318.length co60) := (blk_cell BK323.out 2).trans rfl
     have hfs71 := blk_frozen BK323.out 2
     have hns71_0 := NB309_323.out
     have hns71_1 := NB310_323.out
     have hns71_2 := NB311_323.out
     have hms71_0 := NB323_309.out
     have hms71_1 := NB323_310.out
     have hms71_2 := NB323_311.out
     have hs72 : w65.cell? ⟨gb323, 3, none⟩ = some (.int .i64 t321) := (blk_cell BK323.out 3).trans rfl
     have hfs72 := blk_frozen BK323.out 3
     have hns72_0 := NB309_323.out
     have hns72_1 := NB310_323.out
     have hns72_2 := NB311_323.out
     have hms72_0 := NB323_309.out
     have hms72_1 := NB323_310.out
     have hms72_2 := NB323_311.out
     have hs73 : w65.cell? ⟨gb323, 4, none⟩ = some (.int .i64 t322) := (blk_cell BK323.out 4).trans rfl
     have hfs73 := blk_frozen BK323.out 4
     have hns73_0 := NB309_323.out
     have hns73_1 := NB310_323.out
     have hns73_2 := NB311_323.out
     have hms73_0 := NB323_309.out
     have hms73_1 := NB323_310.out
     have hms73_2 := NB323_311.out
     refine skip_ (w1 := ?_) (by rfl) rfl ?_ ?_
     rotate_left
     ·
      go_simp
      rfl
     refine hK.out _ _ ?_
     clear hK K
     refine pz_ HT_ 19 (some 7) spec_l25Make.mk20 ?_
     refine done_ (done_of HT_.out (by kernel_rfl)) ?_
     try go_wp2
     have n0_ : Aside0 (Kd.R k37 37 (((((w65.setCell ⟨gb323, 0, none⟩ (.slice Ao66 t326.length co66)).setCell ⟨gb323, 1, none⟩ (.slice Ao68 t329.length co68)).setCell ⟨gb323, 2, none⟩ (.slice Ao70 t332.length co70)).setCell ⟨gb323, 3, none⟩ (.int .i64 t335)).setCell ⟨gb323, 4, none⟩ (.int .i64 t336)) w.heap.size (fun _ => True) (.slice Ao66 t326.length co66) t326) := ⟨Kd.R_mono (r5_ HO328.out BK323.out (by decide) _ _ _ _ _) (fun _ hk => trivial)⟩
     have n1_ : Aside0 (Kd.R Kd.bool 4 (((((w65.setCell ⟨gb323, 0, none⟩ (.slice Ao66 t326.length co66)).setCell ⟨gb323, 1, none⟩ (.slice Ao68 t329.length co68)).setCell ⟨gb323, 2, none⟩ (.slice Ao70 t332.length co70)).setCell ⟨gb323, 3, none⟩ (.int .i64 t335)).setCell ⟨gb323, 4, none⟩ (.int .i64 t336)) w.heap.size (fun k_ => some k_ ≠ (.slice Ao70 t332.length co70 : Value).ownBlock) (.slice Ao68 t329.length co68) t329) := ⟨Kd.R_mono (r5_ HO331.out BK323.out (by decide) _ _ _ _ _) (fun _ hk => hk)⟩
     have n2_ : Aside0 (Kd.R Kd.bool 4 (((((w65.setCell ⟨gb323, 0, none⟩ (.slice Ao66 t326.length co66)).setCell ⟨gb323, 1, none⟩ (.slice Ao68 t329.length co68)).setCell ⟨gb323, 2, none⟩ (.slice Ao70 t332.length co70)).setCell ⟨gb323, 3, none⟩ (.int .i64 t335)).setCell ⟨gb323, 4, none⟩ (.int .i64 t336)) w.heap.size (fun k_ => some k_ ≠ (.slice Ao68 t329.length co68 : Value).ownBlock) (.slice Ao70 t332.length co70) t332) := ⟨Kd.R_mono (r5_ HO334.out BK323.out (by decide) _ _ _ _ _) (fun _ hk => hk)⟩
     have n3_ : Aside0 ((((((w65.setCell ⟨gb323, 0, none⟩ (.slice Ao66 t326.length co66)).setCell ⟨gb323, 1, none⟩ (.slice Ao68 t329.length co68)).setCell ⟨gb323, 2, none⟩ (.slice Ao70 t332.length co70)).setCell ⟨gb323, 3, none⟩ (.int .i64 t335)).setCell ⟨gb323, 4, none⟩ (.int .i64 t336)).heap[gb309]? = some (.cells #[.slice (some ad324) l0_0.length c0_0, .slice A0_1 l0_1.length c0_1, .slice A0_2 l0_2.length c0_2, .int .i64 a0_3, .int .i64 a0_4] 30 (0, 0))) := ⟨by exact (f5_ BK309.out NB309_323.out _ _ _ _ _)⟩
     have n4_ : Aside0 ((((((w65.setCell ⟨gb323, 0, none⟩ (.slice Ao66 t326.length co66)).setCell ⟨gb323, 1, none⟩ (.slice Ao68 t329.length co68)).setCell ⟨gb323, 2, none⟩ (.slice Ao70 t332.length co70)).setCell ⟨gb323, 3, none⟩ (.int .i64 t335)).setCell ⟨gb323, 4, none⟩ (.int .i64 t336)).heap[gb310]? = some (.cells #[.int .i64 a1_0, .int .i64 a1_1, .int .i64 a1_2, .int .i64 a1_3, .int .i64 a1_4, .int .i64 a1_5, .int .i64 a1_6] 39 (0, 0))) := ⟨by exact (f5_ BK310.out NB310_323.out _ _ _ _ _)⟩
     have n5_ : Aside0 ((((((w65.setCell ⟨gb323, 0, none⟩ (.slice Ao66 t326.length co66)).setCell ⟨gb323, 1, none⟩ (.slice Ao68 t329.length co68)).setCell ⟨gb323, 2, none⟩ (.slice Ao70 t332.length co70)).setCell ⟨gb323, 3, none⟩ (.int .i64 t335)).setCell ⟨gb323, 4, none⟩ (.int .i64 t336)).heap[gb311]? = some (.cells #[.slice none 0 0, .slice none 0 0, .slice none 0 0, .int .i64 0, .int .i64 0] 30 (0, 0))) := ⟨by exact (f5_ BK311.out NB311_323.out _ _ _ _ _)⟩
     have n6_ : Aside0 ((((((w65.setCell ⟨gb323, 0, none⟩ (.slice Ao66 t326.length co66)).setCell ⟨gb323, 1, none⟩ (.slice Ao68 t329.length co68)).setCell ⟨gb323, 2, none⟩ (.slice Ao70 t332.length co70)).setCell ⟨gb323, 3, none⟩ (.int .i64 t335)).setCell ⟨gb323, 4, none⟩ (.int .i64 t336)).heap[gb323]? = some (.cells #[.slice Ao66 t326.length co66, .slice Ao68 t329.length co68, .slice Ao70 t332.length co70, .int .i64 t335, .int .i64 t336] 30 (0, 0))) := ⟨by exact (p5_ BK323.out _ _ _ _ _)⟩
     have n7_ : Aside0 (Below w.heap.size w (((((w65.setCell ⟨gb323, 0, none⟩ (.slice Ao66 t326.length co66)).setCell ⟨gb323, 1, none⟩ (.slice Ao68 t329.length co68)).setCell ⟨gb323, 2, none⟩ (.slice Ao70 t332.length co70)).setCell ⟨gb323, 3, none⟩ (.int .i64 t335)).setCell ⟨gb323, 4, none⟩ (.int .i64 t336))) := ⟨by repeat (first | (with_reducible first | exact HB.out | apply below_alloc | apply pw_below_drewN | apply below_drew1 | refine below_set ?_ GE309.out | refine below_set ?_ GE310.out | refine below_set ?_ GE311.out | refine below_set ?_ GE323.out) | exact HB.out)⟩
     (try clear HO328)
     (try clear HO331)
     (try clear HO334)
     (try clear BK309)
     (try clear BK310)
     (try clear BK311)
     (try clear BK323)
     (try clear HB)
     generalize (((((w65.setCell ⟨gb323, 0, none⟩ (.slice Ao66 t326.length co66)).setCell ⟨gb323, 1, none⟩ (.slice Ao68 t329.length co68)).setCell ⟨gb323, 2, none⟩ (.slice Ao70 t332.length co70)).setCell ⟨gb323, 3, none⟩ (.int .i64 t335)).setCell ⟨gb323, 4, none⟩ (.int .i64 t336)) = w74 at n0_ n1_ n2_ n3_ n4_ n5_ n6_ n7_ ⊢
     have HO328 := n0_
     have HO331 := n1_
     have HO334 := n2_
     have BK309 := n3_
     have BK310 := n4_
     have BK311 := n5_
     have BK323 := n6_
     have HB := n7_
     clear n0_ n1_ n2_ n3_ n4_ n5_ n6_ n7_
     replace HO328 := Aside0.mk (Kd.R_drew HO328.out)
     replace HO331 := Aside0.mk (Kd.R_drew HO331.out)
     replace HO334 := Aside0.mk (Kd.R_drew HO334.out)
     replace BK309 := Aside0.mk (blk_drew BK309.out)
     replace BK310 := Aside0.mk (blk_drew BK310.out)
     replace BK311 := Aside0.mk (blk_drew BK311.out)
     replace BK323 := Aside0.mk (blk_drew BK323.out)
     replace HB := Aside0.mk (below_drew1 HB.out)
     refine start_ (n := 8) (S := fun w' => w'.cell? ⟨gb323, 0, none⟩ = some (.slice Ao66 t326.length co66) ∧ w'.cell? ⟨gb323, 1, none⟩ = some (.slice Ao68 t329.length co68) ∧ w'.cell? ⟨gb323, 2, none⟩ = some (.slice Ao70 t332.length co70) ∧ w'.cell? ⟨gb323, 3, none⟩ = some (.int .i64 t335) ∧ w'.cell? ⟨gb323, 4, none⟩ = some (.int .i64 t336)) (ds := []) #[fF,fF,fF,fF,fF,fF,fF,fF] (by kernel_rfl) rfl rfl ⟨(blk_cell BK323.out 0).trans rfl, (blk_cell BK323.out 1).trans rfl, (blk_cell BK323.out 2).trans rfl, (blk_cell BK323.out 3).trans rfl, (blk_cell BK323.out 4).trans rfl⟩ (fun hHeld => ?_); refine with_tabW spec_l25Make.tab15 spec_l25Make.bits15 (fun HT_ HW_ => ?_)
     generalize w74.drew = w75 at HO328 HO331 HO334 BK309 BK310 BK311 BK323 HB hHeld ⊢
     refine pz_ HT_ 1 (some 82) #[fF,tT,fF,fF,fF,fF,fF,fF] ?_
     refine pz_ HT_ 2 (some 83) #[fF,tT,tT,fF,fF,fF,fF,fF] ?_
     refine pu_ HT_ 3 (some 84) #[fF,tT,tT,tT,fF,fF,fF,fF] ?_
     refine pu_ HT_ 4 (some 85) #[fF,tT,tT,tT,tT,fF,fF,fF] ?_
     refine pz_ HT_ 5 (some 86) #[fF,tT,tT,tT,tT,tT,fF,fF] ?_
     refine tk_ HT_ HW_ hHeld 0 (some 81) #[tT,tT,tT,tT,tT,tT,fF,fF] ?_
     refine one_ (i := 6) (N := none) #[tT,tT,tT,tT,tT,tT,tT,fF] rfl rfl (one_of HT_.out (by kernel_rfl)) (by decide) (fun K hK => ?_)
     have hs76 : w75.cell? ⟨gb311, 0, none⟩ = some (.slice none 0 0) := (blk_cell BK311.out 0).trans rfl
     have hfs76 := blk_frozen BK311.out 0
     have hns76_0 := NB309_311.out
     have hns76_1 := NB310_311.out
     have hns76_3 := NB323_311.out
     have hms76_0 := NB311_309.out
     have hms76_1 := NB311_310.out
     have hms76_3 := NB311_323.out
     have hs77 : w75.cell? ⟨gb311, 1, none⟩ = some (.slice none 0 0) := (blk_cell BK311.out 1).trans rfl
     have hfs77 := blk_frozen BK311.out 1
     have hns77_0 := NB309_311.out
     have hns77_1 := NB310_311.out
     have hns77_3 := NB323_311.out
     have hms77_0 := NB311_309.out
     have hms77_1 := NB311_310.out
     have hms77_3 := NB311_323.out
     have hs78 : w75.cell? ⟨gb311, 2, none⟩ = some (.slice none 0 0) := (blk_cell BK311.out 2).trans rfl
     have hfs78 := blk_frozen BK311.out 2
     have hns78_0 := NB309_311.out
     have hns78_1 := NB310_311.out
     have hns78_3 := NB323_311.out
     have hms78_0 := NB311_309.out
     have hms78_1 := NB311_310.out
     have hms78_3 := NB311_323.out
     have hs79 : w75.cell? ⟨gb311, 3, none⟩ = some (.int .i64 0) := (blk_cell BK311.out 3).trans rfl
     have hfs79 := blk_frozen BK311.out 3
     have hns79_0 := NB309_311.out
     have hns79_1 := NB310_311.out
     have hns79_3 := NB323_311.out
     have hms79_0 := NB311_309.out
     have hms79_1 := NB311_310.out
     have hms79_3 := NB311_323.out
     have hs80 : w75.cell? ⟨gb311, 4, none⟩ = some (.int .i64 0) := (blk_cell BK311.out 4).trans rfl
     have hfs80 := blk_frozen BK311.out 4
     have hns80_0 := NB309_311.out
     have hns80_1 := NB310_311.out
     have hns80_3 := NB323_311.out
     have hms80_0 := NB311_309.out
     have hms80_1 := NB311_310.out
     have hms80_3 := NB311_323.out
     refine skip_ (w1 := ?_) (by rfl) rfl ?_ ?_
     rotate_left
     ·
      go_simp
      rfl
     refine hK.out _ _ ⟨((cell_far (p := ⟨gb311, _, none⟩) NB323_311.out _).trans (((cell_far (p := ⟨gb311, _, none⟩) NB323_311.out _).trans (((cell_far (p := ⟨gb311, _, none⟩) NB323_311.out _).trans (((cell_far (p := ⟨gb311, _, none⟩) NB323_311.out _).trans (((cell_far (p := ⟨gb311, _, none⟩) NB323_311.out _).trans (hHeld.1)))))))))), ((cell_far (p := ⟨gb311, _, none⟩) NB323_311.out _).trans (((cell_far (p := ⟨gb311, _, none⟩) NB323_311.out _).trans (((cell_far (p := ⟨gb311, _, none⟩) NB323_311.out _).trans (((cell_far (p := ⟨gb311, _, none⟩) NB323_311.out _).trans (((cell_far (p := ⟨gb311, _, none⟩) NB323_311.out _).trans (hHeld.2.1)))))))))), ((cell_far (p := ⟨gb311, _, none⟩) NB323_311.out _).trans (((cell_far (p := ⟨gb311, _, none⟩) NB323_311.out _).trans (((cell_far (p := ⟨gb311, _, none⟩) NB323_311.out _).trans (((cell_far (p := ⟨gb311, _, none⟩) NB323_311.out _).trans (((cell_far (p := ⟨gb311, _, none⟩) NB323_311.out _).trans (hHeld.2.2.1)))))))))), ((cell_far (p := ⟨gb311, _, none⟩) NB323_311.out _).trans (((cell_far (p := ⟨gb311, _, none⟩) NB323_311.out _).trans (((cell_far (p := ⟨gb311, _, none⟩) NB323_311.out _).trans (((cell_far (p := ⟨gb311, _, none⟩) NB323_311.out _).trans (((cell_far (p := ⟨gb311, _, none⟩) NB323_311.out _).trans (hHeld.2.2.2.1)))))))))), ((cell_far (p := ⟨gb311, _, none⟩) NB323_311.out _).trans (((cell_far (p := ⟨gb311, _, none⟩) NB323_311.out _).trans (((cell_far (p := ⟨gb311, _, none⟩) NB323_311.out _).trans (((cell_far (p := ⟨gb311, _, none⟩) NB323_311.out _).trans (((cell_far (p := ⟨gb311, _, none⟩) NB323_311.out _).trans (hHeld.2.2.2.2))))))))))⟩ (fun hHeld => ?_)
     clear hK K
     refine pz_ HT_ 7 (some 5) #[tT,tT,tT,tT,tT,tT,tT,tT] ?_
     refine done_ (done_of HT_.out (by kernel_rfl)) ?_
     try go_wp2
     refine bodyPost_ret (results_ct rfl _ _ gb311 30 #[.slice Ao66 t326.length co66, .slice Ao68 t329.length co68, .slice Ao70 t332.length co70, .int .i64 t335, .int .i64 t336] (0, 0) _ rfl (by (with_reducible repeat (first | refine blk_drewN ?_ _ | refine blk_drew ?_ | refine blk_alloc ?_ _)); refine blk_put (cs := #[.slice Ao66 t326.length co66, .slice Ao68 t329.length co68, .slice Ao70 t332.length co70, .int .i64 t335, .int .i64 0]) ?_ 4 _ rfl; (with_reducible repeat (first | refine blk_drewN ?_ _ | refine blk_drew ?_ | refine blk_alloc ?_ _)); refine blk_put (cs := #[.slice Ao66 t326.length co66, .slice Ao68 t329.length co68, .slice Ao70 t332.length co70, .int .i64 0, .int .i64 0]) ?_ 3 _ rfl; (with_reducible repeat (first | refine blk_drewN ?_ _ | refine blk_drew ?_ | refine blk_alloc ?_ _)); refine blk_put (cs := #[.slice Ao66 t326.length co66, .slice Ao68 t329.length co68, .slice none 0 0, .int .i64 0, .int .i64 0]) ?_ 2 _ rfl; (with_reducible repeat (first | refine blk_drewN ?_ _ | refine blk_drew ?_ | refine blk_alloc ?_ _)); refine blk_put (cs := #[.slice Ao66 t326.length co66, .slice none 0 0, .slice none 0 0, .int .i64 0, .int .i64 0]) ?_ 1 _ rfl; (with_reducible repeat (first | refine blk_drewN ?_ _ | refine blk_drew ?_ | refine blk_alloc ?_ _)); refine blk_put (cs := #[.slice none 0 0, .slice none 0 0, .slice none 0 0, .int .i64 0, .int .i64 0]) ?_ 0 _ rfl; (with_reducible repeat (first | refine blk_drewN ?_ _ | refine blk_drew ?_ | refine blk_alloc ?_ _)); exact BK311.out) Try.underlying30 rfl (by kernel_rfl)) rfl ?_
     exact ⟨_, _, _, rr_, by (with_reducible repeat (first | apply Kd.R_alloc | apply Kd.R_drewN | apply Kd.R_drew)); exact Kd.R_mono (r5_ HO328.out BK311.out (by decide) _ _ _ _ _) (fun _ hk => trivial), by (with_reducible repeat (first | apply Kd.R_alloc | apply Kd.R_drewN | apply Kd.R_drew)); exact Kd.R_mono (r5_ HO331.out BK311.out (by decide) _ _ _ _ _) (fun _ hk => hk), by (with_reducible repeat (first | apply Kd.R_alloc | apply Kd.R_drewN | apply Kd.R_drew)); exact Kd.R_mono (r5_ HO334.out BK311.out (by decide) _ _ _ _ _) (fun _ hk => hk), by repeat (first | (with_reducible first | exact HB.out | apply below_alloc | apply pw_below_drewN | apply below_drew1 | refine below_set ?_ GE309.out | refine below_set ?_ GE310.out | refine below_set ?_ GE311.out | refine below_set ?_ GE323.out) | exact HB.out)⟩
   ·
    rw [if_neg c6] at H
    exact absurd H (by simp)
  ·
   rw [if_neg c5] at H
   exact absurd H (by simp)
 ·
  rw [if_neg c4] at H
  have c4b0 : (a1_0 == 1) = false := beq_eq_false_iff_ne.mpr c4
  have c4b1 : (a1_0 != 1) = true := bne_iff_ne.mpr c4
  by_cases c81 : a1_0 = 2
  ·
   rw [if_pos c81] at H
   have c81b0 : (a1_0 == 2) = true := beq_iff_eq.mpr c81
   have c81b1 : (a1_0 != 2) = false := bne_eq_false_iff_eq.mpr c81
   clear c81
   by_cases c82 : t312.length < 3518437208883
   ·
    rw [if_pos c82] at H
    have LMc82 := Aside0.mk c82
    clear c82
    obtain ⟨y339, hy339⟩ : ∃ y_ : List (S37), y_ = (t312 ++ [(⟨a1_2, a1_3, a1_4, a1_5, a1_6⟩ : S37)]) := ⟨_, rfl⟩
    replace H : ((spec_l25Go.f y339 t315 t318 t321 t322 a1_2 a1_3 a1_4 a1_5 a1_6 (wrap64 (3 * a1_4))).bind fun bt342 => (if a1_2 = a0_3 then ((spec_l25Good.f k bt342.1 bt342.2.1 bt342.2.2.1 bt342.2.2.2.1 bt342.2.2.2.2.1).bind fun t354 => (some (bt342.1, bt342.2.1, bt342.2.2.1, bt342.2.2.2.1, bt342.2.2.2.2.1, t354))) else (some (bt342.1, bt342.2.1, bt342.2.2.1, bt342.2.2.2.1, bt342.2.2.2.2.1, false)))) = some (r1, r2, r3, r4, r5, r6) := by first | (rw [hy339]; with_reducible exact H) | (have H2_ := (Option.bind_some _ _).symm.trans H; rw [hy339]; with_reducible exact H2_) | (have H2_ := (Option.bind_some _ _).symm.trans H; with_reducible exact H2_) | with_reducible exact H | (rw [hy339]; exact H) | exact H
    have Ny339 := Aside0.mk hy339
    clear hy339
    replace H := Option.bind_eq_some_iff.mp H
    obtain ⟨⟨t342, t345, t348, t351, t352, t353⟩, A830, H⟩ := H
    replace H : (if a1_2 = a0_3 then ((spec_l25Good.f k t342 t345 t348 t351 t352).bind fun t354 => (some (t342, t345, t348, t351, t352, t354))) else (some (t342, t345, t348, t351, t352, false))) = some (r1, r2, r3, r4, r5, r6) := H
    have A83 := Aside0.mk A830
    clear A830
    by_cases c84 : a1_2 = a0_3
    ·
     rw [if_pos c84] at H
     have c84b0 : (a1_2 == a0_3) = true := beq_iff_eq.mpr c84
     have c84b1 : (a1_2 != a0_3) = false := bne_eq_false_iff_eq.mpr c84
     clear c84
     replace H := Option.bind_eq_some_iff.mp H
     obtain ⟨t354, A850, H⟩ := H
     replace H : (some (t342, t345, t348, t351, t352, t354)) = some (r1, r2, r3, r4, r5, r6) := H
     have A85 := Aside0.mk A850
     clear A850
     simp only [Option.some.injEq, Prod.mk.injEq] at H
     obtain ⟨rfl, rfl, rfl, rfl, rfl, rfl⟩ := H
     go_enter Try.func78, Try.ntmps78
     try go_wp2_with (first | ((with_reducible refine gate_dst (N := 2) rfl ?_); refine box_event ?hg (N := 2) ?hd (cs := #[.slice A0_0 l0_0.length c0_0, .slice A0_1 l0_1.length c0_1, .slice A0_2 l0_2.length c0_2, .int .i64 a0_3, .int .i64 a0_4]) (t := 30) ?hr ?_; (case hd => rfl); (case hg => rfl); (case hr => first | (go_simp; done) | (go_simp; rfl)); intro gb309 hg w86 hbox hb; have BK309 := Aside0.mk (hbox); have GW309 := Aside0.mk ((bz_ hg (lb0_ HB.out))); have GE309 := Aside0.mk ((bz_ hg (lb0_ HB.out))); replace HB := Aside0.mk (below_step (lb0_ HB.out) hb); clear hb hbox hg) | ((with_reducible refine gate_dst (N := 3) rfl ?_); refine box_event ?hg (N := 3) ?hd (cs := #[.int .i64 a1_0, .int .i64 a1_1, .int .i64 a1_2, .int .i64 a1_3, .int .i64 a1_4, .int .i64 a1_5, .int .i64 a1_6]) (t := 39) ?hr ?_; (case hd => rfl); (case hg => rfl); (case hr => first | (go_simp; done) | (go_simp; rfl)); intro gb310 hg w87 hbox hb; have BK310 := Aside0.mk (hbox); have GW310 := Aside0.mk ((bz_ hg (lb1_ HB.out GE309.out))); have GE310 := Aside0.mk ((bz_ hg (lb1_ HB.out GE309.out))); replace HB := Aside0.mk (below_step (lb1_ HB.out GE309.out) hb); have NB309_310 := Aside0.mk (nl_ hg BK309.out); have NB310_309 := Aside0.mk (ng_ hg BK309.out); replace BK309 := Aside0.mk (bb_ (bk_ BK309.out) hb); clear hb hbox hg) | ((with_reducible refine gate_dst (N := 4) rfl ?_); refine box_event ?hg (N := 4) ?hd (cs := #[.slice none 0 0, .slice none 0 0, .slice none 0 0, .int .i64 0, .int .i64 0]) (t := 30) ?hr ?_; (case hd => rfl); (case hg => rfl); (case hr => first | (go_simp; done) | (go_simp; rfl)); intro gb311 hg w88 hbox hb; have BK311 := Aside0.mk (hbox); have GW311 := Aside0.mk ((bz_ hg (lb2_ HB.out GE309.out GE310.out))); have GE311 := Aside0.mk ((bz_ hg (lb2_ HB.out GE309.out GE310.out))); replace HB := Aside0.mk (below_step (lb2_ HB.out GE309.out GE310.out) hb); have NB309_311 := Aside0.mk (nl_ hg BK309.out); have NB311_309 := Aside0.mk (ng_ hg BK309.out); replace BK309 := Aside0.mk (bb_ (bk_ BK309.out) hb); have NB310_311 := Aside0.mk (nl_ hg BK310.out); have NB311_310 := Aside0.mk (ng_ hg BK310.out); replace BK310 := Aside0.mk (bb_ (bk_ BK310.out) hb); clear hb hbox hg; have hnb89 := NB309_310.out; have hnc89 := NB310_309.out; have hnb90 := NB309_311.out; have hnc90 := NB311_309.out; obtain ⟨hcz91_0, hcz91_1, hcz91_2, hcz91_3, hcz91_4⟩ := cz5_ BK309.out; obtain ⟨hfz91_0, hfz91_1, hfz91_2, hfz91_3, hfz91_4⟩ := fz5_ BK309.out) | ((with_reducible refine gate_callee (f := 84) rfl ?_); refine ga_ (some 9) Try.func84 #[.agg #[.slice A0_0 l0_0.length c0_0, .slice A0_1 l0_1.length c0_1, .slice A0_2 l0_2.length c0_2, .int .i64 a0_3, .int .i64 a0_4]] ?_; (with_reducible refine (spec_l25Own.calls _ _ l0_0 _ _ l0_1 _ _ l0_2 a0_3 a0_4 t312 t315 t318 t321 t322 _ ?side1 ?side2 ?side3 ?side4 ?side5 ?side6 A3.out).mono ?_); (case side1 => exact kc_ (Kd.C_below HR0_0.out HB.out)); (case side2 => exact HC0_0.out); (case side3 => exact kc_ (Kd.C_below HR0_1.out HB.out)); (case side4 => exact HC0_1.out); (case side5 => exact kc_ (Kd.C_below HR0_2.out HB.out)); (case side6 => exact HC0_2.out); rintro e w92 ⟨v313, v316, v319, rfl, ho0, ho1, ho2, hb⟩; refine ⟨_, rfl, ?_⟩; have HO314 := Aside0.mk (Kd.R_lower ho0 (below_size (lb3_ HB.out GE309.out GE310.out GE311.out))); have HO317 := Aside0.mk (Kd.R_lower ho1 (below_size (lb3_ HB.out GE309.out GE310.out GE311.out))); have HO320 := Aside0.mk (Kd.R_lower ho2 (below_size (lb3_ HB.out GE309.out GE310.out GE311.out))); replace BK309 := Aside0.mk (bb_ (bk_ BK309.out) hb); replace BK310 := Aside0.mk (bb_ (bk_ BK310.out) hb); replace BK311 := Aside0.mk (bb_ (bk_ BK311.out) hb); replace HB := Aside0.mk (below_step (lb3_ HB.out GE309.out GE310.out GE311.out) hb); (try clear hb); (try clear hb2); (try clear hk); (try clear hi); (try clear ho0); (try clear ho1); (try clear ho2)) | ((with_reducible refine gate_dst (N := 6) rfl ?_); refine box_event ?hg (N := 6) ?hd (cs := #[.slice none 0 0, .slice none 0 0, .slice none 0 0, .int .i64 0, .int .i64 0]) (t := 30) ?hr ?_; (case hd => rfl); (case hg => rfl); (case hr => first | (go_simp; done) | (go_simp; rfl)); intro gb323 hg w93 hbox hb; replace HO314 := Aside0.mk (Kd.R_below (kr_ HO314.out) hb); replace HO317 := Aside0.mk (Kd.R_below (kr_ HO317.out) hb); replace HO320 := Aside0.mk (Kd.R_below (kr_ HO320.out) hb); have BK323 := Aside0.mk (hbox); have GW323 := Aside0.mk (bz_ hg (lb3_ HB.out GE309.out GE310.out GE311.out)); have GE323 := Aside0.mk (bz_ hg (lb3_ HB.out GE309.out GE310.out GE311.out)); replace HB := Aside0.mk (below_step (lb3_ HB.out GE309.out GE310.out GE311.out) hb); have NB309_323 := Aside0.mk (nl_ hg BK309.out); have NB323_309 := Aside0.mk (ng_ hg BK309.out); replace BK309 := Aside0.mk (bb_ (bk_ BK309.out) hb); have NB310_323 := Aside0.mk (nl_ hg BK310.out); have NB323_310 := Aside0.mk (ng_ hg BK310.out); replace BK310 := Aside0.mk (bb_ (bk_ BK310.out) hb); have NB311_323 := Aside0.mk (nl_ hg BK311.out); have NB323_311 := Aside0.mk (ng_ hg BK311.out); replace BK311 := Aside0.mk (bb_ (bk_ BK311.out) hb); clear hb hbox hg; obtain ⟨Ao94, co94, eo94⟩ := Kd.R_slice HO314.out; subst eo94; have hnb95 := NB323_309.out; have hnc95 := NB309_323.out; have hnb96 := NB323_310.out; have hnc96 := NB310_323.out; have hnb97 := NB323_311.out; have hnc97 := NB311_323.out; obtain ⟨hcz98_0, hcz98_1, hcz98_2, hcz98_3, hcz98_4⟩ := cz5_ BK323.out; obtain ⟨hfz98_0, hfz98_1, hfz98_2, hfz98_3, hfz98_4⟩ := fz5_ BK323.out; obtain ⟨Ao99, co99, eo99⟩ := Kd.R_slice HO317.out; subst eo99; obtain ⟨Ao100, co100, eo100⟩ := Kd.R_slice HO320.out; subst eo100; have hnb101 := NB310_311.out; have hnc101 := NB311_310.out; obtain ⟨hcz102_0, hcz102_1, hcz102_2, hcz102_3, hcz102_4, hcz102_5, hcz102_6⟩ := cz7_ BK310.out; obtain ⟨hfz102_0, hfz102_1, hfz102_2, hfz102_3, hfz102_4, hfz102_5, hfz102_6⟩ := fz7_ BK310.out) | ((with_reducible refine gate_builtin (b := .append) (xs := #[.tmp 44, .tmp 47]) rfl ?_); at_builtin; refine Kd.R_append k37 (w0 := w) w.heap.size rfl (.tmp 44) (.tmp 47) 28 37 (.agg #[(.int .i64 0), (.int .i64 0), (.int .i64 0), (.int .i64 0), (.int .i64 0)]) 40 rfl Try.underlying28 info37 rfl (by decide) (by omega) (.slice Ao94 t312.length co94) t312 (⟨a1_2, a1_3, a1_4, a1_5, a1_6⟩ : S37) [.int .i64 a1_2, .int .i64 a1_3, .int .i64 a1_4, .int .i64 a1_5, .int .i64 a1_6] (fun _ => True) (fun _ => False) rfl (by first | (go_simp; done) | (go_simp; rfl)) ?aP (fun _ hk => hk.elim) ?aF ?aO ?aB ?aS ?aL ?_; (case aP => exact k37_mkM _ _ _ (⟨a1_2, a1_3, a1_4, a1_5, a1_6⟩ : S37)); (case aB => exact (by repeat (first | (with_reducible first | exact HB.out | apply below_alloc | apply pw_below_drewN | apply below_drew1 | refine below_set ?_ GE309.out | refine below_set ?_ GE310.out | refine below_set ?_ GE311.out | refine below_set ?_ GE323.out) | exact HB.out))); (case aF => exact (fun _ _ => trivial)); (case aO => exact (by (with_reducible repeat (first | apply Kd.R_alloc | apply Kd.R_drewN | apply Kd.R_drew)); exact Kd.R_mono (r5_ HO314.out BK323.out (by decide) _ _ _ _ _) (fun _ hk => trivial))); (case aS => exact (below_size (by repeat (first | (with_reducible first | exact HB.out | apply below_alloc | apply pw_below_drewN | apply below_drew1 | refine below_set ?_ GE309.out | refine below_set ?_ GE310.out | refine below_set ?_ GE311.out | refine below_set ?_ GE323.out) | exact HB.out)))); (case aL => have := LMc82.out; omega); intro v340 w103 ho hb hg hat; rw [← Ny339.out] at ho; replace BK309 := Aside0.mk (blk_grown (g := gb309) (o := .cells #[.slice A0_0 l0_0.length c0_0, .slice A0_1 l0_1.length c0_1, .slice A0_2 l0_2.length c0_2, .int .i64 a0_3, .int .i64 a0_4] 30 (0, 0)) (by (with_reducible repeat (first | refine blk_drewN ?_ _ | refine blk_drew ?_ | refine blk_alloc ?_ _)); exact (f5_ BK309.out NB309_323.out _ _ _ _ _)) hg (Kd.R_ne HO314.out BK309.out (by decide))); replace BK310 := Aside0.mk (blk_grown (g := gb310) (o := .cells #[.int .i64 a1_0, .int .i64 a1_1, .int .i64 a1_2, .int .i64 a1_3, .int .i64 a1_4, .int .i64 a1_5, .int .i64 a1_6] 39 (0, 0)) (by (with_reducible repeat (first | refine blk_drewN ?_ _ | refine blk_drew ?_ | refine blk_alloc ?_ _)); exact (f5_ BK310.out NB310_323.out _ _ _ _ _)) hg (Kd.R_ne HO314.out BK310.out (by decide))); replace BK311 := Aside0.mk (blk_grown (g := gb311) (o := .cells #[.slice none 0 0, .slice none 0 0, .slice none 0 0, .int .i64 0, .int .i64 0] 30 (0, 0)) (by (with_reducible repeat (first | refine blk_drewN ?_ _ | refine blk_drew ?_ | refine blk_alloc ?_ _)); exact (f5_ BK311.out NB311_323.out _ _ _ _ _)) hg (Kd.R_ne HO314.out BK311.out (by decide))); replace HO317 := Aside0.mk (Kd.R_over' (kg_ HO317.out BK323.out) (Kd.R_typed (kg_ HO314.out BK323.out)) (by decide) hg); replace HO320 := Aside0.mk (Kd.R_over' (kg_ HO320.out BK323.out) (Kd.R_typed (kg_ HO314.out BK323.out)) (by decide) hg); replace BK323 := Aside0.mk (blk_grown (g := gb323) (o := .cells #[.slice Ao94 t312.length co94, .slice Ao99 t315.length co99, .slice Ao100 t318.length co100, .int .i64 t321, .int .i64 t322] 30 (0, 0)) (by (with_reducible repeat (first | refine blk_drewN ?_ _ | refine blk_drew ?_ | refine blk_alloc ?_ _)); exact (p5_ BK323.out _ _ _ _ _)) hg (Kd.R_ne HO314.out BK323.out (by decide))); replace HB := Aside0.mk (hb); have HO341 := Aside0.mk (ho); clear HO314; clear ho hb hg hat; obtain ⟨Ao104, co104, eo104⟩ := Kd.R_slice HO341.out; subst eo104; obtain ⟨hcz105_0, hcz105_1, hcz105_2, hcz105_3, hcz105_4⟩ := cz5_ BK323.out; obtain ⟨hfz105_0, hfz105_1, hfz105_2, hfz105_3, hfz105_4⟩ := fz5_ BK323.out) | ((with_reducible refine gate_store (t := 28) (p := 49) rfl ?_); refine store_event (t := 28) (p := 49) (v := ?vo_w106) (w1 := (w103.setCell ⟨gb323, 0, none⟩ (.slice Ao104 y339.length co104))) ?hg ?ho ?hn ?hr ?_; (case ho => rfl); (case hg => rfl); (case hn => rfl); (case hr => first | (go_simp; done) | (go_simp; rfl)); intro w106 hw; have n0_ : Aside0 (Kd.R Kd.bool 4 w106 w.heap.size (fun k_ => some k_ ≠ (.slice Ao100 t318.length co100 : Value).ownBlock) (.slice Ao99 t315.length co99) t315) := ⟨(by rw [hw]; exact (by (with_reducible repeat (first | apply Kd.R_alloc | apply Kd.R_drewN | apply Kd.R_drew)); exact Kd.R_mono (Kd.R_far (p := ⟨gb323, 0, none⟩) (Kd.R_types HO317.out BK323.out (by decide)) (fun _ hk => hk.2) (.slice Ao104 y339.length co104)) (fun _ hk => hk.1)))⟩; have n1_ : Aside0 (Kd.R Kd.bool 4 w106 w.heap.size (fun k_ => some k_ ≠ (.slice Ao99 t315.length co99 : Value).ownBlock) (.slice Ao100 t318.length co100) t318) := ⟨(by rw [hw]; exact (by (with_reducible repeat (first | apply Kd.R_alloc | apply Kd.R_drewN | apply Kd.R_drew)); exact Kd.R_mono (Kd.R_far (p := ⟨gb323, 0, none⟩) (Kd.R_types HO320.out BK323.out (by decide)) (fun _ hk => hk.2) (.slice Ao104 y339.length co104)) (fun _ hk => hk.1)))⟩; have n2_ : Aside0 (Kd.R k37 37 w106 w.heap.size (fun _ => True) (.slice Ao104 y339.length co104) y339) := ⟨(by rw [hw]; exact (by (with_reducible repeat (first | apply Kd.R_alloc | apply Kd.R_drewN | apply Kd.R_drew)); exact Kd.R_mono (Kd.R_far (p := ⟨gb323, 0, none⟩) (Kd.R_types HO341.out BK323.out (by decide)) (fun _ hk => hk.2) (.slice Ao104 y339.length co104)) (fun _ hk => trivial)))⟩; have n3_ : Aside0 (w106.heap[gb309]? = some (.cells #[.slice A0_0 l0_0.length c0_0, .slice A0_1 l0_1.length c0_1, .slice A0_2 l0_2.length c0_2, .int .i64 a0_3, .int .i64 a0_4] 30 (0, 0))) := ⟨(by rw [hw]; exact (by exact (blk_far BK309.out NB309_323.out _)))⟩; have n4_ : Aside0 (w106.heap[gb310]? = some (.cells #[.int .i64 a1_0, .int .i64 a1_1, .int .i64 a1_2, .int .i64 a1_3, .int .i64 a1_4, .int .i64 a1_5, .int .i64 a1_6] 39 (0, 0))) := ⟨(by rw [hw]; exact (by exact (blk_far BK310.out NB310_323.out _)))⟩; have n5_ : Aside0 (w106.heap[gb311]? = some (.cells #[.slice none 0 0, .slice none 0 0, .slice none 0 0, .int .i64 0, .int .i64 0] 30 (0, 0))) := ⟨(by rw [hw]; exact (by exact (blk_far BK311.out NB311_323.out _)))⟩; have n6_ : Aside0 (w106.heap[gb323]? = some (.cells #[.slice Ao104 y339.length co104, .slice Ao99 t315.length co99, .slice Ao100 t318.length co100, .int .i64 t321, .int .i64 t322] 30 (0, 0))) := ⟨(by rw [hw]; exact (by (with_reducible repeat (first | refine blk_drewN ?_ _ | refine blk_drew ?_ | refine blk_alloc ?_ _)); refine blk_put (cs := #[.slice Ao94 t312.length co94, .slice Ao99 t315.length co99, .slice Ao100 t318.length co100, .int .i64 t321, .int .i64 t322]) ?_ 0 _ rfl; (with_reducible repeat (first | refine blk_drewN ?_ _ | refine blk_drew ?_ | refine blk_alloc ?_ _)); exact BK323.out))⟩; have n7_ : Aside0 (Below w.heap.size w w106) := ⟨(by rw [hw]; exact (by repeat (first | (with_reducible first | exact HB.out | apply below_alloc | apply pw_below_drewN | apply below_drew1 | refine below_set ?_ GE309.out | refine below_set ?_ GE310.out | refine below_set ?_ GE311.out | refine below_set ?_ GE323.out) | exact HB.out)))⟩; clear hw; clear HO317; clear HO320; clear HO341; clear BK309; clear BK310; clear BK311; clear BK323; clear HB; have HO317 := n0_; have HO320 := n1_; have HO341 := n2_; have BK309 := n3_; have BK310 := n4_; have BK311 := n5_; have BK323 := n6_; have HB := n7_; clear n0_ n1_ n2_ n3_ n4_ n5_ n6_ n7_; obtain ⟨hcz107_0, hcz107_1, hcz107_2, hcz107_3, hcz107_4, hcz107_5, hcz107_6⟩ := cz7_ BK310.out; obtain ⟨hfz107_0, hfz107_1, hfz107_2, hfz107_3, hfz107_4, hfz107_5, hfz107_6⟩ := fz7_ BK310.out; obtain ⟨hcz108_0, hcz108_1, hcz108_2, hcz108_3, hcz108_4⟩ := cz5_ BK309.out; obtain ⟨hfz108_0, hfz108_1, hfz108_2, hfz108_3, hfz108_4⟩ := fz5_ BK309.out; obtain ⟨hcz109_0, hcz109_1, hcz109_2, hcz109_3, hcz109_4⟩ := cz5_ BK323.out; obtain ⟨hfz109_0, hfz109_1, hfz109_2, hfz109_3, hfz109_4⟩ := fz5_ BK323.out) | ((with_reducible refine gate_callee (f := 107) rfl ?_); refine ga_ (some 64) Try.func107 #[.agg #[.slice Ao104 y339.length co104, .slice Ao99 t315.length co99, .slice Ao100 t318.length co100, .int .i64 t321, .int .i64 t322], .agg #[.int .i64 a1_2, .int .i64 a1_3, .int .i64 a1_4, .int .i64 a1_5, .int .i64 a1_6], .int .i64 (wrap64 (3 * a1_4))] ?_; (with_reducible refine (spec_l25Go.calls (fun k_ => some k_ = (.slice Ao104 y339.length co104 : Value).ownBlock) (.slice Ao104 y339.length co104) y339 (fun k_ => some k_ = (.slice Ao99 t315.length co99 : Value).ownBlock) (.slice Ao99 t315.length co99) t315 (fun k_ => some k_ = (.slice Ao100 t318.length co100 : Value).ownBlock) (.slice Ao100 t318.length co100) t318 t321 t322 a1_2 a1_3 a1_4 a1_5 a1_6 (wrap64 (3 * a1_4)) t342 t345 t348 t351 t352 t353 w _ ?side1 ?side2 ?side3 ?side4 ?side5 ?side6 A83.out).mono ?_); (case side1 => repeat (first | (with_reducible first | exact HB.out | apply below_alloc | apply pw_below_drewN | apply below_drew1 | refine below_set ?_ GE309.out | refine below_set ?_ GE310.out | refine below_set ?_ GE311.out | refine below_set ?_ GE323.out) | exact HB.out)); (case side2 => exact Kd.R_tight rfl HO341.out); (case side3 => exact Kd.R_tight rfl HO317.out); (case side4 => exact fun k_ e_ => (HO317.out.1 k_ e_.symm)); (case side5 => exact Kd.R_tight rfl HO320.out); (case side6 => exact fun k_ e_ => (HO320.out.1 k_ e_.symm)); rintro e w110 ⟨v343, v346, v349, rfl, ho0, ho1, ho2, hb, hkp⟩; refine ⟨_, rfl, ?_⟩; replace BK309 := Aside0.mk (blk_kept (bk_ BK309.out) hkp (fun hs_ => Or.elim hs_ (fun e_ => (fun e_ => (Kd.R_ne HO341.out BK309.out (by decide)) e_) e_) (fun e_ => Or.elim e_ (fun e_ => (fun e_ => (Kd.R_ne HO317.out BK309.out (by decide)) e_) e_) (fun e_ => (fun e_ => (Kd.R_ne HO320.out BK309.out (by decide)) e_) e_)))); replace BK310 := Aside0.mk (blk_kept (bk_ BK310.out) hkp (fun hs_ => Or.elim hs_ (fun e_ => (fun e_ => (Kd.R_ne HO341.out BK310.out (by decide)) e_) e_) (fun e_ => Or.elim e_ (fun e_ => (fun e_ => (Kd.R_ne HO317.out BK310.out (by decide)) e_) e_) (fun e_ => (fun e_ => (Kd.R_ne HO320.out BK310.out (by decide)) e_) e_)))); replace BK311 := Aside0.mk (blk_kept (bk_ BK311.out) hkp (fun hs_ => Or.elim hs_ (fun e_ => (fun e_ => (Kd.R_ne HO341.out BK311.out (by decide)) e_) e_) (fun e_ => Or.elim e_ (fun e_ => (fun e_ => (Kd.R_ne HO317.out BK311.out (by decide)) e_) e_) (fun e_ => (fun e_ => (Kd.R_ne HO320.out BK311.out (by decide)) e_) e_)))); replace BK323 := Aside0.mk (blk_kept (bk_ BK323.out) hkp (fun hs_ => Or.elim hs_ (fun e_ => (fun e_ => (Kd.R_ne HO341.out BK323.out (by decide)) e_) e_) (fun e_ => Or.elim e_ (fun e_ => (fun e_ => (Kd.R_ne HO317.out BK323.out (by decide)) e_) e_) (fun e_ => (fun e_ => (Kd.R_ne HO320.out BK323.out (by decide)) e_) e_)))); have HO344 := Aside0.mk (Kd.R_mono (ok' := fun k_ => True) ho0 (fun k_ hk_ => trivial)); have HO347 := Aside0.mk (Kd.R_mono (ok' := fun k_ => some k_ ≠ (v349 : Value).ownBlock) ho1 (fun k_ hk_ => hk_.2)); have HO350 := Aside0.mk (Kd.R_mono (ok' := fun k_ => some k_ ≠ (v346 : Value).ownBlock) ho2 (fun k_ hk_ => hk_.2)); replace HB := Aside0.mk (hb); clear HO317 HO320 HO341; (try clear hb); (try clear hkp); (try clear ho0); (try clear ho1); (try clear ho2); obtain ⟨Ao111, co111, eo111⟩ := Kd.R_slice HO344.out; subst eo111; obtain ⟨hcz112_0, hcz112_1, hcz112_2, hcz112_3, hcz112_4⟩ := cz5_ BK323.out; obtain ⟨hfz112_0, hfz112_1, hfz112_2, hfz112_3, hfz112_4⟩ := fz5_ BK323.out; obtain ⟨Ao113, co113, eo113⟩ := Kd.R_slice HO347.out; subst eo113; obtain ⟨Ao114, co114, eo114⟩ := Kd.R_slice HO350.out; subst eo114))
     have n0_ : Aside0 (Kd.R k37 37 (((((w110.setCell ⟨gb323, 0, none⟩ (.slice Ao111 t342.length co111)).setCell ⟨gb323, 1, none⟩ (.slice Ao113 t345.length co113)).setCell ⟨gb323, 2, none⟩ (.slice Ao114 t348.length co114)).setCell ⟨gb323, 3, none⟩ (.int .i64 t351)).setCell ⟨gb323, 4, none⟩ (.int .i64 t352)) w.heap.size (fun _ => True) (.slice Ao111 t342.length co111) t342) := ⟨Kd.R_mono (r5_ HO344.out BK323.out (by decide) _ _ _ _ _) (fun _ hk => trivial)⟩
     have n1_ : Aside0 (Kd.R Kd.bool 4 (((((w110.setCell ⟨gb323, 0, none⟩ (.slice Ao111 t342.length co111)).setCell ⟨gb323, 1, none⟩ (.slice Ao113 t345.length co113)).setCell ⟨gb323, 2, none⟩ (.slice Ao114 t348.length co114)).setCell ⟨gb323, 3, none⟩ (.int .i64 t351)).setCell ⟨gb323, 4, none⟩ (.int .i64 t352)) w.heap.size (fun k_ => some k_ ≠ (.slice Ao114 t348.length co114 : Value).ownBlock) (.slice Ao113 t345.length co113) t345) := ⟨Kd.R_mono (r5_ HO347.out BK323.out (by decide) _ _ _ _ _) (fun _ hk => hk)⟩
     have n2_ : Aside0 (Kd.R Kd.bool 4 (((((w110.setCell ⟨gb323, 0, none⟩ (.slice Ao111 t342.length co111)).setCell ⟨gb323, 1, none⟩ (.slice Ao113 t345.length co113)).setCell ⟨gb323, 2, none⟩ (.slice Ao114 t348.length co114)).setCell ⟨gb323, 3, none⟩ (.int .i64 t351)).setCell ⟨gb323, 4, none⟩ (.int .i64 t352)) w.heap.size (fun k_ => some k_ ≠ (.slice Ao113 t345.length co113 : Value).ownBlock) (.slice Ao114 t348.length co114) t348) := ⟨Kd.R_mono (r5_ HO350.out BK323.out (by decide) _ _ _ _ _) (fun _ hk => hk)⟩
     have n3_ : Aside0 ((((((w110.setCell ⟨gb323, 0, none⟩ (.slice Ao111 t342.length co111)).setCell ⟨gb323, 1, none⟩ (.slice Ao113 t345.length co113)).setCell ⟨gb323, 2, none⟩ (.slice Ao114 t348.length co114)).setCell ⟨gb323, 3, none⟩ (.int .i64 t351)).setCell ⟨gb323, 4, none⟩ (.int .i64 t352)).heap[gb309]? = some (.cells #[.slice A0_0 l0_0.length c0_0, .slice A0_1 l0_1.length c0_1, .slice A0_2 l0_2.length c0_2, .int .i64 a0_3, .int .i64 a0_4] 30 (0, 0))) := ⟨by exact (f5_ BK309.out NB309_323.out _ _ _ _ _)⟩
     have n4_ : Aside0 ((((((w110.setCell ⟨gb323, 0, none⟩ (.slice Ao111 t342.length co111)).setCell ⟨gb323, 1, none⟩ (.slice Ao113 t345.length co113)).setCell ⟨gb323, 2, none⟩ (.slice Ao114 t348.length co114)).setCell ⟨gb323, 3, none⟩ (.int .i64 t351)).setCell ⟨gb323, 4, none⟩ (.int .i64 t352)).heap[gb310]? = some (.cells #[.int .i64 a1_0, .int .i64 a1_1, .int .i64 a1_2, .int .i64 a1_3, .int .i64 a1_4, .int .i64 a1_5, .int .i64 a1_6] 39 (0, 0))) := ⟨by exact (f5_ BK310.out NB310_323.out _ _ _ _ _)⟩
     have n5_ : Aside0 ((((((w110.setCell ⟨gb323, 0, none⟩ (.slice Ao111 t342.length co111)).setCell ⟨gb323, 1, none⟩ (.slice Ao113 t345.length co113)).setCell ⟨gb323, 2, none⟩ (.slice Ao114 t348.length co114)).setCell ⟨gb323, 3, none⟩ (.int .i64 t351)).setCell ⟨gb323, 4, none⟩ (.int .i64 t352)).heap[gb311]? = some (.cells #[.slice none 0 0, .slice none 0 0, .slice none 0 0, .int .i64 0, .int .i64 0] 30 (0, 0))) := ⟨by exact (f5_ BK311.out NB311_323.out _ _ _ _ _)⟩
     have n6_ : Aside0 ((((((w110.setCell ⟨gb323, 0, none⟩ (.slice Ao111 t342.length co111)).setCell ⟨gb323, 1, none⟩ (.slice Ao113 t345.length co113)).setCell ⟨gb323, 2, none⟩ (.slice Ao114 t348.length co114)).setCell ⟨gb323, 3, none⟩ (.int .i64 t351)).setCell ⟨gb323, 4, none⟩ (.int .i64 t352)).heap[gb323]? = some (.cells #[.slice Ao111 t342.length co111, .slice Ao113 t345.length co113, .slice Ao114 t348.length co114, .int .i64 t351, .int .i64 t352] 30 (0, 0))) := ⟨by exact (p5_ BK323.out _ _ _ _ _)⟩
     have n7_ : Aside0 (Below w.heap.size w (((((w110.setCell ⟨gb323, 0, none⟩ (.slice Ao111 t342.length co111)).setCell ⟨gb323, 1, none⟩ (.slice Ao113 t345.length co113)).setCell ⟨gb323, 2, none⟩ (.slice Ao114 t348.length co114)).setCell ⟨gb323, 3, none⟩ (.int .i64 t351)).setCell ⟨gb323, 4, none⟩ (.int .i64 t352))) := ⟨by repeat (first | (with_reducible first | exact HB.out | apply below_alloc | apply pw_below_drewN | apply below_drew1 | refine below_set ?_ GE309.out | refine below_set ?_ GE310.out | refine below_set ?_ GE311.out | refine below_set ?_ GE323.out) | exact HB.out)⟩
     (try clear HO344)
     (try clear HO347)
     (try clear HO350)
     (try clear BK309)
     (try clear BK310)
     (try clear BK311)
     (try clear BK323)
     (try clear HB)
     generalize (((((w110.setCell ⟨gb323, 0, none⟩ (.slice Ao111 t342.length co111)).setCell ⟨gb323, 1, none⟩ (.slice Ao113 t345.length co113)).setCell ⟨gb323, 2, none⟩ (.slice Ao114 t348.length co114)).setCell ⟨gb323, 3, none⟩ (.int .i64 t351)).setCell ⟨gb323, 4, none⟩ (.int .i64 t352)) = w115 at n0_ n1_ n2_ n3_ n4_ n5_ n6_ n7_ ⊢
     have HO344 := n0_
     have HO347 := n1_
     have HO350 := n2_
     have BK309 := n3_
     have BK310 := n4_
     have BK311 := n5_
     have BK323 := n6_
     have HB := n7_
     clear n0_ n1_ n2_ n3_ n4_ n5_ n6_ n7_
     replace HO344 := Aside0.mk (Kd.R_drew HO344.out)
     replace HO347 := Aside0.mk (Kd.R_drew HO347.out)
     replace HO350 := Aside0.mk (Kd.R_drew HO350.out)
     replace BK309 := Aside0.mk (blk_drew BK309.out)
     replace BK310 := Aside0.mk (blk_drew BK310.out)
     replace BK311 := Aside0.mk (blk_drew BK311.out)
     replace BK323 := Aside0.mk (blk_drew BK323.out)
     replace HB := Aside0.mk (below_drew1 HB.out)
     refine start_ (n := 8) (S := fun w' => w'.cell? ⟨gb323, 0, none⟩ = some (.slice Ao111 t342.length co111) ∧ w'.cell? ⟨gb323, 1, none⟩ = some (.slice Ao113 t345.length co113) ∧ w'.cell? ⟨gb323, 2, none⟩ = some (.slice Ao114 t348.length co114) ∧ w'.cell? ⟨gb323, 3, none⟩ = some (.int .i64 t351) ∧ w'.cell? ⟨gb323, 4, none⟩ = some (.int .i64 t352)) (ds := []) #[fF,fF,fF,fF,fF,fF,fF,fF] (by kernel_rfl) rfl rfl ⟨(blk_cell BK323.out 0).trans rfl, (blk_cell BK323.out 1).trans rfl, (blk_cell BK323.out 2).trans rfl, (blk_cell BK323.out 3).trans rfl, (blk_cell BK323.out 4).trans rfl⟩ (fun hHeld => ?_); refine with_tabW spec_l25Make.tab15 spec_l25Make.bits15 (fun HT_ HW_ => ?_)
     generalize w115.drew = w116 at HO344 HO347 HO350 BK309 BK310 BK311 BK323 HB hHeld ⊢
     refine pz_ HT_ 1 (some 82) #[fF,tT,fF,fF,fF,fF,fF,fF] ?_
     refine pz_ HT_ 2 (some 83) #[fF,tT,tT,fF,fF,fF,fF,fF] ?_
     refine tk_ HT_ HW_ hHeld 0 (some 81) #[tT,tT,tT,fF,fF,fF,fF,fF] ?_
     refine tk_ HT_ HW_ hHeld 3 (some 84) #[tT,tT,tT,tT,fF,fF,fF,fF] ?_
     refine one_ (i := 4) (N := some 85) #[tT,tT,tT,tT,tT,fF,fF,fF] rfl rfl (one_of HT_.out (by kernel_rfl)) (by decide) (fun K hK => ?_)
     refine gs_ Try.func67 #[.agg #[.slice Ao111 t342.length co111, .slice Ao113 t345.length co113, .slice Ao114 t348.length co114, .int .i64 t351, .int .i64 t352]] ?_
     with_reducible refine (spec_l25Good.calls k _ _ t342 _ _ t345 _ _ t348 t351 t352 t354 _ ?side1 ?side2 ?side3 ?side4 ?side5 ?side6 A85.out).mono ?_
     (case side1 => exact kc_ (Kd.R_reads' HO344.out).2.2)
     (case side2 => exact (Kd.R_reads' HO344.out).2.1)
     (case side3 => exact kc_ (Kd.R_reads' HO347.out).2.2)
     (case side4 => exact (Kd.R_reads' HO347.out).2.1)
     (case side5 => exact kc_ (Kd.R_reads' HO350.out).2.2)
     (case side6 => exact (Kd.R_reads' HO350.out).2.1)
     rintro e w117 ⟨rfl, hb⟩
     refine ⟨_, rfl, ?_⟩
     replace HO344 := Aside0.mk (Kd.R_below (kr_ HO344.out) hb)
     replace HO347 := Aside0.mk (Kd.R_below (kr_ HO347.out) hb)
     replace HO350 := Aside0.mk (Kd.R_below (kr_ HO350.out) hb)
     replace BK309 := Aside0.mk (bb_ (bk_ BK309.out) hb)
     replace BK310 := Aside0.mk (bb_ (bk_ BK310.out) hb)
     replace BK311 := Aside0.mk (bb_ (bk_ BK311.out) hb)
     replace BK323 := Aside0.mk (bb_ (bk_ BK323.out) hb)
     replace HB := Aside0.mk (below_step (by repeat (first | (with_reducible first | exact HB.out | apply below_alloc | apply pw_below_drewN | apply below_drew1 | refine below_set ?_ GE309.out | refine below_set ?_ GE310.out | refine below_set ?_ GE311.out | refine below_set ?_ GE323.out) | exact HB.out)) hb)
     (try clear hb)
     (try clear hb2)
     (try clear hk)
     (try clear hi)
     refine hK.out _ _ ⟨(blk_cell BK323.out 0).trans rfl, (blk_cell BK323.out 1).trans rfl, (blk_cell BK323.out 2).trans rfl, (blk_cell BK323.out 3).trans rfl, (blk_cell BK323.out 4).trans rfl⟩ (fun hHeld => ?_)
     clear hK K
     refine na_ ?_
     refine pz_ HT_ 5 (some 86) #[tT,tT,tT,tT,tT,tT,fF,fF] ?_
     refine one_ (i := 6) (N := none) #[tT,tT,tT,tT,tT,tT,tT,fF] rfl rfl (one_of HT_.out (by kernel_rfl)) (by decide) (fun K hK => ?_)
     have hs118 : w117.cell? ⟨gb311, 0, none⟩ = some (.slice none 0 0) := (blk_cell BK311.out 0).trans rfl
     have hfs118 := blk_frozen BK311.out 0
     have hns118_0 := NB309_311.out
     have hns118_1 := NB310_311.out
     have hns118_3 := NB323_311.out
     have hms118_0 := NB311_309.out
     have hms118_1 := NB311_310.out
     have hms118_3 := NB311_323.out
     have hs119 : w117.cell? ⟨gb311, 1, none⟩ = some (.slice none 0 0) := (blk_cell BK311.out 1).trans rfl
     have hfs119 := blk_frozen BK311.out 1
     have hns119_0 := NB309_311.out
     have hns119_1 := NB310_311.out
     have hns119_3 := NB323_311.out
     have hms119_0 := NB311_309.out
     have hms119_1 := NB311_310.out
     have hms119_3 := NB311_323.out
     have hs120 : w117.cell? ⟨gb311, 2, none⟩ = some (.slice none 0 0) := (blk_cell BK311.out 2).trans rfl
     have hfs120 := blk_frozen BK311.out 2
     have hns120_0 := NB309_311.out
     have hns120_1 := NB310_311.out
     have hns120_3 := NB323_311.out
     have hms120_0 := NB311_309.out
     have hms120_1 := NB311_310.out
     have hms120_3 := NB311_323.out
     have hs121 : w117.cell? ⟨gb311, 3, none⟩ = some (.int .i64 0) := (blk_cell BK311.out 3).trans rfl
     have hfs121 := blk_frozen BK311.out 3
     have hns121_0 := NB309_311.out
     have hns121_1 := NB310_311.out
     have hns121_3 := NB323_311.out
     have hms121_0 := NB311_309.out
     have hms121_1 := NB311_310.out
     have hms121_3 := NB311_323.out
     have hs122 : w117.cell? ⟨gb311, 4, none⟩ = some (.int .i64 0) := (blk_cell BK311.out 4).trans rfl
     have hfs122 := blk_frozen BK311.out 4
     have hns122_0 := NB309_311.out
     have hns122_1 := NB310_311.out
     have hns122_3 := NB323_311.out
     have hms122_0 := NB311_309.out
     have hms122_1 := NB311_310.out
     have hms122_3 := NB311_323.out
     refine skip_ (w1 := ?_) (by rfl) rfl ?_ ?_
     rotate_left
     ·
      go_simp
      rfl
     refine hK.out _ _ ⟨((cell_far (p := ⟨gb311, _, none⟩) NB323_311.out _).trans (((cell_far (p := ⟨gb311, _, none⟩) NB323_311.out _).trans (((cell_far (p := ⟨gb311, _, none⟩) NB323_311.out _).trans (((cell_far (p := ⟨gb311, _, none⟩) NB323_311.out _).trans (((cell_far (p := ⟨gb311, _, none⟩) NB323_311.out _).trans (hHeld.1)))))))))), ((cell_far (p := ⟨gb311, _, none⟩) NB323_311.out _).trans (((cell_far (p := ⟨gb311, _, none⟩) NB323_311.out _).trans (((cell_far (p := ⟨gb311, _, none⟩) NB323_311.out _).trans (((cell_far (p := ⟨gb311, _, none⟩) NB323_311.out _).trans (((cell_far (p := ⟨gb311, _, none⟩) NB323_311.out _).trans (hHeld.2.1)))))))))), ((cell_far (p := ⟨gb311, _, none⟩) NB323_311.out _).trans (((cell_far (p := ⟨gb311, _, none⟩) NB323_311.out _).trans (((cell_far (p := ⟨gb311, _, none⟩) NB323_311.out _).trans (((cell_far (p := ⟨gb311, _, none⟩) NB323_311.out _).trans (((cell_far (p := ⟨gb311, _, none⟩) NB323_311.out _).trans (hHeld.2.2.1)))))))))), ((cell_far (p := ⟨gb311, _, none⟩) NB323_311.out _).trans (((cell_far (p := ⟨gb311, _, none⟩) NB323_311.out _).trans (((cell_far (p := ⟨gb311, _, none⟩) NB323_311.out _).trans (((cell_far (p := ⟨gb311, _, none⟩) NB323_311.out _).trans (((cell_far (p := ⟨gb311, _, none⟩) NB323_311.out _).trans (hHeld.2.2.2.1)))))))))), ((cell_far (p := ⟨gb311, _, none⟩) NB323_311.out _).trans (((cell_far (p := ⟨gb311, _, none⟩) NB323_311.out _).trans (((cell_far (p := ⟨gb311, _, none⟩) NB323_311.out _).trans (((cell_far (p := ⟨gb311, _, none⟩) NB323_311.out _).trans (((cell_far (p := ⟨gb311, _, none⟩) NB323_311.out _).trans (hHeld.2.2.2.2))))))))))⟩ (fun hHeld => ?_)
     clear hK K
     refine pz_ HT_ 7 (some 5) #[tT,tT,tT,tT,tT,tT,tT,tT] ?_
     refine done_ (done_of HT_.out (by kernel_rfl)) ?_
     try go_wp2
     refine bodyPost_ret (results_ct rfl _ _ gb311 30 #[.slice Ao111 t342.length co111, .slice Ao113 t345.length co113, .slice Ao114 t348.length co114, .int .i64 t351, .int .i64 t352] (0, 0) _ rfl (by (with_reducible repeat (first | refine blk_drewN ?_ _ | refine blk_drew ?_ | refine blk_alloc ?_ _)); refine blk_put (cs := #[.slice Ao111 t342.length co111, .slice Ao113 t345.length co113, .slice Ao114 t348.length co114, .int .i64 t351, .int .i64 0]) ?_ 4 _ rfl; (with_reducible repeat (first | refine blk_drewN ?_ _ | refine blk_drew ?_ | refine blk_alloc ?_ _)); refine blk_put (cs := #[.slice Ao111 t342.length co111, .slice Ao113 t345.length co113, .slice Ao114 t348.length co114, .int .i64 0, .int .i64 0]) ?_ 3 _ rfl; (with_reducible repeat (first | refine blk_drewN ?_ _ | refine blk_drew ?_ | refine blk_alloc ?_ _)); refine blk_put (cs := #[.slice Ao111 t342.length co111, .slice Ao113 t345.length co113, .slice none 0 0, .int .i64 0, .int .i64 0]) ?_ 2 _ rfl; (with_reducible repeat (first | refine blk_drewN ?_ _ | refine blk_drew ?_ | refine blk_alloc ?_ _)); refine blk_put (cs := #[.slice Ao111 t342.length co111, .slice none 0 0, .slice none 0 0, .int .i64 0, .int .i64 0]) ?_ 1 _ rfl; (with_reducible repeat (first | refine blk_drewN ?_ _ | refine blk_drew ?_ | refine blk_alloc ?_ _)); refine blk_put (cs := #[.slice none 0 0, .slice none 0 0, .slice none 0 0, .int .i64 0, .int .i64 0]) ?_ 0 _ rfl; (with_reducible repeat (first | refine blk_drewN ?_ _ | refine blk_drew ?_ | refine blk_alloc ?_ _)); exact BK311.out) Try.underlying30 rfl (by kernel_rfl)) rfl ?_
     exact ⟨_, _, _, rr_, by (with_reducible repeat (first | apply Kd.R_alloc | apply Kd.R_drewN | apply Kd.R_drew)); exact Kd.R_mono (r5_ HO344.out BK311.out (by decide) _ _ _ _ _) (fun _ hk => trivial), by (with_reducible repeat (first | apply Kd.R_alloc | apply Kd.R_drewN | apply Kd.R_drew)); exact Kd.R_mono (r5_ HO347.out BK311.out (by decide) _ _ _ _ _) (fun _ hk => hk), by (with_reducible repeat (first | apply Kd.R_alloc | apply Kd.R_drewN | apply Kd.R_drew)); exact Kd.R_mono (r5_ HO350.out BK311.out (by decide) _ _ _ _ _) (fun _ hk => hk), by repeat (first | (with_reducible first | exact HB.out | apply below_alloc | apply pw_below_drewN | apply below_drew1 | refine below_set ?_ GE309.out | refine below_set ?_ GE310.out | refine below_set ?_ GE311.out | refine below_set ?_ GE323.out) | exact HB.out)⟩
    ·
     rw [if_neg c84] at H
     have c84b0 : (a1_2 == a0_3) = false := beq_eq_false_iff_ne.mpr c84
     have c84b1 : (a1_2 != a0_3) = true := bne_iff_ne.mpr c84
     simp only [Option.some.injEq, Prod.mk.injEq] at H
     obtain ⟨rfl, rfl, rfl, rfl, rfl, rfl⟩ := H
     go_enter Try.func78, Try.ntmps78
     try go_wp2_with (first | ((with_reducible refine gate_dst (N := 2) rfl ?_); refine box_event ?hg (N := 2) ?hd (cs := #[.slice A0_0 l0_0.length c0_0, .slice A0_1 l0_1.length c0_1, .slice A0_2 l0_2.length c0_2, .int .i64 a0_3, .int .i64 a0_4]) (t := 30) ?hr ?_; (case hd => rfl); (case hg => rfl); (case hr => first | (go_simp; done) | (go_simp; rfl)); intro gb309 hg w123 hbox hb; have BK309 := Aside0.mk (hbox); have GW309 := Aside0.mk ((bz_ hg (lb0_ HB.out))); have GE309 := Aside0.mk ((bz_ hg (lb0_ HB.out))); replace HB := Aside0.mk (below_step (lb0_ HB.out) hb); clear hb hbox hg) | ((with_reducible refine gate_dst (N := 3) rfl ?_); refine box_event ?hg (N := 3) ?hd (cs := #[.int .i64 a1_0, .int .i64 a1_1, .int .i64 a1_2, .int .i64 a1_3, .int .i64 a1_4, .int .i64 a1_5, .int .i64 a1_6]) (t := 39) ?hr ?_; (case hd => rfl); (case hg => rfl); (case hr => first | (go_simp; done) | (go_simp; rfl)); intro gb310 hg w124 hbox hb; have BK310 := Aside0.mk (hbox); have GW310 := Aside0.mk ((bz_ hg (lb1_ HB.out GE309.out))); have GE310 := Aside0.mk ((bz_ hg (lb1_ HB.out GE309.out))); replace HB := Aside0.mk (below_step (lb1_ HB.out GE309.out) hb); have NB309_310 := Aside0.mk (nl_ hg BK309.out); have NB310_309 := Aside0.mk (ng_ hg BK309.out); replace BK309 := Aside0.mk (bb_ (bk_ BK309.out) hb); clear hb hbox hg) | ((with_reducible refine gate_dst (N := 4) rfl ?_); refine box_event ?hg (N := 4) ?hd (cs := #[.slice none 0 0, .slice none 0 0, .slice none 0 0, .int .i64 0, .int .i64 0]) (t := 30) ?hr ?_; (case hd => rfl); (case hg => rfl); (case hr => first | (go_simp; done) | (go_simp; rfl)); intro gb311 hg w125 hbox hb; have BK311 := Aside0.mk (hbox); have GW311 := Aside0.mk ((bz_ hg (lb2_ HB.out GE309.out GE310.out))); have GE311 := Aside0.mk ((bz_ hg (lb2_ HB.out GE309.out GE310.out))); replace HB := Aside0.mk (below_step (lb2_ HB.out GE309.out GE310.out) hb); have NB309_311 := Aside0.mk (nl_ hg BK309.out); have NB311_309 := Aside0.mk (ng_ hg BK309.out); replace BK309 := Aside0.mk (bb_ (bk_ BK309.out) hb); have NB310_311 := Aside0.mk (nl_ hg BK310.out); have NB311_310 := Aside0.mk (ng_ hg BK310.out); replace BK310 := Aside0.mk (bb_ (bk_ BK310.out) hb); clear hb hbox hg; have hnb126 := NB309_310.out; have hnc126 := NB310_309.out; have hnb127 := NB309_311.out; have hnc127 := NB311_309.out; obtain ⟨hcz128_0, hcz128_1, hcz128_2, hcz128_3, hcz128_4⟩ := cz5_ BK309.out; obtain ⟨hfz128_0, hfz128_1, hfz128_2, hfz128_3, hfz128_4⟩ := fz5_ BK309.out) | ((with_reducible refine gate_callee (f := 84) rfl ?_); refine ga_ (some 9) Try.func84 #[.agg #[.slice A0_0 l0_0.length c0_0, .slice A0_1 l0_1.length c0_1, .slice A0_2 l0_2.length c0_2, .int .i64 a0_3, .int .i64 a0_4]] ?_; (with_reducible refine (spec_l25Own.calls _ _ l0_0 _ _ l0_1 _ _ l0_2 a0_3 a0_4 t312 t315 t318 t321 t322 _ ?side1 ?side2 ?side3 ?side4 ?side5 ?side6 A3.out).mono ?_); (case side1 => exact kc_ (Kd.C_below HR0_0.out HB.out)); (case side2 => exact HC0_0.out); (case side3 => exact kc_ (Kd.C_below HR0_1.out HB.out)); (case side4 => exact HC0_1.out); (case side5 => exact kc_ (Kd.C_below HR0_2.out HB.out)); (case side6 => exact HC0_2.out); rintro e w129 ⟨v313, v316, v319, rfl, ho0, ho1, ho2, hb⟩; refine ⟨_, rfl, ?_⟩; have HO314 := Aside0.mk (Kd.R_lower ho0 (below_size (lb3_ HB.out GE309.out GE310.out GE311.out))); have HO317 := Aside0.mk (Kd.R_lower ho1 (below_size (lb3_ HB.out GE309.out GE310.out GE311.out))); have HO320 := Aside0.mk (Kd.R_lower ho2 (below_size (lb3_ HB.out GE309.out GE310.out GE311.out))); replace BK309 := Aside0.mk (bb_ (bk_ BK309.out) hb); replace BK310 := Aside0.mk (bb_ (bk_ BK310.out) hb); replace BK311 := Aside0.mk (bb_ (bk_ BK311.out) hb); replace HB := Aside0.mk (below_step (lb3_ HB.out GE309.out GE310.out GE311.out) hb); (try clear hb); (try clear hb2); (try clear hk); (try clear hi); (try clear ho0); (try clear ho1); (try clear ho2)) | ((with_reducible refine gate_dst (N := 6) rfl ?_); refine box_event ?hg (N := 6) ?hd (cs := #[.slice none 0 0, .slice none 0 0, .slice none 0 0, .int .i64 0, .int .i64 0]) (t := 30) ?hr ?_; (case hd => rfl); (case hg => rfl); (case hr => first | (go_simp; done) | (go_simp; rfl)); intro gb323 hg w130 hbox hb; replace HO314 := Aside0.mk (Kd.R_below (kr_ HO314.out) hb); replace HO317 := Aside0.mk (Kd.R_below (kr_ HO317.out) hb); replace HO320 := Aside0.mk (Kd.R_below (kr_ HO320.out) hb); have BK323 := Aside0.mk (hbox); have GW323 := Aside0.mk (bz_ hg (lb3_ HB.out GE309.out GE310.out GE311.out)); have GE323 := Aside0.mk (bz_ hg (lb3_ HB.out GE309.out GE310.out GE311.out)); replace HB := Aside0.mk (below_step (lb3_ HB.out GE309.out GE310.out GE311.out) hb); have NB309_323 := Aside0.mk (nl_ hg BK309.out); have NB323_309 := Aside0.mk (ng_ hg BK309.out); replace BK309 := Aside0.mk (bb_ (bk_ BK309.out) hb); have NB310_323 := Aside0.mk (nl_ hg BK310.out); have NB323_310 := Aside0.mk (ng_ hg BK310.out); replace BK310 := Aside0.mk (bb_ (bk_ BK310.out) hb); have NB311_323 := Aside0.mk (nl_ hg BK311.out); have NB323_311 := Aside0.mk (ng_ hg BK311.out); replace BK311 := Aside0.mk (bb_ (bk_ BK311.out) hb); clear hb hbox hg; obtain ⟨Ao131, co131, eo131⟩ := Kd.R_slice HO314.out; subst eo131; have hnb132 := NB323_309.out; have hnc132 := NB309_323.out; have hnb133 := NB323_310.out; have hnc133 := NB310_323.out; have hnb134 := NB323_311.out; have hnc134 := NB311_323.out; obtain ⟨hcz135_0, hcz135_1, hcz135_2, hcz135_3, hcz135_4⟩ := cz5_ BK323.out; obtain ⟨hfz135_0, hfz135_1, hfz135_2, hfz135_3, hfz135_4⟩ := fz5_ BK323.out; obtain ⟨Ao136, co136, eo136⟩ := Kd.R_slice HO317.out; subst eo136; obtain ⟨Ao137, co137, eo137⟩ := Kd.R_slice HO320.out; subst eo137; have hnb138 := NB310_311.out; have hnc138 := NB311_310.out; obtain ⟨hcz139_0, hcz139_1, hcz139_2, hcz139_3, hcz139_4, hcz139_5, hcz139_6⟩ := cz7_ BK310.out; obtain ⟨hfz139_0, hfz139_1, hfz139_2, hfz139_3, hfz139_4, hfz139_5, hfz139_6⟩ := fz7_ BK310.out) | ((with_reducible refine gate_builtin (b := .append) (xs := #[.tmp 44, .tmp 47]) rfl ?_); at_builtin; refine Kd.R_append k37 (w0 := w) w.heap.size rfl (.tmp 44) (.tmp 47) 28 37 (.agg #[(.int .i64 0), (.int .i64 0), (.int .i64 0), (.int .i64 0), (.int .i64 0)]) 40 rfl Try.underlying28 info37 rfl (by decide) (by omega) (.slice Ao131 t312.length co131) t312 (⟨a1_2, a1_3, a1_4, a1_5, a1_6⟩ : S37) [.int .i64 a1_2, .int .i64 a1_3, .int .i64 a1_4, .int .i64 a1_5, .int .i64 a1_6] (fun _ => True) (fun _ => False) rfl (by first | (go_simp; done) | (go_simp; rfl)) ?aP (fun _ hk => hk.elim) ?aF ?aO ?aB ?aS ?aL ?_; (case aP => exact k37_mkM _ _ _ (⟨a1_2, a1_3, a1_4, a1_5, a1_6⟩ : S37)); (case aB => exact (by repeat (first | (with_reducible first | exact HB.out | apply below_alloc | apply pw_below_drewN | apply below_drew1 | refine below_set ?_ GE309.out | refine below_set ?_ GE310.out | refine below_set ?_ GE311.out | refine below_set ?_ GE323.out) | exact HB.out))); (case aF => exact (fun _ _ => trivial)); (case aO => exact (by (with_reducible repeat (first | apply Kd.R_alloc | apply Kd.R_drewN | apply Kd.R_drew)); exact Kd.R_mono (r5_ HO314.out BK323.out (by decide) _ _ _ _ _) (fun _ hk => trivial))); (case aS => exact (below_size (by repeat (first | (with_reducible first | exact HB.out | apply below_alloc | apply pw_below_drewN | apply below_drew1 | refine below_set ?_ GE309.out | refine below_set ?_ GE310.out | refine below_set ?_ GE311.out | refine below_set ?_ GE323.out) | exact HB.out)))); (case aL => have := LMc82.out; omega); intro v340 w140 ho hb hg hat; rw [← Ny339.out] at ho; replace BK309 := Aside0.mk (blk_grown (g := gb309) (o := .cells #[.slice A0_0 l0_0.length c0_0, .slice A0_1 l0_1.length c0_1, .slice A0_2 l0_2.length c0_2, .int .i64 a0_3, .int .i64 a0_4] 30 (0, 0)) (by (with_reducible repeat (first | refine blk_drewN ?_ _ | refine blk_drew ?_ | refine blk_alloc ?_ _)); exact (f5_ BK309.out NB309_323.out _ _ _ _ _)) hg (Kd.R_ne HO314.out BK309.out (by decide))); replace BK310 := Aside0.mk (blk_grown (g := gb310) (o := .cells #[.int .i64 a1_0, .int .i64 a1_1, .int .i64 a1_2, .int .i64 a1_3, .int .i64 a1_4, .int .i64 a1_5, .int .i64 a1_6] 39 (0, 0)) (by (with_reducible repeat (first | refine blk_drewN ?_ _ | refine blk_drew ?_ | refine blk_alloc ?_ _)); exact (f5_ BK310.out NB310_323.out _ _ _ _ _)) hg (Kd.R_ne HO314.out BK310.out (by decide))); replace BK311 := Aside0.mk (blk_grown (g := gb311) (o := .cells #[.slice none 0 0, .slice none 0 0, .slice none 0 0, .int .i64 0, .int .i64 0] 30 (0, 0)) (by (with_reducible repeat (first | refine blk_drewN ?_ _ | refine blk_drew ?_ | refine blk_alloc ?_ _)); exact (f5_ BK311.out NB311_323.out _ _ _ _ _)) hg (Kd.R_ne HO314.out BK311.out (by decide))); replace HO317 := Aside0.mk (Kd.R_over' (kg_ HO317.out BK323.out) (Kd.R_typed (kg_ HO314.out BK323.out)) (by decide) hg); replace HO320 := Aside0.mk (Kd.R_over' (kg_ HO320.out BK323.out) (Kd.R_typed (kg_ HO314.out BK323.out)) (by decide) hg); replace BK323 := Aside0.mk (blk_grown (g := gb323) (o := .cells #[.slice Ao131 t312.length co131, .slice Ao136 t315.length co136, .slice Ao137 t318.length co137, .int .i64 t321, .int .i64 t322] 30 (0, 0)) (by (with_reducible repeat (first | refine blk_drewN ?_ _ | refine blk_drew ?_ | refine blk_alloc ?_ _)); exact (p5_ BK323.out _ _ _ _ _)) hg (Kd.R_ne HO314.out BK323.out (by decide))); replace HB := Aside0.mk (hb); have HO341 := Aside0.mk (ho); clear HO314; clear ho hb hg hat; obtain ⟨Ao141, co141, eo141⟩ := Kd.R_slice HO341.out; subst eo141; obtain ⟨hcz142_0, hcz142_1, hcz142_2, hcz142_3, hcz142_4⟩ := cz5_ BK323.out; obtain ⟨hfz142_0, hfz142_1, hfz142_2, hfz142_3, hfz142_4⟩ := fz5_ BK323.out) | ((with_reducible refine gate_store (t := 28) (p := 49) rfl ?_); refine store_event (t := 28) (p := 49) (v := ?vo_w143) (w1 := (w140.setCell ⟨gb323, 0, none⟩ (.slice Ao141 y339.length co141))) ?hg ?ho ?hn ?hr ?_; (case ho => rfl); (case hg => rfl); (case hn => rfl); (case hr => first | (go_simp; done) | (go_simp; rfl)); intro w143 hw; have n0_ : Aside0 (Kd.R Kd.bool 4 w143 w.heap.size (fun k_ => some k_ ≠ (.slice Ao137 t318.length co137 : Value).ownBlock) (.slice Ao136 t315.length co136) t315) := ⟨(by rw [hw]; exact (by (with_reducible repeat (first | apply Kd.R_alloc | apply Kd.R_drewN | apply Kd.R_drew)); exact Kd.R_mono (Kd.R_far (p := ⟨gb323, 0, none⟩) (Kd.R_types HO317.out BK323.out (by decide)) (fun _ hk => hk.2) (.slice Ao141 y339.length co141)) (fun _ hk => hk.1)))⟩; have n1_ : Aside0 (Kd.R Kd.bool 4 w143 w.heap.size (fun k_ => some k_ ≠ (.slice Ao136 t315.length co136 : Value).ownBlock) (.slice Ao137 t318.length co137) t318) := ⟨(by rw [hw]; exact (by (with_reducible repeat (first | apply Kd.R_alloc | apply Kd.R_drewN | apply Kd.R_drew)); exact Kd.R_mono (Kd.R_far (p := ⟨gb323, 0, none⟩) (Kd.R_types HO320.out BK323.out (by decide)) (fun _ hk => hk.2) (.slice Ao141 y339.length co141)) (fun _ hk => hk.1)))⟩; have n2_ : Aside0 (Kd.R k37 37 w143 w.heap.size (fun _ => True) (.slice Ao141 y339.length co141) y339) := ⟨(by rw [hw]; exact (by (with_reducible repeat (first | apply Kd.R_alloc | apply Kd.R_drewN | apply Kd.R_drew)); exact Kd.R_mono (Kd.R_far (p := ⟨gb323, 0, none⟩) (Kd.R_types HO341.out BK323.out (by decide)) (fun _ hk => hk.2) (.slice Ao141 y339.length co141)) (fun _ hk => trivial)))⟩; have n3_ : Aside0 (w143.heap[gb309]? = some (.cells #[.slice A0_0 l0_0.length c0_0, .slice A0_1 l0_1.length c0_1, .slice A0_2 l0_2.length c0_2, .int .i64 a0_3, .int .i64 a0_4] 30 (0, 0))) := ⟨(by rw [hw]; exact (by exact (blk_far BK309.out NB309_323.out _)))⟩; have n4_ : Aside0 (w143.heap[gb310]? = some (.cells #[.int .i64 a1_0, .int .i64 a1_1, .int .i64 a1_2, .int .i64 a1_3, .int .i64 a1_4, .int .i64 a1_5, .int .i64 a1_6] 39 (0, 0))) := ⟨(by rw [hw]; exact (by exact (blk_far BK310.out NB310_323.out _)))⟩; have n5_ : Aside0 (w143.heap[gb311]? = some (.cells #[.slice none 0 0, .slice none 0 0, .slice none 0 0, .int .i64 0, .int .i64 0] 30 (0, 0))) := ⟨(by rw [hw]; exact (by exact (blk_far BK311.out NB311_323.out _)))⟩; have n6_ : Aside0 (w143.heap[gb323]? = some (.cells #[.slice Ao141 y339.length co141, .slice Ao136 t315.length co136, .slice Ao137 t318.length co137, .int .i64 t321, .int .i64 t322] 30 (0, 0))) := ⟨(by rw [hw]; exact (by (with_reducible repeat (first | refine blk_drewN ?_ _ | refine blk_drew ?_ | refine blk_alloc ?_ _)); refine blk_put (cs := #[.slice Ao131 t312.length co131, .slice Ao136 t315.length co136, .slice Ao137 t318.length co137, .int .i64 t321, .int .i64 t322]) ?_ 0 _ rfl; (with_reducible repeat (first | refine blk_drewN ?_ _ | refine blk_drew ?_ | refine blk_alloc ?_ _)); exact BK323.out))⟩; have n7_ : Aside0 (Below w.heap.size w w143) := ⟨(by rw [hw]; exact (by repeat (first | (with_reducible first | exact HB.out | apply below_alloc | apply pw_below_drewN | apply below_drew1 | refine below_set ?_ GE309.out | refine below_set ?_ GE310.out | refine below_set ?_ GE311.out | refine below_set ?_ GE323.out) | exact HB.out)))⟩; clear hw; clear HO317; clear HO320; clear HO341; clear BK309; clear BK310; clear BK311; clear BK323; clear HB; have HO317 := n0_; have HO320 := n1_; have HO341 := n2_; have BK309 := n3_; have BK310 := n4_; have BK311 := n5_; have BK323 := n6_; have HB := n7_; clear n0_ n1_ n2_ n3_ n4_ n5_ n6_ n7_; obtain ⟨hcz144_0, hcz144_1, hcz144_2, hcz144_3, hcz144_4, hcz144_5, hcz144_6⟩ := cz7_ BK310.out; obtain ⟨hfz144_0, hfz144_1, hfz144_2, hfz144_3, hfz144_4, hfz144_5, hfz144_6⟩ := fz7_ BK310.out; obtain ⟨hcz145_0, hcz145_1, hcz145_2, hcz145_3, hcz145_4⟩ := cz5_ BK309.out; obtain ⟨hfz145_0, hfz145_1, hfz145_2, hfz145_3, hfz145_4⟩ := fz5_ BK309.out; obtain ⟨hcz146_0, hcz146_1, hcz146_2, hcz146_3, hcz146_4⟩ := cz5_ BK323.out; obtain ⟨hfz146_0, hfz146_1, hfz146_2, hfz146_3, hfz146_4⟩ := fz5_ BK323.out) | ((with_reducible refine gate_callee (f := 107) rfl ?_); refine ga_ (some 64) Try.func107 #[.agg #[.slice Ao141 y339.length co141, .slice Ao136 t315.length co136, .slice Ao137 t318.length co137, .int .i64 t321, .int .i64 t322], .agg #[.int .i64 a1_2, .int .i64 a1_3, .int .i64 a1_4, .int .i64 a1_5, .int .i64 a1_6], .int .i64 (wrap64 (3 * a1_4))] ?_; (with_reducible refine (spec_l25Go.calls (fun k_ => some k_ = (.slice Ao141 y339.length co141 : Value).ownBlock) (.slice Ao141 y339.length co141) y339 (fun k_ => some k_ = (.slice Ao136 t315.length co136 : Value).ownBlock) (.slice Ao136 t315.length co136) t315 (fun k_ => some k_ = (.slice Ao137 t318.length co137 : Value).ownBlock) (.slice Ao137 t318.length co137) t318 t321 t322 a1_2 a1_3 a1_4 a1_5 a1_6 (wrap64 (3 * a1_4)) t342 t345 t348 t351 t352 t353 w _ ?side1 ?side2 ?side3 ?side4 ?side5 ?side6 A83.out).mono ?_); (case side1 => repeat (first | (with_reducible first | exact HB.out | apply below_alloc | apply pw_below_drewN | apply below_drew1 | refine below_set ?_ GE309.out | refine below_set ?_ GE310.out | refine below_set ?_ GE311.out | refine below_set ?_ GE323.out) | exact HB.out)); (case side2 => exact Kd.R_tight rfl HO341.out); (case side3 => exact Kd.R_tight rfl HO317.out); (case side4 => exact fun k_ e_ => (HO317.out.1 k_ e_.symm)); (case side5 => exact Kd.R_tight rfl HO320.out); (case side6 => exact fun k_ e_ => (HO320.out.1 k_ e_.symm)); rintro e w147 ⟨v343, v346, v349, rfl, ho0, ho1, ho2, hb, hkp⟩; refine ⟨_, rfl, ?_⟩; replace BK309 := Aside0.mk (blk_kept (bk_ BK309.out) hkp (fun hs_ => Or.elim hs_ (fun e_ => (fun e_ => (Kd.R_ne HO341.out BK309.out (by decide)) e_) e_) (fun e_ => Or.elim e_ (fun e_ => (fun e_ => (Kd.R_ne HO317.out BK309.out (by decide)) e_) e_) (fun e_ => (fun e_ => (Kd.R_ne HO320.out BK309.out (by decide)) e_) e_)))); replace BK310 := Aside0.mk (blk_kept (bk_ BK310.out) hkp (fun hs_ => Or.elim hs_ (fun e_ => (fun e_ => (Kd.R_ne HO341.out BK310.out (by decide)) e_) e_) (fun e_ => Or.elim e_ (fun e_ => (fun e_ => (Kd.R_ne HO317.out BK310.out (by decide)) e_) e_) (fun e_ => (fun e_ => (Kd.R_ne HO320.out BK310.out (by decide)) e_) e_)))); replace BK311 := Aside0.mk (blk_kept (bk_ BK311.out) hkp (fun hs_ => Or.elim hs_ (fun e_ => (fun e_ => (Kd.R_ne HO341.out BK311.out (by decide)) e_) e_) (fun e_ => Or.elim e_ (fun e_ => (fun e_ => (Kd.R_ne HO317.out BK311.out (by decide)) e_) e_) (fun e_ => (fun e_ => (Kd.R_ne HO320.out BK311.out (by decide)) e_) e_)))); replace BK323 := Aside0.mk (blk_kept (bk_ BK323.out) hkp (fun hs_ => Or.elim hs_ (fun e_ => (fun e_ => (Kd.R_ne HO341.out BK323.out (by decide)) e_) e_) (fun e_ => Or.elim e_ (fun e_ => (fun e_ => (Kd.R_ne HO317.out BK323.out (by decide)) e_) e_) (fun e_ => (fun e_ => (Kd.R_ne HO320.out BK323.out (by decide)) e_) e_)))); have HO344 := Aside0.mk (Kd.R_mono (ok' := fun k_ => True) ho0 (fun k_ hk_ => trivial)); have HO347 := Aside0.mk (Kd.R_mono (ok' := fun k_ => some k_ ≠ (v349 : Value).ownBlock) ho1 (fun k_ hk_ => hk_.2)); have HO350 := Aside0.mk (Kd.R_mono (ok' := fun k_ => some k_ ≠ (v346 : Value).ownBlock) ho2 (fun k_ hk_ => hk_.2)); replace HB := Aside0.mk (hb); clear HO317 HO320 HO341; (try clear hb); (try clear hkp); (try clear ho0); (try clear ho1); (try clear ho2); obtain ⟨Ao148, co148, eo148⟩ := Kd.R_slice HO344.out; subst eo148; obtain ⟨hcz149_0, hcz149_1, hcz149_2, hcz149_3, hcz149_4⟩ := cz5_ BK323.out; obtain ⟨hfz149_0, hfz149_1, hfz149_2, hfz149_3, hfz149_4⟩ := fz5_ BK323.out; obtain ⟨Ao150, co150, eo150⟩ := Kd.R_slice HO347.out; subst eo150; obtain ⟨Ao151, co151, eo151⟩ := Kd.R_slice HO350.out; subst eo151))
     have n0_ : Aside0 (Kd.R k37 37 (((((w147.setCell ⟨gb323, 0, none⟩ (.slice Ao148 t342.length co148)).setCell ⟨gb323, 1, none⟩ (.slice Ao150 t345.length co150)).setCell ⟨gb323, 2, none⟩ (.slice Ao151 t348.length co151)).setCell ⟨gb323, 3, none⟩ (.int .i64 t351)).setCell ⟨gb323, 4, none⟩ (.int .i64 t352)) w.heap.size (fun _ => True) (.slice Ao148 t342.length co148) t342) := ⟨Kd.R_mono (r5_ HO344.out BK323.out (by decide) _ _ _ _ _) (fun _ hk => trivial)⟩
     have n1_ : Aside0 (Kd.R Kd.bool 4 (((((w147.setCell ⟨gb323, 0, none⟩ (.slice Ao148 t342.length co148)).setCell ⟨gb323, 1, none⟩ (.slice Ao150 t345.length co150)).setCell ⟨gb323, 2, none⟩ (.slice Ao151 t348.length co151)).setCell ⟨gb323, 3, none⟩ (.int .i64 t351)).setCell ⟨gb323, 4, none⟩ (.int .i64 t352)) w.heap.size (fun k_ => some k_ ≠ (.slice Ao151 t348.length co151 : Value).ownBlock) (.slice Ao150 t345.length co150) t345) := ⟨Kd.R_mono (r5_ HO347.out BK323.out (by decide) _ _ _ _ _) (fun _ hk => hk)⟩
     have n2_ : Aside0 (Kd.R Kd.bool 4 (((((w147.setCell ⟨gb323, 0, none⟩ (.slice Ao148 t342.length co148)).setCell ⟨gb323, 1, none⟩ (.slice Ao150 t345.length co150)).setCell ⟨gb323, 2, none⟩ (.slice Ao151 t348.length co151)).setCell ⟨gb323, 3, none⟩ (.int .i64 t351)).setCell ⟨gb323, 4, none⟩ (.int .i64 t352)) w.heap.size (fun k_ => some k_ ≠ (.slice Ao150 t345.length co150 : Value).ownBlock) (.slice Ao151 t348.length co151) t348) := ⟨Kd.R_mono (r5_ HO350.out BK323.out (by decide) _ _ _ _ _) (fun _ hk => hk)⟩
     have n3_ : Aside0 ((((((w147.setCell ⟨gb323, 0, none⟩ (.slice Ao148 t342.length co148)).setCell ⟨gb323, 1, none⟩ (.slice Ao150 t345.length co150)).setCell ⟨gb323, 2, none⟩ (.slice Ao151 t348.length co151)).setCell ⟨gb323, 3, none⟩ (.int .i64 t351)).setCell ⟨gb323, 4, none⟩ (.int .i64 t352)).heap[gb309]? = some (.cells #[.slice A0_0 l0_0.length c0_0, .slice A0_1 l0_1.length c0_1, .slice A0_2 l0_2.length c0_2, .int .i64 a0_3, .int .i64 a0_4] 30 (0, 0))) := ⟨by exact (f5_ BK309.out NB309_323.out _ _ _ _ _)⟩
     have n4_ : Aside0 ((((((w147.setCell ⟨gb323, 0, none⟩ (.slice Ao148 t342.length co148)).setCell ⟨gb323, 1, none⟩ (.slice Ao150 t345.length co150)).setCell ⟨gb323, 2, none⟩ (.slice Ao151 t348.length co151)).setCell ⟨gb323, 3, none⟩ (.int .i64 t351)).setCell ⟨gb323, 4, none⟩ (.int .i64 t352)).heap[gb310]? = some (.cells #[.int .i64 a1_0, .int .i64 a1_1, .int .i64 a1_2, .int .i64 a1_3, .int .i64 a1_4, .int .i64 a1_5, .int .i64 a1_6] 39 (0, 0))) := ⟨by exact (f5_ BK310.out NB310_323.out _ _ _ _ _)⟩
     have n5_ : Aside0 ((((((w147.setCell ⟨gb323, 0, none⟩ (.slice Ao148 t342.length co148)).setCell ⟨gb323, 1, none⟩ (.slice Ao150 t345.length co150)).setCell ⟨gb323, 2, none⟩ (.slice Ao151 t348.length co151)).setCell ⟨gb323, 3, none⟩ (.int .i64 t351)).setCell ⟨gb323, 4, none⟩ (.int .i64 t352)).heap[gb311]? = some (.cells #[.slice none 0 0, .slice none 0 0, .slice none 0 0, .int .i64 0, .int .i64 0] 30 (0, 0))) := ⟨by exact (f5_ BK311.out NB311_323.out _ _ _ _ _)⟩
     have n6_ : Aside0 ((((((w147.setCell ⟨gb323, 0, none⟩ (.slice Ao148 t342.length co148)).setCell ⟨gb323, 1, none⟩ (.slice Ao150 t345.length co150)).setCell ⟨gb323, 2, none⟩ (.slice Ao151 t348.length co151)).setCell ⟨gb323, 3, none⟩ (.int .i64 t351)).setCell ⟨gb323, 4, none⟩ (.int .i64 t352)).heap[gb323]? = some (.cells #[.slice Ao148 t342.length co148, .slice Ao150 t345.length co150, .slice Ao151 t348.length co151, .int .i64 t351, .int .i64 t352] 30 (0, 0))) := ⟨by exact (p5_ BK323.out _ _ _ _ _)⟩
     have n7_ : Aside0 (Below w.heap.size w (((((w147.setCell ⟨gb323, 0, none⟩ (.slice Ao148 t342.length co148)).setCell ⟨gb323, 1, none⟩ (.slice Ao150 t345.length co150)).setCell ⟨gb323, 2, none⟩ (.slice Ao151 t348.length co151)).setCell ⟨gb323, 3, none⟩ (.int .i64 t351)).setCell ⟨gb323, 4, none⟩ (.int .i64 t352))) := ⟨by repeat (first | (with_reducible first | exact HB.out | apply below_alloc | apply pw_below_drewN | apply below_drew1 | refine below_set ?_ GE309.out | refine below_set ?_ GE310.out | refine below_set ?_ GE311.out | refine below_set ?_ GE323.out) | exact HB.out)⟩
     (try clear HO344)
     (try clear HO347)
     (try clear HO350)
     (try clear BK309)
     (try clear BK310)
     (try clear BK311)
     (try clear BK323)
     (try clear HB)
     generalize (((((w147.setCell ⟨gb323, 0, none⟩ (.slice Ao148 t342.length co148)).setCell ⟨gb323, 1, none⟩ (.slice Ao150 t345.length co150)).setCell ⟨gb323, 2, none⟩ (.slice Ao151 t348.length co151)).setCell ⟨gb323, 3, none⟩ (.int .i64 t351)).setCell ⟨gb323, 4, none⟩ (.int .i64 t352)) = w152 at n0_ n1_ n2_ n3_ n4_ n5_ n6_ n7_ ⊢
     have HO344 := n0_
     have HO347 := n1_
     have HO350 := n2_
     have BK309 := n3_
     have BK310 := n4_
     have BK311 := n5_
     have BK323 := n6_
     have HB := n7_
     clear n0_ n1_ n2_ n3_ n4_ n5_ n6_ n7_
     replace HO344 := Aside0.mk (Kd.R_drew HO344.out)
     replace HO347 := Aside0.mk (Kd.R_drew HO347.out)
     replace HO350 := Aside0.mk (Kd.R_drew HO350.out)
     replace BK309 := Aside0.mk (blk_drew BK309.out)
     replace BK310 := Aside0.mk (blk_drew BK310.out)
     replace BK311 := Aside0.mk (blk_drew BK311.out)
     replace BK323 := Aside0.mk (blk_drew BK323.out)
     replace HB := Aside0.mk (below_drew1 HB.out)
     refine start_ (n := 8) (S := fun w' => w'.cell? ⟨gb323, 0, none⟩ = some (.slice Ao148 t342.length co148) ∧ w'.cell? ⟨gb323, 1, none⟩ = some (.slice Ao150 t345.length co150) ∧ w'.cell? ⟨gb323, 2, none⟩ = some (.slice Ao151 t348.length co151) ∧ w'.cell? ⟨gb323, 3, none⟩ = some (.int .i64 t351) ∧ w'.cell? ⟨gb323, 4, none⟩ = some (.int .i64 t352)) (ds := []) #[fF,fF,fF,fF,fF,fF,fF,fF] (by kernel_rfl) rfl rfl ⟨(blk_cell BK323.out 0).trans rfl, (blk_cell BK323.out 1).trans rfl, (blk_cell BK323.out 2).trans rfl, (blk_cell BK323.out 3).trans rfl, (blk_cell BK323.out 4).trans rfl⟩ (fun hHeld => ?_); refine with_tabW spec_l25Make.tab15 spec_l25Make.bits15 (fun HT_ HW_ => ?_)
     generalize w152.drew = w153 at HO344 HO347 HO350 BK309 BK310 BK311 BK323 HB hHeld ⊢
     refine pz_ HT_ 1 (some 82) #[fF,tT,fF,fF,fF,fF,fF,fF] ?_
     refine pz_ HT_ 2 (some 83) #[fF,tT,tT,fF,fF,fF,fF,fF] ?_
     refine pu_ HT_ 3 (some 84) #[fF,tT,tT,tT,fF,fF,fF,fF] ?_
     refine pu_ HT_ 4 (some 85) #[fF,tT,tT,tT,tT,fF,fF,fF] ?_
     refine pz_ HT_ 5 (some 86) #[fF,tT,tT,tT,tT,tT,fF,fF] ?_
     refine tk_ HT_ HW_ hHeld 0 (some 81) #[tT,tT,tT,tT,tT,tT,fF,fF] ?_
     refine one_ (i := 6) (N := none) #[tT,tT,tT,tT,tT,tT,tT,fF] rfl rfl (one_of HT_.out (by kernel_rfl)) (by decide) (fun K hK => ?_)
     have hs154 : w153.cell? ⟨gb311, 0, none⟩ = some (.slice none 0 0) := (blk_cell BK311.out 0).trans rfl
     have hfs154 := blk_frozen BK311.out 0
     have hns154_0 := NB309_311.out
     have hns154_1 := NB310_311.out
     have hns154_3 := NB323_311.out
     have hms154_0 := NB311_309.out
     have hms154_1 := NB311_310.out
     have hms154_3 := NB311_323.out
     have hs155 : w153.cell? ⟨gb311, 1, none⟩ = some (.slice none 0 0) := (blk_cell BK311.out 1).trans rfl
     have hfs155 := blk_frozen BK311.out 1
     have hns155_0 := NB309_311.out
     have hns155_1 := NB310_311.out
     have hns155_3 := NB323_311.out
     have hms155_0 := NB311_309.out
     have hms155_1 := NB311_310.out
     have hms155_3 := NB311_323.out
     have hs156 : w153.cell? ⟨gb311, 2, none⟩ = some (.slice none 0 0) := (blk_cell BK311.out 2).trans rfl
     have hfs156 := blk_frozen BK311.out 2
     have hns156_0 := NB309_311.out
     have hns156_1 := NB310_311.out
     have hns156_3 := NB323_311.out
     have hms156_0 := NB311_309.out
     have hms156_1 := NB311_310.out
     have hms156_3 := NB311_323.out
     have hs157 : w153.cell? ⟨gb311, 3, none⟩ = some (.int .i64 0) := (blk_cell BK311.out 3).trans rfl
     have hfs157 := blk_frozen BK311.out 3
     have hns157_0 := NB309_311.out
     have hns157_1 := NB310_311.out
     have hns157_3 := NB323_311.out
     have hms157_0 := NB311_309.out
     have hms157_1 := NB311_310.out
     have hms157_3 := NB311_323.out
     have hs158 : w153.cell? ⟨gb311, 4, none⟩ = some (.int .i64 0) := (blk_cell BK311.out 4).trans rfl
     have hfs158 := blk_frozen BK311.out 4
     have hns158_0 := NB309_311.out
     have hns158_1 := NB310_311.out
     have hns158_3 := NB323_311.out
     have hms158_0 := NB311_309.out
     have hms158_1 := NB311_310.out
     have hms158_3 := NB311_323.out
     refine skip_ (w1 := ?_) (by rfl) rfl ?_ ?_
     rotate_left
     ·
      go_simp
      rfl
     refine hK.out _ _ ⟨((cell_far (p := ⟨gb311, _, none⟩) NB323_311.out _).trans (((cell_far (p := ⟨gb311, _, none⟩) NB323_311.out _).trans (((cell_far (p := ⟨gb311, _, none⟩) NB323_311.out _).trans (((cell_far (p := ⟨gb311, _, none⟩) NB323_311.out _).trans (((cell_far (p := ⟨gb311, _, none⟩) NB323_311.out _).trans (hHeld.1)))))))))), ((cell_far (p := ⟨gb311, _, none⟩) NB323_311.out _).trans (((cell_far (p := ⟨gb311, _, none⟩) NB323_311.out _).trans (((cell_far (p := ⟨gb311, _, none⟩) NB323_311.out _).trans (((cell_far (p := ⟨gb311, _, none⟩) NB323_311.out _).trans (((cell_far (p := ⟨gb311, _, none⟩) NB323_311.out _).trans (hHeld.2.1)))))))))), ((cell_far (p := ⟨gb311, _, none⟩) NB323_311.out _).trans (((cell_far (p := ⟨gb311, _, none⟩) NB323_311.out _).trans (((cell_far (p := ⟨gb311, _, none⟩) NB323_311.out _).trans (((cell_far (p := ⟨gb311, _, none⟩) NB323_311.out _).trans (((cell_far (p := ⟨gb311, _, none⟩) NB323_311.out _).trans (hHeld.2.2.1)))))))))), ((cell_far (p := ⟨gb311, _, none⟩) NB323_311.out _).trans (((cell_far (p := ⟨gb311, _, none⟩) NB323_311.out _).trans (((cell_far (p := ⟨gb311, _, none⟩) NB323_311.out _).trans (((cell_far (p := ⟨gb311, _, none⟩) NB323_311.out _).trans (((cell_far (p := ⟨gb311, _, none⟩) NB323_311.out _).trans (hHeld.2.2.2.1)))))))))), ((cell_far (p := ⟨gb311, _, none⟩) NB323_311.out _).trans (((cell_far (p := ⟨gb311, _, none⟩) NB323_311.out _).trans (((cell_far (p := ⟨gb311, _, none⟩) NB323_311.out _).trans (((cell_far (p := ⟨gb311, _, none⟩) NB323_311.out _).trans (((cell_far (p := ⟨gb311, _, none⟩) NB323_311.out _).trans (hHeld.2.2.2.2))))))))))⟩ (fun hHeld => ?_)
     clear hK K
     refine pz_ HT_ 7 (some 5) #[tT,tT,tT,tT,tT,tT,tT,tT] ?_
     refine done_ (done_of HT_.out (by kernel_rfl)) ?_
     try go_wp2
     refine bodyPost_ret (results_ct rfl _ _ gb311 30 #[.slice Ao148 t342.length co148, .slice Ao150 t345.length co150, .slice Ao151 t348.length co151, .int .i64 t351, .int .i64 t352] (0, 0) _ rfl (by (with_reducible repeat (first | refine blk_drewN ?_ _ | refine blk_drew ?_ | refine blk_alloc ?_ _)); refine blk_put (cs := #[.slice Ao148 t342.length co148, .slice Ao150 t345.length co150, .slice Ao151 t348.length co151, .int .i64 t351, .int .i64 0]) ?_ 4 _ rfl; (with_reducible repeat (first | refine blk_drewN ?_ _ | refine blk_drew ?_ | refine blk_alloc ?_ _)); refine blk_put (cs := #[.slice Ao148 t342.length co148, .slice Ao150 t345.length co150, .slice Ao151 t348.length co151, .int .i64 0, .int .i64 0]) ?_ 3 _ rfl; (with_reducible repeat (first | refine blk_drewN ?_ _ | refine blk_drew ?_ | refine blk_alloc ?_ _)); refine blk_put (cs := #[.slice Ao148 t342.length co148, .slice Ao150 t345.length co150, .slice none 0 0, .int .i64 0, .int .i64 0]) ?_ 2 _ rfl; (with_reducible repeat (first | refine blk_drewN ?_ _ | refine blk_drew ?_ | refine blk_alloc ?_ _)); refine blk_put (cs := #[.slice Ao148 t342.length co148, .slice none 0 0, .slice none 0 0, .int .i64 0, .int .i64 0]) ?_ 1 _ rfl; (with_reducible repeat (first | refine blk_drewN ?_ _ | refine blk_drew ?_ | refine blk_alloc ?_ _)); refine blk_put (cs := #[.slice none 0 0, .slice none 0 0, .slice none 0 0, .int .i64 0, .int .i64 0]) ?_ 0 _ rfl; (with_reducible repeat (first | refine blk_drewN ?_ _ | refine blk_drew ?_ | refine blk_alloc ?_ _)); exact BK311.out) Try.underlying30 rfl (by kernel_rfl)) rfl ?_
     exact ⟨_, _, _, rr_, by (with_reducible repeat (first | apply Kd.R_alloc | apply Kd.R_drewN | apply Kd.R_drew)); exact Kd.R_mono (r5_ HO344.out BK311.out (by decide) _ _ _ _ _) (fun _ hk => trivial), by (with_reducible repeat (first | apply Kd.R_alloc | apply Kd.R_drewN | apply Kd.R_drew)); exact Kd.R_mono (r5_ HO347.out BK311.out (by decide) _ _ _ _ _) (fun _ hk => hk), by (with_reducible repeat (first | apply Kd.R_alloc | apply Kd.R_drewN | apply Kd.R_drew)); exact Kd.R_mono (r5_ HO350.out BK311.out (by decide) _ _ _ _ _) (fun _ hk => hk), by repeat (first | (with_reducible first | exact HB.out | apply below_alloc | apply pw_below_drewN | apply below_drew1 | refine below_set ?_ GE309.out | refine below_set ?_ GE310.out | refine below_set ?_ GE311.out | refine below_set ?_ GE323.out) | exact HB.out)⟩
   ·
    rw [if_neg c82] at H
    exact absurd H (by simp)
  ·
   rw [if_neg c81] at H
   have c81b0 : (a1_0 == 2) = false := beq_eq_false_iff_ne.mpr c81
   have c81b1 : (a1_0 != 2) = true := bne_iff_ne.mpr c81
   by_cases c159 : a1_0 = 3
   ·
    rw [if_pos c159] at H
    have c159b0 : (a1_0 == 3) = true := beq_iff_eq.mpr c159
    have c159b1 : (a1_0 != 3) = false := bne_eq_false_iff_eq.mpr c159
    clear c159
    by_cases c160 : 0 ≤ a0_3
    ·
     rw [if_pos c160] at H
     have c160b0 : decide (0 ≤ a0_3) = true := decide_eq_true c160
     clear c160
     by_cases c161 : a0_3 < (l0_2.length : Int)
     ·
      rw [if_pos c161] at H
      have c161b0 : decide (a0_3 < (l0_2.length : Int)) = true := decide_eq_true c161
      clear c161
      by_cases c162 : a0_3 < (t318.length : Int)
      ·
       rw [if_pos c162] at H
       have c162b0 : decide (a0_3 < (t318.length : Int)) = true := decide_eq_true c162
       clear c162
       obtain ⟨y356, hy356⟩ : ∃ y_ : List Bool, y_ = (t318.set (a0_3 : Int).toNat true) := ⟨_, rfl⟩
       replace H : (if rdOf false l0_2 a0_3 = true then (some (t312, t315, y356, t321, t322, false)) else ((spec_l25Good.f k t312 t315 y356 t321 t322).bind fun t357 => (some (t312, t315, y356, t321, t322, t357)))) = some (r1, r2, r3, r4, r5, r6) := by first | (rw [hy356]; with_reducible exact H) | (have H2_ := (Option.bind_some _ _).symm.trans H; rw [hy356]; with_reducible exact H2_) | (have H2_ := (Option.bind_some _ _).symm.trans H; with_reducible exact H2_) | with_reducible exact H | (rw [hy356]; exact H) | exact H
       have Ny356 := Aside0.mk hy356
       clear hy356
       obtain ⟨bq164, hbq164⟩ : ∃ b_ : Bool, b_ = (rdOf false l0_2 a0_3) := ⟨_, rfl⟩
       replace H : (if bq164 = true then (some (t312, t315, y356, t321, t322, false)) else ((spec_l25Good.f k t312 t315 y356 t321 t322).bind fun t357 => (some (t312, t315, y356, t321, t322, t357)))) = some (r1, r2, r3, r4, r5, r6) := by rw [← hbq164] at H; exact H
       have Nbq164 := Aside0.mk hbq164
       clear hbq164
       by_cases c165 : bq164 = true
       ·
        subst c165
        have H1 : (some (t312, t315, y356, t321, t322, false)) = some (r1, r2, r3, r4, r5, r6) := by rw [if_pos rfl] at H; exact H
        clear H; have H := H1; clear H1; simp only [Option.some.injEq, Prod.mk.injEq] at H; obtain ⟨rfl, rfl, rfl, rfl, rfl, rfl⟩ := H
        go_enter Try.func78, Try.ntmps78
        try go_wp2_with (first | ((with_reducible refine gate_dst (N := 2) rfl ?_); refine box_event ?hg (N := 2) ?hd (cs := #[.slice A0_0 l0_0.length c0_0, .slice A0_1 l0_1.length c0_1, .slice A0_2 l0_2.length c0_2, .int .i64 a0_3, .int .i64 a0_4]) (t := 30) ?hr ?_; (case hd => rfl); (case hg => rfl); (case hr => first | (go_simp; done) | (go_simp; rfl)); intro gb309 hg w166 hbox hb; have BK309 := Aside0.mk (hbox); have GW309 := Aside0.mk ((bz_ hg (lb0_ HB.out))); have GE309 := Aside0.mk ((bz_ hg (lb0_ HB.out))); replace HB := Aside0.mk (below_step (lb0_ HB.out) hb); clear hb hbox hg) | ((with_reducible refine gate_dst (N := 3) rfl ?_); refine box_event ?hg (N := 3) ?hd (cs := #[.int .i64 a1_0, .int .i64 a1_1, .int .i64 a1_2, .int .i64 a1_3, .int .i64 a1_4, .int .i64 a1_5, .int .i64 a1_6]) (t := 39) ?hr ?_; (case hd => rfl); (case hg => rfl); (case hr => first | (go_simp; done) | (go_simp; rfl)); intro gb310 hg w167 hbox hb; have BK310 := Aside0.mk (hbox); have GW310 := Aside0.mk ((bz_ hg (lb1_ HB.out GE309.out))); have GE310 := Aside0.mk ((bz_ hg (lb1_ HB.out GE309.out))); replace HB := Aside0.mk (below_step (lb1_ HB.out GE309.out) hb); have NB309_310 := Aside0.mk (nl_ hg BK309.out); have NB310_309 := Aside0.mk (ng_ hg BK309.out); replace BK309 := Aside0.mk (bb_ (bk_ BK309.out) hb); clear hb hbox hg) | ((with_reducible refine gate_dst (N := 4) rfl ?_); refine box_event ?hg (N := 4) ?hd (cs := #[.slice none 0 0, .slice none 0 0, .slice none 0 0, .int .i64 0, .int .i64 0]) (t := 30) ?hr ?_; (case hd => rfl); (case hg => rfl); (case hr => first | (go_simp; done) | (go_simp; rfl)); intro gb311 hg w168 hbox hb; have BK311 := Aside0.mk (hbox); have GW311 := Aside0.mk ((bz_ hg (lb2_ HB.out GE309.out GE310.out))); have GE311 := Aside0.mk ((bz_ hg (lb2_ HB.out GE309.out GE310.out))); replace HB := Aside0.mk (below_step (lb2_ HB.out GE309.out GE310.out) hb); have NB309_311 := Aside0.mk (nl_ hg BK309.out); have NB311_309 := Aside0.mk (ng_ hg BK309.out); replace BK309 := Aside0.mk (bb_ (bk_ BK309.out) hb); have NB310_311 := Aside0.mk (nl_ hg BK310.out); have NB311_310 := Aside0.mk (ng_ hg BK310.out); replace BK310 := Aside0.mk (bb_ (bk_ BK310.out) hb); clear hb hbox hg; have hnb169 := NB309_310.out; have hnc169 := NB310_309.out; have hnb170 := NB309_311.out; have hnc170 := NB311_309.out; obtain ⟨hcz171_0, hcz171_1, hcz171_2, hcz171_3, hcz171_4⟩ := cz5_ BK309.out; obtain ⟨hfz171_0, hfz171_1, hfz171_2, hfz171_3, hfz171_4⟩ := fz5_ BK309.out) | ((with_reducible refine gate_callee (f := 84) rfl ?_); refine ga_ (some 9) Try.func84 #[.agg #[.slice A0_0 l0_0.length c0_0, .slice A0_1 l0_1.length c0_1, .slice A0_2 l0_2.length c0_2, .int .i64 a0_3, .int .i64 a0_4]] ?_; (with_reducible refine (spec_l25Own.calls _ _ l0_0 _ _ l0_1 _ _ l0_2 a0_3 a0_4 t312 t315 t318 t321 t322 _ ?side1 ?side2 ?side3 ?side4 ?side5 ?side6 A3.out).mono ?_); (case side1 => exact kc_ (Kd.C_below HR0_0.out HB.out)); (case side2 => exact HC0_0.out); (case side3 => exact kc_ (Kd.C_below HR0_1.out HB.out)); (case side4 => exact HC0_1.out); (case side5 => exact kc_ (Kd.C_below HR0_2.out HB.out)); (case side6 => exact HC0_2.out); rintro e w172 ⟨v313, v316, v319, rfl, ho0, ho1, ho2, hb⟩; refine ⟨_, rfl, ?_⟩; have HO314 := Aside0.mk (Kd.R_lower ho0 (below_size (lb3_ HB.out GE309.out GE310.out GE311.out))); have HO317 := Aside0.mk (Kd.R_lower ho1 (below_size (lb3_ HB.out GE309.out GE310.out GE311.out))); have HO320 := Aside0.mk (Kd.R_lower ho2 (below_size (lb3_ HB.out GE309.out GE310.out GE311.out))); replace BK309 := Aside0.mk (bb_ (bk_ BK309.out) hb); replace BK310 := Aside0.mk (bb_ (bk_ BK310.out) hb); replace BK311 := Aside0.mk (bb_ (bk_ BK311.out) hb); replace HB := Aside0.mk (below_step (lb3_ HB.out GE309.out GE310.out GE311.out) hb); (try clear hb); (try clear hb2); (try clear hk); (try clear hi); (try clear ho0); (try clear ho1); (try clear ho2)) | ((with_reducible refine gate_dst (N := 6) rfl ?_); refine box_event ?hg (N := 6) ?hd (cs := #[.slice none 0 0, .slice none 0 0, .slice none 0 0, .int .i64 0, .int .i64 0]) (t := 30) ?hr ?_; (case hd => rfl); (case hg => rfl); (case hr => first | (go_simp; done) | (go_simp; rfl)); intro gb323 hg w173 hbox hb; replace HO314 := Aside0.mk (Kd.R_below (kr_ HO314.out) hb); replace HO317 := Aside0.mk (Kd.R_below (kr_ HO317.out) hb); replace HO320 := Aside0.mk (Kd.R_below (kr_ HO320.out) hb); have BK323 := Aside0.mk (hbox); have GW323 := Aside0.mk (bz_ hg (lb3_ HB.out GE309.out GE310.out GE311.out)); have GE323 := Aside0.mk (bz_ hg (lb3_ HB.out GE309.out GE310.out GE311.out)); replace HB := Aside0.mk (below_step (lb3_ HB.out GE309.out GE310.out GE311.out) hb); have NB309_323 := Aside0.mk (nl_ hg BK309.out); have NB323_309 := Aside0.mk (ng_ hg BK309.out); replace BK309 := Aside0.mk (bb_ (bk_ BK309.out) hb); have NB310_323 := Aside0.mk (nl_ hg BK310.out); have NB323_310 := Aside0.mk (ng_ hg BK310.out); replace BK310 := Aside0.mk (bb_ (bk_ BK310.out) hb); have NB311_323 := Aside0.mk (nl_ hg BK311.out); have NB323_311 := Aside0.mk (ng_ hg BK311.out); replace BK311 := Aside0.mk (bb_ (bk_ BK311.out) hb); clear hb hbox hg; obtain ⟨Ao174, co174, eo174⟩ := Kd.R_slice HO314.out; subst eo174; have hnb175 := NB323_309.out; have hnc175 := NB309_323.out; have hnb176 := NB323_310.out; have hnc176 := NB310_323.out; have hnb177 := NB323_311.out; have hnc177 := NB311_323.out; obtain ⟨hcz178_0, hcz178_1, hcz178_2, hcz178_3, hcz178_4⟩ := cz5_ BK323.out; obtain ⟨hfz178_0, hfz178_1, hfz178_2, hfz178_3, hfz178_4⟩ := fz5_ BK323.out; obtain ⟨Ao179, co179, eo179⟩ := Kd.R_slice HO317.out; subst eo179; obtain ⟨Ao180, co180, eo180⟩ := Kd.R_slice HO320.out; subst eo180) | ((with_reducible refine gate_store (t := 30) (p := 6) rfl ?_); refine store_event (t := 30) (p := 6) (v := ?vo_w181) (w1 := (((((w173.setCell ⟨gb323, 0, none⟩ (.slice Ao174 t312.length co174)).setCell ⟨gb323, 1, none⟩ (.slice Ao179 t315.length co179)).setCell ⟨gb323, 2, none⟩ (.slice Ao180 t318.length co180)).setCell ⟨gb323, 3, none⟩ (.int .i64 t321)).setCell ⟨gb323, 4, none⟩ (.int .i64 t322))) ?hg ?ho ?hn ?hr ?_; (case ho => rfl); (case hg => rfl); (case hn => rfl); (case hr => first | (go_simp; done) | (go_simp; rfl)); intro w181 hw; have n0_ : Aside0 (Kd.R k37 37 w181 w.heap.size (fun _ => True) (.slice Ao174 t312.length co174) t312) := ⟨(by rw [hw]; exact (Kd.R_mono (r5_ HO314.out BK323.out (by decide) _ _ _ _ _) (fun _ hk => trivial)))⟩; have n1_ : Aside0 (Kd.R Kd.bool 4 w181 w.heap.size (fun k_ => some k_ ≠ (.slice Ao180 t318.length co180 : Value).ownBlock) (.slice Ao179 t315.length co179) t315) := ⟨(by rw [hw]; exact (Kd.R_mono (r5_ HO317.out BK323.out (by decide) _ _ _ _ _) (fun _ hk => hk)))⟩; have n2_ : Aside0 (Kd.R Kd.bool 4 w181 w.heap.size (fun k_ => some k_ ≠ (.slice Ao179 t315.length co179 : Value).ownBlock) (.slice Ao180 t318.length co180) t318) := ⟨(by rw [hw]; exact (Kd.R_mono (r5_ HO320.out BK323.out (by decide) _ _ _ _ _) (fun _ hk => hk)))⟩; have n3_ : Aside0 (w181.heap[gb309]? = some (.cells #[.slice A0_0 l0_0.length c0_0, .slice A0_1 l0_1.length c0_1, .slice A0_2 l0_2.length c0_2, .int .i64 a0_3, .int .i64 a0_4] 30 (0, 0))) := ⟨(by rw [hw]; exact (by exact (f5_ BK309.out NB309_323.out _ _ _ _ _)))⟩; have n4_ : Aside0 (w181.heap[gb310]? = some (.cells #[.int .i64 a1_0, .int .i64 a1_1, .int .i64 a1_2, .int .i64 a1_3, .int .i64 a1_4, .int .i64 a1_5, .int .i64 a1_6] 39 (0, 0))) := ⟨(by rw [hw]; exact (by exact (f5_ BK310.out NB310_323.out _ _ _ _ _)))⟩; have n5_ : Aside0 (w181.heap[gb311]? = some (.cells #[.slice none 0 0, .slice none 0 0, .slice none 0 0, .int .i64 0, .int .i64 0] 30 (0, 0))) := ⟨(by rw [hw]; exact (by exact (f5_ BK311.out NB311_323.out _ _ _ _ _)))⟩; have n6_ : Aside0 (w181.heap[gb323]? = some (.cells #[.slice Ao174 t312.length co174, .slice Ao179 t315.length co179, .slice Ao180 t318.length co180, .int .i64 t321, .int .i64 t322] 30 (0, 0))) := ⟨(by rw [hw]; exact (by exact (p5_ BK323.out _ _ _ _ _)))⟩; have n7_ : Aside0 (Below w.heap.size w w181) := ⟨(by rw [hw]; exact (by repeat (first | (with_reducible first | exact HB.out | apply below_alloc | apply pw_below_drewN | apply below_drew1 | refine below_set ?_ GE309.out | refine below_set ?_ GE310.out | refine below_set ?_ GE311.out | refine below_set ?_ GE323.out) | exact HB.out)))⟩; clear hw; clear HO314; clear HO317; clear HO320; clear BK309; clear BK310; clear BK311; clear BK323; clear HB; have HO314 := n0_; have HO317 := n1_; have HO320 := n2_; have BK309 := n3_; have BK310 := n4_; have BK311 := n5_; have BK323 := n6_; have HB := n7_; clear n0_ n1_ n2_ n3_ n4_ n5_ n6_ n7_; have hnb182 := NB310_311.out; have hnc182 := NB311_310.out; obtain ⟨hcz183_0, hcz183_1, hcz183_2, hcz183_3, hcz183_4, hcz183_5, hcz183_6⟩ := cz7_ BK310.out; obtain ⟨hfz183_0, hfz183_1, hfz183_2, hfz183_3, hfz183_4, hfz183_5, hfz183_6⟩ := fz7_ BK310.out; obtain ⟨hcz184_0, hcz184_1, hcz184_2, hcz184_3, hcz184_4⟩ := cz5_ BK309.out; obtain ⟨hfz184_0, hfz184_1, hfz184_2, hfz184_3, hfz184_4⟩ := fz5_ BK309.out; have p355 : 0 ≤ (a0_3 : Int) := dt_; have q355 : a0_3 < (l0_2.length : Int) := dt_; obtain ⟨ad355, e355, hx355_0⟩ := Kd.at_bool HR0_2.out a0_3 p355 q355; (try rw [← Nbq164.out] at hx355_0); cases e355; replace hx355_0 := bc_ HB.out hx355_0; replace p355 := eq_true p355; replace q355 := eq_true q355; obtain ⟨hcz185_0, hcz185_1, hcz185_2, hcz185_3, hcz185_4⟩ := cz5_ BK323.out; obtain ⟨hfz185_0, hfz185_1, hfz185_2, hfz185_3, hfz185_4⟩ := fz5_ BK323.out; have p163 : 0 ≤ (a0_3 : Int) := dt_; have q163 : (a0_3 : Int) < ((t318.length : Int) : Int) := dt_; obtain ⟨go163, co163, eo163, gb163, gl163, cl163, HG163⟩ := Kd.R_form HO320.out (by omega); (first | cases eo163 | (injection eo163 with ea_ en_ ec_; (first | subst ea_ | (injection ea_ with ea_; subst ea_)); subst ec_; clear en_)); have GB163 := Aside0.mk gb163; have GG163 := Aside0.mk HG163; clear gb163 gl163 HG163; obtain ⟨hx163_0, hf163_0⟩ := Kd.R_celln false HO320.out (a0_3 : Int) p163 q163; replace p163 := eq_true p163; replace q163 := eq_true q163; obtain ⟨hy186_, hz186_⟩ := Kd.R_celln false HO320.out (a0_3 : Int) (dt_) (dt_); have HP186 := Kd.R_putg HO320.out (a0_3 : Int) true) | ((with_reducible refine gate_store (t := 4) (p := 80) rfl ?_); refine store_event (t := 4) (p := 80) (v := ?vo_w187) (w1 := (w181.setCell ⟨go163, (a0_3 : Int).toNat, none⟩ (.bool true))) ?hg ?ho ?hn ?hr ?_; (case ho => rfl); (case hg => rfl); (case hn => rfl); (case hr => first | (go_simp; done) | (go_simp; rfl)); intro w187 hw; have hg : w181.grownBy w187 (some go163) := (by rw [hw]; exact HP186.2); have hp_ : Kd.R Kd.bool 4 w187 w.heap.size (fun k_ => some k_ ≠ (.slice Ao179 t315.length co179 : Value).ownBlock) (.slice (some ⟨go163, 0, none⟩) t318.length co180) y356 := (by rw [hw, Ny356.out]; exact HP186.1); clear HP186; replace BK309 := Aside0.mk (blk_grown (g := gb309) (o := .cells #[.slice A0_0 l0_0.length c0_0, .slice A0_1 l0_1.length c0_1, .slice (some ad355) l0_2.length c0_2, .int .i64 a0_3, .int .i64 a0_4] 30 (0, 0)) (bk_ BK309.out) hg (Kd.R_ne HO320.out BK309.out (by decide))); replace BK310 := Aside0.mk (blk_grown (g := gb310) (o := .cells #[.int .i64 a1_0, .int .i64 a1_1, .int .i64 a1_2, .int .i64 a1_3, .int .i64 a1_4, .int .i64 a1_5, .int .i64 a1_6] 39 (0, 0)) (bk_ BK310.out) hg (Kd.R_ne HO320.out BK310.out (by decide))); replace BK311 := Aside0.mk (blk_grown (g := gb311) (o := .cells #[.slice none 0 0, .slice none 0 0, .slice none 0 0, .int .i64 0, .int .i64 0] 30 (0, 0)) (bk_ BK311.out) hg (Kd.R_ne HO320.out BK311.out (by decide))); replace HO314 := Aside0.mk (Kd.R_over' (v := (.slice (some ⟨go163, 0, none⟩) t318.length co180)) (kr_ HO314.out) (Kd.R_typed HO320.out) (by decide) hg); replace HO317 := Aside0.mk (Kd.R_after (v := (.slice (some ⟨go163, 0, none⟩) t318.length co180)) (v1 := (.slice (some ⟨go163, 0, none⟩) t318.length co180)) (ok := (fun _ => True)) (krm_ HO317.out (fun _ hk => ⟨trivial, hk⟩)) hg (.inl rfl)); replace BK323 := Aside0.mk (blk_grown (g := gb323) (o := .cells #[.slice Ao174 t312.length co174, .slice Ao179 t315.length co179, .slice (some ⟨go163, 0, none⟩) t318.length co180, .int .i64 t321, .int .i64 t322] 30 (0, 0)) (bk_ BK323.out) hg (Kd.R_ne HO320.out BK323.out (by decide))); replace HO320 := Aside0.mk (hp_); replace HB := Aside0.mk ((by rw [hw]; exact below_set (HB.out) GB163.out : Below w.heap.size w w187)); clear hg hw hp_))
        replace HO314 := Aside0.mk (Kd.R_drew HO314.out); replace HO317 := Aside0.mk (Kd.R_drew HO317.out); replace HO320 := Aside0.mk (Kd.R_drew HO320.out); replace BK309 := Aside0.mk (blk_drew BK309.out); replace BK310 := Aside0.mk (blk_drew BK310.out); replace BK311 := Aside0.mk (blk_drew BK311.out); replace BK323 := Aside0.mk (blk_drew BK323.out); replace HB := Aside0.mk (below_drew1 HB.out); refine start_ (n := 8) (S := fun w' => w'.cell? ⟨gb323, 0, none⟩ = some (.slice Ao174 t312.length co174) ∧ w'.cell? ⟨gb323, 1, none⟩ = some (.slice Ao179 t315.length co179) ∧ w'.cell? ⟨gb323, 2, none⟩ = some (.slice (some ⟨go163, 0, none⟩) t318.length co180) ∧ w'.cell? ⟨gb323, 3, none⟩ = some (.int .i64 t321) ∧ w'.cell? ⟨gb323, 4, none⟩ = some (.int .i64 t322)) (ds := []) #[fF,fF,fF,fF,fF,fF,fF,fF] (by kernel_rfl) rfl rfl ⟨(blk_cell BK323.out 0).trans rfl, (blk_cell BK323.out 1).trans rfl, (blk_cell BK323.out 2).trans rfl, (blk_cell BK323.out 3).trans rfl, (blk_cell BK323.out 4).trans rfl⟩ (fun hHeld => ?_); refine with_tabW spec_l25Make.tab15 spec_l25Make.bits15 (fun HT_ HW_ => ?_); generalize w187.drew = w188 at HO314 HO317 HO320 BK309 BK310 BK311 BK323 HB hHeld ⊢; refine pz_ HT_ 1 (some 82) #[fF,tT,fF,fF,fF,fF,fF,fF] ?_; refine pz_ HT_ 2 (some 83) #[fF,tT,tT,fF,fF,fF,fF,fF] ?_; refine pu_ HT_ 3 (some 84) #[fF,tT,tT,tT,fF,fF,fF,fF] ?_; refine pu_ HT_ 4 (some 85) #[fF,tT,tT,tT,tT,fF,fF,fF] ?_; refine pz_ HT_ 5 (some 86) #[fF,tT,tT,tT,tT,tT,fF,fF] ?_; refine tk_ HT_ HW_ hHeld 0 (some 81) #[tT,tT,tT,tT,tT,tT,fF,fF] ?_; refine one_ (i := 6) (N := none) #[tT,tT,tT,tT,tT,tT,tT,fF] rfl rfl (one_of HT_.out (by kernel_rfl)) (by decide) (fun K hK => ?_); have hs189 : w188.cell? ⟨gb311, 0, none⟩ = some (.slice none 0 0) := (blk_cell BK311.out 0).trans rfl; have hfs189 := blk_frozen BK311.out 0; have hns189_0 := NB309_311.out; have hns189_1 := NB310_311.out; have hns189_3 := NB323_311.out; have hms189_0 := NB311_309.out; have hms189_1 := NB311_310.out; have hms189_3 := NB311_323.out; have hs190 : w188.cell? ⟨gb311, 1, none⟩ = some (.slice none 0 0) := (blk_cell BK311.out 1).trans rfl; have hfs190 := blk_frozen BK311.out 1; have hns190_0 := NB309_311.out; have hns190_1 := NB310_311.out; have hns190_3 := NB323_311.out; have hms190_0 := NB311_309.out; have hms190_1 := NB311_310.out; have hms190_3 := NB311_323.out; have hs191 : w188.cell? ⟨gb311, 2, none⟩ = some (.slice none 0 0) := (blk_cell BK311.out 2).trans rfl; have hfs191 := blk_frozen BK311.out 2; have hns191_0 := NB309_311.out; have hns191_1 := NB310_311.out; have hns191_3 := NB323_311.out; have hms191_0 := NB311_309.out; have hms191_1 := NB311_310.out; have hms191_3 := NB311_323.out; have hs192 : w188.cell? ⟨gb311, 3, none⟩ = some (.int .i64 0) := (blk_cell BK311.out 3).trans rfl; have hfs192 := blk_frozen BK311.out 3; have hns192_0 := NB309_311.out; have hns192_1 := NB310_311.out; have hns192_3 := NB323_311.out; have hms192_0 := NB311_309.out; have hms192_1 := NB311_310.out; have hms192_3 := NB311_323.out; have hs193 : w188.cell? ⟨gb311, 4, none⟩ = some (.int .i64 0) := (blk_cell BK311.out 4).trans rfl; have hfs193 := blk_frozen BK311.out 4; have hns193_0 := NB309_311.out; have hns193_1 := NB310_311.out; have hns193_3 := NB323_311.out; have hms193_0 := NB311_309.out; have hms193_1 := NB311_310.out; have hms193_3 := NB311_323.out; refine skip_ (w1 := ?_) (by rfl) rfl ?_ ?_; rotate_left
        ·
         go_simp; rfl
        refine hK.out _ _ ⟨((cell_far (p := ⟨gb311, _, none⟩) NB323_311.out _).trans (((cell_far (p := ⟨gb311, _, none⟩) NB323_311.out _).trans (((cell_far (p := ⟨gb311, _, none⟩) NB323_311.out _).trans (((cell_far (p := ⟨gb311, _, none⟩) NB323_311.out _).trans (((cell_far (p := ⟨gb311, _, none⟩) NB323_311.out _).trans (hHeld.1)))))))))), ((cell_far (p := ⟨gb311, _, none⟩) NB323_311.out _).trans (((cell_far (p := ⟨gb311, _, none⟩) NB323_311.out _).trans (((cell_far (p := ⟨gb311, _, none⟩) NB323_311.out _).trans (((cell_far (p := ⟨gb311, _, none⟩) NB323_311.out _).trans (((cell_far (p := ⟨gb311, _, none⟩) NB323_311.out _).trans (hHeld.2.1)))))))))), ((cell_far (p := ⟨gb311, _, none⟩) NB323_311.out _).trans (((cell_far (p := ⟨gb311, _, none⟩) NB323_311.out _).trans (((cell_far (p := ⟨gb311, _, none⟩) NB323_311.out _).trans (((cell_far (p := ⟨gb311, _, none⟩) NB323_311.out _).trans (((cell_far (p := ⟨gb311, _, none⟩) NB323_311.out _).trans (hHeld.2.2.1)))))))))), ((cell_far (p := ⟨gb311, _, none⟩) NB323_311.out _).trans (((cell_far (p := ⟨gb311, _, none⟩) NB323_311.out _).trans (((cell_far (p := ⟨gb311, _, none⟩) NB323_311.out _).trans (((cell_far (p := ⟨gb311, _, none⟩) NB323_311.out _).trans (((cell_far (p := ⟨gb311, _, none⟩) NB323_311.out _).trans (hHeld.2.2.2.1)))))))))), ((cell_far (p := ⟨gb311, _, none⟩) NB323_311.out _).trans (((cell_far (p := ⟨gb311, _, none⟩) NB323_311.out _).trans (((cell_far (p := ⟨gb311, _, none⟩) NB323_311.out _).trans (((cell_far (p := ⟨gb311, _, none⟩) NB323_311.out _).trans (((cell_far (p := ⟨gb311, _, none⟩) NB323_311.out _).trans (hHeld.2.2.2.2))))))))))⟩ (fun hHeld => ?_); clear hK K; refine pz_ HT_ 7 (some 5) #[tT,tT,tT,tT,tT,tT,tT,tT] ?_; refine done_ (done_of HT_.out (by kernel_rfl)) ?_
        try go_wp2
        refine bodyPost_ret (results_ct rfl _ _ gb311 30 #[.slice Ao174 t312.length co174, .slice Ao179 t315.length co179, .slice (some ⟨go163, 0, none⟩) t318.length co180, .int .i64 t321, .int .i64 t322] (0, 0) _ rfl (by (with_reducible repeat (first | refine blk_drewN ?_ _ | refine blk_drew ?_ | refine blk_alloc ?_ _)); refine blk_put (cs := #[.slice Ao174 t312.length co174, .slice Ao179 t315.length co179, .slice (some ⟨go163, 0, none⟩) t318.length co180, .int .i64 t321, .int .i64 0]) ?_ 4 _ rfl; (with_reducible repeat (first | refine blk_drewN ?_ _ | refine blk_drew ?_ | refine blk_alloc ?_ _)); refine blk_put (cs := #[.slice Ao174 t312.length co174, .slice Ao179 t315.length co179, .slice (some ⟨go163, 0, none⟩) t318.length co180, .int .i64 0, .int .i64 0]) ?_ 3 _ rfl; (with_reducible repeat (first | refine blk_drewN ?_ _ | refine blk_drew ?_ | refine blk_alloc ?_ _)); refine blk_put (cs := #[.slice Ao174 t312.length co174, .slice Ao179 t315.length co179, .slice none 0 0, .int .i64 0, .int .i64 0]) ?_ 2 _ rfl; (with_reducible repeat (first | refine blk_drewN ?_ _ | refine blk_drew ?_ | refine blk_alloc ?_ _)); refine blk_put (cs := #[.slice Ao174 t312.length co174, .slice none 0 0, .slice none 0 0, .int .i64 0, .int .i64 0]) ?_ 1 _ rfl; (with_reducible repeat (first | refine blk_drewN ?_ _ | refine blk_drew ?_ | refine blk_alloc ?_ _)); refine blk_put (cs := #[.slice none 0 0, .slice none 0 0, .slice none 0 0, .int .i64 0, .int .i64 0]) ?_ 0 _ rfl; (with_reducible repeat (first | refine blk_drewN ?_ _ | refine blk_drew ?_ | refine blk_alloc ?_ _)); exact BK311.out) Try.underlying30 rfl (by kernel_rfl)) rfl ?_; exact ⟨_, _, _, rr_, by (with_reducible repeat (first | apply Kd.R_alloc | apply Kd.R_drewN | apply Kd.R_drew)); exact Kd.R_mono (r5_ HO314.out BK311.out (by decide) _ _ _ _ _) (fun _ hk => trivial), by (with_reducible repeat (first | apply Kd.R_alloc | apply Kd.R_drewN | apply Kd.R_drew)); exact Kd.R_mono (r5_ HO317.out BK311.out (by decide) _ _ _ _ _) (fun _ hk => hk.2), by (with_reducible repeat (first | apply Kd.R_alloc | apply Kd.R_drewN | apply Kd.R_drew)); exact Kd.R_mono (r5_ HO320.out BK311.out (by decide) _ _ _ _ _) (fun _ hk => hk), by repeat (first | (with_reducible first | exact HB.out | apply below_alloc | apply pw_below_drewN | apply below_drew1 | refine below_set ?_ GE309.out | refine below_set ?_ GE310.out | refine below_set ?_ GE311.out | refine below_set ?_ GE323.out) | exact HB.out)⟩
       ·
        replace c165 := Bool.eq_false_iff.mpr c165; subst c165
        have H1 : ((spec_l25Good.f k t312 t315 y356 t321 t322).bind fun t357 => (some (t312, t315, y356, t321, t322, t357))) = some (r1, r2, r3, r4, r5, r6) := by rw [if_neg (show ¬ (false = true) by decide)] at H; exact H
        clear H; have H := H1; clear H1; replace H := Option.bind_eq_some_iff.mp H; obtain ⟨t357, A1940, H⟩ := H; replace H : (some (t312, t315, y356, t321, t322, t357)) = some (r1, r2, r3, r4, r5, r6) := H; have A194 := Aside0.mk A1940; clear A1940; simp only [Option.some.injEq, Prod.mk.injEq] at H; obtain ⟨rfl, rfl, rfl, rfl, rfl, rfl⟩ := H
        go_enter Try.func78, Try.ntmps78
        try go_wp2_with (first | ((with_reducible refine gate_dst (N := 2) rfl ?_); refine box_event ?hg (N := 2) ?hd (cs := #[.slice A0_0 l0_0.length c0_0, .slice A0_1 l0_1.length c0_1, .slice A0_2 l0_2.length c0_2, .int .i64 a0_3, .int .i64 a0_4]) (t := 30) ?hr ?_; (case hd => rfl); (case hg => rfl); (case hr => first | (go_simp; done) | (go_simp; rfl)); intro gb309 hg w195 hbox hb; have BK309 := Aside0.mk (hbox); have GW309 := Aside0.mk ((bz_ hg (lb0_ HB.out))); have GE309 := Aside0.mk ((bz_ hg (lb0_ HB.out))); replace HB := Aside0.mk (below_step (lb0_ HB.out) hb); clear hb hbox hg) | ((with_reducible refine gate_dst (N := 3) rfl ?_); refine box_event ?hg (N := 3) ?hd (cs := #[.int .i64 a1_0, .int .i64 a1_1, .int .i64 a1_2, .int .i64 a1_3, .int .i64 a1_4, .int .i64 a1_5, .int .i64 a1_6]) (t := 39) ?hr ?_; (case hd => rfl); (case hg => rfl); (case hr => first | (go_simp; done) | (go_simp; rfl)); intro gb310 hg w196 hbox hb; have BK310 := Aside0.mk (hbox); have GW310 := Aside0.mk ((bz_ hg (lb1_ HB.out GE309.out))); have GE310 := Aside0.mk ((bz_ hg (lb1_ HB.out GE309.out))); replace HB := Aside0.mk (below_step (lb1_ HB.out GE309.out) hb); have NB309_310 := Aside0.mk (nl_ hg BK309.out); have NB310_309 := Aside0.mk (ng_ hg BK309.out); replace BK309 := Aside0.mk (bb_ (bk_ BK309.out) hb); clear hb hbox hg) | ((with_reducible refine gate_dst (N := 4) rfl ?_); refine box_event ?hg (N := 4) ?hd (cs := #[.slice none 0 0, .slice none 0 0, .slice none 0 0, .int .i64 0, .int .i64 0]) (t := 30) ?hr ?_; (case hd => rfl); (case hg => rfl); (case hr => first | (go_simp; done) | (go_simp; rfl)); intro gb311 hg w197 hbox hb; have BK311 := Aside0.mk (hbox); have GW311 := Aside0.mk ((bz_ hg (lb2_ HB.out GE309.out GE310.out))); have GE311 := Aside0.mk ((bz_ hg (lb2_ HB.out GE309.out GE310.out))); replace HB := Aside0.mk (below_step (lb2_ HB.out GE309.out GE310.out) hb); have NB309_311 := Aside0.mk (nl_ hg BK309.out); have NB311_309 := Aside0.mk (ng_ hg BK309.out); replace BK309 := Aside0.mk (bb_ (bk_ BK309.out) hb); have NB310_311 := Aside0.mk (nl_ hg BK310.out); have NB311_310 := Aside0.mk (ng_ hg BK310.out); replace BK310 := Aside0.mk (bb_ (bk_ BK310.out) hb); clear hb hbox hg; have hnb198 := NB309_310.out; have hnc198 := NB310_309.out; have hnb199 := NB309_311.out; have hnc199 := NB311_309.out; obtain ⟨hcz200_0, hcz200_1, hcz200_2, hcz200_3, hcz200_4⟩ := cz5_ BK309.out; obtain ⟨hfz200_0, hfz200_1, hfz200_2, hfz200_3, hfz200_4⟩ := fz5_ BK309.out) | ((with_reducible refine gate_callee (f := 84) rfl ?_); refine ga_ (some 9) Try.func84 #[.agg #[.slice A0_0 l0_0.length c0_0, .slice A0_1 l0_1.length c0_1, .slice A0_2 l0_2.length c0_2, .int .i64 a0_3, .int .i64 a0_4]] ?_; (with_reducible refine (spec_l25Own.calls _ _ l0_0 _ _ l0_1 _ _ l0_2 a0_3 a0_4 t312 t315 t318 t321 t322 _ ?side1 ?side2 ?side3 ?side4 ?side5 ?side6 A3.out).mono ?_); (case side1 => exact kc_ (Kd.C_below HR0_0.out HB.out)); (case side2 => exact HC0_0.out); (case side3 => exact kc_ (Kd.C_below HR0_1.out HB.out)); (case side4 => exact HC0_1.out); (case side5 => exact kc_ (Kd.C_below HR0_2.out HB.out)); (case side6 => exact HC0_2.out); rintro e w201 ⟨v313, v316, v319, rfl, ho0, ho1, ho2, hb⟩; refine ⟨_, rfl, ?_⟩; have HO314 := Aside0.mk (Kd.R_lower ho0 (below_size (lb3_ HB.out GE309.out GE310.out GE311.out))); have HO317 := Aside0.mk (Kd.R_lower ho1 (below_size (lb3_ HB.out GE309.out GE310.out GE311.out))); have HO320 := Aside0.mk (Kd.R_lower ho2 (below_size (lb3_ HB.out GE309.out GE310.out GE311.out))); replace BK309 := Aside0.mk (bb_ (bk_ BK309.out) hb); replace BK310 := Aside0.mk (bb_ (bk_ BK310.out) hb); replace BK311 := Aside0.mk (bb_ (bk_ BK311.out) hb); replace HB := Aside0.mk (below_step (lb3_ HB.out GE309.out GE310.out GE311.out) hb); (try clear hb); (try clear hb2); (try clear hk); (try clear hi); (try clear ho0); (try clear ho1); (try clear ho2)) | ((with_reducible refine gate_dst (N := 6) rfl ?_); refine box_event ?hg (N := 6) ?hd (cs := #[.slice none 0 0, .slice none 0 0, .slice none 0 0, .int .i64 0, .int .i64 0]) (t := 30) ?hr ?_; (case hd => rfl); (case hg => rfl); (case hr => first | (go_simp; done) | (go_simp; rfl)); intro gb323 hg w202 hbox hb; replace HO314 := Aside0.mk (Kd.R_below (kr_ HO314.out) hb); replace HO317 := Aside0.mk (Kd.R_below (kr_ HO317.out) hb); replace HO320 := Aside0.mk (Kd.R_below (kr_ HO320.out) hb); have BK323 := Aside0.mk (hbox); have GW323 := Aside0.mk (bz_ hg (lb3_ HB.out GE309.out GE310.out GE311.out)); have GE323 := Aside0.mk (bz_ hg (lb3_ HB.out GE309.out GE310.out GE311.out)); replace HB := Aside0.mk (below_step (lb3_ HB.out GE309.out GE310.out GE311.out) hb); have NB309_323 := Aside0.mk (nl_ hg BK309.out); have NB323_309 := Aside0.mk (ng_ hg BK309.out); replace BK309 := Aside0.mk (bb_ (bk_ BK309.out) hb); have NB310_323 := Aside0.mk (nl_ hg BK310.out); have NB323_310 := Aside0.mk (ng_ hg BK310.out); replace BK310 := Aside0.mk (bb_ (bk_ BK310.out) hb); have NB311_323 := Aside0.mk (nl_ hg BK311.out); have NB323_311 := Aside0.mk (ng_ hg BK311.out); replace BK311 := Aside0.mk (bb_ (bk_ BK311.out) hb); clear hb hbox hg; obtain ⟨Ao203, co203, eo203⟩ := Kd.R_slice HO314.out; subst eo203; have hnb204 := NB323_309.out; have hnc204 := NB309_323.out; have hnb205 := NB323_310.out; have hnc205 := NB310_323.out; have hnb206 := NB323_311.out; have hnc206 := NB311_323.out; obtain ⟨hcz207_0, hcz207_1, hcz207_2, hcz207_3, hcz207_4⟩ := cz5_ BK323.out; obtain ⟨hfz207_0, hfz207_1, hfz207_2, hfz207_3, hfz207_4⟩ := fz5_ BK323.out; obtain ⟨Ao208, co208, eo208⟩ := Kd.R_slice HO317.out; subst eo208; obtain ⟨Ao209, co209, eo209⟩ := Kd.R_slice HO320.out; subst eo209) | ((with_reducible refine gate_store (t := 30) (p := 6) rfl ?_); refine store_event (t := 30) (p := 6) (v := ?vo_w210) (w1 := (((((w202.setCell ⟨gb323, 0, none⟩ (.slice Ao203 t312.length co203)).setCell ⟨gb323, 1, none⟩ (.slice Ao208 t315.length co208)).setCell ⟨gb323, 2, none⟩ (.slice Ao209 t318.length co209)).setCell ⟨gb323, 3, none⟩ (.int .i64 t321)).setCell ⟨gb323, 4, none⟩ (.int .i64 t322))) ?hg ?ho ?hn ?hr ?_; (case ho => rfl); (case hg => rfl); (case hn => rfl); (case hr => first | (go_simp; done) | (go_simp; rfl)); intro w210 hw; have n0_ : Aside0 (Kd.R k37 37 w210 w.heap.size (fun _ => True) (.slice Ao203 t312.length co203) t312) := ⟨(by rw [hw]; exact (Kd.R_mono (r5_ HO314.out BK323.out (by decide) _ _ _ _ _) (fun _ hk => trivial)))⟩; have n1_ : Aside0 (Kd.R Kd.bool 4 w210 w.heap.size (fun k_ => some k_ ≠ (.slice Ao209 t318.length co209 : Value).ownBlock) (.slice Ao208 t315.length co208) t315) := ⟨(by rw [hw]; exact (Kd.R_mono (r5_ HO317.out BK323.out (by decide) _ _ _ _ _) (fun _ hk => hk)))⟩; have n2_ : Aside0 (Kd.R Kd.bool 4 w210 w.heap.size (fun k_ => some k_ ≠ (.slice Ao208 t315.length co208 : Value).ownBlock) (.slice Ao209 t318.length co209) t318) := ⟨(by rw [hw]; exact (Kd.R_mono (r5_ HO320.out BK323.out (by decide) _ _ _ _ _) (fun _ hk => hk)))⟩; have n3_ : Aside0 (w210.heap[gb309]? = some (.cells #[.slice A0_0 l0_0.length c0_0, .slice A0_1 l0_1.length c0_1, .slice A0_2 l0_2.length c0_2, .int .i64 a0_3, .int .i64 a0_4] 30 (0, 0))) := ⟨(by rw [hw]; exact (by exact (f5_ BK309.out NB309_323.out _ _ _ _ _)))⟩; have n4_ : Aside0 (w210.heap[gb310]? = some (.cells #[.int .i64 a1_0, .int .i64 a1_1, .int .i64 a1_2, .int .i64 a1_3, .int .i64 a1_4, .int .i64 a1_5, .int .i64 a1_6] 39 (0, 0))) := ⟨(by rw [hw]; exact (by exact (f5_ BK310.out NB310_323.out _ _ _ _ _)))⟩; have n5_ : Aside0 (w210.heap[gb311]? = some (.cells #[.slice none 0 0, .slice none 0 0, .slice none 0 0, .int .i64 0, .int .i64 0] 30 (0, 0))) := ⟨(by rw [hw]; exact (by exact (f5_ BK311.out NB311_323.out _ _ _ _ _)))⟩; have n6_ : Aside0 (w210.heap[gb323]? = some (.cells #[.slice Ao203 t312.length co203, .slice Ao208 t315.length co208, .slice Ao209 t318.length co209, .int .i64 t321, .int .i64 t322] 30 (0, 0))) := ⟨(by rw [hw]; exact (by exact (p5_ BK323.out _ _ _ _ _)))⟩; have n7_ : Aside0 (Below w.heap.size w w210) := ⟨(by rw [hw]; exact (by repeat (first | (with_reducible first | exact HB.out | apply below_alloc | apply pw_below_drewN | apply below_drew1 | refine below_set ?_ GE309.out | refine below_set ?_ GE310.out | refine below_set ?_ GE311.out | refine below_set ?_ GE323.out) | exact HB.out)))⟩; clear hw; clear HO314; clear HO317; clear HO320; clear BK309; clear BK310; clear BK311; clear BK323; clear HB; have HO314 := n0_; have HO317 := n1_; have HO320 := n2_; have BK309 := n3_; have BK310 := n4_; have BK311 := n5_; have BK323 := n6_; have HB := n7_; clear n0_ n1_ n2_ n3_ n4_ n5_ n6_ n7_; have hnb211 := NB310_311.out; have hnc211 := NB311_310.out; obtain ⟨hcz212_0, hcz212_1, hcz212_2, hcz212_3, hcz212_4, hcz212_5, hcz212_6⟩ := cz7_ BK310.out; obtain ⟨hfz212_0, hfz212_1, hfz212_2, hfz212_3, hfz212_4, hfz212_5, hfz212_6⟩ := fz7_ BK310.out; obtain ⟨hcz213_0, hcz213_1, hcz213_2, hcz213_3, hcz213_4⟩ := cz5_ BK309.out; obtain ⟨hfz213_0, hfz213_1, hfz213_2, hfz213_3, hfz213_4⟩ := fz5_ BK309.out; have p355 : 0 ≤ (a0_3 : Int) := dt_; have q355 : a0_3 < (l0_2.length : Int) := dt_; obtain ⟨ad355, e355, hx355_0⟩ := Kd.at_bool HR0_2.out a0_3 p355 q355; (try rw [← Nbq164.out] at hx355_0); cases e355; replace hx355_0 := bc_ HB.out hx355_0; replace p355 := eq_true p355; replace q355 := eq_true q355; obtain ⟨hcz214_0, hcz214_1, hcz214_2, hcz214_3, hcz214_4⟩ := cz5_ BK323.out; obtain ⟨hfz214_0, hfz214_1, hfz214_2, hfz214_3, hfz214_4⟩ := fz5_ BK323.out; have p163 : 0 ≤ (a0_3 : Int) := dt_; have q163 : (a0_3 : Int) < ((t318.length : Int) : Int) := dt_; obtain ⟨go163, co163, eo163, gb163, gl163, cl163, HG163⟩ := Kd.R_form HO320.out (by omega); (first | cases eo163 | (injection eo163 with ea_ en_ ec_; (first | subst ea_ | (injection ea_ with ea_; subst ea_)); subst ec_; clear en_)); have GB163 := Aside0.mk gb163; have GG163 := Aside0.mk HG163; clear gb163 gl163 HG163; obtain ⟨hx163_0, hf163_0⟩ := Kd.R_celln false HO320.out (a0_3 : Int) p163 q163; replace p163 := eq_true p163; replace q163 := eq_true q163; obtain ⟨hy215_, hz215_⟩ := Kd.R_celln false HO320.out (a0_3 : Int) (dt_) (dt_); have HP215 := Kd.R_putg HO320.out (a0_3 : Int) true) | ((with_reducible refine gate_store (t := 4) (p := 80) rfl ?_); refine store_event (t := 4) (p := 80) (v := ?vo_w216) (w1 := (w210.setCell ⟨go163, (a0_3 : Int).toNat, none⟩ (.bool true))) ?hg ?ho ?hn ?hr ?_; (case ho => rfl); (case hg => rfl); (case hn => rfl); (case hr => first | (go_simp; done) | (go_simp; rfl)); intro w216 hw; have hg : w210.grownBy w216 (some go163) := (by rw [hw]; exact HP215.2); have hp_ : Kd.R Kd.bool 4 w216 w.heap.size (fun k_ => some k_ ≠ (.slice Ao208 t315.length co208 : Value).ownBlock) (.slice (some ⟨go163, 0, none⟩) t318.length co209) y356 := (by rw [hw, Ny356.out]; exact HP215.1); clear HP215; replace BK309 := Aside0.mk (blk_grown (g := gb309) (o := .cells #[.slice A0_0 l0_0.length c0_0, .slice A0_1 l0_1.length c0_1, .slice (some ad355) l0_2.length c0_2, .int .i64 a0_3, .int .i64 a0_4] 30 (0, 0)) (bk_ BK309.out) hg (Kd.R_ne HO320.out BK309.out (by decide))); replace BK310 := Aside0.mk (blk_grown (g := gb310) (o := .cells #[.int .i64 a1_0, .int .i64 a1_1, .int .i64 a1_2, .int .i64 a1_3, .int .i64 a1_4, .int .i64 a1_5, .int .i64 a1_6] 39 (0, 0)) (bk_ BK310.out) hg (Kd.R_ne HO320.out BK310.out (by decide))); replace BK311 := Aside0.mk (blk_grown (g := gb311) (o := .cells #[.slice none 0 0, .slice none 0 0, .slice none 0 0, .int .i64 0, .int .i64 0] 30 (0, 0)) (bk_ BK311.out) hg (Kd.R_ne HO320.out BK311.out (by decide))); replace HO314 := Aside0.mk (Kd.R_over' (v := (.slice (some ⟨go163, 0, none⟩) t318.length co209)) (kr_ HO314.out) (Kd.R_typed HO320.out) (by decide) hg); replace HO317 := Aside0.mk (Kd.R_after (v := (.slice (some ⟨go163, 0, none⟩) t318.length co209)) (v1 := (.slice (some ⟨go163, 0, none⟩) t318.length co209)) (ok := (fun _ => True)) (krm_ HO317.out (fun _ hk => ⟨trivial, hk⟩)) hg (.inl rfl)); replace BK323 := Aside0.mk (blk_grown (g := gb323) (o := .cells #[.slice Ao203 t312.length co203, .slice Ao208 t315.length co208, .slice (some ⟨go163, 0, none⟩) t318.length co209, .int .i64 t321, .int .i64 t322] 30 (0, 0)) (bk_ BK323.out) hg (Kd.R_ne HO320.out BK323.out (by decide))); replace HO320 := Aside0.mk (hp_); replace HB := Aside0.mk ((by rw [hw]; exact below_set (HB.out) GB163.out : Below w.heap.size w w216)); clear hg hw hp_))
        replace HO314 := Aside0.mk (Kd.R_drew HO314.out); replace HO317 := Aside0.mk (Kd.R_drew HO317.out); replace HO320 := Aside0.mk (Kd.R_drew HO320.out); replace BK309 := Aside0.mk (blk_drew BK309.out); replace BK310 := Aside0.mk (blk_drew BK310.out); replace BK311 := Aside0.mk (blk_drew BK311.out); replace BK323 := Aside0.mk (blk_drew BK323.out); replace HB := Aside0.mk (below_drew1 HB.out); refine start_ (n := 8) (S := fun w' => w'.cell? ⟨gb323, 0, none⟩ = some (.slice Ao203 t312.length co203) ∧ w'.cell? ⟨gb323, 1, none⟩ = some (.slice Ao208 t315.length co208) ∧ w'.cell? ⟨gb323, 2, none⟩ = some (.slice (some ⟨go163, 0, none⟩) t318.length co209) ∧ w'.cell? ⟨gb323, 3, none⟩ = some (.int .i64 t321) ∧ w'.cell? ⟨gb323, 4, none⟩ = some (.int .i64 t322)) (ds := []) #[fF,fF,fF,fF,fF,fF,fF,fF] (by kernel_rfl) rfl rfl ⟨(blk_cell BK323.out 0).trans rfl, (blk_cell BK323.out 1).trans rfl, (blk_cell BK323.out 2).trans rfl, (blk_cell BK323.out 3).trans rfl, (blk_cell BK323.out 4).trans rfl⟩ (fun hHeld => ?_); refine with_tabW spec_l25Make.tab15 spec_l25Make.bits15 (fun HT_ HW_ => ?_); generalize w216.drew = w217 at HO314 HO317 HO320 BK309 BK310 BK311 BK323 HB hHeld ⊢; refine pz_ HT_ 1 (some 82) #[fF,tT,fF,fF,fF,fF,fF,fF] ?_; refine pz_ HT_ 2 (some 83) #[fF,tT,tT,fF,fF,fF,fF,fF] ?_; refine tk_ HT_ HW_ hHeld 0 (some 81) #[tT,tT,tT,fF,fF,fF,fF,fF] ?_; refine tk_ HT_ HW_ hHeld 3 (some 84) #[tT,tT,tT,tT,fF,fF,fF,fF] ?_; refine one_ (i := 4) (N := some 85) #[tT,tT,tT,tT,tT,fF,fF,fF] rfl rfl (one_of HT_.out (by kernel_rfl)) (by decide) (fun K hK => ?_); refine goes_ Try.func67 (by kernel_rfl) rfl #[.agg #[.slice Ao203 t312.length co203, .slice Ao208 t315.length co208, .slice (some ⟨go163, 0, none⟩) y356.length co209, .int .i64 t321, .int .i64 t322]] (by rfl) rfl rfl (by (try simp only [List.map_toArray, List.map_cons, List.map_nil]); first | done | (rw [show y356.length = t318.length from (Kd.R_reads' HO320.out).1.symm] <;> rfl) | rfl | (simp only [List.length_drop, List.length_take]; rfl)) ?_; (with_reducible refine (spec_l25Good.calls k _ _ t312 _ _ t315 _ _ y356 t321 t322 t357 _ ?side1 ?side2 ?side3 ?side4 ?side5 ?side6 A194.out).mono ?_); (case side1 => exact kc_ (Kd.R_reads' HO314.out).2.2); (case side2 => exact (Kd.R_reads' HO314.out).2.1); (case side3 => exact kc_ (Kd.R_reads' HO317.out).2.2); (case side4 => exact (Kd.R_reads' HO317.out).2.1); (case side5 => exact kc_ (Kd.R_reads' HO320.out).2.2); (case side6 => rw [show y356.length = t318.length from (Kd.R_reads' HO320.out).1.symm]; exact (Kd.R_reads' HO320.out).2.1); rintro e w218 ⟨rfl, hb⟩; refine ⟨_, rfl, ?_⟩; replace HO314 := Aside0.mk (Kd.R_below (kr_ HO314.out) hb); replace HO317 := Aside0.mk (Kd.R_below (kr_ HO317.out) hb); replace HO320 := Aside0.mk (Kd.R_below (kr_ HO320.out) hb); replace BK309 := Aside0.mk (bb_ (bk_ BK309.out) hb); replace BK310 := Aside0.mk (bb_ (bk_ BK310.out) hb); replace BK311 := Aside0.mk (bb_ (bk_ BK311.out) hb); replace BK323 := Aside0.mk (bb_ (bk_ BK323.out) hb); replace HB := Aside0.mk (below_step (by repeat (first | (with_reducible first | exact HB.out | apply below_alloc | apply pw_below_drewN | apply below_drew1 | refine below_set ?_ GE309.out | refine below_set ?_ GE310.out | refine below_set ?_ GE311.out | refine below_set ?_ GE323.out) | exact HB.out)) hb); (try clear hb); (try clear hb2); (try clear hk); (try clear hi); refine hK.out _ _ ⟨(blk_cell BK323.out 0).trans rfl, (blk_cell BK323.out 1).trans rfl, (blk_cell BK323.out 2).trans rfl, (blk_cell BK323.out 3).trans rfl, (blk_cell BK323.out 4).trans rfl⟩ (fun hHeld => ?_); clear hK K; refine na_ ?_; refine pz_ HT_ 5 (some 86) #[tT,tT,tT,tT,tT,tT,fF,fF] ?_; refine one_ (i := 6) (N := none) #[tT,tT,tT,tT,tT,tT,tT,fF] rfl rfl (one_of HT_.out (by kernel_rfl)) (by decide) (fun K hK => ?_); have hs219 : w218.cell? ⟨gb311, 0, none⟩ = some (.slice none 0 0) := (blk_cell BK311.out 0).trans rfl; have hfs219 := blk_frozen BK311.out 0; have hns219_0 := NB309_311.out; have hns219_1 := NB310_311.out; have hns219_3 := NB323_311.out; have hms219_0 := NB311_309.out; have hms219_1 := NB311_310.out; have hms219_3 := NB311_323.out; have hs220 : w218.cell? ⟨gb311, 1, none⟩ = some (.slice none 0 0) := (blk_cell BK311.out 1).trans rfl; have hfs220 := blk_frozen BK311.out 1; have hns220_0 := NB309_311.out; have hns220_1 := NB310_311.out; have hns220_3 := NB323_311.out; have hms220_0 := NB311_309.out; have hms220_1 := NB311_310.out; have hms220_3 := NB311_323.out; have hs221 : w218.cell? ⟨gb311, 2, none⟩ = some (.slice none 0 0) := (blk_cell BK311.out 2).trans rfl; have hfs221 := blk_frozen BK311.out 2; have hns221_0 := NB309_311.out; have hns221_1 := NB310_311.out; have hns221_3 := NB323_311.out; have hms221_0 := NB311_309.out; have hms221_1 := NB311_310.out; have hms221_3 := NB311_323.out; have hs222 : w218.cell? ⟨gb311, 3, none⟩ = some (.int .i64 0) := (blk_cell BK311.out 3).trans rfl; have hfs222 := blk_frozen BK311.out 3; have hns222_0 := NB309_311.out; have hns222_1 := NB310_311.out; have hns222_3 := NB323_311.out; have hms222_0 := NB311_309.out; have hms222_1 := NB311_310.out; have hms222_3 := NB311_323.out; have hs223 : w218.cell? ⟨gb311, 4, none⟩ = some (.int .i64 0) := (blk_cell BK311.out 4).trans rfl; have hfs223 := blk_frozen BK311.out 4; have hns223_0 := NB309_311.out; have hns223_1 := NB310_311.out; have hns223_3 := NB323_311.out; have hms223_0 := NB311_309.out; have hms223_1 := NB311_310.out; have hms223_3 := NB311_323.out; refine skip_ (w1 := ?_) (by rfl) rfl ?_ ?_; rotate_left
        ·
         go_simp; rfl
        refine hK.out _ _ ⟨((cell_far (p := ⟨gb311, _, none⟩) NB323_311.out _).trans (((cell_far (p := ⟨gb311, _, none⟩) NB323_311.out _).trans (((cell_far (p := ⟨gb311, _, none⟩) NB323_311.out _).trans (((cell_far (p := ⟨gb311, _, none⟩) NB323_311.out _).trans (((cell_far (p := ⟨gb311, _, none⟩) NB323_311.out _).trans (hHeld.1)))))))))), ((cell_far (p := ⟨gb311, _, none⟩) NB323_311.out _).trans (((cell_far (p := ⟨gb311, _, none⟩) NB323_311.out _).trans (((cell_far (p := ⟨gb311, _, none⟩) NB323_311.out _).trans (((cell_far (p := ⟨gb311, _, none⟩) NB323_311.out _).trans (((cell_far (p := ⟨gb311, _, none⟩) NB323_311.out _).trans (hHeld.2.1)))))))))), ((cell_far (p := ⟨gb311, _, none⟩) NB323_311.out _).trans (((cell_far (p := ⟨gb311, _, none⟩) NB323_311.out _).trans (((cell_far (p := ⟨gb311, _, none⟩) NB323_311.out _).trans (((cell_far (p := ⟨gb311, _, none⟩) NB323_311.out _).trans (((cell_far (p := ⟨gb311, _, none⟩) NB323_311.out _).trans (hHeld.2.2.1)))))))))), ((cell_far (p := ⟨gb311, _, none⟩) NB323_311.out _).trans (((cell_far (p := ⟨gb311, _, none⟩) NB323_311.out _).trans (((cell_far (p := ⟨gb311, _, none⟩) NB323_311.out _).trans (((cell_far (p := ⟨gb311, _, none⟩) NB323_311.out _).trans (((cell_far (p := ⟨gb311, _, none⟩) NB323_311.out _).trans (hHeld.2.2.2.1)))))))))), ((cell_far (p := ⟨gb311, _, none⟩) NB323_311.out _).trans (((cell_far (p := ⟨gb311, _, none⟩) NB323_311.out _).trans (((cell_far (p := ⟨gb311, _, none⟩) NB323_311.out _).trans (((cell_far (p := ⟨gb311, _, none⟩) NB323_311.out _).trans (((cell_far (p := ⟨gb311, _, none⟩) NB323_311.out _).trans (hHeld.2.2.2.2))))))))))⟩ (fun hHeld => ?_); clear hK K; refine pz_ HT_ 7 (some 5) #[tT,tT,tT,tT,tT,tT,tT,tT] ?_; refine done_ (done_of HT_.out (by kernel_rfl)) ?_
        try go_wp2
        refine bodyPost_ret (results_ct rfl _ _ gb311 30 #[.slice Ao203 t312.length co203, .slice Ao208 t315.length co208, .slice (some ⟨go163, 0, none⟩) t318.length co209, .int .i64 t321, .int .i64 t322] (0, 0) _ rfl (by (with_reducible repeat (first | refine blk_drewN ?_ _ | refine blk_drew ?_ | refine blk_alloc ?_ _)); refine blk_put (cs := #[.slice Ao203 t312.length co203, .slice Ao208 t315.length co208, .slice (some ⟨go163, 0, none⟩) t318.length co209, .int .i64 t321, .int .i64 0]) ?_ 4 _ rfl; (with_reducible repeat (first | refine blk_drewN ?_ _ | refine blk_drew ?_ | refine blk_alloc ?_ _)); refine blk_put (cs := #[.slice Ao203 t312.length co203, .slice Ao208 t315.length co208, .slice (some ⟨go163, 0, none⟩) t318.length co209, .int .i64 0, .int .i64 0]) ?_ 3 _ rfl; (with_reducible repeat (first | refine blk_drewN ?_ _ | refine blk_drew ?_ | refine blk_alloc ?_ _)); refine blk_put (cs := #[.slice Ao203 t312.length co203, .slice Ao208 t315.length co208, .slice none 0 0, .int .i64 0, .int .i64 0]) ?_ 2 _ rfl; (with_reducible repeat (first | refine blk_drewN ?_ _ | refine blk_drew ?_ | refine blk_alloc ?_ _)); refine blk_put (cs := #[.slice Ao203 t312.length co203, .slice none 0 0, .slice none 0 0, .int .i64 0, .int .i64 0]) ?_ 1 _ rfl; (with_reducible repeat (first | refine blk_drewN ?_ _ | refine blk_drew ?_ | refine blk_alloc ?_ _)); refine blk_put (cs := #[.slice none 0 0, .slice none 0 0, .slice none 0 0, .int .i64 0, .int .i64 0]) ?_ 0 _ rfl; (with_reducible repeat (first | refine blk_drewN ?_ _ | refine blk_drew ?_ | refine blk_alloc ?_ _)); exact BK311.out) Try.underlying30 rfl (by kernel_rfl)) rfl ?_; exact ⟨_, _, _, rr_, by (with_reducible repeat (first | apply Kd.R_alloc | apply Kd.R_drewN | apply Kd.R_drew)); exact Kd.R_mono (r5_ HO314.out BK311.out (by decide) _ _ _ _ _) (fun _ hk => trivial), by (with_reducible repeat (first | apply Kd.R_alloc | apply Kd.R_drewN | apply Kd.R_drew)); exact Kd.R_mono (r5_ HO317.out BK311.out (by decide) _ _ _ _ _) (fun _ hk => hk.2), by (with_reducible repeat (first | apply Kd.R_alloc | apply Kd.R_drewN | apply Kd.R_drew)); exact Kd.R_mono (r5_ HO320.out BK311.out (by decide) _ _ _ _ _) (fun _ hk => hk), by repeat (first | (with_reducible first | exact HB.out | apply below_alloc | apply pw_below_drewN | apply below_drew1 | refine below_set ?_ GE309.out | refine below_set ?_ GE310.out | refine below_set ?_ GE311.out | refine below_set ?_ GE323.out) | exact HB.out)⟩
      ·
       rw [if_neg c162] at H
       exact absurd H (by simp)
     ·
      rw [if_neg c161] at H
      exact absurd H (by simp)
    ·
     rw [if_neg c160] at H
     exact absurd H (by simp)
   ·
    rw [if_neg c159] at H
    have c159b0 : (a1_0 == 3) = false := beq_eq_false_iff_ne.mpr c159
    have c159b1 : (a1_0 != 3) = true := bne_iff_ne.mpr c159
    by_cases c224 : a0_3 = 0
    ·
     rw [if_pos c224] at H
     have c224b0 : (a0_3 == 0) = true := beq_iff_eq.mpr c224
     have c224b1 : (a0_3 != 0) = false := bne_eq_false_iff_eq.mpr c224
     clear c224
     replace H := Option.bind_eq_some_iff.mp H
     obtain ⟨t358, A2250, H⟩ := H
     replace H : (some (t312, t315, t318, t321, wrap64 (a0_4 + a1_1), t358)) = some (r1, r2, r3, r4, r5, r6) := H
     have A225 := Aside0.mk A2250
     clear A2250
     simp only [Option.some.injEq, Prod.mk.injEq] at H
     obtain ⟨rfl, rfl, rfl, rfl, rfl, rfl⟩ := H
     go_enter Try.func78, Try.ntmps78
     try go_wp2_with (first | ((with_reducible refine gate_dst (N := 2) rfl ?_); refine box_event ?hg (N := 2) ?hd (cs := #[.slice A0_0 l0_0.length c0_0, .slice A0_1 l0_1.length c0_1, .slice A0_2 l0_2.length c0_2, .int .i64 a0_3, .int .i64 a0_4]) (t := 30) ?hr ?_; (case hd => rfl); (case hg => rfl); (case hr => first | (go_simp; done) | (go_simp; rfl)); intro gb309 hg w226 hbox hb; have BK309 := Aside0.mk (hbox); have GW309 := Aside0.mk ((bz_ hg (lb0_ HB.out))); have GE309 := Aside0.mk ((bz_ hg (lb0_ HB.out))); replace HB := Aside0.mk (below_step (lb0_ HB.out) hb); clear hb hbox hg) | ((with_reducible refine gate_dst (N := 3) rfl ?_); refine box_event ?hg (N := 3) ?hd (cs := #[.int .i64 a1_0, .int .i64 a1_1, .int .i64 a1_2, .int .i64 a1_3, .int .i64 a1_4, .int .i64 a1_5, .int .i64 a1_6]) (t := 39) ?hr ?_; (case hd => rfl); (case hg => rfl); (case hr => first | (go_simp; done) | (go_simp; rfl)); intro gb310 hg w227 hbox hb; have BK310 := Aside0.mk (hbox); have GW310 := Aside0.mk ((bz_ hg (lb1_ HB.out GE309.out))); have GE310 := Aside0.mk ((bz_ hg (lb1_ HB.out GE309.out))); replace HB := Aside0.mk (below_step (lb1_ HB.out GE309.out) hb); have NB309_310 := Aside0.mk (nl_ hg BK309.out); have NB310_309 := Aside0.mk (ng_ hg BK309.out); replace BK309 := Aside0.mk (bb_ (bk_ BK309.out) hb); clear hb hbox hg) | ((with_reducible refine gate_dst (N := 4) rfl ?_); refine box_event ?hg (N := 4) ?hd (cs := #[.slice none 0 0, .slice none 0 0, .slice none 0 0, .int .i64 0, .int .i64 0]) (t := 30) ?hr ?_; (case hd => rfl); (case hg => rfl); (case hr => first | (go_simp; done) | (go_simp; rfl)); intro gb311 hg w228 hbox hb; have BK311 := Aside0.mk (hbox); have GW311 := Aside0.mk ((bz_ hg (lb2_ HB.out GE309.out GE310.out))); have GE311 := Aside0.mk ((bz_ hg (lb2_ HB.out GE309.out GE310.out))); replace HB := Aside0.mk (below_step (lb2_ HB.out GE309.out GE310.out) hb); have NB309_311 := Aside0.mk (nl_ hg BK309.out); have NB311_309 := Aside0.mk (ng_ hg BK309.out); replace BK309 := Aside0.mk (bb_ (bk_ BK309.out) hb); have NB310_311 := Aside0.mk (nl_ hg BK310.out); have NB311_310 := Aside0.mk (ng_ hg BK310.out); replace BK310 := Aside0.mk (bb_ (bk_ BK310.out) hb); clear hb hbox hg; have hnb229 := NB309_310.out; have hnc229 := NB310_309.out; have hnb230 := NB309_311.out; have hnc230 := NB311_309.out; obtain ⟨hcz231_0, hcz231_1, hcz231_2, hcz231_3, hcz231_4⟩ := cz5_ BK309.out; obtain ⟨hfz231_0, hfz231_1, hfz231_2, hfz231_3, hfz231_4⟩ := fz5_ BK309.out) | ((with_reducible refine gate_callee (f := 84) rfl ?_); refine ga_ (some 9) Try.func84 #[.agg #[.slice A0_0 l0_0.length c0_0, .slice A0_1 l0_1.length c0_1, .slice A0_2 l0_2.length c0_2, .int .i64 a0_3, .int .i64 a0_4]] ?_; (with_reducible refine (spec_l25Own.calls _ _ l0_0 _ _ l0_1 _ _ l0_2 a0_3 a0_4 t312 t315 t318 t321 t322 _ ?side1 ?side2 ?side3 ?side4 ?side5 ?side6 A3.out).mono ?_); (case side1 => exact kc_ (Kd.C_below HR0_0.out HB.out)); (case side2 => exact HC0_0.out); (case side3 => exact kc_ (Kd.C_below HR0_1.out HB.out)); (case side4 => exact HC0_1.out); (case side5 => exact kc_ (Kd.C_below HR0_2.out HB.out)); (case side6 => exact HC0_2.out); rintro e w232 ⟨v313, v316, v319, rfl, ho0, ho1, ho2, hb⟩; refine ⟨_, rfl, ?_⟩; have HO314 := Aside0.mk (Kd.R_lower ho0 (below_size (lb3_ HB.out GE309.out GE310.out GE311.out))); have HO317 := Aside0.mk (Kd.R_lower ho1 (below_size (lb3_ HB.out GE309.out GE310.out GE311.out))); have HO320 := Aside0.mk (Kd.R_lower ho2 (below_size (lb3_ HB.out GE309.out GE310.out GE311.out))); replace BK309 := Aside0.mk (bb_ (bk_ BK309.out) hb); replace BK310 := Aside0.mk (bb_ (bk_ BK310.out) hb); replace BK311 := Aside0.mk (bb_ (bk_ BK311.out) hb); replace HB := Aside0.mk (below_step (lb3_ HB.out GE309.out GE310.out GE311.out) hb); (try clear hb); (try clear hb2); (try clear hk); (try clear hi); (try clear ho0); (try clear ho1); (try clear ho2)) | ((with_reducible refine gate_dst (N := 6) rfl ?_); refine box_event ?hg (N := 6) ?hd (cs := #[.slice none 0 0, .slice none 0 0, .slice none 0 0, .int .i64 0, .int .i64 0]) (t := 30) ?hr ?_; (case hd => rfl); (case hg => rfl); (case hr => first | (go_simp; done) | (go_simp; rfl)); intro gb323 hg w233 hbox hb; replace HO314 := Aside0.mk (Kd.R_below (kr_ HO314.out) hb); replace HO317 := Aside0.mk (Kd.R_below (kr_ HO317.out) hb); replace HO320 := Aside0.mk (Kd.R_below (kr_ HO320.out) hb); have BK323 := Aside0.mk (hbox); have GW323 := Aside0.mk (bz_ hg (lb3_ HB.out GE309.out GE310.out GE311.out)); have GE323 := Aside0.mk (bz_ hg (lb3_ HB.out GE309.out GE310.out GE311.out)); replace HB := Aside0.mk (below_step (lb3_ HB.out GE309.out GE310.out GE311.out) hb); have NB309_323 := Aside0.mk (nl_ hg BK309.out); have NB323_309 := Aside0.mk (ng_ hg BK309.out); replace BK309 := Aside0.mk (bb_ (bk_ BK309.out) hb); have NB310_323 := Aside0.mk (nl_ hg BK310.out); have NB323_310 := Aside0.mk (ng_ hg BK310.out); replace BK310 := Aside0.mk (bb_ (bk_ BK310.out) hb); have NB311_323 := Aside0.mk (nl_ hg BK311.out); have NB323_311 := Aside0.mk (ng_ hg BK311.out); replace BK311 := Aside0.mk (bb_ (bk_ BK311.out) hb); clear hb hbox hg; obtain ⟨Ao234, co234, eo234⟩ := Kd.R_slice HO314.out; subst eo234; have hnb235 := NB323_309.out; have hnc235 := NB309_323.out; have hnb236 := NB323_310.out; have hnc236 := NB310_323.out; have hnb237 := NB323_311.out; have hnc237 := NB311_323.out; obtain ⟨hcz238_0, hcz238_1, hcz238_2, hcz238_3, hcz238_4⟩ := cz5_ BK323.out; obtain ⟨hfz238_0, hfz238_1, hfz238_2, hfz238_3, hfz238_4⟩ := fz5_ BK323.out; obtain ⟨Ao239, co239, eo239⟩ := Kd.R_slice HO317.out; subst eo239; obtain ⟨Ao240, co240, eo240⟩ := Kd.R_slice HO320.out; subst eo240; have hnb241 := NB310_311.out; have hnc241 := NB311_310.out; obtain ⟨hcz242_0, hcz242_1, hcz242_2, hcz242_3, hcz242_4, hcz242_5, hcz242_6⟩ := cz7_ BK310.out; obtain ⟨hfz242_0, hfz242_1, hfz242_2, hfz242_3, hfz242_4, hfz242_5, hfz242_6⟩ := fz7_ BK310.out; obtain ⟨hcz243_0, hcz243_1, hcz243_2, hcz243_3, hcz243_4⟩ := cz5_ BK309.out; obtain ⟨hfz243_0, hfz243_1, hfz243_2, hfz243_3, hfz243_4⟩ := fz5_ BK309.out))
     have n0_ : Aside0 (Kd.R k37 37 ((((((w233.setCell ⟨gb323, 0, none⟩ (.slice Ao234 t312.length co234)).setCell ⟨gb323, 1, none⟩ (.slice Ao239 t315.length co239)).setCell ⟨gb323, 2, none⟩ (.slice Ao240 t318.length co240)).setCell ⟨gb323, 3, none⟩ (.int .i64 t321)).setCell ⟨gb323, 4, none⟩ (.int .i64 t322)).setCell ⟨gb323, 4, none⟩ (.int .i64 (wrap64 (a0_4 + a1_1)))) w.heap.size (fun _ => True) (.slice Ao234 t312.length co234) t312) := ⟨by (with_reducible repeat (first | apply Kd.R_alloc | apply Kd.R_drewN | apply Kd.R_drew)); exact Kd.R_mono (Kd.R_far (p := ⟨gb323, 4, none⟩) (Kd.R_far (p := ⟨gb323, 4, none⟩) (Kd.R_far (p := ⟨gb323, 3, none⟩) (Kd.R_far (p := ⟨gb323, 2, none⟩) (Kd.R_far (p := ⟨gb323, 1, none⟩) (Kd.R_far (p := ⟨gb323, 0, none⟩) (Kd.R_types HO314.out BK323.out (by decide)) (fun _ hk => hk.2) (.slice Ao234 t312.length co234)) (fun _ hk => hk.2) (.slice Ao239 t315.length co239)) (fun _ hk => hk.2) (.slice Ao240 t318.length co240)) (fun _ hk => hk.2) (.int .i64 t321)) (fun _ hk => hk.2) (.int .i64 t322)) (fun _ hk => hk.2) (.int .i64 (wrap64 (a0_4 + a1_1)))) (fun _ hk => trivial)⟩
     have n1_ : Aside0 (Kd.R Kd.bool 4 ((((((w233.setCell ⟨gb323, 0, none⟩ (.slice Ao234 t312.length co234)).setCell ⟨gb323, 1, none⟩ (.slice Ao239 t315.length co239)).setCell ⟨gb323, 2, none⟩ (.slice Ao240 t318.length co240)).setCell ⟨gb323, 3, none⟩ (.int .i64 t321)).setCell ⟨gb323, 4, none⟩ (.int .i64 t322)).setCell ⟨gb323, 4, none⟩ (.int .i64 (wrap64 (a0_4 + a1_1)))) w.heap.size (fun k_ => some k_ ≠ (.slice Ao240 t318.length co240 : Value).ownBlock) (.slice Ao239 t315.length co239) t315) := ⟨by (with_reducible repeat (first | apply Kd.R_alloc | apply Kd.R_drewN | apply Kd.R_drew)); exact Kd.R_mono (Kd.R_far (p := ⟨gb323, 4, none⟩) (Kd.R_far (p := ⟨gb323, 4, none⟩) (Kd.R_far (p := ⟨gb323, 3, none⟩) (Kd.R_far (p := ⟨gb323, 2, none⟩) (Kd.R_far (p := ⟨gb323, 1, none⟩) (Kd.R_far (p := ⟨gb323, 0, none⟩) (Kd.R_types HO317.out BK323.out (by decide)) (fun _ hk => hk.2) (.slice Ao234 t312.length co234)) (fun _ hk => hk.2) (.slice Ao239 t315.length co239)) (fun _ hk => hk.2) (.slice Ao240 t318.length co240)) (fun _ hk => hk.2) (.int .i64 t321)) (fun _ hk => hk.2) (.int .i64 t322)) (fun _ hk => hk.2) (.int .i64 (wrap64 (a0_4 + a1_1)))) (fun _ hk => hk.1)⟩
     have n2_ : Aside0 (Kd.R Kd.bool 4 ((((((w233.setCell ⟨gb323, 0, none⟩ (.slice Ao234 t312.length co234)).setCell ⟨gb323, 1, none⟩ (.slice Ao239 t315.length co239)).setCell ⟨gb323, 2, none⟩ (.slice Ao240 t318.length co240)).setCell ⟨gb323, 3, none⟩ (.int .i64 t321)).setCell ⟨gb323, 4, none⟩ (.int .i64 t322)).setCell ⟨gb323, 4, none⟩ (.int .i64 (wrap64 (a0_4 + a1_1)))) w.heap.size (fun k_ => some k_ ≠ (.slice Ao239 t315.length co239 : Value).ownBlock) (.slice Ao240 t318.length co240) t318) := ⟨by (with_reducible repeat (first | apply Kd.R_alloc | apply Kd.R_drewN | apply Kd.R_drew)); exact Kd.R_mono (Kd.R_far (p := ⟨gb323, 4, none⟩) (Kd.R_far (p := ⟨gb323, 4, none⟩) (Kd.R_far (p := ⟨gb323, 3, none⟩) (Kd.R_far (p := ⟨gb323, 2, none⟩) (Kd.R_far (p := ⟨gb323, 1, none⟩) (Kd.R_far (p := ⟨gb323, 0, none⟩) (Kd.R_types HO320.out BK323.out (by decide)) (fun _ hk => hk.2) (.slice Ao234 t312.length co234)) (fun _ hk => hk.2) (.slice Ao239 t315.length co239)) (fun _ hk => hk.2) (.slice Ao240 t318.length co240)) (fun _ hk => hk.2) (.int .i64 t321)) (fun _ hk => hk.2) (.int .i64 t322)) (fun _ hk => hk.2) (.int .i64 (wrap64 (a0_4 + a1_1)))) (fun _ hk => hk.1)⟩
     have n3_ : Aside0 (((((((w233.setCell ⟨gb323, 0, none⟩ (.slice Ao234 t312.length co234)).setCell ⟨gb323, 1, none⟩ (.slice Ao239 t315.length co239)).setCell ⟨gb323, 2, none⟩ (.slice Ao240 t318.length co240)).setCell ⟨gb323, 3, none⟩ (.int .i64 t321)).setCell ⟨gb323, 4, none⟩ (.int .i64 t322)).setCell ⟨gb323, 4, none⟩ (.int .i64 (wrap64 (a0_4 + a1_1)))).heap[gb309]? = some (.cells #[.slice A0_0 l0_0.length c0_0, .slice A0_1 l0_1.length c0_1, .slice A0_2 l0_2.length c0_2, .int .i64 a0_3, .int .i64 a0_4] 30 (0, 0))) := ⟨by exact (f6_ BK309.out NB309_323.out _ _ _ _ _ _)⟩
     have n4_ : Aside0 (((((((w233.setCell ⟨gb323, 0, none⟩ (.slice Ao234 t312.length co234)).setCell ⟨gb323, 1, none⟩ (.slice Ao239 t315.length co239)).setCell ⟨gb323, 2, none⟩ (.slice Ao240 t318.length co240)).setCell ⟨gb323, 3, none⟩ (.int .i64 t321)).setCell ⟨gb323, 4, none⟩ (.int .i64 t322)).setCell ⟨gb323, 4, none⟩ (.int .i64 (wrap64 (a0_4 + a1_1)))).heap[gb310]? = some (.cells #[.int .i64 a1_0, .int .i64 a1_1, .int .i64 a1_2, .int .i64 a1_3, .int .i64 a1_4, .int .i64 a1_5, .int .i64 a1_6] 39 (0, 0))) := ⟨by exact (f6_ BK310.out NB310_323.out _ _ _ _ _ _)⟩
     have n5_ : Aside0 (((((((w233.setCell ⟨gb323, 0, none⟩ (.slice Ao234 t312.length co234)).setCell ⟨gb323, 1, none⟩ (.slice Ao239 t315.length co239)).setCell ⟨gb323, 2, none⟩ (.slice Ao240 t318.length co240)).setCell ⟨gb323, 3, none⟩ (.int .i64 t321)).setCell ⟨gb323, 4, none⟩ (.int .i64 t322)).setCell ⟨gb323, 4, none⟩ (.int .i64 (wrap64 (a0_4 + a1_1)))).heap[gb311]? = some (.cells #[.slice none 0 0, .slice none 0 0, .slice none 0 0, .int .i64 0, .int .i64 0] 30 (0, 0))) := ⟨by exact (f6_ BK311.out NB311_323.out _ _ _ _ _ _)⟩
     have n6_ : Aside0 (((((((w233.setCell ⟨gb323, 0, none⟩ (.slice Ao234 t312.length co234)).setCell ⟨gb323, 1, none⟩ (.slice Ao239 t315.length co239)).setCell ⟨gb323, 2, none⟩ (.slice Ao240 t318.length co240)).setCell ⟨gb323, 3, none⟩ (.int .i64 t321)).setCell ⟨gb323, 4, none⟩ (.int .i64 t322)).setCell ⟨gb323, 4, none⟩ (.int .i64 (wrap64 (a0_4 + a1_1)))).heap[gb323]? = some (.cells #[.slice Ao234 t312.length co234, .slice Ao239 t315.length co239, .slice Ao240 t318.length co240, .int .i64 t321, .int .i64 (wrap64 (a0_4 + a1_1))] 30 (0, 0))) := ⟨by (with_reducible repeat (first | refine blk_drewN ?_ _ | refine blk_drew ?_ | refine blk_alloc ?_ _)); refine blk_put (cs := #[.slice Ao234 t312.length co234, .slice Ao239 t315.length co239, .slice Ao240 t318.length co240, .int .i64 t321, .int .i64 t322]) ?_ 4 _ rfl; (with_reducible repeat (first | refine blk_drewN ?_ _ | refine blk_drew ?_ | refine blk_alloc ?_ _)); refine blk_put (cs := #[.slice Ao234 t312.length co234, .slice Ao239 t315.length co239, .slice Ao240 t318.length co240, .int .i64 t321, .int .i64 0]) ?_ 4 _ rfl; (with_reducible repeat (first | refine blk_drewN ?_ _ | refine blk_drew ?_ | refine blk_alloc ?_ _)); refine blk_put (cs := #[.slice Ao234 t312.length co234, .slice Ao239 t315.length co239, .slice Ao240 t318.length co240, .int .i64 0, .int .i64 0]) ?_ 3 _ rfl; (with_reducible repeat (first | refine blk_drewN ?_ _ | refine blk_drew ?_ | refine blk_alloc ?_ _)); refine blk_put (cs := #[.slice Ao234 t312.length co234, .slice Ao239 t315.length co239, .slice none 0 0, .int .i64 0, .int .i64 0]) ?_ 2 _ rfl; (with_reducible repeat (first | refine blk_drewN ?_ _ | refine blk_drew ?_ | refine blk_alloc ?_ _)); refine blk_put (cs := #[.slice Ao234 t312.length co234, .slice none 0 0, .slice none 0 0, .int .i64 0, .int .i64 0]) ?_ 1 _ rfl; (with_reducible repeat (first | refine blk_drewN ?_ _ | refine blk_drew ?_ | refine blk_alloc ?_ _)); refine blk_put (cs := #[.slice none 0 0, .slice none 0 0, .slice none 0 0, .int .i64 0, .int .i64 0]) ?_ 0 _ rfl; (with_reducible repeat (first | refine blk_drewN ?_ _ | refine blk_drew ?_ | refine blk_alloc ?_ _)); exact BK323.out⟩
     have n7_ : Aside0 (Below w.heap.size w ((((((w233.setCell ⟨gb323, 0, none⟩ (.slice Ao234 t312.length co234)).setCell ⟨gb323, 1, none⟩ (.slice Ao239 t315.length co239)).setCell ⟨gb323, 2, none⟩ (.slice Ao240 t318.length co240)).setCell ⟨gb323, 3, none⟩ (.int .i64 t321)).setCell ⟨gb323, 4, none⟩ (.int .i64 t322)).setCell ⟨gb323, 4, none⟩ (.int .i64 (wrap64 (a0_4 + a1_1))))) := ⟨by repeat (first | (with_reducible first | exact HB.out | apply below_alloc | apply pw_below_drewN | apply below_drew1 | refine below_set ?_ GE309.out | refine below_set ?_ GE310.out | refine below_set ?_ GE311.out | refine below_set ?_ GE323.out) | exact HB.out)⟩
     (try clear HO314)
     (try clear HO317)
     (try clear HO320)
     (try clear BK309)
     (try clear BK310)
     (try clear BK311)
     (try clear BK323)
     (try clear HB)
     generalize ((((((w233.setCell ⟨gb323, 0, none⟩ (.slice Ao234 t312.length co234)).setCell ⟨gb323, 1, none⟩ (.slice Ao239 t315.length co239)).setCell ⟨gb323, 2, none⟩ (.slice Ao240 t318.length co240)).setCell ⟨gb323, 3, none⟩ (.int .i64 t321)).setCell ⟨gb323, 4, none⟩ (.int .i64 t322)).setCell ⟨gb323, 4, none⟩ (.int .i64 (wrap64 (a0_4 + a1_1)))) = w244 at n0_ n1_ n2_ n3_ n4_ n5_ n6_ n7_ ⊢
     have HO314 := n0_
     have HO317 := n1_
     have HO320 := n2_
     have BK309 := n3_
     have BK310 := n4_
     have BK311 := n5_
     have BK323 := n6_
     have HB := n7_
     clear n0_ n1_ n2_ n3_ n4_ n5_ n6_ n7_
     replace HO314 := Aside0.mk (Kd.R_drew HO314.out)
     replace HO317 := Aside0.mk (Kd.R_drew HO317.out)
     replace HO320 := Aside0.mk (Kd.R_drew HO320.out)
     replace BK309 := Aside0.mk (blk_drew BK309.out)
     replace BK310 := Aside0.mk (blk_drew BK310.out)
     replace BK311 := Aside0.mk (blk_drew BK311.out)
     replace BK323 := Aside0.mk (blk_drew BK323.out)
     replace HB := Aside0.mk (below_drew1 HB.out)
     refine start_ (n := 8) (S := fun w' => w'.cell? ⟨gb323, 0, none⟩ = some (.slice Ao234 t312.length co234) ∧ w'.cell? ⟨gb323, 1, none⟩ = some (.slice Ao239 t315.length co239) ∧ w'.cell? ⟨gb323, 2, none⟩ = some (.slice Ao240 t318.length co240) ∧ w'.cell? ⟨gb323, 3, none⟩ = some (.int .i64 t321) ∧ w'.cell? ⟨gb323, 4, none⟩ = some (.int .i64 (wrap64 (a0_4 + a1_1)))) (ds := []) #[fF,fF,fF,fF,fF,fF,fF,fF] (by kernel_rfl) rfl rfl ⟨(blk_cell BK323.out 0).trans rfl, (blk_cell BK323.out 1).trans rfl, (blk_cell BK323.out 2).trans rfl, (blk_cell BK323.out 3).trans rfl, (blk_cell BK323.out 4).trans rfl⟩ (fun hHeld => ?_); refine with_tabW spec_l25Make.tab15 spec_l25Make.bits15 (fun HT_ HW_ => ?_)
     generalize w244.drew = w245 at HO314 HO317 HO320 BK309 BK310 BK311 BK323 HB hHeld ⊢
     refine pz_ HT_ 1 (some 82) #[fF,tT,fF,fF,fF,fF,fF,fF] ?_
     refine pz_ HT_ 2 (some 83) #[fF,tT,tT,fF,fF,fF,fF,fF] ?_
     refine tk_ HT_ HW_ hHeld 0 (some 81) #[tT,tT,tT,fF,fF,fF,fF,fF] ?_
     refine tk_ HT_ HW_ hHeld 3 (some 84) #[tT,tT,tT,tT,fF,fF,fF,fF] ?_
     refine one_ (i := 4) (N := some 85) #[tT,tT,tT,tT,tT,fF,fF,fF] rfl rfl (one_of HT_.out (by kernel_rfl)) (by decide) (fun K hK => ?_)
     refine gs_ Try.func67 #[.agg #[.slice Ao234 t312.length co234, .slice Ao239 t315.length co239, .slice Ao240 t318.length co240, .int .i64 t321, .int .i64 (wrap64 (a0_4 + a1_1))]] ?_
     with_reducible refine (spec_l25Good.calls k _ _ t312 _ _ t315 _ _ t318 t321 (wrap64 (a0_4 + a1_1)) t358 _ ?side1 ?side2 ?side3 ?side4 ?side5 ?side6 A225.out).mono ?_
     (case side1 => exact kc_ (Kd.R_reads' HO314.out).2.2)
     (case side2 => exact (Kd.R_reads' HO314.out).2.1)
     (case side3 => exact kc_ (Kd.R_reads' HO317.out).2.2)
     (case side4 => exact (Kd.R_reads' HO317.out).2.1)
     (case side5 => exact kc_ (Kd.R_reads' HO320.out).2.2)
     (case side6 => exact (Kd.R_reads' HO320.out).2.1)
     rintro e w246 ⟨rfl, hb⟩
     refine ⟨_, rfl, ?_⟩
     replace HO314 := Aside0.mk (Kd.R_below (kr_ HO314.out) hb)
     replace HO317 := Aside0.mk (Kd.R_below (kr_ HO317.out) hb)
     replace HO320 := Aside0.mk (Kd.R_below (kr_ HO320.out) hb)
     replace BK309 := Aside0.mk (bb_ (bk_ BK309.out) hb)
     replace BK310 := Aside0.mk (bb_ (bk_ BK310.out) hb)
     replace BK311 := Aside0.mk (bb_ (bk_ BK311.out) hb)
     replace BK323 := Aside0.mk (bb_ (bk_ BK323.out) hb)
     replace HB := Aside0.mk (below_step (by repeat (first | (with_reducible first | exact HB.out | apply below_alloc | apply pw_below_drewN | apply below_drew1 | refine below_set ?_ GE309.out | refine below_set ?_ GE310.out | refine below_set ?_ GE311.out | refine below_set ?_ GE323.out) | exact HB.out)) hb)
     (try clear hb)
     (try clear hb2)
     (try clear hk)
     (try clear hi)
     refine hK.out _ _ ⟨(blk_cell BK323.out 0).trans rfl, (blk_cell BK323.out 1).trans rfl, (blk_cell BK323.out 2).trans rfl, (blk_cell BK323.out 3).trans rfl, (blk_cell BK323.out 4).trans rfl⟩ (fun hHeld => ?_)
     clear hK K
     refine na_ ?_
     refine pz_ HT_ 5 (some 86) #[tT,tT,tT,tT,tT,tT,fF,fF] ?_
     refine one_ (i := 6) (N := none) #[tT,tT,tT,tT,tT,tT,tT,fF] rfl rfl (one_of HT_.out (by kernel_rfl)) (by decide) (fun K hK => ?_)
     have hs247 : w246.cell? ⟨gb311, 0, none⟩ = some (.slice none 0 0) := (blk_cell BK311.out 0).trans rfl
     have hfs247 := blk_frozen BK311.out 0
     have hns247_0 := NB309_311.out
     have hns247_1 := NB310_311.out
     have hns247_3 := NB323_311.out
     have hms247_0 := NB311_309.out
     have hms247_1 := NB311_310.out
     have hms247_3 := NB311_323.out
     have hs248 : w246.cell? ⟨gb311, 1, none⟩ = some (.slice none 0 0) := (blk_cell BK311.out 1).trans rfl
     have hfs248 := blk_frozen BK311.out 1
     have hns248_0 := NB309_311.out
     have hns248_1 := NB310_311.out
     have hns248_3 := NB323_311.out
     have hms248_0 := NB311_309.out
     have hms248_1 := NB311_310.out
     have hms248_3 := NB311_323.out
     have hs249 : w246.cell? ⟨gb311, 2, none⟩ = some (.slice none 0 0) := (blk_cell BK311.out 2).trans rfl
     have hfs249 := blk_frozen BK311.out 2
     have hns249_0 := NB309_311.out
     have hns249_1 := NB310_311.out
     have hns249_3 := NB323_311.out
     have hms249_0 := NB311_309.out
     have hms249_1 := NB311_310.out
     have hms249_3 := NB311_323.out
     have hs250 : w246.cell? ⟨gb311, 3, none⟩ = some (.int .i64 0) := (blk_cell BK311.out 3).trans rfl
     have hfs250 := blk_frozen BK311.out 3
     have hns250_0 := NB309_311.out
     have hns250_1 := NB310_311.out
     have hns250_3 := NB323_311.out
     have hms250_0 := NB311_309.out
     have hms250_1 := NB311_310.out
     have hms250_3 := NB311_323.out
     have hs251 : w246.cell? ⟨gb311, 4, none⟩ = some (.int .i64 0) := (blk_cell BK311.out 4).trans rfl
     have hfs251 := blk_frozen BK311.out 4
     have hns251_0 := NB309_311.out
     have hns251_1 := NB310_311.out
     have hns251_3 := NB323_311.out
     have hms251_0 := NB311_309.out
     have hms251_1 := NB311_310.out
     have hms251_3 := NB311_323.out
     refine skip_ (w1 := ?_) (by rfl) rfl ?_ ?_
     rotate_left
     ·
      go_simp
      rfl
     refine hK.out _ _ ⟨((cell_far (p := ⟨gb311, _, none⟩) NB323_311.out _).trans (((cell_far (p := ⟨gb311, _, none⟩) NB323_311.out _).trans (((cell_far (p := ⟨gb311, _, none⟩) NB323_311.out _).trans (((cell_far (p := ⟨gb311, _, none⟩) NB323_311.out _).trans (((cell_far (p := ⟨gb311, _, none⟩) NB323_311.out _).trans (hHeld.1)))))))))), ((cell_far (p := ⟨gb311, _, none⟩) NB323_311.out _).trans (((cell_far (p := ⟨gb311, _, none⟩) NB323_311.out _).trans (((cell_far (p := ⟨gb311, _, none⟩) NB323_311.out _).trans (((cell_far (p := ⟨gb311, _, none⟩) NB323_311.out _).trans (((cell_far (p := ⟨gb311, _, none⟩) NB323_311.out _).trans (hHeld.2.1)))))))))), ((cell_far (p := ⟨gb311, _, none⟩) NB323_311.out _).trans (((cell_far (p := ⟨gb311, _, none⟩) NB323_311.out _).trans (((cell_far (p := ⟨gb311, _, none⟩) NB323_311.out _).trans (((cell_far (p := ⟨gb311, _, none⟩) NB323_311.out _).trans (((cell_far (p := ⟨gb311, _, none⟩) NB323_311.out _).trans (hHeld.2.2.1)))))))))), ((cell_far (p := ⟨gb311, _, none⟩) NB323_311.out _).trans (((cell_far (p := ⟨gb311, _, none⟩) NB323_311.out _).trans (((cell_far (p := ⟨gb311, _, none⟩) NB323_311.out _).trans (((cell_far (p := ⟨gb311, _, none⟩) NB323_311.out _).trans (((cell_far (p := ⟨gb311, _, none⟩) NB323_311.out _).trans (hHeld.2.2.2.1)))))))))), ((cell_far (p := ⟨gb311, _, none⟩) NB323_311.out _).trans (((cell_far (p := ⟨gb311, _, none⟩) NB323_311.out _).trans (((cell_far (p := ⟨gb311, _, none⟩) NB323_311.out _).trans (((cell_far (p := ⟨gb311, _, none⟩) NB323_311.out _).trans (((cell_far (p := ⟨gb311, _, none⟩) NB323_311.out _).trans (hHeld.2.2.2.2))))))))))⟩ (fun hHeld => ?_)
     clear hK K
     refine pz_ HT_ 7 (some 5) #[tT,tT,tT,tT,tT,tT,tT,tT] ?_
     refine done_ (done_of HT_.out (by kernel_rfl)) ?_
     try go_wp2
     refine bodyPost_ret (results_ct rfl _ _ gb311 30 #[.slice Ao234 t312.length co234, .slice Ao239 t315.length co239, .slice Ao240 t318.length co240, .int .i64 t321, .int .i64 (wrap64 (a0_4 + a1_1))] (0, 0) _ rfl (by (with_reducible repeat (first | refine blk_drewN ?_ _ | refine blk_drew ?_ | refine blk_alloc ?_ _)); refine blk_put (cs := #[.slice Ao234 t312.length co234, .slice Ao239 t315.length co239, .slice Ao240 t318.length co240, .int .i64 t321, .int .i64 0]) ?_ 4 _ rfl; (with_reducible repeat (first | refine blk_drewN ?_ _ | refine blk_drew ?_ | refine blk_alloc ?_ _)); refine blk_put (cs := #[.slice Ao234 t312.length co234, .slice Ao239 t315.length co239, .slice Ao240 t318.length co240, .int .i64 0, .int .i64 0]) ?_ 3 _ rfl; (with_reducible repeat (first | refine blk_drewN ?_ _ | refine blk_drew ?_ | refine blk_alloc ?_ _)); refine blk_put (cs := #[.slice Ao234 t312.length co234, .slice Ao239 t315.length co239, .slice none 0 0, .int .i64 0, .int .i64 0]) ?_ 2 _ rfl; (with_reducible repeat (first | refine blk_drewN ?_ _ | refine blk_drew ?_ | refine blk_alloc ?_ _)); refine blk_put (cs := #[.slice Ao234 t312.length co234, .slice none 0 0, .slice none 0 0, .int .i64 0, .int .i64 0]) ?_ 1 _ rfl; (with_reducible repeat (first | refine blk_drewN ?_ _ | refine blk_drew ?_ | refine blk_alloc ?_ _)); refine blk_put (cs := #[.slice none 0 0, .slice none 0 0, .slice none 0 0, .int .i64 0, .int .i64 0]) ?_ 0 _ rfl; (with_reducible repeat (first | refine blk_drewN ?_ _ | refine blk_drew ?_ | refine blk_alloc ?_ _)); exact BK311.out) Try.underlying30 rfl (by kernel_rfl)) rfl ?_
     exact ⟨_, _, _, rr_, by (with_reducible repeat (first | apply Kd.R_alloc | apply Kd.R_drewN | apply Kd.R_drew)); exact Kd.R_mono (r5_ HO314.out BK311.out (by decide) _ _ _ _ _) (fun _ hk => trivial), by (with_reducible repeat (first | apply Kd.R_alloc | apply Kd.R_drewN | apply Kd.R_drew)); exact Kd.R_mono (r5_ HO317.out BK311.out (by decide) _ _ _ _ _) (fun _ hk => hk), by (with_reducible repeat (first | apply Kd.R_alloc | apply Kd.R_drewN | apply Kd.R_drew)); exact Kd.R_mono (r5_ HO320.out BK311.out (by decide) _ _ _ _ _) (fun _ hk => hk), by repeat (first | (with_reducible first | exact HB.out | apply below_alloc | apply pw_below_drewN | apply below_drew1 | refine below_set ?_ GE309.out | refine below_set ?_ GE310.out | refine below_set ?_ GE311.out | refine below_set ?_ GE323.out) | exact HB.out)⟩
    ·
     rw [if_neg c224] at H
     have c224b0 : (a0_3 == 0) = false := beq_eq_false_iff_ne.mpr c224
     have c224b1 : (a0_3 != 0) = true := bne_iff_ne.mpr c224
     simp only [Option.some.injEq, Prod.mk.injEq] at H
     obtain ⟨rfl, rfl, rfl, rfl, rfl, rfl⟩ := H
     go_enter Try.func78, Try.ntmps78
     try go_wp2_with (first | ((with_reducible refine gate_dst (N := 2) rfl ?_); refine box_event ?hg (N := 2) ?hd (cs := #[.slice A0_0 l0_0.length c0_0, .slice A0_1 l0_1.length c0_1, .slice A0_2 l0_2.length c0_2, .int .i64 a0_3, .int .i64 a0_4]) (t := 30) ?hr ?_; (case hd => rfl); (case hg => rfl); (case hr => first | (go_simp; done) | (go_simp; rfl)); intro gb309 hg w252 hbox hb; have BK309 := Aside0.mk (hbox); have GW309 := Aside0.mk ((bz_ hg (lb0_ HB.out))); have GE309 := Aside0.mk ((bz_ hg (lb0_ HB.out))); replace HB := Aside0.mk (below_step (lb0_ HB.out) hb); clear hb hbox hg) | ((with_reducible refine gate_dst (N := 3) rfl ?_); refine box_event ?hg (N := 3) ?hd (cs := #[.int .i64 a1_0, .int .i64 a1_1, .int .i64 a1_2, .int .i64 a1_3, .int .i64 a1_4, .int .i64 a1_5, .int .i64 a1_6]) (t := 39) ?hr ?_; (case hd => rfl); (case hg => rfl); (case hr => first | (go_simp; done) | (go_simp; rfl)); intro gb310 hg w253 hbox hb; have BK310 := Aside0.mk (hbox); have GW310 := Aside0.mk ((bz_ hg (lb1_ HB.out GE309.out))); have GE310 := Aside0.mk ((bz_ hg (lb1_ HB.out GE309.out))); replace HB := Aside0.mk (below_step (lb1_ HB.out GE309.out) hb); have NB309_310 := Aside0.mk (nl_ hg BK309.out); have NB310_309 := Aside0.mk (ng_ hg BK309.out); replace BK309 := Aside0.mk (bb_ (bk_ BK309.out) hb); clear hb hbox hg) | ((with_reducible refine gate_dst (N := 4) rfl ?_); refine box_event ?hg (N := 4) ?hd (cs := #[.slice none 0 0, .slice none 0 0, .slice none 0 0, .int .i64 0, .int .i64 0]) (t := 30) ?hr ?_; (case hd => rfl); (case hg => rfl); (case hr => first | (go_simp; done) | (go_simp; rfl)); intro gb311 hg w254 hbox hb; have BK311 := Aside0.mk (hbox); have GW311 := Aside0.mk ((bz_ hg (lb2_ HB.out GE309.out GE310.out))); have GE311 := Aside0.mk ((bz_ hg (lb2_ HB.out GE309.out GE310.out))); replace HB := Aside0.mk (below_step (lb2_ HB.out GE309.out GE310.out) hb); have NB309_311 := Aside0.mk (nl_ hg BK309.out); have NB311_309 := Aside0.mk (ng_ hg BK309.out); replace BK309 := Aside0.mk (bb_ (bk_ BK309.out) hb); have NB310_311 := Aside0.mk (nl_ hg BK310.out); have NB311_310 := Aside0.mk (ng_ hg BK310.out); replace BK310 := Aside0.mk (bb_ (bk_ BK310.out) hb); clear hb hbox hg; have hnb255 := NB309_310.out; have hnc255 := NB310_309.out; have hnb256 := NB309_311.out; have hnc256 := NB311_309.out; obtain ⟨hcz257_0, hcz257_1, hcz257_2, hcz257_3, hcz257_4⟩ := cz5_ BK309.out; obtain ⟨hfz257_0, hfz257_1, hfz257_2, hfz257_3, hfz257_4⟩ := fz5_ BK309.out) | ((with_reducible refine gate_callee (f := 84) rfl ?_); refine ga_ (some 9) Try.func84 #[.agg #[.slice A0_0 l0_0.length c0_0, .slice A0_1 l0_1.length c0_1, .slice A0_2 l0_2.length c0_2, .int .i64 a0_3, .int .i64 a0_4]] ?_; (with_reducible refine (spec_l25Own.calls _ _ l0_0 _ _ l0_1 _ _ l0_2 a0_3 a0_4 t312 t315 t318 t321 t322 _ ?side1 ?side2 ?side3 ?side4 ?side5 ?side6 A3.out).mono ?_); (case side1 => exact kc_ (Kd.C_below HR0_0.out HB.out)); (case side2 => exact HC0_0.out); (case side3 => exact kc_ (Kd.C_below HR0_1.out HB.out)); (case side4 => exact HC0_1.out); (case side5 => exact kc_ (Kd.C_below HR0_2.out HB.out)); (case side6 => exact HC0_2.out); rintro e w258 ⟨v313, v316, v319, rfl, ho0, ho1, ho2, hb⟩; refine ⟨_, rfl, ?_⟩; have HO314 := Aside0.mk (Kd.R_lower ho0 (below_size (lb3_ HB.out GE309.out GE310.out GE311.out))); have HO317 := Aside0.mk (Kd.R_lower ho1 (below_size (lb3_ HB.out GE309.out GE310.out GE311.out))); have HO320 := Aside0.mk (Kd.R_lower ho2 (below_size (lb3_ HB.out GE309.out GE310.out GE311.out))); replace BK309 := Aside0.mk (bb_ (bk_ BK309.out) hb); replace BK310 := Aside0.mk (bb_ (bk_ BK310.out) hb); replace BK311 := Aside0.mk (bb_ (bk_ BK311.out) hb); replace HB := Aside0.mk (below_step (lb3_ HB.out GE309.out GE310.out GE311.out) hb); (try clear hb); (try clear hb2); (try clear hk); (try clear hi); (try clear ho0); (try clear ho1); (try clear ho2)) | ((with_reducible refine gate_dst (N := 6) rfl ?_); refine box_event ?hg (N := 6) ?hd (cs := #[.slice none 0 0, .slice none 0 0, .slice none 0 0, .int .i64 0, .int .i64 0]) (t := 30) ?hr ?_; (case hd => rfl); (case hg => rfl); (case hr => first | (go_simp; done) | (go_simp; rfl)); intro gb323 hg w259 hbox hb; replace HO314 := Aside0.mk (Kd.R_below (kr_ HO314.out) hb); replace HO317 := Aside0.mk (Kd.R_below (kr_ HO317.out) hb); replace HO320 := Aside0.mk (Kd.R_below (kr_ HO320.out) hb); have BK323 := Aside0.mk (hbox); have GW323 := Aside0.mk (bz_ hg (lb3_ HB.out GE309.out GE310.out GE311.out)); have GE323 := Aside0.mk (bz_ hg (lb3_ HB.out GE309.out GE310.out GE311.out)); replace HB := Aside0.mk (below_step (lb3_ HB.out GE309.out GE310.out GE311.out) hb); have NB309_323 := Aside0.mk (nl_ hg BK309.out); have NB323_309 := Aside0.mk (ng_ hg BK309.out); replace BK309 := Aside0.mk (bb_ (bk_ BK309.out) hb); have NB310_323 := Aside0.mk (nl_ hg BK310.out); have NB323_310 := Aside0.mk (ng_ hg BK310.out); replace BK310 := Aside0.mk (bb_ (bk_ BK310.out) hb); have NB311_323 := Aside0.mk (nl_ hg BK311.out); have NB323_311 := Aside0.mk (ng_ hg BK311.out); replace BK311 := Aside0.mk (bb_ (bk_ BK311.out) hb); clear hb hbox hg; obtain ⟨Ao260, co260, eo260⟩ := Kd.R_slice HO314.out; subst eo260; have hnb261 := NB323_309.out; have hnc261 := NB309_323.out; have hnb262 := NB323_310.out; have hnc262 := NB310_323.out; have hnb263 := NB323_311.out; have hnc263 := NB311_323.out; obtain ⟨hcz264_0, hcz264_1, hcz264_2, hcz264_3, hcz264_4⟩ := cz5_ BK323.out; obtain ⟨hfz264_0, hfz264_1, hfz264_2, hfz264_3, hfz264_4⟩ := fz5_ BK323.out; obtain ⟨Ao265, co265, eo265⟩ := Kd.R_slice HO317.out; subst eo265; obtain ⟨Ao266, co266, eo266⟩ := Kd.R_slice HO320.out; subst eo266; have hnb267 := NB310_311.out; have hnc267 := NB311_310.out; obtain ⟨hcz268_0, hcz268_1, hcz268_2, hcz268_3, hcz268_4, hcz268_5, hcz268_6⟩ := cz7_ BK310.out; obtain ⟨hfz268_0, hfz268_1, hfz268_2, hfz268_3, hfz268_4, hfz268_5, hfz268_6⟩ := fz7_ BK310.out; obtain ⟨hcz269_0, hcz269_1, hcz269_2, hcz269_3, hcz269_4⟩ := cz5_ BK309.out; obtain ⟨hfz269_0, hfz269_1, hfz269_2, hfz269_3, hfz269_4⟩ := fz5_ BK309.out))
     have n0_ : Aside0 (Kd.R k37 37 ((((((w259.setCell ⟨gb323, 0, none⟩ (.slice Ao260 t312.length co260)).setCell ⟨gb323, 1, none⟩ (.slice Ao265 t315.length co265)).setCell ⟨gb323, 2, none⟩ (.slice Ao266 t318.length co266)).setCell ⟨gb323, 3, none⟩ (.int .i64 t321)).setCell ⟨gb323, 4, none⟩ (.int .i64 t322)).setCell ⟨gb323, 4, none⟩ (.int .i64 (wrap64 (a0_4 + a1_1)))) w.heap.size (fun _ => True) (.slice Ao260 t312.length co260) t312) := ⟨by (with_reducible repeat (first | apply Kd.R_alloc | apply Kd.R_drewN | apply Kd.R_drew)); exact Kd.R_mono (Kd.R_far (p := ⟨gb323, 4, none⟩) (Kd.R_far (p := ⟨gb323, 4, none⟩) (Kd.R_far (p := ⟨gb323, 3, none⟩) (Kd.R_far (p := ⟨gb323, 2, none⟩) (Kd.R_far (p := ⟨gb323, 1, none⟩) (Kd.R_far (p := ⟨gb323, 0, none⟩) (Kd.R_types HO314.out BK323.out (by decide)) (fun _ hk => hk.2) (.slice Ao260 t312.length co260)) (fun _ hk => hk.2) (.slice Ao265 t315.length co265)) (fun _ hk => hk.2) (.slice Ao266 t318.length co266)) (fun _ hk => hk.2) (.int .i64 t321)) (fun _ hk => hk.2) (.int .i64 t322)) (fun _ hk => hk.2) (.int .i64 (wrap64 (a0_4 + a1_1)))) (fun _ hk => trivial)⟩
     have n1_ : Aside0 (Kd.R Kd.bool 4 ((((((w259.setCell ⟨gb323, 0, none⟩ (.slice Ao260 t312.length co260)).setCell ⟨gb323, 1, none⟩ (.slice Ao265 t315.length co265)).setCell ⟨gb323, 2, none⟩ (.slice Ao266 t318.length co266)).setCell ⟨gb323, 3, none⟩ (.int .i64 t321)).setCell ⟨gb323, 4, none⟩ (.int .i64 t322)).setCell ⟨gb323, 4, none⟩ (.int .i64 (wrap64 (a0_4 + a1_1)))) w.heap.size (fun k_ => some k_ ≠ (.slice Ao266 t318.length co266 : Value).ownBlock) (.slice Ao265 t315.length co265) t315) := ⟨by (with_reducible repeat (first | apply Kd.R_alloc | apply Kd.R_drewN | apply Kd.R_drew)); exact Kd.R_mono (Kd.R_far (p := ⟨gb323, 4, none⟩) (Kd.R_far (p := ⟨gb323, 4, none⟩) (Kd.R_far (p := ⟨gb323, 3, none⟩) (Kd.R_far (p := ⟨gb323, 2, none⟩) (Kd.R_far (p := ⟨gb323, 1, none⟩) (Kd.R_far (p := ⟨gb323, 0, none⟩) (Kd.R_types HO317.out BK323.out (by decide)) (fun _ hk => hk.2) (.slice Ao260 t312.length co260)) (fun _ hk => hk.2) (.slice Ao265 t315.length co265)) (fun _ hk => hk.2) (.slice Ao266 t318.length co266)) (fun _ hk => hk.2) (.int .i64 t321)) (fun _ hk => hk.2) (.int .i64 t322)) (fun _ hk => hk.2) (.int .i64 (wrap64 (a0_4 + a1_1)))) (fun _ hk => hk.1)⟩
     have n2_ : Aside0 (Kd.R Kd.bool 4 ((((((w259.setCell ⟨gb323, 0, none⟩ (.slice Ao260 t312.length co260)).setCell ⟨gb323, 1, none⟩ (.slice Ao265 t315.length co265)).setCell ⟨gb323, 2, none⟩ (.slice Ao266 t318.length co266)).setCell ⟨gb323, 3, none⟩ (.int .i64 t321)).setCell ⟨gb323, 4, none⟩ (.int .i64 t322)).setCell ⟨gb323, 4, none⟩ (.int .i64 (wrap64 (a0_4 + a1_1)))) w.heap.size (fun k_ => some k_ ≠ (.slice Ao265 t315.length co265 : Value).ownBlock) (.slice Ao266 t318.length co266) t318) := ⟨by (with_reducible repeat (first | apply Kd.R_alloc | apply Kd.R_drewN | apply Kd.R_drew)); exact Kd.R_mono (Kd.R_far (p := ⟨gb323, 4, none⟩) (Kd.R_far (p := ⟨gb323, 4, none⟩) (Kd.R_far (p := ⟨gb323, 3, none⟩) (Kd.R_far (p := ⟨gb323, 2, none⟩) (Kd.R_far (p := ⟨gb323, 1, none⟩) (Kd.R_far (p := ⟨gb323, 0, none⟩) (Kd.R_types HO320.out BK323.out (by decide)) (fun _ hk => hk.2) (.slice Ao260 t312.length co260)) (fun _ hk => hk.2) (.slice Ao265 t315.length co265)) (fun _ hk => hk.2) (.slice Ao266 t318.length co266)) (fun _ hk => hk.2) (.int .i64 t321)) (fun _ hk => hk.2) (.int .i64 t322)) (fun _ hk => hk.2) (.int .i64 (wrap64 (a0_4 + a1_1)))) (fun _ hk => hk.1)⟩
     have n3_ : Aside0 (((((((w259.setCell ⟨gb323, 0, none⟩ (.slice Ao260 t312.length co260)).setCell ⟨gb323, 1, none⟩ (.slice Ao265 t315.length co265)).setCell ⟨gb323, 2, none⟩ (.slice Ao266 t318.length co266)).setCell ⟨gb323, 3, none⟩ (.int .i64 t321)).setCell ⟨gb323, 4, none⟩ (.int .i64 t322)).setCell ⟨gb323, 4, none⟩ (.int .i64 (wrap64 (a0_4 + a1_1)))).heap[gb309]? = some (.cells #[.slice A0_0 l0_0.length c0_0, .slice A0_1 l0_1.length c0_1, .slice A0_2 l0_2.length c0_2, .int .i64 a0_3, .int .i64 a0_4] 30 (0, 0))) := ⟨by exact (f6_ BK309.out NB309_323.out _ _ _ _ _ _)⟩
     have n4_ : Aside0 (((((((w259.setCell ⟨gb323, 0, none⟩ (.slice Ao260 t312.length co260)).setCell ⟨gb323, 1, none⟩ (.slice Ao265 t315.length co265)).setCell ⟨gb323, 2, none⟩ (.slice Ao266 t318.length co266)).setCell ⟨gb323, 3, none⟩ (.int .i64 t321)).setCell ⟨gb323, 4, none⟩ (.int .i64 t322)).setCell ⟨gb323, 4, none⟩ (.int .i64 (wrap64 (a0_4 + a1_1)))).heap[gb310]? = some (.cells #[.int .i64 a1_0, .int .i64 a1_1, .int .i64 a1_2, .int .i64 a1_3, .int .i64 a1_4, .int .i64 a1_5, .int .i64 a1_6] 39 (0, 0))) := ⟨by exact (f6_ BK310.out NB310_323.out _ _ _ _ _ _)⟩
     have n5_ : Aside0 (((((((w259.setCell ⟨gb323, 0, none⟩ (.slice Ao260 t312.length co260)).setCell ⟨gb323, 1, none⟩ (.slice Ao265 t315.length co265)).setCell ⟨gb323, 2, none⟩ (.slice Ao266 t318.length co266)).setCell ⟨gb323, 3, none⟩ (.int .i64 t321)).setCell ⟨gb323, 4, none⟩ (.int .i64 t322)).setCell ⟨gb323, 4, none⟩ (.int .i64 (wrap64 (a0_4 + a1_1)))).heap[gb311]? = some (.cells #[.slice none 0 0, .slice none 0 0, .slice none 0 0, .int .i64 0, .int .i64 0] 30 (0, 0))) := ⟨by exact (f6_ BK311.out NB311_323.out _ _ _ _ _ _)⟩
     have n6_ : Aside0 (((((((w259.setCell ⟨gb323, 0, none⟩ (.slice Ao260 t312.length co260)).setCell ⟨gb323, 1, none⟩ (.slice Ao265 t315.length co265)).setCell ⟨gb323, 2, none⟩ (.slice Ao266 t318.length co266)).setCell ⟨gb323, 3, none⟩ (.int .i64 t321)).setCell ⟨gb323, 4, none⟩ (.int .i64 t322)).setCell ⟨gb323, 4, none⟩ (.int .i64 (wrap64 (a0_4 + a1_1)))).heap[gb323]? = some (.cells #[.slice Ao260 t312.length co260, .slice Ao265 t315.length co265, .slice Ao266 t318.length co266, .int .i64 t321, .int .i64 (wrap64 (a0_4 + a1_1))] 30 (0, 0))) := ⟨by (with_reducible repeat (first | refine blk_drewN ?_ _ | refine blk_drew ?_ | refine blk_alloc ?_ _)); refine blk_put (cs := #[.slice Ao260 t312.length co260, .slice Ao265 t315.length co265, .slice Ao266 t318.length co266, .int .i64 t321, .int .i64 t322]) ?_ 4 _ rfl; (with_reducible repeat (first | refine blk_drewN ?_ _ | refine blk_drew ?_ | refine blk_alloc ?_ _)); refine blk_put (cs := #[.slice Ao260 t312.length co260, .slice Ao265 t315.length co265, .slice Ao266 t318.length co266, .int .i64 t321, .int .i64 0]) ?_ 4 _ rfl; (with_reducible repeat (first | refine blk_drewN ?_ _ | refine blk_drew ?_ | refine blk_alloc ?_ _)); refine blk_put (cs := #[.slice Ao260 t312.length co260, .slice Ao265 t315.length co265, .slice Ao266 t318.length co266, .int .i64 0, .int .i64 0]) ?_ 3 _ rfl; (with_reducible repeat (first | refine blk_drewN ?_ _ | refine blk_drew ?_ | refine blk_alloc ?_ _)); refine blk_put (cs := #[.slice Ao260 t312.length co260, .slice Ao265 t315.length co265, .slice none 0 0, .int .i64 0, .int .i64 0]) ?_ 2 _ rfl; (with_reducible repeat (first | refine blk_drewN ?_ _ | refine blk_drew ?_ | refine blk_alloc ?_ _)); refine blk_put (cs := #[.slice Ao260 t312.length co260, .slice none 0 0, .slice none 0 0, .int .i64 0, .int .i64 0]) ?_ 1 _ rfl; (with_reducible repeat (first | refine blk_drewN ?_ _ | refine blk_drew ?_ | refine blk_alloc ?_ _)); refine blk_put (cs := #[.slice none 0 0, .slice none 0 0, .slice none 0 0, .int .i64 0, .int .i64 0]) ?_ 0 _ rfl; (with_reducible repeat (first | refine blk_drewN ?_ _ | refine blk_drew ?_ | refine blk_alloc ?_ _)); exact BK323.out⟩
     have n7_ : Aside0 (Below w.heap.size w ((((((w259.setCell ⟨gb323, 0, none⟩ (.slice Ao260 t312.length co260)).setCell ⟨gb323, 1, none⟩ (.slice Ao265 t315.length co265)).setCell ⟨gb323, 2, none⟩ (.slice Ao266 t318.length co266)).setCell ⟨gb323, 3, none⟩ (.int .i64 t321)).setCell ⟨gb323, 4, none⟩ (.int .i64 t322)).setCell ⟨gb323, 4, none⟩ (.int .i64 (wrap64 (a0_4 + a1_1))))) := ⟨by repeat (first | (with_reducible first | exact HB.out | apply below_alloc | apply pw_below_drewN | apply below_drew1 | refine below_set ?_ GE309.out | refine below_set ?_ GE310.out | refine below_set ?_ GE311.out | refine below_set ?_ GE323.out) | exact HB.out)⟩
     (try clear HO314)
     (try clear HO317)
     (try clear HO320)
     (try clear BK309)
     (try clear BK310)
     (try clear BK311)
     (try clear BK323)
     (try clear HB)
     generalize ((((((w259.setCell ⟨gb323, 0, none⟩ (.slice Ao260 t312.length co260)).setCell ⟨gb323, 1, none⟩ (.slice Ao265 t315.length co265)).setCell ⟨gb323, 2, none⟩ (.slice Ao266 t318.length co266)).setCell ⟨gb323, 3, none⟩ (.int .i64 t321)).setCell ⟨gb323, 4, none⟩ (.int .i64 t322)).setCell ⟨gb323, 4, none⟩ (.int .i64 (wrap64 (a0_4 + a1_1)))) = w270 at n0_ n1_ n2_ n3_ n4_ n5_ n6_ n7_ ⊢
     have HO314 := n0_
     have HO317 := n1_
     have HO320 := n2_
     have BK309 := n3_
     have BK310 := n4_
     have BK311 := n5_
     have BK323 := n6_
     have HB := n7_
     clear n0_ n1_ n2_ n3_ n4_ n5_ n6_ n7_
     replace HO314 := Aside0.mk (Kd.R_drew HO314.out)
     replace HO317 := Aside0.mk (Kd.R_drew HO317.out)
     replace HO320 := Aside0.mk (Kd.R_drew HO320.out)
     replace BK309 := Aside0.mk (blk_drew BK309.out)
     replace BK310 := Aside0.mk (blk_drew BK310.out)
     replace BK311 := Aside0.mk (blk_drew BK311.out)
     replace BK323 := Aside0.mk (blk_drew BK323.out)
     replace HB := Aside0.mk (below_drew1 HB.out)
     refine start_ (n := 8) (S := fun w' => w'.cell? ⟨gb323, 0, none⟩ = some (.slice Ao260 t312.length co260) ∧ w'.cell? ⟨gb323, 1, none⟩ = some (.slice Ao265 t315.length co265) ∧ w'.cell? ⟨gb323, 2, none⟩ = some (.slice Ao266 t318.length co266) ∧ w'.cell? ⟨gb323, 3, none⟩ = some (.int .i64 t321) ∧ w'.cell? ⟨gb323, 4, none⟩ = some (.int .i64 (wrap64 (a0_4 + a1_1)))) (ds := []) #[fF,fF,fF,fF,fF,fF,fF,fF] (by kernel_rfl) rfl rfl ⟨(blk_cell BK323.out 0).trans rfl, (blk_cell BK323.out 1).trans rfl, (blk_cell BK323.out 2).trans rfl, (blk_cell BK323.out 3).trans rfl, (blk_cell BK323.out 4).trans rfl⟩ (fun hHeld => ?_); refine with_tabW spec_l25Make.tab15 spec_l25Make.bits15 (fun HT_ HW_ => ?_)
     generalize w270.drew = w271 at HO314 HO317 HO320 BK309 BK310 BK311 BK323 HB hHeld ⊢
     refine pz_ HT_ 1 (some 82) #[fF,tT,fF,fF,fF,fF,fF,fF] ?_
     refine pz_ HT_ 2 (some 83) #[fF,tT,tT,fF,fF,fF,fF,fF] ?_
     refine pu_ HT_ 3 (some 84) #[fF,tT,tT,tT,fF,fF,fF,fF] ?_
     refine pu_ HT_ 4 (some 85) #[fF,tT,tT,tT,tT,fF,fF,fF] ?_
     refine pz_ HT_ 5 (some 86) #[fF,tT,tT,tT,tT,tT,fF,fF] ?_
     refine tk_ HT_ HW_ hHeld 0 (some 81) #[tT,tT,tT,tT,tT,tT,fF,fF] ?_
     refine one_ (i := 6) (N := none) #[tT,tT,tT,tT,tT,tT,tT,fF] rfl rfl (one_of HT_.out (by kernel_rfl)) (by decide) (fun K hK => ?_)
     have hs272 : w271.cell? ⟨gb311, 0, none⟩ = some (.slice none 0 0) := (blk_cell BK311.out 0).trans rfl
     have hfs272 := blk_frozen BK311.out 0
     have hns272_0 := NB309_311.out
     have hns272_1 := NB310_311.out
     have hns272_3 := NB323_311.out
     have hms272_0 := NB311_309.out
     have hms272_1 := NB311_310.out
     have hms272_3 := NB311_323.out
     have hs273 : w271.cell? ⟨gb311, 1, none⟩ = some (.slice none 0 0) := (blk_cell BK311.out 1).trans rfl
     have hfs273 := blk_frozen BK311.out 1
     have hns273_0 := NB309_311.out
     have hns273_1 := NB310_311.out
     have hns273_3 := NB323_311.out
     have hms273_0 := NB311_309.out
     have hms273_1 := NB311_310.out
     have hms273_3 := NB311_323.out
     have hs274 : w271.cell? ⟨gb311, 2, none⟩ = some (.slice none 0 0) := (blk_cell BK311.out 2).trans rfl
     have hfs274 := blk_frozen BK311.out 2
     have hns274_0 := NB309_311.out
     have hns274_1 := NB310_311.out
     have hns274_3 := NB323_311.out
     have hms274_0 := NB311_309.out
     have hms274_1 := NB311_310.out
     have hms274_3 := NB311_323.out
     have hs275 : w271.cell? ⟨gb311, 3, none⟩ = some (.int .i64 0) := (blk_cell BK311.out 3).trans rfl
     have hfs275 := blk_frozen BK311.out 3
     have hns275_0 := NB309_311.out
     have hns275_1 := NB310_311.out
     have hns275_3 := NB323_311.out
     have hms275_0 := NB311_309.out
     have hms275_1 := NB311_310.out
     have hms275_3 := NB311_323.out
     have hs276 : w271.cell? ⟨gb311, 4, none⟩ = some (.int .i64 0) := (blk_cell BK311.out 4).trans rfl
     have hfs276 := blk_frozen BK311.out 4
     have hns276_0 := NB309_311.out
     have hns276_1 := NB310_311.out
     have hns276_3 := NB323_311.out
     have hms276_0 := NB311_309.out
     have hms276_1 := NB311_310.out
     have hms276_3 := NB311_323.out
     refine skip_ (w1 := ?_) (by rfl) rfl ?_ ?_
     rotate_left
     ·
      go_simp
      rfl
     refine hK.out _ _ ⟨((cell_far (p := ⟨gb311, _, none⟩) NB323_311.out _).trans (((cell_far (p := ⟨gb311, _, none⟩) NB323_311.out _).trans (((cell_far (p := ⟨gb311, _, none⟩) NB323_311.out _).trans (((cell_far (p := ⟨gb311, _, none⟩) NB323_311.out _).trans (((cell_far (p := ⟨gb311, _, none⟩) NB323_311.out _).trans (hHeld.1)))))))))), ((cell_far (p := ⟨gb311, _, none⟩) NB323_311.out _).trans (((cell_far (p := ⟨gb311, _, none⟩) NB323_311.out _).trans (((cell_far (p := ⟨gb311, _, none⟩) NB323_311.out _).trans (((cell_far (p := ⟨gb311, _, none⟩) NB323_311.out _).trans (((cell_far (p := ⟨gb311, _, none⟩) NB323_311.out _).trans (hHeld.2.1)))))))))), ((cell_far (p := ⟨gb311, _, none⟩) NB323_311.out _).trans (((cell_far (p := ⟨gb311, _, none⟩) NB323_311.out _).trans (((cell_far (p := ⟨gb311, _, none⟩) NB323_311.out _).trans (((cell_far (p := ⟨gb311, _, none⟩) NB323_311.out _).trans (((cell_far (p := ⟨gb311, _, none⟩) NB323_311.out _).trans (hHeld.2.2.1)))))))))), ((cell_far (p := ⟨gb311, _, none⟩) NB323_311.out _).trans (((cell_far (p := ⟨gb311, _, none⟩) NB323_311.out _).trans (((cell_far (p := ⟨gb311, _, none⟩) NB323_311.out _).trans (((cell_far (p := ⟨gb311, _, none⟩) NB323_311.out _).trans (((cell_far (p := ⟨gb311, _, none⟩) NB323_311.out _).trans (hHeld.2.2.2.1)))))))))), ((cell_far (p := ⟨gb311, _, none⟩) NB323_311.out _).trans (((cell_far (p := ⟨gb311, _, none⟩) NB323_311.out _).trans (((cell_far (p := ⟨gb311, _, none⟩) NB323_311.out _).trans (((cell_far (p := ⟨gb311, _, none⟩) NB323_311.out _).trans (((cell_far (p := ⟨gb311, _, none⟩) NB323_311.out _).trans (hHeld.2.2.2.2))))))))))⟩ (fun hHeld => ?_)
     clear hK K
     refine pz_ HT_ 7 (some 5) #[tT,tT,tT,tT,tT,tT,tT,tT] ?_
     refine done_ (done_of HT_.out (by kernel_rfl)) ?_
     try go_wp2
     refine bodyPost_ret (results_ct rfl _ _ gb311 30 #[.slice Ao260 t312.length co260, .slice Ao265 t315.length co265, .slice Ao266 t318.length co266, .int .i64 t321, .int .i64 (wrap64 (a0_4 + a1_1))] (0, 0) _ rfl (by (with_reducible repeat (first | refine blk_drewN ?_ _ | refine blk_drew ?_ | refine blk_alloc ?_ _)); refine blk_put (cs := #[.slice Ao260 t312.length co260, .slice Ao265 t315.length co265, .slice Ao266 t318.length co266, .int .i64 t321, .int .i64 0]) ?_ 4 _ rfl; (with_reducible repeat (first | refine blk_drewN ?_ _ | refine blk_drew ?_ | refine blk_alloc ?_ _)); refine blk_put (cs := #[.slice Ao260 t312.length co260, .slice Ao265 t315.length co265, .slice Ao266 t318.length co266, .int .i64 0, .int .i64 0]) ?_ 3 _ rfl; (with_reducible repeat (first | refine blk_drewN ?_ _ | refine blk_drew ?_ | refine blk_alloc ?_ _)); refine blk_put (cs := #[.slice Ao260 t312.length co260, .slice Ao265 t315.length co265, .slice none 0 0, .int .i64 0, .int .i64 0]) ?_ 2 _ rfl; (with_reducible repeat (first | refine blk_drewN ?_ _ | refine blk_drew ?_ | refine blk_alloc ?_ _)); refine blk_put (cs := #[.slice Ao260 t312.length co260, .slice none 0 0, .slice none 0 0, .int .i64 0, .int .i64 0]) ?_ 1 _ rfl; (with_reducible repeat (first | refine blk_drewN ?_ _ | refine blk_drew ?_ | refine blk_alloc ?_ _)); refine blk_put (cs := #[.slice none 0 0, .slice none 0 0, .slice none 0 0, .int .i64 0, .int .i64 0]) ?_ 0 _ rfl; (with_reducible repeat (first | refine blk_drewN ?_ _ | refine blk_drew ?_ | refine blk_alloc ?_ _)); exact BK311.out) Try.underlying30 rfl (by kernel_rfl)) rfl ?_
     exact ⟨_, _, _, rr_, by (with_reducible repeat (first | apply Kd.R_alloc | apply Kd.R_drewN | apply Kd.R_drew)); exact Kd.R_mono (r5_ HO314.out BK311.out (by decide) _ _ _ _ _) (fun _ hk => trivial), by (with_reducible repeat (first | apply Kd.R_alloc | apply Kd.R_drewN | apply Kd.R_drew)); exact Kd.R_mono (r5_ HO317.out BK311.out (by decide) _ _ _ _ _) (fun _ hk => hk), by (with_reducible repeat (first | apply Kd.R_alloc | apply Kd.R_drewN | apply Kd.R_drew)); exact Kd.R_mono (r5_ HO320.out BK311.out (by decide) _ _ _ _ _) (fun _ hk => hk), by repeat (first | (with_reducible first | exact HB.out | apply below_alloc | apply pw_below_drewN | apply below_drew1 | refine below_set ?_ GE309.out | refine below_set ?_ GE310.out | refine below_set ?_ GE311.out | refine below_set ?_ GE323.out) | exact HB.out)⟩
def spec_NextLegs.l0 : Nat → List Int → Int → List (S37) → List Bool → List Bool → Int → Int → Option (List Int × Bool)
 | 0, _, _, _, _, _, _, _ => none
 | k + 1, x4, x5, x1357000, x1357001, x1357002, x1357003, x1357004 => if x5 < (x1357000.length : Int) then ((spec_l25Make.f k x1357000 x1357001 x1357002 x1357003 x1357004 1 x5 0 0 0 0 0).bind fun bt1361 => (if bt1361.2.2.2.2.2 = true then (if x4.length < 17592186044416 then (spec_NextLegs.l0 k (x4 ++ [x5]) (wrap64 (x5 + 1)) x1357000 x1357001 x1357002 x1357003 x1357004) else (none)) else (spec_NextLegs.l0 k x4 (wrap64 (x5 + 1)) x1357000 x1357001 x1357002 x1357003 x1357004))) else (some (x4, true))
def spec_NextLegs.f (k : Nat) (l0_0 : List (S37)) (l0_1 : List Bool) (l0_2 : List Bool) (a0_3 : Int) (a0_4 : Int) : Option (List Int × Bool) := (some (([] : List Int) : List Int)).bind fun y1357 => ((spec_l25Good.f k l0_0 l0_1 l0_2 a0_3 a0_4).bind fun t1360 => (if t1360 = true then (spec_NextLegs.l0 k y1357 0 l0_0 l0_1 l0_2 a0_3 a0_4) else (some (y1357, false))))
theorem spec_NextLegs.mono_l : ∀ k, (∀ y0 y1 y2 y3 y4 y5 y6, LeO (spec_NextLegs.l0 k y0 y1 y2 y3 y4 y5 y6) (spec_NextLegs.l0 (k + 1) y0 y1 y2 y3 y4 y5 y6))
 | 0 => fun _ _ _ _ _ _ _ r h => by simp [spec_NextLegs.l0] at h
 | k + 1 => by
  have ih0 := spec_NextLegs.mono_l k
  ·
   intro y0 y1 y2 y3 y4 y5 y6
   unfold spec_NextLegs.l0
   repeat' first
   | (with_reducible exact ih0 _ _ _ _ _ _ _)
   | (with_reducible exact spec_l25Good.mono _ _ _ _ _ _)
   | (with_reducible exact spec_l25Make.mono _ _ _ _ _ _ _ _ _ _ _ _ _)
   | (with_reducible exact LeO.refl _)
   | (with_reducible exact LeO.none _)
   | (with_reducible refine LeO.ite ?_ ?_)
   | (with_reducible refine LeO.bind ?_ (fun _ => ?_))
   | exact ih0 _ _ _ _ _ _ _
   | exact spec_l25Good.mono _ _ _ _ _ _
   | exact spec_l25Make.mono _ _ _ _ _ _ _ _ _ _ _ _ _
   | exact LeO.none _
   | refine LeO.ite ?_ ?_
   | refine LeO.bind ?_ (fun _ => ?_)
theorem spec_NextLegs.mono : ∀ a0 a1 a2 a3 a4 k, LeO (spec_NextLegs.f k a0 a1 a2 a3 a4) (spec_NextLegs.f (k + 1) a0 a1 a2 a3 a4) := by
 intro a0 a1 a2 a3 a4 k
 have ih0 := spec_NextLegs.mono_l k
 unfold spec_NextLegs.f
 repeat' first
   | (with_reducible exact ih0 _ _ _ _ _ _ _)
   | (with_reducible exact spec_l25Good.mono _ _ _ _ _ _)
   | (with_reducible exact spec_l25Make.mono _ _ _ _ _ _ _ _ _ _ _ _ _)
   | (with_reducible exact LeO.refl _)
   | (with_reducible exact LeO.none _)
   | (with_reducible refine LeO.ite ?_ ?_)
   | (with_reducible refine LeO.bind ?_ (fun _ => ?_))
   | exact ih0 _ _ _ _ _ _ _
   | exact spec_l25Good.mono _ _ _ _ _ _
   | exact spec_l25Make.mono _ _ _ _ _ _ _ _ _ _ _ _ _
   | exact LeO.none _
   | refine LeO.ite ?_ ?_
   | refine LeO.bind ?_ (fun _ => ?_)
theorem spec_NextLegs.calls (k : Nat) (A0_0 : Option Addr) (c0_0 : Nat) (l0_0 : List (S37)) (A0_1 : Option Addr) (c0_1 : Nat) (l0_1 : List Bool) (A0_2 : Option Addr) (c0_2 : Nat) (l0_2 : List Bool) (a0_3 : Int) (a0_4 : Int) (r1 : List Int) (r2 : Bool) (w : World) (hr0_0 : Kd.C k37 w A0_0 l0_0.length l0_0) (hc0_0 : l0_0.length ≤ c0_0) (hr0_1 : Kd.C Kd.bool w A0_1 l0_1.length l0_1) (hc0_1 : l0_1.length ≤ c0_1) (hr0_2 : Kd.C Kd.bool w A0_2 l0_2.length l0_2) (hc0_2 : l0_2.length ≤ c0_2) (h : spec_NextLegs.f k l0_0 l0_1 l0_2 a0_3 a0_4 = some (r1, r2)) :
  Calls Try.prog 48 #[.agg #[.slice A0_0 l0_0.length c0_0, .slice A0_1 l0_1.length c0_1, .slice A0_2 l0_2.length c0_2, .int .i64 a0_3, .int .i64 a0_4]] w fun e w' => ∃ v0_ : Value, e = .returned (.tuple #[v0_, .bool r2]) ∧ Kd.R (Kd.int .i64) 3 w' w.heap.size (fun _ => True) v0_ r1 ∧ Below w.heap.size w w' := by
 have hu30 := Try.underlying30
 have hu39 := Try.underlying39
 have HR0_0 := Aside0.mk hr0_0
 have HC0_0 := Aside0.mk hc0_0
 clear hr0_0 hc0_0
 have HR0_1 := Aside0.mk hr0_1
 have HC0_1 := Aside0.mk hc0_1
 clear hr0_1 hc0_1
 have HR0_2 := Aside0.mk hr0_2
 have HC0_2 := Aside0.mk hc0_2
 clear hr0_2 hc0_2
 have HB := Aside0.mk (Below.refl w.heap.size w)
 have H : ((some (([] : List Int) : List Int)).bind fun y1357 => ((spec_l25Good.f k l0_0 l0_1 l0_2 a0_3 a0_4).bind fun t1360 => (if t1360 = true then (spec_NextLegs.l0 k y1357 0 l0_0 l0_1 l0_2 a0_3 a0_4) else (some (y1357, false))))) = some (r1, r2) := h
 clear h
 obtain ⟨y1357, hy1357⟩ : ∃ y_ : List Int, y_ = (([] : List Int)) := ⟨_, rfl⟩
 replace H : ((spec_l25Good.f k l0_0 l0_1 l0_2 a0_3 a0_4).bind fun t1360 => (if t1360 = true then (spec_NextLegs.l0 k y1357 0 l0_0 l0_1 l0_2 a0_3 a0_4) else (some (y1357, false)))) = some (r1, r2) := by first | (rw [hy1357]; with_reducible exact H) | (have H2_ := (Option.bind_some _ _).symm.trans H; rw [hy1357]; with_reducible exact H2_) | (have H2_ := (Option.bind_some _ _).symm.trans H; with_reducible exact H2_) | with_reducible exact H | (rw [hy1357]; exact H) | exact H
 have Ny1357 := Aside0.mk hy1357
 clear hy1357
 replace H := Option.bind_eq_some_iff.mp H
 obtain ⟨t1360, A20, H⟩ := H
 replace H : (if t1360 = true then (spec_NextLegs.l0 k y1357 0 l0_0 l0_1 l0_2 a0_3 a0_4) else (some (y1357, false))) = some (r1, r2) := H
 have A2 := Aside0.mk A20
 clear A20
 by_cases c3 : t1360 = true
 ·
  subst c3
  have H1 : (spec_NextLegs.l0 k y1357 0 l0_0 l0_1 l0_2 a0_3 a0_4) = some (r1, r2) := by rw [if_pos rfl] at H; exact H
  clear H
  have H := H1
  clear H1
  have H' := Aside0.mk H
  clear H
  go_enter Try.func48, Try.ntmps48
  go_wp2_with (first | ((with_reducible refine gate_dst (N := 1) rfl ?_); refine box_event ?hg (N := 1) ?hd (cs := #[.slice A0_0 l0_0.length c0_0, .slice A0_1 l0_1.length c0_1, .slice A0_2 l0_2.length c0_2, .int .i64 a0_3, .int .i64 a0_4]) (t := 30) ?hr ?_; (case hd => rfl); (case hg => rfl); (case hr => first | (go_simp; done) | (go_simp; rfl)); intro gb1356 hg w4 hbox hb; have BK1356 := Aside0.mk (hbox); have GW1356 := Aside0.mk ((bz_ hg (lb0_ HB.out))); have GE1356 := Aside0.mk ((bz_ hg (lb0_ HB.out))); replace HB := Aside0.mk (below_step (lb0_ HB.out) hb); clear hb hbox hg) | ((with_reducible refine gate_dst (N := 8) rfl ?_); refine Kd.R_lit (Kd.int .i64) _ 3 ?hg (N := 8) ?hd (xs := ([] : List Int)) (inner := []) (ok := fun _ => True) (okp := fun _ => True) ?hr ?hp (fun _ hk => hk) trivial (Below.refl _ _) (Nat.le_refl _) (by simp) ?_; (case hd => rfl); (case hg => rfl); (case hr => first | (go_simp; done) | (go_simp; rfl)); (case hp => exact (Reps.none _ _)); intro v1358 w5 ho6 hb hg_ hnew_; clear hg_ hnew_; replace ho6 := ry_ Ny1357.out ho6; have HO1359 := Aside0.mk (Kd.R_lower ho6 (below_size (lb1_ HB.out GE1356.out))); replace BK1356 := Aside0.mk (bb_ (bk_ BK1356.out) hb); replace HB := Aside0.mk (below_step (lb1_ HB.out GE1356.out) hb); clear hb ho6; obtain ⟨hcz7_0, hcz7_1, hcz7_2, hcz7_3, hcz7_4⟩ := cz5_ BK1356.out; obtain ⟨hfz7_0, hfz7_1, hfz7_2, hfz7_3, hfz7_4⟩ := fz5_ BK1356.out) | ((with_reducible refine gate_callee (f := 67) rfl ?_); refine ga_ (some 10) Try.func67 #[.agg #[.slice A0_0 l0_0.length c0_0, .slice A0_1 l0_1.length c0_1, .slice A0_2 l0_2.length c0_2, .int .i64 a0_3, .int .i64 a0_4]] ?_; (with_reducible refine (spec_l25Good.calls k _ _ l0_0 _ _ l0_1 _ _ l0_2 a0_3 a0_4 true _ ?side1 ?side2 ?side3 ?side4 ?side5 ?side6 A2.out).mono ?_); (case side1 => exact kc_ (Kd.C_below HR0_0.out HB.out)); (case side2 => exact HC0_0.out); (case side3 => exact kc_ (Kd.C_below HR0_1.out HB.out)); (case side4 => exact HC0_1.out); (case side5 => exact kc_ (Kd.C_below HR0_2.out HB.out)); (case side6 => exact HC0_2.out); rintro e w8 ⟨rfl, hb⟩; refine ⟨_, rfl, ?_⟩; replace HO1359 := Aside0.mk (Kd.R_below (kr_ HO1359.out) hb); replace BK1356 := Aside0.mk (bb_ (bk_ BK1356.out) hb); replace HB := Aside0.mk (below_step (lb1_ HB.out GE1356.out) hb); (try clear hb); (try clear hb2); (try clear hk); (try clear hi)))
  go_loopg [4, 5] k (fun kq v4 v5 w' => ∃ (x4_1 : List Int) (x5_1 : Int), v5 = .int .i64 x5_1 ∧ Aside0 (spec_NextLegs.l0 kq x4_1 x5_1 l0_0 l0_1 l0_2 a0_3 a0_4 = some (r1, r2)) ∧ Aside0 (kq ≤ k) ∧ Aside0 (Kd.R (Kd.int .i64) 3 w' w.heap.size (fun _ => True) v4 x4_1) ∧ Aside0 (w'.heap[gb1356]? = some (.cells #[(.slice A0_0 l0_0.length c0_0), (.slice A0_1 l0_1.length c0_1), (.slice A0_2 l0_2.length c0_2), .int .i64 a0_3, .int .i64 a0_4] 30 (0, 0))) ∧ Aside0 (Below w.heap.size w w'))
  case atStart => exact ⟨(y1357), (0), (by first | rfl | (simp; done) | (simp [*]; done)), H', ⟨Nat.le_refl _⟩, ⟨kr_ HO1359.out⟩, ⟨bk_ BK1356.out⟩, ⟨lb1_ HB.out GE1356.out⟩⟩
  case round =>
   clear H'
   try clear p2
   try clear c3
   try clear c4
   try clear c6
   try clear hcz7_0 hcz7_1 hcz7_2 hcz7_3 hcz7_4
   try clear hfz7_0 hfz7_1 hfz7_2 hfz7_3 hfz7_4
   obtain ⟨x4_1, x5_1, rfl, HA, HK1, HO_4, BK1356, HB⟩ := hrel
   cases gk with
   | zero => exact absurd HA.out (by simp [spec_NextLegs.l0])
   | succ k1 =>
    have H := HA.out
    clear HA
    simp only [spec_NextLegs.l0] at H
    by_cases c9 : x5_1 < (l0_0.length : Int)
    ·
     rw [if_pos c9] at H
     have c9b0 : decide (x5_1 < (l0_0.length : Int)) = true := decide_eq_true c9
     clear c9
     replace H := Option.bind_eq_some_iff.mp H
     obtain ⟨⟨t1361, t1364, t1367, t1370, t1371, t1372⟩, A100, H⟩ := H
     replace H : (if t1372 = true then (if x4_1.length < 17592186044416 then (spec_NextLegs.l0 k1 (x4_1 ++ [x5_1]) (wrap64 (x5_1 + 1)) l0_0 l0_1 l0_2 a0_3 a0_4) else (none)) else (spec_NextLegs.l0 k1 x4_1 (wrap64 (x5_1 + 1)) l0_0 l0_1 l0_2 a0_3 a0_4)) = some (r1, r2) := H
     have A10 := Aside0.mk A100
     clear A100
     by_cases c11 : t1372 = true
     ·
      subst c11
      have H1 : (if x4_1.length < 17592186044416 then (spec_NextLegs.l0 k1 (x4_1 ++ [x5_1]) (wrap64 (x5_1 + 1)) l0_0 l0_1 l0_2 a0_3 a0_4) else (none)) = some (r1, r2) := by rw [if_pos rfl] at H; exact H
      clear H
      have H := H1
      clear H1
      by_cases c12 : x4_1.length < 17592186044416
      ·
       rw [if_pos c12] at H
       have LMc12 := Aside0.mk c12
       clear c12
       obtain ⟨y1374, hy1374⟩ : ∃ y_ : List Int, y_ = (x4_1 ++ [x5_1]) := ⟨_, rfl⟩
       replace H : (spec_NextLegs.l0 k1 y1374 (wrap64 (x5_1 + 1)) l0_0 l0_1 l0_2 a0_3 a0_4) = some (r1, r2) := by first | (rw [hy1374]; with_reducible exact H) | (have H2_ := (Option.bind_some _ _).symm.trans H; rw [hy1374]; with_reducible exact H2_) | (have H2_ := (Option.bind_some _ _).symm.trans H; with_reducible exact H2_) | with_reducible exact H | (rw [hy1374]; exact H) | exact H
       have Ny1374 := Aside0.mk hy1374
       clear hy1374
       have H' := Aside0.mk H
       clear H
       obtain ⟨hcz13_0, hcz13_1, hcz13_2, hcz13_3, hcz13_4⟩ := cz5_ BK1356.out
       obtain ⟨hfz13_0, hfz13_1, hfz13_2, hfz13_3, hfz13_4⟩ := fz5_ BK1356.out
       go_wp2_with (first | ((with_reducible refine gate_callee (f := 78) rfl ?_); refine ga_ (some 24) Try.func78 #[.agg #[.slice A0_0 l0_0.length c0_0, .slice A0_1 l0_1.length c0_1, .slice A0_2 l0_2.length c0_2, .int .i64 a0_3, .int .i64 a0_4], .agg #[.int .i64 1, .int .i64 x5_1, .int .i64 0, .int .i64 0, .int .i64 0, .int .i64 0, .int .i64 0]] ?_; (with_reducible refine (spec_l25Make.calls k1 _ _ l0_0 _ _ l0_1 _ _ l0_2 a0_3 a0_4 1 x5_1 0 0 0 0 0 t1361 t1364 t1367 t1370 t1371 true _ ?side1 ?side2 ?side3 ?side4 ?side5 ?side6 A10.out).mono ?_); (case side1 => exact kc_ (Kd.C_below HR0_0.out HB.out)); (case side2 => exact HC0_0.out); (case side3 => exact kc_ (Kd.C_below HR0_1.out HB.out)); (case side4 => exact HC0_1.out); (case side5 => exact kc_ (Kd.C_below HR0_2.out HB.out)); (case side6 => exact HC0_2.out); rintro e w14 ⟨v1362, v1365, v1368, rfl, ho0, ho1, ho2, hb⟩; refine ⟨_, rfl, ?_⟩; replace HO_4 := Aside0.mk (Kd.R_below (kr_ HO_4.out) hb); have HO1363 := Aside0.mk (Kd.R_lower ho0 (below_size (lb1_ HB.out GE1356.out))); have HO1366 := Aside0.mk (Kd.R_lower ho1 (below_size (lb1_ HB.out GE1356.out))); have HO1369 := Aside0.mk (Kd.R_lower ho2 (below_size (lb1_ HB.out GE1356.out))); replace BK1356 := Aside0.mk (bb_ (bk_ BK1356.out) hb); replace HB := Aside0.mk (below_step (lb1_ HB.out GE1356.out) hb); (try clear hb); (try clear hb2); (try clear hk); (try clear hi); (try clear ho0); (try clear ho1); (try clear ho2)) | ((with_reducible refine gate_dst (N := 6) rfl ?_); refine box_event ?hg (N := 6) ?hd (cs := #[.slice none 0 0, .slice none 0 0, .slice none 0 0, .int .i64 0, .int .i64 0]) (t := 30) ?hr ?_; (case hd => rfl); (case hg => rfl); (case hr => first | (go_simp; done) | (go_simp; rfl)); intro gb1373 hg w15 hbox hb; replace HO_4 := Aside0.mk (Kd.R_below (kr_ HO_4.out) hb); replace HO1363 := Aside0.mk (Kd.R_below (kr_ HO1363.out) hb); replace HO1366 := Aside0.mk (Kd.R_below (kr_ HO1366.out) hb); replace HO1369 := Aside0.mk (Kd.R_below (kr_ HO1369.out) hb); have BK1373 := Aside0.mk (hbox); have GW1373 := Aside0.mk ((bz_ hg (lb1_ HB.out GE1356.out))); have GE1373 := Aside0.mk ((bz_ hg (lb1_ HB.out GE1356.out))); replace HB := Aside0.mk (below_step (lb1_ HB.out GE1356.out) hb); have NB1356_1373 := Aside0.mk (nl_ hg BK1356.out); have NB1373_1356 := Aside0.mk (ng_ hg BK1356.out); replace BK1356 := Aside0.mk (bb_ (bk_ BK1356.out) hb); clear hb hbox hg; obtain ⟨Ao16, co16, eo16⟩ := Kd.R_slice HO1363.out; subst eo16; have hnb17 := NB1373_1356.out; have hnc17 := NB1356_1373.out; obtain ⟨hcz18_0, hcz18_1, hcz18_2, hcz18_3, hcz18_4⟩ := cz5_ BK1373.out; obtain ⟨hfz18_0, hfz18_1, hfz18_2, hfz18_3, hfz18_4⟩ := fz5_ BK1373.out; obtain ⟨Ao19, co19, eo19⟩ := Kd.R_slice HO1366.out; subst eo19; obtain ⟨Ao20, co20, eo20⟩ := Kd.R_slice HO1369.out; subst eo20) | ((with_reducible refine gate_builtin (b := .append) (xs := #[.tmp 28, .tmp 30]) rfl ?_); at_builtin; refine Kd.R_append (Kd.int .i64) (w0 := w) w.heap.size rfl (.tmp 28) (.tmp 30) 60 3 (.int .i64 0) 8 rfl Try.underlying60 info3 rfl (by decide) (by omega) u4 x4_1 x5_1 [.int .i64 x5_1] (fun _ => True) (fun _ => False) rfl (by first | (go_simp; done) | (go_simp; rfl)) ?aP (fun _ hk => hk.elim) ?aF ?aO ?aB ?aS ?aL ?_; (case aP => exact rfl); (case aB => exact (lb2_ HB.out GE1356.out GE1373.out)); (case aF => exact (fun _ _ => trivial)); (case aO => exact (by (with_reducible repeat (first | apply Kd.R_alloc | apply Kd.R_drewN | apply Kd.R_drew)); exact Kd.R_mono (r5_ HO_4.out BK1373.out (by decide) _ _ _ _ _) (fun _ hk => trivial))); (case aS => exact (below_size (lb2_ HB.out GE1356.out GE1373.out))); (case aL => have := LMc12.out; omega); intro v1375 w21 ho hb hg hat; rw [← Ny1374.out] at ho; replace BK1356 := Aside0.mk (blk_grown (g := gb1356) (o := .cells #[.slice A0_0 l0_0.length c0_0, .slice A0_1 l0_1.length c0_1, .slice A0_2 l0_2.length c0_2, .int .i64 a0_3, .int .i64 a0_4] 30 (0, 0)) (by (with_reducible repeat (first | refine blk_drewN ?_ _ | refine blk_drew ?_ | refine blk_alloc ?_ _)); exact (f5_ BK1356.out NB1356_1373.out _ _ _ _ _)) hg (Kd.R_ne HO_4.out BK1356.out (by decide))); replace HO1363 := Aside0.mk (Kd.R_over' (kg_ HO1363.out BK1373.out) (Kd.R_typed (kg_ HO_4.out BK1373.out)) (by decide) hg); replace HO1366 := Aside0.mk (Kd.R_over' (kg_ HO1366.out BK1373.out) (Kd.R_typed (kg_ HO_4.out BK1373.out)) (by decide) hg); replace HO1369 := Aside0.mk (Kd.R_over' (kg_ HO1369.out BK1373.out) (Kd.R_typed (kg_ HO_4.out BK1373.out)) (by decide) hg); replace BK1373 := Aside0.mk (blk_grown (g := gb1373) (o := .cells #[.slice Ao16 t1361.length co16, .slice Ao19 t1364.length co19, .slice Ao20 t1367.length co20, .int .i64 t1370, .int .i64 t1371] 30 (0, 0)) (by (with_reducible repeat (first | refine blk_drewN ?_ _ | refine blk_drew ?_ | refine blk_alloc ?_ _)); exact (p5_ BK1373.out _ _ _ _ _)) hg (Kd.R_ne HO_4.out BK1373.out (by decide))); replace HB := Aside0.mk (hb); have HO1376 := Aside0.mk (ho); clear HO_4; clear ho hb hg hat))
       go_roundg k1
       case measure => have := HK1.out; omega
       case rel => exact ⟨(y1374), (wrap64 (x5_1 + 1)), (by first | rfl | (simp; done) | (simp [*]; done)), H', ⟨by have := HK1.out; omega⟩, ⟨kr_ HO1376.out⟩, ⟨bk_ BK1356.out⟩, ⟨lb2_ HB.out GE1356.out GE1373.out⟩⟩
      ·
       rw [if_neg c12] at H
       exact absurd H (by simp)
     ·
      replace c11 := Bool.eq_false_iff.mpr c11
      subst c11
      have H1 : (spec_NextLegs.l0 k1 x4_1 (wrap64 (x5_1 + 1)) l0_0 l0_1 l0_2 a0_3 a0_4) = some (r1, r2) := by rw [if_neg (show ¬ (false = true) by decide)] at H; exact H
      clear H
      have H := H1
      clear H1
      have H' := Aside0.mk H
      clear H
      obtain ⟨hcz22_0, hcz22_1, hcz22_2, hcz22_3, hcz22_4⟩ := cz5_ BK1356.out
      obtain ⟨hfz22_0, hfz22_1, hfz22_2, hfz22_3, hfz22_4⟩ := fz5_ BK1356.out
      go_wp2_with (first | ((with_reducible refine gate_callee (f := 78) rfl ?_); refine ga_ (some 24) Try.func78 #[.agg #[.slice A0_0 l0_0.length c0_0, .slice A0_1 l0_1.length c0_1, .slice A0_2 l0_2.length c0_2, .int .i64 a0_3, .int .i64 a0_4], .agg #[.int .i64 1, .int .i64 x5_1, .int .i64 0, .int .i64 0, .int .i64 0, .int .i64 0, .int .i64 0]] ?_; (with_reducible refine (spec_l25Make.calls k1 _ _ l0_0 _ _ l0_1 _ _ l0_2 a0_3 a0_4 1 x5_1 0 0 0 0 0 t1361 t1364 t1367 t1370 t1371 false _ ?side1 ?side2 ?side3 ?side4 ?side5 ?side6 A10.out).mono ?_); (case side1 => exact kc_ (Kd.C_below HR0_0.out HB.out)); (case side2 => exact HC0_0.out); (case side3 => exact kc_ (Kd.C_below HR0_1.out HB.out)); (case side4 => exact HC0_1.out); (case side5 => exact kc_ (Kd.C_below HR0_2.out HB.out)); (case side6 => exact HC0_2.out); rintro e w23 ⟨v1362, v1365, v1368, rfl, ho0, ho1, ho2, hb⟩; refine ⟨_, rfl, ?_⟩; replace HO_4 := Aside0.mk (Kd.R_below (kr_ HO_4.out) hb); have HO1363 := Aside0.mk (Kd.R_lower ho0 (below_size (lb1_ HB.out GE1356.out))); have HO1366 := Aside0.mk (Kd.R_lower ho1 (below_size (lb1_ HB.out GE1356.out))); have HO1369 := Aside0.mk (Kd.R_lower ho2 (below_size (lb1_ HB.out GE1356.out))); replace BK1356 := Aside0.mk (bb_ (bk_ BK1356.out) hb); replace HB := Aside0.mk (below_step (lb1_ HB.out GE1356.out) hb); (try clear hb); (try clear hb2); (try clear hk); (try clear hi); (try clear ho0); (try clear ho1); (try clear ho2)) | ((with_reducible refine gate_dst (N := 6) rfl ?_); refine box_event ?hg (N := 6) ?hd (cs := #[.slice none 0 0, .slice none 0 0, .slice none 0 0, .int .i64 0, .int .i64 0]) (t := 30) ?hr ?_; (case hd => rfl); (case hg => rfl); (case hr => first | (go_simp; done) | (go_simp; rfl)); intro gb1373 hg w24 hbox hb; replace HO_4 := Aside0.mk (Kd.R_below (kr_ HO_4.out) hb); replace HO1363 := Aside0.mk (Kd.R_below (kr_ HO1363.out) hb); replace HO1366 := Aside0.mk (Kd.R_below (kr_ HO1366.out) hb); replace HO1369 := Aside0.mk (Kd.R_below (kr_ HO1369.out) hb); have BK1373 := Aside0.mk (hbox); have GW1373 := Aside0.mk ((bz_ hg (lb1_ HB.out GE1356.out))); have GE1373 := Aside0.mk ((bz_ hg (lb1_ HB.out GE1356.out))); replace HB := Aside0.mk (below_step (lb1_ HB.out GE1356.out) hb); have NB1356_1373 := Aside0.mk (nl_ hg BK1356.out); have NB1373_1356 := Aside0.mk (ng_ hg BK1356.out); replace BK1356 := Aside0.mk (bb_ (bk_ BK1356.out) hb); clear hb hbox hg; obtain ⟨Ao25, co25, eo25⟩ := Kd.R_slice HO1363.out; subst eo25; have hnb26 := NB1373_1356.out; have hnc26 := NB1356_1373.out; obtain ⟨hcz27_0, hcz27_1, hcz27_2, hcz27_3, hcz27_4⟩ := cz5_ BK1373.out; obtain ⟨hfz27_0, hfz27_1, hfz27_2, hfz27_3, hfz27_4⟩ := fz5_ BK1373.out; obtain ⟨Ao28, co28, eo28⟩ := Kd.R_slice HO1366.out; subst eo28; obtain ⟨Ao29, co29, eo29⟩ := Kd.R_slice HO1369.out; subst eo29))
      go_roundg k1
      case measure => have := HK1.out; omega
      case rel => exact ⟨(x4_1), (wrap64 (x5_1 + 1)), (by first | rfl | (simp; done) | (simp [*]; done)), H', ⟨by have := HK1.out; omega⟩, ⟨by (with_reducible repeat (first | apply Kd.R_alloc | apply Kd.R_drewN | apply Kd.R_drew)); exact Kd.R_mono (r5_ HO_4.out BK1373.out (by decide) _ _ _ _ _) (fun _ hk => trivial)⟩, ⟨by (with_reducible repeat (first | refine blk_drewN ?_ _ | refine blk_drew ?_ | refine blk_alloc ?_ _)); exact (f5_ BK1356.out NB1356_1373.out _ _ _ _ _)⟩, ⟨lb2_ HB.out GE1356.out GE1373.out⟩⟩
    ·
     rw [if_neg c9] at H
     have c9b0 : decide (x5_1 < (l0_0.length : Int)) = false := decide_eq_false c9
     clear c9
     simp only [Option.some.injEq, Prod.mk.injEq] at H
     obtain ⟨rfl, rfl⟩ := H
     obtain ⟨hcz30_0, hcz30_1, hcz30_2, hcz30_3, hcz30_4⟩ := cz5_ BK1356.out
     obtain ⟨hfz30_0, hfz30_1, hfz30_2, hfz30_3, hfz30_4⟩ := fz5_ BK1356.out
     go_wp2
     go_ret2
     exact ⟨_, rr_, kr_ HO_4.out, lb1_ HB.out GE1356.out⟩
 ·
  replace c3 := Bool.eq_false_iff.mpr c3
  subst c3
  have H1 : (some (y1357, false)) = some (r1, r2) := by rw [if_neg (show ¬ (false = true) by decide)] at H; exact H
  clear H
  have H := H1
  clear H1
  simp only [Option.some.injEq, Prod.mk.injEq] at H
  obtain ⟨rfl, rfl⟩ := H
  go_enter Try.func48, Try.ntmps48
  go_wp2_with (first | ((with_reducible refine gate_dst (N := 1) rfl ?_); refine box_event ?hg (N := 1) ?hd (cs := #[.slice A0_0 l0_0.length c0_0, .slice A0_1 l0_1.length c0_1, .slice A0_2 l0_2.length c0_2, .int .i64 a0_3, .int .i64 a0_4]) (t := 30) ?hr ?_; (case hd => rfl); (case hg => rfl); (case hr => first | (go_simp; done) | (go_simp; rfl)); intro gb1356 hg w31 hbox hb; have BK1356 := Aside0.mk (hbox); have GW1356 := Aside0.mk ((bz_ hg (lb0_ HB.out))); have GE1356 := Aside0.mk ((bz_ hg (lb0_ HB.out))); replace HB := Aside0.mk (below_step (lb0_ HB.out) hb); clear hb hbox hg) | ((with_reducible refine gate_dst (N := 8) rfl ?_); refine Kd.R_lit (Kd.int .i64) _ 3 ?hg (N := 8) ?hd (xs := ([] : List Int)) (inner := []) (ok := fun _ => True) (okp := fun _ => True) ?hr ?hp (fun _ hk => hk) trivial (Below.refl _ _) (Nat.le_refl _) (by simp) ?_; (case hd => rfl); (case hg => rfl); (case hr => first | (go_simp; done) | (go_simp; rfl)); (case hp => exact (Reps.none _ _)); intro v1358 w32 ho33 hb hg_ hnew_; clear hg_ hnew_; replace ho33 := ry_ Ny1357.out ho33; have HO1359 := Aside0.mk (Kd.R_lower ho33 (below_size (lb1_ HB.out GE1356.out))); replace BK1356 := Aside0.mk (bb_ (bk_ BK1356.out) hb); replace HB := Aside0.mk (below_step (lb1_ HB.out GE1356.out) hb); clear hb ho33; obtain ⟨hcz34_0, hcz34_1, hcz34_2, hcz34_3, hcz34_4⟩ := cz5_ BK1356.out; obtain ⟨hfz34_0, hfz34_1, hfz34_2, hfz34_3, hfz34_4⟩ := fz5_ BK1356.out) | ((with_reducible refine gate_callee (f := 67) rfl ?_); refine ga_ (some 10) Try.func67 #[.agg #[.slice A0_0 l0_0.length c0_0, .slice A0_1 l0_1.length c0_1, .slice A0_2 l0_2.length c0_2, .int .i64 a0_3, .int .i64 a0_4]] ?_; (with_reducible refine (spec_l25Good.calls k _ _ l0_0 _ _ l0_1 _ _ l0_2 a0_3 a0_4 false _ ?side1 ?side2 ?side3 ?side4 ?side5 ?side6 A2.out).mono ?_); (case side1 => exact kc_ (Kd.C_below HR0_0.out HB.out)); (case side2 => exact HC0_0.out); (case side3 => exact kc_ (Kd.C_below HR0_1.out HB.out)); (case side4 => exact HC0_1.out); (case side5 => exact kc_ (Kd.C_below HR0_2.out HB.out)); (case side6 => exact HC0_2.out); rintro e w35 ⟨rfl, hb⟩; refine ⟨_, rfl, ?_⟩; replace HO1359 := Aside0.mk (Kd.R_below (kr_ HO1359.out) hb); replace BK1356 := Aside0.mk (bb_ (bk_ BK1356.out) hb); replace HB := Aside0.mk (below_step (lb1_ HB.out GE1356.out) hb); (try clear hb); (try clear hb2); (try clear hk); (try clear hi)))
  go_ret2
  exact ⟨_, rr_, kr_ HO1359.out, lb1_ HB.out GE1356.out⟩
def impl_within.f (a0 : Int) (a1 : Int) (a2 : Int) : Option (Bool) := if a0 ≥ a1 then (some (decide (a0 ≤ a2))) else (some false)
theorem impl_within.calls (a0 : Int) (a1 : Int) (a2 : Int) (r : Bool) (w : World) (h : impl_within.f a0 a1 a2 = some r) :
  Calls Try.prog 71 #[.int .i64 a0, .int .i64 a1, .int .i64 a2] w fun e w' => e = .returned (.bool r) ∧ Drawn0 w w' := by
 have H : (if a0 ≥ a1 then (some (decide (a0 ≤ a2))) else (some false)) = some r := h
 clear h
 by_cases c4 : a0 ≥ a1
 ·
  rw [if_pos c4] at H
  have c4b0 : decide (a1 ≤ a0) = true := decide_eq_true c4
  clear c4
  obtain rfl := Option.some.inj H
  go_enter Try.func71, Try.ntmps71
  go_wp2
  go_ret
  exact ⟨by first | rfl | (simp; done) | (simp [*]; done), by repeat (first | exact Drawn0.refl _ | apply Drawn0.step)⟩
 ·
  rw [if_neg c4] at H
  have c4b0 : decide (a1 ≤ a0) = false := decide_eq_false c4
  clear c4
  obtain rfl := Option.some.inj H
  go_enter Try.func71, Try.ntmps71
  go_wp2
  go_ret
  exact ⟨by first | rfl | (simp; done) | (simp [*]; done), by repeat (first | exact Drawn0.refl _ | apply Drawn0.step)⟩
def impl_isStation.f (a0 : Int) : Option (Bool) := (impl_within.f a0 0 7).bind fun t186 => (some t186)
theorem impl_isStation.calls (a0 : Int) (r : Bool) (w : World) (h : impl_isStation.f a0 = some r) :
  Calls Try.prog 70 #[.int .i64 a0] w fun e w' => e = .returned (.bool r) ∧ Drawn0 w w' := by
 have H : ((impl_within.f a0 0 7).bind fun t186 => (some t186)) = some r := h
 clear h
 replace H := Option.bind_eq_some_iff.mp H
 obtain ⟨t186, A20, H⟩ := H
 replace H : (some t186) = some r := H
 have A2 := Aside0.mk A20
 clear A20
 obtain rfl := Option.some.inj H
 go_enter Try.func70, Try.ntmps70
 go_wp2_with (first | ((with_reducible refine gate_callee (f := 71) rfl ?_); refine ga_ (some 4) Try.func71 #[.int .i64 a0, .int .i64 0, .int .i64 7] ?_; (with_reducible refine (impl_within.calls a0 0 7 t186 _ A2.out).mono ?_); rintro e w' ⟨rfl, ⟨nd, rfl⟩⟩; refine ⟨_, rfl, ?_⟩))
 go_ret
 exact ⟨by first | rfl | (simp; done) | (simp [*]; done), by repeat (first | exact Drawn0.refl _ | apply Drawn0.step)⟩
def impl_isBearing.f (a0 : Int) : Option (Bool) := (impl_within.f a0 0 359).bind fun t187 => (some t187)
theorem impl_isBearing.calls (a0 : Int) (r : Bool) (w : World) (h : impl_isBearing.f a0 = some r) :
  Calls Try.prog 117 #[.int .i64 a0] w fun e w' => e = .returned (.bool r) ∧ Drawn0 w w' := by
 have H : ((impl_within.f a0 0 359).bind fun t187 => (some t187)) = some r := h
 clear h
 replace H := Option.bind_eq_some_iff.mp H
 obtain ⟨t187, A20, H⟩ := H
 replace H : (some t187) = some r := H
 have A2 := Aside0.mk A20
 clear A20
 obtain rfl := Option.some.inj H
 go_enter Try.func117, Try.ntmps117
 go_wp2_with (first | ((with_reducible refine gate_callee (f := 71) rfl ?_); refine ga_ (some 4) Try.func71 #[.int .i64 a0, .int .i64 0, .int .i64 359] ?_; (with_reducible refine (impl_within.calls a0 0 359 t187 _ A2.out).mono ?_); rintro e w' ⟨rfl, ⟨nd, rfl⟩⟩; refine ⟨_, rfl, ?_⟩))
 go_ret
 exact ⟨by first | rfl | (simp; done) | (simp [*]; done), by repeat (first | exact Drawn0.refl _ | apply Drawn0.step)⟩
end Go.Proofs.Ythmjimboajmhmaa.Pr

