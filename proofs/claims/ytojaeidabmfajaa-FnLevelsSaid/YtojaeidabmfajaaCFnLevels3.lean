/-
What is proved: parts of the law FnLevels: what the functions that it reaches compute, and the plain law.
Conditions: those of each theorem.
-/
import Derived.ChangeArms
import Derived.ChangeSlices
import Derived.Deep.Slices
import Derived.RowKit
import Derived.SizedLaws
import Derived.WideShapes
import Derived.Test.YtojaeidabmfajaaCFnLevels2
namespace Go.Proofs.Ytojaeidabmfajaa.Pr
open Go.RowKit Go.Proofs.YtojaeidabmfajaaW.PrintWords Go.Proofs.YtojaeidabmfajaaW.PrintLast Go.Proofs.YtojaeidabmfajaaW.PrintMore
attribute [local go_sem] max2_int min2_int max_two min_two max_three min_three max_four min_four   -- for this text's walks alone
set_option linter.unusedVariables false
set_option linter.unusedSimpArgs false
attribute [local go_sem high] eqA54
mutual
def laws_FnLevels.j0 : Nat → List (S54) → Int → Int → Bool → Bool → Option (Bool)
 | 0, _, _, _, _, _ => none
 | k + 1, x3, x5, x6, x7, x61 => if x61 = true then (none) else ((impl_HighestReading.f k x3).bind fun bt445 => ((spec_HighestReading.f k x3).bind fun bt449 => (if (!(bt445.1 == bt449.1) || (!(bt445.2.1 == bt449.2.1))) = true then (laws_FnLevels.j1 k x3 x5 x6 x7 bt445.2.2 true bt445.1 bt445.2.1) else (laws_FnLevels.j1 k x3 x5 x6 x7 bt445.2.2 (bt445.2.2 != bt449.2.2) bt445.1 bt445.2.1))))
def laws_FnLevels.j1 : Nat → List (S54) → Int → Int → Bool → Bool → Bool → Int → Int → Option (Bool)
 | 0, _, _, _, _, _, _, _, _ => none
 | k + 1, x3, x5, x6, x7, x12, x79, x449000, x449001 => if x79 = true then (none) else (laws_FnLevels.l0 k x3 x5 x6 x7 x12 0 x449000 x449001)
def laws_FnLevels.l0 : Nat → List (S54) → Int → Int → Bool → Bool → Int → Int → Int → Option (Bool)
 | 0, _, _, _, _, _, _, _, _ => none
 | k + 1, x3, x5, x6, x7, x12, x15, x449000, x449001 => if x15 < (x3.length : Int) then (laws_FnLevels.j3 k x3 x5 x6 x7 x12 x15 x12 x449000 x449001) else (laws_FnLevels.j3 k x3 x5 x6 x7 x12 x15 false x449000 x449001)
def laws_FnLevels.j3 : Nat → List (S54) → Int → Int → Bool → Bool → Int → Bool → Int → Int → Option (Bool)
 | 0, _, _, _, _, _, _, _, _, _ => none
 | k + 1, x3, x5, x6, x7, x12, x15, x86, x449000, x449001 => if x86 = true then (if 0 ≤ x15 then (if x15 < (x3.length : Int) then ((impl_LevelIn.f k x3 ((rd_T54 x3 x15).f0)).bind fun bt454 => (if bt454.2.2 = true then (if bt454.1 = ((rd_T54 x3 x15).f1) then (if bt454.2.1 = 1 then (if bt454.1 > x449001 then (none) else (laws_FnLevels.l0 k x3 x5 x6 x7 x12 (wrap64 (x15 + 1)) x449000 x449001)) else (none)) else (none)) else (none))) else (none)) else (none)) else (if x7 = true then (laws_FnLevels.j4 k x3 (decide (x5 > (wrap64 (x449001 * x6))))) else (laws_FnLevels.j4 k x3 false))
def laws_FnLevels.j4 : Nat → List (S54) → Bool → Option (Bool)
 | 0, _, _ => none
 | k + 1, x3, x129 => if x129 = true then (none) else ((impl_FastestRise.f k x3).bind fun bt458 => ((spec_FastestRise.f k x3).bind fun bt462 => (if bt458.1 = bt462.1 then (if bt458.2.1 = bt462.2.1 then (if bt458.2.2.1 = bt462.2.2.1 then (laws_FnLevels.j5 k x3 bt458.2.1 bt458.2.2.1 bt458.2.2.2 (bt458.2.2.2 != bt462.2.2.2)) else (laws_FnLevels.j5 k x3 bt458.2.1 bt458.2.2.1 bt458.2.2.2 true)) else (laws_FnLevels.j5 k x3 bt458.2.1 bt458.2.2.1 bt458.2.2.2 true)) else (laws_FnLevels.j5 k x3 bt458.2.1 bt458.2.2.1 bt458.2.2.2 true))))
def laws_FnLevels.j5 : Nat → List (S54) → Int → Int → Bool → Bool → Option (Bool)
 | 0, _, _, _, _, _ => none
 | k + 1, x3, x20, x21, x22, x161 => if x161 = true then (none) else (laws_FnLevels.l1 k x3 x20 x21 x22 0)
def laws_FnLevels.l1 : Nat → List (S54) → Int → Int → Bool → Int → Option (Bool)
 | 0, _, _, _, _, _ => none
 | k + 1, x3, x20, x21, x22, x27 => if (wrap64 (x27 + 1)) < (x3.length : Int) then (laws_FnLevels.j7 k x3 x20 x21 x22 x27 x22) else (laws_FnLevels.j7 k x3 x20 x21 x22 x27 false)
def laws_FnLevels.j7 : Nat → List (S54) → Int → Int → Bool → Int → Bool → Option (Bool)
 | 0, _, _, _, _, _, _ => none
 | k + 1, x3, x20, x21, x22, x27, x169 => if x169 = true then (if 0 ≤ (wrap64 (x27 + 1)) then (if (wrap64 (x27 + 1)) < (x3.length : Int) then (if 0 ≤ x27 then (if x27 < (x3.length : Int) then (if (wrap64 ((wrap64 (((rd_T54 x3 (wrap64 (x27 + 1))).f1) - ((rd_T54 x3 x27).f1))) * x21)) > (wrap64 (x20 * (wrap64 (((rd_T54 x3 (wrap64 (x27 + 1))).f0) - ((rd_T54 x3 x27).f0))))) then (none) else (laws_FnLevels.l1 k x3 x20 x21 x22 (wrap64 (x27 + 1)))) else (none)) else (none)) else (none)) else (none)) else ((impl_AreReadings.f k x3).bind fun t470 => ((spec_AreReadings.f k x3).bind fun t471 => (some (t470 == t471))))
end
def laws_FnLevels.f (k : Nat) (l0 : List Int) : Option (Bool) := (laws_rBig.f l0).bind fun t434 => (if t434 = true then (some true) else ((spec_DrawLevelIn.f k l0).bind fun bt435 => ((impl_LevelIn.f k bt435.1 bt435.2).bind fun bt439 => ((spec_LevelIn.f k bt435.1 bt435.2).bind fun bt442 => (if bt439.1 = bt442.1 then (if bt439.2.1 = bt442.2.1 then (laws_FnLevels.j0 k bt435.1 bt439.1 bt439.2.1 bt439.2.2 (bt439.2.2 != bt442.2.2)) else (laws_FnLevels.j0 k bt435.1 bt439.1 bt439.2.1 bt439.2.2 true)) else (laws_FnLevels.j0 k bt435.1 bt439.1 bt439.2.1 bt439.2.2 true))))))
set_option maxHeartbeats 64000000 in
set_option maxRecDepth 100000 in
theorem laws_FnLevels.calls (k : Nat) (A0 : Option Addr) (c0 : Nat) (l0 : List Int) (r : Bool) (w : World) (hr0 : Kd.C (Kd.int .u8) w A0 l0.length l0) (hc0 : l0.length ≤ c0) (h : laws_FnLevels.f k l0 = some r) :
  Calls Try.prog 5 #[.slice A0 l0.length c0] w fun e w' => e = .returned (.bool r) ∧ Below w.heap.size w w' := by
 have hu54 := Try.underlying54
 have HR0 := Aside0.mk hr0
 have HC0 := Aside0.mk hc0
 clear hr0 hc0
 have HB := Aside0.mk (Below.refl w.heap.size w)
 have H : ((laws_rBig.f l0).bind fun t434 => (if t434 = true then (some true) else ((spec_DrawLevelIn.f k l0).bind fun bt435 => ((impl_LevelIn.f k bt435.1 bt435.2).bind fun bt439 => ((spec_LevelIn.f k bt435.1 bt435.2).bind fun bt442 => (if bt439.1 = bt442.1 then (if bt439.2.1 = bt442.2.1 then (laws_FnLevels.j0 k bt435.1 bt439.1 bt439.2.1 bt439.2.2 (bt439.2.2 != bt442.2.2)) else (laws_FnLevels.j0 k bt435.1 bt439.1 bt439.2.1 bt439.2.2 true)) else (laws_FnLevels.j0 k bt435.1 bt439.1 bt439.2.1 bt439.2.2 true))))))) = some r := h
 clear h
 replace H := Option.bind_eq_some_iff.mp H
 obtain ⟨t434, A20, H⟩ := H
 replace H : (if t434 = true then (some true) else ((spec_DrawLevelIn.f k l0).bind fun bt435 => ((impl_LevelIn.f k bt435.1 bt435.2).bind fun bt439 => ((spec_LevelIn.f k bt435.1 bt435.2).bind fun bt442 => (if bt439.1 = bt442.1 then (if bt439.2.1 = bt442.2.1 then (laws_FnLevels.j0 k bt435.1 bt439.1 bt439.2.1 bt439.2.2 (bt439.2.2 != bt442.2.2)) else (laws_FnLevels.j0 k bt435.1 bt439.1 bt439.2.1 bt439.2.2 true)) else (laws_FnLevels.j0 k bt435.1 bt439.1 bt439.2.1 bt439.2.2 true)))))) = some r := H
 have A2 := Aside0.mk A20
 clear A20
 by_cases c3 : t434 = true
 ·
  subst c3
  have H1 : (some true) = some r := by rw [if_pos rfl] at H; exact H
  clear H
  have H := H1
  clear H1
  obtain rfl := Option.some.inj H
  go_enter Try.func5, Try.ntmps5
  go_wp2_with (first | (go_at_call 26; (with_reducible refine (laws_rBig.calls _ _ l0 true _ ?side1 ?side2 A2.out).mono ?_); (case side1 => exact kc_ HR0.out); (case side2 => exact HC0.out); rintro e w' ⟨rfl, ⟨nd, rfl⟩⟩; (try first | exact ⟨rfl, _, World.drewN_drewN _ _ _⟩ | exact ⟨rfl, _, Eq.trans (World.drewN_drewN _ _ _) (congrArg (World.drewN _) (Nat.add_assoc _ _ _))⟩)))
  repeat (go_quiet (first | (go_at_call 26; (with_reducible refine (laws_rBig.calls _ _ l0 true _ ?side1 ?side2 A2.out).mono ?_); (case side1 => exact kc_ HR0.out); (case side2 => exact HC0.out); rintro e w' ⟨rfl, ⟨nd, rfl⟩⟩; (try first | exact ⟨rfl, _, World.drewN_drewN _ _ _⟩ | exact ⟨rfl, _, Eq.trans (World.drewN_drewN _ _ _) (congrArg (World.drewN _) (Nat.add_assoc _ _ _))⟩))); try go_wp2_with (first | (go_at_call 26; (with_reducible refine (laws_rBig.calls _ _ l0 true _ ?side1 ?side2 A2.out).mono ?_); (case side1 => exact kc_ HR0.out); (case side2 => exact HC0.out); rintro e w' ⟨rfl, ⟨nd, rfl⟩⟩; (try first | exact ⟨rfl, _, World.drewN_drewN _ _ _⟩ | exact ⟨rfl, _, Eq.trans (World.drewN_drewN _ _ _) (congrArg (World.drewN _) (Nat.add_assoc _ _ _))⟩))))
  go_ret
  exact ⟨rr_, lb0_ HB.out⟩
 ·
  replace c3 := Bool.eq_false_iff.mpr c3
  subst c3
  have H1 : ((spec_DrawLevelIn.f k l0).bind fun bt435 => ((impl_LevelIn.f k bt435.1 bt435.2).bind fun bt439 => ((spec_LevelIn.f k bt435.1 bt435.2).bind fun bt442 => (if bt439.1 = bt442.1 then (if bt439.2.1 = bt442.2.1 then (laws_FnLevels.j0 k bt435.1 bt439.1 bt439.2.1 bt439.2.2 (bt439.2.2 != bt442.2.2)) else (laws_FnLevels.j0 k bt435.1 bt439.1 bt439.2.1 bt439.2.2 true)) else (laws_FnLevels.j0 k bt435.1 bt439.1 bt439.2.1 bt439.2.2 true))))) = some r := by rw [if_neg (show ¬ (false = true) by decide)] at H; exact H
  clear H
  have H := H1
  clear H1
  replace H := Option.bind_eq_some_iff.mp H
  obtain ⟨⟨t435, t436⟩, A40, H⟩ := H
  replace H : ((impl_LevelIn.f k t435 t436).bind fun bt439 => ((spec_LevelIn.f k t435 t436).bind fun bt442 => (if bt439.1 = bt442.1 then (if bt439.2.1 = bt442.2.1 then (laws_FnLevels.j0 k t435 bt439.1 bt439.2.1 bt439.2.2 (bt439.2.2 != bt442.2.2)) else (laws_FnLevels.j0 k t435 bt439.1 bt439.2.1 bt439.2.2 true)) else (laws_FnLevels.j0 k t435 bt439.1 bt439.2.1 bt439.2.2 true)))) = some r := H
  have A4 := Aside0.mk A40
  clear A40
  replace H := Option.bind_eq_some_iff.mp H
  obtain ⟨⟨t439, t440, t441⟩, A50, H⟩ := H
  replace H : ((spec_LevelIn.f k t435 t436).bind fun bt442 => (if t439 = bt442.1 then (if t440 = bt442.2.1 then (laws_FnLevels.j0 k t435 t439 t440 t441 (t441 != bt442.2.2)) else (laws_FnLevels.j0 k t435 t439 t440 t441 true)) else (laws_FnLevels.j0 k t435 t439 t440 t441 true))) = some r := H
  have A5 := Aside0.mk A50
  clear A50
  replace H := Option.bind_eq_some_iff.mp H
  obtain ⟨⟨t442, t443, t444⟩, A60, H⟩ := H
  replace H : (if t439 = t442 then (if t440 = t443 then (laws_FnLevels.j0 k t435 t439 t440 t441 (t441 != t444)) else (laws_FnLevels.j0 k t435 t439 t440 t441 true)) else (laws_FnLevels.j0 k t435 t439 t440 t441 true)) = some r := H
  have A6 := Aside0.mk A60
  clear A60
  have HC7 := Aside0.mk H
  clear H
  go_enter Try.func5, Try.ntmps5
  go_upto_region 6 with (first | (go_at_call 26; (with_reducible refine (laws_rBig.calls _ _ l0 false _ ?side1 ?side2 A2.out).mono ?_); (case side1 => exact kc_ HR0.out); (case side2 => exact HC0.out); rintro e w' ⟨rfl, ⟨nd, rfl⟩⟩; (try first | exact ⟨rfl, _, World.drewN_drewN _ _ _⟩ | exact ⟨rfl, _, Eq.trans (World.drewN_drewN _ _ _) (congrArg (World.drewN _) (Nat.add_assoc _ _ _))⟩)) | (go_at_call 27; (with_reducible refine (spec_DrawLevelIn.calls k _ _ l0 t435 t436 _ ?side1 ?side2 A4.out).mono ?_); (case side1 => exact kc_ HR0.out); (case side2 => exact HC0.out); rintro e w8 ⟨v437, rfl, ho0, hb⟩; have HO438 := Aside0.mk (Kd.R_lower ho0 (below_size (lb0_ HB.out))); replace HB := Aside0.mk (below_step (lb0_ HB.out) hb); (try clear hb); (try clear hb2); (try clear hk); (try clear hi); (try clear ho0); obtain ⟨Ao9, co9, eo9⟩ := Kd.R_slice HO438.out; subst eo9) | (go_at_call 28; (with_reducible refine (impl_LevelIn.calls k _ _ t435 t436 t439 t440 t441 _ ?side1 ?side2 A5.out).mono ?_); (case side1 => exact kc_ (Kd.R_reads' HO438.out).2.2); (case side2 => exact (Kd.R_reads' HO438.out).2.1); rintro e w10 ⟨rfl, hb⟩; replace HO438 := Aside0.mk (Kd.R_below (kr_ HO438.out) hb); replace HB := Aside0.mk (below_step (lb0_ HB.out) hb); (try clear hb); (try clear hb2); (try clear hk); (try clear hi)) | (go_at_call 29; (with_reducible refine (spec_LevelIn.calls k _ _ t435 t436 t442 t443 t444 _ ?side1 ?side2 A6.out).mono ?_); (case side1 => exact kc_ (Kd.R_reads' HO438.out).2.2); (case side2 => exact (Kd.R_reads' HO438.out).2.1); rintro e w11 ⟨rfl, hb⟩; replace HO438 := Aside0.mk (Kd.R_below (kr_ HO438.out) hb); replace HB := Aside0.mk (below_step (lb0_ HB.out) hb); (try clear hb); (try clear hb2); (try clear hk); (try clear hi)))
  repeat (go_quiet (first | (go_at_call 26; (with_reducible refine (laws_rBig.calls _ _ l0 false _ ?side1 ?side2 A2.out).mono ?_); (case side1 => exact kc_ HR0.out); (case side2 => exact HC0.out); rintro e w' ⟨rfl, ⟨nd, rfl⟩⟩; (try first | exact ⟨rfl, _, World.drewN_drewN _ _ _⟩ | exact ⟨rfl, _, Eq.trans (World.drewN_drewN _ _ _) (congrArg (World.drewN _) (Nat.add_assoc _ _ _))⟩)) | (go_at_call 27; (with_reducible refine (spec_DrawLevelIn.calls k _ _ l0 t435 t436 _ ?side1 ?side2 A4.out).mono ?_); (case side1 => exact kc_ HR0.out); (case side2 => exact HC0.out); rintro e w8 ⟨v437, rfl, ho0, hb⟩; have HO438 := Aside0.mk (Kd.R_lower ho0 (below_size (lb0_ HB.out))); replace HB := Aside0.mk (below_step (lb0_ HB.out) hb); (try clear hb); (try clear hb2); (try clear hk); (try clear hi); (try clear ho0); obtain ⟨Ao9, co9, eo9⟩ := Kd.R_slice HO438.out; subst eo9) | (go_at_call 28; (with_reducible refine (impl_LevelIn.calls k _ _ t435 t436 t439 t440 t441 _ ?side1 ?side2 A5.out).mono ?_); (case side1 => exact kc_ (Kd.R_reads' HO438.out).2.2); (case side2 => exact (Kd.R_reads' HO438.out).2.1); rintro e w10 ⟨rfl, hb⟩; replace HO438 := Aside0.mk (Kd.R_below (kr_ HO438.out) hb); replace HB := Aside0.mk (below_step (lb0_ HB.out) hb); (try clear hb); (try clear hb2); (try clear hk); (try clear hi)) | (go_at_call 29; (with_reducible refine (spec_LevelIn.calls k _ _ t435 t436 t442 t443 t444 _ ?side1 ?side2 A6.out).mono ?_); (case side1 => exact kc_ (Kd.R_reads' HO438.out).2.2); (case side2 => exact (Kd.R_reads' HO438.out).2.1); rintro e w11 ⟨rfl, hb⟩; replace HO438 := Aside0.mk (Kd.R_below (kr_ HO438.out) hb); replace HB := Aside0.mk (below_step (lb0_ HB.out) hb); (try clear hb); (try clear hb2); (try clear hk); (try clear hi))); go_upto_region 6 with (first | (go_at_call 26; (with_reducible refine (laws_rBig.calls _ _ l0 false _ ?side1 ?side2 A2.out).mono ?_); (case side1 => exact kc_ HR0.out); (case side2 => exact HC0.out); rintro e w' ⟨rfl, ⟨nd, rfl⟩⟩; (try first | exact ⟨rfl, _, World.drewN_drewN _ _ _⟩ | exact ⟨rfl, _, Eq.trans (World.drewN_drewN _ _ _) (congrArg (World.drewN _) (Nat.add_assoc _ _ _))⟩)) | (go_at_call 27; (with_reducible refine (spec_DrawLevelIn.calls k _ _ l0 t435 t436 _ ?side1 ?side2 A4.out).mono ?_); (case side1 => exact kc_ HR0.out); (case side2 => exact HC0.out); rintro e w8 ⟨v437, rfl, ho0, hb⟩; have HO438 := Aside0.mk (Kd.R_lower ho0 (below_size (lb0_ HB.out))); replace HB := Aside0.mk (below_step (lb0_ HB.out) hb); (try clear hb); (try clear hb2); (try clear hk); (try clear hi); (try clear ho0); obtain ⟨Ao9, co9, eo9⟩ := Kd.R_slice HO438.out; subst eo9) | (go_at_call 28; (with_reducible refine (impl_LevelIn.calls k _ _ t435 t436 t439 t440 t441 _ ?side1 ?side2 A5.out).mono ?_); (case side1 => exact kc_ (Kd.R_reads' HO438.out).2.2); (case side2 => exact (Kd.R_reads' HO438.out).2.1); rintro e w10 ⟨rfl, hb⟩; replace HO438 := Aside0.mk (Kd.R_below (kr_ HO438.out) hb); replace HB := Aside0.mk (below_step (lb0_ HB.out) hb); (try clear hb); (try clear hb2); (try clear hk); (try clear hi)) | (go_at_call 29; (with_reducible refine (spec_LevelIn.calls k _ _ t435 t436 t442 t443 t444 _ ?side1 ?side2 A6.out).mono ?_); (case side1 => exact kc_ (Kd.R_reads' HO438.out).2.2); (case side2 => exact (Kd.R_reads' HO438.out).2.1); rintro e w11 ⟨rfl, hb⟩; replace HO438 := Aside0.mk (Kd.R_below (kr_ HO438.out) hb); replace HB := Aside0.mk (below_step (lb0_ HB.out) hb); (try clear hb); (try clear hb2); (try clear hk); (try clear hi))))
  (try simp only [Act.put, List.setIfInBounds_toArray, List.set_cons_zero, List.set_cons_succ])
  go_cut [61] (fun v61 wc => ∃ (kq : Nat) (x61_6 : Bool), v61 = .bool x61_6 ∧ Aside0 (laws_FnLevels.j0 kq t435 t439 t440 t441 x61_6 = some r) ∧ Aside0 (kq ≤ k) ∧ Aside0 (Kd.R k54 54 wc w.heap.size (fun _ => True) (.slice Ao9 t435.length co9) t435) ∧ Aside0 (Below w.heap.size w wc))
  case first =>
   as_aux_lemma =>
    have H := HC7.out
    clear HC7
    by_cases c12 : t439 = t442
    ·
     rw [if_pos c12] at H
     have c12b0 : (t439 == t442) = true := beq_iff_eq.mpr c12
     have c12b1 : (t439 != t442) = false := bne_eq_false_iff_eq.mpr c12
     clear c12
     (first | rw [c12b0] | (simp only [i64_w, i32_w]; rw [c12b0]) | skip)
     by_cases c13 : t440 = t443
     ·
      rw [if_pos c13] at H
      have c13b0 : (t440 == t443) = true := beq_iff_eq.mpr c13
      have c13b1 : (t440 != t443) = false := bne_eq_false_iff_eq.mpr c13
      clear c13
      have H' := Aside0.mk H
      clear H
      go_wp2
      repeat (go_quiet (fail); try go_wp2)
      go_meet
      case rel => exact ⟨_, ((t441 != t444)), (by first | rfl | (simp; done) | (simp [*]; done)), H', ⟨by first | omega | exact Nat.le_refl _⟩, ⟨kr_ HO438.out⟩, ⟨lb0_ HB.out⟩⟩
     ·
      rw [if_neg c13] at H
      have c13b0 : (t440 == t443) = false := beq_eq_false_iff_ne.mpr c13
      have c13b1 : (t440 != t443) = true := bne_iff_ne.mpr c13
      have H' := Aside0.mk H
      clear H
      go_wp2
      repeat (go_quiet (fail); try go_wp2)
      go_meet
      case rel => exact ⟨_, (true), (by first | rfl | (simp; done) | (simp [*]; done)), H', ⟨by first | omega | exact Nat.le_refl _⟩, ⟨kr_ HO438.out⟩, ⟨lb0_ HB.out⟩⟩
    ·
     rw [if_neg c12] at H
     have c12b0 : (t439 == t442) = false := beq_eq_false_iff_ne.mpr c12
     have c12b1 : (t439 != t442) = true := bne_iff_ne.mpr c12
     (first | rw [c12b0] | (simp only [i64_w, i32_w]; rw [c12b0]) | skip)
     have H' := Aside0.mk H
     clear H
     go_wp2
     repeat (go_quiet (fail); try go_wp2)
     go_meet
     case rel => exact ⟨_, (true), (by first | rfl | (simp; done) | (simp [*]; done)), H', ⟨by first | omega | exact Nat.le_refl _⟩, ⟨kr_ HO438.out⟩, ⟨lb0_ HB.out⟩⟩
  case rest =>
   as_aux_lemma =>
    clear HC7
    try clear c1
    try clear p2
    try clear c3
    try clear c5
    try clear c12
    try clear c12b0
    try clear c12b1
    try clear c13
    try clear c13b0
    try clear c13b1
    obtain ⟨kq, x61_6, rfl, HA, HJ6, HO_3, HB⟩ := hcut
    cases kq with
    | zero => exact absurd HA.out (by simp [laws_FnLevels.j0])
    | succ kj6 =>
     have H := HA.out
     clear HA
     simp only [laws_FnLevels.j0] at H
     by_cases c14 : x61_6 = true
     ·
      subst c14
      have H1 : (none) = some r := by rw [if_pos rfl] at H; exact H
      clear H
      have H := H1
      clear H1
      exact absurd H (by simp)
     ·
      replace c14 := Bool.eq_false_iff.mpr c14
      subst c14
      have H1 : ((impl_HighestReading.f kj6 t435).bind fun bt445 => ((spec_HighestReading.f kj6 t435).bind fun bt449 => (if (!(bt445.1 == bt449.1) || (!(bt445.2.1 == bt449.2.1))) = true then (laws_FnLevels.j1 kj6 t435 t439 t440 t441 bt445.2.2 true bt445.1 bt445.2.1) else (laws_FnLevels.j1 kj6 t435 t439 t440 t441 bt445.2.2 (bt445.2.2 != bt449.2.2) bt445.1 bt445.2.1)))) = some r := by rw [if_neg (show ¬ (false = true) by decide)] at H; exact H
      clear H
      have H := H1
      clear H1
      replace H := Option.bind_eq_some_iff.mp H
      obtain ⟨⟨t445, t446, t447⟩, A150, H⟩ := H
      replace H : ((spec_HighestReading.f kj6 t435).bind fun bt449 => (if (!(t445 == bt449.1) || (!(t446 == bt449.2.1))) = true then (laws_FnLevels.j1 kj6 t435 t439 t440 t441 t447 true t445 t446) else (laws_FnLevels.j1 kj6 t435 t439 t440 t441 t447 (t447 != bt449.2.2) t445 t446))) = some r := H
      have A15 := Aside0.mk A150
      clear A150
      replace H := Option.bind_eq_some_iff.mp H
      obtain ⟨⟨t449, t450, t451⟩, A160, H⟩ := H
      replace H : (if (!(t445 == t449) || (!(t446 == t450))) = true then (laws_FnLevels.j1 kj6 t435 t439 t440 t441 t447 true t445 t446) else (laws_FnLevels.j1 kj6 t435 t439 t440 t441 t447 (t447 != t451) t445 t446)) = some r := H
      have A16 := Aside0.mk A160
      clear A160
      have HC17 := Aside0.mk H
      clear H
      go_upto_region 10 with (first | (go_at_call 30; (with_reducible refine (impl_HighestReading.calls kj6 _ _ t435 t445 t446 t447 _ ?side1 ?side2 A15.out).mono ?_); (case side1 => exact kc_ (Kd.R_reads' HO_3.out).2.2); (case side2 => exact (Kd.R_reads' HO_3.out).2.1); rintro e w18 ⟨rfl, hb⟩; replace HO_3 := Aside0.mk (Kd.R_below (kr_ HO_3.out) hb); replace HB := Aside0.mk (below_step (lb0_ HB.out) hb); (try clear hb); (try clear hb2); (try clear hk); (try clear hi)) | ((with_reducible refine gate_dst (N := 11) rfl ?_); refine box_event ?hg (N := 11) ?hd (cs := #[.int .i64 0, .int .i64 0]) (t := 54) ?hr ?_; (case hd => rfl); (case hg => rfl); (case hr => first | (go_simp; done) | (go_simp; rfl)); intro gb448 hg w19 hbox hb; replace HO_3 := Aside0.mk (Kd.R_below (Kd.R_elderB (kr_ HO_3.out) gb448 (Nat.le_of_eq hg.symm)) hb); have BK448 := Aside0.mk (hbox); have GW448 := Aside0.mk ((bz_ hg (lb0_ HB.out))); have GE448 := Aside0.mk ((bz_ hg (lb0_ HB.out))); replace HB := Aside0.mk (below_step (lb0_ HB.out) hb); clear hb hbox hg; obtain ⟨hcz20_0, hcz20_1⟩ := cz2_ BK448.out; obtain ⟨hfz20_0, hfz20_1⟩ := fz2_ BK448.out) | (go_at_call 31; (with_reducible refine (spec_HighestReading.calls kj6 _ _ t435 t449 t450 t451 _ ?side1 ?side2 A16.out).mono ?_); (case side1 => refine (Kd.R_reads' (e := 54) (base := w.heap.size) (ok := fun k_ => (True ∧ k_ ≠ gb448)) (n := t435.length) (c := co9) ?_).2.2; exact (by (with_reducible repeat (first | apply Kd.R_alloc | apply Kd.R_drewN | apply Kd.R_drew)); exact (Kd.R_mono (Kd.R_far (p := ⟨gb448, 1, none⟩) (Kd.R_far (p := ⟨gb448, 0, none⟩) (Kd.R_mono HO_3.out (fun k_ hk => (⟨hk, hk.2⟩ : _ ∧ k_ ≠ gb448))) (fun _ hk => hk.2) (.int .i64 t445)) (fun _ hk => hk.2) (.int .i64 t446)) (fun _ h_ => h_.1)))); (case side2 => exact (Kd.R_reads' HO_3.out).2.1); rintro e w21 ⟨rfl, hb⟩; replace HO_3 := Aside0.mk (Kd.R_below (by (with_reducible repeat (first | apply Kd.R_alloc | apply Kd.R_drewN | apply Kd.R_drew)); exact (Kd.R_mono (Kd.R_far (p := ⟨gb448, 1, none⟩) (Kd.R_far (p := ⟨gb448, 0, none⟩) (Kd.R_mono HO_3.out (fun k_ hk => (⟨hk, hk.2⟩ : _ ∧ k_ ≠ gb448))) (fun _ hk => hk.2) (.int .i64 t445)) (fun _ hk => hk.2) (.int .i64 t446)) (fun _ h_ => h_.1))) hb); replace BK448 := Aside0.mk (blk_below (g := gb448) (o := .cells #[.int .i64 t445, .int .i64 t446] 54 (0, 0)) (by (with_reducible repeat (first | refine blk_drewN ?_ _ | refine blk_drew ?_ | refine blk_alloc ?_ _)); exact (p2_ BK448.out _ _)) hb); replace HB := Aside0.mk (below_step (lb1_ HB.out GE448.out) hb); (try clear hb); (try clear hb2); (try clear hk); (try clear hi)) | ((with_reducible refine gate_dst (N := 13) rfl ?_); refine box_event ?hg (N := 13) ?hd (cs := #[.int .i64 0, .int .i64 0]) (t := 54) ?hr ?_; (case hd => rfl); (case hg => rfl); (case hr => first | (go_simp; done) | (go_simp; rfl)); intro gb452 hg w22 hbox hb; replace HO_3 := Aside0.mk (Kd.R_below (Kd.R_elderB (kr_ HO_3.out) gb452 (Nat.le_of_eq hg.symm)) hb); have BK452 := Aside0.mk (hbox); have GW452 := Aside0.mk ((bz_ hg (lb1_ HB.out GE448.out))); have GE452 := Aside0.mk ((bz_ hg (lb1_ HB.out GE448.out))); replace HB := Aside0.mk (below_step (lb1_ HB.out GE448.out) hb); have NB448_452 := Aside0.mk (nl_ hg BK448.out); have NB452_448 := Aside0.mk (ng_ hg BK448.out); replace BK448 := Aside0.mk (bb_ (bk_ BK448.out) hb); clear hb hbox hg; have hnb23 := NB452_448.out; have hnc23 := NB448_452.out; obtain ⟨hcz24_0, hcz24_1⟩ := cz2_ BK452.out; obtain ⟨hfz24_0, hfz24_1⟩ := fz2_ BK452.out))
      repeat (go_quiet (first | (go_at_call 30; (with_reducible refine (impl_HighestReading.calls kj6 _ _ t435 t445 t446 t447 _ ?side1 ?side2 A15.out).mono ?_); (case side1 => exact kc_ (Kd.R_reads' HO_3.out).2.2); (case side2 => exact (Kd.R_reads' HO_3.out).2.1); rintro e w18 ⟨rfl, hb⟩; replace HO_3 := Aside0.mk (Kd.R_below (kr_ HO_3.out) hb); replace HB := Aside0.mk (below_step (lb0_ HB.out) hb); (try clear hb); (try clear hb2); (try clear hk); (try clear hi)) | ((with_reducible refine gate_dst (N := 11) rfl ?_); refine box_event ?hg (N := 11) ?hd (cs := #[.int .i64 0, .int .i64 0]) (t := 54) ?hr ?_; (case hd => rfl); (case hg => rfl); (case hr => first | (go_simp; done) | (go_simp; rfl)); intro gb448 hg w19 hbox hb; replace HO_3 := Aside0.mk (Kd.R_below (Kd.R_elderB (kr_ HO_3.out) gb448 (Nat.le_of_eq hg.symm)) hb); have BK448 := Aside0.mk (hbox); have GW448 := Aside0.mk ((bz_ hg (lb0_ HB.out))); have GE448 := Aside0.mk ((bz_ hg (lb0_ HB.out))); replace HB := Aside0.mk (below_step (lb0_ HB.out) hb); clear hb hbox hg; obtain ⟨hcz20_0, hcz20_1⟩ := cz2_ BK448.out; obtain ⟨hfz20_0, hfz20_1⟩ := fz2_ BK448.out) | (go_at_call 31; (with_reducible refine (spec_HighestReading.calls kj6 _ _ t435 t449 t450 t451 _ ?side1 ?side2 A16.out).mono ?_); (case side1 => refine (Kd.R_reads' (e := 54) (base := w.heap.size) (ok := fun k_ => (True ∧ k_ ≠ gb448)) (n := t435.length) (c := co9) ?_).2.2; exact (by (with_reducible repeat (first | apply Kd.R_alloc | apply Kd.R_drewN | apply Kd.R_drew)); exact (Kd.R_mono (Kd.R_far (p := ⟨gb448, 1, none⟩) (Kd.R_far (p := ⟨gb448, 0, none⟩) (Kd.R_mono HO_3.out (fun k_ hk => (⟨hk, hk.2⟩ : _ ∧ k_ ≠ gb448))) (fun _ hk => hk.2) (.int .i64 t445)) (fun _ hk => hk.2) (.int .i64 t446)) (fun _ h_ => h_.1)))); (case side2 => exact (Kd.R_reads' HO_3.out).2.1); rintro e w21 ⟨rfl, hb⟩; replace HO_3 := Aside0.mk (Kd.R_below (by (with_reducible repeat (first | apply Kd.R_alloc | apply Kd.R_drewN | apply Kd.R_drew)); exact (Kd.R_mono (Kd.R_far (p := ⟨gb448, 1, none⟩) (Kd.R_far (p := ⟨gb448, 0, none⟩) (Kd.R_mono HO_3.out (fun k_ hk => (⟨hk, hk.2⟩ : _ ∧ k_ ≠ gb448))) (fun _ hk => hk.2) (.int .i64 t445)) (fun _ hk => hk.2) (.int .i64 t446)) (fun _ h_ => h_.1))) hb); replace BK448 := Aside0.mk (blk_below (g := gb448) (o := .cells #[.int .i64 t445, .int .i64 t446] 54 (0, 0)) (by (with_reducible repeat (first | refine blk_drewN ?_ _ | refine blk_drew ?_ | refine blk_alloc ?_ _)); exact (p2_ BK448.out _ _)) hb); replace HB := Aside0.mk (below_step (lb1_ HB.out GE448.out) hb); (try clear hb); (try clear hb2); (try clear hk); (try clear hi)) | ((with_reducible refine gate_dst (N := 13) rfl ?_); refine box_event ?hg (N := 13) ?hd (cs := #[.int .i64 0, .int .i64 0]) (t := 54) ?hr ?_; (case hd => rfl); (case hg => rfl); (case hr => first | (go_simp; done) | (go_simp; rfl)); intro gb452 hg w22 hbox hb; replace HO_3 := Aside0.mk (Kd.R_below (Kd.R_elderB (kr_ HO_3.out) gb452 (Nat.le_of_eq hg.symm)) hb); have BK452 := Aside0.mk (hbox); have GW452 := Aside0.mk ((bz_ hg (lb1_ HB.out GE448.out))); have GE452 := Aside0.mk ((bz_ hg (lb1_ HB.out GE448.out))); replace HB := Aside0.mk (below_step (lb1_ HB.out GE448.out) hb); have NB448_452 := Aside0.mk (nl_ hg BK448.out); have NB452_448 := Aside0.mk (ng_ hg BK448.out); replace BK448 := Aside0.mk (bb_ (bk_ BK448.out) hb); clear hb hbox hg; have hnb23 := NB452_448.out; have hnc23 := NB448_452.out; obtain ⟨hcz24_0, hcz24_1⟩ := cz2_ BK452.out; obtain ⟨hfz24_0, hfz24_1⟩ := fz2_ BK452.out)); go_upto_region 10 with (first | (go_at_call 30; (with_reducible refine (impl_HighestReading.calls kj6 _ _ t435 t445 t446 t447 _ ?side1 ?side2 A15.out).mono ?_); (case side1 => exact kc_ (Kd.R_reads' HO_3.out).2.2); (case side2 => exact (Kd.R_reads' HO_3.out).2.1); rintro e w18 ⟨rfl, hb⟩; replace HO_3 := Aside0.mk (Kd.R_below (kr_ HO_3.out) hb); replace HB := Aside0.mk (below_step (lb0_ HB.out) hb); (try clear hb); (try clear hb2); (try clear hk); (try clear hi)) | ((with_reducible refine gate_dst (N := 11) rfl ?_); refine box_event ?hg (N := 11) ?hd (cs := #[.int .i64 0, .int .i64 0]) (t := 54) ?hr ?_; (case hd => rfl); (case hg => rfl); (case hr => first | (go_simp; done) | (go_simp; rfl)); intro gb448 hg w19 hbox hb; replace HO_3 := Aside0.mk (Kd.R_below (Kd.R_elderB (kr_ HO_3.out) gb448 (Nat.le_of_eq hg.symm)) hb); have BK448 := Aside0.mk (hbox); have GW448 := Aside0.mk ((bz_ hg (lb0_ HB.out))); have GE448 := Aside0.mk ((bz_ hg (lb0_ HB.out))); replace HB := Aside0.mk (below_step (lb0_ HB.out) hb); clear hb hbox hg; obtain ⟨hcz20_0, hcz20_1⟩ := cz2_ BK448.out; obtain ⟨hfz20_0, hfz20_1⟩ := fz2_ BK448.out) | (go_at_call 31; (with_reducible refine (spec_HighestReading.calls kj6 _ _ t435 t449 t450 t451 _ ?side1 ?side2 A16.out).mono ?_); (case side1 => refine (Kd.R_reads' (e := 54) (base := w.heap.size) (ok := fun k_ => (True ∧ k_ ≠ gb448)) (n := t435.length) (c := co9) ?_).2.2; exact (by (with_reducible repeat (first | apply Kd.R_alloc | apply Kd.R_drewN | apply Kd.R_drew)); exact (Kd.R_mono (Kd.R_far (p := ⟨gb448, 1, none⟩) (Kd.R_far (p := ⟨gb448, 0, none⟩) (Kd.R_mono HO_3.out (fun k_ hk => (⟨hk, hk.2⟩ : _ ∧ k_ ≠ gb448))) (fun _ hk => hk.2) (.int .i64 t445)) (fun _ hk => hk.2) (.int .i64 t446)) (fun _ h_ => h_.1)))); (case side2 => exact (Kd.R_reads' HO_3.out).2.1); rintro e w21 ⟨rfl, hb⟩; replace HO_3 := Aside0.mk (Kd.R_below (by (with_reducible repeat (first | apply Kd.R_alloc | apply Kd.R_drewN | apply Kd.R_drew)); exact (Kd.R_mono (Kd.R_far (p := ⟨gb448, 1, none⟩) (Kd.R_far (p := ⟨gb448, 0, none⟩) (Kd.R_mono HO_3.out (fun k_ hk => (⟨hk, hk.2⟩ : _ ∧ k_ ≠ gb448))) (fun _ hk => hk.2) (.int .i64 t445)) (fun _ hk => hk.2) (.int .i64 t446)) (fun _ h_ => h_.1))) hb); replace BK448 := Aside0.mk (blk_below (g := gb448) (o := .cells #[.int .i64 t445, .int .i64 t446] 54 (0, 0)) (by (with_reducible repeat (first | refine blk_drewN ?_ _ | refine blk_drew ?_ | refine blk_alloc ?_ _)); exact (p2_ BK448.out _ _)) hb); replace HB := Aside0.mk (below_step (lb1_ HB.out GE448.out) hb); (try clear hb); (try clear hb2); (try clear hk); (try clear hi)) | ((with_reducible refine gate_dst (N := 13) rfl ?_); refine box_event ?hg (N := 13) ?hd (cs := #[.int .i64 0, .int .i64 0]) (t := 54) ?hr ?_; (case hd => rfl); (case hg => rfl); (case hr => first | (go_simp; done) | (go_simp; rfl)); intro gb452 hg w22 hbox hb; replace HO_3 := Aside0.mk (Kd.R_below (Kd.R_elderB (kr_ HO_3.out) gb452 (Nat.le_of_eq hg.symm)) hb); have BK452 := Aside0.mk (hbox); have GW452 := Aside0.mk ((bz_ hg (lb1_ HB.out GE448.out))); have GE452 := Aside0.mk ((bz_ hg (lb1_ HB.out GE448.out))); replace HB := Aside0.mk (below_step (lb1_ HB.out GE448.out) hb); have NB448_452 := Aside0.mk (nl_ hg BK448.out); have NB452_448 := Aside0.mk (ng_ hg BK448.out); replace BK448 := Aside0.mk (bb_ (bk_ BK448.out) hb); clear hb hbox hg; have hnb23 := NB452_448.out; have hnc23 := NB448_452.out; obtain ⟨hcz24_0, hcz24_1⟩ := cz2_ BK452.out; obtain ⟨hfz24_0, hfz24_1⟩ := fz2_ BK452.out)))
      (try simp only [Act.put, List.setIfInBounds_toArray, List.set_cons_zero, List.set_cons_succ])
      go_cut [79] (fun v79 wc => ∃ (kq : Nat) (x79_16 : Bool), v79 = .bool x79_16 ∧ Aside0 (laws_FnLevels.j1 kq t435 t439 t440 t441 t447 x79_16 t445 t446 = some r) ∧ Aside0 (kq ≤ kj6) ∧ Aside0 (Kd.R k54 54 wc w.heap.size (fun k_ => k_ ≠ gb448 ∧ k_ ≠ gb452) (.slice Ao9 t435.length co9) t435) ∧ Aside0 (wc.heap[gb448]? = some (.cells #[.int .i64 t445, .int .i64 t446] 54 (0, 0))) ∧ Aside0 (wc.heap[gb452]? = some (.cells #[.int .i64 t449, .int .i64 t450] 54 (0, 0))) ∧ Aside0 (Below w.heap.size w wc))
      case first =>
       as_aux_lemma =>
        have H := HC17.out; clear HC17
        by_cases c25 : (!(t445 == t449) || (!(t446 == t450))) = true
        ·
         rw [if_pos c25] at H
         have c25b0 : (!(t445 == t449) || (!(t446 == t450))) = true := c25; clear c25
         (first | rw [c25b0] | (simp only [i64_w, i32_w]; rw [c25b0]) | skip)
         have H' := Aside0.mk H; clear H; have hnb26 := NB448_452.out; have hnc26 := NB452_448.out; obtain ⟨hcz27_0, hcz27_1⟩ := cz2_ BK448.out; obtain ⟨hfz27_0, hfz27_1⟩ := fz2_ BK448.out; obtain ⟨hcz28_0, hcz28_1⟩ := cz2_ BK452.out; obtain ⟨hfz28_0, hfz28_1⟩ := fz2_ BK452.out
         go_wp2
         repeat (go_quiet (fail); try go_wp2)
         go_meet
         case rel => exact ⟨_, (true), (by first | rfl | (simp; done) | (simp [*]; done)), H', ⟨by have := HJ6.out; first | omega | exact Nat.le_refl _⟩, ⟨by (with_reducible repeat (first | apply Kd.R_alloc | apply Kd.R_drewN | apply Kd.R_drew)); exact Kd.R_mono (Kd.R_far (p := ⟨gb452, 1, none⟩) (Kd.R_far (p := ⟨gb452, 0, none⟩) (Kd.R_mono HO_3.out (fun k_ hk => (⟨hk, hk.2⟩ : _ ∧ k_ ≠ gb452))) (fun _ hk => hk.2) (.int .i64 t449)) (fun _ hk => hk.2) (.int .i64 t450)) (fun _ hk => ⟨hk.1.1.2, hk.1.2⟩)⟩, ⟨by (with_reducible repeat (first | refine blk_drewN ?_ _ | refine blk_drew ?_ | refine blk_alloc ?_ _)); exact (f2_ BK448.out NB448_452.out _ _)⟩, ⟨by (with_reducible repeat (first | refine blk_drewN ?_ _ | refine blk_drew ?_ | refine blk_alloc ?_ _)); exact (p2_ BK452.out _ _)⟩, ⟨lb2_ HB.out GE448.out GE452.out⟩⟩
        ·
         rw [if_neg c25] at H
         have c25b0 : (!(t445 == t449) || (!(t446 == t450))) = false := by simpa using c25
         clear c25
         (first | rw [c25b0] | (simp only [i64_w, i32_w]; rw [c25b0]) | skip)
         have H' := Aside0.mk H; clear H; have hnb29 := NB448_452.out; have hnc29 := NB452_448.out; obtain ⟨hcz30_0, hcz30_1⟩ := cz2_ BK448.out; obtain ⟨hfz30_0, hfz30_1⟩ := fz2_ BK448.out; obtain ⟨hcz31_0, hcz31_1⟩ := cz2_ BK452.out; obtain ⟨hfz31_0, hfz31_1⟩ := fz2_ BK452.out
         go_wp2
         repeat (go_quiet (fail); try go_wp2)
         go_meet
         case rel => exact ⟨_, ((t447 != t451)), (by first | rfl | (simp; done) | (simp [*]; done)), H', ⟨by have := HJ6.out; first | omega | exact Nat.le_refl _⟩, ⟨by (with_reducible repeat (first | apply Kd.R_alloc | apply Kd.R_drewN | apply Kd.R_drew)); exact Kd.R_mono (Kd.R_far (p := ⟨gb452, 1, none⟩) (Kd.R_far (p := ⟨gb452, 0, none⟩) (Kd.R_mono HO_3.out (fun k_ hk => (⟨hk, hk.2⟩ : _ ∧ k_ ≠ gb452))) (fun _ hk => hk.2) (.int .i64 t449)) (fun _ hk => hk.2) (.int .i64 t450)) (fun _ hk => ⟨hk.1.1.2, hk.1.2⟩)⟩, ⟨by (with_reducible repeat (first | refine blk_drewN ?_ _ | refine blk_drew ?_ | refine blk_alloc ?_ _)); exact (f2_ BK448.out NB448_452.out _ _)⟩, ⟨by (with_reducible repeat (first | refine blk_drewN ?_ _ | refine blk_drew ?_ | refine blk_alloc ?_ _)); exact (p2_ BK452.out _ _)⟩, ⟨lb2_ HB.out GE448.out GE452.out⟩⟩
      case rest =>
       as_aux_lemma =>
        clear HC17
        try clear c1
        try clear c2
        try clear p2
        try clear c3
        try clear c5
        try clear c12
        try clear c12b0
        try clear c12b1
        try clear c13
        try clear c13b0
        try clear c13b1
        try clear c14
        try clear c23
        try clear c25
        try clear c25b0
        try clear c26
        try clear c29
        try clear hcz20_0 hcz20_1
        try clear hcz24_0 hcz24_1
        try clear hcz27_0 hcz27_1
        try clear hcz28_0 hcz28_1
        try clear hcz30_0 hcz30_1
        try clear hcz31_0 hcz31_1
        try clear hfz20_0 hfz20_1
        try clear hfz24_0 hfz24_1
        try clear hfz27_0 hfz27_1
        try clear hfz28_0 hfz28_1
        try clear hfz30_0 hfz30_1
        try clear hfz31_0 hfz31_1
        try clear p2
        obtain ⟨kq, x79_16, rfl, HA, HJ16, HO_3, BK448, BK452, HB⟩ := hcut
        cases kq with
        | zero => exact absurd HA.out (by simp [laws_FnLevels.j1])
        | succ kj16 =>
         have H := HA.out; clear HA; simp only [laws_FnLevels.j1] at H
         by_cases c32 : x79_16 = true
         ·
          subst c32
          have H1 : (none) = some r := by rw [if_pos rfl] at H; exact H
          clear H; have H := H1; clear H1; exact absurd H (by simp)
         ·
          replace c32 := Bool.eq_false_iff.mpr c32; subst c32
          have H1 : (laws_FnLevels.l0 kj16 t435 t439 t440 t441 t447 0 t445 t446) = some r := by rw [if_neg (show ¬ (false = true) by decide)] at H; exact H
          clear H; have H := H1; clear H1; have H' := Aside0.mk H; clear H
          go_wp2
          repeat (go_quiet (fail); try go_wp2)
          go_loopg [15] kj16 (fun kq v15 w' => ∃ (x15_3 : Int), v15 = .int .i64 x15_3 ∧ Aside0 (laws_FnLevels.l0 kq t435 t439 t440 t441 t447 x15_3 t445 t446 = some r) ∧ Aside0 (kq ≤ kj16) ∧ Aside0 (Kd.R k54 54 w' w.heap.size (fun k_ => k_ ≠ gb448 ∧ k_ ≠ gb452) (.slice Ao9 t435.length co9) t435) ∧ Aside0 (w'.heap[gb448]? = some (.cells #[.int .i64 t445, .int .i64 t446] 54 (0, 0))) ∧ Aside0 (w'.heap[gb452]? = some (.cells #[.int .i64 t449, .int .i64 t450] 54 (0, 0))) ∧ Aside0 (Below w.heap.size w w'))
          case atStart => exact ⟨(0), (by first | rfl | (simp; done) | (simp [*]; done)), H', ⟨Nat.le_refl _⟩, ⟨kr_ HO_3.out⟩, ⟨bk_ BK448.out⟩, ⟨bk_ BK452.out⟩, ⟨lb2_ HB.out GE448.out GE452.out⟩⟩
          case round =>
           as_aux_lemma =>
            clear H'
            try clear c1
            try clear c2
            try clear p2
            try clear c3
            try clear c5
            try clear c12
            try clear c12b0
            try clear c12b1
            try clear c13
            try clear c13b0
            try clear c13b1
            try clear c14
            try clear c23
            try clear c25
            try clear c25b0
            try clear c26
            try clear c29
            try clear c32
            try clear hcz20_0 hcz20_1
            try clear hcz24_0 hcz24_1
            try clear hcz27_0 hcz27_1
            try clear hcz28_0 hcz28_1
            try clear hcz30_0 hcz30_1
            try clear hcz31_0 hcz31_1
            try clear hfz20_0 hfz20_1
            try clear hfz24_0 hfz24_1
            try clear hfz27_0 hfz27_1
            try clear hfz28_0 hfz28_1
            try clear hfz30_0 hfz30_1
            try clear hfz31_0 hfz31_1
            try clear p2
            obtain ⟨x15_3, rfl, HA, HK3, HO_3, BK448, BK452, HB⟩ := hrel
            cases gk with
            | zero => exact absurd HA.out (by simp [laws_FnLevels.l0])
            | succ k3 =>
             have H := HA.out; clear HA; simp only [laws_FnLevels.l0] at H; have HC33 := Aside0.mk H; clear H
             go_upto_region 13 with (fail)
             repeat (go_quiet (fail); go_upto_region 13 with (fail))
             go_cut [86] (fun v86 wc => ∃ (kq : Nat) (x86_32 : Bool), v86 = .bool x86_32 ∧ Aside0 (laws_FnLevels.j3 kq t435 t439 t440 t441 t447 x15_3 x86_32 t445 t446 = some r) ∧ Aside0 (kq ≤ k3) ∧ Aside0 (Kd.R k54 54 wc w.heap.size (fun k_ => k_ ≠ gb448 ∧ k_ ≠ gb452) (.slice Ao9 t435.length co9) t435) ∧ Aside0 (wc.heap[gb448]? = some (.cells #[.int .i64 t445, .int .i64 t446] 54 (0, 0))) ∧ Aside0 (wc.heap[gb452]? = some (.cells #[.int .i64 t449, .int .i64 t450] 54 (0, 0))) ∧ Aside0 (Below w.heap.size w wc))
             case first =>
              as_aux_lemma =>
               have H := HC33.out; clear HC33
               by_cases c34 : x15_3 < (t435.length : Int)
               ·
                rw [if_pos c34] at H
                have c34b0 : decide (x15_3 < (t435.length : Int)) = true := decide_eq_true c34; clear c34
                (first | rw [c34b0] | (simp only [i64_w, i32_w]; rw [c34b0]) | skip)
                have H' := Aside0.mk H; clear H
                go_wp2
                repeat (go_quiet (fail); try go_wp2)
                go_meet
                case rel => exact ⟨_, (t447), (by first | rfl | (simp; done) | (simp [*]; done)), H', ⟨by have := HJ6.out; have := HJ16.out; have := HK3.out; first | omega | exact Nat.le_refl _⟩, ⟨kr_ HO_3.out⟩, ⟨bk_ BK448.out⟩, ⟨bk_ BK452.out⟩, ⟨lb2_ HB.out GE448.out GE452.out⟩⟩
               ·
                rw [if_neg c34] at H
                have c34b0 : decide (x15_3 < (t435.length : Int)) = false := decide_eq_false c34; clear c34
                (first | rw [c34b0] | (simp only [i64_w, i32_w]; rw [c34b0]) | skip)
                have H' := Aside0.mk H; clear H
                go_wp2
                repeat (go_quiet (fail); try go_wp2)
                go_meet
                case rel => exact ⟨_, (false), (by first | rfl | (simp; done) | (simp [*]; done)), H', ⟨by have := HJ6.out; have := HJ16.out; have := HK3.out; first | omega | exact Nat.le_refl _⟩, ⟨kr_ HO_3.out⟩, ⟨bk_ BK448.out⟩, ⟨bk_ BK452.out⟩, ⟨lb2_ HB.out GE448.out GE452.out⟩⟩
             case rest =>
              as_aux_lemma =>
               clear HC33
               try clear c1
               try clear c2
               try clear p2
               try clear c3
               try clear c5
               try clear c12
               try clear c12b0
               try clear c12b1
               try clear c13
               try clear c13b0
               try clear c13b1
               try clear c14
               try clear c23
               try clear c25
               try clear c25b0
               try clear c26
               try clear c29
               try clear c32
               try clear c34
               try clear c34b0
               try clear hcz20_0 hcz20_1
               try clear hcz24_0 hcz24_1
               try clear hcz27_0 hcz27_1
               try clear hcz28_0 hcz28_1
               try clear hcz30_0 hcz30_1
               try clear hcz31_0 hcz31_1
               try clear hfz20_0 hfz20_1
               try clear hfz24_0 hfz24_1
               try clear hfz27_0 hfz27_1
               try clear hfz28_0 hfz28_1
               try clear hfz30_0 hfz30_1
               try clear hfz31_0 hfz31_1
               try clear p2
               obtain ⟨kq, x86_32, rfl, HA, HJ32, HO_3, BK448, BK452, HB⟩ := hcut
               cases kq with
               | zero => exact absurd HA.out (by simp [laws_FnLevels.j3])
               | succ kj32 =>
                have H := HA.out; clear HA; simp only [laws_FnLevels.j3] at H
                by_cases c35 : x86_32 = true
                ·
                 subst c35
                 have H1 : (if 0 ≤ x15_3 then (if x15_3 < (t435.length : Int) then ((impl_LevelIn.f kj32 t435 ((rd_T54 t435 x15_3).f0)).bind fun bt454 => (if bt454.2.2 = true then (if bt454.1 = ((rd_T54 t435 x15_3).f1) then (if bt454.2.1 = 1 then (if bt454.1 > t446 then (none) else (laws_FnLevels.l0 kj32 t435 t439 t440 t441 t447 (wrap64 (x15_3 + 1)) t445 t446)) else (none)) else (none)) else (none))) else (none)) else (none)) = some r := by rw [if_pos rfl] at H; exact H
                 clear H; have H := H1; clear H1
                 by_cases c36 : 0 ≤ x15_3
                 ·
                  rw [if_pos c36] at H
                  have c36b0 : decide (0 ≤ x15_3) = true := decide_eq_true c36; clear c36
                  by_cases c37 : x15_3 < (t435.length : Int)
                  ·
                   rw [if_pos c37] at H
                   have c37b0 : decide (x15_3 < (t435.length : Int)) = true := decide_eq_true c37; clear c37; replace H := Option.bind_eq_some_iff.mp H; obtain ⟨⟨t454, t455, t456⟩, A380, H⟩ := H; replace H : (if t456 = true then (if t454 = ((rd_T54 t435 x15_3).f1) then (if t455 = 1 then (if t454 > t446 then (none) else (laws_FnLevels.l0 kj32 t435 t439 t440 t441 t447 (wrap64 (x15_3 + 1)) t445 t446)) else (none)) else (none)) else (none)) = some r := H; have A38 := Aside0.mk A380; clear A380
                   by_cases c39 : t456 = true
                   ·
                    subst c39
                    have H1 : (if t454 = ((rd_T54 t435 x15_3).f1) then (if t455 = 1 then (if t454 > t446 then (none) else (laws_FnLevels.l0 kj32 t435 t439 t440 t441 t447 (wrap64 (x15_3 + 1)) t445 t446)) else (none)) else (none)) = some r := by rw [if_pos rfl] at H; exact H
                    clear H; have H := H1; clear H1
                    by_cases c40 : t454 = ((rd_T54 t435 x15_3).f1)
                    ·
                     rw [if_pos c40] at H
                     have c40b0 : (t454 == ((rd_T54 t435 x15_3).f1)) = true := beq_iff_eq.mpr c40; have c40b1 : (t454 != ((rd_T54 t435 x15_3).f1)) = false := bne_eq_false_iff_eq.mpr c40; clear c40
                     by_cases c41 : t455 = 1
                     ·
                      rw [if_pos c41] at H
                      have c41b0 : (t455 == 1) = true := beq_iff_eq.mpr c41; have c41b1 : (t455 != 1) = false := bne_eq_false_iff_eq.mpr c41; clear c41
                      by_cases c42 : t454 > t446
                      ·
                       rw [if_pos c42] at H
                       exact absurd H (by simp)
                      ·
                       rw [if_neg c42] at H
                       have c42b0 : decide (t446 < t454) = false := decide_eq_false c42; clear c42; have H' := Aside0.mk H; clear H; have p453 : 0 ≤ (x15_3 : Int) := dt_; have q453 : x15_3 < (t435.length : Int) := dt_; obtain ⟨ad453, e453, hx453_0, hx453_1⟩ := at_T54 (Kd.R_reads' HO_3.out).2.2 x15_3 p453 q453
                       cases e453
                       replace p453 := eq_true p453; replace q453 := eq_true q453
                       go_wp2_with (first | (go_at_call 28; (with_reducible refine (impl_LevelIn.calls kj32 _ _ t435 ((rd_T54 t435 x15_3).f0) t454 t455 true _ ?side1 ?side2 A38.out).mono ?_); (case side1 => exact kc_ (Kd.R_reads' HO_3.out).2.2); (case side2 => exact (Kd.R_reads' HO_3.out).2.1); rintro e w43 ⟨rfl, hb⟩; replace HO_3 := Aside0.mk (Kd.R_below (kr_ HO_3.out) hb); replace BK448 := Aside0.mk (bb_ (bk_ BK448.out) hb); replace BK452 := Aside0.mk (bb_ (bk_ BK452.out) hb); replace HB := Aside0.mk (below_step (lb2_ HB.out GE448.out GE452.out) hb); (try clear hb); (try clear hb2); (try clear hk); (try clear hi); have p457 : 0 ≤ (x15_3 : Int) := dt_; have q457 : x15_3 < (t435.length : Int) := dt_; obtain ⟨ad457, e457, hx457_0, hx457_1⟩ := at_T54 (Kd.R_reads' HO_3.out).2.2 x15_3 p457 q457; obtain rfl : ad453 = ad457 := (by injection e457); replace p457 := eq_true p457; replace q457 := eq_true q457; have hnb44 := NB448_452.out; have hnc44 := NB452_448.out; obtain ⟨hcz45_0, hcz45_1⟩ := cz2_ BK448.out; obtain ⟨hfz45_0, hfz45_1⟩ := fz2_ BK448.out))
                       repeat (go_quiet (first | (go_at_call 28; (with_reducible refine (impl_LevelIn.calls kj32 _ _ t435 ((rd_T54 t435 x15_3).f0) t454 t455 true _ ?side1 ?side2 A38.out).mono ?_); (case side1 => exact kc_ (Kd.R_reads' HO_3.out).2.2); (case side2 => exact (Kd.R_reads' HO_3.out).2.1); rintro e w43 ⟨rfl, hb⟩; replace HO_3 := Aside0.mk (Kd.R_below (kr_ HO_3.out) hb); replace BK448 := Aside0.mk (bb_ (bk_ BK448.out) hb); replace BK452 := Aside0.mk (bb_ (bk_ BK452.out) hb); replace HB := Aside0.mk (below_step (lb2_ HB.out GE448.out GE452.out) hb); (try clear hb); (try clear hb2); (try clear hk); (try clear hi); have p457 : 0 ≤ (x15_3 : Int) := dt_; have q457 : x15_3 < (t435.length : Int) := dt_; obtain ⟨ad457, e457, hx457_0, hx457_1⟩ := at_T54 (Kd.R_reads' HO_3.out).2.2 x15_3 p457 q457; obtain rfl : ad453 = ad457 := (by injection e457); replace p457 := eq_true p457; replace q457 := eq_true q457; have hnb44 := NB448_452.out; have hnc44 := NB452_448.out; obtain ⟨hcz45_0, hcz45_1⟩ := cz2_ BK448.out; obtain ⟨hfz45_0, hfz45_1⟩ := fz2_ BK448.out)); try go_wp2_with (first | (go_at_call 28; (with_reducible refine (impl_LevelIn.calls kj32 _ _ t435 ((rd_T54 t435 x15_3).f0) t454 t455 true _ ?side1 ?side2 A38.out).mono ?_); (case side1 => exact kc_ (Kd.R_reads' HO_3.out).2.2); (case side2 => exact (Kd.R_reads' HO_3.out).2.1); rintro e w43 ⟨rfl, hb⟩; replace HO_3 := Aside0.mk (Kd.R_below (kr_ HO_3.out) hb); replace BK448 := Aside0.mk (bb_ (bk_ BK448.out) hb); replace BK452 := Aside0.mk (bb_ (bk_ BK452.out) hb); replace HB := Aside0.mk (below_step (lb2_ HB.out GE448.out GE452.out) hb); (try clear hb); (try clear hb2); (try clear hk); (try clear hi); have p457 : 0 ≤ (x15_3 : Int) := dt_; have q457 : x15_3 < (t435.length : Int) := dt_; obtain ⟨ad457, e457, hx457_0, hx457_1⟩ := at_T54 (Kd.R_reads' HO_3.out).2.2 x15_3 p457 q457; obtain rfl : ad453 = ad457 := (by injection e457); replace p457 := eq_true p457; replace q457 := eq_true q457; have hnb44 := NB448_452.out; have hnc44 := NB452_448.out; obtain ⟨hcz45_0, hcz45_1⟩ := cz2_ BK448.out; obtain ⟨hfz45_0, hfz45_1⟩ := fz2_ BK448.out)))
                       go_roundg kj32
                       case measure => have := HJ6.out; have := HJ16.out; have := HK3.out; have := HJ32.out; omega
                       case rel => exact ⟨(wrap64 (x15_3 + 1)), (by first | rfl | (simp; done) | (simp [*]; done)), H', ⟨by have := HJ6.out; have := HJ16.out; have := HK3.out; have := HJ32.out; omega⟩, ⟨kr_ HO_3.out⟩, ⟨bk_ BK448.out⟩, ⟨bk_ BK452.out⟩, ⟨lb2_ HB.out GE448.out GE452.out⟩⟩
                     ·
                      rw [if_neg c41] at H
                      exact absurd H (by simp)
                    ·
                     rw [if_neg c40] at H
                     exact absurd H (by simp)
                   ·
                    replace c39 := Bool.eq_false_iff.mpr c39; subst c39
                    have H1 : (none) = some r := by rw [if_neg (show ¬ (false = true) by decide)] at H; exact H
                    clear H; have H := H1; clear H1; exact absurd H (by simp)
                  ·
                   rw [if_neg c37] at H
                   exact absurd H (by simp)
                 ·
                  rw [if_neg c36] at H
                  exact absurd H (by simp)
                ·
                 replace c35 := Bool.eq_false_iff.mpr c35; subst c35
                 have H1 : (if t441 = true then (laws_FnLevels.j4 kj32 t435 (decide (t439 > (wrap64 (t446 * t440))))) else (laws_FnLevels.j4 kj32 t435 false)) = some r := by rw [if_neg (show ¬ (false = true) by decide)] at H; exact H
                 clear H; have H := H1; clear H1; have HC46 := Aside0.mk H; clear H
                 go_upto_region 18 with (fail)
                 repeat (go_quiet (fail); go_upto_region 18 with (fail))
                 go_cut [129] (fun v129 wc => ∃ (kq : Nat) (x129_45 : Bool), v129 = .bool x129_45 ∧ Aside0 (laws_FnLevels.j4 kq t435 x129_45 = some r) ∧ Aside0 (kq ≤ kj32) ∧ Aside0 (Kd.R k54 54 wc w.heap.size (fun k_ => k_ ≠ gb448 ∧ k_ ≠ gb452) (.slice Ao9 t435.length co9) t435) ∧ Aside0 (wc.heap[gb448]? = some (.cells #[.int .i64 t445, .int .i64 t446] 54 (0, 0))) ∧ Aside0 (wc.heap[gb452]? = some (.cells #[.int .i64 t449, .int .i64 t450] 54 (0, 0))) ∧ Aside0 (Below w.heap.size w wc))
                 case first =>
                  as_aux_lemma =>
                   have H := HC46.out; clear HC46
                   by_cases c47 : t441 = true
                   ·
                    subst c47
                    have H1 : (laws_FnLevels.j4 kj32 t435 (decide (t439 > (wrap64 (t446 * t440))))) = some r := by rw [if_pos rfl] at H; exact H
                    clear H; have H := H1; clear H1; have H' := Aside0.mk H; clear H; have hnb48 := NB448_452.out; have hnc48 := NB452_448.out; obtain ⟨hcz49_0, hcz49_1⟩ := cz2_ BK448.out; obtain ⟨hfz49_0, hfz49_1⟩ := fz2_ BK448.out
                    go_wp2
                    repeat (go_quiet (fail); try go_wp2)
                    go_meet
                    case rel => exact ⟨_, (decide (t439 > (wrap64 (t446 * t440)))), (by first | rfl | (simp; done) | (simp [*]; done)), H', ⟨by have := HJ6.out; have := HJ16.out; have := HK3.out; have := HJ32.out; first | omega | exact Nat.le_refl _⟩, ⟨kr_ HO_3.out⟩, ⟨bk_ BK448.out⟩, ⟨bk_ BK452.out⟩, ⟨lb2_ HB.out GE448.out GE452.out⟩⟩
                   ·
                    replace c47 := Bool.eq_false_iff.mpr c47; subst c47
                    have H1 : (laws_FnLevels.j4 kj32 t435 false) = some r := by rw [if_neg (show ¬ (false = true) by decide)] at H; exact H
                    clear H; have H := H1; clear H1; have H' := Aside0.mk H; clear H
                    go_wp2
                    repeat (go_quiet (fail); try go_wp2)
                    go_meet
                    case rel => exact ⟨_, (false), (by first | rfl | (simp; done) | (simp [*]; done)), H', ⟨by have := HJ6.out; have := HJ16.out; have := HK3.out; have := HJ32.out; first | omega | exact Nat.le_refl _⟩, ⟨kr_ HO_3.out⟩, ⟨bk_ BK448.out⟩, ⟨bk_ BK452.out⟩, ⟨lb2_ HB.out GE448.out GE452.out⟩⟩
                 case rest =>
                  as_aux_lemma =>
                   clear HC46
                   try clear c1
                   try clear c2
                   try clear p2
                   try clear c3
                   try clear c4
                   try clear p4
                   try clear q4
                   try clear hx4
                   try clear c5
                   try clear p6
                   try clear c12
                   try clear c12b0
                   try clear c12b1
                   try clear c13
                   try clear c13b0
                   try clear c13b1
                   try clear c14
                   try clear c23
                   try clear c25
                   try clear c25b0
                   try clear c26
                   try clear c29
                   try clear c32
                   try clear c34
                   try clear c34b0
                   try clear c35
                   try clear c36
                   try clear c36b0
                   try clear c37
                   try clear c37b0
                   try clear c39
                   try clear c40
                   try clear c40b0
                   try clear c40b1
                   try clear c41
                   try clear c41b0
                   try clear c41b1
                   try clear c42
                   try clear c42b0
                   try clear c44
                   try clear p45
                   try clear q45
                   try clear hx45
                   try clear c47
                   try clear c48
                   try clear hcz20_0 hcz20_1
                   try clear hcz24_0 hcz24_1
                   try clear hcz27_0 hcz27_1
                   try clear hcz28_0 hcz28_1
                   try clear hcz30_0 hcz30_1
                   try clear hcz31_0 hcz31_1
                   try clear hcz45_0 hcz45_1
                   try clear hcz49_0 hcz49_1
                   try clear hfz20_0 hfz20_1
                   try clear hfz24_0 hfz24_1
                   try clear hfz27_0 hfz27_1
                   try clear hfz28_0 hfz28_1
                   try clear hfz30_0 hfz30_1
                   try clear hfz31_0 hfz31_1
                   try clear hfz45_0 hfz45_1
                   try clear hfz49_0 hfz49_1
                   try clear hx453_0
                   try clear hx453_1
                   try clear hx457_0
                   try clear hx457_1
                   try clear p2
                   try clear p453
                   try clear p457
                   try clear q453
                   try clear q457
                   obtain ⟨kq, x129_45, rfl, HA, HJ45, HO_3, BK448, BK452, HB⟩ := hcut
                   cases kq with
                   | zero => exact absurd HA.out (by simp [laws_FnLevels.j4])
                   | succ kj45 =>
                    have H := HA.out; clear HA; simp only [laws_FnLevels.j4] at H
                    by_cases c50 : x129_45 = true
                    ·
                     subst c50
                     have H1 : (none) = some r := by rw [if_pos rfl] at H; exact H
                     clear H; have H := H1; clear H1; exact absurd H (by simp)
                    ·
                     replace c50 := Bool.eq_false_iff.mpr c50; subst c50
                     have H1 : ((impl_FastestRise.f kj45 t435).bind fun bt458 => ((spec_FastestRise.f kj45 t435).bind fun bt462 => (if bt458.1 = bt462.1 then (if bt458.2.1 = bt462.2.1 then (if bt458.2.2.1 = bt462.2.2.1 then (laws_FnLevels.j5 kj45 t435 bt458.2.1 bt458.2.2.1 bt458.2.2.2 (bt458.2.2.2 != bt462.2.2.2)) else (laws_FnLevels.j5 kj45 t435 bt458.2.1 bt458.2.2.1 bt458.2.2.2 true)) else (laws_FnLevels.j5 kj45 t435 bt458.2.1 bt458.2.2.1 bt458.2.2.2 true)) else (laws_FnLevels.j5 kj45 t435 bt458.2.1 bt458.2.2.1 bt458.2.2.2 true)))) = some r := by rw [if_neg (show ¬ (false = true) by decide)] at H; exact H
                     clear H; have H := H1; clear H1; replace H := Option.bind_eq_some_iff.mp H; obtain ⟨⟨t458, t459, t460, t461⟩, A510, H⟩ := H; replace H : ((spec_FastestRise.f kj45 t435).bind fun bt462 => (if t458 = bt462.1 then (if t459 = bt462.2.1 then (if t460 = bt462.2.2.1 then (laws_FnLevels.j5 kj45 t435 t459 t460 t461 (t461 != bt462.2.2.2)) else (laws_FnLevels.j5 kj45 t435 t459 t460 t461 true)) else (laws_FnLevels.j5 kj45 t435 t459 t460 t461 true)) else (laws_FnLevels.j5 kj45 t435 t459 t460 t461 true))) = some r := H; have A51 := Aside0.mk A510; clear A510; replace H := Option.bind_eq_some_iff.mp H; obtain ⟨⟨t462, t463, t464, t465⟩, A520, H⟩ := H; replace H : (if t458 = t462 then (if t459 = t463 then (if t460 = t464 then (laws_FnLevels.j5 kj45 t435 t459 t460 t461 (t461 != t465)) else (laws_FnLevels.j5 kj45 t435 t459 t460 t461 true)) else (laws_FnLevels.j5 kj45 t435 t459 t460 t461 true)) else (laws_FnLevels.j5 kj45 t435 t459 t460 t461 true)) = some r := H; have A52 := Aside0.mk A520; clear A520; have HC53 := Aside0.mk H; clear H
                     go_upto_region 22 with (first | (go_at_call 32; (with_reducible refine (impl_FastestRise.calls kj45 _ _ t435 t458 t459 t460 t461 _ ?side1 ?side2 A51.out).mono ?_); (case side1 => exact kc_ (Kd.R_reads' HO_3.out).2.2); (case side2 => exact (Kd.R_reads' HO_3.out).2.1); rintro e w54 ⟨rfl, hb⟩; replace HO_3 := Aside0.mk (Kd.R_below (kr_ HO_3.out) hb); replace BK448 := Aside0.mk (bb_ (bk_ BK448.out) hb); replace BK452 := Aside0.mk (bb_ (bk_ BK452.out) hb); replace HB := Aside0.mk (below_step (lb2_ HB.out GE448.out GE452.out) hb); (try clear hb); (try clear hb2); (try clear hk); (try clear hi)) | (go_at_call 33; (with_reducible refine (spec_FastestRise.calls kj45 _ _ t435 t462 t463 t464 t465 _ ?side1 ?side2 A52.out).mono ?_); (case side1 => exact kc_ (Kd.R_reads' HO_3.out).2.2); (case side2 => exact (Kd.R_reads' HO_3.out).2.1); rintro e w55 ⟨rfl, hb⟩; replace HO_3 := Aside0.mk (Kd.R_below (kr_ HO_3.out) hb); replace BK448 := Aside0.mk (bb_ (bk_ BK448.out) hb); replace BK452 := Aside0.mk (bb_ (bk_ BK452.out) hb); replace HB := Aside0.mk (below_step (lb2_ HB.out GE448.out GE452.out) hb); (try clear hb); (try clear hb2); (try clear hk); (try clear hi)))
                     repeat (go_quiet (first | (go_at_call 32; (with_reducible refine (impl_FastestRise.calls kj45 _ _ t435 t458 t459 t460 t461 _ ?side1 ?side2 A51.out).mono ?_); (case side1 => exact kc_ (Kd.R_reads' HO_3.out).2.2); (case side2 => exact (Kd.R_reads' HO_3.out).2.1); rintro e w54 ⟨rfl, hb⟩; replace HO_3 := Aside0.mk (Kd.R_below (kr_ HO_3.out) hb); replace BK448 := Aside0.mk (bb_ (bk_ BK448.out) hb); replace BK452 := Aside0.mk (bb_ (bk_ BK452.out) hb); replace HB := Aside0.mk (below_step (lb2_ HB.out GE448.out GE452.out) hb); (try clear hb); (try clear hb2); (try clear hk); (try clear hi)) | (go_at_call 33; (with_reducible refine (spec_FastestRise.calls kj45 _ _ t435 t462 t463 t464 t465 _ ?side1 ?side2 A52.out).mono ?_); (case side1 => exact kc_ (Kd.R_reads' HO_3.out).2.2); (case side2 => exact (Kd.R_reads' HO_3.out).2.1); rintro e w55 ⟨rfl, hb⟩; replace HO_3 := Aside0.mk (Kd.R_below (kr_ HO_3.out) hb); replace BK448 := Aside0.mk (bb_ (bk_ BK448.out) hb); replace BK452 := Aside0.mk (bb_ (bk_ BK452.out) hb); replace HB := Aside0.mk (below_step (lb2_ HB.out GE448.out GE452.out) hb); (try clear hb); (try clear hb2); (try clear hk); (try clear hi))); go_upto_region 22 with (first | (go_at_call 32; (with_reducible refine (impl_FastestRise.calls kj45 _ _ t435 t458 t459 t460 t461 _ ?side1 ?side2 A51.out).mono ?_); (case side1 => exact kc_ (Kd.R_reads' HO_3.out).2.2); (case side2 => exact (Kd.R_reads' HO_3.out).2.1); rintro e w54 ⟨rfl, hb⟩; replace HO_3 := Aside0.mk (Kd.R_below (kr_ HO_3.out) hb); replace BK448 := Aside0.mk (bb_ (bk_ BK448.out) hb); replace BK452 := Aside0.mk (bb_ (bk_ BK452.out) hb); replace HB := Aside0.mk (below_step (lb2_ HB.out GE448.out GE452.out) hb); (try clear hb); (try clear hb2); (try clear hk); (try clear hi)) | (go_at_call 33; (with_reducible refine (spec_FastestRise.calls kj45 _ _ t435 t462 t463 t464 t465 _ ?side1 ?side2 A52.out).mono ?_); (case side1 => exact kc_ (Kd.R_reads' HO_3.out).2.2); (case side2 => exact (Kd.R_reads' HO_3.out).2.1); rintro e w55 ⟨rfl, hb⟩; replace HO_3 := Aside0.mk (Kd.R_below (kr_ HO_3.out) hb); replace BK448 := Aside0.mk (bb_ (bk_ BK448.out) hb); replace BK452 := Aside0.mk (bb_ (bk_ BK452.out) hb); replace HB := Aside0.mk (below_step (lb2_ HB.out GE448.out GE452.out) hb); (try clear hb); (try clear hb2); (try clear hk); (try clear hi))))
                     (try simp only [Act.put, List.setIfInBounds_toArray, List.set_cons_zero, List.set_cons_succ])
                     go_cut [161] (fun v161 wc => ∃ (kq : Nat) (x161_52 : Bool), v161 = .bool x161_52 ∧ Aside0 (laws_FnLevels.j5 kq t435 t459 t460 t461 x161_52 = some r) ∧ Aside0 (kq ≤ kj45) ∧ Aside0 (Kd.R k54 54 wc w.heap.size (fun k_ => k_ ≠ gb448 ∧ k_ ≠ gb452) (.slice Ao9 t435.length co9) t435) ∧ Aside0 (wc.heap[gb448]? = some (.cells #[.int .i64 t445, .int .i64 t446] 54 (0, 0))) ∧ Aside0 (wc.heap[gb452]? = some (.cells #[.int .i64 t449, .int .i64 t450] 54 (0, 0))) ∧ Aside0 (Below w.heap.size w wc))
                     case first =>
                      as_aux_lemma =>
                       have H := HC53.out; clear HC53
                       by_cases c56 : t458 = t462
                       ·
                        rw [if_pos c56] at H
                        have c56b0 : (t458 == t462) = true := beq_iff_eq.mpr c56; have c56b1 : (t458 != t462) = false := bne_eq_false_iff_eq.mpr c56; clear c56
                        (first | rw [c56b0] | (simp only [i64_w, i32_w]; rw [c56b0]) | skip)
                        by_cases c57 : t459 = t463
                        ·
                         rw [if_pos c57] at H
                         have c57b0 : (t459 == t463) = true := beq_iff_eq.mpr c57; have c57b1 : (t459 != t463) = false := bne_eq_false_iff_eq.mpr c57; clear c57
                         by_cases c58 : t460 = t464
                         ·
                          rw [if_pos c58] at H
                          have c58b0 : (t460 == t464) = true := beq_iff_eq.mpr c58; have c58b1 : (t460 != t464) = false := bne_eq_false_iff_eq.mpr c58; clear c58; have H' := Aside0.mk H; clear H
                          go_wp2
                          repeat (go_quiet (fail); try go_wp2)
                          go_meet
                          case rel => exact ⟨_, ((t461 != t465)), (by first | rfl | (simp; done) | (simp [*]; done)), H', ⟨by have := HJ6.out; have := HJ16.out; have := HK3.out; have := HJ32.out; have := HJ45.out; first | omega | exact Nat.le_refl _⟩, ⟨kr_ HO_3.out⟩, ⟨bk_ BK448.out⟩, ⟨bk_ BK452.out⟩, ⟨lb2_ HB.out GE448.out GE452.out⟩⟩
                         ·
                          rw [if_neg c58] at H
                          have c58b0 : (t460 == t464) = false := beq_eq_false_iff_ne.mpr c58; have c58b1 : (t460 != t464) = true := bne_iff_ne.mpr c58; have H' := Aside0.mk H; clear H
                          go_wp2
                          repeat (go_quiet (fail); try go_wp2)
                          go_meet
                          case rel => exact ⟨_, (true), (by first | rfl | (simp; done) | (simp [*]; done)), H', ⟨by have := HJ6.out; have := HJ16.out; have := HK3.out; have := HJ32.out; have := HJ45.out; first | omega | exact Nat.le_refl _⟩, ⟨kr_ HO_3.out⟩, ⟨bk_ BK448.out⟩, ⟨bk_ BK452.out⟩, ⟨lb2_ HB.out GE448.out GE452.out⟩⟩
                        ·
                         rw [if_neg c57] at H
                         have c57b0 : (t459 == t463) = false := beq_eq_false_iff_ne.mpr c57; have c57b1 : (t459 != t463) = true := bne_iff_ne.mpr c57; have H' := Aside0.mk H; clear H
                         go_wp2
                         repeat (go_quiet (fail); try go_wp2)
                         go_meet
                         case rel => exact ⟨_, (true), (by first | rfl | (simp; done) | (simp [*]; done)), H', ⟨by have := HJ6.out; have := HJ16.out; have := HK3.out; have := HJ32.out; have := HJ45.out; first | omega | exact Nat.le_refl _⟩, ⟨kr_ HO_3.out⟩, ⟨bk_ BK448.out⟩, ⟨bk_ BK452.out⟩, ⟨lb2_ HB.out GE448.out GE452.out⟩⟩
                       ·
                        rw [if_neg c56] at H
                        have c56b0 : (t458 == t462) = false := beq_eq_false_iff_ne.mpr c56; have c56b1 : (t458 != t462) = true := bne_iff_ne.mpr c56
                        (first | rw [c56b0] | (simp only [i64_w, i32_w]; rw [c56b0]) | skip)
                        have H' := Aside0.mk H; clear H
                        go_wp2
                        repeat (go_quiet (fail); try go_wp2)
                        go_meet
                        case rel => exact ⟨_, (true), (by first | rfl | (simp; done) | (simp [*]; done)), H', ⟨by have := HJ6.out; have := HJ16.out; have := HK3.out; have := HJ32.out; have := HJ45.out; first | omega | exact Nat.le_refl _⟩, ⟨kr_ HO_3.out⟩, ⟨bk_ BK448.out⟩, ⟨bk_ BK452.out⟩, ⟨lb2_ HB.out GE448.out GE452.out⟩⟩
                     case rest =>
                      as_aux_lemma =>
                       clear HC53
                       try clear c1
                       try clear c2
                       try clear p2
                       try clear c3
                       try clear c4
                       try clear p4
                       try clear q4
                       try clear hx4
                       try clear c5
                       try clear p6
                       try clear c12
                       try clear c12b0
                       try clear c12b1
                       try clear c13
                       try clear c13b0
                       try clear c13b1
                       try clear c14
                       try clear c23
                       try clear c25
                       try clear c25b0
                       try clear c26
                       try clear c29
                       try clear c32
                       try clear c34
                       try clear c34b0
                       try clear c35
                       try clear c36
                       try clear c36b0
                       try clear c37
                       try clear c37b0
                       try clear c39
                       try clear c40
                       try clear c40b0
                       try clear c40b1
                       try clear c41
                       try clear c41b0
                       try clear c41b1
                       try clear c42
                       try clear c42b0
                       try clear c44
                       try clear p45
                       try clear q45
                       try clear hx45
                       try clear c47
                       try clear c48
                       try clear c50
                       try clear c56
                       try clear c56b0
                       try clear c56b1
                       try clear c57
                       try clear c57b0
                       try clear c57b1
                       try clear c58
                       try clear c58b0
                       try clear c58b1
                       try clear hcz20_0 hcz20_1
                       try clear hcz24_0 hcz24_1
                       try clear hcz27_0 hcz27_1
                       try clear hcz28_0 hcz28_1
                       try clear hcz30_0 hcz30_1
                       try clear hcz31_0 hcz31_1
                       try clear hcz45_0 hcz45_1
                       try clear hcz49_0 hcz49_1
                       try clear hfz20_0 hfz20_1
                       try clear hfz24_0 hfz24_1
                       try clear hfz27_0 hfz27_1
                       try clear hfz28_0 hfz28_1
                       try clear hfz30_0 hfz30_1
                       try clear hfz31_0 hfz31_1
                       try clear hfz45_0 hfz45_1
                       try clear hfz49_0 hfz49_1
                       try clear hx453_0
                       try clear hx453_1
                       try clear hx457_0
                       try clear hx457_1
                       try clear p2
                       try clear p4
                       try clear p45
                       try clear p453
                       try clear p457
                       try clear p6
                       try clear q4
                       try clear q45
                       try clear q453
                       try clear q457
                       obtain ⟨kq, x161_52, rfl, HA, HJ52, HO_3, BK448, BK452, HB⟩ := hcut
                       cases kq with
                       | zero => exact absurd HA.out (by simp [laws_FnLevels.j5])
                       | succ kj52 =>
                        have H := HA.out; clear HA; simp only [laws_FnLevels.j5] at H
                        by_cases c59 : x161_52 = true
                        ·
                         subst c59
                         have H1 : (none) = some r := by rw [if_pos rfl] at H; exact H
                         clear H; have H := H1; clear H1; exact absurd H (by simp)
                        ·
                         replace c59 := Bool.eq_false_iff.mpr c59; subst c59
                         have H1 : (laws_FnLevels.l1 kj52 t435 t459 t460 t461 0) = some r := by rw [if_neg (show ¬ (false = true) by decide)] at H; exact H
                         clear H; have H := H1; clear H1; have H' := Aside0.mk H; clear H
                         go_wp2
                         repeat (go_quiet (fail); try go_wp2)
                         go_loopg [27] kj52 (fun kq v27 w' => ∃ (x27_7 : Int), v27 = .int .i64 x27_7 ∧ Aside0 (laws_FnLevels.l1 kq t435 t459 t460 t461 x27_7 = some r) ∧ Aside0 (kq ≤ kj52) ∧ Aside0 (Kd.R k54 54 w' w.heap.size (fun k_ => k_ ≠ gb448 ∧ k_ ≠ gb452) (.slice Ao9 t435.length co9) t435) ∧ Aside0 (w'.heap[gb448]? = some (.cells #[.int .i64 t445, .int .i64 t446] 54 (0, 0))) ∧ Aside0 (w'.heap[gb452]? = some (.cells #[.int .i64 t449, .int .i64 t450] 54 (0, 0))) ∧ Aside0 (Below w.heap.size w w'))
                         case atStart => exact ⟨(0), (by first | rfl | (simp; done) | (simp [*]; done)), H', ⟨Nat.le_refl _⟩, ⟨kr_ HO_3.out⟩, ⟨bk_ BK448.out⟩, ⟨bk_ BK452.out⟩, ⟨lb2_ HB.out GE448.out GE452.out⟩⟩
                         case round =>
                          as_aux_lemma =>
                           clear H'
                           try clear c1
                           try clear c2
                           try clear p2
                           try clear c3
                           try clear c4
                           try clear p4
                           try clear q4
                           try clear hx4
                           try clear c5
                           try clear p6
                           try clear c12
                           try clear c12b0
                           try clear c12b1
                           try clear c13
                           try clear c13b0
                           try clear c13b1
                           try clear c14
                           try clear c23
                           try clear c25
                           try clear c25b0
                           try clear c26
                           try clear c29
                           try clear c32
                           try clear c34
                           try clear c34b0
                           try clear c35
                           try clear c36
                           try clear c36b0
                           try clear c37
                           try clear c37b0
                           try clear c39
                           try clear c40
                           try clear c40b0
                           try clear c40b1
                           try clear c41
                           try clear c41b0
                           try clear c41b1
                           try clear c42
                           try clear c42b0
                           try clear c44
                           try clear p45
                           try clear q45
                           try clear hx45
                           try clear c47
                           try clear c48
                           try clear c50
                           try clear c56
                           try clear c56b0
                           try clear c56b1
                           try clear c57
                           try clear c57b0
                           try clear c57b1
                           try clear c58
                           try clear c58b0
                           try clear c58b1
                           try clear c59
                           try clear hcz20_0 hcz20_1
                           try clear hcz24_0 hcz24_1
                           try clear hcz27_0 hcz27_1
                           try clear hcz28_0 hcz28_1
                           try clear hcz30_0 hcz30_1
                           try clear hcz31_0 hcz31_1
                           try clear hcz45_0 hcz45_1
                           try clear hcz49_0 hcz49_1
                           try clear hfz20_0 hfz20_1
                           try clear hfz24_0 hfz24_1
                           try clear hfz27_0 hfz27_1
                           try clear hfz28_0 hfz28_1
                           try clear hfz30_0 hfz30_1
                           try clear hfz31_0 hfz31_1
                           try clear hfz45_0 hfz45_1
                           try clear hfz49_0 hfz49_1
                           try clear hx453_0
                           try clear hx453_1
                           try clear hx457_0
                           try clear hx457_1
                           try clear p2
                           try clear p4
                           try clear p45
                           try clear p453
                           try clear p457
                           try clear p6
                           try clear q4
                           try clear q45
                           try clear q453
                           try clear q457
                           obtain ⟨x27_7, rfl, HA, HK7, HO_3, BK448, BK452, HB⟩ := hrel
                           cases gk with
                           | zero => exact absurd HA.out (by simp [laws_FnLevels.l1])
                           | succ k7 =>
                            have H := HA.out; clear HA; simp only [laws_FnLevels.l1] at H; have HC60 := Aside0.mk H; clear H
                            go_upto_region 25 with (fail)
                            repeat (go_quiet (fail); go_upto_region 25 with (fail))
                            go_cut [169] (fun v169 wc => ∃ (kq : Nat) (x169_59 : Bool), v169 = .bool x169_59 ∧ Aside0 (laws_FnLevels.j7 kq t435 t459 t460 t461 x27_7 x169_59 = some r) ∧ Aside0 (kq ≤ k7) ∧ Aside0 (Kd.R k54 54 wc w.heap.size (fun k_ => k_ ≠ gb448 ∧ k_ ≠ gb452) (.slice Ao9 t435.length co9) t435) ∧ Aside0 (wc.heap[gb448]? = some (.cells #[.int .i64 t445, .int .i64 t446] 54 (0, 0))) ∧ Aside0 (wc.heap[gb452]? = some (.cells #[.int .i64 t449, .int .i64 t450] 54 (0, 0))) ∧ Aside0 (Below w.heap.size w wc))
                            case first =>
                             as_aux_lemma =>
                              have H := HC60.out; clear HC60
                              by_cases c61 : (wrap64 (x27_7 + 1)) < (t435.length : Int)
                              ·
                               rw [if_pos c61] at H
                               have c61b0 : decide ((wrap64 (x27_7 + 1)) < (t435.length : Int)) = true := decide_eq_true c61; clear c61
                               (first | rw [c61b0] | (simp only [i64_w, i32_w]; rw [c61b0]) | skip)
                               have H' := Aside0.mk H; clear H
                               go_wp2
                               repeat (go_quiet (fail); try go_wp2)
                               go_meet
                               case rel => exact ⟨_, (t461), (by first | rfl | (simp; done) | (simp [*]; done)), H', ⟨by have := HJ6.out; have := HJ16.out; have := HK3.out; have := HJ32.out; have := HJ45.out; have := HJ52.out; have := HK7.out; first | omega | exact Nat.le_refl _⟩, ⟨kr_ HO_3.out⟩, ⟨bk_ BK448.out⟩, ⟨bk_ BK452.out⟩, ⟨lb2_ HB.out GE448.out GE452.out⟩⟩
                              ·
                               rw [if_neg c61] at H
                               have c61b0 : decide ((wrap64 (x27_7 + 1)) < (t435.length : Int)) = false := decide_eq_false c61; clear c61
                               (first | rw [c61b0] | (simp only [i64_w, i32_w]; rw [c61b0]) | skip)
                               have H' := Aside0.mk H; clear H
                               go_wp2
                               repeat (go_quiet (fail); try go_wp2)
                               go_meet
                               case rel => exact ⟨_, (false), (by first | rfl | (simp; done) | (simp [*]; done)), H', ⟨by have := HJ6.out; have := HJ16.out; have := HK3.out; have := HJ32.out; have := HJ45.out; have := HJ52.out; have := HK7.out; first | omega | exact Nat.le_refl _⟩, ⟨kr_ HO_3.out⟩, ⟨bk_ BK448.out⟩, ⟨bk_ BK452.out⟩, ⟨lb2_ HB.out GE448.out GE452.out⟩⟩
                            case rest =>
                             as_aux_lemma =>
                              clear HC60
                              try clear c1
                              try clear c2
                              try clear p2
                              try clear c3
                              try clear c4
                              try clear p4
                              try clear q4
                              try clear hx4
                              try clear c5
                              try clear c6
                              try clear p6
                              try clear c12
                              try clear c12b0
                              try clear c12b1
                              try clear c13
                              try clear c13b0
                              try clear c13b1
                              try clear c14
                              try clear c23
                              try clear c25
                              try clear c25b0
                              try clear c26
                              try clear c29
                              try clear c32
                              try clear c34
                              try clear c34b0
                              try clear c35
                              try clear c36
                              try clear c36b0
                              try clear c37
                              try clear c37b0
                              try clear c39
                              try clear c40
                              try clear c40b0
                              try clear c40b1
                              try clear c41
                              try clear c41b0
                              try clear c41b1
                              try clear c42
                              try clear c42b0
                              try clear c44
                              try clear p45
                              try clear q45
                              try clear hx45
                              try clear c47
                              try clear c48
                              try clear c50
                              try clear c56
                              try clear c56b0
                              try clear c56b1
                              try clear c57
                              try clear c57b0
                              try clear c57b1
                              try clear c58
                              try clear c58b0
                              try clear c58b1
                              try clear c59
                              try clear c61
                              try clear c61b0
                              try clear hcz20_0 hcz20_1
                              try clear hcz24_0 hcz24_1
                              try clear hcz27_0 hcz27_1
                              try clear hcz28_0 hcz28_1
                              try clear hcz30_0 hcz30_1
                              try clear hcz31_0 hcz31_1
                              try clear hcz45_0 hcz45_1
                              try clear hcz49_0 hcz49_1
                              try clear hfz20_0 hfz20_1
                              try clear hfz24_0 hfz24_1
                              try clear hfz27_0 hfz27_1
                              try clear hfz28_0 hfz28_1
                              try clear hfz30_0 hfz30_1
                              try clear hfz31_0 hfz31_1
                              try clear hfz45_0 hfz45_1
                              try clear hfz49_0 hfz49_1
                              try clear hx453_0
                              try clear hx453_1
                              try clear hx457_0
                              try clear hx457_1
                              try clear p2
                              try clear p4
                              try clear p45
                              try clear p453
                              try clear p457
                              try clear p6
                              try clear q4
                              try clear q45
                              try clear q453
                              try clear q457
                              obtain ⟨kq, x169_59, rfl, HA, HJ59, HO_3, BK448, BK452, HB⟩ := hcut
                              cases kq with
                              | zero => exact absurd HA.out (by simp [laws_FnLevels.j7])
                              | succ kj59 =>
                               have H := HA.out; clear HA; simp only [laws_FnLevels.j7] at H
                               by_cases c62 : x169_59 = true
                               ·
                                subst c62
                                have H1 : (if 0 ≤ (wrap64 (x27_7 + 1)) then (if (wrap64 (x27_7 + 1)) < (t435.length : Int) then (if 0 ≤ x27_7 then (if x27_7 < (t435.length : Int) then (if (wrap64 ((wrap64 (((rd_T54 t435 (wrap64 (x27_7 + 1))).f1) - ((rd_T54 t435 x27_7).f1))) * t460)) > (wrap64 (t459 * (wrap64 (((rd_T54 t435 (wrap64 (x27_7 + 1))).f0) - ((rd_T54 t435 x27_7).f0))))) then (none) else (laws_FnLevels.l1 kj59 t435 t459 t460 t461 (wrap64 (x27_7 + 1)))) else (none)) else (none)) else (none)) else (none)) = some r := by rw [if_pos rfl] at H; exact H
                                clear H; have H := H1; clear H1
                                obtain ⟨ji63, hji63⟩ : ∃ j_ : Int, (wrap64 (x27_7 + 1)) = j_ := ⟨_, rfl⟩
                                replace H : (if 0 ≤ (ji63) then (if (ji63) < (t435.length : Int) then (if 0 ≤ x27_7 then (if x27_7 < (t435.length : Int) then (if (wrap64 ((wrap64 (((rd_T54 t435 (ji63)).f1) - ((rd_T54 t435 x27_7).f1))) * t460)) > (wrap64 (t459 * (wrap64 (((rd_T54 t435 (ji63)).f0) - ((rd_T54 t435 x27_7).f0))))) then (none) else (laws_FnLevels.l1 kj59 t435 t459 t460 t461 ji63)) else (none)) else (none)) else (none)) else (none)) = some r := by first | (rw [hji63] at H; exact H) | (simp only [hji63] at H ⊢; exact H)
                                have hji63w : (IntKind.i64.wrap (x27_7 + 1)) = ji63 := (i64_w _).trans hji63
                                by_cases c64 : 0 ≤ (ji63)
                                ·
                                 rw [if_pos c64] at H
                                 have c64b0 : decide (0 ≤ (ji63)) = true := decide_eq_true c64; clear c64
                                 by_cases c65 : (ji63) < (t435.length : Int)
                                 ·
                                  rw [if_pos c65] at H
                                  have c65b0 : decide ((ji63) < (t435.length : Int)) = true := decide_eq_true c65; clear c65
                                  by_cases c66 : 0 ≤ x27_7
                                  ·
                                   rw [if_pos c66] at H
                                   have c66b0 : decide (0 ≤ x27_7) = true := decide_eq_true c66; clear c66
                                   by_cases c67 : x27_7 < (t435.length : Int)
                                   ·
                                    rw [if_pos c67] at H
                                    have c67b0 : decide (x27_7 < (t435.length : Int)) = true := decide_eq_true c67; clear c67
                                    by_cases c68 : (wrap64 ((wrap64 (((rd_T54 t435 (ji63)).f1) - ((rd_T54 t435 x27_7).f1))) * t460)) > (wrap64 (t459 * (wrap64 (((rd_T54 t435 (ji63)).f0) - ((rd_T54 t435 x27_7).f0)))))
                                    ·
                                     rw [if_pos c68] at H
                                     exact absurd H (by simp)
                                    ·
                                     rw [if_neg c68] at H
                                     have c68b0 : decide ((wrap64 (t459 * (wrap64 (((rd_T54 t435 (ji63)).f0) - ((rd_T54 t435 x27_7).f0))))) < (wrap64 ((wrap64 (((rd_T54 t435 (ji63)).f1) - ((rd_T54 t435 x27_7).f1))) * t460))) = false := decide_eq_false c68; clear c68; have H' := Aside0.mk H; clear H; have p466 : 0 ≤ ((ji63) : Int) := dt_; have q466 : (ji63) < (t435.length : Int) := dt_; obtain ⟨ad466, e466, hx466_0, hx466_1⟩ := at_T54 (Kd.R_reads' HO_3.out).2.2 (ji63) p466 q466
                                     cases e466
                                     replace p466 := eq_true p466; replace q466 := eq_true q466; have p467 : 0 ≤ (x27_7 : Int) := dt_; have q467 : x27_7 < (t435.length : Int) := dt_; obtain ⟨ad467, e467, hx467_0, hx467_1⟩ := at_T54 (Kd.R_reads' HO_3.out).2.2 x27_7 p467 q467
                                     obtain rfl : ad466 = ad467 := (by injection e467)
                                     replace p467 := eq_true p467; replace q467 := eq_true q467; have p468 : 0 ≤ ((ji63) : Int) := dt_; have q468 : (ji63) < (t435.length : Int) := dt_; obtain ⟨ad468, e468, hx468_0, hx468_1⟩ := at_T54 (Kd.R_reads' HO_3.out).2.2 (ji63) p468 q468
                                     obtain rfl : ad466 = ad468 := (by injection e468)
                                     replace p468 := eq_true p468; replace q468 := eq_true q468; have p469 : 0 ≤ (x27_7 : Int) := dt_; have q469 : x27_7 < (t435.length : Int) := dt_; obtain ⟨ad469, e469, hx469_0, hx469_1⟩ := at_T54 (Kd.R_reads' HO_3.out).2.2 x27_7 p469 q469
                                     obtain rfl : ad466 = ad469 := (by injection e469)
                                     replace p469 := eq_true p469; replace q469 := eq_true q469
                                     go_wp2
                                     repeat (go_quiet (fail); try go_wp2)
                                     go_roundg kj59
                                     case measure => have := HJ6.out; have := HJ16.out; have := HK3.out; have := HJ32.out; have := HJ45.out; have := HJ52.out; have := HK7.out; have := HJ59.out; omega
                                     case rel => exact ⟨(ji63), (by first | rfl | (simp; done) | (simp only [← hji63] <;> (first | rfl | simp)) | (simp [*]; done)), H', ⟨by have := HJ6.out; have := HJ16.out; have := HK3.out; have := HJ32.out; have := HJ45.out; have := HJ52.out; have := HK7.out; have := HJ59.out; omega⟩, ⟨kr_ HO_3.out⟩, ⟨bk_ BK448.out⟩, ⟨bk_ BK452.out⟩, ⟨lb2_ HB.out GE448.out GE452.out⟩⟩
                                   ·
                                    rw [if_neg c67] at H
                                    exact absurd H (by simp)
                                  ·
                                   rw [if_neg c66] at H
                                   exact absurd H (by simp)
                                 ·
                                  rw [if_neg c65] at H
                                  exact absurd H (by simp)
                                ·
                                 rw [if_neg c64] at H
                                 exact absurd H (by simp)
                               ·
                                replace c62 := Bool.eq_false_iff.mpr c62; subst c62
                                have H1 : ((impl_AreReadings.f kj59 t435).bind fun t470 => ((spec_AreReadings.f kj59 t435).bind fun t471 => (some (t470 == t471)))) = some r := by rw [if_neg (show ¬ (false = true) by decide)] at H; exact H
                                clear H; have H := H1; clear H1; replace H := Option.bind_eq_some_iff.mp H; obtain ⟨t470, A690, H⟩ := H; replace H : ((spec_AreReadings.f kj59 t435).bind fun t471 => (some (t470 == t471))) = some r := H; have A69 := Aside0.mk A690; clear A690; replace H := Option.bind_eq_some_iff.mp H; obtain ⟨t471, A700, H⟩ := H; replace H : (some (t470 == t471)) = some r := H; have A70 := Aside0.mk A700; clear A700; obtain rfl := Option.some.inj H
                                go_wp2_with (first | (go_at_call 34; (with_reducible refine (impl_AreReadings.calls kj59 _ _ t435 t470 _ ?side1 ?side2 A69.out).mono ?_); (case side1 => exact kc_ (Kd.R_reads' HO_3.out).2.2); (case side2 => exact (Kd.R_reads' HO_3.out).2.1); rintro e w71 ⟨rfl, hb⟩; replace HO_3 := Aside0.mk (Kd.R_below (kr_ HO_3.out) hb); replace BK448 := Aside0.mk (bb_ (bk_ BK448.out) hb); replace BK452 := Aside0.mk (bb_ (bk_ BK452.out) hb); replace HB := Aside0.mk (below_step (lb2_ HB.out GE448.out GE452.out) hb); (try clear hb); (try clear hb2); (try clear hk); (try clear hi)) | (go_at_call 35; (with_reducible refine (spec_AreReadings.calls kj59 _ _ t435 t471 _ ?side1 ?side2 A70.out).mono ?_); (case side1 => exact kc_ (Kd.R_reads' HO_3.out).2.2); (case side2 => exact (Kd.R_reads' HO_3.out).2.1); rintro e w72 ⟨rfl, hb⟩; replace HO_3 := Aside0.mk (Kd.R_below (kr_ HO_3.out) hb); replace BK448 := Aside0.mk (bb_ (bk_ BK448.out) hb); replace BK452 := Aside0.mk (bb_ (bk_ BK452.out) hb); replace HB := Aside0.mk (below_step (lb2_ HB.out GE448.out GE452.out) hb); (try clear hb); (try clear hb2); (try clear hk); (try clear hi)))
                                repeat (go_quiet (first | (go_at_call 34; (with_reducible refine (impl_AreReadings.calls kj59 _ _ t435 t470 _ ?side1 ?side2 A69.out).mono ?_); (case side1 => exact kc_ (Kd.R_reads' HO_3.out).2.2); (case side2 => exact (Kd.R_reads' HO_3.out).2.1); rintro e w71 ⟨rfl, hb⟩; replace HO_3 := Aside0.mk (Kd.R_below (kr_ HO_3.out) hb); replace BK448 := Aside0.mk (bb_ (bk_ BK448.out) hb); replace BK452 := Aside0.mk (bb_ (bk_ BK452.out) hb); replace HB := Aside0.mk (below_step (lb2_ HB.out GE448.out GE452.out) hb); (try clear hb); (try clear hb2); (try clear hk); (try clear hi)) | (go_at_call 35; (with_reducible refine (spec_AreReadings.calls kj59 _ _ t435 t471 _ ?side1 ?side2 A70.out).mono ?_); (case side1 => exact kc_ (Kd.R_reads' HO_3.out).2.2); (case side2 => exact (Kd.R_reads' HO_3.out).2.1); rintro e w72 ⟨rfl, hb⟩; replace HO_3 := Aside0.mk (Kd.R_below (kr_ HO_3.out) hb); replace BK448 := Aside0.mk (bb_ (bk_ BK448.out) hb); replace BK452 := Aside0.mk (bb_ (bk_ BK452.out) hb); replace HB := Aside0.mk (below_step (lb2_ HB.out GE448.out GE452.out) hb); (try clear hb); (try clear hb2); (try clear hk); (try clear hi))); try go_wp2_with (first | (go_at_call 34; (with_reducible refine (impl_AreReadings.calls kj59 _ _ t435 t470 _ ?side1 ?side2 A69.out).mono ?_); (case side1 => exact kc_ (Kd.R_reads' HO_3.out).2.2); (case side2 => exact (Kd.R_reads' HO_3.out).2.1); rintro e w71 ⟨rfl, hb⟩; replace HO_3 := Aside0.mk (Kd.R_below (kr_ HO_3.out) hb); replace BK448 := Aside0.mk (bb_ (bk_ BK448.out) hb); replace BK452 := Aside0.mk (bb_ (bk_ BK452.out) hb); replace HB := Aside0.mk (below_step (lb2_ HB.out GE448.out GE452.out) hb); (try clear hb); (try clear hb2); (try clear hk); (try clear hi)) | (go_at_call 35; (with_reducible refine (spec_AreReadings.calls kj59 _ _ t435 t471 _ ?side1 ?side2 A70.out).mono ?_); (case side1 => exact kc_ (Kd.R_reads' HO_3.out).2.2); (case side2 => exact (Kd.R_reads' HO_3.out).2.1); rintro e w72 ⟨rfl, hb⟩; replace HO_3 := Aside0.mk (Kd.R_below (kr_ HO_3.out) hb); replace BK448 := Aside0.mk (bb_ (bk_ BK448.out) hb); replace BK452 := Aside0.mk (bb_ (bk_ BK452.out) hb); replace HB := Aside0.mk (below_step (lb2_ HB.out GE448.out GE452.out) hb); (try clear hb); (try clear hb2); (try clear hk); (try clear hi))))
                                go_ret
                                exact ⟨rr_, lb2_ HB.out GE448.out GE452.out⟩
end Go.Proofs.Ytojaeidabmfajaa.Pr

namespace Go.Proofs.YtojaeidabmfajaaW.Opens
open Go.ChangeShapes Go.WideShapes Go.RowKit
open Go.Deep (open_slice choose_lt)
open Go.Proofs.YtojaeidabmfajaaW.PrintWords
set_option linter.unusedVariables false
set_option linter.unusedSimpArgs false
def Opn {α : Type} (P : Program) (t : TypeId) (d : Kd α) (wf : α → Prop) : Prop :=
 P.cellsOf t = d.sz ∧ ∀ (H : Type) (enc : TypeId × Value → H) (W : World) (fuel : Nat) (cs : List Value) (x : DataW H × List MemPlace),
  DataW.trod enc P W 0 (fun _ => true) true fuel t cs = some x → (∀ n ∈ x.1.weights P t, n ≤ reachBytes) → ∃ y, d.K W y cs ∧ wf y
theorem Opn.int {P : Program} {t : TypeId} {k : IntKind} (hc : P.cellsOf t = 1) (ht : P.underlying t = some (.int k)) : Opn P t (Kd.int k) (fun n => (Lit.int k n).wf = true) :=
 ⟨hc, fun H enc W fuel cs x h _ => by
  obtain ⟨m, rfl, rfl, hw⟩ := DataW.trod_int ht h
  exact ⟨m, rfl, hw⟩⟩
theorem Opn.bool {P : Program} {t : TypeId} (hc : P.cellsOf t = 1) (ht : P.underlying t = some .bool) : Opn P t Kd.bool (fun _ => True) :=
 ⟨hc, fun H enc W fuel cs x h _ => by
  obtain ⟨m, rfl, rfl⟩ := DataW.trod_bool ht h
  exact ⟨m, rfl, trivial⟩⟩
theorem weightsAll_mem {H : Type} {P : Program} {e : TypeId} : ∀ {l : List (DataW H)} {d : DataW H}, d ∈ l → ∀ n ∈ d.weights P e, n ∈ DataW.weightsAll P e l
 | _ :: r, d, h, n, hn => by
  simp only [DataW.weightsAll, List.mem_append]
  rcases List.mem_cons.1 h with rfl | h
  ·
   exact .inl hn
  ·
   exact .inr (weightsAll_mem h n hn)
theorem Opn.slice {α : Type} (z : α) {P : Program} {t e : TypeId} {d : Kd α} {wf : α → Prop} {B : Nat} (hc : P.cellsOf t = 1) (ht : P.underlying t = some (.slice e)) (hB : P.bytesOf e = B) (h : Opn P e d wf) :
  Opn P t (Kd.slice e d) (fun xs => xs.length ≤ maxLen ∧ xs.length * B ≤ 140737488351232 ∧ ∀ y ∈ xs, wf y) :=
 ⟨hc, fun H enc W fuel cs x hf hw => by
  haveI : Inhabited α := ⟨z⟩
  rcases open_slice ht hf with ⟨rfl, rfl⟩ | ⟨a, len, cap, m, n, D, Pl, rfl, _, hl, hm, hmm, rfl, each⟩
  ·
   exact ⟨[], ⟨none, 0, rfl, Nat.le_refl _, rfl, by simp, fun h => absurd h (Nat.lt_irrefl 0)⟩, by simp, by simp, by simp⟩
  ·
   rw [if_pos rfl] at hmm
   subst hmm
   have hw0 : ∀ n ∈ DataW.weights P t (DataW.slice (H := H) ((List.range len).map D) ((List.range (m - len)).map fun j => D (len + j))), n ≤ reachBytes := hw
   have hww : ∀ i, i < len → ∀ n ∈ (D i).weights P e, n ≤ reachBytes := by
    intro i hi n hn
    refine hw0 n ?_
    simp only [DataW.weights, ht, List.mem_cons, List.mem_append]
    exact .inr (.inl (weightsAll_mem (List.mem_map.2 ⟨i, List.mem_range.2 hi, rfl⟩) n hn))
   have hB2 : len * B ≤ 140737488351232 := by
    have := hw0 ((len + (m - len)) * B) (by simp [DataW.weights, ht, hB])
    refine Nat.le_trans (Nat.mul_le_mul_right _ (by omega)) this
   have hx : ∀ i, i < len → ∃ y, ∃ c : List Value, c.length = d.sz ∧ d.K W y c ∧ wf y ∧ ∀ j u, c[j]? = some u → W.cell? (a.add (i * d.sz + j)) = some u := by
    intro i hi
    obtain ⟨cs', h1, h2⟩ := each i (by omega)
    obtain ⟨y, hy, hwy⟩ := h.2 H enc W n cs' _ h2 (hww i hi)
    obtain ⟨_, hlen, hcell⟩ := World.cells?_some h1
    rw [h.1] at hlen hcell
    refine ⟨y, cs', hlen, hy, hwy, fun j u hu => ?_⟩
    have hj : j < d.sz := by
     have := (List.getElem?_eq_some_iff.1 hu).1
     omega
    have := hcell j hj
    rw [add_add] at this
    exact this.trans hu
   obtain ⟨f, hf'⟩ := choose_lt hx
   refine ⟨(List.range len).map f, ⟨some a, m, by simp, by simpa using hl, by simp, by simp only [maxLen] at hm; simp; omega, fun _ => ⟨a, rfl, fun j p hj => ?_⟩⟩, ?_, ?_, ?_⟩
   ·
    rw [List.getElem?_map] at hj
    have hj' : j < len := by
     by_cases hjl : j < len
     ·
      exact hjl
     ·
      rw [List.getElem?_eq_none (by simp; omega)] at hj
      cases hj
    rw [List.getElem?_range hj'] at hj
    obtain rfl := Option.some.inj hj
    obtain ⟨c, h1, h2, _, h3⟩ := hf' j hj'
    exact ⟨c, h1, h2, h3⟩
   ·
    simp; omega
   ·
    simpa using hB2
   ·
    intro y hy
    obtain ⟨i, hi, rfl⟩ := List.mem_map.1 hy
    obtain ⟨c, _, _, h2, _⟩ := hf' i (List.mem_range.1 hi)
    exact h2⟩
def FOpn {α : Type} (P : Program) (fs : List Field) (off : Nat) (d : Kd α) (wf : α → Prop) : Prop :=
 ∀ (H : Type) (enc : TypeId × Value → H) (W : World) (fuel : Nat) (cs : List Value) (xs : List (DataW H × List MemPlace)),
  xs.length = fs.length → (∀ (i : Nat) (f : Field), fs[i]? = some f → DataW.trod enc P W 0 (fun _ => true) true fuel f.type ((cs.drop f.offset).take (P.cellsOf f.type)) = xs[i]?) →
  (∀ n ∈ DataW.weightsEach P (fs.map (·.type)) (xs.map (·.1)), n ≤ reachBytes) → ∃ y, d.K W y ((cs.drop off).take d.sz) ∧ wf y
theorem FOpn.one {α : Type} {P : Program} {f : Field} {off : Nat} {d : Kd α} {wf : α → Prop} (ho : f.offset = off) (h : Opn P f.type d wf) : FOpn P [f] off d wf := by
 intro H enc W fuel cs xs hl hx hw
 match xs, hl with
 | [x], _ =>
  have h0 := hx 0 f rfl
  rw [ho, h.1] at h0
  exact h.2 H enc W fuel _ x h0 (fun n hn => hw n (by simp only [List.map, DataW.weightsEach, List.mem_append]; exact .inl hn))
theorem FOpn.cons {α β : Type} {P : Program} {f : Field} {fs : List Field} {off : Nat} {d : Kd α} {d' : Kd β} {wf : α → Prop} {wf' : β → Prop} (ho : f.offset = off) (h : Opn P f.type d wf) (h' : FOpn P fs (off + d.sz) d' wf') :
  FOpn P (f :: fs) off (Kd.pair d d') (fun x => wf x.1 ∧ wf' x.2) := by
 intro H enc W fuel cs xs hl hx hw
 match xs, hl with
 | x :: xs, hl =>
  have h0 := hx 0 f rfl
  rw [ho, h.1] at h0
  have hw' : ∀ n ∈ x.1.weights P f.type ++ DataW.weightsEach P (fs.map (·.type)) (xs.map (·.1)), n ≤ reachBytes := hw
  obtain ⟨y, hy, hwy⟩ := h.2 H enc W fuel _ x h0 (fun n hn => hw' n (List.mem_append_left _ hn))
  obtain ⟨y', hy', hwy'⟩ := h' H enc W fuel cs xs (by simpa using hl) (fun i f' hf' => hx (i + 1) f' (by simpa using hf')) (fun n hn => hw' n (List.mem_append_right _ hn))
  refine ⟨(y, y'), ⟨_, _, ?_, hy, hy'⟩, hwy, hwy'⟩
  show (cs.drop off).take (d.sz + d'.sz) = _
  rw [List.take_add, List.drop_drop]
theorem par_weights {H : Type} {P : Program} {ts : List TypeId} {ds : List (DataW H)} {j : Nat} {t : TypeId} {d : DataW H} (h : (DataW.weightsEach P ts ds).all (· ≤ reachBytes) = true) (ht : ts[j]? = some t) (hd : ds[j]? = some d) :
  ∀ n ∈ d.weights P t, n ≤ reachBytes := fun n hn => of_decide_eq_true (List.all_eq_true.1 h n (DataW.weights_mem_each ht hd n hn))
theorem par_slice {α : Type} {H : Type} {enc : TypeId × Value → H} {P : Program} {W : World} {r : Reach} {b0 : Nat} {t e : TypeId} {d : Kd α} {wf : List α → Prop} {v : Value} {D : DataW H} {ps : List MemPlace}
  (ht : P.underlying t = some (.slice e)) (ho : Opn P t (Kd.slice e d) wf) (hv : Value.okWide P W r b0 t v) (hd : DataW.Trod enc P W 0 (fun _ => true) true t v D ps) (hw : ∀ n ∈ D.weights P t, n ≤ reachBytes) :
  ∃ (A : Option Addr) (l : List α) (c : Nat), v = .slice A l.length c ∧ l.length ≤ c ∧ d.C W A l.length l ∧ wf l := by
 obtain ⟨A, len, cap, rfl⟩ := okWide_slice ht hv
 obtain ⟨fuel, hf⟩ := hd
 obtain ⟨l, ⟨A', c, he, hl, hC⟩, hwl⟩ := ho.2 H enc W fuel _ _ hf hw
 have he' : [Value.slice A len cap] = [.slice A' l.length c] := he
 simp only [List.cons.injEq, Value.slice.injEq, and_true] at he'
 obtain ⟨rfl, rfl, rfl⟩ := he'
 exact ⟨_, l, _, rfl, hl, hC, hwl⟩
end Go.Proofs.YtojaeidabmfajaaW.Opens

namespace Go.Proofs.Ytojaeidabmfajaa.Pr
open Go.RowKit Go.Proofs.YtojaeidabmfajaaW.PrintWords Go.Proofs.YtojaeidabmfajaaW.PrintLast Go.Proofs.YtojaeidabmfajaaW.Opens
set_option linter.unusedVariables false
def wfL5 (l : List Int) : Prop := l.length ≤ maxLen ∧ l.length * 1 ≤ 140737488351232 ∧ ∀ y ∈ l, (Lit.int .u8 y).wf = true
theorem opnL47 : Opn Try.prog 47 (Kd.slice 5 (Kd.int .u8)) wfL5 := Opn.slice (0 : Int) (by kernel_rfl) Try.underlying47 (by kernel_rfl) (Opn.int (by kernel_rfl) Try.underlying5)
def FnLevels.Pure : Prop := ∀ (x0 : (List Int)), wfL5 x0 → ∃ k, laws_FnLevels.f k x0 = some true
end Go.Proofs.Ytojaeidabmfajaa.Pr

namespace Go.Proofs.Ytojaeidabmfajaa.Pr.Pure
open Go.RowKit Go.Proofs.YtojaeidabmfajaaW.PrintWords Go.Proofs.YtojaeidabmfajaaW.PrintLast Go.Proofs.YtojaeidabmfajaaW.PrintMore
set_option linter.unusedVariables false
set_option linter.unusedSimpArgs false
theorem w64 {x : Int} (h1 : -9223372036854775808 ≤ x) (h2 : x ≤ 9223372036854775807) : wrap64 x = x := by
 unfold wrap64
 omega
theorem getD_some {α : Type} (l : List α) (z : α) (i : Nat) (h : i < l.length) : l[i]? = some (l.getD i z) := by
 rw [List.getD_eq_getElem?_getD, List.getElem?_eq_getElem h]
 rfl
theorem obs {α β : Type} (a : α) (f : α → Option β) : (some a).bind f = f a := id (Option.bind_some a f)
theorem l1In_eq (a b c : Int) : spec_l1In.f a b c = some (decide (b ≤ a ∧ a ≤ c)) := by
 unfold spec_l1In.f
 by_cases h : a ≥ b
 ·
  rw [if_pos h]; simp [show b ≤ a from h]
 ·
  rw [if_neg h]; simp [show ¬ b ≤ a from h]
theorem within_eq (a b c : Int) : impl_within.f a b c = some (decide (b ≤ a ∧ a ≤ c)) := by
 unfold impl_within.f
 by_cases h : a ≥ b
 ·
  rw [if_pos h]; simp [show b ≤ a from h]
 ·
  rw [if_neg h]; simp [show ¬ b ≤ a from h]
theorem level_eq (a : Int) : spec_l23Level.f a = some (decide (-500 ≤ a ∧ a ≤ 500)) := by
 unfold spec_l23Level.f; rw [l1In_eq]; rfl
theorem isLevel_eq (a : Int) : impl_isLevel.f a = some (decide (-500 ≤ a ∧ a ≤ 500)) := by
 unfold impl_isLevel.f; rw [within_eq]; rfl
def Vr (l : List S54) (i : Int) : Prop := (0 ≤ (rd_T54 l i).f0 ∧ (rd_T54 l i).f0 ≤ 999) ∧ (-500 ≤ (rd_T54 l i).f1 ∧ (rd_T54 l i).f1 ≤ 500) ∧ (0 < i → (rd_T54 l (i - 1)).f0 < (rd_T54 l i).f0)
theorem good_spec (l : List S54) (hl : l.length ≤ 4611686018427387904) (d : Nat) : ∀ (k : Nat) (i : Int), 0 ≤ i → i + d = l.length → d < k →
  ∃ b, spec_l23Good.l0 k l i = some b ∧ (b = true ↔ (∀ j : Int, i ≤ j → j < l.length → Vr l j) ∧ l.length ≤ 15) := by
 induction d with
 | zero =>
  intro k i h0 hd hk
  obtain ⟨k, rfl⟩ : ∃ m, k = m + 1 := ⟨k - 1, by omega⟩
  refine ⟨_, by simp only [spec_l23Good.l0]; rw [if_neg (by omega)], ?_⟩
  rw [decide_eq_true_eq]
  constructor
  ·
   intro h
   exact ⟨fun j h1 h2 => by omega, by omega⟩
  ·
   intro h
   omega
 | succ d ih =>
  intro k i h0 hd hk
  obtain ⟨k, rfl⟩ : ∃ m, k = m + 1 := ⟨k - 1, by omega⟩
  obtain ⟨b, hb, hiff⟩ := ih k (i + 1) (by omega) (by omega) (by omega)
  have hw : wrap64 (i + 1) = i + 1 := w64 (by omega) (by omega)
  have hw' : wrap64 (i - 1) = i - 1 := w64 (by omega) (by omega)
  simp only [spec_l23Good.l0, l1In_eq, level_eq, Option.bind_some, decide_eq_true_eq, hw, hw']
  rw [if_pos (show i < (l.length : Int) by omega), if_pos h0]
  have hno : ¬ Vr l i → (false = true ↔ (∀ j : Int, i ≤ j → j < l.length → Vr l j) ∧ l.length ≤ 15) := fun hn => ⟨fun h => (by cases h), fun h => absurd (h.1 i (by omega) (by omega)) hn⟩
  have hyes : Vr l i → (b = true ↔ (∀ j : Int, i ≤ j → j < l.length → Vr l j) ∧ l.length ≤ 15) := fun hy => by
   rw [hiff]
   refine ⟨fun h => ⟨fun j h1 h2 => ?_, h.2⟩, fun h => ⟨fun j h1 h2 => h.1 j (by omega) h2, h.2⟩⟩
   by_cases e : j = i
   ·
    rw [e]; exact hy
   ·
    exact h.1 j (by omega) h2
  by_cases h1 : 0 ≤ (rd_T54 l i).f0 ∧ (rd_T54 l i).f0 ≤ 999
  ·
   rw [if_pos h1]
   by_cases h2 : -500 ≤ (rd_T54 l i).f1 ∧ (rd_T54 l i).f1 ≤ 500
   ·
    rw [if_pos h2]
    by_cases h3 : i > 0
    ·
     rw [if_pos h3, if_pos (by omega), if_pos (by omega)]
     by_cases h4 : (rd_T54 l (i - 1)).f0 ≥ (rd_T54 l i).f0
     ·
      rw [if_pos h4]
      exact ⟨_, rfl, hno (fun h => by have := h.2.2 h3; omega)⟩
     ·
      rw [if_neg h4]
      exact ⟨_, hb, hyes ⟨h1, h2, fun _ => by omega⟩⟩
    ·
     rw [if_neg h3]
     exact ⟨_, hb, hyes ⟨h1, h2, fun h => absurd h h3⟩⟩
   ·
    rw [if_neg h2]
    exact ⟨_, rfl, hno (fun h => h2 h.2.1)⟩
  ·
   rw [if_neg h1]
   exact ⟨_, rfl, hno (fun h => h1 h.1)⟩
theorem good_impl (l : List S54) : ∀ (k : Nat) (i : Int), impl_AreReadings.l0 k l l (l.length : Int) i = spec_l23Good.l0 k l i
 | 0, i => by simp only [impl_AreReadings.l0, spec_l23Good.l0]
 | k + 1, i => by
  simp only [impl_AreReadings.l0, spec_l23Good.l0, l1In_eq, level_eq, within_eq, isLevel_eq, good_impl l k]
  by_cases h1 : i < (l.length : Int)
  ·
   simp only [if_pos h1]
  ·
   simp only [if_neg h1]
theorem gcd_impl : ∀ (k : Nat) (a b : Int), b.natAbs < k → -9223372036854775807 ≤ a → a ≤ 9223372036854775807 → -9223372036854775807 ≤ b → b ≤ 9223372036854775807 → impl_gcd.l0 k a b = some (Int.gcd a b : Int)
 | 0, _, _, h, _, _, _, _ => by omega
 | k + 1, a, b, h, ha, ha', hb, hb' => by
  simp only [impl_gcd.l0]
  by_cases e : b = 0
  ·
   rw [if_pos e]
   subst e
   simp only [impl_absolute.f, Option.bind_some]
   rw [w64 (by omega) (by omega), Int.gcd_zero_right]
   unfold mx
   split <;> (congr 1; omega)
  ·
   rw [if_neg e]
   have hm : (Int.tmod a b).natAbs = a.natAbs % b.natAbs := Int.natAbs_tmod a b
   have hlt : a.natAbs % b.natAbs < b.natAbs := Nat.mod_lt _ (by omega)
   rw [gcd_impl k b (Int.tmod a b) (by omega) hb hb' (by omega) (by omega)]
   congr 2
   rw [Int.gcd_comm a b]
   show Nat.gcd b.natAbs (Int.tmod a b).natAbs = Nat.gcd b.natAbs a.natAbs
   rw [hm, Nat.gcd_comm, ← Nat.gcd_rec]
theorem gcd_spec : ∀ (k : Nat) (a b : Int), b.toNat < k → 0 ≤ a → 0 ≤ b → spec_l23Common.l0 k a b = some (Int.gcd a b : Int)
 | 0, _, _, h, _, _ => by omega
 | k + 1, a, b, h, ha, hb => by
  simp only [spec_l23Common.l0]
  by_cases e : b > 0
  ·
   rw [if_pos e, if_neg (by omega)]
   have h1 : 0 ≤ Int.tmod a b := Int.tmod_nonneg b ha
   have h2 : Int.tmod a b < b := Int.tmod_lt_of_pos a e
   rw [gcd_spec k b (Int.tmod a b) (by omega) hb h1]
   congr 2
   rw [Int.gcd_comm a b]
   show Nat.gcd b.natAbs (Int.tmod a b).natAbs = Nat.gcd b.natAbs a.natAbs
   rw [Int.natAbs_tmod, Nat.gcd_comm, ← Nat.gcd_rec]
  ·
   rw [if_neg e]
   obtain rfl : b = 0 := by omega
   rw [Int.gcd_zero_right]
   congr 1
   omega
def red (a b : Int) : Int × Int := (Int.tdiv a (Int.gcd a b), Int.tdiv b (Int.gcd a b))
theorem tdiv_bd (a : Int) (g : Int) (hg : 1 ≤ g) {B : Int} (h1 : -B ≤ a) (h2 : a ≤ B) : -B ≤ Int.tdiv a g ∧ Int.tdiv a g ≤ B := by
 have h3 : (Int.tdiv a g).natAbs ≤ a.natAbs := by
  rw [Int.natAbs_tdiv]
  exact Nat.div_le_self _ _
 omega
theorem red_impl {k : Nat} {a b : Int} (hk : b.natAbs < k) (ha : -1000000000000 ≤ a) (ha' : a ≤ 1000000000000) (hb : 1 ≤ b) (hb' : b ≤ 1000000000000) : impl_reduced.f k a b = some (red a b) := by
 have hg : 1 ≤ (Int.gcd a b : Int) := by
  have : 0 < Int.gcd a b := Int.gcd_pos_of_ne_zero_right a (by omega)
  omega
 have h1 := tdiv_bd a _ hg ha ha'
 have h2 := tdiv_bd b _ hg (B := 1000000000000) (by omega) hb'
 unfold impl_reduced.f impl_gcd.f
 rw [gcd_impl k a b hk (by omega) (by omega) (by omega) (by omega)]
 simp only [Option.bind_some]
 rw [if_neg (by omega), w64 (by omega) (by omega), w64 (by omega) (by omega)]
 rfl
theorem red_spec {k : Nat} {a b : Int} (hk : b.natAbs < k) (ha : -1000000000000 ≤ a) (ha' : a ≤ 1000000000000) (hb : 1 ≤ b) (hb' : b ≤ 1000000000000) : spec_l23Reduce.f k a b = some (red a b) := by
 have hg : 1 ≤ (Int.gcd a b : Int) := by
  have : 0 < Int.gcd a b := Int.gcd_pos_of_ne_zero_right a (by omega)
  omega
 have h1 := tdiv_bd a _ hg ha ha'
 have h2 := tdiv_bd b _ hg (B := 1000000000000) (by omega) hb'
 have hm : spec_l1Most.f a (wrap64 (-a)) = some (a.natAbs : Int) := by
  unfold spec_l1Most.f
  rw [w64 (by omega) (by omega)]
  split <;> (congr 1; omega)
 unfold spec_l23Reduce.f spec_l23Common.f
 rw [hm]
 simp only [Option.bind_some]
 rw [gcd_spec k _ b (by omega) (by omega) (by omega)]
 have e : Int.gcd (a.natAbs : Int) b = Int.gcd a b := by
  show Nat.gcd (a.natAbs : Int).natAbs b.natAbs = Nat.gcd a.natAbs b.natAbs
  rw [Int.natAbs_natCast]
 rw [e]
 simp only [Option.bind_some]
 rw [if_neg (by omega), w64 (by omega) (by omega), w64 (by omega) (by omega)]
 rfl
def Good (l : List S54) : Prop := (∀ j : Int, 0 ≤ j → j < l.length → Vr l j) ∧ l.length ≤ 15
theorem Good.mono {l : List S54} (h : Good l) (d : Nat) : ∀ i j : Int, 0 ≤ i → i + d = j → j < l.length → (rd_T54 l i).f0 + d ≤ (rd_T54 l j).f0 := by
 induction d with
 | zero =>
  intro i j h0 hd hj
  obtain rfl : i = j := by omega
  omega
 | succ d ih =>
  intro i j h0 hd hj
  have h1 := ih i (j - 1) h0 (by omega) (by omega)
  have h2 := (h.1 j (by omega) hj).2.2 (by omega)
  omega
def levelAt (l : List S54) (hour : Int) (i : Int) : Int × Int :=
 if (rd_T54 l i).f0 = hour then ((rd_T54 l i).f1, 1)
 else red ((rd_T54 l (i - 1)).f1 * ((rd_T54 l i).f0 - hour) + (rd_T54 l i).f1 * (hour - (rd_T54 l (i - 1)).f0)) ((rd_T54 l i).f0 - (rd_T54 l (i - 1)).f0)
def First (l : List S54) (hour : Int) (i : Int) : Prop := 0 ≤ i ∧ i < l.length ∧ hour ≤ (rd_T54 l i).f0 ∧ (0 < i → (rd_T54 l (i - 1)).f0 < hour)
theorem prod_bd {a b : Int} (h1 : -500 ≤ a) (h2 : a ≤ 500) (h3 : 0 ≤ b) (h4 : b ≤ 999) : -499500 ≤ a * b ∧ a * b ≤ 499500 := by
 constructor
 ·
  have : (-500) * b ≤ a * b := Int.mul_le_mul_of_nonneg_right h1 h3
  omega
 ·
  have : a * b ≤ 500 * b := Int.mul_le_mul_of_nonneg_right h2 h3
  omega
theorem in_spec {l : List S54} (hg : Good l) {hour n : Int} (hn : First l hour n) (hf : (rd_T54 l 0).f0 ≤ hour) (d : Nat) : ∀ (k : Nat) (i : Int), 0 ≤ i → i + d = n → d + 1001 < k →
  spec_l23In.l0 k l hour i = some (levelAt l hour n) := by
 obtain ⟨n0, n1, n2, n3⟩ := hn
 induction d with
 | zero =>
  intro k i h0 hd hk
  obtain ⟨k, rfl⟩ : ∃ m, k = m + 1 := ⟨k - 1, by omega⟩
  obtain rfl : i = n := by omega
  have hl := hg.2
  simp only [spec_l23In.l0]
  rw [if_pos h0, if_pos n1, if_neg (by omega)]
  unfold levelAt
  by_cases e : (rd_T54 l i).f0 = hour
  ·
   rw [if_pos e, if_pos e]
  ·
   have hi : 0 < i := by
    rcases Int.lt_or_le 0 i with h | h
    ·
     exact h
    ·
     obtain rfl : i = 0 := by omega
     omega
   obtain ⟨⟨v1, v2⟩, ⟨v3, v4⟩, v5⟩ := hg.1 i h0 n1
   obtain ⟨⟨u1, u2⟩, ⟨u3, u4⟩, _⟩ := hg.1 (i - 1) (by omega) (by omega)
   have hp := n3 hi
   have b1 := prod_bd u3 u4 (b := (rd_T54 l i).f0 - hour) (by omega) (by omega)
   have b2 := prod_bd v3 v4 (b := hour - (rd_T54 l (i - 1)).f0) (by omega) (by omega)
   rw [if_neg e, if_neg e, w64 (x := i - 1) (by omega) (by omega), if_pos (by omega), if_pos (by omega)]
   rw [w64 (x := (rd_T54 l i).f0 - hour) (by omega) (by omega), w64 (x := hour - (rd_T54 l (i - 1)).f0) (by omega) (by omega), w64 (x := (rd_T54 l (i - 1)).f1 * _) (by omega) (by omega), w64 (x := (rd_T54 l i).f1 * _) (by omega) (by omega), w64 (by omega) (by omega), w64 (by omega) (by omega)]
   rw [red_spec (by omega) (by omega) (by omega) (by omega) (by omega)]
   rfl
 | succ d ih =>
  intro k i h0 hd hk
  obtain ⟨k, rfl⟩ : ∃ m, k = m + 1 := ⟨k - 1, by omega⟩
  have hl := hg.2
  have hm := Good.mono hg d i (n - 1) h0 (by omega) (by omega)
  have hp := n3 (by omega)
  simp only [spec_l23In.l0]
  rw [if_pos h0, if_pos (by omega), if_pos (by omega), w64 (x := i + 1) (by omega) (by omega)]
  exact ih k (i + 1) (by omega) (by omega) (by omega)
theorem in_impl {l : List S54} (hg : Good l) {hour n : Int} (hn : First l hour n) (hf : (rd_T54 l 0).f0 ≤ hour) (d : Nat) : ∀ (k : Nat) (i : Int), 0 ≤ i → (rd_T54 l i).f0 ≤ hour → i + d = n → d + 1001 < k →
  impl_levelIn.l0 k l hour i = some (levelAt l hour n) := by
 obtain ⟨n0, n1, n2, n3⟩ := hn
 have hl := hg.2
 induction d with
 | zero =>
  intro k i h0 hle hd hk
  obtain ⟨k, rfl⟩ : ∃ m, k = m + 1 := ⟨k - 1, by omega⟩
  obtain rfl : i = n := by omega
  have e : (rd_T54 l i).f0 = hour := by omega
  simp only [impl_levelIn.l0]
  rw [w64 (x := i + 1) (by omega) (by omega)]
  unfold levelAt
  by_cases h1 : i + 1 < (l.length : Int)
  ·
   have := (hg.1 (i + 1) (by omega) h1).2.2 (by omega)
   rw [show i + 1 - 1 = i by omega] at this
   rw [if_pos h1, if_pos (by omega), if_neg (by omega), if_pos h0, if_pos n1, if_pos e, if_pos e]
  ·
   rw [if_neg h1, if_pos h0, if_pos n1, if_pos e, if_pos e]
 | succ d ih =>
  intro k i h0 hle hd hk
  obtain ⟨k, rfl⟩ : ∃ m, k = m + 1 := ⟨k - 1, by omega⟩
  simp only [impl_levelIn.l0]
  rw [w64 (x := i + 1) (by omega) (by omega), if_pos (by omega), if_pos (by omega)]
  by_cases h1 : (rd_T54 l (i + 1)).f0 ≤ hour
  ·
   rw [if_pos h1]
   exact ih k (i + 1) (by omega) h1 (by omega) (by omega)
  ·
   have hd0 : d = 0 := by
    rcases Nat.eq_zero_or_pos d with h | h
    ·
     exact h
    ·
     have hm := Good.mono hg (d - 1) (i + 1) (n - 1) (by omega) (by omega) (by omega)
     have hp := n3 (by omega)
     omega
   subst hd0
   obtain rfl : n = i + 1 := by omega
   have hp := n3 (by omega)
   rw [show i + 1 - 1 = i by omega] at hp
   unfold levelAt
   rw [show i + 1 - 1 = i by omega]
   obtain ⟨⟨v1, v2⟩, ⟨v3, v4⟩, v5⟩ := hg.1 (i + 1) (by omega) n1
   obtain ⟨⟨u1, u2⟩, ⟨u3, u4⟩, _⟩ := hg.1 i (by omega) (by omega)
   have b1 := prod_bd u3 u4 (b := (rd_T54 l (i + 1)).f0 - hour) (by omega) (by omega)
   have b2 := prod_bd v3 v4 (b := hour - (rd_T54 l i).f0) (by omega) (by omega)
   rw [if_neg h1, if_pos h0, if_pos (by omega), if_neg (by omega), if_neg (by omega)]
   rw [w64 (x := (rd_T54 l (i + 1)).f0 - hour) (by omega) (by omega), w64 (x := hour - (rd_T54 l i).f0) (by omega) (by omega), w64 (x := (rd_T54 l i).f1 * _) (by omega) (by omega), w64 (x := (rd_T54 l (i + 1)).f1 * _) (by omega) (by omega), w64 (by omega) (by omega), w64 (by omega) (by omega)]
   rw [red_impl (by omega) (by omega) (by omega) (by omega) (by omega)]
   rfl
theorem first_ex {l : List S54} {hour : Int} (h2 : hour ≤ (rd_T54 l ((l.length : Int) - 1)).f0) (d : Nat) : ∀ i : Int, 0 ≤ i → i + d + 1 = l.length → (0 < i → (rd_T54 l (i - 1)).f0 < hour) → ∃ n, First l hour n := by
 induction d with
 | zero =>
  intro i h0 hd h3
  refine ⟨i, h0, by omega, ?_, h3⟩
  rw [show i = (l.length : Int) - 1 by omega]
  exact h2
 | succ d ih =>
  intro i h0 hd h3
  by_cases h4 : hour ≤ (rd_T54 l i).f0
  ·
   exact ⟨i, h0, by omega, h4, h3⟩
  ·
   exact ih (i + 1) (by omega) (by omega) (fun _ => by rw [show i + 1 - 1 = i by omega]; omega)
theorem within_spec {l : List S54} (hl : l.length ≤ 4611686018427387904) {k : Nat} (hk : l.length < k) (hour : Int) :
  ∃ b, spec_l23Within.f k l hour = some b ∧ (b = true ↔ Good l ∧ 0 < l.length ∧ (rd_T54 l 0).f0 ≤ hour ∧ hour ≤ (rd_T54 l ((l.length : Int) - 1)).f0) := by
 obtain ⟨b, hb, hi⟩ := good_spec l hl l.length k 0 (by omega) (by omega) hk
 unfold spec_l23Within.f spec_l23Good.f
 rw [hb]
 simp only [Option.bind_some, l1In_eq]
 cases b with
 | false =>
  refine ⟨false, by rw [if_neg (by decide)], ?_⟩
  simp only [Bool.false_eq_true, false_iff]
  intro h
  exact absurd (hi.2 h.1) (by decide)
 | true =>
  have hg : Good l := hi.1 rfl
  rw [if_pos rfl]
  by_cases h : (l.length : Int) > 0
  ·
   rw [if_pos h, if_pos h, w64 (by omega) (by omega), if_pos (by omega), if_pos (by omega)]
   refine ⟨_, rfl, ?_⟩
   rw [decide_eq_true_eq]
   exact ⟨fun h' => ⟨hg, by omega, h'.1, h'.2⟩, fun h' => ⟨h'.2.2.1, h'.2.2.2⟩⟩
  ·
   rw [if_neg h]
   refine ⟨false, rfl, ?_⟩
   simp only [Bool.false_eq_true, false_iff]
   intro h'
   omega
theorem within_impl {l : List S54} (hl : l.length ≤ 4611686018427387904) {k : Nat} (hk : l.length < k) (hour : Int) : impl_hasHour.f k l hour = spec_l23Within.f k l hour := by
 obtain ⟨b, hb, hi⟩ := good_spec l hl l.length k 0 (by omega) (by omega) hk
 unfold spec_l23Within.f spec_l23Good.f impl_hasHour.f impl_AreReadings.f impl_hours.f
 rw [good_impl, hb]
 by_cases h : (l.length : Int) = 0
 ·
  rw [if_pos h]
  simp only [Option.bind_some, l1In_eq, within_eq]
  rw [if_neg (show ¬ (l.length : Int) > 0 by omega)]
  cases b
  ·
   rw [if_neg (by decide), if_neg (by decide)]
  ·
   rw [if_pos rfl, if_pos rfl]
   congr 1
   rw [decide_eq_false_iff_not]
   omega
 ·
  rw [if_neg h, if_pos (by omega), w64 (by omega) (by omega), if_pos (by omega), if_pos (by omega)]
  have c1 : (l.length : Int) > 0 := by omega
  have c2 : 0 ≤ (l.length : Int) - 1 := by omega
  have c3 : (l.length : Int) - 1 < (l.length : Int) := by omega
  simp only [Option.bind_some, l1In_eq, within_eq, if_pos c1, if_pos c2, if_pos c3]
end Go.Proofs.Ytojaeidabmfajaa.Pr.Pure

namespace Go.Proofs.Ytojaeidabmfajaa.Pr.Pure
open Go.RowKit Go.Proofs.YtojaeidabmfajaaW.PrintWords Go.Proofs.YtojaeidabmfajaaW.PrintLast Go.Proofs.YtojaeidabmfajaaW.PrintMore
set_option linter.unusedVariables false
theorem red_parts {a b : Int} (hb : 1 ≤ b) : ∃ g : Int, 1 ≤ g ∧ (red a b).1 * g = a ∧ (red a b).2 * g = b := by
 have hg : 1 ≤ (Int.gcd a b : Int) := by
  have : 0 < Int.gcd a b := Int.gcd_pos_of_ne_zero_right a (by omega)
  omega
 exact ⟨(Int.gcd a b : Int), hg, Int.tdiv_mul_cancel (Int.gcd_dvd_left ..), Int.tdiv_mul_cancel (Int.gcd_dvd_right ..)⟩
theorem mul_lt_iff_ {x y g : Int} (hg : 1 ≤ g) : x * g < y * g ↔ x < y :=
 ⟨fun h => Int.lt_of_mul_lt_mul_right h (by omega), fun h => Int.mul_lt_mul_of_pos_right h (by omega)⟩
theorem mul_le_iff_ {x y g : Int} (hg : 1 ≤ g) : x * g ≤ y * g ↔ x ≤ y :=
 ⟨fun h => Int.le_of_mul_le_mul_right h (by omega), fun h => Int.mul_le_mul_of_nonneg_right h (by omega)⟩
theorem red_lt {a b n d : Int} (hb : 1 ≤ b) : n * (red a b).2 < (red a b).1 * d ↔ n * b < a * d := by
 obtain ⟨g, hg, e1, e2⟩ := red_parts (a := a) hb
 rw [← mul_lt_iff_ hg, Int.mul_assoc, e2, Int.mul_right_comm, e1]
theorem red_le {a b H : Int} (hb : 1 ≤ b) : (red a b).1 ≤ H * (red a b).2 ↔ a ≤ H * b := by
 obtain ⟨g, hg, e1, e2⟩ := red_parts (a := a) hb
 rw [← mul_le_iff_ hg, Int.mul_assoc, e2, e1]
theorem red_den {a b : Int} (hb : 1 ≤ b) : 1 ≤ (red a b).2 ∧ (red a b).2 ≤ b := by
 obtain ⟨g, hg, e1, e2⟩ := red_parts (a := a) hb
 have h1 : 1 ≤ (red a b).2 := by
  rcases Int.lt_or_le 0 (red a b).2 with h | h
  ·
   omega
  ·
   have := Int.mul_le_mul_of_nonneg_right h (show (0 : Int) ≤ g by omega)
   omega
 refine ⟨h1, ?_⟩
 have := Int.mul_le_mul_of_nonneg_left hg (show (0 : Int) ≤ (red a b).2 by omega)
 omega
theorem red_num {a b B : Int} (hb : 1 ≤ b) (h1 : -B ≤ a) (h2 : a ≤ B) : -B ≤ (red a b).1 ∧ (red a b).1 ≤ B := by
 have hg : 1 ≤ (Int.gcd a b : Int) := by
  have : 0 < Int.gcd a b := Int.gcd_pos_of_ne_zero_right a (by omega)
  omega
 exact tdiv_bd a _ hg h1 h2
theorem frac_trans {a b n d a' b' : Int} (hb : 1 ≤ b) (hd : 1 ≤ d) (hb' : 1 ≤ b') (h1 : a * d ≤ n * b) (h2 : n * b' < a' * d) : a * b' ≤ a' * b := by
 have e1 := Int.mul_le_mul_of_nonneg_right h1 (show (0 : Int) ≤ b' by omega)
 have e2 := Int.mul_le_mul_of_nonneg_right (Int.le_of_lt h2) (show (0 : Int) ≤ b by omega)
 rw [← mul_le_iff_ hd]
 rw [show a * b' * d = a * d * b' from Int.mul_right_comm ..]
 rw [show a' * b * d = a' * d * b from Int.mul_right_comm ..]
 rw [show n * b * b' = n * b' * b from Int.mul_right_comm ..] at e1
 exact Int.le_trans e1 e2
theorem level_le {l : List S54} (hg : Good l) {hour n H : Int} (hn : First l hour n) (hf : (rd_T54 l 0).f0 ≤ hour) (hH : ∀ j : Int, 0 ≤ j → j < l.length → (rd_T54 l j).f1 ≤ H) :
  (levelAt l hour n).1 ≤ H * (levelAt l hour n).2 ∧ 1 ≤ (levelAt l hour n).2 ∧ (levelAt l hour n).2 ≤ 999 := by
 obtain ⟨n0, n1, n2, n3⟩ := hn
 unfold levelAt
 by_cases e : (rd_T54 l n).f0 = hour
 ·
  rw [if_pos e]
  have := hH n n0 n1
  simp only
  omega
 ·
  rw [if_neg e]
  have hi : 0 < n := by
   rcases Int.lt_or_le 0 n with h | h
   ·
    exact h
   ·
    obtain rfl : n = 0 := by omega
    omega
  have hp := n3 hi
  obtain ⟨⟨v1, v2⟩, _, _⟩ := hg.1 n n0 n1
  obtain ⟨⟨u1, u2⟩, _, _⟩ := hg.1 (n - 1) (by omega) (by omega)
  have hb : 1 ≤ (rd_T54 l n).f0 - (rd_T54 l (n - 1)).f0 := by omega
  have h4 := red_den (a := (rd_T54 l (n - 1)).f1 * ((rd_T54 l n).f0 - hour) + (rd_T54 l n).f1 * (hour - (rd_T54 l (n - 1)).f0)) hb
  refine ⟨(red_le hb).2 ?_, h4.1, by omega⟩
  have a1 := Int.mul_le_mul_of_nonneg_right (hH (n - 1) (by omega) (by omega)) (show 0 ≤ (rd_T54 l n).f0 - hour by omega)
  have a2 := Int.mul_le_mul_of_nonneg_right (hH n n0 n1) (show 0 ≤ hour - (rd_T54 l (n - 1)).f0 by omega)
  have a3 : H * ((rd_T54 l n).f0 - (rd_T54 l (n - 1)).f0) = H * ((rd_T54 l n).f0 - hour) + H * (hour - (rd_T54 l (n - 1)).f0) := by
   rw [← Int.mul_add]
   congr 1
   omega
  omega
theorem levelIn_both {l : List S54} (hl : l.length ≤ 1000) {k : Nat} (hk : 2100 < k) (hour : Int) : ∃ n d b, impl_LevelIn.f k l hour = some (n, d, b) ∧ spec_LevelIn.f k l hour = some (n, d, b) ∧ (b = true ↔ Good l ∧ 0 < l.length ∧ (rd_T54 l 0).f0 ≤ hour ∧ hour ≤ (rd_T54 l ((l.length : Int) - 1)).f0) ∧ (b = true → ∃ m, First l hour m ∧ (n, d) = levelAt l hour m) := by
 obtain ⟨b, hb, hi⟩ := within_spec (l := l) (by omega) (k := k) (by omega) hour
 unfold impl_LevelIn.f spec_LevelIn.f
 rw [within_impl (by omega) (by omega), hb]
 simp only [Option.bind_some]
 cases b with
 | false => exact ⟨0, 0, false, rfl, rfl, hi, fun h => (by cases h)⟩
 | true =>
  obtain ⟨hg, h0, h1, h2⟩ := hi.1 rfl
  obtain ⟨m, hm⟩ := first_ex h2 (l.length - 1) 0 (by omega) (by omega) (fun h => by omega)
  have hm0 := hm.1
  have hm1 := hm.2.1
  have e1 := in_spec hg hm h1 m.toNat k 0 (by omega) (by omega) (by omega)
  have e2 := in_impl hg hm h1 m.toNat k 0 (by omega) h1 (by omega) (by omega)
  unfold spec_l23In.f impl_levelIn.f
  rw [e1, e2]
  exact ⟨_, _, true, rfl, rfl, hi, fun _ => ⟨m, hm, rfl⟩⟩
theorem high_l0 {l : List S54} (hl : l.length ≤ 1000) (d : Nat) : ∀ (k K : Nat) (i h lv : Int), 0 ≤ i → i + d = l.length → d < k → d < K →
  ∃ h' lv', impl_HighestReading.l0 k l (l.length : Int) i h lv = some (h', lv', true) ∧ spec_HighestReading.l0 K l i h lv = some (h', lv', true) ∧ lv ≤ lv' ∧ (∀ j : Int, i ≤ j → j < l.length → (rd_T54 l j).f1 ≤ lv') ∧ (lv' = lv ∨ ∃ j : Int, 0 ≤ j ∧ j < l.length ∧ lv' = (rd_T54 l j).f1) := by
 induction d with
 | zero =>
  intro k K i h lv h0 hd hk hK
  obtain ⟨k, rfl⟩ : ∃ m, k = m + 1 := ⟨k - 1, by omega⟩
  obtain ⟨K, rfl⟩ : ∃ m, K = m + 1 := ⟨K - 1, by omega⟩
  simp only [impl_HighestReading.l0, spec_HighestReading.l0]
  rw [if_neg (by omega), if_neg (by omega)]
  exact ⟨h, lv, rfl, rfl, Int.le_refl _, fun j h1 h2 => by omega, .inl rfl⟩
 | succ d ih =>
  intro k K i h lv h0 hd hk hK
  obtain ⟨k, rfl⟩ : ∃ m, k = m + 1 := ⟨k - 1, by omega⟩
  obtain ⟨K, rfl⟩ : ∃ m, K = m + 1 := ⟨K - 1, by omega⟩
  have hi : i < (l.length : Int) := by omega
  simp only [impl_HighestReading.l0, spec_HighestReading.l0]
  rw [if_pos hi, if_pos h0, if_pos hi, if_pos hi, if_pos h0, w64 (by omega) (by omega)]
  by_cases c : (rd_T54 l i).f1 > lv
  ·
   rw [if_pos c, if_pos c]
   obtain ⟨h', lv', e1, e2, b1, b2, b3⟩ := ih k K (i + 1) (rd_T54 l i).f0 (rd_T54 l i).f1 (by omega) (by omega) (by omega) (by omega)
   refine ⟨h', lv', e1, e2, by omega, fun j h1 h2 => ?_, ?_⟩
   ·
    by_cases e : j = i
    ·
     rw [e]; exact b1
    ·
     exact b2 j (by omega) h2
   ·
    rcases b3 with b3 | b3
    ·
     exact .inr ⟨i, h0, hi, b3⟩
    ·
     exact .inr b3
  ·
   rw [if_neg c, if_neg c]
   obtain ⟨h', lv', e1, e2, b1, b2, b3⟩ := ih k K (i + 1) h lv (by omega) (by omega) (by omega) (by omega)
   refine ⟨h', lv', e1, e2, b1, fun j h1 h2 => ?_, b3⟩
   by_cases e : j = i
   ·
    rw [e]; omega
   ·
    exact b2 j (by omega) h2
theorem good_both {l : List S54} (hl : l.length ≤ 1000) {k : Nat} (hk : l.length < k) : ∃ b, spec_l23Good.f k l = some b ∧ impl_AreReadings.f k l = some b ∧ (b = true ↔ Good l) := by
 obtain ⟨b, hb, hi⟩ := good_spec l (by omega) l.length k 0 (by omega) (by omega) hk
 exact ⟨b, hb, (good_impl l k 0).trans hb, hi⟩
theorem highest_both {l : List S54} (hl : l.length ≤ 1000) {k : Nat} (hk : l.length + 10 < k) : ∃ h lv b, impl_HighestReading.f k l = some (h, lv, b) ∧ spec_HighestReading.f k l = some (h, lv, b) ∧ (b = true → Good l ∧ 0 < l.length ∧ (∀ j : Int, 0 ≤ j → j < l.length → (rd_T54 l j).f1 ≤ lv) ∧ -500 ≤ lv ∧ lv ≤ 500) ∧ (Good l → 0 < l.length → b = true) := by
 obtain ⟨b, hb, hb', hi⟩ := good_both hl (k := k) (by omega)
 obtain ⟨k, rfl⟩ : ∃ m, k = m + 1 := ⟨k - 1, by omega⟩
 unfold impl_HighestReading.f spec_HighestReading.f
 rw [hb, hb']
 simp only [Option.bind_some]
 cases b with
 | false =>
  refine ⟨0, 0, false, rfl, rfl, fun h => (by cases h), fun h => ?_⟩
  have := hi.2 h
  cases this
 | true =>
  have hg := hi.1 rfl
  rw [if_pos rfl, if_pos rfl]
  by_cases hz : l.length = 0
  ·
   rw [show ((l.length : Int) == 0) = true from beq_iff_eq.mpr (by omega)]
   exact ⟨0, 0, false, rfl, rfl, fun h => (by cases h), fun _ h => (by omega)⟩
  ·
   rw [show ((l.length : Int) == 0) = false from beq_eq_false_iff_ne.mpr (by omega)]
   simp only [impl_HighestReading.j0, spec_HighestReading.j0, Bool.false_eq_true, if_false]
   have h0 : (0 : Int) < (l.length : Int) := by omega
   rw [if_pos h0, if_pos h0]
   obtain ⟨h', lv', e1, e2, b1, b2, b3⟩ := high_l0 hl (l.length - 1) (k - 1) k 1 (rd_T54 l 0).f0 (rd_T54 l 0).f1 (by omega) (by omega) (by omega) (by omega)
   obtain ⟨k, rfl⟩ : ∃ m, k = m + 1 := ⟨k - 1, by omega⟩
   have e0 : impl_HighestReading.l0 (k + 1) l (l.length : Int) 0 (rd_T54 l 0).f0 (rd_T54 l 0).f1 = some (h', lv', true) := by
    simp only [impl_HighestReading.l0]
    rw [if_pos h0, if_pos (Int.le_refl 0), if_pos h0, if_neg (by omega), w64 (by omega) (by omega)]
    exact e1
   refine ⟨h', lv', true, e0, e2, fun _ => ⟨hg, by omega, fun j h1 h2 => ?_, ?_⟩, fun _ _ => rfl⟩
   ·
    by_cases e : j = 0
    ·
     rw [e]; exact b1
    ·
     exact b2 j (by omega) h2
   ·
    rcases b3 with b3 | ⟨j, j0, j1, b3⟩
    ·
     have := (hg.1 0 (Int.le_refl 0) h0).2.1
     omega
    ·
     have := (hg.1 j j0 j1).2.1
     omega
theorem prod1000 {x y : Int} (h1 : -1000 ≤ x) (h2 : x ≤ 1000) (h3 : 0 ≤ y) (h4 : y ≤ 1000) : -1000000 ≤ x * y ∧ x * y ≤ 1000000 := by
 constructor
 ·
  have : (-1000) * y ≤ x * y := Int.mul_le_mul_of_nonneg_right h1 h3
  omega
 ·
  have : x * y ≤ 1000 * y := Int.mul_le_mul_of_nonneg_right h2 h3
  omega
def upAt (l : List S54) (j : Int) : Int := (rd_T54 l (j + 1)).f1 - (rd_T54 l j).f1
def inAt (l : List S54) (j : Int) : Int := (rd_T54 l (j + 1)).f0 - (rd_T54 l j).f0
theorem at_bd {l : List S54} (hg : Good l) {j : Int} (h0 : 0 ≤ j) (h1 : j + 1 < l.length) : (-1000 ≤ upAt l j ∧ upAt l j ≤ 1000) ∧ 1 ≤ inAt l j ∧ inAt l j ≤ 999 := by
 obtain ⟨⟨v1, v2⟩, ⟨v3, v4⟩, v5⟩ := hg.1 (j + 1) (by omega) h1
 obtain ⟨⟨u1, u2⟩, ⟨u3, u4⟩, _⟩ := hg.1 j h0 (by omega)
 have h := v5 (by omega)
 rw [show j + 1 - 1 = j by omega] at h
 unfold upAt inAt
 omega
theorem rise_l0 {l : List S54} (hg : Good l) (d : Nat) : ∀ (k K : Nat) (i best num den : Int), 1 ≤ i → (i + d = l.length ∨ (d = 0 ∧ (l.length : Int) ≤ i)) → i ≤ 20 → d + 1010 < k → d + 1010 < K → -1000 ≤ num → num ≤ 1000 → 1 ≤ den → den ≤ 999 → (∀ j : Int, 0 ≤ j → j + 1 < i → upAt l j * den ≤ num * inAt l j) →
  ∃ a u n b, impl_FastestRise.l0 k l best i num den = some (a, u, n, b) ∧ spec_FastestRise.l0 K l best num den (i - 1) = some (a, u, n, b) ∧ (b = true → (-1000 ≤ u ∧ u ≤ 1000) ∧ (1 ≤ n ∧ n ≤ 999) ∧ ∀ j : Int, 0 ≤ j → j + 1 < l.length → upAt l j * n ≤ u * inAt l j) := by
 have hl := hg.2
 induction d with
 | zero =>
  intro k K i best num den h1 hd hi hk hK n1 n2 d1 d2 hj
  have hd' : (l.length : Int) ≤ i := by omega
  obtain ⟨k, rfl⟩ : ∃ m, k = m + 1 := ⟨k - 1, by omega⟩
  obtain ⟨K, rfl⟩ : ∃ m, K = m + 1 := ⟨K - 1, by omega⟩
  have hw2 : wrap64 (i - 1 + 1) = i := by rw [w64 (by omega) (by omega)]; omega
  simp only [impl_FastestRise.l0, spec_FastestRise.l0, hw2]
  have hni : ¬ i < (l.length : Int) := by omega
  rw [if_neg hni, if_neg hni]
  by_cases hb : best < 0
  ·
   rw [if_pos hb]
   exact ⟨0, 0, 0, false, rfl, rfl, fun h => (by cases h)⟩
  ·
   rw [if_neg hb]
   exact ⟨best, num, den, true, rfl, rfl, fun _ => ⟨⟨n1, n2⟩, ⟨d1, d2⟩, fun j h0 h1 => hj j h0 (by omega)⟩⟩
 | succ d ih =>
  intro k K i best num den h1 hd hi hk hK n1 n2 d1 d2 hj
  have hd' : i + (d + 1 : Nat) = (l.length : Int) := by omega
  obtain ⟨k, rfl⟩ : ∃ m, k = m + 1 := ⟨k - 1, by omega⟩
  obtain ⟨K, rfl⟩ : ∃ m, K = m + 1 := ⟨K - 1, by omega⟩
  have hlt : i < (l.length : Int) := by omega
  obtain ⟨⟨a1, a2⟩, b1, b2⟩ := at_bd hg (j := i - 1) (by omega) (by omega)
  have eu : upAt l (i - 1) = (rd_T54 l i).f1 - (rd_T54 l (i - 1)).f1 := by unfold upAt; rw [show i - 1 + 1 = i by omega]
  have en : inAt l (i - 1) = (rd_T54 l i).f0 - (rd_T54 l (i - 1)).f0 := by unfold inAt; rw [show i - 1 + 1 = i by omega]
  have p1 := prod1000 n1 n2 (show 0 ≤ inAt l (i - 1) by omega) (by omega)
  have p2 := prod1000 a1 a2 (show 0 ≤ den by omega) (by omega)
  have r1 := red_num (a := upAt l (i - 1)) b1 a1 a2
  have r2 := red_den (a := upAt l (i - 1)) b1
  have p3 := prod1000 n1 n2 (show 0 ≤ (red (upAt l (i - 1)) (inAt l (i - 1))).2 by omega) (by omega)
  have p4 := prod1000 r1.1 r1.2 (show 0 ≤ den by omega) (by omega)
  have hw : wrap64 (i - 1) = i - 1 := w64 (by omega) (by omega)
  have hw1 : wrap64 (i + 1) = i + 1 := w64 (by omega) (by omega)
  have hw2 : wrap64 (i - 1 + 1) = i := by rw [w64 (by omega) (by omega)]; omega
  simp only [impl_FastestRise.l0, spec_FastestRise.l0, hw, hw1, hw2]
  rw [← eu, ← en, w64 (x := upAt l (i - 1)) (by omega) (by omega), w64 (x := inAt l (i - 1)) (by omega) (by omega)]
  have c1 : 0 ≤ i := by omega
  have c2 : 0 ≤ i - 1 := by omega
  have c3 : i - 1 < (l.length : Int) := by omega
  rw [red_impl (by omega) (by omega) (by omega) b1 (by omega), red_spec (by omega) (by omega) (by omega) b1 (by omega)]
  simp only [if_pos hlt, if_pos c1, if_pos c2, if_pos c3, Option.bind_some, impl_fraction_less.f, decide_eq_true_eq]
  rw [w64 (x := num * _) (by omega) (by omega), w64 (x := (red (upAt l (i - 1)) (inAt l (i - 1))).1 * den) (by omega) (by omega), w64 (x := upAt l (i - 1) * den) (by omega) (by omega), w64 (x := num * inAt l (i - 1)) (by omega) (by omega)]
  have hiff := red_lt (a := upAt l (i - 1)) (b := inAt l (i - 1)) (n := num) (d := den) b1
  by_cases c : num * inAt l (i - 1) < upAt l (i - 1) * den
  ·
   rw [if_pos (hiff.2 c), if_pos c]
   have hside : ∀ j : Int, 0 ≤ j → j + 1 < i + 1 → upAt l j * (red (upAt l (i - 1)) (inAt l (i - 1))).2 ≤ (red (upAt l (i - 1)) (inAt l (i - 1))).1 * inAt l j := by
    intro j h0 h1
    obtain ⟨g, g1, g2, g3⟩ := red_parts (a := upAt l (i - 1)) b1
    rw [← mul_le_iff_ g1, Int.mul_assoc, g3, Int.mul_right_comm, g2]
    by_cases e : j = i - 1
    ·
     rw [e]
     exact Int.le_refl _
    ·
     obtain ⟨_, q1, q2⟩ := at_bd hg (j := j) h0 (by omega)
     exact frac_trans q1 d1 b1 (hj j h0 (by omega)) c
   obtain ⟨a, u, n, b, e1, e2, e3⟩ := ih k K (i + 1) (i - 1) _ _ (by omega) (by omega) (by omega) (by omega) (by omega) r1.1 r1.2 r2.1 (by omega) hside
   rw [show i + 1 - 1 = i by omega] at e2
   exact ⟨a, u, n, b, e1, e2, e3⟩
  ·
   rw [if_neg (fun h => c (hiff.1 h)), if_neg c]
   have hside : ∀ j : Int, 0 ≤ j → j + 1 < i + 1 → upAt l j * den ≤ num * inAt l j := by
    intro j h0 h1
    by_cases e : j = i - 1
    ·
     rw [e]; omega
    ·
     exact hj j h0 (by omega)
   obtain ⟨a, u, n, b, e1, e2, e3⟩ := ih k K (i + 1) best num den (by omega) (by omega) (by omega) (by omega) (by omega) n1 n2 d1 d2 hside
   rw [show i + 1 - 1 = i by omega] at e2
   exact ⟨a, u, n, b, e1, e2, e3⟩
theorem fastest_both {l : List S54} (hl : l.length ≤ 1000) {k : Nat} (hk : 2100 < k) : ∃ a u n b, impl_FastestRise.f k l = some (a, u, n, b) ∧ spec_FastestRise.f k l = some (a, u, n, b) ∧ (b = true → Good l ∧ (-1000 ≤ u ∧ u ≤ 1000) ∧ (1 ≤ n ∧ n ≤ 999) ∧ ∀ j : Int, 0 ≤ j → j + 1 < l.length → upAt l j * n ≤ u * inAt l j) := by
 obtain ⟨b, hb, hb', hi⟩ := good_both hl (k := k) (by omega)
 unfold impl_FastestRise.f spec_FastestRise.f
 rw [hb, hb']
 simp only [Option.bind_some]
 cases b with
 | false => exact ⟨0, 0, 0, false, rfl, by rw [if_neg (by decide), if_pos (by decide)], fun h => (by cases h)⟩
 | true =>
  have hg := hi.1 rfl
  have hl := hg.2
  rw [if_pos rfl, if_pos rfl]
  obtain ⟨a, u, n, b, e1, e2, e3⟩ := rise_l0 hg (l.length - 1) k k 1 (-1) 0 1 (by omega) (by omega) (by omega) (by omega) (by omega) (by omega) (by omega) (by omega) (by omega) (fun j h0 h1 => by omega)
  exact ⟨a, u, n, b, e1, e2, fun h => ⟨hg, e3 h⟩⟩
end Go.Proofs.Ytojaeidabmfajaa.Pr.Pure

namespace Go.Proofs.Ytojaeidabmfajaa.Pr.Pure
open Go.RowKit Go.Proofs.YtojaeidabmfajaaW.PrintWords Go.Proofs.YtojaeidabmfajaaW.PrintLast Go.Proofs.YtojaeidabmfajaaW.PrintMore Go.Lib
set_option linter.unusedVariables false
theorem bits255 (x : Int) : 0 ≤ Go.bits .and .u64 x 255 ∧ Go.bits .and .u64 x 255 ≤ 255 := by
 have h : (BitVec.ofInt IntKind.u64.bits x &&& BitVec.ofInt IntKind.u64.bits 255).toNat ≤ 255 := by
  rw [BitVec.toNat_and]
  exact Nat.le_trans Nat.and_le_right (by decide)
 have e : Go.bits .and .u64 x 255 = IntKind.u64.wrap (((BitVec.ofInt IntKind.u64.bits x &&& BitVec.ofInt IntKind.u64.bits 255).toNat : Nat) : Int) := rfl
 rw [e]
 generalize (BitVec.ofInt IntKind.u64.bits x &&& BitVec.ofInt IntKind.u64.bits 255).toNat = n at h
 have e2 : IntKind.u64.wrap (n : Int) = (n : Int) := by
  have : IntKind.u64.wrap (n : Int) = (n : Int) % 18446744073709551616 := rfl
  omega
 rw [e2]
 omega
theorem rdI_mem (l : List Int) {i : Int} (h0 : 0 ≤ i) (h1 : i < l.length) : rd l i ∈ l := by
 unfold rd
 rw [List.getD_eq_getElem?_getD, List.getElem?_eq_getElem (by omega)]
 exact List.getElem_mem _
theorem next_ok {c : List Int} (hc : ∀ x, x ∈ c → 0 ≤ x ∧ x ≤ 255) {p : Int} (h0 : 0 ≤ p) (h1 : p ≤ 1000000000) (s : Int) :
  ∃ r q, spec_l1Cur_next.f c p s = some (r, p + 1, q) ∧ 0 ≤ r ∧ r ≤ 255 := by
 have hw : wrap64 (p + 1) = p + 1 := w64 (by omega) (by omega)
 unfold spec_l1Cur_next.f
 rw [hw]
 by_cases a : p < (c.length : Int)
 ·
  have hb := hc _ (rdI_mem c h0 a)
  have hv : wrap64 (rd c p) = rd c p := w64 (by omega) (by omega)
  rw [if_pos a, if_pos h0]
  by_cases b : p + 1 ≤ (c.length : Int)
  ·
   rw [if_pos b, hv]
   exact ⟨_, _, rfl, hb.1, hb.2⟩
  ·
   rw [if_neg b]
   refine ⟨_, _, rfl, ?_⟩
   rw [w64 (by have := bits255; exact Int.le_trans (by decide) (this _).1) (Int.le_trans (bits255 _).2 (by decide))]
   exact bits255 _
 ·
  rw [if_neg a]
  by_cases b : p + 1 ≤ (c.length : Int)
  ·
   rw [if_pos b]
   exact ⟨_, _, rfl, by decide, by decide⟩
  ·
   rw [if_neg b]
   refine ⟨_, _, rfl, ?_⟩
   rw [w64 (by have := bits255; exact Int.le_trans (by decide) (this _).1) (Int.le_trans (bits255 _).2 (by decide))]
   exact bits255 _
theorem tmod_lt {a n : Int} (h : 0 ≤ a) (hn : 0 < n) : 0 ≤ Int.tmod a n ∧ Int.tmod a n < n :=
 ⟨Int.tmod_nonneg _ h, Int.tmod_lt_of_pos _ hn⟩
theorem pick_ok {c : List Int} (hc : ∀ x, x ∈ c → 0 ≤ x ∧ x ≤ 255) {p : Int} (h0 : 0 ≤ p) (h1 : p ≤ 900000000) (s : Int) {n : Int} (hn : 0 < n) :
  ∃ r p1 q, spec_l1Cur_pick.f c p s n = some (r, p1, q) ∧ (0 ≤ r ∧ r < n) ∧ p ≤ p1 ∧ p1 ≤ p + 2 := by
 unfold spec_l1Cur_pick.f
 by_cases a : n ≤ 1
 ·
  rw [if_pos a]
  exact ⟨0, p, s, rfl, ⟨by decide, hn⟩, by omega, by omega⟩
 ·
  obtain ⟨r, q, e, b1, b2⟩ := next_ok hc h0 (by omega) s
  have n0 : ¬ n = 0 := by omega
  rw [if_neg a, e, obs]
  by_cases d : n > 200
  ·
   obtain ⟨r2, q2, e2, d1, d2⟩ := next_ok hc (p := p + 1) (by omega) (by omega) q
   rw [if_pos d, e2, obs, if_neg n0]
   have hw : wrap64 (wrap64 (r * 256) + r2) = r * 256 + r2 := by
    rw [w64 (x := r * 256) (by omega) (by omega), w64 (by omega) (by omega)]
   refine ⟨_, p + 1 + 1, q2, rfl, ?_, by omega, by omega⟩
   simp only
   rw [hw]
   exact tmod_lt (by omega) hn
  ·
   rw [if_neg d, if_neg n0]
   exact ⟨_, p + 1, q, rfl, tmod_lt b1 hn, by omega, by omega⟩
theorem one_ok {c : List Int} (hc : ∀ x, x ∈ c → 0 ≤ x ∧ x ≤ 255) {p : Int} (h0 : 0 ≤ p) (h1 : p ≤ 900000000) (s : Int) {n : Int} (hn : 0 < n) :
  ∃ b p1 q, spec_l1Cur_one.f c p s n = some (b, p1, q) ∧ p ≤ p1 ∧ p1 ≤ p + 2 := by
 obtain ⟨r, p1, q, e, _, a1, a2⟩ := pick_ok hc h0 h1 s hn
 unfold spec_l1Cur_one.f
 rw [e, obs]
 exact ⟨_, p1, q, rfl, a1, a2⟩
theorem among_ok {c : List Int} (hc : ∀ x, x ∈ c → 0 ≤ x ∧ x ≤ 255) {p : Int} (h0 : 0 ≤ p) (h1 : p ≤ 900000000) (s : Int) {l : List Int} (hl : 0 < l.length) :
  ∃ r p1 q, spec_l1Cur_among.f c p s l = some (r, p1, q) ∧ r ∈ l ∧ p ≤ p1 ∧ p1 ≤ p + 2 := by
 obtain ⟨r, p1, q, e, b, a1, a2⟩ := pick_ok hc h0 h1 s (n := (l.length : Int)) (by omega)
 unfold spec_l1Cur_among.f
 rw [e, obs, if_pos b.1, if_pos b.2]
 exact ⟨_, p1, q, rfl, rdI_mem l b.1 b.2, a1, a2⟩
theorem readings_l1 {c : List Int} (hc : ∀ x, x ∈ c → 0 ≤ x ∧ x ≤ 255) (x6 a b : Int) (h6 : 0 ≤ x6) (d : Nat) : ∀ (k : Nat) (l : List S54) (p s : Int), 16 - l.length ≤ d → l.length ≤ 16 → x6 < l.length → d < k → 0 ≤ p → p + 2 * d ≤ 800000000 →
  ∃ r p1 q, spec_l1Cur_readings.l1 k l x6 c p s a b = some (r, p1, q) ∧ r.length ≤ 16 ∧ p ≤ p1 ∧ p1 ≤ p + 2 * d + 2 := by
 induction d with
 | zero =>
  intro k l p s h1 h2 h3 hk h0 hp
  obtain ⟨k, rfl⟩ : ∃ m, k = m + 1 := ⟨k - 1, by omega⟩
  obtain ⟨r, p1, q, e, hr, a1, a2⟩ := pick_ok hc h0 (by omega) s (n := 2) (by decide)
  simp only [spec_l1Cur_readings.l1]
  rw [e, obs]
  simp only
  rw [w64 (by omega) (by omega), if_neg (by omega), if_pos h6, if_pos h3]
  exact ⟨_, p1, q, rfl, by rw [List.length_set]; exact h2, by omega, by omega⟩
 | succ d ih =>
  intro k l p s h1 h2 h3 hk h0 hp
  obtain ⟨k, rfl⟩ : ∃ m, k = m + 1 := ⟨k - 1, by omega⟩
  obtain ⟨r, p1, q, e, hr, a1, a2⟩ := pick_ok hc h0 (by omega) s (n := 2) (by decide)
  simp only [spec_l1Cur_readings.l1]
  rw [e, obs]
  simp only
  rw [w64 (by omega) (by omega)]
  by_cases h : (l.length : Int) < 15 + r
  ·
   rw [if_pos h, if_pos (by omega)]
   obtain ⟨r2, p2, q2, e2, b1, b2, b3⟩ := ih k (l ++ [(⟨wrap64 (980 + (l.length : Int)), 2⟩ : S54)]) p1 q (by rw [List.length_append, List.length_singleton]; omega) (by rw [List.length_append, List.length_singleton]; omega) (by rw [List.length_append, List.length_singleton]; omega) (by omega) (by omega) (by omega)
   exact ⟨r2, p2, q2, e2, b1, by omega, by omega⟩
  ·
   rw [if_neg h, if_pos h6, if_pos h3]
   exact ⟨_, p1, q, rfl, by rw [List.length_set]; exact h2, by omega, by omega⟩
theorem readings_l0 {c : List Int} (hc : ∀ x, x ∈ c → 0 ≤ x ∧ x ≤ 255) (d : Nat) : ∀ (k : Nat) (l : List S54) (x4 x5 p s : Int), x5 = d → l.length + d ≤ 6 → d + 30 < k → 0 ≤ p → p + 4 * d ≤ 700000000 →
  ∃ r p1 q, spec_l1Cur_readings.l0 k l x4 x5 c p s = some (r, p1, q) ∧ r.length ≤ 16 ∧ p ≤ p1 ∧ p1 ≤ p + 4 * d + 60 := by
 induction d with
 | zero =>
  intro k l x4 x5 p s hx hl hk h0 hp
  obtain ⟨k, rfl⟩ : ∃ m, k = m + 1 := ⟨k - 1, by omega⟩
  simp only [spec_l1Cur_readings.l0]
  rw [if_neg (by omega)]
  by_cases hz : (l.length : Int) = 0
  ·
   rw [if_pos hz]
   exact ⟨_, p, s, rfl, by omega, by omega, by omega⟩
  ·
   rw [if_neg hz]
   obtain ⟨r, p1, q, e, hr, a1, a2⟩ := pick_ok hc h0 (by omega) s (n := (l.length : Int)) (by omega)
   rw [e, obs]
   simp only
   rw [if_pos hr.1, if_pos hr.2]
   obtain ⟨r2, p2, q2, e2, hr2, b1, b2⟩ := pick_ok hc (p := p1) (by omega) (by omega) q (n := 50) (by decide)
   rw [e2, obs]
   simp only
   by_cases c0 : r2 = 0
   ·
    rw [if_pos c0, if_pos (by omega)]
    obtain ⟨r3, p3, q3, e3, _, d1, d2⟩ := among_ok hc (p := p2) (by omega) (by omega) q2 (l := [(-1), 1000, (rd_T54 l 0).f0]) (by simp)
    rw [e3, obs]
    exact ⟨_, p3, q3, rfl, by rw [List.length_set]; omega, by omega, by omega⟩
   ·
    rw [if_neg c0]
    by_cases c1 : r2 = 1
    ·
     rw [if_pos c1]
     obtain ⟨r3, p3, q3, e3, _, d1, d2⟩ := among_ok hc (p := p2) (by omega) (by omega) q2 (l := [(-501), 501]) (by decide)
     rw [e3, obs]
     exact ⟨_, p3, q3, rfl, by rw [List.length_set]; omega, by omega, by omega⟩
    ·
     rw [if_neg c1]
     by_cases c2 : r2 = 2
     ·
      rw [if_pos c2]
      obtain ⟨r3, p3, q3, e3, b3, d1, d2⟩ := readings_l1 hc r (rd_T54 l r).f0 (rd_T54 l r).f1 hr.1 16 k l p2 q2 (by omega) (by omega) hr.2 (by omega) (by omega) (by omega)
      exact ⟨r3, p3, q3, e3, b3, by omega, by omega⟩
     ·
      rw [if_neg c2]
      exact ⟨_, p2, q2, rfl, by rw [List.length_set]; omega, by omega, by omega⟩
 | succ d ih =>
  intro k l x4 x5 p s hx hl hk h0 hp
  obtain ⟨k, rfl⟩ : ∃ m, k = m + 1 := ⟨k - 1, by omega⟩
  simp only [spec_l1Cur_readings.l0]
  rw [if_pos (by omega)]
  obtain ⟨r, p1, q, e, _, a1, a2⟩ := among_ok hc h0 (by omega) s (l := [(-500), (-20), 0, 5, 10, 10, 40, 500]) (by decide)
  rw [e, obs]
  simp only
  rw [if_pos (by omega)]
  obtain ⟨r2, p2, q2, e2, _, b1, b2⟩ := among_ok hc (p := p1) (by omega) (by omega) q (l := [1, 2, 3, 7, 20]) (by decide)
  rw [e2, obs]
  simp only
  rw [w64 (x := x5 - 1) (by omega) (by omega)]
  obtain ⟨r3, p3, q3, e3, b3, d1, d2⟩ := ih k (l ++ [(⟨x4, r⟩ : S54)]) (wrap64 (x4 + r2)) (x5 - 1) p2 q2 (by omega) (by rw [List.length_append, List.length_singleton]; omega) (by omega) (by omega) (by omega)
  exact ⟨r3, p3, q3, e3, b3, by omega, by omega⟩
theorem readings_ok {c : List Int} (hc : ∀ x, x ∈ c → 0 ≤ x ∧ x ≤ 255) {p : Int} (h0 : 0 ≤ p) (h1 : p ≤ 600000000) (s : Int) {k : Nat} (hk : 40 < k) :
  ∃ r p1 q, spec_l1Cur_readings.f k c p s = some (r, p1, q) ∧ r.length ≤ 16 ∧ p ≤ p1 ∧ p1 ≤ p + 90 := by
 unfold spec_l1Cur_readings.f
 obtain ⟨r, p1, q, e, _, a1, a2⟩ := among_ok hc h0 (by omega) s (l := [0, 5, 900]) (by decide)
 rw [e, obs]
 simp only
 obtain ⟨r2, p2, q2, e2, hr, b1, b2⟩ := pick_ok hc (p := p1) (by omega) (by omega) q (n := 7) (by decide)
 rw [e2, obs]
 simp only
 obtain ⟨r3, p3, q3, e3, b3, d1, d2⟩ := readings_l0 hc r2.toNat k [] r r2 p2 q2 (by omega) (by simp; omega) (by omega) (by omega) (by omega)
 exact ⟨r3, p3, q3, e3, b3, by omega, by omega⟩
theorem hour_ok {c : List Int} (hc : ∀ x, x ∈ c → 0 ≤ x ∧ x ≤ 255) {p : Int} (h0 : 0 ≤ p) (h1 : p ≤ 600000000) (s : Int) (l : List S54) {k : Nat} (hk : 0 < k) :
  ∃ r p1 q, spec_l1Cur_hour23.f k c p s l = some (r, p1, q) := by
 obtain ⟨k, rfl⟩ : ∃ m, k = m + 1 := ⟨k - 1, by omega⟩
 have key : ∀ (b : Bool) (p s : Int), 0 ≤ p → p ≤ 700000000 → (b = true → 0 < l.length) → ∃ r p1 q, spec_l1Cur_hour23.j0 (k + 1) l b c p s = some (r, p1, q) := by
  intro b p s h0 h1 hb
  simp only [spec_l1Cur_hour23.j0]
  cases b with
  | true =>
   rw [if_pos rfl]
   have hl := hb rfl
   obtain ⟨r, p1, q, e, hr, a1, a2⟩ := pick_ok hc h0 (by omega) s (n := (l.length : Int)) (by omega)
   rw [e, obs]
   simp only
   rw [if_pos hr.1, if_pos hr.2]
   obtain ⟨r2, p2, q2, e2, _, b1, b2⟩ := among_ok hc (p := p1) (by omega) (by omega) q (l := [0, 1, 2, (-1)]) (by decide)
   rw [e2, obs]
   exact ⟨_, _, _, rfl⟩
  | false =>
   rw [if_neg (by decide)]
   obtain ⟨r2, p2, q2, e2, _, b1, b2⟩ := among_ok hc (p := p) (by omega) (by omega) s (l := [0, 6, 905, 999, (-1), 1000]) (by decide)
   rw [e2, obs]
   exact ⟨_, _, _, rfl⟩
 unfold spec_l1Cur_hour23.f
 by_cases h : (l.length : Int) > 0
 ·
  rw [if_pos h]
  obtain ⟨b, p1, q, e, a1, a2⟩ := one_ok hc h0 (by omega) s (n := 4) (by decide)
  rw [e, obs]
  exact key _ p1 q (by omega) (by omega) (fun _ => by omega)
 ·
  rw [if_neg h]
  exact key _ p s h0 (by omega) (fun hb => by cases hb)
theorem drawLevel_ok {c : List Int} (hc : ∀ x, x ∈ c → 0 ≤ x ∧ x ≤ 255) {k : Nat} (hk : 40 < k) : ∃ l h, spec_DrawLevelIn.f k c = some (l, h) ∧ l.length ≤ 16 := by
 obtain ⟨l, p1, q, e, hl, a1, a2⟩ := readings_ok hc (p := 0) (by decide) (by decide) 0 hk
 obtain ⟨h, p2, q2, e2⟩ := hour_ok hc (p := p1) (by omega) (by omega) q l (k := k) (by omega)
 unfold spec_DrawLevelIn.f
 rw [e, obs]
 simp only
 rw [e2, obs]
 exact ⟨l, h, rfl, hl⟩
end Go.Proofs.Ytojaeidabmfajaa.Pr.Pure

namespace Go.Proofs.Ytojaeidabmfajaa.Pr.Pure
open Go.RowKit Go.Proofs.YtojaeidabmfajaaW.PrintWords Go.Proofs.YtojaeidabmfajaaW.PrintLast Go.Proofs.YtojaeidabmfajaaW.PrintMore Go.Proofs.YtojaeidabmfajaaW.Opens
set_option linter.unusedVariables false
theorem lawL_j7f {l : List S54} (hl : l.length ≤ 16) (u n i : Int) (t : Bool) {K : Nat} (hK : 30 < K) : laws_FnLevels.j7 K l u n t i false = some true := by
 obtain ⟨K, rfl⟩ : ∃ m, K = m + 1 := ⟨K - 1, by omega⟩
 obtain ⟨b, hb, hb', _⟩ := good_both (l := l) (by omega) (k := K) (by omega)
 simp only [laws_FnLevels.j7, Bool.false_eq_true, if_false]
 rw [hb', obs, show spec_AreReadings.f K l = some b from (by unfold spec_AreReadings.f; rw [hb]; rfl), obs]
 simp
theorem lawL_l1 {l : List S54} (hl : l.length ≤ 16) {u n : Int} {t : Bool} (h : t = true → Good l ∧ (-1000 ≤ u ∧ u ≤ 1000) ∧ (1 ≤ n ∧ n ≤ 999) ∧ ∀ j : Int, 0 ≤ j → j + 1 < l.length → upAt l j * n ≤ u * inAt l j) (d : Nat) : ∀ (K : Nat) (i : Int), 0 ≤ i → (l.length : Int) ≤ i + 1 + d → i ≤ 20 → 2 * d + 40 < K → laws_FnLevels.l1 K l u n t i = some true := by
 induction d with
 | zero =>
  intro K i h0 hd hi hK
  obtain ⟨K, rfl⟩ : ∃ m, K = m + 1 := ⟨K - 1, by omega⟩
  simp only [laws_FnLevels.l1]
  rw [w64 (by omega) (by omega), if_neg (by omega)]
  exact lawL_j7f hl u n i t (by omega)
 | succ d ih =>
  intro K i h0 hd hi hK
  obtain ⟨K, rfl⟩ : ∃ m, K = m + 2 := ⟨K - 2, by omega⟩
  simp only [laws_FnLevels.l1]
  rw [w64 (by omega) (by omega)]
  by_cases c : i + 1 < (l.length : Int)
  ·
   rw [if_pos c]
   cases t with
   | false => exact lawL_j7f hl u n i false (by omega)
   | true =>
    obtain ⟨hg, ⟨u1, u2⟩, ⟨n1, n2⟩, hj⟩ := h rfl
    obtain ⟨⟨a1, a2⟩, b1, b2⟩ := at_bd hg h0 c
    have p1 := prod1000 u1 u2 (show 0 ≤ inAt l i by omega) (by omega)
    have p2 := prod1000 a1 a2 (show 0 ≤ n by omega) (by omega)
    have hle := hj i h0 c
    simp only [laws_FnLevels.j7, if_true]
    rw [w64 (x := i + 1) (by omega) (by omega), if_pos (by omega), if_pos c, if_pos h0, if_pos (by omega)]
    rw [show (rd_T54 l (i + 1)).f1 - (rd_T54 l i).f1 = upAt l i from rfl, show (rd_T54 l (i + 1)).f0 - (rd_T54 l i).f0 = inAt l i from rfl]
    rw [w64 (x := upAt l i) (by omega) (by omega), w64 (x := inAt l i) (by omega) (by omega), w64 (x := upAt l i * n) (by omega) (by omega), w64 (x := u * inAt l i) (by omega) (by omega), if_neg (by omega)]
    exact ih K (i + 1) (by omega) (by omega) (by omega) (by omega)
  ·
   rw [if_neg c]
   exact lawL_j7f hl u n i t (by omega)
theorem lawL_j4 {l : List S54} (hl : l.length ≤ 16) {K : Nat} (hK : 2200 < K) : laws_FnLevels.j4 K l false = some true := by
 obtain ⟨K, rfl⟩ : ∃ m, K = m + 2 := ⟨K - 2, by omega⟩
 obtain ⟨a, u, n, b, e1, e2, e3⟩ := fastest_both (l := l) (by omega) (k := K + 1) (by omega)
 simp only [laws_FnLevels.j4, Bool.false_eq_true, if_false]
 rw [e1, obs, e2, obs]
 simp only [if_true, bne_self_eq_false]
 simp only [laws_FnLevels.j5, Bool.false_eq_true, if_false]
 exact lawL_l1 hl e3 16 K 0 (by omega) (by omega) (by omega) (by omega)
theorem lawL_tail {l : List S54} (hl : l.length ≤ 16) {n d lv : Int} {x : Bool} (hx : x = true → (1 ≤ d ∧ d ≤ 999) ∧ (-500 ≤ lv ∧ lv ≤ 500) ∧ n ≤ lv * d) {K : Nat} (hK : 2200 < K) : (if x = true then (laws_FnLevels.j4 K l (decide (n > (wrap64 (lv * d))))) else (laws_FnLevels.j4 K l false)) = some true := by
 cases x with
 | false => exact lawL_j4 hl hK
 | true =>
  obtain ⟨⟨d1, d2⟩, ⟨l1, l2⟩, h⟩ := hx rfl
  have p := prod1000 (x := lv) (y := d) (by omega) (by omega) (by omega) (by omega)
  rw [if_pos rfl, w64 (by omega) (by omega), decide_eq_false (by omega)]
  exact lawL_j4 hl hK
theorem lawL_l0 {l : List S54} (hl : l.length ≤ 16) {n d h lv : Int} {x f : Bool} (hx : x = true → f = true → (1 ≤ d ∧ d ≤ 999) ∧ (-500 ≤ lv ∧ lv ≤ 500) ∧ n ≤ lv * d) (hxf : x = true → f = true) (hf : f = true → Good l ∧ 0 < l.length ∧ (∀ j : Int, 0 ≤ j → j < l.length → (rd_T54 l j).f1 ≤ lv) ∧ -500 ≤ lv ∧ lv ≤ 500) (e : Nat) :
  ∀ (K : Nat) (i : Int), 0 ≤ i → i + e = l.length → 2 * e + 2300 < K → laws_FnLevels.l0 K l n d x f i h lv = some true := by
 induction e with
 | zero =>
  intro K i h0 hd hK
  obtain ⟨K, rfl⟩ : ∃ m, K = m + 2 := ⟨K - 2, by omega⟩
  simp only [laws_FnLevels.l0]
  rw [if_neg (by omega)]
  simp only [laws_FnLevels.j3, Bool.false_eq_true, if_false]
  exact lawL_tail hl (fun hx' => hx hx' (hxf hx')) (by omega)
 | succ e ih =>
  intro K i h0 hd hK
  obtain ⟨K, rfl⟩ : ∃ m, K = m + 2 := ⟨K - 2, by omega⟩
  have hi : i < (l.length : Int) := by omega
  simp only [laws_FnLevels.l0]
  rw [if_pos hi]
  cases f with
  | false =>
   simp only [laws_FnLevels.j3, Bool.false_eq_true, if_false]
   exact lawL_tail hl (fun hx' => hx hx' (hxf hx')) (by omega)
  | true =>
   obtain ⟨hg, hp, hj, _⟩ := hf rfl
   obtain ⟨a, b, y, e1, _, e3, e4⟩ := levelIn_both (l := l) (by omega) (k := K) (by omega) (rd_T54 l i).f0
   have m1 := Good.mono hg i.toNat 0 i (Int.le_refl 0) (by omega) hi
   have m2 := Good.mono hg ((l.length : Int) - 1 - i).toNat i ((l.length : Int) - 1) h0 (by omega) (by omega)
   have hy : y = true := e3.2 ⟨hg, hp, by omega, by omega⟩
   obtain ⟨m, hm, hq⟩ := e4 hy
   have hmi : (rd_T54 l m).f0 = (rd_T54 l i).f0 := by
    obtain ⟨q0, q1, q2, q3⟩ := hm
    rcases Int.lt_trichotomy m i with c | c | c
    ·
     have := Good.mono hg (i - m).toNat m i q0 (by omega) hi
     omega
    ·
     rw [c]
    ·
     have := Good.mono hg (m - 1 - i).toNat i (m - 1) h0 (by omega) (by omega)
     have := q3 (by omega)
     omega
   have hme : m = i := by
    obtain ⟨q0, q1, q2, q3⟩ := hm
    rcases Int.lt_trichotomy m i with c | c | c
    ·
     have := Good.mono hg (i - m).toNat m i q0 (by omega) hi
     omega
    ·
     exact c
    ·
     have := Good.mono hg (m - i).toNat i m h0 (by omega) q1
     omega
   unfold levelAt at hq
   rw [if_pos hmi, hme] at hq
   injection hq with hq1 hq2
   subst hq1
   subst hq2
   simp only [laws_FnLevels.j3, if_true]
   rw [if_pos h0, if_pos hi, e1, obs]
   simp only [hy, if_true]
   have := hj i h0 hi
   rw [if_neg (by omega), w64 (by omega) (by omega)]
   exact ih K (i + 1) (by omega) (by omega) (by omega)
theorem FnLevels : FnLevels.Pure := by
 intro l0 hw
 have hc' : ∀ x, x ∈ l0 → 0 ≤ x ∧ x ≤ 255 := fun x hx => by
  have h := hw.2.2 x hx
  simp [Lit.wf, IntKind.min, IntKind.max, IntKind.signed, IntKind.bits] at h
  omega
 refine ⟨3000, ?_⟩
 unfold laws_FnLevels.f laws_rBig.f
 rw [obs]
 by_cases big : decide ((l0.length : Int) > 65536) = true
 ·
  rw [if_pos big]
 ·
  rw [if_neg big]
  obtain ⟨l, hour, e, hl⟩ := drawLevel_ok hc' (k := 3000) (by decide)
  obtain ⟨n, d, b, e1, e2, e3, e4⟩ := levelIn_both (l := l) (by omega) (k := 3000) (by decide) hour
  obtain ⟨h, lv, f, f1, f2, f3, f4⟩ := highest_both (l := l) (by omega) (k := 2999) (by omega)
  rw [e, obs]
  simp only
  rw [e1, obs, e2, obs]
  simp only [if_true, bne_self_eq_false]
  show laws_FnLevels.j0 (2999 + 1) l n d b false = some true
  simp only [laws_FnLevels.j0, Bool.false_eq_true, if_false]
  rw [f1, obs, f2, obs]
  simp only [beq_self_eq_true, Bool.not_true, Bool.or_self, Bool.false_eq_true, if_false, bne_self_eq_false]
  show laws_FnLevels.j1 (2998 + 1) l n d b f false h lv = some true
  simp only [laws_FnLevels.j1, Bool.false_eq_true, if_false]
  refine lawL_l0 hl (fun hb' hf' => ?_) (fun hb' => ?_) f3 l.length 2998 0 (Int.le_refl 0) (by omega) (by omega)
  ·
   obtain ⟨g1, g2, g3, g4⟩ := e3.1 hb'
   obtain ⟨m, hm', hq⟩ := e4 hb'
   obtain ⟨_, _, hj, l1, l2⟩ := f3 hf'
   have := level_le g1 hm' g3 hj
   rw [← hq] at this
   exact ⟨this.2, ⟨l1, l2⟩, this.1⟩
  ·
   obtain ⟨g1, g2, g3, g4⟩ := e3.1 hb'
   exact f4 g1 g2
end Go.Proofs.Ytojaeidabmfajaa.Pr.Pure

